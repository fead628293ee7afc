/- slices.IndexFunc and slices.ContainsFunc of bytes, at whatever function value that answers as a plain function and writes nothing. -/
import Derived.Test.YtfklncdllfhgmaaDoorWWords
import Derived.Test.YtfklncdllfhgmaaDoorWLast
import Derived.Test.YtfklncdllfhgmaaDoorWMore
import Derived.Test.YtfklncdllfhgmaaDoorHandStr
import Derived.Shelf.Abstract
namespace Go.Proofs.YtfklncdllfhgmaaDoorX
open Go.RowKit Go.Proofs.YtfklncdllfhgmaaDoorW.PrintWords Go.Proofs.YtfklncdllfhgmaaDoorW.PrintLast Go.Proofs.YtfklncdllfhgmaaDoorW.PrintMore
set_option linter.unusedVariables false
theorem fn_IndexFunc (p : Int → Bool) (g : Nat) (lb : Array Value) (eg : ∀ args w, (callFunc g args).run Tryd.prog w = .ok (.enter g args) w) (A : Option Addr) (n c : Nat) (l : List Int) (w : World) (hr : Kd.C (Kd.int .u8) w A n l)
    (hp : ∀ x ∈ l, ∀ q : Nat, Calls Tryd.prog g (#[.int .u8 x] ++ lb) (w.drewN q) fun e w' => e = .returned (.bool (p x)) ∧ w' = w.drewN q) :
    Calls Tryd.prog 46 #[.slice A n c, .func (.func g) #[] lb] w fun e w' => (∃ r : Int, e = .returned (.int .i64 r) ∧ Aside0 (decide (0 ≤ r) = l.any p)) ∧ ∃ q, w' = w.drewN q := by
  have hn : l.length = n := hr.1
  have hbig : n ≤ 9223372036854775807 := hr.2.1
  have HR := Aside0.mk hr
  have HP := Aside0.mk hp
  clear hr hp
  go_enter Tryd.func46, Tryd.ntmps46
  go_wp2
  go_loopg [5, 8] n (fun gg _ s8 wr => ∃ kk q : Nat, kk ≤ n ∧ n - kk ≤ gg ∧ s8 = .int .i64 kk ∧ wr = w.drewN q ∧ Aside0 ((l.take kk).any p = false))
  case atStart => exact ⟨0, 0, Nat.zero_le _, by omega, rfl, rfl, ⟨by simp⟩⟩
  case round =>
    obtain ⟨kk, q, hkk, hg, rfl, rfl, AA⟩ := hrel
    by_cases hlt : kk < n
    · have hltz : (kk : Int) < (n : Int) := by omega
      have hl : kk < l.length := by omega
      obtain ⟨ad, e1, hcell⟩ := Kd.at_int HR.out (kk : Int) (by omega) (by omega)
      subst e1
      rw [Int.toNat_natCast] at hcell
      have hy0 : rd l (kk : Int) = l[kk]'hl := by unfold rd; rw [Int.toNat_natCast, List.getD_eq_getElem?_getD, List.getElem?_eq_getElem hl]; rfl
      rw [hy0] at hcell
      have T : Aside0 (l.take (kk + 1) = l.take kk ++ [l[kk]'hl]) := ⟨by rw [List.take_add_one, List.getElem?_eq_getElem hl]; rfl⟩
      have D : Aside0 (l[kk]'hl ∈ l) := ⟨List.getElem_mem hl⟩
      clear hy0
      generalize l[kk]'hl = y at hcell T D
      have hcall := HP.out y D.out
      cases hq : p y with
      | true =>
        rw [hq] at hcall
        go_wp2_with (go_at_fn g; refine (hcall _).mono ?_; rintro e w' ⟨rfl, rfl⟩)
        go_ret
        exact ⟨⟨_, rfl, ⟨by rw [List.any_eq_true.2 ⟨y, D.out, hq⟩]; simp⟩⟩, _, rfl⟩
      | false =>
        rw [hq] at hcall
        go_wp2_with (go_at_fn g; refine (hcall _).mono ?_; rintro e w' ⟨rfl, rfl⟩)
        go_roundg (n - (kk + 1))
        case measure => omega
        case rel => exact ⟨kk + 1, q, by omega, by omega, by go_num, rfl, ⟨by rw [T.out, List.any_append, AA.out]; simp [hq]⟩⟩
    · have hltz : ¬ (kk : Int) < (n : Int) := by omega
      have : kk = n := by omega
      subst this
      go_wp2
      go_ret
      exact ⟨⟨_, rfl, ⟨by have a := AA.out; rw [List.take_of_length_le (by omega)] at a; rw [a]; rfl⟩⟩, q, rfl⟩
theorem fn_ContainsFunc (p : Int → Bool) (g : Nat) (lb : Array Value) (eg : ∀ args w, (callFunc g args).run Tryd.prog w = .ok (.enter g args) w) (A : Option Addr) (n c : Nat) (l : List Int) (w : World) (hr : Kd.C (Kd.int .u8) w A n l)
    (hp : ∀ x ∈ l, ∀ q : Nat, Calls Tryd.prog g (#[.int .u8 x] ++ lb) (w.drewN q) fun e w' => e = .returned (.bool (p x)) ∧ w' = w.drewN q) :
    Calls Tryd.prog 38 #[.slice A n c, .func (.func g) #[] lb] w fun e w' => e = .returned (.bool (l.any p)) ∧ ∃ q, w' = w.drewN q := by
  go_enter Tryd.func38, Tryd.ntmps38
  go_wp2_with (go_at_call 46; (with_reducible refine (fn_IndexFunc p g lb eg A n c l _ hr hp).mono ?_); rintro e w' ⟨⟨r, rfl, hr⟩, q, rfl⟩)
  go_ret
  exact ⟨by rw [← hr.out]; rfl, q, rfl⟩
end Go.Proofs.YtfklncdllfhgmaaDoorX
