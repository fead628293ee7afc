/- item.all by hand: a closure over the letters that are asked for, handed to slices.ContainsFunc. No condition. -/
import Derived.Test.YtnbcmmgkdpekjaaDoorWWords
import Derived.Test.YtnbcmmgkdpekjaaDoorWLast
import Derived.Test.YtnbcmmgkdpekjaaDoorWMore
import Derived.Test.YtnbcmmgkdpekjaaDoorHandStr
namespace Go.Proofs.YtnbcmmgkdpekjaaDoorX
open Go.RowKit Go.Proofs.YtnbcmmgkdpekjaaDoorW.PrintWords Go.Proofs.YtnbcmmgkdpekjaaDoorW.PrintLast Go.Proofs.YtnbcmmgkdpekjaaDoorW.PrintMore
set_option linter.unusedVariables false
def outB (a : ByteArray) (c : UInt8) : Bool := decide (Lib.indexByte a.data.toList c < 0)
theorem all1_calls (a : ByteArray) (p : Addr) (c : UInt8) (w : World) (hp : w.cell? p = some (.string a)) :
    Calls Tryd.prog 41 #[.int .u8 (c.toNat : Int), .pointer (some p)] w fun e w' => e = .returned (.bool (outB a c)) ∧ w' = w := by
  go_enter Tryd.func41, Tryd.ntmps41
  go_wp2_with (go_at_call 42; (with_reducible refine (Tryd.strings_IndexByte a (c.toNat : Int) _).mono ?_); rintro e w' ⟨rfl, rfl⟩)
  go_ret
  exact ⟨rfl, rfl⟩
/-- The search for a byte of which a function says so. -/
theorem bytes_IndexFunc (p : UInt8 → Bool) (g : Nat) (lb : Array Value) (eg : ∀ args w, (callFunc g args).run Tryd.prog w = .ok (.enter g args) w) (b n c : Nat) (l : List UInt8) (w : World) (hn : l.length = n) (hbig : n ≤ 9223372036854775807)
    (hp : ∀ (x : UInt8) (q : Nat), Calls Tryd.prog g (#[.int .u8 (x.toNat : Int)] ++ lb) (w.drewN q) fun e w' => e = .returned (.bool (p x)) ∧ w' = w.drewN q)
    (hc : ∀ j, (h : j < l.length) → w.cell? ⟨b, j, none⟩ = some (.int .u8 ((l[j]'h).toNat : Int))) :
    Calls Tryd.prog 49 #[.slice (some ⟨b, 0, none⟩) n c, .func (.func g) #[] lb] w fun e w' => (∃ r : Int, e = .returned (.int .i64 r) ∧ Aside0 (decide (0 ≤ r) = l.any p)) ∧ ∃ q, w' = w.drewN q := by
  go_enter Tryd.func49, Tryd.ntmps49
  go_wp2
  go_loopg [5, 8] n (fun gg _ s8 wr => ∃ kk q : Nat, kk ≤ n ∧ n - kk ≤ gg ∧ s8 = .int .i64 kk ∧ wr = w.drewN q ∧ Aside0 ((l.take kk).any p = false))
  case atStart => exact ⟨0, 0, Nat.zero_le _, by omega, rfl, rfl, ⟨by simp⟩⟩
  case round =>
    obtain ⟨kk, q, hkk, hg, rfl, rfl, A⟩ := hrel
    by_cases hlt : kk < n
    · have hltz : (kk : Int) < (n : Int) := by omega
      have hl : kk < l.length := by omega
      have hcell : w.cell? ⟨b, kk, none⟩ = some (.int .u8 ((l[kk]'hl).toNat : Int)) := hc kk hl
      clear hc
      have T : Aside0 (l.take (kk + 1) = l.take kk ++ [l[kk]'hl]) := ⟨by rw [List.take_add_one, List.getElem?_eq_getElem hl]; rfl⟩
      have D : Aside0 (l[kk]'hl ∈ l) := ⟨List.getElem_mem hl⟩
      generalize l[kk]'hl = y at hcell T D
      have hcall := hp y
      cases hq : p y with
      | true =>
        rw [hq] at hcall
        go_wp2_with (go_at_fn g; refine (hcall _).mono ?_; rintro e w' ⟨rfl, rfl⟩)
        go_ret
        exact ⟨⟨_, rfl, ⟨by rw [List.any_eq_true.2 ⟨y, D.out, hq⟩]; simp⟩⟩, _, rfl⟩
      | false =>
        rw [hq] at hcall
        go_wp2_with (go_at_fn g; refine (hcall _).mono ?_; rintro e w' ⟨rfl, rfl⟩)
        go_roundg (n - (kk + 1))
        case measure => omega
        case rel => exact ⟨kk + 1, q, by omega, by omega, by go_num, rfl, ⟨by rw [T.out, List.any_append, A.out]; simp [hq]⟩⟩
    · have hltz : ¬ (kk : Int) < (n : Int) := by omega
      have : kk = n := by omega
      subst this
      go_wp2
      go_ret
      exact ⟨⟨_, rfl, ⟨by have a := A.out; rw [List.take_of_length_le (by omega)] at a; rw [a]; rfl⟩⟩, q, rfl⟩
theorem bytes_ContainsFunc (p : UInt8 → Bool) (g : Nat) (lb : Array Value) (eg : ∀ args w, (callFunc g args).run Tryd.prog w = .ok (.enter g args) w) (b n c : Nat) (l : List UInt8) (w : World) (hn : l.length = n) (hbig : n ≤ 9223372036854775807)
    (hp : ∀ (x : UInt8) (q : Nat), Calls Tryd.prog g (#[.int .u8 (x.toNat : Int)] ++ lb) (w.drewN q) fun e w' => e = .returned (.bool (p x)) ∧ w' = w.drewN q)
    (hc : ∀ j, (h : j < l.length) → w.cell? ⟨b, j, none⟩ = some (.int .u8 ((l[j]'h).toNat : Int))) :
    Calls Tryd.prog 40 #[.slice (some ⟨b, 0, none⟩) n c, .func (.func g) #[] lb] w fun e w' => e = .returned (.bool (l.any p)) ∧ ∃ q, w' = w.drewN q := by
  go_enter Tryd.func40, Tryd.ntmps40
  go_wp2_with (go_at_call 49; (with_reducible refine (bytes_IndexFunc p g lb eg b n c l _ hn hbig hp hc).mono ?_); rintro e w' ⟨⟨r, rfl, hr⟩, q, rfl⟩)
  go_ret
  exact ⟨by rw [← hr.out]; rfl, q, rfl⟩
def item_all.f (a0 a1 : ByteArray) : Option Bool := if a0.size ≤ 9223372036854775807 then some (!(a0.data.toList.any (outB a1))) else none
theorem item_all.calls (a0 a1 : ByteArray) (r : Bool) (w : World) (h : item_all.f a0 a1 = some r) :
    Calls Tryd.prog 25 #[.string a0, .string a1] w fun e w' => e = .returned (.bool r) ∧ Below w.heap.size w w' := by
  unfold item_all.f at h
  by_cases hs : a0.size ≤ 9223372036854775807
  case neg => rw [if_neg hs] at h; cases h
  rw [if_pos hs] at h
  injection h with h
  have H := Aside0.mk h
  clear h
  have eg : ∀ args w, (callFunc 41 args).run Tryd.prog w = .ok (.enter 41 args) w := enters_of Tryd.func41 (by kernel_rfl) rfl
  have kb := fun W => print_bytes (P := Tryd.prog) 9 25 5 Tryd.underlying9 Tryd.underlying25 Tryd.underlying5 a0 W
  have hmf : ∀ (fn : Fn) (first cap : Array Value) (w : World), (Instr.makeFunc fn first cap).run Tryd.prog w = .ok (.func fn first cap) w := fun _ _ _ _ => rfl
  have HS := Aside0.mk hs
  have HC := Aside0.mk (show (Lib.bytesWorld (w.alloc (.cells #[.string a1] 9)) 5 a0).cell? ⟨w.heap.size, 0, none⟩ = some (.string a1) from (Lib.bytesWorld_old _ _ _ _ (by simp)).trans (by simp))
  have HJ := Aside0.mk (show ∀ j, (hj : j < a0.data.toList.length) → (Lib.bytesWorld (w.alloc (.cells #[.string a1] 9)) 5 a0).cell? ⟨w.heap.size + 1, j, none⟩ = some (.int .u8 ((a0.data.toList[j]'hj).toNat : Int)) from fun j hj => by
    have h1 := Lib.bytesWorld_cell (w.alloc (.cells #[.string a1] 9)) 5 a0 j (by rw [data_length] at hj; exact hj)
    rw [List.getD_eq_getElem?_getD, List.getElem?_eq_getElem hj] at h1
    simpa using h1)
  have HP := Aside0.mk (show ∀ (x : UInt8) (q : Nat), Calls Tryd.prog 41 (#[.int .u8 (x.toNat : Int)] ++ #[.pointer (some ⟨w.heap.size, 0, none⟩)]) ((Lib.bytesWorld (w.alloc (.cells #[.string a1] 9)) 5 a0).drewN q) fun e w' => e = .returned (.bool (outB a1 x)) ∧ w' = (Lib.bytesWorld (w.alloc (.cells #[.string a1] 9)) 5 a0).drewN q from fun x q => all1_calls a1 _ x _ HC.out)
  have HB := Aside0.mk (show Below w.heap.size w (Lib.bytesWorld (w.alloc (.cells #[.string a1] 9)) 5 a0) from bytes_below (below_alloc (Below.refl _ _) _) (below_size (below_alloc (Below.refl _ _) _)) _ _)
  go_enter Tryd.func25, Tryd.ntmps25
  go_wp2_with (go_at_call 40; (refine (bytes_ContainsFunc (outB a1) 41 _ eg _ a0.size _ a0.data.toList _ (data_length a0) HS.out HP.out HJ.out).mono ?_); rintro e w' ⟨rfl, q, rfl⟩)
  go_ret
  exact ⟨by rw [← H.out]; simp, pw_below_drewN HB.out q⟩
end Go.Proofs.YtnbcmmgkdpekjaaDoorX
