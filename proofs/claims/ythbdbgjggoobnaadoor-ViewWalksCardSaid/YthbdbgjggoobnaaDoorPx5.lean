/- Laid by a program of this session (wip/pr), after the printer of the kit: the functions that a statement reaches as plain Lean functions, and that the calls of the machine come to them. No condition. -/
import Derived.Lib.SliceRun
import Derived.Test.YthbdbgjggoobnaaDoorPx0
import Derived.Test.YthbdbgjggoobnaaDoorPx4
namespace Go.Proofs.YthbdbgjggoobnaaDoor.P
open Go.RowKit Go.Proofs.YthbdbgjggoobnaaDoorX Go.Proofs.YthbdbgjggoobnaaDoorW.PrintWords Go.Proofs.YthbdbgjggoobnaaDoorW.PrintLast Go.Proofs.YthbdbgjggoobnaaDoorW.PrintMore
attribute [local go_sem] max2_int min2_int max_two min_two
set_option linter.unusedVariables false
set_option linter.unusedSimpArgs false

/-! ### sum_Of: function 34 -/
mutual
def sum_Of.l0 : Nat → Int → List (List Int) → Int → Int → Option (Int)
 | 0, _, _, _, _ => none
 | k + 1, x3, x8, x9, x10 => if x10 < x9 then (if 0 ≤ x10 then (if x10 < (x8.length : Int) then (sum_Of.l1 k x3 x8 x9 x10 (rd_L6 x8 x10) ((rd_L6 x8 x10).length : Int) 0) else (none)) else (none)) else (some x3)
def sum_Of.l1 : Nat → Int → List (List Int) → Int → Int → List Int → Int → Int → Option (Int)
 | 0, _, _, _, _, _, _, _ => none
 | k + 1, x3, x8, x9, x10, x14, x15, x16 => if x16 < x15 then (if 0 ≤ x16 then (if x16 < (x14.length : Int) then ((sum_Next.f x3 (rd x14 x16)).bind fun t125 => (sum_Of.l1 k t125 x8 x9 x10 x14 x15 (wrap64 (x16 + 1)))) else (none)) else (none)) else (sum_Of.l0 k x3 x8 x9 (wrap64 (x10 + 1)))
end
def sum_Of.f (k : Nat) (l0 : List (List Int)) : Option (Int) := sum_Of.l0 k 14695981039346656037 l0 (l0.length : Int) 0
theorem sum_Of.mono_l : ∀ k, (∀ y0 y1 y2 y3, LeO (sum_Of.l0 k y0 y1 y2 y3) (sum_Of.l0 (k + 1) y0 y1 y2 y3)) ∧ (∀ y0 y1 y2 y3 y4 y5 y6, LeO (sum_Of.l1 k y0 y1 y2 y3 y4 y5 y6) (sum_Of.l1 (k + 1) y0 y1 y2 y3 y4 y5 y6))
 | 0 => ⟨fun _ _ _ _ r h => by simp [sum_Of.l0] at h, fun _ _ _ _ _ _ _ r h => by simp [sum_Of.l1] at h⟩
 | k + 1 => by
  obtain ⟨ih0, ih1⟩ := sum_Of.mono_l k; refine ⟨?_, ?_⟩
  ·intro y0 y1 y2 y3
   unfold sum_Of.l0
   repeat' with_reducible first | exact ih0 _ _ _ _ | exact ih1 _ _ _ _ _ _ _ | exact LeO.refl _ | exact LeO.none _ | refine LeO.ite ?_ ?_ | refine LeO.bind ?_ (fun _ => ?_)
  ·intro y0 y1 y2 y3 y4 y5 y6
   unfold sum_Of.l1
   repeat' with_reducible first | exact ih0 _ _ _ _ | exact ih1 _ _ _ _ _ _ _ | exact LeO.refl _ | exact LeO.none _ | refine LeO.ite ?_ ?_ | refine LeO.bind ?_ (fun _ => ?_)
theorem sum_Of.mono : ∀ a0 k, LeO (sum_Of.f k a0) (sum_Of.f (k + 1) a0) := by
 intro a0 k; obtain ⟨ih0, ih1⟩ := sum_Of.mono_l k; unfold sum_Of.f
 repeat' with_reducible first | exact ih0 _ _ _ _ | exact ih1 _ _ _ _ _ _ _ | exact LeO.refl _ | exact LeO.none _ | refine LeO.ite ?_ ?_ | refine LeO.bind ?_ (fun _ => ?_)
set_option maxHeartbeats 8000000 in
set_option maxRecDepth 100000 in
theorem sum_Of.calls (k : Nat) (A0 : Option Addr) (c0 : Nat) (l0 : List (List Int)) (r : Int) (w : World) (hr0 : Kd.C (Kd.slice 5 (Kd.int .u8)) w A0 l0.length l0) (hc0 : l0.length ≤ c0) (h : sum_Of.f k l0 = some r) :
  Calls Tryd.prog 34 #[.slice A0 l0.length c0] w fun e w' => e = .returned (.int .u64 r) ∧ Drawn0 w w' := by
 have HR0 := am hr0; have HC0 := am hc0; clear hr0 hc0; have H : (sum_Of.l0 k 14695981039346656037 l0 (l0.length : Int) 0) = some r := h; clear h; have H' := am H; clear H; go_enter Tryd.func34, Tryd.ntmps34; go_wp2
 go_loopg [3, 10] k (fun kq v3 v10 w' => ∃ (x3_1 : Int) (x10_1 : Int), v3 = .int .u64 x3_1 ∧ v10 = .int .i64 x10_1 ∧ Aside0 (sum_Of.l0 kq x3_1 l0 (l0.length : Int) x10_1 = some r) ∧ Aside0 (kq ≤ k) ∧ Drawn0 w w')
 case atStart => exact ⟨(14695981039346656037), (0), (by first | rfl | (simp; done) | (simp [*]; done)), (by first | rfl | (simp; done) | (simp [*]; done)), H', ⟨Nat.le_refl _⟩, dz⟩
 case round =>
  clear H'; obtain ⟨x3_1, x10_1, rfl, rfl, HA, HK1, ⟨m1, rfl⟩⟩ := hrel; cases gk with
  | zero => exact absurd HA.out (by simp [sum_Of.l0])
  | succ k1 =>
   have H := HA.out; clear HA; simp only [sum_Of.l0] at H
   by_cases c2 : x10_1 < (l0.length : Int)
   ·rw [if_pos c2] at H
    have c2b0 : decide (x10_1 < (l0.length : Int)) = true := decide_eq_true c2; clear c2; by_cases c3 : 0 ≤ x10_1
    ·rw [if_pos c3] at H
     have c3b0 : decide (0 ≤ x10_1) = true := decide_eq_true c3; clear c3; by_cases c4 : x10_1 < (l0.length : Int)
     ·rw [if_pos c4] at H
      have c4b0 : decide (x10_1 < (l0.length : Int)) = true := decide_eq_true c4; clear c4; have H' := am H; clear H; have p123 : 0 ≤ (x10_1 : Int) := of_decide_eq_true (by assumption); have q123 : x10_1 < (l0.length : Int) := of_decide_eq_true (by assumption); obtain ⟨ad123, A123_0, c123_0, e123, hx123_0, hl123_0, hi123_0⟩ := at_L6 HR0.out x10_1 p123 q123; cases e123; have HR123_0 := am hi123_0; have HC123_0 := am hl123_0; clear hi123_0 hl123_0; replace p123 := eq_true p123; replace q123 := eq_true q123; go_wp2
      go_loopg [3, 16] k1 (fun kq v3 v16 w' => ∃ (x3_2 : Int) (x16_2 : Int), v3 = .int .u64 x3_2 ∧ v16 = .int .i64 x16_2 ∧ Aside0 (sum_Of.l1 kq x3_2 l0 (l0.length : Int) x10_1 (rd_L6 l0 x10_1) ((rd_L6 l0 x10_1).length : Int) x16_2 = some r) ∧ Aside0 (kq ≤ k1) ∧ Drawn0 w w')
      case atStart => exact ⟨(x3_1), (0), (by first | rfl | (simp; done) | (simp [*]; done)), (by first | rfl | (simp; done) | (simp [*]; done)), H', ⟨Nat.le_refl _⟩, dz⟩
      case round =>
       clear H'; (try clear c1); (try clear p1); (try clear q1); (try clear hx1); (try clear c2); (try clear c2b0); (try clear p2); (try clear c3); (try clear c3b0); (try clear c4); (try clear c4b0); (try clear hx123_0); (try clear p123); (try clear q123); obtain ⟨x3_2, x16_2, rfl, rfl, HA, HK2, ⟨m2, rfl⟩⟩ := hrel; cases gk with
       | zero => exact absurd HA.out (by simp [sum_Of.l1])
       | succ k2 =>
        have H := HA.out; clear HA; simp only [sum_Of.l1] at H
        by_cases c5 : x16_2 < ((rd_L6 l0 x10_1).length : Int)
        ·rw [if_pos c5] at H
         have c5b0 : decide (x16_2 < ((rd_L6 l0 x10_1).length : Int)) = true := decide_eq_true c5; clear c5; by_cases c6 : 0 ≤ x16_2
         ·rw [if_pos c6] at H
          have c6b0 : decide (0 ≤ x16_2) = true := decide_eq_true c6; clear c6; by_cases c7 : x16_2 < ((rd_L6 l0 x10_1).length : Int)
          ·rw [if_pos c7] at H
           have c7b0 : decide (x16_2 < ((rd_L6 l0 x10_1).length : Int)) = true := decide_eq_true c7; clear c7; refine oR H ?_; clear H; intro t125 A8 H; have H' := am H; clear H; have p124 : 0 ≤ (x16_2 : Int) := of_decide_eq_true (by assumption); have q124 : x16_2 < ((rd_L6 l0 x10_1).length : Int) := of_decide_eq_true (by assumption); obtain ⟨ad124, e124, hx124_0⟩ := Kd.at_int HR123_0.out x16_2 p124 q124; cases e124; replace p124 := eq_true p124; replace q124 := eq_true q124; go_wp2_with (first | ((with_reducible refine gate_callee (f := 53) rfl ?_); refine gL (some 22) Tryd.func53 #[.int .u64 x3_2, .int .u8 (rd (rd_L6 l0 x10_1) x16_2)] ?_; (with_reducible refine (sum_Next.calls x3_2 (rd (rd_L6 l0 x10_1) x16_2) t125 _ A8.out).mono ?_); rintro e w' ⟨rfl, ⟨nd, rfl⟩⟩; refine ⟨_, rfl, ?_⟩))
           go_roundg k2
           case measure => have := HK1.out; have := HK2.out; omega
           case rel => exact ⟨(t125), (wrap64 (x16_2 + 1)), (by first | rfl | (simp; done) | (simp [*]; done)), (by first | rfl | (simp; done) | (simp [*]; done)), H', ⟨by have := HK1.out; have := HK2.out; omega⟩, dz⟩
          ·rw [if_neg c7] at H
           exact absurd H (by simp)
         ·rw [if_neg c6] at H
          exact absurd H (by simp)
        ·rw [if_neg c5] at H
         have c5b0 : decide (x16_2 < ((rd_L6 l0 x10_1).length : Int)) = false := decide_eq_false c5; clear c5; have H' := am H; clear H; go_wp2
         go_roundg k2
         case measure => have := HK1.out; have := HK2.out; omega
         case rel => exact ⟨(x3_2), (wrap64 (x10_1 + 1)), (by first | rfl | (simp; done) | (simp [*]; done)), (by first | rfl | (simp; done) | (simp [*]; done)), H', ⟨by have := HK1.out; have := HK2.out; omega⟩, dz⟩
     ·rw [if_neg c4] at H
      exact absurd H (by simp)
    ·rw [if_neg c3] at H
     exact absurd H (by simp)
   ·rw [if_neg c2] at H
    have c2b0 : decide (x10_1 < (l0.length : Int)) = false := decide_eq_false c2; clear c2; obtain rfl := Option.some.inj H; go_wp2
    go_ret; exact ⟨by first | rfl | (simp; done) | (simp [*]; done), dz⟩

/-- Rows of bytes that lie somewhere: the cells that lead to them, as a world has them. -/
def lentK (w0 : World) : Kd (List Int) where
 sz := 1
 E := []
 K := fun _ xs cs => ∃ A c, cs = [.slice A xs.length c] ∧ xs.length ≤ c ∧ Kd.C (Kd.int .u8) w0 A xs.length xs
 M := fun _ _ _ xs cs => ∃ A c, cs = [.slice A xs.length c] ∧ xs.length ≤ c ∧ Kd.C (Kd.int .u8) w0 A xs.length xs
 K_len := by
  rintro w x cs ⟨A, c, rfl, _⟩; rfl
 K_one := by
  rintro w x cs ⟨A, c, rfl, _⟩ u hu; rw [List.mem_singleton.1 hu]; rfl
 K_below := fun _ h => h
 K_of_M := fun h => h
 M_mono := fun _ h => h
 M_bound := fun h => h
 M_move := fun _ h => h
 M_lower := fun _ h => h
theorem lent_back {w0 w : World} {A : Option Addr} {n : Nat} {xs : List (List Int)} (h : Kd.C (lentK w0) w A n xs) (hb : Below w0.heap.size w0 w) : Kd.C (Kd.slice 5 (Kd.int .u8)) w A n xs := by
 obtain ⟨h1, h2, h3⟩ := h; refine ⟨h1, h2, fun h0 => ?_⟩
 obtain ⟨ad, e, hc⟩ := h3 h0; refine ⟨ad, e, fun j q hq => ?_⟩
 obtain ⟨cs, hl, ⟨A1, c1, hcs, hc1, hr1⟩, hcell⟩ := hc j q hq; exact ⟨cs, hl, ⟨A1, c1, hcs, hc1, Kd.C_below hr1 hb⟩, hcell⟩
theorem lent_one {w0 w : World} {base : Nat} {okp : Nat → Prop} {A : Option Addr} {c : Nat} {xs : List Int} (h : Kd.C (Kd.int .u8) w0 A xs.length xs) (hc : xs.length ≤ c) : Reps ((lentK w0).M w base okp) 1 [xs] [.slice A xs.length c] := by
 refine ⟨rfl, fun j p hp => ?_⟩
 match j with
 | 0 =>
  obtain rfl : xs = p := by simpa using hp
  exact ⟨A, c, rfl, hc, h⟩
 | j + 1 => simp at hp
/-- A text's bytes: a row that is read. -/
theorem text_bytes {P : Program} {ops : Array Oper} {rest : List Oper} {o : Oper} {a : Act} {Q : Exit → Act → World → Prop} {W : World} {src dst e : TypeId} {u : TypeDesc} (hgd : o.guard = none) (x : Operand) (hop : o.op = .convert src dst x) {s : ByteArray} (hx : a.eval x = .string s)
  (hs : P.underlying src = some u) (hd : P.underlying dst = some (.slice e)) (he : P.underlying e = some (.int .u8)) (hl : s.size ≤ 9223372036854775807)
  (h : ∀ g c w1, Kd.C (Kd.int .u8) w1 (some ⟨g, 0, none⟩) (bytesOf s).length (bytesOf s) → (bytesOf s).length ≤ c → Below W.heap.size W w1 → wpList P ops Q rest (a.put o.dst (.slice (some ⟨g, 0, none⟩) (bytesOf s).length c)) w1) : wpList P ops Q (o :: rest) a W := by
 have h1 : (execOp a.eval o).run P W = .ok (.value (.slice (some ⟨W.heap.size, 0, none⟩) (bytesOf s).length (grownCap W s.size 0 e))) (Lib.bytesWorld W e s) := by
  have h2 := print_bytes src dst e hs hd he s W; rw [bytesOf_length]; unfold execOp
  simp [hop, hx, h2, Result.andThen]
 refine Kd.event_run hgd h1 (h _ _ _ ?_ (by rw [bytesOf_length]; exact grownCap_ge W s.size 0 e) (bytes_below (Below.refl _ _) (Nat.le_refl _) e s))
 have h3 := bytes_reads W e s hl
 obtain ⟨h4, h5, h6⟩ := h3; rw [bytesOf_length]; refine ⟨h4, h5, fun h0 => ?_⟩
 obtain ⟨ad, hA, hc⟩ := h6 h0; refine ⟨ad, hA, fun j p hj => ?_⟩
 have hjl := (List.getElem?_eq_some_iff.1 hj).1; rw [bytesOf_length] at hjl; refine ⟨[.int .u8 p], rfl, rfl, fun i v hi => ?_⟩
 match i with
 | 0 =>
  obtain rfl : Value.int .u8 p = v := by simpa using hi
  have := hc j hjl; rw [show j * (Kd.int .u8).sz + 0 = j from by show j * 1 + 0 = j; omega, this]; rw [List.getD_eq_getElem?_getD, hj]; rfl
 | i + 1 => simp at hi
/-- The sum of a text's bytes. -/
def sum_Text.f (k : Nat) (s : ByteArray) : Option Int := if s.size ≤ 9223372036854775807 then sum_Of.f k [bytesOf s] else none
theorem sum_Text.mono : ∀ s k, LeO (sum_Text.f k s) (sum_Text.f (k + 1) s) := by
 intro s k; unfold sum_Text.f
 by_cases h : s.size ≤ 9223372036854775807
 ·rw [if_pos h, if_pos h]; exact sum_Of.mono _ k
 ·rw [if_neg h, if_neg h]; exact LeO.refl _
theorem sum_Text.lim {k : Nat} {s : ByteArray} {r : Int} (h : sum_Text.f k s = some r) : s.size ≤ 9223372036854775807 := by
 unfold sum_Text.f at h
 by_cases hl : s.size ≤ 9223372036854775807
 ·exact hl
 ·rw [if_neg hl] at h; cases h
theorem sum_Text.calls (k : Nat) {w0 w1 : World} {e b : Nat} {ok : Nat → Prop} {v : Value} {s : ByteArray} (_hw : Kd.R (lentK w0) e w1 b ok v [bytesOf s]) (A : Option Addr) (c : Nat) (r : Int) (w : World) (hB : Below w0.heap.size w0 w) (hr0 : Kd.C (lentK w0) w A [bytesOf s].length [bytesOf s]) (hc0 : [bytesOf s].length ≤ c) (h : sum_Text.f k s = some r) :
  Calls Tryd.prog 34 #[.slice A [bytesOf s].length c] w fun e w' => e = .returned (.int .u64 r) ∧ Drawn0 w w' := by
 have hl := sum_Text.lim h; unfold sum_Text.f at h
 rw [if_pos hl] at h; exact sum_Of.calls k A c [bytesOf s] r w (lent_back hr0 hB) hc0 h

/-! ### slices_Clone_string_string: function 50 -/
def slices_Clone_string_string.f (l0 : List ByteArray) : Option (List ByteArray) := (some (([] : List ByteArray) : List ByteArray)).bind fun y126 => (if y126.length + l0.length < 8796093022208 then (some (y126 ++ l0)) else (none))
set_option maxHeartbeats 8000000 in
set_option maxRecDepth 100000 in
theorem slices_Clone_string_string.calls (A0 : Option Addr) (c0 : Nat) (l0 : List ByteArray) (r : List ByteArray) (w : World) (hr0 : Kd.C Kd.string w A0 l0.length l0) (hc0 : l0.length ≤ c0) (h : slices_Clone_string_string.f l0 = some r) :
  Calls Tryd.prog 50 #[.slice A0 l0.length c0] w fun e w' => ∃ v0_ : Value, e = .returned (v0_) ∧ Kd.R Kd.string 9 w' w.heap.size (fun _ => True) v0_ r ∧ Below w.heap.size w w' := by
 rcases A0 with _ | a0x
 ·have hl_ : l0 = [] := List.eq_nil_of_length_eq_zero (by
   rcases Nat.eq_zero_or_pos l0.length with h_ | h_
   ·exact h_
   ·obtain ⟨ad_, e_, _⟩ := hr0.2.2 h_
    cases e_)
  subst hl_; have hnl : ∀ (W : World) (n c : Nat), (binOp .eql 42 (.slice none n c) (.slice none 0 0)).run Tryd.prog W = .ok (.bool true) W := fun W n c => Lib.run_eql_slice_nil W _ _ none n c 0 0 Tryd.underlying42
  obtain rfl : r = [] := by
   unfold slices_Clone_string_string.f at h
   simpa using h.symm
  go_enter Tryd.func50, Tryd.ntmps50; go_wp2
  go_ret; exact ⟨_, rfl, Kd.R_nil _ _ _ _ _, Below.refl _ _⟩
 have hnl : ∀ (W : World) (n c : Nat), (binOp .eql 42 (.slice (some a0x) n c) (.slice none 0 0)).run Tryd.prog W = .ok (.bool false) W := fun W n c => Lib.run_eql_slice_nil W _ _ (some a0x) n c 0 0 Tryd.underlying42
 have HR0 := am hr0; have HC0 := am hc0; clear hr0 hc0; have HB := am (Below.refl w.heap.size w); have H : ((some (([] : List ByteArray) : List ByteArray)).bind fun y126 => (if y126.length + l0.length < 8796093022208 then (some (y126 ++ l0)) else (none))) = some r := h; clear h; refine bL H ?_; clear H; intro y126 hy126 H
 have Ny126 := am hy126; clear hy126; by_cases c2 : y126.length + l0.length < 8796093022208
 ·rw [if_pos c2] at H
  have LMc2 := am c2; clear c2; obtain ⟨y129, hy129⟩ : ∃ y_ : List ByteArray, y_ = (y126 ++ l0) := ⟨_, rfl⟩; try rw [← hy129] at H
  have Ny129 := am hy129; clear hy129; obtain rfl := Option.some.inj H; go_enter Tryd.func50, Tryd.ntmps50; go_wp2_with (first | ((with_reducible refine gate_dst (N := 5) rfl ?_); refine Kd.R_lit Kd.string _ 9 ?hg (N := 5) ?hd (xs := ([] : List ByteArray)) (inner := []) (ok := fun _ => True) (okp := fun _ => True) ?hr ?hp (fun _ hk => hk) trivial (Below.refl _ _) (Nat.le_refl _) (by simp) ?_; (case hd => rfl); (case hg => rfl); (case hr => first | (go_simp; done) | (go_simp; rfl)); (case hp => exact (Reps.none _ _)); intro v127 w3 ho4 hb hg_ hnew_; clear hg_ hnew_; (first | rw [← Ny126.out] at ho4 | (simp only [Int.reduceToNat] at ho4; rw [← Ny126.out] at ho4)); have HO128 := am (Kd.R_lower ho4 siz); replace HB := bs hb; clear hb ho4) | ((with_reducible refine gate_builtin (b := .append) (xs := #[.tmp 5, .tmp 6]) rfl ?_); at_builtin; refine Kd.R_append_rows Kd.string (w0 := w) w.heap.size rfl (.tmp 5) (.tmp 6) 42 9 (.string ⟨#[]⟩) 16 rfl Tryd.underlying42 info9 rfl (by decide) (by omega) v127 y126 l0 _ _ _ (fun _ => True) (fun _ => False) rfl rfl ?aO ?aR (fun _ _ h => h) (fun _ h => h.elim) ?aF ?aB ?aS ?aL ?_; (case aR => exact cz (Kd.C_below HR0.out HB.out)); (case aB => exact bz); (case aF => exact (fun _ _ => trivial)); (case aO => exact (rz HO128.out)); (case aS => exact siz); (case aL => have := LMc2.out; omega); intro v130 w5 ho hb hg hat; rw [← Ny129.out] at ho; have n0_ := am (hb); have n1_ := am (ho); clear HB; clear HO128; have HB := n0_; have HO131 := n1_; clear n0_ n1_; clear ho hb hg hat))
  go_ret; exact ⟨_, by first | rfl | (simp [eN, eS] <;> rfl) | (simp [*, eN, eS] <;> rfl), by (with_reducible repeat (first | apply rA | apply rN | apply rD)); exact HO131.out, bz⟩
 ·rw [if_neg c2] at H
  exact absurd H (by simp)

/-- The blocks of a table at g, by what stands there: its own, its map's, its row's. -/
def TabAt (W : World) (g k : Nat) : Prop := k = g ∨ ∃ v m, W.heap[g]? = some (.cells #[v, .map (some m)] 104 (0, 0)) ∧ (k = m ∨ v.ownBlock = some k)
/-- A table at block g of W: its row of texts, and a map that tells of each its place. -/
def IsS104 (w0 W : World) (g : Nat) (f0 : List ByteArray) (f1 : Bool) : Prop := ∃ v m, W.heap[g]? = some (.cells #[v, .map (some m)] 104 (0, 0)) ∧ w0.heap.size ≤ g ∧ w0.heap.size ≤ m ∧ Kd.string.R 9 W w0.heap.size (fun _ => True) v f0 ∧ MapL Tryd.prog 9 3 W m 0 f0 ∧ f0.length ≤ 4000
/-- A row of texts stays where its block does. -/
theorem strs_move {e : Nat} {w w1 : World} {base : Nat} {ok : Nat → Prop} {v : Value} {xs : List ByteArray} (h : Kd.string.R e w base ok v xs) (hm : ∀ k, v.ownBlock = some k → w1.heap[k]? = w.heap[k]?) : Kd.string.R e w1 base ok v xs := by
 obtain ⟨h0, inner, ho, hr⟩ := h; exact ⟨h0, inner, own_move ho hm, hr⟩
section
variable {w0 W W1 : World} {g : Nat} {f0 : List ByteArray} {f1 : Bool}
theorem IsS104.step (h : IsS104 w0 W g f0 f1) (hm : ∀ k, k < W.heap.size → TabAt W g k → W1.heap[k]? = W.heap[k]?) : IsS104 w0 W1 g f0 f1 := by
 obtain ⟨v, m, hb, hg, hm0, hr, hl, hn⟩ := h; have h1 : ∀ k, v.ownBlock = some k → W1.heap[k]? = W.heap[k]? := fun k hk => by
  obtain ⟨cs, hc⟩ := Kd.R_typed hr k hk; exact hm k (blk_lt hc) (.inr ⟨v, m, hb, .inr hk⟩)
 exact ⟨v, m, (hm g (blk_lt hb) (.inl rfl)).trans hb, hg, hm0, strs_move hr h1, hl.same (hm m hl.lt (.inr ⟨v, m, hb, .inl rfl⟩)), hn⟩
theorem IsS104.below (h : IsS104 w0 W g f0 f1) (hw : Below W.heap.size W W1) : IsS104 w0 W1 g f0 f1 := h.step (fun k hk _ => hw.block k hk)
theorem IsS104.grown {row : Option Nat} (h : IsS104 w0 W g f0 f1) (hw : W.grownBy W1 row) (hne : ∀ k, TabAt W g k → some k ≠ row) : IsS104 w0 W1 g f0 f1 := h.step (fun k hk ht => hw.block k hk (hne k ht))
theorem IsS104.kept {S : Nat → Prop} (h : IsS104 w0 W g f0 f1) (hk : Kept W W1 S) (hne : ∀ k, TabAt W g k → ¬ S k) : IsS104 w0 W1 g f0 f1 := h.step (fun k hlt ht => hk.2 k hlt (hne k ht))
theorem IsS104.alloc (h : IsS104 w0 W g f0 f1) (o : Obj) : IsS104 w0 (W.alloc o) g f0 f1 := h.below (bA (Below.refl _ _) o)
theorem IsS104.drewN (h : IsS104 w0 W g f0 f1) (m : Nat) : IsS104 w0 (W.drewN m) g f0 f1 := h.step (fun _ _ _ => rfl)
theorem IsS104.drew (h : IsS104 w0 W g f0 f1) : IsS104 w0 W.drew g f0 f1 := h.step (fun _ _ _ => rfl)
theorem IsS104.at_ {m : Nat} (hq : W.drewN m = W1) (h : IsS104 w0 W g f0 f1) : IsS104 w0 W1 g f0 f1 := by subst hq; exact IsS104.drewN h m
theorem IsS104.lt (h : IsS104 w0 W g f0 f1) : g < W.heap.size := by
 obtain ⟨v, m, hb, _⟩ := h; exact blk_lt hb
theorem IsS104.ge (h : IsS104 w0 W g f0 f1) : w0.heap.size ≤ g := by
 obtain ⟨v, m, hb, hg, _⟩ := h; exact hg
theorem IsS104.fresh (h : IsS104 w0 W g f0 f1) : ∀ k, W.heap.size ≤ k → k ≠ g := fun k hk e => by have := h.lt; omega
theorem IsS104.lower {w00 : World} (h : IsS104 w0 W g f0 f1) (hs : w00.heap.size ≤ w0.heap.size) : IsS104 w00 W g f0 f1 := by
 obtain ⟨v, m, hb, hg, hm0, hr, hl, hn⟩ := h; exact ⟨v, m, hb, Nat.le_trans hs hg, Nat.le_trans hs hm0, Kd.R_lower hr hs, hl, hn⟩
/-- The table's blocks are its own, of the table's and texts' types, and a map. -/
theorem IsS104.typed (h : IsS104 w0 W g f0 f1) (k : Nat) (ht : TabAt W g k) : (w0.heap.size ≤ k ∧ k < W.heap.size) ∧ ∀ cs q fr, W.heap[k]? = some (.cells cs q fr) → q = 104 ∨ q = 9 := by
 obtain ⟨v, m, hb, hg, hm0, hr, hl, hn⟩ := h; rcases ht with rfl | ⟨v', m', hb', ht⟩
 ·refine ⟨⟨hg, blk_lt hb⟩, fun cs q fr hc => .inl ?_⟩
  rw [hb] at hc; injection hc with hc; injection hc with _ hc; exact hc.symm
 ·rw [hb] at hb'
  injection hb' with hb'; injection hb' with hb'; have e2 : #[v, Value.map (some m)].toList = #[v', Value.map (some m')].toList := congrArg _ hb'; simp only [List.cons.injEq, and_true] at e2
  obtain ⟨rfl, e3⟩ := e2; injection e3 with e3; injection e3 with e3; subst e3; rcases ht with rfl | ht
  ·refine ⟨⟨hm0, hl.lt⟩, fun cs q fr hc => ?_⟩
   obtain ⟨D, _, ⟨es, clock, he, _⟩, _⟩ := hl; rw [he] at hc; cases hc
  ·obtain ⟨cs', hc'⟩ := Kd.R_typed hr k ht
   refine ⟨⟨Kd.R_base hr k ht, blk_lt hc'⟩, fun cs q fr hc => .inr ?_⟩
   rw [hc'] at hc; injection hc with hc; injection hc with _ hc; exact hc.symm
section
variable {α : Type} {d : Kd α} {e : Nat} {base : Nat} {ok : Nat → Prop} {v : Value} {xs : List α}
theorem IsS104.apartT (h : IsS104 w0 W g f0 f1) (ho : d.R e W base ok v xs) (ht : ∀ q, q ∈ e :: d.E → q ≠ 104 ∧ q ≠ 9) : d.R e W base (fun k => ok k ∧ ¬ TabAt W g k) v xs :=
 Kd.R_mono (Kd.R_bound ho) (fun k hk => ⟨hk.1, fun h2 => by
  obtain ⟨_, _, _, q, hq, cells', hc⟩ := hk; have h3 := ht q hq; rcases (h.typed k h2).2 _ _ _ hc with h4 | h4
  ·exact h3.1 h4
  ·exact h3.2 h4⟩)
theorem IsS104.own_neT (h : IsS104 w0 W g f0 f1) (ho : d.R e W base ok v xs) (ht : e ≠ 104 ∧ e ≠ 9) : ∀ k, TabAt W g k → some k ≠ v.ownBlock := fun k h2 h3 => by
 obtain ⟨cs, hc⟩ := Kd.R_typed ho k h3.symm; rcases (h.typed k h2).2 _ _ _ hc with h4 | h4
 ·exact ht.1 h4
 ·exact ht.2 h4
theorem IsS104.own_ne (h : IsS104 w0 W g f0 f1) (ho : d.R e W base ok v xs) (ht : e ≠ 104) : some g ≠ v.ownBlock := by
 obtain ⟨v, m, hb, _⟩ := h; exact Kd.R_ne ho hb ht
theorem IsS104.apartS (h : IsS104 w0 W g f0 f1) (ho : d.S e W base ok v xs) (ht : ∀ q, q ∈ e :: d.E → q ≠ 104) : d.S e W base (fun k => ok k ∧ k ≠ g) v xs := by
 obtain ⟨v, m, hb, _⟩ := h; exact Kd.S_types ho hb ht
theorem IsS104.apartTS (h : IsS104 w0 W g f0 f1) (ho : d.S e W base ok v xs) (ht : ∀ q, q ∈ e :: d.E → q ≠ 104 ∧ q ≠ 9) : d.S e W base (fun k => ok k ∧ ¬ TabAt W g k) v xs :=
 Kd.S_mono (Kd.S_bound ho) (fun k hk => ⟨hk.1, fun h2 => by
  obtain ⟨_, _, _, q, hq, cells', hc⟩ := hk; have h3 := ht q hq; rcases (h.typed k h2).2 _ _ _ hc with h4 | h4
  ·exact h3.1 h4
  ·exact h3.2 h4⟩)
theorem S_oldT {S : Nat → Prop} {w1 : World} (hu : d.S e W base (fun k => ok k ∧ ¬ S k) v xs) (hk : Kept W w1 S) : d.S e w1 base (fun k => ok k ∧ k < W.heap.size) v xs :=
 Kd.S_mono (Kd.S_kept (Kd.S_bound hu) hk (fun _ h => h.1.2)) (fun _ h => ⟨h.1.1, h.2.2.1⟩)
theorem IsS104.own_neTS (h : IsS104 w0 W g f0 f1) (ho : d.S e W base ok v xs) (ht : e ≠ 104 ∧ e ≠ 9) : ∀ k, TabAt W g k → some k ≠ v.ownBlock := fun k h2 h3 => by
 obtain ⟨cs, hc⟩ := Kd.S_typed ho k h3.symm; rcases (h.typed k h2).2 _ _ _ hc with h4 | h4
 ·exact ht.1 h4
 ·exact ht.2 h4
theorem IsS104.own_neS (h : IsS104 w0 W g f0 f1) (ho : d.S e W base ok v xs) (ht : e ≠ 104) : some g ≠ v.ownBlock := by
 obtain ⟨v, m, hb, _⟩ := h; exact Kd.R_ne (Kd.S_R ho) hb ht
/-- An elder row over a call of the table's. -/
theorem R_oldT {S : Nat → Prop} {w1 : World} (hu : d.R e W base (fun k => ok k ∧ ¬ S k) v xs) (hk : Kept W w1 S) : d.R e w1 base (fun k => ok k ∧ k < W.heap.size) v xs :=
 Kd.R_mono (Kd.R_kept (Kd.R_bound hu) hk (fun _ h => h.1.2)) (fun _ h => ⟨h.1.1, h.2.2.1⟩)
end
end
/-- A map's block is none of a row's. -/
theorem MapL.ne_row {P : Program} {k e e' m off : Nat} {l : List ByteArray} {w : World} {α : Type} {d : Kd α} {base : Nat} {ok : Nat → Prop} {v : Value} {xs : List α} (h : MapL P k e w m off l) (ho : d.R e' w base ok v xs) : some m ≠ v.ownBlock := fun h2 => by
 obtain ⟨cs, hc⟩ := Kd.R_typed ho m h2.symm; obtain ⟨D, _, ⟨es, clock, hb, _⟩, _⟩ := h; rw [hb] at hc; cases hc
/-- A row over an update of a map. -/
theorem R_mapped {P : Program} {k e e' m off : Nat} {l : List ByteArray} {w w1 : World} {α : Type} {d : Kd α} {base : Nat} {ok : Nat → Prop} {v : Value} {xs : List α} (h : d.R e' w base ok v xs) (hm : MapL P k e w m off l) (hg : w.grownBy w1 (some m)) : d.R e' w1 base ok v xs :=
 Kd.R_mono (Kd.R_grown (Kd.R_bound h) hg (fun k hk he => by
  obtain ⟨_, _, _, q, _, cells, hc⟩ := hk; injection he with he; subst he; obtain ⟨D, _, ⟨es, clock, hb, _⟩, _⟩ := hm; rw [hb] at hc; cases hc)) (fun _ hk => hk.1)
/-- An update of a map, in a region that draws. -/
theorem upd_ {P : Program} {ops : Array Oper} {Q : Exit → Act → World → Prop} {oi : Oper} {N : Option Tmp} {a : Act} {w : World} {K : Act → World → Prop} (m x v : Operand) (t k e : TypeId) (hw : Region.wanted oi (yielded ops a.tmps) = true) (hN : oi.dst = N) (hop : oi.op = .mapUpdate t m x v)
  (hk : P.underlying k = some .string) (ht : P.underlying t = some (.map k e)) (he : P.underlying e = some (.int .i64)) {b n : Nat} {D : DataW Unit} {p : ByteArray} {c : Int} (hm : a.eval m = .map (some b)) (hx : a.eval x = .string p) (hv : a.eval v = .int .i64 c)
  (hown : w.ownsMap P k (plainElem P e) b n D) (hn : n < maxLen) (hp : p.size ≤ maxLen) (hc : (Lit.int .i64 c).wf = true)
  (h : ∀ w', w'.ownsMap P k (plainElem P e) b (n + 1) (D.put (.string p.data.toList) (.lit (.int .i64 c))) → w.grownBy w' (some b) → K (a.put N undef) w') : if Region.wanted oi (yielded ops a.tmps) = true then Oper.wp P oi a w K Q else K (a.put N undef) w := by
 rw [if_pos hw]; subst hN; obtain ⟨w', hrun, r1, r2⟩ := hown.update (Maps.string_keyed hk) ht hn (WideMaps.keyOf_string_mk hk hp) (plainElem_int he hc); unfold Oper.wp
 simp [execOp, hop, hm, hx, hv, hrun, Result.andThen]
 exact h _ r1 r2
theorem MapL.ne_cells {P : Program} {k e m off g t : Nat} {fr : Nat × Nat} {cs : Array Value} {l : List ByteArray} {w : World} (h : MapL P k e w m off l) (hb : w.heap[g]? = some (.cells cs t fr)) : m ≠ g := by
 rintro rfl; obtain ⟨D, _, ⟨es, clock, he, _⟩, _⟩ := h; rw [he] at hb; cases hb
theorem wf_small {c : Int} (h0 : 0 ≤ c) (h1 : c ≤ 1000000000) : (Lit.int .i64 c).wf = true := by
 simp [Lit.wf, IntKind.min, IntKind.max, IntKind.bits, IntKind.signed]
 omega
theorem IsS104.apart {w0 W : World} {g : Nat} {f0 : List ByteArray} {f1 : Bool} {α : Type} {d : Kd α} {e : Nat} {base : Nat} {ok : Nat → Prop} {v : Value} {xs : List α} (h : IsS104 w0 W g f0 f1) (ho : d.R e W base ok v xs) (ht : ∀ q, q ∈ e :: d.E → q ≠ 104) : d.R e W base (fun k => ok k ∧ k ≠ g) v xs := by
 obtain ⟨v, m, hb, _⟩ := h; exact Kd.R_types ho hb ht
/-- A table, opened. -/
theorem IsS104.open_ {w0 W : World} {g : Nat} {f0 : List ByteArray} {f1 : Bool} (h : IsS104 w0 W g f0 f1) : ∃ A0 c0 m, W.heap[g]? = some (.cells #[.slice A0 f0.length c0, .map (some m)] 104 (0, 0)) ∧ w0.heap.size ≤ g ∧ Kd.C Kd.string W A0 f0.length f0 ∧ f0.length ≤ c0 := by
 obtain ⟨v, m, hb, hg, hm0, hr, hl, hn⟩ := h; obtain ⟨A, c, rfl, h1, h2⟩ := Kd.R_reads hr; exact ⟨A, c, m, hb, hg, h2, h1⟩
theorem cellS104_0 {W : World} {g : Nat} {A0 : Option Addr} {c0 m : Nat} {f0 : List ByteArray} (h : W.heap[g]? = some (.cells #[.slice A0 f0.length c0, .map (some m)] 104 (0, 0))) : W.cell? ⟨g, 0, none⟩ = some (.slice A0 f0.length c0) := (blk_cell h 0).trans rfl
theorem cellS104_1 {W : World} {g : Nat} {A0 : Option Addr} {c0 m : Nat} {f0 : List ByteArray} (h : W.heap[g]? = some (.cells #[.slice A0 f0.length c0, .map (some m)] 104 (0, 0))) : W.cell? ⟨g, 1, none⟩ = some (.map (some m)) := (blk_cell h 1).trans rfl

/-- All blocks, copied. -/
def blocks_Table_All.f (s0_0 : List ByteArray) (s0_1 : Bool) : Option (List ByteArray × List ByteArray × Bool) := (slices_Clone_string_string.f s0_0).bind fun t => some (t, s0_0, s0_1)
set_option maxHeartbeats 1000000 in
theorem blocks_Table_All.calls2 (g : Nat) (s0_0 : List ByteArray) (s0_1 : Bool) (r1 : List ByteArray) (r2 : List ByteArray) (r3 : Bool) (w0 w : World) (hI : IsS104 w0 w g s0_0 s0_1) (hB : Below w0.heap.size w0 w) (h : blocks_Table_All.f s0_0 s0_1 = some (r1, r2, r3)) :
  Calls Tryd.prog 32 #[.pointer (some ⟨g, 0, none⟩)] w fun e w' => ∃ v0_ : Value, e = .returned (v0_) ∧ Kd.R Kd.string 9 w' w.heap.size (fun _ => True) v0_ r1 ∧ IsS104 w0 w' g r2 r3 ∧ Below w0.heap.size w0 w' ∧ KeepBut w w' g none ∧ Below w.heap.size w w' := by
 have HI := am hI; obtain ⟨B0_, c0, m, hb, hg, hr, hc⟩ := IsS104.open_ hI; have HR := am hr; have HC := am hc; have HB0 := am hB; clear hB hr hc hg; have hc0 := cellS104_0 hb; have HB := am (Below.refl w.heap.size w); clear hb hI; obtain ⟨t, ht, h⟩ := oB h; simp only [Option.some.injEq, Prod.mk.injEq] at h
 obtain ⟨rfl, rfl, rfl⟩ := h; have HA := am ht; clear ht; go_enter Tryd.func32, Tryd.ntmps32; go_wp2_with (first | ((with_reducible refine gate_callee (f := 50) rfl ?_); refine gL (some 9) Tryd.func50 #[.slice B0_ s0_0.length c0] ?_; (with_reducible refine (slices_Clone_string_string.calls B0_ c0 s0_0 t _ HR.out HC.out HA.out).mono ?_); rintro e w4 ⟨v108, rfl, hc, hb⟩; refine ⟨_, rfl, ?_⟩; have HV := am hc; have HB4 := am hb; clear hc hb))
 go_ret; exact ⟨_, rfl, HV.out, IsS104.below HI.out HB4.out, HB0.out.trans (HB4.out.mono (below_size HB0.out)), KeepBut.of_below HB4.out g none, HB4.out⟩
theorem blocks_Table_All.calls (g : Nat) (s0_0 : List ByteArray) (s0_1 : Bool) (r1 : List ByteArray) (r2 : List ByteArray) (r3 : Bool) (w0 w : World) (hI : IsS104 w0 w g s0_0 s0_1) (hB : Below w0.heap.size w0 w) (h : blocks_Table_All.f s0_0 s0_1 = some (r1, r2, r3)) :
  Calls Tryd.prog 32 #[.pointer (some ⟨g, 0, none⟩)] w fun e w' => ∃ v0_ : Value, e = .returned (v0_) ∧ Kd.R Kd.string 9 w' w.heap.size (fun _ => True) v0_ r1 ∧ IsS104 w0 w' g r2 r3 ∧ Below w0.heap.size w0 w' ∧ KeepBut w w' g none :=
 Calls.mono (blocks_Table_All.calls2 g s0_0 s0_1 r1 r2 r3 w0 w hI hB h) (fun e w' ⟨v0_, h1, h2, h3, h4, h5, _⟩ => ⟨v0_, h1, h2, h3, h4, h5⟩)

/-- An empty table. -/
def blocks_New.f : Option (List ByteArray × Bool) := some ([], false)
set_option maxHeartbeats 1000000 in
theorem blocks_New.calls (r1 : List ByteArray) (r2 : Bool) (w0 w : World) (hB : Below w0.heap.size w0 w) (h : blocks_New.f = some (r1, r2)) :
  Calls Tryd.prog 46 #[] w fun e w' => ∃ g, e = .returned (.pointer (some ⟨g, 0, none⟩)) ∧ IsS104 w0 w' g r1 r2 ∧ Below w0.heap.size w0 w' ∧ Below w.heap.size w w' := by
 simp only [blocks_New.f, Option.some.injEq, Prod.mk.injEq] at h
 obtain ⟨rfl, rfl⟩ := h; have HB := am (Below.refl w.heap.size w); have HB0 := am hB; clear hB; have hmm := @run_makeMap Tryd.prog; go_enter Tryd.func46, Tryd.ntmps46; go_wp2_with (first | ((with_reducible refine gate_dst (N := 3) rfl ?_); (try (refine gate_guard (by rfl) ?_; dsimp only)); refine bx 3 #[.slice none 0 0, .map (some w.heap.size)] 104 ?_; intro gb hg w3 hbox hb; have n0_ := bs hb; have BK := am hbox; have GE := am (show w.heap.size ≤ gb by rw [hg]; exact below_size bz); have HM := am (MapL.below (MapL.empty Tryd.prog 9 3 w 0) hb (MapL.lt (MapL.empty Tryd.prog 9 3 w 0))); clear HB; have HB := n0_; clear n0_; clear hb hbox hg))
 go_ret; exact ⟨gb, rfl, ⟨_, _, BK.out, Nat.le_trans (below_size HB0.out) GE.out, below_size HB0.out, Kd.R_nil _ _ _ _ _, HM.out, Nat.zero_le _⟩, HB0.out.trans (HB.out.mono (below_size HB0.out)), HB.out⟩

end Go.Proofs.YthbdbgjggoobnaaDoor.P
