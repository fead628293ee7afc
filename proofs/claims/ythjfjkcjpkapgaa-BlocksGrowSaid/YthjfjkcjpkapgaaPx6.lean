/- Laid by a program of this session (wip/pr), after the printer of the kit: the functions that a statement reaches as plain Lean functions, and that the calls of the machine come to them. No condition. -/
import Derived.Test.YthjfjkcjpkapgaaPx0
import Derived.Test.YthjfjkcjpkapgaaPx1
import Derived.Test.YthjfjkcjpkapgaaPx2
import Derived.Test.YthjfjkcjpkapgaaPx3
import Derived.Test.YthjfjkcjpkapgaaPx4
import Derived.Test.YthjfjkcjpkapgaaPx5
namespace Go.Proofs.Ythjfjkcjpkapgaa.P
open Go.RowKit Go.Proofs.YthjfjkcjpkapgaaX Go.Proofs.YthjfjkcjpkapgaaW.PrintWords Go.Proofs.YthjfjkcjpkapgaaW.PrintLast Go.Proofs.YthjfjkcjpkapgaaW.PrintMore
attribute [local go_sem] max2_int min2_int max_two min_two max_three min_three max_four min_four   -- for this text's walks alone
set_option linter.unusedVariables false
set_option linter.unusedSimpArgs false

/-- Two tables, at g and h, none of whose blocks are the other's; and values whose rows are none of theirs. -/
def IsTwo (w0 W : World) (g h : Nat) (f0 : List ByteArray) (f1 : Bool) (f2 : List ByteArray) (f3 : Bool) (vs : List Value) : Prop := IsS58 w0 W g f0 f1 ∧ IsS58 w0 W h f2 f3 ∧ (∀ k, TabAt W g k → ¬ TabAt W h k) ∧ ∀ v, v ∈ vs → ∀ k, v.ownBlock = some k → k < W.heap.size ∧ ¬ TabAt W g k ∧ ¬ TabAt W h k
section
variable {w0 W W1 : World} {g h : Nat} {f0 f2 : List ByteArray} {f1 f3 : Bool} {vs vs' : List Value}
theorem IsTwo.swap (t : IsTwo w0 W g h f0 f1 f2 f3 vs) : IsTwo w0 W h g f2 f3 f0 f1 vs := ⟨t.2.1, t.1, fun k h1 h2 => t.2.2.1 k h2 h1, fun v hv k hk => have h := t.2.2.2 v hv k hk; ⟨h.1, h.2.2, h.2.1⟩⟩
theorem IsTwo.sub (t : IsTwo w0 W g h f0 f1 f2 f3 vs) (hs : ∀ v, v ∈ vs' → v ∈ vs ∨ v.ownBlock = none) : IsTwo w0 W g h f0 f1 f2 f3 vs' := ⟨t.1, t.2.1, t.2.2.1, fun v hv k hk => (hs v hv).elim (fun h1 => t.2.2.2 v h1 k hk) (fun h1 => by rw [h1] at hk; cases hk)⟩
theorem IsTwo.move (t : IsTwo w0 W g h f0 f1 f2 f3 vs) (hs : W.heap.size ≤ W1.heap.size) (hm : ∀ k, k < W.heap.size → TabAt W g k ∨ TabAt W h k → W1.heap[k]? = W.heap[k]?) : IsTwo w0 W1 g h f0 f1 f2 f3 vs := by
  have eg := (hm g t.1.lt (.inl (.inl rfl))).symm
  have eh := (hm h t.2.1.lt (.inr (.inl rfl))).symm
  exact ⟨t.1.step (fun k hk ht => hm k hk (.inl ht)), t.2.1.step (fun k hk ht => hm k hk (.inr ht)), fun k h1 h2 => t.2.2.1 k (TabAt.back eg h1) (TabAt.back eh h2), fun v hv k hk => have h1 := t.2.2.2 v hv k hk; ⟨Nat.lt_of_lt_of_le h1.1 hs, fun h2 => h1.2.1 (TabAt.back eg h2), fun h2 => h1.2.2 (TabAt.back eh h2)⟩⟩
theorem IsTwo.below (t : IsTwo w0 W g h f0 f1 f2 f3 vs) (hw : Below W.heap.size W W1) : IsTwo w0 W1 g h f0 f1 f2 f3 vs := t.move hw.size (fun k hk _ => hw.block k hk)
theorem IsTwo.alloc (t : IsTwo w0 W g h f0 f1 f2 f3 vs) (o : Obj) : IsTwo w0 (W.alloc o) g h f0 f1 f2 f3 vs := t.below (below_alloc (Below.refl _ _) o)
theorem IsTwo.drewN (t : IsTwo w0 W g h f0 f1 f2 f3 vs) (m : Nat) : IsTwo w0 (W.drewN m) g h f0 f1 f2 f3 vs := t.move (Nat.le_refl _) (fun _ _ _ => rfl)
theorem IsTwo.drew (t : IsTwo w0 W g h f0 f1 f2 f3 vs) : IsTwo w0 W.drew g h f0 f1 f2 f3 vs := t.move (Nat.le_refl _) (fun _ _ _ => rfl)
theorem IsTwo.ge (t : IsTwo w0 W g h f0 f1 f2 f3 vs) : w0.heap.size ≤ g := t.1.ge
theorem IsTwo.grown {row : Option Nat} (t : IsTwo w0 W g h f0 f1 f2 f3 vs) (hw : W.grownBy W1 row) (hne : ∀ k, TabAt W g k ∨ TabAt W h k → some k ≠ row) : IsTwo w0 W1 g h f0 f1 f2 f3 vs := t.move hw.size (fun k hk ht => hw.block k hk (hne k ht))
theorem IsTwo.make (hI : IsS58 w0 W g f0 f1) (hJ : IsS58 W W1 h f2 f3) (hb : Below W.heap.size W W1) (hs : w0.heap.size ≤ W.heap.size) : IsTwo w0 W1 g h f0 f1 f2 f3 [] :=
  ⟨hI.below hb, hJ.lower hs, fun k h1 h2 => by
    have e1 := (hI.typed k (TabAt.back (hb.block g hI.lt).symm h1)).1.2
    have e2 := (hJ.typed k h2).1.1
    omega, fun v hv => by cases hv⟩
section
variable {α : Type} {d : Kd α} {e : Nat} {base : Nat} {ok : Nat → Prop} {v : Value} {xs : List α}
theorem IsTwo.apartT (t : IsTwo w0 W g h f0 f1 f2 f3 vs) (ho : d.R e W base ok v xs) (ht : ∀ q, q ∈ e :: d.E → q ≠ 58 ∧ q ≠ 9) : d.R e W base (fun k => ok k ∧ ¬ (TabAt W g k ∨ TabAt W h k)) v xs :=
  Kd.R_mono (IsS58.apartT t.2.1 (IsS58.apartT t.1 ho ht) ht) (fun k hk => ⟨hk.1.1, fun h1 => h1.elim hk.1.2 hk.2⟩)
theorem IsTwo.apart (t : IsTwo w0 W g h f0 f1 f2 f3 vs) (ho : d.R e W base ok v xs) (ht : ∀ q, q ∈ e :: d.E → q ≠ 58) : d.R e W base (fun k => ok k ∧ k ≠ g) v xs := IsS58.apart t.1 ho ht
theorem IsTwo.apartV {v : Value} {xs : List ByteArray} (t : IsTwo w0 W g h f0 f1 f2 f3 vs) (ho : Kd.string.R e W base ok v xs) (hv : v ∈ vs) : Kd.string.R e W base (fun k => ok k ∧ ¬ (TabAt W g k ∨ TabAt W h k)) v xs := by
  obtain ⟨h0, inner, ho, hr⟩ := ho
  exact ⟨fun k hk => ⟨h0 k hk, fun h1 => have h2 := t.2.2.2 v hv k hk; h1.elim h2.2.1 h2.2.2⟩, inner, ho, hr⟩
end
theorem pos_pre {l r : List ByteArray} {p : ByteArray} {i : Nat} (h : pos l p = some i) : pos (l ++ r) p = some i := by rw [pos_append, h]
theorem putGo_front (L : List ByteArray) : ∀ ps F, ∃ H, (putGo L F ps).2 = F ++ H
  | [], F => ⟨[], by simp [putGo]⟩
  | p :: ps, F => by
    rw [putGo]
    cases pos (L ++ F) p with
    | some i => exact putGo_front L ps F
    | none =>
      obtain ⟨H, hH⟩ := putGo_front L ps (F ++ [p])
      exact ⟨p :: H, by rw [hH, List.append_assoc]; rfl⟩
theorem putGo_again (L : List ByteArray) : ∀ ps F G, (∃ G', (putGo L F ps).2 ++ G' = G) → putGo (L ++ G) [] ps = ((putGo L F ps).1, [])
  | [], F, G, _ => rfl
  | p :: ps, F, G, ⟨G', hG⟩ => by
    rw [putGo, putGo] at *
    cases hp : pos (L ++ F) p with
    | some i =>
      rw [hp] at hG
      have hG1 : (putGo L F ps).2 ++ G' = G := hG
      obtain ⟨H, hH⟩ : ∃ H, G = F ++ H := by
        obtain ⟨H, hH⟩ := putGo_front L ps F
        exact ⟨H ++ G', by rw [← hG1, hH, List.append_assoc]⟩
      have hq : pos (L ++ G ++ []) p = some i := by rw [List.append_nil, hH, ← List.append_assoc]; exact pos_pre hp
      rw [hq]
      show _ = ((i : Int) :: (putGo L F ps).1, _)
      rw [putGo_again L ps F G ⟨G', hG1⟩]
    | none =>
      rw [hp] at hG
      have hG1 : (putGo L (F ++ [p]) ps).2 ++ G' = G := hG
      obtain ⟨H, hH⟩ : ∃ H, G = F ++ [p] ++ H := by
        obtain ⟨H, hH⟩ := putGo_front L ps (F ++ [p])
        exact ⟨H ++ G', by rw [← hG1, hH, List.append_assoc]⟩
      have hq : pos (L ++ G ++ []) p = some (L.length + F.length) := by
        rw [List.append_nil, hH, ← List.append_assoc, ← List.append_assoc]
        refine pos_pre ?_
        rw [pos_snoc, hp, if_pos rfl, List.length_append]
      rw [hq]
      show _ = (((L.length + F.length : Nat) : Int) :: (putGo L (F ++ [p]) ps).1, _)
      rw [putGo_again L ps (F ++ [p]) G ⟨G', hG1⟩]
/-- The same text, put again, is found. -/
theorem put_again {L : List ByteArray} {b : Bool} {s : ByteArray} {k : Nat} {r1 : List Int} {r2 : Int} {r3 : List ByteArray} {r4 : Bool} (h : blocks_Table_Put.f k L b s = some (r1, r2, r3, r4)) : blocks_Table_Put.f k r3 r4 s = some (r1, r2, r3, r4) := by
  rw [blocks_Table_Put.f] at h ⊢
  obtain ⟨ps, hc, h⟩ := Option.bind_eq_some_iff.mp h
  rw [hc, Option.bind_some]
  by_cases hl : ps.length ≤ 1000000 ∧ ∀ p ∈ ps, p.size ≤ maxLen
  · rw [if_pos hl] at h ⊢
    unfold putOf at h ⊢
    by_cases hf : 4000 < L.length + (putGo L [] ps).2.length
    · rw [if_pos hf] at h
      simp only [Option.some.injEq, Prod.mk.injEq] at h
      obtain ⟨rfl, rfl, rfl, rfl⟩ := h
      rw [if_pos hf]
    · rw [if_neg hf] at h
      simp only [Option.some.injEq, Prod.mk.injEq] at h
      obtain ⟨rfl, rfl, rfl, rfl⟩ := h
      rw [putGo_again L ps [] _ ⟨[], by rw [List.append_nil]⟩, if_neg (by rw [List.length_append]; simp; omega), List.append_nil]
  · rw [if_neg hl] at h
    cases h
theorem IsTwo.put {w w' : World} {r3 : List ByteArray} {r4 : Bool} (t : IsTwo w0 w g h f0 f1 f2 f3 vs) (hi : IsS58 w0 w' g r3 r4) (hk : Kept w w' (TabAt w g)) (hn : ∀ k_, TabAt w' g k_ → TabAt w g k_ ∨ w.heap.size ≤ k_) : IsTwo w0 w' g h r3 r4 f2 f3 vs := by
  have hd : ∀ k, TabAt w h k → ¬ TabAt w g k := fun k h1 h2 => t.2.2.1 k h2 h1
  have eh := (hk.2 h t.2.1.lt (hd h (.inl rfl))).symm
  exact ⟨hi, t.2.1.kept hk hd, fun k h1 h2 => by
    have h3 := TabAt.back eh h2
    rcases hn k h1 with h4 | h4
    · exact t.2.2.1 k h4 h3
    · have := (t.2.1.typed k h3).1.2
      omega, fun v hv k hk2 => by
    have h1 := t.2.2.2 v hv k hk2
    refine ⟨Nat.lt_of_lt_of_le h1.1 hk.1, fun h2 => (hn k h2).elim h1.2.1 (fun h3 => by omega), fun h2 => h1.2.2 (TabAt.back eh h2)⟩⟩
/-- The first table's Put. -/
theorem putFst (k : Nat) (g h : Nat) (f0 : List ByteArray) (f1 : Bool) (f2 : List ByteArray) (f3 : Bool) (vs : List Value) (a1 : ByteArray) (r1 : List Int) (r2 : Int) (r3 : List ByteArray) (r4 : Bool) (w0 w : World) (hI : IsTwo w0 w g h f0 f1 f2 f3 vs) (hB : Below w0.heap.size w0 w) (hf : blocks_Table_Put.f k f0 f1 a1 = some (r1, r2, r3, r4)) :
    Calls Try.prog 9 #[.pointer (some ⟨g, 0, none⟩), .string a1] w fun e w' => ∃ v0_ : Value, e = .returned (.tuple #[v0_, .int .i64 r2]) ∧ Kd.R (Kd.int .i64) 3 w' w.heap.size (fun _ => True) v0_ r1 ∧ IsTwo w0 w' g h r3 r4 f2 f3 vs ∧ Below w0.heap.size w0 w' ∧ Kept w w' (fun k => TabAt w g k ∨ TabAt w h k) :=
  Calls.mono (blocks_Table_Put.calls2 k g f0 f1 a1 r1 r2 r3 r4 w0 w hI.1 hB hf) (fun e w' ⟨v0_, h1, h2, h3, h4, h5, h6⟩ => ⟨v0_, h1, h2, hI.put h3 h5 h6, h4, ⟨h5.1, fun i hi hn => h5.2 i hi (fun h => hn (.inl h))⟩⟩)
/-- The second one's, of the same text: told as if it had been put again into the first. -/
theorem putSnd (k : Nat) (g h : Nat) (f0 : List ByteArray) (f1 : Bool) (f2 : List ByteArray) (f3 : Bool) (vs : List Value) (a1 : ByteArray) (q1 : List Int) (q2 : Int) (r1 : List Int) (r2 : Int) (r3 : List ByteArray) (r4 : Bool) (w0 w : World) (hI : IsTwo w0 w g h f0 f1 f2 f3 vs) (hB : Below w0.heap.size w0 w) (hq : blocks_Table_Put.f k f2 f3 a1 = some (q1, q2, f0, f1)) (hf : blocks_Table_Put.f k f0 f1 a1 = some (r1, r2, r3, r4)) :
    Calls Try.prog 9 #[.pointer (some ⟨h, 0, none⟩), .string a1] w fun e w' => ∃ v0_ : Value, e = .returned (.tuple #[v0_, .int .i64 r2]) ∧ Kd.R (Kd.int .i64) 3 w' w.heap.size (fun _ => True) v0_ r1 ∧ IsTwo w0 w' g h r3 r4 r3 r4 vs ∧ Below w0.heap.size w0 w' ∧ Kept w w' (fun k => TabAt w g k ∨ TabAt w h k) := by
  have ha := put_again hq
  rw [hf] at ha
  simp only [Option.some.injEq, Prod.mk.injEq] at ha
  obtain ⟨rfl, rfl, rfl, rfl⟩ := ha
  exact Calls.mono (putFst k h g f2 f3 r3 r4 vs a1 r1 r2 r3 r4 w0 w hI.swap hB hq) (fun e w' ⟨v0_, h1, h2, h3, h4, h5⟩ => ⟨v0_, h1, h2, h3.swap, h4, ⟨h5.1, fun i hi hn => h5.2 i hi (fun h => hn h.symm)⟩⟩)
/-- All blocks of the first one. -/
theorem allFst (g h : Nat) (f0 : List ByteArray) (f1 : Bool) (vs : List Value) (r1 : List ByteArray) (r2 : List ByteArray) (r3 : Bool) (w0 w : World) (hI : IsTwo w0 w g h f0 f1 f0 f1 vs) (hB : Below w0.heap.size w0 w) (hf : blocks_Table_All.f f0 f1 = some (r1, r2, r3)) :
    Calls Try.prog 19 #[.pointer (some ⟨g, 0, none⟩)] w fun e w' => ∃ v0_ : Value, e = .returned (v0_) ∧ Kd.R Kd.string 9 w' w.heap.size (fun _ => True) v0_ r1 ∧ IsTwo w0 w' g h r2 r3 r2 r3 (v0_ :: vs) ∧ Below w0.heap.size w0 w' ∧ Kept w w' (fun k => TabAt w g k ∨ TabAt w h k) := by
  have he : r2 = f0 ∧ r3 = f1 := by
    unfold blocks_Table_All.f at hf
    obtain ⟨t, ht, hf⟩ := Option.bind_eq_some_iff.mp hf
    simp only [Option.some.injEq, Prod.mk.injEq] at hf
    exact ⟨hf.2.1.symm, hf.2.2.symm⟩
  obtain ⟨rfl, rfl⟩ := he
  refine Calls.mono (blocks_Table_All.calls2 g r2 r3 r1 r2 r3 w0 w hI.1 hB hf) (fun e w' ⟨v0_, h1, h2, h3, h4, h5, h6⟩ => ⟨v0_, h1, h2, ?_, h4, ⟨h6.size, fun i hi _ => h6.block i hi⟩⟩)
  have t := hI.below h6
  refine ⟨t.1, t.2.1, t.2.2.1, fun v hv k hk => ?_⟩
  rcases List.mem_cons.1 hv with rfl | hv
  · have e1 := Kd.R_base h2 k hk
    exact ⟨Kd.R_lt h2 k hk, fun h7 => by
      have := (hI.1.typed k (TabAt.back (h6.block g hI.1.lt).symm h7)).1.2
      omega, fun h7 => by
      have := (hI.2.1.typed k (TabAt.back (h6.block h hI.2.1.lt).symm h7)).1.2
      omega⟩
  · exact t.2.2.2 v hv k hk
theorem allSnd (g h : Nat) (f0 : List ByteArray) (f1 : Bool) (vs : List Value) (r1 : List ByteArray) (r2 : List ByteArray) (r3 : Bool) (w0 w : World) (hI : IsTwo w0 w g h f0 f1 f0 f1 vs) (hB : Below w0.heap.size w0 w) (hf : blocks_Table_All.f f0 f1 = some (r1, r2, r3)) :
    Calls Try.prog 19 #[.pointer (some ⟨h, 0, none⟩)] w fun e w' => ∃ v0_ : Value, e = .returned (v0_) ∧ Kd.R Kd.string 9 w' w.heap.size (fun _ => True) v0_ r1 ∧ IsTwo w0 w' g h r2 r3 r2 r3 (v0_ :: vs) ∧ Below w0.heap.size w0 w' ∧ Kept w w' (fun k => TabAt w g k ∨ TabAt w h k) :=
  Calls.mono (allFst h g f0 f1 vs r1 r2 r3 w0 w hI.swap hB hf) (fun e w' ⟨v0_, h1, h2, h3, h4, h5⟩ => ⟨v0_, h1, h2, h3.swap, h4, ⟨h5.1, fun i hi hn => h5.2 i hi (fun h => hn h.symm)⟩⟩)
theorem lenFst (g h : Nat) (f0 : List ByteArray) (f1 : Bool) (vs : List Value) (r1 : Int) (r2 : List ByteArray) (r3 : Bool) (w0 w : World) (hI : IsTwo w0 w g h f0 f1 f0 f1 vs) (hB : Below w0.heap.size w0 w) (hf : blocks_Table_Len.f f0 f1 = some (r1, r2, r3)) :
    Calls Try.prog 12 #[.pointer (some ⟨g, 0, none⟩)] w fun e w' => e = .returned (.int .i64 r1) ∧ IsS58 w0 w' g r2 r3 ∧ Below w0.heap.size w0 w' ∧ KeepBut w w' g none := blocks_Table_Len.calls g f0 f1 r1 r2 r3 w0 w hI.1 hB hf
end

/-! ### hogsheadlaw18_BlocksGrow: function 7 -/
mutual
def hogsheadlaw18_BlocksGrow.l0 : Nat → List ByteArray → List ByteArray → Int → List ByteArray → Bool → Option (Bool)
  | 0, _, _, _, _, _ => none
  | k + 1, x0, x5, x6, x169000, x169001 => if x6 < (x0.length : Int) then (if 0 ≤ x6 then ((blocks_Table_Put.f k x169000 x169001 (rdOf ByteArray.empty x0 x6)).bind fun bt170 => ((blocks_Table_Put.f k bt170.2.2.1 bt170.2.2.2 (rdOf ByteArray.empty x0 x6)).bind fun bt177 => ((blocks_Table_All.f bt177.2.2.1 bt177.2.2.2).bind fun bt183 => (if bt170.2.1 = 0 then (if bt177.2.1 = 0 then ((hogsheadlaw0_SameInts.f k bt170.1 bt177.1).bind fun t188 => (if t188 = true then (if (bt183.1.length : Int) < (x5.length : Int) then (hogsheadlaw18_BlocksGrow.j1 k x0 x5 x6 bt170.1 bt183.1 true bt183.2.1 bt183.2.2) else (if (bt183.1.length : Int) > (wrap64 ((x5.length : Int) + (bt170.1.length : Int))) then (hogsheadlaw18_BlocksGrow.j1 k x0 x5 x6 bt170.1 bt183.1 true bt183.2.1 bt183.2.2) else (if 0 ≤ (x5.length : Int) then (if (x5.length : Int) ≤ (bt183.1.length : Int) then ((hogsheadlaw0_SameTexts.f k (bt183.1.take ((x5.length : Int) : Int).toNat) x5).bind fun t193 => (hogsheadlaw18_BlocksGrow.j1 k x0 x5 x6 bt170.1 bt183.1 (!t193) bt183.2.1 bt183.2.2)) else (none)) else (none)))) else (hogsheadlaw18_BlocksGrow.j1 k x0 x5 x6 bt170.1 bt183.1 true bt183.2.1 bt183.2.2))) else (hogsheadlaw18_BlocksGrow.j1 k x0 x5 x6 bt170.1 bt183.1 true bt183.2.1 bt183.2.2)) else (hogsheadlaw18_BlocksGrow.j1 k x0 x5 x6 bt170.1 bt183.1 true bt183.2.1 bt183.2.2))))) else (none)) else ((blocks_Table_All.f x169000 x169001).bind fun bt200 => ((hogsheadlaw0_SameTexts.f k bt200.1 x5).bind fun t205 => (if t205 = true then ((blocks_Table_Len.f bt200.2.1 bt200.2.2).bind fun bt206 => (if bt206.1 = (x5.length : Int) then ((hogsheadlaw18_awake.f k).bind fun t209 => (some t209)) else (some false))) else (some false))))
def hogsheadlaw18_BlocksGrow.j1 : Nat → List ByteArray → List ByteArray → Int → List Int → List ByteArray → Bool → List ByteArray → Bool → Option (Bool)
  | 0, _, _, _, _, _, _, _, _ => none
  | k + 1, x0, x5, x6, x7, x11, x88, x169000, x169001 => if x88 = true then (some false) else (hogsheadlaw18_BlocksGrow.l1 k x0 x5 x6 x7 x11 0 x169000 x169001)
def hogsheadlaw18_BlocksGrow.l1 : Nat → List ByteArray → List ByteArray → Int → List Int → List ByteArray → Int → List ByteArray → Bool → Option (Bool)
  | 0, _, _, _, _, _, _, _, _ => none
  | k + 1, x0, x5, x6, x7, x11, x12, x169000, x169001 => if x12 < (x7.length : Int) then (if 0 ≤ x12 then (if (rd x7 x12) < 0 then (hogsheadlaw18_BlocksGrow.j3 k x0 x5 x6 x7 x11 x12 true x169000 x169001) else (hogsheadlaw18_BlocksGrow.j3 k x0 x5 x6 x7 x11 x12 (decide ((rd x7 x12) ≥ (x11.length : Int))) x169000 x169001)) else (none)) else (hogsheadlaw18_BlocksGrow.l2 k x0 x5 x6 x7 x11 (x5.length : Int) x169000 x169001)
def hogsheadlaw18_BlocksGrow.j3 : Nat → List ByteArray → List ByteArray → Int → List Int → List ByteArray → Int → Bool → List ByteArray → Bool → Option (Bool)
  | 0, _, _, _, _, _, _, _, _, _ => none
  | k + 1, x0, x5, x6, x7, x11, x12, x108, x169000, x169001 => if x108 = true then (some false) else (hogsheadlaw18_BlocksGrow.l1 k x0 x5 x6 x7 x11 (wrap64 (x12 + 1)) x169000 x169001)
def hogsheadlaw18_BlocksGrow.l2 : Nat → List ByteArray → List ByteArray → Int → List Int → List ByteArray → Int → List ByteArray → Bool → Option (Bool)
  | 0, _, _, _, _, _, _, _, _ => none
  | k + 1, x0, x5, x6, x7, x11, x13, x169000, x169001 => if x13 < (x11.length : Int) then (if x13 > (x5.length : Int) then (if 0 ≤ x13 then (if 0 ≤ (wrap64 (x13 - 1)) then (if (wrap64 (x13 - 1)) < (x11.length : Int) then (if (rdOf ByteArray.empty x11 x13).toList = (rdOf ByteArray.empty x11 (wrap64 (x13 - 1))).toList then (hogsheadlaw18_BlocksGrow.j5 k x0 x5 x6 x7 x11 x13 true x169000 x169001) else ((hogsheadlaw18_in.f k x7 x13).bind fun t198 => (hogsheadlaw18_BlocksGrow.j5 k x0 x5 x6 x7 x11 x13 (!t198) x169000 x169001))) else (none)) else (none)) else (none)) else ((hogsheadlaw18_in.f k x7 x13).bind fun t199 => (hogsheadlaw18_BlocksGrow.j5 k x0 x5 x6 x7 x11 x13 (!t199) x169000 x169001))) else (hogsheadlaw18_BlocksGrow.l0 k x0 x11 (wrap64 (x6 + 1)) x169000 x169001)
def hogsheadlaw18_BlocksGrow.j5 : Nat → List ByteArray → List ByteArray → Int → List Int → List ByteArray → Int → Bool → List ByteArray → Bool → Option (Bool)
  | 0, _, _, _, _, _, _, _, _, _ => none
  | k + 1, x0, x5, x6, x7, x11, x13, x138, x169000, x169001 => if x138 = true then (some false) else (hogsheadlaw18_BlocksGrow.l2 k x0 x5 x6 x7 x11 (wrap64 (x13 + 1)) x169000 x169001)
end
def hogsheadlaw18_BlocksGrow.f (k : Nat) (l0 : List ByteArray) : Option (Bool) := (hogsheadlaw0_GreatTexts.f k l0 12 500).bind fun t164 => (if t164 = true then ((hogsheadlaw18_awake.f k).bind fun t165 => (some t165)) else ((blocks_New.f).bind fun bt166 => (hogsheadlaw18_BlocksGrow.l0 k l0 ([] : List ByteArray) 0 bt166.1 bt166.2)))
theorem hogsheadlaw18_BlocksGrow.mono_l : ∀ k, (∀ y0 y1 y2 y3 y4, LeO (hogsheadlaw18_BlocksGrow.l0 k y0 y1 y2 y3 y4) (hogsheadlaw18_BlocksGrow.l0 (k + 1) y0 y1 y2 y3 y4)) ∧ (∀ y0 y1 y2 y3 y4 y5 y6 y7, LeO (hogsheadlaw18_BlocksGrow.j1 k y0 y1 y2 y3 y4 y5 y6 y7) (hogsheadlaw18_BlocksGrow.j1 (k + 1) y0 y1 y2 y3 y4 y5 y6 y7)) ∧ (∀ y0 y1 y2 y3 y4 y5 y6 y7, LeO (hogsheadlaw18_BlocksGrow.l1 k y0 y1 y2 y3 y4 y5 y6 y7) (hogsheadlaw18_BlocksGrow.l1 (k + 1) y0 y1 y2 y3 y4 y5 y6 y7)) ∧ (∀ y0 y1 y2 y3 y4 y5 y6 y7 y8, LeO (hogsheadlaw18_BlocksGrow.j3 k y0 y1 y2 y3 y4 y5 y6 y7 y8) (hogsheadlaw18_BlocksGrow.j3 (k + 1) y0 y1 y2 y3 y4 y5 y6 y7 y8)) ∧ (∀ y0 y1 y2 y3 y4 y5 y6 y7, LeO (hogsheadlaw18_BlocksGrow.l2 k y0 y1 y2 y3 y4 y5 y6 y7) (hogsheadlaw18_BlocksGrow.l2 (k + 1) y0 y1 y2 y3 y4 y5 y6 y7)) ∧ (∀ y0 y1 y2 y3 y4 y5 y6 y7 y8, LeO (hogsheadlaw18_BlocksGrow.j5 k y0 y1 y2 y3 y4 y5 y6 y7 y8) (hogsheadlaw18_BlocksGrow.j5 (k + 1) y0 y1 y2 y3 y4 y5 y6 y7 y8))
  | 0 => ⟨fun _ _ _ _ _ r h => by simp [hogsheadlaw18_BlocksGrow.l0] at h, fun _ _ _ _ _ _ _ _ r h => by simp [hogsheadlaw18_BlocksGrow.j1] at h, fun _ _ _ _ _ _ _ _ r h => by simp [hogsheadlaw18_BlocksGrow.l1] at h, fun _ _ _ _ _ _ _ _ _ r h => by simp [hogsheadlaw18_BlocksGrow.j3] at h, fun _ _ _ _ _ _ _ _ r h => by simp [hogsheadlaw18_BlocksGrow.l2] at h, fun _ _ _ _ _ _ _ _ _ r h => by simp [hogsheadlaw18_BlocksGrow.j5] at h⟩
  | k + 1 => by
    obtain ⟨ih0, ih1, ih2, ih3, ih4, ih5⟩ := hogsheadlaw18_BlocksGrow.mono_l k
    refine ⟨?_, ?_, ?_, ?_, ?_, ?_⟩
    · intro y0 y1 y2 y3 y4
      unfold hogsheadlaw18_BlocksGrow.l0
      repeat' first
      | (with_reducible exact ih0 _ _ _ _ _)
      | (with_reducible exact ih1 _ _ _ _ _ _ _ _)
      | (with_reducible exact ih2 _ _ _ _ _ _ _ _)
      | (with_reducible exact ih3 _ _ _ _ _ _ _ _ _)
      | (with_reducible exact ih4 _ _ _ _ _ _ _ _)
      | (with_reducible exact ih5 _ _ _ _ _ _ _ _ _)
      | (with_reducible exact blocks_Table_Put.mono _ _ _ _)
      | (with_reducible exact hogsheadlaw0_GreatTexts.mono _ _ _ _)
      | (with_reducible exact hogsheadlaw0_SameInts.mono _ _ _)
      | (with_reducible exact hogsheadlaw0_SameTexts.mono _ _ _)
      | (with_reducible exact hogsheadlaw18_awake.mono _)
      | (with_reducible exact hogsheadlaw18_in.mono _ _ _)
      | (with_reducible exact LeO.refl _)
      | (with_reducible exact LeO.none _)
      | (with_reducible refine LeO.ite ?_ ?_)
      | (with_reducible refine LeO.bind ?_ (fun _ => ?_))
      | exact ih0 _ _ _ _ _
      | exact ih1 _ _ _ _ _ _ _ _
      | exact ih2 _ _ _ _ _ _ _ _
      | exact ih3 _ _ _ _ _ _ _ _ _
      | exact ih4 _ _ _ _ _ _ _ _
      | exact ih5 _ _ _ _ _ _ _ _ _
      | exact blocks_Table_Put.mono _ _ _ _
      | exact hogsheadlaw0_GreatTexts.mono _ _ _ _
      | exact hogsheadlaw0_SameInts.mono _ _ _
      | exact hogsheadlaw0_SameTexts.mono _ _ _
      | exact hogsheadlaw18_awake.mono _
      | exact hogsheadlaw18_in.mono _ _ _
      | exact LeO.none _
      | refine LeO.ite ?_ ?_
      | refine LeO.bind ?_ (fun _ => ?_)
    · intro y0 y1 y2 y3 y4 y5 y6 y7
      unfold hogsheadlaw18_BlocksGrow.j1
      repeat' first
      | (with_reducible exact ih0 _ _ _ _ _)
      | (with_reducible exact ih1 _ _ _ _ _ _ _ _)
      | (with_reducible exact ih2 _ _ _ _ _ _ _ _)
      | (with_reducible exact ih3 _ _ _ _ _ _ _ _ _)
      | (with_reducible exact ih4 _ _ _ _ _ _ _ _)
      | (with_reducible exact ih5 _ _ _ _ _ _ _ _ _)
      | (with_reducible exact blocks_Table_Put.mono _ _ _ _)
      | (with_reducible exact hogsheadlaw0_GreatTexts.mono _ _ _ _)
      | (with_reducible exact hogsheadlaw0_SameInts.mono _ _ _)
      | (with_reducible exact hogsheadlaw0_SameTexts.mono _ _ _)
      | (with_reducible exact hogsheadlaw18_awake.mono _)
      | (with_reducible exact hogsheadlaw18_in.mono _ _ _)
      | (with_reducible exact LeO.refl _)
      | (with_reducible exact LeO.none _)
      | (with_reducible refine LeO.ite ?_ ?_)
      | (with_reducible refine LeO.bind ?_ (fun _ => ?_))
      | exact ih0 _ _ _ _ _
      | exact ih1 _ _ _ _ _ _ _ _
      | exact ih2 _ _ _ _ _ _ _ _
      | exact ih3 _ _ _ _ _ _ _ _ _
      | exact ih4 _ _ _ _ _ _ _ _
      | exact ih5 _ _ _ _ _ _ _ _ _
      | exact blocks_Table_Put.mono _ _ _ _
      | exact hogsheadlaw0_GreatTexts.mono _ _ _ _
      | exact hogsheadlaw0_SameInts.mono _ _ _
      | exact hogsheadlaw0_SameTexts.mono _ _ _
      | exact hogsheadlaw18_awake.mono _
      | exact hogsheadlaw18_in.mono _ _ _
      | exact LeO.none _
      | refine LeO.ite ?_ ?_
      | refine LeO.bind ?_ (fun _ => ?_)
    · intro y0 y1 y2 y3 y4 y5 y6 y7
      unfold hogsheadlaw18_BlocksGrow.l1
      repeat' first
      | (with_reducible exact ih0 _ _ _ _ _)
      | (with_reducible exact ih1 _ _ _ _ _ _ _ _)
      | (with_reducible exact ih2 _ _ _ _ _ _ _ _)
      | (with_reducible exact ih3 _ _ _ _ _ _ _ _ _)
      | (with_reducible exact ih4 _ _ _ _ _ _ _ _)
      | (with_reducible exact ih5 _ _ _ _ _ _ _ _ _)
      | (with_reducible exact blocks_Table_Put.mono _ _ _ _)
      | (with_reducible exact hogsheadlaw0_GreatTexts.mono _ _ _ _)
      | (with_reducible exact hogsheadlaw0_SameInts.mono _ _ _)
      | (with_reducible exact hogsheadlaw0_SameTexts.mono _ _ _)
      | (with_reducible exact hogsheadlaw18_awake.mono _)
      | (with_reducible exact hogsheadlaw18_in.mono _ _ _)
      | (with_reducible exact LeO.refl _)
      | (with_reducible exact LeO.none _)
      | (with_reducible refine LeO.ite ?_ ?_)
      | (with_reducible refine LeO.bind ?_ (fun _ => ?_))
      | exact ih0 _ _ _ _ _
      | exact ih1 _ _ _ _ _ _ _ _
      | exact ih2 _ _ _ _ _ _ _ _
      | exact ih3 _ _ _ _ _ _ _ _ _
      | exact ih4 _ _ _ _ _ _ _ _
      | exact ih5 _ _ _ _ _ _ _ _ _
      | exact blocks_Table_Put.mono _ _ _ _
      | exact hogsheadlaw0_GreatTexts.mono _ _ _ _
      | exact hogsheadlaw0_SameInts.mono _ _ _
      | exact hogsheadlaw0_SameTexts.mono _ _ _
      | exact hogsheadlaw18_awake.mono _
      | exact hogsheadlaw18_in.mono _ _ _
      | exact LeO.none _
      | refine LeO.ite ?_ ?_
      | refine LeO.bind ?_ (fun _ => ?_)
    · intro y0 y1 y2 y3 y4 y5 y6 y7 y8
      unfold hogsheadlaw18_BlocksGrow.j3
      repeat' first
      | (with_reducible exact ih0 _ _ _ _ _)
      | (with_reducible exact ih1 _ _ _ _ _ _ _ _)
      | (with_reducible exact ih2 _ _ _ _ _ _ _ _)
      | (with_reducible exact ih3 _ _ _ _ _ _ _ _ _)
      | (with_reducible exact ih4 _ _ _ _ _ _ _ _)
      | (with_reducible exact ih5 _ _ _ _ _ _ _ _ _)
      | (with_reducible exact blocks_Table_Put.mono _ _ _ _)
      | (with_reducible exact hogsheadlaw0_GreatTexts.mono _ _ _ _)
      | (with_reducible exact hogsheadlaw0_SameInts.mono _ _ _)
      | (with_reducible exact hogsheadlaw0_SameTexts.mono _ _ _)
      | (with_reducible exact hogsheadlaw18_awake.mono _)
      | (with_reducible exact hogsheadlaw18_in.mono _ _ _)
      | (with_reducible exact LeO.refl _)
      | (with_reducible exact LeO.none _)
      | (with_reducible refine LeO.ite ?_ ?_)
      | (with_reducible refine LeO.bind ?_ (fun _ => ?_))
      | exact ih0 _ _ _ _ _
      | exact ih1 _ _ _ _ _ _ _ _
      | exact ih2 _ _ _ _ _ _ _ _
      | exact ih3 _ _ _ _ _ _ _ _ _
      | exact ih4 _ _ _ _ _ _ _ _
      | exact ih5 _ _ _ _ _ _ _ _ _
      | exact blocks_Table_Put.mono _ _ _ _
      | exact hogsheadlaw0_GreatTexts.mono _ _ _ _
      | exact hogsheadlaw0_SameInts.mono _ _ _
      | exact hogsheadlaw0_SameTexts.mono _ _ _
      | exact hogsheadlaw18_awake.mono _
      | exact hogsheadlaw18_in.mono _ _ _
      | exact LeO.none _
      | refine LeO.ite ?_ ?_
      | refine LeO.bind ?_ (fun _ => ?_)
    · intro y0 y1 y2 y3 y4 y5 y6 y7
      unfold hogsheadlaw18_BlocksGrow.l2
      repeat' first
      | (with_reducible exact ih0 _ _ _ _ _)
      | (with_reducible exact ih1 _ _ _ _ _ _ _ _)
      | (with_reducible exact ih2 _ _ _ _ _ _ _ _)
      | (with_reducible exact ih3 _ _ _ _ _ _ _ _ _)
      | (with_reducible exact ih4 _ _ _ _ _ _ _ _)
      | (with_reducible exact ih5 _ _ _ _ _ _ _ _ _)
      | (with_reducible exact blocks_Table_Put.mono _ _ _ _)
      | (with_reducible exact hogsheadlaw0_GreatTexts.mono _ _ _ _)
      | (with_reducible exact hogsheadlaw0_SameInts.mono _ _ _)
      | (with_reducible exact hogsheadlaw0_SameTexts.mono _ _ _)
      | (with_reducible exact hogsheadlaw18_awake.mono _)
      | (with_reducible exact hogsheadlaw18_in.mono _ _ _)
      | (with_reducible exact LeO.refl _)
      | (with_reducible exact LeO.none _)
      | (with_reducible refine LeO.ite ?_ ?_)
      | (with_reducible refine LeO.bind ?_ (fun _ => ?_))
      | exact ih0 _ _ _ _ _
      | exact ih1 _ _ _ _ _ _ _ _
      | exact ih2 _ _ _ _ _ _ _ _
      | exact ih3 _ _ _ _ _ _ _ _ _
      | exact ih4 _ _ _ _ _ _ _ _
      | exact ih5 _ _ _ _ _ _ _ _ _
      | exact blocks_Table_Put.mono _ _ _ _
      | exact hogsheadlaw0_GreatTexts.mono _ _ _ _
      | exact hogsheadlaw0_SameInts.mono _ _ _
      | exact hogsheadlaw0_SameTexts.mono _ _ _
      | exact hogsheadlaw18_awake.mono _
      | exact hogsheadlaw18_in.mono _ _ _
      | exact LeO.none _
      | refine LeO.ite ?_ ?_
      | refine LeO.bind ?_ (fun _ => ?_)
    · intro y0 y1 y2 y3 y4 y5 y6 y7 y8
      unfold hogsheadlaw18_BlocksGrow.j5
      repeat' first
      | (with_reducible exact ih0 _ _ _ _ _)
      | (with_reducible exact ih1 _ _ _ _ _ _ _ _)
      | (with_reducible exact ih2 _ _ _ _ _ _ _ _)
      | (with_reducible exact ih3 _ _ _ _ _ _ _ _ _)
      | (with_reducible exact ih4 _ _ _ _ _ _ _ _)
      | (with_reducible exact ih5 _ _ _ _ _ _ _ _ _)
      | (with_reducible exact blocks_Table_Put.mono _ _ _ _)
      | (with_reducible exact hogsheadlaw0_GreatTexts.mono _ _ _ _)
      | (with_reducible exact hogsheadlaw0_SameInts.mono _ _ _)
      | (with_reducible exact hogsheadlaw0_SameTexts.mono _ _ _)
      | (with_reducible exact hogsheadlaw18_awake.mono _)
      | (with_reducible exact hogsheadlaw18_in.mono _ _ _)
      | (with_reducible exact LeO.refl _)
      | (with_reducible exact LeO.none _)
      | (with_reducible refine LeO.ite ?_ ?_)
      | (with_reducible refine LeO.bind ?_ (fun _ => ?_))
      | exact ih0 _ _ _ _ _
      | exact ih1 _ _ _ _ _ _ _ _
      | exact ih2 _ _ _ _ _ _ _ _
      | exact ih3 _ _ _ _ _ _ _ _ _
      | exact ih4 _ _ _ _ _ _ _ _
      | exact ih5 _ _ _ _ _ _ _ _ _
      | exact blocks_Table_Put.mono _ _ _ _
      | exact hogsheadlaw0_GreatTexts.mono _ _ _ _
      | exact hogsheadlaw0_SameInts.mono _ _ _
      | exact hogsheadlaw0_SameTexts.mono _ _ _
      | exact hogsheadlaw18_awake.mono _
      | exact hogsheadlaw18_in.mono _ _ _
      | exact LeO.none _
      | refine LeO.ite ?_ ?_
      | refine LeO.bind ?_ (fun _ => ?_)
theorem hogsheadlaw18_BlocksGrow.mono : ∀ a0 k, LeO (hogsheadlaw18_BlocksGrow.f k a0) (hogsheadlaw18_BlocksGrow.f (k + 1) a0) := by
  intro a0 k
  obtain ⟨ih0, ih1, ih2, ih3, ih4, ih5⟩ := hogsheadlaw18_BlocksGrow.mono_l k
  unfold hogsheadlaw18_BlocksGrow.f
  repeat' first
      | (with_reducible exact ih0 _ _ _ _ _)
      | (with_reducible exact ih1 _ _ _ _ _ _ _ _)
      | (with_reducible exact ih2 _ _ _ _ _ _ _ _)
      | (with_reducible exact ih3 _ _ _ _ _ _ _ _ _)
      | (with_reducible exact ih4 _ _ _ _ _ _ _ _)
      | (with_reducible exact ih5 _ _ _ _ _ _ _ _ _)
      | (with_reducible exact blocks_Table_Put.mono _ _ _ _)
      | (with_reducible exact hogsheadlaw0_GreatTexts.mono _ _ _ _)
      | (with_reducible exact hogsheadlaw0_SameInts.mono _ _ _)
      | (with_reducible exact hogsheadlaw0_SameTexts.mono _ _ _)
      | (with_reducible exact hogsheadlaw18_awake.mono _)
      | (with_reducible exact hogsheadlaw18_in.mono _ _ _)
      | (with_reducible exact LeO.refl _)
      | (with_reducible exact LeO.none _)
      | (with_reducible refine LeO.ite ?_ ?_)
      | (with_reducible refine LeO.bind ?_ (fun _ => ?_))
      | exact ih0 _ _ _ _ _
      | exact ih1 _ _ _ _ _ _ _ _
      | exact ih2 _ _ _ _ _ _ _ _
      | exact ih3 _ _ _ _ _ _ _ _ _
      | exact ih4 _ _ _ _ _ _ _ _
      | exact ih5 _ _ _ _ _ _ _ _ _
      | exact blocks_Table_Put.mono _ _ _ _
      | exact hogsheadlaw0_GreatTexts.mono _ _ _ _
      | exact hogsheadlaw0_SameInts.mono _ _ _
      | exact hogsheadlaw0_SameTexts.mono _ _ _
      | exact hogsheadlaw18_awake.mono _
      | exact hogsheadlaw18_in.mono _ _ _
      | exact LeO.none _
      | refine LeO.ite ?_ ?_
      | refine LeO.bind ?_ (fun _ => ?_)
set_option maxHeartbeats 8000000 in
set_option maxRecDepth 100000 in
theorem hogsheadlaw18_BlocksGrow.calls (k : Nat) (A0 : Option Addr) (c0 : Nat) (l0 : List ByteArray) (r : Bool) (w : World) (hr0 : Kd.C Kd.string w A0 l0.length l0) (hc0 : l0.length ≤ c0) (h : hogsheadlaw18_BlocksGrow.f k l0 = some r) :
    Calls Try.prog 7 #[.slice A0 l0.length c0] w fun e w' => e = .returned (.bool r) ∧ Below w.heap.size w w' := by
  have HR0 := Aside0.mk hr0
  have HC0 := Aside0.mk hc0
  clear hr0 hc0
  have HB := Aside0.mk (Below.refl w.heap.size w)
  have H : ((hogsheadlaw0_GreatTexts.f k l0 12 500).bind fun t164 => (if t164 = true then ((hogsheadlaw18_awake.f k).bind fun t165 => (some t165)) else ((blocks_New.f).bind fun bt166 => (hogsheadlaw18_BlocksGrow.l0 k l0 ([] : List ByteArray) 0 bt166.1 bt166.2)))) = some r := h
  clear h
  replace H := Option.bind_eq_some_iff.mp H
  obtain ⟨t164, A20, H⟩ := H
  replace H : (if t164 = true then ((hogsheadlaw18_awake.f k).bind fun t165 => (some t165)) else ((blocks_New.f).bind fun bt166 => (hogsheadlaw18_BlocksGrow.l0 k l0 ([] : List ByteArray) 0 bt166.1 bt166.2))) = some r := H
  have A2 := Aside0.mk A20
  clear A20
  by_cases c3 : t164 = true
  · subst c3
    have H1 : ((hogsheadlaw18_awake.f k).bind fun t165 => (some t165)) = some r := by rw [if_pos rfl] at H; exact H
    clear H
    have H := H1
    clear H1
    replace H := Option.bind_eq_some_iff.mp H
    obtain ⟨t165, A40, H⟩ := H
    replace H : (some t165) = some r := H
    have A4 := Aside0.mk A40
    clear A40
    obtain rfl := Option.some.inj H
    go_enter Try.func7, Try.ntmps7
    go_wp2_with (first | (go_at_call 14; (with_reducible refine (hogsheadlaw0_GreatTexts.calls k _ _ l0 12 500 true _ ?side1 ?side2 A2.out).mono ?_); (case side1 => repeat (first | exact HR0.out | (with_reducible refine Kd.C_alloc ?_ _) | (with_reducible refine Kd.C_drewN ?_ _) | (with_reducible refine Kd.C_drew ?_))); (case side2 => exact HC0.out); rintro e w' ⟨rfl, ⟨nd, rfl⟩⟩; (try first | exact ⟨rfl, _, World.drewN_drewN _ _ _⟩ | exact ⟨rfl, _, Eq.trans (World.drewN_drewN _ _ _) (congrArg (World.drewN _) (Nat.add_assoc _ _ _))⟩)) | (go_at_call 13; (with_reducible refine (hogsheadlaw18_awake.calls k  t165 _ A4.out).mono ?_); rintro e w5 ⟨rfl, hb⟩; have n0_ := Aside0.mk (below_step (by repeat (first | (with_reducible first | exact HB.out | apply below_alloc | apply pw_below_drewN | apply below_drew1) | exact HB.out)) hb); clear HB; have HB := n0_; clear n0_; (try clear hb); (try clear hb2); (try clear hk); (try clear hi)))
    repeat (go_quiet (first | (go_at_call 14; (with_reducible refine (hogsheadlaw0_GreatTexts.calls k _ _ l0 12 500 true _ ?side1 ?side2 A2.out).mono ?_); (case side1 => repeat (first | exact HR0.out | (with_reducible refine Kd.C_alloc ?_ _) | (with_reducible refine Kd.C_drewN ?_ _) | (with_reducible refine Kd.C_drew ?_))); (case side2 => exact HC0.out); rintro e w' ⟨rfl, ⟨nd, rfl⟩⟩; (try first | exact ⟨rfl, _, World.drewN_drewN _ _ _⟩ | exact ⟨rfl, _, Eq.trans (World.drewN_drewN _ _ _) (congrArg (World.drewN _) (Nat.add_assoc _ _ _))⟩)) | (go_at_call 13; (with_reducible refine (hogsheadlaw18_awake.calls k  t165 _ A4.out).mono ?_); rintro e w5 ⟨rfl, hb⟩; have n0_ := Aside0.mk (below_step (by repeat (first | (with_reducible first | exact HB.out | apply below_alloc | apply pw_below_drewN | apply below_drew1) | exact HB.out)) hb); clear HB; have HB := n0_; clear n0_; (try clear hb); (try clear hb2); (try clear hk); (try clear hi))); try go_wp2_with (first | (go_at_call 14; (with_reducible refine (hogsheadlaw0_GreatTexts.calls k _ _ l0 12 500 true _ ?side1 ?side2 A2.out).mono ?_); (case side1 => repeat (first | exact HR0.out | (with_reducible refine Kd.C_alloc ?_ _) | (with_reducible refine Kd.C_drewN ?_ _) | (with_reducible refine Kd.C_drew ?_))); (case side2 => exact HC0.out); rintro e w' ⟨rfl, ⟨nd, rfl⟩⟩; (try first | exact ⟨rfl, _, World.drewN_drewN _ _ _⟩ | exact ⟨rfl, _, Eq.trans (World.drewN_drewN _ _ _) (congrArg (World.drewN _) (Nat.add_assoc _ _ _))⟩)) | (go_at_call 13; (with_reducible refine (hogsheadlaw18_awake.calls k  t165 _ A4.out).mono ?_); rintro e w5 ⟨rfl, hb⟩; have n0_ := Aside0.mk (below_step (by repeat (first | (with_reducible first | exact HB.out | apply below_alloc | apply pw_below_drewN | apply below_drew1) | exact HB.out)) hb); clear HB; have HB := n0_; clear n0_; (try clear hb); (try clear hb2); (try clear hk); (try clear hi))))
    go_ret
    exact ⟨by first | rfl | (simp [errW_none, errW_some] <;> rfl) | (simp [*, errW_none, errW_some] <;> rfl), by repeat (first | (with_reducible first | exact HB.out | apply below_alloc | apply pw_below_drewN | apply below_drew1) | exact HB.out)⟩
  · replace c3 := Bool.eq_false_iff.mpr c3
    subst c3
    have H1 : ((blocks_New.f).bind fun bt166 => (hogsheadlaw18_BlocksGrow.l0 k l0 ([] : List ByteArray) 0 bt166.1 bt166.2)) = some r := by rw [if_neg (show ¬ (false = true) by decide)] at H; exact H
    clear H
    have H := H1
    clear H1
    replace H := Option.bind_eq_some_iff.mp H
    obtain ⟨⟨t166, t167⟩, A60, H⟩ := H
    replace H : (hogsheadlaw18_BlocksGrow.l0 k l0 ([] : List ByteArray) 0 t166 t167) = some r := H
    have A6 := Aside0.mk A60
    clear A60
    have H' := Aside0.mk H
    clear H
    go_enter Try.func7, Try.ntmps7
    go_wp2_with (first | (go_at_call 14; (with_reducible refine (hogsheadlaw0_GreatTexts.calls k _ _ l0 12 500 false _ ?side1 ?side2 A2.out).mono ?_); (case side1 => repeat (first | exact HR0.out | (with_reducible refine Kd.C_alloc ?_ _) | (with_reducible refine Kd.C_drewN ?_ _) | (with_reducible refine Kd.C_drew ?_))); (case side2 => exact HC0.out); rintro e w' ⟨rfl, ⟨nd, rfl⟩⟩; (try first | exact ⟨rfl, _, World.drewN_drewN _ _ _⟩ | exact ⟨rfl, _, Eq.trans (World.drewN_drewN _ _ _) (congrArg (World.drewN _) (Nat.add_assoc _ _ _))⟩)) | (go_at_call 8; (fail_if_success (have hIa_ := HIa168.out)); (with_reducible refine (blocks_New.calls  t166 t167 w _ ?side1 A6.out).mono ?_); (case side1 => repeat (first | (with_reducible first | exact HB.out | apply below_alloc | apply pw_below_drewN | apply below_drew1) | exact HB.out)); rintro e w7 ⟨g168, rfl, hi, hb, hb2⟩; have n0_ := Aside0.mk (hb); have n1_ := Aside0.mk (hi); clear HB; have HB := n0_; have HIa168 := n1_; clear n0_ n1_; (try clear hb); (try clear hb2); (try clear hk); (try clear hi)) | (go_at_call 8; (have hIa_ := HIa168.out); (with_reducible refine (blocks_New.calls  t166 t167 _ _ (Below.refl _ _) A6.out).mono ?_); rintro e w99 ⟨h168, rfl, hi, hb, hb2⟩; have n0_ := Aside0.mk (below_step (by repeat (first | (with_reducible first | exact HB.out | apply below_alloc | apply pw_below_drewN | apply below_drew1) | exact HB.out)) hb); have n1_ := Aside0.mk (IsTwo.make (by repeat (first | exact HIa168.out | apply IsS58.alloc | apply IsS58.drewN | apply IsS58.drew)) hi hb2 (below_size (by repeat (first | (with_reducible first | exact HB.out | apply below_alloc | apply pw_below_drewN | apply below_drew1) | exact HB.out)))); clear HB HIa168; have HB := n0_; have HI168 := n1_; clear n0_ n1_ hb hb2 hi hIa_))
    repeat (go_quiet (first | (go_at_call 14; (with_reducible refine (hogsheadlaw0_GreatTexts.calls k _ _ l0 12 500 false _ ?side1 ?side2 A2.out).mono ?_); (case side1 => repeat (first | exact HR0.out | (with_reducible refine Kd.C_alloc ?_ _) | (with_reducible refine Kd.C_drewN ?_ _) | (with_reducible refine Kd.C_drew ?_))); (case side2 => exact HC0.out); rintro e w' ⟨rfl, ⟨nd, rfl⟩⟩; (try first | exact ⟨rfl, _, World.drewN_drewN _ _ _⟩ | exact ⟨rfl, _, Eq.trans (World.drewN_drewN _ _ _) (congrArg (World.drewN _) (Nat.add_assoc _ _ _))⟩)) | (go_at_call 8; (fail_if_success (have hIa_ := HIa168.out)); (with_reducible refine (blocks_New.calls  t166 t167 w _ ?side1 A6.out).mono ?_); (case side1 => repeat (first | (with_reducible first | exact HB.out | apply below_alloc | apply pw_below_drewN | apply below_drew1) | exact HB.out)); rintro e w7 ⟨g168, rfl, hi, hb, hb2⟩; have n0_ := Aside0.mk (hb); have n1_ := Aside0.mk (hi); clear HB; have HB := n0_; have HIa168 := n1_; clear n0_ n1_; (try clear hb); (try clear hb2); (try clear hk); (try clear hi)) | (go_at_call 8; (have hIa_ := HIa168.out); (with_reducible refine (blocks_New.calls  t166 t167 _ _ (Below.refl _ _) A6.out).mono ?_); rintro e w99 ⟨h168, rfl, hi, hb, hb2⟩; have n0_ := Aside0.mk (below_step (by repeat (first | (with_reducible first | exact HB.out | apply below_alloc | apply pw_below_drewN | apply below_drew1) | exact HB.out)) hb); have n1_ := Aside0.mk (IsTwo.make (by repeat (first | exact HIa168.out | apply IsS58.alloc | apply IsS58.drewN | apply IsS58.drew)) hi hb2 (below_size (by repeat (first | (with_reducible first | exact HB.out | apply below_alloc | apply pw_below_drewN | apply below_drew1) | exact HB.out)))); clear HB HIa168; have HB := n0_; have HI168 := n1_; clear n0_ n1_ hb hb2 hi hIa_)); try go_wp2_with (first | (go_at_call 14; (with_reducible refine (hogsheadlaw0_GreatTexts.calls k _ _ l0 12 500 false _ ?side1 ?side2 A2.out).mono ?_); (case side1 => repeat (first | exact HR0.out | (with_reducible refine Kd.C_alloc ?_ _) | (with_reducible refine Kd.C_drewN ?_ _) | (with_reducible refine Kd.C_drew ?_))); (case side2 => exact HC0.out); rintro e w' ⟨rfl, ⟨nd, rfl⟩⟩; (try first | exact ⟨rfl, _, World.drewN_drewN _ _ _⟩ | exact ⟨rfl, _, Eq.trans (World.drewN_drewN _ _ _) (congrArg (World.drewN _) (Nat.add_assoc _ _ _))⟩)) | (go_at_call 8; (fail_if_success (have hIa_ := HIa168.out)); (with_reducible refine (blocks_New.calls  t166 t167 w _ ?side1 A6.out).mono ?_); (case side1 => repeat (first | (with_reducible first | exact HB.out | apply below_alloc | apply pw_below_drewN | apply below_drew1) | exact HB.out)); rintro e w7 ⟨g168, rfl, hi, hb, hb2⟩; have n0_ := Aside0.mk (hb); have n1_ := Aside0.mk (hi); clear HB; have HB := n0_; have HIa168 := n1_; clear n0_ n1_; (try clear hb); (try clear hb2); (try clear hk); (try clear hi)) | (go_at_call 8; (have hIa_ := HIa168.out); (with_reducible refine (blocks_New.calls  t166 t167 _ _ (Below.refl _ _) A6.out).mono ?_); rintro e w99 ⟨h168, rfl, hi, hb, hb2⟩; have n0_ := Aside0.mk (below_step (by repeat (first | (with_reducible first | exact HB.out | apply below_alloc | apply pw_below_drewN | apply below_drew1) | exact HB.out)) hb); have n1_ := Aside0.mk (IsTwo.make (by repeat (first | exact HIa168.out | apply IsS58.alloc | apply IsS58.drewN | apply IsS58.drew)) hi hb2 (below_size (by repeat (first | (with_reducible first | exact HB.out | apply below_alloc | apply pw_below_drewN | apply below_drew1) | exact HB.out)))); clear HB HIa168; have HB := n0_; have HI168 := n1_; clear n0_ n1_ hb hb2 hi hIa_)))
    go_loopg [5, 6] k (fun kq v5 v6 w' => ∃ (x5_1 : List ByteArray) (x6_1 : Int) (x169000_1 : List ByteArray) (x169001_1 : Bool) (u169000 : Value), v6 = .int .i64 x6_1 ∧ Aside0 (hogsheadlaw18_BlocksGrow.l0 kq l0 x5_1 x6_1 x169000_1 x169001_1 = some r) ∧ Aside0 (kq ≤ k) ∧ Aside0 (Kd.R Kd.string 9 w' w.heap.size (fun _ => True) v5 x5_1) ∧ Aside0 (IsTwo w w' g168 h168 x169000_1 x169001_1 x169000_1 x169001_1 [v5]) ∧ Aside0 (Below w.heap.size w w'))
    case atStart => exact ⟨(([] : List ByteArray)), (0), (t166), (t167), (Value.bool false), (by first | rfl | (simp; done) | (simp [*]; done)), H', ⟨Nat.le_refl _⟩, ⟨by first | exact Kd.R_nil _ _ _ _ _ | exact Kd.N_nil _ _ _ _ _ | exact Kd.V_nil _ _ _ _ _ | exact Kd.Q_nil _ _ _ _ _ | exact Kd.S_nil _ _ _ _ _⟩, ⟨by repeat (first | (with_reducible first | exact HI168.out | apply IsTwo.alloc | apply IsTwo.drewN | apply IsTwo.drew) | exact HI168.out | exact IsTwo.sub HI168.out (by simp [Value.ownBlock]))⟩, ⟨by repeat (first | (with_reducible first | exact HB.out | apply below_alloc | apply pw_below_drewN | apply below_drew1 | refine below_set ?_ (IsTwo.ge HI168.out)) | exact HB.out)⟩⟩
    case round =>
      clear H'
      try clear p2
      try clear c3
      try clear c7
      obtain ⟨x5_1, x6_1, x169000_1, x169001_1, u169000, rfl, HA, HK1, HO_5, HI168, HB⟩ := hrel
      cases gk with
      | zero => exact absurd HA.out (by simp [hogsheadlaw18_BlocksGrow.l0])
      | succ k1 =>
        have H := HA.out
        clear HA
        simp only [hogsheadlaw18_BlocksGrow.l0] at H
        by_cases c8 : x6_1 < (l0.length : Int)
        · rw [if_pos c8] at H
          have c8b0 : decide (x6_1 < (l0.length : Int)) = true := decide_eq_true c8
          clear c8
          by_cases c9 : 0 ≤ x6_1
          · rw [if_pos c9] at H
            have c9b0 : decide (0 ≤ x6_1) = true := decide_eq_true c9
            clear c9
            replace H := Option.bind_eq_some_iff.mp H
            obtain ⟨⟨t170, t173, t174, t175⟩, A100, H⟩ := H
            replace H : ((blocks_Table_Put.f k1 t174 t175 (rdOf ByteArray.empty l0 x6_1)).bind fun bt177 => ((blocks_Table_All.f bt177.2.2.1 bt177.2.2.2).bind fun bt183 => (if t173 = 0 then (if bt177.2.1 = 0 then ((hogsheadlaw0_SameInts.f k1 t170 bt177.1).bind fun t188 => (if t188 = true then (if (bt183.1.length : Int) < (x5_1.length : Int) then (hogsheadlaw18_BlocksGrow.j1 k1 l0 x5_1 x6_1 t170 bt183.1 true bt183.2.1 bt183.2.2) else (if (bt183.1.length : Int) > (wrap64 ((x5_1.length : Int) + (t170.length : Int))) then (hogsheadlaw18_BlocksGrow.j1 k1 l0 x5_1 x6_1 t170 bt183.1 true bt183.2.1 bt183.2.2) else (if 0 ≤ (x5_1.length : Int) then (if (x5_1.length : Int) ≤ (bt183.1.length : Int) then ((hogsheadlaw0_SameTexts.f k1 (bt183.1.take ((x5_1.length : Int) : Int).toNat) x5_1).bind fun t193 => (hogsheadlaw18_BlocksGrow.j1 k1 l0 x5_1 x6_1 t170 bt183.1 (!t193) bt183.2.1 bt183.2.2)) else (none)) else (none)))) else (hogsheadlaw18_BlocksGrow.j1 k1 l0 x5_1 x6_1 t170 bt183.1 true bt183.2.1 bt183.2.2))) else (hogsheadlaw18_BlocksGrow.j1 k1 l0 x5_1 x6_1 t170 bt183.1 true bt183.2.1 bt183.2.2)) else (hogsheadlaw18_BlocksGrow.j1 k1 l0 x5_1 x6_1 t170 bt183.1 true bt183.2.1 bt183.2.2)))) = some r := H
            have A10 := Aside0.mk A100
            clear A100
            replace H := Option.bind_eq_some_iff.mp H
            obtain ⟨⟨t177, t180, t181, t182⟩, A110, H⟩ := H
            replace H : ((blocks_Table_All.f t181 t182).bind fun bt183 => (if t173 = 0 then (if t180 = 0 then ((hogsheadlaw0_SameInts.f k1 t170 t177).bind fun t188 => (if t188 = true then (if (bt183.1.length : Int) < (x5_1.length : Int) then (hogsheadlaw18_BlocksGrow.j1 k1 l0 x5_1 x6_1 t170 bt183.1 true bt183.2.1 bt183.2.2) else (if (bt183.1.length : Int) > (wrap64 ((x5_1.length : Int) + (t170.length : Int))) then (hogsheadlaw18_BlocksGrow.j1 k1 l0 x5_1 x6_1 t170 bt183.1 true bt183.2.1 bt183.2.2) else (if 0 ≤ (x5_1.length : Int) then (if (x5_1.length : Int) ≤ (bt183.1.length : Int) then ((hogsheadlaw0_SameTexts.f k1 (bt183.1.take ((x5_1.length : Int) : Int).toNat) x5_1).bind fun t193 => (hogsheadlaw18_BlocksGrow.j1 k1 l0 x5_1 x6_1 t170 bt183.1 (!t193) bt183.2.1 bt183.2.2)) else (none)) else (none)))) else (hogsheadlaw18_BlocksGrow.j1 k1 l0 x5_1 x6_1 t170 bt183.1 true bt183.2.1 bt183.2.2))) else (hogsheadlaw18_BlocksGrow.j1 k1 l0 x5_1 x6_1 t170 bt183.1 true bt183.2.1 bt183.2.2)) else (hogsheadlaw18_BlocksGrow.j1 k1 l0 x5_1 x6_1 t170 bt183.1 true bt183.2.1 bt183.2.2))) = some r := H
            have A11 := Aside0.mk A110
            clear A110
            replace H := Option.bind_eq_some_iff.mp H
            obtain ⟨⟨t183, t186, t187⟩, A120, H⟩ := H
            replace H : (if t173 = 0 then (if t180 = 0 then ((hogsheadlaw0_SameInts.f k1 t170 t177).bind fun t188 => (if t188 = true then (if (t183.length : Int) < (x5_1.length : Int) then (hogsheadlaw18_BlocksGrow.j1 k1 l0 x5_1 x6_1 t170 t183 true t186 t187) else (if (t183.length : Int) > (wrap64 ((x5_1.length : Int) + (t170.length : Int))) then (hogsheadlaw18_BlocksGrow.j1 k1 l0 x5_1 x6_1 t170 t183 true t186 t187) else (if 0 ≤ (x5_1.length : Int) then (if (x5_1.length : Int) ≤ (t183.length : Int) then ((hogsheadlaw0_SameTexts.f k1 (t183.take ((x5_1.length : Int) : Int).toNat) x5_1).bind fun t193 => (hogsheadlaw18_BlocksGrow.j1 k1 l0 x5_1 x6_1 t170 t183 (!t193) t186 t187)) else (none)) else (none)))) else (hogsheadlaw18_BlocksGrow.j1 k1 l0 x5_1 x6_1 t170 t183 true t186 t187))) else (hogsheadlaw18_BlocksGrow.j1 k1 l0 x5_1 x6_1 t170 t183 true t186 t187)) else (hogsheadlaw18_BlocksGrow.j1 k1 l0 x5_1 x6_1 t170 t183 true t186 t187)) = some r := H
            have A12 := Aside0.mk A120
            clear A120
            have HC13 := Aside0.mk H
            clear H
            have p169 : 0 ≤ (x6_1 : Int) := of_decide_eq_true (by first | (with_reducible assumption) | assumption)
            have q169 : x6_1 < (l0.length : Int) := of_decide_eq_true (by first | (with_reducible assumption) | assumption)
            obtain ⟨ad169, e169, hx169_0⟩ := Kd.at_string HR0.out x6_1 p169 q169
            cases e169
            replace hx169_0 := (HB.out.cell (World.block_lt_of_cell? w _ hx169_0)).trans hx169_0
            replace p169 := eq_true p169
            replace q169 := eq_true q169
            go_upto_region 13 with (first | (go_at_call 9; (with_reducible refine (putFst k1 g168 h168 x169000_1 x169001_1 x169000_1 x169001_1 ?vs377_ (rdOf ByteArray.empty l0 x6_1) t170 t173 t174 t175 w _ ?side1 ?side2 A10.out).mono ?_); (case side1 => repeat (first | (with_reducible first | exact HI168.out | apply IsTwo.alloc | apply IsTwo.drewN | apply IsTwo.drew) | exact HI168.out | exact IsTwo.sub HI168.out (by simp [Value.ownBlock]))); (case side2 => repeat (first | (with_reducible first | exact HB.out | apply below_alloc | apply pw_below_drewN | apply below_drew1 | refine below_set ?_ (IsTwo.ge HI168.out)) | exact HB.out)); rintro e w14 ⟨v171, rfl, ho0, hi, hb, hk⟩; have n0_ := Aside0.mk (Kd.R_mono (Kd.R_kept (IsTwo.apartV (show IsTwo w _ g168 h168 _ _ _ _ _ from by repeat (first | (with_reducible first | exact HI168.out | apply IsTwo.alloc | apply IsTwo.drewN | apply IsTwo.drew) | exact HI168.out | exact IsTwo.sub HI168.out (by simp [Value.ownBlock]))) (by (with_reducible repeat (first | apply Kd.R_alloc | apply Kd.R_drewN | apply Kd.R_drew)); exact HO_5.out) (by simp)) hk (fun _ h => h.2)) (fun _ h => h.1)); have n1_ := Aside0.mk (Kd.R_lower ho0 (below_size (by repeat (first | (with_reducible first | exact HB.out | apply below_alloc | apply pw_below_drewN | apply below_drew1 | refine below_set ?_ (IsTwo.ge HI168.out)) | exact HB.out)))); have n2_ := Aside0.mk (hb); have n3_ := Aside0.mk (hi); clear HO_5; clear HB; clear HI168; have HO_5 := n0_; have HO172 := n1_; have HB := n2_; have HI168 := n3_; clear n0_ n1_ n2_ n3_; (try clear hb); (try clear hb2); (try clear hk); (try clear hi); (try clear ho0); have p176 : 0 ≤ (x6_1 : Int) := of_decide_eq_true (by first | (with_reducible assumption) | assumption); have q176 : x6_1 < (l0.length : Int) := of_decide_eq_true (by first | (with_reducible assumption) | assumption); obtain ⟨ad176, e176, hx176_0⟩ := Kd.at_string HR0.out x6_1 p176 q176; obtain rfl : ad169 = ad176 := (by injection e176); replace hx176_0 := (HB.out.cell (World.block_lt_of_cell? w _ hx176_0)).trans hx176_0; replace p176 := eq_true p176; replace q176 := eq_true q176) | (go_at_call 9; (with_reducible refine (putSnd k1 g168 h168 t174 t175 x169000_1 x169001_1 ?vs378_ (rdOf ByteArray.empty l0 x6_1) t170 t173 t177 t180 t181 t182 w _ ?side1 ?side2 A10.out A11.out).mono ?_); (case side1 => repeat (first | (with_reducible first | exact HI168.out | apply IsTwo.alloc | apply IsTwo.drewN | apply IsTwo.drew) | exact HI168.out | exact IsTwo.sub HI168.out (by simp [Value.ownBlock]))); (case side2 => repeat (first | (with_reducible first | exact HB.out | apply below_alloc | apply pw_below_drewN | apply below_drew1 | refine below_set ?_ (IsTwo.ge HI168.out)) | exact HB.out)); rintro e w15 ⟨v178, rfl, ho0, hi, hb, hk⟩; have n0_ := Aside0.mk (Kd.R_mono (Kd.R_kept (IsTwo.apartV (show IsTwo w _ g168 h168 _ _ _ _ _ from by repeat (first | (with_reducible first | exact HI168.out | apply IsTwo.alloc | apply IsTwo.drewN | apply IsTwo.drew) | exact HI168.out | exact IsTwo.sub HI168.out (by simp [Value.ownBlock]))) (by (with_reducible repeat (first | apply Kd.R_alloc | apply Kd.R_drewN | apply Kd.R_drew)); exact HO_5.out) (by simp)) hk (fun _ h => h.2)) (fun _ h => h.1)); have n1_ := Aside0.mk (Kd.R_mono (Kd.R_told (R_oldT (IsTwo.apartT (show IsTwo w _ g168 h168 _ _ _ _ _ from by repeat (first | (with_reducible first | exact HI168.out | apply IsTwo.alloc | apply IsTwo.drewN | apply IsTwo.drew) | exact HI168.out | exact IsTwo.sub HI168.out (by simp [Value.ownBlock]))) (by (with_reducible repeat (first | apply Kd.R_alloc | apply Kd.R_drewN | apply Kd.R_drew)); exact HO172.out) (by decide)) hk) (Kd.R_base ho0)) (fun _ h_ => h_.1)); have n2_ := Aside0.mk (Kd.R_lower (Kd.R_new' ho0 (Kd.R_lt (by (with_reducible repeat (first | apply Kd.R_alloc | apply Kd.R_drewN | apply Kd.R_drew)); exact HO172.out))) (below_size (by repeat (first | (with_reducible first | exact HB.out | apply below_alloc | apply pw_below_drewN | apply below_drew1 | refine below_set ?_ (IsTwo.ge HI168.out)) | exact HB.out)))); have n3_ := Aside0.mk (hb); have n4_ := Aside0.mk (hi); clear HO_5; clear HO172; clear HB; clear HI168; have HO_5 := n0_; have HO172 := n1_; have HO179 := n2_; have HB := n3_; have HI168 := n4_; clear n0_ n1_ n2_ n3_ n4_; (try clear hb); (try clear hb2); (try clear hk); (try clear hi); (try clear ho0)) | (go_at_call 19; (with_reducible refine (allFst g168 h168 t181 t182 ?vs379_ t183 t186 t187 w _ ?side1 ?side2 A12.out).mono ?_); (case side1 => repeat (first | (with_reducible first | exact HI168.out | apply IsTwo.alloc | apply IsTwo.drewN | apply IsTwo.drew) | exact HI168.out | exact IsTwo.sub HI168.out (by simp [Value.ownBlock]))); (case side2 => repeat (first | (with_reducible first | exact HB.out | apply below_alloc | apply pw_below_drewN | apply below_drew1 | refine below_set ?_ (IsTwo.ge HI168.out)) | exact HB.out)); rintro e w16 ⟨v184, rfl, ho0, hi, hb, hk⟩; have n0_ := Aside0.mk (Kd.R_mono (Kd.R_told (R_oldT (IsTwo.apartV (show IsTwo w _ g168 h168 _ _ _ _ _ from by repeat (first | (with_reducible first | exact HI168.out | apply IsTwo.alloc | apply IsTwo.drewN | apply IsTwo.drew) | exact HI168.out | exact IsTwo.sub HI168.out (by simp [Value.ownBlock]))) (by (with_reducible repeat (first | apply Kd.R_alloc | apply Kd.R_drewN | apply Kd.R_drew)); exact HO_5.out) (by simp)) hk) (Kd.R_base ho0)) (fun _ h_ => h_.1)); have n1_ := Aside0.mk (Kd.R_mono (Kd.R_kept (IsTwo.apartT (show IsTwo w _ g168 h168 _ _ _ _ _ from by repeat (first | (with_reducible first | exact HI168.out | apply IsTwo.alloc | apply IsTwo.drewN | apply IsTwo.drew) | exact HI168.out | exact IsTwo.sub HI168.out (by simp [Value.ownBlock]))) (by (with_reducible repeat (first | apply Kd.R_alloc | apply Kd.R_drewN | apply Kd.R_drew)); exact HO172.out) (by decide)) hk (fun _ h => h.2)) (fun _ h => h.1)); have n2_ := Aside0.mk (Kd.R_mono (Kd.R_kept (IsTwo.apartT (show IsTwo w _ g168 h168 _ _ _ _ _ from by repeat (first | (with_reducible first | exact HI168.out | apply IsTwo.alloc | apply IsTwo.drewN | apply IsTwo.drew) | exact HI168.out | exact IsTwo.sub HI168.out (by simp [Value.ownBlock]))) (by (with_reducible repeat (first | apply Kd.R_alloc | apply Kd.R_drewN | apply Kd.R_drew)); exact HO179.out) (by decide)) hk (fun _ h => h.2)) (fun _ h => h.1)); have n3_ := Aside0.mk (Kd.R_lower (Kd.R_new' ho0 (Kd.R_lt (by (with_reducible repeat (first | apply Kd.R_alloc | apply Kd.R_drewN | apply Kd.R_drew)); exact HO_5.out))) (below_size (by repeat (first | (with_reducible first | exact HB.out | apply below_alloc | apply pw_below_drewN | apply below_drew1 | refine below_set ?_ (IsTwo.ge HI168.out)) | exact HB.out)))); have n4_ := Aside0.mk (hb); have n5_ := Aside0.mk (hi); clear HO_5; clear HO172; clear HO179; clear HB; clear HI168; have HO_5 := n0_; have HO172 := n1_; have HO179 := n2_; have HO185 := n3_; have HB := n4_; have HI168 := n5_; clear n0_ n1_ n2_ n3_ n4_ n5_; (try clear hb); (try clear hb2); (try clear hk); (try clear hi); (try clear ho0)))
            repeat (go_quiet (first | (go_at_call 9; (with_reducible refine (putFst k1 g168 h168 x169000_1 x169001_1 x169000_1 x169001_1 ?vs381_ (rdOf ByteArray.empty l0 x6_1) t170 t173 t174 t175 w _ ?side1 ?side2 A10.out).mono ?_); (case side1 => repeat (first | (with_reducible first | exact HI168.out | apply IsTwo.alloc | apply IsTwo.drewN | apply IsTwo.drew) | exact HI168.out | exact IsTwo.sub HI168.out (by simp [Value.ownBlock]))); (case side2 => repeat (first | (with_reducible first | exact HB.out | apply below_alloc | apply pw_below_drewN | apply below_drew1 | refine below_set ?_ (IsTwo.ge HI168.out)) | exact HB.out)); rintro e w14 ⟨v171, rfl, ho0, hi, hb, hk⟩; have n0_ := Aside0.mk (Kd.R_mono (Kd.R_kept (IsTwo.apartV (show IsTwo w _ g168 h168 _ _ _ _ _ from by repeat (first | (with_reducible first | exact HI168.out | apply IsTwo.alloc | apply IsTwo.drewN | apply IsTwo.drew) | exact HI168.out | exact IsTwo.sub HI168.out (by simp [Value.ownBlock]))) (by (with_reducible repeat (first | apply Kd.R_alloc | apply Kd.R_drewN | apply Kd.R_drew)); exact HO_5.out) (by simp)) hk (fun _ h => h.2)) (fun _ h => h.1)); have n1_ := Aside0.mk (Kd.R_lower ho0 (below_size (by repeat (first | (with_reducible first | exact HB.out | apply below_alloc | apply pw_below_drewN | apply below_drew1 | refine below_set ?_ (IsTwo.ge HI168.out)) | exact HB.out)))); have n2_ := Aside0.mk (hb); have n3_ := Aside0.mk (hi); clear HO_5; clear HB; clear HI168; have HO_5 := n0_; have HO172 := n1_; have HB := n2_; have HI168 := n3_; clear n0_ n1_ n2_ n3_; (try clear hb); (try clear hb2); (try clear hk); (try clear hi); (try clear ho0); have p176 : 0 ≤ (x6_1 : Int) := of_decide_eq_true (by first | (with_reducible assumption) | assumption); have q176 : x6_1 < (l0.length : Int) := of_decide_eq_true (by first | (with_reducible assumption) | assumption); obtain ⟨ad176, e176, hx176_0⟩ := Kd.at_string HR0.out x6_1 p176 q176; obtain rfl : ad169 = ad176 := (by injection e176); replace hx176_0 := (HB.out.cell (World.block_lt_of_cell? w _ hx176_0)).trans hx176_0; replace p176 := eq_true p176; replace q176 := eq_true q176) | (go_at_call 9; (with_reducible refine (putSnd k1 g168 h168 t174 t175 x169000_1 x169001_1 ?vs382_ (rdOf ByteArray.empty l0 x6_1) t170 t173 t177 t180 t181 t182 w _ ?side1 ?side2 A10.out A11.out).mono ?_); (case side1 => repeat (first | (with_reducible first | exact HI168.out | apply IsTwo.alloc | apply IsTwo.drewN | apply IsTwo.drew) | exact HI168.out | exact IsTwo.sub HI168.out (by simp [Value.ownBlock]))); (case side2 => repeat (first | (with_reducible first | exact HB.out | apply below_alloc | apply pw_below_drewN | apply below_drew1 | refine below_set ?_ (IsTwo.ge HI168.out)) | exact HB.out)); rintro e w15 ⟨v178, rfl, ho0, hi, hb, hk⟩; have n0_ := Aside0.mk (Kd.R_mono (Kd.R_kept (IsTwo.apartV (show IsTwo w _ g168 h168 _ _ _ _ _ from by repeat (first | (with_reducible first | exact HI168.out | apply IsTwo.alloc | apply IsTwo.drewN | apply IsTwo.drew) | exact HI168.out | exact IsTwo.sub HI168.out (by simp [Value.ownBlock]))) (by (with_reducible repeat (first | apply Kd.R_alloc | apply Kd.R_drewN | apply Kd.R_drew)); exact HO_5.out) (by simp)) hk (fun _ h => h.2)) (fun _ h => h.1)); have n1_ := Aside0.mk (Kd.R_mono (Kd.R_told (R_oldT (IsTwo.apartT (show IsTwo w _ g168 h168 _ _ _ _ _ from by repeat (first | (with_reducible first | exact HI168.out | apply IsTwo.alloc | apply IsTwo.drewN | apply IsTwo.drew) | exact HI168.out | exact IsTwo.sub HI168.out (by simp [Value.ownBlock]))) (by (with_reducible repeat (first | apply Kd.R_alloc | apply Kd.R_drewN | apply Kd.R_drew)); exact HO172.out) (by decide)) hk) (Kd.R_base ho0)) (fun _ h_ => h_.1)); have n2_ := Aside0.mk (Kd.R_lower (Kd.R_new' ho0 (Kd.R_lt (by (with_reducible repeat (first | apply Kd.R_alloc | apply Kd.R_drewN | apply Kd.R_drew)); exact HO172.out))) (below_size (by repeat (first | (with_reducible first | exact HB.out | apply below_alloc | apply pw_below_drewN | apply below_drew1 | refine below_set ?_ (IsTwo.ge HI168.out)) | exact HB.out)))); have n3_ := Aside0.mk (hb); have n4_ := Aside0.mk (hi); clear HO_5; clear HO172; clear HB; clear HI168; have HO_5 := n0_; have HO172 := n1_; have HO179 := n2_; have HB := n3_; have HI168 := n4_; clear n0_ n1_ n2_ n3_ n4_; (try clear hb); (try clear hb2); (try clear hk); (try clear hi); (try clear ho0)) | (go_at_call 19; (with_reducible refine (allFst g168 h168 t181 t182 ?vs383_ t183 t186 t187 w _ ?side1 ?side2 A12.out).mono ?_); (case side1 => repeat (first | (with_reducible first | exact HI168.out | apply IsTwo.alloc | apply IsTwo.drewN | apply IsTwo.drew) | exact HI168.out | exact IsTwo.sub HI168.out (by simp [Value.ownBlock]))); (case side2 => repeat (first | (with_reducible first | exact HB.out | apply below_alloc | apply pw_below_drewN | apply below_drew1 | refine below_set ?_ (IsTwo.ge HI168.out)) | exact HB.out)); rintro e w16 ⟨v184, rfl, ho0, hi, hb, hk⟩; have n0_ := Aside0.mk (Kd.R_mono (Kd.R_told (R_oldT (IsTwo.apartV (show IsTwo w _ g168 h168 _ _ _ _ _ from by repeat (first | (with_reducible first | exact HI168.out | apply IsTwo.alloc | apply IsTwo.drewN | apply IsTwo.drew) | exact HI168.out | exact IsTwo.sub HI168.out (by simp [Value.ownBlock]))) (by (with_reducible repeat (first | apply Kd.R_alloc | apply Kd.R_drewN | apply Kd.R_drew)); exact HO_5.out) (by simp)) hk) (Kd.R_base ho0)) (fun _ h_ => h_.1)); have n1_ := Aside0.mk (Kd.R_mono (Kd.R_kept (IsTwo.apartT (show IsTwo w _ g168 h168 _ _ _ _ _ from by repeat (first | (with_reducible first | exact HI168.out | apply IsTwo.alloc | apply IsTwo.drewN | apply IsTwo.drew) | exact HI168.out | exact IsTwo.sub HI168.out (by simp [Value.ownBlock]))) (by (with_reducible repeat (first | apply Kd.R_alloc | apply Kd.R_drewN | apply Kd.R_drew)); exact HO172.out) (by decide)) hk (fun _ h => h.2)) (fun _ h => h.1)); have n2_ := Aside0.mk (Kd.R_mono (Kd.R_kept (IsTwo.apartT (show IsTwo w _ g168 h168 _ _ _ _ _ from by repeat (first | (with_reducible first | exact HI168.out | apply IsTwo.alloc | apply IsTwo.drewN | apply IsTwo.drew) | exact HI168.out | exact IsTwo.sub HI168.out (by simp [Value.ownBlock]))) (by (with_reducible repeat (first | apply Kd.R_alloc | apply Kd.R_drewN | apply Kd.R_drew)); exact HO179.out) (by decide)) hk (fun _ h => h.2)) (fun _ h => h.1)); have n3_ := Aside0.mk (Kd.R_lower (Kd.R_new' ho0 (Kd.R_lt (by (with_reducible repeat (first | apply Kd.R_alloc | apply Kd.R_drewN | apply Kd.R_drew)); exact HO_5.out))) (below_size (by repeat (first | (with_reducible first | exact HB.out | apply below_alloc | apply pw_below_drewN | apply below_drew1 | refine below_set ?_ (IsTwo.ge HI168.out)) | exact HB.out)))); have n4_ := Aside0.mk (hb); have n5_ := Aside0.mk (hi); clear HO_5; clear HO172; clear HO179; clear HB; clear HI168; have HO_5 := n0_; have HO172 := n1_; have HO179 := n2_; have HO185 := n3_; have HB := n4_; have HI168 := n5_; clear n0_ n1_ n2_ n3_ n4_ n5_; (try clear hb); (try clear hb2); (try clear hk); (try clear hi); (try clear ho0))); go_upto_region 13 with (first | (go_at_call 9; (with_reducible refine (putFst k1 g168 h168 x169000_1 x169001_1 x169000_1 x169001_1 ?vs384_ (rdOf ByteArray.empty l0 x6_1) t170 t173 t174 t175 w _ ?side1 ?side2 A10.out).mono ?_); (case side1 => repeat (first | (with_reducible first | exact HI168.out | apply IsTwo.alloc | apply IsTwo.drewN | apply IsTwo.drew) | exact HI168.out | exact IsTwo.sub HI168.out (by simp [Value.ownBlock]))); (case side2 => repeat (first | (with_reducible first | exact HB.out | apply below_alloc | apply pw_below_drewN | apply below_drew1 | refine below_set ?_ (IsTwo.ge HI168.out)) | exact HB.out)); rintro e w14 ⟨v171, rfl, ho0, hi, hb, hk⟩; have n0_ := Aside0.mk (Kd.R_mono (Kd.R_kept (IsTwo.apartV (show IsTwo w _ g168 h168 _ _ _ _ _ from by repeat (first | (with_reducible first | exact HI168.out | apply IsTwo.alloc | apply IsTwo.drewN | apply IsTwo.drew) | exact HI168.out | exact IsTwo.sub HI168.out (by simp [Value.ownBlock]))) (by (with_reducible repeat (first | apply Kd.R_alloc | apply Kd.R_drewN | apply Kd.R_drew)); exact HO_5.out) (by simp)) hk (fun _ h => h.2)) (fun _ h => h.1)); have n1_ := Aside0.mk (Kd.R_lower ho0 (below_size (by repeat (first | (with_reducible first | exact HB.out | apply below_alloc | apply pw_below_drewN | apply below_drew1 | refine below_set ?_ (IsTwo.ge HI168.out)) | exact HB.out)))); have n2_ := Aside0.mk (hb); have n3_ := Aside0.mk (hi); clear HO_5; clear HB; clear HI168; have HO_5 := n0_; have HO172 := n1_; have HB := n2_; have HI168 := n3_; clear n0_ n1_ n2_ n3_; (try clear hb); (try clear hb2); (try clear hk); (try clear hi); (try clear ho0); have p176 : 0 ≤ (x6_1 : Int) := of_decide_eq_true (by first | (with_reducible assumption) | assumption); have q176 : x6_1 < (l0.length : Int) := of_decide_eq_true (by first | (with_reducible assumption) | assumption); obtain ⟨ad176, e176, hx176_0⟩ := Kd.at_string HR0.out x6_1 p176 q176; obtain rfl : ad169 = ad176 := (by injection e176); replace hx176_0 := (HB.out.cell (World.block_lt_of_cell? w _ hx176_0)).trans hx176_0; replace p176 := eq_true p176; replace q176 := eq_true q176) | (go_at_call 9; (with_reducible refine (putSnd k1 g168 h168 t174 t175 x169000_1 x169001_1 ?vs385_ (rdOf ByteArray.empty l0 x6_1) t170 t173 t177 t180 t181 t182 w _ ?side1 ?side2 A10.out A11.out).mono ?_); (case side1 => repeat (first | (with_reducible first | exact HI168.out | apply IsTwo.alloc | apply IsTwo.drewN | apply IsTwo.drew) | exact HI168.out | exact IsTwo.sub HI168.out (by simp [Value.ownBlock]))); (case side2 => repeat (first | (with_reducible first | exact HB.out | apply below_alloc | apply pw_below_drewN | apply below_drew1 | refine below_set ?_ (IsTwo.ge HI168.out)) | exact HB.out)); rintro e w15 ⟨v178, rfl, ho0, hi, hb, hk⟩; have n0_ := Aside0.mk (Kd.R_mono (Kd.R_kept (IsTwo.apartV (show IsTwo w _ g168 h168 _ _ _ _ _ from by repeat (first | (with_reducible first | exact HI168.out | apply IsTwo.alloc | apply IsTwo.drewN | apply IsTwo.drew) | exact HI168.out | exact IsTwo.sub HI168.out (by simp [Value.ownBlock]))) (by (with_reducible repeat (first | apply Kd.R_alloc | apply Kd.R_drewN | apply Kd.R_drew)); exact HO_5.out) (by simp)) hk (fun _ h => h.2)) (fun _ h => h.1)); have n1_ := Aside0.mk (Kd.R_mono (Kd.R_told (R_oldT (IsTwo.apartT (show IsTwo w _ g168 h168 _ _ _ _ _ from by repeat (first | (with_reducible first | exact HI168.out | apply IsTwo.alloc | apply IsTwo.drewN | apply IsTwo.drew) | exact HI168.out | exact IsTwo.sub HI168.out (by simp [Value.ownBlock]))) (by (with_reducible repeat (first | apply Kd.R_alloc | apply Kd.R_drewN | apply Kd.R_drew)); exact HO172.out) (by decide)) hk) (Kd.R_base ho0)) (fun _ h_ => h_.1)); have n2_ := Aside0.mk (Kd.R_lower (Kd.R_new' ho0 (Kd.R_lt (by (with_reducible repeat (first | apply Kd.R_alloc | apply Kd.R_drewN | apply Kd.R_drew)); exact HO172.out))) (below_size (by repeat (first | (with_reducible first | exact HB.out | apply below_alloc | apply pw_below_drewN | apply below_drew1 | refine below_set ?_ (IsTwo.ge HI168.out)) | exact HB.out)))); have n3_ := Aside0.mk (hb); have n4_ := Aside0.mk (hi); clear HO_5; clear HO172; clear HB; clear HI168; have HO_5 := n0_; have HO172 := n1_; have HO179 := n2_; have HB := n3_; have HI168 := n4_; clear n0_ n1_ n2_ n3_ n4_; (try clear hb); (try clear hb2); (try clear hk); (try clear hi); (try clear ho0)) | (go_at_call 19; (with_reducible refine (allFst g168 h168 t181 t182 ?vs386_ t183 t186 t187 w _ ?side1 ?side2 A12.out).mono ?_); (case side1 => repeat (first | (with_reducible first | exact HI168.out | apply IsTwo.alloc | apply IsTwo.drewN | apply IsTwo.drew) | exact HI168.out | exact IsTwo.sub HI168.out (by simp [Value.ownBlock]))); (case side2 => repeat (first | (with_reducible first | exact HB.out | apply below_alloc | apply pw_below_drewN | apply below_drew1 | refine below_set ?_ (IsTwo.ge HI168.out)) | exact HB.out)); rintro e w16 ⟨v184, rfl, ho0, hi, hb, hk⟩; have n0_ := Aside0.mk (Kd.R_mono (Kd.R_told (R_oldT (IsTwo.apartV (show IsTwo w _ g168 h168 _ _ _ _ _ from by repeat (first | (with_reducible first | exact HI168.out | apply IsTwo.alloc | apply IsTwo.drewN | apply IsTwo.drew) | exact HI168.out | exact IsTwo.sub HI168.out (by simp [Value.ownBlock]))) (by (with_reducible repeat (first | apply Kd.R_alloc | apply Kd.R_drewN | apply Kd.R_drew)); exact HO_5.out) (by simp)) hk) (Kd.R_base ho0)) (fun _ h_ => h_.1)); have n1_ := Aside0.mk (Kd.R_mono (Kd.R_kept (IsTwo.apartT (show IsTwo w _ g168 h168 _ _ _ _ _ from by repeat (first | (with_reducible first | exact HI168.out | apply IsTwo.alloc | apply IsTwo.drewN | apply IsTwo.drew) | exact HI168.out | exact IsTwo.sub HI168.out (by simp [Value.ownBlock]))) (by (with_reducible repeat (first | apply Kd.R_alloc | apply Kd.R_drewN | apply Kd.R_drew)); exact HO172.out) (by decide)) hk (fun _ h => h.2)) (fun _ h => h.1)); have n2_ := Aside0.mk (Kd.R_mono (Kd.R_kept (IsTwo.apartT (show IsTwo w _ g168 h168 _ _ _ _ _ from by repeat (first | (with_reducible first | exact HI168.out | apply IsTwo.alloc | apply IsTwo.drewN | apply IsTwo.drew) | exact HI168.out | exact IsTwo.sub HI168.out (by simp [Value.ownBlock]))) (by (with_reducible repeat (first | apply Kd.R_alloc | apply Kd.R_drewN | apply Kd.R_drew)); exact HO179.out) (by decide)) hk (fun _ h => h.2)) (fun _ h => h.1)); have n3_ := Aside0.mk (Kd.R_lower (Kd.R_new' ho0 (Kd.R_lt (by (with_reducible repeat (first | apply Kd.R_alloc | apply Kd.R_drewN | apply Kd.R_drew)); exact HO_5.out))) (below_size (by repeat (first | (with_reducible first | exact HB.out | apply below_alloc | apply pw_below_drewN | apply below_drew1 | refine below_set ?_ (IsTwo.ge HI168.out)) | exact HB.out)))); have n4_ := Aside0.mk (hb); have n5_ := Aside0.mk (hi); clear HO_5; clear HO172; clear HO179; clear HB; clear HI168; have HO_5 := n0_; have HO172 := n1_; have HO179 := n2_; have HO185 := n3_; have HB := n4_; have HI168 := n5_; clear n0_ n1_ n2_ n3_ n4_ n5_; (try clear hb); (try clear hb2); (try clear hk); (try clear hi); (try clear ho0))))
            (try simp only [Act.put, List.setIfInBounds_toArray, List.set_cons_zero, List.set_cons_succ])
            go_cut [88] (fun v88 wc => ∃ (kq : Nat) (x88_12 : Bool), v88 = .bool x88_12 ∧ Aside0 (hogsheadlaw18_BlocksGrow.j1 kq l0 x5_1 x6_1 t170 t183 x88_12 t186 t187 = some r) ∧ Aside0 (kq ≤ k1) ∧ Aside0 (Kd.R Kd.string 9 wc w.heap.size (fun k_ => some k_ ≠ (v184 : Value).ownBlock) u5 x5_1) ∧ Aside0 (Kd.R (Kd.int .i64) 3 wc w.heap.size (fun _ => True) v171 t170) ∧ Aside0 (Kd.R Kd.string 9 wc w.heap.size (fun k_ => some k_ ≠ (u5 : Value).ownBlock) v184 t183) ∧ Aside0 (IsTwo w wc g168 h168 t186 t187 t186 t187 [v184, u5]) ∧ Aside0 (Below w.heap.size w wc))
            case first =>
              have H := HC13.out
              clear HC13
              by_cases c17 : t173 = 0
              · rw [if_pos c17] at H
                have c17b0 : (t173 == 0) = true := beq_iff_eq.mpr c17
                have c17b1 : (t173 != 0) = false := bne_eq_false_iff_eq.mpr c17
                clear c17
                (first | rw [c17b0] | (simp only [i64_w, i32_w]; rw [c17b0]) | skip)
                by_cases c18 : t180 = 0
                · rw [if_pos c18] at H
                  have c18b0 : (t180 == 0) = true := beq_iff_eq.mpr c18
                  have c18b1 : (t180 != 0) = false := bne_eq_false_iff_eq.mpr c18
                  clear c18
                  replace H := Option.bind_eq_some_iff.mp H
                  obtain ⟨t188, A190, H⟩ := H
                  replace H : (if t188 = true then (if (t183.length : Int) < (x5_1.length : Int) then (hogsheadlaw18_BlocksGrow.j1 k1 l0 x5_1 x6_1 t170 t183 true t186 t187) else (if (t183.length : Int) > (wrap64 ((x5_1.length : Int) + (t170.length : Int))) then (hogsheadlaw18_BlocksGrow.j1 k1 l0 x5_1 x6_1 t170 t183 true t186 t187) else (if 0 ≤ (x5_1.length : Int) then (if (x5_1.length : Int) ≤ (t183.length : Int) then ((hogsheadlaw0_SameTexts.f k1 (t183.take ((x5_1.length : Int) : Int).toNat) x5_1).bind fun t193 => (hogsheadlaw18_BlocksGrow.j1 k1 l0 x5_1 x6_1 t170 t183 (!t193) t186 t187)) else (none)) else (none)))) else (hogsheadlaw18_BlocksGrow.j1 k1 l0 x5_1 x6_1 t170 t183 true t186 t187)) = some r := H
                  have A19 := Aside0.mk A190
                  clear A190
                  by_cases c20 : t188 = true
                  · subst c20
                    have H1 : (if (t183.length : Int) < (x5_1.length : Int) then (hogsheadlaw18_BlocksGrow.j1 k1 l0 x5_1 x6_1 t170 t183 true t186 t187) else (if (t183.length : Int) > (wrap64 ((x5_1.length : Int) + (t170.length : Int))) then (hogsheadlaw18_BlocksGrow.j1 k1 l0 x5_1 x6_1 t170 t183 true t186 t187) else (if 0 ≤ (x5_1.length : Int) then (if (x5_1.length : Int) ≤ (t183.length : Int) then ((hogsheadlaw0_SameTexts.f k1 (t183.take ((x5_1.length : Int) : Int).toNat) x5_1).bind fun t193 => (hogsheadlaw18_BlocksGrow.j1 k1 l0 x5_1 x6_1 t170 t183 (!t193) t186 t187)) else (none)) else (none)))) = some r := by rw [if_pos rfl] at H; exact H
                    clear H
                    have H := H1
                    clear H1
                    by_cases c21 : (t183.length : Int) < (x5_1.length : Int)
                    · rw [if_pos c21] at H
                      have c21b0 : decide ((t183.length : Int) < (x5_1.length : Int)) = true := decide_eq_true c21
                      have c21b1 : decide (t183.length < x5_1.length) = true := decide_eq_true (Int.ofNat_lt.mp c21)
                      clear c21
                      have H' := Aside0.mk H
                      clear H
                      obtain ⟨Ao22, co22, eo22⟩ := Kd.R_slice HO172.out
                      subst eo22
                      obtain ⟨Ao23, co23, eo23⟩ := Kd.R_slice HO179.out
                      subst eo23
                      go_wp2_with (first | (go_at_call 11; (with_reducible refine (hogsheadlaw0_SameInts.calls k1 _ _ t170 _ _ t177 true _ ?side1 ?side2 ?side3 ?side4 A19.out).mono ?_); (case side1 => repeat (first | exact (Kd.R_reads' HO172.out).2.2 | (with_reducible refine Kd.C_alloc ?_ _) | (with_reducible refine Kd.C_drewN ?_ _) | (with_reducible refine Kd.C_drew ?_))); (case side2 => exact (Kd.R_reads' HO172.out).2.1); (case side3 => repeat (first | exact (Kd.R_reads' HO179.out).2.2 | (with_reducible refine Kd.C_alloc ?_ _) | (with_reducible refine Kd.C_drewN ?_ _) | (with_reducible refine Kd.C_drew ?_))); (case side4 => exact (Kd.R_reads' HO179.out).2.1); rintro e w' ⟨rfl, ⟨nd, rfl⟩⟩; (try first | exact ⟨rfl, _, World.drewN_drewN _ _ _⟩ | exact ⟨rfl, _, Eq.trans (World.drewN_drewN _ _ _) (congrArg (World.drewN _) (Nat.add_assoc _ _ _))⟩); obtain ⟨Ao24, co24, eo24⟩ := Kd.R_slice HO185.out; subst eo24; obtain ⟨Ao25, co25, eo25⟩ := Kd.R_slice HO_5.out; subst eo25))
                      repeat (go_quiet (first | (go_at_call 11; (with_reducible refine (hogsheadlaw0_SameInts.calls k1 _ _ t170 _ _ t177 true _ ?side1 ?side2 ?side3 ?side4 A19.out).mono ?_); (case side1 => repeat (first | exact (Kd.R_reads' HO172.out).2.2 | (with_reducible refine Kd.C_alloc ?_ _) | (with_reducible refine Kd.C_drewN ?_ _) | (with_reducible refine Kd.C_drew ?_))); (case side2 => exact (Kd.R_reads' HO172.out).2.1); (case side3 => repeat (first | exact (Kd.R_reads' HO179.out).2.2 | (with_reducible refine Kd.C_alloc ?_ _) | (with_reducible refine Kd.C_drewN ?_ _) | (with_reducible refine Kd.C_drew ?_))); (case side4 => exact (Kd.R_reads' HO179.out).2.1); rintro e w' ⟨rfl, ⟨nd, rfl⟩⟩; (try first | exact ⟨rfl, _, World.drewN_drewN _ _ _⟩ | exact ⟨rfl, _, Eq.trans (World.drewN_drewN _ _ _) (congrArg (World.drewN _) (Nat.add_assoc _ _ _))⟩); obtain ⟨Ao24, co24, eo24⟩ := Kd.R_slice HO185.out; subst eo24; obtain ⟨Ao25, co25, eo25⟩ := Kd.R_slice HO_5.out; subst eo25)); try go_wp2_with (first | (go_at_call 11; (with_reducible refine (hogsheadlaw0_SameInts.calls k1 _ _ t170 _ _ t177 true _ ?side1 ?side2 ?side3 ?side4 A19.out).mono ?_); (case side1 => repeat (first | exact (Kd.R_reads' HO172.out).2.2 | (with_reducible refine Kd.C_alloc ?_ _) | (with_reducible refine Kd.C_drewN ?_ _) | (with_reducible refine Kd.C_drew ?_))); (case side2 => exact (Kd.R_reads' HO172.out).2.1); (case side3 => repeat (first | exact (Kd.R_reads' HO179.out).2.2 | (with_reducible refine Kd.C_alloc ?_ _) | (with_reducible refine Kd.C_drewN ?_ _) | (with_reducible refine Kd.C_drew ?_))); (case side4 => exact (Kd.R_reads' HO179.out).2.1); rintro e w' ⟨rfl, ⟨nd, rfl⟩⟩; (try first | exact ⟨rfl, _, World.drewN_drewN _ _ _⟩ | exact ⟨rfl, _, Eq.trans (World.drewN_drewN _ _ _) (congrArg (World.drewN _) (Nat.add_assoc _ _ _))⟩); obtain ⟨Ao24, co24, eo24⟩ := Kd.R_slice HO185.out; subst eo24; obtain ⟨Ao25, co25, eo25⟩ := Kd.R_slice HO_5.out; subst eo25)))
                      go_meet
                      case rel => exact ⟨_, (true), (by first | rfl | (simp; done) | (simp [*]; done)), H', ⟨by have := HK1.out; first | omega | exact Nat.le_refl _⟩, ⟨by (with_reducible repeat (first | apply Kd.R_alloc | apply Kd.R_drewN | apply Kd.R_drew)); exact Kd.R_mono HO_5.out (fun _ hk => hk.2)⟩, ⟨by (with_reducible repeat (first | apply Kd.R_alloc | apply Kd.R_drewN | apply Kd.R_drew)); exact Kd.R_mono HO172.out (fun _ hk => trivial)⟩, ⟨by (with_reducible repeat (first | apply Kd.R_alloc | apply Kd.R_drewN | apply Kd.R_drew)); exact Kd.R_mono HO185.out (fun _ hk => hk.2)⟩, ⟨by repeat (first | (with_reducible first | exact HI168.out | apply IsTwo.alloc | apply IsTwo.drewN | apply IsTwo.drew) | exact HI168.out | exact IsTwo.sub HI168.out (by simp [Value.ownBlock]))⟩, ⟨by repeat (first | (with_reducible first | exact HB.out | apply below_alloc | apply pw_below_drewN | apply below_drew1 | refine below_set ?_ (IsTwo.ge HI168.out)) | exact HB.out)⟩⟩
                    · rw [if_neg c21] at H
                      have c21b0 : decide ((t183.length : Int) < (x5_1.length : Int)) = false := decide_eq_false c21
                      have c21b1 : decide (t183.length < x5_1.length) = false := decide_eq_false (fun h => c21 (Int.ofNat_lt.mpr h))
                      clear c21
                      by_cases c26 : (t183.length : Int) > (wrap64 ((x5_1.length : Int) + (t170.length : Int)))
                      · rw [if_pos c26] at H
                        have c26b0 : decide ((wrap64 ((x5_1.length : Int) + (t170.length : Int))) < (t183.length : Int)) = true := decide_eq_true c26
                        clear c26
                        have H' := Aside0.mk H
                        clear H
                        obtain ⟨Ao27, co27, eo27⟩ := Kd.R_slice HO172.out
                        subst eo27
                        obtain ⟨Ao28, co28, eo28⟩ := Kd.R_slice HO179.out
                        subst eo28
                        go_wp2_with (first | (go_at_call 11; (with_reducible refine (hogsheadlaw0_SameInts.calls k1 _ _ t170 _ _ t177 true _ ?side1 ?side2 ?side3 ?side4 A19.out).mono ?_); (case side1 => repeat (first | exact (Kd.R_reads' HO172.out).2.2 | (with_reducible refine Kd.C_alloc ?_ _) | (with_reducible refine Kd.C_drewN ?_ _) | (with_reducible refine Kd.C_drew ?_))); (case side2 => exact (Kd.R_reads' HO172.out).2.1); (case side3 => repeat (first | exact (Kd.R_reads' HO179.out).2.2 | (with_reducible refine Kd.C_alloc ?_ _) | (with_reducible refine Kd.C_drewN ?_ _) | (with_reducible refine Kd.C_drew ?_))); (case side4 => exact (Kd.R_reads' HO179.out).2.1); rintro e w' ⟨rfl, ⟨nd, rfl⟩⟩; (try first | exact ⟨rfl, _, World.drewN_drewN _ _ _⟩ | exact ⟨rfl, _, Eq.trans (World.drewN_drewN _ _ _) (congrArg (World.drewN _) (Nat.add_assoc _ _ _))⟩); obtain ⟨Ao29, co29, eo29⟩ := Kd.R_slice HO185.out; subst eo29; obtain ⟨Ao30, co30, eo30⟩ := Kd.R_slice HO_5.out; subst eo30))
                        repeat (go_quiet (first | (go_at_call 11; (with_reducible refine (hogsheadlaw0_SameInts.calls k1 _ _ t170 _ _ t177 true _ ?side1 ?side2 ?side3 ?side4 A19.out).mono ?_); (case side1 => repeat (first | exact (Kd.R_reads' HO172.out).2.2 | (with_reducible refine Kd.C_alloc ?_ _) | (with_reducible refine Kd.C_drewN ?_ _) | (with_reducible refine Kd.C_drew ?_))); (case side2 => exact (Kd.R_reads' HO172.out).2.1); (case side3 => repeat (first | exact (Kd.R_reads' HO179.out).2.2 | (with_reducible refine Kd.C_alloc ?_ _) | (with_reducible refine Kd.C_drewN ?_ _) | (with_reducible refine Kd.C_drew ?_))); (case side4 => exact (Kd.R_reads' HO179.out).2.1); rintro e w' ⟨rfl, ⟨nd, rfl⟩⟩; (try first | exact ⟨rfl, _, World.drewN_drewN _ _ _⟩ | exact ⟨rfl, _, Eq.trans (World.drewN_drewN _ _ _) (congrArg (World.drewN _) (Nat.add_assoc _ _ _))⟩); obtain ⟨Ao29, co29, eo29⟩ := Kd.R_slice HO185.out; subst eo29; obtain ⟨Ao30, co30, eo30⟩ := Kd.R_slice HO_5.out; subst eo30)); try go_wp2_with (first | (go_at_call 11; (with_reducible refine (hogsheadlaw0_SameInts.calls k1 _ _ t170 _ _ t177 true _ ?side1 ?side2 ?side3 ?side4 A19.out).mono ?_); (case side1 => repeat (first | exact (Kd.R_reads' HO172.out).2.2 | (with_reducible refine Kd.C_alloc ?_ _) | (with_reducible refine Kd.C_drewN ?_ _) | (with_reducible refine Kd.C_drew ?_))); (case side2 => exact (Kd.R_reads' HO172.out).2.1); (case side3 => repeat (first | exact (Kd.R_reads' HO179.out).2.2 | (with_reducible refine Kd.C_alloc ?_ _) | (with_reducible refine Kd.C_drewN ?_ _) | (with_reducible refine Kd.C_drew ?_))); (case side4 => exact (Kd.R_reads' HO179.out).2.1); rintro e w' ⟨rfl, ⟨nd, rfl⟩⟩; (try first | exact ⟨rfl, _, World.drewN_drewN _ _ _⟩ | exact ⟨rfl, _, Eq.trans (World.drewN_drewN _ _ _) (congrArg (World.drewN _) (Nat.add_assoc _ _ _))⟩); obtain ⟨Ao29, co29, eo29⟩ := Kd.R_slice HO185.out; subst eo29; obtain ⟨Ao30, co30, eo30⟩ := Kd.R_slice HO_5.out; subst eo30)))
                        go_meet
                        case rel => exact ⟨_, (true), (by first | rfl | (simp; done) | (simp [*]; done)), H', ⟨by have := HK1.out; first | omega | exact Nat.le_refl _⟩, ⟨by (with_reducible repeat (first | apply Kd.R_alloc | apply Kd.R_drewN | apply Kd.R_drew)); exact Kd.R_mono HO_5.out (fun _ hk => hk.2)⟩, ⟨by (with_reducible repeat (first | apply Kd.R_alloc | apply Kd.R_drewN | apply Kd.R_drew)); exact Kd.R_mono HO172.out (fun _ hk => trivial)⟩, ⟨by (with_reducible repeat (first | apply Kd.R_alloc | apply Kd.R_drewN | apply Kd.R_drew)); exact Kd.R_mono HO185.out (fun _ hk => hk.2)⟩, ⟨by repeat (first | (with_reducible first | exact HI168.out | apply IsTwo.alloc | apply IsTwo.drewN | apply IsTwo.drew) | exact HI168.out | exact IsTwo.sub HI168.out (by simp [Value.ownBlock]))⟩, ⟨by repeat (first | (with_reducible first | exact HB.out | apply below_alloc | apply pw_below_drewN | apply below_drew1 | refine below_set ?_ (IsTwo.ge HI168.out)) | exact HB.out)⟩⟩
                      · rw [if_neg c26] at H
                        have c26b0 : decide ((wrap64 ((x5_1.length : Int) + (t170.length : Int))) < (t183.length : Int)) = false := decide_eq_false c26
                        clear c26
                        by_cases c31 : 0 ≤ (x5_1.length : Int)
                        · rw [if_pos c31] at H
                          have c31b0 := eq_true c31
                          have c31b1 : decide (0 ≤ (x5_1.length : Int)) = true := decide_eq_true c31
                          clear c31
                          by_cases c32 : (x5_1.length : Int) ≤ (t183.length : Int)
                          · rw [if_pos c32] at H
                            have c32b0 := eq_true c32
                            have c32b1 : decide ((x5_1.length : Int) ≤ (t183.length : Int)) = true := decide_eq_true c32
                            clear c32
                            obtain ⟨y189, hy189⟩ : ∃ y_ : List ByteArray, y_ = (t183.take ((x5_1.length : Int) : Int).toNat) := ⟨_, rfl⟩
                            replace H : ((hogsheadlaw0_SameTexts.f k1 y189 x5_1).bind fun t193 => (hogsheadlaw18_BlocksGrow.j1 k1 l0 x5_1 x6_1 t170 t183 (!t193) t186 t187)) = some r := by first | (rw [hy189]; with_reducible exact H) | (have H2_ := (Option.bind_some _ _).symm.trans H; rw [hy189]; with_reducible exact H2_) | (have H2_ := (Option.bind_some _ _).symm.trans H; with_reducible exact H2_) | with_reducible exact H | (rw [hy189]; exact H) | exact H
                            have Ny189 := Aside0.mk hy189
                            clear hy189
                            replace H := Option.bind_eq_some_iff.mp H
                            obtain ⟨t193, A330, H⟩ := H
                            replace H : (hogsheadlaw18_BlocksGrow.j1 k1 l0 x5_1 x6_1 t170 t183 (!t193) t186 t187) = some r := H
                            have A33 := Aside0.mk A330
                            clear A330
                            have H' := Aside0.mk H
                            clear H
                            obtain ⟨Ao34, co34, eo34⟩ := Kd.R_slice HO172.out
                            subst eo34
                            obtain ⟨Ao35, co35, eo35⟩ := Kd.R_slice HO179.out
                            subst eo35
                            go_wp2_with (first | (go_at_call 11; (with_reducible refine (hogsheadlaw0_SameInts.calls k1 _ _ t170 _ _ t177 true _ ?side1 ?side2 ?side3 ?side4 A19.out).mono ?_); (case side1 => repeat (first | exact (Kd.R_reads' HO172.out).2.2 | (with_reducible refine Kd.C_alloc ?_ _) | (with_reducible refine Kd.C_drewN ?_ _) | (with_reducible refine Kd.C_drew ?_))); (case side2 => exact (Kd.R_reads' HO172.out).2.1); (case side3 => repeat (first | exact (Kd.R_reads' HO179.out).2.2 | (with_reducible refine Kd.C_alloc ?_ _) | (with_reducible refine Kd.C_drewN ?_ _) | (with_reducible refine Kd.C_drew ?_))); (case side4 => exact (Kd.R_reads' HO179.out).2.1); rintro e w' ⟨rfl, ⟨nd, rfl⟩⟩; (try first | exact ⟨rfl, _, World.drewN_drewN _ _ _⟩ | exact ⟨rfl, _, Eq.trans (World.drewN_drewN _ _ _) (congrArg (World.drewN _) (Nat.add_assoc _ _ _))⟩); obtain ⟨Ao36, co36, eo36⟩ := Kd.R_slice HO185.out; subst eo36; obtain ⟨Ao37, co37, eo37⟩ := Kd.R_slice HO_5.out; subst eo37; have q38 : ((x5_1.length : Int) : Int) ≤ ((t183.length : Int) : Int) := of_decide_eq_true (by first | (with_reducible assumption) | assumption); obtain ⟨i038, hi038, _, hsz38, _⟩ := info_parts info9; have hroom38 : t183.length ≤ co36 := (Kd.R_reads' HO185.out).2.1; have hC38 : Kd.C Kd.string _ Ao36 t183.length t183 := (Kd.R_reads' HO185.out).2.2; have hcut38 := cut_to (P := Try.prog) 35 9 .i64 Try.underlying35 hi038 Ao36 t183.length co36 (x5_1.length : Int) (of_decide_eq_true (by first | (with_reducible assumption) | assumption)) q38 hroom38; have hr38 := Kd.C_take (m := ((x5_1.length : Int) : Int).toNat) hC38 (by omega); have hy38 : y189.length = ((x5_1.length : Int) : Int).toNat := (by rw [Ny189.out, List.length_take]; omega); rw [← Ny189.out] at hr38; rw [← hy38] at hcut38; have HR192 := Aside0.mk hr38; have HC192 := Aside0.mk (show y189.length ≤ co36 from by omega); clear hr38 hC38 hroom38 hi038 hsz38; have KY38 := Aside0.mk hy38; clear hy38; have KL38 := Aside0.mk (show ((x5_1.length : Int) : Int).toNat ≤ t183.length from by omega); replace q38 := eq_true q38) | (go_at_call 21; (with_reducible refine (hogsheadlaw0_SameTexts.calls k1 _ _ y189 _ _ x5_1 t193 _ ?side1 ?side2 ?side3 ?side4 A33.out).mono ?_); (case side1 => repeat (first | exact (by repeat (first | (with_reducible exact HR192.out) | (with_reducible refine Kd.C_alloc ?_ _) | (with_reducible refine Kd.C_drewN ?_ _) | (with_reducible refine Kd.C_drew ?_) | exact HR192.out)) | (with_reducible refine Kd.C_alloc ?_ _) | (with_reducible refine Kd.C_drewN ?_ _) | (with_reducible refine Kd.C_drew ?_))); (case side2 => exact HC192.out); (case side3 => repeat (first | exact (Kd.R_reads' HO_5.out).2.2 | (with_reducible refine Kd.C_alloc ?_ _) | (with_reducible refine Kd.C_drewN ?_ _) | (with_reducible refine Kd.C_drew ?_))); (case side4 => exact (Kd.R_reads' HO_5.out).2.1); rintro e w' ⟨rfl, ⟨nd, rfl⟩⟩; (try first | exact ⟨rfl, _, World.drewN_drewN _ _ _⟩ | exact ⟨rfl, _, Eq.trans (World.drewN_drewN _ _ _) (congrArg (World.drewN _) (Nat.add_assoc _ _ _))⟩)))
                            repeat (go_quiet (first | (go_at_call 11; (with_reducible refine (hogsheadlaw0_SameInts.calls k1 _ _ t170 _ _ t177 true _ ?side1 ?side2 ?side3 ?side4 A19.out).mono ?_); (case side1 => repeat (first | exact (Kd.R_reads' HO172.out).2.2 | (with_reducible refine Kd.C_alloc ?_ _) | (with_reducible refine Kd.C_drewN ?_ _) | (with_reducible refine Kd.C_drew ?_))); (case side2 => exact (Kd.R_reads' HO172.out).2.1); (case side3 => repeat (first | exact (Kd.R_reads' HO179.out).2.2 | (with_reducible refine Kd.C_alloc ?_ _) | (with_reducible refine Kd.C_drewN ?_ _) | (with_reducible refine Kd.C_drew ?_))); (case side4 => exact (Kd.R_reads' HO179.out).2.1); rintro e w' ⟨rfl, ⟨nd, rfl⟩⟩; (try first | exact ⟨rfl, _, World.drewN_drewN _ _ _⟩ | exact ⟨rfl, _, Eq.trans (World.drewN_drewN _ _ _) (congrArg (World.drewN _) (Nat.add_assoc _ _ _))⟩); obtain ⟨Ao36, co36, eo36⟩ := Kd.R_slice HO185.out; subst eo36; obtain ⟨Ao37, co37, eo37⟩ := Kd.R_slice HO_5.out; subst eo37; have q38 : ((x5_1.length : Int) : Int) ≤ ((t183.length : Int) : Int) := of_decide_eq_true (by first | (with_reducible assumption) | assumption); obtain ⟨i038, hi038, _, hsz38, _⟩ := info_parts info9; have hroom38 : t183.length ≤ co36 := (Kd.R_reads' HO185.out).2.1; have hC38 : Kd.C Kd.string _ Ao36 t183.length t183 := (Kd.R_reads' HO185.out).2.2; have hcut38 := cut_to (P := Try.prog) 35 9 .i64 Try.underlying35 hi038 Ao36 t183.length co36 (x5_1.length : Int) (of_decide_eq_true (by first | (with_reducible assumption) | assumption)) q38 hroom38; have hr38 := Kd.C_take (m := ((x5_1.length : Int) : Int).toNat) hC38 (by omega); have hy38 : y189.length = ((x5_1.length : Int) : Int).toNat := (by rw [Ny189.out, List.length_take]; omega); rw [← Ny189.out] at hr38; rw [← hy38] at hcut38; have HR192 := Aside0.mk hr38; have HC192 := Aside0.mk (show y189.length ≤ co36 from by omega); clear hr38 hC38 hroom38 hi038 hsz38; have KY38 := Aside0.mk hy38; clear hy38; have KL38 := Aside0.mk (show ((x5_1.length : Int) : Int).toNat ≤ t183.length from by omega); replace q38 := eq_true q38) | (go_at_call 21; (with_reducible refine (hogsheadlaw0_SameTexts.calls k1 _ _ y189 _ _ x5_1 t193 _ ?side1 ?side2 ?side3 ?side4 A33.out).mono ?_); (case side1 => repeat (first | exact (by repeat (first | (with_reducible exact HR192.out) | (with_reducible refine Kd.C_alloc ?_ _) | (with_reducible refine Kd.C_drewN ?_ _) | (with_reducible refine Kd.C_drew ?_) | exact HR192.out)) | (with_reducible refine Kd.C_alloc ?_ _) | (with_reducible refine Kd.C_drewN ?_ _) | (with_reducible refine Kd.C_drew ?_))); (case side2 => exact HC192.out); (case side3 => repeat (first | exact (Kd.R_reads' HO_5.out).2.2 | (with_reducible refine Kd.C_alloc ?_ _) | (with_reducible refine Kd.C_drewN ?_ _) | (with_reducible refine Kd.C_drew ?_))); (case side4 => exact (Kd.R_reads' HO_5.out).2.1); rintro e w' ⟨rfl, ⟨nd, rfl⟩⟩; (try first | exact ⟨rfl, _, World.drewN_drewN _ _ _⟩ | exact ⟨rfl, _, Eq.trans (World.drewN_drewN _ _ _) (congrArg (World.drewN _) (Nat.add_assoc _ _ _))⟩))); try go_wp2_with (first | (go_at_call 11; (with_reducible refine (hogsheadlaw0_SameInts.calls k1 _ _ t170 _ _ t177 true _ ?side1 ?side2 ?side3 ?side4 A19.out).mono ?_); (case side1 => repeat (first | exact (Kd.R_reads' HO172.out).2.2 | (with_reducible refine Kd.C_alloc ?_ _) | (with_reducible refine Kd.C_drewN ?_ _) | (with_reducible refine Kd.C_drew ?_))); (case side2 => exact (Kd.R_reads' HO172.out).2.1); (case side3 => repeat (first | exact (Kd.R_reads' HO179.out).2.2 | (with_reducible refine Kd.C_alloc ?_ _) | (with_reducible refine Kd.C_drewN ?_ _) | (with_reducible refine Kd.C_drew ?_))); (case side4 => exact (Kd.R_reads' HO179.out).2.1); rintro e w' ⟨rfl, ⟨nd, rfl⟩⟩; (try first | exact ⟨rfl, _, World.drewN_drewN _ _ _⟩ | exact ⟨rfl, _, Eq.trans (World.drewN_drewN _ _ _) (congrArg (World.drewN _) (Nat.add_assoc _ _ _))⟩); obtain ⟨Ao36, co36, eo36⟩ := Kd.R_slice HO185.out; subst eo36; obtain ⟨Ao37, co37, eo37⟩ := Kd.R_slice HO_5.out; subst eo37; have q38 : ((x5_1.length : Int) : Int) ≤ ((t183.length : Int) : Int) := of_decide_eq_true (by first | (with_reducible assumption) | assumption); obtain ⟨i038, hi038, _, hsz38, _⟩ := info_parts info9; have hroom38 : t183.length ≤ co36 := (Kd.R_reads' HO185.out).2.1; have hC38 : Kd.C Kd.string _ Ao36 t183.length t183 := (Kd.R_reads' HO185.out).2.2; have hcut38 := cut_to (P := Try.prog) 35 9 .i64 Try.underlying35 hi038 Ao36 t183.length co36 (x5_1.length : Int) (of_decide_eq_true (by first | (with_reducible assumption) | assumption)) q38 hroom38; have hr38 := Kd.C_take (m := ((x5_1.length : Int) : Int).toNat) hC38 (by omega); have hy38 : y189.length = ((x5_1.length : Int) : Int).toNat := (by rw [Ny189.out, List.length_take]; omega); rw [← Ny189.out] at hr38; rw [← hy38] at hcut38; have HR192 := Aside0.mk hr38; have HC192 := Aside0.mk (show y189.length ≤ co36 from by omega); clear hr38 hC38 hroom38 hi038 hsz38; have KY38 := Aside0.mk hy38; clear hy38; have KL38 := Aside0.mk (show ((x5_1.length : Int) : Int).toNat ≤ t183.length from by omega); replace q38 := eq_true q38) | (go_at_call 21; (with_reducible refine (hogsheadlaw0_SameTexts.calls k1 _ _ y189 _ _ x5_1 t193 _ ?side1 ?side2 ?side3 ?side4 A33.out).mono ?_); (case side1 => repeat (first | exact (by repeat (first | (with_reducible exact HR192.out) | (with_reducible refine Kd.C_alloc ?_ _) | (with_reducible refine Kd.C_drewN ?_ _) | (with_reducible refine Kd.C_drew ?_) | exact HR192.out)) | (with_reducible refine Kd.C_alloc ?_ _) | (with_reducible refine Kd.C_drewN ?_ _) | (with_reducible refine Kd.C_drew ?_))); (case side2 => exact HC192.out); (case side3 => repeat (first | exact (Kd.R_reads' HO_5.out).2.2 | (with_reducible refine Kd.C_alloc ?_ _) | (with_reducible refine Kd.C_drewN ?_ _) | (with_reducible refine Kd.C_drew ?_))); (case side4 => exact (Kd.R_reads' HO_5.out).2.1); rintro e w' ⟨rfl, ⟨nd, rfl⟩⟩; (try first | exact ⟨rfl, _, World.drewN_drewN _ _ _⟩ | exact ⟨rfl, _, Eq.trans (World.drewN_drewN _ _ _) (congrArg (World.drewN _) (Nat.add_assoc _ _ _))⟩))))
                            go_meet
                            case rel => exact ⟨_, (!t193), (by first | rfl | (simp; done) | (simp [*]; done)), H', ⟨by have := HK1.out; first | omega | exact Nat.le_refl _⟩, ⟨by (with_reducible repeat (first | apply Kd.R_alloc | apply Kd.R_drewN | apply Kd.R_drew)); exact Kd.R_mono HO_5.out (fun _ hk => hk.2)⟩, ⟨by (with_reducible repeat (first | apply Kd.R_alloc | apply Kd.R_drewN | apply Kd.R_drew)); exact Kd.R_mono HO172.out (fun _ hk => trivial)⟩, ⟨by (with_reducible repeat (first | apply Kd.R_alloc | apply Kd.R_drewN | apply Kd.R_drew)); exact Kd.R_mono HO185.out (fun _ hk => hk.2)⟩, ⟨by repeat (first | (with_reducible first | exact HI168.out | apply IsTwo.alloc | apply IsTwo.drewN | apply IsTwo.drew) | exact HI168.out | exact IsTwo.sub HI168.out (by simp [Value.ownBlock]))⟩, ⟨by repeat (first | (with_reducible first | exact HB.out | apply below_alloc | apply pw_below_drewN | apply below_drew1 | refine below_set ?_ (IsTwo.ge HI168.out)) | exact HB.out)⟩⟩
                          · rw [if_neg c32] at H
                            exact absurd H (by simp)
                        · rw [if_neg c31] at H
                          exact absurd H (by simp)
                  · replace c20 := Bool.eq_false_iff.mpr c20
                    subst c20
                    have H1 : (hogsheadlaw18_BlocksGrow.j1 k1 l0 x5_1 x6_1 t170 t183 true t186 t187) = some r := by rw [if_neg (show ¬ (false = true) by decide)] at H; exact H
                    clear H
                    have H := H1
                    clear H1
                    have H' := Aside0.mk H
                    clear H
                    obtain ⟨Ao39, co39, eo39⟩ := Kd.R_slice HO172.out
                    subst eo39
                    obtain ⟨Ao40, co40, eo40⟩ := Kd.R_slice HO179.out
                    subst eo40
                    go_wp2_with (first | (go_at_call 11; (with_reducible refine (hogsheadlaw0_SameInts.calls k1 _ _ t170 _ _ t177 false _ ?side1 ?side2 ?side3 ?side4 A19.out).mono ?_); (case side1 => repeat (first | exact (Kd.R_reads' HO172.out).2.2 | (with_reducible refine Kd.C_alloc ?_ _) | (with_reducible refine Kd.C_drewN ?_ _) | (with_reducible refine Kd.C_drew ?_))); (case side2 => exact (Kd.R_reads' HO172.out).2.1); (case side3 => repeat (first | exact (Kd.R_reads' HO179.out).2.2 | (with_reducible refine Kd.C_alloc ?_ _) | (with_reducible refine Kd.C_drewN ?_ _) | (with_reducible refine Kd.C_drew ?_))); (case side4 => exact (Kd.R_reads' HO179.out).2.1); rintro e w' ⟨rfl, ⟨nd, rfl⟩⟩; (try first | exact ⟨rfl, _, World.drewN_drewN _ _ _⟩ | exact ⟨rfl, _, Eq.trans (World.drewN_drewN _ _ _) (congrArg (World.drewN _) (Nat.add_assoc _ _ _))⟩)))
                    repeat (go_quiet (first | (go_at_call 11; (with_reducible refine (hogsheadlaw0_SameInts.calls k1 _ _ t170 _ _ t177 false _ ?side1 ?side2 ?side3 ?side4 A19.out).mono ?_); (case side1 => repeat (first | exact (Kd.R_reads' HO172.out).2.2 | (with_reducible refine Kd.C_alloc ?_ _) | (with_reducible refine Kd.C_drewN ?_ _) | (with_reducible refine Kd.C_drew ?_))); (case side2 => exact (Kd.R_reads' HO172.out).2.1); (case side3 => repeat (first | exact (Kd.R_reads' HO179.out).2.2 | (with_reducible refine Kd.C_alloc ?_ _) | (with_reducible refine Kd.C_drewN ?_ _) | (with_reducible refine Kd.C_drew ?_))); (case side4 => exact (Kd.R_reads' HO179.out).2.1); rintro e w' ⟨rfl, ⟨nd, rfl⟩⟩; (try first | exact ⟨rfl, _, World.drewN_drewN _ _ _⟩ | exact ⟨rfl, _, Eq.trans (World.drewN_drewN _ _ _) (congrArg (World.drewN _) (Nat.add_assoc _ _ _))⟩))); try go_wp2_with (first | (go_at_call 11; (with_reducible refine (hogsheadlaw0_SameInts.calls k1 _ _ t170 _ _ t177 false _ ?side1 ?side2 ?side3 ?side4 A19.out).mono ?_); (case side1 => repeat (first | exact (Kd.R_reads' HO172.out).2.2 | (with_reducible refine Kd.C_alloc ?_ _) | (with_reducible refine Kd.C_drewN ?_ _) | (with_reducible refine Kd.C_drew ?_))); (case side2 => exact (Kd.R_reads' HO172.out).2.1); (case side3 => repeat (first | exact (Kd.R_reads' HO179.out).2.2 | (with_reducible refine Kd.C_alloc ?_ _) | (with_reducible refine Kd.C_drewN ?_ _) | (with_reducible refine Kd.C_drew ?_))); (case side4 => exact (Kd.R_reads' HO179.out).2.1); rintro e w' ⟨rfl, ⟨nd, rfl⟩⟩; (try first | exact ⟨rfl, _, World.drewN_drewN _ _ _⟩ | exact ⟨rfl, _, Eq.trans (World.drewN_drewN _ _ _) (congrArg (World.drewN _) (Nat.add_assoc _ _ _))⟩))))
                    go_meet
                    case rel => exact ⟨_, (true), (by first | rfl | (simp; done) | (simp [*]; done)), H', ⟨by have := HK1.out; first | omega | exact Nat.le_refl _⟩, ⟨by (with_reducible repeat (first | apply Kd.R_alloc | apply Kd.R_drewN | apply Kd.R_drew)); exact Kd.R_mono HO_5.out (fun _ hk => hk.2)⟩, ⟨by (with_reducible repeat (first | apply Kd.R_alloc | apply Kd.R_drewN | apply Kd.R_drew)); exact Kd.R_mono HO172.out (fun _ hk => trivial)⟩, ⟨by (with_reducible repeat (first | apply Kd.R_alloc | apply Kd.R_drewN | apply Kd.R_drew)); exact Kd.R_mono HO185.out (fun _ hk => hk.2)⟩, ⟨by repeat (first | (with_reducible first | exact HI168.out | apply IsTwo.alloc | apply IsTwo.drewN | apply IsTwo.drew) | exact HI168.out | exact IsTwo.sub HI168.out (by simp [Value.ownBlock]))⟩, ⟨by repeat (first | (with_reducible first | exact HB.out | apply below_alloc | apply pw_below_drewN | apply below_drew1 | refine below_set ?_ (IsTwo.ge HI168.out)) | exact HB.out)⟩⟩
                · rw [if_neg c18] at H
                  have c18b0 : (t180 == 0) = false := beq_eq_false_iff_ne.mpr c18
                  have c18b1 : (t180 != 0) = true := bne_iff_ne.mpr c18
                  have H' := Aside0.mk H
                  clear H
                  go_wp2
                  repeat (go_quiet (fail); try go_wp2)
                  go_meet
                  case rel => exact ⟨_, (true), (by first | rfl | (simp; done) | (simp [*]; done)), H', ⟨by have := HK1.out; first | omega | exact Nat.le_refl _⟩, ⟨by (with_reducible repeat (first | apply Kd.R_alloc | apply Kd.R_drewN | apply Kd.R_drew)); exact Kd.R_mono HO_5.out (fun _ hk => hk.2)⟩, ⟨by (with_reducible repeat (first | apply Kd.R_alloc | apply Kd.R_drewN | apply Kd.R_drew)); exact Kd.R_mono HO172.out (fun _ hk => trivial)⟩, ⟨by (with_reducible repeat (first | apply Kd.R_alloc | apply Kd.R_drewN | apply Kd.R_drew)); exact Kd.R_mono HO185.out (fun _ hk => hk.2)⟩, ⟨by repeat (first | (with_reducible first | exact HI168.out | apply IsTwo.alloc | apply IsTwo.drewN | apply IsTwo.drew) | exact HI168.out | exact IsTwo.sub HI168.out (by simp [Value.ownBlock]))⟩, ⟨by repeat (first | (with_reducible first | exact HB.out | apply below_alloc | apply pw_below_drewN | apply below_drew1 | refine below_set ?_ (IsTwo.ge HI168.out)) | exact HB.out)⟩⟩
              · rw [if_neg c17] at H
                have c17b0 : (t173 == 0) = false := beq_eq_false_iff_ne.mpr c17
                have c17b1 : (t173 != 0) = true := bne_iff_ne.mpr c17
                (first | rw [c17b0] | (simp only [i64_w, i32_w]; rw [c17b0]) | skip)
                have H' := Aside0.mk H
                clear H
                go_wp2
                repeat (go_quiet (fail); try go_wp2)
                go_meet
                case rel => exact ⟨_, (true), (by first | rfl | (simp; done) | (simp [*]; done)), H', ⟨by have := HK1.out; first | omega | exact Nat.le_refl _⟩, ⟨by (with_reducible repeat (first | apply Kd.R_alloc | apply Kd.R_drewN | apply Kd.R_drew)); exact Kd.R_mono HO_5.out (fun _ hk => hk.2)⟩, ⟨by (with_reducible repeat (first | apply Kd.R_alloc | apply Kd.R_drewN | apply Kd.R_drew)); exact Kd.R_mono HO172.out (fun _ hk => trivial)⟩, ⟨by (with_reducible repeat (first | apply Kd.R_alloc | apply Kd.R_drewN | apply Kd.R_drew)); exact Kd.R_mono HO185.out (fun _ hk => hk.2)⟩, ⟨by repeat (first | (with_reducible first | exact HI168.out | apply IsTwo.alloc | apply IsTwo.drewN | apply IsTwo.drew) | exact HI168.out | exact IsTwo.sub HI168.out (by simp [Value.ownBlock]))⟩, ⟨by repeat (first | (with_reducible first | exact HB.out | apply below_alloc | apply pw_below_drewN | apply below_drew1 | refine below_set ?_ (IsTwo.ge HI168.out)) | exact HB.out)⟩⟩
            case rest =>
              clear HC13
              try clear c1
              try clear p1
              try clear q1
              try clear hx1
              try clear c2
              try clear p2
              try clear c3
              try clear q3
              try clear p6
              try clear c7
              try clear c8
              try clear c8b0
              try clear c9
              try clear c9b0
              try clear p16
              try clear q16
              try clear hx16
              try clear c17
              try clear c17b0
              try clear c17b1
              try clear p17
              try clear q17
              try clear hx17
              try clear c18
              try clear c18b0
              try clear c18b1
              try clear c20
              try clear c21
              try clear c21b0
              try clear c21b1
              try clear c26
              try clear c26b0
              try clear c31
              try clear c31b0
              try clear c31b1
              try clear c32
              try clear c32b0
              try clear c32b1
              try clear q38
              try clear hx169_0
              try clear hx176_0
              try clear p169
              try clear p176
              try clear p2
              try clear q169
              try clear q176
              try clear q38
              obtain ⟨kq, x88_12, rfl, HA, HJ12, HO_5, HO_7, HO_11, HI168, HB⟩ := hcut
              cases kq with
              | zero => exact absurd HA.out (by simp [hogsheadlaw18_BlocksGrow.j1])
              | succ kj12 =>
                have H := HA.out
                clear HA
                simp only [hogsheadlaw18_BlocksGrow.j1] at H
                by_cases c41 : x88_12 = true
                · subst c41
                  have H1 : (some false) = some r := by rw [if_pos rfl] at H; exact H
                  clear H
                  have H := H1
                  clear H1
                  obtain rfl := Option.some.inj H
                  go_wp2
                  repeat (go_quiet (fail); try go_wp2)
                  go_ret
                  exact ⟨by first | rfl | (simp [errW_none, errW_some] <;> rfl) | (simp [*, errW_none, errW_some] <;> rfl), by repeat (first | (with_reducible first | exact HB.out | apply below_alloc | apply pw_below_drewN | apply below_drew1 | refine below_set ?_ (IsTwo.ge HI168.out)) | exact HB.out)⟩
                · replace c41 := Bool.eq_false_iff.mpr c41
                  subst c41
                  have H1 : (hogsheadlaw18_BlocksGrow.l1 kj12 l0 x5_1 x6_1 t170 t183 0 t186 t187) = some r := by rw [if_neg (show ¬ (false = true) by decide)] at H; exact H
                  clear H
                  have H := H1
                  clear H1
                  have H' := Aside0.mk H
                  clear H
                  go_wp2
                  repeat (go_quiet (fail); try go_wp2)
                  go_loopg [12] kj12 (fun kq v12 w' => ∃ (x12_3 : Int), v12 = .int .i64 x12_3 ∧ Aside0 (hogsheadlaw18_BlocksGrow.l1 kq l0 x5_1 x6_1 t170 t183 x12_3 t186 t187 = some r) ∧ Aside0 (kq ≤ kj12) ∧ Aside0 (Kd.R Kd.string 9 w' w.heap.size (fun k_ => some k_ ≠ (v184 : Value).ownBlock) u5 x5_1) ∧ Aside0 (Kd.R (Kd.int .i64) 3 w' w.heap.size (fun _ => True) v171 t170) ∧ Aside0 (Kd.R Kd.string 9 w' w.heap.size (fun k_ => some k_ ≠ (u5 : Value).ownBlock) v184 t183) ∧ Aside0 (IsTwo w w' g168 h168 t186 t187 t186 t187 [v184, u5]) ∧ Aside0 (Below w.heap.size w w'))
                  case atStart => exact ⟨(0), (by first | rfl | (simp; done) | (simp [*]; done)), H', ⟨Nat.le_refl _⟩, ⟨by (with_reducible repeat (first | apply Kd.R_alloc | apply Kd.R_drewN | apply Kd.R_drew)); exact HO_5.out⟩, ⟨by (with_reducible repeat (first | apply Kd.R_alloc | apply Kd.R_drewN | apply Kd.R_drew)); exact HO_7.out⟩, ⟨by (with_reducible repeat (first | apply Kd.R_alloc | apply Kd.R_drewN | apply Kd.R_drew)); exact HO_11.out⟩, ⟨by repeat (first | (with_reducible first | exact HI168.out | apply IsTwo.alloc | apply IsTwo.drewN | apply IsTwo.drew) | exact HI168.out | exact IsTwo.sub HI168.out (by simp [Value.ownBlock]))⟩, ⟨by repeat (first | (with_reducible first | exact HB.out | apply below_alloc | apply pw_below_drewN | apply below_drew1 | refine below_set ?_ (IsTwo.ge HI168.out)) | exact HB.out)⟩⟩
                  case round =>
                    clear H'
                    try clear c1
                    try clear p1
                    try clear q1
                    try clear hx1
                    try clear c2
                    try clear p2
                    try clear c3
                    try clear q3
                    try clear c4
                    try clear p6
                    try clear c7
                    try clear c8
                    try clear c8b0
                    try clear c9
                    try clear c9b0
                    try clear p16
                    try clear q16
                    try clear hx16
                    try clear c17
                    try clear c17b0
                    try clear c17b1
                    try clear p17
                    try clear q17
                    try clear hx17
                    try clear c18
                    try clear c18b0
                    try clear c18b1
                    try clear c20
                    try clear c21
                    try clear c21b0
                    try clear c21b1
                    try clear c26
                    try clear c26b0
                    try clear c31
                    try clear c31b0
                    try clear c31b1
                    try clear c32
                    try clear c32b0
                    try clear c32b1
                    try clear q38
                    try clear c41
                    try clear hx169_0
                    try clear hx176_0
                    try clear p1
                    try clear p16
                    try clear p169
                    try clear p17
                    try clear p176
                    try clear p2
                    try clear p6
                    try clear q1
                    try clear q16
                    try clear q169
                    try clear q17
                    try clear q176
                    try clear q3
                    try clear q38
                    obtain ⟨x12_3, rfl, HA, HK3, HO_5, HO_7, HO_11, HI168, HB⟩ := hrel
                    cases gk with
                    | zero => exact absurd HA.out (by simp [hogsheadlaw18_BlocksGrow.l1])
                    | succ k3 =>
                      have H := HA.out
                      clear HA
                      simp only [hogsheadlaw18_BlocksGrow.l1] at H
                      by_cases c42 : x12_3 < (t170.length : Int)
                      · rw [if_pos c42] at H
                        have c42b0 : decide (x12_3 < (t170.length : Int)) = true := decide_eq_true c42
                        clear c42
                        have HC43 := Aside0.mk H
                        clear H
                        obtain ⟨Ao44, co44, eo44⟩ := Kd.R_slice HO_7.out
                        subst eo44
                        go_upto_region 18 with (fail)
                        repeat (go_quiet (fail); go_upto_region 18 with (fail))
                        go_cut [108] (fun v108 wc => ∃ (kq : Nat) (x108_42 : Bool), v108 = .bool x108_42 ∧ Aside0 (hogsheadlaw18_BlocksGrow.j3 kq l0 x5_1 x6_1 t170 t183 x12_3 x108_42 t186 t187 = some r) ∧ Aside0 (kq ≤ k3) ∧ Aside0 (Kd.R Kd.string 9 wc w.heap.size (fun k_ => some k_ ≠ (v184 : Value).ownBlock) u5 x5_1) ∧ Aside0 (Kd.R (Kd.int .i64) 3 wc w.heap.size (fun _ => True) (.slice Ao44 t170.length co44) t170) ∧ Aside0 (Kd.R Kd.string 9 wc w.heap.size (fun k_ => some k_ ≠ (u5 : Value).ownBlock) v184 t183) ∧ Aside0 (IsTwo w wc g168 h168 t186 t187 t186 t187 [v184, u5]) ∧ Aside0 (Below w.heap.size w wc))
                        case first =>
                          have H := HC43.out
                          clear HC43
                          by_cases c45 : 0 ≤ x12_3
                          · rw [if_pos c45] at H
                            have c45b0 : decide (0 ≤ x12_3) = true := decide_eq_true c45
                            clear c45
                            (first | rw [c45b0] | (simp only [i64_w, i32_w]; rw [c45b0]) | skip)
                            by_cases c46 : (rd t170 x12_3) < 0
                            · rw [if_pos c46] at H
                              have c46b0 : decide ((rd t170 x12_3) < 0) = true := decide_eq_true c46
                              clear c46
                              have H' := Aside0.mk H
                              clear H
                              have p194 : 0 ≤ (x12_3 : Int) := of_decide_eq_true (by first | (with_reducible assumption) | assumption)
                              have q194 : x12_3 < (t170.length : Int) := of_decide_eq_true (by first | (with_reducible assumption) | assumption)
                              obtain ⟨ad194, e194, hx194_0⟩ := Kd.at_int (Kd.R_reads' HO_7.out).2.2 x12_3 p194 q194
                              cases e194
                              replace p194 := eq_true p194
                              replace q194 := eq_true q194
                              go_wp2
                              repeat (go_quiet (fail); try go_wp2)
                              go_meet
                              case rel => exact ⟨_, (true), (by first | rfl | (simp; done) | (simp [*]; done)), H', ⟨by have := HK1.out; have := HJ12.out; have := HK3.out; first | omega | exact Nat.le_refl _⟩, ⟨by (with_reducible repeat (first | apply Kd.R_alloc | apply Kd.R_drewN | apply Kd.R_drew)); exact HO_5.out⟩, ⟨by (with_reducible repeat (first | apply Kd.R_alloc | apply Kd.R_drewN | apply Kd.R_drew)); exact HO_7.out⟩, ⟨by (with_reducible repeat (first | apply Kd.R_alloc | apply Kd.R_drewN | apply Kd.R_drew)); exact HO_11.out⟩, ⟨by repeat (first | (with_reducible first | exact HI168.out | apply IsTwo.alloc | apply IsTwo.drewN | apply IsTwo.drew) | exact HI168.out | exact IsTwo.sub HI168.out (by simp [Value.ownBlock]))⟩, ⟨by repeat (first | (with_reducible first | exact HB.out | apply below_alloc | apply pw_below_drewN | apply below_drew1 | refine below_set ?_ (IsTwo.ge HI168.out)) | exact HB.out)⟩⟩
                            · rw [if_neg c46] at H
                              have c46b0 : decide ((rd t170 x12_3) < 0) = false := decide_eq_false c46
                              clear c46
                              have H' := Aside0.mk H
                              clear H
                              have p194 : 0 ≤ (x12_3 : Int) := of_decide_eq_true (by first | (with_reducible assumption) | assumption)
                              have q194 : x12_3 < (t170.length : Int) := of_decide_eq_true (by first | (with_reducible assumption) | assumption)
                              obtain ⟨ad194, e194, hx194_0⟩ := Kd.at_int (Kd.R_reads' HO_7.out).2.2 x12_3 p194 q194
                              cases e194
                              replace p194 := eq_true p194
                              replace q194 := eq_true q194
                              have p195 : 0 ≤ (x12_3 : Int) := of_decide_eq_true (by first | (with_reducible assumption) | assumption)
                              have q195 : x12_3 < (t170.length : Int) := of_decide_eq_true (by first | (with_reducible assumption) | assumption)
                              obtain ⟨ad195, e195, hx195_0⟩ := Kd.at_int (Kd.R_reads' HO_7.out).2.2 x12_3 p195 q195
                              obtain rfl : ad194 = ad195 := (by injection e195)
                              replace p195 := eq_true p195
                              replace q195 := eq_true q195
                              obtain ⟨Ao47, co47, eo47⟩ := Kd.R_slice HO_11.out
                              subst eo47
                              go_wp2
                              repeat (go_quiet (fail); try go_wp2)
                              go_meet
                              case rel => exact ⟨_, (decide ((rd t170 x12_3) ≥ (t183.length : Int))), (by first | rfl | (simp; done) | (simp [*]; done)), H', ⟨by have := HK1.out; have := HJ12.out; have := HK3.out; first | omega | exact Nat.le_refl _⟩, ⟨by (with_reducible repeat (first | apply Kd.R_alloc | apply Kd.R_drewN | apply Kd.R_drew)); exact HO_5.out⟩, ⟨by (with_reducible repeat (first | apply Kd.R_alloc | apply Kd.R_drewN | apply Kd.R_drew)); exact HO_7.out⟩, ⟨by (with_reducible repeat (first | apply Kd.R_alloc | apply Kd.R_drewN | apply Kd.R_drew)); exact HO_11.out⟩, ⟨by repeat (first | (with_reducible first | exact HI168.out | apply IsTwo.alloc | apply IsTwo.drewN | apply IsTwo.drew) | exact HI168.out | exact IsTwo.sub HI168.out (by simp [Value.ownBlock]))⟩, ⟨by repeat (first | (with_reducible first | exact HB.out | apply below_alloc | apply pw_below_drewN | apply below_drew1 | refine below_set ?_ (IsTwo.ge HI168.out)) | exact HB.out)⟩⟩
                          · rw [if_neg c45] at H
                            exact absurd H (by simp)
                        case rest =>
                          clear HC43
                          try clear c1
                          try clear p1
                          try clear q1
                          try clear hx1
                          try clear c2
                          try clear p2
                          try clear c3
                          try clear q3
                          try clear c4
                          try clear p6
                          try clear c7
                          try clear c8
                          try clear c8b0
                          try clear c9
                          try clear c9b0
                          try clear p16
                          try clear q16
                          try clear hx16
                          try clear c17
                          try clear c17b0
                          try clear c17b1
                          try clear p17
                          try clear q17
                          try clear hx17
                          try clear c18
                          try clear c18b0
                          try clear c18b1
                          try clear p19
                          try clear q19
                          try clear hx19
                          try clear c20
                          try clear c21
                          try clear c21b0
                          try clear c21b1
                          try clear c26
                          try clear c26b0
                          try clear c31
                          try clear c31b0
                          try clear c31b1
                          try clear c32
                          try clear c32b0
                          try clear c32b1
                          try clear q38
                          try clear c41
                          try clear c42
                          try clear c42b0
                          try clear c45
                          try clear c45b0
                          try clear c46
                          try clear c46b0
                          try clear hx169_0
                          try clear hx176_0
                          try clear hx194_0
                          try clear hx195_0
                          try clear p1
                          try clear p16
                          try clear p169
                          try clear p17
                          try clear p176
                          try clear p194
                          try clear p195
                          try clear p2
                          try clear p6
                          try clear q1
                          try clear q16
                          try clear q169
                          try clear q17
                          try clear q176
                          try clear q194
                          try clear q195
                          try clear q3
                          try clear q38
                          obtain ⟨kq, x108_42, rfl, HA, HJ42, HO_5, HO_7, HO_11, HI168, HB⟩ := hcut
                          cases kq with
                          | zero => exact absurd HA.out (by simp [hogsheadlaw18_BlocksGrow.j3])
                          | succ kj42 =>
                            have H := HA.out
                            clear HA
                            simp only [hogsheadlaw18_BlocksGrow.j3] at H
                            by_cases c48 : x108_42 = true
                            · subst c48
                              have H1 : (some false) = some r := by rw [if_pos rfl] at H; exact H
                              clear H
                              have H := H1
                              clear H1
                              obtain rfl := Option.some.inj H
                              go_wp2
                              repeat (go_quiet (fail); try go_wp2)
                              go_ret
                              exact ⟨by first | rfl | (simp [errW_none, errW_some] <;> rfl) | (simp [*, errW_none, errW_some] <;> rfl), by repeat (first | (with_reducible first | exact HB.out | apply below_alloc | apply pw_below_drewN | apply below_drew1 | refine below_set ?_ (IsTwo.ge HI168.out)) | exact HB.out)⟩
                            · replace c48 := Bool.eq_false_iff.mpr c48
                              subst c48
                              have H1 : (hogsheadlaw18_BlocksGrow.l1 kj42 l0 x5_1 x6_1 t170 t183 (wrap64 (x12_3 + 1)) t186 t187) = some r := by rw [if_neg (show ¬ (false = true) by decide)] at H; exact H
                              clear H
                              have H := H1
                              clear H1
                              have H' := Aside0.mk H
                              clear H
                              go_wp2
                              repeat (go_quiet (fail); try go_wp2)
                              go_roundg kj42
                              case measure => have := HK1.out; have := HJ12.out; have := HK3.out; have := HJ42.out; omega
                              case rel => exact ⟨(wrap64 (x12_3 + 1)), (by first | rfl | (simp; done) | (simp [*]; done)), H', ⟨by have := HK1.out; have := HJ12.out; have := HK3.out; have := HJ42.out; omega⟩, ⟨by (with_reducible repeat (first | apply Kd.R_alloc | apply Kd.R_drewN | apply Kd.R_drew)); exact HO_5.out⟩, ⟨by (with_reducible repeat (first | apply Kd.R_alloc | apply Kd.R_drewN | apply Kd.R_drew)); exact HO_7.out⟩, ⟨by (with_reducible repeat (first | apply Kd.R_alloc | apply Kd.R_drewN | apply Kd.R_drew)); exact HO_11.out⟩, ⟨by repeat (first | (with_reducible first | exact HI168.out | apply IsTwo.alloc | apply IsTwo.drewN | apply IsTwo.drew) | exact HI168.out | exact IsTwo.sub HI168.out (by simp [Value.ownBlock]))⟩, ⟨by repeat (first | (with_reducible first | exact HB.out | apply below_alloc | apply pw_below_drewN | apply below_drew1 | refine below_set ?_ (IsTwo.ge HI168.out)) | exact HB.out)⟩⟩
                      · rw [if_neg c42] at H
                        have c42b0 : decide (x12_3 < (t170.length : Int)) = false := decide_eq_false c42
                        clear c42
                        have H' := Aside0.mk H
                        clear H
                        obtain ⟨Ao49, co49, eo49⟩ := Kd.R_slice HO_7.out
                        subst eo49
                        obtain ⟨Ao50, co50, eo50⟩ := Kd.R_slice HO_5.out
                        subst eo50
                        go_wp2
                        repeat (go_quiet (fail); try go_wp2)
                        go_loopg [13] k3 (fun kq v13 w' => ∃ (x13_4 : Int), v13 = .int .i64 x13_4 ∧ Aside0 (hogsheadlaw18_BlocksGrow.l2 kq l0 x5_1 x6_1 t170 t183 x13_4 t186 t187 = some r) ∧ Aside0 (kq ≤ k3) ∧ Aside0 (Kd.R Kd.string 9 w' w.heap.size (fun k_ => some k_ ≠ (v184 : Value).ownBlock) (.slice Ao50 x5_1.length co50) x5_1) ∧ Aside0 (Kd.R (Kd.int .i64) 3 w' w.heap.size (fun _ => True) (.slice Ao49 t170.length co49) t170) ∧ Aside0 (Kd.R Kd.string 9 w' w.heap.size (fun k_ => some k_ ≠ ((.slice Ao50 x5_1.length co50) : Value).ownBlock) v184 t183) ∧ Aside0 (IsTwo w w' g168 h168 t186 t187 t186 t187 [v184, (.slice Ao50 x5_1.length co50)]) ∧ Aside0 (Below w.heap.size w w'))
                        case atStart => exact ⟨((x5_1.length : Int)), (by first | rfl | (simp; done) | (simp [*]; done)), H', ⟨Nat.le_refl _⟩, ⟨by (with_reducible repeat (first | apply Kd.R_alloc | apply Kd.R_drewN | apply Kd.R_drew)); exact HO_5.out⟩, ⟨by (with_reducible repeat (first | apply Kd.R_alloc | apply Kd.R_drewN | apply Kd.R_drew)); exact HO_7.out⟩, ⟨by (with_reducible repeat (first | apply Kd.R_alloc | apply Kd.R_drewN | apply Kd.R_drew)); exact HO_11.out⟩, ⟨by repeat (first | (with_reducible first | exact HI168.out | apply IsTwo.alloc | apply IsTwo.drewN | apply IsTwo.drew) | exact HI168.out | exact IsTwo.sub HI168.out (by simp [Value.ownBlock]))⟩, ⟨by repeat (first | (with_reducible first | exact HB.out | apply below_alloc | apply pw_below_drewN | apply below_drew1 | refine below_set ?_ (IsTwo.ge HI168.out)) | exact HB.out)⟩⟩
                        case round =>
                          clear H'
                          try clear c1
                          try clear p1
                          try clear q1
                          try clear hx1
                          try clear c2
                          try clear p2
                          try clear c3
                          try clear q3
                          try clear c4
                          try clear p6
                          try clear c7
                          try clear c8
                          try clear c8b0
                          try clear c9
                          try clear c9b0
                          try clear p16
                          try clear q16
                          try clear hx16
                          try clear c17
                          try clear c17b0
                          try clear c17b1
                          try clear p17
                          try clear q17
                          try clear hx17
                          try clear c18
                          try clear c18b0
                          try clear c18b1
                          try clear p19
                          try clear q19
                          try clear hx19
                          try clear c20
                          try clear c21
                          try clear c21b0
                          try clear c21b1
                          try clear c26
                          try clear c26b0
                          try clear c31
                          try clear c31b0
                          try clear c31b1
                          try clear c32
                          try clear c32b0
                          try clear c32b1
                          try clear q38
                          try clear c41
                          try clear c42
                          try clear c42b0
                          try clear c45
                          try clear c45b0
                          try clear c46
                          try clear c46b0
                          try clear c48
                          try clear hx169_0
                          try clear hx176_0
                          try clear hx194_0
                          try clear hx195_0
                          try clear p1
                          try clear p16
                          try clear p169
                          try clear p17
                          try clear p176
                          try clear p19
                          try clear p194
                          try clear p195
                          try clear p2
                          try clear p6
                          try clear q1
                          try clear q16
                          try clear q169
                          try clear q17
                          try clear q176
                          try clear q19
                          try clear q194
                          try clear q195
                          try clear q3
                          try clear q38
                          obtain ⟨x13_4, rfl, HA, HK4, HO_5, HO_7, HO_11, HI168, HB⟩ := hrel
                          cases gk with
                          | zero => exact absurd HA.out (by simp [hogsheadlaw18_BlocksGrow.l2])
                          | succ k4 =>
                            have H := HA.out
                            clear HA
                            simp only [hogsheadlaw18_BlocksGrow.l2] at H
                            by_cases c51 : x13_4 < (t183.length : Int)
                            · rw [if_pos c51] at H
                              have c51b0 : decide (x13_4 < (t183.length : Int)) = true := decide_eq_true c51
                              clear c51
                              have HC52 := Aside0.mk H
                              clear H
                              obtain ⟨Ao53, co53, eo53⟩ := Kd.R_slice HO_11.out
                              subst eo53
                              go_upto_region 23 with (fail)
                              repeat (go_quiet (fail); go_upto_region 23 with (fail))
                              go_cut [138] (fun v138 wc => ∃ (kq : Nat) (x138_51 : Bool), v138 = .bool x138_51 ∧ Aside0 (hogsheadlaw18_BlocksGrow.j5 kq l0 x5_1 x6_1 t170 t183 x13_4 x138_51 t186 t187 = some r) ∧ Aside0 (kq ≤ k4) ∧ Aside0 (Kd.R Kd.string 9 wc w.heap.size (fun k_ => some k_ ≠ ((.slice Ao53 t183.length co53) : Value).ownBlock) (.slice Ao50 x5_1.length co50) x5_1) ∧ Aside0 (Kd.R (Kd.int .i64) 3 wc w.heap.size (fun _ => True) (.slice Ao49 t170.length co49) t170) ∧ Aside0 (Kd.R Kd.string 9 wc w.heap.size (fun k_ => some k_ ≠ ((.slice Ao50 x5_1.length co50) : Value).ownBlock) (.slice Ao53 t183.length co53) t183) ∧ Aside0 (IsTwo w wc g168 h168 t186 t187 t186 t187 [(.slice Ao53 t183.length co53), (.slice Ao50 x5_1.length co50)]) ∧ Aside0 (Below w.heap.size w wc))
                              case first =>
                                have H := HC52.out
                                clear HC52
                                by_cases c54 : x13_4 > (x5_1.length : Int)
                                · rw [if_pos c54] at H
                                  have c54b0 : decide ((x5_1.length : Int) < x13_4) = true := decide_eq_true c54
                                  clear c54
                                  (first | rw [c54b0] | (simp only [i64_w, i32_w]; rw [c54b0]) | skip)
                                  by_cases c55 : 0 ≤ x13_4
                                  · rw [if_pos c55] at H
                                    have c55b0 : decide (0 ≤ x13_4) = true := decide_eq_true c55
                                    clear c55
                                    obtain ⟨ji56, hji56⟩ : ∃ j_ : Int, (wrap64 (x13_4 - 1)) = j_ := ⟨_, rfl⟩
                                    replace H : (if 0 ≤ (ji56) then (if (ji56) < (t183.length : Int) then (if (rdOf ByteArray.empty t183 x13_4).toList = (rdOf ByteArray.empty t183 (ji56)).toList then (hogsheadlaw18_BlocksGrow.j5 k4 l0 x5_1 x6_1 t170 t183 x13_4 true t186 t187) else ((hogsheadlaw18_in.f k4 t170 x13_4).bind fun t198 => (hogsheadlaw18_BlocksGrow.j5 k4 l0 x5_1 x6_1 t170 t183 x13_4 (!t198) t186 t187))) else (none)) else (none)) = some r := by first | (rw [hji56] at H; exact H) | (simp only [hji56] at H ⊢; exact H)
                                    have hji56w : (IntKind.i64.wrap (x13_4 - 1)) = ji56 := (i64_w _).trans hji56
                                    by_cases c57 : 0 ≤ (ji56)
                                    · rw [if_pos c57] at H
                                      have c57b0 : decide (0 ≤ (ji56)) = true := decide_eq_true c57
                                      clear c57
                                      by_cases c58 : (ji56) < (t183.length : Int)
                                      · rw [if_pos c58] at H
                                        have c58b0 : decide ((ji56) < (t183.length : Int)) = true := decide_eq_true c58
                                        clear c58
                                        by_cases c59 : (rdOf ByteArray.empty t183 x13_4).toList = (rdOf ByteArray.empty t183 (ji56)).toList
                                        · rw [if_pos c59] at H
                                          have c59b0 : ((rdOf ByteArray.empty t183 x13_4).toList == (rdOf ByteArray.empty t183 (ji56)).toList) = true := beq_iff_eq.mpr c59
                                          have c59b1 : ((rdOf ByteArray.empty t183 x13_4).toList != (rdOf ByteArray.empty t183 (ji56)).toList) = false := bne_eq_false_iff_eq.mpr c59
                                          clear c59
                                          have H' := Aside0.mk H
                                          clear H
                                          have p196 : 0 ≤ (x13_4 : Int) := of_decide_eq_true (by first | (with_reducible assumption) | assumption)
                                          have q196 : x13_4 < (t183.length : Int) := of_decide_eq_true (by first | (with_reducible assumption) | assumption)
                                          obtain ⟨ad196, e196, hx196_0⟩ := Kd.at_string (Kd.R_reads' HO_11.out).2.2 x13_4 p196 q196
                                          cases e196
                                          replace p196 := eq_true p196
                                          replace q196 := eq_true q196
                                          have p197 : 0 ≤ ((ji56) : Int) := of_decide_eq_true (by first | (with_reducible assumption) | assumption)
                                          have q197 : (ji56) < (t183.length : Int) := of_decide_eq_true (by first | (with_reducible assumption) | assumption)
                                          obtain ⟨ad197, e197, hx197_0⟩ := Kd.at_string (Kd.R_reads' HO_11.out).2.2 (ji56) p197 q197
                                          obtain rfl : ad196 = ad197 := (by injection e197)
                                          replace p197 := eq_true p197
                                          replace q197 := eq_true q197
                                          go_wp2
                                          repeat (go_quiet (fail); try go_wp2)
                                          go_meet
                                          case rel => exact ⟨_, (true), (by first | rfl | (simp; done) | (simp [*]; done)), H', ⟨by have := HK1.out; have := HJ12.out; have := HK3.out; have := HK4.out; first | omega | exact Nat.le_refl _⟩, ⟨by (with_reducible repeat (first | apply Kd.R_alloc | apply Kd.R_drewN | apply Kd.R_drew)); exact HO_5.out⟩, ⟨by (with_reducible repeat (first | apply Kd.R_alloc | apply Kd.R_drewN | apply Kd.R_drew)); exact HO_7.out⟩, ⟨by (with_reducible repeat (first | apply Kd.R_alloc | apply Kd.R_drewN | apply Kd.R_drew)); exact HO_11.out⟩, ⟨by repeat (first | (with_reducible first | exact HI168.out | apply IsTwo.alloc | apply IsTwo.drewN | apply IsTwo.drew) | exact HI168.out | exact IsTwo.sub HI168.out (by simp [Value.ownBlock]))⟩, ⟨by repeat (first | (with_reducible first | exact HB.out | apply below_alloc | apply pw_below_drewN | apply below_drew1 | refine below_set ?_ (IsTwo.ge HI168.out)) | exact HB.out)⟩⟩
                                        · rw [if_neg c59] at H
                                          have c59b0 : ((rdOf ByteArray.empty t183 x13_4).toList == (rdOf ByteArray.empty t183 (ji56)).toList) = false := beq_eq_false_iff_ne.mpr c59
                                          have c59b1 : ((rdOf ByteArray.empty t183 x13_4).toList != (rdOf ByteArray.empty t183 (ji56)).toList) = true := bne_iff_ne.mpr c59
                                          replace H := Option.bind_eq_some_iff.mp H
                                          obtain ⟨t198, A600, H⟩ := H
                                          replace H : (hogsheadlaw18_BlocksGrow.j5 k4 l0 x5_1 x6_1 t170 t183 x13_4 (!t198) t186 t187) = some r := H
                                          have A60 := Aside0.mk A600
                                          clear A600
                                          have H' := Aside0.mk H
                                          clear H
                                          have p196 : 0 ≤ (x13_4 : Int) := of_decide_eq_true (by first | (with_reducible assumption) | assumption)
                                          have q196 : x13_4 < (t183.length : Int) := of_decide_eq_true (by first | (with_reducible assumption) | assumption)
                                          obtain ⟨ad196, e196, hx196_0⟩ := Kd.at_string (Kd.R_reads' HO_11.out).2.2 x13_4 p196 q196
                                          cases e196
                                          replace p196 := eq_true p196
                                          replace q196 := eq_true q196
                                          have p197 : 0 ≤ ((ji56) : Int) := of_decide_eq_true (by first | (with_reducible assumption) | assumption)
                                          have q197 : (ji56) < (t183.length : Int) := of_decide_eq_true (by first | (with_reducible assumption) | assumption)
                                          obtain ⟨ad197, e197, hx197_0⟩ := Kd.at_string (Kd.R_reads' HO_11.out).2.2 (ji56) p197 q197
                                          obtain rfl : ad196 = ad197 := (by injection e197)
                                          replace p197 := eq_true p197
                                          replace q197 := eq_true q197
                                          go_wp2_with (first | (go_at_call 25; (with_reducible refine (hogsheadlaw18_in.calls k4 _ _ t170 x13_4 t198 _ ?side1 ?side2 A60.out).mono ?_); (case side1 => repeat (first | exact (Kd.R_reads' HO_7.out).2.2 | (with_reducible refine Kd.C_alloc ?_ _) | (with_reducible refine Kd.C_drewN ?_ _) | (with_reducible refine Kd.C_drew ?_))); (case side2 => exact (Kd.R_reads' HO_7.out).2.1); rintro e w' ⟨rfl, ⟨nd, rfl⟩⟩; (try first | exact ⟨rfl, _, World.drewN_drewN _ _ _⟩ | exact ⟨rfl, _, Eq.trans (World.drewN_drewN _ _ _) (congrArg (World.drewN _) (Nat.add_assoc _ _ _))⟩)))
                                          repeat (go_quiet (first | (go_at_call 25; (with_reducible refine (hogsheadlaw18_in.calls k4 _ _ t170 x13_4 t198 _ ?side1 ?side2 A60.out).mono ?_); (case side1 => repeat (first | exact (Kd.R_reads' HO_7.out).2.2 | (with_reducible refine Kd.C_alloc ?_ _) | (with_reducible refine Kd.C_drewN ?_ _) | (with_reducible refine Kd.C_drew ?_))); (case side2 => exact (Kd.R_reads' HO_7.out).2.1); rintro e w' ⟨rfl, ⟨nd, rfl⟩⟩; (try first | exact ⟨rfl, _, World.drewN_drewN _ _ _⟩ | exact ⟨rfl, _, Eq.trans (World.drewN_drewN _ _ _) (congrArg (World.drewN _) (Nat.add_assoc _ _ _))⟩))); try go_wp2_with (first | (go_at_call 25; (with_reducible refine (hogsheadlaw18_in.calls k4 _ _ t170 x13_4 t198 _ ?side1 ?side2 A60.out).mono ?_); (case side1 => repeat (first | exact (Kd.R_reads' HO_7.out).2.2 | (with_reducible refine Kd.C_alloc ?_ _) | (with_reducible refine Kd.C_drewN ?_ _) | (with_reducible refine Kd.C_drew ?_))); (case side2 => exact (Kd.R_reads' HO_7.out).2.1); rintro e w' ⟨rfl, ⟨nd, rfl⟩⟩; (try first | exact ⟨rfl, _, World.drewN_drewN _ _ _⟩ | exact ⟨rfl, _, Eq.trans (World.drewN_drewN _ _ _) (congrArg (World.drewN _) (Nat.add_assoc _ _ _))⟩))))
                                          go_meet
                                          case rel => exact ⟨_, (!t198), (by first | rfl | (simp; done) | (simp [*]; done)), H', ⟨by have := HK1.out; have := HJ12.out; have := HK3.out; have := HK4.out; first | omega | exact Nat.le_refl _⟩, ⟨by (with_reducible repeat (first | apply Kd.R_alloc | apply Kd.R_drewN | apply Kd.R_drew)); exact HO_5.out⟩, ⟨by (with_reducible repeat (first | apply Kd.R_alloc | apply Kd.R_drewN | apply Kd.R_drew)); exact HO_7.out⟩, ⟨by (with_reducible repeat (first | apply Kd.R_alloc | apply Kd.R_drewN | apply Kd.R_drew)); exact HO_11.out⟩, ⟨by repeat (first | (with_reducible first | exact HI168.out | apply IsTwo.alloc | apply IsTwo.drewN | apply IsTwo.drew) | exact HI168.out | exact IsTwo.sub HI168.out (by simp [Value.ownBlock]))⟩, ⟨by repeat (first | (with_reducible first | exact HB.out | apply below_alloc | apply pw_below_drewN | apply below_drew1 | refine below_set ?_ (IsTwo.ge HI168.out)) | exact HB.out)⟩⟩
                                      · rw [if_neg c58] at H
                                        exact absurd H (by simp)
                                    · rw [if_neg c57] at H
                                      exact absurd H (by simp)
                                  · rw [if_neg c55] at H
                                    exact absurd H (by simp)
                                · rw [if_neg c54] at H
                                  have c54b0 : decide ((x5_1.length : Int) < x13_4) = false := decide_eq_false c54
                                  clear c54
                                  (first | rw [c54b0] | (simp only [i64_w, i32_w]; rw [c54b0]) | skip)
                                  replace H := Option.bind_eq_some_iff.mp H
                                  obtain ⟨t199, A610, H⟩ := H
                                  replace H : (hogsheadlaw18_BlocksGrow.j5 k4 l0 x5_1 x6_1 t170 t183 x13_4 (!t199) t186 t187) = some r := H
                                  have A61 := Aside0.mk A610
                                  clear A610
                                  have H' := Aside0.mk H
                                  clear H
                                  go_wp2_with (first | (go_at_call 25; (with_reducible refine (hogsheadlaw18_in.calls k4 _ _ t170 x13_4 t199 _ ?side1 ?side2 A61.out).mono ?_); (case side1 => repeat (first | exact (Kd.R_reads' HO_7.out).2.2 | (with_reducible refine Kd.C_alloc ?_ _) | (with_reducible refine Kd.C_drewN ?_ _) | (with_reducible refine Kd.C_drew ?_))); (case side2 => exact (Kd.R_reads' HO_7.out).2.1); rintro e w' ⟨rfl, ⟨nd, rfl⟩⟩; (try first | exact ⟨rfl, _, World.drewN_drewN _ _ _⟩ | exact ⟨rfl, _, Eq.trans (World.drewN_drewN _ _ _) (congrArg (World.drewN _) (Nat.add_assoc _ _ _))⟩)))
                                  repeat (go_quiet (first | (go_at_call 25; (with_reducible refine (hogsheadlaw18_in.calls k4 _ _ t170 x13_4 t199 _ ?side1 ?side2 A61.out).mono ?_); (case side1 => repeat (first | exact (Kd.R_reads' HO_7.out).2.2 | (with_reducible refine Kd.C_alloc ?_ _) | (with_reducible refine Kd.C_drewN ?_ _) | (with_reducible refine Kd.C_drew ?_))); (case side2 => exact (Kd.R_reads' HO_7.out).2.1); rintro e w' ⟨rfl, ⟨nd, rfl⟩⟩; (try first | exact ⟨rfl, _, World.drewN_drewN _ _ _⟩ | exact ⟨rfl, _, Eq.trans (World.drewN_drewN _ _ _) (congrArg (World.drewN _) (Nat.add_assoc _ _ _))⟩))); try go_wp2_with (first | (go_at_call 25; (with_reducible refine (hogsheadlaw18_in.calls k4 _ _ t170 x13_4 t199 _ ?side1 ?side2 A61.out).mono ?_); (case side1 => repeat (first | exact (Kd.R_reads' HO_7.out).2.2 | (with_reducible refine Kd.C_alloc ?_ _) | (with_reducible refine Kd.C_drewN ?_ _) | (with_reducible refine Kd.C_drew ?_))); (case side2 => exact (Kd.R_reads' HO_7.out).2.1); rintro e w' ⟨rfl, ⟨nd, rfl⟩⟩; (try first | exact ⟨rfl, _, World.drewN_drewN _ _ _⟩ | exact ⟨rfl, _, Eq.trans (World.drewN_drewN _ _ _) (congrArg (World.drewN _) (Nat.add_assoc _ _ _))⟩))))
                                  go_meet
                                  case rel => exact ⟨_, (!t199), (by first | rfl | (simp; done) | (simp [*]; done)), H', ⟨by have := HK1.out; have := HJ12.out; have := HK3.out; have := HK4.out; first | omega | exact Nat.le_refl _⟩, ⟨by (with_reducible repeat (first | apply Kd.R_alloc | apply Kd.R_drewN | apply Kd.R_drew)); exact HO_5.out⟩, ⟨by (with_reducible repeat (first | apply Kd.R_alloc | apply Kd.R_drewN | apply Kd.R_drew)); exact HO_7.out⟩, ⟨by (with_reducible repeat (first | apply Kd.R_alloc | apply Kd.R_drewN | apply Kd.R_drew)); exact HO_11.out⟩, ⟨by repeat (first | (with_reducible first | exact HI168.out | apply IsTwo.alloc | apply IsTwo.drewN | apply IsTwo.drew) | exact HI168.out | exact IsTwo.sub HI168.out (by simp [Value.ownBlock]))⟩, ⟨by repeat (first | (with_reducible first | exact HB.out | apply below_alloc | apply pw_below_drewN | apply below_drew1 | refine below_set ?_ (IsTwo.ge HI168.out)) | exact HB.out)⟩⟩
                              case rest =>
                                clear HC52
                                try clear c1
                                try clear p1
                                try clear q1
                                try clear hx1
                                try clear c2
                                try clear p2
                                try clear c3
                                try clear q3
                                try clear c4
                                try clear c5
                                try clear p6
                                try clear c7
                                try clear c8
                                try clear c8b0
                                try clear c9
                                try clear c9b0
                                try clear p16
                                try clear q16
                                try clear hx16
                                try clear c17
                                try clear c17b0
                                try clear c17b1
                                try clear p17
                                try clear q17
                                try clear hx17
                                try clear c18
                                try clear c18b0
                                try clear c18b1
                                try clear p19
                                try clear q19
                                try clear hx19
                                try clear c20
                                try clear c21
                                try clear c21b0
                                try clear c21b1
                                try clear c26
                                try clear c26b0
                                try clear c31
                                try clear c31b0
                                try clear c31b1
                                try clear c32
                                try clear c32b0
                                try clear c32b1
                                try clear q38
                                try clear c41
                                try clear c42
                                try clear c42b0
                                try clear c45
                                try clear c45b0
                                try clear c46
                                try clear c46b0
                                try clear c48
                                try clear c51
                                try clear c51b0
                                try clear c54
                                try clear c54b0
                                try clear c55
                                try clear c55b0
                                try clear c57
                                try clear c57b0
                                try clear c58
                                try clear c58b0
                                try clear c59
                                try clear c59b0
                                try clear c59b1
                                try clear hx169_0
                                try clear hx176_0
                                try clear hx194_0
                                try clear hx195_0
                                try clear hx196_0
                                try clear hx197_0
                                try clear p1
                                try clear p16
                                try clear p169
                                try clear p17
                                try clear p176
                                try clear p19
                                try clear p194
                                try clear p195
                                try clear p196
                                try clear p197
                                try clear p2
                                try clear p6
                                try clear q1
                                try clear q16
                                try clear q169
                                try clear q17
                                try clear q176
                                try clear q19
                                try clear q194
                                try clear q195
                                try clear q196
                                try clear q197
                                try clear q3
                                try clear q38
                                obtain ⟨kq, x138_51, rfl, HA, HJ51, HO_5, HO_7, HO_11, HI168, HB⟩ := hcut
                                cases kq with
                                | zero => exact absurd HA.out (by simp [hogsheadlaw18_BlocksGrow.j5])
                                | succ kj51 =>
                                  have H := HA.out
                                  clear HA
                                  simp only [hogsheadlaw18_BlocksGrow.j5] at H
                                  by_cases c62 : x138_51 = true
                                  · subst c62
                                    have H1 : (some false) = some r := by rw [if_pos rfl] at H; exact H
                                    clear H
                                    have H := H1
                                    clear H1
                                    obtain rfl := Option.some.inj H
                                    go_wp2
                                    repeat (go_quiet (fail); try go_wp2)
                                    go_ret
                                    exact ⟨by first | rfl | (simp [errW_none, errW_some] <;> rfl) | (simp [*, errW_none, errW_some] <;> rfl), by repeat (first | (with_reducible first | exact HB.out | apply below_alloc | apply pw_below_drewN | apply below_drew1 | refine below_set ?_ (IsTwo.ge HI168.out)) | exact HB.out)⟩
                                  · replace c62 := Bool.eq_false_iff.mpr c62
                                    subst c62
                                    have H1 : (hogsheadlaw18_BlocksGrow.l2 kj51 l0 x5_1 x6_1 t170 t183 (wrap64 (x13_4 + 1)) t186 t187) = some r := by rw [if_neg (show ¬ (false = true) by decide)] at H; exact H
                                    clear H
                                    have H := H1
                                    clear H1
                                    have H' := Aside0.mk H
                                    clear H
                                    go_wp2
                                    repeat (go_quiet (fail); try go_wp2)
                                    go_roundg kj51
                                    case measure => have := HK1.out; have := HJ12.out; have := HK3.out; have := HK4.out; have := HJ51.out; omega
                                    case rel => exact ⟨(wrap64 (x13_4 + 1)), (by first | rfl | (simp; done) | (simp [*]; done)), H', ⟨by have := HK1.out; have := HJ12.out; have := HK3.out; have := HK4.out; have := HJ51.out; omega⟩, ⟨by (with_reducible repeat (first | apply Kd.R_alloc | apply Kd.R_drewN | apply Kd.R_drew)); exact HO_5.out⟩, ⟨by (with_reducible repeat (first | apply Kd.R_alloc | apply Kd.R_drewN | apply Kd.R_drew)); exact HO_7.out⟩, ⟨by (with_reducible repeat (first | apply Kd.R_alloc | apply Kd.R_drewN | apply Kd.R_drew)); exact HO_11.out⟩, ⟨by repeat (first | (with_reducible first | exact HI168.out | apply IsTwo.alloc | apply IsTwo.drewN | apply IsTwo.drew) | exact HI168.out | exact IsTwo.sub HI168.out (by simp [Value.ownBlock]))⟩, ⟨by repeat (first | (with_reducible first | exact HB.out | apply below_alloc | apply pw_below_drewN | apply below_drew1 | refine below_set ?_ (IsTwo.ge HI168.out)) | exact HB.out)⟩⟩
                            · rw [if_neg c51] at H
                              have c51b0 : decide (x13_4 < (t183.length : Int)) = false := decide_eq_false c51
                              clear c51
                              have H' := Aside0.mk H
                              clear H
                              obtain ⟨Ao63, co63, eo63⟩ := Kd.R_slice HO_11.out
                              subst eo63
                              go_wp2
                              repeat (go_quiet (fail); try go_wp2)
                              go_roundg k4
                              case measure => have := HK1.out; have := HJ12.out; have := HK3.out; have := HK4.out; omega
                              case rel => exact ⟨(t183), (wrap64 (x6_1 + 1)), (t186), (t187), (Value.bool false), (by first | rfl | (simp; done) | (simp [*]; done)), H', ⟨by have := HK1.out; have := HJ12.out; have := HK3.out; have := HK4.out; omega⟩, ⟨by (with_reducible repeat (first | apply Kd.R_alloc | apply Kd.R_drewN | apply Kd.R_drew)); exact Kd.R_mono HO_11.out (fun _ hk => trivial)⟩, ⟨by repeat (first | (with_reducible first | exact HI168.out | apply IsTwo.alloc | apply IsTwo.drewN | apply IsTwo.drew) | exact HI168.out | exact IsTwo.sub HI168.out (by simp [Value.ownBlock]))⟩, ⟨by repeat (first | (with_reducible first | exact HB.out | apply below_alloc | apply pw_below_drewN | apply below_drew1 | refine below_set ?_ (IsTwo.ge HI168.out)) | exact HB.out)⟩⟩
          · rw [if_neg c9] at H
            exact absurd H (by simp)
        · rw [if_neg c8] at H
          have c8b0 : decide (x6_1 < (l0.length : Int)) = false := decide_eq_false c8
          clear c8
          replace H := Option.bind_eq_some_iff.mp H
          obtain ⟨⟨t200, t203, t204⟩, A640, H⟩ := H
          replace H : ((hogsheadlaw0_SameTexts.f k1 t200 x5_1).bind fun t205 => (if t205 = true then ((blocks_Table_Len.f t203 t204).bind fun bt206 => (if bt206.1 = (x5_1.length : Int) then ((hogsheadlaw18_awake.f k1).bind fun t209 => (some t209)) else (some false))) else (some false))) = some r := H
          have A64 := Aside0.mk A640
          clear A640
          replace H := Option.bind_eq_some_iff.mp H
          obtain ⟨t205, A650, H⟩ := H
          replace H : (if t205 = true then ((blocks_Table_Len.f t203 t204).bind fun bt206 => (if bt206.1 = (x5_1.length : Int) then ((hogsheadlaw18_awake.f k1).bind fun t209 => (some t209)) else (some false))) else (some false)) = some r := H
          have A65 := Aside0.mk A650
          clear A650
          by_cases c66 : t205 = true
          · subst c66
            have H1 : ((blocks_Table_Len.f t203 t204).bind fun bt206 => (if bt206.1 = (x5_1.length : Int) then ((hogsheadlaw18_awake.f k1).bind fun t209 => (some t209)) else (some false))) = some r := by rw [if_pos rfl] at H; exact H
            clear H
            have H := H1
            clear H1
            replace H := Option.bind_eq_some_iff.mp H
            obtain ⟨⟨t206, t207, t208⟩, A670, H⟩ := H
            replace H : (if t206 = (x5_1.length : Int) then ((hogsheadlaw18_awake.f k1).bind fun t209 => (some t209)) else (some false)) = some r := H
            have A67 := Aside0.mk A670
            clear A670
            by_cases c68 : t206 = (x5_1.length : Int)
            · rw [if_pos c68] at H
              have c68b0 : (t206 == (x5_1.length : Int)) = true := beq_iff_eq.mpr c68
              have c68b1 : (t206 != (x5_1.length : Int)) = false := bne_eq_false_iff_eq.mpr c68
              clear c68
              replace H := Option.bind_eq_some_iff.mp H
              obtain ⟨t209, A690, H⟩ := H
              replace H : (some t209) = some r := H
              have A69 := Aside0.mk A690
              clear A690
              obtain rfl := Option.some.inj H
              go_wp2_with (first | (go_at_call 19; (with_reducible refine (allSnd g168 h168 x169000_1 x169001_1 ?vs1228_ t200 t203 t204 w _ ?side1 ?side2 A64.out).mono ?_); (case side1 => repeat (first | (with_reducible first | exact HI168.out | apply IsTwo.alloc | apply IsTwo.drewN | apply IsTwo.drew) | exact HI168.out | exact IsTwo.sub HI168.out (by simp [Value.ownBlock]))); (case side2 => repeat (first | (with_reducible first | exact HB.out | apply below_alloc | apply pw_below_drewN | apply below_drew1 | refine below_set ?_ (IsTwo.ge HI168.out)) | exact HB.out)); rintro e w70 ⟨v201, rfl, ho0, hi, hb, hk⟩; have n0_ := Aside0.mk (Kd.R_mono (Kd.R_told (R_oldT (IsTwo.apartV (show IsTwo w _ g168 h168 _ _ _ _ _ from by repeat (first | (with_reducible first | exact HI168.out | apply IsTwo.alloc | apply IsTwo.drewN | apply IsTwo.drew) | exact HI168.out | exact IsTwo.sub HI168.out (by simp [Value.ownBlock]))) (by (with_reducible repeat (first | apply Kd.R_alloc | apply Kd.R_drewN | apply Kd.R_drew)); exact HO_5.out) (by simp)) hk) (Kd.R_base ho0)) (fun _ h_ => h_.1)); have n1_ := Aside0.mk (Kd.R_lower (Kd.R_new' ho0 (Kd.R_lt (by (with_reducible repeat (first | apply Kd.R_alloc | apply Kd.R_drewN | apply Kd.R_drew)); exact HO_5.out))) (below_size (by repeat (first | (with_reducible first | exact HB.out | apply below_alloc | apply pw_below_drewN | apply below_drew1 | refine below_set ?_ (IsTwo.ge HI168.out)) | exact HB.out)))); have n2_ := Aside0.mk (hb); have n3_ := Aside0.mk (hi); clear HO_5; clear HB; clear HI168; have HO_5 := n0_; have HO202 := n1_; have HB := n2_; have HI168 := n3_; clear n0_ n1_ n2_ n3_; (try clear hb); (try clear hb2); (try clear hk); (try clear hi); (try clear ho0); obtain ⟨Ao71, co71, eo71⟩ := Kd.R_slice HO202.out; subst eo71; obtain ⟨Ao72, co72, eo72⟩ := Kd.R_slice HO_5.out; subst eo72) | (go_at_call 21; (with_reducible refine (hogsheadlaw0_SameTexts.calls k1 _ _ t200 _ _ x5_1 true _ ?side1 ?side2 ?side3 ?side4 A65.out).mono ?_); (case side1 => repeat (first | exact (Kd.R_reads' HO202.out).2.2 | (with_reducible refine Kd.C_alloc ?_ _) | (with_reducible refine Kd.C_drewN ?_ _) | (with_reducible refine Kd.C_drew ?_))); (case side2 => exact (Kd.R_reads' HO202.out).2.1); (case side3 => repeat (first | exact (Kd.R_reads' HO_5.out).2.2 | (with_reducible refine Kd.C_alloc ?_ _) | (with_reducible refine Kd.C_drewN ?_ _) | (with_reducible refine Kd.C_drew ?_))); (case side4 => exact (Kd.R_reads' HO_5.out).2.1); rintro e w' ⟨rfl, ⟨nd, rfl⟩⟩; (try first | exact ⟨rfl, _, World.drewN_drewN _ _ _⟩ | exact ⟨rfl, _, Eq.trans (World.drewN_drewN _ _ _) (congrArg (World.drewN _) (Nat.add_assoc _ _ _))⟩)) | (go_at_call 12; (with_reducible refine (lenFst g168 h168 t203 t204 ?vs1230_ t206 t207 t208 w _ ?side1 ?side2 A67.out).mono ?_); (case side1 => repeat (first | (with_reducible first | exact HI168.out | apply IsTwo.alloc | apply IsTwo.drewN | apply IsTwo.drew) | exact HI168.out | exact IsTwo.sub HI168.out (by simp [Value.ownBlock]))); (case side2 => repeat (first | (with_reducible first | exact HB.out | apply below_alloc | apply pw_below_drewN | apply below_drew1 | refine below_set ?_ (IsTwo.ge HI168.out)) | exact HB.out)); rintro e w73 ⟨rfl, hi, hb, hk⟩; have n0_ := Aside0.mk (Kd.R_mono (Kd.R_keep (IsTwo.apart (show IsTwo w _ g168 h168 _ _ _ _ _ from by repeat (first | (with_reducible first | exact HI168.out | apply IsTwo.alloc | apply IsTwo.drewN | apply IsTwo.drew) | exact HI168.out | exact IsTwo.sub HI168.out (by simp [Value.ownBlock]))) (by (with_reducible repeat (first | apply Kd.R_alloc | apply Kd.R_drewN | apply Kd.R_drew)); exact HO_5.out) (by decide)) hk (fun _ h => h.2)) (fun _ h => h.1)); have n1_ := Aside0.mk (Kd.R_mono (Kd.R_keep (IsTwo.apart (show IsTwo w _ g168 h168 _ _ _ _ _ from by repeat (first | (with_reducible first | exact HI168.out | apply IsTwo.alloc | apply IsTwo.drewN | apply IsTwo.drew) | exact HI168.out | exact IsTwo.sub HI168.out (by simp [Value.ownBlock]))) (by (with_reducible repeat (first | apply Kd.R_alloc | apply Kd.R_drewN | apply Kd.R_drew)); exact HO202.out) (by decide)) hk (fun _ h => h.2)) (fun _ h => h.1)); have n2_ := Aside0.mk (hb); have n3_ := Aside0.mk (hi); clear HO_5; clear HO202; clear HB; clear HI168; have HO_5 := n0_; have HO202 := n1_; have HB := n2_; have HI168 := n3_; clear n0_ n1_ n2_ n3_; (try clear hb); (try clear hb2); (try clear hk); (try clear hi)) | (go_at_call 13; (with_reducible refine (hogsheadlaw18_awake.calls k1  t209 _ A69.out).mono ?_); rintro e w74 ⟨rfl, hb⟩; have n0_ := Aside0.mk (Kd.R_below (by (with_reducible repeat (first | apply Kd.R_alloc | apply Kd.R_drewN | apply Kd.R_drew)); exact HO_5.out) hb); have n1_ := Aside0.mk (Kd.R_below (by (with_reducible repeat (first | apply Kd.R_alloc | apply Kd.R_drewN | apply Kd.R_drew)); exact HO202.out) hb); have n2_ := Aside0.mk (IsS58.below (by repeat (first | (with_reducible first | exact HI168.out | apply IsS58.alloc | apply IsS58.drewN | apply IsS58.drew) | exact HI168.out)) hb); have n3_ := Aside0.mk (below_step (by repeat (first | (with_reducible first | exact HB.out | apply below_alloc | apply pw_below_drewN | apply below_drew1 | refine below_set ?_ (IsS58.ge HI168.out)) | exact HB.out)) hb); clear HO_5; clear HO202; clear HI168; clear HB; have HO_5 := n0_; have HO202 := n1_; have HI168 := n2_; have HB := n3_; clear n0_ n1_ n2_ n3_; (try clear hb); (try clear hb2); (try clear hk); (try clear hi)))
              repeat (go_quiet (first | (go_at_call 19; (with_reducible refine (allSnd g168 h168 x169000_1 x169001_1 ?vs1233_ t200 t203 t204 w _ ?side1 ?side2 A64.out).mono ?_); (case side1 => repeat (first | (with_reducible first | exact HI168.out | apply IsTwo.alloc | apply IsTwo.drewN | apply IsTwo.drew) | exact HI168.out | exact IsTwo.sub HI168.out (by simp [Value.ownBlock]))); (case side2 => repeat (first | (with_reducible first | exact HB.out | apply below_alloc | apply pw_below_drewN | apply below_drew1 | refine below_set ?_ (IsTwo.ge HI168.out)) | exact HB.out)); rintro e w70 ⟨v201, rfl, ho0, hi, hb, hk⟩; have n0_ := Aside0.mk (Kd.R_mono (Kd.R_told (R_oldT (IsTwo.apartV (show IsTwo w _ g168 h168 _ _ _ _ _ from by repeat (first | (with_reducible first | exact HI168.out | apply IsTwo.alloc | apply IsTwo.drewN | apply IsTwo.drew) | exact HI168.out | exact IsTwo.sub HI168.out (by simp [Value.ownBlock]))) (by (with_reducible repeat (first | apply Kd.R_alloc | apply Kd.R_drewN | apply Kd.R_drew)); exact HO_5.out) (by simp)) hk) (Kd.R_base ho0)) (fun _ h_ => h_.1)); have n1_ := Aside0.mk (Kd.R_lower (Kd.R_new' ho0 (Kd.R_lt (by (with_reducible repeat (first | apply Kd.R_alloc | apply Kd.R_drewN | apply Kd.R_drew)); exact HO_5.out))) (below_size (by repeat (first | (with_reducible first | exact HB.out | apply below_alloc | apply pw_below_drewN | apply below_drew1 | refine below_set ?_ (IsTwo.ge HI168.out)) | exact HB.out)))); have n2_ := Aside0.mk (hb); have n3_ := Aside0.mk (hi); clear HO_5; clear HB; clear HI168; have HO_5 := n0_; have HO202 := n1_; have HB := n2_; have HI168 := n3_; clear n0_ n1_ n2_ n3_; (try clear hb); (try clear hb2); (try clear hk); (try clear hi); (try clear ho0); obtain ⟨Ao71, co71, eo71⟩ := Kd.R_slice HO202.out; subst eo71; obtain ⟨Ao72, co72, eo72⟩ := Kd.R_slice HO_5.out; subst eo72) | (go_at_call 21; (with_reducible refine (hogsheadlaw0_SameTexts.calls k1 _ _ t200 _ _ x5_1 true _ ?side1 ?side2 ?side3 ?side4 A65.out).mono ?_); (case side1 => repeat (first | exact (Kd.R_reads' HO202.out).2.2 | (with_reducible refine Kd.C_alloc ?_ _) | (with_reducible refine Kd.C_drewN ?_ _) | (with_reducible refine Kd.C_drew ?_))); (case side2 => exact (Kd.R_reads' HO202.out).2.1); (case side3 => repeat (first | exact (Kd.R_reads' HO_5.out).2.2 | (with_reducible refine Kd.C_alloc ?_ _) | (with_reducible refine Kd.C_drewN ?_ _) | (with_reducible refine Kd.C_drew ?_))); (case side4 => exact (Kd.R_reads' HO_5.out).2.1); rintro e w' ⟨rfl, ⟨nd, rfl⟩⟩; (try first | exact ⟨rfl, _, World.drewN_drewN _ _ _⟩ | exact ⟨rfl, _, Eq.trans (World.drewN_drewN _ _ _) (congrArg (World.drewN _) (Nat.add_assoc _ _ _))⟩)) | (go_at_call 12; (with_reducible refine (lenFst g168 h168 t203 t204 ?vs1235_ t206 t207 t208 w _ ?side1 ?side2 A67.out).mono ?_); (case side1 => repeat (first | (with_reducible first | exact HI168.out | apply IsTwo.alloc | apply IsTwo.drewN | apply IsTwo.drew) | exact HI168.out | exact IsTwo.sub HI168.out (by simp [Value.ownBlock]))); (case side2 => repeat (first | (with_reducible first | exact HB.out | apply below_alloc | apply pw_below_drewN | apply below_drew1 | refine below_set ?_ (IsTwo.ge HI168.out)) | exact HB.out)); rintro e w73 ⟨rfl, hi, hb, hk⟩; have n0_ := Aside0.mk (Kd.R_mono (Kd.R_keep (IsTwo.apart (show IsTwo w _ g168 h168 _ _ _ _ _ from by repeat (first | (with_reducible first | exact HI168.out | apply IsTwo.alloc | apply IsTwo.drewN | apply IsTwo.drew) | exact HI168.out | exact IsTwo.sub HI168.out (by simp [Value.ownBlock]))) (by (with_reducible repeat (first | apply Kd.R_alloc | apply Kd.R_drewN | apply Kd.R_drew)); exact HO_5.out) (by decide)) hk (fun _ h => h.2)) (fun _ h => h.1)); have n1_ := Aside0.mk (Kd.R_mono (Kd.R_keep (IsTwo.apart (show IsTwo w _ g168 h168 _ _ _ _ _ from by repeat (first | (with_reducible first | exact HI168.out | apply IsTwo.alloc | apply IsTwo.drewN | apply IsTwo.drew) | exact HI168.out | exact IsTwo.sub HI168.out (by simp [Value.ownBlock]))) (by (with_reducible repeat (first | apply Kd.R_alloc | apply Kd.R_drewN | apply Kd.R_drew)); exact HO202.out) (by decide)) hk (fun _ h => h.2)) (fun _ h => h.1)); have n2_ := Aside0.mk (hb); have n3_ := Aside0.mk (hi); clear HO_5; clear HO202; clear HB; clear HI168; have HO_5 := n0_; have HO202 := n1_; have HB := n2_; have HI168 := n3_; clear n0_ n1_ n2_ n3_; (try clear hb); (try clear hb2); (try clear hk); (try clear hi)) | (go_at_call 13; (with_reducible refine (hogsheadlaw18_awake.calls k1  t209 _ A69.out).mono ?_); rintro e w74 ⟨rfl, hb⟩; have n0_ := Aside0.mk (Kd.R_below (by (with_reducible repeat (first | apply Kd.R_alloc | apply Kd.R_drewN | apply Kd.R_drew)); exact HO_5.out) hb); have n1_ := Aside0.mk (Kd.R_below (by (with_reducible repeat (first | apply Kd.R_alloc | apply Kd.R_drewN | apply Kd.R_drew)); exact HO202.out) hb); have n2_ := Aside0.mk (IsS58.below (by repeat (first | (with_reducible first | exact HI168.out | apply IsS58.alloc | apply IsS58.drewN | apply IsS58.drew) | exact HI168.out)) hb); have n3_ := Aside0.mk (below_step (by repeat (first | (with_reducible first | exact HB.out | apply below_alloc | apply pw_below_drewN | apply below_drew1 | refine below_set ?_ (IsS58.ge HI168.out)) | exact HB.out)) hb); clear HO_5; clear HO202; clear HI168; clear HB; have HO_5 := n0_; have HO202 := n1_; have HI168 := n2_; have HB := n3_; clear n0_ n1_ n2_ n3_; (try clear hb); (try clear hb2); (try clear hk); (try clear hi))); try go_wp2_with (first | (go_at_call 19; (with_reducible refine (allSnd g168 h168 x169000_1 x169001_1 ?vs1237_ t200 t203 t204 w _ ?side1 ?side2 A64.out).mono ?_); (case side1 => repeat (first | (with_reducible first | exact HI168.out | apply IsTwo.alloc | apply IsTwo.drewN | apply IsTwo.drew) | exact HI168.out | exact IsTwo.sub HI168.out (by simp [Value.ownBlock]))); (case side2 => repeat (first | (with_reducible first | exact HB.out | apply below_alloc | apply pw_below_drewN | apply below_drew1 | refine below_set ?_ (IsTwo.ge HI168.out)) | exact HB.out)); rintro e w70 ⟨v201, rfl, ho0, hi, hb, hk⟩; have n0_ := Aside0.mk (Kd.R_mono (Kd.R_told (R_oldT (IsTwo.apartV (show IsTwo w _ g168 h168 _ _ _ _ _ from by repeat (first | (with_reducible first | exact HI168.out | apply IsTwo.alloc | apply IsTwo.drewN | apply IsTwo.drew) | exact HI168.out | exact IsTwo.sub HI168.out (by simp [Value.ownBlock]))) (by (with_reducible repeat (first | apply Kd.R_alloc | apply Kd.R_drewN | apply Kd.R_drew)); exact HO_5.out) (by simp)) hk) (Kd.R_base ho0)) (fun _ h_ => h_.1)); have n1_ := Aside0.mk (Kd.R_lower (Kd.R_new' ho0 (Kd.R_lt (by (with_reducible repeat (first | apply Kd.R_alloc | apply Kd.R_drewN | apply Kd.R_drew)); exact HO_5.out))) (below_size (by repeat (first | (with_reducible first | exact HB.out | apply below_alloc | apply pw_below_drewN | apply below_drew1 | refine below_set ?_ (IsTwo.ge HI168.out)) | exact HB.out)))); have n2_ := Aside0.mk (hb); have n3_ := Aside0.mk (hi); clear HO_5; clear HB; clear HI168; have HO_5 := n0_; have HO202 := n1_; have HB := n2_; have HI168 := n3_; clear n0_ n1_ n2_ n3_; (try clear hb); (try clear hb2); (try clear hk); (try clear hi); (try clear ho0); obtain ⟨Ao71, co71, eo71⟩ := Kd.R_slice HO202.out; subst eo71; obtain ⟨Ao72, co72, eo72⟩ := Kd.R_slice HO_5.out; subst eo72) | (go_at_call 21; (with_reducible refine (hogsheadlaw0_SameTexts.calls k1 _ _ t200 _ _ x5_1 true _ ?side1 ?side2 ?side3 ?side4 A65.out).mono ?_); (case side1 => repeat (first | exact (Kd.R_reads' HO202.out).2.2 | (with_reducible refine Kd.C_alloc ?_ _) | (with_reducible refine Kd.C_drewN ?_ _) | (with_reducible refine Kd.C_drew ?_))); (case side2 => exact (Kd.R_reads' HO202.out).2.1); (case side3 => repeat (first | exact (Kd.R_reads' HO_5.out).2.2 | (with_reducible refine Kd.C_alloc ?_ _) | (with_reducible refine Kd.C_drewN ?_ _) | (with_reducible refine Kd.C_drew ?_))); (case side4 => exact (Kd.R_reads' HO_5.out).2.1); rintro e w' ⟨rfl, ⟨nd, rfl⟩⟩; (try first | exact ⟨rfl, _, World.drewN_drewN _ _ _⟩ | exact ⟨rfl, _, Eq.trans (World.drewN_drewN _ _ _) (congrArg (World.drewN _) (Nat.add_assoc _ _ _))⟩)) | (go_at_call 12; (with_reducible refine (lenFst g168 h168 t203 t204 ?vs1239_ t206 t207 t208 w _ ?side1 ?side2 A67.out).mono ?_); (case side1 => repeat (first | (with_reducible first | exact HI168.out | apply IsTwo.alloc | apply IsTwo.drewN | apply IsTwo.drew) | exact HI168.out | exact IsTwo.sub HI168.out (by simp [Value.ownBlock]))); (case side2 => repeat (first | (with_reducible first | exact HB.out | apply below_alloc | apply pw_below_drewN | apply below_drew1 | refine below_set ?_ (IsTwo.ge HI168.out)) | exact HB.out)); rintro e w73 ⟨rfl, hi, hb, hk⟩; have n0_ := Aside0.mk (Kd.R_mono (Kd.R_keep (IsTwo.apart (show IsTwo w _ g168 h168 _ _ _ _ _ from by repeat (first | (with_reducible first | exact HI168.out | apply IsTwo.alloc | apply IsTwo.drewN | apply IsTwo.drew) | exact HI168.out | exact IsTwo.sub HI168.out (by simp [Value.ownBlock]))) (by (with_reducible repeat (first | apply Kd.R_alloc | apply Kd.R_drewN | apply Kd.R_drew)); exact HO_5.out) (by decide)) hk (fun _ h => h.2)) (fun _ h => h.1)); have n1_ := Aside0.mk (Kd.R_mono (Kd.R_keep (IsTwo.apart (show IsTwo w _ g168 h168 _ _ _ _ _ from by repeat (first | (with_reducible first | exact HI168.out | apply IsTwo.alloc | apply IsTwo.drewN | apply IsTwo.drew) | exact HI168.out | exact IsTwo.sub HI168.out (by simp [Value.ownBlock]))) (by (with_reducible repeat (first | apply Kd.R_alloc | apply Kd.R_drewN | apply Kd.R_drew)); exact HO202.out) (by decide)) hk (fun _ h => h.2)) (fun _ h => h.1)); have n2_ := Aside0.mk (hb); have n3_ := Aside0.mk (hi); clear HO_5; clear HO202; clear HB; clear HI168; have HO_5 := n0_; have HO202 := n1_; have HB := n2_; have HI168 := n3_; clear n0_ n1_ n2_ n3_; (try clear hb); (try clear hb2); (try clear hk); (try clear hi)) | (go_at_call 13; (with_reducible refine (hogsheadlaw18_awake.calls k1  t209 _ A69.out).mono ?_); rintro e w74 ⟨rfl, hb⟩; have n0_ := Aside0.mk (Kd.R_below (by (with_reducible repeat (first | apply Kd.R_alloc | apply Kd.R_drewN | apply Kd.R_drew)); exact HO_5.out) hb); have n1_ := Aside0.mk (Kd.R_below (by (with_reducible repeat (first | apply Kd.R_alloc | apply Kd.R_drewN | apply Kd.R_drew)); exact HO202.out) hb); have n2_ := Aside0.mk (IsS58.below (by repeat (first | (with_reducible first | exact HI168.out | apply IsS58.alloc | apply IsS58.drewN | apply IsS58.drew) | exact HI168.out)) hb); have n3_ := Aside0.mk (below_step (by repeat (first | (with_reducible first | exact HB.out | apply below_alloc | apply pw_below_drewN | apply below_drew1 | refine below_set ?_ (IsS58.ge HI168.out)) | exact HB.out)) hb); clear HO_5; clear HO202; clear HI168; clear HB; have HO_5 := n0_; have HO202 := n1_; have HI168 := n2_; have HB := n3_; clear n0_ n1_ n2_ n3_; (try clear hb); (try clear hb2); (try clear hk); (try clear hi))))
              go_ret
              exact ⟨by first | rfl | (simp [errW_none, errW_some] <;> rfl) | (simp [*, errW_none, errW_some] <;> rfl), by repeat (first | (with_reducible first | exact HB.out | apply below_alloc | apply pw_below_drewN | apply below_drew1 | refine below_set ?_ (IsTwo.ge HI168.out)) | exact HB.out)⟩
            · rw [if_neg c68] at H
              have c68b0 : (t206 == (x5_1.length : Int)) = false := beq_eq_false_iff_ne.mpr c68
              have c68b1 : (t206 != (x5_1.length : Int)) = true := bne_iff_ne.mpr c68
              obtain rfl := Option.some.inj H
              go_wp2_with (first | (go_at_call 19; (with_reducible refine (allSnd g168 h168 x169000_1 x169001_1 ?vs1248_ t200 t203 t204 w _ ?side1 ?side2 A64.out).mono ?_); (case side1 => repeat (first | (with_reducible first | exact HI168.out | apply IsTwo.alloc | apply IsTwo.drewN | apply IsTwo.drew) | exact HI168.out | exact IsTwo.sub HI168.out (by simp [Value.ownBlock]))); (case side2 => repeat (first | (with_reducible first | exact HB.out | apply below_alloc | apply pw_below_drewN | apply below_drew1 | refine below_set ?_ (IsTwo.ge HI168.out)) | exact HB.out)); rintro e w75 ⟨v201, rfl, ho0, hi, hb, hk⟩; have n0_ := Aside0.mk (Kd.R_mono (Kd.R_told (R_oldT (IsTwo.apartV (show IsTwo w _ g168 h168 _ _ _ _ _ from by repeat (first | (with_reducible first | exact HI168.out | apply IsTwo.alloc | apply IsTwo.drewN | apply IsTwo.drew) | exact HI168.out | exact IsTwo.sub HI168.out (by simp [Value.ownBlock]))) (by (with_reducible repeat (first | apply Kd.R_alloc | apply Kd.R_drewN | apply Kd.R_drew)); exact HO_5.out) (by simp)) hk) (Kd.R_base ho0)) (fun _ h_ => h_.1)); have n1_ := Aside0.mk (Kd.R_lower (Kd.R_new' ho0 (Kd.R_lt (by (with_reducible repeat (first | apply Kd.R_alloc | apply Kd.R_drewN | apply Kd.R_drew)); exact HO_5.out))) (below_size (by repeat (first | (with_reducible first | exact HB.out | apply below_alloc | apply pw_below_drewN | apply below_drew1 | refine below_set ?_ (IsTwo.ge HI168.out)) | exact HB.out)))); have n2_ := Aside0.mk (hb); have n3_ := Aside0.mk (hi); clear HO_5; clear HB; clear HI168; have HO_5 := n0_; have HO202 := n1_; have HB := n2_; have HI168 := n3_; clear n0_ n1_ n2_ n3_; (try clear hb); (try clear hb2); (try clear hk); (try clear hi); (try clear ho0); obtain ⟨Ao76, co76, eo76⟩ := Kd.R_slice HO202.out; subst eo76; obtain ⟨Ao77, co77, eo77⟩ := Kd.R_slice HO_5.out; subst eo77) | (go_at_call 21; (with_reducible refine (hogsheadlaw0_SameTexts.calls k1 _ _ t200 _ _ x5_1 true _ ?side1 ?side2 ?side3 ?side4 A65.out).mono ?_); (case side1 => repeat (first | exact (Kd.R_reads' HO202.out).2.2 | (with_reducible refine Kd.C_alloc ?_ _) | (with_reducible refine Kd.C_drewN ?_ _) | (with_reducible refine Kd.C_drew ?_))); (case side2 => exact (Kd.R_reads' HO202.out).2.1); (case side3 => repeat (first | exact (Kd.R_reads' HO_5.out).2.2 | (with_reducible refine Kd.C_alloc ?_ _) | (with_reducible refine Kd.C_drewN ?_ _) | (with_reducible refine Kd.C_drew ?_))); (case side4 => exact (Kd.R_reads' HO_5.out).2.1); rintro e w' ⟨rfl, ⟨nd, rfl⟩⟩; (try first | exact ⟨rfl, _, World.drewN_drewN _ _ _⟩ | exact ⟨rfl, _, Eq.trans (World.drewN_drewN _ _ _) (congrArg (World.drewN _) (Nat.add_assoc _ _ _))⟩)) | (go_at_call 12; (with_reducible refine (lenFst g168 h168 t203 t204 ?vs1250_ t206 t207 t208 w _ ?side1 ?side2 A67.out).mono ?_); (case side1 => repeat (first | (with_reducible first | exact HI168.out | apply IsTwo.alloc | apply IsTwo.drewN | apply IsTwo.drew) | exact HI168.out | exact IsTwo.sub HI168.out (by simp [Value.ownBlock]))); (case side2 => repeat (first | (with_reducible first | exact HB.out | apply below_alloc | apply pw_below_drewN | apply below_drew1 | refine below_set ?_ (IsTwo.ge HI168.out)) | exact HB.out)); rintro e w78 ⟨rfl, hi, hb, hk⟩; have n0_ := Aside0.mk (Kd.R_mono (Kd.R_keep (IsTwo.apart (show IsTwo w _ g168 h168 _ _ _ _ _ from by repeat (first | (with_reducible first | exact HI168.out | apply IsTwo.alloc | apply IsTwo.drewN | apply IsTwo.drew) | exact HI168.out | exact IsTwo.sub HI168.out (by simp [Value.ownBlock]))) (by (with_reducible repeat (first | apply Kd.R_alloc | apply Kd.R_drewN | apply Kd.R_drew)); exact HO_5.out) (by decide)) hk (fun _ h => h.2)) (fun _ h => h.1)); have n1_ := Aside0.mk (Kd.R_mono (Kd.R_keep (IsTwo.apart (show IsTwo w _ g168 h168 _ _ _ _ _ from by repeat (first | (with_reducible first | exact HI168.out | apply IsTwo.alloc | apply IsTwo.drewN | apply IsTwo.drew) | exact HI168.out | exact IsTwo.sub HI168.out (by simp [Value.ownBlock]))) (by (with_reducible repeat (first | apply Kd.R_alloc | apply Kd.R_drewN | apply Kd.R_drew)); exact HO202.out) (by decide)) hk (fun _ h => h.2)) (fun _ h => h.1)); have n2_ := Aside0.mk (hb); have n3_ := Aside0.mk (hi); clear HO_5; clear HO202; clear HB; clear HI168; have HO_5 := n0_; have HO202 := n1_; have HB := n2_; have HI168 := n3_; clear n0_ n1_ n2_ n3_; (try clear hb); (try clear hb2); (try clear hk); (try clear hi)))
              repeat (go_quiet (first | (go_at_call 19; (with_reducible refine (allSnd g168 h168 x169000_1 x169001_1 ?vs1252_ t200 t203 t204 w _ ?side1 ?side2 A64.out).mono ?_); (case side1 => repeat (first | (with_reducible first | exact HI168.out | apply IsTwo.alloc | apply IsTwo.drewN | apply IsTwo.drew) | exact HI168.out | exact IsTwo.sub HI168.out (by simp [Value.ownBlock]))); (case side2 => repeat (first | (with_reducible first | exact HB.out | apply below_alloc | apply pw_below_drewN | apply below_drew1 | refine below_set ?_ (IsTwo.ge HI168.out)) | exact HB.out)); rintro e w75 ⟨v201, rfl, ho0, hi, hb, hk⟩; have n0_ := Aside0.mk (Kd.R_mono (Kd.R_told (R_oldT (IsTwo.apartV (show IsTwo w _ g168 h168 _ _ _ _ _ from by repeat (first | (with_reducible first | exact HI168.out | apply IsTwo.alloc | apply IsTwo.drewN | apply IsTwo.drew) | exact HI168.out | exact IsTwo.sub HI168.out (by simp [Value.ownBlock]))) (by (with_reducible repeat (first | apply Kd.R_alloc | apply Kd.R_drewN | apply Kd.R_drew)); exact HO_5.out) (by simp)) hk) (Kd.R_base ho0)) (fun _ h_ => h_.1)); have n1_ := Aside0.mk (Kd.R_lower (Kd.R_new' ho0 (Kd.R_lt (by (with_reducible repeat (first | apply Kd.R_alloc | apply Kd.R_drewN | apply Kd.R_drew)); exact HO_5.out))) (below_size (by repeat (first | (with_reducible first | exact HB.out | apply below_alloc | apply pw_below_drewN | apply below_drew1 | refine below_set ?_ (IsTwo.ge HI168.out)) | exact HB.out)))); have n2_ := Aside0.mk (hb); have n3_ := Aside0.mk (hi); clear HO_5; clear HB; clear HI168; have HO_5 := n0_; have HO202 := n1_; have HB := n2_; have HI168 := n3_; clear n0_ n1_ n2_ n3_; (try clear hb); (try clear hb2); (try clear hk); (try clear hi); (try clear ho0); obtain ⟨Ao76, co76, eo76⟩ := Kd.R_slice HO202.out; subst eo76; obtain ⟨Ao77, co77, eo77⟩ := Kd.R_slice HO_5.out; subst eo77) | (go_at_call 21; (with_reducible refine (hogsheadlaw0_SameTexts.calls k1 _ _ t200 _ _ x5_1 true _ ?side1 ?side2 ?side3 ?side4 A65.out).mono ?_); (case side1 => repeat (first | exact (Kd.R_reads' HO202.out).2.2 | (with_reducible refine Kd.C_alloc ?_ _) | (with_reducible refine Kd.C_drewN ?_ _) | (with_reducible refine Kd.C_drew ?_))); (case side2 => exact (Kd.R_reads' HO202.out).2.1); (case side3 => repeat (first | exact (Kd.R_reads' HO_5.out).2.2 | (with_reducible refine Kd.C_alloc ?_ _) | (with_reducible refine Kd.C_drewN ?_ _) | (with_reducible refine Kd.C_drew ?_))); (case side4 => exact (Kd.R_reads' HO_5.out).2.1); rintro e w' ⟨rfl, ⟨nd, rfl⟩⟩; (try first | exact ⟨rfl, _, World.drewN_drewN _ _ _⟩ | exact ⟨rfl, _, Eq.trans (World.drewN_drewN _ _ _) (congrArg (World.drewN _) (Nat.add_assoc _ _ _))⟩)) | (go_at_call 12; (with_reducible refine (lenFst g168 h168 t203 t204 ?vs1254_ t206 t207 t208 w _ ?side1 ?side2 A67.out).mono ?_); (case side1 => repeat (first | (with_reducible first | exact HI168.out | apply IsTwo.alloc | apply IsTwo.drewN | apply IsTwo.drew) | exact HI168.out | exact IsTwo.sub HI168.out (by simp [Value.ownBlock]))); (case side2 => repeat (first | (with_reducible first | exact HB.out | apply below_alloc | apply pw_below_drewN | apply below_drew1 | refine below_set ?_ (IsTwo.ge HI168.out)) | exact HB.out)); rintro e w78 ⟨rfl, hi, hb, hk⟩; have n0_ := Aside0.mk (Kd.R_mono (Kd.R_keep (IsTwo.apart (show IsTwo w _ g168 h168 _ _ _ _ _ from by repeat (first | (with_reducible first | exact HI168.out | apply IsTwo.alloc | apply IsTwo.drewN | apply IsTwo.drew) | exact HI168.out | exact IsTwo.sub HI168.out (by simp [Value.ownBlock]))) (by (with_reducible repeat (first | apply Kd.R_alloc | apply Kd.R_drewN | apply Kd.R_drew)); exact HO_5.out) (by decide)) hk (fun _ h => h.2)) (fun _ h => h.1)); have n1_ := Aside0.mk (Kd.R_mono (Kd.R_keep (IsTwo.apart (show IsTwo w _ g168 h168 _ _ _ _ _ from by repeat (first | (with_reducible first | exact HI168.out | apply IsTwo.alloc | apply IsTwo.drewN | apply IsTwo.drew) | exact HI168.out | exact IsTwo.sub HI168.out (by simp [Value.ownBlock]))) (by (with_reducible repeat (first | apply Kd.R_alloc | apply Kd.R_drewN | apply Kd.R_drew)); exact HO202.out) (by decide)) hk (fun _ h => h.2)) (fun _ h => h.1)); have n2_ := Aside0.mk (hb); have n3_ := Aside0.mk (hi); clear HO_5; clear HO202; clear HB; clear HI168; have HO_5 := n0_; have HO202 := n1_; have HB := n2_; have HI168 := n3_; clear n0_ n1_ n2_ n3_; (try clear hb); (try clear hb2); (try clear hk); (try clear hi))); try go_wp2_with (first | (go_at_call 19; (with_reducible refine (allSnd g168 h168 x169000_1 x169001_1 ?vs1255_ t200 t203 t204 w _ ?side1 ?side2 A64.out).mono ?_); (case side1 => repeat (first | (with_reducible first | exact HI168.out | apply IsTwo.alloc | apply IsTwo.drewN | apply IsTwo.drew) | exact HI168.out | exact IsTwo.sub HI168.out (by simp [Value.ownBlock]))); (case side2 => repeat (first | (with_reducible first | exact HB.out | apply below_alloc | apply pw_below_drewN | apply below_drew1 | refine below_set ?_ (IsTwo.ge HI168.out)) | exact HB.out)); rintro e w75 ⟨v201, rfl, ho0, hi, hb, hk⟩; have n0_ := Aside0.mk (Kd.R_mono (Kd.R_told (R_oldT (IsTwo.apartV (show IsTwo w _ g168 h168 _ _ _ _ _ from by repeat (first | (with_reducible first | exact HI168.out | apply IsTwo.alloc | apply IsTwo.drewN | apply IsTwo.drew) | exact HI168.out | exact IsTwo.sub HI168.out (by simp [Value.ownBlock]))) (by (with_reducible repeat (first | apply Kd.R_alloc | apply Kd.R_drewN | apply Kd.R_drew)); exact HO_5.out) (by simp)) hk) (Kd.R_base ho0)) (fun _ h_ => h_.1)); have n1_ := Aside0.mk (Kd.R_lower (Kd.R_new' ho0 (Kd.R_lt (by (with_reducible repeat (first | apply Kd.R_alloc | apply Kd.R_drewN | apply Kd.R_drew)); exact HO_5.out))) (below_size (by repeat (first | (with_reducible first | exact HB.out | apply below_alloc | apply pw_below_drewN | apply below_drew1 | refine below_set ?_ (IsTwo.ge HI168.out)) | exact HB.out)))); have n2_ := Aside0.mk (hb); have n3_ := Aside0.mk (hi); clear HO_5; clear HB; clear HI168; have HO_5 := n0_; have HO202 := n1_; have HB := n2_; have HI168 := n3_; clear n0_ n1_ n2_ n3_; (try clear hb); (try clear hb2); (try clear hk); (try clear hi); (try clear ho0); obtain ⟨Ao76, co76, eo76⟩ := Kd.R_slice HO202.out; subst eo76; obtain ⟨Ao77, co77, eo77⟩ := Kd.R_slice HO_5.out; subst eo77) | (go_at_call 21; (with_reducible refine (hogsheadlaw0_SameTexts.calls k1 _ _ t200 _ _ x5_1 true _ ?side1 ?side2 ?side3 ?side4 A65.out).mono ?_); (case side1 => repeat (first | exact (Kd.R_reads' HO202.out).2.2 | (with_reducible refine Kd.C_alloc ?_ _) | (with_reducible refine Kd.C_drewN ?_ _) | (with_reducible refine Kd.C_drew ?_))); (case side2 => exact (Kd.R_reads' HO202.out).2.1); (case side3 => repeat (first | exact (Kd.R_reads' HO_5.out).2.2 | (with_reducible refine Kd.C_alloc ?_ _) | (with_reducible refine Kd.C_drewN ?_ _) | (with_reducible refine Kd.C_drew ?_))); (case side4 => exact (Kd.R_reads' HO_5.out).2.1); rintro e w' ⟨rfl, ⟨nd, rfl⟩⟩; (try first | exact ⟨rfl, _, World.drewN_drewN _ _ _⟩ | exact ⟨rfl, _, Eq.trans (World.drewN_drewN _ _ _) (congrArg (World.drewN _) (Nat.add_assoc _ _ _))⟩)) | (go_at_call 12; (with_reducible refine (lenFst g168 h168 t203 t204 ?vs1257_ t206 t207 t208 w _ ?side1 ?side2 A67.out).mono ?_); (case side1 => repeat (first | (with_reducible first | exact HI168.out | apply IsTwo.alloc | apply IsTwo.drewN | apply IsTwo.drew) | exact HI168.out | exact IsTwo.sub HI168.out (by simp [Value.ownBlock]))); (case side2 => repeat (first | (with_reducible first | exact HB.out | apply below_alloc | apply pw_below_drewN | apply below_drew1 | refine below_set ?_ (IsTwo.ge HI168.out)) | exact HB.out)); rintro e w78 ⟨rfl, hi, hb, hk⟩; have n0_ := Aside0.mk (Kd.R_mono (Kd.R_keep (IsTwo.apart (show IsTwo w _ g168 h168 _ _ _ _ _ from by repeat (first | (with_reducible first | exact HI168.out | apply IsTwo.alloc | apply IsTwo.drewN | apply IsTwo.drew) | exact HI168.out | exact IsTwo.sub HI168.out (by simp [Value.ownBlock]))) (by (with_reducible repeat (first | apply Kd.R_alloc | apply Kd.R_drewN | apply Kd.R_drew)); exact HO_5.out) (by decide)) hk (fun _ h => h.2)) (fun _ h => h.1)); have n1_ := Aside0.mk (Kd.R_mono (Kd.R_keep (IsTwo.apart (show IsTwo w _ g168 h168 _ _ _ _ _ from by repeat (first | (with_reducible first | exact HI168.out | apply IsTwo.alloc | apply IsTwo.drewN | apply IsTwo.drew) | exact HI168.out | exact IsTwo.sub HI168.out (by simp [Value.ownBlock]))) (by (with_reducible repeat (first | apply Kd.R_alloc | apply Kd.R_drewN | apply Kd.R_drew)); exact HO202.out) (by decide)) hk (fun _ h => h.2)) (fun _ h => h.1)); have n2_ := Aside0.mk (hb); have n3_ := Aside0.mk (hi); clear HO_5; clear HO202; clear HB; clear HI168; have HO_5 := n0_; have HO202 := n1_; have HB := n2_; have HI168 := n3_; clear n0_ n1_ n2_ n3_; (try clear hb); (try clear hb2); (try clear hk); (try clear hi))))
              go_ret
              exact ⟨by first | rfl | (simp [errW_none, errW_some] <;> rfl) | (simp [*, errW_none, errW_some] <;> rfl), by repeat (first | (with_reducible first | exact HB.out | apply below_alloc | apply pw_below_drewN | apply below_drew1 | refine below_set ?_ (IsTwo.ge HI168.out)) | exact HB.out)⟩
          · replace c66 := Bool.eq_false_iff.mpr c66
            subst c66
            have H1 : (some false) = some r := by rw [if_neg (show ¬ (false = true) by decide)] at H; exact H
            clear H
            have H := H1
            clear H1
            obtain rfl := Option.some.inj H
            go_wp2_with (first | (go_at_call 19; (with_reducible refine (allSnd g168 h168 x169000_1 x169001_1 ?vs1268_ t200 t203 t204 w _ ?side1 ?side2 A64.out).mono ?_); (case side1 => repeat (first | (with_reducible first | exact HI168.out | apply IsTwo.alloc | apply IsTwo.drewN | apply IsTwo.drew) | exact HI168.out | exact IsTwo.sub HI168.out (by simp [Value.ownBlock]))); (case side2 => repeat (first | (with_reducible first | exact HB.out | apply below_alloc | apply pw_below_drewN | apply below_drew1 | refine below_set ?_ (IsTwo.ge HI168.out)) | exact HB.out)); rintro e w79 ⟨v201, rfl, ho0, hi, hb, hk⟩; have n0_ := Aside0.mk (Kd.R_mono (Kd.R_told (R_oldT (IsTwo.apartV (show IsTwo w _ g168 h168 _ _ _ _ _ from by repeat (first | (with_reducible first | exact HI168.out | apply IsTwo.alloc | apply IsTwo.drewN | apply IsTwo.drew) | exact HI168.out | exact IsTwo.sub HI168.out (by simp [Value.ownBlock]))) (by (with_reducible repeat (first | apply Kd.R_alloc | apply Kd.R_drewN | apply Kd.R_drew)); exact HO_5.out) (by simp)) hk) (Kd.R_base ho0)) (fun _ h_ => h_.1)); have n1_ := Aside0.mk (Kd.R_lower (Kd.R_new' ho0 (Kd.R_lt (by (with_reducible repeat (first | apply Kd.R_alloc | apply Kd.R_drewN | apply Kd.R_drew)); exact HO_5.out))) (below_size (by repeat (first | (with_reducible first | exact HB.out | apply below_alloc | apply pw_below_drewN | apply below_drew1 | refine below_set ?_ (IsTwo.ge HI168.out)) | exact HB.out)))); have n2_ := Aside0.mk (hb); have n3_ := Aside0.mk (hi); clear HO_5; clear HB; clear HI168; have HO_5 := n0_; have HO202 := n1_; have HB := n2_; have HI168 := n3_; clear n0_ n1_ n2_ n3_; (try clear hb); (try clear hb2); (try clear hk); (try clear hi); (try clear ho0); obtain ⟨Ao80, co80, eo80⟩ := Kd.R_slice HO202.out; subst eo80; obtain ⟨Ao81, co81, eo81⟩ := Kd.R_slice HO_5.out; subst eo81) | (go_at_call 21; (with_reducible refine (hogsheadlaw0_SameTexts.calls k1 _ _ t200 _ _ x5_1 false _ ?side1 ?side2 ?side3 ?side4 A65.out).mono ?_); (case side1 => repeat (first | exact (Kd.R_reads' HO202.out).2.2 | (with_reducible refine Kd.C_alloc ?_ _) | (with_reducible refine Kd.C_drewN ?_ _) | (with_reducible refine Kd.C_drew ?_))); (case side2 => exact (Kd.R_reads' HO202.out).2.1); (case side3 => repeat (first | exact (Kd.R_reads' HO_5.out).2.2 | (with_reducible refine Kd.C_alloc ?_ _) | (with_reducible refine Kd.C_drewN ?_ _) | (with_reducible refine Kd.C_drew ?_))); (case side4 => exact (Kd.R_reads' HO_5.out).2.1); rintro e w' ⟨rfl, ⟨nd, rfl⟩⟩; (try first | exact ⟨rfl, _, World.drewN_drewN _ _ _⟩ | exact ⟨rfl, _, Eq.trans (World.drewN_drewN _ _ _) (congrArg (World.drewN _) (Nat.add_assoc _ _ _))⟩)))
            repeat (go_quiet (first | (go_at_call 19; (with_reducible refine (allSnd g168 h168 x169000_1 x169001_1 ?vs1271_ t200 t203 t204 w _ ?side1 ?side2 A64.out).mono ?_); (case side1 => repeat (first | (with_reducible first | exact HI168.out | apply IsTwo.alloc | apply IsTwo.drewN | apply IsTwo.drew) | exact HI168.out | exact IsTwo.sub HI168.out (by simp [Value.ownBlock]))); (case side2 => repeat (first | (with_reducible first | exact HB.out | apply below_alloc | apply pw_below_drewN | apply below_drew1 | refine below_set ?_ (IsTwo.ge HI168.out)) | exact HB.out)); rintro e w79 ⟨v201, rfl, ho0, hi, hb, hk⟩; have n0_ := Aside0.mk (Kd.R_mono (Kd.R_told (R_oldT (IsTwo.apartV (show IsTwo w _ g168 h168 _ _ _ _ _ from by repeat (first | (with_reducible first | exact HI168.out | apply IsTwo.alloc | apply IsTwo.drewN | apply IsTwo.drew) | exact HI168.out | exact IsTwo.sub HI168.out (by simp [Value.ownBlock]))) (by (with_reducible repeat (first | apply Kd.R_alloc | apply Kd.R_drewN | apply Kd.R_drew)); exact HO_5.out) (by simp)) hk) (Kd.R_base ho0)) (fun _ h_ => h_.1)); have n1_ := Aside0.mk (Kd.R_lower (Kd.R_new' ho0 (Kd.R_lt (by (with_reducible repeat (first | apply Kd.R_alloc | apply Kd.R_drewN | apply Kd.R_drew)); exact HO_5.out))) (below_size (by repeat (first | (with_reducible first | exact HB.out | apply below_alloc | apply pw_below_drewN | apply below_drew1 | refine below_set ?_ (IsTwo.ge HI168.out)) | exact HB.out)))); have n2_ := Aside0.mk (hb); have n3_ := Aside0.mk (hi); clear HO_5; clear HB; clear HI168; have HO_5 := n0_; have HO202 := n1_; have HB := n2_; have HI168 := n3_; clear n0_ n1_ n2_ n3_; (try clear hb); (try clear hb2); (try clear hk); (try clear hi); (try clear ho0); obtain ⟨Ao80, co80, eo80⟩ := Kd.R_slice HO202.out; subst eo80; obtain ⟨Ao81, co81, eo81⟩ := Kd.R_slice HO_5.out; subst eo81) | (go_at_call 21; (with_reducible refine (hogsheadlaw0_SameTexts.calls k1 _ _ t200 _ _ x5_1 false _ ?side1 ?side2 ?side3 ?side4 A65.out).mono ?_); (case side1 => repeat (first | exact (Kd.R_reads' HO202.out).2.2 | (with_reducible refine Kd.C_alloc ?_ _) | (with_reducible refine Kd.C_drewN ?_ _) | (with_reducible refine Kd.C_drew ?_))); (case side2 => exact (Kd.R_reads' HO202.out).2.1); (case side3 => repeat (first | exact (Kd.R_reads' HO_5.out).2.2 | (with_reducible refine Kd.C_alloc ?_ _) | (with_reducible refine Kd.C_drewN ?_ _) | (with_reducible refine Kd.C_drew ?_))); (case side4 => exact (Kd.R_reads' HO_5.out).2.1); rintro e w' ⟨rfl, ⟨nd, rfl⟩⟩; (try first | exact ⟨rfl, _, World.drewN_drewN _ _ _⟩ | exact ⟨rfl, _, Eq.trans (World.drewN_drewN _ _ _) (congrArg (World.drewN _) (Nat.add_assoc _ _ _))⟩))); try go_wp2_with (first | (go_at_call 19; (with_reducible refine (allSnd g168 h168 x169000_1 x169001_1 ?vs1273_ t200 t203 t204 w _ ?side1 ?side2 A64.out).mono ?_); (case side1 => repeat (first | (with_reducible first | exact HI168.out | apply IsTwo.alloc | apply IsTwo.drewN | apply IsTwo.drew) | exact HI168.out | exact IsTwo.sub HI168.out (by simp [Value.ownBlock]))); (case side2 => repeat (first | (with_reducible first | exact HB.out | apply below_alloc | apply pw_below_drewN | apply below_drew1 | refine below_set ?_ (IsTwo.ge HI168.out)) | exact HB.out)); rintro e w79 ⟨v201, rfl, ho0, hi, hb, hk⟩; have n0_ := Aside0.mk (Kd.R_mono (Kd.R_told (R_oldT (IsTwo.apartV (show IsTwo w _ g168 h168 _ _ _ _ _ from by repeat (first | (with_reducible first | exact HI168.out | apply IsTwo.alloc | apply IsTwo.drewN | apply IsTwo.drew) | exact HI168.out | exact IsTwo.sub HI168.out (by simp [Value.ownBlock]))) (by (with_reducible repeat (first | apply Kd.R_alloc | apply Kd.R_drewN | apply Kd.R_drew)); exact HO_5.out) (by simp)) hk) (Kd.R_base ho0)) (fun _ h_ => h_.1)); have n1_ := Aside0.mk (Kd.R_lower (Kd.R_new' ho0 (Kd.R_lt (by (with_reducible repeat (first | apply Kd.R_alloc | apply Kd.R_drewN | apply Kd.R_drew)); exact HO_5.out))) (below_size (by repeat (first | (with_reducible first | exact HB.out | apply below_alloc | apply pw_below_drewN | apply below_drew1 | refine below_set ?_ (IsTwo.ge HI168.out)) | exact HB.out)))); have n2_ := Aside0.mk (hb); have n3_ := Aside0.mk (hi); clear HO_5; clear HB; clear HI168; have HO_5 := n0_; have HO202 := n1_; have HB := n2_; have HI168 := n3_; clear n0_ n1_ n2_ n3_; (try clear hb); (try clear hb2); (try clear hk); (try clear hi); (try clear ho0); obtain ⟨Ao80, co80, eo80⟩ := Kd.R_slice HO202.out; subst eo80; obtain ⟨Ao81, co81, eo81⟩ := Kd.R_slice HO_5.out; subst eo81) | (go_at_call 21; (with_reducible refine (hogsheadlaw0_SameTexts.calls k1 _ _ t200 _ _ x5_1 false _ ?side1 ?side2 ?side3 ?side4 A65.out).mono ?_); (case side1 => repeat (first | exact (Kd.R_reads' HO202.out).2.2 | (with_reducible refine Kd.C_alloc ?_ _) | (with_reducible refine Kd.C_drewN ?_ _) | (with_reducible refine Kd.C_drew ?_))); (case side2 => exact (Kd.R_reads' HO202.out).2.1); (case side3 => repeat (first | exact (Kd.R_reads' HO_5.out).2.2 | (with_reducible refine Kd.C_alloc ?_ _) | (with_reducible refine Kd.C_drewN ?_ _) | (with_reducible refine Kd.C_drew ?_))); (case side4 => exact (Kd.R_reads' HO_5.out).2.1); rintro e w' ⟨rfl, ⟨nd, rfl⟩⟩; (try first | exact ⟨rfl, _, World.drewN_drewN _ _ _⟩ | exact ⟨rfl, _, Eq.trans (World.drewN_drewN _ _ _) (congrArg (World.drewN _) (Nat.add_assoc _ _ _))⟩))))
            go_ret
            exact ⟨by first | rfl | (simp [errW_none, errW_some] <;> rfl) | (simp [*, errW_none, errW_some] <;> rfl), by repeat (first | (with_reducible first | exact HB.out | apply below_alloc | apply pw_below_drewN | apply below_drew1 | refine below_set ?_ (IsTwo.ge HI168.out)) | exact HB.out)⟩

/-- The one plain statement of hogsheadlaw18_BlocksGrow. -/
def hogsheadlaw18_BlocksGrow.Pure : Prop := ∀ (l0 : List ByteArray), (l0.length ≤ maxLen ∧ ∀ y1 ∈ l0, y1.size ≤ maxLen) → ∃ k, hogsheadlaw18_BlocksGrow.f k l0 = some true

end Go.Proofs.Ythjfjkcjpkapgaa.P
