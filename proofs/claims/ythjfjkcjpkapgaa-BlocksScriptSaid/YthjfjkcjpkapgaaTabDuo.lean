/- Two tables side by side, the program's and the reference's: what each call of either one leaves of both. No condition. -/
import Derived.Test.YthjfjkcjpkapgaaPx7
import Derived.Test.YthjfjkcjpkapgaaTabDuoTh
namespace Go.Proofs.Ythjfjkcjpkapgaa.P
open Go.RowKit Go.Proofs.YthjfjkcjpkapgaaX Go.Proofs.YthjfjkcjpkapgaaW.PrintWords Go.Proofs.YthjfjkcjpkapgaaW.PrintLast Go.Proofs.YthjfjkcjpkapgaaW.PrintMore
set_option linter.unusedVariables false
set_option linter.unusedSimpArgs false
theorem pos_pre {l r : List ByteArray} {p : ByteArray} {i : Nat} (h : pos l p = some i) : pos (l ++ r) p = some i := by rw [pos_append, h]
theorem putGo_front (L : List ByteArray) : ∀ ps F, ∃ H, (putGo L F ps).2 = F ++ H
  | [], F => ⟨[], by simp [putGo]⟩
  | p :: ps, F => by
    rw [putGo]
    cases pos (L ++ F) p with
    | some i => exact putGo_front L ps F
    | none =>
      obtain ⟨H, hH⟩ := putGo_front L ps (F ++ [p])
      exact ⟨p :: H, by rw [hH, List.append_assoc]; rfl⟩
theorem putGo_again (L : List ByteArray) : ∀ ps F G, (∃ G', (putGo L F ps).2 ++ G' = G) → putGo (L ++ G) [] ps = ((putGo L F ps).1, [])
  | [], F, G, _ => rfl
  | p :: ps, F, G, ⟨G', hG⟩ => by
    rw [putGo, putGo] at *
    cases hp : pos (L ++ F) p with
    | some i =>
      rw [hp] at hG
      have hG1 : (putGo L F ps).2 ++ G' = G := hG
      obtain ⟨H, hH⟩ : ∃ H, G = F ++ H := by
        obtain ⟨H, hH⟩ := putGo_front L ps F
        exact ⟨H ++ G', by rw [← hG1, hH, List.append_assoc]⟩
      have hq : pos (L ++ G ++ []) p = some i := by rw [List.append_nil, hH, ← List.append_assoc]; exact pos_pre hp
      rw [hq]
      show _ = ((i : Int) :: (putGo L F ps).1, _)
      rw [putGo_again L ps F G ⟨G', hG1⟩]
    | none =>
      rw [hp] at hG
      have hG1 : (putGo L (F ++ [p]) ps).2 ++ G' = G := hG
      obtain ⟨H, hH⟩ : ∃ H, G = F ++ [p] ++ H := by
        obtain ⟨H, hH⟩ := putGo_front L ps (F ++ [p])
        exact ⟨H ++ G', by rw [← hG1, hH, List.append_assoc]⟩
      have hq : pos (L ++ G ++ []) p = some (L.length + F.length) := by
        rw [List.append_nil, hH, ← List.append_assoc, ← List.append_assoc]
        refine pos_pre ?_
        rw [pos_snoc, hp, if_pos rfl, List.length_append]
      rw [hq]
      show _ = (((L.length + F.length : Nat) : Int) :: (putGo L (F ++ [p]) ps).1, _)
      rw [putGo_again L ps (F ++ [p]) G ⟨G', hG1⟩]
/-- The same text, put again, is found. -/
theorem put_again {L : List ByteArray} {b : Bool} {s : ByteArray} {k : Nat} {r1 : List Int} {r2 : Int} {r3 : List ByteArray} {r4 : Bool} (h : blocks_Table_Put.f k L b s = some (r1, r2, r3, r4)) : blocks_Table_Put.f k r3 r4 s = some (r1, r2, r3, r4) := by
  rw [blocks_Table_Put.f] at h ⊢
  obtain ⟨ps, hc, h⟩ := Option.bind_eq_some_iff.mp h
  rw [hc, Option.bind_some]
  by_cases hl : ps.length ≤ 1000000 ∧ ∀ p ∈ ps, p.size ≤ maxLen
  · rw [if_pos hl] at h ⊢
    unfold putOf at h ⊢
    by_cases hf : 4000 < L.length + (putGo L [] ps).2.length
    · rw [if_pos hf] at h
      simp only [Option.some.injEq, Prod.mk.injEq] at h
      obtain ⟨rfl, rfl, rfl, rfl⟩ := h
      rw [if_pos hf]
    · rw [if_neg hf] at h
      simp only [Option.some.injEq, Prod.mk.injEq] at h
      obtain ⟨rfl, rfl, rfl, rfl⟩ := h
      rw [putGo_again L ps [] _ ⟨[], by rw [List.append_nil]⟩, if_neg (by rw [List.length_append]; simp; omega), List.append_nil]
  · rw [if_neg hl] at h
    cases h
/-- The program's table at g, the reference's at h, none of whose blocks are the other's; v: what stands at h; and values whose rows are none of theirs. -/
def IsDuo (w0 W : World) (g h : Nat) (f0 : List ByteArray) (f1 : Bool) (f2 : List ByteArray) (v : Value) (vs : List Value) : Prop := IsS58 w0 W g f0 f1 ∧ W.heap[h]? = some (.cells #[v] 39 (0, 0)) ∧ w0.heap.size ≤ h ∧ Kd.string.R 9 W w0.heap.size (fun _ => True) v f2 ∧ f2.length ≤ 4000 ∧ (∀ k, TabAt W g k → k ≠ h ∧ v.ownBlock ≠ some k) ∧ ∀ u, u ∈ vs → ∀ k, u.ownBlock = some k → k < W.heap.size ∧ ¬ TabAt W g k ∧ k ≠ h ∧ v.ownBlock ≠ some k
section
variable {w0 W W1 : World} {g h : Nat} {f0 f2 : List ByteArray} {f1 : Bool} {v : Value} {vs vs' : List Value}
theorem IsDuo.sub (t : IsDuo w0 W g h f0 f1 f2 v vs) (hs : ∀ u, u ∈ vs' → u ∈ vs ∨ u.ownBlock = none) : IsDuo w0 W g h f0 f1 f2 v vs' := ⟨t.1, t.2.1, t.2.2.1, t.2.2.2.1, t.2.2.2.2.1, t.2.2.2.2.2.1, fun u hu k hk => (hs u hu).elim (fun h1 => t.2.2.2.2.2.2 u h1 k hk) (fun h1 => by rw [h1] at hk; cases hk)⟩
theorem IsDuo.move (t : IsDuo w0 W g h f0 f1 f2 v vs) (hs : W.heap.size ≤ W1.heap.size) (hm : ∀ k, k < W.heap.size → TabAt W g k ∨ k = h ∨ v.ownBlock = some k → W1.heap[k]? = W.heap[k]?) : IsDuo w0 W1 g h f0 f1 f2 v vs := by
  obtain ⟨t1, t2, t3, t4, t5, t6, t7⟩ := t
  have eg := (hm g t1.lt (.inl (.inl rfl))).symm
  refine ⟨t1.step (fun k hk ht => hm k hk (.inl ht)), (hm h (blk_lt t2) (.inr (.inl rfl))).trans t2, t3, strs_move t4 (fun k hk => hm k ?_ (.inr (.inr hk))), t5, fun k h1 => t6 k (TabAt.back eg h1), fun u hu k hk => ?_⟩
  · exact Kd.R_lt t4 k hk
  · have h1 := t7 u hu k hk
    exact ⟨Nat.lt_of_lt_of_le h1.1 hs, fun h2 => h1.2.1 (TabAt.back eg h2), h1.2.2⟩
theorem IsDuo.below (t : IsDuo w0 W g h f0 f1 f2 v vs) (hw : Below W.heap.size W W1) : IsDuo w0 W1 g h f0 f1 f2 v vs := t.move hw.size (fun k hk _ => hw.block k hk)
theorem IsDuo.alloc (t : IsDuo w0 W g h f0 f1 f2 v vs) (o : Obj) : IsDuo w0 (W.alloc o) g h f0 f1 f2 v vs := t.below (below_alloc (Below.refl _ _) o)
theorem IsDuo.drewN (t : IsDuo w0 W g h f0 f1 f2 v vs) (m : Nat) : IsDuo w0 (W.drewN m) g h f0 f1 f2 v vs := t.move (Nat.le_refl _) (fun _ _ _ => rfl)
theorem IsDuo.drew (t : IsDuo w0 W g h f0 f1 f2 v vs) : IsDuo w0 W.drew g h f0 f1 f2 v vs := t.move (Nat.le_refl _) (fun _ _ _ => rfl)
theorem IsDuo.ge (t : IsDuo w0 W g h f0 f1 f2 v vs) : w0.heap.size ≤ g := t.1.ge
theorem IsDuo.cellH (t : IsDuo w0 W g h f0 f1 f2 v vs) : W.cell? ⟨h, 0, none⟩ = some v := (blk_cell t.2.1 0).trans rfl
theorem IsDuo.sliceV (t : IsDuo w0 W g h f0 f1 f2 v vs) : ∃ A c, v = .slice A f2.length c := by
  obtain ⟨A, c, e, _⟩ := Kd.R_reads t.2.2.2.1
  exact ⟨A, c, e⟩
theorem IsDuo.make (hI : IsS58 w0 W g f0 f1) (he : f0 = []) (hb : W.heap[h]? = some (.cells #[.slice none 0 0] 39 (0, 0))) (hh : w0.heap.size ≤ h) (hg : ∀ k, TabAt W g k → k ≠ h) : IsDuo w0 W g h f0 f1 f0 (.slice none 0 0) [] := by
  subst he
  exact ⟨hI, hb, hh, Kd.R_nil _ _ _ _ _, by simp, fun k hk => ⟨hg k hk, by simp [Value.ownBlock]⟩, fun v hv => by cases hv⟩
theorem IsDuo.keptR {α : Type} {d : Kd α} {e : Nat} {base : Nat} {ok : Nat → Prop} {u : Value} {xs : List α} (t : IsDuo w0 W g h f0 f1 f2 v vs) (ho : d.R e W base ok u xs) (ht : e ≠ 58 ∧ e ≠ 9 ∧ e ≠ 39) (hk : Kept W W1 (fun k_ => some k_ = u.ownBlock)) : IsDuo w0 W1 g h f0 f1 f2 v vs :=
  t.move hk.1 (fun k hlt hor => hk.2 k hlt (fun hs => by
    obtain ⟨cs, hc⟩ := Kd.R_typed ho k hs.symm
    rcases hor with h1 | rfl | h1
    · rcases (t.1.typed k h1).2 _ _ _ hc with h2 | h2
      · exact ht.1 h2
      · exact ht.2.1 h2
    · rw [t.2.1] at hc
      injection hc with hc
      injection hc with _ hc
      exact ht.2.2 hc.symm
    · obtain ⟨cs', hc'⟩ := Kd.R_typed t.2.2.2.1 k h1
      rw [hc'] at hc
      injection hc with hc
      injection hc with _ hc
      exact ht.2.1 hc.symm))
theorem IsDuo.keptV {u : Value} (t : IsDuo w0 W g h f0 f1 f2 v vs) (hu : u ∈ vs) (hk : Kept W W1 (fun k_ => some k_ = u.ownBlock)) : IsDuo w0 W1 g h f0 f1 f2 v vs :=
  t.move hk.1 (fun k hlt hor => hk.2 k hlt (fun hs => by
    have h1 := t.2.2.2.2.2.2 u hu k hs.symm
    rcases hor with h2 | h2 | h2
    · exact h1.2.1 h2
    · exact h1.2.2.1 h2
    · exact h1.2.2.2 h2))
section
variable {α : Type} {d : Kd α} {e : Nat} {base : Nat} {ok : Nat → Prop} {u : Value} {xs : List α}
theorem IsDuo.apart (t : IsDuo w0 W g h f0 f1 f2 v vs) (ho : d.R e W base ok u xs) (ht : ∀ q, q ∈ e :: d.E → q ≠ 58) : d.R e W base (fun k => ok k ∧ k ≠ g) u xs := IsS58.apart t.1 ho ht
theorem IsDuo.apartH (t : IsDuo w0 W g h f0 f1 f2 v vs) (ho : d.R e W base ok u xs) (ht : ∀ q, q ∈ e :: d.E → q ≠ 39) : d.R e W base (fun k => ok k ∧ ¬ k = h) u xs := Kd.R_types ho t.2.1 ht
end
theorem IsDuo.keepBut {w w' : World} (hk : ∀ k, k < w.heap.size → w'.heap[k]? = w.heap[k]?) (hs : w.heap.size ≤ w'.heap.size) (g : Nat) : KeepBut w w' g none := ⟨hs, fun i hi _ _ => hk i hi⟩
/-- The program's Put. -/
theorem duoPutG (k : Nat) (g h : Nat) (f0 : List ByteArray) (f1 : Bool) (f2 : List ByteArray) (v : Value) (a1 : ByteArray) (r1 : List Int) (r2 : Int) (r3 : List ByteArray) (r4 : Bool) (w0 w : World) (hI : IsDuo w0 w g h f0 f1 f2 v []) (hB : Below w0.heap.size w0 w) (hf : blocks_Table_Put.f k f0 f1 a1 = some (r1, r2, r3, r4)) :
    Calls Try.prog 9 #[.pointer (some ⟨g, 0, none⟩), .string a1] w fun e w' => ∃ v0_ : Value, e = .returned (.tuple #[v0_, .int .i64 r2]) ∧ Kd.R (Kd.int .i64) 3 w' w.heap.size (fun _ => True) v0_ r1 ∧ IsDuo w0 w' g h r3 r4 f2 v [] ∧ Below w0.heap.size w0 w' ∧ Kept w w' (TabAt w g) := by
  obtain ⟨t1, t2, t3, t4, t5, t6, t7⟩ := hI
  refine Calls.mono (blocks_Table_Put.calls2 k g f0 f1 a1 r1 r2 r3 r4 w0 w t1 hB hf) (fun e w' ⟨v0_, h1, h2, h3, h4, h5, h6⟩ => ⟨v0_, h1, h2, ?_, h4, h5⟩)
  have hh : ¬ TabAt w g h := fun h7 => (t6 h h7).1 rfl
  have eh := h5.2 h (blk_lt t2) hh
  refine ⟨h3, eh.trans t2, t3, strs_move t4 (fun k hk => h5.2 k (Kd.R_lt t4 k hk) (fun h7 => (t6 k h7).2 hk)), t5, fun k hk => ?_, fun u hu => by cases hu⟩
  rcases h6 k hk with h7 | h7
  · exact t6 k h7
  · exact ⟨fun e => by have := blk_lt t2; omega, fun e => by have := Kd.R_lt t4 k e; omega⟩
/-- The reference's Put of the same text: told as if it had been put again into the program's. -/
theorem duoPutH (k : Nat) (g h : Nat) (f0 : List ByteArray) (f1 : Bool) (f2 : List ByteArray) (f3 : Bool) (v : Value) (a1 : ByteArray) (q1 : List Int) (q2 : Int) (r1 : List Int) (r2 : Int) (r3 : List ByteArray) (r4 : Bool) (w0 w : World) (hI : IsDuo w0 w g h f0 f1 f2 v []) (hB : Below w0.heap.size w0 w) (hq : blocks_Table_Put.f k f2 f3 a1 = some (q1, q2, f0, f1)) (hf : blocks_Table_Put.f k f0 f1 a1 = some (r1, r2, r3, r4)) :
    Calls Try.prog 15 #[.pointer (some ⟨h, 0, none⟩), .string a1] w fun e w' => ∃ v0_ : Value, e = .returned (.tuple #[v0_, .int .i64 r2]) ∧ Kd.R (Kd.int .i64) 3 w' w.heap.size (fun _ => True) v0_ r1 ∧ (∃ v', IsDuo w0 w' g h r3 r4 r3 v' []) ∧ Below w0.heap.size w0 w' ∧ Kept w w' (fun k => k = h) := by
  have ha := put_again hq
  rw [hf] at ha
  simp only [Option.some.injEq, Prod.mk.injEq] at ha
  obtain ⟨rfl, rfl, rfl, rfl⟩ := ha
  obtain ⟨t1, t2, t3, t4, t5, t6, t7⟩ := hI
  obtain ⟨A0, c0, rfl, hc0, hr0⟩ := Kd.R_reads t4
  have hbase := hB.size
  rcases Duo.put_ref t5 hq with ⟨rfl, hp⟩ | ⟨rfl, rfl, hp⟩
  · refine Calls.mono (hogsheadref18_Table_Put.calls _ h A0 c0 f2 a1 _ _ _ w hr0 hc0 t2 hp) (fun e w' ⟨v0_, h1, v2, w1, h2, h3, h4, h5⟩ => ?_)
    obtain ⟨h5, _⟩ | ⟨_, rfl⟩ := h5
    · cases h5
    · have hb1 : w1.heap[h]? = some (.cells #[.slice A0 f2.length c0] 39 (0, 0)) := (h4.block h (blk_lt t2)).trans t2
      have hne : ∀ k, TabAt w1 g k → TabAt w g k := fun k hk => TabAt.back (h4.block g t1.lt).symm hk
      have t1' := t1.below h4
      have hgs : ∀ k, k ≠ h → (w1.setCell ⟨h, 0, none⟩ v2).heap[k]? = w1.heap[k]? := fun k hk => Below.heap_setCell w1 ⟨h, 0, none⟩ v2 k hk
      have hgh : g ≠ h := (t6 g (.inl rfl)).1
      have hsz : (w1.setCell ⟨h, 0, none⟩ v2).heap.size = w1.heap.size := by simp [World.setCell]
      have hT : ∀ k, TabAt (w1.setCell ⟨h, 0, none⟩ v2) g k → TabAt w g k := fun k hk => hne k (TabAt.back (hgs g hgh).symm hk)
      have hK : Kept w (w1.setCell ⟨h, 0, none⟩ v2) (fun k => k = h) := ⟨by rw [hsz]; exact h4.size, fun i hi hn => (hgs i hn).trans (h4.block i hi)⟩
      refine ⟨v0_, h1, Kd.R_set h2 hb1 (by decide) _ _, ⟨v2, ?_, ?_, t3, ?_, ?_, fun k hk => ?_, fun u hu => by cases hu⟩, ?_, hK⟩
      · exact t1'.step (fun k hk ht => hgs k (t6 k (hne k ht)).1)
      · have := blk_set hb1 0 v2
        simpa using this
      · exact Kd.R_lower (Kd.R_set h3 hb1 (by decide) _ _) hbase
      · obtain ⟨_, _, _, _, _, _, _, hn⟩ := t1
        exact hn
      · have h7 := hT k hk
        refine ⟨(t6 k h7).1, fun e => ?_⟩
        have h8 := Kd.R_base h3 k e
        have h9 := (t1.typed k h7).1.2
        omega
      · exact below_set (hB.trans (h4.mono hbase)) t3
  · refine Calls.mono (hogsheadref18_Table_Put.calls _ h A0 c0 r3 a1 _ _ _ w hr0 hc0 t2 hp) (fun e w' ⟨v0_, h1, v2, w1, h2, h3, h4, h5⟩ => ?_)
    obtain ⟨_, rfl⟩ | ⟨h5, _⟩ := h5
    · have t : IsDuo w0 w g h r3 r4 r3 (.slice A0 r3.length c0) [] := ⟨t1, t2, t3, t4, t5, t6, t7⟩
      exact ⟨v0_, h1, h2, ⟨_, t.below h4⟩, hB.trans (h4.mono hbase), ⟨h4.size, fun i hi _ => h4.block i hi⟩⟩
    · cases h5
theorem duoGetG (k : Nat) (g h : Nat) (f0 : List ByteArray) (f1 : Bool) (v : Value) (vs : List Value) (A1 : Option Addr) (c1 : Nat) (l1 : List Int) (r1 : ByteArray) (r2 : Bool) (r3 : List ByteArray) (r4 : Bool) (w0 w : World) (hI : IsDuo w0 w g h f0 f1 f0 v vs) (hB : Below w0.heap.size w0 w) (hr1 : Kd.C (Kd.int .i64) w A1 l1.length l1) (hc1 : l1.length ≤ c1) (hf1 : True) (hf : blocks_Table_Get.f k f0 f1 l1 = some (r1, r2, r3, r4)) :
    Calls Try.prog 17 #[.pointer (some ⟨g, 0, none⟩), .slice A1 l1.length c1] w fun e w' => e = .returned (.tuple #[.string r1, .bool r2]) ∧ IsDuo w0 w' g h r3 r4 r3 v vs ∧ Below w0.heap.size w0 w' ∧ KeepBut w w' g none := by
  obtain ⟨_, rfl, rfl⟩ := Duo.get_ref hf
  refine Calls.mono (blocks_Table_Get.calls0 k g r3 r4 A1 c1 l1 r1 r2 r3 r4 w0 w hI.1 hB hr1 hc1 hf) (fun e w' ⟨h1, h2, h3, h4⟩ => ⟨h1, ?_, h3, h4.1, fun i hi _ _ => h4.2 i hi (by omega) (by simp)⟩)
  exact hI.move h4.1 (fun k hk _ => h4.2 k hk (by omega) (by simp))
theorem duoGetH (k : Nat) (g h : Nat) (f0 : List ByteArray) (f1 : Bool) (v : Value) (vs : List Value) (A1 : Option Addr) (c1 : Nat) (l1 : List Int) (r1 : ByteArray) (r2 : Bool) (r3 : List ByteArray) (r4 : Bool) (w0 w : World) (hI : IsDuo w0 w g h f0 f1 f0 v vs) (hB : Below w0.heap.size w0 w) (hr1 : Kd.C (Kd.int .i64) w A1 l1.length l1) (hc1 : l1.length ≤ c1) (hf1 : True) (hf : blocks_Table_Get.f k f0 f1 l1 = some (r1, r2, r3, r4)) :
    Calls Try.prog 18 #[.pointer (some ⟨h, 0, none⟩), .slice A1 l1.length c1] w fun e w' => e = .returned (.tuple #[.string r1, .bool r2]) ∧ IsDuo w0 w' g h r3 r4 r3 v vs ∧ Below w0.heap.size w0 w' ∧ KeepBut w w' g none := by
  obtain ⟨hp, rfl, rfl⟩ := Duo.get_ref hf
  obtain ⟨A0, c0, rfl, hc0, hr0⟩ := Kd.R_reads hI.2.2.2.1
  refine Calls.mono (hogsheadref18_Table_Get.calls k h A0 c0 r3 A1 c1 l1 r1 r2 w hr0 hc0 hI.2.1 hr1 hc1 hp) (fun e w' ⟨h1, h4⟩ => ⟨h1, hI.below h4, hB.trans (h4.mono hB.size), h4.size, fun i hi _ _ => h4.block i hi⟩)
theorem duoAll (g h : Nat) (f0 : List ByteArray) (f1 : Bool) (v : Value) (r1 : List ByteArray) (r2 : List ByteArray) (r3 : Bool) (w0 w : World) (hI : IsDuo w0 w g h f0 f1 f0 v []) (hB : Below w0.heap.size w0 w) (hf : blocks_Table_All.f f0 f1 = some (r1, r2, r3)) :
    Calls Try.prog 19 #[.pointer (some ⟨g, 0, none⟩)] w fun e w' => ∃ v0_ : Value, e = .returned (v0_) ∧ Kd.R Kd.string 9 w' w.heap.size (fun _ => True) v0_ r1 ∧ IsDuo w0 w' g h r2 r3 r2 v [v0_] ∧ Below w0.heap.size w0 w' ∧ KeepBut w w' g none := by
  have he : r2 = f0 ∧ r3 = f1 := by
    unfold blocks_Table_All.f at hf
    obtain ⟨t, ht, hf⟩ := Option.bind_eq_some_iff.mp hf
    simp only [Option.some.injEq, Prod.mk.injEq] at hf
    exact ⟨hf.2.1.symm, hf.2.2.symm⟩
  obtain ⟨rfl, rfl⟩ := he
  refine Calls.mono (blocks_Table_All.calls2 g r2 r3 r1 r2 r3 w0 w hI.1 hB hf) (fun e w' ⟨v0_, h1, h2, h3, h4, h5, h6⟩ => ⟨v0_, h1, h2, ?_, h4, h5⟩)
  have t := hI.below h6
  refine ⟨t.1, t.2.1, t.2.2.1, t.2.2.2.1, t.2.2.2.2.1, t.2.2.2.2.2.1, fun u hu k hk => ?_⟩
  obtain rfl := List.mem_singleton.1 hu
  have e1 := Kd.R_base h2 k hk
  refine ⟨Kd.R_lt h2 k hk, fun h7 => ?_, fun e => ?_, fun e => ?_⟩
  · have := (hI.1.typed k (TabAt.back (h6.block g hI.1.lt).symm h7)).1.2
    omega
  · have := blk_lt hI.2.1
    omega
  · have := Kd.R_lt hI.2.2.2.1 k e
    omega
set_option maxHeartbeats 1000000 in
theorem duoLen (g h : Nat) (f0 : List ByteArray) (f1 : Bool) (v : Value) (vs : List Value) (r1 : Int) (r2 : List ByteArray) (r3 : Bool) (w0 w : World) (hI : IsDuo w0 w g h f0 f1 f0 v vs) (hB : Below w0.heap.size w0 w) (hf : blocks_Table_Len.f f0 f1 = some (r1, r2, r3)) :
    Calls Try.prog 12 #[.pointer (some ⟨g, 0, none⟩)] w fun e w' => e = .returned (.int .i64 r1) ∧ IsDuo w0 w' g h r2 r3 r2 v vs ∧ Below w0.heap.size w0 w' ∧ KeepBut w w' g none := by
  unfold blocks_Table_Len.f at hf
  simp only [Option.some.injEq, Prod.mk.injEq] at hf
  obtain ⟨rfl, rfl, rfl⟩ := hf
  have HI := Aside0.mk hI
  have HB := Aside0.mk hB
  obtain ⟨B0_, c0, m, hb, hg, hr, hc⟩ := IsS58.open_ hI.1
  have hc0 := cellS58_0 hb
  have hz0 := blk_frozen hb 0
  clear hI hB hb hg hr hc
  go_enter Try.func12, Try.ntmps12
  go_wp2
  go_ret
  exact ⟨by first | rfl | (simp; done), HI.out, HB.out, KeepBut.refl _ _ _⟩
/-- A list of texts beside what the reference's table holds. -/
theorem tab_SameL.calls (k : Nat) (g h : Nat) (f0 : List ByteArray) (f1 : Bool) (v : Value) (vs : List Value) (A1 : Option Addr) (c1 : Nat) (l1 : List ByteArray) (r1 : Bool) (r2 : List ByteArray) (r3 : Bool) (w0 w : World) (hI : IsDuo w0 w g h f0 f1 f0 v vs) (hB : Below w0.heap.size w0 w) (hr1 : Kd.C Kd.string w A1 l1.length l1) (hc1 : l1.length ≤ c1) (hf1 : True) (hf : tab_SameL.f k f0 f1 l1 = some (r1, r2, r3)) :
    Calls Try.prog 21 #[.slice A1 l1.length c1, v] w fun e w' => e = .returned (.bool r1) ∧ IsDuo w0 w' g h r2 r3 r2 v vs ∧ Below w0.heap.size w0 w' ∧ KeepBut w w' g none := by
  unfold tab_SameL.f at hf
  obtain ⟨t, ht, hf⟩ := Option.bind_eq_some_iff.mp hf
  simp only [Option.some.injEq, Prod.mk.injEq] at hf
  obtain ⟨rfl, rfl, rfl⟩ := hf
  obtain ⟨A0, c0, rfl, hc0, hr0⟩ := Kd.R_reads hI.2.2.2.1
  refine Calls.mono (hogsheadlaw0_SameTexts.calls k A1 c1 l1 A0 c0 f0 t w hr1 hc1 hr0 hc0 ht) (fun e w' ⟨h1, ⟨n, h4⟩⟩ => ?_)
  subst h4
  exact ⟨h1, hI.drewN n, pw_below_drewN hB n, by simp [World.drewN], fun i hi _ _ => rfl⟩
end

end Go.Proofs.Ythjfjkcjpkapgaa.P
