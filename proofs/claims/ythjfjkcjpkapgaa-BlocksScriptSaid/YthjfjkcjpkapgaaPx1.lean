/- Laid by a program of this session (wip/pr), after the printer of the kit: the functions that a statement reaches as plain Lean functions, and that the calls of the machine come to them. No condition. -/
import Derived.Test.YthjfjkcjpkapgaaPx0
namespace Go.Proofs.Ythjfjkcjpkapgaa.P
open Go.RowKit Go.Proofs.YthjfjkcjpkapgaaX Go.Proofs.YthjfjkcjpkapgaaW.PrintWords Go.Proofs.YthjfjkcjpkapgaaW.PrintLast Go.Proofs.YthjfjkcjpkapgaaW.PrintMore
attribute [local go_sem] max2_int min2_int max_two min_two max_three min_three max_four min_four   -- for this text's walks alone
set_option linter.unusedVariables false
set_option linter.unusedSimpArgs false

/-! ### hogsheadlaw0_SameTexts: function 21 -/
def hogsheadlaw0_SameTexts.l0 : Nat → List ByteArray → List ByteArray → Int → Option (Bool)
  | 0, _, _, _ => none
  | k + 1, x0, x1, x5 => if x5 < (x0.length : Int) then (if 0 ≤ x5 then (if x5 < (x1.length : Int) then (if (rdOf ByteArray.empty x0 x5).toList = (rdOf ByteArray.empty x1 x5).toList then (hogsheadlaw0_SameTexts.l0 k x0 x1 (wrap64 (x5 + 1))) else (some false)) else (none)) else (none)) else (some true)
def hogsheadlaw0_SameTexts.f (k : Nat) (l0 : List ByteArray) (l1 : List ByteArray) : Option (Bool) := if (l0.length : Int) = (l1.length : Int) then (hogsheadlaw0_SameTexts.l0 k l0 l1 0) else (some false)
theorem hogsheadlaw0_SameTexts.mono_l : ∀ k, (∀ y0 y1 y2, LeO (hogsheadlaw0_SameTexts.l0 k y0 y1 y2) (hogsheadlaw0_SameTexts.l0 (k + 1) y0 y1 y2))
  | 0 => fun _ _ _ r h => by simp [hogsheadlaw0_SameTexts.l0] at h
  | k + 1 => by
    have ih0 := hogsheadlaw0_SameTexts.mono_l k
    · intro y0 y1 y2
      unfold hogsheadlaw0_SameTexts.l0
      repeat' first
      | (with_reducible exact ih0 _ _ _)
      | (with_reducible exact LeO.refl _)
      | (with_reducible exact LeO.none _)
      | (with_reducible refine LeO.ite ?_ ?_)
      | (with_reducible refine LeO.bind ?_ (fun _ => ?_))
      | exact ih0 _ _ _
      | exact LeO.none _
      | refine LeO.ite ?_ ?_
      | refine LeO.bind ?_ (fun _ => ?_)
theorem hogsheadlaw0_SameTexts.mono : ∀ a0 a1 k, LeO (hogsheadlaw0_SameTexts.f k a0 a1) (hogsheadlaw0_SameTexts.f (k + 1) a0 a1) := by
  intro a0 a1 k
  have ih0 := hogsheadlaw0_SameTexts.mono_l k
  unfold hogsheadlaw0_SameTexts.f
  repeat' first
      | (with_reducible exact ih0 _ _ _)
      | (with_reducible exact LeO.refl _)
      | (with_reducible exact LeO.none _)
      | (with_reducible refine LeO.ite ?_ ?_)
      | (with_reducible refine LeO.bind ?_ (fun _ => ?_))
      | exact ih0 _ _ _
      | exact LeO.none _
      | refine LeO.ite ?_ ?_
      | refine LeO.bind ?_ (fun _ => ?_)
set_option maxHeartbeats 8000000 in
set_option maxRecDepth 100000 in
theorem hogsheadlaw0_SameTexts.calls (k : Nat) (A0 : Option Addr) (c0 : Nat) (l0 : List ByteArray) (A1 : Option Addr) (c1 : Nat) (l1 : List ByteArray) (r : Bool) (w : World) (hr0 : Kd.C Kd.string w A0 l0.length l0) (hc0 : l0.length ≤ c0) (hr1 : Kd.C Kd.string w A1 l1.length l1) (hc1 : l1.length ≤ c1) (h : hogsheadlaw0_SameTexts.f k l0 l1 = some r) :
    Calls Try.prog 21 #[.slice A0 l0.length c0, .slice A1 l1.length c1] w fun e w' => e = .returned (.bool r) ∧ Drawn0 w w' := by
  have HR0 := Aside0.mk hr0
  have HC0 := Aside0.mk hc0
  clear hr0 hc0
  have HR1 := Aside0.mk hr1
  have HC1 := Aside0.mk hc1
  clear hr1 hc1
  have H : (if (l0.length : Int) = (l1.length : Int) then (hogsheadlaw0_SameTexts.l0 k l0 l1 0) else (some false)) = some r := h
  clear h
  by_cases c3 : (l0.length : Int) = (l1.length : Int)
  · rw [if_pos c3] at H
    have c3b0 : ((l0.length : Int) == (l1.length : Int)) = true := beq_iff_eq.mpr c3
    have c3b1 : ((l0.length : Int) != (l1.length : Int)) = false := bne_eq_false_iff_eq.mpr c3
    have c3b2 : (l0.length == l1.length) = true := by first | simpa using c3 | (simp at c3 ⊢; omega)
    clear c3
    have H' := Aside0.mk H
    clear H
    go_enter Try.func21, Try.ntmps21
    go_wp2
    repeat (go_quiet (fail); try go_wp2)
    go_loopg [5] k (fun kq v5 w' => ∃ (x5_1 : Int), v5 = .int .i64 x5_1 ∧ Aside0 (hogsheadlaw0_SameTexts.l0 kq l0 l1 x5_1 = some r) ∧ Aside0 (kq ≤ k) ∧ Drawn0 w w')
    case atStart => exact ⟨(0), (by first | rfl | (simp; done) | (simp [*]; done)), H', ⟨Nat.le_refl _⟩, by repeat (first | exact Drawn0.refl _ | apply Drawn0.step)⟩
    case round =>
      clear H'
      try clear c1
      try clear c2
      try clear p2
      try clear c3
      try clear c3b0
      try clear c3b1
      try clear c3b2
      obtain ⟨x5_1, rfl, HA, HK1, ⟨m1, rfl⟩⟩ := hrel
      cases gk with
      | zero => exact absurd HA.out (by simp [hogsheadlaw0_SameTexts.l0])
      | succ k1 =>
        have H := HA.out
        clear HA
        simp only [hogsheadlaw0_SameTexts.l0] at H
        by_cases c4 : x5_1 < (l0.length : Int)
        · rw [if_pos c4] at H
          have c4b0 : decide (x5_1 < (l0.length : Int)) = true := decide_eq_true c4
          clear c4
          by_cases c5 : 0 ≤ x5_1
          · rw [if_pos c5] at H
            have c5b0 : decide (0 ≤ x5_1) = true := decide_eq_true c5
            clear c5
            by_cases c6 : x5_1 < (l1.length : Int)
            · rw [if_pos c6] at H
              have c6b0 : decide (x5_1 < (l1.length : Int)) = true := decide_eq_true c6
              clear c6
              by_cases c7 : (rdOf ByteArray.empty l0 x5_1).toList = (rdOf ByteArray.empty l1 x5_1).toList
              · rw [if_pos c7] at H
                have c7b0 : ((rdOf ByteArray.empty l0 x5_1).toList == (rdOf ByteArray.empty l1 x5_1).toList) = true := beq_iff_eq.mpr c7
                have c7b1 : ((rdOf ByteArray.empty l0 x5_1).toList != (rdOf ByteArray.empty l1 x5_1).toList) = false := bne_eq_false_iff_eq.mpr c7
                clear c7
                have H' := Aside0.mk H
                clear H
                have p101 : 0 ≤ (x5_1 : Int) := of_decide_eq_true (by first | (with_reducible assumption) | assumption)
                have q101 : x5_1 < (l0.length : Int) := of_decide_eq_true (by first | (with_reducible assumption) | assumption)
                obtain ⟨ad101, e101, hx101_0⟩ := Kd.at_string HR0.out x5_1 p101 q101
                cases e101
                replace p101 := eq_true p101
                replace q101 := eq_true q101
                have p102 : 0 ≤ (x5_1 : Int) := of_decide_eq_true (by first | (with_reducible assumption) | assumption)
                have q102 : x5_1 < (l1.length : Int) := of_decide_eq_true (by first | (with_reducible assumption) | assumption)
                obtain ⟨ad102, e102, hx102_0⟩ := Kd.at_string HR1.out x5_1 p102 q102
                cases e102
                replace p102 := eq_true p102
                replace q102 := eq_true q102
                go_wp2
                repeat (go_quiet (fail); try go_wp2)
                go_roundg k1
                case measure => have := HK1.out; omega
                case rel => exact ⟨(wrap64 (x5_1 + 1)), (by first | rfl | (simp; done) | (simp [*]; done)), H', ⟨by have := HK1.out; omega⟩, by repeat (first | exact Drawn0.refl _ | apply Drawn0.step)⟩
              · rw [if_neg c7] at H
                have c7b0 : ((rdOf ByteArray.empty l0 x5_1).toList == (rdOf ByteArray.empty l1 x5_1).toList) = false := beq_eq_false_iff_ne.mpr c7
                have c7b1 : ((rdOf ByteArray.empty l0 x5_1).toList != (rdOf ByteArray.empty l1 x5_1).toList) = true := bne_iff_ne.mpr c7
                obtain rfl := Option.some.inj H
                have p101 : 0 ≤ (x5_1 : Int) := of_decide_eq_true (by first | (with_reducible assumption) | assumption)
                have q101 : x5_1 < (l0.length : Int) := of_decide_eq_true (by first | (with_reducible assumption) | assumption)
                obtain ⟨ad101, e101, hx101_0⟩ := Kd.at_string HR0.out x5_1 p101 q101
                cases e101
                replace p101 := eq_true p101
                replace q101 := eq_true q101
                have p102 : 0 ≤ (x5_1 : Int) := of_decide_eq_true (by first | (with_reducible assumption) | assumption)
                have q102 : x5_1 < (l1.length : Int) := of_decide_eq_true (by first | (with_reducible assumption) | assumption)
                obtain ⟨ad102, e102, hx102_0⟩ := Kd.at_string HR1.out x5_1 p102 q102
                cases e102
                replace p102 := eq_true p102
                replace q102 := eq_true q102
                go_wp2
                repeat (go_quiet (fail); try go_wp2)
                go_ret
                exact ⟨by first | rfl | (simp; done) | (simp [*]; done), by repeat (first | exact Drawn0.refl _ | apply Drawn0.step)⟩
            · rw [if_neg c6] at H
              exact absurd H (by simp)
          · rw [if_neg c5] at H
            exact absurd H (by simp)
        · rw [if_neg c4] at H
          have c4b0 : decide (x5_1 < (l0.length : Int)) = false := decide_eq_false c4
          clear c4
          obtain rfl := Option.some.inj H
          go_wp2
          repeat (go_quiet (fail); try go_wp2)
          go_ret
          exact ⟨by first | rfl | (simp; done) | (simp [*]; done), by repeat (first | exact Drawn0.refl _ | apply Drawn0.step)⟩
  · rw [if_neg c3] at H
    have c3b0 : ((l0.length : Int) == (l1.length : Int)) = false := beq_eq_false_iff_ne.mpr c3
    have c3b1 : ((l0.length : Int) != (l1.length : Int)) = true := bne_iff_ne.mpr c3
    have c3b2 : (l0.length == l1.length) = false := by first | simpa using c3 | (simp at c3 ⊢; omega)
    obtain rfl := Option.some.inj H
    go_enter Try.func21, Try.ntmps21
    go_wp2
    repeat (go_quiet (fail); try go_wp2)
    go_ret
    exact ⟨by first | rfl | (simp; done) | (simp [*]; done), by repeat (first | exact Drawn0.refl _ | apply Drawn0.step)⟩

/-- The blocks of a table at g, by what stands there: its own, its map's, its row's. -/
def TabAt (W : World) (g k : Nat) : Prop := k = g ∨ ∃ v m, W.heap[g]? = some (.cells #[v, .map (some m)] 58 (0, 0)) ∧ (k = m ∨ v.ownBlock = some k)
/-- A table at block g of W: its row of texts, and a map that tells of each its place. -/
def IsS58 (w0 W : World) (g : Nat) (f0 : List ByteArray) (f1 : Bool) : Prop := ∃ v m, W.heap[g]? = some (.cells #[v, .map (some m)] 58 (0, 0)) ∧ w0.heap.size ≤ g ∧ w0.heap.size ≤ m ∧ Kd.string.R 9 W w0.heap.size (fun _ => True) v f0 ∧ MapL Try.prog 9 3 W m 0 f0 ∧ f0.length ≤ 4000
/-- A row of texts stays where its block does. -/
theorem strs_move {e : Nat} {w w1 : World} {base : Nat} {ok : Nat → Prop} {v : Value} {xs : List ByteArray} (h : Kd.string.R e w base ok v xs) (hm : ∀ k, v.ownBlock = some k → w1.heap[k]? = w.heap[k]?) : Kd.string.R e w1 base ok v xs := by
  obtain ⟨h0, inner, ho, hr⟩ := h
  exact ⟨h0, inner, own_move ho hm, hr⟩
section
variable {w0 W W1 : World} {g : Nat} {f0 : List ByteArray} {f1 : Bool}
theorem IsS58.step (h : IsS58 w0 W g f0 f1) (hm : ∀ k, k < W.heap.size → TabAt W g k → W1.heap[k]? = W.heap[k]?) : IsS58 w0 W1 g f0 f1 := by
  obtain ⟨v, m, hb, hg, hm0, hr, hl, hn⟩ := h
  have h1 : ∀ k, v.ownBlock = some k → W1.heap[k]? = W.heap[k]? := fun k hk => by
    obtain ⟨cs, hc⟩ := Kd.R_typed hr k hk
    exact hm k (blk_lt hc) (.inr ⟨v, m, hb, .inr hk⟩)
  exact ⟨v, m, (hm g (blk_lt hb) (.inl rfl)).trans hb, hg, hm0, strs_move hr h1, hl.same (hm m hl.lt (.inr ⟨v, m, hb, .inl rfl⟩)), hn⟩
theorem IsS58.below (h : IsS58 w0 W g f0 f1) (hw : Below W.heap.size W W1) : IsS58 w0 W1 g f0 f1 := h.step (fun k hk _ => hw.block k hk)
theorem IsS58.grown {row : Option Nat} (h : IsS58 w0 W g f0 f1) (hw : W.grownBy W1 row) (hne : ∀ k, TabAt W g k → some k ≠ row) : IsS58 w0 W1 g f0 f1 := h.step (fun k hk ht => hw.block k hk (hne k ht))
theorem IsS58.kept {S : Nat → Prop} (h : IsS58 w0 W g f0 f1) (hk : Kept W W1 S) (hne : ∀ k, TabAt W g k → ¬ S k) : IsS58 w0 W1 g f0 f1 := h.step (fun k hlt ht => hk.2 k hlt (hne k ht))
theorem IsS58.alloc (h : IsS58 w0 W g f0 f1) (o : Obj) : IsS58 w0 (W.alloc o) g f0 f1 := h.below (below_alloc (Below.refl _ _) o)
theorem IsS58.drewN (h : IsS58 w0 W g f0 f1) (m : Nat) : IsS58 w0 (W.drewN m) g f0 f1 := h.step (fun _ _ _ => rfl)
theorem IsS58.drew (h : IsS58 w0 W g f0 f1) : IsS58 w0 W.drew g f0 f1 := h.step (fun _ _ _ => rfl)
theorem IsS58.at_ {m : Nat} (hq : W.drewN m = W1) (h : IsS58 w0 W g f0 f1) : IsS58 w0 W1 g f0 f1 := by subst hq; exact IsS58.drewN h m
theorem IsS58.lt (h : IsS58 w0 W g f0 f1) : g < W.heap.size := by
  obtain ⟨v, m, hb, _⟩ := h
  exact blk_lt hb
theorem IsS58.ge (h : IsS58 w0 W g f0 f1) : w0.heap.size ≤ g := by
  obtain ⟨v, m, hb, hg, _⟩ := h
  exact hg
theorem IsS58.fresh (h : IsS58 w0 W g f0 f1) : ∀ k, W.heap.size ≤ k → k ≠ g := fun k hk e => by have := h.lt; omega
theorem IsS58.lower {w00 : World} (h : IsS58 w0 W g f0 f1) (hs : w00.heap.size ≤ w0.heap.size) : IsS58 w00 W g f0 f1 := by
  obtain ⟨v, m, hb, hg, hm0, hr, hl, hn⟩ := h
  exact ⟨v, m, hb, Nat.le_trans hs hg, Nat.le_trans hs hm0, Kd.R_lower hr hs, hl, hn⟩
/-- The table's blocks are its own, of the table's and texts' types, and a map. -/
theorem IsS58.typed (h : IsS58 w0 W g f0 f1) (k : Nat) (ht : TabAt W g k) : (w0.heap.size ≤ k ∧ k < W.heap.size) ∧ ∀ cs q fr, W.heap[k]? = some (.cells cs q fr) → q = 58 ∨ q = 9 := by
  obtain ⟨v, m, hb, hg, hm0, hr, hl, hn⟩ := h
  rcases ht with rfl | ⟨v', m', hb', ht⟩
  · refine ⟨⟨hg, blk_lt hb⟩, fun cs q fr hc => .inl ?_⟩
    rw [hb] at hc
    injection hc with hc
    injection hc with _ hc
    exact hc.symm
  · rw [hb] at hb'
    injection hb' with hb'
    injection hb' with hb'
    have e2 : #[v, Value.map (some m)].toList = #[v', Value.map (some m')].toList := congrArg _ hb'
    simp only [List.cons.injEq, and_true] at e2
    obtain ⟨rfl, e3⟩ := e2
    injection e3 with e3
    injection e3 with e3
    subst e3
    rcases ht with rfl | ht
    · refine ⟨⟨hm0, hl.lt⟩, fun cs q fr hc => ?_⟩
      obtain ⟨D, _, ⟨es, clock, he, _⟩, _⟩ := hl
      rw [he] at hc
      cases hc
    · obtain ⟨cs', hc'⟩ := Kd.R_typed hr k ht
      refine ⟨⟨Kd.R_base hr k ht, blk_lt hc'⟩, fun cs q fr hc => .inr ?_⟩
      rw [hc'] at hc
      injection hc with hc
      injection hc with _ hc
      exact hc.symm
section
variable {α : Type} {d : Kd α} {e : Nat} {base : Nat} {ok : Nat → Prop} {v : Value} {xs : List α}
theorem IsS58.apartT (h : IsS58 w0 W g f0 f1) (ho : d.R e W base ok v xs) (ht : ∀ q, q ∈ e :: d.E → q ≠ 58 ∧ q ≠ 9) : d.R e W base (fun k => ok k ∧ ¬ TabAt W g k) v xs :=
  Kd.R_mono (Kd.R_bound ho) (fun k hk => ⟨hk.1, fun h2 => by
    obtain ⟨_, _, _, q, hq, cells', hc⟩ := hk
    have h3 := ht q hq
    rcases (h.typed k h2).2 _ _ _ hc with h4 | h4
    · exact h3.1 h4
    · exact h3.2 h4⟩)
theorem IsS58.own_neT (h : IsS58 w0 W g f0 f1) (ho : d.R e W base ok v xs) (ht : e ≠ 58 ∧ e ≠ 9) : ∀ k, TabAt W g k → some k ≠ v.ownBlock := fun k h2 h3 => by
  obtain ⟨cs, hc⟩ := Kd.R_typed ho k h3.symm
  rcases (h.typed k h2).2 _ _ _ hc with h4 | h4
  · exact ht.1 h4
  · exact ht.2 h4
theorem IsS58.own_ne (h : IsS58 w0 W g f0 f1) (ho : d.R e W base ok v xs) (ht : e ≠ 58) : some g ≠ v.ownBlock := by
  obtain ⟨v, m, hb, _⟩ := h
  exact Kd.R_ne ho hb ht
theorem IsS58.apartS (h : IsS58 w0 W g f0 f1) (ho : d.S e W base ok v xs) (ht : ∀ q, q ∈ e :: d.E → q ≠ 58) : d.S e W base (fun k => ok k ∧ k ≠ g) v xs := by
  obtain ⟨v, m, hb, _⟩ := h
  exact Kd.S_types ho hb ht
theorem IsS58.apartTS (h : IsS58 w0 W g f0 f1) (ho : d.S e W base ok v xs) (ht : ∀ q, q ∈ e :: d.E → q ≠ 58 ∧ q ≠ 9) : d.S e W base (fun k => ok k ∧ ¬ TabAt W g k) v xs :=
  Kd.S_mono (Kd.S_bound ho) (fun k hk => ⟨hk.1, fun h2 => by
    obtain ⟨_, _, _, q, hq, cells', hc⟩ := hk
    have h3 := ht q hq
    rcases (h.typed k h2).2 _ _ _ hc with h4 | h4
    · exact h3.1 h4
    · exact h3.2 h4⟩)
theorem S_oldT {S : Nat → Prop} {w1 : World} (hu : d.S e W base (fun k => ok k ∧ ¬ S k) v xs) (hk : Kept W w1 S) : d.S e w1 base (fun k => ok k ∧ k < W.heap.size) v xs :=
  Kd.S_mono (Kd.S_kept (Kd.S_bound hu) hk (fun _ h => h.1.2)) (fun _ h => ⟨h.1.1, h.2.2.1⟩)
theorem IsS58.own_neTS (h : IsS58 w0 W g f0 f1) (ho : d.S e W base ok v xs) (ht : e ≠ 58 ∧ e ≠ 9) : ∀ k, TabAt W g k → some k ≠ v.ownBlock := fun k h2 h3 => by
  obtain ⟨cs, hc⟩ := Kd.S_typed ho k h3.symm
  rcases (h.typed k h2).2 _ _ _ hc with h4 | h4
  · exact ht.1 h4
  · exact ht.2 h4
theorem IsS58.own_neS (h : IsS58 w0 W g f0 f1) (ho : d.S e W base ok v xs) (ht : e ≠ 58) : some g ≠ v.ownBlock := by
  obtain ⟨v, m, hb, _⟩ := h
  exact Kd.R_ne (Kd.S_R ho) hb ht
/-- An elder row over a call of the table's. -/
theorem R_oldT {S : Nat → Prop} {w1 : World} (hu : d.R e W base (fun k => ok k ∧ ¬ S k) v xs) (hk : Kept W w1 S) : d.R e w1 base (fun k => ok k ∧ k < W.heap.size) v xs :=
  Kd.R_mono (Kd.R_kept (Kd.R_bound hu) hk (fun _ h => h.1.2)) (fun _ h => ⟨h.1.1, h.2.2.1⟩)
end
end
/-- A map's block is none of a row's. -/
theorem MapL.ne_row {P : Program} {k e e' m off : Nat} {l : List ByteArray} {w : World} {α : Type} {d : Kd α} {base : Nat} {ok : Nat → Prop} {v : Value} {xs : List α} (h : MapL P k e w m off l) (ho : d.R e' w base ok v xs) : some m ≠ v.ownBlock := fun h2 => by
  obtain ⟨cs, hc⟩ := Kd.R_typed ho m h2.symm
  obtain ⟨D, _, ⟨es, clock, hb, _⟩, _⟩ := h
  rw [hb] at hc
  cases hc
/-- A row over an update of a map. -/
theorem R_mapped {P : Program} {k e e' m off : Nat} {l : List ByteArray} {w w1 : World} {α : Type} {d : Kd α} {base : Nat} {ok : Nat → Prop} {v : Value} {xs : List α} (h : d.R e' w base ok v xs) (hm : MapL P k e w m off l) (hg : w.grownBy w1 (some m)) : d.R e' w1 base ok v xs :=
  Kd.R_mono (Kd.R_grown (Kd.R_bound h) hg (fun k hk he => by
    obtain ⟨_, _, _, q, _, cells, hc⟩ := hk
    injection he with he
    subst he
    obtain ⟨D, _, ⟨es, clock, hb, _⟩, _⟩ := hm
    rw [hb] at hc
    cases hc)) (fun _ hk => hk.1)
/-- An update of a map, in a region that draws. -/
theorem upd_ {P : Program} {ops : Array Oper} {Q : Exit → Act → World → Prop} {oi : Oper} {N : Option Tmp} {a : Act} {w : World} {K : Act → World → Prop} (m x v : Operand) (t k e : TypeId) (hw : Region.wanted oi (yielded ops a.tmps) = true) (hN : oi.dst = N) (hop : oi.op = .mapUpdate t m x v)
    (hk : P.underlying k = some .string) (ht : P.underlying t = some (.map k e)) (he : P.underlying e = some (.int .i64)) {b n : Nat} {D : DataW Unit} {p : ByteArray} {c : Int} (hm : a.eval m = .map (some b)) (hx : a.eval x = .string p) (hv : a.eval v = .int .i64 c)
    (hown : w.ownsMap P k (plainElem P e) b n D) (hn : n < maxLen) (hp : p.size ≤ maxLen) (hc : (Lit.int .i64 c).wf = true)
    (h : ∀ w', w'.ownsMap P k (plainElem P e) b (n + 1) (D.put (.string p.data.toList) (.lit (.int .i64 c))) → w.grownBy w' (some b) → K (a.put N undef) w') : if Region.wanted oi (yielded ops a.tmps) = true then Oper.wp P oi a w K Q else K (a.put N undef) w := by
  rw [if_pos hw]
  subst hN
  obtain ⟨w', hrun, r1, r2⟩ := hown.update (Maps.string_keyed hk) ht hn (WideMaps.keyOf_string_mk hk hp) (plainElem_int he hc)
  unfold Oper.wp
  simp [execOp, hop, hm, hx, hv, hrun, Result.andThen]
  exact h _ r1 r2
theorem MapL.ne_cells {P : Program} {k e m off g t : Nat} {fr : Nat × Nat} {cs : Array Value} {l : List ByteArray} {w : World} (h : MapL P k e w m off l) (hb : w.heap[g]? = some (.cells cs t fr)) : m ≠ g := by
  rintro rfl
  obtain ⟨D, _, ⟨es, clock, he, _⟩, _⟩ := h
  rw [he] at hb
  cases hb
theorem wf_small {c : Int} (h0 : 0 ≤ c) (h1 : c ≤ 1000000000) : (Lit.int .i64 c).wf = true := by
  simp [Lit.wf, IntKind.min, IntKind.max, IntKind.bits, IntKind.signed]
  omega
theorem IsS58.apart {w0 W : World} {g : Nat} {f0 : List ByteArray} {f1 : Bool} {α : Type} {d : Kd α} {e : Nat} {base : Nat} {ok : Nat → Prop} {v : Value} {xs : List α} (h : IsS58 w0 W g f0 f1) (ho : d.R e W base ok v xs) (ht : ∀ q, q ∈ e :: d.E → q ≠ 58) : d.R e W base (fun k => ok k ∧ k ≠ g) v xs := by
  obtain ⟨v, m, hb, _⟩ := h
  exact Kd.R_types ho hb ht
/-- A table, opened. -/
theorem IsS58.open_ {w0 W : World} {g : Nat} {f0 : List ByteArray} {f1 : Bool} (h : IsS58 w0 W g f0 f1) : ∃ A0 c0 m, W.heap[g]? = some (.cells #[.slice A0 f0.length c0, .map (some m)] 58 (0, 0)) ∧ w0.heap.size ≤ g ∧ Kd.C Kd.string W A0 f0.length f0 ∧ f0.length ≤ c0 := by
  obtain ⟨v, m, hb, hg, hm0, hr, hl, hn⟩ := h
  obtain ⟨A, c, rfl, h1, h2⟩ := Kd.R_reads hr
  exact ⟨A, c, m, hb, hg, h2, h1⟩
theorem cellS58_0 {W : World} {g : Nat} {A0 : Option Addr} {c0 m : Nat} {f0 : List ByteArray} (h : W.heap[g]? = some (.cells #[.slice A0 f0.length c0, .map (some m)] 58 (0, 0))) : W.cell? ⟨g, 0, none⟩ = some (.slice A0 f0.length c0) := (blk_cell h 0).trans rfl
theorem cellS58_1 {W : World} {g : Nat} {A0 : Option Addr} {c0 m : Nat} {f0 : List ByteArray} (h : W.heap[g]? = some (.cells #[.slice A0 f0.length c0, .map (some m)] 58 (0, 0))) : W.cell? ⟨g, 1, none⟩ = some (.map (some m)) := (blk_cell h 1).trans rfl

/-- A list of texts beside what the reference's table holds. -/
def tab_SameL.f (k : Nat) (s0_0 : List ByteArray) (s0_1 : Bool) (l1 : List ByteArray) : Option (Bool × List ByteArray × Bool) := (hogsheadlaw0_SameTexts.f k l1 s0_0).bind fun t => some (t, s0_0, s0_1)
theorem tab_SameL.mono : ∀ a0 a1 a2 k, LeO (tab_SameL.f k a0 a1 a2) (tab_SameL.f (k + 1) a0 a1 a2) := by
  intro a0 a1 a2 k
  unfold tab_SameL.f
  exact LeO.bind (hogsheadlaw0_SameTexts.mono _ _ k) (fun _ => LeO.refl _)

/-- An empty table. -/
def blocks_New.f : Option (List ByteArray × Bool) := some ([], false)
set_option maxHeartbeats 1000000 in
theorem blocks_New.calls (r1 : List ByteArray) (r2 : Bool) (w0 w : World) (hB : Below w0.heap.size w0 w) (h : blocks_New.f = some (r1, r2)) :
    Calls Try.prog 8 #[] w fun e w' => ∃ g, e = .returned (.pointer (some ⟨g, 0, none⟩)) ∧ IsS58 w0 w' g r1 r2 ∧ Below w0.heap.size w0 w' ∧ Below w.heap.size w w' := by
  simp only [blocks_New.f, Option.some.injEq, Prod.mk.injEq] at h
  obtain ⟨rfl, rfl⟩ := h
  have HB := Aside0.mk (Below.refl w.heap.size w)
  have HB0 := Aside0.mk hB
  clear hB
  have hmm := @run_makeMap Try.prog
  go_enter Try.func8, Try.ntmps8
  go_wp2_with (first | ((with_reducible refine gate_dst (N := 3) rfl ?_); (try (refine gate_guard (by rfl) ?_; dsimp only)); refine box_event ?hg (N := 3) ?hd (cs := #[.slice none 0 0, .map (some w.heap.size)]) (t := 58) ?hr ?_; (case hd => rfl); (case hg => rfl); (case hr => first | (go_simp; done) | (go_simp; rfl)); intro gb hg w3 hbox hb; have n0_ := Aside0.mk (below_step (by repeat (first | (with_reducible first | exact HB.out | apply below_alloc | apply pw_below_drewN | apply below_drew1) | exact HB.out)) hb); have BK := Aside0.mk hbox; have GE := Aside0.mk (show w.heap.size ≤ gb by rw [hg]; exact below_size (by repeat (first | (with_reducible first | exact HB.out | apply below_alloc | apply pw_below_drewN | apply below_drew1) | exact HB.out))); have HM := Aside0.mk (MapL.below (MapL.empty Try.prog 9 3 w 0) hb (MapL.lt (MapL.empty Try.prog 9 3 w 0))); clear HB; have HB := n0_; clear n0_; clear hb hbox hg))
  go_ret
  exact ⟨gb, rfl, ⟨_, _, BK.out, Nat.le_trans (below_size HB0.out) GE.out, below_size HB0.out, Kd.R_nil _ _ _ _ _, HM.out, Nat.zero_le _⟩, HB0.out.trans (HB.out.mono (below_size HB0.out)), HB.out⟩

/-! ### blocks_Cut: function 16 -/
def blocks_Cut.l0 : Nat → ByteArray → List ByteArray → Option (List ByteArray)
  | 0, _, _ => none
  | k + 1, x0, x3 => if (x0.size : Int) > 64 then (if 0 ≤ 64 then (if 64 ≤ (x0.size : Int) then (if x3.length < 8796093022208 then (blocks_Cut.l0 k (x0.extract 64 x0.size) (x3 ++ [x0.extract 0 64])) else (none)) else (none)) else (none)) else (if x0.toList = ([] : List UInt8) then (some x3) else (if x3.length < 8796093022208 then (some (x3 ++ [x0])) else (none)))
def blocks_Cut.f (k : Nat) (a0 : ByteArray) : Option (List ByteArray) := blocks_Cut.l0 k a0 ([] : List ByteArray)
theorem blocks_Cut.mono_l : ∀ k, (∀ y0 y1, LeO (blocks_Cut.l0 k y0 y1) (blocks_Cut.l0 (k + 1) y0 y1))
  | 0 => fun _ _ r h => by simp [blocks_Cut.l0] at h
  | k + 1 => by
    have ih0 := blocks_Cut.mono_l k
    · intro y0 y1
      unfold blocks_Cut.l0
      repeat' first
      | (with_reducible exact ih0 _ _)
      | (with_reducible exact LeO.refl _)
      | (with_reducible exact LeO.none _)
      | (with_reducible refine LeO.ite ?_ ?_)
      | (with_reducible refine LeO.bind ?_ (fun _ => ?_))
      | exact ih0 _ _
      | exact LeO.none _
      | refine LeO.ite ?_ ?_
      | refine LeO.bind ?_ (fun _ => ?_)
theorem blocks_Cut.mono : ∀ a0 k, LeO (blocks_Cut.f k a0) (blocks_Cut.f (k + 1) a0) := by
  intro a0 k
  have ih0 := blocks_Cut.mono_l k
  unfold blocks_Cut.f
  repeat' first
      | (with_reducible exact ih0 _ _)
      | (with_reducible exact LeO.refl _)
      | (with_reducible exact LeO.none _)
      | (with_reducible refine LeO.ite ?_ ?_)
      | (with_reducible refine LeO.bind ?_ (fun _ => ?_))
      | exact ih0 _ _
      | exact LeO.none _
      | refine LeO.ite ?_ ?_
      | refine LeO.bind ?_ (fun _ => ?_)
set_option maxHeartbeats 8000000 in
set_option maxRecDepth 100000 in
theorem blocks_Cut.calls (k : Nat) (a0 : ByteArray) (r : List ByteArray) (w : World) (h : blocks_Cut.f k a0 = some r) :
    Calls Try.prog 16 #[.string a0] w fun e w' => ∃ v0_ : Value, e = .returned (v0_) ∧ Kd.R Kd.string 9 w' w.heap.size (fun _ => True) v0_ r ∧ Below w.heap.size w w' := by
  have HB := Aside0.mk (Below.refl w.heap.size w)
  have H : (blocks_Cut.l0 k a0 ([] : List ByteArray)) = some r := h
  clear h
  have H' := Aside0.mk H
  clear H
  go_enter Try.func16, Try.ntmps16
  go_wp2
  go_loopg [0, 3] k (fun kq v0 v3 w' => ∃ (x0_1 : ByteArray) (x3_1 : List ByteArray), v0 = .string x0_1 ∧ Aside0 (blocks_Cut.l0 kq x0_1 x3_1 = some r) ∧ Aside0 (kq ≤ k) ∧ Aside0 (Kd.R Kd.string 9 w' w.heap.size (fun _ => True) v3 x3_1) ∧ Aside0 (Below w.heap.size w w'))
  case atStart => exact ⟨(a0), (([] : List ByteArray)), (by first | rfl | (simp; done) | (simp [*]; done)), H', ⟨Nat.le_refl _⟩, ⟨by first | exact Kd.R_nil _ _ _ _ _ | exact Kd.N_nil _ _ _ _ _ | exact Kd.V_nil _ _ _ _ _ | exact Kd.Q_nil _ _ _ _ _ | exact Kd.S_nil _ _ _ _ _⟩, ⟨by repeat (first | (with_reducible first | exact HB.out | apply below_alloc | apply pw_below_drewN | apply below_drew1) | exact HB.out)⟩⟩
  case round =>
    clear H'
    try clear c1
    obtain ⟨x0_1, x3_1, rfl, HA, HK1, HO_3, HB⟩ := hrel
    cases gk with
    | zero => exact absurd HA.out (by simp [blocks_Cut.l0])
    | succ k1 =>
      have H := HA.out
      clear HA
      simp only [blocks_Cut.l0] at H
      by_cases c2 : (x0_1.size : Int) > 64
      · rw [if_pos c2] at H
        have c2b0 : decide (64 < (x0_1.size : Int)) = true := decide_eq_true c2
        have c2b1 : decide (64 < x0_1.size) = true := decide_eq_true (by omega)
        clear c2
        by_cases c3 : 0 ≤ 64
        · rw [if_pos c3] at H
          have c3b0 := eq_true c3
          have c3b1 : decide (0 ≤ 64) = true := decide_eq_true c3
          clear c3
          by_cases c4 : 64 ≤ (x0_1.size : Int)
          · rw [if_pos c4] at H
            have c4b0 := eq_true c4
            have c4b1 : decide (64 ≤ (x0_1.size : Int)) = true := decide_eq_true c4
            clear c4
            by_cases c5 : x3_1.length < 8796093022208
            · rw [if_pos c5] at H
              have LMc5 := Aside0.mk c5
              clear c5
              obtain ⟨y103, hy103⟩ : ∃ y_ : List ByteArray, y_ = (x3_1 ++ [x0_1.extract 0 64]) := ⟨_, rfl⟩
              replace H : (blocks_Cut.l0 k1 (x0_1.extract 64 x0_1.size) y103) = some r := by first | (rw [hy103]; with_reducible exact H) | (have H2_ := (Option.bind_some _ _).symm.trans H; rw [hy103]; with_reducible exact H2_) | (have H2_ := (Option.bind_some _ _).symm.trans H; with_reducible exact H2_) | with_reducible exact H | (rw [hy103]; exact H) | exact H
              have Ny103 := Aside0.mk hy103
              clear hy103
              have c6b0 := eq_true (of_decide_eq_true (by first | (with_reducible assumption) | assumption) : 64 ≤ (x0_1.size : Int))
              have H' := Aside0.mk H
              clear H
              go_wp2_with (first | ((with_reducible refine gate_builtin (b := .append) (xs := #[.tmp 7, .tmp 10]) rfl ?_); at_builtin; refine Kd.R_append Kd.string (w0 := w) w.heap.size rfl (.tmp 7) (.tmp 10) 35 9 (.string ⟨#[]⟩) 16 rfl Try.underlying35 info9 rfl (by decide) (by omega) u3 x3_1 (x0_1.extract 0 64) [.string (x0_1.extract 0 64)] (fun _ => True) (fun _ => False) rfl rfl ?aP (fun _ hk => hk.elim) ?aF ?aO ?aB ?aS ?aL ?_; (case aP => exact rfl); (case aB => exact (by repeat (first | (with_reducible first | exact HB.out | apply below_alloc | apply pw_below_drewN | apply below_drew1) | exact HB.out))); (case aF => exact (fun _ _ => trivial)); (case aO => exact (by (with_reducible repeat (first | apply Kd.R_alloc | apply Kd.R_drewN | apply Kd.R_drew)); exact HO_3.out)); (case aS => exact (below_size (by repeat (first | (with_reducible first | exact HB.out | apply below_alloc | apply pw_below_drewN | apply below_drew1) | exact HB.out)))); (case aL => have := LMc5.out; omega); intro v104 w7 ho hb hg hat; rw [← Ny103.out] at ho; have n0_ := Aside0.mk (hb); have n1_ := Aside0.mk (ho); clear HB; clear HO_3; have HB := n0_; have HO105 := n1_; clear n0_ n1_; clear ho hb hg hat))
              go_roundg k1
              case measure => have := HK1.out; omega
              case rel => exact ⟨(x0_1.extract 64 x0_1.size), (y103), (by first | rfl | (simp; done) | (simp [*]; done)), H', ⟨by have := HK1.out; omega⟩, ⟨by (with_reducible repeat (first | apply Kd.R_alloc | apply Kd.R_drewN | apply Kd.R_drew)); exact HO105.out⟩, ⟨by repeat (first | (with_reducible first | exact HB.out | apply below_alloc | apply pw_below_drewN | apply below_drew1) | exact HB.out)⟩⟩
            · rw [if_neg c5] at H
              exact absurd H (by simp)
          · rw [if_neg c4] at H
            exact absurd H (by simp)
        · rw [if_neg c3] at H
          exact absurd H (by simp)
      · rw [if_neg c2] at H
        have c2b0 : decide (64 < (x0_1.size : Int)) = false := decide_eq_false c2
        have c2b1 : decide (64 < x0_1.size) = false := decide_eq_false (by omega)
        clear c2
        by_cases c8 : x0_1.toList = ([] : List UInt8)
        · rw [if_pos c8] at H
          have c8b0 : (x0_1.toList == ([] : List UInt8)) = true := beq_iff_eq.mpr c8
          have c8b1 : (x0_1.toList != ([] : List UInt8)) = false := bne_eq_false_iff_eq.mpr c8
          clear c8
          obtain rfl := Option.some.inj H
          go_wp2
          go_ret
          exact ⟨_, by first | rfl | (simp [errW_none, errW_some] <;> rfl) | (simp [*, errW_none, errW_some] <;> rfl), by (with_reducible repeat (first | apply Kd.R_alloc | apply Kd.R_drewN | apply Kd.R_drew)); exact HO_3.out, by repeat (first | (with_reducible first | exact HB.out | apply below_alloc | apply pw_below_drewN | apply below_drew1) | exact HB.out)⟩
        · rw [if_neg c8] at H
          have c8b0 : (x0_1.toList == ([] : List UInt8)) = false := beq_eq_false_iff_ne.mpr c8
          have c8b1 : (x0_1.toList != ([] : List UInt8)) = true := bne_iff_ne.mpr c8
          by_cases c9 : x3_1.length < 8796093022208
          · rw [if_pos c9] at H
            have LMc9 := Aside0.mk c9
            clear c9
            obtain ⟨y106, hy106⟩ : ∃ y_ : List ByteArray, y_ = (x3_1 ++ [x0_1]) := ⟨_, rfl⟩
            replace H : (some y106) = some r := by first | (rw [hy106]; with_reducible exact H) | (have H2_ := (Option.bind_some _ _).symm.trans H; rw [hy106]; with_reducible exact H2_) | (have H2_ := (Option.bind_some _ _).symm.trans H; with_reducible exact H2_) | with_reducible exact H | (rw [hy106]; exact H) | exact H
            have Ny106 := Aside0.mk hy106
            clear hy106
            obtain rfl := Option.some.inj H
            go_wp2_with (first | ((with_reducible refine gate_builtin (b := .append) (xs := #[.tmp 16, .tmp 18]) rfl ?_); at_builtin; refine Kd.R_append Kd.string (w0 := w) w.heap.size rfl (.tmp 16) (.tmp 18) 35 9 (.string ⟨#[]⟩) 16 rfl Try.underlying35 info9 rfl (by decide) (by omega) u3 x3_1 x0_1 [.string x0_1] (fun _ => True) (fun _ => False) rfl rfl ?aP (fun _ hk => hk.elim) ?aF ?aO ?aB ?aS ?aL ?_; (case aP => exact rfl); (case aB => exact (by repeat (first | (with_reducible first | exact HB.out | apply below_alloc | apply pw_below_drewN | apply below_drew1) | exact HB.out))); (case aF => exact (fun _ _ => trivial)); (case aO => exact (by (with_reducible repeat (first | apply Kd.R_alloc | apply Kd.R_drewN | apply Kd.R_drew)); exact HO_3.out)); (case aS => exact (below_size (by repeat (first | (with_reducible first | exact HB.out | apply below_alloc | apply pw_below_drewN | apply below_drew1) | exact HB.out)))); (case aL => have := LMc9.out; omega); intro v107 w10 ho hb hg hat; rw [← Ny106.out] at ho; have n0_ := Aside0.mk (hb); have n1_ := Aside0.mk (ho); clear HB; clear HO_3; have HB := n0_; have HO108 := n1_; clear n0_ n1_; clear ho hb hg hat))
            go_ret
            exact ⟨_, by first | rfl | (simp [errW_none, errW_some] <;> rfl) | (simp [*, errW_none, errW_some] <;> rfl), by (with_reducible repeat (first | apply Kd.R_alloc | apply Kd.R_drewN | apply Kd.R_drew)); exact HO108.out, by repeat (first | (with_reducible first | exact HB.out | apply below_alloc | apply pw_below_drewN | apply below_drew1) | exact HB.out)⟩
          · rw [if_neg c9] at H
            exact absurd H (by simp)

end Go.Proofs.Ythjfjkcjpkapgaa.P
