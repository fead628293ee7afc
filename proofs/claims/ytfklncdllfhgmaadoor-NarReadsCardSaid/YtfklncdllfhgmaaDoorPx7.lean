/- Laid by a program of this session (wip/pr), after the printer of the kit: the functions that a statement reaches as plain Lean functions, and that the calls of the machine come to them. No condition. -/
import Derived.Test.YtfklncdllfhgmaaDoorPx0
namespace Go.Proofs.YtfklncdllfhgmaaDoor.P
open Go.RowKit Go.Proofs.YtfklncdllfhgmaaDoorX Go.Proofs.YtfklncdllfhgmaaDoorW.PrintWords Go.Proofs.YtfklncdllfhgmaaDoorW.PrintLast Go.Proofs.YtfklncdllfhgmaaDoorW.PrintMore
attribute [local go_sem] max2_int min2_int max_two min_two max_three min_three max_four min_four   -- for this text's walks alone
set_option linter.unusedVariables false
set_option linter.unusedSimpArgs false

/-! ### hogsheadlaw0_SameBytes: function 15 -/
def hogsheadlaw0_SameBytes.l0 : Nat → List Int → List Int → Int → Option (Bool)
  | 0, _, _, _ => none
  | k + 1, x0, x1, x5 => if x5 < (x0.length : Int) then (if 0 ≤ x5 then (if x5 < (x1.length : Int) then (if (rd x0 x5) = (rd x1 x5) then (hogsheadlaw0_SameBytes.l0 k x0 x1 (wrap64 (x5 + 1))) else (some false)) else (none)) else (none)) else (some true)
def hogsheadlaw0_SameBytes.f (k : Nat) (l0 : List Int) (l1 : List Int) : Option (Bool) := if (l0.length : Int) = (l1.length : Int) then (hogsheadlaw0_SameBytes.l0 k l0 l1 0) else (some false)
theorem hogsheadlaw0_SameBytes.mono_l : ∀ k, (∀ y0 y1 y2, LeO (hogsheadlaw0_SameBytes.l0 k y0 y1 y2) (hogsheadlaw0_SameBytes.l0 (k + 1) y0 y1 y2))
  | 0 => fun _ _ _ r h => by simp [hogsheadlaw0_SameBytes.l0] at h
  | k + 1 => by
    have ih0 := hogsheadlaw0_SameBytes.mono_l k
    · intro y0 y1 y2
      unfold hogsheadlaw0_SameBytes.l0
      repeat' first
      | (with_reducible exact ih0 _ _ _)
      | (with_reducible exact LeO.refl _)
      | (with_reducible exact LeO.none _)
      | (with_reducible refine LeO.ite ?_ ?_)
      | (with_reducible refine LeO.bind ?_ (fun _ => ?_))
      | exact ih0 _ _ _
      | exact LeO.none _
      | refine LeO.ite ?_ ?_
      | refine LeO.bind ?_ (fun _ => ?_)
theorem hogsheadlaw0_SameBytes.mono : ∀ a0 a1 k, LeO (hogsheadlaw0_SameBytes.f k a0 a1) (hogsheadlaw0_SameBytes.f (k + 1) a0 a1) := by
  intro a0 a1 k
  have ih0 := hogsheadlaw0_SameBytes.mono_l k
  unfold hogsheadlaw0_SameBytes.f
  repeat' first
      | (with_reducible exact ih0 _ _ _)
      | (with_reducible exact LeO.refl _)
      | (with_reducible exact LeO.none _)
      | (with_reducible refine LeO.ite ?_ ?_)
      | (with_reducible refine LeO.bind ?_ (fun _ => ?_))
      | exact ih0 _ _ _
      | exact LeO.none _
      | refine LeO.ite ?_ ?_
      | refine LeO.bind ?_ (fun _ => ?_)
set_option maxHeartbeats 8000000 in
set_option maxRecDepth 100000 in
theorem hogsheadlaw0_SameBytes.calls (k : Nat) (A0 : Option Addr) (c0 : Nat) (l0 : List Int) (A1 : Option Addr) (c1 : Nat) (l1 : List Int) (r : Bool) (w : World) (hr0 : Kd.C (Kd.int .u8) w A0 l0.length l0) (hc0 : l0.length ≤ c0) (hr1 : Kd.C (Kd.int .u8) w A1 l1.length l1) (hc1 : l1.length ≤ c1) (h : hogsheadlaw0_SameBytes.f k l0 l1 = some r) :
    Calls Tryd.prog 15 #[.slice A0 l0.length c0, .slice A1 l1.length c1] w fun e w' => e = .returned (.bool r) ∧ Drawn0 w w' := by
  have HR0 := Aside0.mk hr0
  have HC0 := Aside0.mk hc0
  clear hr0 hc0
  have HR1 := Aside0.mk hr1
  have HC1 := Aside0.mk hc1
  clear hr1 hc1
  have H : (if (l0.length : Int) = (l1.length : Int) then (hogsheadlaw0_SameBytes.l0 k l0 l1 0) else (some false)) = some r := h
  clear h
  by_cases c3 : (l0.length : Int) = (l1.length : Int)
  · rw [if_pos c3] at H
    have c3b0 : ((l0.length : Int) == (l1.length : Int)) = true := beq_iff_eq.mpr c3
    have c3b1 : ((l0.length : Int) != (l1.length : Int)) = false := bne_eq_false_iff_eq.mpr c3
    have c3b2 : (l0.length == l1.length) = true := by first | simpa using c3 | (simp at c3 ⊢; omega)
    clear c3
    have H' := Aside0.mk H
    clear H
    go_enter Tryd.func15, Tryd.ntmps15
    go_wp2
    repeat (go_quiet (fail); try go_wp2)
    go_loopg [5] k (fun kq v5 w' => ∃ (x5_1 : Int), v5 = .int .i64 x5_1 ∧ Aside0 (hogsheadlaw0_SameBytes.l0 kq l0 l1 x5_1 = some r) ∧ Aside0 (kq ≤ k) ∧ Drawn0 w w')
    case atStart => exact ⟨(0), (by first | rfl | (simp; done) | (simp [*]; done)), H', ⟨Nat.le_refl _⟩, by repeat (first | exact Drawn0.refl _ | apply Drawn0.step)⟩
    case round =>
      clear H'
      try clear c1
      try clear p2
      try clear c3
      try clear c3b0
      try clear c3b1
      try clear c3b2
      obtain ⟨x5_1, rfl, HA, HK1, ⟨m1, rfl⟩⟩ := hrel
      cases gk with
      | zero => exact absurd HA.out (by simp [hogsheadlaw0_SameBytes.l0])
      | succ k1 =>
        have H := HA.out
        clear HA
        simp only [hogsheadlaw0_SameBytes.l0] at H
        by_cases c4 : x5_1 < (l0.length : Int)
        · rw [if_pos c4] at H
          have c4b0 : decide (x5_1 < (l0.length : Int)) = true := decide_eq_true c4
          clear c4
          by_cases c5 : 0 ≤ x5_1
          · rw [if_pos c5] at H
            have c5b0 : decide (0 ≤ x5_1) = true := decide_eq_true c5
            clear c5
            by_cases c6 : x5_1 < (l1.length : Int)
            · rw [if_pos c6] at H
              have c6b0 : decide (x5_1 < (l1.length : Int)) = true := decide_eq_true c6
              clear c6
              by_cases c7 : (rd l0 x5_1) = (rd l1 x5_1)
              · rw [if_pos c7] at H
                have c7b0 : ((rd l0 x5_1) == (rd l1 x5_1)) = true := beq_iff_eq.mpr c7
                have c7b1 : ((rd l0 x5_1) != (rd l1 x5_1)) = false := bne_eq_false_iff_eq.mpr c7
                clear c7
                have H' := Aside0.mk H
                clear H
                have p160 : 0 ≤ (x5_1 : Int) := of_decide_eq_true (by first | (with_reducible assumption) | assumption)
                have q160 : x5_1 < (l0.length : Int) := of_decide_eq_true (by first | (with_reducible assumption) | assumption)
                obtain ⟨ad160, e160, hx160_0⟩ := Kd.at_int HR0.out x5_1 p160 q160
                cases e160
                replace p160 := eq_true p160
                replace q160 := eq_true q160
                have p161 : 0 ≤ (x5_1 : Int) := of_decide_eq_true (by first | (with_reducible assumption) | assumption)
                have q161 : x5_1 < (l1.length : Int) := of_decide_eq_true (by first | (with_reducible assumption) | assumption)
                obtain ⟨ad161, e161, hx161_0⟩ := Kd.at_int HR1.out x5_1 p161 q161
                cases e161
                replace p161 := eq_true p161
                replace q161 := eq_true q161
                go_wp2
                repeat (go_quiet (fail); try go_wp2)
                go_roundg k1
                case measure => have := HK1.out; omega
                case rel => exact ⟨(wrap64 (x5_1 + 1)), (by first | rfl | (simp; done) | (simp [*]; done)), H', ⟨by have := HK1.out; omega⟩, by repeat (first | exact Drawn0.refl _ | apply Drawn0.step)⟩
              · rw [if_neg c7] at H
                have c7b0 : ((rd l0 x5_1) == (rd l1 x5_1)) = false := beq_eq_false_iff_ne.mpr c7
                have c7b1 : ((rd l0 x5_1) != (rd l1 x5_1)) = true := bne_iff_ne.mpr c7
                obtain rfl := Option.some.inj H
                have p160 : 0 ≤ (x5_1 : Int) := of_decide_eq_true (by first | (with_reducible assumption) | assumption)
                have q160 : x5_1 < (l0.length : Int) := of_decide_eq_true (by first | (with_reducible assumption) | assumption)
                obtain ⟨ad160, e160, hx160_0⟩ := Kd.at_int HR0.out x5_1 p160 q160
                cases e160
                replace p160 := eq_true p160
                replace q160 := eq_true q160
                have p161 : 0 ≤ (x5_1 : Int) := of_decide_eq_true (by first | (with_reducible assumption) | assumption)
                have q161 : x5_1 < (l1.length : Int) := of_decide_eq_true (by first | (with_reducible assumption) | assumption)
                obtain ⟨ad161, e161, hx161_0⟩ := Kd.at_int HR1.out x5_1 p161 q161
                cases e161
                replace p161 := eq_true p161
                replace q161 := eq_true q161
                go_wp2
                repeat (go_quiet (fail); try go_wp2)
                go_ret
                exact ⟨by first | rfl | (simp; done) | (simp [*]; done), by repeat (first | exact Drawn0.refl _ | apply Drawn0.step)⟩
            · rw [if_neg c6] at H
              exact absurd H (by simp)
          · rw [if_neg c5] at H
            exact absurd H (by simp)
        · rw [if_neg c4] at H
          have c4b0 : decide (x5_1 < (l0.length : Int)) = false := decide_eq_false c4
          clear c4
          obtain rfl := Option.some.inj H
          go_wp2
          repeat (go_quiet (fail); try go_wp2)
          go_ret
          exact ⟨by first | rfl | (simp; done) | (simp [*]; done), by repeat (first | exact Drawn0.refl _ | apply Drawn0.step)⟩
  · rw [if_neg c3] at H
    have c3b0 : ((l0.length : Int) == (l1.length : Int)) = false := beq_eq_false_iff_ne.mpr c3
    have c3b1 : ((l0.length : Int) != (l1.length : Int)) = true := bne_iff_ne.mpr c3
    have c3b2 : (l0.length == l1.length) = false := by first | simpa using c3 | (simp at c3 ⊢; omega)
    obtain rfl := Option.some.inj H
    go_enter Tryd.func15, Tryd.ntmps15
    go_wp2
    repeat (go_quiet (fail); try go_wp2)
    go_ret
    exact ⟨by first | rfl | (simp; done) | (simp [*]; done), by repeat (first | exact Drawn0.refl _ | apply Drawn0.step)⟩

/-- A state of type 54 at block g of W; what its slices lead to came in by w0. -/
def IsS54 (w0 W : World) (g : Nat) (f0 : List Int) (f1 : Bool) : Prop := ∃ A0 c0, W.heap[g]? = some (.cells #[.slice A0 f0.length c0, .bool f1] 54 (0, 0)) ∧ w0.heap.size ≤ g ∧ (Kd.C (Kd.int .u8) w0 A0 f0.length f0 ∧ f0.length ≤ c0)
theorem IsS54.grown {w0 W : World} {g : Nat} {f0 : List Int} {f1 : Bool} {W1 : World} {row : Option Nat} (h : IsS54 w0 W g f0 f1) (hw : W.grownBy W1 row) (hne : some g ≠ row) : IsS54 w0 W1 g f0 f1 := by
  obtain ⟨A0, c0, hb, hg, hr0⟩ := h
  exact ⟨A0, c0, blk_grown hb hw hne, hg, hr0⟩
theorem IsS54.own_neN {w0 W : World} {g : Nat} {f0 : List Int} {f1 : Bool} {α : Type} {d : Kd α} {e : Nat} {base : Nat} {ok : Nat → Prop} {v : Value} {xs : List α} (h : IsS54 w0 W g f0 f1) (ho : Kd.N d e W base ok v xs) (ht : e ≠ 54) : some g ≠ v.ownBlock := by
  obtain ⟨A0, c0, hb, hg, hr0⟩ := h
  exact Kd.N_ne ho hb ht
theorem IsS54.fresh {w0 W : World} {g : Nat} {f0 : List Int} {f1 : Bool} (h : IsS54 w0 W g f0 f1) : ∀ k, W.heap.size ≤ k → k ≠ g := by
  obtain ⟨A0, c0, hb, hg, hr0⟩ := h
  exact Kd.freshB hb
theorem IsS54.kept {w0 W : World} {g : Nat} {f0 : List Int} {f1 : Bool} {W1 : World} {S : Nat → Prop} (h : IsS54 w0 W g f0 f1) (hk : Kept W W1 S) (hne : ¬ S g) : IsS54 w0 W1 g f0 f1 := by
  obtain ⟨A0, c0, hb, hg, hr0⟩ := h
  exact ⟨A0, c0, blk_kept hb hk hne, hg, hr0⟩
theorem IsS54.below {w0 W : World} {g : Nat} {f0 : List Int} {f1 : Bool} {W1 : World} (h : IsS54 w0 W g f0 f1) (hw : Below W.heap.size W W1) : IsS54 w0 W1 g f0 f1 := h.grown (grown_of_below hw none) (by simp)
theorem IsS54.alloc {w0 W : World} {g : Nat} {f0 : List Int} {f1 : Bool} (h : IsS54 w0 W g f0 f1) (o : Obj) : IsS54 w0 (W.alloc o) g f0 f1 := h.below (below_alloc (Below.refl _ _) o)
theorem IsS54.drewN {w0 W : World} {g : Nat} {f0 : List Int} {f1 : Bool} (h : IsS54 w0 W g f0 f1) (m : Nat) : IsS54 w0 (W.drewN m) g f0 f1 := h
theorem IsS54.drew {w0 W : World} {g : Nat} {f0 : List Int} {f1 : Bool} (h : IsS54 w0 W g f0 f1) : IsS54 w0 W.drew g f0 f1 := h
theorem IsS54.at_ {w0 W : World} {g : Nat} {f0 : List Int} {f1 : Bool} {w' : World} {m : Nat} (hq : W.drewN m = w') (h : IsS54 w0 W g f0 f1) : IsS54 w0 w' g f0 f1 := by subst hq; exact IsS54.drewN h m
theorem IsS54.apart {w0 W : World} {g : Nat} {f0 : List Int} {f1 : Bool} {α : Type} {d : Kd α} {e : Nat} {base : Nat} {ok : Nat → Prop} {v : Value} {xs : List α} (h : IsS54 w0 W g f0 f1) (ho : d.R e W base ok v xs) (ht : ∀ q, q ∈ e :: d.E → q ≠ 54) : d.R e W base (fun k => ok k ∧ k ≠ g) v xs := by
  obtain ⟨A0, c0, hb, hg, hr0⟩ := h
  exact Kd.R_types ho hb ht
theorem IsS54.own_ne {w0 W : World} {g : Nat} {f0 : List Int} {f1 : Bool} {α : Type} {d : Kd α} {e : Nat} {base : Nat} {ok : Nat → Prop} {v : Value} {xs : List α} (h : IsS54 w0 W g f0 f1) (ho : d.R e W base ok v xs) (ht : e ≠ 54) : some g ≠ v.ownBlock := by
  obtain ⟨A0, c0, hb, hg, hr0⟩ := h
  exact Kd.R_ne ho hb ht
theorem IsS54.apartQ {w0 W : World} {g : Nat} {f0 : List Int} {f1 : Bool} {α : Type} {d : Kd α} {e : Nat} {base : Nat} {ok : Nat → Prop} {v : Value} {xs : List α} (h : IsS54 w0 W g f0 f1) (ho : d.Q e W base ok v xs) (ht : ∀ q, q ∈ e :: d.E → q ≠ 54) : d.Q e W base (fun k => ok k ∧ k ≠ g) v xs := by
  obtain ⟨A0, c0, hb, hg, hr0⟩ := h
  exact Kd.Q_types ho hb ht
theorem IsS54.own_neQ {w0 W : World} {g : Nat} {f0 : List Int} {f1 : Bool} {α : Type} {d : Kd α} {e : Nat} {base : Nat} {ok : Nat → Prop} {v : Value} {xs : List α} (h : IsS54 w0 W g f0 f1) (ho : d.Q e W base ok v xs) (ht : e ≠ 54) : some g ≠ v.ownBlock := by
  obtain ⟨A0, c0, hb, hg, hr0⟩ := h
  exact Kd.Q_ne ho hb ht
theorem IsS54.apartS {w0 W : World} {g : Nat} {f0 : List Int} {f1 : Bool} {α : Type} {d : Kd α} {e : Nat} {base : Nat} {ok : Nat → Prop} {v : Value} {xs : List α} (h : IsS54 w0 W g f0 f1) (ho : d.S e W base ok v xs) (ht : ∀ q, q ∈ e :: d.E → q ≠ 54) : d.S e W base (fun k => ok k ∧ k ≠ g) v xs := by
  obtain ⟨A0, c0, hb, hg, hr0⟩ := h
  exact Kd.S_types ho hb ht
theorem IsS54.own_neS {w0 W : World} {g : Nat} {f0 : List Int} {f1 : Bool} {α : Type} {d : Kd α} {e : Nat} {base : Nat} {ok : Nat → Prop} {v : Value} {xs : List α} (h : IsS54 w0 W g f0 f1) (ho : d.S e W base ok v xs) (ht : e ≠ 54) : some g ≠ v.ownBlock := by
  obtain ⟨A0, c0, hb, hg, hr0⟩ := h
  exact Kd.S_ne ho hb ht
theorem IsS54.lt {w0 W : World} {g : Nat} {f0 : List Int} {f1 : Bool} (h : IsS54 w0 W g f0 f1) : g < W.heap.size := by
  obtain ⟨A0, c0, hb, hg, hr0⟩ := h
  exact blk_lt hb
theorem IsS54.ge {w0 W : World} {g : Nat} {f0 : List Int} {f1 : Bool} (h : IsS54 w0 W g f0 f1) : w0.heap.size ≤ g := by
  obtain ⟨A0, c0, hb, hg, hr0⟩ := h
  exact hg
theorem IsS54.ne_blk {w0 W : World} {g : Nat} {f0 : List Int} {f1 : Bool} {a : Nat} {cs : Array Value} {t : TypeId} {fr : Nat × Nat} (h : IsS54 w0 W g f0 f1) (hb2 : W.heap[a]? = some (.cells cs t fr)) (ht : t ≠ 54) : g ≠ a := by
  obtain ⟨A0, c0, hb, hg, hr0⟩ := h
  rintro rfl
  rw [hb] at hb2
  injection hb2 with hb2
  injection hb2 with _ ht2
  exact ht ht2.symm
theorem IsS54.far {w0 W : World} {g : Nat} {f0 : List Int} {f1 : Bool} {p : Addr} (h : IsS54 w0 W g f0 f1) (hne : g ≠ p.block) (u : Value) : IsS54 w0 (W.setCell p u) g f0 f1 := by
  obtain ⟨A0, c0, hb, hg, hr0⟩ := h
  exact ⟨A0, c0, blk_far hb hne u, hg, hr0⟩
theorem cellS54_0 {W : World} {g : Nat} {A0 : Option Addr} {c0 : Nat} {f0 : List Int} {f1 : Bool} (h : W.heap[g]? = some (.cells #[.slice A0 f0.length c0, .bool f1] 54 (0, 0))) : W.cell? ⟨g, 0, none⟩ = some (.slice A0 f0.length c0) := (blk_cell h 0).trans rfl
theorem cellS54_1 {W : World} {g : Nat} {A0 : Option Addr} {c0 : Nat} {f0 : List Int} {f1 : Bool} (h : W.heap[g]? = some (.cells #[.slice A0 f0.length c0, .bool f1] 54 (0, 0))) : W.cell? ⟨g, 1, none⟩ = some (.bool f1) := (blk_cell h 1).trans rfl
theorem IsS54.set_1 {w0 W : World} {g : Nat} {f0 : List Int} {f1 : Bool} (h : IsS54 w0 W g f0 f1) (x : Bool) : IsS54 w0 (W.setCell ⟨g, 1, none⟩ (.bool x)) g f0 x := by
  obtain ⟨A0, c0, hb, hg, hr0⟩ := h
  exact ⟨A0, c0, by simpa using blk_set hb 1 (.bool x), hg, hr0⟩
theorem IsS54.new (w0 W : World) (A0 : Option Addr) (c0 : Nat) (f0 : List Int) (f1 : Bool) (hB : Below w0.heap.size w0 W) (hr0 : (Kd.C (Kd.int .u8) w0 A0 f0.length f0 ∧ f0.length ≤ c0)) : IsS54 w0 (W.alloc (.cells #[.slice A0 f0.length c0, .bool f1] 54)) W.heap.size f0 f1 := ⟨A0, c0, by simpa using heap_alloc_new W _, hB.size, hr0⟩

-- (a state that is made)
/-- What a reader's take comes to: what is read, what is left, whether it has met what may not be. -/
def tk (n : Int) (xs : List Int) (bad : Bool) : List Int × List Int × Bool := if bad = true ∨ n < 0 ∨ (xs.length : Int) < n then ([], xs, true) else (xs.take n.toNat, xs.drop n.toNat, false)
/-- What a call of a reader's take leaves. -/
def TakeP (w0 w : World) (g : Nat) (r : List Int × List Int × Bool) (e : Ending) (w' : World) : Prop :=
  (∃ A c, e = .returned (.slice A r.1.length c) ∧ Kd.C (Kd.int .u8) w0 A r.1.length r.1) ∧ IsS54 w0 w' g r.2.1 r.2.2 ∧ Below w0.heap.size w0 w' ∧ KeepBut w w' g none
theorem rd_take_calls (g : Nat) (n : Int) (xs : List Int) (bad : Bool) (w0 w : World) (hI : IsS54 w0 w g xs bad) (hB : Below w0.heap.size w0 w) :
    Calls Tryd.prog 37 #[.pointer (some ⟨g, 0, none⟩), .int .i64 n] w (TakeP w0 w g (tk n xs bad)) := by
  have HI := Aside0.mk hI
  obtain ⟨A0, c0, hb, hg, hr, hlc⟩ := hI
  have hm : xs.length ≤ 9223372036854775807 := hr.2.1
  have HR := Aside0.mk hr
  have HB := Aside0.mk hB
  have HG := Aside0.mk hg
  have BK := Aside0.mk hb
  clear hr hB hg
  have hc0 : w.cell? ⟨g, 0, none⟩ = some (.slice A0 xs.length c0) := (blk_cell hb 0).trans rfl
  have hc1 : w.cell? ⟨g, 1, none⟩ = some (.bool bad) := (blk_cell hb 1).trans rfl
  have hf0 : w.frozen? ⟨g, 0, none⟩ = false := blk_frozen hb 0
  have hf1 : w.frozen? ⟨g, 1, none⟩ = false := blk_frozen hb 1
  clear hb
  by_cases hbad : bad = true ∨ n < 0 ∨ (xs.length : Int) < n
  · have e : tk n xs bad = ([], xs, true) := if_pos hbad
    rw [e]
    clear e
    have c3 : bad = true ∨ (bad = false ∧ decide (n < 0) = true) ∨ (bad = false ∧ decide (n < 0) = false ∧ decide ((xs.length : Int) < n) = true) := by
      cases bad
      · by_cases h : n < 0
        · exact .inr (.inl ⟨rfl, decide_eq_true h⟩)
        · exact .inr (.inr ⟨rfl, decide_eq_false h, decide_eq_true (hbad.elim (fun h' => absurd h' (by simp)) (fun h' => h'.elim (fun h' => absurd h' h) id))⟩)
      · exact .inl rfl
    clear hbad
    rcases c3 with rfl | ⟨rfl, c1⟩ | ⟨rfl, c1, c2⟩
    all_goals
      go_enter Tryd.func37, Tryd.ntmps37
      go_wp2
      go_ret
      exact ⟨⟨none, 0, rfl, Kd.C_nil _ _⟩, IsS54.set_1 HI.out true, below_set HB.out HG.out, (KeepBut.refl w g none).set_ 1 _⟩
  · have e : tk n xs bad = (xs.take n.toNat, xs.drop n.toNat, false) := if_neg hbad
    rw [e]
    clear e
    have hb0 : bad = false := by
      cases bad
      · rfl
      · exact absurd (Or.inl rfl) hbad
    have hn0 : 0 ≤ n := Int.not_lt.1 (fun h => hbad (.inr (.inl h)))
    have hnl : n ≤ (xs.length : Int) := Int.not_lt.1 (fun h => hbad (.inr (.inr h)))
    clear hbad
    subst hb0
    obtain ⟨m, rfl⟩ := Int.eq_ofNat_of_zero_le hn0
    have hml : m ≤ xs.length := by omega
    have hmc : m ≤ c0 := by omega
    have c1 : decide ((m : Int) < 0) = false := decide_eq_false (by omega)
    have c2 : decide ((xs.length : Int) < (m : Int)) = false := decide_eq_false (by omega)
    have hlen : (xs.take m).length = m := by rw [List.length_take]; omega
    go_enter Tryd.func37, Tryd.ntmps37
    have HM := Aside0.mk hml
    have HLC := Aside0.mk hlc
    have HCT := Aside0.mk (Kd.C_take HR.out hml)
    have HCD := Aside0.mk (Kd.C_drop HR.out hml hlc)
    rw [Int.toNat_natCast]
    have HLEN := Aside0.mk hlen
    clear hml hlc hlen
    by_cases hq : c0 = m
    · go_wp2
      go_ret
      refine ⟨⟨A0, _, by rw [HLEN.out]; rfl, HCT.out⟩, ?_, below_set HB.out HG.out, (KeepBut.refl w g none).set_ 0 _⟩
      have hd := HCD.out
      rw [if_pos hq] at hd
      refine ⟨_, _, by rw [List.length_drop]; exact blk_put BK.out 0 _ rfl, HG.out, hd, ?_⟩
      have := HLC.out
      rw [List.length_drop]
      omega
    · go_wp2
      go_ret
      refine ⟨⟨A0, _, by rw [HLEN.out]; rfl, HCT.out⟩, ?_, below_set HB.out HG.out, (KeepBut.refl w g none).set_ 0 _⟩
      have hd := HCD.out
      rw [if_neg hq] at hd
      refine ⟨_, _, by rw [List.length_drop]; exact blk_put BK.out 0 _ rfl, HG.out, by simpa [show (Kd.int .u8).sz = 1 from rfl] using hd, ?_⟩
      have := HLC.out
      rw [List.length_drop]
      omega

/-- Bytes as a number, the first one the greatest. -/
def num64 (l : List Int) : Int := l.foldl (fun n x => Go.bits .or .u64 (IntKind.u64.wrap (n * 256)) (IntKind.u64.wrap x)) 0
theorem num64_snoc (l : List Int) (x : Int) : num64 (l ++ [x]) = Go.bits .or .u64 (IntKind.u64.wrap (num64 l * 256)) (IntKind.u64.wrap x) := by unfold num64; rw [List.foldl_append]; rfl
def nar_reader_num.f (s0_0 : List Int) (s0_1 : Bool) : Option (Int × List Int × Bool) := some (wrap64 (num64 (tk 8 s0_0 s0_1).1), (tk 8 s0_0 s0_1).2.1, (tk 8 s0_0 s0_1).2.2)
theorem take_snocI (l : List Int) (i : Nat) (h : i < l.length) : l.take (i + 1) = l.take i ++ [rd l (i : Int)] := by
  rw [List.take_add_one, List.getElem?_eq_getElem h]
  unfold rd
  rw [Int.toNat_natCast, List.getD_eq_getElem?_getD, List.getElem?_eq_getElem h]
  rfl
set_option maxHeartbeats 1000000 in
theorem nar_reader_num.calls (g : Nat) (s0_0 : List Int) (s0_1 : Bool) (r1 : Int) (r2 : List Int) (r3 : Bool) (w0 w : World) (hI : IsS54 w0 w g s0_0 s0_1) (hB : Below w0.heap.size w0 w) (h : nar_reader_num.f s0_0 s0_1 = some (r1, r2, r3)) :
    Calls Tryd.prog 30 #[.pointer (some ⟨g, 0, none⟩)] w fun e w' => e = .returned (.int .i64 r1) ∧ IsS54 w0 w' g r2 r3 ∧ Below w0.heap.size w0 w' ∧ KeepBut w w' g none := by
  unfold nar_reader_num.f at h
  have hc := rd_take_calls g 8 s0_0 s0_1 w0 w hI hB
  generalize tk 8 s0_0 s0_1 = t at h hc
  obtain ⟨l, xs', bad'⟩ := t
  injection h with h
  simp only [Prod.mk.injEq] at h
  obtain ⟨h1, rfl, rfl⟩ := h
  have H1 := Aside0.mk h1
  clear h1 hI hB
  go_enter Tryd.func30, Tryd.ntmps30
  go_wp2_with (go_at_call 37; refine hc.mono ?_; rintro e w1 ⟨⟨A, c, rfl, hr⟩, hi, hb, hk⟩; have HI := Aside0.mk hi; have HB := Aside0.mk hb; have HK := Aside0.mk hk; have HR := Aside0.mk hr; clear hi hb hk hr hc)
  go_loop [3, 9] (fun v3 v9 => ∃ i : Nat, i ≤ l.length ∧ v9 = .int .i64 i ∧ v3 = .int .u64 (num64 (l.take i))) (fun _ v9 => l.length - (intOf v9).toNat)
  case atStart => exact ⟨0, Nat.zero_le _, rfl, rfl⟩
  case round =>
    obtain ⟨i, hi, rfl, rfl⟩ := hrel
    have hm : l.length ≤ 9223372036854775807 := HR.out.2.1
    by_cases hlt : i < l.length
    · have c1 : decide ((i : Int) < (l.length : Int)) = true := decide_eq_true (by omega)
      have c2 : (0 ≤ (i : Int)) = True := eq_true (by omega)
      have c3 : ((i : Int) < (l.length : Int)) = True := eq_true (by omega)
      obtain ⟨ad, e1, hx⟩ := Kd.at_int HR.out (i : Int) (by omega) (by omega)
      have hx1 := (HB.out.cell (World.block_lt_of_cell? w0 _ hx)).trans hx
      rw [Int.toNat_natCast] at hx1
      have HS := Aside0.mk (take_snocI l i hlt)
      clear hx
      subst e1
      go_wp2
      go_round
      case rel => exact ⟨i + 1, by omega, by go_num, by rw [HS.out, num64_snoc]⟩
      case measure => simp [intOf]; omega
    · have c1 : decide ((i : Int) < (l.length : Int)) = false := decide_eq_false (by omega)
      go_wp2
      go_ret
      exact ⟨by rw [← H1.out]; have : l.take i = l := List.take_of_length_le (by omega); rw [this]; rfl, HI.out, HB.out, HK.out⟩

/-- How many bytes fill up the last eight. -/
def padOf (s : ByteArray) : Int := -((s.size : Int) % 8) % 8
def nar_reader_text.f (s0_0 : List Int) (s0_1 : Bool) : Option (ByteArray × List Int × Bool) :=
  (nar_reader_num.f s0_0 s0_1).bind fun a => if (tk a.1 a.2.1 a.2.2).1.length ≤ 9223372036854775807 then some (strOfNums (tk a.1 a.2.1 a.2.2).1, (tk (padOf (strOfNums (tk a.1 a.2.1 a.2.2).1)) (tk a.1 a.2.1 a.2.2).2.1 (tk a.1 a.2.1 a.2.2).2.2).2.1,
    (tk (padOf (strOfNums (tk a.1 a.2.1 a.2.2).1)) (tk a.1 a.2.1 a.2.2).2.1 (tk a.1 a.2.1 a.2.2).2.2).2.2 || (tk (padOf (strOfNums (tk a.1 a.2.1 a.2.2).1)) (tk a.1 a.2.1 a.2.2).2.1 (tk a.1 a.2.1 a.2.2).2.2).1.any (fun x => x != 0)) else none
theorem rd_text1_calls (x : Int) (w : World) : Calls Tryd.prog 39 #[.int .u8 x] w fun e w' => e = .returned (.bool (x != 0)) ∧ w' = w := by
  go_enter Tryd.func39, Tryd.ntmps39
  go_wp2
  go_ret
  exact ⟨rfl, rfl⟩
theorem rd_text1_calls' (x : Int) (w : World) : Calls Tryd.prog 39 (#[.int .u8 x] ++ #[]) w fun e w' => e = .returned (.bool (x != 0)) ∧ w' = w := by
  have := rd_text1_calls x w
  simpa using this
set_option maxHeartbeats 1000000 in
theorem nar_reader_text.calls (g : Nat) (s0_0 : List Int) (s0_1 : Bool) (r1 : ByteArray) (r2 : List Int) (r3 : Bool) (w0 w : World) (hI : IsS54 w0 w g s0_0 s0_1) (hB : Below w0.heap.size w0 w) (h : nar_reader_text.f s0_0 s0_1 = some (r1, r2, r3)) :
    Calls Tryd.prog 29 #[.pointer (some ⟨g, 0, none⟩)] w fun e w' => e = .returned (.string r1) ∧ IsS54 w0 w' g r2 r3 ∧ Below w0.heap.size w0 w' ∧ KeepBut w w' g none := by
  unfold nar_reader_text.f at h
  obtain ⟨⟨n, xs1, b1⟩, h1, h⟩ := Option.bind_eq_some_iff.mp h
  simp only at h
  have hc1 := nar_reader_num.calls g s0_0 s0_1 n xs1 b1 w0 w hI hB h1
  have hc2 := fun W hi hb => rd_take_calls g n xs1 b1 w0 W hi hb
  generalize tk n xs1 b1 = t at h hc2
  obtain ⟨l, xs2, b2⟩ := t
  simp only at h hc2
  by_cases hl : l.length ≤ 9223372036854775807
  case neg => rw [if_neg hl] at h; cases h
  rw [if_pos hl] at h
  obtain ⟨s, hs⟩ : ∃ s, strOfNums l = s := ⟨_, rfl⟩
  rw [hs] at h
  have hsz : s.size ≤ 9223372036854775807 := by rw [← hs, show (strOfNums l).size = l.length by simp [strOfNums, ByteArray.size]]; exact hl
  have hc3 := fun W hi hb => rd_take_calls g (padOf s) xs2 b2 w0 W hi hb
  generalize tk (padOf s) xs2 b2 = t at h hc3
  obtain ⟨l3, xs3, b3⟩ := t
  simp only at h hc3
  injection h with h
  simp only [Prod.mk.injEq] at h
  obtain ⟨rfl, rfl, h3⟩ := h
  have H3 := Aside0.mk h3
  have HS := Aside0.mk hs
  have HC2 := Aside0.mk hc2
  have HC3 := Aside0.mk hc3
  clear h3 hs hc2 hc3 hI hB h1
  have eg : ∀ args w, (callFunc 39 args).run Tryd.prog w = .ok (.enter 39 args) w := enters_of Tryd.func39 (by kernel_rfl) rfl
  clear h
  cases b3
  all_goals
   go_enter Tryd.func29, Tryd.ntmps29
   go_wp2_with (first | (go_at_call 30; refine hc1.mono ?_; rintro e w1 ⟨rfl, hi, hb, hk⟩; have HI1 := Aside0.mk hi; have HB1 := Aside0.mk hb; have HK1 := Aside0.mk hk; clear hi hb hk hc1) | (go_at_call 37; refine (HC2.out w1 HI1.out HB1.out).mono ?_; rintro e w2 ⟨⟨A2, c2, rfl, hr⟩, hi, hb, hk⟩; have HI2 := Aside0.mk hi; have HB2 := Aside0.mk hb; have HK2 := Aside0.mk (HK1.out.trans hk (.inl rfl)); have HR2 := Aside0.mk hr; have hcv : (convert 22 9 (.slice A2 l.length c2)).run Tryd.prog w2 = .ok (.string s) w2 := (Kd.C_string Tryd.underlying22 Tryd.underlying5 Tryd.underlying9 (Kd.C_below HR2.out HB2.out)).trans (congrArg (fun z => Result.ok (Value.string z) w2) HS.out); clear hi hb hk hr HI1 HB1 HK1) | (go_at_call 37; refine (HC3.out w2 HI2.out HB2.out).mono ?_; rintro e w3 ⟨⟨A3, c3, rfl, hr⟩, hi, hb, hk⟩; have HI3 := Aside0.mk hi; have HB3 := Aside0.mk hb; have HK3 := Aside0.mk (HK2.out.trans hk (.inl rfl)); have HR3 := Aside0.mk hr; obtain ⟨A4, c4, hb4, hg4, hr4⟩ := hi; have hx1 := (blk_cell hb4 1).trans rfl; have hf1 := blk_frozen hb4 1; have HG4 := Aside0.mk hg4; clear hb hk hr HI2 HB2 HK2 hcv hb4 hg4 hr4) | (go_at_call 38; (refine (fn_ContainsFunc (fun x => x != 0) 39 #[] eg A3 l3.length c3 l3 _ (Kd.C_below HR3.out HB3.out) (fun x _ q => rd_text1_calls' x _)).mono ?_); rintro e w4 ⟨rfl, q, rfl⟩))
  · go_ret
    exact ⟨rfl, by rw [← H3.out]; simpa using IsS54.set_1 (IsS54.drewN HI3.out q) _, below_set (pw_below_drewN HB3.out q) HG4.out, (keep_drewN HK3.out q).set_ 1 _⟩
  · go_ret
    exact ⟨rfl, by rw [← H3.out]; exact IsS54.set_1 HI3.out _, below_set HB3.out HG4.out, HK3.out.set_ 1 _⟩

def nar_reader_node.f (s0_0 : List Int) (s0_1 : Bool) : Option (ByteArray × Int × ByteArray × List Int × Bool) :=
  (nar_reader_text.f s0_0 s0_1).bind fun a => (nar_reader_num.f a.2.1 a.2.2).bind fun b => (nar_reader_text.f b.2.1 b.2.2).bind fun c => some (a.1, b.1, c.1, c.2.1, c.2.2)
set_option maxHeartbeats 1000000 in
theorem nar_reader_node.calls (g : Nat) (s0_0 : List Int) (s0_1 : Bool) (r1 : ByteArray) (r2 : Int) (r3 : ByteArray) (r4 : List Int) (r5 : Bool) (w0 w : World) (hI : IsS54 w0 w g s0_0 s0_1) (hB : Below w0.heap.size w0 w) (h : nar_reader_node.f s0_0 s0_1 = some (r1, r2, r3, r4, r5)) :
    Calls Tryd.prog 31 #[.pointer (some ⟨g, 0, none⟩)] w fun e w' => e = .returned (.agg #[.string r1, .int .i64 r2, .string r3]) ∧ IsS54 w0 w' g r4 r5 ∧ Below w0.heap.size w0 w' ∧ KeepBut w w' g none := by
  unfold nar_reader_node.f at h
  obtain ⟨⟨a1, a2, a3⟩, h1, h⟩ := Option.bind_eq_some_iff.mp h
  obtain ⟨⟨b1, b2, b3⟩, h2, h⟩ := Option.bind_eq_some_iff.mp h
  obtain ⟨⟨c1, c2, c3⟩, h3, h⟩ := Option.bind_eq_some_iff.mp h
  injection h with h
  simp only [Prod.mk.injEq] at h
  obtain ⟨rfl, rfl, rfl, rfl, rfl⟩ := h
  have HI := Aside0.mk hI
  have HB := Aside0.mk hB
  have A1 := Aside0.mk h1
  have A2 := Aside0.mk h2
  have A3 := Aside0.mk h3
  clear hI hB h1 h2 h3
  have eg : ∀ args w, (callFunc 29 args).run Tryd.prog w = .ok (.enter 29 args) w := enters_of Tryd.func29 (by kernel_rfl) rfl
  have eg' : ∀ args w, (callFunc 30 args).run Tryd.prog w = .ok (.enter 30 args) w := enters_of Tryd.func30 (by kernel_rfl) rfl
  have hmf : ∀ (fn : Fn) (first cap : Array Value) (w : World), (Instr.makeFunc fn first cap).run Tryd.prog w = .ok (.func fn first cap) w := fun _ _ _ _ => rfl
  go_enter Tryd.func31, Tryd.ntmps31
  go_wp2_with (first | (go_at_call 29; refine (nar_reader_text.calls g s0_0 s0_1 a1 a2 a3 w0 _ (IsS54.alloc HI.out _) (below_alloc HB.out _) A1.out).mono ?_; rintro e w1 ⟨rfl, hi, hb, hk⟩; have GN := Aside0.mk (Nat.ne_of_gt (IsS54.lt HI.out)); have HI1 := Aside0.mk hi; have HB1 := Aside0.mk hb; have HK1 := Aside0.mk ((keep_alloc (KeepBut.refl w g none) _).trans hk (.inl rfl)); have BK1 := Aside0.mk ((hk.2 w.heap.size (by simp) GN.out (by simp)).trans (heap_alloc_new w _)); have HZ1 := Aside0.mk (Nat.lt_of_lt_of_le (show w.heap.size < (w.alloc _).heap.size by simp) hk.1); clear hi hb hk HI) | (go_at_call 30; refine (nar_reader_num.calls g a2 a3 b1 b2 b3 w0 _ HI1.out HB1.out A2.out).mono ?_; rintro e w2 ⟨rfl, hi, hb, hk⟩; have HI2 := Aside0.mk hi; have HB2 := Aside0.mk hb; have HK2 := Aside0.mk (HK1.out.trans hk (.inl rfl)); have BK2 := Aside0.mk ((hk.2 w.heap.size HZ1.out GN.out (by simp)).trans BK1.out); have HZ2 := Aside0.mk (Nat.lt_of_lt_of_le HZ1.out hk.1); clear hi hb hk HI1 HB1 BK1) | (go_at_call 29; refine (nar_reader_text.calls g b2 b3 c1 c2 c3 w0 _ HI2.out HB2.out A3.out).mono ?_; rintro e w3 ⟨rfl, hi, hb, hk⟩; have HI3 := Aside0.mk hi; have HB3 := Aside0.mk hb; have HK3 := Aside0.mk (HK2.out.trans hk (.inl rfl)); have BK3 := Aside0.mk ((hk.2 w.heap.size HZ2.out GN.out (by simp)).trans BK2.out); clear hi hb hk HI2 HB2 BK2; have hx0 := (blk_cell BK3.out 0).trans rfl; have hx1 := (blk_cell BK3.out 1).trans rfl; have hx2 := (blk_cell BK3.out 2).trans rfl; have hf0 := blk_frozen BK3.out 0; have hf1 := blk_frozen BK3.out 1; have hf2 := blk_frozen BK3.out 2))
  have hu := Tryd.underlying48
  refine bodyPost_ret (v := .agg #[.string a1, .int .i64 b1, .string c1]) (by simp [results, Tryd.results31, go_sem, hx0, hx1, hx2, hf0, hf1, hf2, hu]) rfl ⟨rfl, ?_, ?_, ?_⟩
  · exact IsS54.far (IsS54.far (IsS54.far HI3.out (Ne.symm GN.out) _) (Ne.symm GN.out) _) (Ne.symm GN.out) _
  · exact below_set (below_set (below_set HB3.out HB.out.size) HB.out.size) HB.out.size
  · exact keep_far (keep_far (keep_far HK3.out (Nat.le_refl _) _) (Nat.le_refl _) _) (Nat.le_refl _) _

end Go.Proofs.YtfklncdllfhgmaaDoor.P
