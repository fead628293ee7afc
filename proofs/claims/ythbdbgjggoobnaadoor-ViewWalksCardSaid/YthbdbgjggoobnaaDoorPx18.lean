/- Laid by a program of this session (wip/pr), after the printer of the kit: the functions that a statement reaches as plain Lean functions, and that the calls of the machine come to them. No condition. -/
import Derived.Test.YthbdbgjggoobnaaDoorPx0
import Derived.Test.YthbdbgjggoobnaaDoorPx15
import Derived.Test.YthbdbgjggoobnaaDoorPx16
import Derived.Test.YthbdbgjggoobnaaDoorPx17
namespace Go.Proofs.YthbdbgjggoobnaaDoor.P
open Go.RowKit Go.Proofs.YthbdbgjggoobnaaDoorX Go.Proofs.YthbdbgjggoobnaaDoorW.PrintWords Go.Proofs.YthbdbgjggoobnaaDoorW.PrintLast Go.Proofs.YthbdbgjggoobnaaDoorW.PrintMore
attribute [local go_sem] max2_int min2_int max_two min_two
set_option linter.unusedVariables false
set_option linter.unusedSimpArgs false
/-- The same over a state's call: its blocks are elder than what was made. -/
theorem Kd.R_oldK {α : Type} {d : Kd α} {e base g : Nat} {ok : Nat → Prop} {W w1 : World} {u : Value} {xs : List α} (hu : d.R e W base (fun k => ok k ∧ k ≠ g) u xs) (hk : KeepBut W w1 g none) : d.R e w1 base (fun k => ok k ∧ k < W.heap.size) u xs := by
  have h1 := Kd.R_keep (Kd.R_bound hu) hk (fun _ h => h.1.2)
  exact Kd.R_mono h1 (fun _ h => ⟨h.1.1, h.2.2.1⟩)
/-- It is none of the rows made since. -/
theorem Kd.R_told {α : Type} {d : Kd α} {e : Nat} {w1 : World} {base N : Nat} {ok : Nat → Prop} {u v : Value} {xs : List α} (h : d.R e w1 base (fun k => ok k ∧ k < N) u xs) (hbase : ∀ k, v.ownBlock = some k → N ≤ k) : d.R e w1 base (fun k => (ok k ∧ some k ≠ v.ownBlock) ∧ k < N) u xs :=
  Kd.R_mono h (fun k hk => by
    have h1 := hk.2
    refine ⟨⟨hk.1, fun e => ?_⟩, h1⟩
    have h2 := hbase k e.symm
    omega)

/-! ### view_reader_read: function 35 -/
mutual
def view_reader_read.l0 : Nat → List Int → List Int → Int → Int → List Int → Bool → Option ((List (S115)) × (List (S87)) × List Int × Bool)
 | 0, _, _, _, _, _, _ => none
 | k + 1, x4, x5, x13, x14, x1000, x1001 => if x14 < x13 then ((view_reader_num.f x1000 x1001).bind fun bt307 => (if x4.length < 17592186044416 then ((view_reader_num.f bt307.2.1 bt307.2.2).bind fun bt313 => (if x5.length < 17592186044416 then ((view_reader_num.f bt313.2.1 bt313.2.2).bind fun bt319 => (view_reader_read.l0 k (x4 ++ [bt307.1]) (x5 ++ [bt313.1]) x13 (wrap64 (x14 + 1)) bt319.2.1 bt319.2.2)) else (none))) else (none))) else ((view_reader_count.f x1000 x1001 400).bind fun bt322 => (view_reader_read.l1 k x4 x5 bt322.1 0 bt322.2.1 bt322.2.2 ([] : List (S87))))
def view_reader_read.l1 : Nat → List Int → List Int → Int → Int → List Int → Bool → List (S87) → Option ((List (S115)) × (List (S87)) × List Int × Bool)
 | 0, _, _, _, _, _, _, _ => none
 | k + 1, x4, x5, x30, x31, x1000, x1001, x301001 => if x31 < x30 then ((view_reader_row.f k x1000 x1001).bind fun bt325 => (if x301001.length < 2513169434916 then (view_reader_read.l1 k x4 x5 x30 (wrap64 (x31 + 1)) bt325.2.2.2.2.1 bt325.2.2.2.2.2 (x301001 ++ [(⟨bt325.1, bt325.2.1, bt325.2.2.1, bt325.2.2.2.1⟩ : S87)])) else (none))) else (view_reader_read.l2 k x4 x5 (x5.length : Int) 0 x1000 x1001 ([] : List (S115)) x301001)
def view_reader_read.l2 : Nat → List Int → List Int → Int → Int → List Int → Bool → List (S115) → List (S87) → Option ((List (S115)) × (List (S87)) × List Int × Bool)
 | 0, _, _, _, _, _, _, _, _ => none
 | k + 1, x4, x45, x46, x47, x1000, x1001, x301000, x301001 => if x47 < x46 then (if 0 ≤ x47 then (if x47 < (x45.length : Int) then (if x47 < (x4.length : Int) then ((view_takeS.f x1000 x1001 (rd x45 x47)).bind fun bt338 => (if x301000.length < 5864062014805 then (view_reader_read.l2 k x4 x45 x46 (wrap64 (x47 + 1)) bt338.2.1 bt338.2.2 (x301000 ++ [(⟨rd x4 x47, bt338.1⟩ : S115)]) x301001) else (none))) else (none)) else (none)) else (none)) else (some (x301000, x301001, x1000, x1001))
end
def view_reader_read.f (k : Nat) (s0_0 : List Int) (s0_1 : Bool) : Option ((List (S115)) × (List (S87)) × List Int × Bool) := (view_reader_text.f s0_0 s0_1).bind fun bt301 => ((view_reader_count.f bt301.2.1 bt301.2.2 4000).bind fun bt304 => (view_reader_read.l0 k ([] : List Int) ([] : List Int) bt304.1 0 bt304.2.1 bt304.2.2))
theorem view_reader_read.mono_l : ∀ k, (∀ y0 y1 y2 y3 y4 y5, LeO (view_reader_read.l0 k y0 y1 y2 y3 y4 y5) (view_reader_read.l0 (k + 1) y0 y1 y2 y3 y4 y5)) ∧ (∀ y0 y1 y2 y3 y4 y5 y6, LeO (view_reader_read.l1 k y0 y1 y2 y3 y4 y5 y6) (view_reader_read.l1 (k + 1) y0 y1 y2 y3 y4 y5 y6)) ∧ (∀ y0 y1 y2 y3 y4 y5 y6 y7, LeO (view_reader_read.l2 k y0 y1 y2 y3 y4 y5 y6 y7) (view_reader_read.l2 (k + 1) y0 y1 y2 y3 y4 y5 y6 y7))
 | 0 => ⟨fun _ _ _ _ _ _ r h => by simp [view_reader_read.l0] at h, fun _ _ _ _ _ _ _ r h => by simp [view_reader_read.l1] at h, fun _ _ _ _ _ _ _ _ r h => by simp [view_reader_read.l2] at h⟩
 | k + 1 => by
  obtain ⟨ih0, ih1, ih2⟩ := view_reader_read.mono_l k; refine ⟨?_, ?_, ?_⟩
  ·intro y0 y1 y2 y3 y4 y5
   unfold view_reader_read.l0
   repeat' with_reducible first | exact ih0 _ _ _ _ _ _ | exact ih1 _ _ _ _ _ _ _ | exact ih2 _ _ _ _ _ _ _ _ | exact view_reader_row.mono _ _ _ | exact LeO.refl _ | exact LeO.none _ | refine LeO.ite ?_ ?_ | refine LeO.bind ?_ (fun _ => ?_)
  ·intro y0 y1 y2 y3 y4 y5 y6
   unfold view_reader_read.l1
   repeat' with_reducible first | exact ih0 _ _ _ _ _ _ | exact ih1 _ _ _ _ _ _ _ | exact ih2 _ _ _ _ _ _ _ _ | exact view_reader_row.mono _ _ _ | exact LeO.refl _ | exact LeO.none _ | refine LeO.ite ?_ ?_ | refine LeO.bind ?_ (fun _ => ?_)
  ·intro y0 y1 y2 y3 y4 y5 y6 y7
   unfold view_reader_read.l2
   repeat' with_reducible first | exact ih0 _ _ _ _ _ _ | exact ih1 _ _ _ _ _ _ _ | exact ih2 _ _ _ _ _ _ _ _ | exact view_reader_row.mono _ _ _ | exact LeO.refl _ | exact LeO.none _ | refine LeO.ite ?_ ?_ | refine LeO.bind ?_ (fun _ => ?_)
theorem view_reader_read.mono : ∀ a0 a1 k, LeO (view_reader_read.f k a0 a1) (view_reader_read.f (k + 1) a0 a1) := by
 intro a0 a1 k; obtain ⟨ih0, ih1, ih2⟩ := view_reader_read.mono_l k; unfold view_reader_read.f
 repeat' with_reducible first | exact ih0 _ _ _ _ _ _ | exact ih1 _ _ _ _ _ _ _ | exact ih2 _ _ _ _ _ _ _ _ | exact view_reader_row.mono _ _ _ | exact LeO.refl _ | exact LeO.none _ | refine LeO.ite ?_ ?_ | refine LeO.bind ?_ (fun _ => ?_)
def view_reader_read.T12 : Bool × List (List Nat × List Nat) := (true, [([], []), ([], []), ([1], [1]), ([2], [2]), ([3], [3]), ([], []), ([5], [5]), ([6], [6]), ([4, 7, 6], [4, 7]), ([0, 0, 1, 2, 3, 4, 5, 6, 7, 8], [0]), ([9, 0, 1, 2, 3, 4, 5, 6, 7, 8], [9]), ([10, 8, 8, 0, 1, 2, 3, 4, 5, 6, 7, 8], [8, 10])])
def view_reader_read.B12 : List Nat := [0, 0, 2, 6, 14, 0, 32, 96, 254, 511, 1023, 2047]
theorem view_reader_read.tab12 : rtab .any (opsOf Tryd.f35 12) = view_reader_read.T12 := by kernel_rfl
theorem view_reader_read.bits12 : waitsOk view_reader_read.T12.2 view_reader_read.B12 = true := by kernel_rfl
def view_reader_read.T17 : Bool × List (List Nat × List Nat) := (true, [([], []), ([], []), ([1], [1]), ([2], [2]), ([3], [3]), ([], []), ([], []), ([5, 6], [5, 6]), ([7], [7]), ([], []), ([], []), ([9, 10], [9, 10]), ([11], [11]), ([8, 12], [8, 12]), ([13], [13]), ([4, 14, 11], [4, 14]), ([0, 0, 1, 2, 3, 4, 5, 6, 7, 8, 9, 10, 11, 12, 13, 14, 15], [0]), ([16, 0, 1, 2, 3, 4, 5, 6, 7, 8, 9, 10, 11, 12, 13, 14, 15], [16]), ([17, 15, 15, 0, 1, 2, 3, 4, 5, 6, 7, 8, 9, 10, 11, 12, 13, 14, 15], [15, 17])])
def view_reader_read.B17 : List Nat := [0, 0, 2, 6, 14, 0, 0, 96, 224, 0, 0, 1536, 3584, 8160, 16352, 32766, 65535, 131071, 262143]
theorem view_reader_read.tab17 : rtab .any (opsOf Tryd.f35 17) = view_reader_read.T17 := by kernel_rfl
theorem view_reader_read.bits17 : waitsOk view_reader_read.T17.2 view_reader_read.B17 = true := by kernel_rfl
set_option maxHeartbeats 8000000 in
set_option maxRecDepth 100000 in
theorem view_reader_read.calls (k : Nat) (g : Nat) (s0_0 : List Int) (s0_1 : Bool) (r1 : List (S115)) (r2 : List (S87)) (r3 : List Int) (r4 : Bool) (w0 w : World) (hI : IsS79 w0 w g s0_0 s0_1) (hB : Below w0.heap.size w0 w) (h : view_reader_read.f k s0_0 s0_1 = some (r1, r2, r3, r4)) :
  Calls Tryd.prog 35 #[.pointer (some ⟨g, 0, none⟩)] w fun e w' => ∃ (v0_ v1_ : Value) (gv : Nat), e = .returned (.pointer (some ⟨gv, 0, none⟩)) ∧ w'.heap[gv]? = some (.cells #[v0_, v1_] 84 (0, 0)) ∧ w.heap.size ≤ gv ∧ Kd.R k115 115 w' w.heap.size (fun _ => True) v0_ r1 ∧ Kd.S k87 87 w' w.heap.size (fun _ => True) v1_ r2 ∧ IsS79 w0 w' g r3 r4 ∧ Below w0.heap.size w0 w' ∧ KeepBut w w' g none := by
 have hu84 := Tryd.underlying84; have hu115 := Tryd.underlying115; have HI0 := am hI; have HK := am (KeepBut.refl w g none); have HL := am hB.size; clear hI; have HW0 := am hB.size; have HB := am hB; clear hB; have H : ((view_reader_text.f s0_0 s0_1).bind fun bt301 => ((view_reader_count.f bt301.2.1 bt301.2.2 4000).bind fun bt304 => (view_reader_read.l0 k ([] : List Int) ([] : List Int) bt304.1 0 bt304.2.1 bt304.2.2))) = some (r1, r2, r3, r4) := h; clear h; replace H := oB H; obtain ⟨⟨t301, t302, t303⟩, A20, H⟩ := H; replace H : ((view_reader_count.f t302 t303 4000).bind fun bt304 => (view_reader_read.l0 k ([] : List Int) ([] : List Int) bt304.1 0 bt304.2.1 bt304.2.2)) = some (r1, r2, r3, r4) := H; have A2 := am A20; clear A20; replace H := oB H; obtain ⟨⟨t304, t305, t306⟩, A30, H⟩ := H; replace H : (view_reader_read.l0 k ([] : List Int) ([] : List Int) t304 0 t305 t306) = some (r1, r2, r3, r4) := H; have A3 := am A30; clear A30; have H' := am H; clear H; go_enter Tryd.func35, Tryd.ntmps35; go_wp2_with (first | ((with_reducible refine gate_dst (N := 9) rfl ?_); refine bx 9 #[.slice none 0 0, .slice none 0 0] 84 ?_; intro gb300 hg w4 hbox hb; replace HB := am (below_step (by repeat (first | (with_reducible first | exact HB.out | apply bA | apply bN | apply bO | refine below_set ?_ (IsS79.ge HI0.out)) | exact HB.out)) hb); have BK300 := am (hbox); have GW300 := am ((by rw [hg]; exact (keep_size (w := w) (g := g) (row := none) (by repeat (first | (with_reducible first | exact HK.out | apply KeepBut.set_ | apply keep_drewN | apply keep_drew | apply keep_alloc) | exact HK.out))) : w.heap.size ≤ gb300)); have GE300 := am ((Nat.le_trans HW0.out (by rw [hg]; exact (keep_size (w := w) (g := g) (row := none) (by repeat (first | (with_reducible first | exact HK.out | apply KeepBut.set_ | apply keep_drewN | apply keep_drew | apply keep_alloc) | exact HK.out))) : w.heap.size ≤ gb300) : w0.heap.size ≤ gb300)); replace HK := am (KeepBut.trans (by repeat (first | (with_reducible first | exact HK.out | apply KeepBut.set_ | apply keep_drewN | apply keep_drew | apply keep_alloc) | exact HK.out)) (KeepBut.of_below hb g none) (.inl rfl)); have NB0_300 := am ((by rw [hg]; exact Nat.ne_of_lt (IsS79.lt (show IsS79 w0 _ g s0_0 s0_1 from by repeat (first | (with_reducible first | exact HI0.out | apply IsS79.alloc | apply IsS79.drewN | apply IsS79.drew | apply IsS79.set_0 | apply IsS79.set_1) | exact HI0.out))) : g ≠ gb300)); have NB300_0 := am ((by rw [hg]; exact Nat.ne_of_gt (IsS79.lt (show IsS79 w0 _ g s0_0 s0_1 from by repeat (first | (with_reducible first | exact HI0.out | apply IsS79.alloc | apply IsS79.drewN | apply IsS79.drew | apply IsS79.set_0 | apply IsS79.set_1) | exact HI0.out))) : gb300 ≠ g)); replace HI0 := am (IsS79.below (by repeat (first | (with_reducible first | exact HI0.out | apply IsS79.alloc | apply IsS79.drewN | apply IsS79.drew | apply IsS79.set_0 | apply IsS79.set_1) | exact HI0.out)) hb); clear hb hbox hg) | ((with_reducible refine gate_callee (f := 54) rfl ?_); refine gL (some 11) Tryd.func54 #[.pointer (some ⟨g, 0, none⟩)] ?_; (with_reducible refine (view_reader_text.calls g s0_0 s0_1 t301 t302 t303 w0 _ ?side1 ?side2 A2.out).mono ?_); (case side1 => repeat (first | (with_reducible first | exact HI0.out | apply IsS79.alloc | apply IsS79.drewN | apply IsS79.drew | apply IsS79.set_0 | apply IsS79.set_1 | refine IsS79.far ?_ NB0_300.out _) | exact HI0.out)); (case side2 => repeat (first | (with_reducible first | exact HB.out | apply bA | apply bN | apply bO | refine below_set ?_ (IsS79.ge HI0.out) | refine below_set ?_ GE300.out) | exact HB.out)); rintro e w5 ⟨rfl, hi, hb, hk⟩; refine ⟨_, rfl, ?_⟩; replace BK300 := am (KeepBut.blk hk (g' := gb300) (o := .cells #[.slice none 0 0, .slice none 0 0] 84 (0, 0)) (bk BK300.out) NB300_0.out (by simp)); replace HK := am (KeepBut.trans (by repeat (first | (with_reducible first | exact HK.out | apply KeepBut.set_ | apply keep_drewN | apply keep_drew | apply keep_alloc | refine keep_far ?_ GW300.out _) | exact HK.out)) hk (.inl rfl)); replace HB := am (hb); replace HI0 := am (hi)) | ((with_reducible refine gate_callee (f := 55) rfl ?_); refine gL (some 13) Tryd.func55 #[.pointer (some ⟨g, 0, none⟩), .int .i64 4000] ?_; (with_reducible refine (view_reader_count.calls g t302 t303 4000 t304 t305 t306 w0 _ ?side1 ?side2 A3.out).mono ?_); (case side1 => repeat (first | (with_reducible first | exact HI0.out | apply IsS79.alloc | apply IsS79.drewN | apply IsS79.drew | apply IsS79.set_0 | apply IsS79.set_1 | refine IsS79.far ?_ NB0_300.out _) | exact HI0.out)); (case side2 => repeat (first | (with_reducible first | exact HB.out | apply bA | apply bN | apply bO | refine below_set ?_ (IsS79.ge HI0.out) | refine below_set ?_ GE300.out) | exact HB.out)); rintro e w6 ⟨rfl, hi, hb, hk⟩; refine ⟨_, rfl, ?_⟩; replace BK300 := am (KeepBut.blk hk (g' := gb300) (o := .cells #[.slice none 0 0, .slice none 0 0] 84 (0, 0)) (bk BK300.out) NB300_0.out (by simp)); replace HK := am (KeepBut.trans (by repeat (first | (with_reducible first | exact HK.out | apply KeepBut.set_ | apply keep_drewN | apply keep_drew | apply keep_alloc | refine keep_far ?_ GW300.out _) | exact HK.out)) hk (.inl rfl)); replace HB := am (hb); replace HI0 := am (hi)))
 go_loopg [4, 5, 14] k (fun kq v4 v5 v14 w' => ∃ (x4_1 : List Int) (x5_1 : List Int) (x14_1 : Int) (x1000_1 : List Int) (x1001_1 : Bool) (u1000 : Value), v14 = .int .i64 x14_1 ∧ Aside0 (view_reader_read.l0 kq x4_1 x5_1 t304 x14_1 x1000_1 x1001_1 = some (r1, r2, r3, r4)) ∧ Aside0 (kq ≤ k) ∧ Aside0 (Kd.R (Kd.int .i64) 3 w' w.heap.size (fun k_ => some k_ ≠ (v5 : Value).ownBlock) v4 x4_1) ∧ Aside0 (Kd.R (Kd.int .i64) 3 w' w.heap.size (fun k_ => some k_ ≠ (v4 : Value).ownBlock) v5 x5_1) ∧ Aside0 (w'.heap[gb300]? = some (.cells #[(.slice none 0 0), (.slice none 0 0)] 84 (0, 0))) ∧ Aside0 (IsS79 w0 w' g x1000_1 x1001_1) ∧ Aside0 (KeepBut w w' g none) ∧ Aside0 (Below w0.heap.size w0 w'))
 case atStart => exact ⟨(([] : List Int)), (([] : List Int)), (0), (t305), (t306), (Value.bool false), (by first | rfl | (simp; done) | (simp [*]; done)), H', ⟨Nat.le_refl _⟩, ⟨by first | exact Kd.R_nil _ _ _ _ _ | exact Kd.N_nil _ _ _ _ _ | exact Kd.V_nil _ _ _ _ _ | exact Kd.Q_nil _ _ _ _ _ | exact Kd.S_nil _ _ _ _ _⟩, ⟨by first | exact Kd.R_nil _ _ _ _ _ | exact Kd.N_nil _ _ _ _ _ | exact Kd.V_nil _ _ _ _ _ | exact Kd.Q_nil _ _ _ _ _ | exact Kd.S_nil _ _ _ _ _⟩, ⟨bk BK300.out⟩, ⟨by repeat (first | (with_reducible first | exact HI0.out | apply IsS79.alloc | apply IsS79.drewN | apply IsS79.drew | apply IsS79.set_0 | apply IsS79.set_1 | refine IsS79.far ?_ NB0_300.out _) | exact HI0.out)⟩, ⟨by repeat (first | (with_reducible first | exact HK.out | apply KeepBut.set_ | apply keep_drewN | apply keep_drew | apply keep_alloc | refine keep_far ?_ GW300.out _) | exact HK.out)⟩, ⟨by repeat (first | (with_reducible first | exact HB.out | apply bA | apply bN | apply bO | refine below_set ?_ (IsS79.ge HI0.out) | refine below_set ?_ GE300.out) | exact HB.out)⟩⟩
 case round =>
  clear H'; (try clear p2); (try clear c3); (try clear c5); obtain ⟨x4_1, x5_1, x14_1, x1000_1, x1001_1, u1000, rfl, HA, HK1, HO_4, HO_5, BK300, HI0, HK, HB⟩ := hrel; cases gk with
  | zero => exact absurd HA.out (by simp [view_reader_read.l0])
  | succ k1 =>
   have H := HA.out; clear HA; simp only [view_reader_read.l0] at H
   by_cases c7 : x14_1 < t304
   ·rw [if_pos c7] at H
    have c7b0 : decide (x14_1 < t304) = true := decide_eq_true c7; clear c7; replace H := oB H; obtain ⟨⟨t307, t308, t309⟩, A80, H⟩ := H; replace H : (if x4_1.length < 17592186044416 then ((view_reader_num.f t308 t309).bind fun bt313 => (if x5_1.length < 17592186044416 then ((view_reader_num.f bt313.2.1 bt313.2.2).bind fun bt319 => (view_reader_read.l0 k1 (x4_1 ++ [t307]) (x5_1 ++ [bt313.1]) t304 (wrap64 (x14_1 + 1)) bt319.2.1 bt319.2.2)) else (none))) else (none)) = some (r1, r2, r3, r4) := H; have A8 := am A80; clear A80; by_cases c9 : x4_1.length < 17592186044416
    ·rw [if_pos c9] at H
     have LMc9 := am c9; clear c9; obtain ⟨y310, hy310⟩ : ∃ y_ : List Int, y_ = (x4_1 ++ [t307]) := ⟨_, rfl⟩; try rw [← hy310] at H
     have Ny310 := am hy310; clear hy310; replace H := oB H; obtain ⟨⟨t313, t314, t315⟩, A100, H⟩ := H; replace H : (if x5_1.length < 17592186044416 then ((view_reader_num.f t314 t315).bind fun bt319 => (view_reader_read.l0 k1 y310 (x5_1 ++ [t313]) t304 (wrap64 (x14_1 + 1)) bt319.2.1 bt319.2.2)) else (none)) = some (r1, r2, r3, r4) := H; have A10 := am A100; clear A100; by_cases c11 : x5_1.length < 17592186044416
     ·rw [if_pos c11] at H
      have LMc11 := am c11; clear c11; obtain ⟨y316, hy316⟩ : ∃ y_ : List Int, y_ = (x5_1 ++ [t313]) := ⟨_, rfl⟩; try rw [← hy316] at H
      have Ny316 := am hy316; clear hy316; replace H := oB H; obtain ⟨⟨t319, t320, t321⟩, A120, H⟩ := H; replace H : (view_reader_read.l0 k1 y310 y316 t304 (wrap64 (x14_1 + 1)) t320 t321) = some (r1, r2, r3, r4) := H; have A12 := am A120; clear A120; have H' := am H; clear H; go_wp2_with (first | ((with_reducible refine gate_callee (f := 56) rfl ?_); refine gL (some 18) Tryd.func56 #[.pointer (some ⟨g, 0, none⟩)] ?_; (with_reducible refine (view_reader_num.calls g x1000_1 x1001_1 t307 t308 t309 w0 _ ?side1 ?side2 A8.out).mono ?_); (case side1 => repeat (first | (with_reducible first | exact HI0.out | apply IsS79.alloc | apply IsS79.drewN | apply IsS79.drew | apply IsS79.set_0 | apply IsS79.set_1 | refine IsS79.far ?_ NB0_300.out _) | exact HI0.out)); (case side2 => repeat (first | (with_reducible first | exact HB.out | apply bA | apply bN | apply bO | refine below_set ?_ (IsS79.ge HI0.out) | refine below_set ?_ GE300.out) | exact HB.out)); rintro e w13 ⟨rfl, hi, hb, hk⟩; refine ⟨_, rfl, ?_⟩; replace HO_4 := am (Kd.R_mono (Kd.R_keep (IsS79.apart (show IsS79 w0 _ g x1000_1 x1001_1 from by repeat (first | (with_reducible first | exact HI0.out | apply IsS79.alloc | apply IsS79.drewN | apply IsS79.drew | apply IsS79.set_0 | apply IsS79.set_1 | refine IsS79.far ?_ NB0_300.out _) | exact HI0.out)) (rz HO_4.out) (by decide)) hk (fun _ h => h.2)) (fun _ h => h.1)); replace HO_5 := am (Kd.R_mono (Kd.R_keep (IsS79.apart (show IsS79 w0 _ g x1000_1 x1001_1 from by repeat (first | (with_reducible first | exact HI0.out | apply IsS79.alloc | apply IsS79.drewN | apply IsS79.drew | apply IsS79.set_0 | apply IsS79.set_1 | refine IsS79.far ?_ NB0_300.out _) | exact HI0.out)) (rz HO_5.out) (by decide)) hk (fun _ h => h.2)) (fun _ h => h.1)); replace BK300 := am (KeepBut.blk hk (g' := gb300) (o := .cells #[.slice none 0 0, .slice none 0 0] 84 (0, 0)) (bk BK300.out) NB300_0.out (by simp)); replace HK := am (KeepBut.trans (by repeat (first | (with_reducible first | exact HK.out | apply KeepBut.set_ | apply keep_drewN | apply keep_drew | apply keep_alloc | refine keep_far ?_ GW300.out _) | exact HK.out)) hk (.inl rfl)); replace HB := am (hb); replace HI0 := am (hi)) | ((with_reducible refine gate_builtin (b := .append) (xs := #[.tmp 16, .tmp 19]) rfl ?_); at_builtin; refine Kd.R_append (Kd.int .i64) w.heap.size rfl (.tmp 16) (.tmp 19) 76 3 (.int .i64 0) 8 rfl Tryd.underlying76 info3 rfl (by decide) (by omega) u4 x4_1 t307 [.int .i64 t307] (fun k_ => some k_ ≠ (u5 : Value).ownBlock) (fun _ => False) rfl rfl ?aP (fun _ hk => hk.elim) ?aF ?aO (Below.refl _ _) ?aS ?aL ?_; (case aP => exact rfl); (case aF => exact (fun k_ hk => Kd.fresh' (Kd.R_lt (rz HO_5.out)) k_ hk)); (case aO => exact (rz HO_4.out)); (case aS => exact (keep_size (w := w) (g := g) (row := none) (by repeat (first | (with_reducible first | exact HK.out | apply KeepBut.set_ | apply keep_drewN | apply keep_drew | apply keep_alloc | refine keep_far ?_ GW300.out _) | exact HK.out)))); (case aL => have := LMc9.out; omega); intro v311 w14 ho hb hg hat; rw [← Ny310.out] at ho; have n0_ := am (Kd.R_after (ok := (fun _ => True)) (rz (Kd.R_mono HO_5.out (fun _ hk => ⟨trivial, hk⟩))) hg hat); have n1_ := am (blk_grown (g := gb300) (o := .cells #[.slice none 0 0, .slice none 0 0] 84 (0, 0)) (bk BK300.out) hg (Kd.R_ne HO_4.out BK300.out (by decide))); have n2_ := am (IsS79.grown (by repeat (first | (with_reducible first | exact HI0.out | apply IsS79.alloc | apply IsS79.drewN | apply IsS79.drew | apply IsS79.set_0 | apply IsS79.set_1 | refine IsS79.far ?_ NB0_300.out _) | exact HI0.out)) hg (IsS79.own_ne HI0.out HO_4.out (by decide))); have n3_ := am (below_weaken (by repeat (first | (with_reducible first | exact HB.out | apply bA | apply bN | apply bO | refine below_set ?_ (IsS79.ge HI0.out) | refine below_set ?_ GE300.out) | exact HB.out)) HL.out hb); have n4_ := am (KeepBut.trans (by repeat (first | (with_reducible first | exact HK.out | apply KeepBut.set_ | apply keep_drewN | apply keep_drew | apply keep_alloc | refine keep_far ?_ GW300.out _) | exact HK.out)) (KeepBut.of_grown hg g) (Kd.R_base2 HO_4.out)); have n5_ := am (ho); clear HO_5; clear BK300; clear HI0; clear HB; clear HK; clear HO_4; have HO_5 := n0_; have BK300 := n1_; have HI0 := n2_; have HB := n3_; have HK := n4_; have HO312 := n5_; clear n0_ n1_ n2_ n3_ n4_ n5_; clear ho hb hg hat) | ((with_reducible refine gate_callee (f := 56) rfl ?_); refine gL (some 23) Tryd.func56 #[.pointer (some ⟨g, 0, none⟩)] ?_; (with_reducible refine (view_reader_num.calls g t308 t309 t313 t314 t315 w0 _ ?side1 ?side2 A10.out).mono ?_); (case side1 => repeat (first | (with_reducible first | exact HI0.out | apply IsS79.alloc | apply IsS79.drewN | apply IsS79.drew | apply IsS79.set_0 | apply IsS79.set_1 | refine IsS79.far ?_ NB0_300.out _) | exact HI0.out)); (case side2 => repeat (first | (with_reducible first | exact HB.out | apply bA | apply bN | apply bO | refine below_set ?_ (IsS79.ge HI0.out) | refine below_set ?_ GE300.out) | exact HB.out)); rintro e w15 ⟨rfl, hi, hb, hk⟩; refine ⟨_, rfl, ?_⟩; replace HO_5 := am (Kd.R_mono (Kd.R_keep (IsS79.apart (show IsS79 w0 _ g t308 t309 from by repeat (first | (with_reducible first | exact HI0.out | apply IsS79.alloc | apply IsS79.drewN | apply IsS79.drew | apply IsS79.set_0 | apply IsS79.set_1 | refine IsS79.far ?_ NB0_300.out _) | exact HI0.out)) (rz HO_5.out) (by decide)) hk (fun _ h => h.2)) (fun _ h => h.1)); replace BK300 := am (KeepBut.blk hk (g' := gb300) (o := .cells #[.slice none 0 0, .slice none 0 0] 84 (0, 0)) (bk BK300.out) NB300_0.out (by simp)); replace HO312 := am (Kd.R_mono (Kd.R_keep (IsS79.apart (show IsS79 w0 _ g t308 t309 from by repeat (first | (with_reducible first | exact HI0.out | apply IsS79.alloc | apply IsS79.drewN | apply IsS79.drew | apply IsS79.set_0 | apply IsS79.set_1 | refine IsS79.far ?_ NB0_300.out _) | exact HI0.out)) (rz HO312.out) (by decide)) hk (fun _ h => h.2)) (fun _ h => h.1)); replace HK := am (KeepBut.trans (by repeat (first | (with_reducible first | exact HK.out | apply KeepBut.set_ | apply keep_drewN | apply keep_drew | apply keep_alloc | refine keep_far ?_ GW300.out _) | exact HK.out)) hk (.inl rfl)); replace HB := am (hb); replace HI0 := am (hi)) | ((with_reducible refine gate_builtin (b := .append) (xs := #[.tmp 21, .tmp 24]) rfl ?_); at_builtin; refine Kd.R_append (Kd.int .i64) w.heap.size rfl (.tmp 21) (.tmp 24) 76 3 (.int .i64 0) 8 rfl Tryd.underlying76 info3 rfl (by decide) (by omega) u5 x5_1 t313 [.int .i64 t313] (fun k_ => some k_ ≠ (v311 : Value).ownBlock) (fun _ => False) rfl rfl ?aP (fun _ hk => hk.elim) ?aF ?aO (Below.refl _ _) ?aS ?aL ?_; (case aP => exact rfl); (case aF => exact (fun k_ hk => Kd.fresh' (Kd.R_lt (rz HO312.out)) k_ hk)); (case aO => exact (rz (Kd.R_mono HO_5.out (fun _ hk => hk.2)))); (case aS => exact (keep_size (w := w) (g := g) (row := none) (by repeat (first | (with_reducible first | exact HK.out | apply KeepBut.set_ | apply keep_drewN | apply keep_drew | apply keep_alloc | refine keep_far ?_ GW300.out _) | exact HK.out)))); (case aL => have := LMc11.out; omega); intro v317 w16 ho hb hg hat; rw [← Ny316.out] at ho; have n0_ := am (blk_grown (g := gb300) (o := .cells #[.slice none 0 0, .slice none 0 0] 84 (0, 0)) (bk BK300.out) hg (Kd.R_ne HO_5.out BK300.out (by decide))); have n1_ := am (IsS79.grown (by repeat (first | (with_reducible first | exact HI0.out | apply IsS79.alloc | apply IsS79.drewN | apply IsS79.drew | apply IsS79.set_0 | apply IsS79.set_1 | refine IsS79.far ?_ NB0_300.out _) | exact HI0.out)) hg (IsS79.own_ne HI0.out HO_5.out (by decide))); have n2_ := am (Kd.R_after (ok := (fun _ => True)) (rz (Kd.R_mono HO312.out (fun _ hk => ⟨trivial, hk⟩))) hg hat); have n3_ := am (below_weaken (by repeat (first | (with_reducible first | exact HB.out | apply bA | apply bN | apply bO | refine below_set ?_ (IsS79.ge HI0.out) | refine below_set ?_ GE300.out) | exact HB.out)) HL.out hb); have n4_ := am (KeepBut.trans (by repeat (first | (with_reducible first | exact HK.out | apply KeepBut.set_ | apply keep_drewN | apply keep_drew | apply keep_alloc | refine keep_far ?_ GW300.out _) | exact HK.out)) (KeepBut.of_grown hg g) (Kd.R_base2 HO_5.out)); have n5_ := am (ho); clear BK300; clear HI0; clear HO312; clear HB; clear HK; clear HO_5; have BK300 := n0_; have HI0 := n1_; have HO312 := n2_; have HB := n3_; have HK := n4_; have HO318 := n5_; clear n0_ n1_ n2_ n3_ n4_ n5_; clear ho hb hg hat) | ((with_reducible refine gate_callee (f := 56) rfl ?_); refine gL (some 27) Tryd.func56 #[.pointer (some ⟨g, 0, none⟩)] ?_; (with_reducible refine (view_reader_num.calls g t314 t315 t319 t320 t321 w0 _ ?side1 ?side2 A12.out).mono ?_); (case side1 => repeat (first | (with_reducible first | exact HI0.out | apply IsS79.alloc | apply IsS79.drewN | apply IsS79.drew | apply IsS79.set_0 | apply IsS79.set_1 | refine IsS79.far ?_ NB0_300.out _) | exact HI0.out)); (case side2 => repeat (first | (with_reducible first | exact HB.out | apply bA | apply bN | apply bO | refine below_set ?_ (IsS79.ge HI0.out) | refine below_set ?_ GE300.out) | exact HB.out)); rintro e w17 ⟨rfl, hi, hb, hk⟩; refine ⟨_, rfl, ?_⟩; replace BK300 := am (KeepBut.blk hk (g' := gb300) (o := .cells #[.slice none 0 0, .slice none 0 0] 84 (0, 0)) (bk BK300.out) NB300_0.out (by simp)); replace HO312 := am (Kd.R_mono (Kd.R_keep (IsS79.apart (show IsS79 w0 _ g t314 t315 from by repeat (first | (with_reducible first | exact HI0.out | apply IsS79.alloc | apply IsS79.drewN | apply IsS79.drew | apply IsS79.set_0 | apply IsS79.set_1 | refine IsS79.far ?_ NB0_300.out _) | exact HI0.out)) (rz HO312.out) (by decide)) hk (fun _ h => h.2)) (fun _ h => h.1)); replace HO318 := am (Kd.R_mono (Kd.R_keep (IsS79.apart (show IsS79 w0 _ g t314 t315 from by repeat (first | (with_reducible first | exact HI0.out | apply IsS79.alloc | apply IsS79.drewN | apply IsS79.drew | apply IsS79.set_0 | apply IsS79.set_1 | refine IsS79.far ?_ NB0_300.out _) | exact HI0.out)) (rz HO318.out) (by decide)) hk (fun _ h => h.2)) (fun _ h => h.1)); replace HK := am (KeepBut.trans (by repeat (first | (with_reducible first | exact HK.out | apply KeepBut.set_ | apply keep_drewN | apply keep_drew | apply keep_alloc | refine keep_far ?_ GW300.out _) | exact HK.out)) hk (.inl rfl)); replace HB := am (hb); replace HI0 := am (hi)))
      go_roundg k1
      case measure => have := HK1.out; omega
      case rel => exact ⟨(y310), (y316), (wrap64 (x14_1 + 1)), (t320), (t321), (Value.bool false), (by first | rfl | (simp; done) | (simp [*]; done)), H', ⟨by have := HK1.out; omega⟩, ⟨rz (Kd.R_mono HO312.out (fun _ hk => hk.2))⟩, ⟨rz HO318.out⟩, ⟨bk BK300.out⟩, ⟨by repeat (first | (with_reducible first | exact HI0.out | apply IsS79.alloc | apply IsS79.drewN | apply IsS79.drew | apply IsS79.set_0 | apply IsS79.set_1 | refine IsS79.far ?_ NB0_300.out _) | exact HI0.out)⟩, ⟨by repeat (first | (with_reducible first | exact HK.out | apply KeepBut.set_ | apply keep_drewN | apply keep_drew | apply keep_alloc | refine keep_far ?_ GW300.out _) | exact HK.out)⟩, ⟨by repeat (first | (with_reducible first | exact HB.out | apply bA | apply bN | apply bO | refine below_set ?_ (IsS79.ge HI0.out) | refine below_set ?_ GE300.out) | exact HB.out)⟩⟩
     ·rw [if_neg c11] at H
      exact absurd H (by simp)
    ·rw [if_neg c9] at H
     exact absurd H (by simp)
   ·rw [if_neg c7] at H
    have c7b0 : decide (x14_1 < t304) = false := decide_eq_false c7; clear c7; replace H := oB H; obtain ⟨⟨t322, t323, t324⟩, A180, H⟩ := H; replace H : (view_reader_read.l1 k1 x4_1 x5_1 t322 0 t323 t324 ([] : List (S87))) = some (r1, r2, r3, r4) := H; have A18 := am A180; clear A180; have H' := am H; clear H; go_wp2_with (first | ((with_reducible refine gate_callee (f := 55) rfl ?_); refine gL (some 30) Tryd.func55 #[.pointer (some ⟨g, 0, none⟩), .int .i64 400] ?_; (with_reducible refine (view_reader_count.calls g x1000_1 x1001_1 400 t322 t323 t324 w0 _ ?side1 ?side2 A18.out).mono ?_); (case side1 => repeat (first | (with_reducible first | exact HI0.out | apply IsS79.alloc | apply IsS79.drewN | apply IsS79.drew | apply IsS79.set_0 | apply IsS79.set_1 | refine IsS79.far ?_ NB0_300.out _) | exact HI0.out)); (case side2 => repeat (first | (with_reducible first | exact HB.out | apply bA | apply bN | apply bO | refine below_set ?_ (IsS79.ge HI0.out) | refine below_set ?_ GE300.out) | exact HB.out)); rintro e w19 ⟨rfl, hi, hb, hk⟩; refine ⟨_, rfl, ?_⟩; replace HO_4 := am (Kd.R_mono (Kd.R_keep (IsS79.apart (show IsS79 w0 _ g x1000_1 x1001_1 from by repeat (first | (with_reducible first | exact HI0.out | apply IsS79.alloc | apply IsS79.drewN | apply IsS79.drew | apply IsS79.set_0 | apply IsS79.set_1 | refine IsS79.far ?_ NB0_300.out _) | exact HI0.out)) (rz HO_4.out) (by decide)) hk (fun _ h => h.2)) (fun _ h => h.1)); replace HO_5 := am (Kd.R_mono (Kd.R_keep (IsS79.apart (show IsS79 w0 _ g x1000_1 x1001_1 from by repeat (first | (with_reducible first | exact HI0.out | apply IsS79.alloc | apply IsS79.drewN | apply IsS79.drew | apply IsS79.set_0 | apply IsS79.set_1 | refine IsS79.far ?_ NB0_300.out _) | exact HI0.out)) (rz HO_5.out) (by decide)) hk (fun _ h => h.2)) (fun _ h => h.1)); replace BK300 := am (KeepBut.blk hk (g' := gb300) (o := .cells #[.slice none 0 0, .slice none 0 0] 84 (0, 0)) (bk BK300.out) NB300_0.out (by simp)); replace HK := am (KeepBut.trans (by repeat (first | (with_reducible first | exact HK.out | apply KeepBut.set_ | apply keep_drewN | apply keep_drew | apply keep_alloc | refine keep_far ?_ GW300.out _) | exact HK.out)) hk (.inl rfl)); replace HB := am (hb); replace HI0 := am (hi)))
    go_loopg [31] k1 (fun kq v31 w' => ∃ (x31_2 : Int) (x1000_2 : List Int) (x1001_2 : Bool) (x301001_2 : List (S87)) (u1000 : Value) (u301001 : Value), v31 = .int .i64 x31_2 ∧ Aside0 (view_reader_read.l1 kq x4_1 x5_1 t322 x31_2 x1000_2 x1001_2 x301001_2 = some (r1, r2, r3, r4)) ∧ Aside0 (kq ≤ k1) ∧ Aside0 (Kd.R (Kd.int .i64) 3 w' w.heap.size (fun k_ => some k_ ≠ (u5 : Value).ownBlock) u4 x4_1) ∧ Aside0 (Kd.R (Kd.int .i64) 3 w' w.heap.size (fun k_ => some k_ ≠ (u4 : Value).ownBlock) u5 x5_1) ∧ Aside0 (Kd.S k87 87 w' w.heap.size (fun k_ => some k_ ≠ (u4 : Value).ownBlock ∧ some k_ ≠ (u5 : Value).ownBlock) u301001 x301001_2) ∧ Aside0 (w'.heap[gb300]? = some (.cells #[(.slice none 0 0), u301001] 84 (0, 0))) ∧ Aside0 (IsS79 w0 w' g x1000_2 x1001_2) ∧ Aside0 (KeepBut w w' g none) ∧ Aside0 (Below w0.heap.size w0 w'))
    case atStart => exact ⟨(0), (t323), (t324), (([] : List (S87))), (Value.bool false), (.slice none 0 0), (by first | rfl | (simp; done) | (simp [*]; done)), H', ⟨Nat.le_refl _⟩, ⟨rz HO_4.out⟩, ⟨rz HO_5.out⟩, ⟨by first | exact Kd.S_nil _ _ _ _ _ | exact Kd.N_nil _ _ _ _ _ | exact Kd.V_nil _ _ _ _ _ | exact Kd.Q_nil _ _ _ _ _ | exact Kd.R_nil _ _ _ _ _⟩, ⟨bk BK300.out⟩, ⟨by repeat (first | (with_reducible first | exact HI0.out | apply IsS79.alloc | apply IsS79.drewN | apply IsS79.drew | apply IsS79.set_0 | apply IsS79.set_1 | refine IsS79.far ?_ NB0_300.out _) | exact HI0.out)⟩, ⟨by repeat (first | (with_reducible first | exact HK.out | apply KeepBut.set_ | apply keep_drewN | apply keep_drew | apply keep_alloc | refine keep_far ?_ GW300.out _) | exact HK.out)⟩, ⟨by repeat (first | (with_reducible first | exact HB.out | apply bA | apply bN | apply bO | refine below_set ?_ (IsS79.ge HI0.out) | refine below_set ?_ GE300.out) | exact HB.out)⟩⟩
    case round =>
     clear H'; (try clear c1); (try clear p2); (try clear c3); (try clear c5); (try clear p6); (try clear c7); (try clear c7b0); (try clear c9); (try clear c11); (try clear p2); obtain ⟨x31_2, x1000_2, x1001_2, x301001_2, u1000, u301001, rfl, HA, HK2, HO_4, HO_5, HO_301001, BK300, HI0, HK, HB⟩ := hrel; cases gk with
     | zero => exact absurd HA.out (by simp [view_reader_read.l1])
     | succ k2 =>
      have H := HA.out; clear HA; simp only [view_reader_read.l1] at H
      by_cases c20 : x31_2 < t322
      ·rw [if_pos c20] at H
       have c20b0 : decide (x31_2 < t322) = true := decide_eq_true c20; clear c20; replace H := oB H; obtain ⟨⟨t325, t326, t327, t328, t331, t332⟩, A210, H⟩ := H; replace H : (if x301001_2.length < 2513169434916 then (view_reader_read.l1 k2 x4_1 x5_1 t322 (wrap64 (x31_2 + 1)) t331 t332 (x301001_2 ++ [(⟨t325, t326, t327, t328⟩ : S87)])) else (none)) = some (r1, r2, r3, r4) := H; have A21 := am A210; clear A210; by_cases c22 : x301001_2.length < 2513169434916
       ·rw [if_pos c22] at H
        have LMc22 := am c22; clear c22; obtain ⟨y333, hy333⟩ : ∃ y_ : List (S87), y_ = (x301001_2 ++ [(⟨t325, t326, t327, t328⟩ : S87)]) := ⟨_, rfl⟩; try rw [← hy333] at H
        have Ny333 := am hy333; clear hy333; have H' := am H; clear H; try go_wp2
        replace HO_4 := am (rD HO_4.out); replace HO_5 := am (rD HO_5.out); replace HO_301001 := am (Kd.S_drew HO_301001.out); replace BK300 := am (kD BK300.out); replace HI0 := am (IsS79.drew HI0.out); replace HK := am (keep_drew HK.out); replace HB := am (bO HB.out); refine start_ (n := 12) (S := fun w' => w'.cell? ⟨gb300, 0, none⟩ = some (.slice none 0 0) ∧ w'.cell? ⟨gb300, 1, none⟩ = some (u301001)) (ds := [11]) #[fF,fF,fF,fF,fF,fF,fF,fF,fF,fF,fF,fF] (by kernel_rfl) rfl rfl ⟨(blk_cell BK300.out 0).trans rfl, (blk_cell BK300.out 1).trans rfl⟩ (fun hHeld => ?_); refine with_tabW view_reader_read.tab12 view_reader_read.bits12 (fun HT_ HW_ => ?_)
        generalize wr.drew = w23 at HO_4 HO_5 HO_301001 BK300 HI0 HK HB hHeld ⊢
        refine pu 0 (some 33) ?_
        refine pu 1 (some 34) ?_
        refine pu 2 (some 35) ?_
        refine pu 3 (some 36) ?_
        refine pu 5 (some 38) ?_
        refine take_ (i := 4) (N := some 37) (v := ?_) (a' := ?_) #[tT,tT,tT,tT,tT,tT,fF,fF,fF,fF,fF,fF] rfl rfl (take_ofW HT_.out HW_.out (by kernel_rfl)) (fun _ _ _ h => h) (Or.inl ⟨by rfl, ?_⟩) hHeld ?_ ?_
        rotate_left
        ·rintro w' ⟨s0, s1⟩
         go_simp
         with_reducible rfl
        rotate_left
        ·simp only [Act.put, sA, sB, sC, i64_w, i32_w]
         rfl
        refine one_ (i := 6) (N := some 39) #[tT,tT,tT,tT,tT,tT,tT,fF,fF,fF,fF,fF] rfl rfl (one_of HT_.out (by kernel_rfl)) (by decide) (fun K hK => ?_)
        refine goes_ Tryd.func57 (by kernel_rfl) rfl #[.pointer (some ⟨g, 0, none⟩)] (by rfl) rfl rfl (by (try simp only [mT, mC, mN]); first | done | rfl | (simp only [lD, lT]; rfl)) ?_
        with_reducible refine (view_reader_row.calls k2 g x1000_2 x1001_2 t325 t326 t327 t328 t331 t332 w0 _ ?side1 ?side2 A21.out).mono ?_
        (case side1 => repeat (first | (with_reducible first | exact HI0.out | apply IsS79.alloc | apply IsS79.drewN | apply IsS79.drew | apply IsS79.set_0 | apply IsS79.set_1 | refine IsS79.far ?_ NB0_300.out _) | exact HI0.out))
        (case side2 => repeat (first | (with_reducible first | exact HB.out | apply bA | apply bN | apply bO | refine below_set ?_ (IsS79.ge HI0.out) | refine below_set ?_ GE300.out) | exact HB.out))
        rintro e w24 ⟨v329, rfl, ho0, hi, hb, hk⟩; refine ⟨_, rfl, ?_⟩
        have n0_ := am (Kd.R_mono (Kd.R_told (Kd.R_oldK (IsS79.apart (show IsS79 w0 _ g x1000_2 x1001_2 from by repeat (first | (with_reducible first | exact HI0.out | apply IsS79.alloc | apply IsS79.drewN | apply IsS79.drew | apply IsS79.set_0 | apply IsS79.set_1 | refine IsS79.far ?_ NB0_300.out _) | exact HI0.out)) (rz HO_4.out) (by decide)) hk) (Kd.R_base ho0)) (fun _ h_ => h_.1)); have n1_ := am (Kd.R_mono (Kd.R_told (Kd.R_oldK (IsS79.apart (show IsS79 w0 _ g x1000_2 x1001_2 from by repeat (first | (with_reducible first | exact HI0.out | apply IsS79.alloc | apply IsS79.drewN | apply IsS79.drew | apply IsS79.set_0 | apply IsS79.set_1 | refine IsS79.far ?_ NB0_300.out _) | exact HI0.out)) (rz HO_5.out) (by decide)) hk) (Kd.R_base ho0)) (fun _ h_ => h_.1)); have n2_ := am (Kd.S_mono (Kd.S_told (Kd.S_oldK (IsS79.apartS (show IsS79 w0 _ g x1000_2 x1001_2 from by repeat (first | (with_reducible first | exact HI0.out | apply IsS79.alloc | apply IsS79.drewN | apply IsS79.drew | apply IsS79.set_0 | apply IsS79.set_1 | refine IsS79.far ?_ NB0_300.out _) | exact HI0.out)) (by (with_reducible repeat (first | apply Kd.S_alloc | apply Kd.S_drewN | apply Kd.S_drew)); exact HO_301001.out) (by decide)) hk) (Kd.R_base ho0)) (fun _ h_ => h_.1)); have n3_ := am (KeepBut.blk hk (g' := gb300) (o := .cells #[.slice none 0 0, u301001] 84 (0, 0)) (bk BK300.out) NB300_0.out (by simp))
        have n4_ := am (Kd.R_lower (Kd.R_new' (Kd.R_new' ho0 (Kd.R_lt (rz HO_4.out))) (Kd.R_lt (rz HO_5.out))) (keep_size (w := w) (g := g) (row := none) (by repeat (first | (with_reducible first | exact HK.out | apply KeepBut.set_ | apply keep_drewN | apply keep_drew | apply keep_alloc | refine keep_far ?_ GW300.out _) | exact HK.out)))); have n5_ := am (KeepBut.trans (by repeat (first | (with_reducible first | exact HK.out | apply KeepBut.set_ | apply keep_drewN | apply keep_drew | apply keep_alloc | refine keep_far ?_ GW300.out _) | exact HK.out)) hk (.inl rfl)); have n6_ := am (hb); have n7_ := am (hi); clear HO_4; clear HO_5; clear HO_301001; clear BK300; clear HK; clear HB; clear HI0; have HO_4 := n0_; have HO_5 := n1_; have HO_301001 := n2_; have BK300 := n3_; have HO330 := n4_; have HK := n5_; have HB := n6_; have HI0 := n7_; clear n0_ n1_ n2_ n3_ n4_ n5_ n6_ n7_; (try clear ho0); obtain ⟨Ao26, co26, eo26⟩ := Kd.R_slice HO330.out; (first | subst eo26 | (injection eo26 with f1_ f2_ f3_; have f4_ := f1_.symm; have f5_ := f3_.symm; clear f1_ f2_ f3_; subst f4_; subst f5_))
        refine hK.out _ _ ⟨(blk_cell BK300.out 0).trans rfl, (blk_cell BK300.out 1).trans rfl⟩ (fun hHeld => ?_)
        clear hK K; refine norm_ (a' := ?_) ?_ ?_
        rotate_left
        ·show Act.put _ (some 39) _ = _
         simp only [Act.put, sA, sB, sC, i64_w, i32_w]
         rfl
        refine one_ (i := 7) (N := some 40) #[tT,tT,tT,tT,tT,tT,tT,tT,fF,fF,fF,fF] rfl rfl (one_of HT_.out (by kernel_rfl)) (by decide) (fun K hK => ?_)
        refine value_ (w1 := ?_) (v := ?_) (by rfl) rfl ?_ ?_
        rotate_left 2
        ·go_simp
         constructor
         ·rfl
         ·rfl
        refine hK.out _ _ ⟨(blk_cell (kA BK300.out _) 0).trans rfl, (blk_cell (kA BK300.out _) 1).trans rfl⟩ (fun hHeld => ?_)
        clear hK K; refine norm_ (a' := ?_) ?_ ?_
        rotate_left
        ·show Act.put _ (some 40) _ = _
         simp only [Act.put, sA, sB, sC, i64_w, i32_w]
         rfl
        refine one_ (i := 8) (N := some 41) #[tT,tT,tT,tT,tT,tT,tT,tT,tT,fF,fF,fF] rfl rfl (one_of HT_.out (by kernel_rfl)) (by decide) (fun K hK => ?_)
        refine Kd.S_append_step k87 w.heap.size (by rfl) (.tmp 37) (.tmp 40) 82 87 (.agg #[(.string ⟨#[]⟩), (.int .i64 0), (.int .i64 0), (.slice none 0 0)]) 56 rfl Tryd.underlying82 info87 rfl (by decide) (by omega) u301001 x301001_2 (⟨t325, t326, t327, t328⟩ : S87) [.string t325, .int .i64 t326, .int .i64 t327, .slice Ao26 t328.length co26] (fun k_ => some k_ ≠ (u4 : Value).ownBlock ∧ some k_ ≠ (u5 : Value).ownBlock) (fun k_ => some k_ = (.slice Ao26 t328.length co26 : Value).ownBlock) rfl rfl ?aP (fun k_ hk_ => ((Kd.R_mono (ok' := fun k_ => ((fun k_ => some k_ ≠ (u4 : Value).ownBlock ∧ some k_ ≠ (u5 : Value).ownBlock)) k_ ∧ some k_ ≠ (u301001 : Value).ownBlock) (Kd.R_apart' (HO330.out) (Kd.S_typed HO_301001.out) (by decide)) (fun k_ hk => ⟨⟨hk.1.1.2, hk.1.2⟩, hk.2⟩))).1 k_ hk_.symm) ?aF ?aO (Below.refl _ _) ?aS ?aL ?_
        (case aP => exact k87_mkM _ _ _ (⟨t325, t326, t327, t328⟩ : S87) (Kd.R_mono (Kd.R_tight rfl (Kd.R_mono (ok' := fun k_ => ((fun k_ => some k_ ≠ (u4 : Value).ownBlock ∧ some k_ ≠ (u5 : Value).ownBlock)) k_ ∧ some k_ ≠ (u301001 : Value).ownBlock) (Kd.R_apart' (HO330.out) (Kd.S_typed HO_301001.out) (by decide)) (fun k_ hk => ⟨⟨hk.1.1.2, hk.1.2⟩, hk.2⟩))) (fun _ h_ => h_)))
        (case aF => exact (fun k_ hk => ⟨Kd.fresh' (Kd.R_lt (rz HO_4.out)) k_ hk, Kd.fresh' (Kd.R_lt (rz HO_5.out)) k_ hk⟩))
        (case aO => exact (by (with_reducible repeat (first | apply Kd.S_alloc | apply Kd.S_drewN | apply Kd.S_drew)); exact Kd.S_mono HO_301001.out (fun k_ hk => ⟨⟨hk.1.1, hk.1.2⟩, fun e_ => hk.2 e_⟩)))
        (case aS => exact (keep_size (w := w) (g := g) (row := none) (by repeat (first | (with_reducible first | exact HK.out | apply KeepBut.set_ | apply keep_drewN | apply keep_drew | apply keep_alloc | refine keep_far ?_ GW300.out _) | exact HK.out))))
        (case aL => have := LMc22.out; omega)
        intro v334 w25 ho hb hg hat; rw [← Ny333.out] at ho; have n0_ := am (Kd.R_over' (rz HO_4.out) (Kd.S_typed (by (with_reducible repeat (first | apply Kd.S_alloc | apply Kd.S_drewN | apply Kd.S_drew)); exact HO_301001.out)) (by decide) hg); have n1_ := am (Kd.R_over' (rz HO_5.out) (Kd.S_typed (by (with_reducible repeat (first | apply Kd.S_alloc | apply Kd.S_drewN | apply Kd.S_drew)); exact HO_301001.out)) (by decide) hg); have n2_ := am (blk_grown (g := gb300) (o := .cells #[.slice none 0 0, u301001] 84 (0, 0)) (bk BK300.out) hg (Kd.S_ne HO_301001.out BK300.out (by decide))); have n3_ := am (IsS79.grown (by repeat (first | (with_reducible first | exact HI0.out | apply IsS79.alloc | apply IsS79.drewN | apply IsS79.drew | apply IsS79.set_0 | apply IsS79.set_1 | refine IsS79.far ?_ NB0_300.out _) | exact HI0.out)) hg (IsS79.own_neS HI0.out HO_301001.out (by decide))); have n4_ := am (below_weaken (by repeat (first | (with_reducible first | exact HB.out | apply bA | apply bN | apply bO | refine below_set ?_ (IsS79.ge HI0.out) | refine below_set ?_ GE300.out) | exact HB.out)) HL.out hb); have n5_ := am (KeepBut.trans (by repeat (first | (with_reducible first | exact HK.out | apply KeepBut.set_ | apply keep_drewN | apply keep_drew | apply keep_alloc | refine keep_far ?_ GW300.out _) | exact HK.out)) (KeepBut.of_grown hg g) (Kd.S_base2 HO_301001.out))
        have n6_ := am (ho); clear HO_4; clear HO_5; clear BK300; clear HI0; clear HB; clear HK; clear HO_301001; clear HO330; have HO_4 := n0_; have HO_5 := n1_; have BK300 := n2_; have HI0 := n3_; have HB := n4_; have HK := n5_; have HO335 := n6_; clear n0_ n1_ n2_ n3_ n4_ n5_ n6_; clear ho hb hg hat; obtain ⟨Ao27, co27, eo27⟩ := Kd.S_slice HO335.out; (first | subst eo27 | (injection eo27 with f1_ f2_ f3_; have f4_ := f1_.symm; have f5_ := f3_.symm; clear f1_ f2_ f3_; subst f4_; subst f5_))
        refine hK.out _ _ ⟨(blk_cell BK300.out 0).trans rfl, (blk_cell BK300.out 1).trans rfl⟩ (fun hHeld => ?_)
        clear hK K; refine norm_ (a' := ?_) ?_ ?_
        rotate_left
        ·show Act.put _ (some 41) _ = _
         simp only [Act.put, sA, sB, sC, i64_w, i32_w]
         rfl
        refine pu 9 (some 42) ?_
        refine pu 10 (some 43) ?_
        refine last_ (i := 11) (N := none) #[tT,tT,tT,tT,tT,tT,tT,tT,tT,tT,tT,tT] rfl rfl (one_of HT_.out (by kernel_rfl)) (by decide) (fun K hK => ?_)
        have hs28 : w25.cell? ⟨gb300, 1, none⟩ = some (u301001) := (blk_cell BK300.out 1).trans rfl; have hfs28 := blk_frozen BK300.out 1; refine skip_ (w1 := ?_) (by rfl) rfl ?_ ?_
        rotate_left
        ·go_simp
         rfl
        refine hK.out _ _ ?_
        clear hK K; refine done_ (done_of HT_.out (by kernel_rfl)) ?_
        try go_wp2
        go_roundg k2
        case measure => have := HK1.out; have := HK2.out; omega
        case rel => exact ⟨(wrap64 (x31_2 + 1)), (t331), (t332), (y333), (Value.bool false), (.slice Ao27 y333.length co27), (by first | rfl | (simp; done) | (simp [*]; done)), H', ⟨by have := HK1.out; have := HK2.out; omega⟩, ⟨rz (Kd.R_mono (Kd.R_far (p := ⟨gb300, 1, none⟩) (Kd.R_types HO_4.out BK300.out (by decide)) (fun _ hk => hk.2) (.slice Ao27 y333.length co27)) (fun _ hk => hk.1.1))⟩, ⟨rz (Kd.R_mono (Kd.R_far (p := ⟨gb300, 1, none⟩) (Kd.R_types HO_5.out BK300.out (by decide)) (fun _ hk => hk.2) (.slice Ao27 y333.length co27)) (fun _ hk => hk.1.1))⟩, ⟨by (with_reducible repeat (first | apply Kd.S_alloc | apply Kd.S_drewN | apply Kd.S_drew)); exact Kd.S_mono (Kd.S_far (p := ⟨gb300, 1, none⟩) (Kd.S_types HO335.out BK300.out (by decide)) (fun _ hk => hk.2) (.slice Ao27 y333.length co27)) (fun _ hk => ⟨hk.1.1, hk.1.2⟩)⟩, ⟨by (with_reducible repeat (first | refine kN ?_ _ | refine kD ?_ | refine kA ?_ _)); refine blk_put (cs := #[.slice none 0 0, u301001]) ?_ 1 _ rfl; (with_reducible repeat (first | refine kN ?_ _ | refine kD ?_ | refine kA ?_ _)); exact BK300.out⟩, ⟨by repeat (first | (with_reducible first | exact HI0.out | apply IsS79.alloc | apply IsS79.drewN | apply IsS79.drew | apply IsS79.set_0 | apply IsS79.set_1 | refine IsS79.far ?_ NB0_300.out _) | exact HI0.out)⟩, ⟨by repeat (first | (with_reducible first | exact HK.out | apply KeepBut.set_ | apply keep_drewN | apply keep_drew | apply keep_alloc | refine keep_far ?_ GW300.out _) | exact HK.out)⟩, ⟨by repeat (first | (with_reducible first | exact HB.out | apply bA | apply bN | apply bO | refine below_set ?_ (IsS79.ge HI0.out) | refine below_set ?_ GE300.out) | exact HB.out)⟩⟩
       ·rw [if_neg c22] at H
        exact absurd H (by simp)
      ·rw [if_neg c20] at H
       have c20b0 : decide (x31_2 < t322) = false := decide_eq_false c20; clear c20; have H' := am H; clear H; obtain ⟨Ao29, co29, eo29⟩ := Kd.R_slice HO_5.out; subst eo29; go_wp2
       go_loopg [47] k2 (fun kq v47 w' => ∃ (x47_3 : Int) (x1000_3 : List Int) (x1001_3 : Bool) (x301000_3 : List (S115)) (u1000 : Value) (u301000 : Value), v47 = .int .i64 x47_3 ∧ Aside0 (view_reader_read.l2 kq x4_1 x5_1 (x5_1.length : Int) x47_3 x1000_3 x1001_3 x301000_3 x301001_2 = some (r1, r2, r3, r4)) ∧ Aside0 (kq ≤ k2) ∧ Aside0 (Kd.R (Kd.int .i64) 3 w' w.heap.size (fun k_ => some k_ ≠ ((.slice Ao29 x5_1.length co29) : Value).ownBlock) u4 x4_1) ∧ Aside0 (Kd.R (Kd.int .i64) 3 w' w.heap.size (fun k_ => some k_ ≠ (u4 : Value).ownBlock) (.slice Ao29 x5_1.length co29) x5_1) ∧ Aside0 (Kd.R k115 115 w' w.heap.size (fun _ => True) u301000 x301000_3) ∧ Aside0 (Kd.S k87 87 w' w.heap.size (fun k_ => some k_ ≠ (u4 : Value).ownBlock ∧ some k_ ≠ ((.slice Ao29 x5_1.length co29) : Value).ownBlock) u301001 x301001_2) ∧ Aside0 (w'.heap[gb300]? = some (.cells #[u301000, u301001] 84 (0, 0))) ∧ Aside0 (IsS79 w0 w' g x1000_3 x1001_3) ∧ Aside0 (KeepBut w w' g none) ∧ Aside0 (Below w0.heap.size w0 w'))
       case atStart => exact ⟨(0), (x1000_2), (x1001_2), (([] : List (S115))), (Value.bool false), (.slice none 0 0), (by first | rfl | (simp; done) | (simp [*]; done)), H', ⟨Nat.le_refl _⟩, ⟨rz HO_4.out⟩, ⟨rz HO_5.out⟩, ⟨by first | exact Kd.R_nil _ _ _ _ _ | exact Kd.N_nil _ _ _ _ _ | exact Kd.V_nil _ _ _ _ _ | exact Kd.Q_nil _ _ _ _ _ | exact Kd.S_nil _ _ _ _ _⟩, ⟨by (with_reducible repeat (first | apply Kd.S_alloc | apply Kd.S_drewN | apply Kd.S_drew)); exact HO_301001.out⟩, ⟨bk BK300.out⟩, ⟨by repeat (first | (with_reducible first | exact HI0.out | apply IsS79.alloc | apply IsS79.drewN | apply IsS79.drew | apply IsS79.set_0 | apply IsS79.set_1 | refine IsS79.far ?_ NB0_300.out _) | exact HI0.out)⟩, ⟨by repeat (first | (with_reducible first | exact HK.out | apply KeepBut.set_ | apply keep_drewN | apply keep_drew | apply keep_alloc | refine keep_far ?_ GW300.out _) | exact HK.out)⟩, ⟨by repeat (first | (with_reducible first | exact HB.out | apply bA | apply bN | apply bO | refine below_set ?_ (IsS79.ge HI0.out) | refine below_set ?_ GE300.out) | exact HB.out)⟩⟩
       case round =>
        clear H'; (try clear c1); (try clear c2); (try clear p2); (try clear c3); (try clear c5); (try clear p6); (try clear c7); (try clear c7b0); (try clear c9); (try clear c11); (try clear c20); (try clear c20b0); (try clear c22); (try clear p2); (try clear p6); obtain ⟨x47_3, x1000_3, x1001_3, x301000_3, u1000, u301000, rfl, HA, HK3, HO_4, HO_45, HO_301000, HO_301001, BK300, HI0, HK, HB⟩ := hrel; cases gk with
        | zero => exact absurd HA.out (by simp [view_reader_read.l2])
        | succ k3 =>
         have H := HA.out; clear HA; simp only [view_reader_read.l2] at H
         by_cases c30 : x47_3 < (x5_1.length : Int)
         ·rw [if_pos c30] at H
          have c30b0 : decide (x47_3 < (x5_1.length : Int)) = true := decide_eq_true c30; clear c30; by_cases c31 : 0 ≤ x47_3
          ·rw [if_pos c31] at H
           have c31b0 : decide (0 ≤ x47_3) = true := decide_eq_true c31; clear c31; by_cases c32 : x47_3 < (x5_1.length : Int)
           ·rw [if_pos c32] at H
            have c32b0 : decide (x47_3 < (x5_1.length : Int)) = true := decide_eq_true c32; clear c32; by_cases c33 : x47_3 < (x4_1.length : Int)
            ·rw [if_pos c33] at H
             have c33b0 : decide (x47_3 < (x4_1.length : Int)) = true := decide_eq_true c33; clear c33; replace H := oB H; obtain ⟨⟨t338, t339, t340⟩, A340, H⟩ := H; replace H : (if x301000_3.length < 5864062014805 then (view_reader_read.l2 k3 x4_1 x5_1 (x5_1.length : Int) (wrap64 (x47_3 + 1)) t339 t340 (x301000_3 ++ [(⟨rd x4_1 x47_3, t338⟩ : S115)]) x301001_2) else (none)) = some (r1, r2, r3, r4) := H; have A34 := am A340; clear A340; by_cases c35 : x301000_3.length < 5864062014805
             ·rw [if_pos c35] at H
              have LMc35 := am c35; clear c35; obtain ⟨y341, hy341⟩ : ∃ y_ : List (S115), y_ = (x301000_3 ++ [(⟨rd x4_1 x47_3, t338⟩ : S115)]) := ⟨_, rfl⟩; try rw [← hy341] at H
              have Ny341 := am hy341; clear hy341; have H' := am H; clear H; have p336 : 0 ≤ (x47_3 : Int) := of_decide_eq_true (by assumption); have q336 : x47_3 < (x5_1.length : Int) := of_decide_eq_true (by assumption); obtain ⟨ad336, e336, hx336_0⟩ := Kd.at_int (Kd.R_reads' HO_45.out).2.2 x47_3 p336 q336; cases e336; replace p336 := eq_true p336; replace q336 := eq_true q336; have hnb36 := NB300_0.out; have hnc36 := NB0_300.out; have hcz37_0 : wr.cell? ⟨gb300, 0, none⟩ = some (u301000) := (blk_cell BK300.out 0).trans rfl; have hcz37_1 : wr.cell? ⟨gb300, 1, none⟩ = some (u301001) := (blk_cell BK300.out 1).trans rfl; obtain ⟨hfz37_0, hfz37_1⟩ := fq2 BK300.out; obtain ⟨Ao38, co38, eo38⟩ := Kd.R_slice HO_4.out; subst eo38; have p337 : 0 ≤ (x47_3 : Int) := of_decide_eq_true (by assumption); have q337 : x47_3 < (x4_1.length : Int) := of_decide_eq_true (by assumption); obtain ⟨ad337, e337, hx337_0⟩ := Kd.at_int (Kd.R_reads' HO_4.out).2.2 x47_3 p337 q337; cases e337; replace p337 := eq_true p337; replace q337 := eq_true q337; try go_wp2
              replace HO_4 := am (rD HO_4.out); replace HO_45 := am (rD HO_45.out); replace HO_301000 := am (rD HO_301000.out); replace HO_301001 := am (Kd.S_drew HO_301001.out); replace BK300 := am (kD BK300.out); replace HK := am (keep_drew HK.out); replace HB := am (bO HB.out); replace HI0 := am (IsS79.drew HI0.out); refine start_ (n := 19) (S := fun w' => w'.cell? ⟨gb300, 0, none⟩ = some (u301000) ∧ w'.cell? ⟨gb300, 1, none⟩ = some (u301001) ∧ w'.cell? (ad337.add x47_3.toNat) = some (.int .i64 (rd x4_1 x47_3))) (ds := [18]) #[fF,fF,fF,fF,fF,fF,fF,fF,fF,fF,fF,fF,fF,fF,fF,fF,fF,fF,fF] (by kernel_rfl) rfl rfl ⟨(blk_cell BK300.out 0).trans rfl, (blk_cell BK300.out 1).trans rfl, (by obtain ⟨ad_, e_, hx_⟩ := Kd.at_int (Kd.R_reads' HO_4.out).2.2 x47_3 (of_eq_true p337) (of_eq_true q337); cases e_; exact hx_)⟩ (fun hHeld => ?_); refine with_tabW view_reader_read.tab17 view_reader_read.bits17 (fun HT_ HW_ => ?_)
              generalize wr.drew = wq_ at HO_4 HO_45 HO_301000 HO_301001 BK300 HK HB HI0 hHeld ⊢
              refine pure_ (i := 0) (N := (some 52)) (v := ?_) (a' := ?_) #[tT,fF,fF,fF,fF,fF,fF,fF,fF,fF,fF,fF,fF,fF,fF,fF,fF,fF,fF] rfl rfl (any_of HT_.out (by kernel_rfl)) (fun _ _ _ h => h) (Or.inl ⟨by rfl, ?_⟩) ?_ ?_
              rotate_left
              ·intro w'
               go_simp
               with_reducible rfl
              rotate_left
              ·simp only [Act.put, sA, sB, sC, i64_w, i32_w]
               rfl
              refine pure_ (i := 1) (N := (some 53)) (v := ?_) (a' := ?_) #[tT,tT,fF,fF,fF,fF,fF,fF,fF,fF,fF,fF,fF,fF,fF,fF,fF,fF,fF] rfl rfl (any_of HT_.out (by kernel_rfl)) (fun _ _ _ h => h) (Or.inl ⟨by rfl, ?_⟩) ?_ ?_
              rotate_left
              ·intro w'
               go_simp
               with_reducible rfl
              rotate_left
              ·simp only [Act.put, sA, sB, sC, i64_w, i32_w]
               rfl
              refine pure_ (i := 2) (N := (some 54)) (v := ?_) (a' := ?_) #[tT,tT,tT,fF,fF,fF,fF,fF,fF,fF,fF,fF,fF,fF,fF,fF,fF,fF,fF] rfl rfl (any_of HT_.out (by kernel_rfl)) (fun _ _ _ h => h) (Or.inl ⟨by rfl, ?_⟩) ?_ ?_
              rotate_left
              ·intro w'
               go_simp
               with_reducible rfl
              rotate_left
              ·simp only [Act.put, sA, sB, sC, i64_w, i32_w]
               rfl
              refine pure_ (i := 3) (N := (some 55)) (v := ?_) (a' := ?_) #[tT,tT,tT,tT,fF,fF,fF,fF,fF,fF,fF,fF,fF,fF,fF,fF,fF,fF,fF] rfl rfl (any_of HT_.out (by kernel_rfl)) (fun _ _ _ h => h) (Or.inl ⟨by rfl, ?_⟩) ?_ ?_
              rotate_left
              ·intro w'
               go_simp
               with_reducible rfl
              rotate_left
              ·simp only [Act.put, sA, sB, sC, i64_w, i32_w]
               rfl
              refine pure_ (i := 5) (N := (some 57)) (v := ?_) (a' := ?_) #[tT,tT,tT,tT,fF,tT,fF,fF,fF,fF,fF,fF,fF,fF,fF,fF,fF,fF,fF] rfl rfl (any_of HT_.out (by kernel_rfl)) (fun _ _ _ h => h) (Or.inl ⟨by rfl, ?_⟩) ?_ ?_
              rotate_left
              ·intro w'
               go_simp
               with_reducible rfl
              rotate_left
              ·simp only [Act.put, sA, sB, sC, i64_w, i32_w]
               rfl
              refine pure_ (i := 6) (N := (some 58)) (v := ?_) (a' := ?_) #[tT,tT,tT,tT,fF,tT,tT,fF,fF,fF,fF,fF,fF,fF,fF,fF,fF,fF,fF] rfl rfl (any_of HT_.out (by kernel_rfl)) (fun _ _ _ h => h) (Or.inl ⟨by rfl, ?_⟩) ?_ ?_
              rotate_left
              ·intro w'
               go_simp
               with_reducible rfl
              rotate_left
              ·simp only [Act.put, sA, sB, sC, i64_w, i32_w]
               rfl
              refine pure_ (i := 7) (N := (some 59)) (v := ?_) (a' := ?_) #[tT,tT,tT,tT,fF,tT,tT,tT,fF,fF,fF,fF,fF,fF,fF,fF,fF,fF,fF] rfl rfl (any_of HT_.out (by kernel_rfl)) (fun _ _ _ h => h) (Or.inl ⟨by rfl, ?_⟩) ?_ ?_
              rotate_left
              ·intro w'
               go_simp
               with_reducible rfl
              rotate_left
              ·simp only [Act.put, sA, sB, sC, i64_w, i32_w]
               rfl
              refine pure_ (i := 9) (N := (some 61)) (v := ?_) (a' := ?_) #[tT,tT,tT,tT,fF,tT,tT,tT,fF,tT,fF,fF,fF,fF,fF,fF,fF,fF,fF] rfl rfl (any_of HT_.out (by kernel_rfl)) (fun _ _ _ h => h) (Or.inl ⟨by rfl, ?_⟩) ?_ ?_
              rotate_left
              ·intro w'
               go_simp
               with_reducible rfl
              rotate_left
              ·simp only [Act.put, sA, sB, sC, i64_w, i32_w]
               rfl
              refine pure_ (i := 10) (N := (some 62)) (v := ?_) (a' := ?_) #[tT,tT,tT,tT,fF,tT,tT,tT,fF,tT,tT,fF,fF,fF,fF,fF,fF,fF,fF] rfl rfl (any_of HT_.out (by kernel_rfl)) (fun _ _ _ h => h) (Or.inl ⟨by rfl, ?_⟩) ?_ ?_
              rotate_left
              ·intro w'
               go_simp
               with_reducible rfl
              rotate_left
              ·simp only [Act.put, sA, sB, sC, i64_w, i32_w]
               rfl
              refine take_ (i := 4) (N := (some 56)) (v := ?_) (a' := ?_) #[tT,tT,tT,tT,tT,tT,tT,tT,fF,tT,tT,fF,fF,fF,fF,fF,fF,fF,fF] rfl rfl (take_ofW HT_.out HW_.out (by kernel_rfl)) (fun _ _ _ h => h) (Or.inl ⟨by rfl, ?_⟩) hHeld ?_ ?_
              rotate_left
              ·rintro w' ⟨s0, s1, s2⟩
               go_simp
               with_reducible rfl
              rotate_left
              ·simp only [Act.put, sA, sB, sC, i64_w, i32_w]
               rfl
              refine take_ (i := 8) (N := (some 60)) (v := ?_) (a' := ?_) #[tT,tT,tT,tT,tT,tT,tT,tT,tT,tT,tT,fF,fF,fF,fF,fF,fF,fF,fF] rfl rfl (take_ofW HT_.out HW_.out (by kernel_rfl)) (fun _ _ _ h => h) (Or.inl ⟨by rfl, ?_⟩) hHeld ?_ ?_
              rotate_left
              ·rintro w' ⟨s0, s1, s2⟩
               go_simp
               with_reducible rfl
              rotate_left
              ·simp only [Act.put, sA, sB, sC, i64_w, i32_w]
               rfl
              refine one_ (i := 11) (N := (some 63)) #[tT,tT,tT,tT,tT,tT,tT,tT,tT,tT,tT,tT,fF,fF,fF,fF,fF,fF,fF] rfl rfl (one_of HT_.out (by kernel_rfl)) (by decide) (fun K hK => ?_)
              have hq_ := A34.out; clear A34; unfold view_takeS.f at hq_
              have hcT_ := fun W hi hb => rd_take_calls g (rd x5_1 x47_3) x1000_3 x1001_3 w0 W hi hb
              generalize tk (rd x5_1 x47_3) x1000_3 x1001_3 = tq_ at hq_ hcT_
              obtain ⟨lq_, xq_, bq_⟩ := tq_; simp only at hq_ hcT_
              by_cases hlq_ : lq_.length ≤ 9223372036854775807
              case neg => rw [if_neg hlq_] at hq_; cases hq_
              rw [if_pos hlq_] at hq_; injection hq_ with hq_; simp only [Prod.mk.injEq] at hq_
              obtain ⟨hq1_, rfl, rfl⟩ := hq_; refine goes_ Tryd.func58 (by kernel_rfl) rfl #[.pointer (some ⟨g, 0, none⟩), .int .i64 (rd x5_1 x47_3)] (by rfl) rfl rfl (by (try simp only [mT, mC, mN]); first | done | rfl) ?_
              refine (hcT_ _ ?side1 ?side2).mono ?_
              (case side1 => repeat (first | (with_reducible first | exact HI0.out | apply IsS79.alloc | apply IsS79.drewN | apply IsS79.drew | apply IsS79.set_0 | apply IsS79.set_1 | refine IsS79.far ?_ NB0_300.out _) | exact HI0.out))
              (case side2 => repeat (first | (with_reducible first | exact HB.out | apply bA | apply bN | apply bO | refine below_set ?_ (IsS79.ge HI0.out) | refine below_set ?_ GE300.out) | exact HB.out))
              rintro e w39 ⟨⟨Aq_, cq_, rfl, hrq_⟩, hi, hb, hk⟩; clear hcT_; refine ⟨_, rfl, ?_⟩
              have n0_ := am (Kd.R_mono (Kd.R_keep (IsS79.apart (show IsS79 w0 _ g x1000_3 x1001_3 from by repeat (first | (with_reducible first | exact HI0.out | apply IsS79.alloc | apply IsS79.drewN | apply IsS79.drew | apply IsS79.set_0 | apply IsS79.set_1 | refine IsS79.far ?_ NB0_300.out _) | exact HI0.out)) (rz HO_4.out) (by decide)) hk (fun _ h => h.2)) (fun _ h => h.1)); have n1_ := am (Kd.R_mono (Kd.R_keep (IsS79.apart (show IsS79 w0 _ g x1000_3 x1001_3 from by repeat (first | (with_reducible first | exact HI0.out | apply IsS79.alloc | apply IsS79.drewN | apply IsS79.drew | apply IsS79.set_0 | apply IsS79.set_1 | refine IsS79.far ?_ NB0_300.out _) | exact HI0.out)) (rz HO_45.out) (by decide)) hk (fun _ h => h.2)) (fun _ h => h.1)); have n2_ := am (Kd.R_mono (Kd.R_keep (IsS79.apart (show IsS79 w0 _ g x1000_3 x1001_3 from by repeat (first | (with_reducible first | exact HI0.out | apply IsS79.alloc | apply IsS79.drewN | apply IsS79.drew | apply IsS79.set_0 | apply IsS79.set_1 | refine IsS79.far ?_ NB0_300.out _) | exact HI0.out)) (rz HO_301000.out) (by decide)) hk (fun _ h => h.2)) (fun _ h => h.1)); have n3_ := am (Kd.S_mono (Kd.S_keep (IsS79.apartS (show IsS79 w0 _ g x1000_3 x1001_3 from by repeat (first | (with_reducible first | exact HI0.out | apply IsS79.alloc | apply IsS79.drewN | apply IsS79.drew | apply IsS79.set_0 | apply IsS79.set_1 | refine IsS79.far ?_ NB0_300.out _) | exact HI0.out)) (by (with_reducible repeat (first | apply Kd.S_alloc | apply Kd.S_drewN | apply Kd.S_drew)); exact HO_301001.out) (by decide)) hk (fun _ h => h.2)) (fun _ h => h.1))
              have n4_ := am (KeepBut.blk hk (g' := gb300) (o := .cells #[u301000, u301001] 84 (0, 0)) (bk BK300.out) NB300_0.out (by simp)); have n5_ := am (KeepBut.trans (by repeat (first | (with_reducible first | exact HK.out | apply KeepBut.set_ | apply keep_drewN | apply keep_drew | apply keep_alloc | refine keep_far ?_ GW300.out _) | exact HK.out)) hk (.inl rfl)); have n6_ := am (hb); have n7_ := am (hi); clear HO_4; clear HO_45; clear HO_301000; clear HO_301001; clear BK300; clear HK; clear HB; clear HI0; have HO_4 := n0_; have HO_45 := n1_; have HO_301000 := n2_; have HO_301001 := n3_; have BK300 := n4_; have HK := n5_; have HB := n6_; have HI0 := n7_; clear n0_ n1_ n2_ n3_ n4_ n5_ n6_ n7_; refine hK.out _ _ ⟨(blk_cell BK300.out 0).trans rfl, (blk_cell BK300.out 1).trans rfl, (by obtain ⟨ad_, e_, hx_⟩ := Kd.at_int (Kd.R_reads' HO_4.out).2.2 x47_3 (of_eq_true p337) (of_eq_true q337); cases e_; exact hx_)⟩ (fun hHeld => ?_)
              clear hK K; refine norm_ (a' := ?_) ?_ ?_
              rotate_left
              ·show Act.put _ (some 63) _ = _
               simp only [Act.put, sA, sB, sC, i64_w, i32_w]
               rfl
              refine one_ (i := 12) (N := (some 64)) #[tT,tT,tT,tT,tT,tT,tT,tT,tT,tT,tT,tT,tT,fF,fF,fF,fF,fF,fF] rfl rfl (one_of HT_.out (by kernel_rfl)) (by decide) (fun K hK => ?_)
              have hcv_ := (Kd.C_string (P := Tryd.prog) (A := Aq_) (c := cq_) Tryd.underlying27 Tryd.underlying5 Tryd.underlying9 (Kd.C_below hrq_ HB.out)).trans (congrArg (fun z => Result.ok (Value.string z) w39) hq1_); refine value_ (w1 := ?_) (v := ?_) (by rfl) rfl ?_ ?_
              rotate_left 2
              ·go_simp
               constructor
               ·rfl
               ·rfl
              refine hK.out _ _ ⟨(blk_cell BK300.out 0).trans rfl, (blk_cell BK300.out 1).trans rfl, (by obtain ⟨ad_, e_, hx_⟩ := Kd.at_int (Kd.R_reads' HO_4.out).2.2 x47_3 (of_eq_true p337) (of_eq_true q337); cases e_; exact hx_)⟩ (fun hHeld => ?_)
              clear hK K; refine norm_ (a' := ?_) ?_ ?_
              rotate_left
              ·show Act.put _ (some 64) _ = _
               simp only [Act.put, sA, sB, sC, i64_w, i32_w]
               rfl
              refine pure_ (i := 13) (N := (some 65)) (v := ?_) (a' := ?_) #[tT,tT,tT,tT,tT,tT,tT,tT,tT,tT,tT,tT,tT,tT,fF,fF,fF,fF,fF] rfl rfl (any_of HT_.out (by kernel_rfl)) (fun _ _ _ h => h) (Or.inl ⟨by rfl, ?_⟩) ?_ ?_
              rotate_left
              ·intro w'
               go_simp
               with_reducible rfl
              rotate_left
              ·simp only [Act.put, sA, sB, sC, i64_w, i32_w]
               rfl
              refine one_ (i := 14) (N := (some 66)) #[tT,tT,tT,tT,tT,tT,tT,tT,tT,tT,tT,tT,tT,tT,tT,fF,fF,fF,fF] rfl rfl (one_of HT_.out (by kernel_rfl)) (by decide) (fun K hK => ?_)
              refine value_ (w1 := ?_) (v := ?_) (by rfl) rfl ?_ ?_
              rotate_left 2
              ·go_simp
               constructor
               ·rfl
               ·rfl
              refine hK.out _ _ ⟨(blk_cell (kA BK300.out _) 0).trans rfl, (blk_cell (kA BK300.out _) 1).trans rfl, (by obtain ⟨ad_, e_, hx_⟩ := Kd.at_int (Kd.R_reads' (rA HO_4.out _)).2.2 x47_3 (of_eq_true p337) (of_eq_true q337); cases e_; exact hx_)⟩ (fun hHeld => ?_)
              clear hK K; refine norm_ (a' := ?_) ?_ ?_
              rotate_left
              ·show Act.put _ (some 66) _ = _
               simp only [Act.put, sA, sB, sC, i64_w, i32_w]
               rfl
              refine one_ (i := 15) (N := (some 67)) #[tT,tT,tT,tT,tT,tT,tT,tT,tT,tT,tT,tT,tT,tT,tT,tT,fF,fF,fF] rfl rfl (one_of HT_.out (by kernel_rfl)) (by decide) (fun K hK => ?_)
              refine Kd.R_append_step k115 w.heap.size (by rfl) (.tmp 56) (.tmp 66) 81 115 (.agg #[(.int .i64 0), (.string ⟨#[]⟩)]) 24 rfl Tryd.underlying81 info115 rfl (by decide) (by omega) u301000 x301000_3 (⟨rd x4_1 x47_3, t338⟩ : S115) [.int .i64 (rd x4_1 x47_3), .string t338] (fun _ => True) (fun _ => False) rfl rfl ?aP (fun _ hk => hk.elim) ?aF ?aO (Below.refl _ _) ?aS ?aL ?_
              (case aP => exact k115_mkM _ _ _ (⟨rd x4_1 x47_3, t338⟩ : S115))
              (case aF => exact (fun _ _ => trivial))
              (case aO => exact (rz HO_301000.out))
              (case aS => exact (keep_size (w := w) (g := g) (row := none) (by repeat (first | (with_reducible first | exact HK.out | apply KeepBut.set_ | apply keep_drewN | apply keep_drew | apply keep_alloc | refine keep_far ?_ GW300.out _) | exact HK.out))))
              (case aL => have := LMc35.out; omega)
              intro v342 w40 ho hb hg hat; rw [← Ny341.out] at ho; have n0_ := am (Kd.R_over' (rz HO_4.out) (Kd.R_typed (rz HO_301000.out)) (by decide) hg); have n1_ := am (Kd.R_over' (rz HO_45.out) (Kd.R_typed (rz HO_301000.out)) (by decide) hg); have n2_ := am (Kd.S_over' (by (with_reducible repeat (first | apply Kd.S_alloc | apply Kd.S_drewN | apply Kd.S_drew)); exact HO_301001.out) (Kd.R_typed (rz HO_301000.out)) (by decide) hg); have n3_ := am (blk_grown (g := gb300) (o := .cells #[u301000, u301001] 84 (0, 0)) (bk BK300.out) hg (Kd.R_ne HO_301000.out BK300.out (by decide))); have n4_ := am (IsS79.grown (by repeat (first | (with_reducible first | exact HI0.out | apply IsS79.alloc | apply IsS79.drewN | apply IsS79.drew | apply IsS79.set_0 | apply IsS79.set_1 | refine IsS79.far ?_ NB0_300.out _) | exact HI0.out)) hg (IsS79.own_ne HI0.out HO_301000.out (by decide))); have n5_ := am (below_weaken (by repeat (first | (with_reducible first | exact HB.out | apply bA | apply bN | apply bO | refine below_set ?_ (IsS79.ge HI0.out) | refine below_set ?_ GE300.out) | exact HB.out)) HL.out hb)
              have n6_ := am (KeepBut.trans (by repeat (first | (with_reducible first | exact HK.out | apply KeepBut.set_ | apply keep_drewN | apply keep_drew | apply keep_alloc | refine keep_far ?_ GW300.out _) | exact HK.out)) (KeepBut.of_grown hg g) (Kd.R_base2 HO_301000.out)); have n7_ := am (ho); clear HO_4; clear HO_45; clear HO_301001; clear BK300; clear HI0; clear HB; clear HK; clear HO_301000; have HO_4 := n0_; have HO_45 := n1_; have HO_301001 := n2_; have BK300 := n3_; have HI0 := n4_; have HB := n5_; have HK := n6_; have HO343 := n7_; clear n0_ n1_ n2_ n3_ n4_ n5_ n6_ n7_; clear ho hb hg hat; obtain ⟨Ao41, co41, eo41⟩ := Kd.R_slice HO343.out; (first | subst eo41 | (injection eo41 with f1_ f2_ f3_; have f4_ := f1_.symm; have f5_ := f3_.symm; clear f1_ f2_ f3_; subst f4_; subst f5_))
              refine hK.out _ _ ⟨(blk_cell BK300.out 0).trans rfl, (blk_cell BK300.out 1).trans rfl, (by obtain ⟨ad_, e_, hx_⟩ := Kd.at_int (Kd.R_reads' HO_4.out).2.2 x47_3 (of_eq_true p337) (of_eq_true q337); cases e_; exact hx_)⟩ (fun hHeld => ?_)
              clear hK K; refine norm_ (a' := ?_) ?_ ?_
              rotate_left
              ·show Act.put _ (some 67) _ = _
               simp only [Act.put, sA, sB, sC, i64_w, i32_w]
               rfl
              refine pure_ (i := 16) (N := (some 68)) (v := ?_) (a' := ?_) #[tT,tT,tT,tT,tT,tT,tT,tT,tT,tT,tT,tT,tT,tT,tT,tT,tT,fF,fF] rfl rfl (any_of HT_.out (by kernel_rfl)) (fun _ _ _ h => h) (Or.inl ⟨by rfl, ?_⟩) ?_ ?_
              rotate_left
              ·intro w'
               go_simp
               with_reducible rfl
              rotate_left
              ·simp only [Act.put, sA, sB, sC, i64_w, i32_w]
               rfl
              refine pure_ (i := 17) (N := (some 69)) (v := ?_) (a' := ?_) #[tT,tT,tT,tT,tT,tT,tT,tT,tT,tT,tT,tT,tT,tT,tT,tT,tT,tT,fF] rfl rfl (any_of HT_.out (by kernel_rfl)) (fun _ _ _ h => h) (Or.inl ⟨by rfl, ?_⟩) ?_ ?_
              rotate_left
              ·intro w'
               go_simp
               with_reducible rfl
              rotate_left
              ·simp only [Act.put, sA, sB, sC, i64_w, i32_w]
               rfl
              refine last_ (i := 18) (N := none) #[tT,tT,tT,tT,tT,tT,tT,tT,tT,tT,tT,tT,tT,tT,tT,tT,tT,tT,tT] rfl rfl (one_of HT_.out (by kernel_rfl)) (by decide) (fun K hK => ?_)
              have hs_ : w40.cell? ⟨gb300, 0, none⟩ = some (u301000) := (blk_cell BK300.out 0).trans rfl; have hfs_ := blk_frozen BK300.out 0; refine skip_ (w1 := ?_) (by rfl) rfl ?_ ?_
              rotate_left
              ·go_simp
               rfl
              refine hK.out _ _ ?_
              clear hK K; refine done_ (done_of HT_.out (by kernel_rfl)) ?_
              try go_wp2
              go_roundg k3
              case measure => have := HK1.out; have := HK2.out; have := HK3.out; omega
              case rel => exact ⟨(wrap64 (x47_3 + 1)), (xq_), (bq_), (y341), (Value.bool false), (.slice Ao41 y341.length co41), (by first | rfl | (simp; done) | (simp [*]; done)), H', ⟨by have := HK1.out; have := HK2.out; have := HK3.out; omega⟩, ⟨rz (Kd.R_mono (Kd.R_far (p := ⟨gb300, 0, none⟩) (Kd.R_types HO_4.out BK300.out (by decide)) (fun _ hk => hk.2) (.slice Ao41 y341.length co41)) (fun _ hk => hk.1))⟩, ⟨rz (Kd.R_mono (Kd.R_far (p := ⟨gb300, 0, none⟩) (Kd.R_types HO_45.out BK300.out (by decide)) (fun _ hk => hk.2) (.slice Ao41 y341.length co41)) (fun _ hk => hk.1))⟩, ⟨rz (Kd.R_mono (Kd.R_far (p := ⟨gb300, 0, none⟩) (Kd.R_types HO343.out BK300.out (by decide)) (fun _ hk => hk.2) (.slice Ao41 y341.length co41)) (fun _ hk => trivial))⟩, ⟨by (with_reducible repeat (first | apply Kd.S_alloc | apply Kd.S_drewN | apply Kd.S_drew)); exact Kd.S_mono (Kd.S_far (p := ⟨gb300, 0, none⟩) (Kd.S_types HO_301001.out BK300.out (by decide)) (fun _ hk => hk.2) (.slice Ao41 y341.length co41)) (fun _ hk => ⟨hk.1.1, hk.1.2⟩)⟩, ⟨by (with_reducible repeat (first | refine kN ?_ _ | refine kD ?_ | refine kA ?_ _)); refine blk_put (cs := #[u301000, u301001]) ?_ 0 _ rfl; (with_reducible repeat (first | refine kN ?_ _ | refine kD ?_ | refine kA ?_ _)); exact BK300.out⟩, ⟨by repeat (first | (with_reducible first | exact HI0.out | apply IsS79.alloc | apply IsS79.drewN | apply IsS79.drew | apply IsS79.set_0 | apply IsS79.set_1 | refine IsS79.far ?_ NB0_300.out _) | exact HI0.out)⟩, ⟨by repeat (first | (with_reducible first | exact HK.out | apply KeepBut.set_ | apply keep_drewN | apply keep_drew | apply keep_alloc | refine keep_far ?_ GW300.out _) | exact HK.out)⟩, ⟨by repeat (first | (with_reducible first | exact HB.out | apply bA | apply bN | apply bO | refine below_set ?_ (IsS79.ge HI0.out) | refine below_set ?_ GE300.out) | exact HB.out)⟩⟩
             ·rw [if_neg c35] at H
              exact absurd H (by simp)
            ·rw [if_neg c33] at H
             exact absurd H (by simp)
           ·rw [if_neg c32] at H
            exact absurd H (by simp)
          ·rw [if_neg c31] at H
           exact absurd H (by simp)
         ·rw [if_neg c30] at H
          have c30b0 : decide (x47_3 < (x5_1.length : Int)) = false := decide_eq_false c30; clear c30; simp only [Option.some.injEq, Prod.mk.injEq] at H
          obtain ⟨rfl, rfl, rfl, rfl⟩ := H; go_wp2
          go_ret; exact ⟨_, _, gb300, rfl, (bk BK300.out), GW300.out, by (with_reducible repeat (first | apply rA | apply rN | apply rD)); exact HO_301000.out, by (with_reducible repeat (first | apply Kd.S_alloc | apply Kd.S_drewN | apply Kd.S_drew)); exact Kd.S_mono HO_301001.out (fun _ hk => trivial), by repeat (first | (with_reducible first | exact HI0.out | apply IsS79.alloc | apply IsS79.drewN | apply IsS79.drew | apply IsS79.set_0 | apply IsS79.set_1 | refine IsS79.far ?_ NB0_300.out _) | exact HI0.out), by repeat (first | (with_reducible first | exact HB.out | apply bA | apply bN | apply bO | refine below_set ?_ (IsS79.ge HI0.out) | refine below_set ?_ GE300.out) | exact HB.out), by repeat (first | (with_reducible first | exact HK.out | apply KeepBut.set_ | apply keep_drewN | apply keep_drew | apply keep_alloc | refine keep_far ?_ GW300.out _) | exact HK.out)⟩

end Go.Proofs.YthbdbgjggoobnaaDoor.P
-- FIX_VIEW
