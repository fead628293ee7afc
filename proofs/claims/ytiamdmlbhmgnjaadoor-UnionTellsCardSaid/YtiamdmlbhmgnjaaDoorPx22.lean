/- Laid by a program of this session (wip/pr), after the printer of the kit: the functions that a statement reaches as plain Lean functions, and that the calls of the machine come to them. No condition. -/
import Derived.Test.YtiamdmlbhmgnjaaDoorHandLend
import Derived.Shelf.Spec.SlicesInsert
import Derived.ArgAppend
import Derived.Test.YtiamdmlbhmgnjaaDoorPx0
import Derived.Test.YtiamdmlbhmgnjaaDoorPx5
namespace Go.Proofs.YtiamdmlbhmgnjaaDoor.P
open Go.RowKit Go.Proofs.YtiamdmlbhmgnjaaDoorX Go.Proofs.YtiamdmlbhmgnjaaDoorW.PrintWords Go.Proofs.YtiamdmlbhmgnjaaDoorW.PrintLast Go.Proofs.YtiamdmlbhmgnjaaDoorW.PrintMore
attribute [local go_sem] max2_int min2_int max_two min_two
set_option linter.unusedVariables false
set_option linter.unusedSimpArgs false

/-! ### hogsheadref2_Sort: function 23 -/
/-- copy(l[x+1:], l[x:]): what stands from x on goes one place up, the last falls out. -/
def copyDn (l : List S37) (x : Int) : Option (List S37) := if x.toNat < l.length then some (l.take (x.toNat + 1) ++ (l.drop x.toNat).take (l.length - (x.toNat + 1))) else none
/-- A copy whose cells are known, elements of any size. -/
theorem run_copy_sized {P : Program} (w : World) (dT sT ty elem : TypeId) (i : TypeInfo) (hu : P.underlying dT = some (.slice elem)) (hi : P.info? elem = some i) (g o dLen dCap : Nat) (a : Addr) (sLen sCap : Nat) (cs : List Value)
  (hn : cs.length = Nat.min sLen dLen * i.size) (hsrc : ∀ j v, cs[j]? = some v → w.cell? (a.add j) = some v) (hc : ∀ j, j < cs.length → (w.cell? ⟨g, o + j, none⟩).isSome = true) (hf : ∀ j, j < cs.length → w.frozen? ⟨g, o + j, none⟩ = false) (h1 : ∀ v ∈ cs, v.oneCell' = true) :
  (Builtin.copy_ #[dT, sT] ty #[.slice (some ⟨g, o, none⟩) dLen dCap, .slice (some a) sLen sCap]).run P w = .ok (goInt (Nat.min sLen dLen)) (w.setCells g o cs) := by
 have hl := run_loadCells_list (P := P) w a cs hsrc; have hst := run_storeCells_cells (P := P) g o cs 0 w (by simpa using hc) (by simpa using hf) h1; rw [hn] at hl; simp [Builtin.copy_, run_underlying hu, Builtin.lenOf, Builtin.firstCells, sizeOf, typeInfo, hi, hl, hst]
theorem copyDn_run (ty : TypeId) {w w0 : World} {base : Nat} {ok : Nat → Prop} {A : Option Addr} {c : Nat} {l t : List S37} {x j : Int} (h : Kd.R k37 37 w base ok (.slice A l.length c) l) (hf : copyDn l x = some t) (hj : j.toNat = x.toNat + 1)
  {A1 A2 : Option Addr} (hA1 : A1 = if c = j.toNat then A else A.map (·.add (j.toNat * 3))) (hA2 : A2 = if c = x.toNat then A else A.map (·.add (x.toNat * 3))) {n1 n2 : Nat} (hn1 : n1 = l.length - j.toNat) (hn2 : n2 = l.length - x.toNat) (c1 c2 : Nat) (hb : Below base w0 w) :
  ∃ v' w', (Builtin.copy_ #[25, 25] ty #[.slice A1 n1 c1, .slice A2 n2 c2]).run Tryd.prog w = .ok v' w' ∧ Kd.R k37 37 w' base ok (.slice A l.length c) t ∧ Below base w0 w' := by
 have hu := Tryd.underlying37; obtain ⟨i, hi, hi2⟩ := Option.map_eq_some_iff.1 (show (Tryd.prog.info? 37).map (fun i => i.size) = some 3 by kernel_rfl); unfold copyDn at hf
 by_cases hk : x.toNat < l.length
 case neg => rw [if_neg hk] at hf; cases hf
 rw [if_pos hk] at hf; injection hf with hf; obtain ⟨hok, inner, ⟨hil, hrow⟩, hrep⟩ := h; rcases hrow with ⟨_, h0⟩ | ⟨g, cap, cur, hv, hbg, hblk, hnc, hcm, hcs, htk⟩
 ·exact absurd h0 (by omega)
 injection hv with hA _ hc; subst hA; subst hc; generalize hx : x.toNat = k at *
 rw [hj] at hA1 hn1; have hil' : inner.length = l.length * 3 := hil; have hcs' : cur.size = c * 3 := hcs; have hsz : (k37).sz = 3 := rfl; have hcurl : cur.toList.length = c * 3 := by rw [Array.length_toList]; exact hcs'
 have htk' : cur.toList.take (l.length * 3) = inner := htk; obtain ⟨cs, hcsd⟩ : ∃ cs, cs = (inner.drop (k * 3)).take ((l.length - (k + 1)) * 3) := ⟨_, rfl⟩; have hcsl : cs.length = (l.length - (k + 1)) * 3 := by rw [hcsd, lT, lD, hil']; omega
 have hmin : Nat.min n2 n1 = l.length - (k + 1) := by rw [hn1, hn2]; exact Nat.min_eq_right (by omega)
 have hcell : ∀ q, q < l.length * 3 → ∀ u, inner[q]? = some u → w.cell? ⟨g, q, none⟩ = some u := by
  intro q hq u hqu; rw [blk_cell hblk, ← Array.getElem?_toList, ← hqu, ← htk', List.getElem?_take_of_lt hq]
 obtain ⟨o1, ho1, ho1k⟩ : ∃ o1, A1 = some ⟨g, o1, none⟩ ∧ (cs = [] ∨ o1 = (k + 1) * 3) := by
  by_cases hck : c = k + 1
  ·rw [if_pos hck] at hA1
   exact ⟨0, hA1, Or.inl (List.eq_nil_of_length_eq_zero (by rw [hcsl]; omega))⟩
  ·rw [if_neg hck] at hA1
   exact ⟨0 + (k + 1) * 3, by rw [hA1]; simp [Addr.add_lit], Or.inr (by omega)⟩
 have ho2 : A2 = some ⟨g, k * 3, none⟩ := by
  rw [if_neg (by omega)] at hA2; rw [hA2]; simp [Addr.add_lit]
 have hone : ∀ u ∈ inner, u.oneCell' = true := by
  intro u hu; obtain ⟨q, hq, rfl⟩ := List.getElem_of_mem hu; have hjl : q / 3 < l.length := by omega
  have h1 := hrep.2 (q / 3) (l[q / 3]'hjl) (List.getElem?_eq_getElem hjl); have h2 : ((inner.drop (q / 3 * 3)).take 3)[q % 3]? = some inner[q] := by
   rw [List.getElem?_take_of_lt (by omega), List.getElem?_drop, show q / 3 * 3 + q % 3 = q by omega, List.getElem?_eq_getElem hq]
  rw [show (inner.drop (q / 3 * 3)).take 3 = _ from k37_openM h1] at h2; have h3 : q % 3 = 0 ∨ q % 3 = 1 ∨ q % 3 = 2 := by omega
  rcases h3 with h3 | h3 | h3 <;> rw [h3] at h2
  ·rw [← Option.some.inj (show some (Value.string _) = some inner[q] from h2)]; rfl
  ·rw [← Option.some.inj (show some (Value.int _ _) = some inner[q] from h2)]; rfl
  ·rw [← Option.some.inj (show some (Value.string _) = some inner[q] from h2)]; rfl
 have hlt : ∀ q, q < cs.length → o1 + q < c * 3 := by
  intro q hq; rcases ho1k with h0 | h0
  ·rw [h0] at hq; exact absurd hq (by simp)
  ·rw [h0]; omega
 have hrun := run_copy_sized (P := Tryd.prog) w 25 25 ty 37 i Tryd.underlying25 hi g o1 n1 c1 ⟨g, k * 3, none⟩ n2 c2 cs (by rw [hmin, hi2, hcsl])
  (fun q v hq => by
   have hql : q < cs.length := by
    rcases Nat.lt_or_ge q cs.length with h | h
    ·exact h
    ·rw [List.getElem?_eq_none h] at hq; cases hq
   rw [Addr.add_lit]; refine hcell _ (by omega) _ ?_
   rw [hcsd, List.getElem?_take_of_lt (by omega), List.getElem?_drop] at hq; exact hq)
  (fun q hq => by
   rw [blk_cell hblk, ← Array.getElem?_toList, List.getElem?_eq_getElem (by rw [hcurl]; exact hlt q hq)]; rfl)
  (fun q hq => blk_frozen hblk _)
  (fun v hv => hone v (by rw [hcsd] at hv; exact List.mem_of_mem_drop (List.mem_of_mem_take hv)))
 rw [ho1, ho2]; refine ⟨_, _, hrun, ?_, Go.Proofs.YtiamdmlbhmgnjaaDoorX.below_setCells _ _ _ hb hbg⟩
 have hnew : (w.setCells g o1 cs).heap[g]? = some (.cells (inner.take ((k + 1) * 3) ++ (cs ++ cur.toList.drop (l.length * 3))).toArray 37 (0, 0)) := by
  have hsplit : cur.toList = inner.take ((k + 1) * 3) ++ (inner.drop ((k + 1) * 3) ++ cur.toList.drop (l.length * 3)) := by
   rw [← List.append_assoc, List.take_append_drop, ← htk', List.take_append_drop]
  rcases ho1k with h0 | h0
  ·have he : inner.drop ((k + 1) * 3) = [] := List.drop_eq_nil_of_le (by rw [h0] at hcsl; simp only [List.length_nil] at hcsl; omega)
   rw [h0]; show w.heap[g]? = _
   rw [hblk, List.nil_append]; rw [he, List.nil_append] at hsplit; rw [← hsplit]
  ·rw [h0]
   refine blk_setCells cs ((k + 1) * 3) w (inner.take ((k + 1) * 3)) (inner.drop ((k + 1) * 3)) _ (by rw [← hsplit]; exact hblk) (by rw [lT]; omega) (by rw [lD]; omega)
 have hnl : (inner.take ((k + 1) * 3) ++ cs).length = l.length * 3 := by rw [List.length_append, lT, hcsl]; omega
 have htl : t.length = l.length := by rw [← hf, List.length_append, lT, lT, lD]; omega
 refine ⟨hok, inner.take ((k + 1) * 3) ++ cs, ⟨by rw [htl]; exact hnl, .inr ⟨g, c, _, by rw [htl], hbg, hnew, by omega, hcm, ?_, ?_⟩⟩, ?_⟩
 ·show (inner.take ((k + 1) * 3) ++ (cs ++ cur.toList.drop (l.length * 3))).length = c * 3
  rw [← List.append_assoc, List.length_append, hnl, lD, hcurl]; omega
 ·show (inner.take ((k + 1) * 3) ++ (cs ++ cur.toList.drop (l.length * 3))).take (t.length * 3) = _
  rw [htl, ← List.append_assoc, ← hnl]; exact List.take_left
 ·have hrep' : Reps (fun (x : S37) cs => cs = [Value.string x.f0, Value.int .i64 x.f1, Value.string x.f2]) 3 l inner := hrep.imp_ (fun p c hp => k37_openM hp)
  have h1 := Kd.reps_append (Kd.reps_take (m := k + 1) hrep' (by omega)) (Kd.reps_take (m := l.length - (k + 1)) (Kd.reps_drop (m := k) hrep') (by rw [lD]; omega)); rw [← hcsd, hf] at h1; exact h1.imp_ (fun p c hp => by rw [hp]; exact k37_mkM _ _ _ p)
theorem wrap_up (x : Int) (h0 : 0 ≤ x) (h1 : x ≤ 9000000000000000) : wrap64 (x + 1) = x + 1 := by unfold wrap64; omega
theorem up_one {x j : Int} {n m : Nat} (hj : wrap64 (x + 1) = j) (h0 : 0 ≤ x) (h1 : x ≤ (n : Int)) (hn : n = m + 1) (hm : m < 3518437208883) : j.toNat = x.toNat + 1 := by
 subst hj; rw [wrap_up x h0 (by omega)]; omega
mutual
def hogsheadref2_Sort.l0 : Nat → List (S37) → List (S37) → Int → Option ((List (S37)))
 | 0, _, _, _ => none
 | k + 1, x0, x3, x4 => if x4 < (x0.length : Int) then (hogsheadref2_Sort.l1 k x0 x3 x4 (x3.length : Int)) else (some x3)
def hogsheadref2_Sort.l1 : Nat → List (S37) → List (S37) → Int → Int → Option ((List (S37)))
 | 0, _, _, _, _ => none
 | k + 1, x0, x3, x4, x5 => if x5 > 0 then (if 0 ≤ (wrap64 (x5 - 1)) then (if (wrap64 (x5 - 1)) < (x3.length : Int) then (if 0 ≤ x4 then (if x4 < (x0.length : Int) then (if (Op.bytesLess (((rd_T37 x0 x4).f0).toList) (((rd_T37 x3 (wrap64 (x5 - 1))).f0).toList)) = true then (hogsheadref2_Sort.l1 k x0 x3 x4 (wrap64 (x5 - 1))) else (if x3.length < 3518437208883 then ((some (x3 ++ [(⟨(⟨#[]⟩ : ByteArray), 0, (⟨#[]⟩ : ByteArray)⟩ : S37)] : List (S37))).bind fun y302 => (if 0 ≤ (wrap64 (x5 + 1)) then (if (wrap64 (x5 + 1)) ≤ (y302.length : Int) then (if 0 ≤ x5 then (if x5 ≤ (y302.length : Int) then ((copyDn y302 x5).bind fun t313 => (if x5 < (y302.length : Int) then (hogsheadref2_Sort.l0 k x0 (t313.set (x5 : Int).toNat (⟨(rd_T37 x0 x4).f0, (rd_T37 x0 x4).f1, (rd_T37 x0 x4).f2⟩ : S37)) (wrap64 (x4 + 1))) else (none))) else (none)) else (none)) else (none)) else (none))) else (none))) else (none)) else (none)) else (none)) else (none)) else (if x3.length < 3518437208883 then ((some (x3 ++ [(⟨(⟨#[]⟩ : ByteArray), 0, (⟨#[]⟩ : ByteArray)⟩ : S37)] : List (S37))).bind fun y316 => (if 0 ≤ (wrap64 (x5 + 1)) then (if (wrap64 (x5 + 1)) ≤ (y316.length : Int) then (if 0 ≤ x5 then (if x5 ≤ (y316.length : Int) then ((copyDn y316 x5).bind fun t327 => (if 0 ≤ x4 then (if x4 < (x0.length : Int) then (if x5 < (y316.length : Int) then (hogsheadref2_Sort.l0 k x0 (t327.set (x5 : Int).toNat (⟨(rd_T37 x0 x4).f0, (rd_T37 x0 x4).f1, (rd_T37 x0 x4).f2⟩ : S37)) (wrap64 (x4 + 1))) else (none)) else (none)) else (none))) else (none)) else (none)) else (none)) else (none))) else (none))
end
def hogsheadref2_Sort.f (k : Nat) (l0 : List (S37)) : Option ((List (S37))) := hogsheadref2_Sort.l0 k l0 ([] : List (S37)) 0
theorem hogsheadref2_Sort.mono_l : ∀ k, (∀ y0 y1 y2, LeO (hogsheadref2_Sort.l0 k y0 y1 y2) (hogsheadref2_Sort.l0 (k + 1) y0 y1 y2)) ∧ (∀ y0 y1 y2 y3, LeO (hogsheadref2_Sort.l1 k y0 y1 y2 y3) (hogsheadref2_Sort.l1 (k + 1) y0 y1 y2 y3))
 | 0 => ⟨fun _ _ _ r h => by simp [hogsheadref2_Sort.l0] at h, fun _ _ _ _ r h => by simp [hogsheadref2_Sort.l1] at h⟩
 | k + 1 => by
  obtain ⟨ih0, ih1⟩ := hogsheadref2_Sort.mono_l k; refine ⟨?_, ?_⟩
  ·intro y0 y1 y2
   unfold hogsheadref2_Sort.l0
   repeat' with_reducible first | exact ih0 _ _ _ | exact ih1 _ _ _ _ | exact api_Node_59.mono _ _ _ _ _ _ | exact LeO.refl _ | exact LeO.none _ | refine LeO.ite ?_ ?_ | refine LeO.bind ?_ (fun _ => ?_)
  ·intro y0 y1 y2 y3
   unfold hogsheadref2_Sort.l1
   repeat' with_reducible first | exact ih0 _ _ _ | exact ih1 _ _ _ _ | exact api_Node_59.mono _ _ _ _ _ _ | exact LeO.refl _ | exact LeO.none _ | refine LeO.ite ?_ ?_ | refine LeO.bind ?_ (fun _ => ?_)
theorem hogsheadref2_Sort.mono : ∀ a0 k, LeO (hogsheadref2_Sort.f k a0) (hogsheadref2_Sort.f (k + 1) a0) := by
 intro a0 k; obtain ⟨ih0, ih1⟩ := hogsheadref2_Sort.mono_l k; unfold hogsheadref2_Sort.f
 repeat' with_reducible first | exact ih0 _ _ _ | exact ih1 _ _ _ _ | exact api_Node_59.mono _ _ _ _ _ _ | exact LeO.refl _ | exact LeO.none _ | refine LeO.ite ?_ ?_ | refine LeO.bind ?_ (fun _ => ?_)
def hogsheadref2_Sort.T6 : Bool × List (List Nat × List Nat) := (true, [([], []), ([0], [0]), ([1], [1]), ([2], [2]), ([2], [2]), ([4, 2], [2, 4]), ([3, 5, 2], [2, 3, 5]), ([6, 2], [2, 6]), ([7, 2], [2, 7]), ([2], [2]), ([2], [2]), ([9, 10, 2], [2, 9, 10]), ([11, 2], [2, 11]), ([12, 2], [2, 12]), ([8, 13, 2], [2, 8, 13]), ([2, 14], [2, 14])])
def hogsheadref2_Sort.B6 : List Nat := [0, 1, 3, 7, 7, 23, 63, 127, 255, 7, 7, 1543, 3591, 7687, 16383, 32767]
theorem hogsheadref2_Sort.tab6 : rtab .any (opsOf Tryd.f23 6) = hogsheadref2_Sort.T6 := by kernel_rfl
theorem hogsheadref2_Sort.bits6 : waitsOk hogsheadref2_Sort.T6.2 hogsheadref2_Sort.B6 = true := by kernel_rfl
def hogsheadref2_Sort.T9 : Bool × List (List Nat × List Nat) := (true, [([], []), ([], []), ([1], [1]), ([0, 2], [0, 2]), ([], []), ([], []), ([4, 5], [4, 5]), ([3, 6], [3, 6])])
def hogsheadref2_Sort.B9 : List Nat := [0, 0, 2, 7, 0, 0, 48, 127]
theorem hogsheadref2_Sort.tab9 : rtab .any (opsOf Tryd.f23 9) = hogsheadref2_Sort.T9 := by kernel_rfl
theorem hogsheadref2_Sort.bits9 : waitsOk hogsheadref2_Sort.T9.2 hogsheadref2_Sort.B9 = true := by kernel_rfl
set_option maxHeartbeats 8000000 in
set_option maxRecDepth 100000 in
theorem hogsheadref2_Sort.calls (k : Nat) (A0 : Option Addr) (c0 : Nat) (l0 : List (S37)) (r : List (S37)) (w : World) (hr0 : Kd.C k37 w A0 l0.length l0) (hc0 : l0.length ≤ c0) (h : hogsheadref2_Sort.f k l0 = some r) :
  Calls Tryd.prog 23 #[.slice A0 l0.length c0] w fun e w' => ∃ v0_ : Value, e = .returned (v0_) ∧ Kd.R k37 37 w' w.heap.size (fun _ => True) v0_ r ∧ Below w.heap.size w w' := by
 have hu37 := Tryd.underlying37; have HR0 := am hr0; have HC0 := am hc0; clear hr0 hc0; have HB := am (Below.refl w.heap.size w); have H : (hogsheadref2_Sort.l0 k l0 ([] : List (S37)) 0) = some r := h; clear h; have H' := am H; clear H; go_enter Tryd.func23, Tryd.ntmps23; go_wp2
 go_loopg [3, 4] k (fun kq v3 v4 w' => ∃ (x3_1 : List (S37)) (x4_1 : Int), v4 = .int .i64 x4_1 ∧ Aside0 (hogsheadref2_Sort.l0 kq l0 x3_1 x4_1 = some r) ∧ Aside0 (kq ≤ k) ∧ Aside0 (Kd.R k37 37 w' w.heap.size (fun _ => True) v3 x3_1) ∧ Aside0 (Below w.heap.size w w'))
 case atStart => exact ⟨(([] : List (S37))), (0), (by first | rfl | (simp; done) | (simp [*]; done)), H', ⟨Nat.le_refl _⟩, ⟨by first | exact Kd.R_nil _ _ _ _ _ | exact Kd.N_nil _ _ _ _ _ | exact Kd.V_nil _ _ _ _ _ | exact Kd.Q_nil _ _ _ _ _ | exact Kd.S_nil _ _ _ _ _⟩, ⟨bz⟩⟩
 case round =>
  clear H'; obtain ⟨x3_1, x4_1, rfl, HA, HK1, HO_3, HB⟩ := hrel; cases gk with
  | zero => exact absurd HA.out (by simp [hogsheadref2_Sort.l0])
  | succ k1 =>
   have H := HA.out; clear HA; simp only [hogsheadref2_Sort.l0] at H
   by_cases c2 : x4_1 < (l0.length : Int)
   ·rw [if_pos c2] at H
    have c2b0 : decide (x4_1 < (l0.length : Int)) = true := decide_eq_true c2; clear c2; have H' := am H; clear H; obtain ⟨Ao3, co3, eo3⟩ := Kd.R_slice HO_3.out; subst eo3; go_wp2
    go_loopg [5] k1 (fun kq v5 w' => ∃ (x5_2 : Int), v5 = .int .i64 x5_2 ∧ Aside0 (hogsheadref2_Sort.l1 kq l0 x3_1 x4_1 x5_2 = some r) ∧ Aside0 (kq ≤ k1) ∧ Aside0 (Kd.R k37 37 w' w.heap.size (fun _ => True) (.slice Ao3 x3_1.length co3) x3_1) ∧ Aside0 (Below w.heap.size w w'))
    case atStart => exact ⟨((x3_1.length : Int)), (by first | rfl | (simp; done) | (simp [*]; done)), H', ⟨Nat.le_refl _⟩, ⟨rz HO_3.out⟩, ⟨bz⟩⟩
    case round =>
     clear H'; (try clear c2); (try clear c2b0); (try clear p2); obtain ⟨x5_2, rfl, HA, HK2, HO_3, HB⟩ := hrel; cases gk with
     | zero => exact absurd HA.out (by simp [hogsheadref2_Sort.l1])
     | succ k2 =>
      have H := HA.out; clear HA; simp only [hogsheadref2_Sort.l1] at H
      by_cases c4 : x5_2 > 0
      ·rw [if_pos c4] at H
       have c4b0 : decide (0 < x5_2) = true := decide_eq_true c4; clear c4; obtain ⟨ji5, hji5⟩ : ∃ j_ : Int, (wrap64 (x5_2 - 1)) = j_ := ⟨_, rfl⟩; replace H : (if 0 ≤ (ji5) then (if (ji5) < (x3_1.length : Int) then (if 0 ≤ x4_1 then (if x4_1 < (l0.length : Int) then (if (Op.bytesLess (((rd_T37 l0 x4_1).f0).toList) (((rd_T37 x3_1 (ji5)).f0).toList)) = true then (hogsheadref2_Sort.l1 k2 l0 x3_1 x4_1 ji5) else (if x3_1.length < 3518437208883 then ((some (x3_1 ++ [(⟨(⟨#[]⟩ : ByteArray), 0, (⟨#[]⟩ : ByteArray)⟩ : S37)] : List (S37))).bind fun y302 => (if 0 ≤ (wrap64 (x5_2 + 1)) then (if (wrap64 (x5_2 + 1)) ≤ (y302.length : Int) then (if 0 ≤ x5_2 then (if x5_2 ≤ (y302.length : Int) then ((copyDn y302 x5_2).bind fun t313 => (if x5_2 < (y302.length : Int) then (hogsheadref2_Sort.l0 k2 l0 (t313.set (x5_2 : Int).toNat (⟨(rd_T37 l0 x4_1).f0, (rd_T37 l0 x4_1).f1, (rd_T37 l0 x4_1).f2⟩ : S37)) (wrap64 (x4_1 + 1))) else (none))) else (none)) else (none)) else (none)) else (none))) else (none))) else (none)) else (none)) else (none)) else (none)) = some r := by first | (rw [hji5] at H; exact H) | (simp only [hji5] at H ⊢; exact H)
       have hji5w : (IntKind.i64.wrap (x5_2 - 1)) = ji5 := (i64_w _).trans hji5; by_cases c6 : 0 ≤ (ji5)
       ·rw [if_pos c6] at H
        have c6b0 : decide (0 ≤ (ji5)) = true := decide_eq_true c6; clear c6; by_cases c7 : (ji5) < (x3_1.length : Int)
        ·rw [if_pos c7] at H
         have c7b0 : decide ((ji5) < (x3_1.length : Int)) = true := decide_eq_true c7; clear c7; by_cases c8 : 0 ≤ x4_1
         ·rw [if_pos c8] at H
          have c8b0 : decide (0 ≤ x4_1) = true := decide_eq_true c8; clear c8; by_cases c9 : x4_1 < (l0.length : Int)
          ·rw [if_pos c9] at H
           have c9b0 : decide (x4_1 < (l0.length : Int)) = true := decide_eq_true c9; clear c9; by_cases c10 : (Op.bytesLess (((rd_T37 l0 x4_1).f0).toList) (((rd_T37 x3_1 (ji5)).f0).toList)) = true
           ·rw [if_pos c10] at H
            have c10b0 : (Op.bytesLess (((rd_T37 l0 x4_1).f0).toList) (((rd_T37 x3_1 (ji5)).f0).toList)) = true := c10; clear c10; have H' := am H; clear H; try go_wp2
            replace HO_3 := am (rD HO_3.out); replace HB := am (bO HB.out); have p300 : 0 ≤ ((ji5) : Int) := of_decide_eq_true (by assumption); have q300 : (ji5) < (x3_1.length : Int) := of_decide_eq_true (by assumption); obtain ⟨ad300, e300, hx300_0, hx300_1, hx300_2⟩ := at_T37 (Kd.R_reads' HO_3.out).2.2 (ji5) p300 q300; cases e300; replace p300 := eq_true p300; replace q300 := eq_true q300; have p301 : 0 ≤ (x4_1 : Int) := of_decide_eq_true (by assumption); have q301 : x4_1 < (l0.length : Int) := of_decide_eq_true (by assumption); obtain ⟨ad301, e301, hx301_0, hx301_1, hx301_2⟩ := at_T37 HR0.out x4_1 p301 q301; have hw301_2 := hx301_2; have hw301_1 := hx301_1; have hw301_0 := hx301_0; cases e301; replace hx301_0 := (HB.out.cell (wB w _ hx301_0)).trans hx301_0; replace hx301_1 := (HB.out.cell (wB w _ hx301_1)).trans hx301_1; replace hx301_2 := (HB.out.cell (wB w _ hx301_2)).trans hx301_2; replace p301 := eq_true p301; replace q301 := eq_true q301; refine start_ (n := 16) (S := fun w' => w'.cell? (ad300.add (((ji5)).toNat * 3)) = some (.string ((rd_T37 x3_1 (ji5)).f0)) ∧ w'.cell? ⟨(ad300.add (((ji5)).toNat * 3)).block, (ad300.add (((ji5)).toNat * 3)).off + 1, none⟩ = some (.int .i64 ((rd_T37 x3_1 (ji5)).f1)) ∧ w'.cell? ⟨(ad300.add (((ji5)).toNat * 3)).block, (ad300.add (((ji5)).toNat * 3)).off + 2, none⟩ = some (.string ((rd_T37 x3_1 (ji5)).f2)) ∧ w'.cell? (ad301.add ((x4_1).toNat * 3)) = some (.string ((rd_T37 l0 x4_1).f0)) ∧ w'.cell? ⟨(ad301.add ((x4_1).toNat * 3)).block, (ad301.add ((x4_1).toNat * 3)).off + 1, none⟩ = some (.int .i64 ((rd_T37 l0 x4_1).f1)) ∧ w'.cell? ⟨(ad301.add ((x4_1).toNat * 3)).block, (ad301.add ((x4_1).toNat * 3)).off + 2, none⟩ = some (.string ((rd_T37 l0 x4_1).f2))) (ds := []) #[fF,fF,fF,fF,fF,fF,fF,fF,fF,fF,fF,fF,fF,fF,fF,fF] (by kernel_rfl) rfl rfl ⟨hx300_0, hx300_1, hx300_2, ((HB.out.cell (wB w _ hw301_0)).trans hw301_0), ((HB.out.cell (wB w _ hw301_1)).trans hw301_1), ((HB.out.cell (wB w _ hw301_2)).trans hw301_2)⟩ (fun hHeld => ?_); refine with_tabW hogsheadref2_Sort.tab6 hogsheadref2_Sort.bits6 (fun HT_ HW_ => ?_)
            generalize wr.drew = w11 at HO_3 HB hx300_0 hx300_1 hx300_2 hx301_0 hx301_1 hx301_2 hHeld ⊢
            refine pu 0 (some 14) ?_
            refine pu 1 (some 15) ?_
            refine pu 2 (some 16) ?_
            refine pu 3 (some 17) ?_
            refine pu 4 (some 18) ?_
            refine pu 5 (some 19) ?_
            refine pu 6 (some 20) ?_
            refine pu 7 (some 21) ?_
            refine pu 9 (some 23) ?_
            refine pu 10 (some 24) ?_
            refine pu 11 (some 25) ?_
            refine pu 12 (some 26) ?_
            refine take_ (i := 8) (N := some 22) (v := ?_) (a' := ?_) #[tT,tT,tT,tT,tT,tT,tT,tT,tT,tT,tT,tT,tT,fF,fF,fF] rfl rfl (take_ofW HT_.out HW_.out (by kernel_rfl)) (fun _ _ _ h => h) (Or.inl ⟨by rfl, ?_⟩) hHeld ?_ ?_
            rotate_left
            ·rintro w' ⟨s0, s1, s2, s3, s4, s5⟩
             go_simp
             with_reducible rfl
            rotate_left
            ·simp only [Act.put, sA, sB, sC, i64_w, i32_w]
             rfl
            refine take_ (i := 13) (N := some 27) (v := ?_) (a' := ?_) #[tT,tT,tT,tT,tT,tT,tT,tT,tT,tT,tT,tT,tT,tT,fF,fF] rfl rfl (take_ofW HT_.out HW_.out (by kernel_rfl)) (fun _ _ _ h => h) (Or.inl ⟨by rfl, ?_⟩) hHeld ?_ ?_
            rotate_left
            ·rintro w' ⟨s0, s1, s2, s3, s4, s5⟩
             go_simp
             with_reducible rfl
            rotate_left
            ·simp only [Act.put, sA, sB, sC, i64_w, i32_w]
             rfl
            refine pu 14 (some 28) ?_
            refine pu 15 (some 29) ?_
            refine done_ (done_of HT_.out (by kernel_rfl)) ?_
            try go_wp2
            go_roundg k2
            case measure => have := HK1.out; have := HK2.out; omega
            case rel => exact ⟨(ji5), (by first | rfl | (simp; done) | (simp only [← hji5] <;> (first | rfl | simp)) | (simp [*]; done)), H', ⟨by have := HK1.out; have := HK2.out; omega⟩, ⟨rz HO_3.out⟩, ⟨bz⟩⟩
           ·rw [if_neg c10] at H
            have c10b0 : (Op.bytesLess (((rd_T37 l0 x4_1).f0).toList) (((rd_T37 x3_1 (ji5)).f0).toList)) = false := by simpa using c10
            clear c10; by_cases c12 : x3_1.length < 3518437208883
            ·rw [if_pos c12] at H
             have LMc12 := am c12; clear c12; refine bL H ?_; clear H; intro y302 hy302 H
             have Ny302 := am hy302; clear hy302; obtain ⟨ji13, hji13⟩ : ∃ j_ : Int, (wrap64 (x5_2 + 1)) = j_ := ⟨_, rfl⟩; replace H : (if 0 ≤ (ji13) then (if (ji13) ≤ (y302.length : Int) then (if 0 ≤ x5_2 then (if x5_2 ≤ (y302.length : Int) then ((copyDn y302 x5_2).bind fun t313 => (if x5_2 < (y302.length : Int) then (hogsheadref2_Sort.l0 k2 l0 (t313.set (x5_2 : Int).toNat (⟨(rd_T37 l0 x4_1).f0, (rd_T37 l0 x4_1).f1, (rd_T37 l0 x4_1).f2⟩ : S37)) (wrap64 (x4_1 + 1))) else (none))) else (none)) else (none)) else (none)) else (none)) = some r := by first | (rw [hji13] at H; exact H) | (simp only [hji13] at H ⊢; exact H)
             have hji13w : (IntKind.i64.wrap (x5_2 + 1)) = ji13 := (i64_w _).trans hji13; by_cases c14 : 0 ≤ (ji13)
             ·rw [if_pos c14] at H
              have c14b0 := eq_true c14; have c14b1 : decide (0 ≤ (ji13)) = true := decide_eq_true c14; clear c14; by_cases c15 : (ji13) ≤ (y302.length : Int)
              ·rw [if_pos c15] at H
               have c15b0 := eq_true c15; have c15b1 : decide ((ji13) ≤ (y302.length : Int)) = true := decide_eq_true c15; clear c15; obtain ⟨y305, hy305⟩ : ∃ y_ : List (S37), y_ = (y302.drop ((ji13) : Int).toNat) := ⟨_, rfl⟩; try rw [← hy305] at H
               have Ny305 := am hy305; clear hy305; by_cases c16 : 0 ≤ x5_2
               ·rw [if_pos c16] at H
                have c16b0 := eq_true c16; have c16b1 : decide (0 ≤ x5_2) = true := decide_eq_true c16; clear c16; by_cases c17 : x5_2 ≤ (y302.length : Int)
                ·rw [if_pos c17] at H
                 have c17b0 := eq_true c17; have c17b1 : decide (x5_2 ≤ (y302.length : Int)) = true := decide_eq_true c17; clear c17; obtain ⟨y309, hy309⟩ : ∃ y_ : List (S37), y_ = (y302.drop (x5_2 : Int).toNat) := ⟨_, rfl⟩; try rw [← hy309] at H
                 have Ny309 := am hy309; clear hy309; refine oR H ?_; clear H; intro t313 A18 H; by_cases c19 : x5_2 < (y302.length : Int)
                 ·rw [if_pos c19] at H
                  have c19b0 : decide (x5_2 < (y302.length : Int)) = true := decide_eq_true c19; clear c19; obtain ⟨y315, hy315⟩ : ∃ y_ : List (S37), y_ = (t313.set (x5_2 : Int).toNat (⟨(rd_T37 l0 x4_1).f0, (rd_T37 l0 x4_1).f1, (rd_T37 l0 x4_1).f2⟩ : S37)) := ⟨_, rfl⟩; try rw [← hy315] at H
                  have Ny315 := am hy315; clear hy315; have H' := am H; clear H; try go_wp2
                  replace HO_3 := am (rD HO_3.out); replace HB := am (bO HB.out); have p300 : 0 ≤ ((ji5) : Int) := of_decide_eq_true (by assumption); have q300 : (ji5) < (x3_1.length : Int) := of_decide_eq_true (by assumption); obtain ⟨ad300, e300, hx300_0, hx300_1, hx300_2⟩ := at_T37 (Kd.R_reads' HO_3.out).2.2 (ji5) p300 q300; cases e300; replace p300 := eq_true p300; replace q300 := eq_true q300; have p301 : 0 ≤ (x4_1 : Int) := of_decide_eq_true (by assumption); have q301 : x4_1 < (l0.length : Int) := of_decide_eq_true (by assumption); obtain ⟨ad301, e301, hx301_0, hx301_1, hx301_2⟩ := at_T37 HR0.out x4_1 p301 q301; have hw301_2 := hx301_2; have hw301_1 := hx301_1; have hw301_0 := hx301_0; cases e301; replace hx301_0 := (HB.out.cell (wB w _ hx301_0)).trans hx301_0; replace hx301_1 := (HB.out.cell (wB w _ hx301_1)).trans hx301_1; replace hx301_2 := (HB.out.cell (wB w _ hx301_2)).trans hx301_2; replace p301 := eq_true p301; replace q301 := eq_true q301; refine start_ (n := 16) (S := fun w' => w'.cell? (ad300.add (((ji5)).toNat * 3)) = some (.string ((rd_T37 x3_1 (ji5)).f0)) ∧ w'.cell? ⟨(ad300.add (((ji5)).toNat * 3)).block, (ad300.add (((ji5)).toNat * 3)).off + 1, none⟩ = some (.int .i64 ((rd_T37 x3_1 (ji5)).f1)) ∧ w'.cell? ⟨(ad300.add (((ji5)).toNat * 3)).block, (ad300.add (((ji5)).toNat * 3)).off + 2, none⟩ = some (.string ((rd_T37 x3_1 (ji5)).f2)) ∧ w'.cell? (ad301.add ((x4_1).toNat * 3)) = some (.string ((rd_T37 l0 x4_1).f0)) ∧ w'.cell? ⟨(ad301.add ((x4_1).toNat * 3)).block, (ad301.add ((x4_1).toNat * 3)).off + 1, none⟩ = some (.int .i64 ((rd_T37 l0 x4_1).f1)) ∧ w'.cell? ⟨(ad301.add ((x4_1).toNat * 3)).block, (ad301.add ((x4_1).toNat * 3)).off + 2, none⟩ = some (.string ((rd_T37 l0 x4_1).f2))) (ds := []) #[fF,fF,fF,fF,fF,fF,fF,fF,fF,fF,fF,fF,fF,fF,fF,fF] (by kernel_rfl) rfl rfl ⟨hx300_0, hx300_1, hx300_2, ((HB.out.cell (wB w _ hw301_0)).trans hw301_0), ((HB.out.cell (wB w _ hw301_1)).trans hw301_1), ((HB.out.cell (wB w _ hw301_2)).trans hw301_2)⟩ (fun hHeld => ?_); refine with_tabW hogsheadref2_Sort.tab6 hogsheadref2_Sort.bits6 (fun HT_ HW_ => ?_)
                  generalize wr.drew = w21 at HO_3 HB hx300_0 hx300_1 hx300_2 hx301_0 hx301_1 hx301_2 hHeld ⊢
                  refine pu 0 (some 14) ?_
                  refine pu 1 (some 15) ?_
                  refine pu 2 (some 16) ?_
                  refine pu 3 (some 17) ?_
                  refine pu 4 (some 18) ?_
                  refine pu 5 (some 19) ?_
                  refine pu 6 (some 20) ?_
                  refine pu 7 (some 21) ?_
                  refine pu 9 (some 23) ?_
                  refine pu 10 (some 24) ?_
                  refine pu 11 (some 25) ?_
                  refine pu 12 (some 26) ?_
                  refine take_ (i := 8) (N := some 22) (v := ?_) (a' := ?_) #[tT,tT,tT,tT,tT,tT,tT,tT,tT,tT,tT,tT,tT,fF,fF,fF] rfl rfl (take_ofW HT_.out HW_.out (by kernel_rfl)) (fun _ _ _ h => h) (Or.inl ⟨by rfl, ?_⟩) hHeld ?_ ?_
                  rotate_left
                  ·rintro w' ⟨s0, s1, s2, s3, s4, s5⟩
                   go_simp
                   with_reducible rfl
                  rotate_left
                  ·simp only [Act.put, sA, sB, sC, i64_w, i32_w]
                   rfl
                  refine take_ (i := 13) (N := some 27) (v := ?_) (a' := ?_) #[tT,tT,tT,tT,tT,tT,tT,tT,tT,tT,tT,tT,tT,tT,fF,fF] rfl rfl (take_ofW HT_.out HW_.out (by kernel_rfl)) (fun _ _ _ h => h) (Or.inl ⟨by rfl, ?_⟩) hHeld ?_ ?_
                  rotate_left
                  ·rintro w' ⟨s0, s1, s2, s3, s4, s5⟩
                   go_simp
                   with_reducible rfl
                  rotate_left
                  ·simp only [Act.put, sA, sB, sC, i64_w, i32_w]
                   rfl
                  refine pu 14 (some 28) ?_
                  refine pu 15 (some 29) ?_
                  refine done_ (done_of HT_.out (by kernel_rfl)) ?_
                  try go_wp2_with (first | ((with_reducible refine gate_builtin (b := .append) (xs := #[.tmp 32, .tmp 34]) rfl ?_); at_builtin; refine Kd.R_append k37 (w0 := w) w.heap.size rfl (.tmp 32) (.tmp 34) 25 37 (.agg #[(.string ⟨#[]⟩), (.int .i64 0), (.string ⟨#[]⟩)]) 40 rfl Tryd.underlying25 info37 rfl (by decide) (by omega) (.slice (some ad300) x3_1.length co3) x3_1 (⟨(⟨#[]⟩ : ByteArray), 0, (⟨#[]⟩ : ByteArray)⟩ : S37) [.string (⟨#[]⟩ : ByteArray), .int .i64 0, .string (⟨#[]⟩ : ByteArray)] (fun _ => True) (fun _ => False) rfl rfl ?aP (fun _ hk => hk.elim) ?aF ?aO ?aB ?aS ?aL ?_; (case aP => exact k37_mkM _ _ _ (⟨(⟨#[]⟩ : ByteArray), 0, (⟨#[]⟩ : ByteArray)⟩ : S37)); (case aB => exact bz); (case aF => exact (fun _ _ => trivial)); (case aO => exact (rz HO_3.out)); (case aS => exact siz); (case aL => have := LMc12.out; omega); intro v303 w22 ho hb hg hat; rw [← Ny302.out] at ho; have n0_ := am (hb); have n1_ := am (ho); clear HB; clear HO_3; have HB := n0_; have HO304 := n1_; clear n0_ n1_; clear ho hb hg hat))
                  replace HO304 := am (rD HO304.out); replace HB := am (bO HB.out); obtain ⟨Ao25, co25, eo25⟩ := Kd.R_slice HO304.out; (first | subst eo25 | (injection eo25 with f1_ f2_ f3_; have f4_ := f1_.symm; have f5_ := f3_.symm; clear f1_ f2_ f3_; subst f4_; subst f5_))
                  have q24 : ((ji13) : Int) ≤ ((y302.length : Int) : Int) := of_decide_eq_true (by assumption); obtain ⟨i024, hi024, _, hsz24, _⟩ := info_parts info37; have hroom24 : y302.length ≤ co25 := (Kd.R_reads' HO304.out).2.1; have hC24 : Kd.C k37 _ Ao25 y302.length y302 := (Kd.R_reads' HO304.out).2.2; have q024 : (0 : Int) ≤ ((ji13) : Int) := of_decide_eq_true (by assumption); have hcut24 := cut_from (P := Tryd.prog) 25 37 .i64 Tryd.underlying25 hi024 3 hsz24 Ao25 y302.length co25 (ji13) q024 q24; have hr24 := Kd.C_drop (m := ((ji13) : Int).toNat) (c := co25) hC24 (by omega) hroom24; obtain ⟨A24, hA24⟩ : ∃ A1, A1 = (if co25 = ((ji13) : Int).toNat then Ao25 else (Ao25 : Option Addr).map (·.add (((ji13) : Int).toNat * 3))) := ⟨_, rfl⟩; obtain ⟨c24, hc24⟩ : ∃ c1, c1 = co25 - ((ji13) : Int).toNat := ⟨_, rfl⟩; have hy24 : y305.length = y302.length - ((ji13) : Int).toNat := (by rw [Ny305.out, lD] <;> omega); rw [show (y302).drop ((ji13) : Int).toNat = y305 from Ny305.out.symm] at hr24; replace hr24 : Kd.C k37 _ A24 y305.length y305 := (by rw [hA24]; exact hr24); rw [← hy24, ← hA24, ← hc24] at hcut24; have HR308 := am hr24; have HC308 := am (show y305.length ≤ c24 from by rw [hy24, hc24]; exact Nat.sub_le_sub_right hroom24 _); clear hr24 hC24 hroom24 hi024 hsz24 hc24; have KY24 := am hy24; have KA24 := am hA24; clear hy24 hA24; have KL24 := am (show ((ji13) : Int).toNat ≤ y302.length from by omega)
                  replace q24 := eq_true q24; have q26 : (x5_2 : Int) ≤ ((y302.length : Int) : Int) := of_decide_eq_true (by assumption); obtain ⟨i026, hi026, _, hsz26, _⟩ := info_parts info37; have hroom26 : y302.length ≤ co25 := (Kd.R_reads' HO304.out).2.1; have hC26 : Kd.C k37 _ Ao25 y302.length y302 := (Kd.R_reads' HO304.out).2.2; have q026 : (0 : Int) ≤ (x5_2 : Int) := of_decide_eq_true (by assumption); have hcut26 := cut_from (P := Tryd.prog) 25 37 .i64 Tryd.underlying25 hi026 3 hsz26 Ao25 y302.length co25 x5_2 q026 q26; have hr26 := Kd.C_drop (m := (x5_2 : Int).toNat) (c := co25) hC26 (by omega) hroom26; obtain ⟨A26, hA26⟩ : ∃ A1, A1 = (if co25 = (x5_2 : Int).toNat then Ao25 else (Ao25 : Option Addr).map (·.add ((x5_2 : Int).toNat * 3))) := ⟨_, rfl⟩; obtain ⟨c26, hc26⟩ : ∃ c1, c1 = co25 - (x5_2 : Int).toNat := ⟨_, rfl⟩; have hy26 : y309.length = y302.length - (x5_2 : Int).toNat := (by rw [Ny309.out, lD] <;> omega); rw [show (y302).drop (x5_2 : Int).toNat = y309 from Ny309.out.symm] at hr26; replace hr26 : Kd.C k37 _ A26 y309.length y309 := (by rw [hA26]; exact hr26); rw [← hy26, ← hA26, ← hc26] at hcut26; have HR312 := am hr26; have HC312 := am (show y309.length ≤ c26 from by rw [hy26, hc26]; exact Nat.sub_le_sub_right hroom26 _); clear hr26 hC26 hroom26 hi026 hsz26 hc26; have KY26 := am hy26; have KA26 := am hA26; clear hy26 hA26; have KL26 := am (show (x5_2 : Int).toNat ≤ y302.length from by omega)
                  replace q26 := eq_true q26; refine start_ (n := 8) (S := fun w' => True) (ds := []) #[fF,fF,fF,fF,fF,fF,fF,fF] (by kernel_rfl) rfl rfl trivial (fun hHeld => ?_); refine with_tabW hogsheadref2_Sort.tab9 hogsheadref2_Sort.bits9 (fun HT_ HW_ => ?_)
                  generalize w22.drew = w23 at HO304 HB HR308 HR312 hHeld ⊢
                  refine pu 0 (some 36) ?_
                  refine pu 1 (some 37) ?_
                  refine pu 2 (some 38) ?_
                  refine pu 3 (some 39) ?_
                  refine pu 4 (some 40) ?_
                  refine pu 5 (some 41) ?_
                  refine pu 6 (some 42) ?_
                  refine one_ (i := 7) (N := some 43) #[tT,tT,tT,tT,tT,tT,tT,tT] rfl rfl (one_of HT_.out (by kernel_rfl)) (by decide) (fun K hK => ?_)
                  obtain ⟨v_, w27, hrun_, hy0, hb⟩ := copyDn_run 3 HO304.out A18.out (up_one hji13 (of_decide_eq_true (by assumption)) (of_decide_eq_true (by assumption)) (by rw [Ny302.out, List.length_append]; rfl) LMc12.out) KA24.out KA26.out KY24.out KY26.out c24 c26 HB.out; refine step_copy_runI rfl (.tmp 39) (.tmp 42) 25 25 rfl _ _ rfl rfl hrun_ ?_
                  clear hrun_; replace HO304 := am hy0; replace HB := am (hb); (try clear hb); (try clear hkp); (try clear hy0); refine hK.out _ _ trivial (fun hHeld => ?_)
                  clear hK K; refine norm_ (a' := ?_) ?_ ?_
                  rotate_left
                  ·show Act.put _ (some 43) _ = _
                   simp only [Act.put, sA, sB, sC, i64_w, i32_w]
                   rfl
                  refine done_ (done_of HT_.out (by kernel_rfl)) ?_
                  have p314 : 0 ≤ (x4_1 : Int) := of_decide_eq_true (by assumption); have q314 : x4_1 < (l0.length : Int) := of_decide_eq_true (by assumption); obtain ⟨ad314, e314, hx314_0, hx314_1, hx314_2⟩ := at_T37 HR0.out x4_1 p314 q314; obtain rfl : ad301 = ad314 := (by injection e314); replace hx314_0 := (HB.out.cell (wB w _ hx314_0)).trans hx314_0; replace hx314_1 := (HB.out.cell (wB w _ hx314_1)).trans hx314_1; replace hx314_2 := (HB.out.cell (wB w _ hx314_2)).trans hx314_2; replace p314 := eq_true p314; replace q314 := eq_true q314; have p20 : 0 ≤ (x5_2 : Int) := of_decide_eq_true (by assumption); have q20 : (x5_2 : Int) < ((y302.length : Int) : Int) := of_decide_eq_true (by assumption); obtain ⟨go20, co20, eo20, gb20, gl20, cl20, HG20⟩ := Kd.R_form HO304.out (by first | omega | (have e_ := (Kd.R_reads' HO304.out).1; omega)); (first | cases eo20 | (injection eo20 with ea_ en_ ec_; (first | subst ea_ | (injection ea_ with ea_; subst ea_)); subst ec_; clear en_))
                  have GB20 := am gb20; have GG20 := am HG20; clear gb20 gl20 HG20; obtain ⟨ce20, hcl20, hM20, hcc20, hfr20⟩ := Kd.R_elem HO304.out z37 (x5_2 : Int) p20 q20; obtain rfl := k37_openM hM20; have hx20_0 : w27.cell? ⟨go20, (x5_2 : Int).toNat * 3, none⟩ = some (.string ((rd_T37 t313 x5_2).f0)) := hcc20 0 _ rfl; have hx20_1 : w27.cell? ⟨go20, (x5_2 : Int).toNat * 3 + 1, none⟩ = some (.int .i64 ((rd_T37 t313 x5_2).f1)) := hcc20 1 _ rfl; have hx20_2 : w27.cell? ⟨go20, (x5_2 : Int).toNat * 3 + 2, none⟩ = some (.string ((rd_T37 t313 x5_2).f2)) := hcc20 2 _ rfl; have hf20_0 : w27.frozen? ⟨go20, (x5_2 : Int).toNat * 3, none⟩ = false := hfr20 0; have hf20_1 : w27.frozen? ⟨go20, (x5_2 : Int).toNat * 3 + 1, none⟩ = false := hfr20 1; have hf20_2 : w27.frozen? ⟨go20, (x5_2 : Int).toNat * 3 + 2, none⟩ = false := hfr20 2; clear hcl20 hcc20 hfr20 hM20; replace p20 := eq_true p20; replace q20 := eq_true q20; have HX28 := am (show Kd.R k37 37 w27 w.heap.size (fun _ => True) (.slice (some ⟨go20, 0, none⟩) y302.length co25) t313 from (rz HO304.out)); obtain ⟨ce28, hcl28, hM28, hcc28, hfr28⟩ := Kd.R_elem HX28.out z37 (x5_2 : Int) (of_decide_eq_true (by assumption)) (by have h_ : (x5_2 : Int) < ((y302.length : Int) : Int) := of_decide_eq_true (by assumption); first | exact h_ | (have e_ := (Kd.R_reads' HO304.out).1; omega) | simpa using h_)
                  obtain rfl := k37_openM hM28; have HP28 := Kd.R_seg HX28.out (x5_2 : Int) (of_decide_eq_true (by assumption)) (by have h_ : (x5_2 : Int) < ((y302.length : Int) : Int) := of_decide_eq_true (by assumption); first | exact h_ | (have e_ := (Kd.R_reads' HO304.out).1; omega) | simpa using h_) (seg := [.string ((rd_T37 l0 x4_1).f0), .int .i64 ((rd_T37 l0 x4_1).f1), .string ((rd_T37 l0 x4_1).f2)]) (j := 0) hcl28 hcc28 (show 3 ≤ 3 from by decide) (x' := (⟨(rd_T37 l0 x4_1).f0, (rd_T37 l0 x4_1).f1, (rd_T37 l0 x4_1).f2⟩ : S37)) (k37_mkM _ _ _ (⟨(rd_T37 l0 x4_1).f0, (rd_T37 l0 x4_1).f1, (rd_T37 l0 x4_1).f2⟩ : S37) ) (fun _ hk => hk); have hx28_0 := hcc28 0 _ rfl; (try simp only [show (k37).sz = 3 from rfl, Nat.mul_one, Nat.add_zero] at hx28_0)
                  have hf28_0 := hfr28 0; (try simp only [show (k37).sz = 3 from rfl, Nat.mul_one, Nat.add_zero] at hf28_0)
                  have hx28_1 := hcc28 1 _ rfl; (try simp only [show (k37).sz = 3 from rfl, Nat.mul_one, Nat.add_zero] at hx28_1)
                  have hf28_1 := hfr28 1; (try simp only [show (k37).sz = 3 from rfl, Nat.mul_one, Nat.add_zero] at hf28_1)
                  have hx28_2 := hcc28 2 _ rfl; (try simp only [show (k37).sz = 3 from rfl, Nat.mul_one, Nat.add_zero] at hx28_2)
                  have hf28_2 := hfr28 2; (try simp only [show (k37).sz = 3 from rfl, Nat.mul_one, Nat.add_zero] at hf28_2)
                  clear hcl28 hcc28 hfr28 hM28; try go_wp2_with (first | ((with_reducible refine gate_store (t := 37) (p := 50) rfl ?_); refine store_event (t := 37) (p := 50) (v := ?vo_w29) (w1 := (((w27.setCell ⟨go20, (x5_2 : Int).toNat * 3, none⟩ (.string ((rd_T37 l0 x4_1).f0))).setCell ⟨go20, (x5_2 : Int).toNat * 3 + 1, none⟩ (.int .i64 ((rd_T37 l0 x4_1).f1))).setCell ⟨go20, (x5_2 : Int).toNat * 3 + 2, none⟩ (.string ((rd_T37 l0 x4_1).f2)))) ?hg ?ho ?hn ?hr ?_; (case ho => rfl); (case hg => rfl); (case hn => rfl); (case hr => first | (go_simp; done) | (go_simp; rfl)); intro w29 hw; have hg : w27.grownBy w29 (some go20) := (by rw [hw]; exact HP28.2); have hp_ : Kd.R k37 37 w29 w.heap.size (fun _ => True) (.slice (some ⟨go20, 0, none⟩) y302.length co25) y315 := (by rw [hw, Ny315.out]; exact HP28.1); clear HP28; replace HO304 := am (hp_); replace HB := am ((by rw [hw]; exact below_set (below_set (below_set (HB.out) GB20.out) GB20.out) GB20.out : Below w.heap.size w w29)); clear hg hw hp_))
                  go_roundg k2
                  case measure => have := HK1.out; have := HK2.out; omega
                  case rel => exact ⟨(y315), (wrap64 (x4_1 + 1)), (by first | rfl | (simp; done) | (simp [*]; done)), H', ⟨by have := HK1.out; have := HK2.out; omega⟩, ⟨rz HO304.out⟩, ⟨bz⟩⟩
                 ·rw [if_neg c19] at H
                  exact absurd H (by simp)
                ·rw [if_neg c17] at H
                 exact absurd H (by simp)
               ·rw [if_neg c16] at H
                exact absurd H (by simp)
              ·rw [if_neg c15] at H
               exact absurd H (by simp)
             ·rw [if_neg c14] at H
              exact absurd H (by simp)
            ·rw [if_neg c12] at H
             exact absurd H (by simp)
          ·rw [if_neg c9] at H
           exact absurd H (by simp)
         ·rw [if_neg c8] at H
          exact absurd H (by simp)
        ·rw [if_neg c7] at H
         exact absurd H (by simp)
       ·rw [if_neg c6] at H
        exact absurd H (by simp)
      ·rw [if_neg c4] at H
       have c4b0 : decide (0 < x5_2) = false := decide_eq_false c4; clear c4; by_cases c30 : x3_1.length < 3518437208883
       ·rw [if_pos c30] at H
        have LMc30 := am c30; clear c30; refine bL H ?_; clear H; intro y316 hy316 H
        have Ny316 := am hy316; clear hy316; obtain ⟨ji31, hji31⟩ : ∃ j_ : Int, (wrap64 (x5_2 + 1)) = j_ := ⟨_, rfl⟩; replace H : (if 0 ≤ (ji31) then (if (ji31) ≤ (y316.length : Int) then (if 0 ≤ x5_2 then (if x5_2 ≤ (y316.length : Int) then ((copyDn y316 x5_2).bind fun t327 => (if 0 ≤ x4_1 then (if x4_1 < (l0.length : Int) then (if x5_2 < (y316.length : Int) then (hogsheadref2_Sort.l0 k2 l0 (t327.set (x5_2 : Int).toNat (⟨(rd_T37 l0 x4_1).f0, (rd_T37 l0 x4_1).f1, (rd_T37 l0 x4_1).f2⟩ : S37)) (wrap64 (x4_1 + 1))) else (none)) else (none)) else (none))) else (none)) else (none)) else (none)) else (none)) = some r := by first | (rw [hji31] at H; exact H) | (simp only [hji31] at H ⊢; exact H)
        have hji31w : (IntKind.i64.wrap (x5_2 + 1)) = ji31 := (i64_w _).trans hji31; by_cases c32 : 0 ≤ (ji31)
        ·rw [if_pos c32] at H
         have c32b0 := eq_true c32; have c32b1 : decide (0 ≤ (ji31)) = true := decide_eq_true c32; clear c32; by_cases c33 : (ji31) ≤ (y316.length : Int)
         ·rw [if_pos c33] at H
          have c33b0 := eq_true c33; have c33b1 : decide ((ji31) ≤ (y316.length : Int)) = true := decide_eq_true c33; clear c33; obtain ⟨y319, hy319⟩ : ∃ y_ : List (S37), y_ = (y316.drop ((ji31) : Int).toNat) := ⟨_, rfl⟩; try rw [← hy319] at H
          have Ny319 := am hy319; clear hy319; by_cases c34 : 0 ≤ x5_2
          ·rw [if_pos c34] at H
           have c34b0 := eq_true c34; have c34b1 : decide (0 ≤ x5_2) = true := decide_eq_true c34; clear c34; by_cases c35 : x5_2 ≤ (y316.length : Int)
           ·rw [if_pos c35] at H
            have c35b0 := eq_true c35; have c35b1 : decide (x5_2 ≤ (y316.length : Int)) = true := decide_eq_true c35; clear c35; obtain ⟨y323, hy323⟩ : ∃ y_ : List (S37), y_ = (y316.drop (x5_2 : Int).toNat) := ⟨_, rfl⟩; try rw [← hy323] at H
            have Ny323 := am hy323; clear hy323; refine oR H ?_; clear H; intro t327 A36 H; by_cases c37 : 0 ≤ x4_1
            ·rw [if_pos c37] at H
             have c37b0 : decide (0 ≤ x4_1) = true := decide_eq_true c37; clear c37; by_cases c38 : x4_1 < (l0.length : Int)
             ·rw [if_pos c38] at H
              have c38b0 : decide (x4_1 < (l0.length : Int)) = true := decide_eq_true c38; clear c38; by_cases c39 : x5_2 < (y316.length : Int)
              ·rw [if_pos c39] at H
               have c39b0 : decide (x5_2 < (y316.length : Int)) = true := decide_eq_true c39; clear c39; obtain ⟨y329, hy329⟩ : ∃ y_ : List (S37), y_ = (t327.set (x5_2 : Int).toNat (⟨(rd_T37 l0 x4_1).f0, (rd_T37 l0 x4_1).f1, (rd_T37 l0 x4_1).f2⟩ : S37)) := ⟨_, rfl⟩; try rw [← hy329] at H
               have Ny329 := am hy329; clear hy329; have H' := am H; clear H; try go_wp2
               replace HO_3 := am (rD HO_3.out); replace HB := am (bO HB.out); refine start_ (n := 16) (S := fun w' => True) (ds := []) #[fF,fF,fF,fF,fF,fF,fF,fF,fF,fF,fF,fF,fF,fF,fF,fF] (by kernel_rfl) rfl rfl trivial (fun hHeld => ?_); refine with_tabW hogsheadref2_Sort.tab6 hogsheadref2_Sort.bits6 (fun HT_ HW_ => ?_)
               generalize wr.drew = w41 at HO_3 HB hHeld ⊢
               refine pu 0 (some 14) ?_
               refine pu 1 (some 15) ?_
               refine pu 2 (some 16) ?_
               refine pure_ (i := 3) (N := some 17) (v := undef) (a' := ?_) #[tT,tT,tT,tT,fF,fF,fF,fF,fF,fF,fF,fF,fF,fF,fF,fF] rfl rfl (any_of HT_.out (by kernel_rfl)) (fun _ _ _ h => h) (Or.inr ⟨by rfl, rfl⟩) ?_ ?_
               rotate_left
               ·simp only [Act.put, sA, sB, sC, i64_w, i32_w]
                rfl
               refine pure_ (i := 4) (N := some 18) (v := undef) (a' := ?_) #[tT,tT,tT,tT,tT,fF,fF,fF,fF,fF,fF,fF,fF,fF,fF,fF] rfl rfl (any_of HT_.out (by kernel_rfl)) (fun _ _ _ h => h) (Or.inr ⟨by rfl, rfl⟩) ?_ ?_
               rotate_left
               ·simp only [Act.put, sA, sB, sC, i64_w, i32_w]
                rfl
               refine pure_ (i := 5) (N := some 19) (v := undef) (a' := ?_) #[tT,tT,tT,tT,tT,tT,fF,fF,fF,fF,fF,fF,fF,fF,fF,fF] rfl rfl (any_of HT_.out (by kernel_rfl)) (fun _ _ _ h => h) (Or.inr ⟨by rfl, rfl⟩) ?_ ?_
               rotate_left
               ·simp only [Act.put, sA, sB, sC, i64_w, i32_w]
                rfl
               refine pure_ (i := 6) (N := some 20) (v := undef) (a' := ?_) #[tT,tT,tT,tT,tT,tT,tT,fF,fF,fF,fF,fF,fF,fF,fF,fF] rfl rfl (any_of HT_.out (by kernel_rfl)) (fun _ _ _ h => h) (Or.inr ⟨by rfl, rfl⟩) ?_ ?_
               rotate_left
               ·simp only [Act.put, sA, sB, sC, i64_w, i32_w]
                rfl
               refine pure_ (i := 7) (N := some 21) (v := undef) (a' := ?_) #[tT,tT,tT,tT,tT,tT,tT,tT,fF,fF,fF,fF,fF,fF,fF,fF] rfl rfl (any_of HT_.out (by kernel_rfl)) (fun _ _ _ h => h) (Or.inr ⟨by rfl, rfl⟩) ?_ ?_
               rotate_left
               ·simp only [Act.put, sA, sB, sC, i64_w, i32_w]
                rfl
               refine pure_ (i := 8) (N := some 22) (v := undef) (a' := ?_) #[tT,tT,tT,tT,tT,tT,tT,tT,tT,fF,fF,fF,fF,fF,fF,fF] rfl rfl (any_of HT_.out (by kernel_rfl)) (fun _ _ _ h => h) (Or.inr ⟨by rfl, rfl⟩) ?_ ?_
               rotate_left
               ·simp only [Act.put, sA, sB, sC, i64_w, i32_w]
                rfl
               refine pure_ (i := 9) (N := some 23) (v := undef) (a' := ?_) #[tT,tT,tT,tT,tT,tT,tT,tT,tT,tT,fF,fF,fF,fF,fF,fF] rfl rfl (any_of HT_.out (by kernel_rfl)) (fun _ _ _ h => h) (Or.inr ⟨by rfl, rfl⟩) ?_ ?_
               rotate_left
               ·simp only [Act.put, sA, sB, sC, i64_w, i32_w]
                rfl
               refine pure_ (i := 10) (N := some 24) (v := undef) (a' := ?_) #[tT,tT,tT,tT,tT,tT,tT,tT,tT,tT,tT,fF,fF,fF,fF,fF] rfl rfl (any_of HT_.out (by kernel_rfl)) (fun _ _ _ h => h) (Or.inr ⟨by rfl, rfl⟩) ?_ ?_
               rotate_left
               ·simp only [Act.put, sA, sB, sC, i64_w, i32_w]
                rfl
               refine pure_ (i := 11) (N := some 25) (v := undef) (a' := ?_) #[tT,tT,tT,tT,tT,tT,tT,tT,tT,tT,tT,tT,fF,fF,fF,fF] rfl rfl (any_of HT_.out (by kernel_rfl)) (fun _ _ _ h => h) (Or.inr ⟨by rfl, rfl⟩) ?_ ?_
               rotate_left
               ·simp only [Act.put, sA, sB, sC, i64_w, i32_w]
                rfl
               refine pure_ (i := 12) (N := some 26) (v := undef) (a' := ?_) #[tT,tT,tT,tT,tT,tT,tT,tT,tT,tT,tT,tT,tT,fF,fF,fF] rfl rfl (any_of HT_.out (by kernel_rfl)) (fun _ _ _ h => h) (Or.inr ⟨by rfl, rfl⟩) ?_ ?_
               rotate_left
               ·simp only [Act.put, sA, sB, sC, i64_w, i32_w]
                rfl
               refine pure_ (i := 13) (N := some 27) (v := undef) (a' := ?_) #[tT,tT,tT,tT,tT,tT,tT,tT,tT,tT,tT,tT,tT,tT,fF,fF] rfl rfl (any_of HT_.out (by kernel_rfl)) (fun _ _ _ h => h) (Or.inr ⟨by rfl, rfl⟩) ?_ ?_
               rotate_left
               ·simp only [Act.put, sA, sB, sC, i64_w, i32_w]
                rfl
               refine pure_ (i := 14) (N := some 28) (v := undef) (a' := ?_) #[tT,tT,tT,tT,tT,tT,tT,tT,tT,tT,tT,tT,tT,tT,tT,fF] rfl rfl (any_of HT_.out (by kernel_rfl)) (fun _ _ _ h => h) (Or.inr ⟨by rfl, rfl⟩) ?_ ?_
               rotate_left
               ·simp only [Act.put, sA, sB, sC, i64_w, i32_w]
                rfl
               refine pu 15 (some 29) ?_
               refine done_ (done_of HT_.out (by kernel_rfl)) ?_
               try go_wp2_with (first | ((with_reducible refine gate_builtin (b := .append) (xs := #[.tmp 32, .tmp 34]) rfl ?_); at_builtin; refine Kd.R_append k37 (w0 := w) w.heap.size rfl (.tmp 32) (.tmp 34) 25 37 (.agg #[(.string ⟨#[]⟩), (.int .i64 0), (.string ⟨#[]⟩)]) 40 rfl Tryd.underlying25 info37 rfl (by decide) (by omega) (.slice Ao3 x3_1.length co3) x3_1 (⟨(⟨#[]⟩ : ByteArray), 0, (⟨#[]⟩ : ByteArray)⟩ : S37) [.string (⟨#[]⟩ : ByteArray), .int .i64 0, .string (⟨#[]⟩ : ByteArray)] (fun _ => True) (fun _ => False) rfl rfl ?aP (fun _ hk => hk.elim) ?aF ?aO ?aB ?aS ?aL ?_; (case aP => exact k37_mkM _ _ _ (⟨(⟨#[]⟩ : ByteArray), 0, (⟨#[]⟩ : ByteArray)⟩ : S37)); (case aB => exact bz); (case aF => exact (fun _ _ => trivial)); (case aO => exact (rz HO_3.out)); (case aS => exact siz); (case aL => have := LMc30.out; omega); intro v317 w42 ho hb hg hat; rw [← Ny316.out] at ho; have n0_ := am (hb); have n1_ := am (ho); clear HB; clear HO_3; have HB := n0_; have HO318 := n1_; clear n0_ n1_; clear ho hb hg hat))
               replace HO318 := am (rD HO318.out); replace HB := am (bO HB.out); obtain ⟨Ao45, co45, eo45⟩ := Kd.R_slice HO318.out; (first | subst eo45 | (injection eo45 with f1_ f2_ f3_; have f4_ := f1_.symm; have f5_ := f3_.symm; clear f1_ f2_ f3_; subst f4_; subst f5_))
               have q44 : ((ji31) : Int) ≤ ((y316.length : Int) : Int) := of_decide_eq_true (by assumption); obtain ⟨i044, hi044, _, hsz44, _⟩ := info_parts info37; have hroom44 : y316.length ≤ co45 := (Kd.R_reads' HO318.out).2.1; have hC44 : Kd.C k37 _ Ao45 y316.length y316 := (Kd.R_reads' HO318.out).2.2; have q044 : (0 : Int) ≤ ((ji31) : Int) := of_decide_eq_true (by assumption); have hcut44 := cut_from (P := Tryd.prog) 25 37 .i64 Tryd.underlying25 hi044 3 hsz44 Ao45 y316.length co45 (ji31) q044 q44; have hr44 := Kd.C_drop (m := ((ji31) : Int).toNat) (c := co45) hC44 (by omega) hroom44; obtain ⟨A44, hA44⟩ : ∃ A1, A1 = (if co45 = ((ji31) : Int).toNat then Ao45 else (Ao45 : Option Addr).map (·.add (((ji31) : Int).toNat * 3))) := ⟨_, rfl⟩; obtain ⟨c44, hc44⟩ : ∃ c1, c1 = co45 - ((ji31) : Int).toNat := ⟨_, rfl⟩; have hy44 : y319.length = y316.length - ((ji31) : Int).toNat := (by rw [Ny319.out, lD] <;> omega); rw [show (y316).drop ((ji31) : Int).toNat = y319 from Ny319.out.symm] at hr44; replace hr44 : Kd.C k37 _ A44 y319.length y319 := (by rw [hA44]; exact hr44); rw [← hy44, ← hA44, ← hc44] at hcut44; have HR322 := am hr44; have HC322 := am (show y319.length ≤ c44 from by rw [hy44, hc44]; exact Nat.sub_le_sub_right hroom44 _); clear hr44 hC44 hroom44 hi044 hsz44 hc44; have KY44 := am hy44; have KA44 := am hA44; clear hy44 hA44; have KL44 := am (show ((ji31) : Int).toNat ≤ y316.length from by omega)
               replace q44 := eq_true q44; have q46 : (x5_2 : Int) ≤ ((y316.length : Int) : Int) := of_decide_eq_true (by assumption); obtain ⟨i046, hi046, _, hsz46, _⟩ := info_parts info37; have hroom46 : y316.length ≤ co45 := (Kd.R_reads' HO318.out).2.1; have hC46 : Kd.C k37 _ Ao45 y316.length y316 := (Kd.R_reads' HO318.out).2.2; have q046 : (0 : Int) ≤ (x5_2 : Int) := of_decide_eq_true (by assumption); have hcut46 := cut_from (P := Tryd.prog) 25 37 .i64 Tryd.underlying25 hi046 3 hsz46 Ao45 y316.length co45 x5_2 q046 q46; have hr46 := Kd.C_drop (m := (x5_2 : Int).toNat) (c := co45) hC46 (by omega) hroom46; obtain ⟨A46, hA46⟩ : ∃ A1, A1 = (if co45 = (x5_2 : Int).toNat then Ao45 else (Ao45 : Option Addr).map (·.add ((x5_2 : Int).toNat * 3))) := ⟨_, rfl⟩; obtain ⟨c46, hc46⟩ : ∃ c1, c1 = co45 - (x5_2 : Int).toNat := ⟨_, rfl⟩; have hy46 : y323.length = y316.length - (x5_2 : Int).toNat := (by rw [Ny323.out, lD] <;> omega); rw [show (y316).drop (x5_2 : Int).toNat = y323 from Ny323.out.symm] at hr46; replace hr46 : Kd.C k37 _ A46 y323.length y323 := (by rw [hA46]; exact hr46); rw [← hy46, ← hA46, ← hc46] at hcut46; have HR326 := am hr46; have HC326 := am (show y323.length ≤ c46 from by rw [hy46, hc46]; exact Nat.sub_le_sub_right hroom46 _); clear hr46 hC46 hroom46 hi046 hsz46 hc46; have KY46 := am hy46; have KA46 := am hA46; clear hy46 hA46; have KL46 := am (show (x5_2 : Int).toNat ≤ y316.length from by omega)
               replace q46 := eq_true q46; refine start_ (n := 8) (S := fun w' => True) (ds := []) #[fF,fF,fF,fF,fF,fF,fF,fF] (by kernel_rfl) rfl rfl trivial (fun hHeld => ?_); refine with_tabW hogsheadref2_Sort.tab9 hogsheadref2_Sort.bits9 (fun HT_ HW_ => ?_)
               generalize w42.drew = w43 at HO318 HB HR322 HR326 hHeld ⊢
               refine pu 0 (some 36) ?_
               refine pu 1 (some 37) ?_
               refine pu 2 (some 38) ?_
               refine pu 3 (some 39) ?_
               refine pu 4 (some 40) ?_
               refine pu 5 (some 41) ?_
               refine pu 6 (some 42) ?_
               refine one_ (i := 7) (N := some 43) #[tT,tT,tT,tT,tT,tT,tT,tT] rfl rfl (one_of HT_.out (by kernel_rfl)) (by decide) (fun K hK => ?_)
               obtain ⟨v_, w47, hrun_, hy0, hb⟩ := copyDn_run 3 HO318.out A36.out (up_one hji31 (of_decide_eq_true (by assumption)) (of_decide_eq_true (by assumption)) (by rw [Ny316.out, List.length_append]; rfl) LMc30.out) KA44.out KA46.out KY44.out KY46.out c44 c46 HB.out; refine step_copy_runI rfl (.tmp 39) (.tmp 42) 25 25 rfl _ _ rfl rfl hrun_ ?_
               clear hrun_; replace HO318 := am hy0; replace HB := am (hb); (try clear hb); (try clear hkp); (try clear hy0); refine hK.out _ _ trivial (fun hHeld => ?_)
               clear hK K; refine norm_ (a' := ?_) ?_ ?_
               rotate_left
               ·show Act.put _ (some 43) _ = _
                simp only [Act.put, sA, sB, sC, i64_w, i32_w]
                rfl
               refine done_ (done_of HT_.out (by kernel_rfl)) ?_
               have p328 : 0 ≤ (x4_1 : Int) := of_decide_eq_true (by assumption); have q328 : x4_1 < (l0.length : Int) := of_decide_eq_true (by assumption); obtain ⟨ad328, e328, hx328_0, hx328_1, hx328_2⟩ := at_T37 HR0.out x4_1 p328 q328; cases e328; replace hx328_0 := (HB.out.cell (wB w _ hx328_0)).trans hx328_0; replace hx328_1 := (HB.out.cell (wB w _ hx328_1)).trans hx328_1; replace hx328_2 := (HB.out.cell (wB w _ hx328_2)).trans hx328_2; replace p328 := eq_true p328; replace q328 := eq_true q328; have p40 : 0 ≤ (x5_2 : Int) := of_decide_eq_true (by assumption); have q40 : (x5_2 : Int) < ((y316.length : Int) : Int) := of_decide_eq_true (by assumption); obtain ⟨go40, co40, eo40, gb40, gl40, cl40, HG40⟩ := Kd.R_form HO318.out (by first | omega | (have e_ := (Kd.R_reads' HO318.out).1; omega)); (first | cases eo40 | (injection eo40 with ea_ en_ ec_; (first | subst ea_ | (injection ea_ with ea_; subst ea_)); subst ec_; clear en_))
               have GB40 := am gb40; have GG40 := am HG40; clear gb40 gl40 HG40; obtain ⟨ce40, hcl40, hM40, hcc40, hfr40⟩ := Kd.R_elem HO318.out z37 (x5_2 : Int) p40 q40; obtain rfl := k37_openM hM40; have hx40_0 : w47.cell? ⟨go40, (x5_2 : Int).toNat * 3, none⟩ = some (.string ((rd_T37 t327 x5_2).f0)) := hcc40 0 _ rfl; have hx40_1 : w47.cell? ⟨go40, (x5_2 : Int).toNat * 3 + 1, none⟩ = some (.int .i64 ((rd_T37 t327 x5_2).f1)) := hcc40 1 _ rfl; have hx40_2 : w47.cell? ⟨go40, (x5_2 : Int).toNat * 3 + 2, none⟩ = some (.string ((rd_T37 t327 x5_2).f2)) := hcc40 2 _ rfl; have hf40_0 : w47.frozen? ⟨go40, (x5_2 : Int).toNat * 3, none⟩ = false := hfr40 0; have hf40_1 : w47.frozen? ⟨go40, (x5_2 : Int).toNat * 3 + 1, none⟩ = false := hfr40 1; have hf40_2 : w47.frozen? ⟨go40, (x5_2 : Int).toNat * 3 + 2, none⟩ = false := hfr40 2; clear hcl40 hcc40 hfr40 hM40; replace p40 := eq_true p40; replace q40 := eq_true q40; have HX48 := am (show Kd.R k37 37 w47 w.heap.size (fun _ => True) (.slice (some ⟨go40, 0, none⟩) y316.length co45) t327 from (rz HO318.out)); obtain ⟨ce48, hcl48, hM48, hcc48, hfr48⟩ := Kd.R_elem HX48.out z37 (x5_2 : Int) (of_decide_eq_true (by assumption)) (by have h_ : (x5_2 : Int) < ((y316.length : Int) : Int) := of_decide_eq_true (by assumption); first | exact h_ | (have e_ := (Kd.R_reads' HO318.out).1; omega) | simpa using h_)
               obtain rfl := k37_openM hM48; have HP48 := Kd.R_seg HX48.out (x5_2 : Int) (of_decide_eq_true (by assumption)) (by have h_ : (x5_2 : Int) < ((y316.length : Int) : Int) := of_decide_eq_true (by assumption); first | exact h_ | (have e_ := (Kd.R_reads' HO318.out).1; omega) | simpa using h_) (seg := [.string ((rd_T37 l0 x4_1).f0), .int .i64 ((rd_T37 l0 x4_1).f1), .string ((rd_T37 l0 x4_1).f2)]) (j := 0) hcl48 hcc48 (show 3 ≤ 3 from by decide) (x' := (⟨(rd_T37 l0 x4_1).f0, (rd_T37 l0 x4_1).f1, (rd_T37 l0 x4_1).f2⟩ : S37)) (k37_mkM _ _ _ (⟨(rd_T37 l0 x4_1).f0, (rd_T37 l0 x4_1).f1, (rd_T37 l0 x4_1).f2⟩ : S37) ) (fun _ hk => hk); have hx48_0 := hcc48 0 _ rfl; (try simp only [show (k37).sz = 3 from rfl, Nat.mul_one, Nat.add_zero] at hx48_0)
               have hf48_0 := hfr48 0; (try simp only [show (k37).sz = 3 from rfl, Nat.mul_one, Nat.add_zero] at hf48_0)
               have hx48_1 := hcc48 1 _ rfl; (try simp only [show (k37).sz = 3 from rfl, Nat.mul_one, Nat.add_zero] at hx48_1)
               have hf48_1 := hfr48 1; (try simp only [show (k37).sz = 3 from rfl, Nat.mul_one, Nat.add_zero] at hf48_1)
               have hx48_2 := hcc48 2 _ rfl; (try simp only [show (k37).sz = 3 from rfl, Nat.mul_one, Nat.add_zero] at hx48_2)
               have hf48_2 := hfr48 2; (try simp only [show (k37).sz = 3 from rfl, Nat.mul_one, Nat.add_zero] at hf48_2)
               clear hcl48 hcc48 hfr48 hM48; try go_wp2_with (first | ((with_reducible refine gate_store (t := 37) (p := 50) rfl ?_); refine store_event (t := 37) (p := 50) (v := ?vo_w49) (w1 := (((w47.setCell ⟨go40, (x5_2 : Int).toNat * 3, none⟩ (.string ((rd_T37 l0 x4_1).f0))).setCell ⟨go40, (x5_2 : Int).toNat * 3 + 1, none⟩ (.int .i64 ((rd_T37 l0 x4_1).f1))).setCell ⟨go40, (x5_2 : Int).toNat * 3 + 2, none⟩ (.string ((rd_T37 l0 x4_1).f2)))) ?hg ?ho ?hn ?hr ?_; (case ho => rfl); (case hg => rfl); (case hn => rfl); (case hr => first | (go_simp; done) | (go_simp; rfl)); intro w49 hw; have hg : w47.grownBy w49 (some go40) := (by rw [hw]; exact HP48.2); have hp_ : Kd.R k37 37 w49 w.heap.size (fun _ => True) (.slice (some ⟨go40, 0, none⟩) y316.length co45) y329 := (by rw [hw, Ny329.out]; exact HP48.1); clear HP48; replace HO318 := am (hp_); replace HB := am ((by rw [hw]; exact below_set (below_set (below_set (HB.out) GB40.out) GB40.out) GB40.out : Below w.heap.size w w49)); clear hg hw hp_))
               go_roundg k2
               case measure => have := HK1.out; have := HK2.out; omega
               case rel => exact ⟨(y329), (wrap64 (x4_1 + 1)), (by first | rfl | (simp; done) | (simp [*]; done)), H', ⟨by have := HK1.out; have := HK2.out; omega⟩, ⟨rz HO318.out⟩, ⟨bz⟩⟩
              ·rw [if_neg c39] at H
               exact absurd H (by simp)
             ·rw [if_neg c38] at H
              exact absurd H (by simp)
            ·rw [if_neg c37] at H
             exact absurd H (by simp)
           ·rw [if_neg c35] at H
            exact absurd H (by simp)
          ·rw [if_neg c34] at H
           exact absurd H (by simp)
         ·rw [if_neg c33] at H
          exact absurd H (by simp)
        ·rw [if_neg c32] at H
         exact absurd H (by simp)
       ·rw [if_neg c30] at H
        exact absurd H (by simp)
   ·rw [if_neg c2] at H
    have c2b0 : decide (x4_1 < (l0.length : Int)) = false := decide_eq_false c2; clear c2; obtain rfl := Option.some.inj H; go_wp2
    go_ret; exact ⟨_, by first | rfl | (simp [eN, eS] <;> rfl) | (simp [*, eN, eS] <;> rfl), by (with_reducible repeat (first | apply rA | apply rN | apply rD)); exact HO_3.out, bz⟩

end Go.Proofs.YtiamdmlbhmgnjaaDoor.P
