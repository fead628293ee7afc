/- Laid by a program of this session (wip/pr), after the printer of the kit: the functions that a statement reaches as plain Lean functions, and that the calls of the machine come to them. No condition. -/
import Derived.Test.YthbdbgjggoobnaaDoorPx0
import Derived.Test.YthbdbgjggoobnaaDoorPx2
import Derived.Test.YthbdbgjggoobnaaDoorPx3
namespace Go.Proofs.YthbdbgjggoobnaaDoor.P
open Go.RowKit Go.Proofs.YthbdbgjggoobnaaDoorX Go.Proofs.YthbdbgjggoobnaaDoorW.PrintWords Go.Proofs.YthbdbgjggoobnaaDoorW.PrintLast Go.Proofs.YthbdbgjggoobnaaDoorW.PrintMore
attribute [local go_sem] max2_int min2_int max_two min_two
set_option linter.unusedVariables false
set_option linter.unusedSimpArgs false

/- tree.follows and tree.Bad, by hand: a map of the directories that the call makes and keeps to itself. -/
theorem lookup_bool {H : Type} {P : Program} {w : World} {k t e : TypeId} {b n : Nat} {D : DataW H} (K : Maps.Keyed P k) (ht : P.underlying t = some (.map k e)) (he : P.underlying e = some .bool) (hz : (zeroValue e).run P w = .ok (.bool false) w)
  (hown : w.ownsMap P k (plainElem P e) b n D) {key : Value} {kl : Lit} (hkey : keyOf P k key = some kl) {c : Bool} (hat : D.atKey kl (.lit (.bool false)) = .lit (.bool c)) :
  (Instr.lookup t (.map (some b)) key false).run P w = .ok (.bool c) w := by
 obtain ⟨v, ps, hrun, hv⟩ := hown.lookup K ht hz (plainElem_bool he false) hkey; rw [hat] at hv; have hv' : v = .bool c := by
  unfold plainElem at hv
  rw [he] at hv; cases v <;> simp at hv; rw [hv.1]
 rw [hrun, hv']
theorem ownsMap_below {H : Type} {P : Program} {k : TypeId} {R : Value → Option (DataW H × List MemPlace)} {w w' : World} {B b n : Nat} {D : DataW H} (hb : Below B w w') (hlt : b < B) (h : w.ownsMap P k R b n D) : w'.ownsMap P k R b n D := by
 obtain ⟨es, clock, he, F, hs, hD⟩ := h; exact ⟨es, clock, (hb.block b hlt).trans he, F, hs, hD⟩
/-- Is there a directory at a path, among nodes? -/
def dirOf (l : List S35) (p : ByteArray) : Bool := match l.reverse.find? (fun n => n.f0.data.toList == p.data.toList) with | some n => n.f1 == 1 | none => false
def tree_follows.f (k : Nat) (n : ByteArray) (l : List S35) : Option Bool :=
 if l.length = 0 then some (n.toList == ([] : List UInt8)) else (path_Parent.f k n).bind fun t => if t.1.size ≤ maxLen then some (t.2 && (Op.bytesLess (rd_T35 l (wrap64 ((l.length : Int) - 1))).f0.toList n.toList && dirOf l t.1)) else none
set_option maxHeartbeats 1000000 in
theorem tree_follows.calls (k : Nat) (n0 : ByteArray) (n1 : Int) (n2 : ByteArray) (A0 : Option Addr) (c0 : Nat) (l0 : List S35) (b cnt : Nat) (D : DataW Unit) (r : Bool) (w : World) (hr0 : Kd.C k35 w A0 l0.length l0) (hc0 : l0.length ≤ c0) (hn0 : l0.length ≤ 1000000)
  (hm : w.ownsMap Tryd.prog 9 (plainElem Tryd.prog 4) b cnt D) (hD : ∀ p : ByteArray, D.atKey (.string p.data.toList) (.lit (.bool false)) = .lit (.bool (dirOf l0 p))) (h : tree_follows.f k n0 l0 = some r) :
  Calls Tryd.prog 45 #[.agg #[.string n0, .int .i64 n1, .string n2], .slice A0 l0.length c0, .map (some b)] w fun e w' => e = .returned (.bool r) ∧ Below w.heap.size w w' := by
 have hu24 := Tryd.underlying35; unfold tree_follows.f at h
 by_cases hl : l0.length = 0
 ·rw [if_pos hl] at h
  injection h with h; subst h; go_enter Tryd.func45, Tryd.ntmps45; have c1 : decide ((l0.length : Int) = 0) = true := decide_eq_true (by omega); have c1b : ((l0.length : Int) == 0) = true := beq_iff_eq.2 (by omega); have HB := am (Below.refl w.heap.size w); go_wp2_with (first | ((with_reducible refine gate_dst (N := 3) rfl ?_); (try (refine gate_guard (by rfl) ?_; dsimp only)); refine bx 3 #[.string n0, .int .i64 n1, .string n2] 35 ?_; intro gb hg w3 hbox hb; have BK := am hbox; have GE := am (show w.heap.size ≤ gb by rw [hg]; exact below_size HB.out); replace HB := am (below_step HB.out hb); clear hb hbox hg; have hcz_0 : w3.cell? ⟨gb, 0, none⟩ = some (.string n0) := (blk_cell BK.out 0).trans rfl; have hfz_0 := blk_frozen BK.out 0))
  go_ret; exact ⟨by first | rfl | (simp; done) | (simp [*]; done), bz⟩
 ·rw [if_neg hl] at h
  obtain ⟨⟨r1, r2⟩, A40, h⟩ := oB h; by_cases hz : r1.size ≤ maxLen
  case neg => rw [if_neg hz] at h; cases h
  rw [if_pos hz] at h; injection h with h; have c1 : decide ((l0.length : Int) = 0) = false := decide_eq_false (by omega); have c1b : ((l0.length : Int) == 0) = false := beq_eq_false_iff_ne.2 (by omega); have p120 : 0 ≤ wrap64 ((l0.length : Int) - 1) := by unfold wrap64; omega
  have q120 : wrap64 ((l0.length : Int) - 1) < (l0.length : Int) := by unfold wrap64; omega
  obtain ⟨ad120, e120, hx120_0, hx120_1, hx120_2⟩ := at_T35 hr0 (wrap64 ((l0.length : Int) - 1)) p120 q120; cases e120; have hw : wrap64 ((l0.length : Int) - 1) = IntKind.i64.wrap ((l0.length : Int) - 1) := by simp only [wrap64, IntKind.wrap_i64]
  rw [hw] at p120 q120 hx120_0 h; clear hw hx120_1 hx120_2; replace p120 := eq_true p120; replace q120 := eq_true q120; have HB := am (Below.refl w.heap.size w); have hkey := WideMaps.keyOf_string_mk (P := Tryd.prog) Tryd.underlying9 hz; have hcl := (wB w _ hx120_0); have hHD := hD r1; cases r2
  ·subst h
   go_enter Tryd.func45, Tryd.ntmps45; go_wp2_with (first | ((with_reducible refine gate_dst (N := 3) rfl ?_); (try (refine gate_guard (by rfl) ?_; dsimp only)); refine bx 3 #[.string n0, .int .i64 n1, .string n2] 35 ?_; intro gb hg w3 hbox hb; have BK := am hbox; have GE := am (show w.heap.size ≤ gb by rw [hg]; exact below_size HB.out); replace HB := am (below_step HB.out hb); clear hb hbox hg; have hcz_0 : w3.cell? ⟨gb, 0, none⟩ = some (.string n0) := (blk_cell BK.out 0).trans rfl; have hfz_0 := blk_frozen BK.out 0) | ((with_reducible refine gate_callee (f := 39) rfl ?_); refine gL (some 18) Tryd.func39 #[.string n0] ?_; (with_reducible refine (path_Parent.calls k n0 r1 false _ A40).mono ?_); rintro e w7 ⟨rfl, hb⟩; refine ⟨_, rfl, ?_⟩; have n0_ := am (blk_below BK.out hb); have n1_ := am (below_step HB.out hb); clear BK; clear HB; have BK := n0_; have HB := n1_; clear n0_ n1_ hb; have hd_0 : w7.cell? ⟨gb, 0, none⟩ = some (.string n0) := (blk_cell BK.out 0).trans rfl; have hx7 := (HB.out.cell hcl).trans hx120_0; have hlk : ∀ n, (Instr.lookup 95 (.map (some b)) (.string r1) false).run Tryd.prog (w7.drewN n) = .ok (.bool (dirOf l0 r1)) (w7.drewN n) := fun n => lookup_bool (Maps.string_keyed Tryd.underlying9) Tryd.underlying95 Tryd.underlying4 (by kernel_rfl) (ownsMap_below (bN HB.out n) hm.lt hm) hkey hHD))
   go_quiet (fail)
   go_wp2
   go_ret; exact ⟨by first | rfl | (simp; done) | (simp [*]; done), bz⟩
  ·by_cases hless : Op.bytesLess (rd_T35 l0 (IntKind.i64.wrap ((l0.length : Int) - 1))).f0.toList n0.toList = true
   ·rw [hless] at h
    subst h; go_enter Tryd.func45, Tryd.ntmps45; go_wp2_with (first | ((with_reducible refine gate_dst (N := 3) rfl ?_); (try (refine gate_guard (by rfl) ?_; dsimp only)); refine bx 3 #[.string n0, .int .i64 n1, .string n2] 35 ?_; intro gb hg w3 hbox hb; have BK := am hbox; have GE := am (show w.heap.size ≤ gb by rw [hg]; exact below_size HB.out); replace HB := am (below_step HB.out hb); clear hb hbox hg; have hcz_0 : w3.cell? ⟨gb, 0, none⟩ = some (.string n0) := (blk_cell BK.out 0).trans rfl; have hfz_0 := blk_frozen BK.out 0) | ((with_reducible refine gate_callee (f := 39) rfl ?_); refine gL (some 18) Tryd.func39 #[.string n0] ?_; (with_reducible refine (path_Parent.calls k n0 r1 true _ A40).mono ?_); rintro e w7 ⟨rfl, hb⟩; refine ⟨_, rfl, ?_⟩; have n0_ := am (blk_below BK.out hb); have n1_ := am (below_step HB.out hb); clear BK; clear HB; have BK := n0_; have HB := n1_; clear n0_ n1_ hb; have hd_0 : w7.cell? ⟨gb, 0, none⟩ = some (.string n0) := (blk_cell BK.out 0).trans rfl; have hx7 := (HB.out.cell hcl).trans hx120_0; have hlk : ∀ n, (Instr.lookup 95 (.map (some b)) (.string r1) false).run Tryd.prog (w7.drewN n) = .ok (.bool (dirOf l0 r1)) (w7.drewN n) := fun n => lookup_bool (Maps.string_keyed Tryd.underlying9) Tryd.underlying95 Tryd.underlying4 (by kernel_rfl) (ownsMap_below (bN HB.out n) hm.lt hm) hkey hHD))
    go_quiet (fail)
    go_wp2
    go_ret; exact ⟨by first | rfl | (simp; done) | (simp [*]; done), bz⟩
   ·replace hless := Bool.eq_false_iff.mpr hless
    rw [hless] at h; subst h; go_enter Tryd.func45, Tryd.ntmps45; go_wp2_with (first | ((with_reducible refine gate_dst (N := 3) rfl ?_); (try (refine gate_guard (by rfl) ?_; dsimp only)); refine bx 3 #[.string n0, .int .i64 n1, .string n2] 35 ?_; intro gb hg w3 hbox hb; have BK := am hbox; have GE := am (show w.heap.size ≤ gb by rw [hg]; exact below_size HB.out); replace HB := am (below_step HB.out hb); clear hb hbox hg; have hcz_0 : w3.cell? ⟨gb, 0, none⟩ = some (.string n0) := (blk_cell BK.out 0).trans rfl; have hfz_0 := blk_frozen BK.out 0) | ((with_reducible refine gate_callee (f := 39) rfl ?_); refine gL (some 18) Tryd.func39 #[.string n0] ?_; (with_reducible refine (path_Parent.calls k n0 r1 true _ A40).mono ?_); rintro e w7 ⟨rfl, hb⟩; refine ⟨_, rfl, ?_⟩; have n0_ := am (blk_below BK.out hb); have n1_ := am (below_step HB.out hb); clear BK; clear HB; have BK := n0_; have HB := n1_; clear n0_ n1_ hb; have hd_0 : w7.cell? ⟨gb, 0, none⟩ = some (.string n0) := (blk_cell BK.out 0).trans rfl; have hx7 := (HB.out.cell hcl).trans hx120_0; have hlk : ∀ n, (Instr.lookup 95 (.map (some b)) (.string r1) false).run Tryd.prog (w7.drewN n) = .ok (.bool (dirOf l0 r1)) (w7.drewN n) := fun n => lookup_bool (Maps.string_keyed Tryd.underlying9) Tryd.underlying95 Tryd.underlying4 (by kernel_rfl) (ownsMap_below (bN HB.out n) hm.lt hm) hkey hHD))
    go_quiet (fail)
    go_wp2
    go_ret; exact ⟨by first | rfl | (simp; done) | (simp [*]; done), bz⟩
def tree_Bad.go (k : Nat) (t : List S35) : Nat → Nat → Option Int
 | 0, _ => some (-1)
 | f + 1, j => if 400 ≤ j then some (j : Int) else (tree_Good.f k (rd_T35 t (j : Int)).f0 (rd_T35 t (j : Int)).f1 (rd_T35 t (j : Int)).f2).bind fun g => if g = true then ((tree_follows.f k (rd_T35 t (j : Int)).f0 (t.take j)).bind fun b => if b = true then (if (rd_T35 t (j : Int)).f0.size ≤ maxLen then tree_Bad.go k t f (j + 1) else none) else some (j : Int)) else some (j : Int)
def tree_Bad.f (k : Nat) (l0 : List S35) : Option Int := if l0.length = 0 then some 0 else if l0.length ≤ 1000000 then tree_Bad.go k l0 l0.length 0 else none
theorem wp_named {P : Program} {c : Code} {Q : Exit → Act → World → Prop} {a : Act} {W : World} (h : ∀ wq, wq = W → Code.wp P c Q a wq) : Code.wp P c Q a W := h W rfl
set_option maxHeartbeats 2000000 in
set_option maxRecDepth 100000 in
theorem tree_Bad.calls (k : Nat) (A0 : Option Addr) (c0 : Nat) (l0 : List S35) (r : Int) (w : World) (hr0 : Kd.C k35 w A0 l0.length l0) (hc0 : l0.length ≤ c0) (h : tree_Bad.f k l0 = some r) :
  Calls Tryd.prog 27 #[.slice A0 l0.length c0] w fun e w' => e = .returned (.int .i64 r) ∧ Below w.heap.size w w' := by
 have hu24 := Tryd.underlying35; unfold tree_Bad.f at h
 by_cases hl : l0.length = 0
 ·rw [if_pos hl] at h
  injection h with h; subst h; have c1b : ((l0.length : Int) == 0) = true := beq_iff_eq.2 (by omega); have c1 : decide ((l0.length : Int) = 0) = true := decide_eq_true (by omega); go_enter Tryd.func27, Tryd.ntmps27; go_wp2
  go_ret; exact ⟨rfl, Below.refl _ _⟩
 ·rw [if_neg hl] at h
  by_cases hn : l0.length ≤ 1000000
  case neg => rw [if_neg hn] at h; cases h
  rw [if_pos hn] at h; have HG := am h; have HR := am hr0; clear h hr0; have hmm := @run_makeMap Tryd.prog; have c1b : ((l0.length : Int) == 0) = false := beq_eq_false_iff_ne.2 (by omega); have c1 : decide ((l0.length : Int) = 0) = false := decide_eq_false (by omega); go_enter Tryd.func27, Tryd.ntmps27; go_wp2
  go_loopw [12] (fun v12 wr => ∃ j : Nat, j ≤ l0.length ∧ v12 = .int .i64 j ∧ Aside0 (tree_Bad.go k l0 (l0.length - j) j = some r) ∧ Aside0 (∃ D : DataW Unit, Maps.IsMap D ∧ wr.ownsMap Tryd.prog 9 (plainElem Tryd.prog 4) w.heap.size j D ∧ ∀ p : ByteArray, D.atKey (.string p.data.toList) (.lit (.bool false)) = .lit (.bool (dirOf (l0.take j) p))) ∧ Aside0 (Below w.heap.size w wr) ∧ Aside0 (w.heap.size + 1 ≤ wr.heap.size))
   (fun v _ => l0.length - (intOf v).toNat)
  case atStart =>
   exact ⟨0, Nat.zero_le _, rfl, HG, ⟨.map [], Maps.isMap_empty, World.ownsMap_made _ _ _ _, fun p => rfl⟩, ⟨(Below.refl _ _).alloc (Nat.le_refl _) _⟩, ⟨by simp⟩⟩
  case round =>
   obtain ⟨j, hj, rfl, HG, HD, HB, HS⟩ := hrel; by_cases hjl : j < l0.length
   ·obtain ⟨ad, e_, hx0, hx1, hx2⟩ := at_T35 HR.out (j : Int) (by omega) (by omega)
    cases e_; have hlt := wB w _ hx0; replace hx0 := (HB.out.cell (wB w _ hx0)).trans hx0; replace hx1 := (HB.out.cell (wB w _ hx1)).trans hx1; replace hx2 := (HB.out.cell (wB w _ hx2)).trans hx2; simp only [Int.toNat_natCast] at hx0 hx1 hx2
    have c2 : decide ((j : Int) < (l0.length : Int)) = true := decide_eq_true (by omega); have p1 : (0 ≤ (j : Int)) = True := eq_true (by omega); have q1 : ((j : Int) < (l0.length : Int)) = True := eq_true (by omega); go_upto_region 7 with (first | ((with_reducible refine gate_dst (N := 5) rfl ?_); (try (refine gate_guard (by rfl) ?_; dsimp only)); refine bx 5 #[.string (⟨#[]⟩ : ByteArray), .int .i64 0, .string (⟨#[]⟩ : ByteArray)] 35 ?_; intro gb hg w5 hbox hb; replace HB := am (below_step HB.out hb); have BK := am hbox; have GE := am (show w.heap.size + 1 ≤ gb by rw [hg]; exact HS.out); have HR5 := am hb; have GG := am hg; clear hb hbox hg; have hcz_0 : w5.cell? ⟨gb, 0, none⟩ = some (.string (⟨#[]⟩ : ByteArray)) := (blk_cell BK.out 0).trans rfl; have hcz_1 : w5.cell? ⟨gb, 1, none⟩ = some (.int .i64 0) := (blk_cell BK.out 1).trans rfl; have hcz_2 : w5.cell? ⟨gb, 2, none⟩ = some (.string (⟨#[]⟩ : ByteArray)) := (blk_cell BK.out 2).trans rfl; have hfz_0 := blk_frozen BK.out 0; have hfz_1 := blk_frozen BK.out 1; have hfz_2 := blk_frozen BK.out 2))
    refine wp_named fun wq hwq => ?_
    have BQ := am (show wq.heap[gb]? = some (.cells #[.string (rd_T35 l0 (j : Int)).f0, .int .i64 (rd_T35 l0 (j : Int)).f1, .string (rd_T35 l0 (j : Int)).f2] 35 (0, 0)) by rw [hwq]; exact blk_put (blk_put (blk_put BK.out 0 _ rfl) 1 _ rfl) 2 _ rfl); have HO := am (show Below w.heap.size w wq by rw [hwq]; exact below_set (below_set (below_set HB.out (by have := GE.out; omega)) (by have := GE.out; omega)) (by have := GE.out; omega)); have HI := am (show Below wr.heap.size wr wq by rw [hwq]; exact below_set (below_set (below_set HR5.out (by rw [GG.out]; exact Nat.le_refl _)) (by rw [GG.out]; exact Nat.le_refl _)) (by rw [GG.out]; exact Nat.le_refl _)); have FQ := am (show Kd.C k35 wq (some ad) l0.length l0 from Kd.C_below HR.out HO.out); clear hwq hcz_0 hcz_1 hcz_2 hfz_0 hfz_1 hfz_2 BK HR5 HB hx0 hx1 hx2; have H := HG.out; rw [show l0.length - j = (l0.length - (j + 1)) + 1 by omega, tree_Bad.go] at H; have hd_0 : wq.cell? ⟨gb, 0, none⟩ = some (.string (rd_T35 l0 (j : Int)).f0) := (blk_cell BQ.out 0).trans rfl; have hd_1 : wq.cell? ⟨gb, 1, none⟩ = some (.int .i64 (rd_T35 l0 (j : Int)).f1) := (blk_cell BQ.out 1).trans rfl; have hd_2 : wq.cell? ⟨gb, 2, none⟩ = some (.string (rd_T35 l0 (j : Int)).f2) := (blk_cell BQ.out 2).trans rfl; clear HG; by_cases h4 : 400 ≤ j
    ·rw [if_pos h4] at H
     injection H with H; subst H; have c4 : decide (400 ≤ (j : Int)) = true := decide_eq_true (by omega); have c4b : decide (400 ≤ j) = true := decide_eq_true h4; go_quiet (fail)
     go_wp2
     go_ret; exact ⟨by first | rfl | (simp; done) | (simp [*]; done), by repeat (first | (with_reducible first | exact HO.out | apply bA | apply bN | apply bO) | exact HO.out)⟩
    ·rw [if_neg h4] at H
     have c4 : decide (400 ≤ (j : Int)) = false := decide_eq_false (by omega); have c4b : decide (400 ≤ j) = false := decide_eq_false h4; obtain ⟨g, AG, H⟩ := oB H; cases g
     ·injection H with H
      subst H; refine wp_region_any (by kernel_rfl) ?_
      try (change wpAny _ _ _ _ _ _ _ (World.drew _))
      refine wpAny_take (i := 0) (v := ?_) rfl (by kernel_rfl) (by kernel_rfl) (by kernel_rfl) (fun _ _ _ h => h) (Or.inl ⟨by rfl, ?hy⟩) ?_
      case hy => (intro w; go_simp; try with_reducible rfl)
      refine wpAny_take (i := 1) (v := ?_) rfl (by kernel_rfl) (by kernel_rfl) (by kernel_rfl) (fun _ _ _ h => h) (Or.inl ⟨by rfl, ?hy⟩) ?_
      case hy => (intro w; go_simp; try with_reducible rfl)
      refine wpAny_take (i := 2) (v := ?_) rfl (by kernel_rfl) (by kernel_rfl) (by kernel_rfl) (fun _ _ _ h => h) (Or.inl ⟨by rfl, ?hy⟩) ?_
      case hy => (intro w; go_simp; try with_reducible rfl)
      refine wpAny_ready (rs := [3]) (by kernel_rfl) (by simp) ?_
      refine AllReady.cons rfl (fun K hK => ?_) AllReady.nil
      go_simp
      refine hK _ _ ?_
      clear hK K; refine wpAny_ready (rs := [4]) (by kernel_rfl) (by simp) ?_
      refine AllReady.cons rfl (fun K hK => ?_) AllReady.nil
      go_simp
      go_wp2_with (first | (go_at_call 44; refine (tree_Good.calls k _ _ _ false _ AG).mono ?_; rintro e w7 ⟨rfl, hb⟩; have HO7 := am (below_step (by repeat (first | (with_reducible first | exact HO.out | apply bA | apply bN | apply bO) | exact HO.out)) hb); have B7 := am (blk_below (w1 := w7) (g := gb) (o := .cells #[.string (rd_T35 l0 (j : Int)).f0, .int .i64 (rd_T35 l0 (j : Int)).f1, .string (rd_T35 l0 (j : Int)).f2] 35 (0, 0)) (by exact BQ.out) hb); clear hb; have he_0 : w7.cell? ⟨gb, 0, none⟩ = some (.string (rd_T35 l0 (j : Int)).f0) := (blk_cell B7.out 0).trans rfl; have he_1 : w7.cell? ⟨gb, 1, none⟩ = some (.int .i64 (rd_T35 l0 (j : Int)).f1) := (blk_cell B7.out 1).trans rfl; have he_2 : w7.cell? ⟨gb, 2, none⟩ = some (.string (rd_T35 l0 (j : Int)).f2) := (blk_cell B7.out 2).trans rfl))
      try (refine hK _ _ ?_; clear hK K)
      refine wpAny_take (i := 5) (v := ?_) rfl (by kernel_rfl) (by kernel_rfl) (by kernel_rfl) (fun _ _ _ h => h) (Or.inl ⟨by rfl, ?hy⟩) ?_
      case hy => (intro w; go_simp; try with_reducible rfl)
      refine wpAny_take (i := 6) (v := ?_) rfl (by kernel_rfl) (by kernel_rfl) (by kernel_rfl) (fun _ _ _ h => h) (Or.inl ⟨by rfl, ?hy⟩) ?_
      case hy => (intro w; go_simp; try with_reducible rfl)
      refine wpAny_take (i := 7) (v := ?_) rfl (by kernel_rfl) (by kernel_rfl) (by kernel_rfl) (fun _ _ _ h => h) (Or.inl ⟨by rfl, ?hy⟩) ?_
      case hy => (intro w; go_simp; try with_reducible rfl)
      try simp only [Act.put, List.getElem_toArray, List.getElem_cons_succ, List.getElem_cons_zero, sA, sB, sC]
      refine wpAny_take (i := 8) (v := undef) rfl (by kernel_rfl) (by kernel_rfl) (by kernel_rfl) (fun _ _ _ h => h) (Or.inr ⟨by rfl, rfl⟩) ?_
      try simp only [Act.put, List.getElem_toArray, List.getElem_cons_succ, List.getElem_cons_zero, sA, sB, sC]
      refine wpAny_take (i := 9) (v := undef) rfl (by kernel_rfl) (by kernel_rfl) (by kernel_rfl) (fun _ _ _ h => h) (Or.inr ⟨by rfl, rfl⟩) ?_
      try simp only [Act.put, List.getElem_toArray, List.getElem_cons_succ, List.getElem_cons_zero, sA, sB, sC]
      refine wpAny_take (i := 10) (v := undef) rfl (by kernel_rfl) (by kernel_rfl) (by kernel_rfl) (fun _ _ _ h => h) (Or.inr ⟨by rfl, rfl⟩) ?_
      try simp only [Act.put, List.getElem_toArray, List.getElem_cons_succ, List.getElem_cons_zero, sA, sB, sC]
      refine wpAny_take (i := 11) (v := undef) rfl (by kernel_rfl) (by kernel_rfl) (by kernel_rfl) (fun _ _ _ h => h) (Or.inr ⟨by rfl, rfl⟩) ?_
      try simp only [Act.put, List.getElem_toArray, List.getElem_cons_succ, List.getElem_cons_zero, sA, sB, sC]
      refine wpAny_take (i := 12) (v := undef) rfl (by kernel_rfl) (by kernel_rfl) (by kernel_rfl) (fun _ _ _ h => h) (Or.inr ⟨by rfl, rfl⟩) ?_
      try simp only [Act.put, List.getElem_toArray, List.getElem_cons_succ, List.getElem_cons_zero, sA, sB, sC]
      refine wpAny_take (i := 13) (v := undef) rfl (by kernel_rfl) (by kernel_rfl) (by kernel_rfl) (fun _ _ _ h => h) (Or.inr ⟨by rfl, rfl⟩) ?_
      try simp only [Act.put, List.getElem_toArray, List.getElem_cons_succ, List.getElem_cons_zero, sA, sB, sC]
      refine wpAny_take (i := 14) (v := undef) rfl (by kernel_rfl) (by kernel_rfl) (by kernel_rfl) (fun _ _ _ h => h) (Or.inr ⟨by rfl, rfl⟩) ?_
      try simp only [Act.put, List.getElem_toArray, List.getElem_cons_succ, List.getElem_cons_zero, sA, sB, sC]
      refine wpAny_take (i := 15) (v := ?_) rfl (by kernel_rfl) (by kernel_rfl) (by kernel_rfl) (fun _ _ _ h => h) (Or.inl ⟨by rfl, ?hy⟩) ?_
      case hy => (intro w; go_simp; try with_reducible rfl)
      refine wpAny_done (by kernel_rfl) ?_ _
      all_goals go_wp2
      all_goals go_ret
      all_goals exact ⟨by first | rfl | (simp; done) | (simp [*]; done), by repeat (first | (with_reducible first | exact HO7.out | apply bA | apply bN | apply bO) | exact HO7.out)⟩
     ·rw [if_pos rfl] at H
      obtain ⟨g2, AF, H⟩ := oB H; obtain ⟨D, hDm, hown0, hDk⟩ := HD.out; have MP := am (ownsMap_below HI.out (by have := HS.out; omega) hown0); have hlen : (l0.take j).length = j := by rw [lT]; omega
      have hFC := fun (W : World) (hc : Kd.C k35 W (some ad) j (l0.take j)) (hm : W.ownsMap Tryd.prog 9 (plainElem Tryd.prog 4) w.heap.size j D) => by
       have x_ := tree_follows.calls k (rd_T35 l0 (j : Int)).f0 (rd_T35 l0 (j : Int)).f1 (rd_T35 l0 (j : Int)).f2 (some ad) c0 (l0.take j) w.heap.size j D g2 W (by rw [hlen]; exact hc) (by omega) (by omega) hm hDk AF; rw [hlen] at x_; exact x_
      have FC := am (show Kd.C k35 wq (some ad) j (l0.take j) by have x_ := Kd.C_take FQ.out (show j ≤ l0.length by omega); rw [hlen] at x_; exact x_); have s1 : ((j : Int) ≤ (c0 : Int)) = True := eq_true (by omega); have s2 : (j ≤ c0) = True := eq_true (by omega); refine wp_region_any (by kernel_rfl) ?_
      try (change wpAny _ _ _ _ _ _ _ (World.drew _))
      refine wpAny_take (i := 0) (v := ?_) rfl (by kernel_rfl) (by kernel_rfl) (by kernel_rfl) (fun _ _ _ h => h) (Or.inl ⟨by rfl, ?hy⟩) ?_
      case hy => (intro w; go_simp; try with_reducible rfl)
      try simp only [Act.put, List.getElem_toArray, List.getElem_cons_succ, List.getElem_cons_zero, sA, sB, sC]
      refine wpAny_take (i := 1) (v := ?_) rfl (by kernel_rfl) (by kernel_rfl) (by kernel_rfl) (fun _ _ _ h => h) (Or.inl ⟨by rfl, ?hy⟩) ?_
      case hy => (intro w; go_simp; try with_reducible rfl)
      try simp only [Act.put, List.getElem_toArray, List.getElem_cons_succ, List.getElem_cons_zero, sA, sB, sC]
      refine wpAny_take (i := 2) (v := ?_) rfl (by kernel_rfl) (by kernel_rfl) (by kernel_rfl) (fun _ _ _ h => h) (Or.inl ⟨by rfl, ?hy⟩) ?_
      case hy => (intro w; go_simp; try with_reducible rfl)
      try simp only [Act.put, List.getElem_toArray, List.getElem_cons_succ, List.getElem_cons_zero, sA, sB, sC]
      refine wpAny_ready (rs := [3]) (by kernel_rfl) (by simp) ?_
      refine AllReady.cons rfl (fun K hK => ?_) AllReady.nil
      go_simp
      refine hK _ _ ?_
      clear hK K; refine wpAny_ready (rs := [4]) (by kernel_rfl) (by simp) ?_
      refine AllReady.cons rfl (fun K hK => ?_) AllReady.nil
      go_simp
      go_wp2_with (first | (go_at_call 44; refine (tree_Good.calls k _ _ _ true _ AG).mono ?_; rintro e w7 ⟨rfl, hb⟩; have HO7 := am (below_step (by repeat (first | (with_reducible first | exact HO.out | apply bA | apply bN | apply bO) | exact HO.out)) hb); have B7 := am (blk_below (w1 := w7) (g := gb) (o := .cells #[.string (rd_T35 l0 (j : Int)).f0, .int .i64 (rd_T35 l0 (j : Int)).f1, .string (rd_T35 l0 (j : Int)).f2] 35 (0, 0)) (by exact BQ.out) hb); have MP7 := am (ownsMap_below hb (by exact MP.out.lt) (by exact MP.out)); have FC7 := am (Kd.C_below (w1 := w7) (by first | exact cD FC.out | exact FC.out) hb); clear hb; have he_0 : w7.cell? ⟨gb, 0, none⟩ = some (.string (rd_T35 l0 (j : Int)).f0) := (blk_cell B7.out 0).trans rfl; have he_1 : w7.cell? ⟨gb, 1, none⟩ = some (.int .i64 (rd_T35 l0 (j : Int)).f1) := (blk_cell B7.out 1).trans rfl; have he_2 : w7.cell? ⟨gb, 2, none⟩ = some (.string (rd_T35 l0 (j : Int)).f2) := (blk_cell B7.out 2).trans rfl))
      try (refine hK _ _ ?_; clear hK K)
      refine wpAny_take (i := 5) (v := ?_) rfl (by kernel_rfl) (by kernel_rfl) (by kernel_rfl) (fun _ _ _ h => h) (Or.inl ⟨by rfl, ?hy⟩) ?_
      case hy => (intro w; go_simp; try with_reducible rfl)
      try simp only [Act.put, List.getElem_toArray, List.getElem_cons_succ, List.getElem_cons_zero, sA, sB, sC]
      refine wpAny_take (i := 6) (v := ?_) rfl (by kernel_rfl) (by kernel_rfl) (by kernel_rfl) (fun _ _ _ h => h) (Or.inl ⟨by rfl, ?hy⟩) ?_
      case hy => (intro w; go_simp; try with_reducible rfl)
      try simp only [Act.put, List.getElem_toArray, List.getElem_cons_succ, List.getElem_cons_zero, sA, sB, sC]
      refine wpAny_take (i := 7) (v := ?_) rfl (by kernel_rfl) (by kernel_rfl) (by kernel_rfl) (fun _ _ _ h => h) (Or.inl ⟨by rfl, ?hy⟩) ?_
      case hy => (intro w; go_simp; try with_reducible rfl)
      try simp only [Act.put, List.getElem_toArray, List.getElem_cons_succ, List.getElem_cons_zero, sA, sB, sC]
      refine wpAny_take (i := 9) (v := ?_) rfl (by kernel_rfl) (by kernel_rfl) (by kernel_rfl) (fun _ _ _ h => h) (Or.inl ⟨by rfl, ?hy⟩) ?_
      case hy => (intro w; go_simp; try with_reducible rfl)
      try simp only [Act.put, List.getElem_toArray, List.getElem_cons_succ, List.getElem_cons_zero, sA, sB, sC]
      refine wpAny_take (i := 10) (v := ?_) rfl (by kernel_rfl) (by kernel_rfl) (by kernel_rfl) (fun _ _ _ h => h) (Or.inl ⟨by rfl, ?hy⟩) ?_
      case hy => (intro w; go_simp; try with_reducible rfl)
      try simp only [Act.put, List.getElem_toArray, List.getElem_cons_succ, List.getElem_cons_zero, sA, sB, sC]
      refine wpAny_take (i := 12) (v := ?_) rfl (by kernel_rfl) (by kernel_rfl) (by kernel_rfl) (fun _ _ _ h => h) (Or.inl ⟨by rfl, ?hy⟩) ?_
      case hy => (intro w; go_simp; try with_reducible rfl)
      try simp only [Act.put, List.getElem_toArray, List.getElem_cons_succ, List.getElem_cons_zero, sA, sB, sC]
      refine wpAny_take (i := 11) (v := ?_) rfl (by kernel_rfl) (by kernel_rfl) (by kernel_rfl) (fun _ _ _ h => h) (Or.inl ⟨by rfl, ?hy⟩) ?_
      case hy => (intro w; go_simp; try with_reducible rfl)
      try simp only [Act.put, List.getElem_toArray, List.getElem_cons_succ, List.getElem_cons_zero, sA, sB, sC]
      refine wpAny_ready (rs := [8]) (by kernel_rfl) (by simp) ?_
      refine AllReady.cons rfl (fun K hK => ?_) AllReady.nil
      go_simp
      refine hK _ _ ?_
      clear hK K; refine wpAny_ready (rs := [13]) (by kernel_rfl) (by simp) ?_
      refine AllReady.cons rfl (fun K hK => ?_) AllReady.nil
      go_simp
      go_wp2_with (first | (go_at_call 45; refine (hFC _ (by exact FC7.out) (by exact MP7.out)).mono ?_; rintro e w9 ⟨rfl, hb⟩; have HO9 := am (below_step (by repeat (first | (with_reducible first | exact HO7.out | apply bA | apply bN | apply bO) | exact HO7.out)) hb); have B9 := am (blk_below (w1 := w9) (g := gb) (o := .cells #[.string (rd_T35 l0 (j : Int)).f0, .int .i64 (rd_T35 l0 (j : Int)).f1, .string (rd_T35 l0 (j : Int)).f2] 35 (0, 0)) (by exact B7.out) hb); have MP9 := am (ownsMap_below hb (by exact MP7.out.lt) (by exact MP7.out)); clear hb; have hf_0 : w9.cell? ⟨gb, 0, none⟩ = some (.string (rd_T35 l0 (j : Int)).f0) := (blk_cell B9.out 0).trans rfl; have hf_1 : w9.cell? ⟨gb, 1, none⟩ = some (.int .i64 (rd_T35 l0 (j : Int)).f1) := (blk_cell B9.out 1).trans rfl))
      try (refine hK _ _ ?_; clear hK K)
      refine wpAny_take (i := 14) (v := ?_) rfl (by kernel_rfl) (by kernel_rfl) (by kernel_rfl) (fun _ _ _ h => h) (Or.inl ⟨by rfl, ?hy⟩) ?_
      case hy => (intro w; go_simp; try with_reducible rfl)
      try simp only [Act.put, List.getElem_toArray, List.getElem_cons_succ, List.getElem_cons_zero, sA, sB, sC]
      refine wpAny_take (i := 15) (v := ?_) rfl (by kernel_rfl) (by kernel_rfl) (by kernel_rfl) (fun _ _ _ h => h) (Or.inl ⟨by rfl, ?hy⟩) ?_
      case hy => (intro w; go_simp; try with_reducible rfl)
      try simp only [Act.put, List.getElem_toArray, List.getElem_cons_succ, List.getElem_cons_zero, sA, sB, sC]
      refine wpAny_done (by kernel_rfl) ?_ _
      cases g2
      ·injection H with H
       subst H; go_wp2
       go_ret; exact ⟨by first | rfl | (simp; done) | (simp [*]; done), by repeat (first | (with_reducible first | exact HO9.out | apply bA | apply bN | apply bO) | exact HO9.out)⟩
      ·rw [if_pos rfl] at H
       by_cases hz : (rd_T35 l0 (j : Int)).f0.size ≤ maxLen
       case neg => rw [if_neg hz] at H; cases H
       rw [if_pos hz] at H; have H' := am H; clear H; have hkey := WideMaps.keyOf_string_mk (P := Tryd.prog) Tryd.underlying9 hz; go_wp2_with (first | (at_mapUpdate; refine wpList_mapUpdate_own _ rfl _ _ _ 95 rfl 9 4 (Maps.string_keyed Tryd.underlying9) Tryd.underlying95 (plainElem Tryd.prog 4) w.heap.size j D rfl MP9.out (by unfold maxLen; omega) _ _ _ rfl rfl hkey _ [] (plainElem_bool Tryd.underlying4 _) ?_; intro w10 hown10 hgrow10))
       go_roundw
       case rel =>
        have htk : l0.take (j + 1) = l0.take j ++ [rd_T35 l0 (j : Int)] := by
         have e1 : rd_T35 l0 (j : Int) = l0[j] := by
          show l0.getD (Int.toNat (j : Int)) z35 = _
          rw [Int.toNat_natCast, List.getD_eq_getElem?_getD, List.getElem?_eq_getElem hjl]; rfl
         rw [e1, List.take_add_one, List.getElem?_eq_getElem hjl]; rfl
        refine ⟨j + 1, by omega, by first | rfl | (simp; done) | (push_cast; rfl), H', ⟨D.put (.string (rd_T35 l0 (j : Int)).f0.data.toList) (.lit (.bool ((rd_T35 l0 (j : Int)).f1 == 1))), hDm.put _ _, hown10, fun p => ?_⟩, ⟨HO9.out.grown hgrow10 (by exact below_size HO9.out) (fun k_ hk_ => by cases hk_; exact Nat.le_refl _)⟩, ⟨by have a1 := hgrow10.size; have a2 := blk_lt B9.out; have a3 := GE.out; omega⟩⟩
        rw [htk]; by_cases hp : (rd_T35 l0 (j : Int)).f0 = p
        ·subst hp
         rw [Maps.atKey_put_same hDm (show WideAt.IsKeyLit (.string (rd_T35 l0 (j : Int)).f0.data.toList) from trivial)]; unfold dirOf
         rw [List.reverse_append, List.reverse_singleton, List.singleton_append, List.find?_cons, beq_self_eq_true]
        ·have hne : (Lit.string p.data.toList) ≠ .string (rd_T35 l0 (j : Int)).f0.data.toList := fun e => hp (by
          injection e with e; exact ByteArray.ext (Array.ext' e.symm))
         rw [Maps.atKey_put_other hne, hDk p]; have hb : ((rd_T35 l0 (j : Int)).f0.data.toList == p.data.toList) = false := beq_eq_false_iff_ne.2 (fun e => hp (ByteArray.ext (Array.ext' e))); unfold dirOf
         rw [List.reverse_append, List.reverse_singleton, List.singleton_append, List.find?_cons, hb]
       case measure => simp [intOf]; omega
   ·obtain rfl : j = l0.length := by omega
    have c2 : decide ((l0.length : Int) < (l0.length : Int)) = false := by simp
    have H := HG.out; rw [Nat.sub_self, tree_Bad.go] at H; injection H with H; subst H; go_wp2
    go_ret; exact ⟨rfl, HB.out⟩
theorem tree_follows.mono : ∀ n l k, LeO (tree_follows.f k n l) (tree_follows.f (k + 1) n l) := by
 intro n l k r h; unfold tree_follows.f at h ⊢
 by_cases hl : l.length = 0
 ·rw [if_pos hl] at h ⊢; exact h
 ·rw [if_neg hl] at h ⊢
  obtain ⟨t, ht, h⟩ := oB h; rw [path_Parent.mono n k t ht]; exact h
theorem tree_Bad.mono_l (t : List S35) (k : Nat) : ∀ f j, LeO (tree_Bad.go k t f j) (tree_Bad.go (k + 1) t f j)
 | 0, _ => fun r h => h
 | f + 1, j => fun r h => by
  rw [tree_Bad.go] at h ⊢; by_cases h4 : 400 ≤ j
  ·rw [if_pos h4] at h ⊢; exact h
  rw [if_neg h4] at h ⊢; obtain ⟨g, hg, h⟩ := oB h; rw [tree_Good.mono _ _ _ k g hg]; show (if g = true then _ else _) = some r
  cases g
  ·exact h
  rw [if_pos rfl] at h ⊢; obtain ⟨b, hb, h⟩ := oB h; rw [tree_follows.mono _ _ k b hb]; show (if b = true then _ else _) = some r
  cases b
  ·exact h
  rw [if_pos rfl] at h ⊢; by_cases hz : (rd_T35 t (j : Int)).f0.size ≤ maxLen
  ·rw [if_pos hz] at h ⊢; exact tree_Bad.mono_l t k f (j + 1) r h
  ·rw [if_neg hz] at h; cases h
theorem tree_Bad.mono : ∀ l0 k, LeO (tree_Bad.f k l0) (tree_Bad.f (k + 1) l0) := by
 intro l k r h; unfold tree_Bad.f at h ⊢
 by_cases hl : l.length = 0
 ·rw [if_pos hl] at h ⊢; exact h
 rw [if_neg hl] at h ⊢; by_cases hn : l.length ≤ 1000000
 ·rw [if_pos hn] at h ⊢; exact tree_Bad.mono_l l k _ _ r h
 ·rw [if_neg hn] at h; cases h

/-! ### tree_May: function 10 -/
def tree_May.f (k : Nat) (l0 : List (S35)) : Option (Bool) := (tree_Bad.f k l0).bind fun t122 => (some (decide (t122 < 0)))
theorem tree_May.mono : ∀ a0 k, LeO (tree_May.f k a0) (tree_May.f (k + 1) a0) := by
 intro a0 k; unfold tree_May.f
 repeat' with_reducible first | exact tree_Bad.mono _ _ | exact LeO.refl _ | exact LeO.none _ | refine LeO.ite ?_ ?_ | refine LeO.bind ?_ (fun _ => ?_)
set_option maxHeartbeats 8000000 in
set_option maxRecDepth 100000 in
theorem tree_May.calls (k : Nat) (A0 : Option Addr) (c0 : Nat) (l0 : List (S35)) (r : Bool) (w : World) (hr0 : Kd.C k35 w A0 l0.length l0) (hc0 : l0.length ≤ c0) (h : tree_May.f k l0 = some r) :
  Calls Tryd.prog 10 #[.slice A0 l0.length c0] w fun e w' => e = .returned (.bool r) ∧ Below w.heap.size w w' := by
 have HR0 := am hr0; have HC0 := am hc0; clear hr0 hc0; have HB := am (Below.refl w.heap.size w); have H : ((tree_Bad.f k l0).bind fun t122 => (some (decide (t122 < 0)))) = some r := h; clear h; refine oR H ?_; clear H; intro t122 A2 H; obtain rfl := Option.some.inj H; go_enter Tryd.func10, Tryd.ntmps10; go_wp2_with (first | ((with_reducible refine gate_callee (f := 27) rfl ?_); refine gL (some 4) Tryd.func27 #[.slice A0 l0.length c0] ?_; (with_reducible refine (tree_Bad.calls k _ _ l0 t122 _ ?side1 ?side2 A2.out).mono ?_); (case side1 => exact cz HR0.out); (case side2 => exact HC0.out); rintro e w3 ⟨rfl, hb⟩; refine ⟨_, rfl, ?_⟩; replace HB := bs hb))
 go_ret; exact ⟨ez, bz⟩

/-! ### sum_Next: function 53 -/
def sum_Next.f (a0 : Int) (a1 : Int) : Option (Int) := some (IntKind.u64.wrap ((Go.bits .xor .u64 a0 (IntKind.u64.wrap (a1))) * 1099511628211))
set_option maxHeartbeats 8000000 in
set_option maxRecDepth 100000 in
theorem sum_Next.calls (a0 : Int) (a1 : Int) (r : Int) (w : World) (h : sum_Next.f a0 a1 = some r) :
  Calls Tryd.prog 53 #[.int .u64 a0, .int .u8 a1] w fun e w' => e = .returned (.int .u64 r) ∧ Drawn0 w w' := by
 have H : (some (IntKind.u64.wrap ((Go.bits .xor .u64 a0 (IntKind.u64.wrap (a1))) * 1099511628211))) = some r := h; clear h; obtain rfl := Option.some.inj H; go_enter Tryd.func53, Tryd.ntmps53; go_wp2
 go_ret; exact ⟨by first | rfl | (simp; done) | (simp [*]; done), dz⟩

end Go.Proofs.YthbdbgjggoobnaaDoor.P
