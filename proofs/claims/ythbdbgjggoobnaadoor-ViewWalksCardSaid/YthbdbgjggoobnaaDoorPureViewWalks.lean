/- The plain law behind ViewWalks. -/
import Derived.Test.YthbdbgjggoobnaaDoorViewDir
namespace Go.Proofs.YthbdbgjggoobnaaDoor.Pure
open Go.RowKit Go.Proofs.YthbdbgjggoobnaaDoorX Go.Proofs.YthbdbgjggoobnaaDoorW.PrintWords Go.Proofs.YthbdbgjggoobnaaDoorW.PrintLast Go.Proofs.YthbdbgjggoobnaaDoorW.PrintMore Go.Proofs.YthbdbgjggoobnaaDoor.P Go.Proofs.YthbdbgjggoobnaaDoor.Pa Go.Proofs.YthbdbgjggoobnaaDoor.PaTh Go.Proofs.YthbdbgjggoobnaaDoor.TreeTh Go.Proofs.YthbdbgjggoobnaaDoor.NarTh Go.Proofs.YthbdbgjggoobnaaDoor.Im Go.Proofs.YthbdbgjggoobnaaDoor.Vw
open Go.Proofs.YthbdbgjggoobnaaDoor.TreeUp (up up_may up_inj)
open Go.Proofs.YthbdbgjggoobnaaDoor.TreeChar (mayT_char up_mem_inj)
set_option linter.unusedVariables false
set_option linter.unusedSimpArgs false
set_option maxRecDepth 100000 in
theorem awake_3000 : hogsheadlaw20_awake.f 3000 = some true := by decide +kernel
theorem awake_f (k : Nat) (hk : 3000 ≤ k) : hogsheadlaw20_awake.f k = some true := at_rounds (g := fun k => hogsheadlaw20_awake.f k) hogsheadlaw20_awake.mono hk awake_3000
theorem jt (l0 : List Nd) (k : Nat) (hk : 4000 ≤ k) : hogsheadlaw20_ViewWalks.j0 k l0 true = some true := by
  obtain ⟨k, rfl⟩ : ∃ m, k = m + 1 := ⟨k - 1, by omega⟩
  rw [hogsheadlaw20_ViewWalks.j0, if_pos rfl, awake_f k (by omega)]; rfl
theorem path_of {l : List UInt8} (hm : may l = true) (hl : l ≠ []) : l = if dir l = [] then base l else dir l ++ 47 :: base l := by
  rcases last_cases l with hn | ⟨a, b, rfl, hb⟩
  · rw [dir_none hn, base_none hn, if_pos rfl]
  · rw [dir_slash hb, base_slash hb]
    by_cases ha : a = []
    · subst ha
      exfalso
      have hp := (may_parts hm hl).2.1 [] (by rw [cut_slash]; exact List.mem_append_left _ (by decide))
      exact absurd rfl (part_ne hp)
    · rw [if_neg ha]
theorem kid_join {p : ByteArray} {n : Nd} (h : isKid p n = true) : (if p.toList = ([] : List UInt8) then nameOf n else (p ++ (⟨#[47]⟩ : ByteArray)) ++ nameOf n) = n.f0 := by
  obtain ⟨h0, hm, hd⟩ := of_decide_eq_true h
  apply L_inj
  rw [toL]
  have hp := path_of hm h0
  rw [hd] at hp
  by_cases c : L p = []
  · rw [if_pos c] at hp ⊢
    exact hp.symm
  · rw [if_neg c] at hp ⊢
    rw [L_append, L_append, nameOf, L_mkB, show L (⟨#[47]⟩ : ByteArray) = [47] from rfl, List.append_assoc]
    exact hp.symm
theorem good_may {n : Nd} (h : goodN n = true) : may (L n.f0) = true := by
  unfold goodN good at h
  rw [Bool.and_eq_true] at h
  exact h.1
theorem paths_nodup {t : List Nd} (h : mayT t = true) : (t.map (·.f0)).Nodup := by
  rw [List.nodup_iff_pairwise_ne, List.pairwise_iff_getElem]
  intro i j hi hj hij e
  rw [List.length_map] at hi hj
  rw [List.getElem_map, List.getElem_map] at e
  have := up_inj (up_may h) hi hj (by rw [at_lt t i hi, at_lt t j hj, e])
  omega
structure Inv (t : List Nd) (todo : List ByteArray) (i : Nat) : Prop where
  mem : ∀ q ∈ todo, ∃ n ∈ t, n.f0 = q
  nd : todo.Nodup
  root : ∃ q ∈ todo, L q = []
  done : ∀ n ∈ t, L n.f0 ≠ [] → (∃ q ∈ todo.take i, L q = dir (L n.f0)) → n.f0 ∈ todo
  par : ∀ q ∈ todo, L q ≠ [] → ∃ r ∈ todo.take i, L r = dir (L q)
theorem Inv.step {t : List Nd} (h : mayT t = true) {todo : List ByteArray} {i : Nat} (hi : i < todo.length) (I : Inv t todo i) : Inv t (todo ++ (kids t todo[i]).map (·.f0)) (i + 1) := by
  have htk : (todo ++ (kids t todo[i]).map (·.f0)).take (i + 1) = todo.take i ++ [todo[i]] := by
    rw [List.take_append_of_le_length (by omega), List.take_add_one, List.getElem?_eq_getElem hi]; rfl
  have hkm : ∀ x ∈ (kids t todo[i]).map (·.f0), ∃ n ∈ t, n.f0 = x ∧ L n.f0 ≠ [] ∧ dir (L n.f0) = L todo[i] := by
    intro x hx
    obtain ⟨n, hn, rfl⟩ := List.mem_map.1 hx
    obtain ⟨h1, h2⟩ := List.mem_filter.1 hn
    obtain ⟨a, b, c⟩ := of_decide_eq_true h2
    exact ⟨n, h1, rfl, a, c⟩
  refine ⟨?_, ?_, ?_, ?_, ?_⟩
  · intro q hq
    rcases List.mem_append.1 hq with hq | hq
    · exact I.mem q hq
    · obtain ⟨n, hn, e, _⟩ := hkm q hq
      exact ⟨n, hn, e⟩
  · rw [List.nodup_append]
    refine ⟨I.nd, (paths_nodup h).sublist (List.filter_sublist.map _), ?_⟩
    intro a ha b hb e
    subst e
    obtain ⟨n, hn, e, h0, hd⟩ := hkm a hb
    obtain ⟨r, hr, hrd⟩ := I.par a ha (by rw [← e]; exact h0)
    rw [← e, hd] at hrd
    have hre := L_inj hrd
    subst hre
    obtain ⟨m, hm, e2⟩ := List.getElem_of_mem hr
    rw [List.length_take] at hm
    rw [List.getElem_take] at e2
    have := (List.getElem_inj I.nd).1 e2
    omega
  · obtain ⟨q, hq, e⟩ := I.root
    exact ⟨q, List.mem_append_left _ hq, e⟩
  · intro n hn h0 hq
    rw [htk] at hq
    obtain ⟨q, hq, e⟩ := hq
    rcases List.mem_append.1 hq with hq | hq
    · exact List.mem_append_left _ (I.done n hn h0 ⟨q, hq, e⟩)
    · rw [List.mem_singleton] at hq
      subst hq
      refine List.mem_append_right _ (List.mem_map.2 ⟨n, List.mem_filter.2 ⟨hn, ?_⟩, rfl⟩)
      exact decide_eq_true ⟨h0, good_may ((mayT_good h).2.2 n hn), e.symm⟩
  · intro q hq h0
    rw [htk]
    rcases List.mem_append.1 hq with hq | hq
    · obtain ⟨r, hr, e⟩ := I.par q hq h0
      exact ⟨r, List.mem_append_left _ hr, e⟩
    · obtain ⟨n, hn, e, _, hd⟩ := hkm q hq
      exact ⟨todo[i], List.mem_append_right _ (List.mem_singleton.2 rfl), by rw [← e, hd]⟩
theorem Inv.le {t : List Nd} {todo : List ByteArray} {i : Nat} (I : Inv t todo i) : todo.length ≤ t.length := by
  have := I.nd.length_le_of_subset (l₂ := t.map (·.f0)) (fun q hq => by
    obtain ⟨n, hn, e⟩ := I.mem q hq
    exact List.mem_map.2 ⟨n, hn, e⟩)
  rwa [List.length_map] at this
theorem Inv.all {t : List Nd} (h : mayT t = true) {todo : List ByteArray} (I : Inv t todo todo.length) : ∀ (m : Nat) (n : Nd), n ∈ t → (L n.f0).length ≤ m → n.f0 ∈ todo := by
  have hc := (mayT_char t).1 h
  intro m
  induction m with
  | zero =>
    intro n hn hl
    obtain ⟨q, hq, e⟩ := I.root
    have h0 : L n.f0 = [] := List.eq_nil_of_length_eq_zero (by omega)
    rwa [L_inj (h0.trans e.symm)]
  | succ m ih =>
    intro n hn hl
    by_cases h0 : L n.f0 = []
    · obtain ⟨q, hq, e⟩ := I.root
      rwa [L_inj (h0.trans e.symm)]
    · obtain ⟨x, hx, e, _⟩ := hc.2.2.2.2.2 n hn h0
      have hs := (dir_spec (good_may (hc.2.2.1 n hn)) h0).2.2.1
      have hm := ih x hx (by rw [e]; omega)
      exact I.done n hn h0 ⟨x.f0, by rw [List.take_of_length_le (Nat.le_refl _)]; exact hm, e⟩
theorem cnt_zero (p : ByteArray) : ∀ l : List ByteArray, p ∉ l → (l.filter (fun q => decide (q = p))).length = 0
  | [], _ => rfl
  | q :: l, h => by
    rw [List.filter_cons, if_neg (by simpa using fun e => h (by rw [← e]; exact List.mem_cons_self)), cnt_zero p l (fun hp => h (List.mem_cons_of_mem _ hp))]
theorem cnt_one (p : ByteArray) : ∀ l : List ByteArray, l.Nodup → p ∈ l → (l.filter (fun q => decide (q = p))).length = 1
  | [], _, h => by cases h
  | q :: l, hn, h => by
    obtain ⟨h1, h2⟩ := List.nodup_cons.1 hn
    by_cases e : q = p
    · subst e
      rw [List.filter_cons, if_pos (decide_eq_true rfl), List.length_cons, cnt_zero q l h1]
    · rcases List.mem_cons.1 h with h | h
      · exact absurd h.symm e
      · rw [List.filter_cons, if_neg (by simpa using e), cnt_one p l h2 h]
theorem walks_l3 (t : List Nd) (todo : List ByteArray) (ht : todo.length ≤ 400) (m : Nat) (hm : m < t.length) : ∀ (f j n k : Nat), j + f = todo.length → n ≤ j → n + ((todo.drop j).filter (fun q => decide (q = (at_ t m).f0))).length = 1 →
    hogsheadlaw20_ViewWalks.l3 (k + f + 1) t todo (m : Int) (n : Int) (j : Int) = hogsheadlaw20_ViewWalks.l2 k t todo (wrap64 ((m : Int) + 1)) := by
  intro f
  induction f with
  | zero =>
    intro j n k hj hn hc
    rw [List.drop_of_length_le (by omega)] at hc
    rw [hogsheadlaw20_ViewWalks.l3, if_neg (by omega), if_pos (by simp at hc; omega)]
  | succ f ih =>
    intro j n k hj hn hc
    have hjl : j < todo.length := by omega
    rw [(List.drop_eq_getElem_cons hjl : todo.drop j = _), List.filter_cons] at hc
    rw [show k + (f + 1) + 1 = (k + f + 1) + 1 by omega, hogsheadlaw20_ViewWalks.l3, if_pos (by omega), if_pos (by omega), if_pos (by omega), if_pos (by omega), rd_L todo j hjl, rdN, w_one j (by omega)]
    by_cases e : todo[j] = (at_ t m).f0
    · rw [if_pos (decide_eq_true e), List.length_cons] at hc
      rw [if_pos (by rw [e]), w_one n (by omega)]
      exact ih (j + 1) (n + 1) k (by omega) (by omega) (by omega)
    · rw [if_neg (by simpa using e)] at hc
      rw [if_neg (fun q => e (L_inj (toList_L.1 q)))]
      exact ih (j + 1) n k (by omega) (by omega) hc
theorem walks_l2 (t : List Nd) (todo : List ByteArray) (ht : t.length ≤ 400) (hl : todo.length ≤ 400) (hn : todo.Nodup) (ha : ∀ n ∈ t, n.f0 ∈ todo) : ∀ (f m k : Nat), m + f = t.length → 402 * f + 4000 ≤ k →
    hogsheadlaw20_ViewWalks.l2 k t todo (m : Int) = some true := by
  intro f
  induction f with
  | zero =>
    intro m k hm hk
    obtain ⟨k, rfl⟩ : ∃ q, k = q + 1 := ⟨k - 1, by omega⟩
    rw [hogsheadlaw20_ViewWalks.l2, if_neg (by omega), awake_f k (by omega)]; rfl
  | succ f ih =>
    intro m k hm hk
    obtain ⟨k, rfl⟩ : ∃ q, k = (q + todo.length + 1) + 1 := ⟨k - todo.length - 2, by omega⟩
    have hml : m < t.length := by omega
    have hc := cnt_one (at_ t m).f0 todo hn (ha _ (by rw [at_lt t m hml]; exact List.getElem_mem hml))
    rw [hogsheadlaw20_ViewWalks.l2, if_pos (by omega), show (0 : Int) = ((0 : Nat) : Int) from rfl, walks_l3 t todo hl m hml todo.length 0 0 k (by omega) (by omega) (by rw [List.drop_zero, hc]), w_one m (by omega)]
    exact ih (m + 1) k (by omega) (by omega)
theorem walks_l1 (t : List Nd) (bl : List Pk) (rs : List Rw) (i : Nat) (p : ByteArray) (hps : p.size ≤ 1000) (met : Int) (names : List ByteArray) (hnl : names.length ≤ 400) : ∀ (rem : List Nd) (todo : List ByteArray) (j k : Nat), (∀ n ∈ rem, isKid p n = true ∧ (nameOf n).size ≤ 1000) → names.drop j = rem.map nameOf → j + rem.length = names.length → todo[i]? = some p → i ≤ 400 → todo.length + rem.length ≤ 1000000 →
    hogsheadlaw20_ViewWalks.l1 (k + rem.length + 1) t todo met (i : Int) names (j : Int) bl rs = hogsheadlaw20_ViewWalks.l0 k t (todo ++ rem.map (·.f0)) met (wrap64 ((i : Int) + 1)) bl rs := by
  intro rem
  induction rem with
  | nil =>
    intro todo j k hr hd hj hp hi hl
    rw [List.length_nil] at hj
    rw [hogsheadlaw20_ViewWalks.l1, if_neg (by omega)]; simp
  | cons n rem ih =>
    intro todo j k hr hd hj hp hi hl
    rw [List.length_cons] at hj hl
    obtain ⟨hk, hz⟩ := hr n List.mem_cons_self
    have hjl : j < names.length := by omega
    obtain ⟨hil, hie⟩ := List.getElem?_eq_some_iff.1 hp
    rw [(List.drop_eq_getElem_cons hjl : names.drop j = _), List.map_cons, List.cons.injEq] at hd
    have hkj := kid_join hk
    have hnext : ∀ x : ByteArray, x = n.f0 → hogsheadlaw20_ViewWalks.l1 (k + rem.length + 1) t (todo ++ [x]) met (i : Int) names (wrap64 ((j : Int) + 1)) bl rs = hogsheadlaw20_ViewWalks.l0 k t (todo ++ (n :: rem).map (·.f0)) met (wrap64 ((i : Int) + 1)) bl rs := by
      intro x hx
      rw [w_one j (by omega), ih (todo ++ [x]) (j + 1) k (fun c hc => hr c (List.mem_cons_of_mem _ hc)) hd.2 (by omega) (by rw [List.getElem?_append_left hil]; exact hp) hi (by rw [List.length_append, List.length_singleton]; omega), hx]
      simp
    rw [List.length_cons, show k + (rem.length + 1) + 1 = (k + rem.length + 1) + 1 by omega, hogsheadlaw20_ViewWalks.l1, if_pos (by omega), if_pos (by omega), if_pos (by omega), if_pos (by omega), rd_L todo i hil, hie, rd_L names j hjl, hd.1]
    by_cases c : p.toList = ([] : List UInt8)
    · rw [if_pos c] at hkj ⊢
      rw [if_pos (by omega)]
      exact hnext _ hkj
    · rw [if_neg c] at hkj ⊢
      rw [if_pos (by omega), if_pos (by rw [ByteArray.size_append]; show p.size + 1 + _ ≤ _; omega), if_pos (by omega)]
      exact hnext _ hkj
theorem walks_l0 {t : List Nd} (h : mayT t = true) (h40 : t.length ≤ 40) : ∀ (f i k : Nat) (todo : List ByteArray), t.length ≤ i + f → i ≤ todo.length → Inv t todo i → 50 * f + 400000 ≤ k →
    hogsheadlaw20_ViewWalks.l0 k t todo (i : Int) (i : Int) (blksOf t) (rowsOf t) = some true := by
  obtain ⟨h4, hg⟩ := tree_sizes h
  have hend : ∀ (i k : Nat) (todo : List ByteArray), i = todo.length → Inv t todo i → 300000 ≤ k → hogsheadlaw20_ViewWalks.l0 k t todo (i : Int) (i : Int) (blksOf t) (rowsOf t) = some true := by
    intro i k todo hi I hk
    obtain ⟨k, rfl⟩ : ∃ q, k = q + 3 := ⟨k - 3, by omega⟩
    subst hi
    have hle := I.le
    have hall := fun n hn => Inv.all h I _ n hn (Nat.le_refl _)
    have hge : t.length ≤ todo.length := by
      have := (paths_nodup h).length_le_of_subset (l₂ := todo) (fun q hq => by
        obtain ⟨n, hn, rfl⟩ := List.mem_map.1 hq
        exact hall n hn)
      rwa [List.length_map] at this
    rw [hogsheadlaw20_ViewWalks.l0, if_neg (by omega), hogsheadlaw20_ViewWalks.j3, if_neg (by simp), if_pos (by omega), show (((todo.length : Nat) : Int) != (t.length : Int)) = false from by simp; omega, hogsheadlaw20_ViewWalks.j6, if_neg (by simp), show (0 : Int) = ((0 : Nat) : Int) from rfl]
    exact walks_l2 t todo h4 (by omega) I.nd hall t.length 0 k (by omega) (by omega)
  intro f
  induction f with
  | zero =>
    intro i k todo hi hit I hk
    exact hend i k todo (by have := I.le; omega) I (by omega)
  | succ f ih =>
    intro i k todo hi hit I hk
    by_cases c : i = todo.length
    · exact hend i k todo c I (by omega)
    have hil : i < todo.length := by omega
    have hle := I.le
    obtain ⟨n, hn, en⟩ := I.mem todo[i] (List.getElem_mem hil)
    obtain ⟨a, ha, ea⟩ := List.getElem_of_mem hn
    have hat : (at_ t a).f0 = todo[i] := by rw [at_lt t a ha, ea, en]
    have hps : todo[i].size ≤ 1000 := by rw [← en]; have := (hg n hn).1; omega
    have hkl : (kids t todo[i]).length ≤ 40 := Nat.le_trans (List.length_filter_le _ _) h40
    obtain ⟨k, rfl⟩ : ∃ q, k = (q + (kids t todo[i]).length + 1) + 3 := ⟨k - (kids t todo[i]).length - 4, by omega⟩
    have hstep := I.step h hil
    have hrec : hogsheadlaw20_ViewWalks.l1 (k + (kids t todo[i]).length + 1) t todo ((i + 1 : Nat) : Int) (i : Int) ((kids t todo[i]).map nameOf) 0 (blksOf t) (rowsOf t) = some true := by
      rw [show (0 : Int) = ((0 : Nat) : Int) from rfl, walks_l1 t _ _ i todo[i] hps _ ((kids t todo[i]).map nameOf) (by rw [List.length_map]; omega) (kids t todo[i]) todo 0 k (fun x hx => by
        obtain ⟨hx1, hx2⟩ := List.mem_filter.1 hx
        refine ⟨hx2, ?_⟩
        have hx3 := (hg x hx1).1
        obtain ⟨b1, b2, _⟩ := of_decide_eq_true hx2
        have hp := path_of b2 b1
        have hz : (nameOf x).size = (base (L x.f0)).length := rfl
        have hz2 : x.f0.size = (L x.f0).length := rfl
        have : (base (L x.f0)).length ≤ (L x.f0).length := by
          by_cases q : dir (L x.f0) = []
          · rw [if_pos q] at hp; exact Nat.le_of_eq (congrArg List.length hp.symm)
          · rw [if_neg q] at hp
            have := congrArg List.length hp
            rw [List.length_append, List.length_cons] at this
            omega
        omega) (by rw [List.drop_zero]) (by rw [List.length_map]; omega) (List.getElem?_eq_getElem hil) (by omega) (by omega), w_one i (by omega)]
      exact ih (i + 1) k _ (by omega) (by rw [List.length_append]; omega) hstep (by omega)
    rw [hogsheadlaw20_ViewWalks.l0, if_pos (by omega), decide_eq_true (by omega), hogsheadlaw20_ViewWalks.j3, if_pos rfl, if_pos (by omega), if_pos (by omega), rd_L todo i hil, ← hat, lookup_here h ha _ (by omega), some_bind]
    simp only
    rw [if_pos trivial, dir_here h ha _ (by omega), some_bind, w_one i (by omega)]
    by_cases k1 : (at_ t a).f1 = 1
    · rw [if_pos k1, k1]
      simp only
      rw [if_neg (by simp), decide_eq_false (by rw [List.length_map, hat]; omega), hogsheadlaw20_ViewWalks.j4, if_neg (by simp), hat]
      exact hrec
    · have hk0 : kids t todo[i] = [] := by
        rw [kids, List.filter_eq_nil_iff]
        intro x hx hxk
        obtain ⟨b1, b2, b3⟩ := of_decide_eq_true hxk
        obtain ⟨y, hy, e1, e2⟩ := ((mayT_char t).1 h).2.2.2.2.2 x hx b1
        have : y = at_ t a := up_mem_inj (up_may h) hy (by rw [at_lt t a ha]; exact List.getElem_mem ha) (by rw [e1, b3, hat])
        rw [this] at e2
        exact k1 e2
      rw [if_neg k1]
      simp only
      rw [if_neg (by simpa using k1), decide_eq_false (by simp), hogsheadlaw20_ViewWalks.j4, if_neg (by simp)]
      rw [hk0, List.map_nil] at hrec
      rw [hat, hk0]
      exact hrec
theorem ViewWalks : hogsheadlaw20_ViewWalks.Pure := by
  intro l0 hl
  refine ⟨1000000, ?_⟩
  have hlen : l0.length ≤ 9223372036854775807 := hl.1
  unfold hogsheadlaw20_ViewWalks.f
  rw [show (40 : Int) = ((40 : Nat) : Int) from rfl, great_f l0 40 (by omega) hlen _ (by omega), some_bind]
  by_cases g0 : great l0 40 = true
  · rw [if_pos g0, jt _ _ (by omega)]
  rw [if_neg g0]
  obtain ⟨n0, _⟩ := great_not g0
  rw [mayT_f l0 (by omega) _ (by omega), some_bind]
  by_cases m0 : mayT l0 = true
  case neg => rw [Bool.not_eq_true] at m0; rw [m0, Bool.not_false, jt _ _ (by omega)]
  rw [m0, Bool.not_true, hogsheadlaw20_ViewWalks.j0, if_neg (by simp), lay_f l0 (by omega) _ (by omega), if_pos m0, some_bind]
  simp only
  rw [open_ok m0 _ (by omega), some_bind]
  simp only
  rw [if_pos trivial, hogsheadlaw20_ViewWalks.j1, if_neg (by simp)]
  obtain ⟨x, hx, ex⟩ := ((mayT_char l0).1 m0).2.2.2.2.1
  have ex2 : x.f0 = (⟨#[]⟩ : ByteArray) := L_inj ex
  refine walks_l0 m0 n0 l0.length 0 _ _ (by omega) (by simp) ⟨?_, ?_, ?_, ?_, ?_⟩ (by omega)
  · intro q hq
    rw [List.mem_singleton] at hq
    exact ⟨x, hx, by rw [hq, ex2]⟩
  · simp
  · exact ⟨_, List.mem_singleton.2 rfl, rfl⟩
  · intro n _ _ hq
    obtain ⟨q, hq, _⟩ := hq
    simp at hq
  · intro q hq h0
    rw [List.mem_singleton] at hq
    exact absurd (by rw [hq]; rfl) h0
end Go.Proofs.YthbdbgjggoobnaaDoor.Pure
