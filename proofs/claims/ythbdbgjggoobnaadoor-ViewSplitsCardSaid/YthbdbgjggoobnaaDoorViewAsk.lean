/- What package image lays, in plain words: its blocks, their numbers, its bytes. -/
import Derived.Test.YthbdbgjggoobnaaDoorNarTh
import Derived.Test.YthbdbgjggoobnaaDoorLzTh
namespace Go.Proofs.YthbdbgjggoobnaaDoor.Im
open Go.RowKit Go.Proofs.YthbdbgjggoobnaaDoorX Go.Proofs.YthbdbgjggoobnaaDoorW.PrintWords Go.Proofs.YthbdbgjggoobnaaDoorW.PrintLast Go.Proofs.YthbdbgjggoobnaaDoorW.PrintMore Go.Proofs.YthbdbgjggoobnaaDoor.P Go.Proofs.YthbdbgjggoobnaaDoor.Pa Go.Proofs.YthbdbgjggoobnaaDoor.PaTh Go.Proofs.YthbdbgjggoobnaaDoor.TreeTh Go.Proofs.YthbdbgjggoobnaaDoor.NarTh
open Go.Proofs.YthbdbgjggoobnaaDoor.Bs (bytesOf_inj Bytes bytesOf_bytes bytesOf_strOfNums size_bytes)
open Go.Proofs.YthbdbgjggoobnaaDoor.Lz (PK PK_bytes PK_length D D_PK_nil)
open Go.Proofs.YthbdbgjggoobnaaDoor.Tab (cutL cutL_inj cutL_facts Got GoodT put_some putGo_len)
set_option linter.unusedVariables false
set_option linter.unusedSimpArgs false
/-! ### sums -/
def sumB (l : List Int) (x : Int) : Int := l.foldl (fun a b => IntKind.u64.wrap ((Go.bits .xor .u64 a (IntKind.u64.wrap b)) * 1099511628211)) x
theorem sum_l1 (l : List Int) (hl : l.length ≤ 1000000) : ∀ (f j k : Nat) (x : Int), j + f = l.length → f + 3 ≤ k → sum_Of.l1 k x [l] 1 0 l (l.length : Int) (j : Int) = some (sumB (l.drop j) x) := by
  intro f
  induction f with
  | zero =>
    intro j k x hj hk
    obtain ⟨k, rfl⟩ : ∃ m, k = m + 2 := ⟨k - 2, by omega⟩
    rw [sum_Of.l1, if_neg (by omega), show wrap64 ((0 : Int) + 1) = 1 by unfold wrap64; omega, sum_Of.l0, if_neg (by omega), List.drop_of_length_le (by omega)]; rfl
  | succ f ih =>
    intro j k x hj hk
    obtain ⟨k, rfl⟩ : ∃ m, k = m + 1 := ⟨k - 1, by omega⟩
    have hjl : j < l.length := by omega
    rw [sum_Of.l1, if_pos (by omega), if_pos (by omega), if_pos (by omega), sum_Next.f, Bs.some_bind, w_one j (by omega), ih (j + 1) k _ (by omega) (by omega), (List.drop_eq_getElem_cons hjl : l.drop j = _), Tab.rd_nat l j hjl]; rfl
def sumT (s : ByteArray) : Int := sumB (bytesOf s) 14695981039346656037
theorem sum_f (s : ByteArray) (hs : s.size ≤ 1000000) (k : Nat) (hk : s.size + 5 ≤ k) : sum_Text.f k s = some (sumT s) := by
  obtain ⟨k, rfl⟩ : ∃ m, k = m + 1 := ⟨k - 1, by omega⟩
  unfold sum_Text.f sum_Of.f
  rw [if_pos (by omega), sum_Of.l0, if_pos (by simp), if_pos (by omega), if_pos (by simp)]
  have e : rd_L6 [bytesOf s] 0 = bytesOf s := rfl
  rw [e]
  exact sum_l1 (bytesOf s) (by rw [bytesOf_length]; exact hs) (bytesOf s).length 0 k _ (by omega) (by rw [bytesOf_length]; omega)
/-! ### the blocks and their numbers -/
def idsOf : List ByteArray → List Nd → List (List Int)
  | _, [] => []
  | T, n :: t => (putGo T [] (cutL n.f2)).1 :: idsOf (T ++ (putGo T [] (cutL n.f2)).2) t
def tabOf : List ByteArray → List Nd → List ByteArray
  | T, [] => T
  | T, n :: t => tabOf (T ++ (putGo T [] (cutL n.f2)).2) t
theorem parts_l0 (t : List Nd) (ht : t.length ≤ 400) (hd : ∀ n ∈ t, n.f2.size ≤ 500) (b : Bool) : ∀ (f j k : Nat) (T : List ByteArray) (acc : List (List Int)), j + f = t.length → f + 10 ≤ k → acc.length ≤ j → T.length ≤ 8 * j →
    image_parts.l0 k acc t (t.length : Int) (j : Int) T b = some (tabOf T (t.drop j), acc ++ idsOf T (t.drop j)) := by
  intro f
  induction f with
  | zero =>
    intro j k T acc hj hk ha hT
    obtain ⟨k, rfl⟩ : ∃ m, k = m + 1 := ⟨k - 1, by omega⟩
    rw [image_parts.l0, if_neg (by omega), List.drop_of_length_le (by omega), blocks_Table_All.f, slices_Clone_string_string.f, Bs.some_bind, if_pos (by simp; omega)]
    simp [tabOf, idsOf]
  | succ f ih =>
    intro j k T acc hj hk ha hT
    obtain ⟨k, rfl⟩ : ∃ m, k = m + 1 := ⟨k - 1, by omega⟩
    have hjl : j < t.length := by omega
    have hs := hd _ (List.getElem_mem hjl)
    obtain ⟨h1, h2⟩ := put_some (L := T) (b := b) (s := t[j].f2) (k := k) (by omega) (by omega) (by omega)
    rw [image_parts.l0, if_pos (by omega), if_pos (by omega), if_pos (by omega), rdN, at_lt t j hjl, h1, Bs.some_bind, if_pos (by omega), w_one j (by omega), ih (j + 1) k _ _ (by omega) (by omega) (by simp; omega) (by show (T ++ _).length ≤ _; omega), (List.drop_eq_getElem_cons hjl : t.drop j = _), tabOf, idsOf, List.append_assoc]; rfl
theorem parts_f (t : List Nd) (ht : t.length ≤ 400) (hd : ∀ n ∈ t, n.f2.size ≤ 500) (k : Nat) (hk : 500 ≤ k) : image_parts.f k t = some (tabOf [] t, idsOf [] t) := by
  unfold image_parts.f
  rw [blocks_New.f, Bs.some_bind]
  exact parts_l0 t ht hd _ t.length 0 k [] [] (by omega) (by omega) (by simp) (by simp)
theorem tab_pre : ∀ (t : List Nd) (T : List ByteArray), ∃ G, tabOf T t = T ++ G
  | [], T => ⟨[], by simp [tabOf]⟩
  | n :: t, T => by
    obtain ⟨G, h⟩ := tab_pre t (T ++ (putGo T [] (cutL n.f2)).2)
    exact ⟨_, by rw [tabOf, h, List.append_assoc]⟩
theorem tab_good : ∀ (t : List Nd) (T : List ByteArray), GoodT T → GoodT (tabOf T t)
  | [], T, h => h
  | n :: t, T, h => tab_good t _ (h.put n.f2)
theorem tab_len : ∀ (t : List Nd) (T : List ByteArray), (∀ n ∈ t, n.f2.size ≤ 500) → (tabOf T t).length ≤ T.length + 8 * t.length
  | [], T, _ => by simp [tabOf]
  | n :: t, T, h => by
    have := tab_len t (T ++ (putGo T [] (cutL n.f2)).2) (fun x hx => h x (List.mem_cons_of_mem _ hx))
    obtain ⟨G, h1, h2⟩ := Tab.putGo_pre T (cutL n.f2) []
    have hf := (cutL_facts _ n.f2 (Nat.le_refl _)).2.1
    have hs := h n List.mem_cons_self
    rw [h1, List.length_append, List.nil_append] at this
    rw [tabOf, h1, List.nil_append, List.length_cons]
    omega
theorem ids_len : ∀ (t : List Nd) (T : List ByteArray), (idsOf T t).length = t.length
  | [], T => rfl
  | n :: t, T => by rw [idsOf, List.length_cons, List.length_cons, ids_len t]
theorem ids_got : ∀ (t : List Nd) (T : List ByteArray), ∀ p ∈ t.zip (idsOf T t), Got (tabOf T t) p.2 (cutL p.1.f2)
  | [], T, p, h => by simp at h
  | n :: t, T, p, h => by
    rw [idsOf, List.zip_cons_cons] at h
    rw [tabOf]
    rcases List.mem_cons.1 h with rfl | h
    · obtain ⟨G, e⟩ := tab_pre t (T ++ (putGo T [] (cutL n.f2)).2)
      rw [e]
      exact (Got.of T (cutL n.f2)).more
    · exact ids_got t _ p h
end Go.Proofs.YthbdbgjggoobnaaDoor.Im
/- The bytes that image.Lay lays, in plain words. -/
namespace Go.Proofs.YthbdbgjggoobnaaDoor.Im
open Go.RowKit Go.Proofs.YthbdbgjggoobnaaDoorX Go.Proofs.YthbdbgjggoobnaaDoorW.PrintWords Go.Proofs.YthbdbgjggoobnaaDoorW.PrintLast Go.Proofs.YthbdbgjggoobnaaDoorW.PrintMore Go.Proofs.YthbdbgjggoobnaaDoor.P Go.Proofs.YthbdbgjggoobnaaDoor.Pa Go.Proofs.YthbdbgjggoobnaaDoor.PaTh Go.Proofs.YthbdbgjggoobnaaDoor.TreeTh Go.Proofs.YthbdbgjggoobnaaDoor.NarTh
open Go.Proofs.YthbdbgjggoobnaaDoor.Bs (bytesOf_inj Bytes bytesOf_bytes bytesOf_strOfNums size_bytes)
open Go.Proofs.YthbdbgjggoobnaaDoor.Lz (PK PK_bytes PK_length D D_PK_nil)
open Go.Proofs.YthbdbgjggoobnaaDoor.Tab (cutL cutL_inj cutL_facts Got GoodT put_some putGo_len)
set_option linter.unusedVariables false
set_option linter.unusedSimpArgs false
def pk (b : ByteArray) : ByteArray := strOfNums (PK (bytesOf b))
theorem pk_bytes (b : ByteArray) : bytesOf (pk b) = PK (bytesOf b) := bytesOf_strOfNums (PK_bytes _ (bytesOf_bytes b))
theorem pk_inj {a b : ByteArray} (h : pk a = pk b) : a = b := by
  have e : PK (bytesOf a) = PK (bytesOf b) := by rw [← pk_bytes, ← pk_bytes, h]
  have := D_PK_nil (bytesOf a) []
  rw [e, D_PK_nil, List.nil_append, List.nil_append] at this
  exact (bytesOf_inj (Option.some.inj this)).symm
theorem pk_size (b : ByteArray) : (pk b).size ≤ b.size + (b.size + 127) / 128 := by
  rw [size_bytes, pk_bytes]
  have := PK_length (bytesOf b)
  rwa [bytesOf_length] at this
def blkE (b : ByteArray) : List Int := enc8 (b.size : Int) ++ (enc8 ((pk b).size : Int) ++ enc8 (wrap64 (sumT b)))
def ndE (p : Nd × List Int) : List Int := encT p.1.f0 ++ (enc8 p.1.f1 ++ (enc8 (p.1.f2.size : Int) ++ (enc8 (p.2.length : Int) ++ p.2.flatMap enc8)))
def imark : ByteArray := ⟨#[105, 109, 97, 103, 101]⟩
def imgB (T : List ByteArray) (z : List (Nd × List Int)) : List Int := encT imark ++ (enc8 (T.length : Int) ++ (T.flatMap blkE ++ (enc8 (z.length : Int) ++ (z.flatMap ndE ++ T.flatMap (fun b => bytesOf (pk b))))))
theorem blkE_len (b : ByteArray) : (blkE b).length = 24 := by unfold blkE; rw [List.length_append, List.length_append, enc8_len, enc8_len, enc8_len]
theorem ids_enc_len (l : List Int) : (l.flatMap enc8).length = 8 * l.length := by
  induction l with
  | nil => rfl
  | cons x l ih => rw [List.flatMap_cons, List.length_append, enc8_len, ih, List.length_cons]; omega
theorem lay_l2 (ids : List (List Int)) (pkd : List Int) (t : List Nd) (n j : Int) (l : List Int) (hl : l.length ≤ 1000) : ∀ (f i k : Nat) (acc : List Int), i + f = l.length → 9 ≤ k → acc.length ≤ 1000000000 + 8 * i →
    image_Lay.l2 (k + f + 1) ids acc pkd t n j l (l.length : Int) (i : Int) = image_Lay.l1 k ids (acc ++ (l.drop i).flatMap enc8) pkd t n (wrap64 (j + 1)) := by
  intro f
  induction f with
  | zero =>
    intro i k acc hi hk ha
    rw [Nat.add_zero, image_Lay.l2, if_neg (by omega), List.drop_of_length_le (by omega), List.flatMap_nil, List.append_nil]
  | succ f ih =>
    intro i k acc hi hk ha
    have hil : i < l.length := by omega
    rw [image_Lay.l2, if_pos (by omega), if_pos (by omega), if_pos (by omega), num_f acc (by omega) _ (k + (f + 1)) (by omega), Bs.some_bind, w_one i (by omega), show k + (f + 1) = k + f + 1 by omega, ih (i + 1) k _ (by omega) hk (by rw [List.length_append, enc8_len]; omega), (List.drop_eq_getElem_cons hil : l.drop i = _), List.flatMap_cons, Tab.rd_nat l i hil, List.append_assoc]
theorem lay_l1 (t : List Nd) (ids : List (List Int)) (pkd : List Int) (ht : t.length ≤ 400) (hids : ids.length = t.length) (hg : ∀ n ∈ t, n.f0.size ≤ 300 ∧ n.f2.size ≤ 500) (hi8 : ∀ l ∈ ids, l.length ≤ 8) (hp : pkd.length ≤ 1000000) :
    ∀ (f j k : Nat) (acc : List Int), j + f = t.length → 12 * f + 20 ≤ k → acc.length ≤ 1000000 + 1000 * j →
    image_Lay.l1 k ids acc pkd t (t.length : Int) (j : Int) = some (acc ++ (((t.drop j).zip (ids.drop j)).flatMap ndE ++ pkd), 0) := by
  intro f
  induction f with
  | zero =>
    intro j k acc hj hk ha
    obtain ⟨k, rfl⟩ : ∃ m, k = m + 1 := ⟨k - 1, by omega⟩
    rw [image_Lay.l1, if_neg (by omega), if_pos (by omega), List.drop_of_length_le (by omega), List.zip_nil_left, List.flatMap_nil, List.nil_append]
  | succ f ih =>
    intro j k acc hj hk ha
    have hjl : j < t.length := by omega
    have hji : j < ids.length := by omega
    obtain ⟨h1, h2⟩ := hg _ (List.getElem_mem hjl)
    have h3 := hi8 _ (List.getElem_mem hji)
    obtain ⟨k, rfl⟩ : ∃ m, k = m + ids[j].length + 1 + 1 := ⟨k - ids[j].length - 2, by omega⟩
    have hL : rd_L10 ids (j : Int) = ids[j] := by unfold rd_L10; rw [Int.toNat_natCast, List.getD_eq_getElem?_getD, List.getElem?_eq_getElem hji]; rfl
    have a1 := encT_len t[j].f0
    rw [image_Lay.l1, if_pos (by omega), if_pos (by omega), if_pos (by omega), rdN, at_lt t j hjl, hL, text_f acc (by omega) _ (by omega) _ (by omega), Bs.some_bind, num_f _ (by rw [List.length_append]; omega) _ _ (by omega), Bs.some_bind, num_f _ (by rw [List.length_append, List.length_append, enc8_len]; omega) _ _ (by omega), Bs.some_bind, if_pos (by omega), num_f _ (by rw [List.length_append, List.length_append, List.length_append, enc8_len, enc8_len]; omega) _ _ (by omega), Bs.some_bind]
    have := lay_l2 ids pkd t (t.length : Int) (j : Int) ids[j] (by omega) ids[j].length 0 k (acc ++ encT t[j].f0 ++ enc8 t[j].f1 ++ enc8 (t[j].f2.size : Int) ++ enc8 (ids[j].length : Int)) (by omega) (by omega) (by rw [List.length_append, List.length_append, List.length_append, List.length_append, enc8_len, enc8_len, enc8_len]; omega)
    rw [show ((0 : Nat) : Int) = 0 from rfl] at this
    rw [this, w_one j (by omega), ih (j + 1) k _ (by omega) (by omega) (by rw [List.length_append, List.length_append, List.length_append, List.length_append, List.length_append, enc8_len, enc8_len, enc8_len, List.drop_zero, ids_enc_len]; omega), (List.drop_eq_getElem_cons hjl : t.drop j = _), (List.drop_eq_getElem_cons hji : ids.drop j = _), List.zip_cons_cons, List.flatMap_cons, List.drop_zero]
    unfold ndE
    simp only [List.append_assoc]
theorem lay_l0 (t : List Nd) (ids : List (List Int)) (T : List ByteArray) (ht : t.length ≤ 400) (hids : ids.length = t.length) (hg : ∀ n ∈ t, n.f0.size ≤ 300 ∧ n.f2.size ≤ 500) (hi8 : ∀ l ∈ ids, l.length ≤ 8) (hT : T.length ≤ 4000) (hb : ∀ b ∈ T, b.size ≤ 64) :
    ∀ (f j k : Nat) (acc pkd : List Int), j + f = T.length → f + 12 * t.length + 1000 ≤ k → acc.length ≤ 100 + 24 * j → pkd.length ≤ 65 * j →
    image_Lay.l0 k t ids acc pkd T (T.length : Int) (j : Int) = some (acc ++ ((T.drop j).flatMap blkE ++ (enc8 (t.length : Int) ++ ((t.zip ids).flatMap ndE ++ (pkd ++ (T.drop j).flatMap (fun b => bytesOf (pk b)))))), 0) := by
  intro f
  induction f with
  | zero =>
    intro j k acc pkd hj hk ha hp
    obtain ⟨k, rfl⟩ : ∃ m, k = m + 1 := ⟨k - 1, by omega⟩
    rw [image_Lay.l0, if_neg (by omega), num_f acc (by omega) _ k (by omega), Bs.some_bind, show (0 : Int) = ((0 : Nat) : Int) from rfl, lay_l1 t ids pkd ht hids hg hi8 (by omega) t.length 0 k _ (by omega) (by omega) (by rw [List.length_append, enc8_len]; omega), List.drop_of_length_le (by omega : T.length ≤ j)]
    simp
  | succ f ih =>
    intro j k acc pkd hj hk ha hp
    obtain ⟨k, rfl⟩ : ∃ m, k = m + 1 := ⟨k - 1, by omega⟩
    have hjl : j < T.length := by omega
    have hs := hb _ (List.getElem_mem hjl)
    have hpk := pk_size T[j]
    rw [image_Lay.l0, if_pos (by omega), if_pos (by omega), if_pos (by omega), Tab.rdOf_nat T j hjl, PTh.pack_f T[j] (by omega) k (by omega), Bs.some_bind, num_f acc (by omega) _ k (by omega), Bs.some_bind]
    show ((nar_Num.f k _ ((pk T[j]).size : Int)).bind _) = _
    rw [num_f _ (by rw [List.length_append, enc8_len]; omega) _ k (by omega), Bs.some_bind, sum_f T[j] (by omega) k (by omega), Bs.some_bind, num_f _ (by rw [List.length_append, List.length_append, enc8_len, enc8_len]; omega) _ k (by omega), Bs.some_bind]
    have hz : pkd.length + (strOfNums (PK (bytesOf T[j]))).size < 140737488355328 := by show pkd.length + (pk T[j]).size < _; omega
    rw [if_pos hz, w_one j (by omega), ih (j + 1) k _ _ (by omega) (by omega) (by rw [List.length_append, List.length_append, List.length_append, enc8_len, enc8_len, enc8_len]; omega) (by show (pkd ++ bytesOf (pk T[j])).length ≤ _; rw [List.length_append, bytesOf_length]; omega), (List.drop_eq_getElem_cons hjl : T.drop j = _), List.flatMap_cons, List.flatMap_cons]
    show some (acc ++ enc8 (T[j].size : Int) ++ enc8 ((pk T[j]).size : Int) ++ enc8 (wrap64 (sumT T[j])) ++ _, (0 : Int)) = some (acc ++ (enc8 (T[j].size : Int) ++ (enc8 ((pk T[j]).size : Int) ++ enc8 (wrap64 (sumT T[j]))) ++ _ ++ _), (0 : Int))
    simp only [List.append_assoc]; rfl
theorem ids_8 (t : List Nd) (T : List ByteArray) (h : ∀ n ∈ t, n.f2.size ≤ 500) : ∀ l ∈ idsOf T t, l.length ≤ 8 := by
  induction t generalizing T with
  | nil => intro l hl; simp [idsOf] at hl
  | cons n t ih =>
    intro l hl
    rw [idsOf] at hl
    rcases List.mem_cons.1 hl with rfl | hl
    · rw [putGo_len, (cutL_facts _ n.f2 (Nat.le_refl _)).2.1]
      have := h n List.mem_cons_self
      omega
    · exact ih _ (fun x hx => h x (List.mem_cons_of_mem _ hx)) l hl
/-- What Lay answers. -/
def imgOf (t : List Nd) : List Int := imgB (tabOf [] t) (t.zip (idsOf [] t))
theorem goodT_nil : GoodT [] := ⟨List.nodup_nil, fun p hp => by cases hp⟩
theorem tree_sizes {t : List Nd} (h : mayT t = true) : t.length ≤ 400 ∧ ∀ n ∈ t, n.f0.size ≤ 200 ∧ n.f2.size ≤ 400 := by
  obtain ⟨_, h4, hg⟩ := mayT_good h
  refine ⟨h4, fun n hn => ?_⟩
  obtain ⟨h1, h2, _⟩ := goodN_size (hg n hn)
  rw [← size_L] at h1 h2
  exact ⟨h1, h2⟩
theorem lay_f (t : List Nd) (ht : t.length ≤ 1000000) (k : Nat) (hk : 10000 ≤ k) : image_Lay.f k t = some (if mayT t = true then (imgOf t, 0) else ([], 7)) := by
  unfold image_Lay.f
  rw [mayT_f t ht k (by omega), Bs.some_bind]
  by_cases h : mayT t = true
  · obtain ⟨h4, hg⟩ := tree_sizes h
    have hd : ∀ n ∈ t, n.f2.size ≤ 500 := fun n hn => by have := (hg n hn).2; omega
    have hm : imark.size = 5 := rfl
    have hml := encT_len imark
    have hT := tab_len t [] hd
    rw [List.length_nil] at hT
    rw [if_pos h, if_pos h, parts_f t h4 hd k (by omega), Bs.some_bind]
    show ((nar_Text.f k ([] : List Int) imark).bind _) = _
    rw [text_f [] (by simp) imark (by omega) k (by omega), Bs.some_bind, num_f _ (by rw [List.nil_append]; omega) _ k (by omega), Bs.some_bind, show (0 : Int) = ((0 : Nat) : Int) from rfl]
    rw [lay_l0 t (idsOf [] t) (tabOf [] t) h4 (ids_len t []) (fun n hn => by have := hg n hn; omega) (ids_8 t [] hd) (by omega) (fun b hb => ((tab_good t [] goodT_nil).2 b hb).2) (tabOf [] t).length 0 k _ _ (by omega) (by omega) (by rw [List.nil_append, List.length_append, enc8_len]; omega) (by simp)]
    refine congrArg some (congrArg (·, 0) ?_)
    have hz : (t.zip (idsOf [] t)).length = t.length := by rw [List.length_zip, ids_len]; omega
    unfold imgOf imgB
    rw [hz]
    simp
  · rw [if_neg h, if_neg h]
end Go.Proofs.YthbdbgjggoobnaaDoor.Im
/- One image, one tree: what is laid tells the blocks and the nodes. -/
namespace Go.Proofs.YthbdbgjggoobnaaDoor.Im
open Go.RowKit Go.Proofs.YthbdbgjggoobnaaDoorX Go.Proofs.YthbdbgjggoobnaaDoorW.PrintWords Go.Proofs.YthbdbgjggoobnaaDoorW.PrintLast Go.Proofs.YthbdbgjggoobnaaDoorW.PrintMore Go.Proofs.YthbdbgjggoobnaaDoor.P Go.Proofs.YthbdbgjggoobnaaDoor.Pa Go.Proofs.YthbdbgjggoobnaaDoor.PaTh Go.Proofs.YthbdbgjggoobnaaDoor.TreeTh Go.Proofs.YthbdbgjggoobnaaDoor.NarTh
open Go.Proofs.YthbdbgjggoobnaaDoor.Bs (bytesOf_inj Bytes bytesOf_bytes bytesOf_strOfNums size_bytes)
open Go.Proofs.YthbdbgjggoobnaaDoor.Tab (cutL cutL_inj cutL_facts Got GoodT put_some putGo_len)
set_option linter.unusedVariables false
set_option linter.unusedSimpArgs false
theorem enc8_inj {a b : Int} (ha : 0 ≤ a) (ha' : a < 4611686018427387904) (hb : 0 ≤ b) (hb' : b < 4611686018427387904) (h : enc8 a = enc8 b) : a = b := by
  rw [enc8_list a ha ha', enc8_list b hb hb'] at h
  simp only [List.cons.injEq, and_true] at h
  obtain ⟨h0, h1, h2, h3, h4, h5, h6, h7⟩ := h
  have q (n : Int) : n / 72057594037927936 % 256 = n / 72057594037927936 - 256 * (n / 72057594037927936 / 256) := by omega
  omega
theorem enc8_cut {a b : Int} {x y : List Int} (ha : 0 ≤ a) (ha' : a < 4611686018427387904) (hb : 0 ≤ b) (hb' : b < 4611686018427387904) (h : enc8 a ++ x = enc8 b ++ y) : a = b ∧ x = y := by
  obtain ⟨h1, h2⟩ := List.append_inj h (by rw [enc8_len, enc8_len])
  exact ⟨enc8_inj ha ha' hb hb' h1, h2⟩
theorem encT_cut {a b : ByteArray} {x y : List Int} (ha : a.size ≤ 1000000000) (hb : b.size ≤ 1000000000) (h : encT a ++ x = encT b ++ y) : a = b ∧ x = y := by
  unfold encT at h
  rw [List.append_assoc, List.append_assoc, List.append_assoc, List.append_assoc] at h
  obtain ⟨h1, h2⟩ := enc8_cut (by omega) (by omega) (by omega) (by omega) h
  obtain ⟨h3, h4⟩ := List.append_inj h2 (by rw [bytesOf_length, bytesOf_length]; omega)
  have e := bytesOf_inj h3
  subst e
  exact ⟨rfl, List.append_cancel_left h4⟩
theorem blk_cut {a b : ByteArray} {x y : List Int} (ha : a.size ≤ 64) (hb : b.size ≤ 64) (h : blkE a ++ x = blkE b ++ y) : (pk a).size = (pk b).size ∧ x = y := by
  obtain ⟨h1, h2⟩ := List.append_inj h (by rw [blkE_len, blkE_len])
  unfold blkE at h1
  have p1 := pk_size a
  have p2 := pk_size b
  obtain ⟨h3, h4⟩ := enc8_cut (by omega) (by omega) (by omega) (by omega) h1
  obtain ⟨h5, _⟩ := enc8_cut (by omega) (by omega) (by omega) (by omega) h4
  exact ⟨by omega, h2⟩
/-- The heads of the blocks tell how long each is, packed. -/
theorem blks_cut : ∀ (T U : List ByteArray) (x y : List Int), T.length = U.length → (∀ b ∈ T, b.size ≤ 64) → (∀ b ∈ U, b.size ≤ 64) → T.flatMap blkE ++ x = U.flatMap blkE ++ y → T.map (fun b => (pk b).size) = U.map (fun b => (pk b).size) ∧ x = y
  | [], [], x, y, _, _, _, h => ⟨rfl, h⟩
  | [], _ :: _, _, _, h, _, _, _ => by simp at h
  | _ :: _, [], _, _, h, _, _, _ => by simp at h
  | a :: T, b :: U, x, y, hl, ha, hb, h => by
    rw [List.flatMap_cons, List.flatMap_cons, List.append_assoc, List.append_assoc] at h
    obtain ⟨h1, h2⟩ := blk_cut (ha a List.mem_cons_self) (hb b List.mem_cons_self) h
    obtain ⟨h3, h4⟩ := blks_cut T U x y (by simpa using hl) (fun c hc => ha c (List.mem_cons_of_mem _ hc)) (fun c hc => hb c (List.mem_cons_of_mem _ hc)) h2
    exact ⟨by rw [List.map_cons, List.map_cons, h1, h3], h4⟩
/-- Packed bytes, of known lengths, tell the blocks. -/
theorem pks_cut : ∀ (T U : List ByteArray), T.map (fun b => (pk b).size) = U.map (fun b => (pk b).size) → T.flatMap (fun b => bytesOf (pk b)) = U.flatMap (fun b => bytesOf (pk b)) → T = U
  | [], [], _, _ => rfl
  | [], _ :: _, h, _ => by simp at h
  | _ :: _, [], h, _ => by simp at h
  | a :: T, b :: U, h, h' => by
    rw [List.map_cons, List.map_cons, List.cons.injEq] at h
    rw [List.flatMap_cons, List.flatMap_cons] at h'
    obtain ⟨h1, h2⟩ := List.append_inj h' (by rw [bytesOf_length, bytesOf_length]; exact h.1)
    rw [pk_inj (bytesOf_inj h1), pks_cut T U h.2 h2]
theorem idl_cut : ∀ (l m : List Int) (x y : List Int), l.length = m.length → (∀ i ∈ l, 0 ≤ i ∧ i < 4611686018427387904) → (∀ i ∈ m, 0 ≤ i ∧ i < 4611686018427387904) → l.flatMap enc8 ++ x = m.flatMap enc8 ++ y → l = m ∧ x = y
  | [], [], x, y, _, _, _, h => ⟨rfl, h⟩
  | [], _ :: _, _, _, h, _, _, _ => by simp at h
  | _ :: _, [], _, _, h, _, _, _ => by simp at h
  | a :: l, b :: m, x, y, hl, ha, hb, h => by
    rw [List.flatMap_cons, List.flatMap_cons, List.append_assoc, List.append_assoc] at h
    have p1 := ha a List.mem_cons_self
    have p2 := hb b List.mem_cons_self
    obtain ⟨h1, h2⟩ := enc8_cut p1.1 p1.2 p2.1 p2.2 h
    obtain ⟨h3, h4⟩ := idl_cut l m x y (by simpa using hl) (fun c hc => ha c (List.mem_cons_of_mem _ hc)) (fun c hc => hb c (List.mem_cons_of_mem _ hc)) h2
    exact ⟨by rw [h1, h3], h4⟩
/-- What a node's row is made of. -/
def GoodZ (p : Nd × List Int) : Prop := p.1.f0.size ≤ 1000 ∧ 1 ≤ p.1.f1 ∧ p.1.f1 ≤ 4 ∧ p.1.f2.size ≤ 1000 ∧ p.2.length ≤ 1000 ∧ ∀ i ∈ p.2, 0 ≤ i ∧ i < 4611686018427387904
theorem nd_cut {p q : Nd × List Int} {x y : List Int} (hp : GoodZ p) (hq : GoodZ q) (h : ndE p ++ x = ndE q ++ y) : (p.1.f0 = q.1.f0 ∧ p.1.f1 = q.1.f1 ∧ p.2 = q.2) ∧ x = y := by
  obtain ⟨a1, a2, a3, a4, a5, a6⟩ := hp
  obtain ⟨b1, b2, b3, b4, b5, b6⟩ := hq
  unfold ndE at h
  simp only [List.append_assoc] at h
  obtain ⟨h1, h⟩ := encT_cut (by omega) (by omega) h
  obtain ⟨h2, h⟩ := enc8_cut (by omega) (by omega) (by omega) (by omega) h
  obtain ⟨h3, h⟩ := enc8_cut (by omega) (by omega) (by omega) (by omega) h
  obtain ⟨h4, h⟩ := enc8_cut (by omega) (by omega) (by omega) (by omega) h
  obtain ⟨h5, h⟩ := idl_cut _ _ _ _ (by omega) a6 b6 h
  exact ⟨⟨h1, h2, h5⟩, h⟩
theorem nds_cut : ∀ (z v : List (Nd × List Int)) (x y : List Int), z.length = v.length → (∀ p ∈ z, GoodZ p) → (∀ p ∈ v, GoodZ p) → z.flatMap ndE ++ x = v.flatMap ndE ++ y → z.map (fun p => (p.1.f0, p.1.f1, p.2)) = v.map (fun p => (p.1.f0, p.1.f1, p.2)) ∧ x = y
  | [], [], x, y, _, _, _, h => ⟨rfl, h⟩
  | [], _ :: _, _, _, h, _, _, _ => by simp at h
  | _ :: _, [], _, _, h, _, _, _ => by simp at h
  | a :: T, b :: U, x, y, hl, ha, hb, h => by
    rw [List.flatMap_cons, List.flatMap_cons, List.append_assoc, List.append_assoc] at h
    obtain ⟨⟨h1, h2, h5⟩, h⟩ := nd_cut (ha a List.mem_cons_self) (hb b List.mem_cons_self) h
    obtain ⟨h3, h4⟩ := nds_cut T U x y (by simpa using hl) (fun c hc => ha c (List.mem_cons_of_mem _ hc)) (fun c hc => hb c (List.mem_cons_of_mem _ hc)) h
    exact ⟨by rw [List.map_cons, List.map_cons, h1, h2, h5, h3], h4⟩
end Go.Proofs.YthbdbgjggoobnaaDoor.Im
/- What package view reads and tells, in plain words: an image that is opened tells the tree that was laid. -/
namespace Go.Proofs.YthbdbgjggoobnaaDoor.Vw
open Go.RowKit Go.Proofs.YthbdbgjggoobnaaDoorX Go.Proofs.YthbdbgjggoobnaaDoorW.PrintWords Go.Proofs.YthbdbgjggoobnaaDoorW.PrintLast Go.Proofs.YthbdbgjggoobnaaDoorW.PrintMore Go.Proofs.YthbdbgjggoobnaaDoor.P Go.Proofs.YthbdbgjggoobnaaDoor.Pa Go.Proofs.YthbdbgjggoobnaaDoor.PaTh Go.Proofs.YthbdbgjggoobnaaDoor.TreeTh Go.Proofs.YthbdbgjggoobnaaDoor.NarTh Go.Proofs.YthbdbgjggoobnaaDoor.Im
open Go.Proofs.YthbdbgjggoobnaaDoor.Bs (bytesOf_inj Bytes bytesOf_bytes bytesOf_strOfNums size_bytes strOfNums_bytesOf bytesOf_extract toList_inj)
open Go.Proofs.YthbdbgjggoobnaaDoor.Lz (PK PK_bytes PK_length D D_PK_nil)
open Go.Proofs.YthbdbgjggoobnaaDoor.Tab (cutL cutL_inj cutL_facts cutL_step Got GoodT put_some putGo_len)
set_option linter.unusedVariables false
set_option linter.unusedSimpArgs false
abbrev Pk := S115
abbrev Rw := S87
/-! ### reading -/
theorem or_byte (a x : Int) (h0 : 0 ≤ a) (h1 : a < 36028797018963968) (h2 : 0 ≤ x) (h3 : x < 256) : Go.bits .or .u64 (IntKind.u64.wrap (a * 256)) (IntKind.u64.wrap x) = a * 256 + x := by
  have e1 : IntKind.u64.wrap (a * 256) = a * 256 := by rw [Bs.u64_wrap]; omega
  have e2 : IntKind.u64.wrap x = x := by rw [Bs.u64_wrap]; omega
  rw [e1, e2]
  obtain ⟨m, rfl⟩ := Int.eq_ofNat_of_zero_le h0
  obtain ⟨y, rfl⟩ := Int.eq_ofNat_of_zero_le h2
  have := bits_or_u64_nat (m * 256) y (by omega) (by omega)
  have h := Nat.two_pow_add_eq_or_of_lt (i := 8) (b := y) (by omega) m
  rw [show 2 ^ 8 * m = m * 256 by omega] at h
  rw [show ((m : Int) * 256) = ((m * 256 : Nat) : Int) from (Int.natCast_mul m 256).symm, this, ← h]
  exact Int.natCast_add _ _
theorem num64_enc8 (n : Int) (h0 : 0 ≤ n) (h1 : n < 4611686018427387904) : num64 (enc8 n) = n := by
  rw [enc8_list n h0 h1]
  unfold num64
  simp only [List.foldl_cons, List.foldl_nil]
  have q1 : 0 ≤ n / 72057594037927936 ∧ n / 72057594037927936 < 64 := by omega
  have q2 : n / 72057594037927936 * 256 + n / 281474976710656 % 256 = n / 281474976710656 := by omega
  have q3 : n / 281474976710656 * 256 + n / 1099511627776 % 256 = n / 1099511627776 := by omega
  have q4 : n / 1099511627776 * 256 + n / 4294967296 % 256 = n / 4294967296 := by omega
  have q5 : n / 4294967296 * 256 + n / 16777216 % 256 = n / 16777216 := by omega
  have q6 : n / 16777216 * 256 + n / 65536 % 256 = n / 65536 := by omega
  have q7 : n / 65536 * 256 + n / 256 % 256 = n / 256 := by omega
  have q8 : n / 256 * 256 + n / 1 % 256 = n := by omega
  rw [or_byte 0 (n / 72057594037927936 % 256) (by omega) (by omega) (by omega) (by omega), show (0 : Int) * 256 + n / 72057594037927936 % 256 = n / 72057594037927936 by omega]
  rw [or_byte _ (n / 281474976710656 % 256) (by omega) (by omega) (by omega) (by omega), q2]
  rw [or_byte _ (n / 1099511627776 % 256) (by omega) (by omega) (by omega) (by omega), q3]
  rw [or_byte _ (n / 4294967296 % 256) (by omega) (by omega) (by omega) (by omega), q4]
  rw [or_byte _ (n / 16777216 % 256) (by omega) (by omega) (by omega) (by omega), q5]
  rw [or_byte _ (n / 65536 % 256) (by omega) (by omega) (by omega) (by omega), q6]
  rw [or_byte _ (n / 256 % 256) (by omega) (by omega) (by omega) (by omega), q7]
  rw [or_byte _ (n / 1 % 256) (by omega) (by omega) (by omega) (by omega), q8]
def rN (xs : List Int) (bad : Bool) : Int × List Int × Bool := (wrap64 (num64 (tk 8 xs bad).1), (tk 8 xs bad).2.1, (tk 8 xs bad).2.2)
theorem rnum_f (xs : List Int) (bad : Bool) : view_reader_num.f xs bad = some (rN xs bad) := rfl
theorem tk_app (a rest : List Int) : tk (a.length : Int) (a ++ rest) false = (a, rest, false) := by
  unfold tk
  rw [if_neg (by simp; omega), Int.toNat_natCast, List.take_left', List.drop_left']
  all_goals rfl
theorem rN_enc (n : Int) (h0 : 0 ≤ n) (h1 : n < 4611686018427387904) (rest : List Int) : rN (enc8 n ++ rest) false = (n, rest, false) := by
  have := tk_app (enc8 n) rest
  rw [enc8_len] at this
  unfold rN
  rw [show (8 : Int) = ((8 : Nat) : Int) from rfl, this, num64_enc8 n h0 h1, wrap_in (by omega) (by omega)]
theorem num_enc (n : Int) (h0 : 0 ≤ n) (h1 : n < 4611686018427387904) (rest : List Int) : view_reader_num.f (enc8 n ++ rest) false = some (n, rest, false) := by rw [rnum_f, rN_enc n h0 h1]
theorem num_any (x rest : List Int) (h : x.length = 8) : ∃ v, view_reader_num.f (x ++ rest) false = some (v, rest, false) := by
  have := tk_app x rest
  rw [h, show ((8 : Nat) : Int) = 8 from rfl] at this
  exact ⟨_, by rw [rnum_f, rN, this]⟩
theorem text_enc (s : ByteArray) (hs : s.size ≤ 1000000000) (rest : List Int) : view_reader_text.f (encT s ++ rest) false = some (s, rest, false) := by
  have e : encT s ++ rest = enc8 (s.size : Int) ++ (bytesOf s ++ (padN s ++ rest)) := by unfold encT; simp
  have h1 : tk (s.size : Int) (bytesOf s ++ (padN s ++ rest)) false = (bytesOf s, padN s ++ rest, false) := by
    have := tk_app (bytesOf s) (padN s ++ rest)
    rw [bytesOf_length] at this
    exact this
  have h2 : tk (padOf s) (padN s ++ rest) false = (padN s, rest, false) := by
    have := tk_app (padN s) rest
    rw [padN_len] at this
    unfold padOf
    rw [show -((s.size : Int) % 8) % 8 = (8 - (s.size : Int) % 8) % 8 by omega]
    exact this
  unfold view_reader_text.f
  rw [e, num_enc _ (by omega) (by omega), some_bind]
  simp only
  rw [h1]
  simp only
  rw [if_pos (by rw [bytesOf_length]; omega), strOfNums_bytesOf, h2]
theorem count_enc (n m : Int) (h0 : 0 ≤ n) (h1 : n ≤ m) (hm : m ≤ 1000000) (rest : List Int) : view_reader_count.f (enc8 n ++ rest) false m = some (n, rest, false) := by
  unfold view_reader_count.f
  rw [num_enc n h0 (by omega), some_bind]
  simp only
  rw [if_neg (by simp), if_neg (by omega), if_neg (by omega), decide_eq_false (by omega)]
theorem row_l0 (p : ByteArray) (kd sz : Int) (n : Nat) (hn : n ≤ 1000) (rest : List Int) : ∀ (rem acc : List Int) (j k : Nat), (∀ i ∈ rem, 0 ≤ i ∧ i < 4611686018427387904) → j + rem.length = n → acc.length ≤ j → rem.length < k →
    view_reader_row.l0 k (n : Int) (j : Int) (rem.flatMap enc8 ++ rest) false p kd sz acc = some (p, kd, sz, acc ++ rem, rest, false) := by
  intro rem
  induction rem with
  | nil =>
    intro acc j k hi hj ha hk
    rw [List.length_nil] at hj
    obtain ⟨k, rfl⟩ : ∃ m, k = m + 1 := ⟨k - 1, by omega⟩
    rw [view_reader_row.l0, if_neg (by omega), List.flatMap_nil, List.nil_append, List.append_nil]
  | cons x rem ih =>
    intro acc j k hi hj ha hk
    rw [List.length_cons] at hj hk
    obtain ⟨k, rfl⟩ : ∃ m, k = m + 1 := ⟨k - 1, by omega⟩
    obtain ⟨h0, h1⟩ := hi x List.mem_cons_self
    rw [view_reader_row.l0, if_pos (by omega), List.flatMap_cons, List.append_assoc, num_enc x h0 h1, some_bind, if_pos (by omega), w_one j (by omega), ih (acc ++ [x]) (j + 1) k (fun i hi' => hi i (List.mem_cons_of_mem _ hi')) (by omega) (by rw [List.length_append, List.length_singleton]; omega) (by omega)]
    simp
theorem row_enc {p : Nd × List Int} (h : GoodZ p) (h8 : p.2.length ≤ 400) (rest : List Int) (k : Nat) (hk : 500 ≤ k) : view_reader_row.f k (ndE p ++ rest) false = some (p.1.f0, p.1.f1, (p.1.f2.size : Int), p.2, rest, false) := by
  obtain ⟨g1, g2, g3, g4, g5, g6⟩ := h
  unfold view_reader_row.f ndE
  simp only [List.append_assoc]
  rw [text_enc _ (by omega), some_bind, num_enc _ (by omega) (by omega), some_bind, num_enc _ (by omega) (by omega), some_bind, count_enc _ _ (by omega) (by omega) (by omega), some_bind]
  exact row_l0 _ _ _ p.2.length (by omega) rest p.2 [] 0 k g6 (by omega) (by simp) (by omega)
theorem read_l0 (n : Nat) (hn : n ≤ 4000) (rest : List Int) : ∀ (rem : List ByteArray) (x4 x5 : List Int) (j k : Nat), (∀ b ∈ rem, b.size ≤ 64) → j + rem.length = n → x4.length ≤ j → x5.length ≤ j →
    view_reader_read.l0 (k + rem.length) x4 x5 (n : Int) (j : Int) (rem.flatMap blkE ++ rest) false = view_reader_read.l0 k (x4 ++ rem.map (fun b => (b.size : Int))) (x5 ++ rem.map (fun b => ((pk b).size : Int))) (n : Int) (n : Int) rest false := by
  intro rem
  induction rem with
  | nil =>
    intro x4 x5 j k hb hj h4 h5
    rw [List.length_nil] at hj
    have e : j = n := by omega
    subst e
    simp
  | cons b rem ih =>
    intro x4 x5 j k hb hj h4 h5
    rw [List.length_cons] at hj
    have hs := hb b List.mem_cons_self
    have hp := pk_size b
    obtain ⟨v, hv⟩ := num_any (enc8 (wrap64 (sumT b))) (rem.flatMap blkE ++ rest) (enc8_len _)
    rw [List.length_cons, show k + (rem.length + 1) = (k + rem.length) + 1 by omega, view_reader_read.l0, if_pos (by omega), List.flatMap_cons, blkE]
    simp only [List.append_assoc]
    rw [num_enc _ (by omega) (by omega), some_bind, if_pos (by omega), num_enc _ (by omega) (by omega), some_bind, if_pos (by omega), hv, some_bind, w_one j (by omega), ih _ _ (j + 1) k (fun c hc => hb c (List.mem_cons_of_mem _ hc)) (by omega) (by rw [List.length_append, List.length_singleton]; omega) (by rw [List.length_append, List.length_singleton]; omega)]
    simp
def rowOf (p : Nd × List Int) : Rw := ⟨p.1.f0, p.1.f1, (p.1.f2.size : Int), p.2⟩
def pkOf (b : ByteArray) : Pk := ⟨(b.size : Int), pk b⟩
theorem read_l1 (x4 x5 : List Int) (n : Nat) (hn : n ≤ 400) (rest : List Int) : ∀ (rem : List (Nd × List Int)) (acc : List Rw) (j k : Nat), (∀ p ∈ rem, GoodZ p ∧ p.2.length ≤ 400) → j + rem.length = n → acc.length ≤ j → 500 ≤ k →
    view_reader_read.l1 (k + rem.length) x4 x5 (n : Int) (j : Int) (rem.flatMap ndE ++ rest) false acc = view_reader_read.l1 k x4 x5 (n : Int) (n : Int) rest false (acc ++ rem.map rowOf) := by
  intro rem
  induction rem with
  | nil =>
    intro acc j k hb hj ha hk
    rw [List.length_nil] at hj
    have e : j = n := by omega
    subst e
    simp
  | cons p rem ih =>
    intro acc j k hb hj ha hk
    rw [List.length_cons] at hj
    obtain ⟨g, h8⟩ := hb p List.mem_cons_self
    rw [List.length_cons, show k + (rem.length + 1) = (k + rem.length) + 1 by omega, view_reader_read.l1, if_pos (by omega), List.flatMap_cons, List.append_assoc, row_enc g h8 _ _ (by omega), some_bind, if_pos (by omega), w_one j (by omega), ih _ (j + 1) k (fun c hc => hb c (List.mem_cons_of_mem _ hc)) (by omega) (by rw [List.length_append, List.length_singleton]; omega) hk]
    simp [rowOf]
theorem read_l2 (rw_ : List Rw) (T : List ByteArray) (hT : T.length ≤ 4000) (hb : ∀ b ∈ T, b.size ≤ 64) : ∀ (f j k : Nat) (acc : List Pk), j + f = T.length → f < k → acc.length ≤ j →
    view_reader_read.l2 k (T.map (fun b => (b.size : Int))) (T.map (fun b => ((pk b).size : Int))) (T.length : Int) (j : Int) ((T.drop j).flatMap (fun b => bytesOf (pk b))) false acc rw_ = some (acc ++ (T.drop j).map pkOf, rw_, [], false) := by
  intro f
  induction f with
  | zero =>
    intro j k acc hj hk ha
    obtain ⟨k, rfl⟩ : ∃ m, k = m + 1 := ⟨k - 1, by omega⟩
    rw [view_reader_read.l2, if_neg (by omega), List.drop_of_length_le (by omega)]; simp
  | succ f ih =>
    intro j k acc hj hk ha
    obtain ⟨k, rfl⟩ : ∃ m, k = m + 1 := ⟨k - 1, by omega⟩
    have hjl : j < T.length := by omega
    have hs := hb _ (List.getElem_mem hjl)
    have hp := pk_size T[j]
    have e4 : rd (T.map (fun b => (b.size : Int))) (j : Int) = (T[j].size : Int) := by rw [Tab.rd_nat _ j (by rw [List.length_map]; exact hjl), List.getElem_map]
    have e5 : rd (T.map (fun b => ((pk b).size : Int))) (j : Int) = ((pk T[j]).size : Int) := by rw [Tab.rd_nat _ j (by rw [List.length_map]; exact hjl), List.getElem_map]
    have ht := tk_app (bytesOf (pk T[j])) ((T.drop (j + 1)).flatMap (fun b => bytesOf (pk b)))
    rw [bytesOf_length] at ht
    rw [view_reader_read.l2, if_pos (by omega), if_pos (by omega), if_pos (by rw [List.length_map]; omega), if_pos (by rw [List.length_map]; omega), e4, e5, (List.drop_eq_getElem_cons hjl : T.drop j = _), List.flatMap_cons, view_takeS.f, ht]
    simp only
    rw [if_pos (by rw [bytesOf_length]; omega), some_bind, if_pos (by omega), w_one j (by omega), strOfNums_bytesOf, ih (j + 1) k _ (by omega) (by omega) (by rw [List.length_append, List.length_singleton]; omega)]
    simp only [List.map_cons, List.append_assoc, List.singleton_append]; rfl
theorem rows_good {t : List Nd} (h : mayT t = true) : ∀ p ∈ t.zip (idsOf [] t), GoodZ p ∧ p.2.length ≤ 400 := by
  intro p hp
  obtain ⟨h4, hg⟩ := tree_sizes h
  have hm := (List.of_mem_zip (a := p.1) (b := p.2) hp)
  have hgt := ids_got t [] p hp
  obtain ⟨s1, s2⟩ := hg _ hm.1
  have hT := tab_len t [] (fun n hn => by have := (hg n hn).2; omega)
  rw [List.length_nil] at hT
  have h8 := ids_8 t [] (fun n hn => by have := (hg n hn).2; omega) _ hm.2
  obtain ⟨_, _, k1, k2⟩ := goodN_size ((mayT_good h).2.2 _ hm.1)
  refine ⟨⟨by omega, k1, k2, by omega, by omega, ?_⟩, by omega⟩
  intro i hi
  obtain ⟨j, hj, e⟩ := List.getElem_of_mem hi
  obtain ⟨i', h1, h2⟩ := hgt.2 j (by rw [← hgt.1]; exact hj)
  rw [List.getElem?_eq_getElem hj, e] at h1
  have e2 := Option.some.inj h1
  rw [List.getElem?_eq_getElem (show j < (cutL p.1.f2).length by rw [← hgt.1]; exact hj)] at h2
  have := (List.getElem?_eq_some_iff.1 h2).1
  omega
def blksOf (t : List Nd) : List Pk := (tabOf [] t).map pkOf
def rowsOf (t : List Nd) : List Rw := (t.zip (idsOf [] t)).map rowOf
theorem read_img {t : List Nd} (h : mayT t = true) (k : Nat) (hk : 20000 ≤ k) : view_reader_read.f k (imgOf t) false = some (blksOf t, rowsOf t, [], false) := by
  obtain ⟨h4, hg⟩ := tree_sizes h
  have hT := tab_len t [] (fun n hn => by have := (hg n hn).2; omega)
  rw [List.length_nil] at hT
  have hG := fun b hb => ((tab_good t [] goodT_nil).2 b hb).2
  have hz : (t.zip (idsOf [] t)).length = t.length := by rw [List.length_zip, ids_len]; omega
  have hm : imark.size = 5 := rfl
  unfold view_reader_read.f imgOf imgB
  rw [text_enc _ (by omega), some_bind, count_enc _ _ (by omega) (by omega) (by omega), some_bind]
  obtain ⟨k1, rfl⟩ : ∃ m, k = (m + 1) + (tabOf [] t).length := ⟨k - (tabOf [] t).length - 1, by omega⟩
  rw [show (0 : Int) = ((0 : Nat) : Int) from rfl, read_l0 (tabOf [] t).length (by omega) _ (tabOf [] t) [] [] 0 (k1 + 1) hG (by omega) (by simp) (by simp), List.nil_append, List.nil_append, view_reader_read.l0, if_neg (by omega), count_enc _ _ (by omega) (by omega) (by omega), some_bind]
  obtain ⟨k2, rfl⟩ : ∃ m, k1 = (m + 1) + (t.zip (idsOf [] t)).length := ⟨k1 - (t.zip (idsOf [] t)).length - 1, by omega⟩
  rw [show (0 : Int) = ((0 : Nat) : Int) from rfl, read_l1 _ _ (t.zip (idsOf [] t)).length (by omega) _ (t.zip (idsOf [] t)) [] 0 (k2 + 1) (rows_good h) (by omega) (by simp) (by omega), List.nil_append, view_reader_read.l1, if_neg (by omega), List.length_map]
  have := read_l2 ((t.zip (idsOf [] t)).map rowOf) (tabOf [] t) (by omega) hG (tabOf [] t).length 0 k2 [] (by omega) (by omega) (by simp)
  rw [List.drop_zero, List.nil_append] at this
  exact this
/-! ### data -/
theorem cut_get : ∀ (n : Nat) (s : ByteArray) (i : Nat) (p : ByteArray), s.size ≤ n → (cutL s)[i]? = some p → bytesOf p = ((bytesOf s).drop (64 * i)).take 64 := by
  intro n
  induction n with
  | zero =>
    intro s i p hs h
    rw [cutL_step, if_neg (by omega), if_pos (by omega)] at h
    simp at h
  | succ n ih =>
    intro s i p hs h
    rw [cutL_step] at h
    by_cases h64 : 64 < s.size
    · rw [if_pos h64] at h
      cases i with
      | zero =>
        rw [List.getElem?_cons_zero] at h
        obtain rfl := Option.some.inj h
        rw [bytesOf_extract]; simp
      | succ i =>
        rw [List.getElem?_cons_succ] at h
        rw [ih (s.extract 64 s.size) i p (by rw [ByteArray.size_extract]; omega) h, bytesOf_extract, List.drop_drop, List.take_of_length_le (l := bytesOf s) (i := s.size) (by rw [bytesOf_length]; exact Nat.le_refl _), show 64 + 64 * i = 64 * (i + 1) by omega]
    · rw [if_neg h64] at h
      by_cases h0 : s.size = 0
      · rw [if_pos h0] at h; simp at h
      · rw [if_neg h0] at h
        cases i with
        | zero =>
          rw [List.getElem?_cons_zero] at h
          obtain rfl := Option.some.inj h
          rw [Nat.mul_zero, List.drop_zero, List.take_of_length_le (by rw [bytesOf_length]; omega)]
        | succ i => simp at h
theorem rdK (T : List ByteArray) (i : Nat) (h : i < T.length) : rd_T115 (T.map pkOf) (i : Int) = pkOf T[i] := by
  unfold rd_T115
  rw [Int.toNat_natCast, List.getD_eq_getElem?_getD, List.getElem?_map, List.getElem?_eq_getElem h]; rfl
theorem block_f (T : List ByteArray) (rs : List Rw) (hT : T.length ≤ 4000) (hb : ∀ b ∈ T, b.size ≤ 64) (i : Nat) (p : ByteArray) (hp : T[i]? = some p) (k : Nat) (hk : 100000 ≤ k) : view_View_block.f k (T.map pkOf) rs (i : Int) = some p := by
  obtain ⟨hi, e⟩ := List.getElem?_eq_some_iff.1 hp
  have hs := hb p (e ▸ List.getElem_mem hi)
  unfold view_View_block.f
  rw [if_neg (by omega), if_neg (by rw [List.length_map]; omega), if_pos (by omega), if_pos (by rw [List.length_map]; omega), rdK T i hi, e]
  show (if ((p.size : Int)) > 64 then _ else (lz_Unpack.f k (strOfNums (PK (bytesOf p))) (p.size : Int)).bind _) = _
  rw [if_neg (by omega), PTh.unpack_pack p (by omega) k (by omega), if_pos rfl]; rfl
theorem mn_le (a b : Int) : mn a b = if b < a then b else a := rfl
theorem mx_le (a b : Int) : mx a b = if a < b then b else a := rfl
theorem take_drop_step (D : List Int) (off e i : Nat) (he : e ≤ D.length) (h1 : off < 64 * i + 64) (h2 : 64 * i < e) :
    ((D.take (min (64 * i) e)).drop off) ++ (((((D.drop (64 * i)).take 64).take (min (e - 64 * i) (min 64 (D.length - 64 * i))))).drop (off - 64 * i)) = (D.take (min (64 * (i + 1)) e)).drop off := by
  apply List.ext_getElem?
  intro x
  by_cases hx : x < ((D.take (min (64 * i) e)).drop off).length
  · rw [List.getElem?_append_left hx]
    rw [List.length_drop, List.length_take] at hx
    rw [List.getElem?_drop, List.getElem?_drop, List.getElem?_take, List.getElem?_take, if_pos (by omega), if_pos (by omega)]
  · rw [List.getElem?_append_right (by omega)]
    rw [List.length_drop, List.length_take] at hx ⊢
    rw [List.getElem?_drop, List.getElem?_take, List.getElem?_take, List.getElem?_drop, List.getElem?_drop, List.getElem?_take]
    by_cases hy : off + x < min (64 * (i + 1)) e
    · rw [if_pos hy, if_pos (by omega), if_pos (by omega)]
      congr 1
      omega
    · rw [if_neg hy, if_neg (by omega)]
theorem data_l0 (T : List ByteArray) (rs : List Rw) (hT : T.length ≤ 4000) (hb : ∀ b ∈ T, b.size ≤ 64) (s : ByteArray) (hs : s.size ≤ 100000) (ids : List Int) (hg : Got T ids (cutL s)) (a : ByteArray) (b c : Int) (off e : Nat) (he : e ≤ s.size) (hoff : off ≤ 1000000) :
    ∀ (f i k : Nat) (out : List Int), ids.length ≤ i + f → off / 64 ≤ i → i ≤ 1000000 → 2 * f + 100002 ≤ k → out = ((bytesOf s).take (min (64 * i) e)).drop off →
    view_View_data.l0 k (off : Int) (e : Int) out (i : Int) (T.map pkOf) rs a b c ids = some (strOfNums (((bytesOf s).take e).drop off)) := by
  have hcl := (cutL_facts _ s (Nat.le_refl _)).2.1
  have hil := hg.1
  have hD : (bytesOf s).length = s.size := bytesOf_length s
  intro f
  induction f with
  | zero =>
    intro i k out hi hoi hi' hk ho
    obtain ⟨k, rfl⟩ : ∃ m, k = m + 2 := ⟨k - 2, by omega⟩
    rw [view_View_data.l0, if_neg (by omega), view_View_data.j1, if_neg (by simp), ho, Nat.min_eq_right (by omega)]
  | succ f ih =>
    intro i k out hi hoi hi' hk ho
    obtain ⟨k, rfl⟩ : ∃ m, k = m + 2 := ⟨k - 2, by omega⟩
    rw [view_View_data.l0]
    by_cases c1 : i < ids.length
    case neg => rw [if_neg (by omega), view_View_data.j1, if_neg (by simp), ho, Nat.min_eq_right (by omega)]
    rw [if_pos (by omega), view_View_data.j1, wrap_in (a := (i : Int) * 64) (by omega) (by omega)]
    by_cases c2 : 64 * i < e
    case neg => rw [decide_eq_false (by omega), if_neg (by simp), ho, Nat.min_eq_right (by omega)]
    obtain ⟨q, h1, h2⟩ := hg.2 i (by omega)
    obtain ⟨p, hp⟩ : ∃ p, (cutL s)[i]? = some p := ⟨_, List.getElem?_eq_getElem (by omega)⟩
    rw [hp] at h2
    have hr : rd ids (i : Int) = (q : Int) := by
      rw [Tab.rd_nat ids i c1]
      rw [List.getElem?_eq_getElem c1] at h1
      exact Option.some.inj h1
    have hbp := cut_get s.size s i p (Nat.le_refl _) hp
    have hps : p.size = min 64 (s.size - 64 * i) := by rw [size_bytes, hbp, List.length_take, List.length_drop, hD]
    rw [decide_eq_true (by omega), if_pos rfl, if_pos (by omega), if_pos (by omega), hr, block_f T rs hT hb q p h2 k (by omega), some_bind, wrap_in (a := (off : Int) - (i : Int) * 64) (by omega) (by omega), wrap_in (a := (e : Int) - (i : Int) * 64) (by omega) (by omega)]
    have hmx : mx ((off : Int) - (i : Int) * 64) 0 = ((off - 64 * i : Nat) : Int) := by rw [mx_le]; split <;> omega
    have hmn : mn ((e : Int) - (i : Int) * 64) (p.size : Int) = ((min (e - 64 * i) p.size : Nat) : Int) := by rw [mn_le]; split <;> omega
    rw [hmx, hmn, w_one i (by omega)]
    have hnext : out ++ bytesOf (p.extract (off - 64 * i) (min (e - 64 * i) p.size)) = ((bytesOf s).take (min (64 * (i + 1)) e)).drop off := by
      rw [bytesOf_extract, hbp, ho, hps, ← hD]
      exact take_drop_step (bytesOf s) off e i (by omega) (by omega) c2
    by_cases c3 : off - 64 * i < min (e - 64 * i) p.size
    · have hol : out.length ≤ s.size := by rw [ho, List.length_drop, List.length_take]; omega
      have hxl : (p.extract (off - 64 * i) (min (e - 64 * i) p.size)).size ≤ 64 := by rw [ByteArray.size_extract]; omega
      rw [if_pos (by omega), if_pos (by omega), if_pos (by omega), if_pos (by omega), Int.toNat_natCast, Int.toNat_natCast, if_pos (by omega)]
      exact ih (i + 1) k _ (by omega) (by omega) (by omega) (by omega) hnext
    · rw [if_neg (by omega)]
      refine ih (i + 1) k _ (by omega) (by omega) (by omega) (by omega) ?_
      rw [← hnext, bytesOf_extract, List.drop_of_length_le (by rw [List.length_take]; omega), List.append_nil]
/-- The data of a node's row, from a place on, so many bytes at most. -/
theorem data_f (T : List ByteArray) (rs : List Rw) (hT : T.length ≤ 4000) (hb : ∀ b ∈ T, b.size ≤ 64) (s : ByteArray) (hs : s.size ≤ 100000) (ids : List Int) (hg : Got T ids (cutL s)) (a : ByteArray) (b : Int) (off : Nat) (hoff : off ≤ s.size) (n : Int) (hn : 0 ≤ n) (k : Nat) (hk : 200000 ≤ k) :
    view_View_data.f k (T.map pkOf) rs a b (s.size : Int) ids (off : Int) n = some (strOfNums (((bytesOf s).drop off).take n.toNat)) := by
  have hcl := (cutL_facts _ s (Nat.le_refl _)).2.1
  have hil := hg.1
  unfold view_View_data.f
  rw [wrap_in (a := (s.size : Int) - (off : Int)) (by omega) (by omega)]
  have h1 : mn n (mx ((s.size : Int) - (off : Int)) 0) = ((min n.toNat (s.size - off) : Nat) : Int) := by rw [mn_le, mx_le]; (repeat' split) <;> omega
  rw [h1, wrap_in (a := (off : Int) + _) (by omega) (by omega), show (off : Int) + ((min n.toNat (s.size - off) : Nat) : Int) = ((off + min n.toNat (s.size - off) : Nat) : Int) by omega]
  have h2 : wrap64 (Int.tdiv (off : Int) 64) = ((off / 64 : Nat) : Int) := by
    have e : Int.tdiv (off : Int) 64 = ((off / 64 : Nat) : Int) := by rw [Int.tdiv_eq_ediv_of_nonneg (by omega)]; omega
    rw [e, wrap_in (by omega) (by omega)]
  rw [h2, data_l0 T rs hT hb s hs ids hg a b _ off (off + min n.toNat (s.size - off)) (by omega) (by omega) ids.length (off / 64) k [] (by omega) (Nat.le_refl _) (by omega) (by omega) (by rw [List.drop_of_length_le (by rw [List.length_take]; omega)])]
  refine congrArg some (congrArg strOfNums ?_)
  rw [List.drop_take, show off + min n.toNat (s.size - off) - off = min n.toNat (s.size - off) by omega]
  apply List.ext_getElem?
  intro x
  rw [List.getElem?_take, List.getElem?_take, List.getElem?_drop]
  by_cases hx : x < n.toNat
  · by_cases hy : x < s.size - off
    · rw [if_pos (by omega), if_pos hx]
    · rw [if_neg (by omega), if_pos hx, List.getElem?_eq_none (by rw [bytesOf_length]; omega)]
  · rw [if_neg (by omega), if_neg hx]
/-! ### the view of a tree -/
theorem rowsOf_len (t : List Nd) : (rowsOf t).length = t.length := by unfold rowsOf; rw [List.length_map, List.length_zip, ids_len]; omega
theorem rdR (t : List Nd) (j : Nat) (hj : j < t.length) : rd_T87 (rowsOf t) (j : Int) = ⟨t[j].f0, t[j].f1, (t[j].f2.size : Int), ((idsOf [] t)[j]'(by rw [ids_len]; exact hj))⟩ := by
  unfold rd_T87 rowsOf
  rw [Int.toNat_natCast, List.getD_eq_getElem?_getD, List.getElem?_map, List.getElem?_eq_getElem (by rw [List.length_zip, ids_len]; omega), List.getElem_zip]; rfl
theorem got_at (t : List Nd) (j : Nat) (hj : j < t.length) : Got (tabOf [] t) ((idsOf [] t)[j]'(by rw [ids_len]; exact hj)) (cutL t[j].f2) := by
  have hz : j < (t.zip (idsOf [] t)).length := by rw [List.length_zip, ids_len]; omega
  have := ids_got t [] _ (List.getElem_mem hz)
  rw [List.getElem_zip] at this
  exact this
/-- The data of the node at a place, of a tree's view. -/
theorem vdata {t : List Nd} (h : mayT t = true) (rs : List Rw) (j : Nat) (hj : j < t.length) (a : ByteArray) (b : Int) (off : Nat) (hoff : off ≤ t[j].f2.size) (n : Int) (hn : 0 ≤ n) (k : Nat) (hk : 200000 ≤ k) :
    view_View_data.f k (blksOf t) rs a b (t[j].f2.size : Int) ((idsOf [] t)[j]'(by rw [ids_len]; exact hj)) (off : Int) n = some (strOfNums (((bytesOf t[j].f2).drop off).take n.toNat)) := by
  obtain ⟨h4, hg⟩ := tree_sizes h
  have hT := tab_len t [] (fun n hn => by have := (hg n hn).2; omega)
  rw [List.length_nil] at hT
  have h2 := (hg _ (List.getElem_mem hj)).2
  exact data_f (tabOf [] t) rs (by omega) (fun b hb => ((tab_good t [] goodT_nil).2 b hb).2) t[j].f2 (by omega) _ (got_at t j hj) a b off hoff n hn k hk
theorem tree_l0 {t : List Nd} (h : mayT t = true) : ∀ (f j k : Nat), j + f = t.length → f + 200001 ≤ k → view_View_Tree.l0 k (t.take j) (rowsOf t) ((rowsOf t).length : Int) (j : Int) (blksOf t) (rowsOf t) = some t := by
  obtain ⟨h4, hg⟩ := tree_sizes h
  have hl := rowsOf_len t
  intro f
  induction f with
  | zero =>
    intro j k hj hk
    obtain ⟨k, rfl⟩ : ∃ m, k = m + 1 := ⟨k - 1, by omega⟩
    rw [view_View_Tree.l0, if_neg (by omega), List.take_of_length_le (by omega)]
  | succ f ih =>
    intro j k hj hk
    obtain ⟨k, rfl⟩ : ∃ m, k = m + 1 := ⟨k - 1, by omega⟩
    have hjl : j < t.length := by omega
    have h2 := (hg _ (List.getElem_mem hjl)).2
    have hmn : mn (t[j].f2.size : Int) 401 = (t[j].f2.size : Int) := by rw [mn_le, if_neg (by omega)]
    have hd := vdata h (rowsOf t) j hjl t[j].f0 t[j].f1 0 (by omega) (t[j].f2.size : Int) (by omega) k (by omega)
    rw [List.drop_zero, Int.toNat_natCast, List.take_of_length_le (by rw [bytesOf_length]; exact Nat.le_refl _), strOfNums_bytesOf, show ((0 : Nat) : Int) = 0 from rfl] at hd
    rw [view_View_Tree.l0, if_pos (by omega), if_pos (by omega), if_pos (by omega), rdR t j hjl]
    simp only
    rw [hmn, hd, some_bind, if_pos (by rw [List.length_take]; omega), w_one j (by omega)]
    have := ih (j + 1) k (by omega) (by omega)
    rw [List.take_add_one, List.getElem?_eq_getElem hjl] at this
    exact this
theorem vtree {t : List Nd} (h : mayT t = true) (k : Nat) (hk : 300000 ≤ k) : view_View_Tree.f k (blksOf t) (rowsOf t) = some t := by
  obtain ⟨h4, _⟩ := tree_sizes h
  have := tree_l0 h t.length 0 k (by omega) (by omega)
  rw [List.take_zero] at this
  exact this
/-- A tree's image is opened: its blocks, its rows. -/
theorem open_img {t : List Nd} (h : mayT t = true) (k : Nat) (hk : 300000 ≤ k) : view_Open.f k (imgOf t) = some (0, blksOf t, rowsOf t) := by
  obtain ⟨h4, hg⟩ := tree_sizes h
  have hT := tab_len t [] (fun n hn => by have := (hg n hn).2; omega)
  rw [List.length_nil] at hT
  unfold view_Open.f
  rw [read_img h k (by omega), some_bind]
  simp only
  rw [if_neg (by simp), if_neg (by simp), if_neg (by unfold blksOf; rw [List.length_map]; omega), vtree h k hk, some_bind, mayT_f t (by omega) k (by omega), some_bind, if_pos h, lay_f t (by omega) k (by omega), some_bind, if_pos h, bytes_Equal.f, some_bind]
  simp
theorem open_ok {t : List Nd} (h : mayT t = true) (k : Nat) (hk : 300000 ≤ k) : view_OpenOk.f k (imgOf t) = some (blksOf t, rowsOf t) := by
  unfold view_OpenOk.f
  rw [open_img h k hk, some_bind]; rfl
/-! ### questions -/
def firstAt (t : List Nd) (p : ByteArray) : Option Nat := t.findIdx? (fun n => decide (n.f0 = p))
def found (t : List Nd) (p : ByteArray) : Option (ByteArray × Int × Int × List Int × Bool) := match firstAt t p with
  | some j => some ((at_ t j).f0, (at_ t j).f1, ((at_ t j).f2.size : Int), (idsOf [] t).getD j [], true)
  | none => some (⟨#[]⟩, 0, 0, [], false)
theorem find_l0 (t : List Nd) (ht : t.length ≤ 400) (p : ByteArray) : ∀ (f j k : Nat), j + f = t.length → f < k → (∀ i, (hi : i < j) → (hl : i < t.length) → t[i].f0 ≠ p) → view_View_find.l0 k p (rowsOf t) ((rowsOf t).length : Int) (j : Int) = found t p := by
  have hl := rowsOf_len t
  intro f
  induction f with
  | zero =>
    intro j k hj hk hn
    obtain ⟨k, rfl⟩ : ∃ m, k = m + 1 := ⟨k - 1, by omega⟩
    have : firstAt t p = none := by
      unfold firstAt
      rw [List.findIdx?_eq_none_iff]
      intro n hm
      obtain ⟨i, hi, e⟩ := List.getElem_of_mem hm
      have := hn i (by omega) hi
      rw [e] at this
      exact decide_eq_false this
    rw [view_View_find.l0, if_neg (by omega), found, this]
  | succ f ih =>
    intro j k hj hk hn
    obtain ⟨k, rfl⟩ : ∃ m, k = m + 1 := ⟨k - 1, by omega⟩
    have hjl : j < t.length := by omega
    rw [view_View_find.l0, if_pos (by omega), if_pos (by omega), if_pos (by omega), rdR t j hjl]
    simp only
    by_cases e : t[j].f0 = p
    · have : firstAt t p = some j := by
        unfold firstAt
        rw [List.findIdx?_eq_some_iff_getElem]
        exact ⟨hjl, decide_eq_true e, fun i hi => by rw [decide_eq_false (hn i hi (by omega))]; simp⟩
      rw [if_pos (toList_inj.2 e), found, this]
      simp only
      rw [at_lt t j hjl, List.getD_eq_getElem?_getD, List.getElem?_eq_getElem (by rw [ids_len]; exact hjl)]; rfl
    · rw [if_neg (fun h => e (toList_inj.1 h)), w_one j (by omega)]
      exact ih (j + 1) k (by omega) (by omega) (fun i hi hl => by
        rcases Nat.lt_succ_iff_lt_or_eq.1 hi with h | h
        · exact hn i h hl
        · subst h; exact e)
theorem find_f {t : List Nd} (h : mayT t = true) (p : ByteArray) (k : Nat) (hk : 500 ≤ k) : view_View_find.f k (blksOf t) (rowsOf t) p = found t p := by
  obtain ⟨h4, _⟩ := tree_sizes h
  exact find_l0 t h4 p t.length 0 k (by omega) (by omega) (fun i hi => absurd hi (Nat.not_lt_zero _))
end Go.Proofs.YthbdbgjggoobnaaDoor.Vw
/- What is asked of a tree's view, in plain words: ReadAt. -/
namespace Go.Proofs.YthbdbgjggoobnaaDoor.Vw
open Go.RowKit Go.Proofs.YthbdbgjggoobnaaDoorX Go.Proofs.YthbdbgjggoobnaaDoorW.PrintWords Go.Proofs.YthbdbgjggoobnaaDoorW.PrintLast Go.Proofs.YthbdbgjggoobnaaDoorW.PrintMore Go.Proofs.YthbdbgjggoobnaaDoor.P Go.Proofs.YthbdbgjggoobnaaDoor.Pa Go.Proofs.YthbdbgjggoobnaaDoor.PaTh Go.Proofs.YthbdbgjggoobnaaDoor.TreeTh Go.Proofs.YthbdbgjggoobnaaDoor.NarTh Go.Proofs.YthbdbgjggoobnaaDoor.Im
open Go.Proofs.YthbdbgjggoobnaaDoor.Bs (bytesOf_inj Bytes bytesOf_bytes bytesOf_strOfNums size_bytes strOfNums_bytesOf bytesOf_extract toList_inj)
open Go.Proofs.YthbdbgjggoobnaaDoor.TreeUp (up up_may up_inj)
set_option linter.unusedVariables false
set_option linter.unusedSimpArgs false
theorem firstAt_lt {t : List Nd} {p : ByteArray} {j : Nat} (h : firstAt t p = some j) : j < t.length ∧ (at_ t j).f0 = p := by
  unfold firstAt at h
  rw [List.findIdx?_eq_some_iff_getElem] at h
  obtain ⟨hj, e, _⟩ := h
  exact ⟨hj, by rw [at_lt t j hj]; exact of_decide_eq_true e⟩
theorem firstAt_here {t : List Nd} (h : mayT t = true) {j : Nat} (hj : j < t.length) : firstAt t (at_ t j).f0 = some j := by
  cases e : firstAt t (at_ t j).f0 with
  | none =>
    unfold firstAt at e
    rw [List.findIdx?_eq_none_iff] at e
    have := e (at_ t j) (by rw [at_lt t j hj]; exact List.getElem_mem hj)
    exact absurd rfl (of_decide_eq_false this)
  | some i =>
    obtain ⟨hi, e2⟩ := firstAt_lt e
    rw [up_inj (up_may h) hi hj (by rw [e2])]
def fileK (n : Nd) : Bool := n.f1 == 2 || n.f1 == 3
/-- What ReadAt tells of a node: its bytes, if it is a file. -/
def rdOne (n : Nd) (off m : Int) : ByteArray × Bool := if fileK n = true ∧ 0 ≤ off ∧ 0 ≤ m then (strOfNums (((bytesOf n.f2).drop off.toNat).take m.toNat), true) else (⟨#[]⟩, false)
def rdAt (t : List Nd) (p : ByteArray) (off m : Int) : ByteArray × Bool := match firstAt t p with
  | none => (⟨#[]⟩, false)
  | some j => rdOne (at_ t j) off m
theorem strOf_nil : strOfNums [] = (⟨#[]⟩ : ByteArray) := rfl
theorem rj_true (k : Nat) (hk : 1 ≤ k) (off m : Int) (bl : List Pk) (rs : List Rw) (p : ByteArray) (kd sz : Int) (ids : List Int) : view_View_ReadAt.j0 k off m true bl rs p kd sz ids = some (⟨#[]⟩, false) := by
  obtain ⟨k, rfl⟩ : ∃ q, k = q + 1 := ⟨k - 1, by omega⟩
  rw [view_View_ReadAt.j0, if_pos rfl]
theorem rj_false {t : List Nd} (h : mayT t = true) (j : Nat) (hj : j < t.length) (k : Nat) (hk : 300000 ≤ k) (off m : Int) (h0 : 0 ≤ off) (h1 : 0 ≤ m) :
    view_View_ReadAt.j0 k off m false (blksOf t) (rowsOf t) (at_ t j).f0 (at_ t j).f1 ((at_ t j).f2.size : Int) ((idsOf [] t).getD j []) = some (strOfNums (((bytesOf (at_ t j).f2).drop off.toNat).take m.toNat), true) := by
  obtain ⟨k, rfl⟩ : ∃ q, k = q + 1 := ⟨k - 1, by omega⟩
  rw [view_View_ReadAt.j0, if_neg (by simp)]
  by_cases c : off ≥ ((at_ t j).f2.size : Int)
  · rw [if_pos c, List.drop_of_length_le (by rw [bytesOf_length]; omega), List.take_nil, strOf_nil]
  · rw [if_neg c]
    obtain ⟨o, rfl⟩ := Int.eq_ofNat_of_zero_le h0
    have hi : (idsOf [] t).getD j [] = (idsOf [] t)[j]'(by rw [ids_len]; exact hj) := by rw [List.getD_eq_getElem?_getD, List.getElem?_eq_getElem (by rw [ids_len]; exact hj)]; rfl
    rw [hi, at_lt t j hj] at *
    rw [vdata h (rowsOf t) j hj _ _ o (by omega) m h1 k (by omega), PaTh.some_bind, Int.toNat_natCast]
theorem readAt_f {t : List Nd} (h : mayT t = true) (p : ByteArray) (off m : Int) (k : Nat) (hk : 300000 ≤ k) : view_View_ReadAt.f k (blksOf t) (rowsOf t) p off m = some (rdAt t p off m) := by
  unfold view_View_ReadAt.f
  rw [find_f h p k (by omega), found, rdAt]
  cases e : firstAt t p with
  | none =>
    simp only
    rw [PaTh.some_bind]
    simp only
    rw [if_neg (by simp), rj_true k (by omega)]
  | some j =>
    obtain ⟨hj, e2⟩ := firstAt_lt e
    simp only
    rw [PaTh.some_bind]
    simp only
    rw [if_pos trivial, rdOne]
    by_cases h2 : (at_ t j).f1 = 2
    · have hf : fileK (at_ t j) = true := by unfold fileK; rw [h2]; rfl
      rw [if_pos h2]
      by_cases c0 : off < 0
      · rw [if_pos c0, rj_true k (by omega), if_neg (by omega)]
      · rw [if_neg c0]
        by_cases c1 : m < 0
        · rw [decide_eq_true c1, rj_true k (by omega), if_neg (by omega)]
        · rw [decide_eq_false c1, rj_false h j hj k hk off m (by omega) (by omega), if_pos ⟨hf, by omega, by omega⟩]
    · rw [if_neg h2]
      by_cases h3 : (at_ t j).f1 = 3
      · have hf : fileK (at_ t j) = true := by unfold fileK; rw [h3]; rfl
        rw [if_pos h3]
        by_cases c0 : off < 0
        · rw [if_pos c0, rj_true k (by omega), if_neg (by omega)]
        · rw [if_neg c0]
          by_cases c1 : m < 0
          · rw [decide_eq_true c1, rj_true k (by omega), if_neg (by omega)]
          · rw [decide_eq_false c1, rj_false h j hj k hk off m (by omega) (by omega), if_pos ⟨hf, by omega, by omega⟩]
      · have hf : ¬ (fileK (at_ t j) = true) := by unfold fileK; simp [h2, h3]
        rw [if_neg h3, rj_true k (by omega), if_neg (fun q => hf q.1)]
end Go.Proofs.YthbdbgjggoobnaaDoor.Vw
