/- What package image lays, in plain words: its blocks, their numbers, its bytes. -/
import Derived.Test.YthbdbgjggoobnaaDoorNarTh
import Derived.Test.YthbdbgjggoobnaaDoorLzTh
namespace Go.Proofs.YthbdbgjggoobnaaDoor.Im
open Go.RowKit Go.Proofs.YthbdbgjggoobnaaDoorX Go.Proofs.YthbdbgjggoobnaaDoorW.PrintWords Go.Proofs.YthbdbgjggoobnaaDoorW.PrintLast Go.Proofs.YthbdbgjggoobnaaDoorW.PrintMore Go.Proofs.YthbdbgjggoobnaaDoor.P Go.Proofs.YthbdbgjggoobnaaDoor.Pa Go.Proofs.YthbdbgjggoobnaaDoor.PaTh Go.Proofs.YthbdbgjggoobnaaDoor.TreeTh Go.Proofs.YthbdbgjggoobnaaDoor.NarTh
open Go.Proofs.YthbdbgjggoobnaaDoor.Bs (bytesOf_inj Bytes bytesOf_bytes bytesOf_strOfNums size_bytes)
open Go.Proofs.YthbdbgjggoobnaaDoor.Lz (PK PK_bytes PK_length D D_PK_nil)
open Go.Proofs.YthbdbgjggoobnaaDoor.Tab (cutL cutL_inj cutL_facts Got GoodT put_some putGo_len)
set_option linter.unusedVariables false
set_option linter.unusedSimpArgs false
/-! ### sums -/
def sumB (l : List Int) (x : Int) : Int := l.foldl (fun a b => IntKind.u64.wrap ((Go.bits .xor .u64 a (IntKind.u64.wrap b)) * 1099511628211)) x
theorem sum_l1 (l : List Int) (hl : l.length ≤ 1000000) : ∀ (f j k : Nat) (x : Int), j + f = l.length → f + 3 ≤ k → sum_Of.l1 k x [l] 1 0 l (l.length : Int) (j : Int) = some (sumB (l.drop j) x) := by
  intro f
  induction f with
  | zero =>
    intro j k x hj hk
    obtain ⟨k, rfl⟩ : ∃ m, k = m + 2 := ⟨k - 2, by omega⟩
    rw [sum_Of.l1, if_neg (by omega), show wrap64 ((0 : Int) + 1) = 1 by unfold wrap64; omega, sum_Of.l0, if_neg (by omega), List.drop_of_length_le (by omega)]; rfl
  | succ f ih =>
    intro j k x hj hk
    obtain ⟨k, rfl⟩ : ∃ m, k = m + 1 := ⟨k - 1, by omega⟩
    have hjl : j < l.length := by omega
    rw [sum_Of.l1, if_pos (by omega), if_pos (by omega), if_pos (by omega), sum_Next.f, Bs.some_bind, w_one j (by omega), ih (j + 1) k _ (by omega) (by omega), (List.drop_eq_getElem_cons hjl : l.drop j = _), Tab.rd_nat l j hjl]; rfl
def sumT (s : ByteArray) : Int := sumB (bytesOf s) 14695981039346656037
theorem sum_f (s : ByteArray) (hs : s.size ≤ 1000000) (k : Nat) (hk : s.size + 5 ≤ k) : sum_Text.f k s = some (sumT s) := by
  obtain ⟨k, rfl⟩ : ∃ m, k = m + 1 := ⟨k - 1, by omega⟩
  unfold sum_Text.f sum_Of.f
  rw [if_pos (by omega), sum_Of.l0, if_pos (by simp), if_pos (by omega), if_pos (by simp)]
  have e : rd_L6 [bytesOf s] 0 = bytesOf s := rfl
  rw [e]
  exact sum_l1 (bytesOf s) (by rw [bytesOf_length]; exact hs) (bytesOf s).length 0 k _ (by omega) (by rw [bytesOf_length]; omega)
/-! ### the blocks and their numbers -/
def idsOf : List ByteArray → List Nd → List (List Int)
  | _, [] => []
  | T, n :: t => (putGo T [] (cutL n.f2)).1 :: idsOf (T ++ (putGo T [] (cutL n.f2)).2) t
def tabOf : List ByteArray → List Nd → List ByteArray
  | T, [] => T
  | T, n :: t => tabOf (T ++ (putGo T [] (cutL n.f2)).2) t
theorem parts_l0 (t : List Nd) (ht : t.length ≤ 400) (hd : ∀ n ∈ t, n.f2.size ≤ 500) (b : Bool) : ∀ (f j k : Nat) (T : List ByteArray) (acc : List (List Int)), j + f = t.length → f + 10 ≤ k → acc.length ≤ j → T.length ≤ 8 * j →
    image_parts.l0 k acc t (t.length : Int) (j : Int) T b = some (tabOf T (t.drop j), acc ++ idsOf T (t.drop j)) := by
  intro f
  induction f with
  | zero =>
    intro j k T acc hj hk ha hT
    obtain ⟨k, rfl⟩ : ∃ m, k = m + 1 := ⟨k - 1, by omega⟩
    rw [image_parts.l0, if_neg (by omega), List.drop_of_length_le (by omega), blocks_Table_All.f, slices_Clone_string_string.f, Bs.some_bind, if_pos (by simp; omega)]
    simp [tabOf, idsOf]
  | succ f ih =>
    intro j k T acc hj hk ha hT
    obtain ⟨k, rfl⟩ : ∃ m, k = m + 1 := ⟨k - 1, by omega⟩
    have hjl : j < t.length := by omega
    have hs := hd _ (List.getElem_mem hjl)
    obtain ⟨h1, h2⟩ := put_some (L := T) (b := b) (s := t[j].f2) (k := k) (by omega) (by omega) (by omega)
    rw [image_parts.l0, if_pos (by omega), if_pos (by omega), if_pos (by omega), rdN, at_lt t j hjl, h1, Bs.some_bind, if_pos (by omega), w_one j (by omega), ih (j + 1) k _ _ (by omega) (by omega) (by simp; omega) (by show (T ++ _).length ≤ _; omega), (List.drop_eq_getElem_cons hjl : t.drop j = _), tabOf, idsOf, List.append_assoc]; rfl
theorem parts_f (t : List Nd) (ht : t.length ≤ 400) (hd : ∀ n ∈ t, n.f2.size ≤ 500) (k : Nat) (hk : 500 ≤ k) : image_parts.f k t = some (tabOf [] t, idsOf [] t) := by
  unfold image_parts.f
  rw [blocks_New.f, Bs.some_bind]
  exact parts_l0 t ht hd _ t.length 0 k [] [] (by omega) (by omega) (by simp) (by simp)
theorem tab_pre : ∀ (t : List Nd) (T : List ByteArray), ∃ G, tabOf T t = T ++ G
  | [], T => ⟨[], by simp [tabOf]⟩
  | n :: t, T => by
    obtain ⟨G, h⟩ := tab_pre t (T ++ (putGo T [] (cutL n.f2)).2)
    exact ⟨_, by rw [tabOf, h, List.append_assoc]⟩
theorem tab_good : ∀ (t : List Nd) (T : List ByteArray), GoodT T → GoodT (tabOf T t)
  | [], T, h => h
  | n :: t, T, h => tab_good t _ (h.put n.f2)
theorem tab_len : ∀ (t : List Nd) (T : List ByteArray), (∀ n ∈ t, n.f2.size ≤ 500) → (tabOf T t).length ≤ T.length + 8 * t.length
  | [], T, _ => by simp [tabOf]
  | n :: t, T, h => by
    have := tab_len t (T ++ (putGo T [] (cutL n.f2)).2) (fun x hx => h x (List.mem_cons_of_mem _ hx))
    obtain ⟨G, h1, h2⟩ := Tab.putGo_pre T (cutL n.f2) []
    have hf := (cutL_facts _ n.f2 (Nat.le_refl _)).2.1
    have hs := h n List.mem_cons_self
    rw [h1, List.length_append, List.nil_append] at this
    rw [tabOf, h1, List.nil_append, List.length_cons]
    omega
theorem ids_len : ∀ (t : List Nd) (T : List ByteArray), (idsOf T t).length = t.length
  | [], T => rfl
  | n :: t, T => by rw [idsOf, List.length_cons, List.length_cons, ids_len t]
theorem ids_got : ∀ (t : List Nd) (T : List ByteArray), ∀ p ∈ t.zip (idsOf T t), Got (tabOf T t) p.2 (cutL p.1.f2)
  | [], T, p, h => by simp at h
  | n :: t, T, p, h => by
    rw [idsOf, List.zip_cons_cons] at h
    rw [tabOf]
    rcases List.mem_cons.1 h with rfl | h
    · obtain ⟨G, e⟩ := tab_pre t (T ++ (putGo T [] (cutL n.f2)).2)
      rw [e]
      exact (Got.of T (cutL n.f2)).more
    · exact ids_got t _ p h
end Go.Proofs.YthbdbgjggoobnaaDoor.Im
/- The bytes that image.Lay lays, in plain words. -/
namespace Go.Proofs.YthbdbgjggoobnaaDoor.Im
open Go.RowKit Go.Proofs.YthbdbgjggoobnaaDoorX Go.Proofs.YthbdbgjggoobnaaDoorW.PrintWords Go.Proofs.YthbdbgjggoobnaaDoorW.PrintLast Go.Proofs.YthbdbgjggoobnaaDoorW.PrintMore Go.Proofs.YthbdbgjggoobnaaDoor.P Go.Proofs.YthbdbgjggoobnaaDoor.Pa Go.Proofs.YthbdbgjggoobnaaDoor.PaTh Go.Proofs.YthbdbgjggoobnaaDoor.TreeTh Go.Proofs.YthbdbgjggoobnaaDoor.NarTh
open Go.Proofs.YthbdbgjggoobnaaDoor.Bs (bytesOf_inj Bytes bytesOf_bytes bytesOf_strOfNums size_bytes)
open Go.Proofs.YthbdbgjggoobnaaDoor.Lz (PK PK_bytes PK_length D D_PK_nil)
open Go.Proofs.YthbdbgjggoobnaaDoor.Tab (cutL cutL_inj cutL_facts Got GoodT put_some putGo_len)
set_option linter.unusedVariables false
set_option linter.unusedSimpArgs false
def pk (b : ByteArray) : ByteArray := strOfNums (PK (bytesOf b))
theorem pk_bytes (b : ByteArray) : bytesOf (pk b) = PK (bytesOf b) := bytesOf_strOfNums (PK_bytes _ (bytesOf_bytes b))
theorem pk_inj {a b : ByteArray} (h : pk a = pk b) : a = b := by
  have e : PK (bytesOf a) = PK (bytesOf b) := by rw [← pk_bytes, ← pk_bytes, h]
  have := D_PK_nil (bytesOf a) []
  rw [e, D_PK_nil, List.nil_append, List.nil_append] at this
  exact (bytesOf_inj (Option.some.inj this)).symm
theorem pk_size (b : ByteArray) : (pk b).size ≤ b.size + (b.size + 127) / 128 := by
  rw [size_bytes, pk_bytes]
  have := PK_length (bytesOf b)
  rwa [bytesOf_length] at this
def blkE (b : ByteArray) : List Int := enc8 (b.size : Int) ++ (enc8 ((pk b).size : Int) ++ enc8 (wrap64 (sumT b)))
def ndE (p : Nd × List Int) : List Int := encT p.1.f0 ++ (enc8 p.1.f1 ++ (enc8 (p.1.f2.size : Int) ++ (enc8 (p.2.length : Int) ++ p.2.flatMap enc8)))
def imark : ByteArray := ⟨#[105, 109, 97, 103, 101]⟩
def imgB (T : List ByteArray) (z : List (Nd × List Int)) : List Int := encT imark ++ (enc8 (T.length : Int) ++ (T.flatMap blkE ++ (enc8 (z.length : Int) ++ (z.flatMap ndE ++ T.flatMap (fun b => bytesOf (pk b))))))
theorem blkE_len (b : ByteArray) : (blkE b).length = 24 := by unfold blkE; rw [List.length_append, List.length_append, enc8_len, enc8_len, enc8_len]
theorem ids_enc_len (l : List Int) : (l.flatMap enc8).length = 8 * l.length := by
  induction l with
  | nil => rfl
  | cons x l ih => rw [List.flatMap_cons, List.length_append, enc8_len, ih, List.length_cons]; omega
theorem lay_l2 (ids : List (List Int)) (pkd : List Int) (t : List Nd) (n j : Int) (l : List Int) (hl : l.length ≤ 1000) : ∀ (f i k : Nat) (acc : List Int), i + f = l.length → 9 ≤ k → acc.length ≤ 1000000000 + 8 * i →
    image_Lay.l2 (k + f + 1) ids acc pkd t n j l (l.length : Int) (i : Int) = image_Lay.l1 k ids (acc ++ (l.drop i).flatMap enc8) pkd t n (wrap64 (j + 1)) := by
  intro f
  induction f with
  | zero =>
    intro i k acc hi hk ha
    rw [Nat.add_zero, image_Lay.l2, if_neg (by omega), List.drop_of_length_le (by omega), List.flatMap_nil, List.append_nil]
  | succ f ih =>
    intro i k acc hi hk ha
    have hil : i < l.length := by omega
    rw [image_Lay.l2, if_pos (by omega), if_pos (by omega), if_pos (by omega), num_f acc (by omega) _ (k + (f + 1)) (by omega), Bs.some_bind, w_one i (by omega), show k + (f + 1) = k + f + 1 by omega, ih (i + 1) k _ (by omega) hk (by rw [List.length_append, enc8_len]; omega), (List.drop_eq_getElem_cons hil : l.drop i = _), List.flatMap_cons, Tab.rd_nat l i hil, List.append_assoc]
theorem lay_l1 (t : List Nd) (ids : List (List Int)) (pkd : List Int) (ht : t.length ≤ 400) (hids : ids.length = t.length) (hg : ∀ n ∈ t, n.f0.size ≤ 300 ∧ n.f2.size ≤ 500) (hi8 : ∀ l ∈ ids, l.length ≤ 8) (hp : pkd.length ≤ 1000000) :
    ∀ (f j k : Nat) (acc : List Int), j + f = t.length → 12 * f + 20 ≤ k → acc.length ≤ 1000000 + 1000 * j →
    image_Lay.l1 k ids acc pkd t (t.length : Int) (j : Int) = some (acc ++ (((t.drop j).zip (ids.drop j)).flatMap ndE ++ pkd), 0) := by
  intro f
  induction f with
  | zero =>
    intro j k acc hj hk ha
    obtain ⟨k, rfl⟩ : ∃ m, k = m + 1 := ⟨k - 1, by omega⟩
    rw [image_Lay.l1, if_neg (by omega), if_pos (by omega), List.drop_of_length_le (by omega), List.zip_nil_left, List.flatMap_nil, List.nil_append]
  | succ f ih =>
    intro j k acc hj hk ha
    have hjl : j < t.length := by omega
    have hji : j < ids.length := by omega
    obtain ⟨h1, h2⟩ := hg _ (List.getElem_mem hjl)
    have h3 := hi8 _ (List.getElem_mem hji)
    obtain ⟨k, rfl⟩ : ∃ m, k = m + ids[j].length + 1 + 1 := ⟨k - ids[j].length - 2, by omega⟩
    have hL : rd_L10 ids (j : Int) = ids[j] := by unfold rd_L10; rw [Int.toNat_natCast, List.getD_eq_getElem?_getD, List.getElem?_eq_getElem hji]; rfl
    have a1 := encT_len t[j].f0
    rw [image_Lay.l1, if_pos (by omega), if_pos (by omega), if_pos (by omega), rdN, at_lt t j hjl, hL, text_f acc (by omega) _ (by omega) _ (by omega), Bs.some_bind, num_f _ (by rw [List.length_append]; omega) _ _ (by omega), Bs.some_bind, num_f _ (by rw [List.length_append, List.length_append, enc8_len]; omega) _ _ (by omega), Bs.some_bind, if_pos (by omega), num_f _ (by rw [List.length_append, List.length_append, List.length_append, enc8_len, enc8_len]; omega) _ _ (by omega), Bs.some_bind]
    have := lay_l2 ids pkd t (t.length : Int) (j : Int) ids[j] (by omega) ids[j].length 0 k (acc ++ encT t[j].f0 ++ enc8 t[j].f1 ++ enc8 (t[j].f2.size : Int) ++ enc8 (ids[j].length : Int)) (by omega) (by omega) (by rw [List.length_append, List.length_append, List.length_append, List.length_append, enc8_len, enc8_len, enc8_len]; omega)
    rw [show ((0 : Nat) : Int) = 0 from rfl] at this
    rw [this, w_one j (by omega), ih (j + 1) k _ (by omega) (by omega) (by rw [List.length_append, List.length_append, List.length_append, List.length_append, List.length_append, enc8_len, enc8_len, enc8_len, List.drop_zero, ids_enc_len]; omega), (List.drop_eq_getElem_cons hjl : t.drop j = _), (List.drop_eq_getElem_cons hji : ids.drop j = _), List.zip_cons_cons, List.flatMap_cons, List.drop_zero]
    unfold ndE
    simp only [List.append_assoc]
theorem lay_l0 (t : List Nd) (ids : List (List Int)) (T : List ByteArray) (ht : t.length ≤ 400) (hids : ids.length = t.length) (hg : ∀ n ∈ t, n.f0.size ≤ 300 ∧ n.f2.size ≤ 500) (hi8 : ∀ l ∈ ids, l.length ≤ 8) (hT : T.length ≤ 4000) (hb : ∀ b ∈ T, b.size ≤ 64) :
    ∀ (f j k : Nat) (acc pkd : List Int), j + f = T.length → f + 12 * t.length + 1000 ≤ k → acc.length ≤ 100 + 24 * j → pkd.length ≤ 65 * j →
    image_Lay.l0 k t ids acc pkd T (T.length : Int) (j : Int) = some (acc ++ ((T.drop j).flatMap blkE ++ (enc8 (t.length : Int) ++ ((t.zip ids).flatMap ndE ++ (pkd ++ (T.drop j).flatMap (fun b => bytesOf (pk b)))))), 0) := by
  intro f
  induction f with
  | zero =>
    intro j k acc pkd hj hk ha hp
    obtain ⟨k, rfl⟩ : ∃ m, k = m + 1 := ⟨k - 1, by omega⟩
    rw [image_Lay.l0, if_neg (by omega), num_f acc (by omega) _ k (by omega), Bs.some_bind, show (0 : Int) = ((0 : Nat) : Int) from rfl, lay_l1 t ids pkd ht hids hg hi8 (by omega) t.length 0 k _ (by omega) (by omega) (by rw [List.length_append, enc8_len]; omega), List.drop_of_length_le (by omega : T.length ≤ j)]
    simp
  | succ f ih =>
    intro j k acc pkd hj hk ha hp
    obtain ⟨k, rfl⟩ : ∃ m, k = m + 1 := ⟨k - 1, by omega⟩
    have hjl : j < T.length := by omega
    have hs := hb _ (List.getElem_mem hjl)
    have hpk := pk_size T[j]
    rw [image_Lay.l0, if_pos (by omega), if_pos (by omega), if_pos (by omega), Tab.rdOf_nat T j hjl, PTh.pack_f T[j] (by omega) k (by omega), Bs.some_bind, num_f acc (by omega) _ k (by omega), Bs.some_bind]
    show ((nar_Num.f k _ ((pk T[j]).size : Int)).bind _) = _
    rw [num_f _ (by rw [List.length_append, enc8_len]; omega) _ k (by omega), Bs.some_bind, sum_f T[j] (by omega) k (by omega), Bs.some_bind, num_f _ (by rw [List.length_append, List.length_append, enc8_len, enc8_len]; omega) _ k (by omega), Bs.some_bind]
    have hz : pkd.length + (strOfNums (PK (bytesOf T[j]))).size < 140737488355328 := by show pkd.length + (pk T[j]).size < _; omega
    rw [if_pos hz, w_one j (by omega), ih (j + 1) k _ _ (by omega) (by omega) (by rw [List.length_append, List.length_append, List.length_append, enc8_len, enc8_len, enc8_len]; omega) (by show (pkd ++ bytesOf (pk T[j])).length ≤ _; rw [List.length_append, bytesOf_length]; omega), (List.drop_eq_getElem_cons hjl : T.drop j = _), List.flatMap_cons, List.flatMap_cons]
    show some (acc ++ enc8 (T[j].size : Int) ++ enc8 ((pk T[j]).size : Int) ++ enc8 (wrap64 (sumT T[j])) ++ _, (0 : Int)) = some (acc ++ (enc8 (T[j].size : Int) ++ (enc8 ((pk T[j]).size : Int) ++ enc8 (wrap64 (sumT T[j]))) ++ _ ++ _), (0 : Int))
    simp only [List.append_assoc]; rfl
theorem ids_8 (t : List Nd) (T : List ByteArray) (h : ∀ n ∈ t, n.f2.size ≤ 500) : ∀ l ∈ idsOf T t, l.length ≤ 8 := by
  induction t generalizing T with
  | nil => intro l hl; simp [idsOf] at hl
  | cons n t ih =>
    intro l hl
    rw [idsOf] at hl
    rcases List.mem_cons.1 hl with rfl | hl
    · rw [putGo_len, (cutL_facts _ n.f2 (Nat.le_refl _)).2.1]
      have := h n List.mem_cons_self
      omega
    · exact ih _ (fun x hx => h x (List.mem_cons_of_mem _ hx)) l hl
/-- What Lay answers. -/
def imgOf (t : List Nd) : List Int := imgB (tabOf [] t) (t.zip (idsOf [] t))
theorem goodT_nil : GoodT [] := ⟨List.nodup_nil, fun p hp => by cases hp⟩
theorem tree_sizes {t : List Nd} (h : mayT t = true) : t.length ≤ 400 ∧ ∀ n ∈ t, n.f0.size ≤ 200 ∧ n.f2.size ≤ 400 := by
  obtain ⟨_, h4, hg⟩ := mayT_good h
  refine ⟨h4, fun n hn => ?_⟩
  obtain ⟨h1, h2, _⟩ := goodN_size (hg n hn)
  rw [← size_L] at h1 h2
  exact ⟨h1, h2⟩
theorem lay_f (t : List Nd) (ht : t.length ≤ 1000000) (k : Nat) (hk : 10000 ≤ k) : image_Lay.f k t = some (if mayT t = true then (imgOf t, 0) else ([], 7)) := by
  unfold image_Lay.f
  rw [mayT_f t ht k (by omega), Bs.some_bind]
  by_cases h : mayT t = true
  · obtain ⟨h4, hg⟩ := tree_sizes h
    have hd : ∀ n ∈ t, n.f2.size ≤ 500 := fun n hn => by have := (hg n hn).2; omega
    have hm : imark.size = 5 := rfl
    have hml := encT_len imark
    have hT := tab_len t [] hd
    rw [List.length_nil] at hT
    rw [if_pos h, if_pos h, parts_f t h4 hd k (by omega), Bs.some_bind]
    show ((nar_Text.f k ([] : List Int) imark).bind _) = _
    rw [text_f [] (by simp) imark (by omega) k (by omega), Bs.some_bind, num_f _ (by rw [List.nil_append]; omega) _ k (by omega), Bs.some_bind, show (0 : Int) = ((0 : Nat) : Int) from rfl]
    rw [lay_l0 t (idsOf [] t) (tabOf [] t) h4 (ids_len t []) (fun n hn => by have := hg n hn; omega) (ids_8 t [] hd) (by omega) (fun b hb => ((tab_good t [] goodT_nil).2 b hb).2) (tabOf [] t).length 0 k _ _ (by omega) (by omega) (by rw [List.nil_append, List.length_append, enc8_len]; omega) (by simp)]
    refine congrArg some (congrArg (·, 0) ?_)
    have hz : (t.zip (idsOf [] t)).length = t.length := by rw [List.length_zip, ids_len]; omega
    unfold imgOf imgB
    rw [hz]
    simp
  · rw [if_neg h, if_neg h]
end Go.Proofs.YthbdbgjggoobnaaDoor.Im
/- One image, one tree: what is laid tells the blocks and the nodes. -/
namespace Go.Proofs.YthbdbgjggoobnaaDoor.Im
open Go.RowKit Go.Proofs.YthbdbgjggoobnaaDoorX Go.Proofs.YthbdbgjggoobnaaDoorW.PrintWords Go.Proofs.YthbdbgjggoobnaaDoorW.PrintLast Go.Proofs.YthbdbgjggoobnaaDoorW.PrintMore Go.Proofs.YthbdbgjggoobnaaDoor.P Go.Proofs.YthbdbgjggoobnaaDoor.Pa Go.Proofs.YthbdbgjggoobnaaDoor.PaTh Go.Proofs.YthbdbgjggoobnaaDoor.TreeTh Go.Proofs.YthbdbgjggoobnaaDoor.NarTh
open Go.Proofs.YthbdbgjggoobnaaDoor.Bs (bytesOf_inj Bytes bytesOf_bytes bytesOf_strOfNums size_bytes)
open Go.Proofs.YthbdbgjggoobnaaDoor.Tab (cutL cutL_inj cutL_facts Got GoodT put_some putGo_len)
set_option linter.unusedVariables false
set_option linter.unusedSimpArgs false
theorem enc8_inj {a b : Int} (ha : 0 ≤ a) (ha' : a < 4611686018427387904) (hb : 0 ≤ b) (hb' : b < 4611686018427387904) (h : enc8 a = enc8 b) : a = b := by
  rw [enc8_list a ha ha', enc8_list b hb hb'] at h
  simp only [List.cons.injEq, and_true] at h
  obtain ⟨h0, h1, h2, h3, h4, h5, h6, h7⟩ := h
  have q (n : Int) : n / 72057594037927936 % 256 = n / 72057594037927936 - 256 * (n / 72057594037927936 / 256) := by omega
  omega
theorem enc8_cut {a b : Int} {x y : List Int} (ha : 0 ≤ a) (ha' : a < 4611686018427387904) (hb : 0 ≤ b) (hb' : b < 4611686018427387904) (h : enc8 a ++ x = enc8 b ++ y) : a = b ∧ x = y := by
  obtain ⟨h1, h2⟩ := List.append_inj h (by rw [enc8_len, enc8_len])
  exact ⟨enc8_inj ha ha' hb hb' h1, h2⟩
theorem encT_cut {a b : ByteArray} {x y : List Int} (ha : a.size ≤ 1000000000) (hb : b.size ≤ 1000000000) (h : encT a ++ x = encT b ++ y) : a = b ∧ x = y := by
  unfold encT at h
  rw [List.append_assoc, List.append_assoc, List.append_assoc, List.append_assoc] at h
  obtain ⟨h1, h2⟩ := enc8_cut (by omega) (by omega) (by omega) (by omega) h
  obtain ⟨h3, h4⟩ := List.append_inj h2 (by rw [bytesOf_length, bytesOf_length]; omega)
  have e := bytesOf_inj h3
  subst e
  exact ⟨rfl, List.append_cancel_left h4⟩
theorem blk_cut {a b : ByteArray} {x y : List Int} (ha : a.size ≤ 64) (hb : b.size ≤ 64) (h : blkE a ++ x = blkE b ++ y) : (pk a).size = (pk b).size ∧ x = y := by
  obtain ⟨h1, h2⟩ := List.append_inj h (by rw [blkE_len, blkE_len])
  unfold blkE at h1
  have p1 := pk_size a
  have p2 := pk_size b
  obtain ⟨h3, h4⟩ := enc8_cut (by omega) (by omega) (by omega) (by omega) h1
  obtain ⟨h5, _⟩ := enc8_cut (by omega) (by omega) (by omega) (by omega) h4
  exact ⟨by omega, h2⟩
/-- The heads of the blocks tell how long each is, packed. -/
theorem blks_cut : ∀ (T U : List ByteArray) (x y : List Int), T.length = U.length → (∀ b ∈ T, b.size ≤ 64) → (∀ b ∈ U, b.size ≤ 64) → T.flatMap blkE ++ x = U.flatMap blkE ++ y → T.map (fun b => (pk b).size) = U.map (fun b => (pk b).size) ∧ x = y
  | [], [], x, y, _, _, _, h => ⟨rfl, h⟩
  | [], _ :: _, _, _, h, _, _, _ => by simp at h
  | _ :: _, [], _, _, h, _, _, _ => by simp at h
  | a :: T, b :: U, x, y, hl, ha, hb, h => by
    rw [List.flatMap_cons, List.flatMap_cons, List.append_assoc, List.append_assoc] at h
    obtain ⟨h1, h2⟩ := blk_cut (ha a List.mem_cons_self) (hb b List.mem_cons_self) h
    obtain ⟨h3, h4⟩ := blks_cut T U x y (by simpa using hl) (fun c hc => ha c (List.mem_cons_of_mem _ hc)) (fun c hc => hb c (List.mem_cons_of_mem _ hc)) h2
    exact ⟨by rw [List.map_cons, List.map_cons, h1, h3], h4⟩
/-- Packed bytes, of known lengths, tell the blocks. -/
theorem pks_cut : ∀ (T U : List ByteArray), T.map (fun b => (pk b).size) = U.map (fun b => (pk b).size) → T.flatMap (fun b => bytesOf (pk b)) = U.flatMap (fun b => bytesOf (pk b)) → T = U
  | [], [], _, _ => rfl
  | [], _ :: _, h, _ => by simp at h
  | _ :: _, [], h, _ => by simp at h
  | a :: T, b :: U, h, h' => by
    rw [List.map_cons, List.map_cons, List.cons.injEq] at h
    rw [List.flatMap_cons, List.flatMap_cons] at h'
    obtain ⟨h1, h2⟩ := List.append_inj h' (by rw [bytesOf_length, bytesOf_length]; exact h.1)
    rw [pk_inj (bytesOf_inj h1), pks_cut T U h.2 h2]
theorem idl_cut : ∀ (l m : List Int) (x y : List Int), l.length = m.length → (∀ i ∈ l, 0 ≤ i ∧ i < 4611686018427387904) → (∀ i ∈ m, 0 ≤ i ∧ i < 4611686018427387904) → l.flatMap enc8 ++ x = m.flatMap enc8 ++ y → l = m ∧ x = y
  | [], [], x, y, _, _, _, h => ⟨rfl, h⟩
  | [], _ :: _, _, _, h, _, _, _ => by simp at h
  | _ :: _, [], _, _, h, _, _, _ => by simp at h
  | a :: l, b :: m, x, y, hl, ha, hb, h => by
    rw [List.flatMap_cons, List.flatMap_cons, List.append_assoc, List.append_assoc] at h
    have p1 := ha a List.mem_cons_self
    have p2 := hb b List.mem_cons_self
    obtain ⟨h1, h2⟩ := enc8_cut p1.1 p1.2 p2.1 p2.2 h
    obtain ⟨h3, h4⟩ := idl_cut l m x y (by simpa using hl) (fun c hc => ha c (List.mem_cons_of_mem _ hc)) (fun c hc => hb c (List.mem_cons_of_mem _ hc)) h2
    exact ⟨by rw [h1, h3], h4⟩
/-- What a node's row is made of. -/
def GoodZ (p : Nd × List Int) : Prop := p.1.f0.size ≤ 1000 ∧ 1 ≤ p.1.f1 ∧ p.1.f1 ≤ 4 ∧ p.1.f2.size ≤ 1000 ∧ p.2.length ≤ 1000 ∧ ∀ i ∈ p.2, 0 ≤ i ∧ i < 4611686018427387904
theorem nd_cut {p q : Nd × List Int} {x y : List Int} (hp : GoodZ p) (hq : GoodZ q) (h : ndE p ++ x = ndE q ++ y) : (p.1.f0 = q.1.f0 ∧ p.1.f1 = q.1.f1 ∧ p.2 = q.2) ∧ x = y := by
  obtain ⟨a1, a2, a3, a4, a5, a6⟩ := hp
  obtain ⟨b1, b2, b3, b4, b5, b6⟩ := hq
  unfold ndE at h
  simp only [List.append_assoc] at h
  obtain ⟨h1, h⟩ := encT_cut (by omega) (by omega) h
  obtain ⟨h2, h⟩ := enc8_cut (by omega) (by omega) (by omega) (by omega) h
  obtain ⟨h3, h⟩ := enc8_cut (by omega) (by omega) (by omega) (by omega) h
  obtain ⟨h4, h⟩ := enc8_cut (by omega) (by omega) (by omega) (by omega) h
  obtain ⟨h5, h⟩ := idl_cut _ _ _ _ (by omega) a6 b6 h
  exact ⟨⟨h1, h2, h5⟩, h⟩
theorem nds_cut : ∀ (z v : List (Nd × List Int)) (x y : List Int), z.length = v.length → (∀ p ∈ z, GoodZ p) → (∀ p ∈ v, GoodZ p) → z.flatMap ndE ++ x = v.flatMap ndE ++ y → z.map (fun p => (p.1.f0, p.1.f1, p.2)) = v.map (fun p => (p.1.f0, p.1.f1, p.2)) ∧ x = y
  | [], [], x, y, _, _, _, h => ⟨rfl, h⟩
  | [], _ :: _, _, _, h, _, _, _ => by simp at h
  | _ :: _, [], _, _, h, _, _, _ => by simp at h
  | a :: T, b :: U, x, y, hl, ha, hb, h => by
    rw [List.flatMap_cons, List.flatMap_cons, List.append_assoc, List.append_assoc] at h
    obtain ⟨⟨h1, h2, h5⟩, h⟩ := nd_cut (ha a List.mem_cons_self) (hb b List.mem_cons_self) h
    obtain ⟨h3, h4⟩ := nds_cut T U x y (by simpa using hl) (fun c hc => ha c (List.mem_cons_of_mem _ hc)) (fun c hc => hb c (List.mem_cons_of_mem _ hc)) h
    exact ⟨by rw [List.map_cons, List.map_cons, h1, h2, h5, h3], h4⟩
end Go.Proofs.YthbdbgjggoobnaaDoor.Im
/- What package view reads and tells, in plain words: an image that is opened tells the tree that was laid. -/
namespace Go.Proofs.YthbdbgjggoobnaaDoor.Vw
open Go.RowKit Go.Proofs.YthbdbgjggoobnaaDoorX Go.Proofs.YthbdbgjggoobnaaDoorW.PrintWords Go.Proofs.YthbdbgjggoobnaaDoorW.PrintLast Go.Proofs.YthbdbgjggoobnaaDoorW.PrintMore Go.Proofs.YthbdbgjggoobnaaDoor.P Go.Proofs.YthbdbgjggoobnaaDoor.Pa Go.Proofs.YthbdbgjggoobnaaDoor.PaTh Go.Proofs.YthbdbgjggoobnaaDoor.TreeTh Go.Proofs.YthbdbgjggoobnaaDoor.NarTh Go.Proofs.YthbdbgjggoobnaaDoor.Im
open Go.Proofs.YthbdbgjggoobnaaDoor.Bs (bytesOf_inj Bytes bytesOf_bytes bytesOf_strOfNums size_bytes strOfNums_bytesOf bytesOf_extract toList_inj)
open Go.Proofs.YthbdbgjggoobnaaDoor.Lz (PK PK_bytes PK_length D D_PK_nil)
open Go.Proofs.YthbdbgjggoobnaaDoor.Tab (cutL cutL_inj cutL_facts cutL_step Got GoodT put_some putGo_len)
set_option linter.unusedVariables false
set_option linter.unusedSimpArgs false
abbrev Pk := S115
abbrev Rw := S87
/-! ### reading -/
theorem or_byte (a x : Int) (h0 : 0 ≤ a) (h1 : a < 36028797018963968) (h2 : 0 ≤ x) (h3 : x < 256) : Go.bits .or .u64 (IntKind.u64.wrap (a * 256)) (IntKind.u64.wrap x) = a * 256 + x := by
  have e1 : IntKind.u64.wrap (a * 256) = a * 256 := by rw [Bs.u64_wrap]; omega
  have e2 : IntKind.u64.wrap x = x := by rw [Bs.u64_wrap]; omega
  rw [e1, e2]
  obtain ⟨m, rfl⟩ := Int.eq_ofNat_of_zero_le h0
  obtain ⟨y, rfl⟩ := Int.eq_ofNat_of_zero_le h2
  have := bits_or_u64_nat (m * 256) y (by omega) (by omega)
  have h := Nat.two_pow_add_eq_or_of_lt (i := 8) (b := y) (by omega) m
  rw [show 2 ^ 8 * m = m * 256 by omega] at h
  rw [show ((m : Int) * 256) = ((m * 256 : Nat) : Int) from (Int.natCast_mul m 256).symm, this, ← h]
  exact Int.natCast_add _ _
theorem num64_enc8 (n : Int) (h0 : 0 ≤ n) (h1 : n < 4611686018427387904) : num64 (enc8 n) = n := by
  rw [enc8_list n h0 h1]
  unfold num64
  simp only [List.foldl_cons, List.foldl_nil]
  have q1 : 0 ≤ n / 72057594037927936 ∧ n / 72057594037927936 < 64 := by omega
  have q2 : n / 72057594037927936 * 256 + n / 281474976710656 % 256 = n / 281474976710656 := by omega
  have q3 : n / 281474976710656 * 256 + n / 1099511627776 % 256 = n / 1099511627776 := by omega
  have q4 : n / 1099511627776 * 256 + n / 4294967296 % 256 = n / 4294967296 := by omega
  have q5 : n / 4294967296 * 256 + n / 16777216 % 256 = n / 16777216 := by omega
  have q6 : n / 16777216 * 256 + n / 65536 % 256 = n / 65536 := by omega
  have q7 : n / 65536 * 256 + n / 256 % 256 = n / 256 := by omega
  have q8 : n / 256 * 256 + n / 1 % 256 = n := by omega
  rw [or_byte 0 (n / 72057594037927936 % 256) (by omega) (by omega) (by omega) (by omega), show (0 : Int) * 256 + n / 72057594037927936 % 256 = n / 72057594037927936 by omega]
  rw [or_byte _ (n / 281474976710656 % 256) (by omega) (by omega) (by omega) (by omega), q2]
  rw [or_byte _ (n / 1099511627776 % 256) (by omega) (by omega) (by omega) (by omega), q3]
  rw [or_byte _ (n / 4294967296 % 256) (by omega) (by omega) (by omega) (by omega), q4]
  rw [or_byte _ (n / 16777216 % 256) (by omega) (by omega) (by omega) (by omega), q5]
  rw [or_byte _ (n / 65536 % 256) (by omega) (by omega) (by omega) (by omega), q6]
  rw [or_byte _ (n / 256 % 256) (by omega) (by omega) (by omega) (by omega), q7]
  rw [or_byte _ (n / 1 % 256) (by omega) (by omega) (by omega) (by omega), q8]
def rN (xs : List Int) (bad : Bool) : Int × List Int × Bool := (wrap64 (num64 (tk 8 xs bad).1), (tk 8 xs bad).2.1, (tk 8 xs bad).2.2)
theorem rnum_f (xs : List Int) (bad : Bool) : view_reader_num.f xs bad = some (rN xs bad) := rfl
theorem tk_app (a rest : List Int) : tk (a.length : Int) (a ++ rest) false = (a, rest, false) := by
  unfold tk
  rw [if_neg (by simp; omega), Int.toNat_natCast, List.take_left', List.drop_left']
  all_goals rfl
theorem rN_enc (n : Int) (h0 : 0 ≤ n) (h1 : n < 4611686018427387904) (rest : List Int) : rN (enc8 n ++ rest) false = (n, rest, false) := by
  have := tk_app (enc8 n) rest
  rw [enc8_len] at this
  unfold rN
  rw [show (8 : Int) = ((8 : Nat) : Int) from rfl, this, num64_enc8 n h0 h1, wrap_in (by omega) (by omega)]
theorem num_enc (n : Int) (h0 : 0 ≤ n) (h1 : n < 4611686018427387904) (rest : List Int) : view_reader_num.f (enc8 n ++ rest) false = some (n, rest, false) := by rw [rnum_f, rN_enc n h0 h1]
theorem num_any (x rest : List Int) (h : x.length = 8) : ∃ v, view_reader_num.f (x ++ rest) false = some (v, rest, false) := by
  have := tk_app x rest
  rw [h, show ((8 : Nat) : Int) = 8 from rfl] at this
  exact ⟨_, by rw [rnum_f, rN, this]⟩
theorem text_enc (s : ByteArray) (hs : s.size ≤ 1000000000) (rest : List Int) : view_reader_text.f (encT s ++ rest) false = some (s, rest, false) := by
  have e : encT s ++ rest = enc8 (s.size : Int) ++ (bytesOf s ++ (padN s ++ rest)) := by unfold encT; simp
  have h1 : tk (s.size : Int) (bytesOf s ++ (padN s ++ rest)) false = (bytesOf s, padN s ++ rest, false) := by
    have := tk_app (bytesOf s) (padN s ++ rest)
    rw [bytesOf_length] at this
    exact this
  have h2 : tk (padOf s) (padN s ++ rest) false = (padN s, rest, false) := by
    have := tk_app (padN s) rest
    rw [padN_len] at this
    unfold padOf
    rw [show -((s.size : Int) % 8) % 8 = (8 - (s.size : Int) % 8) % 8 by omega]
    exact this
  unfold view_reader_text.f
  rw [e, num_enc _ (by omega) (by omega), some_bind]
  simp only
  rw [h1]
  simp only
  rw [if_pos (by rw [bytesOf_length]; omega), strOfNums_bytesOf, h2]
theorem count_enc (n m : Int) (h0 : 0 ≤ n) (h1 : n ≤ m) (hm : m ≤ 1000000) (rest : List Int) : view_reader_count.f (enc8 n ++ rest) false m = some (n, rest, false) := by
  unfold view_reader_count.f
  rw [num_enc n h0 (by omega), some_bind]
  simp only
  rw [if_neg (by simp), if_neg (by omega), if_neg (by omega), decide_eq_false (by omega)]
theorem row_l0 (p : ByteArray) (kd sz : Int) (n : Nat) (hn : n ≤ 1000) (rest : List Int) : ∀ (rem acc : List Int) (j k : Nat), (∀ i ∈ rem, 0 ≤ i ∧ i < 4611686018427387904) → j + rem.length = n → acc.length ≤ j → rem.length < k →
    view_reader_row.l0 k (n : Int) (j : Int) (rem.flatMap enc8 ++ rest) false p kd sz acc = some (p, kd, sz, acc ++ rem, rest, false) := by
  intro rem
  induction rem with
  | nil =>
    intro acc j k hi hj ha hk
    rw [List.length_nil] at hj
    obtain ⟨k, rfl⟩ : ∃ m, k = m + 1 := ⟨k - 1, by omega⟩
    rw [view_reader_row.l0, if_neg (by omega), List.flatMap_nil, List.nil_append, List.append_nil]
  | cons x rem ih =>
    intro acc j k hi hj ha hk
    rw [List.length_cons] at hj hk
    obtain ⟨k, rfl⟩ : ∃ m, k = m + 1 := ⟨k - 1, by omega⟩
    obtain ⟨h0, h1⟩ := hi x List.mem_cons_self
    rw [view_reader_row.l0, if_pos (by omega), List.flatMap_cons, List.append_assoc, num_enc x h0 h1, some_bind, if_pos (by omega), w_one j (by omega), ih (acc ++ [x]) (j + 1) k (fun i hi' => hi i (List.mem_cons_of_mem _ hi')) (by omega) (by rw [List.length_append, List.length_singleton]; omega) (by omega)]
    simp
theorem row_enc {p : Nd × List Int} (h : GoodZ p) (h8 : p.2.length ≤ 400) (rest : List Int) (k : Nat) (hk : 500 ≤ k) : view_reader_row.f k (ndE p ++ rest) false = some (p.1.f0, p.1.f1, (p.1.f2.size : Int), p.2, rest, false) := by
  obtain ⟨g1, g2, g3, g4, g5, g6⟩ := h
  unfold view_reader_row.f ndE
  simp only [List.append_assoc]
  rw [text_enc _ (by omega), some_bind, num_enc _ (by omega) (by omega), some_bind, num_enc _ (by omega) (by omega), some_bind, count_enc _ _ (by omega) (by omega) (by omega), some_bind]
  exact row_l0 _ _ _ p.2.length (by omega) rest p.2 [] 0 k g6 (by omega) (by simp) (by omega)
theorem read_l0 (n : Nat) (hn : n ≤ 4000) (rest : List Int) : ∀ (rem : List ByteArray) (x4 x5 : List Int) (j k : Nat), (∀ b ∈ rem, b.size ≤ 64) → j + rem.length = n → x4.length ≤ j → x5.length ≤ j →
    view_reader_read.l0 (k + rem.length) x4 x5 (n : Int) (j : Int) (rem.flatMap blkE ++ rest) false = view_reader_read.l0 k (x4 ++ rem.map (fun b => (b.size : Int))) (x5 ++ rem.map (fun b => ((pk b).size : Int))) (n : Int) (n : Int) rest false := by
  intro rem
  induction rem with
  | nil =>
    intro x4 x5 j k hb hj h4 h5
    rw [List.length_nil] at hj
    have e : j = n := by omega
    subst e
    simp
  | cons b rem ih =>
    intro x4 x5 j k hb hj h4 h5
    rw [List.length_cons] at hj
    have hs := hb b List.mem_cons_self
    have hp := pk_size b
    obtain ⟨v, hv⟩ := num_any (enc8 (wrap64 (sumT b))) (rem.flatMap blkE ++ rest) (enc8_len _)
    rw [List.length_cons, show k + (rem.length + 1) = (k + rem.length) + 1 by omega, view_reader_read.l0, if_pos (by omega), List.flatMap_cons, blkE]
    simp only [List.append_assoc]
    rw [num_enc _ (by omega) (by omega), some_bind, if_pos (by omega), num_enc _ (by omega) (by omega), some_bind, if_pos (by omega), hv, some_bind, w_one j (by omega), ih _ _ (j + 1) k (fun c hc => hb c (List.mem_cons_of_mem _ hc)) (by omega) (by rw [List.length_append, List.length_singleton]; omega) (by rw [List.length_append, List.length_singleton]; omega)]
    simp
def rowOf (p : Nd × List Int) : Rw := ⟨p.1.f0, p.1.f1, (p.1.f2.size : Int), p.2⟩
def pkOf (b : ByteArray) : Pk := ⟨(b.size : Int), pk b⟩
theorem read_l1 (x4 x5 : List Int) (n : Nat) (hn : n ≤ 400) (rest : List Int) : ∀ (rem : List (Nd × List Int)) (acc : List Rw) (j k : Nat), (∀ p ∈ rem, GoodZ p ∧ p.2.length ≤ 400) → j + rem.length = n → acc.length ≤ j → 500 ≤ k →
    view_reader_read.l1 (k + rem.length) x4 x5 (n : Int) (j : Int) (rem.flatMap ndE ++ rest) false acc = view_reader_read.l1 k x4 x5 (n : Int) (n : Int) rest false (acc ++ rem.map rowOf) := by
  intro rem
  induction rem with
  | nil =>
    intro acc j k hb hj ha hk
    rw [List.length_nil] at hj
    have e : j = n := by omega
    subst e
    simp
  | cons p rem ih =>
    intro acc j k hb hj ha hk
    rw [List.length_cons] at hj
    obtain ⟨g, h8⟩ := hb p List.mem_cons_self
    rw [List.length_cons, show k + (rem.length + 1) = (k + rem.length) + 1 by omega, view_reader_read.l1, if_pos (by omega), List.flatMap_cons, List.append_assoc, row_enc g h8 _ _ (by omega), some_bind, if_pos (by omega), w_one j (by omega), ih _ (j + 1) k (fun c hc => hb c (List.mem_cons_of_mem _ hc)) (by omega) (by rw [List.length_append, List.length_singleton]; omega) hk]
    simp [rowOf]
theorem read_l2 (rw_ : List Rw) (T : List ByteArray) (hT : T.length ≤ 4000) (hb : ∀ b ∈ T, b.size ≤ 64) : ∀ (f j k : Nat) (acc : List Pk), j + f = T.length → f < k → acc.length ≤ j →
    view_reader_read.l2 k (T.map (fun b => (b.size : Int))) (T.map (fun b => ((pk b).size : Int))) (T.length : Int) (j : Int) ((T.drop j).flatMap (fun b => bytesOf (pk b))) false acc rw_ = some (acc ++ (T.drop j).map pkOf, rw_, [], false) := by
  intro f
  induction f with
  | zero =>
    intro j k acc hj hk ha
    obtain ⟨k, rfl⟩ : ∃ m, k = m + 1 := ⟨k - 1, by omega⟩
    rw [view_reader_read.l2, if_neg (by omega), List.drop_of_length_le (by omega)]; simp
  | succ f ih =>
    intro j k acc hj hk ha
    obtain ⟨k, rfl⟩ : ∃ m, k = m + 1 := ⟨k - 1, by omega⟩
    have hjl : j < T.length := by omega
    have hs := hb _ (List.getElem_mem hjl)
    have hp := pk_size T[j]
    have e4 : rd (T.map (fun b => (b.size : Int))) (j : Int) = (T[j].size : Int) := by rw [Tab.rd_nat _ j (by rw [List.length_map]; exact hjl), List.getElem_map]
    have e5 : rd (T.map (fun b => ((pk b).size : Int))) (j : Int) = ((pk T[j]).size : Int) := by rw [Tab.rd_nat _ j (by rw [List.length_map]; exact hjl), List.getElem_map]
    have ht := tk_app (bytesOf (pk T[j])) ((T.drop (j + 1)).flatMap (fun b => bytesOf (pk b)))
    rw [bytesOf_length] at ht
    rw [view_reader_read.l2, if_pos (by omega), if_pos (by omega), if_pos (by rw [List.length_map]; omega), if_pos (by rw [List.length_map]; omega), e4, e5, (List.drop_eq_getElem_cons hjl : T.drop j = _), List.flatMap_cons, view_takeS.f, ht]
    simp only
    rw [if_pos (by rw [bytesOf_length]; omega), some_bind, if_pos (by omega), w_one j (by omega), strOfNums_bytesOf, ih (j + 1) k _ (by omega) (by omega) (by rw [List.length_append, List.length_singleton]; omega)]
    simp only [List.map_cons, List.append_assoc, List.singleton_append]; rfl
theorem rows_good {t : List Nd} (h : mayT t = true) : ∀ p ∈ t.zip (idsOf [] t), GoodZ p ∧ p.2.length ≤ 400 := by
  intro p hp
  obtain ⟨h4, hg⟩ := tree_sizes h
  have hm := (List.of_mem_zip (a := p.1) (b := p.2) hp)
  have hgt := ids_got t [] p hp
  obtain ⟨s1, s2⟩ := hg _ hm.1
  have hT := tab_len t [] (fun n hn => by have := (hg n hn).2; omega)
  rw [List.length_nil] at hT
  have h8 := ids_8 t [] (fun n hn => by have := (hg n hn).2; omega) _ hm.2
  obtain ⟨_, _, k1, k2⟩ := goodN_size ((mayT_good h).2.2 _ hm.1)
  refine ⟨⟨by omega, k1, k2, by omega, by omega, ?_⟩, by omega⟩
  intro i hi
  obtain ⟨j, hj, e⟩ := List.getElem_of_mem hi
  obtain ⟨i', h1, h2⟩ := hgt.2 j (by rw [← hgt.1]; exact hj)
  rw [List.getElem?_eq_getElem hj, e] at h1
  have e2 := Option.some.inj h1
  rw [List.getElem?_eq_getElem (show j < (cutL p.1.f2).length by rw [← hgt.1]; exact hj)] at h2
  have := (List.getElem?_eq_some_iff.1 h2).1
  omega
def blksOf (t : List Nd) : List Pk := (tabOf [] t).map pkOf
def rowsOf (t : List Nd) : List Rw := (t.zip (idsOf [] t)).map rowOf
theorem read_img {t : List Nd} (h : mayT t = true) (k : Nat) (hk : 20000 ≤ k) : view_reader_read.f k (imgOf t) false = some (blksOf t, rowsOf t, [], false) := by
  obtain ⟨h4, hg⟩ := tree_sizes h
  have hT := tab_len t [] (fun n hn => by have := (hg n hn).2; omega)
  rw [List.length_nil] at hT
  have hG := fun b hb => ((tab_good t [] goodT_nil).2 b hb).2
  have hz : (t.zip (idsOf [] t)).length = t.length := by rw [List.length_zip, ids_len]; omega
  have hm : imark.size = 5 := rfl
  unfold view_reader_read.f imgOf imgB
  rw [text_enc _ (by omega), some_bind, count_enc _ _ (by omega) (by omega) (by omega), some_bind]
  obtain ⟨k1, rfl⟩ : ∃ m, k = (m + 1) + (tabOf [] t).length := ⟨k - (tabOf [] t).length - 1, by omega⟩
  rw [show (0 : Int) = ((0 : Nat) : Int) from rfl, read_l0 (tabOf [] t).length (by omega) _ (tabOf [] t) [] [] 0 (k1 + 1) hG (by omega) (by simp) (by simp), List.nil_append, List.nil_append, view_reader_read.l0, if_neg (by omega), count_enc _ _ (by omega) (by omega) (by omega), some_bind]
  obtain ⟨k2, rfl⟩ : ∃ m, k1 = (m + 1) + (t.zip (idsOf [] t)).length := ⟨k1 - (t.zip (idsOf [] t)).length - 1, by omega⟩
  rw [show (0 : Int) = ((0 : Nat) : Int) from rfl, read_l1 _ _ (t.zip (idsOf [] t)).length (by omega) _ (t.zip (idsOf [] t)) [] 0 (k2 + 1) (rows_good h) (by omega) (by simp) (by omega), List.nil_append, view_reader_read.l1, if_neg (by omega), List.length_map]
  have := read_l2 ((t.zip (idsOf [] t)).map rowOf) (tabOf [] t) (by omega) hG (tabOf [] t).length 0 k2 [] (by omega) (by omega) (by simp)
  rw [List.drop_zero, List.nil_append] at this
  exact this
/-! ### data -/
theorem cut_get : ∀ (n : Nat) (s : ByteArray) (i : Nat) (p : ByteArray), s.size ≤ n → (cutL s)[i]? = some p → bytesOf p = ((bytesOf s).drop (64 * i)).take 64 := by
  intro n
  induction n with
  | zero =>
    intro s i p hs h
    rw [cutL_step, if_neg (by omega), if_pos (by omega)] at h
    simp at h
  | succ n ih =>
    intro s i p hs h
    rw [cutL_step] at h
    by_cases h64 : 64 < s.size
    · rw [if_pos h64] at h
      cases i with
      | zero =>
        rw [List.getElem?_cons_zero] at h
        obtain rfl := Option.some.inj h
        rw [bytesOf_extract]; simp
      | succ i =>
        rw [List.getElem?_cons_succ] at h
        rw [ih (s.extract 64 s.size) i p (by rw [ByteArray.size_extract]; omega) h, bytesOf_extract, List.drop_drop, List.take_of_length_le (l := bytesOf s) (i := s.size) (by rw [bytesOf_length]; exact Nat.le_refl _), show 64 + 64 * i = 64 * (i + 1) by omega]
    · rw [if_neg h64] at h
      by_cases h0 : s.size = 0
      · rw [if_pos h0] at h; simp at h
      · rw [if_neg h0] at h
        cases i with
        | zero =>
          rw [List.getElem?_cons_zero] at h
          obtain rfl := Option.some.inj h
          rw [Nat.mul_zero, List.drop_zero, List.take_of_length_le (by rw [bytesOf_length]; omega)]
        | succ i => simp at h
theorem rdK (T : List ByteArray) (i : Nat) (h : i < T.length) : rd_T115 (T.map pkOf) (i : Int) = pkOf T[i] := by
  unfold rd_T115
  rw [Int.toNat_natCast, List.getD_eq_getElem?_getD, List.getElem?_map, List.getElem?_eq_getElem h]; rfl
theorem block_f (T : List ByteArray) (rs : List Rw) (hT : T.length ≤ 4000) (hb : ∀ b ∈ T, b.size ≤ 64) (i : Nat) (p : ByteArray) (hp : T[i]? = some p) (k : Nat) (hk : 100000 ≤ k) : view_View_block.f k (T.map pkOf) rs (i : Int) = some p := by
  obtain ⟨hi, e⟩ := List.getElem?_eq_some_iff.1 hp
  have hs := hb p (e ▸ List.getElem_mem hi)
  unfold view_View_block.f
  rw [if_neg (by omega), if_neg (by rw [List.length_map]; omega), if_pos (by omega), if_pos (by rw [List.length_map]; omega), rdK T i hi, e]
  show (if ((p.size : Int)) > 64 then _ else (lz_Unpack.f k (strOfNums (PK (bytesOf p))) (p.size : Int)).bind _) = _
  rw [if_neg (by omega), PTh.unpack_pack p (by omega) k (by omega), if_pos rfl]; rfl
theorem mn_le (a b : Int) : mn a b = if b < a then b else a := rfl
theorem mx_le (a b : Int) : mx a b = if a < b then b else a := rfl
theorem take_drop_step (D : List Int) (off e i : Nat) (he : e ≤ D.length) (h1 : off < 64 * i + 64) (h2 : 64 * i < e) :
    ((D.take (min (64 * i) e)).drop off) ++ (((((D.drop (64 * i)).take 64).take (min (e - 64 * i) (min 64 (D.length - 64 * i))))).drop (off - 64 * i)) = (D.take (min (64 * (i + 1)) e)).drop off := by
  apply List.ext_getElem?
  intro x
  by_cases hx : x < ((D.take (min (64 * i) e)).drop off).length
  · rw [List.getElem?_append_left hx]
    rw [List.length_drop, List.length_take] at hx
    rw [List.getElem?_drop, List.getElem?_drop, List.getElem?_take, List.getElem?_take, if_pos (by omega), if_pos (by omega)]
  · rw [List.getElem?_append_right (by omega)]
    rw [List.length_drop, List.length_take] at hx ⊢
    rw [List.getElem?_drop, List.getElem?_take, List.getElem?_take, List.getElem?_drop, List.getElem?_drop, List.getElem?_take]
    by_cases hy : off + x < min (64 * (i + 1)) e
    · rw [if_pos hy, if_pos (by omega), if_pos (by omega)]
      congr 1
      omega
    · rw [if_neg hy, if_neg (by omega)]
theorem data_l0 (T : List ByteArray) (rs : List Rw) (hT : T.length ≤ 4000) (hb : ∀ b ∈ T, b.size ≤ 64) (s : ByteArray) (hs : s.size ≤ 100000) (ids : List Int) (hg : Got T ids (cutL s)) (a : ByteArray) (b c : Int) (off e : Nat) (he : e ≤ s.size) (hoff : off ≤ 1000000) :
    ∀ (f i k : Nat) (out : List Int), ids.length ≤ i + f → off / 64 ≤ i → i ≤ 1000000 → 2 * f + 100002 ≤ k → out = ((bytesOf s).take (min (64 * i) e)).drop off →
    view_View_data.l0 k (off : Int) (e : Int) out (i : Int) (T.map pkOf) rs a b c ids = some (strOfNums (((bytesOf s).take e).drop off)) := by
  have hcl := (cutL_facts _ s (Nat.le_refl _)).2.1
  have hil := hg.1
  have hD : (bytesOf s).length = s.size := bytesOf_length s
  intro f
  induction f with
  | zero =>
    intro i k out hi hoi hi' hk ho
    obtain ⟨k, rfl⟩ : ∃ m, k = m + 2 := ⟨k - 2, by omega⟩
    rw [view_View_data.l0, if_neg (by omega), view_View_data.j1, if_neg (by simp), ho, Nat.min_eq_right (by omega)]
  | succ f ih =>
    intro i k out hi hoi hi' hk ho
    obtain ⟨k, rfl⟩ : ∃ m, k = m + 2 := ⟨k - 2, by omega⟩
    rw [view_View_data.l0]
    by_cases c1 : i < ids.length
    case neg => rw [if_neg (by omega), view_View_data.j1, if_neg (by simp), ho, Nat.min_eq_right (by omega)]
    rw [if_pos (by omega), view_View_data.j1, wrap_in (a := (i : Int) * 64) (by omega) (by omega)]
    by_cases c2 : 64 * i < e
    case neg => rw [decide_eq_false (by omega), if_neg (by simp), ho, Nat.min_eq_right (by omega)]
    obtain ⟨q, h1, h2⟩ := hg.2 i (by omega)
    obtain ⟨p, hp⟩ : ∃ p, (cutL s)[i]? = some p := ⟨_, List.getElem?_eq_getElem (by omega)⟩
    rw [hp] at h2
    have hr : rd ids (i : Int) = (q : Int) := by
      rw [Tab.rd_nat ids i c1]
      rw [List.getElem?_eq_getElem c1] at h1
      exact Option.some.inj h1
    have hbp := cut_get s.size s i p (Nat.le_refl _) hp
    have hps : p.size = min 64 (s.size - 64 * i) := by rw [size_bytes, hbp, List.length_take, List.length_drop, hD]
    rw [decide_eq_true (by omega), if_pos rfl, if_pos (by omega), if_pos (by omega), hr, block_f T rs hT hb q p h2 k (by omega), some_bind, wrap_in (a := (off : Int) - (i : Int) * 64) (by omega) (by omega), wrap_in (a := (e : Int) - (i : Int) * 64) (by omega) (by omega)]
    have hmx : mx ((off : Int) - (i : Int) * 64) 0 = ((off - 64 * i : Nat) : Int) := by rw [mx_le]; split <;> omega
    have hmn : mn ((e : Int) - (i : Int) * 64) (p.size : Int) = ((min (e - 64 * i) p.size : Nat) : Int) := by rw [mn_le]; split <;> omega
    rw [hmx, hmn, w_one i (by omega)]
    have hnext : out ++ bytesOf (p.extract (off - 64 * i) (min (e - 64 * i) p.size)) = ((bytesOf s).take (min (64 * (i + 1)) e)).drop off := by
      rw [bytesOf_extract, hbp, ho, hps, ← hD]
      exact take_drop_step (bytesOf s) off e i (by omega) (by omega) c2
    by_cases c3 : off - 64 * i < min (e - 64 * i) p.size
    · have hol : out.length ≤ s.size := by rw [ho, List.length_drop, List.length_take]; omega
      have hxl : (p.extract (off - 64 * i) (min (e - 64 * i) p.size)).size ≤ 64 := by rw [ByteArray.size_extract]; omega
      rw [if_pos (by omega), if_pos (by omega), if_pos (by omega), if_pos (by omega), Int.toNat_natCast, Int.toNat_natCast, if_pos (by omega)]
      exact ih (i + 1) k _ (by omega) (by omega) (by omega) (by omega) hnext
    · rw [if_neg (by omega)]
      refine ih (i + 1) k _ (by omega) (by omega) (by omega) (by omega) ?_
      rw [← hnext, bytesOf_extract, List.drop_of_length_le (by rw [List.length_take]; omega), List.append_nil]
/-- The data of a node's row, from a place on, so many bytes at most. -/
theorem data_f (T : List ByteArray) (rs : List Rw) (hT : T.length ≤ 4000) (hb : ∀ b ∈ T, b.size ≤ 64) (s : ByteArray) (hs : s.size ≤ 100000) (ids : List Int) (hg : Got T ids (cutL s)) (a : ByteArray) (b : Int) (off : Nat) (hoff : off ≤ s.size) (n : Int) (hn : 0 ≤ n) (k : Nat) (hk : 200000 ≤ k) :
    view_View_data.f k (T.map pkOf) rs a b (s.size : Int) ids (off : Int) n = some (strOfNums (((bytesOf s).drop off).take n.toNat)) := by
  have hcl := (cutL_facts _ s (Nat.le_refl _)).2.1
  have hil := hg.1
  unfold view_View_data.f
  rw [wrap_in (a := (s.size : Int) - (off : Int)) (by omega) (by omega)]
  have h1 : mn n (mx ((s.size : Int) - (off : Int)) 0) = ((min n.toNat (s.size - off) : Nat) : Int) := by rw [mn_le, mx_le]; (repeat' split) <;> omega
  rw [h1, wrap_in (a := (off : Int) + _) (by omega) (by omega), show (off : Int) + ((min n.toNat (s.size - off) : Nat) : Int) = ((off + min n.toNat (s.size - off) : Nat) : Int) by omega]
  have h2 : wrap64 (Int.tdiv (off : Int) 64) = ((off / 64 : Nat) : Int) := by
    have e : Int.tdiv (off : Int) 64 = ((off / 64 : Nat) : Int) := by rw [Int.tdiv_eq_ediv_of_nonneg (by omega)]; omega
    rw [e, wrap_in (by omega) (by omega)]
  rw [h2, data_l0 T rs hT hb s hs ids hg a b _ off (off + min n.toNat (s.size - off)) (by omega) (by omega) ids.length (off / 64) k [] (by omega) (Nat.le_refl _) (by omega) (by omega) (by rw [List.drop_of_length_le (by rw [List.length_take]; omega)])]
  refine congrArg some (congrArg strOfNums ?_)
  rw [List.drop_take, show off + min n.toNat (s.size - off) - off = min n.toNat (s.size - off) by omega]
  apply List.ext_getElem?
  intro x
  rw [List.getElem?_take, List.getElem?_take, List.getElem?_drop]
  by_cases hx : x < n.toNat
  · by_cases hy : x < s.size - off
    · rw [if_pos (by omega), if_pos hx]
    · rw [if_neg (by omega), if_pos hx, List.getElem?_eq_none (by rw [bytesOf_length]; omega)]
  · rw [if_neg (by omega), if_neg hx]
/-! ### the view of a tree -/
theorem rowsOf_len (t : List Nd) : (rowsOf t).length = t.length := by unfold rowsOf; rw [List.length_map, List.length_zip, ids_len]; omega
theorem rdR (t : List Nd) (j : Nat) (hj : j < t.length) : rd_T87 (rowsOf t) (j : Int) = ⟨t[j].f0, t[j].f1, (t[j].f2.size : Int), ((idsOf [] t)[j]'(by rw [ids_len]; exact hj))⟩ := by
  unfold rd_T87 rowsOf
  rw [Int.toNat_natCast, List.getD_eq_getElem?_getD, List.getElem?_map, List.getElem?_eq_getElem (by rw [List.length_zip, ids_len]; omega), List.getElem_zip]; rfl
theorem got_at (t : List Nd) (j : Nat) (hj : j < t.length) : Got (tabOf [] t) ((idsOf [] t)[j]'(by rw [ids_len]; exact hj)) (cutL t[j].f2) := by
  have hz : j < (t.zip (idsOf [] t)).length := by rw [List.length_zip, ids_len]; omega
  have := ids_got t [] _ (List.getElem_mem hz)
  rw [List.getElem_zip] at this
  exact this
/-- The data of the node at a place, of a tree's view. -/
theorem vdata {t : List Nd} (h : mayT t = true) (rs : List Rw) (j : Nat) (hj : j < t.length) (a : ByteArray) (b : Int) (off : Nat) (hoff : off ≤ t[j].f2.size) (n : Int) (hn : 0 ≤ n) (k : Nat) (hk : 200000 ≤ k) :
    view_View_data.f k (blksOf t) rs a b (t[j].f2.size : Int) ((idsOf [] t)[j]'(by rw [ids_len]; exact hj)) (off : Int) n = some (strOfNums (((bytesOf t[j].f2).drop off).take n.toNat)) := by
  obtain ⟨h4, hg⟩ := tree_sizes h
  have hT := tab_len t [] (fun n hn => by have := (hg n hn).2; omega)
  rw [List.length_nil] at hT
  have h2 := (hg _ (List.getElem_mem hj)).2
  exact data_f (tabOf [] t) rs (by omega) (fun b hb => ((tab_good t [] goodT_nil).2 b hb).2) t[j].f2 (by omega) _ (got_at t j hj) a b off hoff n hn k hk
theorem tree_l0 {t : List Nd} (h : mayT t = true) : ∀ (f j k : Nat), j + f = t.length → f + 200001 ≤ k → view_View_Tree.l0 k (t.take j) (rowsOf t) ((rowsOf t).length : Int) (j : Int) (blksOf t) (rowsOf t) = some t := by
  obtain ⟨h4, hg⟩ := tree_sizes h
  have hl := rowsOf_len t
  intro f
  induction f with
  | zero =>
    intro j k hj hk
    obtain ⟨k, rfl⟩ : ∃ m, k = m + 1 := ⟨k - 1, by omega⟩
    rw [view_View_Tree.l0, if_neg (by omega), List.take_of_length_le (by omega)]
  | succ f ih =>
    intro j k hj hk
    obtain ⟨k, rfl⟩ : ∃ m, k = m + 1 := ⟨k - 1, by omega⟩
    have hjl : j < t.length := by omega
    have h2 := (hg _ (List.getElem_mem hjl)).2
    have hmn : mn (t[j].f2.size : Int) 401 = (t[j].f2.size : Int) := by rw [mn_le, if_neg (by omega)]
    have hd := vdata h (rowsOf t) j hjl t[j].f0 t[j].f1 0 (by omega) (t[j].f2.size : Int) (by omega) k (by omega)
    rw [List.drop_zero, Int.toNat_natCast, List.take_of_length_le (by rw [bytesOf_length]; exact Nat.le_refl _), strOfNums_bytesOf, show ((0 : Nat) : Int) = 0 from rfl] at hd
    rw [view_View_Tree.l0, if_pos (by omega), if_pos (by omega), if_pos (by omega), rdR t j hjl]
    simp only
    rw [hmn, hd, some_bind, if_pos (by rw [List.length_take]; omega), w_one j (by omega)]
    have := ih (j + 1) k (by omega) (by omega)
    rw [List.take_add_one, List.getElem?_eq_getElem hjl] at this
    exact this
theorem vtree {t : List Nd} (h : mayT t = true) (k : Nat) (hk : 300000 ≤ k) : view_View_Tree.f k (blksOf t) (rowsOf t) = some t := by
  obtain ⟨h4, _⟩ := tree_sizes h
  have := tree_l0 h t.length 0 k (by omega) (by omega)
  rw [List.take_zero] at this
  exact this
/-- A tree's image is opened: its blocks, its rows. -/
theorem open_img {t : List Nd} (h : mayT t = true) (k : Nat) (hk : 300000 ≤ k) : view_Open.f k (imgOf t) = some (0, blksOf t, rowsOf t) := by
  obtain ⟨h4, hg⟩ := tree_sizes h
  have hT := tab_len t [] (fun n hn => by have := (hg n hn).2; omega)
  rw [List.length_nil] at hT
  unfold view_Open.f
  rw [read_img h k (by omega), some_bind]
  simp only
  rw [if_neg (by simp), if_neg (by simp), if_neg (by unfold blksOf; rw [List.length_map]; omega), vtree h k hk, some_bind, mayT_f t (by omega) k (by omega), some_bind, if_pos h, lay_f t (by omega) k (by omega), some_bind, if_pos h, bytes_Equal.f, some_bind]
  simp
theorem open_ok {t : List Nd} (h : mayT t = true) (k : Nat) (hk : 300000 ≤ k) : view_OpenOk.f k (imgOf t) = some (blksOf t, rowsOf t) := by
  unfold view_OpenOk.f
  rw [open_img h k hk, some_bind]; rfl
/-! ### questions -/
def firstAt (t : List Nd) (p : ByteArray) : Option Nat := t.findIdx? (fun n => decide (n.f0 = p))
def found (t : List Nd) (p : ByteArray) : Option (ByteArray × Int × Int × List Int × Bool) := match firstAt t p with
  | some j => some ((at_ t j).f0, (at_ t j).f1, ((at_ t j).f2.size : Int), (idsOf [] t).getD j [], true)
  | none => some (⟨#[]⟩, 0, 0, [], false)
theorem find_l0 (t : List Nd) (ht : t.length ≤ 400) (p : ByteArray) : ∀ (f j k : Nat), j + f = t.length → f < k → (∀ i, (hi : i < j) → (hl : i < t.length) → t[i].f0 ≠ p) → view_View_find.l0 k p (rowsOf t) ((rowsOf t).length : Int) (j : Int) = found t p := by
  have hl := rowsOf_len t
  intro f
  induction f with
  | zero =>
    intro j k hj hk hn
    obtain ⟨k, rfl⟩ : ∃ m, k = m + 1 := ⟨k - 1, by omega⟩
    have : firstAt t p = none := by
      unfold firstAt
      rw [List.findIdx?_eq_none_iff]
      intro n hm
      obtain ⟨i, hi, e⟩ := List.getElem_of_mem hm
      have := hn i (by omega) hi
      rw [e] at this
      exact decide_eq_false this
    rw [view_View_find.l0, if_neg (by omega), found, this]
  | succ f ih =>
    intro j k hj hk hn
    obtain ⟨k, rfl⟩ : ∃ m, k = m + 1 := ⟨k - 1, by omega⟩
    have hjl : j < t.length := by omega
    rw [view_View_find.l0, if_pos (by omega), if_pos (by omega), if_pos (by omega), rdR t j hjl]
    simp only
    by_cases e : t[j].f0 = p
    · have : firstAt t p = some j := by
        unfold firstAt
        rw [List.findIdx?_eq_some_iff_getElem]
        exact ⟨hjl, decide_eq_true e, fun i hi => by rw [decide_eq_false (hn i hi (by omega))]; simp⟩
      rw [if_pos (toList_inj.2 e), found, this]
      simp only
      rw [at_lt t j hjl, List.getD_eq_getElem?_getD, List.getElem?_eq_getElem (by rw [ids_len]; exact hjl)]; rfl
    · rw [if_neg (fun h => e (toList_inj.1 h)), w_one j (by omega)]
      exact ih (j + 1) k (by omega) (by omega) (fun i hi hl => by
        rcases Nat.lt_succ_iff_lt_or_eq.1 hi with h | h
        · exact hn i h hl
        · subst h; exact e)
theorem find_f {t : List Nd} (h : mayT t = true) (p : ByteArray) (k : Nat) (hk : 500 ≤ k) : view_View_find.f k (blksOf t) (rowsOf t) p = found t p := by
  obtain ⟨h4, _⟩ := tree_sizes h
  exact find_l0 t h4 p t.length 0 k (by omega) (by omega) (fun i hi => absurd hi (Nat.not_lt_zero _))
end Go.Proofs.YthbdbgjggoobnaaDoor.Vw
/- What is asked of a tree's view, in plain words: ReadAt. -/
namespace Go.Proofs.YthbdbgjggoobnaaDoor.Vw
open Go.RowKit Go.Proofs.YthbdbgjggoobnaaDoorX Go.Proofs.YthbdbgjggoobnaaDoorW.PrintWords Go.Proofs.YthbdbgjggoobnaaDoorW.PrintLast Go.Proofs.YthbdbgjggoobnaaDoorW.PrintMore Go.Proofs.YthbdbgjggoobnaaDoor.P Go.Proofs.YthbdbgjggoobnaaDoor.Pa Go.Proofs.YthbdbgjggoobnaaDoor.PaTh Go.Proofs.YthbdbgjggoobnaaDoor.TreeTh Go.Proofs.YthbdbgjggoobnaaDoor.NarTh Go.Proofs.YthbdbgjggoobnaaDoor.Im
open Go.Proofs.YthbdbgjggoobnaaDoor.Bs (bytesOf_inj Bytes bytesOf_bytes bytesOf_strOfNums size_bytes strOfNums_bytesOf bytesOf_extract toList_inj)
open Go.Proofs.YthbdbgjggoobnaaDoor.TreeUp (up up_may up_inj)
set_option linter.unusedVariables false
set_option linter.unusedSimpArgs false
theorem firstAt_lt {t : List Nd} {p : ByteArray} {j : Nat} (h : firstAt t p = some j) : j < t.length ∧ (at_ t j).f0 = p := by
  unfold firstAt at h
  rw [List.findIdx?_eq_some_iff_getElem] at h
  obtain ⟨hj, e, _⟩ := h
  exact ⟨hj, by rw [at_lt t j hj]; exact of_decide_eq_true e⟩
theorem firstAt_here {t : List Nd} (h : mayT t = true) {j : Nat} (hj : j < t.length) : firstAt t (at_ t j).f0 = some j := by
  cases e : firstAt t (at_ t j).f0 with
  | none =>
    unfold firstAt at e
    rw [List.findIdx?_eq_none_iff] at e
    have := e (at_ t j) (by rw [at_lt t j hj]; exact List.getElem_mem hj)
    exact absurd rfl (of_decide_eq_false this)
  | some i =>
    obtain ⟨hi, e2⟩ := firstAt_lt e
    rw [up_inj (up_may h) hi hj (by rw [e2])]
def fileK (n : Nd) : Bool := n.f1 == 2 || n.f1 == 3
/-- What ReadAt tells of a node: its bytes, if it is a file. -/
def rdOne (n : Nd) (off m : Int) : ByteArray × Bool := if fileK n = true ∧ 0 ≤ off ∧ 0 ≤ m then (strOfNums (((bytesOf n.f2).drop off.toNat).take m.toNat), true) else (⟨#[]⟩, false)
def rdAt (t : List Nd) (p : ByteArray) (off m : Int) : ByteArray × Bool := match firstAt t p with
  | none => (⟨#[]⟩, false)
  | some j => rdOne (at_ t j) off m
theorem strOf_nil : strOfNums [] = (⟨#[]⟩ : ByteArray) := rfl
theorem rj_true (k : Nat) (hk : 1 ≤ k) (off m : Int) (bl : List Pk) (rs : List Rw) (p : ByteArray) (kd sz : Int) (ids : List Int) : view_View_ReadAt.j0 k off m true bl rs p kd sz ids = some (⟨#[]⟩, false) := by
  obtain ⟨k, rfl⟩ : ∃ q, k = q + 1 := ⟨k - 1, by omega⟩
  rw [view_View_ReadAt.j0, if_pos rfl]
theorem rj_false {t : List Nd} (h : mayT t = true) (j : Nat) (hj : j < t.length) (k : Nat) (hk : 300000 ≤ k) (off m : Int) (h0 : 0 ≤ off) (h1 : 0 ≤ m) :
    view_View_ReadAt.j0 k off m false (blksOf t) (rowsOf t) (at_ t j).f0 (at_ t j).f1 ((at_ t j).f2.size : Int) ((idsOf [] t).getD j []) = some (strOfNums (((bytesOf (at_ t j).f2).drop off.toNat).take m.toNat), true) := by
  obtain ⟨k, rfl⟩ : ∃ q, k = q + 1 := ⟨k - 1, by omega⟩
  rw [view_View_ReadAt.j0, if_neg (by simp)]
  by_cases c : off ≥ ((at_ t j).f2.size : Int)
  · rw [if_pos c, List.drop_of_length_le (by rw [bytesOf_length]; omega), List.take_nil, strOf_nil]
  · rw [if_neg c]
    obtain ⟨o, rfl⟩ := Int.eq_ofNat_of_zero_le h0
    have hi : (idsOf [] t).getD j [] = (idsOf [] t)[j]'(by rw [ids_len]; exact hj) := by rw [List.getD_eq_getElem?_getD, List.getElem?_eq_getElem (by rw [ids_len]; exact hj)]; rfl
    rw [hi, at_lt t j hj] at *
    rw [vdata h (rowsOf t) j hj _ _ o (by omega) m h1 k (by omega), PaTh.some_bind, Int.toNat_natCast]
theorem readAt_f {t : List Nd} (h : mayT t = true) (p : ByteArray) (off m : Int) (k : Nat) (hk : 300000 ≤ k) : view_View_ReadAt.f k (blksOf t) (rowsOf t) p off m = some (rdAt t p off m) := by
  unfold view_View_ReadAt.f
  rw [find_f h p k (by omega), found, rdAt]
  cases e : firstAt t p with
  | none =>
    simp only
    rw [PaTh.some_bind]
    simp only
    rw [if_neg (by simp), rj_true k (by omega)]
  | some j =>
    obtain ⟨hj, e2⟩ := firstAt_lt e
    simp only
    rw [PaTh.some_bind]
    simp only
    rw [if_pos trivial, rdOne]
    by_cases h2 : (at_ t j).f1 = 2
    · have hf : fileK (at_ t j) = true := by unfold fileK; rw [h2]; rfl
      rw [if_pos h2]
      by_cases c0 : off < 0
      · rw [if_pos c0, rj_true k (by omega), if_neg (by omega)]
      · rw [if_neg c0]
        by_cases c1 : m < 0
        · rw [decide_eq_true c1, rj_true k (by omega), if_neg (by omega)]
        · rw [decide_eq_false c1, rj_false h j hj k hk off m (by omega) (by omega), if_pos ⟨hf, by omega, by omega⟩]
    · rw [if_neg h2]
      by_cases h3 : (at_ t j).f1 = 3
      · have hf : fileK (at_ t j) = true := by unfold fileK; rw [h3]; rfl
        rw [if_pos h3]
        by_cases c0 : off < 0
        · rw [if_pos c0, rj_true k (by omega), if_neg (by omega)]
        · rw [if_neg c0]
          by_cases c1 : m < 0
          · rw [decide_eq_true c1, rj_true k (by omega), if_neg (by omega)]
          · rw [decide_eq_false c1, rj_false h j hj k hk off m (by omega) (by omega), if_pos ⟨hf, by omega, by omega⟩]
      · have hf : ¬ (fileK (at_ t j) = true) := by unfold fileK; simp [h2, h3]
        rw [if_neg h3, rj_true k (by omega), if_neg (fun q => hf q.1)]
end Go.Proofs.YthbdbgjggoobnaaDoor.Vw
/- Paths as lists of their parts. -/
namespace Go.Proofs.YthbdbgjggoobnaaDoor.PartsTh
open Go.RowKit Go.Proofs.YthbdbgjggoobnaaDoor.Pa Go.Proofs.YthbdbgjggoobnaaDoor.PaTh
set_option linter.unusedVariables false
set_option linter.unusedSimpArgs false
/-- A path's parts. -/
def P (l : List UInt8) : List (List UInt8) := if l = [] then [] else cut l
def OkP (r : List (List UInt8)) : Prop := ∀ x ∈ r, isPart x = true
theorem OkP.take {r : List (List UInt8)} (h : OkP r) (n : Nat) : OkP (r.take n) := fun x hx => h x (List.mem_of_mem_take hx)
theorem OkP.drop {r : List (List UInt8)} (h : OkP r) (n : Nat) : OkP (r.drop n) := fun x hx => h x (List.mem_of_mem_drop hx)
theorem OkP.dropLast {r : List (List UInt8)} (h : OkP r) : OkP r.dropLast := fun x hx => h x ((List.dropLast_sublist r).subset hx)
theorem OkP.append {a b : List (List UInt8)} (h : OkP a) (k : OkP b) : OkP (a ++ b) := fun x hx => (List.mem_append.1 hx).elim (h x) (k x)
theorem OkP.left {a b : List (List UInt8)} (h : OkP (a ++ b)) : OkP a := fun x hx => h x (List.mem_append_left _ hx)
theorem OkP.right {a b : List (List UInt8)} (h : OkP (a ++ b)) : OkP b := fun x hx => h x (List.mem_append_right _ hx)
theorem P_nil : P [] = [] := rfl
theorem J_P (l : List UInt8) : J (P l) = l := by
  unfold P
  by_cases h : l = []
  · rw [if_pos h, h]; rfl
  · rw [if_neg h, J_cut]
theorem P_inj {a b : List UInt8} (h : P a = P b) : a = b := by rw [← J_P a, ← J_P b, h]
theorem P_eq_nil {l : List UInt8} : P l = [] ↔ l = [] := ⟨fun h => P_inj (h.trans P_nil.symm), fun h => by rw [h]; rfl⟩
theorem J_ne {r : List (List UInt8)} (h : OkP r) (hr : r ≠ []) : J r ≠ [] := by
  cases r with
  | nil => exact absurd rfl hr
  | cons x r =>
    have hx := part_ne (h x (by simp))
    intro e
    have := congrArg List.length e
    simp only [J, List.length_append, List.length_nil] at this
    exact hx (List.eq_nil_of_length_eq_zero (by omega))
theorem P_J {r : List (List UInt8)} (h : OkP r) : P (J r) = r := by
  by_cases hr : r = []
  · subst hr; rfl
  · unfold P
    rw [if_neg (J_ne h hr), cut_J r hr (fun x hx => part_noslash (h x hx))]
theorem may_iff (l : List UInt8) : may l = true ↔ l.length ≤ 200 ∧ OkP (P l) ∧ (P l).length ≤ 10 := by
  unfold may P
  rw [decide_eq_true_iff]
  by_cases h : l = []
  · rw [if_pos h, h]; exact ⟨fun _ => ⟨by simp, fun x hx => by simp at hx, by simp⟩, fun _ => .inl rfl⟩
  · rw [if_neg h]
    exact ⟨fun e => e.elim (fun e => absurd e h) (fun ⟨a, b, c⟩ => ⟨a, List.all_eq_true.1 b, c⟩), fun ⟨a, b, c⟩ => .inr ⟨a, List.all_eq_true.2 b, c⟩⟩
theorem P_ok {l : List UInt8} (h : may l = true) : OkP (P l) := ((may_iff l).1 h).2.1
theorem dir_P {l : List UInt8} (h : l ≠ []) : dir l = J (P l).dropLast := by unfold dir P; rw [if_neg h]
theorem P_dir {l : List UInt8} (hm : may l = true) (h : l ≠ []) : P (dir l) = (P l).dropLast := by rw [dir_P h, P_J (P_ok hm).dropLast]
theorem base_P {l : List UInt8} (h : l ≠ []) : base l = (P l).getLastD [] := by unfold base P; rw [if_neg h]
theorem split_P {l : List UInt8} (h : may l = true) : split l = P l := by
  unfold split P
  by_cases h0 : l = []
  · rw [if_pos h0, if_pos h0]
  · rw [if_neg h0, if_neg h0, if_pos h]
theorem U_iff {a b : List UInt8} (ha : may a = true) (hb : may b = true) : U a b ↔ P b <+: P a := by
  constructor
  · rintro (rfl | rfl | ⟨r, e⟩)
    · exact List.prefix_refl _
    · exact List.nil_prefix
    · by_cases h0 : b = []
      · rw [h0]; exact List.nil_prefix
      have h1 : a ≠ [] := by rintro rfl; simp at e
      rw [List.append_assoc] at e
      have e' : a = b ++ 47 :: r := e.symm
      unfold P
      rw [if_neg h0, if_neg h1, e', cut_slash]
      exact List.prefix_append _ _
  · rintro ⟨r, e⟩
    by_cases hr : r = []
    · subst hr
      rw [List.append_nil] at e
      exact .inl (P_inj e).symm
    by_cases h0 : b = []
    · exact .inr (.inl h0)
    refine .inr (.inr ⟨J r, ?_⟩)
    have hp : P b ≠ [] := fun e => h0 (P_eq_nil.1 e)
    have := J_append (b := r) hp
    rw [e, J_P, J_P, T_J hr] at this
    rw [this, List.append_assoc]; rfl
theorem under_iff {a b : List UInt8} (ha : may a = true) (hb : may b = true) : under a b = true ↔ P b <+: P a := by
  unfold under
  rw [ha, hb, Bool.true_and, Bool.true_and, decide_eq_true_iff]
  exact U_iff ha hb
/-- What is left of a path, at a place above it. -/
def rest (p x : List UInt8) : List UInt8 := J ((P x).drop (P p).length)
theorem T_le (a b : List (List UInt8)) : (J b).length ≤ (J (a ++ b)).length := by
  by_cases h : a = []
  · subst h; exact Nat.le_refl _
  by_cases h1 : b = []
  · subst h1; simp [J]
  · rw [J_append h, T_J h1]; simp; omega
theorem J_le_left (a b : List (List UInt8)) : (J a).length ≤ (J (a ++ b)).length := by
  by_cases h : a = []
  · subst h; simp [J]
  · rw [J_append h]; simp
theorem P_rest {p x : List UInt8} (hx : may x = true) : P (rest p x) = (P x).drop (P p).length := P_J ((P_ok hx).drop _)
theorem may_rest {p x : List UInt8} (hx : may x = true) : may (rest p x) = true := by
  obtain ⟨h1, h2, h3⟩ := (may_iff x).1 hx
  refine (may_iff _).2 ⟨?_, by rw [P_rest hx]; exact h2.drop _, by rw [P_rest hx, List.length_drop]; omega⟩
  have := T_le ((P x).take (P p).length) ((P x).drop (P p).length)
  rw [List.take_append_drop, J_P] at this
  unfold rest
  omega
theorem may_dir {x : List UInt8} (hx : may x = true) (h : x ≠ []) : may (dir x) = true := (dir_spec hx h).1
theorem P_split {p x : List UInt8} (h : P p <+: P x) : P x = P p ++ (P x).drop (P p).length := by
  obtain ⟨r, e⟩ := h
  rw [← e, List.drop_left]
theorem rest_nil {p x : List UInt8} (hx : may x = true) (h : P p <+: P x) (e : rest p x = []) : x = p := by
  have h1 : P (rest p x) = [] := by rw [e]; rfl
  rw [P_rest hx] at h1
  have h2 := P_split h
  rw [h1, List.append_nil] at h2
  exact P_inj h2
theorem rest_self (p : List UInt8) : rest p p = [] := by unfold rest; rw [List.drop_length]; rfl
theorem slash_not {r : List (List UInt8)} (h : OkP r) : ¬ [47] <+: J r := by
  cases r with
  | nil => rintro ⟨s, e⟩; simp [J] at e
  | cons x r =>
    have hx := h x (by simp)
    rintro ⟨s, e⟩
    cases x with
    | nil => exact part_ne hx rfl
    | cons c x =>
      simp only [J, List.cons_append, List.nil_append] at e
      injection e with e1 _
      exact part_noslash hx (by rw [← e1]; simp)
/-- A path, told by a place above it and what is left. -/
theorem jn {p x : List UInt8} (h : P p <+: P x) (hp : p ≠ []) (hr : rest p x ≠ []) : x = p ++ 47 :: rest p x := by
  have h2 := P_split h
  have h3 : P p ≠ [] := fun e => hp (P_eq_nil.1 e)
  have h4 : (P x).drop (P p).length ≠ [] := fun e => hr (by unfold rest; rw [e]; rfl)
  have := J_append (b := (P x).drop (P p).length) h3
  rw [← h2, J_P, J_P, T_J h4] at this
  exact this
theorem rest_root (x : List UInt8) : rest [] x = x := by unfold rest; rw [P_nil, List.length_nil, List.drop_zero, J_P]
end Go.Proofs.YthbdbgjggoobnaaDoor.PartsTh
/- What makes a list of nodes a tree, said of its members. -/
namespace Go.Proofs.YthbdbgjggoobnaaDoor.TreeChar
open Go.RowKit Go.Proofs.YthbdbgjggoobnaaDoorX Go.Proofs.YthbdbgjggoobnaaDoorW.PrintWords Go.Proofs.YthbdbgjggoobnaaDoorW.PrintLast Go.Proofs.YthbdbgjggoobnaaDoorW.PrintMore Go.Proofs.YthbdbgjggoobnaaDoor.P Go.Proofs.YthbdbgjggoobnaaDoor.Pa Go.Proofs.YthbdbgjggoobnaaDoor.PaTh Go.Proofs.YthbdbgjggoobnaaDoor.TreeTh Go.Proofs.YthbdbgjggoobnaaDoor.TreeUp Go.Proofs.YthbdbgjggoobnaaDoor.PartsTh
set_option linter.unusedVariables false
set_option linter.unusedSimpArgs false
/-- Is there a directory at a path, among nodes? (Any of them.) -/
def dirAny (l : List Nd) (p : List UInt8) : Bool := l.any (fun n => decide (L n.f0 = p) && decide (n.f1 = 1))
theorem dirAny_iff (l : List Nd) (p : List UInt8) : dirAny l p = true ↔ ∃ n ∈ l, L n.f0 = p ∧ n.f1 = 1 := by
  unfold dirAny
  rw [List.any_eq_true]
  constructor
  · rintro ⟨x, hx, h⟩
    rw [Bool.and_eq_true, decide_eq_true_iff, decide_eq_true_iff] at h
    exact ⟨x, hx, h⟩
  · rintro ⟨x, hx, h1, h2⟩
    exact ⟨x, hx, by rw [decide_eq_true h1, decide_eq_true h2]; rfl⟩
theorem dirAny_of {l : List Nd} (hu : up l) (p : ByteArray) : dirAny l (L p) = dirOf l p := by
  unfold dirAny dirOf
  cases hf : l.reverse.find? (fun n => n.f0.data.toList == p.data.toList) with
  | none =>
    rw [List.find?_eq_none] at hf
    rw [Bool.eq_false_iff]
    intro h
    obtain ⟨x, hx, h2⟩ := List.any_eq_true.1 h
    rw [Bool.and_eq_true, decide_eq_true_iff] at h2
    exact hf x (by simpa using hx) (beq_iff_eq.2 h2.1)
  | some n =>
    have hp := List.find?_some hf
    have hm : n ∈ l := by simpa using List.mem_of_find?_eq_some hf
    replace hp : L n.f0 = L p := beq_iff_eq.1 hp
    show _ = (n.f1 == 1)
    rw [Bool.eq_iff_iff, beq_iff_eq, List.any_eq_true]
    constructor
    · rintro ⟨x, hx, h2⟩
      rw [Bool.and_eq_true, decide_eq_true_iff, decide_eq_true_iff] at h2
      obtain ⟨i, hi, rfl⟩ := List.getElem_of_mem hx
      obtain ⟨j, hj, rfl⟩ := List.getElem_of_mem hm
      have e := up_inj hu hi hj (by rw [at_lt l i hi, at_lt l j hj, h2.1, hp])
      subst e
      exact h2.2
    · intro h
      exact ⟨n, hm, by rw [decide_eq_true hp, decide_eq_true h]; rfl⟩
theorem up_ok {t : List Nd} {j : Nat} (hj : j ≤ t.length) (h : ∀ i, i < j → okAt t i = true) : up (t.take j) := by
  have hs : ∀ i d, i + d + 1 < j → Op.bytesLess (L (at_ t i).f0) (L (at_ t (i + d + 1)).f0) = true := by
    intro i d
    induction d with
    | zero =>
      intro hi
      exact (ok_fol (h (i + 0 + 1) hi) (by omega) (by omega)).2.2.2.2.1
    | succ d ih =>
      intro hi
      exact less_trans (ih (by omega)) (ok_fol (h (i + (d + 1) + 1) hi) (by omega) (by omega)).2.2.2.2.1
  intro i m him hm
  rw [List.length_take] at hm
  obtain ⟨d, rfl⟩ : ∃ d, m = i + d + 1 := ⟨m - i - 1, by omega⟩
  rw [at_take t i j (by omega), at_take t (i + d + 1) j (by omega)]
  exact hs i d (by omega)
def lt (a b : Nd) : Prop := Op.bytesLess (L a.f0) (L b.f0) = true
theorem up_pw (t : List Nd) : up t ↔ t.Pairwise lt := by
  rw [List.pairwise_iff_getElem]
  constructor
  · intro h i j hi hj hij
    have := h i j hij hj
    rw [at_lt t i hi, at_lt t j hj] at this
    exact this
  · intro h i j hij hj
    have hi : i < t.length := by omega
    rw [at_lt t i hi, at_lt t j hj]
    exact h i j hi hj hij
theorem up_take {t : List Nd} (h : up t) (n : Nat) : up (t.take n) := (up_pw _).2 (((up_pw t).1 h).sublist (List.take_sublist _ _))
theorem at_mem {t : List Nd} {i : Nat} (h : i < t.length) : at_ t i ∈ t := by rw [at_lt t i h]; exact List.getElem_mem h
theorem mem_at {t : List Nd} {x : Nd} (h : x ∈ t) : ∃ i, i < t.length ∧ at_ t i = x := by
  obtain ⟨i, hi, rfl⟩ := List.getElem_of_mem h
  exact ⟨i, hi, at_lt t i hi⟩
theorem nil_less {b : List UInt8} (h : b ≠ []) : Op.bytesLess [] b = true := by cases b with
  | nil => exact absurd rfl h
  | cons x b => rfl
theorem less_nil (b : List UInt8) : Op.bytesLess b [] = false := by cases b <;> rfl
theorem up_mem_inj {t : List Nd} (hu : up t) {x y : Nd} (hx : x ∈ t) (hy : y ∈ t) (h : L x.f0 = L y.f0) : x = y := by
  obtain ⟨i, hi, rfl⟩ := mem_at hx
  obtain ⟨j, hj, rfl⟩ := mem_at hy
  rw [up_inj hu hi hj h]
theorem root_first {t : List Nd} (hu : up t) {x : Nd} (hx : x ∈ t) (h : L x.f0 = []) : L (at_ t 0).f0 = [] := by
  obtain ⟨i, hi, rfl⟩ := mem_at hx
  rcases Nat.eq_zero_or_pos i with rfl | h0
  · exact h
  · have := hu 0 i h0 hi
    rw [h, less_nil] at this
    cases this
/-- A tree: no more than there may be, each good, in order, the root first, each one's parent a directory among them. -/
theorem mayT_char (t : List Nd) : mayT t = true ↔ t ≠ [] ∧ t.length ≤ 400 ∧ (∀ n ∈ t, goodN n = true) ∧ up t ∧ (∃ x ∈ t, L x.f0 = []) ∧ ∀ n ∈ t, L n.f0 ≠ [] → ∃ m ∈ t, L m.f0 = dir (L n.f0) ∧ m.f1 = 1 := by
  constructor
  · intro h
    obtain ⟨h0, h1⟩ := (mayT_iff t).1 h
    obtain ⟨g0, g1, g2⟩ := mayT_good h
    have hu := up_may h
    have hr : L (at_ t 0).f0 = [] := by
      have := h1 0 (by omega)
      unfold okAt at this
      rw [Bool.and_eq_true, Bool.and_eq_true] at this
      have h2 := this.2.2
      unfold fol at h2
      rw [if_pos (by simp), decide_eq_true_iff] at h2
      exact h2
    refine ⟨g0, g1, g2, hu, ⟨_, at_mem (by omega), hr⟩, fun n hn hne => ?_⟩
    obtain ⟨i, hi, rfl⟩ := mem_at hn
    have hi0 : 1 ≤ i := by
      rcases Nat.eq_zero_or_pos i with rfl | h'
      · exact absurd hr hne
      · exact h'
    have hd := (ok_fol (h1 i hi) hi0 hi).2.2.2.2.2
    rw [← dirAny_of (up_take hu i) (mkB (dir (L (at_ t i).f0))), L_mkB, dirAny_iff] at hd
    obtain ⟨m, hm, h2⟩ := hd
    exact ⟨m, List.mem_of_mem_take hm, h2⟩
  · rintro ⟨h0, h1, h2, hu, ⟨x, hx, hxr⟩, h3⟩
    refine (mayT_iff t).2 ⟨fun e => h0 (List.eq_nil_of_length_eq_zero e), fun i hi => ?_⟩
    have hr := root_first hu hx hxr
    have hg := h2 _ (at_mem hi)
    unfold okAt
    rw [decide_eq_true (show i < 400 by omega), hg, Bool.true_and, Bool.true_and]
    unfold fol
    rw [List.length_take, Nat.min_eq_left (by omega)]
    rcases Nat.eq_zero_or_pos i with rfl | hi0
    · rw [if_pos rfl, decide_eq_true hr]
    · rw [if_neg (by omega)]
      have hne : L (at_ t i).f0 ≠ [] := fun e => by
        have := hu 0 i hi0 hi
        rw [hr, e] at this
        cases this
      have hmay : may (L (at_ t i).f0) = true := by
        unfold goodN good at hg
        rw [Bool.and_eq_true] at hg
        exact hg.1
      rw [decide_eq_true hne, hmay, at_take t (i - 1) i (by omega), hu (i - 1) i (by omega) hi, ← dirAny_of (up_take hu i) (mkB (dir (L (at_ t i).f0))), L_mkB, Bool.true_and, Bool.true_and, Bool.true_and, dirAny_iff]
      obtain ⟨m, hm, e1, e2⟩ := h3 _ (at_mem hi) hne
      obtain ⟨j, hj, rfl⟩ := mem_at hm
      have hds := dir_spec hmay hne
      have hpre : dir (L (at_ t i).f0) <+: L (at_ t i).f0 := by
        rcases hds.2.2.2.1 with e | e
        · rw [e]; exact List.nil_prefix
        · exact (List.prefix_append _ [47]).trans e
      have hji : j < i := by
        rcases Nat.lt_trichotomy j i with h | h | h
        · exact h
        · subst h
          have := hds.2.2.1
          rw [← e1] at this
          omega
        · have h4 := hu i j h hj
          rw [e1, less_prefix _ _ hpre] at h4
          cases h4
      refine ⟨at_ t j, ?_, e1, e2⟩
      rw [← at_take t j i hji]
      exact at_mem (by rw [List.length_take]; omega)
theorem good_may {n : Nd} (h : goodN n = true) : may (L n.f0) = true := by
  unfold goodN good at h
  rw [Bool.and_eq_true] at h
  exact h.1
end Go.Proofs.YthbdbgjggoobnaaDoor.TreeChar
/- What is asked of a tree's view, in plain words: Lookup, ReadDir. -/
namespace Go.Proofs.YthbdbgjggoobnaaDoor.Vw
open Go.RowKit Go.Proofs.YthbdbgjggoobnaaDoorX Go.Proofs.YthbdbgjggoobnaaDoorW.PrintWords Go.Proofs.YthbdbgjggoobnaaDoorW.PrintLast Go.Proofs.YthbdbgjggoobnaaDoorW.PrintMore Go.Proofs.YthbdbgjggoobnaaDoor.P Go.Proofs.YthbdbgjggoobnaaDoor.Pa Go.Proofs.YthbdbgjggoobnaaDoor.PaTh Go.Proofs.YthbdbgjggoobnaaDoor.TreeTh Go.Proofs.YthbdbgjggoobnaaDoor.NarTh Go.Proofs.YthbdbgjggoobnaaDoor.Im
set_option linter.unusedVariables false
set_option linter.unusedSimpArgs false
def isKid (p : ByteArray) (n : Nd) : Bool := decide (L n.f0 ≠ [] ∧ may (L n.f0) = true ∧ dir (L n.f0) = L p)
def kids (t : List Nd) (p : ByteArray) : List Nd := t.filter (isKid p)
def nameOf (n : Nd) : ByteArray := mkB (base (L n.f0))
theorem toList_L {a b : ByteArray} : a.toList = b.toList ↔ L a = L b := by rw [toL, toL]
theorem dir_l0 (t : List Nd) (ht : t.length ≤ 400) (p : ByteArray) : ∀ (f j k : Nat) (acc : List ByteArray), j + f = t.length → acc.length ≤ j → f + 1101 ≤ k →
    view_View_ReadDir.l0 k p acc (rowsOf t) ((rowsOf t).length : Int) (j : Int) = some (acc ++ ((t.drop j).filter (isKid p)).map nameOf, true) := by
  have hl := rowsOf_len t
  intro f
  induction f with
  | zero =>
    intro j k acc hj ha hk
    obtain ⟨k, rfl⟩ : ∃ m, k = m + 1 := ⟨k - 1, by omega⟩
    rw [view_View_ReadDir.l0, if_neg (by omega), List.drop_of_length_le (by omega)]; simp
  | succ f ih =>
    intro j k acc hj ha hk
    obtain ⟨k, rfl⟩ : ∃ m, k = m + 1 := ⟨k - 1, by omega⟩
    have hjl : j < t.length := by omega
    rw [view_View_ReadDir.l0, if_pos (by omega), if_pos (by omega), if_pos (by omega), rdR t j hjl]
    simp only
    rw [parent_f _ k (by omega), some_bind, (List.drop_eq_getElem_cons hjl : t.drop j = _), List.filter_cons]
    by_cases h0 : L t[j].f0 = []
    · have hk0 : isKid p t[j] = false := by unfold isKid; exact decide_eq_false (fun h => h.1 h0)
      rw [if_pos h0, hk0, w_one j (by omega)]
      simp only
      rw [if_neg (by simp), if_neg (by simp)]
      exact ih (j + 1) k acc (by omega) (by omega) (by omega)
    · rw [if_neg h0]
      by_cases hm : may (L t[j].f0) = true
      · rw [if_pos hm]
        simp only
        rw [if_pos trivial]
        by_cases hd : dir (L t[j].f0) = L p
        · have hk1 : isKid p t[j] = true := by unfold isKid; exact decide_eq_true ⟨h0, hm, hd⟩
          rw [if_pos (toList_L.2 (by rw [L_mkB, hd])), base_f _ k (by omega), some_bind, if_pos (by omega), hk1, if_pos rfl, if_pos hm, w_one j (by omega), ih (j + 1) k _ (by omega) (by rw [List.length_append, List.length_singleton]; omega) (by omega)]
          simp [nameOf]
        · have hk1 : isKid p t[j] = false := by unfold isKid; exact decide_eq_false (fun h => hd h.2.2)
          rw [if_neg (fun e => hd (by have := toList_L.1 e; rwa [L_mkB] at this)), hk1, if_neg (by simp), w_one j (by omega)]
          exact ih (j + 1) k acc (by omega) (by omega) (by omega)
      · have hk1 : isKid p t[j] = false := by unfold isKid; exact decide_eq_false (fun h => hm h.2.1)
        rw [if_neg hm, hk1, w_one j (by omega)]
        simp only
        rw [if_neg (by simp), if_neg (by simp)]
        exact ih (j + 1) k acc (by omega) (by omega) (by omega)
theorem lookup_here {t : List Nd} (h : mayT t = true) {j : Nat} (hj : j < t.length) (k : Nat) (hk : 500 ≤ k) : view_View_Lookup.f k (blksOf t) (rowsOf t) (at_ t j).f0 = some ((at_ t j).f1, ((at_ t j).f2.size : Int), true) := by
  unfold view_View_Lookup.f
  rw [find_f h _ k hk, found, firstAt_here h hj]; rfl
theorem dir_here {t : List Nd} (h : mayT t = true) {j : Nat} (hj : j < t.length) (k : Nat) (hk : 2000 ≤ k) : view_View_ReadDir.f k (blksOf t) (rowsOf t) (at_ t j).f0 = some (if (at_ t j).f1 = 1 then ((kids t (at_ t j).f0).map nameOf, true) else ([], false)) := by
  obtain ⟨h4, _⟩ := tree_sizes h
  have hd := dir_l0 t h4 (at_ t j).f0 t.length 0 (k - 1) [] (by omega) (by simp) (by omega)
  obtain ⟨k, rfl⟩ : ∃ m, k = m + 1 := ⟨k - 1, by omega⟩
  rw [Nat.add_sub_cancel, List.drop_zero, List.nil_append] at hd
  unfold view_View_ReadDir.f
  rw [find_f h _ (k + 1) (by omega), found, firstAt_here h hj]
  simp only
  rw [some_bind]
  simp only
  rw [if_pos trivial, view_View_ReadDir.j0]
  by_cases c : (at_ t j).f1 = 1
  · rw [if_neg (by rw [c]; simp), if_pos c]
    exact hd
  · rw [if_pos (by simpa using c), if_neg c]
end Go.Proofs.YthbdbgjggoobnaaDoor.Vw
