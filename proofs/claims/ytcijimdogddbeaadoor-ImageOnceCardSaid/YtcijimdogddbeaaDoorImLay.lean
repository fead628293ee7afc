/- What package image lays, in plain words: its blocks, their numbers, its bytes. -/
import Derived.Test.YtcijimdogddbeaaDoorNarTh
import Derived.Test.YtcijimdogddbeaaDoorLzTh
import Derived.Test.YtcijimdogddbeaaDoorTabGot
namespace Go.Proofs.YtcijimdogddbeaaDoor.Im
open Go.RowKit Go.Proofs.YtcijimdogddbeaaDoorX Go.Proofs.YtcijimdogddbeaaDoorW.PrintWords Go.Proofs.YtcijimdogddbeaaDoorW.PrintLast Go.Proofs.YtcijimdogddbeaaDoorW.PrintMore Go.Proofs.YtcijimdogddbeaaDoor.P Go.Proofs.YtcijimdogddbeaaDoor.Pa Go.Proofs.YtcijimdogddbeaaDoor.PaTh Go.Proofs.YtcijimdogddbeaaDoor.TreeTh Go.Proofs.YtcijimdogddbeaaDoor.NarTh
open Go.Proofs.YtcijimdogddbeaaDoor.Bs (bytesOf_inj Bytes bytesOf_bytes bytesOf_strOfNums size_bytes)
open Go.Proofs.YtcijimdogddbeaaDoor.Lz (PK PK_bytes PK_length D D_PK_nil)
open Go.Proofs.YtcijimdogddbeaaDoor.Tab (cutL cutL_inj cutL_facts Got GoodT put_some putGo_len)
set_option linter.unusedVariables false
set_option linter.unusedSimpArgs false
/-! ### sums -/
def sumB (l : List Int) (x : Int) : Int := l.foldl (fun a b => IntKind.u64.wrap ((Go.bits .xor .u64 a (IntKind.u64.wrap b)) * 1099511628211)) x
theorem sum_l1 (l : List Int) (hl : l.length ≤ 1000000) : ∀ (f j k : Nat) (x : Int), j + f = l.length → f + 3 ≤ k → sum_Of.l1 k x [l] 1 0 l (l.length : Int) (j : Int) = some (sumB (l.drop j) x) := by
  intro f
  induction f with
  | zero =>
    intro j k x hj hk
    obtain ⟨k, rfl⟩ : ∃ m, k = m + 2 := ⟨k - 2, by omega⟩
    rw [sum_Of.l1, if_neg (by omega), show wrap64 ((0 : Int) + 1) = 1 by unfold wrap64; omega, sum_Of.l0, if_neg (by omega), List.drop_of_length_le (by omega)]; rfl
  | succ f ih =>
    intro j k x hj hk
    obtain ⟨k, rfl⟩ : ∃ m, k = m + 1 := ⟨k - 1, by omega⟩
    have hjl : j < l.length := by omega
    rw [sum_Of.l1, if_pos (by omega), if_pos (by omega), if_pos (by omega), sum_Next.f, Bs.some_bind, w_one j (by omega), ih (j + 1) k _ (by omega) (by omega), (List.drop_eq_getElem_cons hjl : l.drop j = _), Tab.rd_nat l j hjl]; rfl
def sumT (s : ByteArray) : Int := sumB (bytesOf s) 14695981039346656037
theorem sum_f (s : ByteArray) (hs : s.size ≤ 1000000) (k : Nat) (hk : s.size + 5 ≤ k) : sum_Text.f k s = some (sumT s) := by
  obtain ⟨k, rfl⟩ : ∃ m, k = m + 1 := ⟨k - 1, by omega⟩
  unfold sum_Text.f sum_Of.f
  rw [if_pos (by omega), sum_Of.l0, if_pos (by simp), if_pos (by omega), if_pos (by simp)]
  have e : rd_L4 [bytesOf s] 0 = bytesOf s := rfl
  rw [e]
  exact sum_l1 (bytesOf s) (by rw [bytesOf_length]; exact hs) (bytesOf s).length 0 k _ (by omega) (by rw [bytesOf_length]; omega)
/-! ### the blocks and their numbers -/
def idsOf : List ByteArray → List Nd → List (List Int)
  | _, [] => []
  | T, n :: t => (putGo T [] (cutL n.f2)).1 :: idsOf (T ++ (putGo T [] (cutL n.f2)).2) t
def tabOf : List ByteArray → List Nd → List ByteArray
  | T, [] => T
  | T, n :: t => tabOf (T ++ (putGo T [] (cutL n.f2)).2) t
theorem parts_l0 (t : List Nd) (ht : t.length ≤ 400) (hd : ∀ n ∈ t, n.f2.size ≤ 500) (b : Bool) : ∀ (f j k : Nat) (T : List ByteArray) (acc : List (List Int)), j + f = t.length → f + 10 ≤ k → acc.length ≤ j → T.length ≤ 8 * j →
    image_parts.l0 k acc t (t.length : Int) (j : Int) T b = some (tabOf T (t.drop j), acc ++ idsOf T (t.drop j)) := by
  intro f
  induction f with
  | zero =>
    intro j k T acc hj hk ha hT
    obtain ⟨k, rfl⟩ : ∃ m, k = m + 1 := ⟨k - 1, by omega⟩
    rw [image_parts.l0, if_neg (by omega), List.drop_of_length_le (by omega), blocks_Table_All.f, slices_Clone_string_string.f, Bs.some_bind, if_pos (by simp; omega)]
    simp [tabOf, idsOf]
  | succ f ih =>
    intro j k T acc hj hk ha hT
    obtain ⟨k, rfl⟩ : ∃ m, k = m + 1 := ⟨k - 1, by omega⟩
    have hjl : j < t.length := by omega
    have hs := hd _ (List.getElem_mem hjl)
    obtain ⟨h1, h2⟩ := put_some (L := T) (b := b) (s := t[j].f2) (k := k) (by omega) (by omega) (by omega)
    rw [image_parts.l0, if_pos (by omega), if_pos (by omega), if_pos (by omega), rdN, at_lt t j hjl, h1, Bs.some_bind, if_pos (by omega), w_one j (by omega), ih (j + 1) k _ _ (by omega) (by omega) (by simp; omega) (by show (T ++ _).length ≤ _; omega), (List.drop_eq_getElem_cons hjl : t.drop j = _), tabOf, idsOf, List.append_assoc]; rfl
theorem parts_f (t : List Nd) (ht : t.length ≤ 400) (hd : ∀ n ∈ t, n.f2.size ≤ 500) (k : Nat) (hk : 500 ≤ k) : image_parts.f k t = some (tabOf [] t, idsOf [] t) := by
  unfold image_parts.f
  rw [blocks_New.f, Bs.some_bind]
  exact parts_l0 t ht hd _ t.length 0 k [] [] (by omega) (by omega) (by simp) (by simp)
theorem tab_pre : ∀ (t : List Nd) (T : List ByteArray), ∃ G, tabOf T t = T ++ G
  | [], T => ⟨[], by simp [tabOf]⟩
  | n :: t, T => by
    obtain ⟨G, h⟩ := tab_pre t (T ++ (putGo T [] (cutL n.f2)).2)
    exact ⟨_, by rw [tabOf, h, List.append_assoc]⟩
theorem tab_good : ∀ (t : List Nd) (T : List ByteArray), GoodT T → GoodT (tabOf T t)
  | [], T, h => h
  | n :: t, T, h => tab_good t _ (h.put n.f2)
theorem tab_len : ∀ (t : List Nd) (T : List ByteArray), (∀ n ∈ t, n.f2.size ≤ 500) → (tabOf T t).length ≤ T.length + 8 * t.length
  | [], T, _ => by simp [tabOf]
  | n :: t, T, h => by
    have := tab_len t (T ++ (putGo T [] (cutL n.f2)).2) (fun x hx => h x (List.mem_cons_of_mem _ hx))
    obtain ⟨G, h1, h2⟩ := Tab.putGo_pre T (cutL n.f2) []
    have hf := (cutL_facts _ n.f2 (Nat.le_refl _)).2.1
    have hs := h n List.mem_cons_self
    rw [h1, List.length_append, List.nil_append] at this
    rw [tabOf, h1, List.nil_append, List.length_cons]
    omega
theorem ids_len : ∀ (t : List Nd) (T : List ByteArray), (idsOf T t).length = t.length
  | [], T => rfl
  | n :: t, T => by rw [idsOf, List.length_cons, List.length_cons, ids_len t]
theorem ids_got : ∀ (t : List Nd) (T : List ByteArray), ∀ p ∈ t.zip (idsOf T t), Got (tabOf T t) p.2 (cutL p.1.f2)
  | [], T, p, h => by simp at h
  | n :: t, T, p, h => by
    rw [idsOf, List.zip_cons_cons] at h
    rw [tabOf]
    rcases List.mem_cons.1 h with rfl | h
    · obtain ⟨G, e⟩ := tab_pre t (T ++ (putGo T [] (cutL n.f2)).2)
      rw [e]
      exact (Got.of T (cutL n.f2)).more
    · exact ids_got t _ p h
end Go.Proofs.YtcijimdogddbeaaDoor.Im
/- The bytes that image.Lay lays, in plain words. -/
namespace Go.Proofs.YtcijimdogddbeaaDoor.Im
open Go.RowKit Go.Proofs.YtcijimdogddbeaaDoorX Go.Proofs.YtcijimdogddbeaaDoorW.PrintWords Go.Proofs.YtcijimdogddbeaaDoorW.PrintLast Go.Proofs.YtcijimdogddbeaaDoorW.PrintMore Go.Proofs.YtcijimdogddbeaaDoor.P Go.Proofs.YtcijimdogddbeaaDoor.Pa Go.Proofs.YtcijimdogddbeaaDoor.PaTh Go.Proofs.YtcijimdogddbeaaDoor.TreeTh Go.Proofs.YtcijimdogddbeaaDoor.NarTh
open Go.Proofs.YtcijimdogddbeaaDoor.Bs (bytesOf_inj Bytes bytesOf_bytes bytesOf_strOfNums size_bytes)
open Go.Proofs.YtcijimdogddbeaaDoor.Lz (PK PK_bytes PK_length D D_PK_nil)
open Go.Proofs.YtcijimdogddbeaaDoor.Tab (cutL cutL_inj cutL_facts Got GoodT put_some putGo_len)
set_option linter.unusedVariables false
set_option linter.unusedSimpArgs false
def pk (b : ByteArray) : ByteArray := strOfNums (PK (bytesOf b))
theorem pk_bytes (b : ByteArray) : bytesOf (pk b) = PK (bytesOf b) := bytesOf_strOfNums (PK_bytes _ (bytesOf_bytes b))
theorem pk_inj {a b : ByteArray} (h : pk a = pk b) : a = b := by
  have e : PK (bytesOf a) = PK (bytesOf b) := by rw [← pk_bytes, ← pk_bytes, h]
  have := D_PK_nil (bytesOf a) []
  rw [e, D_PK_nil, List.nil_append, List.nil_append] at this
  exact (bytesOf_inj (Option.some.inj this)).symm
theorem pk_size (b : ByteArray) : (pk b).size ≤ b.size + (b.size + 127) / 128 := by
  rw [size_bytes, pk_bytes]
  have := PK_length (bytesOf b)
  rwa [bytesOf_length] at this
def blkE (b : ByteArray) : List Int := enc8 (b.size : Int) ++ (enc8 ((pk b).size : Int) ++ enc8 (wrap64 (sumT b)))
def ndE (p : Nd × List Int) : List Int := encT p.1.f0 ++ (enc8 p.1.f1 ++ (enc8 (p.1.f2.size : Int) ++ (enc8 (p.2.length : Int) ++ p.2.flatMap enc8)))
def imark : ByteArray := ⟨#[105, 109, 97, 103, 101]⟩
def imgB (T : List ByteArray) (z : List (Nd × List Int)) : List Int := encT imark ++ (enc8 (T.length : Int) ++ (T.flatMap blkE ++ (enc8 (z.length : Int) ++ (z.flatMap ndE ++ T.flatMap (fun b => bytesOf (pk b))))))
theorem blkE_len (b : ByteArray) : (blkE b).length = 24 := by unfold blkE; rw [List.length_append, List.length_append, enc8_len, enc8_len, enc8_len]
theorem ids_enc_len (l : List Int) : (l.flatMap enc8).length = 8 * l.length := by
  induction l with
  | nil => rfl
  | cons x l ih => rw [List.flatMap_cons, List.length_append, enc8_len, ih, List.length_cons]; omega
theorem lay_l2 (ids : List (List Int)) (pkd : List Int) (t : List Nd) (n j : Int) (l : List Int) (hl : l.length ≤ 1000) : ∀ (f i k : Nat) (acc : List Int), i + f = l.length → 9 ≤ k → acc.length ≤ 1000000000 + 8 * i →
    image_Lay.l2 (k + f + 1) ids acc pkd t n j l (l.length : Int) (i : Int) = image_Lay.l1 k ids (acc ++ (l.drop i).flatMap enc8) pkd t n (wrap64 (j + 1)) := by
  intro f
  induction f with
  | zero =>
    intro i k acc hi hk ha
    rw [Nat.add_zero, image_Lay.l2, if_neg (by omega), List.drop_of_length_le (by omega), List.flatMap_nil, List.append_nil]
  | succ f ih =>
    intro i k acc hi hk ha
    have hil : i < l.length := by omega
    rw [image_Lay.l2, if_pos (by omega), if_pos (by omega), if_pos (by omega), num_f acc (by omega) _ (k + (f + 1)) (by omega), Bs.some_bind, w_one i (by omega), show k + (f + 1) = k + f + 1 by omega, ih (i + 1) k _ (by omega) hk (by rw [List.length_append, enc8_len]; omega), (List.drop_eq_getElem_cons hil : l.drop i = _), List.flatMap_cons, Tab.rd_nat l i hil, List.append_assoc]
theorem lay_l1 (t : List Nd) (ids : List (List Int)) (pkd : List Int) (ht : t.length ≤ 400) (hids : ids.length = t.length) (hg : ∀ n ∈ t, n.f0.size ≤ 300 ∧ n.f2.size ≤ 500) (hi8 : ∀ l ∈ ids, l.length ≤ 8) (hp : pkd.length ≤ 1000000) :
    ∀ (f j k : Nat) (acc : List Int), j + f = t.length → 12 * f + 20 ≤ k → acc.length ≤ 1000000 + 1000 * j →
    image_Lay.l1 k ids acc pkd t (t.length : Int) (j : Int) = some (acc ++ (((t.drop j).zip (ids.drop j)).flatMap ndE ++ pkd), 0) := by
  intro f
  induction f with
  | zero =>
    intro j k acc hj hk ha
    obtain ⟨k, rfl⟩ : ∃ m, k = m + 1 := ⟨k - 1, by omega⟩
    rw [image_Lay.l1, if_neg (by omega), if_pos (by omega), List.drop_of_length_le (by omega), List.zip_nil_left, List.flatMap_nil, List.nil_append]
  | succ f ih =>
    intro j k acc hj hk ha
    have hjl : j < t.length := by omega
    have hji : j < ids.length := by omega
    obtain ⟨h1, h2⟩ := hg _ (List.getElem_mem hjl)
    have h3 := hi8 _ (List.getElem_mem hji)
    obtain ⟨k, rfl⟩ : ∃ m, k = m + ids[j].length + 1 + 1 := ⟨k - ids[j].length - 2, by omega⟩
    have hL : rd_L10 ids (j : Int) = ids[j] := by unfold rd_L10; rw [Int.toNat_natCast, List.getD_eq_getElem?_getD, List.getElem?_eq_getElem hji]; rfl
    have a1 := encT_len t[j].f0
    rw [image_Lay.l1, if_pos (by omega), if_pos (by omega), if_pos (by omega), rdN, at_lt t j hjl, hL, text_f acc (by omega) _ (by omega) _ (by omega), Bs.some_bind, num_f _ (by rw [List.length_append]; omega) _ _ (by omega), Bs.some_bind, num_f _ (by rw [List.length_append, List.length_append, enc8_len]; omega) _ _ (by omega), Bs.some_bind, if_pos (by omega), num_f _ (by rw [List.length_append, List.length_append, List.length_append, enc8_len, enc8_len]; omega) _ _ (by omega), Bs.some_bind]
    have := lay_l2 ids pkd t (t.length : Int) (j : Int) ids[j] (by omega) ids[j].length 0 k (acc ++ encT t[j].f0 ++ enc8 t[j].f1 ++ enc8 (t[j].f2.size : Int) ++ enc8 (ids[j].length : Int)) (by omega) (by omega) (by rw [List.length_append, List.length_append, List.length_append, List.length_append, enc8_len, enc8_len, enc8_len]; omega)
    rw [show ((0 : Nat) : Int) = 0 from rfl] at this
    rw [this, w_one j (by omega), ih (j + 1) k _ (by omega) (by omega) (by rw [List.length_append, List.length_append, List.length_append, List.length_append, List.length_append, enc8_len, enc8_len, enc8_len, List.drop_zero, ids_enc_len]; omega), (List.drop_eq_getElem_cons hjl : t.drop j = _), (List.drop_eq_getElem_cons hji : ids.drop j = _), List.zip_cons_cons, List.flatMap_cons, List.drop_zero]
    unfold ndE
    simp only [List.append_assoc]
theorem lay_l0 (t : List Nd) (ids : List (List Int)) (T : List ByteArray) (ht : t.length ≤ 400) (hids : ids.length = t.length) (hg : ∀ n ∈ t, n.f0.size ≤ 300 ∧ n.f2.size ≤ 500) (hi8 : ∀ l ∈ ids, l.length ≤ 8) (hT : T.length ≤ 4000) (hb : ∀ b ∈ T, b.size ≤ 64) :
    ∀ (f j k : Nat) (acc pkd : List Int), j + f = T.length → f + 12 * t.length + 1000 ≤ k → acc.length ≤ 100 + 24 * j → pkd.length ≤ 65 * j →
    image_Lay.l0 k t ids acc pkd T (T.length : Int) (j : Int) = some (acc ++ ((T.drop j).flatMap blkE ++ (enc8 (t.length : Int) ++ ((t.zip ids).flatMap ndE ++ (pkd ++ (T.drop j).flatMap (fun b => bytesOf (pk b)))))), 0) := by
  intro f
  induction f with
  | zero =>
    intro j k acc pkd hj hk ha hp
    obtain ⟨k, rfl⟩ : ∃ m, k = m + 1 := ⟨k - 1, by omega⟩
    rw [image_Lay.l0, if_neg (by omega), num_f acc (by omega) _ k (by omega), Bs.some_bind, show (0 : Int) = ((0 : Nat) : Int) from rfl, lay_l1 t ids pkd ht hids hg hi8 (by omega) t.length 0 k _ (by omega) (by omega) (by rw [List.length_append, enc8_len]; omega), List.drop_of_length_le (by omega : T.length ≤ j)]
    simp
  | succ f ih =>
    intro j k acc pkd hj hk ha hp
    obtain ⟨k, rfl⟩ : ∃ m, k = m + 1 := ⟨k - 1, by omega⟩
    have hjl : j < T.length := by omega
    have hs := hb _ (List.getElem_mem hjl)
    have hpk := pk_size T[j]
    rw [image_Lay.l0, if_pos (by omega), if_pos (by omega), if_pos (by omega), Tab.rdOf_nat T j hjl, PTh.pack_f T[j] (by omega) k (by omega), Bs.some_bind, num_f acc (by omega) _ k (by omega), Bs.some_bind]
    show ((nar_Num.f k _ ((pk T[j]).size : Int)).bind _) = _
    rw [num_f _ (by rw [List.length_append, enc8_len]; omega) _ k (by omega), Bs.some_bind, sum_f T[j] (by omega) k (by omega), Bs.some_bind, num_f _ (by rw [List.length_append, List.length_append, enc8_len, enc8_len]; omega) _ k (by omega), Bs.some_bind]
    have hz : pkd.length + (strOfNums (PK (bytesOf T[j]))).size < 140737488355328 := by show pkd.length + (pk T[j]).size < _; omega
    rw [if_pos hz, w_one j (by omega), ih (j + 1) k _ _ (by omega) (by omega) (by rw [List.length_append, List.length_append, List.length_append, enc8_len, enc8_len, enc8_len]; omega) (by show (pkd ++ bytesOf (pk T[j])).length ≤ _; rw [List.length_append, bytesOf_length]; omega), (List.drop_eq_getElem_cons hjl : T.drop j = _), List.flatMap_cons, List.flatMap_cons]
    show some (acc ++ enc8 (T[j].size : Int) ++ enc8 ((pk T[j]).size : Int) ++ enc8 (wrap64 (sumT T[j])) ++ _, (0 : Int)) = some (acc ++ (enc8 (T[j].size : Int) ++ (enc8 ((pk T[j]).size : Int) ++ enc8 (wrap64 (sumT T[j]))) ++ _ ++ _), (0 : Int))
    simp only [List.append_assoc]; rfl
theorem ids_8 (t : List Nd) (T : List ByteArray) (h : ∀ n ∈ t, n.f2.size ≤ 500) : ∀ l ∈ idsOf T t, l.length ≤ 8 := by
  induction t generalizing T with
  | nil => intro l hl; simp [idsOf] at hl
  | cons n t ih =>
    intro l hl
    rw [idsOf] at hl
    rcases List.mem_cons.1 hl with rfl | hl
    · rw [putGo_len, (cutL_facts _ n.f2 (Nat.le_refl _)).2.1]
      have := h n List.mem_cons_self
      omega
    · exact ih _ (fun x hx => h x (List.mem_cons_of_mem _ hx)) l hl
/-- What Lay answers. -/
def imgOf (t : List Nd) : List Int := imgB (tabOf [] t) (t.zip (idsOf [] t))
theorem goodT_nil : GoodT [] := ⟨List.nodup_nil, fun p hp => by cases hp⟩
theorem tree_sizes {t : List Nd} (h : mayT t = true) : t.length ≤ 400 ∧ ∀ n ∈ t, n.f0.size ≤ 200 ∧ n.f2.size ≤ 400 := by
  obtain ⟨_, h4, hg⟩ := mayT_good h
  refine ⟨h4, fun n hn => ?_⟩
  obtain ⟨h1, h2, _⟩ := goodN_size (hg n hn)
  rw [← size_L] at h1 h2
  exact ⟨h1, h2⟩
theorem lay_f (t : List Nd) (ht : t.length ≤ 1000000) (k : Nat) (hk : 10000 ≤ k) : image_Lay.f k t = some (if mayT t = true then (imgOf t, 0) else ([], 7)) := by
  unfold image_Lay.f
  rw [mayT_f t ht k (by omega), Bs.some_bind]
  by_cases h : mayT t = true
  · obtain ⟨h4, hg⟩ := tree_sizes h
    have hd : ∀ n ∈ t, n.f2.size ≤ 500 := fun n hn => by have := (hg n hn).2; omega
    have hm : imark.size = 5 := rfl
    have hml := encT_len imark
    have hT := tab_len t [] hd
    rw [List.length_nil] at hT
    rw [if_pos h, if_pos h, parts_f t h4 hd k (by omega), Bs.some_bind]
    show ((nar_Text.f k ([] : List Int) imark).bind _) = _
    rw [text_f [] (by simp) imark (by omega) k (by omega), Bs.some_bind, num_f _ (by rw [List.nil_append]; omega) _ k (by omega), Bs.some_bind, show (0 : Int) = ((0 : Nat) : Int) from rfl]
    rw [lay_l0 t (idsOf [] t) (tabOf [] t) h4 (ids_len t []) (fun n hn => by have := hg n hn; omega) (ids_8 t [] hd) (by omega) (fun b hb => ((tab_good t [] goodT_nil).2 b hb).2) (tabOf [] t).length 0 k _ _ (by omega) (by omega) (by rw [List.nil_append, List.length_append, enc8_len]; omega) (by simp)]
    refine congrArg some (congrArg (·, 0) ?_)
    have hz : (t.zip (idsOf [] t)).length = t.length := by rw [List.length_zip, ids_len]; omega
    unfold imgOf imgB
    rw [hz]
    simp
  · rw [if_neg h, if_neg h]
end Go.Proofs.YtcijimdogddbeaaDoor.Im
