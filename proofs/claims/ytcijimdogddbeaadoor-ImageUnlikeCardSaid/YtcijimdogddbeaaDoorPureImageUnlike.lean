/- What package image lays, in plain words: its blocks, their numbers, its bytes. -/
import Derived.Test.YtcijimdogddbeaaDoorNarTh
import Derived.Test.YtcijimdogddbeaaDoorLzTh
import Derived.Test.YtcijimdogddbeaaDoorTabGot
namespace Go.Proofs.YtcijimdogddbeaaDoor.Im
open Go.RowKit Go.Proofs.YtcijimdogddbeaaDoorX Go.Proofs.YtcijimdogddbeaaDoorW.PrintWords Go.Proofs.YtcijimdogddbeaaDoorW.PrintLast Go.Proofs.YtcijimdogddbeaaDoorW.PrintMore Go.Proofs.YtcijimdogddbeaaDoor.P Go.Proofs.YtcijimdogddbeaaDoor.Pa Go.Proofs.YtcijimdogddbeaaDoor.PaTh Go.Proofs.YtcijimdogddbeaaDoor.TreeTh Go.Proofs.YtcijimdogddbeaaDoor.NarTh
open Go.Proofs.YtcijimdogddbeaaDoor.Bs (bytesOf_inj Bytes bytesOf_bytes bytesOf_strOfNums size_bytes)
open Go.Proofs.YtcijimdogddbeaaDoor.Lz (PK PK_bytes PK_length D D_PK_nil)
open Go.Proofs.YtcijimdogddbeaaDoor.Tab (cutL cutL_inj cutL_facts Got GoodT put_some putGo_len)
set_option linter.unusedVariables false
set_option linter.unusedSimpArgs false
/-! ### sums -/
def sumB (l : List Int) (x : Int) : Int := l.foldl (fun a b => IntKind.u64.wrap ((Go.bits .xor .u64 a (IntKind.u64.wrap b)) * 1099511628211)) x
theorem sum_l1 (l : List Int) (hl : l.length ≤ 1000000) : ∀ (f j k : Nat) (x : Int), j + f = l.length → f + 3 ≤ k → sum_Of.l1 k x [l] 1 0 l (l.length : Int) (j : Int) = some (sumB (l.drop j) x) := by
  intro f
  induction f with
  | zero =>
    intro j k x hj hk
    obtain ⟨k, rfl⟩ : ∃ m, k = m + 2 := ⟨k - 2, by omega⟩
    rw [sum_Of.l1, if_neg (by omega), show wrap64 ((0 : Int) + 1) = 1 by unfold wrap64; omega, sum_Of.l0, if_neg (by omega), List.drop_of_length_le (by omega)]; rfl
  | succ f ih =>
    intro j k x hj hk
    obtain ⟨k, rfl⟩ : ∃ m, k = m + 1 := ⟨k - 1, by omega⟩
    have hjl : j < l.length := by omega
    rw [sum_Of.l1, if_pos (by omega), if_pos (by omega), if_pos (by omega), sum_Next.f, Bs.some_bind, w_one j (by omega), ih (j + 1) k _ (by omega) (by omega), (List.drop_eq_getElem_cons hjl : l.drop j = _), Tab.rd_nat l j hjl]; rfl
def sumT (s : ByteArray) : Int := sumB (bytesOf s) 14695981039346656037
theorem sum_f (s : ByteArray) (hs : s.size ≤ 1000000) (k : Nat) (hk : s.size + 5 ≤ k) : sum_Text.f k s = some (sumT s) := by
  obtain ⟨k, rfl⟩ : ∃ m, k = m + 1 := ⟨k - 1, by omega⟩
  unfold sum_Text.f sum_Of.f
  rw [if_pos (by omega), sum_Of.l0, if_pos (by simp), if_pos (by omega), if_pos (by simp)]
  have e : rd_L4 [bytesOf s] 0 = bytesOf s := rfl
  rw [e]
  exact sum_l1 (bytesOf s) (by rw [bytesOf_length]; exact hs) (bytesOf s).length 0 k _ (by omega) (by rw [bytesOf_length]; omega)
/-! ### the blocks and their numbers -/
def idsOf : List ByteArray → List Nd → List (List Int)
  | _, [] => []
  | T, n :: t => (putGo T [] (cutL n.f2)).1 :: idsOf (T ++ (putGo T [] (cutL n.f2)).2) t
def tabOf : List ByteArray → List Nd → List ByteArray
  | T, [] => T
  | T, n :: t => tabOf (T ++ (putGo T [] (cutL n.f2)).2) t
theorem parts_l0 (t : List Nd) (ht : t.length ≤ 400) (hd : ∀ n ∈ t, n.f2.size ≤ 500) (b : Bool) : ∀ (f j k : Nat) (T : List ByteArray) (acc : List (List Int)), j + f = t.length → f + 10 ≤ k → acc.length ≤ j → T.length ≤ 8 * j →
    image_parts.l0 k acc t (t.length : Int) (j : Int) T b = some (tabOf T (t.drop j), acc ++ idsOf T (t.drop j)) := by
  intro f
  induction f with
  | zero =>
    intro j k T acc hj hk ha hT
    obtain ⟨k, rfl⟩ : ∃ m, k = m + 1 := ⟨k - 1, by omega⟩
    rw [image_parts.l0, if_neg (by omega), List.drop_of_length_le (by omega), blocks_Table_All.f, slices_Clone_string_string.f, Bs.some_bind, if_pos (by simp; omega)]
    simp [tabOf, idsOf]
  | succ f ih =>
    intro j k T acc hj hk ha hT
    obtain ⟨k, rfl⟩ : ∃ m, k = m + 1 := ⟨k - 1, by omega⟩
    have hjl : j < t.length := by omega
    have hs := hd _ (List.getElem_mem hjl)
    obtain ⟨h1, h2⟩ := put_some (L := T) (b := b) (s := t[j].f2) (k := k) (by omega) (by omega) (by omega)
    rw [image_parts.l0, if_pos (by omega), if_pos (by omega), if_pos (by omega), rdN, at_lt t j hjl, h1, Bs.some_bind, if_pos (by omega), w_one j (by omega), ih (j + 1) k _ _ (by omega) (by omega) (by simp; omega) (by show (T ++ _).length ≤ _; omega), (List.drop_eq_getElem_cons hjl : t.drop j = _), tabOf, idsOf, List.append_assoc]; rfl
theorem parts_f (t : List Nd) (ht : t.length ≤ 400) (hd : ∀ n ∈ t, n.f2.size ≤ 500) (k : Nat) (hk : 500 ≤ k) : image_parts.f k t = some (tabOf [] t, idsOf [] t) := by
  unfold image_parts.f
  rw [blocks_New.f, Bs.some_bind]
  exact parts_l0 t ht hd _ t.length 0 k [] [] (by omega) (by omega) (by simp) (by simp)
theorem tab_pre : ∀ (t : List Nd) (T : List ByteArray), ∃ G, tabOf T t = T ++ G
  | [], T => ⟨[], by simp [tabOf]⟩
  | n :: t, T => by
    obtain ⟨G, h⟩ := tab_pre t (T ++ (putGo T [] (cutL n.f2)).2)
    exact ⟨_, by rw [tabOf, h, List.append_assoc]⟩
theorem tab_good : ∀ (t : List Nd) (T : List ByteArray), GoodT T → GoodT (tabOf T t)
  | [], T, h => h
  | n :: t, T, h => tab_good t _ (h.put n.f2)
theorem tab_len : ∀ (t : List Nd) (T : List ByteArray), (∀ n ∈ t, n.f2.size ≤ 500) → (tabOf T t).length ≤ T.length + 8 * t.length
  | [], T, _ => by simp [tabOf]
  | n :: t, T, h => by
    have := tab_len t (T ++ (putGo T [] (cutL n.f2)).2) (fun x hx => h x (List.mem_cons_of_mem _ hx))
    obtain ⟨G, h1, h2⟩ := Tab.putGo_pre T (cutL n.f2) []
    have hf := (cutL_facts _ n.f2 (Nat.le_refl _)).2.1
    have hs := h n List.mem_cons_self
    rw [h1, List.length_append, List.nil_append] at this
    rw [tabOf, h1, List.nil_append, List.length_cons]
    omega
theorem ids_len : ∀ (t : List Nd) (T : List ByteArray), (idsOf T t).length = t.length
  | [], T => rfl
  | n :: t, T => by rw [idsOf, List.length_cons, List.length_cons, ids_len t]
theorem ids_got : ∀ (t : List Nd) (T : List ByteArray), ∀ p ∈ t.zip (idsOf T t), Got (tabOf T t) p.2 (cutL p.1.f2)
  | [], T, p, h => by simp at h
  | n :: t, T, p, h => by
    rw [idsOf, List.zip_cons_cons] at h
    rw [tabOf]
    rcases List.mem_cons.1 h with rfl | h
    · obtain ⟨G, e⟩ := tab_pre t (T ++ (putGo T [] (cutL n.f2)).2)
      rw [e]
      exact (Got.of T (cutL n.f2)).more
    · exact ids_got t _ p h
end Go.Proofs.YtcijimdogddbeaaDoor.Im
/- The bytes that image.Lay lays, in plain words. -/
namespace Go.Proofs.YtcijimdogddbeaaDoor.Im
open Go.RowKit Go.Proofs.YtcijimdogddbeaaDoorX Go.Proofs.YtcijimdogddbeaaDoorW.PrintWords Go.Proofs.YtcijimdogddbeaaDoorW.PrintLast Go.Proofs.YtcijimdogddbeaaDoorW.PrintMore Go.Proofs.YtcijimdogddbeaaDoor.P Go.Proofs.YtcijimdogddbeaaDoor.Pa Go.Proofs.YtcijimdogddbeaaDoor.PaTh Go.Proofs.YtcijimdogddbeaaDoor.TreeTh Go.Proofs.YtcijimdogddbeaaDoor.NarTh
open Go.Proofs.YtcijimdogddbeaaDoor.Bs (bytesOf_inj Bytes bytesOf_bytes bytesOf_strOfNums size_bytes)
open Go.Proofs.YtcijimdogddbeaaDoor.Lz (PK PK_bytes PK_length D D_PK_nil)
open Go.Proofs.YtcijimdogddbeaaDoor.Tab (cutL cutL_inj cutL_facts Got GoodT put_some putGo_len)
set_option linter.unusedVariables false
set_option linter.unusedSimpArgs false
def pk (b : ByteArray) : ByteArray := strOfNums (PK (bytesOf b))
theorem pk_bytes (b : ByteArray) : bytesOf (pk b) = PK (bytesOf b) := bytesOf_strOfNums (PK_bytes _ (bytesOf_bytes b))
theorem pk_inj {a b : ByteArray} (h : pk a = pk b) : a = b := by
  have e : PK (bytesOf a) = PK (bytesOf b) := by rw [← pk_bytes, ← pk_bytes, h]
  have := D_PK_nil (bytesOf a) []
  rw [e, D_PK_nil, List.nil_append, List.nil_append] at this
  exact (bytesOf_inj (Option.some.inj this)).symm
theorem pk_size (b : ByteArray) : (pk b).size ≤ b.size + (b.size + 127) / 128 := by
  rw [size_bytes, pk_bytes]
  have := PK_length (bytesOf b)
  rwa [bytesOf_length] at this
def blkE (b : ByteArray) : List Int := enc8 (b.size : Int) ++ (enc8 ((pk b).size : Int) ++ enc8 (wrap64 (sumT b)))
def ndE (p : Nd × List Int) : List Int := encT p.1.f0 ++ (enc8 p.1.f1 ++ (enc8 (p.1.f2.size : Int) ++ (enc8 (p.2.length : Int) ++ p.2.flatMap enc8)))
def imark : ByteArray := ⟨#[105, 109, 97, 103, 101]⟩
def imgB (T : List ByteArray) (z : List (Nd × List Int)) : List Int := encT imark ++ (enc8 (T.length : Int) ++ (T.flatMap blkE ++ (enc8 (z.length : Int) ++ (z.flatMap ndE ++ T.flatMap (fun b => bytesOf (pk b))))))
theorem blkE_len (b : ByteArray) : (blkE b).length = 24 := by unfold blkE; rw [List.length_append, List.length_append, enc8_len, enc8_len, enc8_len]
theorem ids_enc_len (l : List Int) : (l.flatMap enc8).length = 8 * l.length := by
  induction l with
  | nil => rfl
  | cons x l ih => rw [List.flatMap_cons, List.length_append, enc8_len, ih, List.length_cons]; omega
theorem lay_l2 (ids : List (List Int)) (pkd : List Int) (t : List Nd) (n j : Int) (l : List Int) (hl : l.length ≤ 1000) : ∀ (f i k : Nat) (acc : List Int), i + f = l.length → 9 ≤ k → acc.length ≤ 1000000000 + 8 * i →
    image_Lay.l2 (k + f + 1) ids acc pkd t n j l (l.length : Int) (i : Int) = image_Lay.l1 k ids (acc ++ (l.drop i).flatMap enc8) pkd t n (wrap64 (j + 1)) := by
  intro f
  induction f with
  | zero =>
    intro i k acc hi hk ha
    rw [Nat.add_zero, image_Lay.l2, if_neg (by omega), List.drop_of_length_le (by omega), List.flatMap_nil, List.append_nil]
  | succ f ih =>
    intro i k acc hi hk ha
    have hil : i < l.length := by omega
    rw [image_Lay.l2, if_pos (by omega), if_pos (by omega), if_pos (by omega), num_f acc (by omega) _ (k + (f + 1)) (by omega), Bs.some_bind, w_one i (by omega), show k + (f + 1) = k + f + 1 by omega, ih (i + 1) k _ (by omega) hk (by rw [List.length_append, enc8_len]; omega), (List.drop_eq_getElem_cons hil : l.drop i = _), List.flatMap_cons, Tab.rd_nat l i hil, List.append_assoc]
theorem lay_l1 (t : List Nd) (ids : List (List Int)) (pkd : List Int) (ht : t.length ≤ 400) (hids : ids.length = t.length) (hg : ∀ n ∈ t, n.f0.size ≤ 300 ∧ n.f2.size ≤ 500) (hi8 : ∀ l ∈ ids, l.length ≤ 8) (hp : pkd.length ≤ 1000000) :
    ∀ (f j k : Nat) (acc : List Int), j + f = t.length → 12 * f + 20 ≤ k → acc.length ≤ 1000000 + 1000 * j →
    image_Lay.l1 k ids acc pkd t (t.length : Int) (j : Int) = some (acc ++ (((t.drop j).zip (ids.drop j)).flatMap ndE ++ pkd), 0) := by
  intro f
  induction f with
  | zero =>
    intro j k acc hj hk ha
    obtain ⟨k, rfl⟩ : ∃ m, k = m + 1 := ⟨k - 1, by omega⟩
    rw [image_Lay.l1, if_neg (by omega), if_pos (by omega), List.drop_of_length_le (by omega), List.zip_nil_left, List.flatMap_nil, List.nil_append]
  | succ f ih =>
    intro j k acc hj hk ha
    have hjl : j < t.length := by omega
    have hji : j < ids.length := by omega
    obtain ⟨h1, h2⟩ := hg _ (List.getElem_mem hjl)
    have h3 := hi8 _ (List.getElem_mem hji)
    obtain ⟨k, rfl⟩ : ∃ m, k = m + ids[j].length + 1 + 1 := ⟨k - ids[j].length - 2, by omega⟩
    have hL : rd_L10 ids (j : Int) = ids[j] := by unfold rd_L10; rw [Int.toNat_natCast, List.getD_eq_getElem?_getD, List.getElem?_eq_getElem hji]; rfl
    have a1 := encT_len t[j].f0
    rw [image_Lay.l1, if_pos (by omega), if_pos (by omega), if_pos (by omega), rdN, at_lt t j hjl, hL, text_f acc (by omega) _ (by omega) _ (by omega), Bs.some_bind, num_f _ (by rw [List.length_append]; omega) _ _ (by omega), Bs.some_bind, num_f _ (by rw [List.length_append, List.length_append, enc8_len]; omega) _ _ (by omega), Bs.some_bind, if_pos (by omega), num_f _ (by rw [List.length_append, List.length_append, List.length_append, enc8_len, enc8_len]; omega) _ _ (by omega), Bs.some_bind]
    have := lay_l2 ids pkd t (t.length : Int) (j : Int) ids[j] (by omega) ids[j].length 0 k (acc ++ encT t[j].f0 ++ enc8 t[j].f1 ++ enc8 (t[j].f2.size : Int) ++ enc8 (ids[j].length : Int)) (by omega) (by omega) (by rw [List.length_append, List.length_append, List.length_append, List.length_append, enc8_len, enc8_len, enc8_len]; omega)
    rw [show ((0 : Nat) : Int) = 0 from rfl] at this
    rw [this, w_one j (by omega), ih (j + 1) k _ (by omega) (by omega) (by rw [List.length_append, List.length_append, List.length_append, List.length_append, List.length_append, enc8_len, enc8_len, enc8_len, List.drop_zero, ids_enc_len]; omega), (List.drop_eq_getElem_cons hjl : t.drop j = _), (List.drop_eq_getElem_cons hji : ids.drop j = _), List.zip_cons_cons, List.flatMap_cons, List.drop_zero]
    unfold ndE
    simp only [List.append_assoc]
theorem lay_l0 (t : List Nd) (ids : List (List Int)) (T : List ByteArray) (ht : t.length ≤ 400) (hids : ids.length = t.length) (hg : ∀ n ∈ t, n.f0.size ≤ 300 ∧ n.f2.size ≤ 500) (hi8 : ∀ l ∈ ids, l.length ≤ 8) (hT : T.length ≤ 4000) (hb : ∀ b ∈ T, b.size ≤ 64) :
    ∀ (f j k : Nat) (acc pkd : List Int), j + f = T.length → f + 12 * t.length + 1000 ≤ k → acc.length ≤ 100 + 24 * j → pkd.length ≤ 65 * j →
    image_Lay.l0 k t ids acc pkd T (T.length : Int) (j : Int) = some (acc ++ ((T.drop j).flatMap blkE ++ (enc8 (t.length : Int) ++ ((t.zip ids).flatMap ndE ++ (pkd ++ (T.drop j).flatMap (fun b => bytesOf (pk b)))))), 0) := by
  intro f
  induction f with
  | zero =>
    intro j k acc pkd hj hk ha hp
    obtain ⟨k, rfl⟩ : ∃ m, k = m + 1 := ⟨k - 1, by omega⟩
    rw [image_Lay.l0, if_neg (by omega), num_f acc (by omega) _ k (by omega), Bs.some_bind, show (0 : Int) = ((0 : Nat) : Int) from rfl, lay_l1 t ids pkd ht hids hg hi8 (by omega) t.length 0 k _ (by omega) (by omega) (by rw [List.length_append, enc8_len]; omega), List.drop_of_length_le (by omega : T.length ≤ j)]
    simp
  | succ f ih =>
    intro j k acc pkd hj hk ha hp
    obtain ⟨k, rfl⟩ : ∃ m, k = m + 1 := ⟨k - 1, by omega⟩
    have hjl : j < T.length := by omega
    have hs := hb _ (List.getElem_mem hjl)
    have hpk := pk_size T[j]
    rw [image_Lay.l0, if_pos (by omega), if_pos (by omega), if_pos (by omega), Tab.rdOf_nat T j hjl, PTh.pack_f T[j] (by omega) k (by omega), Bs.some_bind, num_f acc (by omega) _ k (by omega), Bs.some_bind]
    show ((nar_Num.f k _ ((pk T[j]).size : Int)).bind _) = _
    rw [num_f _ (by rw [List.length_append, enc8_len]; omega) _ k (by omega), Bs.some_bind, sum_f T[j] (by omega) k (by omega), Bs.some_bind, num_f _ (by rw [List.length_append, List.length_append, enc8_len, enc8_len]; omega) _ k (by omega), Bs.some_bind]
    have hz : pkd.length + (strOfNums (PK (bytesOf T[j]))).size < 140737488355328 := by show pkd.length + (pk T[j]).size < _; omega
    rw [if_pos hz, w_one j (by omega), ih (j + 1) k _ _ (by omega) (by omega) (by rw [List.length_append, List.length_append, List.length_append, enc8_len, enc8_len, enc8_len]; omega) (by show (pkd ++ bytesOf (pk T[j])).length ≤ _; rw [List.length_append, bytesOf_length]; omega), (List.drop_eq_getElem_cons hjl : T.drop j = _), List.flatMap_cons, List.flatMap_cons]
    show some (acc ++ enc8 (T[j].size : Int) ++ enc8 ((pk T[j]).size : Int) ++ enc8 (wrap64 (sumT T[j])) ++ _, (0 : Int)) = some (acc ++ (enc8 (T[j].size : Int) ++ (enc8 ((pk T[j]).size : Int) ++ enc8 (wrap64 (sumT T[j]))) ++ _ ++ _), (0 : Int))
    simp only [List.append_assoc]; rfl
theorem ids_8 (t : List Nd) (T : List ByteArray) (h : ∀ n ∈ t, n.f2.size ≤ 500) : ∀ l ∈ idsOf T t, l.length ≤ 8 := by
  induction t generalizing T with
  | nil => intro l hl; simp [idsOf] at hl
  | cons n t ih =>
    intro l hl
    rw [idsOf] at hl
    rcases List.mem_cons.1 hl with rfl | hl
    · rw [putGo_len, (cutL_facts _ n.f2 (Nat.le_refl _)).2.1]
      have := h n List.mem_cons_self
      omega
    · exact ih _ (fun x hx => h x (List.mem_cons_of_mem _ hx)) l hl
/-- What Lay answers. -/
def imgOf (t : List Nd) : List Int := imgB (tabOf [] t) (t.zip (idsOf [] t))
theorem goodT_nil : GoodT [] := ⟨List.nodup_nil, fun p hp => by cases hp⟩
theorem tree_sizes {t : List Nd} (h : mayT t = true) : t.length ≤ 400 ∧ ∀ n ∈ t, n.f0.size ≤ 200 ∧ n.f2.size ≤ 400 := by
  obtain ⟨_, h4, hg⟩ := mayT_good h
  refine ⟨h4, fun n hn => ?_⟩
  obtain ⟨h1, h2, _⟩ := goodN_size (hg n hn)
  rw [← size_L] at h1 h2
  exact ⟨h1, h2⟩
theorem lay_f (t : List Nd) (ht : t.length ≤ 1000000) (k : Nat) (hk : 10000 ≤ k) : image_Lay.f k t = some (if mayT t = true then (imgOf t, 0) else ([], 7)) := by
  unfold image_Lay.f
  rw [mayT_f t ht k (by omega), Bs.some_bind]
  by_cases h : mayT t = true
  · obtain ⟨h4, hg⟩ := tree_sizes h
    have hd : ∀ n ∈ t, n.f2.size ≤ 500 := fun n hn => by have := (hg n hn).2; omega
    have hm : imark.size = 5 := rfl
    have hml := encT_len imark
    have hT := tab_len t [] hd
    rw [List.length_nil] at hT
    rw [if_pos h, if_pos h, parts_f t h4 hd k (by omega), Bs.some_bind]
    show ((nar_Text.f k ([] : List Int) imark).bind _) = _
    rw [text_f [] (by simp) imark (by omega) k (by omega), Bs.some_bind, num_f _ (by rw [List.nil_append]; omega) _ k (by omega), Bs.some_bind, show (0 : Int) = ((0 : Nat) : Int) from rfl]
    rw [lay_l0 t (idsOf [] t) (tabOf [] t) h4 (ids_len t []) (fun n hn => by have := hg n hn; omega) (ids_8 t [] hd) (by omega) (fun b hb => ((tab_good t [] goodT_nil).2 b hb).2) (tabOf [] t).length 0 k _ _ (by omega) (by omega) (by rw [List.nil_append, List.length_append, enc8_len]; omega) (by simp)]
    refine congrArg some (congrArg (·, 0) ?_)
    have hz : (t.zip (idsOf [] t)).length = t.length := by rw [List.length_zip, ids_len]; omega
    unfold imgOf imgB
    rw [hz]
    simp
  · rw [if_neg h, if_neg h]
end Go.Proofs.YtcijimdogddbeaaDoor.Im
/- One image, one tree: what is laid tells the blocks and the nodes. -/
namespace Go.Proofs.YtcijimdogddbeaaDoor.Im
open Go.RowKit Go.Proofs.YtcijimdogddbeaaDoorX Go.Proofs.YtcijimdogddbeaaDoorW.PrintWords Go.Proofs.YtcijimdogddbeaaDoorW.PrintLast Go.Proofs.YtcijimdogddbeaaDoorW.PrintMore Go.Proofs.YtcijimdogddbeaaDoor.P Go.Proofs.YtcijimdogddbeaaDoor.Pa Go.Proofs.YtcijimdogddbeaaDoor.PaTh Go.Proofs.YtcijimdogddbeaaDoor.TreeTh Go.Proofs.YtcijimdogddbeaaDoor.NarTh
open Go.Proofs.YtcijimdogddbeaaDoor.Bs (bytesOf_inj Bytes bytesOf_bytes bytesOf_strOfNums size_bytes)
open Go.Proofs.YtcijimdogddbeaaDoor.Tab (cutL cutL_inj cutL_facts Got GoodT put_some putGo_len)
set_option linter.unusedVariables false
set_option linter.unusedSimpArgs false
theorem enc8_inj {a b : Int} (ha : 0 ≤ a) (ha' : a < 4611686018427387904) (hb : 0 ≤ b) (hb' : b < 4611686018427387904) (h : enc8 a = enc8 b) : a = b := by
  rw [enc8_list a ha ha', enc8_list b hb hb'] at h
  simp only [List.cons.injEq, and_true] at h
  obtain ⟨h0, h1, h2, h3, h4, h5, h6, h7⟩ := h
  have q (n : Int) : n / 72057594037927936 % 256 = n / 72057594037927936 - 256 * (n / 72057594037927936 / 256) := by omega
  omega
theorem enc8_cut {a b : Int} {x y : List Int} (ha : 0 ≤ a) (ha' : a < 4611686018427387904) (hb : 0 ≤ b) (hb' : b < 4611686018427387904) (h : enc8 a ++ x = enc8 b ++ y) : a = b ∧ x = y := by
  obtain ⟨h1, h2⟩ := List.append_inj h (by rw [enc8_len, enc8_len])
  exact ⟨enc8_inj ha ha' hb hb' h1, h2⟩
theorem encT_cut {a b : ByteArray} {x y : List Int} (ha : a.size ≤ 1000000000) (hb : b.size ≤ 1000000000) (h : encT a ++ x = encT b ++ y) : a = b ∧ x = y := by
  unfold encT at h
  rw [List.append_assoc, List.append_assoc, List.append_assoc, List.append_assoc] at h
  obtain ⟨h1, h2⟩ := enc8_cut (by omega) (by omega) (by omega) (by omega) h
  obtain ⟨h3, h4⟩ := List.append_inj h2 (by rw [bytesOf_length, bytesOf_length]; omega)
  have e := bytesOf_inj h3
  subst e
  exact ⟨rfl, List.append_cancel_left h4⟩
theorem blk_cut {a b : ByteArray} {x y : List Int} (ha : a.size ≤ 64) (hb : b.size ≤ 64) (h : blkE a ++ x = blkE b ++ y) : (pk a).size = (pk b).size ∧ x = y := by
  obtain ⟨h1, h2⟩ := List.append_inj h (by rw [blkE_len, blkE_len])
  unfold blkE at h1
  have p1 := pk_size a
  have p2 := pk_size b
  obtain ⟨h3, h4⟩ := enc8_cut (by omega) (by omega) (by omega) (by omega) h1
  obtain ⟨h5, _⟩ := enc8_cut (by omega) (by omega) (by omega) (by omega) h4
  exact ⟨by omega, h2⟩
/-- The heads of the blocks tell how long each is, packed. -/
theorem blks_cut : ∀ (T U : List ByteArray) (x y : List Int), T.length = U.length → (∀ b ∈ T, b.size ≤ 64) → (∀ b ∈ U, b.size ≤ 64) → T.flatMap blkE ++ x = U.flatMap blkE ++ y → T.map (fun b => (pk b).size) = U.map (fun b => (pk b).size) ∧ x = y
  | [], [], x, y, _, _, _, h => ⟨rfl, h⟩
  | [], _ :: _, _, _, h, _, _, _ => by simp at h
  | _ :: _, [], _, _, h, _, _, _ => by simp at h
  | a :: T, b :: U, x, y, hl, ha, hb, h => by
    rw [List.flatMap_cons, List.flatMap_cons, List.append_assoc, List.append_assoc] at h
    obtain ⟨h1, h2⟩ := blk_cut (ha a List.mem_cons_self) (hb b List.mem_cons_self) h
    obtain ⟨h3, h4⟩ := blks_cut T U x y (by simpa using hl) (fun c hc => ha c (List.mem_cons_of_mem _ hc)) (fun c hc => hb c (List.mem_cons_of_mem _ hc)) h2
    exact ⟨by rw [List.map_cons, List.map_cons, h1, h3], h4⟩
/-- Packed bytes, of known lengths, tell the blocks. -/
theorem pks_cut : ∀ (T U : List ByteArray), T.map (fun b => (pk b).size) = U.map (fun b => (pk b).size) → T.flatMap (fun b => bytesOf (pk b)) = U.flatMap (fun b => bytesOf (pk b)) → T = U
  | [], [], _, _ => rfl
  | [], _ :: _, h, _ => by simp at h
  | _ :: _, [], h, _ => by simp at h
  | a :: T, b :: U, h, h' => by
    rw [List.map_cons, List.map_cons, List.cons.injEq] at h
    rw [List.flatMap_cons, List.flatMap_cons] at h'
    obtain ⟨h1, h2⟩ := List.append_inj h' (by rw [bytesOf_length, bytesOf_length]; exact h.1)
    rw [pk_inj (bytesOf_inj h1), pks_cut T U h.2 h2]
theorem idl_cut : ∀ (l m : List Int) (x y : List Int), l.length = m.length → (∀ i ∈ l, 0 ≤ i ∧ i < 4611686018427387904) → (∀ i ∈ m, 0 ≤ i ∧ i < 4611686018427387904) → l.flatMap enc8 ++ x = m.flatMap enc8 ++ y → l = m ∧ x = y
  | [], [], x, y, _, _, _, h => ⟨rfl, h⟩
  | [], _ :: _, _, _, h, _, _, _ => by simp at h
  | _ :: _, [], _, _, h, _, _, _ => by simp at h
  | a :: l, b :: m, x, y, hl, ha, hb, h => by
    rw [List.flatMap_cons, List.flatMap_cons, List.append_assoc, List.append_assoc] at h
    have p1 := ha a List.mem_cons_self
    have p2 := hb b List.mem_cons_self
    obtain ⟨h1, h2⟩ := enc8_cut p1.1 p1.2 p2.1 p2.2 h
    obtain ⟨h3, h4⟩ := idl_cut l m x y (by simpa using hl) (fun c hc => ha c (List.mem_cons_of_mem _ hc)) (fun c hc => hb c (List.mem_cons_of_mem _ hc)) h2
    exact ⟨by rw [h1, h3], h4⟩
/-- What a node's row is made of. -/
def GoodZ (p : Nd × List Int) : Prop := p.1.f0.size ≤ 1000 ∧ 1 ≤ p.1.f1 ∧ p.1.f1 ≤ 4 ∧ p.1.f2.size ≤ 1000 ∧ p.2.length ≤ 1000 ∧ ∀ i ∈ p.2, 0 ≤ i ∧ i < 4611686018427387904
theorem nd_cut {p q : Nd × List Int} {x y : List Int} (hp : GoodZ p) (hq : GoodZ q) (h : ndE p ++ x = ndE q ++ y) : (p.1.f0 = q.1.f0 ∧ p.1.f1 = q.1.f1 ∧ p.2 = q.2) ∧ x = y := by
  obtain ⟨a1, a2, a3, a4, a5, a6⟩ := hp
  obtain ⟨b1, b2, b3, b4, b5, b6⟩ := hq
  unfold ndE at h
  simp only [List.append_assoc] at h
  obtain ⟨h1, h⟩ := encT_cut (by omega) (by omega) h
  obtain ⟨h2, h⟩ := enc8_cut (by omega) (by omega) (by omega) (by omega) h
  obtain ⟨h3, h⟩ := enc8_cut (by omega) (by omega) (by omega) (by omega) h
  obtain ⟨h4, h⟩ := enc8_cut (by omega) (by omega) (by omega) (by omega) h
  obtain ⟨h5, h⟩ := idl_cut _ _ _ _ (by omega) a6 b6 h
  exact ⟨⟨h1, h2, h5⟩, h⟩
theorem nds_cut : ∀ (z v : List (Nd × List Int)) (x y : List Int), z.length = v.length → (∀ p ∈ z, GoodZ p) → (∀ p ∈ v, GoodZ p) → z.flatMap ndE ++ x = v.flatMap ndE ++ y → z.map (fun p => (p.1.f0, p.1.f1, p.2)) = v.map (fun p => (p.1.f0, p.1.f1, p.2)) ∧ x = y
  | [], [], x, y, _, _, _, h => ⟨rfl, h⟩
  | [], _ :: _, _, _, h, _, _, _ => by simp at h
  | _ :: _, [], _, _, h, _, _, _ => by simp at h
  | a :: T, b :: U, x, y, hl, ha, hb, h => by
    rw [List.flatMap_cons, List.flatMap_cons, List.append_assoc, List.append_assoc] at h
    obtain ⟨⟨h1, h2, h5⟩, h⟩ := nd_cut (ha a List.mem_cons_self) (hb b List.mem_cons_self) h
    obtain ⟨h3, h4⟩ := nds_cut T U x y (by simpa using hl) (fun c hc => ha c (List.mem_cons_of_mem _ hc)) (fun c hc => hb c (List.mem_cons_of_mem _ hc)) h
    exact ⟨by rw [List.map_cons, List.map_cons, h1, h2, h5, h3], h4⟩
end Go.Proofs.YtcijimdogddbeaaDoor.Im
/- The plain law behind ImageUnlike. -/
namespace Go.Proofs.YtcijimdogddbeaaDoor.Pure
open Go.RowKit Go.Proofs.YtcijimdogddbeaaDoorX Go.Proofs.YtcijimdogddbeaaDoorW.PrintWords Go.Proofs.YtcijimdogddbeaaDoorW.PrintLast Go.Proofs.YtcijimdogddbeaaDoorW.PrintMore Go.Proofs.YtcijimdogddbeaaDoor.P Go.Proofs.YtcijimdogddbeaaDoor.Pa Go.Proofs.YtcijimdogddbeaaDoor.PaTh Go.Proofs.YtcijimdogddbeaaDoor.TreeTh Go.Proofs.YtcijimdogddbeaaDoor.NarTh Go.Proofs.YtcijimdogddbeaaDoor.Im
open Go.Proofs.YtcijimdogddbeaaDoor.Bs (bytesOf_inj Bytes bytesOf_bytes bytesOf_strOfNums size_bytes)
open Go.Proofs.YtcijimdogddbeaaDoor.Tab (cutL cutL_inj cutL_facts Got GoodT put_some putGo_len)
set_option linter.unusedVariables false
set_option linter.unusedSimpArgs false
set_option maxRecDepth 100000 in
theorem awake_3000 : hogsheadlaw19_awake.f 3000 = some true := by decide +kernel
theorem awake_f (k : Nat) (hk : 3000 ≤ k) : hogsheadlaw19_awake.f k = some true := at_rounds (g := fun k => hogsheadlaw19_awake.f k) hogsheadlaw19_awake.mono hk awake_3000
theorem got_small {T : List ByteArray} {l : List Int} {ps : List ByteArray} (hT : T.length ≤ 1000000) (h : Got T l ps) : ∀ i ∈ l, 0 ≤ i ∧ i < 4611686018427387904 := by
  intro i hi
  obtain ⟨j, hj, e⟩ := List.getElem_of_mem hi
  obtain ⟨i', h1, h2⟩ := h.2 j (by rw [← h.1]; exact hj)
  rw [List.getElem?_eq_getElem hj, e] at h1
  have e2 := Option.some.inj h1
  rw [List.getElem?_eq_getElem (show j < ps.length by rw [← h.1]; exact hj)] at h2
  have := (List.getElem?_eq_some_iff.1 h2).1
  omega
theorem goodZ {t : List Nd} (h : mayT t = true) : ∀ p ∈ t.zip (idsOf [] t), GoodZ p := by
  intro p hp
  obtain ⟨h4, hg⟩ := tree_sizes h
  have hm := (List.of_mem_zip (a := p.1) (b := p.2) hp)
  have hgt := ids_got t [] p hp
  obtain ⟨s1, s2⟩ := hg _ hm.1
  have hT := tab_len t [] (fun n hn => by have := (hg n hn).2; omega)
  rw [List.length_nil] at hT
  have h8 := ids_8 t [] (fun n hn => by have := (hg n hn).2; omega) _ hm.2
  obtain ⟨_, _, k1, k2⟩ := goodN_size ((mayT_good h).2.2 _ hm.1)
  exact ⟨by omega, k1, k2, by omega, by omega, got_small (by omega) hgt⟩
/-- Rows with the same path, kind and numbers, over one table, are of one list of nodes. -/
theorem rows_nodes (T : List ByteArray) : ∀ (z v : List (Nd × List Int)), (∀ p ∈ z, Got T p.2 (cutL p.1.f2)) → (∀ p ∈ v, Got T p.2 (cutL p.1.f2)) → z.map (fun p => (p.1.f0, p.1.f1, p.2)) = v.map (fun p => (p.1.f0, p.1.f1, p.2)) → z.map (·.1) = v.map (·.1)
  | [], [], _, _, _ => rfl
  | [], _ :: _, _, _, h => by simp at h
  | _ :: _, [], _, _, h => by simp at h
  | a :: z, b :: v, ha, hb, h => by
    rw [List.map_cons, List.map_cons, List.cons.injEq] at h
    obtain ⟨h1, h2⟩ := h
    have e0 : a.1.f0 = b.1.f0 := congrArg (·.1) h1
    have e1 : a.1.f1 = b.1.f1 := congrArg (·.2.1) h1
    have e2 : a.2 = b.2 := congrArg (·.2.2) h1
    have g1 := ha a List.mem_cons_self
    have g2 := hb b List.mem_cons_self
    rw [e2] at g1
    have e3 := cutL_inj (g1.texts g2)
    rw [List.map_cons, List.map_cons, Nd_ext e0 e1 e3, rows_nodes T z v (fun c hc => ha c (List.mem_cons_of_mem _ hc)) (fun c hc => hb c (List.mem_cons_of_mem _ hc)) h2]
theorem zip_fst (t : List Nd) : (t.zip (idsOf [] t)).map (·.1) = t := by rw [List.map_fst_zip (by rw [ids_len]; exact Nat.le_refl _)]
theorem img_one {t u : List Nd} (ht : mayT t = true) (hu : mayT u = true) (h : imgOf t = imgOf u) : t = u := by
  obtain ⟨t4, tg⟩ := tree_sizes ht
  obtain ⟨u4, ug⟩ := tree_sizes hu
  have tT := tab_len t [] (fun n hn => by have := (tg n hn).2; omega)
  have uT := tab_len u [] (fun n hn => by have := (ug n hn).2; omega)
  rw [List.length_nil] at tT uT
  have tG := (tab_good t [] goodT_nil).2
  have uG := (tab_good u [] goodT_nil).2
  unfold imgOf imgB at h
  have h := List.append_cancel_left h
  obtain ⟨h1, h⟩ := enc8_cut (by omega) (by omega) (by omega) (by omega) h
  obtain ⟨h2, h⟩ := blks_cut _ _ _ _ (by omega) (fun b hb => (tG b hb).2) (fun b hb => (uG b hb).2) h
  have tz : (t.zip (idsOf [] t)).length = t.length := by rw [List.length_zip, ids_len]; omega
  have uz : (u.zip (idsOf [] u)).length = u.length := by rw [List.length_zip, ids_len]; omega
  obtain ⟨h3, h⟩ := enc8_cut (by omega) (by omega) (by omega) (by omega) h
  obtain ⟨h4, h⟩ := nds_cut _ _ _ _ (by omega) (goodZ ht) (goodZ hu) h
  have hT := pks_cut _ _ h2 h
  have gt := ids_got t []
  have gu := ids_got u []
  rw [← hT] at gu
  have := rows_nodes _ _ _ gt gu h4
  rwa [zip_fst, zip_fst] at this
theorem img_len {t : List Nd} (h : mayT t = true) : (imgOf t).length ≤ 1000000 ∧ 0 < (imgOf t).length := by
  obtain ⟨t4, tg⟩ := tree_sizes h
  have tT := tab_len t [] (fun n hn => by have := (tg n hn).2; omega)
  rw [List.length_nil] at tT
  have tG := (tab_good t [] goodT_nil).2
  have tz : (t.zip (idsOf [] t)).length = t.length := by rw [List.length_zip, ids_len]; omega
  have f1 : ∀ T : List ByteArray, (T.flatMap blkE).length = 24 * T.length := fun T => by
    induction T with
    | nil => rfl
    | cons b T ih => rw [List.flatMap_cons, List.length_append, blkE_len, ih, List.length_cons]; omega
  have f2 : ∀ T : List ByteArray, (∀ b ∈ T, b.size ≤ 64) → (T.flatMap (fun b => bytesOf (pk b))).length ≤ 65 * T.length := fun T => by
    induction T with
    | nil => intro _; simp
    | cons b T ih =>
      intro hb
      have := ih (fun c hc => hb c (List.mem_cons_of_mem _ hc))
      have h1 := hb b List.mem_cons_self
      have h2 := pk_size b
      rw [List.flatMap_cons, List.length_append, bytesOf_length, List.length_cons]; omega
  have f3 : ∀ z : List (Nd × List Int), (∀ p ∈ z, p.1.f0.size ≤ 200 ∧ p.2.length ≤ 8) → (z.flatMap ndE).length ≤ 1000 * z.length := fun z => by
    induction z with
    | nil => intro _; simp
    | cons p z ih =>
      intro hb
      have := ih (fun c hc => hb c (List.mem_cons_of_mem _ hc))
      have h1 := hb p List.mem_cons_self
      have h2 := encT_len p.1.f0
      have h3 : (ndE p).length ≤ 1000 := by
        unfold ndE
        rw [List.length_append, List.length_append, List.length_append, List.length_append, enc8_len, enc8_len, enc8_len, ids_enc_len]; omega
      rw [List.flatMap_cons, List.length_append, List.length_cons]; omega
  have p2 := f2 (tabOf [] t) (fun b hb => (tG b hb).2)
  have p3 := f3 (t.zip (idsOf [] t)) (fun p hp => by
    have hm := (List.of_mem_zip (a := p.1) (b := p.2) hp)
    exact ⟨(tg _ hm.1).1, ids_8 t [] (fun n hn => by have := (tg n hn).2; omega) _ hm.2⟩)
  have hm : imark.size = 5 := rfl
  have hml := encT_len imark
  unfold imgOf imgB
  rw [List.length_append, List.length_append, List.length_append, List.length_append, List.length_append, enc8_len, enc8_len, f1]
  omega
theorem ImageUnlike : hogsheadlaw19_ImageUnlike.Pure := by
  intro l0 l1 h0 h1
  have hlen0 : l0.length ≤ 9223372036854775807 := h0.1
  have hlen1 : l1.length ≤ 9223372036854775807 := h1.1
  refine ⟨2000001, ?_⟩
  have jt : ∀ (x y : List Nd) k, 3000 ≤ k → hogsheadlaw19_ImageUnlike.j0 (k + 1) x y true = some true := fun x y k hk => by
    rw [hogsheadlaw19_ImageUnlike.j0, if_pos rfl, awake_f k hk]; rfl
  unfold hogsheadlaw19_ImageUnlike.f
  rw [show (30 : Int) = ((30 : Nat) : Int) from rfl, great_f l0 30 (by omega) hlen0 _ (by omega), Bs.some_bind]
  by_cases g0 : great l0 30 = true
  · rw [if_pos g0, jt _ _ _ (by omega)]
  rw [if_neg g0, great_f l1 30 (by omega) hlen1 _ (by omega), Bs.some_bind]
  by_cases g1 : great l1 30 = true
  · rw [if_pos g1, jt _ _ _ (by omega)]
  rw [if_neg g1]
  obtain ⟨n0, _⟩ := great_not g0
  obtain ⟨n1, _⟩ := great_not g1
  rw [mayT_f l0 (by omega) _ (by omega), Bs.some_bind]
  by_cases m0 : mayT l0 = true
  case neg => rw [if_neg m0, jt _ _ _ (by omega)]
  rw [if_pos m0, mayT_f l1 (by omega) _ (by omega), Bs.some_bind]
  by_cases m1 : mayT l1 = true
  case neg => rw [Bool.not_eq_true] at m1; rw [m1, Bool.not_false, jt _ _ _ (by omega)]
  rw [m1, Bool.not_true, hogsheadlaw19_ImageUnlike.j0, if_neg (by simp), lay_f l0 (by omega) _ (by omega), if_pos m0, Bs.some_bind, lay_f l1 (by omega) _ (by omega), if_pos m1, Bs.some_bind]
  have q0 := img_len m0
  have q1 := img_len m1
  rw [if_pos rfl, if_pos rfl]
  show ((hogsheadlaw0_SameBytes.f 2000000 (imgOf l0) (imgOf l1)).bind _) = _
  rw [sameB_f _ _ q0.1 _ (by omega), Bs.some_bind, sameN_f l0 l1 (by omega) _ (by omega), Bs.some_bind]
  have e : (decide (imgOf l0 = imgOf l1) == sameN l0 l1) = true := by
    by_cases h : l0 = l1
    · subst h; rw [decide_eq_true rfl, sameN_self]; rfl
    · rw [decide_eq_false (fun e => h (img_one m0 m1 e)), (Bool.eq_false_iff.2 (fun e => h ((sameN_iff _ _).1 e)) : sameN l0 l1 = false)]; rfl
  rw [if_pos e, if_pos (by show ((imgOf l0).length : Int) > 0; omega), awake_f _ (by omega)]; rfl
end Go.Proofs.YtcijimdogddbeaaDoor.Pure
