/- The laws' marks in a list of rows and in a list of writes: what they leave, as lists. -/
import Derived.Test.YtmjafclpeknpcaaNestPre
namespace Go.Proofs.Ytmjafclpeknpcaa
open Go.ChangeShapes Go.WideShapes Go.ChangeAt Go.RowKit Go.Deep
def mkRows : Int → List (List Int) → List (List Int)
  | _, [] => []
  | k, r :: rs => seqI k r.length :: mkRows (k + r.length) rs
theorem lenSum_cons (r : List Int) (rs : List (List Int)) : lenSum (r :: rs) = r.length + lenSum rs := by simp [lenSum]
theorem lenSum_nil : lenSum [] = 0 := rfl
theorem length_mkRows : ∀ (k : Int) (K : List (List Int)), (mkRows k K).length = K.length
  | _, [] => rfl
  | k, r :: rs => by simp [mkRows, length_mkRows _ rs]
theorem mkRows_at : ∀ {k : Int} {K : List (List Int)} {i : Nat} (hi : i < K.length), (mkRows k K)[i]? = some (seqI (k + lenSum (K.take i)) K[i].length)
  | k, [], i, hi => by simp at hi
  | k, r :: rs, 0, _ => by simp [mkRows, lenSum_nil]
  | k, r :: rs, i + 1, hi => by
    have h := mkRows_at (k := k + r.length) (K := rs) (i := i) (by simpa using hi)
    simp only [mkRows, List.getElem?_cons_succ, List.take_succ_cons, lenSum_cons, List.getElem_cons_succ]
    rw [h]
    congr 2
    push_cast
    omega
theorem lenSum_mkRows : ∀ (k : Int) (K : List (List Int)), lenSum (mkRows k K) = lenSum K
  | _, [] => rfl
  | k, r :: rs => by rw [mkRows, lenSum_cons, lenSum_cons, lenSum_mkRows _ rs, length_seqI]
def mixR (k : Int) (K : List (List Int)) (q : Nat) : List (List Int) := (mkRows k K).take q ++ K.drop q
theorem mixR_zero (k : Int) (K : List (List Int)) : mixR k K 0 = K := by simp [mixR]
theorem mixR_all (k : Int) (K : List (List Int)) : mixR k K K.length = mkRows k K := by
  unfold mixR
  rw [List.drop_length, List.append_nil, List.take_of_length_le (by rw [length_mkRows]; exact Nat.le_refl _)]
theorem length_mixR (k : Int) (K : List (List Int)) {q : Nat} (hq : q ≤ K.length) : (mixR k K q).length = K.length := by simp [mixR, length_mkRows]; omega
theorem mixR_at {k : Int} {K : List (List Int)} {q : Nat} (hq : q < K.length) : (mixR k K q)[q]? = some K[q] := by
  unfold mixR
  rw [List.getElem?_append_right (by rw [List.length_take, length_mkRows]; omega), List.length_take, length_mkRows, Nat.min_eq_left (by omega), Nat.sub_self, List.getElem?_drop, Nat.add_zero]
  exact List.getElem?_eq_getElem hq
theorem mixR_succ {k : Int} {K : List (List Int)} {q : Nat} (hq : q < K.length) : (mixR k K q).set q (seqI (k + lenSum (K.take q)) K[q].length) = mixR k K (q + 1) := by
  have hl : ((mkRows k K).take q).length = q := by rw [List.length_take, length_mkRows]; omega
  have hq2 : q < (mkRows k K).length := by rw [length_mkRows]; exact hq
  have h2 := mkRows_at (k := k) hq
  rw [List.getElem?_eq_getElem hq2] at h2
  unfold mixR
  rw [List.set_append_right _ _ (by omega), hl, Nat.sub_self, List.drop_eq_getElem_cons hq, List.set_cons_zero, List.take_succ_eq_append_getElem hq2, Option.some.inj h2, List.append_assoc]
  rfl
def mkWrites : Int → List (Int × List Int) → List (Int × List Int)
  | _, [] => []
  | k, w :: ws => (k, seqI (k + 1) w.2.length) :: mkWrites (k + 1 + w.2.length) ws
/-- how much the first q writes are counted -/
def szW (W : List (Int × List Int)) : Nat := W.length + lenSum (wrows W)
theorem szW_cons (w : Int × List Int) (ws : List (Int × List Int)) : szW (w :: ws) = 1 + w.2.length + szW ws := by
  simp only [szW, wrows, List.map_cons, lenSum_cons, List.length_cons]; omega
theorem szW_take {W : List (Int × List Int)} {k : Nat} (hk : k < W.length) : szW (W.take (k + 1)) = szW (W.take k) + 1 + W[k].2.length := by
  induction W generalizing k with
  | nil => simp at hk
  | cons w ws ih =>
    cases k with
    | zero => simp [szW, wrows, lenSum]
    | succ k =>
      have h := ih (k := k) (by simpa using hk)
      rw [List.take_succ_cons, szW_cons, h, List.take_succ_cons, szW_cons, List.getElem_cons_succ]
      omega
theorem szW_le (W : List (Int × List Int)) (k : Nat) : szW (W.take k) ≤ szW W := by
  have h := lenSum_le (wrows W) k
  unfold szW
  have e : wrows (W.take k) = (wrows W).take k := by simp [wrows, List.map_take]
  rw [e, List.length_take]
  omega
theorem length_mkWrites : ∀ (k : Int) (W : List (Int × List Int)), (mkWrites k W).length = W.length
  | _, [] => rfl
  | k, r :: rs => by simp [mkWrites, length_mkWrites _ rs]
theorem mkWrites_at : ∀ {k : Int} {W : List (Int × List Int)} {i : Nat} (hi : i < W.length), (mkWrites k W)[i]? = some (k + szW (W.take i), seqI (k + szW (W.take i) + 1) W[i].2.length)
  | k, [], i, hi => by simp at hi
  | k, r :: rs, 0, _ => by simp [mkWrites, szW, wrows, lenSum]
  | k, r :: rs, i + 1, hi => by
    have h := mkWrites_at (k := k + 1 + r.2.length) (W := rs) (i := i) (by simpa using hi)
    simp only [mkWrites, List.getElem?_cons_succ, List.take_succ_cons, szW_cons, List.getElem_cons_succ]
    rw [h]
    have e : k + 1 + (r.2.length : Int) + (szW (List.take i rs) : Int) = k + ((1 + r.2.length + szW (List.take i rs) : Nat) : Int) := by push_cast; omega
    rw [e]
def mixW (k : Int) (W : List (Int × List Int)) (q : Nat) : List (Int × List Int) := (mkWrites k W).take q ++ W.drop q
theorem mixW_zero (k : Int) (W : List (Int × List Int)) : mixW k W 0 = W := by simp [mixW]
theorem mixW_all (k : Int) (W : List (Int × List Int)) : mixW k W W.length = mkWrites k W := by
  unfold mixW
  rw [List.drop_length, List.append_nil, List.take_of_length_le (by rw [length_mkWrites]; exact Nat.le_refl _)]
theorem length_mixW (k : Int) (W : List (Int × List Int)) {q : Nat} (hq : q ≤ W.length) : (mixW k W q).length = W.length := by simp [mixW, length_mkWrites]; omega
theorem mixW_at {k : Int} {W : List (Int × List Int)} {q : Nat} (hq : q < W.length) : (mixW k W q)[q]? = some W[q] := by
  unfold mixW
  rw [List.getElem?_append_right (by rw [List.length_take, length_mkWrites]; omega), List.length_take, length_mkWrites, Nat.min_eq_left (by omega), Nat.sub_self, List.getElem?_drop, Nat.add_zero]
  exact List.getElem?_eq_getElem hq
theorem mixW_succ {k : Int} {W : List (Int × List Int)} {q : Nat} (hq : q < W.length) : (mixW k W q).set q (k + szW (W.take q), seqI (k + szW (W.take q) + 1) W[q].2.length) = mixW k W (q + 1) := by
  have hl : ((mkWrites k W).take q).length = q := by rw [List.length_take, length_mkWrites]; omega
  have hq2 : q < (mkWrites k W).length := by rw [length_mkWrites]; exact hq
  have h2 := mkWrites_at (k := k) hq
  rw [List.getElem?_eq_getElem hq2] at h2
  unfold mixW
  rw [List.set_append_right _ _ (by omega), hl, Nat.sub_self, List.drop_eq_getElem_cons hq, List.set_cons_zero, List.take_succ_eq_append_getElem hq2, Option.some.inj h2, List.append_assoc]
  rfl
end Go.Proofs.Ytmjafclpeknpcaa
