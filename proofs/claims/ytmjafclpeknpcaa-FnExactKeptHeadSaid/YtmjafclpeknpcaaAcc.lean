/- Numbers collected from a slice, element by element. -/
import Derived.Test.YtmjafclpeknpcaaReg
namespace Go.Proofs.Ytmjafclpeknpcaa
open Go.RowKit
section
variable {α : Type}
def accL (pre : List Int) (f : α → List Int) (l : List α) (k : Nat) : List Int := pre ++ (l.take k).flatMap f
theorem accL_zero (pre : List Int) (f : α → List Int) (l : List α) : accL pre f l 0 = pre := by simp [accL]
theorem accL_succ (pre : List Int) (f : α → List Int) (l : List α) {k : Nat} (hk : k < l.length) : accL pre f l (k + 1) = accL pre f l k ++ f l[k] := by
  unfold accL
  rw [List.take_succ_eq_append_getElem hk, List.flatMap_append, List.append_assoc]
  simp only [List.flatMap_cons, List.flatMap_nil, List.append_nil]
theorem accL_all (pre : List Int) (f : α → List Int) (l : List α) : accL pre f l l.length = pre ++ l.flatMap f := by simp [accL]
theorem length_flat {f : α → List Int} {c : Nat} (hf : ∀ a, (f a).length = c) : ∀ l : List α, (l.flatMap f).length = l.length * c
  | [] => by simp
  | a :: l => by rw [List.flatMap_cons, List.length_append, hf, length_flat hf l, List.length_cons, Nat.succ_mul]; omega
theorem length_accL {f : α → List Int} {c : Nat} (hf : ∀ a, (f a).length = c) (pre : List Int) (l : List α) {k : Nat} (hk : k ≤ l.length) : (accL pre f l k).length = pre.length + k * c := by
  rw [accL, List.length_append, length_flat hf, List.length_take, Nat.min_eq_left hk]
end
theorem lit_read (w : World) (A : Obj) (ty : Nat) (L : List Int) (hl : L.length ≤ 1099511627776) (hin : ∀ x ∈ L, inI64 x) :
    IntsR ((w.alloc A).alloc (.cells (L.map (Value.int .i64)).toArray ty)) (some ⟨w.heap.size + 1, 0, none⟩) L := by
  have h := (owns_lit (w.alloc A) 0 ty L (Nat.zero_le _) hl hin).read
  rwa [World.size_alloc] at h
theorem bl_grown {B : Nat} {a b c : World} {row : Option Nat} (hg : b.grownBy c row) (hs : B ≤ b.heap.size) (hr : ∀ k, row = some k → B ≤ k) (h : Below B a b) : Below B a c := h.grown hg hs hr
theorem own_apart {w : World} {lo e : Nat} {v : Value} {l : List Int} (h : IntsO w lo e v l) : ∀ k, v.ownBlock = some k → lo ≤ k ∧ k < w.heap.size := fun k hk => h.2.2.lt k hk
theorem IntsO.apart {w w' : World} {lo e : Nat} {v : Value} {l : List Int} {row : Option Nat} (h : IntsO w lo e v l) (hg : w.grownBy w' row) (hne : ∀ k, v.ownBlock = some k → row = some k → False) : IntsO w' lo e v l :=
  ⟨h.1, h.2.1, h.2.2.kept hg (by
    cases hv : v.ownBlock with
    | none => exact .inl rfl
    | some k => exact .inr fun e => hne k hv e.symm)⟩
theorem OwnA.apart {α : Type} {E : Enc α} {w w' : World} {lo e : Nat} {v : Value} {l : List α} {row : Option Nat} (h : OwnA E w lo e v l) (hg : w.grownBy w' row) (hne : ∀ k, v.ownBlock = some k → row = some k → False) : OwnA E w' lo e v l :=
  ⟨h.1, h.2.1, h.2.2.kept hg (by
    cases hv : v.ownBlock with
    | none => exact .inl rfl
    | some k => exact .inr fun e => hne k hv e.symm)⟩
end Go.Proofs.Ytmjafclpeknpcaa
