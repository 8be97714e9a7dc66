/- Operations that read only, on states. No program in it. -/
import Derived.WalkKit
import Derived.WalkSpells
import Derived.ProofKit
import Derived.ChangeOld
import Derived.Laws.AppendOwn
import Derived.Below
import Derived.MapKept
import Derived.Laws.Entries
import Derived.Laws.Cells
namespace Go.Proofs.YtahkjonokeifmaaGreat
open Go.ChangeShapes Go.WideShapes Go.ChangeAt Go.RowKit
set_option linter.unusedVariables false
theorem kr {p : Prop} (h : p := by kernel_rfl) : p := h
theorem om {p : Prop} (h : p := by omega) : p := h
theorem trf {p : Prop} (h : p := by repeat first | exact trivial | refine ⟨rfl, ?_⟩) : p := h
theorem tre {p : Prop} (h : p := by repeat first | exact trivial | refine ⟨⟨_, rfl, rfl⟩, ?_⟩) : p := h
inductive C where
 | v (x : Value)
 | s (n : Nat) (l : List (List C))
 | nil
 | hole
def rcell (H : Nat → Option Obj) (b o : Nat) : Option Value :=
 match H b with
 | some (.cells cs _ _) => cs[o]?
 | _ => none
theorem rcell_mono {H G : Nat → Option Obj} (h : ∀ b o, H b = some o → G b = some o) {b o : Nat} {x : Value} (hx : rcell H b o = some x) : rcell G b o = some x := by
 unfold rcell at *
 cases hb : H b with
 | none => rw [hb] at hx; cases hx
 | some ob => rw [hb] at hx; rw [h b ob hb]; exact hx
theorem rcell_cell {w : World} {H : Nat → Option Obj} (h : ∀ b o, H b = some o → w.heap[b]? = some o) {b o : Nat} {x : Value} (hx : rcell H b o = some x) : w.cell? ⟨b, o, none⟩ = some x := by
 unfold rcell at hx
 unfold World.cell?
 cases hb : H b with
 | none => rw [hb] at hx; cases hx
 | some ob =>
  rw [hb] at hx
  simp only [h b ob hb]
  cases ob <;> first | exact hx | cases hx
def RdC (H : Nat → Option Obj) : Nat → C → Value → Prop
 | _, .v x, u => u = x ∧ x.oneCell' = true
 | _, .nil, u => u = .slice none 0 0
 | _, .hole, u => u.oneCell' = true
 | 0, .s _ _, _ => False
 | d + 1, .s n l, u => ∃ ao cap, u = .slice ao l.length cap ∧ l.length ≤ cap ∧ cap ≤ maxLen ∧ (∀ cs ∈ l, cs.length = n) ∧
  (l = [] ∨ ∃ b off, ao = some ⟨b, off, none⟩ ∧ ∀ k cs, l[k]? = some cs → ∀ j c, cs[j]? = some c → ∃ x, rcell H b (off + k * n + j) = some x ∧ RdC H d c x)
theorem RdC.mono {H G : Nat → Option Obj} (h : ∀ b o, H b = some o → G b = some o) : ∀ {d : Nat} {c : C} {u : Value}, RdC H d c u → RdC G d c u
 | d, .v x, u, hr => by cases d <;> exact hr
 | d, .nil, u, hr => by cases d <;> exact hr
 | d, .hole, u, hr => by cases d <;> exact hr
 | 0, .s _ _, _, hr => hr
 | d + 1, .s n l, u, hr => by
  obtain ⟨ao, cap, rfl, h1, h2, h3, h4⟩ := hr
  refine ⟨ao, cap, rfl, h1, h2, h3, ?_⟩
  rcases h4 with h4 | ⟨b, off, h5, h6⟩
  ·exact .inl h4
  ·refine .inr ⟨b, off, h5, fun k cs hk j c hj => ?_⟩
   obtain ⟨x, h7, h8⟩ := h6 k cs hk j c hj
   exact ⟨x, rcell_mono h h7, RdC.mono h h8⟩
theorem RdC.deep {H : Nat → Option Obj} : ∀ {d : Nat} {c : C} {u : Value}, RdC H d c u → RdC H (d + 1) c u
 | d, .v x, u, hr => by cases d <;> exact hr
 | d, .nil, u, hr => by cases d <;> exact hr
 | d, .hole, u, hr => by cases d <;> exact hr
 | 0, .s _ _, _, hr => hr.elim
 | d + 1, .s n l, u, hr => by
  obtain ⟨ao, cap, rfl, h1, h2, h3, h4⟩ := hr
  refine ⟨ao, cap, rfl, h1, h2, h3, ?_⟩
  rcases h4 with h4 | ⟨b, off, h5, h6⟩
  ·exact .inl h4
  ·refine .inr ⟨b, off, h5, fun k cs hk j c hj => ?_⟩
   obtain ⟨x, h7, h8⟩ := h6 k cs hk j c hj
   exact ⟨x, h7, RdC.deep h8⟩
theorem RdC.one {H : Nat → Option Obj} : ∀ {d : Nat} {c : C} {u : Value}, RdC H d c u → u.oneCell' = true
 | d, .v x, u, h => by cases d <;> (rw [h.1]; exact h.2)
 | d, .nil, u, h => by cases d <;> (rw [show u = _ from h]; rfl)
 | d, .hole, u, h => by cases d <;> exact h
 | 0, .s _ _, _, h => h.elim
 | d + 1, .s n l, u, h => by obtain ⟨ao, cap, rfl, _⟩ := h; rfl
theorem cells_one {u : Value} (h : u.oneCell' = true) : u.cells = #[u] := by cases u <;> first | rfl | (cases h; done)
def All3 (R : C → Value → List Nat → Prop) : List C → List Value → List (List Nat) → Prop
 | [], [], [] => True
 | c :: cs, x :: xs, F :: Fs => R c x F ∧ All3 R cs xs Fs
 | _, _, _ => False
section
variable {R S : C → Value → List Nat → Prop}
theorem All3.len : ∀ {cs : List C} {xs : List Value} {Fs : List (List Nat)}, All3 R cs xs Fs → xs.length = cs.length ∧ Fs.length = cs.length
 | [], [], [], _ => ⟨rfl, rfl⟩
 | c :: cs, x :: xs, F :: Fs, h => by have := All3.len h.2; simp [this.1, this.2]
 | [], _ :: _, _, h => h.elim
 | [], [], _ :: _, h => h.elim
 | _ :: _, [], _, h => h.elim
 | _ :: _, _ :: _, [], h => h.elim
theorem All3.mono : ∀ {cs : List C} {xs : List Value} {Fs : List (List Nat)}, All3 R cs xs Fs → (∀ c x F, c ∈ cs → F ∈ Fs → R c x F → S c x F) → All3 S cs xs Fs
 | [], [], [], _, _ => trivial
 | c :: cs, x :: xs, F :: Fs, h, hm => ⟨hm c x F (by simp) (by simp) h.1, All3.mono h.2 fun c x F hc hF => hm c x F (by simp [hc]) (by simp [hF])⟩
 | [], _ :: _, _, h, _ => h.elim
 | [], [], _ :: _, h, _ => h.elim
 | _ :: _, [], _, h, _ => h.elim
 | _ :: _, _ :: _, [], h, _ => h.elim
theorem All3.append : ∀ {cs ds : List C} {xs ys : List Value} {Fs Gs : List (List Nat)}, All3 R cs xs Fs → All3 R ds ys Gs → All3 R (cs ++ ds) (xs ++ ys) (Fs ++ Gs)
 | [], _, [], _, [], _, _, k => k
 | c :: cs, _, x :: xs, _, F :: Fs, _, h, k => ⟨h.1, All3.append h.2 k⟩
 | [], _, _ :: _, _, _, _, h, _ => h.elim
 | [], _, [], _, _ :: _, _, h, _ => h.elim
 | _ :: _, _, [], _, _, _, h, _ => h.elim
 | _ :: _, _, _ :: _, _, [], _, h, _ => h.elim
theorem All3.get : ∀ {cs : List C} {xs : List Value} {Fs : List (List Nat)} {i : Nat} {c : C}, All3 R cs xs Fs → cs[i]? = some c → ∃ x F, xs[i]? = some x ∧ Fs[i]? = some F ∧ R c x F
 | c :: cs, x :: xs, F :: Fs, 0, _, h, hc => by
  simp only [List.getElem?_cons_zero, Option.some.injEq] at hc; subst hc
  exact ⟨x, F, rfl, rfl, h.1⟩
 | c :: cs, x :: xs, F :: Fs, i + 1, d, h, hc => by
  simp only [List.getElem?_cons_succ] at hc ⊢
  exact All3.get h.2 hc
 | [], _, _, _, _, _, hc => by simp at hc
 | _ :: _, [], _, _, _, h, _ => h.elim
 | _ :: _, _ :: _, [], _, _, h, _ => h.elim
theorem All3.set : ∀ {cs : List C} {xs : List Value} {Fs : List (List Nat)} (i : Nat) {c : C} {x : Value} {F : List Nat}, All3 R cs xs Fs → R c x F → All3 R (cs.set i c) (xs.set i x) (Fs.set i F)
 | [], [], [], _, _, _, _, _, _ => trivial
 | _ :: _, _ :: _, _ :: _, 0, _, _, _, h, k => ⟨k, h.2⟩
 | _ :: _, _ :: _, _ :: _, i + 1, _, _, _, h, k => ⟨h.1, All3.set i h.2 k⟩
 | [], _ :: _, _, _, _, _, _, h, _ => h.elim
 | [], [], _ :: _, _, _, _, _, h, _ => h.elim
 | _ :: _, [], _, _, _, _, _, h, _ => h.elim
 | _ :: _, _ :: _, [], _, _, _, _, h, _ => h.elim
end
def OwSR (R : C → Value → List Nat → Prop) (w : World) (ty n : Nat) (l : List (List C)) (u : Value) (xs : List Value) (Fs : List (List Nat)) : Prop :=
 w.ownsRow 0 ty n u l.length xs ∧ (∀ cs ∈ l, cs.length = n) ∧ All3 R l.flatten xs Fs
def OwC (w : World) : Nat → C → Value → List Nat → Prop
 | _, .v x, u, F => (u = x ∧ x.oneCell' = true) ∧ F = []
 | _, .nil, u, F => u = .slice none 0 0 ∧ F = []
 | _, .hole, u, F => u.oneCell' = true ∧ F = []
 | 0, .s _ _, _, _ => False
 | d + 1, .s n l, u, F => ∃ ty xs Fs, OwSR (OwC w d) w ty n l u xs Fs ∧ F = u.ownBlock.toList ++ Fs.flatten
def RdX (H : Nat → Option Obj) (c : C) (u : Value) : Prop := ∃ d, RdC H d c u
def OwX (w : World) (c : C) (u : Value) (F : List Nat) : Prop := ∃ d, OwC w d c u F
def OwS (w : World) (ty n : Nat) (l : List (List C)) (u : Value) (xs : List Value) (F : List Nat) : Prop :=
 ∃ Fs, OwSR (OwX w) w ty n l u xs Fs ∧ F = u.ownBlock.toList ++ Fs.flatten
theorem RdX.mono {H G : Nat → Option Obj} (h : ∀ b o, H b = some o → G b = some o) {c : C} {u : Value} (hr : RdX H c u) : RdX G c u := let ⟨d, hd⟩ := hr; ⟨d, hd.mono h⟩
theorem RdX.one {H : Nat → Option Obj} {c : C} {u : Value} (hr : RdX H c u) : u.oneCell' = true := let ⟨_, hd⟩ := hr; hd.one
theorem owns_same' {w w' : World} {lo ty n m : Nat} {v : Value} {xs : List Value} (h : w.ownsRow lo ty n v m xs) (hk : ∀ k, v.ownBlock = some k → w'.heap[k]? = w.heap[k]?) : w'.ownsRow lo ty n v m xs := by
 refine ⟨h.1, ?_⟩
 rcases h.2 with h2 | ⟨g, cap, cur, rfl, hb, hg, hr⟩
 ·exact .inl h2
 ·exact .inr ⟨g, cap, cur, rfl, hb, by rw [hk g rfl]; exact hg, hr⟩
theorem OwC.keep {w w' : World} : ∀ {d : Nat} {c : C} {u : Value} {F : List Nat}, OwC w d c u F → (∀ b ∈ F, w'.heap[b]? = w.heap[b]?) → OwC w' d c u F
 | d, .v x, u, F, h, _ => by cases d <;> exact h
 | d, .nil, u, F, h, _ => by cases d <;> exact h
 | d, .hole, u, F, h, _ => by cases d <;> exact h
 | 0, .s _ _, _, _, h, _ => h
 | d + 1, .s n l, u, F, h, hk => by
  obtain ⟨ty, xs, Fs, ⟨h1, h2, h3⟩, rfl⟩ := h
  refine ⟨ty, xs, Fs, ⟨owns_same' h1 fun k hk2 => hk k (by simp [hk2]), h2, h3.mono fun c x G _ hG hr => hr.keep fun b hb => hk b ?_⟩, rfl⟩
  exact List.mem_append_right _ (List.mem_flatten.2 ⟨G, hG, hb⟩)
theorem OwC.lt {w : World} : ∀ {d : Nat} {c : C} {u : Value} {F : List Nat}, OwC w d c u F → ∀ b ∈ F, b < w.heap.size
 | d, .v x, u, F, h, b, hb => by cases d <;> (rw [h.2] at hb; simp at hb)
 | d, .nil, u, F, h, b, hb => by cases d <;> (rw [h.2] at hb; simp at hb)
 | d, .hole, u, F, h, b, hb => by cases d <;> (rw [h.2] at hb; simp at hb)
 | 0, .s _ _, _, _, h, _, _ => h.elim
 | d + 1, .s n l, u, F, h, b, hb => by
  obtain ⟨ty, xs, Fs, ⟨h1, h2, h3⟩, rfl⟩ := h
  rcases List.mem_append.1 hb with hb | hb
  ·exact (h1.lt b (Option.mem_toList.1 hb)).2
  ·obtain ⟨G, hG, hb⟩ := List.mem_flatten.1 hb
   have key : ∀ {cs : List C} {xs : List Value} {Fs : List (List Nat)}, All3 (OwC w d) cs xs Fs → ∀ G ∈ Fs, ∀ b ∈ G, b < w.heap.size := by
    intro cs
    induction cs with
    | nil =>
     intro xs Fs h G hG
     match xs, Fs, h with
     | [], [], _ => simp at hG
     | [], _ :: _, h => exact h.elim
     | _ :: _, _, h => exact h.elim
    | cons c cs ih =>
     intro xs Fs h G hG b hb
     match xs, Fs, h with
     | x :: xs, F :: Fs, h =>
      rcases List.mem_cons.1 hG with rfl | hG
      ·exact h.1.lt b hb
      ·exact ih h.2 G hG b hb
     | [], _, h => exact h.elim
     | _ :: _, [], h => exact h.elim
   exact key h3 G hG b hb
theorem OwC.read {w : World} {H : Nat → Option Obj} : ∀ {d : Nat} {c : C} {u : Value} {F : List Nat}, OwC w d c u F → (∀ b ∈ F, H b = w.heap[b]?) → RdC H d c u
 | d, .v x, u, F, h, _ => by cases d <;> exact h.1
 | d, .nil, u, F, h, _ => by cases d <;> exact h.1
 | d, .hole, u, F, h, _ => by cases d <;> exact h.1
 | 0, .s _ _, _, _, h, _ => h.elim
 | d + 1, .s n l, u, F, h, hk => by
  obtain ⟨ty, xs, Fs, ⟨h1, h2, h3⟩, rfl⟩ := h
  rcases h1.2 with ⟨rfl, h0⟩ | ⟨g, cap, cur, rfl, hb, hg, hnc, hcm, hcs, htake⟩
  ·have hl : l = [] := List.eq_nil_of_length_eq_zero h0
   subst hl
   exact ⟨none, 0, rfl, Nat.le_refl _, by simp [maxLen], by simp, .inl rfl⟩
  ·refine ⟨_, cap, rfl, hnc, hcm, h2, ?_⟩
   right
   refine ⟨g, 0, rfl, fun k cs hcs2 j c hj => ?_⟩
   have hkl : k < l.length := (List.getElem?_eq_some_iff.1 hcs2).1
   have hcn : cs.length = n := h2 cs (List.mem_of_getElem? hcs2)
   have hjn : j < n := by rw [← hcn]; exact (List.getElem?_eq_some_iff.1 hj).1
   have hfl : ∀ (l : List (List C)) (k : Nat), (∀ cs ∈ l, cs.length = n) → l[k]? = some cs → l.flatten[k * n + j]? = some c := by
    intro l
    induction l with
    | nil => intro k _ h; simp at h
    | cons a r ih =>
     intro k hall h
     have ha : a.length = n := hall a (by simp)
     cases k with
     | zero =>
      simp only [List.getElem?_cons_zero, Option.some.injEq] at h
      subst h
      rw [List.flatten_cons, Nat.zero_mul, Nat.zero_add, List.getElem?_append_left om]
      exact hj
     | succ k =>
      simp only [List.getElem?_cons_succ] at h
      rw [List.flatten_cons, List.getElem?_append_right (by rw [Nat.succ_mul]; omega), show (k + 1) * n + j - a.length = k * n + j by rw [Nat.succ_mul]; omega]
      exact ih k (fun cs hcs => hall cs (by simp [hcs])) h
   obtain ⟨x, G, hx, hG, hr⟩ := h3.get (hfl l k h2 hcs2)
   refine ⟨x, ?_, ?_⟩
   ·unfold rcell
    rw [hk g (by simp [Value.ownBlock]), hg]
    simp only [Nat.zero_add]
    rw [← htake, List.getElem?_take] at hx
    split at hx
    ·simpa using hx
    ·cases hx
   ·exact hr.read fun b hb => hk b (List.mem_append_right _ (List.mem_flatten.2 ⟨G, List.mem_of_getElem? hG, hb⟩))
theorem OwC.deep {w : World} : ∀ {d : Nat} {c : C} {u : Value} {F : List Nat}, OwC w d c u F → OwC w (d + 1) c u F
 | d, .v x, u, F, h => by cases d <;> exact h
 | d, .nil, u, F, h => by cases d <;> exact h
 | d, .hole, u, F, h => by cases d <;> exact h
 | 0, .s _ _, _, _, h => h.elim
 | d + 1, .s n l, u, F, h => by
  obtain ⟨ty, xs, Fs, ⟨h1, h2, h3⟩, rfl⟩ := h
  exact ⟨ty, xs, Fs, ⟨h1, h2, h3.mono fun c x G _ _ hr => hr.deep⟩, rfl⟩
theorem OwC.deepN {w : World} {c : C} {u : Value} {F : List Nat} {d : Nat} (h : OwC w d c u F) : ∀ k, OwC w (d + k) c u F
 | 0 => h
 | k + 1 => (OwC.deepN h k).deep
theorem OwX.all {w : World} : ∀ {cs : List C} {xs : List Value} {Fs : List (List Nat)}, All3 (OwX w) cs xs Fs → ∃ d, All3 (OwC w d) cs xs Fs
 | [], [], [], _ => ⟨0, trivial⟩
 | c :: cs, x :: xs, F :: Fs, h => by
  obtain ⟨d, h1⟩ := h.1
  obtain ⟨e, h2⟩ := OwX.all h.2
  refine ⟨d + e, h1.deepN e, h2.mono fun c x F _ _ hr => ?_⟩
  rw [Nat.add_comm]; exact hr.deepN d
 | [], _ :: _, _, h => h.elim
 | [], [], _ :: _, h => h.elim
 | _ :: _, [], _, h => h.elim
 | _ :: _, _ :: _, [], h => h.elim
theorem OwX.keep {w w' : World} {c : C} {u : Value} {F : List Nat} (h : OwX w c u F) (hk : ∀ b ∈ F, w'.heap[b]? = w.heap[b]?) : OwX w' c u F := let ⟨d, hd⟩ := h; ⟨d, hd.keep hk⟩
theorem OwX.lt {w : World} {c : C} {u : Value} {F : List Nat} (h : OwX w c u F) : ∀ b ∈ F, b < w.heap.size := let ⟨_, hd⟩ := h; hd.lt
theorem OwX.read {w : World} {H : Nat → Option Obj} {c : C} {u : Value} {F : List Nat} (h : OwX w c u F) (hk : ∀ b ∈ F, H b = w.heap[b]?) : RdX H c u := let ⟨d, hd⟩ := h; ⟨d, hd.read hk⟩
theorem OwS.c {w : World} {ty n : Nat} {l : List (List C)} {u : Value} {xs : List Value} {F : List Nat} (h : OwS w ty n l u xs F) : OwX w (.s n l) u F := by
 obtain ⟨Fs, ⟨h0, h1, h2⟩, h3⟩ := h
 obtain ⟨d, h4⟩ := OwX.all h2
 exact ⟨d + 1, ty, xs, Fs, ⟨h0, h1, h4⟩, h3⟩
theorem OwS.keep {w w' : World} {ty n : Nat} {l : List (List C)} {u : Value} {xs : List Value} {F : List Nat} (h : OwS w ty n l u xs F) (hk : ∀ b ∈ F, w'.heap[b]? = w.heap[b]?) : OwS w' ty n l u xs F := by
 obtain ⟨Fs, ⟨h1, h2, h3⟩, rfl⟩ := h
 exact ⟨Fs, ⟨owns_same' h1 fun k hk2 => hk k (by simp [hk2]), h2, h3.mono fun c x G _ hG hr => hr.keep fun b hb => hk b (List.mem_append_right _ (List.mem_flatten.2 ⟨G, hG, hb⟩))⟩, rfl⟩
theorem OwS.lt {w : World} {ty n : Nat} {l : List (List C)} {u : Value} {xs : List Value} {F : List Nat} (h : OwS w ty n l u xs F) : ∀ b ∈ F, b < w.heap.size := h.c.lt
end Go.Proofs.YtahkjonokeifmaaGreat
namespace Go.Proofs.YtahkjonokeifmaaGreat
open Go.RowKit
set_option linter.unusedVariables false
set_option linter.unusedSimpArgs false
def keyIs : Value → Int → Bool
 | .int _ n, k => n == k
 | _, _ => false
def findE : List MapEntry → Int → Option Value
 | [], _ => none
 | e :: es, k => if keyIs e.key k = true then some e.val else findE es k
def keysI : List MapEntry → Prop
 | [] => True
 | e :: es => (∃ k, e.key = .int .i64 k ∧ findE es k = none) ∧ keysI es
def MapI (w : World) (b : Nat) (f : Int → Option Value) : Prop :=
 ∃ (es : Array MapEntry) (clock : Nat), w.heap[b]? = some (.map es clock) ∧ keysI es.toList ∧ ∀ k, findE es.toList k = f k
theorem MapI.lt {w : World} {b : Nat} {f : Int → Option Value} (h : MapI w b f) : b < w.heap.size := by
 obtain ⟨es, c, h1, _⟩ := h
 exact (Array.getElem?_eq_some_iff.1 h1).1
theorem MapI.same {w w' : World} {b : Nat} {f : Int → Option Value} (h : MapI w b f) (hb : w'.heap[b]? = w.heap[b]?) : MapI w' b f := by
 obtain ⟨es, c, h1, h2⟩ := h
 exact ⟨es, c, hb.trans h1, h2⟩
theorem MapI.below {w w' : World} {b B : Nat} {f : Int → Option Value} (h : MapI w b f) (hb : Below B w w') (hB : b < B) : MapI w' b f := h.same (hb.block b hB)
theorem MapI.made (w : World) : MapI (w.alloc (.map #[] 0)) w.heap.size (fun _ => none) :=
 ⟨#[], 0, (MapKept.heap_alloc w _).1, trivial, fun _ => rfl⟩
def findN : List MapEntry → Int → Nat → Option (Nat × Value)
 | [], _, _ => none
 | e :: es, k, i => if keyIs e.key k = true then some (i, e.val) else findN es k (i + 1)
theorem findNow_eq {kd : IntKind} (k : Int) : ∀ (es : List MapEntry) (i : Nat), keysI es → Instr.findNow (.int kd) (.int .i64 k) es i = some (findN es k i)
 | [], _, _ => rfl
 | e :: es, i, h => by
  obtain ⟨⟨k', hk, _⟩, h2⟩ := h
  unfold Instr.findNow findN
  simp only [hk, Instr.sameNow, if_true, keyIs]
  by_cases hkk : k = k'
  ·subst hkk; simp
  ·have h1 : (k == k') = false := by simpa using hkk
   have h3 : (k' == k) = false := by simpa using fun e : k' = k => hkk e.symm
   rw [h1, h3, if_neg (by simp)]
   exact findNow_eq k es (i + 1) h2
theorem findN_none {k : Int} : ∀ (es : List MapEntry) (i : Nat), findN es k i = none → findE es k = none
 | [], _, _ => rfl
 | e :: es, i, h => by
  cases hc : keyIs e.key k
  ·simp only [findN, hc, Bool.false_eq_true, if_false] at h
   simp only [findE, hc, Bool.false_eq_true, if_false]
   exact findN_none es (i + 1) h
  ·simp [findN, hc] at h
theorem findN_some {k : Int} : ∀ (es : List MapEntry) (i j : Nat) (v : Value), findN es k i = some (j, v) →
  findE es k = some v ∧ ∃ d, j = i + d ∧ d < es.length
 | [], _, _, _, h => by simp [findN] at h
 | e :: es, i, j, v, h => by
  cases hc : keyIs e.key k
  ·simp only [findN, hc, Bool.false_eq_true, if_false] at h
   obtain ⟨h1, d, h2, h3⟩ := findN_some es (i + 1) j v h
   simp only [findE, hc, Bool.false_eq_true, if_false]
   exact ⟨h1, d + 1, by omega, by simp; omega⟩
  ·simp only [findN, hc, if_true, Option.some.injEq, Prod.mk.injEq] at h
   obtain ⟨rfl, rfl⟩ := h
   simp only [findE, hc, if_true]
   exact ⟨trivial, 0, rfl, by simp⟩
theorem keyIs_key {e : MapEntry} {k' : Int} (h : e.key = .int .i64 k') (k : Int) : keyIs e.key k = (k' == k) := by rw [h]; rfl
theorem findE_push {k : Int} {v : Value} {c : Nat} : ∀ (es : List MapEntry), keysI es → findE es k = none →
  keysI (es ++ [{ key := .int .i64 k, val := v, born := c }]) ∧ ∀ q, findE (es ++ [{ key := .int .i64 k, val := v, born := c }]) q = if q = k then some v else findE es q
 | [], _, _ => ⟨⟨⟨k, rfl, rfl⟩, trivial⟩, fun q => by
   by_cases h : q = k
   ·subst h; simp [findE, keyIs]
   ·have : (k == q) = false := by simpa using fun e : k = q => h e.symm
    simp [findE, keyIs, this, h]⟩
 | e :: es, h, hn => by
  obtain ⟨⟨k', hk, hf⟩, h2⟩ := h
  have hne : (k' == k) = false := by
   cases hc : (k' == k)
   ·rfl
   ·simp [findE, keyIs_key hk, hc] at hn
  have hn2 : findE es k = none := by simpa [findE, keyIs_key hk, hne] using hn
  obtain ⟨h3, h4⟩ := findE_push es h2 hn2
  have hne2 : k' ≠ k := by simpa using hne
  refine ⟨⟨⟨k', hk, by have := h4 k'; rw [if_neg hne2] at this; exact this.trans hf⟩, h3⟩, fun q => ?_⟩
  cases hc : (k' == q)
  ·simp only [List.cons_append, findE, keyIs_key hk, hc, Bool.false_eq_true, if_false]; exact h4 q
  ·have : k' = q := by simpa using hc
   subst this
   simp [findE, keyIs_key hk, hne2]
theorem findE_modify {k : Int} {v : Value} : ∀ (es : List MapEntry) (i d : Nat) (u : Value), keysI es → findN es k i = some (i + d, u) →
  keysI (es.modify d fun e => { e with key := .int .i64 k, val := v }) ∧ ∀ q, findE (es.modify d fun e => { e with key := .int .i64 k, val := v }) q = if q = k then some v else findE es q
 | [], _, _, _, _, h => by simp [findN] at h
 | e :: es, i, d, u, hK, h => by
  obtain ⟨⟨k', hk, hf⟩, h2⟩ := hK
  cases hc : (k' == k)
  ·simp only [findN, keyIs_key hk, hc, Bool.false_eq_true, if_false] at h
   obtain ⟨_, d', hd, _⟩ := findN_some es (i + 1) _ _ h
   have hd' : d = d' + 1 := by omega
   subst hd'
   rw [show i + (d' + 1) = i + 1 + d' by omega] at h
   obtain ⟨h3, h4⟩ := findE_modify es (i + 1) d' u h2 h
   have hne : k' ≠ k := by simpa using hc
   simp only [List.modify_succ_cons]
   refine ⟨⟨⟨k', hk, by rw [h4, if_neg hne]; exact hf⟩, h3⟩, fun q => ?_⟩
   cases hq : (k' == q)
   ·simp only [findE, keyIs_key hk, hq, Bool.false_eq_true, if_false]; exact h4 q
   ·have : k' = q := by simpa using hq
    subst this
    simp [findE, keyIs_key hk, hne]
  ·have hkk : k' = k := by simpa using hc
   subst hkk
   simp only [findN, keyIs_key hk, hc, if_true, Option.some.injEq, Prod.mk.injEq] at h
   have hd : d = 0 := by omega
   subst hd
   simp only [List.modify_zero_cons]
   refine ⟨⟨⟨k', rfl, hf⟩, h2⟩, fun q => ?_⟩
   by_cases hq : q = k'
   ·subst hq; simp [findE, keyIs]
   ·have h1 : (k' == q) = false := by simpa using fun e : k' = q => hq e.symm
    simp [findE, keyIs, hk, h1, hq]
theorem findE_erase {k : Int} : ∀ (es : List MapEntry) (i d : Nat) (u : Value), keysI es → findN es k i = some (i + d, u) →
  (keysI (es.eraseIdx d) ∧ ∀ q, findE (es.eraseIdx d) q = if q = k then none else findE es q)
 | [], _, _, _, _, h => by simp [findN] at h
 | e :: es, i, d, u, hK, h => by
  obtain ⟨⟨k', hk, hf⟩, h2⟩ := hK
  cases hc : (k' == k)
  ·simp only [findN, keyIs_key hk, hc, Bool.false_eq_true, if_false] at h
   obtain ⟨_, d', hd, _⟩ := findN_some es (i + 1) _ _ h
   have hd' : d = d' + 1 := by omega
   subst hd'
   rw [show i + (d' + 1) = i + 1 + d' by omega] at h
   obtain ⟨h3, h4⟩ := findE_erase es (i + 1) d' u h2 h
   have hne : k' ≠ k := by simpa using hc
   simp only [List.eraseIdx_cons_succ]
   refine ⟨⟨⟨k', hk, by rw [h4, if_neg hne]; exact hf⟩, h3⟩, fun q => ?_⟩
   cases hq : (k' == q)
   ·simp only [findE, keyIs_key hk, hq, Bool.false_eq_true, if_false]; exact h4 q
   ·have : k' = q := by simpa using hq
    subst this
    simp [findE, keyIs_key hk, hne]
  ·have hkk : k' = k := by simpa using hc
   subst hkk
   simp only [findN, keyIs_key hk, hc, if_true, Option.some.injEq, Prod.mk.injEq] at h
   have hd : d = 0 := by omega
   subst hd
   simp only [List.eraseIdx_cons_zero]
   refine ⟨h2, fun q => ?_⟩
   by_cases hq : q = k'
   ·subst hq; simpa using hf
   ·have h1 : (k' == q) = false := by simpa using fun e : k' = q => hq e.symm
    simp [findE, keyIs_key hk, h1, hq]
section
variable {P : Program} {w : World} {b : Nat} {f : Int → Option Value} {t kt et : TypeId} {kd : IntKind}
theorem run_findKey_int {es : List MapEntry} (h : keysI es) (hk : P.underlying kt = some (.int kd)) (k : Int) : (Instr.findKey kt (.int .i64 k) es).run P w = .ok (findN es k 0) w := by
 unfold Instr.findKey
 simp [run_underlying hk, findNow_eq k es 0 h]
theorem run_checkKey_int (hk : P.underlying kt = some (.int kd)) (c : Bool) (k : Int) : (Instr.checkKey c 10000 kt (.int .i64 k)).run P w = .ok () w := by
 rw [show (10000 : Nat) = 9999 + 1 from rfl]
 unfold Instr.checkKey
 simp [run_underlying hk]
theorem MapI.run_lookup (h : MapI w b f) (ht : P.underlying t = some (.map kt et)) (hk : P.underlying kt = some (.int kd)) (z : Value) (hz : ∀ W : World, (zeroValue et).run P W = .ok z W) (k : Int) :
  (Instr.lookup t (.map (some b)) (.int .i64 k) false).run P w = .ok ((f k).getD z) w := by
 obtain ⟨es, c, h1, h2, h3⟩ := h
 unfold Instr.lookup
 simp only [Sem.run_bind, run_underlying ht, Result.andThen_ok, MapKept.run_getObj_map h1, run_checkKey_int hk, run_findKey_int h2 hk, Sem.run_pure]
 rw [← h3 k]
 cases hf : findN es.toList k 0 with
 | none => simp [findN_none _ _ hf, hz]
 | some x => obtain ⟨j, v⟩ := x; simp [(findN_some _ _ _ _ hf).1]
theorem MapI.run_lookup_ok (h : MapI w b f) (ht : P.underlying t = some (.map kt et)) (hk : P.underlying kt = some (.int kd)) (z : Value) (hz : ∀ W : World, (zeroValue et).run P W = .ok z W) (k : Int) :
  (Instr.lookup t (.map (some b)) (.int .i64 k) true).run P w = .ok (.tuple #[(f k).getD z, .bool (f k).isSome]) w := by
 obtain ⟨es, c, h1, h2, h3⟩ := h
 unfold Instr.lookup
 simp only [Sem.run_bind, run_underlying ht, Result.andThen_ok, MapKept.run_getObj_map h1, run_checkKey_int hk, run_findKey_int h2 hk, Sem.run_pure]
 rw [← h3 k]
 cases hf : findN es.toList k 0 with
 | none => simp [findN_none _ _ hf, hz]
 | some x => obtain ⟨j, v⟩ := x; simp [(findN_some _ _ _ _ hf).1]
def Wrote1 (w w' : World) (b : Nat) : Prop := w'.os = w.os ∧ w'.tape = w.tape ∧ w'.output = w.output ∧ w'.heap.size = w.heap.size ∧ ∀ j, j ≠ b → w'.heap[j]? = w.heap[j]?
theorem Wrote1.below {w w' : World} {b B : Nat} (h : Wrote1 w w' b) (hB : B ≤ b) : Below B w w' := ⟨h.1, h.2.1, h.2.2.1, by rw [h.2.2.2.1]; exact Nat.le_refl _, fun k hk => h.2.2.2.2 k om⟩
theorem Wrote1.cell {w w' : World} {b : Nat} (h : Wrote1 w w' b) {c o : Nat} (hc : c ≠ b) : w'.cell? ⟨c, o, none⟩ = w.cell? ⟨c, o, none⟩ := World.cell?_of_block (h.2.2.2.2 c hc)
theorem wrote1_set (w : World) (b : Nat) (o : Obj) : Wrote1 w { w with heap := w.heap.setIfInBounds b o } b :=
 ⟨rfl, rfl, rfl, by simp, fun j hj => by simp [Ne.symm hj]⟩
theorem MapI.run_update (h : MapI w b f) (ht : P.underlying t = some (.map kt et)) (hk : P.underlying kt = some (.int kd)) (k : Int) (v : Value) :
  ∃ w', (Instr.mapUpdate t (.map (some b)) (.int .i64 k) v).run P w = .ok () w' ∧ MapI w' b (fun q => if q = k then some v else f q) ∧ Wrote1 w w' b := by
 obtain ⟨es, c, h1, h2, h3⟩ := h
 have hb := (Array.getElem?_eq_some_iff.1 h1).1
 unfold Instr.mapUpdate
 simp only [Sem.run_bind, run_underlying ht, Result.andThen_ok, MapKept.run_getObj_map h1, run_checkKey_int hk, run_findKey_int h2 hk]
 cases hf : findN es.toList k 0 with
 | none =>
  simp only [MapKept.run_setObj_map _ h1]
  obtain ⟨h4, h5⟩ := findE_push (v := v) (c := c) es.toList h2 (findN_none _ _ hf)
  refine ⟨_, rfl, ⟨es.push { key := .int .i64 k, val := v, born := c }, c + 1, by simp [hb], by simpa using h4, fun q => by simpa [h3] using h5 q⟩, wrote1_set w b _⟩
 | some x =>
  obtain ⟨j, u⟩ := x
  obtain ⟨h6, d, hd, hdl⟩ := findN_some _ _ _ _ hf
  have hjd : j = d := by omega
  subst hjd
  have hkey : (es[j]?).map (·.key) = some (.int .i64 k) := by
   clear h1 h3 hb
   obtain ⟨l⟩ := es
   simp only [List.getElem?_toArray] at *
   clear h6 hd
   have : ∀ (l : List MapEntry) (i j : Nat), keysI l → findN l k i = some (i + j, u) → (l[j]?).map (·.key) = some (.int .i64 k) := by
    intro l
    induction l with
    | nil => intro i j _ h; simp [findN] at h
    | cons e l ih =>
     intro i j hK h
     obtain ⟨⟨k', hk', _⟩, h2'⟩ := hK
     cases hc : (k' == k)
     ·simp only [findN, keyIs_key hk', hc, Bool.false_eq_true, if_false] at h
      obtain ⟨_, d', hd', _⟩ := findN_some l (i + 1) _ _ h
      have : j = d' + 1 := by omega
      subst this
      rw [show i + (d' + 1) = i + 1 + d' by omega] at h
      simpa using ih (i + 1) d' h2' h
     ·have hkk : k' = k := by simpa using hc
      subst hkk
      simp only [findN, keyIs_key hk', hc, if_true, Option.some.injEq, Prod.mk.injEq] at h
      have : j = 0 := by omega
      subst this
      simp [hk']
   exact this l 0 j h2 (by simpa using hf)
  have hstay : (Instr.keyThatStays (((es[j]?).map (·.key)).getD (.int .i64 k)) (.int .i64 k)).run P w = .ok (.int .i64 k) w := by
   rw [hkey]
   simp [Instr.keyThatStays, Instr.sameBits]
  simp only [Sem.run_bind, hstay, Result.andThen_ok, MapKept.run_setObj_map _ h1]
  obtain ⟨h4, h5⟩ := findE_modify (v := v) es.toList 0 j u h2 (by simpa using hf)
  refine ⟨_, rfl, ⟨es.modify j fun e => { e with key := .int .i64 k, val := v }, c, by simp [hb], by simpa using h4, fun q => by simpa [h3] using h5 q⟩, wrote1_set w b _⟩
theorem MapI.run_delete (h : MapI w b f) (ht : P.underlying t = some (.map kt et)) (hk : P.underlying kt = some (.int kd)) (ty kt2 : TypeId) (k : Int) :
  ∃ w', (Builtin.delete_ #[t, kt2] ty #[.map (some b), .int .i64 k]).run P w = .ok (.tuple #[]) w' ∧ MapI w' b (fun q => if q = k then none else f q) ∧ Wrote1 w w' b := by
 obtain ⟨es, c, h1, h2, h3⟩ := h
 have hb := (Array.getElem?_eq_some_iff.1 h1).1
 unfold Builtin.delete_
 simp only [List.getElem?_toArray, List.getElem?_cons_zero, List.getElem?_cons_succ, Sem.run_bind, run_underlying ht, Result.andThen_ok, MapKept.run_getObj_map h1, run_checkKey_int hk, run_findKey_int h2 hk]
 cases hf : findN es.toList k 0 with
 | none =>
  simp only [Sem.run_bind, MapKept.run_setObj_map _ h1, Result.andThen_ok, Sem.run_pure]
  refine ⟨_, rfl, ⟨es, c, by simp [hb], h2, fun q => ?_⟩, wrote1_set w b _⟩
  have := findN_none _ _ hf
  by_cases hq : q = k
  ·subst hq; simpa using this
  ·simp [hq, h3]
 | some x =>
  obtain ⟨j, u⟩ := x
  obtain ⟨h6, d, hd, hdl⟩ := findN_some _ _ _ _ hf
  have hjd : j = d := by omega
  subst hjd
  simp only [Sem.run_bind, MapKept.run_setObj_map _ h1, Result.andThen_ok, Sem.run_pure]
  obtain ⟨h4, h5⟩ := findE_erase es.toList 0 j u h2 (by simpa using hf)
  refine ⟨_, rfl, ⟨es.eraseIdxIfInBounds j, c, by simp [hb], ?_, fun q => ?_⟩, wrote1_set w b _⟩
  ·have : (es.eraseIdxIfInBounds j).toList = es.toList.eraseIdx j := by simp
   rw [this]; exact h4
  ·have : (es.eraseIdxIfInBounds j).toList = es.toList.eraseIdx j := by simp
   rw [this, h5 q, h3]
end
end Go.Proofs.YtahkjonokeifmaaGreat
namespace Go.Proofs.YtahkjonokeifmaaGreat
open Go.ChangeShapes Go.WideShapes Go.ChangeAt Go.RowKit
set_option linter.unusedVariables false
inductive AC where
 | c (x : C)
 | rt (r : Nat)
 | sub (r n k j : Nat)
 | pb (b o : Nat)
 | pe (cs : List C)
 | pr (r n k o : Nat)
 | fn (f : Fn) (cap : List (Nat × Nat))
 | mp (b : Nat)
 | ib (t b : Nat)
 | no
inductive AV where
 | p (b : Bool) (l : List AC)
 | tup (ps : List (Bool × List AC))
 | no
 | und
structure Rho where
 H : Nat → Option Obj
 box : Nat → Nat
 root : Nat → Value
 rows : Nat → List Value
 foot : Nat → List Nat
def L2 {α β : Type} (R : α → β → Prop) : List α → List β → Prop
 | [], [] => True
 | a :: as, b :: bs => R a b ∧ L2 R as bs
 | _, _ => False
section
variable {α β : Type} {R S : α → β → Prop}
theorem L2.len : ∀ {l : List α} {m : List β}, L2 R l m → m.length = l.length
 | [], [], _ => rfl
 | a :: l, b :: m, h => by simp [L2.len h.2]
 | [], _ :: _, h => h.elim
 | _ :: _, [], h => h.elim
theorem L2.mono (hm : ∀ a b, R a b → S a b) : ∀ {l : List α} {m : List β}, L2 R l m → L2 S l m
 | [], [], _ => trivial
 | a :: l, b :: m, h => ⟨hm a b h.1, L2.mono hm h.2⟩
 | [], _ :: _, h => h.elim
 | _ :: _, [], h => h.elim
theorem L2.get : ∀ {l : List α} {m : List β} {i : Nat} {a : α}, L2 R l m → l[i]? = some a → ∃ b, m[i]? = some b ∧ R a b
 | a :: l, b :: m, 0, _, h, ha => by
  simp only [List.getElem?_cons_zero, Option.some.injEq] at ha; subst ha
  exact ⟨b, rfl, h.1⟩
 | a :: l, b :: m, i + 1, _, h, ha => by
  simp only [List.getElem?_cons_succ] at ha ⊢
  exact L2.get h.2 ha
 | [], _, _, _, _, ha => by simp at ha
 | _ :: _, [], _, _, h, _ => h.elim
theorem L2.append : ∀ {l l2 : List α} {m m2 : List β}, L2 R l m → L2 R l2 m2 → L2 R (l ++ l2) (m ++ m2)
 | [], _, [], _, _, k => k
 | a :: l, _, b :: m, _, h, k => ⟨h.1, L2.append h.2 k⟩
 | [], _, _ :: _, _, h, _ => h.elim
 | _ :: _, _, [], _, h, _ => h.elim
theorem L2.take : ∀ {l : List α} {m : List β} (n : Nat), L2 R l m → L2 R (l.take n) (m.take n)
 | _, _, 0, _ => by simp [L2]
 | [], [], _ + 1, _ => trivial
 | a :: l, b :: m, n + 1, h => ⟨h.1, L2.take n h.2⟩
 | [], _ :: _, _, h => h.elim
 | _ :: _, [], _, h => h.elim
theorem L2.drop : ∀ {l : List α} {m : List β} (n : Nat), L2 R l m → L2 R (l.drop n) (m.drop n)
 | _, _, 0, h => h
 | [], [], _ + 1, _ => trivial
 | a :: l, b :: m, n + 1, h => L2.drop n h.2
 | [], _ :: _, _, h => h.elim
 | _ :: _, [], _, h => h.elim
theorem L2.map {γ : Type} (f : γ → α) {T : γ → β → Prop} (hf : ∀ c b, T c b → R (f c) b) : ∀ {l : List γ} {m : List β}, L2 T l m → L2 R (l.map f) m
 | [], [], _ => trivial
 | c :: l, b :: m, h => ⟨hf c b h.1, L2.map f hf h.2⟩
 | [], _ :: _, h => h.elim
 | _ :: _, [], h => h.elim
theorem L2.one {a : α} {m : List β} (h : L2 R [a] m) : ∃ b, m = [b] ∧ R a b := by
 match m, h with
 | [b], h => exact ⟨b, rfl, h.1⟩
end
def RepC (ρ : Rho) : AC → Value → Prop
 | .c x, u => RdX ρ.H x u
 | .rt r, u => u = ρ.root r ∧ u.oneCell' = true
 | .sub r n k j, u => (ρ.rows r)[k * n + j]? = some u ∧ u.oneCell' = true
 | .pb b o, u => u = .pointer (some ⟨ρ.box b, o, none⟩)
 | .pe cs, u => ∃ g o, u = .pointer (some ⟨g, o, none⟩) ∧ ∀ j c, cs[j]? = some c → ∃ x, rcell ρ.H g (o + j) = some x ∧ RdX ρ.H c x
 | .pr r n k o, u => ∃ g, (ρ.root r).ownBlock = some g ∧ u = .pointer (some ⟨g, k * n + o, none⟩)
 | .fn f cap, u => u = .func f #[] (cap.map fun p => Value.pointer (some ⟨ρ.box p.1, p.2, none⟩)).toArray
 | .mp b, u => u = .map (some (ρ.box b))
 | .ib t b, u => u = .iface t (.pointer (some ⟨ρ.box b, 0, none⟩))
 | .no, u => u.oneCell' = true
theorem RepC.one {ρ : Rho} {x : AC} {u : Value} (h : RepC ρ x u) : u.oneCell' = true := by
 cases x with
 | c x => exact RdX.one h
 | rt r => exact h.2
 | sub r n k j => exact h.2
 | pb b o => rw [show u = _ from h]; rfl
 | pe cs => obtain ⟨g, o, rfl, _⟩ := h; rfl
 | pr r n k o => obtain ⟨g, _, rfl⟩ := h; rfl
 | fn f cap => rw [show u = _ from h]; rfl
 | mp b => rw [show u = _ from h]; rfl
 | ib t b => rw [show u = _ from h]; rfl
 | no => exact h
def RepP (ρ : Rho) (x : Bool × List AC) (u : Value) : Prop :=
 if x.1 then ∃ vs : List Value, u = .agg vs.toArray ∧ L2 (RepC ρ) x.2 vs else L2 (RepC ρ) x.2 [u]
def RepV (ρ : Rho) : AV → Value → Prop
 | .p b l, u => RepP ρ (b, l) u
 | .tup ps, u => ∃ vs : List Value, u = .tuple vs.toArray ∧ L2 (RepP ρ) ps vs
 | .no, _ => True
 | .und, u => u = undef
def lk {α : Type} : List (Nat × α) → Nat → Option α
 | [], _ => none
 | (k, v) :: r, t => if k = t then some v else lk r t
theorem lk_mem {α : Type} : ∀ {l : List (Nat × α)} {t : Nat} {v : α}, lk l t = some v → (t, v) ∈ l
  | [], _, _, h => by cases h
  | (k, v) :: r, t, u, h => by
    unfold lk at h
    split at h
    · rename_i e; subst e; cases h; simp
    · exact List.mem_cons_of_mem _ (lk_mem h)
structure St where
 T : List (Nat × AV)
 B : List (Nat × Nat × List AC)
 R : List (Nat × Nat × Nat × List (List C))
 M : List (Nat × (Int → Option Value))
def feet (ρ : Rho) (S : St) : List Nat := S.B.map (fun x => ρ.box x.1) ++ (S.R.flatMap (fun x => ρ.foot x.1) ++ S.M.map (fun x => ρ.box x.1))
def OwM (w : World) (g : Nat) (m : Int → Option Value) : Prop := MapI w g m
structure Hp (ρ : Rho) (S : St) (w : World) : Prop where
 H : ∀ b o, ρ.H b = some o → w.heap[b]? = some o
 B : ∀ x ∈ S.B, ∃ vs : List Value, w.heap[ρ.box x.1]? = some (.cells vs.toArray x.2.1 (0, 0)) ∧ L2 (RepC ρ) x.2.2 vs
 R : ∀ x ∈ S.R, OwS w x.2.1 x.2.2.1 x.2.2.2 (ρ.root x.1) (ρ.rows x.1) (ρ.foot x.1)
 M : ∀ x ∈ S.M, OwM w (ρ.box x.1) x.2
 nd : (feet ρ S).Nodup
 dj : ∀ b ∈ feet ρ S, ρ.H b = none
theorem heap_lt {w : World} {b : Nat} {o : Obj} (h : w.heap[b]? = some o) : b < w.heap.size := (Array.getElem?_eq_some_iff.1 h).1
theorem Hp.lt {ρ : Rho} {S : St} {w : World} (h : Hp ρ S w) : ∀ b ∈ feet ρ S, b < w.heap.size := by
 intro b hb
 rcases List.mem_append.1 hb with hb | hb
 ·obtain ⟨x, hx, rfl⟩ := List.mem_map.1 hb
  obtain ⟨vs, h1, _⟩ := h.B x hx
  exact heap_lt h1
 ·rcases List.mem_append.1 hb with hb | hb
  ·obtain ⟨x, hx, hb⟩ := List.mem_flatMap.1 hb
   exact (h.R x hx).lt b hb
  ·obtain ⟨x, hx, rfl⟩ := List.mem_map.1 hb
   obtain ⟨es, c, h1, _⟩ := h.M x hx
   exact heap_lt h1
structure Chg (w w' : World) (F : List Nat) : Prop where
 os : w'.os = w.os
 tape : w'.tape = w.tape
 output : w'.output = w.output
 size : w.heap.size ≤ w'.heap.size
 block : ∀ k, k < w.heap.size → k ∉ F → w'.heap[k]? = w.heap[k]?
theorem Chg.refl (w : World) (F : List Nat) : Chg w w F := ⟨rfl, rfl, rfl, Nat.le_refl _, fun _ _ _ => rfl⟩
theorem Chg.step {a b c : World} {F G : List Nat} (h : Chg a b F) (k : Chg b c G) (hG : ∀ x ∈ G, x ∈ F ∨ a.heap.size ≤ x) : Chg a c F :=
 ⟨k.os.trans h.os, k.tape.trans h.tape, k.output.trans h.output, Nat.le_trans h.size k.size, fun i hi hn => (k.block i (Nat.lt_of_lt_of_le hi h.size) fun hm => by
  rcases hG i hm with h1 | h1
  ·exact hn h1
  ·omega).trans (h.block i hi hn)⟩
theorem Chg.below {w w' : World} (h : Chg w w' []) : Below w.heap.size w w' := ⟨h.os, h.tape, h.output, h.size, fun k hk => h.block k hk (by simp)⟩
theorem Chg.of_below {w w' : World} {F : List Nat} (h : Below w.heap.size w w') : Chg w w' F := ⟨h.os, h.tape, h.output, h.size, fun k hk _ => h.block k hk⟩
structure Cx where
 N : Nat
 w0 : World
 F0 : List Nat
 H : Nat → Option Obj
 K : List (Nat × Value)
 D : List Deferred
def noS (d : Nat) : List (Nat × Value) → Bool
  | [] => true
  | (t, _) :: r => match Nat.beq t d with
    | true => false
    | false => noS d r
theorem noS_mem {d : Nat} : ∀ {K : List (Nat × Value)}, noS d K = true → ∀ x ∈ K, x.1 ≠ d
  | (t, u) :: r, h, x, hx => by
    unfold noS at h
    split at h
    · cases h
    · rename_i hb
      rcases List.mem_cons.1 hx with rfl | hx
      · exact fun e => by simp only at e; rw [e, Nat.beq_refl] at hb; cases hb
      · exact noS_mem h x hx
def okD (X : Cx) (d : Nat) : Bool := match Nat.blt d X.N with
 | true => noS d X.K
 | false => false
theorem okD_lt {X : Cx} {d : Nat} (h : okD X d = true) : Nat.blt d X.N = true ∧ noS d X.K = true := by
 unfold okD at h
 split at h
 ·rename_i hb; exact ⟨hb, h⟩
 ·cases h
structure Sim (X : Cx) (ρ : Rho) (S : St) (a : Act) (w : World) : Prop where
 hp : Hp ρ S w
 T : ∀ t av, lk S.T t = some av → ∃ v, a.tmps[t]? = some v ∧ RepV ρ av v
 df : a.defers = X.D ∧ ρ.H = X.H
 sz : a.tmps.size = X.N ∧ ∀ x ∈ X.K, a.tmps[x.1]? = some x.2
 fr : Chg X.w0 w X.F0
 ft : ∀ b ∈ feet ρ S, b ∈ X.F0 ∨ X.w0.heap.size ≤ b
section
variable {X : Cx} {ρ : Rho} {S : St} {a : Act} {w : World}
theorem Sim.put {d : Nat} {av : AV} {v : Value} (h : Sim X ρ S a w) (hd : okD X d = true) (hv : RepV ρ av v) : Sim X ρ ⟨(d, av) :: S.T, S.B, S.R, S.M⟩ (a.put (some d) v) w := by
 have hdN : d < X.N := by have h9 : Nat.ble (d + 1) X.N = true := (okD_lt hd).1; have := Nat.le_of_ble_eq_true h9; omega
 refine ⟨⟨h.hp.H, h.hp.B, h.hp.R, h.hp.M, h.hp.nd, h.hp.dj⟩, fun t av' ht => ?_, h.df, ⟨by simpa [Act.put] using h.sz.1, fun x hx => by
  have hne := noS_mem (okD_lt hd).2 x hx
  simp only [Act.put]; rw [Array.getElem?_setIfInBounds_ne (Ne.symm hne)]; exact h.sz.2 x hx⟩, h.fr, h.ft⟩
 unfold lk at ht
 split at ht
 ·rename_i e
  subst e
  cases ht
  exact ⟨v, by simp [Act.put, h.sz.1, hdN], hv⟩
 ·rename_i e
  obtain ⟨v', h1, h2⟩ := h.T t av' ht
  exact ⟨v', by simp only [Act.put]; rw [Array.getElem?_setIfInBounds_ne (Ne.symm (fun h9 => e h9.symm))]; exact h1, h2⟩
theorem Sim.skip (h : Sim X ρ S a w) (v : Value) : Sim X ρ S (a.put none v) w := h
theorem Sim.weakT {T : List (Nat × AV)} (h : Sim X ρ S a w) (hT : ∀ t av, lk T t = some av → lk S.T t = some av ∨ av = .no ∧ t < X.N) : Sim X ρ ⟨T, S.B, S.R, S.M⟩ a w :=
 ⟨⟨h.hp.H, h.hp.B, h.hp.R, h.hp.M, h.hp.nd, h.hp.dj⟩, fun t av ht => by
  rcases hT t av ht with h1 | ⟨rfl, h1⟩
  ·exact h.T t av h1
  ·exact ⟨a.tmps[t]'(by rw [h.sz.1]; exact h1), by rw [Array.getElem?_eq_getElem], trivial⟩, h.df, h.sz, h.fr, h.ft⟩
theorem Hp.next {S : St} {w' : World} (h : Hp ρ S w) (hc : ∀ b, b < w.heap.size → w'.heap[b]? = w.heap[b]?) : Hp ρ S w' := by
 refine ⟨fun b o hb => ?_, fun x hx => ?_, fun x hx => (h.R x hx).keep fun b hb => hc b ((h.R x hx).lt b hb), fun x hx => ?_, h.nd, h.dj⟩
 ·have := h.H b o hb
  rw [hc b (heap_lt this)]; exact this
 ·obtain ⟨vs, h1, h2⟩ := h.B x hx
  exact ⟨vs, by rw [hc _ (heap_lt h1)]; exact h1, h2⟩
 ·obtain ⟨es, c, h1, h2⟩ := h.M x hx
  exact ⟨es, c, by rw [hc _ (heap_lt h1)]; exact h1, h2⟩
theorem Sim.next {w' : World} (h : Sim X ρ S a w) (hb : Below w.heap.size w w') : Sim X ρ S a w' :=
 ⟨h.hp.next fun b hlt => hb.block b hlt, h.T, h.df, h.sz, h.fr.step (Chg.of_below (F := []) hb) (by simp), h.ft⟩
theorem Sim.drew (h : Sim X ρ S a w) : Sim X ρ S a w.drew := h.next (Below.refl _ _).drew
end
inductive Sh where
 | st (f : List (Nat × Nat × Bool))
 | ar (len e size : Nat) (agg : Bool)
 | sl (e : Nat)
 | bo
 | ot
structure TI where
 size : Nat
 bytes : Nat
 zero : List C
 sh : Sh
def Sh.agg : Sh → Bool
 | .st _ => true
 | .ar .. => true
 | _ => false
def cv : C → Value
 | .v x => x
 | _ => .slice none 0 0
def vEq : C → Value → Bool
 | .v (.int k n), .int j m => decide (k = j) && decide (n = m)
 | .v (.bool b), .bool c => decide (b = c)
 | .v (.pointer none), .pointer none => true
 | .v (.map none), .map none => true
 | .v .nilFunc, .nilFunc => true
 | .v .nilIface, .nilIface => true
 | .nil, .slice none l c => decide (l = 0) && decide (c = 0)
 | _, _ => false
theorem vEq_cv {c : C} {x : Value} (h : vEq c x = true) : x = cv c ∧ (∀ H, RdX H c x) ∧ ∀ w, OwX w c x [] := by
 unfold vEq at h
 split at h
 ·simp only [Bool.and_eq_true, decide_eq_true_eq] at h; obtain ⟨rfl, rfl⟩ := h; exact ⟨rfl, fun _ => ⟨0, rfl, rfl⟩, fun _ => ⟨0, ⟨rfl, rfl⟩, rfl⟩⟩
 ·simp only [decide_eq_true_eq] at h; subst h; exact ⟨rfl, fun _ => ⟨0, rfl, rfl⟩, fun _ => ⟨0, ⟨rfl, rfl⟩, rfl⟩⟩
 ·exact ⟨rfl, fun _ => ⟨0, rfl, rfl⟩, fun _ => ⟨0, ⟨rfl, rfl⟩, rfl⟩⟩
 ·exact ⟨rfl, fun _ => ⟨0, rfl, rfl⟩, fun _ => ⟨0, ⟨rfl, rfl⟩, rfl⟩⟩
 ·exact ⟨rfl, fun _ => ⟨0, rfl, rfl⟩, fun _ => ⟨0, ⟨rfl, rfl⟩, rfl⟩⟩
 ·exact ⟨rfl, fun _ => ⟨0, rfl, rfl⟩, fun _ => ⟨0, ⟨rfl, rfl⟩, rfl⟩⟩
 ·simp only [Bool.and_eq_true, decide_eq_true_eq] at h; obtain ⟨rfl, rfl⟩ := h; exact ⟨rfl, fun _ => ⟨0, rfl⟩, fun _ => ⟨0, rfl, rfl⟩⟩
 ·cases h
def all2 : List C → List Value → Bool
 | [], [] => true
 | c :: cs, x :: xs => vEq c x && all2 cs xs
 | _, _ => false
theorem all2_eq : ∀ {cs : List C} {xs : List Value}, all2 cs xs = true → xs = cs.map cv ∧ ∀ c ∈ cs, (∀ H, RdX H c (cv c)) ∧ ∀ w, OwX w c (cv c) []
 | [], [], _ => ⟨rfl, by simp⟩
 | c :: cs, x :: xs, h => by
  simp only [all2, Bool.and_eq_true] at h
  obtain ⟨rfl, h1, h3⟩ := vEq_cv h.1
  obtain ⟨rfl, h2⟩ := all2_eq h.2
  refine ⟨rfl, fun d hd => ?_⟩
  rcases List.mem_cons.1 hd with rfl | hd
  ·exact ⟨h1, h3⟩
  ·exact h2 d hd
 | [], _ :: _, h => by cases h
 | _ :: _, [], h => by cases h
def aggB (P : Program) (T : TypeId) : Bool :=
 match P.underlying T with
 | some (.struct _) => true
 | some (.array _ _) => true
 | _ => false
def sizB (P : Program) (T : TypeId) (n : Nat) : Bool := match P.info? T with | some i => decide (i.size = n) | none => false
def undB (P : Program) (T : TypeId) : Bool := (P.underlying T).isSome
def fldsB (P : Program) : List Field → List (Nat × Nat × Bool) → Bool
 | [], [] => true
 | f :: fs, (o, s, g) :: r => decide (f.offset = o) && decide (0 < s) && sizB P f.type s && undB P f.type && (aggB P f.type == g) && (g || decide (s = 1)) && fldsB P fs r
 | _, _ => false
def shB (P : Program) : TypeDesc → Sh → Bool
 | .struct fs, s => match s with
  | .st l => fldsB P fs.toList l
  | _ => false
 | .array n e, s => match s with
  | .ar m e' sz g => decide (n = m) && decide (e = e') && decide (0 < sz) && sizB P e sz && undB P e && (aggB P e == g) && (g || decide (sz = 1))
  | _ => false
 | .slice e, s => match s with
  | .sl e' => decide (e = e')
  | _ => false
 | .bool, s => match s with
  | .bo => true
  | _ => false
 | _, s => match s with
  | .ot => true
  | _ => false
def tchk (P : Program) (T : TypeId) (i : TI) : Bool :=
  match P.info? T, P.underlying T with
  | some inf, some d => decide (inf.size = i.size) && decide (inf.bytes = i.bytes) && decide (0 < i.size) && (i.sh.agg || decide (i.size = 1)) && decide (i.zero.length = i.size) && shB P d i.sh &&
    (match inf.zero with
      | some (.agg vs) => i.sh.agg && all2 i.zero vs.toList
      | some x => !i.sh.agg && all2 i.zero [x]
      | none => false)
  | _, _ => false
structure TOk (P : Program) (T : TypeId) (i : TI) : Prop where
 info : ∃ inf, P.info? T = some inf ∧ inf.size = i.size ∧ inf.bytes = i.bytes ∧ inf.zero = some (if i.sh.agg then .agg (i.zero.map cv).toArray else (i.zero.map cv).headD undef)
 und : ∃ d, P.underlying T = some d ∧ shB P d i.sh = true
 pos : 0 < i.size
 one : i.sh.agg = false → i.size = 1
 len : i.zero.length = i.size
 zero : ∀ c ∈ i.zero, (∀ H, RdX H c (cv c)) ∧ ∀ w, OwX w c (cv c) []
theorem tok {P : Program} {T : TypeId} {i : TI} (h : tchk P T i = true) : TOk P T i := by
 unfold tchk at h
 split at h
 ·rename_i inf d hi hd
  simp only [Bool.and_eq_true, decide_eq_true_eq, Bool.or_eq_true] at h
  obtain ⟨⟨⟨⟨⟨⟨h1, h2⟩, h3⟩, h4⟩, h5⟩, h6⟩, h7⟩ := h
  have hz : inf.zero = some (if i.sh.agg then .agg (i.zero.map cv).toArray else (i.zero.map cv).headD undef) ∧ ∀ c ∈ i.zero, (∀ H, RdX H c (cv c)) ∧ ∀ w, OwX w c (cv c) [] := by
   split at h7
   ·rename_i vs hv
    simp only [Bool.and_eq_true] at h7
    obtain ⟨e, h9⟩ := all2_eq h7.2
    refine ⟨?_, h9⟩
    rw [hv, if_pos h7.1, ← e]
   ·rename_i x _ hv
    simp only [Bool.and_eq_true, Bool.not_eq_true'] at h7
    obtain ⟨e, h9⟩ := all2_eq h7.2
    refine ⟨?_, h9⟩
    rw [hv, h7.1, ← e]
    rfl
   ·cases h7
  exact ⟨⟨inf, hi, h1, h2, hz.1⟩, ⟨d, hd, h6⟩, h3, fun hg => h4.resolve_left (by simp [hg]), h5, hz.2⟩
 ·cases h
def TTOk (P : Program) (TT : List (Nat × TI)) : Prop := ∀ T i, lk TT T = some i → TOk P T i
theorem ttok {P : Program} {TT : List (Nat × TI)} (h : (TT.all fun x => tchk P x.1 x.2) = true) : TTOk P TT := fun T i hT => tok (List.all_eq_true.1 h (T, i) (lk_mem hT))
section
variable {P : Program} {T : TypeId} {i : TI} {w : World}
theorem shB_agg {d : TypeDesc} {s : Sh} (h : shB P d s = true) : s.agg = (match d with | .struct _ => true | .array _ _ => true | _ => false) := by
 cases d <;> cases s <;> first | rfl | (cases h)
theorem TOk.isAgg (h : TOk P T i) : (isAgg T).run P w = .ok i.sh.agg w := by
 obtain ⟨d, hd, hs⟩ := h.und
 rw [shB_agg hs]
 unfold Go.isAgg
 rw [Sem.run_bind, run_underlying hd]
 cases d <;> rfl
theorem TOk.sizeOf (h : TOk P T i) : (sizeOf T).run P w = .ok i.size w := by
 obtain ⟨inf, hi, h1, _⟩ := h.info
 simp [Go.sizeOf, typeInfo, hi, h1]
theorem TOk.zeroValue (h : TOk P T i) : (zeroValue T).run P w = .ok (if i.sh.agg then .agg (i.zero.map cv).toArray else (i.zero.map cv).headD undef) w := by
 obtain ⟨inf, hi, _, _, h1⟩ := h.info
 simp [Go.zeroValue, typeInfo, hi, h1]
end
theorem headD_one {us : List Value} (h : us.length = 1) : us = [us.headD undef] := by
 match us, h with
 | [x], _ => rfl
def mkV (g : Bool) (us : List Value) : Value := if g then .agg us.toArray else us.headD undef
theorem mkV_rep {ρ : Rho} {g : Bool} {l : List AC} {us : List Value} (h : L2 (RepC ρ) l us) (h1 : g = false → us.length = 1) : RepP ρ (g, l) (mkV g us) := by
 unfold RepP mkV
 cases g
 ·simp only [Bool.false_eq_true, if_false]
  have := headD_one (h1 rfl)
  rw [← this]
  exact h
 ·simp only [if_true]
  exact ⟨us, rfl, h⟩
theorem rep_cells {ρ : Rho} {g : Bool} {l : List AC} {u : Value} (h : RepP ρ (g, l) u) : ∃ us : List Value, L2 (RepC ρ) l us ∧ u = mkV g us ∧ (g = false → us.length = 1) := by
 unfold RepP at h
 cases g
 ·exact ⟨[u], h, rfl, fun _ => rfl⟩
 ·obtain ⟨vs, rfl, h2⟩ := h
  exact ⟨vs, h2, rfl, fun h => by cases h⟩
theorem run_load_cells {P : Program} {T : TypeId} {i : TI} {w : World} (ht : TOk P T i) {g o : Nat} {us : List Value} (hc : ∀ (j : Nat) (u : Value), us[j]? = some u → w.cell? ⟨g, o + j, none⟩ = some u) (hl : us.length = i.size) :
  (Instr.loadAt T (.pointer (some ⟨g, o, none⟩))).run P w = .ok (mkV i.sh.agg us) w := by
 have hadd : ∀ j, (Addr.mk g o none).add j = ⟨g, o + j, none⟩ := fun j => by unfold Addr.add; split <;> simp_all
 unfold Instr.loadAt Instr.sureAddr loadVar mkV
 simp only [Sem.run_bind, Sem.run_pure, Result.andThen_ok, ht.isAgg]
 cases hg : i.sh.agg
 ·simp only [Bool.false_eq_true, if_false]
  have h1 := ht.one hg
  have hu := headD_one (hl.trans h1)
  have := hc 0 (us.headD undef) (by rw [hu]; rfl)
  simp only [Nat.add_zero] at this
  simp [load, Sem.run, this]
 ·simp only [if_true, Sem.run_bind, ht.sizeOf, Result.andThen_ok]
  rw [← hl, run_loadCells_list w _ us (fun j v hj => by rw [hadd]; exact hc j v hj)]
  rfl
def takeO {α : Type} : Nat → List α → Option (List α)
 | 0, _ => some []
 | _ + 1, [] => none
 | n + 1, x :: xs => match takeO n xs with
  | some r => some (x :: r)
  | none => none
def dropO {α : Type} : Nat → List α → Option (List α)
 | 0, l => some l
 | _ + 1, [] => none
 | n + 1, _ :: xs => dropO n xs
theorem takeO_eq {α : Type} : ∀ {n : Nat} {l r : List α}, takeO n l = some r → r = l.take n ∧ r.length = n
 | 0, _, r, h => by cases h; simp
 | _ + 1, [], _, h => by cases h
 | n + 1, x :: xs, r, h => by
  unfold takeO at h
  split at h
  ·rename_i r' hr
   cases h
   obtain ⟨rfl, h2⟩ := takeO_eq hr
   exact ⟨by simp, by simp [h2]⟩
  ·cases h
theorem dropO_eq {α : Type} : ∀ {n : Nat} {l r : List α}, dropO n l = some r → r = l.drop n ∧ n ≤ l.length
 | 0, l, r, h => by cases h; simp
 | _ + 1, [], _, h => by cases h
 | n + 1, x :: xs, r, h => by
  obtain ⟨rfl, h2⟩ := dropO_eq (n := n) h
  exact ⟨rfl, by simp; exact h2⟩
def mapCO : List C → List AC
 | [] => []
 | c :: r => .c c :: mapCO r
theorem mapCO_eq : ∀ l : List C, mapCO l = l.map AC.c
 | [] => rfl
 | c :: r => by simp [mapCO, mapCO_eq r]
theorem rd_v {H : Nat → Option Obj} {x u : Value} (h : RdX H (.v x) u) : u = x := by obtain ⟨d, hd⟩ := h; cases d <;> exact hd.1
theorem rd_nil {H : Nat → Option Obj} {u : Value} (h : RdX H .nil u) : u = .slice none 0 0 := by obtain ⟨d, hd⟩ := h; cases d <;> exact hd
theorem rd_s {H : Nat → Option Obj} {n : Nat} {l : List (List C)} {u : Value} (h : RdX H (.s n l) u) : ∃ ao cap, u = .slice ao l.length cap ∧ l.length ≤ cap ∧ cap ≤ maxLen ∧ (∀ cs ∈ l, cs.length = n) ∧
  (l = [] ∨ ∃ b off, ao = some ⟨b, off, none⟩ ∧ ∀ k cs, l[k]? = some cs → ∀ j c, cs[j]? = some c → ∃ x, rcell H b (off + k * n + j) = some x ∧ RdX H c x) := by
 obtain ⟨d, hd⟩ := h
 cases d with
 | zero => exact hd.elim
 | succ d =>
  obtain ⟨ao, cap, h1, h2, h3, h4, h5⟩ := hd
  refine ⟨ao, cap, h1, h2, h3, h4, ?_⟩
  rcases h5 with h5 | ⟨b, off, h6, h7⟩
  ·exact .inl h5
  ·exact .inr ⟨b, off, h6, fun k cs hk j c hj => let ⟨x, h8, h9⟩ := h7 k cs hk j c hj; ⟨x, h8, d, h9⟩⟩
def mapOO : List C → Option (List AC)
 | [] => some []
 | c :: r => match mapOO r with
  | some r' => some (.c c :: r')
  | none => none
theorem mapOO_eq : ∀ {l : List C} {r : List AC}, mapOO l = some r → r = mapCO l
 | [], r, h => by cases h; rfl
 | c :: l, r, h => by
  unfold mapOO at h
  split at h
  ·rename_i r' hr
   cases h
   rw [mapOO_eq hr]; rfl
  ·cases h
def constV : Value → Option AV
 | .int k n => some (.p false [.c (.v (.int k n))])
 | .bool b => some (.p false [.c (.v (.bool b))])
 | .slice none l c => if l = 0 then if c = 0 then some (.p false [.c .nil]) else none else none
 | .pointer none => some (.p false [.c (.v (.pointer none))])
 | .nilFunc => some (.p false [.c (.v .nilFunc)])
 | .nilIface => some (.p false [.c (.v .nilIface)])
 | _ => none
def opv (T : List (Nat × AV)) : Operand → Option AV
 | .tmp t => lk T t
 | .const v => constV v
 | .func f => some (.p false [.c (.v (.func (.func f) #[] #[]))])
 | .global _ => none
theorem constV_rep {ρ : Rho} {v : Value} {av : AV} (h : constV v = some av) : RepV ρ av v := by
 unfold constV at h
 split at h
 ·cases h; exact ⟨⟨0, rfl, rfl⟩, trivial⟩
 ·cases h; exact ⟨⟨0, rfl, rfl⟩, trivial⟩
 ·split at h
  ·split at h
   ·rename_i e1 e2; subst e1; subst e2; cases h; exact ⟨⟨0, rfl⟩, trivial⟩
   ·cases h
  ·cases h
 ·cases h; exact ⟨⟨0, rfl, rfl⟩, trivial⟩
 ·cases h; exact ⟨⟨0, rfl, rfl⟩, trivial⟩
 ·cases h; exact ⟨⟨0, rfl, rfl⟩, trivial⟩
 ·cases h
section
variable {X : Cx} {ρ : Rho} {S : St} {a : Act} {w : World}
theorem opv_rep (hs : Sim X ρ S a w) {x : Operand} {av : AV} (h : opv S.T x = some av) : RepV ρ av (a.eval x) := by
 cases x with
 | tmp t =>
  obtain ⟨v, h1, h2⟩ := hs.T t av h
  have e : a.eval (.tmp t) = v := by simp [Act.eval, Array.getD_eq_getD_getElem?, h1]
  rw [e]; exact h2
 | const v => exact constV_rep h
 | global g => cases h
 | func f => cases h; exact ⟨⟨0, rfl, rfl⟩, trivial⟩
end
def Quiet (P : Program) (X : Cx) (S : St) (op : Op) (av : AV) : Prop :=
 ∀ ρ a w, Sim X ρ S a w → ∃ v, RepV ρ av v ∧ ∀ (d : Option Tmp) (ty : TypeId) (pos : String) (af : Array Edge) (g : Option (Nat × Bool)) (w' : World), Below w.heap.size w w' → (execOp a.eval ⟨d, op, ty, pos, af, g⟩).run P w' = .ok (.value v) w'
def QuietW (P : Program) (X : Cx) (S : St) (op : Op) (av : AV) : Prop :=
 ∀ ρ a w, Sim X ρ S a w → ∃ v, RepV ρ av v ∧ ∀ (d : Option Tmp) (ty : TypeId) (pos : String) (af : Array Edge) (g : Option (Nat × Bool)) (w' : World), (execOp a.eval ⟨d, op, ty, pos, af, g⟩).run P w' = .ok (.value v) w'
theorem QuietW.q {P : Program} {X : Cx} {S : St} {op : Op} {av : AV} (h : QuietW P X S op av) : Quiet P X S op av := fun ρ a w hs => let ⟨v, h1, h2⟩ := h ρ a w hs; ⟨v, h1, fun d ty pos af g w' _ => h2 d ty pos af g w'⟩
section
variable {P : Program} {X : Cx} {S : St} {TT : List (Nat × TI)}
theorem qw_move {x : Operand} {av : AV} (h : opv S.T x = some av) : QuietW P X S (.move x) av :=
 fun _ a _ hs => ⟨a.eval x, opv_rep hs h, fun _ _ _ _ _ _ => rfl⟩
theorem qw_assign {x : Operand} {av : AV} (h : opv S.T x = some av) : QuietW P X S (.assign x) av :=
 fun _ a _ hs => ⟨a.eval x, opv_rep hs h, fun _ _ _ _ _ _ => rfl⟩
theorem q_move {x : Operand} {av : AV} (h : opv S.T x = some av) : Quiet P X S (.move x) av := (qw_move h).q
theorem q_assign {x : Operand} {av : AV} (h : opv S.T x = some av) : Quiet P X S (.assign x) av := (qw_assign h).q
def qPick (T : List (Nat × AV)) (c x y : Operand) : Option AV :=
 match opv T c with
 | some (.p false [.c (.v (.bool true))]) => opv T x
 | some (.p false [.c (.v (.bool false))]) => opv T y
 | _ => none
theorem q_pick {c x y : Operand} {av : AV} (h : qPick S.T c x y = some av) : Quiet P X S (.pick c x y) av := by
 intro ρ a w hs
 unfold qPick at h
 split at h
 ·rename_i hc
  have hb := opv_rep hs hc
  have hb' : a.eval c = .bool true := rd_v hb.1
  exact ⟨a.eval x, opv_rep hs h, fun _ _ _ _ _ _ _ => by simp [execOp, hb', asBool]⟩
 ·rename_i hc
  have hb := opv_rep hs hc
  have hb' : a.eval c = .bool false := rd_v hb.1
  exact ⟨a.eval y, opv_rep hs h, fun _ _ _ _ _ _ _ => by simp [execOp, hb', asBool]⟩
 ·cases h
theorem q_pick_t {c x y : Operand} {b : Bool} {av : AV} (hc : opv S.T c = some (.p false [.c (.v (.bool b))])) (hb : b = true) (h : opv S.T x = some av) : Quiet P X S (.pick c x y) av :=
 q_pick (by subst hb; unfold qPick; rw [hc]; exact h)
theorem q_pick_f {c x y : Operand} {b : Bool} {av : AV} (hc : opv S.T c = some (.p false [.c (.v (.bool b))])) (hb : b = false) (h : opv S.T y = some av) : Quiet P X S (.pick c x y) av :=
 q_pick (by subst hb; unfold qPick; rw [hc]; exact h)
def mkP : Bool → List AC → Option AV
 | true, l => some (.p true l)
 | false, l => some (.p false l)
theorem mkP_eq {b : Bool} {l : List AC} {av : AV} (h : mkP b l = some av) : av = .p b l := by cases b <;> (cases h; rfl)
def cutO {α : Type} (o n : Nat) (l : List α) : Option (List α) :=
 match dropO o l with
 | some r => takeO n r
 | none => none
theorem cutO_eq {α : Type} {o n : Nat} {l r : List α} (h : cutO o n l = some r) : r = (l.drop o).take n ∧ r.length = n := by
 unfold cutO at h
 split at h
 ·rename_i r' hr
  obtain ⟨rfl, _⟩ := dropO_eq hr
  exact takeO_eq h
 ·cases h
def qLoad (TT : List (Nat × TI)) (S : St) (t : TypeId) (x : Operand) : Option AV :=
 match lk TT t with
 | some i => match opv S.T x with
  | some (.p false [.pb b o]) => match lk S.B b with
   | some (_, cs) => match cutO o i.size cs with
    | some r => mkP i.sh.agg r
    | none => none
   | none => none
  | some (.p false [.pe cs]) => match cutO 0 i.size cs with
   | some r => match mapOO r with
    | some r' => mkP i.sh.agg r'
    | none => none
   | none => none
  | _ => none
 | none => none
theorem q_load {t : TypeId} {x : Operand} {av : AV} (hT : TTOk P TT) (h : qLoad TT S t x = some av) : Quiet P X S (.load t x) av := by
 intro ρ a w hs
 unfold qLoad at h
 split at h
 ·rename_i i hi
  have ht := hT t i hi
  split at h
  ·rename_i b o hx
   split at h
   ·rename_i ty cs hb
    split at h
    ·rename_i r hr
     obtain rfl := mkP_eq h
     obtain ⟨rfl, hrl⟩ := cutO_eq hr
     have hp : a.eval x = .pointer (some ⟨ρ.box b, o, none⟩) := (opv_rep hs hx).1
     obtain ⟨vs, h1, h2⟩ := hs.hp.B _ (lk_mem hb)
     have h3 := (h2.drop o).take i.size
     have hl3 : ((vs.drop o).take i.size).length = i.size := by rw [h3.len, hrl]
     refine ⟨mkV i.sh.agg ((vs.drop o).take i.size), mkV_rep h3 (fun hg => by rw [hl3, ht.one hg]), fun d ty' pos af g w' hw => ?_⟩
     have hcell : ∀ (j : Nat) (u : Value), ((vs.drop o).take i.size)[j]? = some u → w'.cell? ⟨ρ.box b, o + j, none⟩ = some u := fun j u hj => by
      rw [hw.cell (p := ⟨ρ.box b, o + j, none⟩) (heap_lt h1)]
      unfold World.cell?
      simp only [h1, Option.isSome_none, Bool.false_eq_true, if_false]
      rw [List.getElem?_take] at hj
      split at hj
      ·rw [List.getElem?_drop] at hj
       simpa using hj
      ·cases hj
     have := run_load_cells (w := w') ht hcell hl3
     simp [execOp, hp, this]
    ·cases h
   ·cases h
  ·rename_i cs hx
   split at h
   ·rename_i r hr
    split at h
    case h_2 => cases h
    rename_i r2 hr2
    obtain rfl := mapOO_eq hr2
    obtain rfl := mkP_eq h
    obtain ⟨rfl, hrl⟩ := cutO_eq hr
    obtain ⟨g, o, hp, hc⟩ := (opv_rep hs hx).1
    simp only [List.drop_zero] at hrl ⊢
    have hch : ∀ (n : Nat) (cs : List C) (o : Nat), n ≤ cs.length → (∀ j c, cs[j]? = some c → ∃ x, rcell ρ.H g (o + j) = some x ∧ RdX ρ.H c x) →
      ∃ us : List Value, us.length = n ∧ L2 (RepC ρ) ((cs.take n).map AC.c) us ∧ ∀ (j : Nat) (u : Value), us[j]? = some u → rcell ρ.H g (o + j) = some u := by
     intro n
     induction n with
     | zero => exact fun cs o _ _ => ⟨[], rfl, by simp [L2], by simp⟩
     | succ n ih =>
      intro cs o hn hc
      match cs, hn with
      | c :: cs, hn =>
       obtain ⟨x, h1, h2⟩ := hc 0 c rfl
       obtain ⟨us, h3, h4, h5⟩ := ih cs (o + 1) (by simpa using hn) (fun j c hj => by
        obtain ⟨x, h6, h7⟩ := hc (j + 1) c (by simpa using hj)
        exact ⟨x, by rw [show o + 1 + j = o + (j + 1) by omega]; exact h6, h7⟩)
       refine ⟨x :: us, by simp [h3], ⟨h2, h4⟩, fun j u hj => ?_⟩
       cases j with
       | zero => simp only [List.getElem?_cons_zero, Option.some.injEq] at hj; subst hj; exact h1
       | succ j =>
        have := h5 j u (by simpa using hj)
        rw [show o + (j + 1) = o + 1 + j by omega]; exact this
    obtain ⟨us, hul, hu2, hu3⟩ := hch i.size cs o (by rw [List.length_take] at hrl; omega) hc
    refine ⟨mkV i.sh.agg us, mkV_rep (by rw [mapCO_eq]; exact hu2) (fun hg => by rw [hul, ht.one hg]), fun d ty' pos af g' w' hw => ?_⟩
    have hHw : ∀ b o, ρ.H b = some o → w'.heap[b]? = some o := fun b o hb => by
     have := hs.hp.H b o hb
     rw [hw.block b (heap_lt this)]; exact this
    have := run_load_cells (w := w') ht (g := g) (o := o) (fun j u hj => rcell_cell hHw (hu3 j u hj)) hul
    simp [execOp, hp, this]
   ·cases h
  ·cases h
 ·cases h
end
end Go.Proofs.YtahkjonokeifmaaGreat
