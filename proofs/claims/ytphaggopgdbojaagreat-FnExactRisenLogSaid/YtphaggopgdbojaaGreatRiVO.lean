/- Arguments: opened, as trees of cells. No program in it. -/
import Derived.Test.YtphaggopgdbojaaGreatRiV1
import Derived.OpenShut
import Derived.Deep.Slices
namespace Go.Proofs.YtphaggopgdbojaaGreat
open Go.ChangeShapes Go.WideShapes Go.ChangeAt Go.RowKit Go.Deep
set_option linter.unusedVariables false
def F2 {α β : Type} (R : α → β → Prop) : List α → List β → Prop
  | [], [] => True
  | a :: as, b :: bs => R a b ∧ F2 R as bs
  | _, _ => False
theorem F2.append {α β : Type} {R : α → β → Prop} : ∀ {a c : List α} {b d : List β}, F2 R a b → F2 R c d → F2 R (a ++ c) (b ++ d)
  | [], _, [], _, _, h => h
  | _ :: _, _, _ :: _, _, h, k => ⟨h.1, F2.append h.2 k⟩
  | [], _, _ :: _, _, h, _ => h.elim
  | _ :: _, _, [], _, h, _ => h.elim
theorem F2.length {α β : Type} {R : α → β → Prop} : ∀ {a : List α} {b : List β}, F2 R a b → a.length = b.length
  | [], [], _ => rfl
  | _ :: _, _ :: _, h => by simp [F2.length h.2]
  | [], _ :: _, h => h.elim
  | _ :: _, [], h => h.elim
theorem F2.cons {α β : Type} {R : α → β → Prop} {a : α} {as : List α} {bs : List β} (h : F2 R (a :: as) bs) : ∃ b r, bs = b :: r ∧ R a b ∧ F2 R as r := by
  cases bs with
  | nil => exact h.elim
  | cons b r => exact ⟨b, r, rfl, h.1, h.2⟩
theorem F2.nil {α β : Type} {R : α → β → Prop} {bs : List β} (h : F2 R ([] : List α) bs) : bs = [] := by
  cases bs with
  | nil => rfl
  | cons b r => exact h.elim

/-- one cell of a struct's flat row -/
inductive Cl where
  | int
  | bool
  | slice (e : TypeId)

def flatFields (P : Program) (g : TypeId → Option (List Cl)) : List Field → Nat → Option (List Cl)
  | [], _ => some []
  | f :: r, off =>
    match g f.type with
    | some a => if f.offset = off ∧ P.cellsOf f.type = a.length then (flatFields P g r (off + a.length)).map (a ++ ·) else none
    | none => none

/-- the flat row of a type -/
def flat (P : Program) : Nat → TypeId → Option (List Cl)
  | 0, _ => none
  | n + 1, t =>
    match P.underlying t with
    | some (.int .i64) => some [.int]
    | some .bool => some [.bool]
    | some (.slice e) => some [.slice e]
    | some (.struct fs) =>
      match flatFields P (flat P n) fs.toList 0 with
      | some l => if P.cellsOf t = l.length then some l else none
      | none => none
    | _ => none

section
variable {H : Type} {enc : TypeId × Value → H} {P : Program} {w : World} {base : Nat} {spare : Nat → Bool} {held : Bool}

def ClOk (enc : TypeId × Value → H) (P : Program) (w : World) (base : Nat) (spare : Nat → Bool) (held : Bool) : Cl → Value → Prop
  | .int, v => ∃ x, v = .int .i64 x
  | .bool, v => ∃ b, v = .bool b
  | .slice e, v => v = .slice none 0 0 ∨
      ∃ (a : Addr) (len cap n : Nat), v = .slice (some a) len cap ∧ len ≤ cap ∧ cap ≤ maxLen ∧
        ∀ i, i < len → ∃ cs' y, w.cells? base (a.add (i * P.cellsOf e)) (P.cellsOf e) = some cs' ∧ DataW.trod enc P w base spare held n e cs' = some y

theorem flatFields_open (g : TypeId → Option (List Cl)) {n : Nat}
    (hg : ∀ t cs x l, g t = some l → DataW.trod enc P w base spare held n t cs = some x → F2 (ClOk enc P w base spare held) l cs) (cs : List Value) :
    ∀ (fs : List Field) (off : Nat) (l : List Cl), flatFields P g fs off = some l → (∀ f ∈ fs, ∃ y, DataW.trod enc P w base spare held n f.type ((cs.drop f.offset).take (P.cellsOf f.type)) = some y) →
      F2 (ClOk enc P w base spare held) l ((cs.drop off).take l.length)
  | [], off, l, h, _ => by
    simp [flatFields] at h
    subst h
    simp [F2]
  | f :: r, off, l, h, hf => by
    unfold flatFields at h
    split at h
    · rename_i a ha
      split at h
      · rename_i hc
        obtain ⟨hoff, hsz⟩ := hc
        cases hr : flatFields P g r (off + a.length) with
        | none => rw [hr] at h; simp at h
        | some b =>
          rw [hr] at h
          simp only [Option.map_some, Option.some.injEq] at h
          subst h
          obtain ⟨y, hy⟩ := hf f (by simp)
          have h1 := hg _ _ _ _ ha hy
          have h2 := flatFields_open g hg cs r _ b hr (fun f' hf' => hf f' (by simp [hf']))
          rw [hoff, hsz] at h1
          have e : (cs.drop off).take (a ++ b).length = (cs.drop off).take a.length ++ (cs.drop (off + a.length)).take b.length := by
            rw [List.length_append, List.take_add, List.drop_drop]
          rw [e]
          exact h1.append h2
      · simp at h
    · simp at h

theorem flat_open : ∀ (n : Nat) (t : TypeId) (cs : List Value) (x : DataW H × List MemPlace) (l : List Cl) (fuel : Nat), flat P n t = some l → DataW.trod enc P w base spare held fuel t cs = some x →
    F2 (ClOk enc P w base spare held) l cs
  | 0, _, _, _, _, _, h, _ => by simp [flat] at h
  | n + 1, t, cs, x, l, fuel, h, ht => by
    unfold flat at h
    split at h
    · rename_i hu
      obtain ⟨m, rfl, _, hw⟩ := DataW.trod_int hu ht
      simp at h; subst h
      exact ⟨⟨m, rfl⟩, trivial⟩
    · rename_i hu
      obtain ⟨b, rfl, _⟩ := DataW.trod_bool hu ht
      simp at h; subst h
      exact ⟨⟨b, rfl⟩, trivial⟩
    · rename_i e hu
      simp at h; subst h
      rcases open_slice hu ht with ⟨rfl, _⟩ | ⟨a, len, cap, m, k, D, Pl, rfl, hb, hl, hm, hmm, _, hi⟩
      · exact ⟨.inl rfl, trivial⟩
      · refine ⟨.inr ⟨a, len, cap, k, rfl, hl, hm, fun i hlt => ?_⟩, trivial⟩
        obtain ⟨cs', h1, h2⟩ := hi i (by rw [hmm]; split <;> omega)
        exact ⟨cs', _, h1, h2⟩
    · rename_i fs hu
      obtain ⟨xs, k, rfl, _, hl, hxl, hf⟩ := DataW.trod_struct hu ht
      split at h
      · rename_i l' hfl
        split at h
        · rename_i hc
          simp at h; subst h
          have := flatFields_open (enc := enc) (w := w) (base := base) (spare := spare) (held := held) (flat P n) (n := k) (fun t cs x l h1 h2 => flat_open n t cs x l k h1 h2) cs fs.toList 0 l' hfl (fun f hmem => by
            obtain ⟨i, hi⟩ := List.getElem?_of_mem hmem
            have h3 := hf i f (by simpa using hi)
            have hlt : i < xs.length := by rw [hxl]; have := (List.getElem?_eq_some_iff.1 hi).1; simpa using this
            rw [List.getElem?_eq_getElem hlt] at h3
            exact ⟨_, h3⟩)
          simpa [← hc, ← hl] using this
        · simp at h
      · simp at h
    · simp at h

end
section
variable {H : Type} {enc : TypeId × Value → H} {P : Program} {w : World} {base : Nat} {spare : Nat → Bool} {held : Bool} {α : Type}
/-- lists, cell by cell -/
def RdL (w : World) (d : Nat) : List C → List Value → Prop
  | [], [] => True
  | c :: cs, u :: us => RdC (fun b => w.heap[b]?) d c u ∧ RdL w d cs us
  | _, _ => False
theorem RdL.len {d : Nat} : ∀ {cs : List C} {us : List Value}, RdL w d cs us → us.length = cs.length
  | [], [], _ => rfl
  | c :: cs, u :: us, h => by simp [RdL.len h.2]
  | [], _ :: _, h => h.elim
  | _ :: _, [], h => h.elim
theorem RdL.get {d : Nat} : ∀ {cs : List C} {us : List Value} {j : Nat} {c : C}, RdL w d cs us → cs[j]? = some c → ∃ u, us[j]? = some u ∧ RdC (fun b => w.heap[b]?) d c u
  | c :: cs, u :: us, 0, _, h, hj => by simp only [List.getElem?_cons_zero, Option.some.injEq] at hj; subst hj; exact ⟨u, rfl, h.1⟩
  | c :: cs, u :: us, j + 1, _, h, hj => by simp only [List.getElem?_cons_succ] at hj ⊢; exact RdL.get h.2 hj
  | [], [], _, _, _, hj => by simp at hj
  | [], _ :: _, _, _, h, _ => h.elim
  | _ :: _, [], _, _, h, _ => h.elim
theorem rcell_of {b o : Nat} {x : Value} (h : w.cell? ⟨b, o, none⟩ = some x) : rcell (fun b => w.heap[b]?) b o = some x := by
  unfold World.cell? at h
  unfold rcell
  simp only at h ⊢
  cases hb : w.heap[b]? with
  | none => rw [hb] at h; cases h
  | some ob =>
    rw [hb] at h
    cases ob <;> first | exact h | cases h
theorem rdv {d : Nat} {x : Value} (h : x.oneCell' = true) : RdC (fun b => w.heap[b]?) d (.v x) x := by cases d <;> exact ⟨rfl, h⟩
/-- how values of a type open: as the cells f x of some x -/
def Opn (enc : TypeId × Value → H) (P : Program) (w : World) (base : Nat) (spare : Nat → Bool) (held : Bool) (d : Nat) (f : α → List C) (t : TypeId) : Prop :=
  ∀ n cs y, DataW.trod enc P w base spare held n t cs = some y → ∃ x, RdL w d (f x) cs
theorem opn_list {d n : Nat} {f : α → List C} {e : TypeId} {v : Value} (hC : P.cellsOf e = n) (hn : 0 < n) (hl : ∀ x, (f x).length = n) (hO : Opn enc P w base spare held d f e) (h : ClOk enc P w base spare held (.slice e) v) :
    ∃ l : List α, RdC (fun b => w.heap[b]?) (d + 1) (.s n (l.map f)) v := by
  rcases h with rfl | ⟨a, len, cap, k, rfl, h1, h2, hi⟩
  · exact ⟨[], none, 0, rfl, Nat.le_refl _, Nat.zero_le _, by simp, .inl rfl⟩
  · have hch : ∃ l : List α, l.length = len ∧ ∀ i x, l[i]? = some x → ∃ vs, RdL w d (f x) vs ∧ w.cells? base (a.add (i * n)) n = some vs := by
      clear h1
      induction len with
      | zero => exact ⟨[], rfl, by simp⟩
      | succ k ih =>
        obtain ⟨l, h3, h4⟩ := ih (fun i h => hi i (by omega))
        obtain ⟨cs', y, h5, h6⟩ := hi k (by omega)
        obtain ⟨x, h7⟩ := hO _ _ _ h6
        rw [hC] at h5
        refine ⟨l ++ [x], by simp [h3], fun i q e1 => ?_⟩
        by_cases hik : i < k
        · rw [List.getElem?_append_left (by omega)] at e1
          exact h4 i q e1
        · have hik2 : i = k := by have := (List.getElem?_eq_some_iff.1 e1).1; simp at this; omega
          subst hik2
          rw [List.getElem?_append_right (by omega), h3, Nat.sub_self] at e1
          simp only [List.getElem?_cons_zero, Option.some.injEq] at e1
          subst e1
          exact ⟨cs', h7, h5⟩
    obtain ⟨l, rfl, h3⟩ := hch
    refine ⟨l, some a, cap, by rw [List.length_map], by rw [List.length_map]; exact h1, h2, fun cs hcs => ?_, ?_⟩
    · obtain ⟨x, _, rfl⟩ := List.mem_map.1 hcs
      exact hl x
    · by_cases h0 : l = []
      · subst h0; exact .inl rfl
      · have hpos : 0 < l.length := List.length_pos_iff.2 h0
        obtain ⟨b, off, spot⟩ := a
        have key : ∀ i x, l[i]? = some x → ∃ vs, RdL w d (f x) vs ∧ ∀ j c, vs[j]? = some c → w.cell? ((Addr.mk b off spot).add (i * n) |>.add j) = some c := fun i x e1 => by
          obtain ⟨vs, k1, k2⟩ := h3 i x e1
          refine ⟨vs, k1, fun j c hj => ?_⟩
          obtain ⟨_, _, k3⟩ := World.cells?_some k2
          have hjn : j < n := by have := (List.getElem?_eq_some_iff.1 hj).1; rwa [k1.len, hl] at this
          rw [k3 j hjn, hj]
        obtain ⟨vs0, k1, k2⟩ := key 0 _ (List.getElem?_eq_getElem hpos)
        have hk0 := k2 0 _ (List.getElem?_eq_getElem (by rw [k1.len, hl]; exact hn))
        have hspot : spot = none := by simpa [Addr.add] using World.cell?_spot hk0
        subst hspot
        refine .inr ⟨b, off, rfl, fun i cs e1 j c hj => ?_⟩
        rw [List.getElem?_map] at e1
        cases hx : l[i]? with
        | none => rw [hx] at e1; cases e1
        | some x =>
          rw [hx] at e1
          simp only [Option.map_some, Option.some.injEq] at e1
          subst e1
          obtain ⟨vs, k3, k4⟩ := key i x hx
          obtain ⟨u, k5, k6⟩ := k3.get hj
          have k7 := k4 j u k5
          rw [Addr.add_lit, Addr.add_lit] at k7
          exact ⟨u, rcell_of k7, k6⟩
/-- what one cell opens as -/
theorem opn_int {d : Nat} {v : Value} (h : ClOk enc P w base spare held .int v) : ∃ x : Int, RdC (fun b => w.heap[b]?) d (.v (.int .i64 x)) v := by
  obtain ⟨x, rfl⟩ := h
  exact ⟨x, rdv rfl⟩
theorem opn_bool {d : Nat} {v : Value} (h : ClOk enc P w base spare held .bool v) : ∃ x : Bool, RdC (fun b => w.heap[b]?) d (.v (.bool x)) v := by
  obtain ⟨x, rfl⟩ := h
  exact ⟨x, rdv rfl⟩
end
end Go.Proofs.YtphaggopgdbojaaGreat
