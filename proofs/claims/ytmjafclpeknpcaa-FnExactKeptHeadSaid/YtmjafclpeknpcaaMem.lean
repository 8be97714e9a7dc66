/- Small laws on memory, over any program: a struct's flat row of cells, opened from the reading of an argument; slices that are only read. -/
import Derived.WalkKit
import Derived.WalkSpells
import Derived.ProofKit
import Derived.ChangeOld
import Derived.Deep.Slices
import Derived.WalkSmall
import Derived.Deep.QuietTactic
namespace Go.Proofs.Ytmjafclpeknpcaa
open Go.ChangeShapes Go.WideShapes Go.ChangeAt Go.RowKit Go.Deep

def inI64 (x : Int) : Prop := -9223372036854775808 ≤ x ∧ x ≤ 9223372036854775807

theorem inI64_of_wf {x : Int} (h : (Lit.int .i64 x).wf = true) : inI64 x := by
  simp only [Lit.wf, Bool.and_eq_true, decide_eq_true_eq] at h
  have h1 : IntKind.i64.min = -9223372036854775808 := by decide
  have h2 : IntKind.i64.max = 9223372036854775807 := by decide
  unfold inI64
  omega

theorem bcell {W w1 : World} (hb : Below W.heap.size W w1) : (∀ b o, b < W.heap.size → w1.cell? ⟨b, o, none⟩ = W.cell? ⟨b, o, none⟩) ∧
    (∀ b o, b < W.heap.size → w1.frozen? ⟨b, o, none⟩ = W.frozen? ⟨b, o, none⟩) ∧ (∀ k, k < W.heap.size → k < w1.heap.size) :=
  ⟨fun b o h => hb.cell (p := ⟨b, o, none⟩) h, fun b o h => hb.frozen (p := ⟨b, o, none⟩) h, fun _ h => Nat.lt_of_lt_of_le h hb.size⟩
theorem bstep {B : Nat} {a b c : World} (k : Below b.heap.size b c) (h : Below B a b) (hB : B ≤ b.heap.size) : Below B a c := h.trans (k.mono hB)

theorem bl_alloc {B : Nat} {a w : World} {o : Obj} (hB : B ≤ w.heap.size) (h : Below B a w) : Below B a (w.alloc o) := h.alloc hB o
theorem bl_set {B : Nat} {a w : World} {p : Addr} {u : Value} (hp : B ≤ p.block) (h : Below B a w) : Below B a (w.setCell p u) := h.setCell hp u
theorem bl_drew {B : Nat} {a w : World} (h : Below B a w) : Below B a w.drew := h.drew
theorem bl_drewN {B : Nat} {a w : World} {n : Nat} (h : Below B a w) : Below B a (w.drewN n) := below_drewN h n
theorem bl_step {B : Nat} {a b c : World} (k : Below b.heap.size b c) (hB : B ≤ b.heap.size) (h : Below B a b) : Below B a c := h.trans (k.mono hB)

/-- a world in which all that lies in W is as it is there -/
structure Later (W : World) where
  w : World
  h : Below W.heap.size W w
instance {W : World} : Inhabited (Later W) := ⟨⟨W, Below.refl _ _⟩⟩
@[go_sem] theorem Later.cell {W : World} (x : Later W) (b o : Nat) (h : b < W.heap.size) : x.w.cell? ⟨b, o, none⟩ = W.cell? ⟨b, o, none⟩ := x.h.cell (p := ⟨b, o, none⟩) h
@[go_sem] theorem Later.frozen {W : World} (x : Later W) (b o : Nat) (h : b < W.heap.size) : x.w.frozen? ⟨b, o, none⟩ = W.frozen? ⟨b, o, none⟩ := x.h.frozen (p := ⟨b, o, none⟩) h
theorem bl_later {B : Nat} {a W : World} {x : Later W} (hB : B ≤ W.heap.size) (h : Below B a W) : Below B a x.w := h.trans (x.h.mono hB)
/-- a region that draws its order and whose operations read, and call functions that write nothing: one walk, in the order of the text -/
theorem wp_region_later {P : Program} {id : Nat} {Q : Exit → Act → World → Prop} {a : Act} {W : World} {l : List Oper} (hm : P.follows .mixedOrders = true) (hB : Region.lexB .any l.toArray = true)
    (h : wpQuiet P l.toArray (fun w' => ∃ x : Later W, w' = x.w) (fun a' => ∀ w', (∃ x : Later W, w' = x.w) → Q .normal a' w') l a) : (Code.region id l.toArray true).wp P Q a W :=
  wp_region_quiet (C := fun w' => ∃ x : Later W, w' = x.w) hm hB ⟨⟨_, (Below.refl _ W).drew⟩, rfl⟩ (by simpa using h)
theorem later_call {P : Program} {f : FuncId} {args : Array Value} {W : World} {x : Later W} {v : Value} (h : Calls P f args x.w fun e w' => e = .returned v ∧ Below x.w.heap.size x.w w') :
    Calls P f args x.w fun e w' => e = .returned v ∧ ∃ y : Later W, w' = y.w :=
  h.mono fun _ w' ⟨he, hb⟩ => ⟨he, ⟨w', x.h.trans (hb.mono x.h.size)⟩, rfl⟩
theorem later_same {P : Program} {f : FuncId} {args : Array Value} {W : World} {x : Later W} {v : Value} (h : Calls P f args x.w fun e w' => e = .returned v ∧ x.w = w') :
    Calls P f args x.w fun e w' => e = .returned v ∧ ∃ y : Later W, w' = y.w :=
  h.mono fun _ _ ⟨he, hb⟩ => ⟨he, x, hb.symm⟩

/-- two lists, element by element -/
def F2 {α β : Type} (R : α → β → Prop) : List α → List β → Prop
  | [], [] => True
  | a :: as, b :: bs => R a b ∧ F2 R as bs
  | _, _ => False
theorem F2.append {α β : Type} {R : α → β → Prop} : ∀ {a c : List α} {b d : List β}, F2 R a b → F2 R c d → F2 R (a ++ c) (b ++ d)
  | [], _, [], _, _, h => h
  | _ :: _, _, _ :: _, _, h, k => ⟨h.1, F2.append h.2 k⟩
  | [], _, _ :: _, _, h, _ => h.elim
  | _ :: _, _, [], _, h, _ => h.elim
theorem F2.length {α β : Type} {R : α → β → Prop} : ∀ {a : List α} {b : List β}, F2 R a b → a.length = b.length
  | [], [], _ => rfl
  | _ :: _, _ :: _, h => by simp [F2.length h.2]
  | [], _ :: _, h => h.elim
  | _ :: _, [], h => h.elim
theorem F2.cons {α β : Type} {R : α → β → Prop} {a : α} {as : List α} {bs : List β} (h : F2 R (a :: as) bs) : ∃ b r, bs = b :: r ∧ R a b ∧ F2 R as r := by
  cases bs with
  | nil => exact h.elim
  | cons b r => exact ⟨b, r, rfl, h.1, h.2⟩
theorem F2.nil {α β : Type} {R : α → β → Prop} {bs : List β} (h : F2 R ([] : List α) bs) : bs = [] := by
  cases bs with
  | nil => rfl
  | cons b r => exact h.elim

/-- one cell of a struct's flat row -/
inductive Cl where
  | int
  | bool
  | slice (e : TypeId)

def flatFields (P : Program) (g : TypeId → Option (List Cl)) : List Field → Nat → Option (List Cl)
  | [], _ => some []
  | f :: r, off =>
    match g f.type with
    | some a => if f.offset = off ∧ P.cellsOf f.type = a.length then (flatFields P g r (off + a.length)).map (a ++ ·) else none
    | none => none

/-- the flat row of a type -/
def flat (P : Program) : Nat → TypeId → Option (List Cl)
  | 0, _ => none
  | n + 1, t =>
    match P.underlying t with
    | some (.int .i64) => some [.int]
    | some .bool => some [.bool]
    | some (.slice e) => some [.slice e]
    | some (.struct fs) =>
      match flatFields P (flat P n) fs.toList 0 with
      | some l => if P.cellsOf t = l.length then some l else none
      | none => none
    | _ => none

section
variable {H : Type} {enc : TypeId × Value → H} {P : Program} {w : World} {base : Nat} {spare : Nat → Bool} {held : Bool}

def ClOk (enc : TypeId × Value → H) (P : Program) (w : World) (base : Nat) (spare : Nat → Bool) (held : Bool) : Cl → Value → Prop
  | .int, v => ∃ x, v = .int .i64 x ∧ inI64 x
  | .bool, v => ∃ b, v = .bool b
  | .slice e, v => v = .slice none 0 0 ∨
      ∃ (a : Addr) (len cap n : Nat), v = .slice (some a) len cap ∧ len ≤ cap ∧ cap ≤ maxLen ∧
        ∀ i, i < len → ∃ cs' y, w.cells? base (a.add (i * P.cellsOf e)) (P.cellsOf e) = some cs' ∧ DataW.trod enc P w base spare held n e cs' = some y

theorem flatFields_open (g : TypeId → Option (List Cl)) {n : Nat}
    (hg : ∀ t cs x l, g t = some l → DataW.trod enc P w base spare held n t cs = some x → F2 (ClOk enc P w base spare held) l cs) (cs : List Value) :
    ∀ (fs : List Field) (off : Nat) (l : List Cl), flatFields P g fs off = some l → (∀ f ∈ fs, ∃ y, DataW.trod enc P w base spare held n f.type ((cs.drop f.offset).take (P.cellsOf f.type)) = some y) →
      F2 (ClOk enc P w base spare held) l ((cs.drop off).take l.length)
  | [], off, l, h, _ => by
    simp [flatFields] at h
    subst h
    simp [F2]
  | f :: r, off, l, h, hf => by
    unfold flatFields at h
    split at h
    · rename_i a ha
      split at h
      · rename_i hc
        obtain ⟨hoff, hsz⟩ := hc
        cases hr : flatFields P g r (off + a.length) with
        | none => rw [hr] at h; simp at h
        | some b =>
          rw [hr] at h
          simp only [Option.map_some, Option.some.injEq] at h
          subst h
          obtain ⟨y, hy⟩ := hf f (by simp)
          have h1 := hg _ _ _ _ ha hy
          have h2 := flatFields_open g hg cs r _ b hr (fun f' hf' => hf f' (by simp [hf']))
          rw [hoff, hsz] at h1
          have e : (cs.drop off).take (a ++ b).length = (cs.drop off).take a.length ++ (cs.drop (off + a.length)).take b.length := by
            rw [List.length_append, List.take_add, List.drop_drop]
          rw [e]
          exact h1.append h2
      · simp at h
    · simp at h

theorem flat_open : ∀ (n : Nat) (t : TypeId) (cs : List Value) (x : DataW H × List MemPlace) (l : List Cl) (fuel : Nat), flat P n t = some l → DataW.trod enc P w base spare held fuel t cs = some x →
    F2 (ClOk enc P w base spare held) l cs
  | 0, _, _, _, _, _, h, _ => by simp [flat] at h
  | n + 1, t, cs, x, l, fuel, h, ht => by
    unfold flat at h
    split at h
    · rename_i hu
      obtain ⟨m, rfl, _, hw⟩ := DataW.trod_int hu ht
      simp at h; subst h
      exact ⟨⟨m, rfl, inI64_of_wf hw⟩, trivial⟩
    · rename_i hu
      obtain ⟨b, rfl, _⟩ := DataW.trod_bool hu ht
      simp at h; subst h
      exact ⟨⟨b, rfl⟩, trivial⟩
    · rename_i e hu
      simp at h; subst h
      rcases open_slice hu ht with ⟨rfl, _⟩ | ⟨a, len, cap, m, k, D, Pl, rfl, hb, hl, hm, hmm, _, hi⟩
      · exact ⟨.inl rfl, trivial⟩
      · refine ⟨.inr ⟨a, len, cap, k, rfl, hl, hm, fun i hlt => ?_⟩, trivial⟩
        obtain ⟨cs', h1, h2⟩ := hi i (by rw [hmm]; split <;> omega)
        exact ⟨cs', _, h1, h2⟩
    · rename_i fs hu
      obtain ⟨xs, k, rfl, _, hl, hxl, hf⟩ := DataW.trod_struct hu ht
      split at h
      · rename_i l' hfl
        split at h
        · rename_i hc
          simp at h; subst h
          have := flatFields_open (enc := enc) (w := w) (base := base) (spare := spare) (held := held) (flat P n) (n := k) (fun t cs x l h1 h2 => flat_open n t cs x l k h1 h2) cs fs.toList 0 l' hfl (fun f hmem => by
            obtain ⟨i, hi⟩ := List.getElem?_of_mem hmem
            have h3 := hf i f (by simpa using hi)
            have hlt : i < xs.length := by rw [hxl]; have := (List.getElem?_eq_some_iff.1 hi).1; simpa using this
            rw [List.getElem?_eq_getElem hlt] at h3
            exact ⟨_, h3⟩)
          simpa [← hc, ← hl] using this
        · simp at h
      · simp at h
    · simp at h

/-- a struct all of whose cells are int64 -/
theorem open_flat_ints {n k : Nat} {t : TypeId} {cs : List Value} {x : DataW H × List MemPlace} {fuel : Nat} (hf : flat P n t = some (List.replicate k .int)) (h : DataW.trod enc P w base spare held fuel t cs = some x) :
    ∃ xs : List Int, cs = xs.map (Value.int .i64) ∧ xs.length = k ∧ ∀ y ∈ xs, inI64 y := by
  have h2 := flat_open n t cs x _ fuel hf h
  clear hf h
  induction k generalizing cs with
  | zero => exact ⟨[], by simpa using h2.nil, rfl, by simp⟩
  | succ k ih =>
    rw [List.replicate_succ] at h2
    obtain ⟨b, r, rfl, ⟨y, rfl, hy⟩, h3⟩ := h2.cons
    obtain ⟨xs, rfl, hl, hall⟩ := ih h3
    exact ⟨y :: xs, rfl, by simp [hl], by simpa using ⟨hy, hall⟩⟩
end
end Go.Proofs.Ytmjafclpeknpcaa
