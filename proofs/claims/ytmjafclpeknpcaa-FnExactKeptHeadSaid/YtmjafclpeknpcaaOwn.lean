/- Values that hold slices, to any depth: how they are read, and which blocks they take. -/
import Derived.Test.YtmjafclpeknpcaaCut
namespace Go.Proofs.Ytmjafclpeknpcaa
open Go.ChangeShapes Go.WideShapes Go.ChangeAt Go.RowKit Go.Deep

/-- a value of n cells: how it lies in memory, and the blocks that it takes -/
structure En (α : Type) where
  n : Nat
  pos : 0 < n
  rd : World → α → List Value → List Nat → Prop
  len : ∀ {w : World} {x : α} {vs : List Value} {F : List Nat}, rd w x vs F → vs.length = n
  lt : ∀ {w : World} {x : α} {vs : List Value} {F : List Nat}, rd w x vs F → ∀ b ∈ F, b < w.heap.size
  keep : ∀ {w w' : World} {x : α} {vs : List Value} {F : List Nat}, rd w x vs F → (∀ b ∈ F, w'.heap[b]? = w.heap[b]?) → rd w' x vs F

def numE : En Int where
  n := 1
  pos := by decide
  rd := fun _ x vs F => vs = [.int .i64 x] ∧ inI64 x ∧ F = []
  len := by rintro _ _ _ _ ⟨rfl, _⟩; rfl
  lt := by rintro _ _ _ _ ⟨_, _, rfl⟩ b hb; simp at hb
  keep := fun h _ => h
def flagE : En Bool where
  n := 1
  pos := by decide
  rd := fun _ x vs F => vs = [.bool x] ∧ F = []
  len := by rintro _ _ _ _ ⟨rfl, _⟩; rfl
  lt := by rintro _ _ _ _ ⟨_, rfl⟩ b hb; simp at hb
  keep := fun h _ => h
/-- what needs no memory of its own -/
def flatE {α : Type} (E : Enc α) : En α where
  n := E.n
  pos := E.pos
  rd := fun _ x vs F => vs = E.cells x ∧ E.ok x ∧ F = []
  len := by rintro _ _ _ _ ⟨rfl, _⟩; exact E.len _
  lt := by rintro _ _ _ _ ⟨_, _, rfl⟩ b hb; simp at hb
  keep := fun h _ => h
section
variable {α β : Type}
def pairE (A : En α) (B : En β) : En (α × β) where
  n := A.n + B.n
  pos := by have := A.pos; omega
  rd := fun w x vs F => ∃ va vb Fa Fb, vs = va ++ vb ∧ F = Fa ++ Fb ∧ A.rd w x.1 va Fa ∧ B.rd w x.2 vb Fb
  len := by
    rintro w x _ _ ⟨va, vb, Fa, Fb, rfl, rfl, h1, h2⟩
    rw [List.length_append, A.len h1, B.len h2]
  lt := by
    rintro w x _ _ ⟨va, vb, Fa, Fb, rfl, rfl, h1, h2⟩ b hb
    rcases List.mem_append.1 hb with hb | hb
    · exact A.lt h1 b hb
    · exact B.lt h2 b hb
  keep := by
    rintro w w' x _ _ ⟨va, vb, Fa, Fb, rfl, rfl, h1, h2⟩ hk
    exact ⟨va, vb, Fa, Fb, rfl, rfl, A.keep h1 fun b hb => hk b (List.mem_append_left _ hb), B.keep h2 fun b hb => hk b (List.mem_append_right _ hb)⟩
/-- the elements of a slice whose row begins at off in block b -/
def ElsAt (A : En α) (w : World) (b off : Nat) (l : List α) (Fs : List (List Nat)) : Prop :=
  Fs.length = l.length ∧ ∀ i x G, l[i]? = some x → Fs[i]? = some G → ∃ vs, A.rd w x vs G ∧ ∀ j c, vs[j]? = some c → w.cell? ⟨b, off + i * A.n + j, none⟩ = some c
def listE (A : En α) : En (List α) where
  n := 1
  pos := by decide
  rd := fun w l vs F => ∃ ao cap, vs = [.slice ao l.length cap] ∧ l.length ≤ cap ∧ cap ≤ maxLen ∧
    ((l = [] ∧ F = []) ∨ ∃ b off Fs, ao = some ⟨b, off, none⟩ ∧ b < w.heap.size ∧ F = b :: Fs.flatten ∧ ElsAt A w b off l Fs)
  len := by rintro _ _ _ _ ⟨ao, cap, rfl, _⟩; rfl
  lt := by
    rintro w l vs F ⟨ao, cap, rfl, h1, h2, ⟨rfl, rfl⟩ | ⟨b, off, Fs, rfl, hb, rfl, h3, h4⟩⟩ k hk
    · simp at hk
    · rcases List.mem_cons.1 hk with rfl | hk
      · exact hb
      · obtain ⟨G, hG, hk⟩ := List.mem_flatten.1 hk
        obtain ⟨i, hi⟩ := List.getElem?_of_mem hG
        have hil : i < l.length := by rw [← h3]; exact (List.getElem?_eq_some_iff.1 hi).1
        obtain ⟨vs, h5, _⟩ := h4 i _ G (List.getElem?_eq_getElem hil) hi
        exact A.lt h5 k hk
  keep := by
    rintro w w' l vs F ⟨ao, cap, rfl, h1, h2, ⟨rfl, rfl⟩ | ⟨b, off, Fs, rfl, hb, rfl, h3, h4⟩⟩ hk
    · exact ⟨ao, cap, rfl, h1, h2, .inl ⟨rfl, rfl⟩⟩
    · have hbk := hk b (by simp)
      refine ⟨_, cap, rfl, h1, h2, .inr ⟨b, off, Fs, rfl, ?_, rfl, h3, fun i x G hx hG => ?_⟩⟩
      · by_cases h9 : b < w'.heap.size
        · exact h9
        · rw [Array.getElem?_eq_none (by omega), Array.getElem?_eq_getElem hb] at hbk
          cases hbk
      · obtain ⟨vs, h5, h6⟩ := h4 i x G hx hG
        refine ⟨vs, A.keep h5 fun k hk2 => hk k (List.mem_cons_of_mem _ (List.mem_flatten.2 ⟨G, List.mem_of_getElem? hG, hk2⟩)), fun j c hc => ?_⟩
        rw [← h6 j c hc]
        exact World.cell?_of_block (a := ⟨b, off + i * A.n + j, none⟩) hbk
/-- what is read -/
def Rd (A : En α) (w : World) (x : α) (vs : List Value) : Prop := ∃ F, A.rd w x vs F
theorem En.below {A : En α} {w w' : World} {x : α} {vs : List Value} {F : List Nat} (h : A.rd w x vs F) (hb : Below w.heap.size w w') : A.rd w' x vs F :=
  A.keep h fun b hbF => hb.block b (A.lt h b hbF)
theorem Rd.below {A : En α} {w w' : World} {x : α} {vs : List Value} (h : Rd A w x vs) (hb : Below w.heap.size w w') : Rd A w' x vs := by
  obtain ⟨F, h⟩ := h
  exact ⟨F, En.below h hb⟩
/-- the blocks of F may be written -/
def Free (w : World) (F : List Nat) : Prop := ∀ b ∈ F, ∃ cur e, w.heap[b]? = some (.cells cur e (0, 0))
/-- a value of its own: its blocks lie from lo to hi, each is taken once, each may be written -/
def Sp (A : En α) (w : World) (lo hi : Nat) (x : α) (vs : List Value) : Prop :=
  ∃ F, A.rd w x vs F ∧ F.Nodup ∧ (∀ b ∈ F, lo ≤ b ∧ b < hi) ∧ Free w F
/-- nothing that was there is written but for the blocks from lo to hi -/
structure Out (lo hi : Nat) (w w' : World) : Prop where
  os : w'.os = w.os
  tape : w'.tape = w.tape
  output : w'.output = w.output
  size : w.heap.size ≤ w'.heap.size
  block : ∀ k, k < w.heap.size → ¬(lo ≤ k ∧ k < hi) → w'.heap[k]? = w.heap[k]?
theorem Out.refl (lo hi : Nat) (w : World) : Out lo hi w w := ⟨rfl, rfl, rfl, Nat.le_refl _, fun _ _ _ => rfl⟩
theorem Out.trans {lo hi : Nat} {a b c : World} (h : Out lo hi a b) (k : Out lo hi b c) : Out lo hi a c :=
  ⟨k.os.trans h.os, k.tape.trans h.tape, k.output.trans h.output, Nat.le_trans h.size k.size, fun i hi hn => (k.block i (Nat.lt_of_lt_of_le hi h.size) hn).trans (h.block i hi hn)⟩
theorem Out.of_below {lo hi : Nat} {w w' : World} (h : Below w.heap.size w w') : Out lo hi w w' := ⟨h.os, h.tape, h.output, h.size, fun k hk _ => h.block k hk⟩
theorem Out.below {B lo hi : Nat} {w w' : World} (h : Out lo hi w w') (hB : B ≤ lo) (hw : B ≤ w.heap.size) : Below B w w' :=
  ⟨h.os, h.tape, h.output, h.size, fun k hk => h.block k (by omega) (by omega)⟩
theorem Out.wide {lo hi lo' hi' : Nat} {w w' : World} (h : Out lo hi w w') (h1 : lo' ≤ lo) (h2 : hi ≤ hi') : Out lo' hi' w w' := ⟨h.os, h.tape, h.output, h.size, fun k hk hn => h.block k hk (by omega)⟩
theorem Free.keep {w w' : World} {F : List Nat} (h : Free w F) (hk : ∀ b ∈ F, w'.heap[b]? = w.heap[b]?) : Free w' F := fun b hb => by rw [hk b hb]; exact h b hb
theorem Sp.out {A : En α} {lo hi lo' hi' : Nat} {w w' : World} {x : α} {vs : List Value} (h : Sp A w lo hi x vs) (ho : Out lo' hi' w w') (hd : hi ≤ lo' ∨ hi' ≤ lo) : Sp A w' lo hi x vs := by
  obtain ⟨F, h1, h2, h3, h4⟩ := h
  have hk : ∀ b ∈ F, w'.heap[b]? = w.heap[b]? := fun b hb => ho.block b (A.lt h1 b hb) (by have := h3 b hb; omega)
  exact ⟨F, A.keep h1 hk, h2, h3, h4.keep hk⟩
theorem Sp.below {A : En α} {lo hi : Nat} {w w' : World} {x : α} {vs : List Value} (h : Sp A w lo hi x vs) (hb : Below w.heap.size w w') : Sp A w' lo hi x vs :=
  h.out (lo' := 0) (hi' := 0) (Out.of_below hb) (.inr (Nat.zero_le _))
theorem Sp.rd {A : En α} {lo hi : Nat} {w : World} {x : α} {vs : List Value} (h : Sp A w lo hi x vs) : Rd A w x vs := ⟨_, h.choose_spec.1⟩
theorem Sp.wide {A : En α} {lo hi lo' hi' : Nat} {w : World} {x : α} {vs : List Value} (h : Sp A w lo hi x vs) (h1 : lo' ≤ lo) (h2 : hi ≤ hi') : Sp A w lo' hi' x vs := by
  obtain ⟨F, k1, k2, k3, k4⟩ := h
  exact ⟨F, k1, k2, fun b hb => by have := k3 b hb; omega, k4⟩
theorem Sp.pair {A : En α} {B : En β} {lo mid mid' hi : Nat} {w : World} {x : α} {y : β} {va vb : List Value} (h1 : Sp A w lo mid x va) (h2 : Sp B w mid' hi y vb) (hm : mid ≤ mid') (hl : lo ≤ mid') (hh : mid ≤ hi) : Sp (pairE A B) w lo hi (x, y) (va ++ vb) := by
  obtain ⟨F, a1, a2, a3, a4⟩ := h1
  obtain ⟨G, b1, b2, b3, b4⟩ := h2
  refine ⟨F ++ G, ⟨va, vb, F, G, rfl, rfl, a1, b1⟩, List.nodup_append.2 ⟨a2, b2, fun a ha b hb e => by have := a3 a ha; have := b3 b hb; omega⟩, fun b hb => ?_, fun b hb => ?_⟩
  · rcases List.mem_append.1 hb with hb | hb
    · have := a3 b hb; omega
    · have := b3 b hb; omega
  · rcases List.mem_append.1 hb with hb | hb
    · exact a4 b hb
    · exact b4 b hb
theorem Rd.pair {A : En α} {B : En β} {w : World} {x : α} {y : β} {va vb : List Value} (h1 : Rd A w x va) (h2 : Rd B w y vb) : Rd (pairE A B) w (x, y) (va ++ vb) := by
  obtain ⟨F, a1⟩ := h1
  obtain ⟨G, b1⟩ := h2
  exact ⟨F ++ G, va, vb, F, G, rfl, rfl, a1, b1⟩
end
end Go.Proofs.Ytmjafclpeknpcaa
