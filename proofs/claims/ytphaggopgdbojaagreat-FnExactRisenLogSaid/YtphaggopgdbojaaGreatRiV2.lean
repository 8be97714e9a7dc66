/- The states of a walk: what is known of the frame's slots, of boxes, slices and maps of one's own. No program in it. -/
import Derived.Test.YtphaggopgdbojaaGreatRiV0
namespace Go.Proofs.YtphaggopgdbojaaGreat
open Go.ChangeShapes Go.WideShapes Go.ChangeAt Go.RowKit
set_option linter.unusedVariables false

/-- what is known of a cell's value: a content; a slice of one's own; cell j of its element k; the address of a box's cell; of what is only read; of a cell of an element of a slice of one's own; a function; a map of one's own -/
inductive AC where
  | c (x : C)
  | rt (r : Nat)
  | sub (r n k j : Nat)
  | pb (b o : Nat)
  | pe (cs : List C)
  | pr (r n k o : Nat)
  | fn (f : Fn) (cap : List (Nat × Nat))
  | mp (b : Nat)
  | no
/-- a value: p true: a struct or an array; p false: one cell -/
inductive AV where
  | p (b : Bool) (l : List AC)
  | tup (ps : List (Bool × List AC))
  | no
  | und
/-- where the named things lie -/
structure Rho where
  H : Nat → Option Obj
  box : Nat → Nat
  root : Nat → Value
  rows : Nat → List Value
  foot : Nat → List Nat
/-- two lists, element by element -/
def L2 {α β : Type} (R : α → β → Prop) : List α → List β → Prop
  | [], [] => True
  | a :: as, b :: bs => R a b ∧ L2 R as bs
  | _, _ => False
section
variable {α β : Type} {R S : α → β → Prop}
theorem L2.len : ∀ {l : List α} {m : List β}, L2 R l m → m.length = l.length
  | [], [], _ => rfl
  | a :: l, b :: m, h => by simp [L2.len h.2]
  | [], _ :: _, h => h.elim
  | _ :: _, [], h => h.elim
theorem L2.mono (hm : ∀ a b, R a b → S a b) : ∀ {l : List α} {m : List β}, L2 R l m → L2 S l m
  | [], [], _ => trivial
  | a :: l, b :: m, h => ⟨hm a b h.1, L2.mono hm h.2⟩
  | [], _ :: _, h => h.elim
  | _ :: _, [], h => h.elim
theorem L2.get : ∀ {l : List α} {m : List β} {i : Nat} {a : α}, L2 R l m → l[i]? = some a → ∃ b, m[i]? = some b ∧ R a b
  | a :: l, b :: m, 0, _, h, ha => by
    simp only [List.getElem?_cons_zero, Option.some.injEq] at ha; subst ha
    exact ⟨b, rfl, h.1⟩
  | a :: l, b :: m, i + 1, _, h, ha => by
    simp only [List.getElem?_cons_succ] at ha ⊢
    exact L2.get h.2 ha
  | [], _, _, _, _, ha => by simp at ha
  | _ :: _, [], _, _, h, _ => h.elim
theorem L2.append : ∀ {l l2 : List α} {m m2 : List β}, L2 R l m → L2 R l2 m2 → L2 R (l ++ l2) (m ++ m2)
  | [], _, [], _, _, k => k
  | a :: l, _, b :: m, _, h, k => ⟨h.1, L2.append h.2 k⟩
  | [], _, _ :: _, _, h, _ => h.elim
  | _ :: _, _, [], _, h, _ => h.elim
theorem L2.take : ∀ {l : List α} {m : List β} (n : Nat), L2 R l m → L2 R (l.take n) (m.take n)
  | _, _, 0, _ => by simp [L2]
  | [], [], _ + 1, _ => trivial
  | a :: l, b :: m, n + 1, h => ⟨h.1, L2.take n h.2⟩
  | [], _ :: _, _, h => h.elim
  | _ :: _, [], _, h => h.elim
theorem L2.drop : ∀ {l : List α} {m : List β} (n : Nat), L2 R l m → L2 R (l.drop n) (m.drop n)
  | _, _, 0, h => h
  | [], [], _ + 1, _ => trivial
  | a :: l, b :: m, n + 1, h => L2.drop n h.2
  | [], _ :: _, _, h => h.elim
  | _ :: _, [], _, h => h.elim
theorem L2.map {γ : Type} (f : γ → α) {T : γ → β → Prop} (hf : ∀ c b, T c b → R (f c) b) : ∀ {l : List γ} {m : List β}, L2 T l m → L2 R (l.map f) m
  | [], [], _ => trivial
  | c :: l, b :: m, h => ⟨hf c b h.1, L2.map f hf h.2⟩
  | [], _ :: _, h => h.elim
  | _ :: _, [], h => h.elim
theorem L2.one {a : α} {m : List β} (h : L2 R [a] m) : ∃ b, m = [b] ∧ R a b := by
  match m, h with
  | [b], h => exact ⟨b, rfl, h.1⟩
end

def RepC (ρ : Rho) : AC → Value → Prop
  | .c x, u => RdX ρ.H x u
  | .rt r, u => u = ρ.root r ∧ u.oneCell' = true
  | .sub r n k j, u => (ρ.rows r)[k * n + j]? = some u ∧ u.oneCell' = true
  | .pb b o, u => u = .pointer (some ⟨ρ.box b, o, none⟩)
  | .pe cs, u => ∃ g o, u = .pointer (some ⟨g, o, none⟩) ∧ ∀ j c, cs[j]? = some c → ∃ x, rcell ρ.H g (o + j) = some x ∧ RdX ρ.H c x
  | .pr r n k o, u => ∃ g, (ρ.root r).ownBlock = some g ∧ u = .pointer (some ⟨g, k * n + o, none⟩)
  | .fn f cap, u => u = .func f #[] (cap.map fun p => Value.pointer (some ⟨ρ.box p.1, p.2, none⟩)).toArray
  | .mp b, u => u = .map (some (ρ.box b))
  | .no, u => u.oneCell' = true
theorem RepC.one {ρ : Rho} {x : AC} {u : Value} (h : RepC ρ x u) : u.oneCell' = true := by
  cases x with
  | c x => exact RdX.one h
  | rt r => exact h.2
  | sub r n k j => exact h.2
  | pb b o => rw [show u = _ from h]; rfl
  | pe cs => obtain ⟨g, o, rfl, _⟩ := h; rfl
  | pr r n k o => obtain ⟨g, _, rfl⟩ := h; rfl
  | fn f cap => rw [show u = _ from h]; rfl
  | mp b => rw [show u = _ from h]; rfl
  | no => exact h
def RepP (ρ : Rho) (x : Bool × List AC) (u : Value) : Prop :=
  if x.1 then ∃ vs : List Value, u = .agg vs.toArray ∧ L2 (RepC ρ) x.2 vs else L2 (RepC ρ) x.2 [u]
def RepV (ρ : Rho) : AV → Value → Prop
  | .p b l, u => RepP ρ (b, l) u
  | .tup ps, u => ∃ vs : List Value, u = .tuple vs.toArray ∧ L2 (RepP ρ) ps vs
  | .no, _ => True
  | .und, u => u = undef

/-- the first entry of a list under a number -/
def lk {α : Type} : List (Nat × α) → Nat → Option α
  | [], _ => none
  | (k, v) :: r, t => if k = t then some v else lk r t
theorem lk_mem {α : Type} : ∀ {l : List (Nat × α)} {t : Nat} {v : α}, lk l t = some v → (t, v) ∈ l
  | [], _, _, h => by cases h
  | (k, v) :: r, t, u, h => by
    unfold lk at h
    split at h
    · rename_i e; subst e; cases h; simp
    · exact List.mem_cons_of_mem _ (lk_mem h)
/-- T: the frame's slots; B: boxes (type, cells); R: slices of one's own (type and width of an element, elements); M: maps of one's own -/
structure St where
  T : List (Nat × AV)
  B : List (Nat × Nat × List AC)
  R : List (Nat × Nat × Nat × List (List C))
  M : List (Nat × (Int → Option Value))
def feet (ρ : Rho) (S : St) : List Nat := S.B.map (fun x => ρ.box x.1) ++ (S.R.flatMap (fun x => ρ.foot x.1) ++ S.M.map (fun x => ρ.box x.1))
def OwM (w : World) (g : Nat) (m : Int → Option Value) : Prop := MapI w g m
/-- the heap is as the state says -/
structure Hp (ρ : Rho) (S : St) (w : World) : Prop where
  H : ∀ b o, ρ.H b = some o → w.heap[b]? = some o
  B : ∀ x ∈ S.B, ∃ vs : List Value, w.heap[ρ.box x.1]? = some (.cells vs.toArray x.2.1 (0, 0)) ∧ L2 (RepC ρ) x.2.2 vs
  R : ∀ x ∈ S.R, OwS w x.2.1 x.2.2.1 x.2.2.2 (ρ.root x.1) (ρ.rows x.1) (ρ.foot x.1)
  M : ∀ x ∈ S.M, OwM w (ρ.box x.1) x.2
  nd : (feet ρ S).Nodup
  dj : ∀ b ∈ feet ρ S, ρ.H b = none
theorem heap_lt {w : World} {b : Nat} {o : Obj} (h : w.heap[b]? = some o) : b < w.heap.size := (Array.getElem?_eq_some_iff.1 h).1
theorem Hp.lt {ρ : Rho} {S : St} {w : World} (h : Hp ρ S w) : ∀ b ∈ feet ρ S, b < w.heap.size := by
  intro b hb
  rcases List.mem_append.1 hb with hb | hb
  · obtain ⟨x, hx, rfl⟩ := List.mem_map.1 hb
    obtain ⟨vs, h1, _⟩ := h.B x hx
    exact heap_lt h1
  · rcases List.mem_append.1 hb with hb | hb
    · obtain ⟨x, hx, hb⟩ := List.mem_flatMap.1 hb
      exact (h.R x hx).lt b hb
    · obtain ⟨x, hx, rfl⟩ := List.mem_map.1 hb
      obtain ⟨es, c, h1, _⟩ := h.M x hx
      exact heap_lt h1
/-- only the blocks of F are written -/
structure Chg (w w' : World) (F : List Nat) : Prop where
  os : w'.os = w.os
  tape : w'.tape = w.tape
  output : w'.output = w.output
  size : w.heap.size ≤ w'.heap.size
  block : ∀ k, k < w.heap.size → k ∉ F → w'.heap[k]? = w.heap[k]?
theorem Chg.refl (w : World) (F : List Nat) : Chg w w F := ⟨rfl, rfl, rfl, Nat.le_refl _, fun _ _ _ => rfl⟩
/-- a step that writes G, of which all is F's or new -/
theorem Chg.step {a b c : World} {F G : List Nat} (h : Chg a b F) (k : Chg b c G) (hG : ∀ x ∈ G, x ∈ F ∨ a.heap.size ≤ x) : Chg a c F :=
  ⟨k.os.trans h.os, k.tape.trans h.tape, k.output.trans h.output, Nat.le_trans h.size k.size, fun i hi hn => (k.block i (Nat.lt_of_lt_of_le hi h.size) fun hm => by
    rcases hG i hm with h1 | h1
    · exact hn h1
    · omega).trans (h.block i hi hn)⟩
theorem Chg.below {w w' : World} (h : Chg w w' []) : Below w.heap.size w w' := ⟨h.os, h.tape, h.output, h.size, fun k hk => h.block k hk (by simp)⟩
theorem Chg.of_below {w w' : World} {F : List Nat} (h : Below w.heap.size w w') : Chg w w' F := ⟨h.os, h.tape, h.output, h.size, fun k hk _ => h.block k hk⟩
/-- where a walk began: the frame's size, the world, the blocks that may be written -/
structure Cx where
  N : Nat
  w0 : World
  F0 : List Nat
  H : Nat → Option Obj
  K : List (Nat × Value)
  D : List Deferred
def noS (d : Nat) : List (Nat × Value) → Bool
  | [] => true
  | (t, _) :: r => match Nat.beq t d with
    | true => false
    | false => noS d r
theorem noS_mem {d : Nat} : ∀ {K : List (Nat × Value)}, noS d K = true → ∀ x ∈ K, x.1 ≠ d
  | (t, u) :: r, h, x, hx => by
    unfold noS at h
    split at h
    · cases h
    · rename_i hb
      rcases List.mem_cons.1 hx with rfl | hx
      · exact fun e => by simp only at e; rw [e, Nat.beq_refl] at hb; cases hb
      · exact noS_mem h x hx
/-- a slot that may be written: none of those that stay -/
def okD (X : Cx) (d : Nat) : Bool := match Nat.blt d X.N with
  | true => noS d X.K
  | false => false
theorem okD_lt {X : Cx} {d : Nat} (h : okD X d = true) : Nat.blt d X.N = true ∧ noS d X.K = true := by
  unfold okD at h
  split at h
  · rename_i hb; exact ⟨hb, h⟩
  · cases h
structure Sim (X : Cx) (ρ : Rho) (S : St) (a : Act) (w : World) : Prop where
  hp : Hp ρ S w
  T : ∀ t av, lk S.T t = some av → ∃ v, a.tmps[t]? = some v ∧ RepV ρ av v
  df : a.defers = X.D ∧ ρ.H = X.H
  sz : a.tmps.size = X.N ∧ ∀ x ∈ X.K, a.tmps[x.1]? = some x.2
  fr : Chg X.w0 w X.F0
  ft : ∀ b ∈ feet ρ S, b ∈ X.F0 ∨ X.w0.heap.size ≤ b
section
variable {X : Cx} {ρ : Rho} {S : St} {a : Act} {w : World}
theorem Sim.put {d : Nat} {av : AV} {v : Value} (h : Sim X ρ S a w) (hd : okD X d = true) (hv : RepV ρ av v) : Sim X ρ ⟨(d, av) :: S.T, S.B, S.R, S.M⟩ (a.put (some d) v) w := by
  have hdN : d < X.N := by have h9 : Nat.ble (d + 1) X.N = true := (okD_lt hd).1; have := Nat.le_of_ble_eq_true h9; omega
  refine ⟨⟨h.hp.H, h.hp.B, h.hp.R, h.hp.M, h.hp.nd, h.hp.dj⟩, fun t av' ht => ?_, h.df, ⟨by simpa [Act.put] using h.sz.1, fun x hx => by
    have hne := noS_mem (okD_lt hd).2 x hx
    simp only [Act.put]; rw [Array.getElem?_setIfInBounds_ne (Ne.symm hne)]; exact h.sz.2 x hx⟩, h.fr, h.ft⟩
  unfold lk at ht
  split at ht
  · rename_i e
    subst e
    cases ht
    exact ⟨v, by simp [Act.put, h.sz.1, hdN], hv⟩
  · rename_i e
    obtain ⟨v', h1, h2⟩ := h.T t av' ht
    exact ⟨v', by simp only [Act.put]; rw [Array.getElem?_setIfInBounds_ne (Ne.symm (fun h9 => e h9.symm))]; exact h1, h2⟩
theorem Sim.skip (h : Sim X ρ S a w) (v : Value) : Sim X ρ S (a.put none v) w := h
/-- less may be known of the slots -/
theorem Sim.weakT {T : List (Nat × AV)} (h : Sim X ρ S a w) (hT : ∀ t av, lk T t = some av → lk S.T t = some av ∨ av = .no ∧ t < X.N) : Sim X ρ ⟨T, S.B, S.R, S.M⟩ a w :=
  ⟨⟨h.hp.H, h.hp.B, h.hp.R, h.hp.M, h.hp.nd, h.hp.dj⟩, fun t av ht => by
    rcases hT t av ht with h1 | ⟨rfl, h1⟩
    · exact h.T t av h1
    · exact ⟨a.tmps[t]'(by rw [h.sz.1]; exact h1), by rw [Array.getElem?_eq_getElem], trivial⟩, h.df, h.sz, h.fr, h.ft⟩
/-- nothing known has turned -/
theorem Hp.next {S : St} {w' : World} (h : Hp ρ S w) (hc : ∀ b, b < w.heap.size → w'.heap[b]? = w.heap[b]?) : Hp ρ S w' := by
  refine ⟨fun b o hb => ?_, fun x hx => ?_, fun x hx => (h.R x hx).keep fun b hb => hc b ((h.R x hx).lt b hb), fun x hx => ?_, h.nd, h.dj⟩
  · have := h.H b o hb
    rw [hc b (heap_lt this)]; exact this
  · obtain ⟨vs, h1, h2⟩ := h.B x hx
    exact ⟨vs, by rw [hc _ (heap_lt h1)]; exact h1, h2⟩
  · obtain ⟨es, c, h1, h2⟩ := h.M x hx
    exact ⟨es, c, by rw [hc _ (heap_lt h1)]; exact h1, h2⟩
theorem Sim.next {w' : World} (h : Sim X ρ S a w) (hb : Below w.heap.size w w') : Sim X ρ S a w' :=
  ⟨h.hp.next fun b hlt => hb.block b hlt, h.T, h.df, h.sz, h.fr.step (Chg.of_below (F := []) hb) (by simp), h.ft⟩
theorem Sim.drew (h : Sim X ρ S a w) : Sim X ρ S a w.drew := h.next (Below.refl _ _).drew
end
end Go.Proofs.YtphaggopgdbojaaGreat
