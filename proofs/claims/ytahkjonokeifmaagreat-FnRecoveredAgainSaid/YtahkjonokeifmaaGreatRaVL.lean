/- A law that hands back true: its call, as the statements ask for it. No program in it. -/
import Derived.Test.YtahkjonokeifmaaGreatRaVDF
import Derived.Test.YtahkjonokeifmaaGreatRaV3
import Derived.OpenShut
import Derived.Deep.Slices
import Derived.ChangeSlices
import Derived.Test.YtahkjonokeifmaaGreatRaVDB
import Derived.Test.YtahkjonokeifmaaGreatRaVA
namespace Go.Proofs.YtahkjonokeifmaaGreat
open Go.ChangeShapes Go.WideShapes Go.ChangeAt Go.RowKit
set_option linter.unusedVariables false
section
variable {P : Program} {X : Cx} {S : St} {α : Type} {p : α → Prop} {S' : α → St}
def QJn (X : Cx) (p : α → Prop) (S' : α → St) : Exit → Act → World → Prop := fun e a w => e = .normal ∧ ∃ y ρ, p y ∧ Sim X ρ (S' y) a w
theorem ev_joinI (p : α → Prop) (S' : α → St) {c : Code} {Q : Exit → Act → World → Prop} (h : Ev P X c (QJn X p S') S) (k : ∀ y, p y → EvE X .normal Q (S' y)) : Ev P X c Q S := fun ρ a w hs => wp_mono (h ρ a w hs) fun e a' w' hq => by
 obtain ⟨rfl, y, ρ', hp, hs'⟩ := hq
 exact k y hp ρ' a' w' hs'
theorem ev_joinE (y : α) (σ : List (Nat × Nat)) (hp : p y) (hl : Le σ S (S' y)) : EvE X .normal (QJn X p S') S := fun ρ a w hs => ⟨rfl, y, _, hp, hs.le hl⟩
end
section
variable {P : Program} {X : Cx} {S : St} {ops : Array Oper} {ks : List Nat} {fuel gg : Nat} {listed : Array Bool} {Q : Act → World → Prop}
theorem rdd_weak {S2 : St} (σ : List (Nat × Nat)) (hl : Le σ S S2) (h : RDd P X ops ks gg fuel listed S2 Q) : RDd P X ops ks gg fuel listed S Q := fun _ a w hs => h _ a w (hs.le hl)
theorem rdd_eqL {listed2 : Array Bool} (e : listed = listed2) (h : RDd P X ops ks gg fuel listed2 S Q) : RDd P X ops ks gg fuel listed S Q := by subst e; exact h
theorem rdd_have {β : Type} (fuel1 : Nat) (listed1 : Array Bool) (q : β → Prop) (S1 : β → St) (h1 : ∀ y, q y → RDd P X ops ks gg fuel1 listed1 (S1 y) Q) (h2 : (∀ y, q y → RDd P X ops ks gg fuel1 listed1 (S1 y) Q) → RDd P X ops ks gg fuel listed S Q) : RDd P X ops ks gg fuel listed S Q := h2 h1
theorem rdd_4 (i j k l : Nat) (hr : Region.ready .any ops listed = [i, j, k, l]) (h1 : RDdo P X ops ks gg fuel listed i S Q) (h2 : RDdo P X ops ks gg fuel listed j S Q) (h3 : RDdo P X ops ks gg fuel listed k S Q) (h4 : RDdo P X ops ks gg fuel listed l S Q) : RDd P X ops ks gg (fuel + 1) listed S Q :=
 fun ρ a w hs => ⟨fun h0 => absurd h0 (by rw [hr]; simp), fun q hq => by
  rw [hr] at hq
  rcases List.mem_cons.1 hq with rfl | hq
  ·exact h1 ρ a w hs
  ·rcases List.mem_cons.1 hq with rfl | hq
   ·exact h2 ρ a w hs
   ·rcases List.mem_cons.1 hq with rfl | hq
    ·exact h3 ρ a w hs
    ·obtain rfl := List.mem_singleton.1 hq
     exact h4 ρ a w hs⟩
end
end Go.Proofs.YtahkjonokeifmaaGreat
namespace Go.Proofs.YtahkjonokeifmaaGreat
open Go.ChangeShapes Go.WideShapes Go.ChangeAt Go.RowKit Go.Deep
set_option linter.unusedVariables false
def F2 {α β : Type} (R : α → β → Prop) : List α → List β → Prop
 | [], [] => True
 | a :: as, b :: bs => R a b ∧ F2 R as bs
 | _, _ => False
theorem F2.append {α β : Type} {R : α → β → Prop} : ∀ {a c : List α} {b d : List β}, F2 R a b → F2 R c d → F2 R (a ++ c) (b ++ d)
 | [], _, [], _, _, h => h
 | _ :: _, _, _ :: _, _, h, k => ⟨h.1, F2.append h.2 k⟩
 | [], _, _ :: _, _, h, _ => h.elim
 | _ :: _, _, [], _, h, _ => h.elim
theorem F2.length {α β : Type} {R : α → β → Prop} : ∀ {a : List α} {b : List β}, F2 R a b → a.length = b.length
 | [], [], _ => rfl
 | _ :: _, _ :: _, h => by simp [F2.length h.2]
 | [], _ :: _, h => h.elim
 | _ :: _, [], h => h.elim
theorem F2.cons {α β : Type} {R : α → β → Prop} {a : α} {as : List α} {bs : List β} (h : F2 R (a :: as) bs) : ∃ b r, bs = b :: r ∧ R a b ∧ F2 R as r := by
 cases bs with
 | nil => exact h.elim
 | cons b r => exact ⟨b, r, rfl, h.1, h.2⟩
theorem F2.nil {α β : Type} {R : α → β → Prop} {bs : List β} (h : F2 R ([] : List α) bs) : bs = [] := by
 cases bs with
 | nil => rfl
 | cons b r => exact h.elim
section
variable {H : Type} {enc : TypeId × Value → H} {P : Program} {w : World} {base : Nat} {spare : Nat → Bool} {held : Bool}
end
section
variable {H : Type} {enc : TypeId × Value → H} {P : Program} {w : World} {base : Nat} {spare : Nat → Bool} {held : Bool} {α : Type}
def RdL (w : World) (d : Nat) : List C → List Value → Prop
 | [], [] => True
 | c :: cs, u :: us => RdC (fun b => w.heap[b]?) d c u ∧ RdL w d cs us
 | _, _ => False
theorem RdL.len {d : Nat} : ∀ {cs : List C} {us : List Value}, RdL w d cs us → us.length = cs.length
 | [], [], _ => rfl
 | c :: cs, u :: us, h => by simp [RdL.len h.2]
 | [], _ :: _, h => h.elim
 | _ :: _, [], h => h.elim
theorem RdL.get {d : Nat} : ∀ {cs : List C} {us : List Value} {j : Nat} {c : C}, RdL w d cs us → cs[j]? = some c → ∃ u, us[j]? = some u ∧ RdC (fun b => w.heap[b]?) d c u
 | c :: cs, u :: us, 0, _, h, hj => by simp only [List.getElem?_cons_zero, Option.some.injEq] at hj; subst hj; exact ⟨u, rfl, h.1⟩
 | c :: cs, u :: us, j + 1, _, h, hj => by simp only [List.getElem?_cons_succ] at hj ⊢; exact RdL.get h.2 hj
 | [], [], _, _, _, hj => by simp at hj
 | [], _ :: _, _, _, h, _ => h.elim
 | _ :: _, [], _, _, h, _ => h.elim
theorem rcell_of {b o : Nat} {x : Value} (h : w.cell? ⟨b, o, none⟩ = some x) : rcell (fun b => w.heap[b]?) b o = some x := by
 unfold World.cell? at h
 unfold rcell
 simp only at h ⊢
 cases hb : w.heap[b]? with
 | none => rw [hb] at h; cases h
 | some ob =>
  rw [hb] at h
  cases ob <;> first | exact h | cases h
theorem rdv {d : Nat} {x : Value} (h : x.oneCell' = true) : RdC (fun b => w.heap[b]?) d (.v x) x := by cases d <;> exact ⟨rfl, h⟩
end
end Go.Proofs.YtahkjonokeifmaaGreat
namespace Go.Proofs.YtahkjonokeifmaaGreat
open Go.ChangeShapes Go.WideShapes Go.ChangeAt Go.RowKit Go.Deep
theorem u8_of_wf {x : Int} (h : (Lit.int .u8 x).wf = true) : 0 ≤ x ∧ x ≤ 255 := by
 simp only [Lit.wf, Bool.and_eq_true, decide_eq_true_eq] at h
 have h1 : IntKind.u8.min = 0 := by decide
 have h2 : IntKind.u8.max = 255 := by decide
 omega
theorem open_bytesX {H : Type} {enc : TypeId × Value → H} {P : Program} {W : World} {t e : TypeId} {ao : Option Addr} {len cap : Nat} {d : DataW H} {p : List MemPlace}
  (ht : P.underlying t = some (.slice e)) (he : P.underlying e = some (.int .u8)) (hC : P.cellsOf e = 1) (h : DataW.Trod enc P W 0 (fun _ => true) true t (.slice ao len cap) d p) :
  ∃ l : List Int, (∀ x ∈ l, 0 ≤ x ∧ x ≤ 255) ∧ RdX (fun b => W.heap[b]?) (bytes l) (.slice ao len cap) := by
 obtain ⟨fuel, hf⟩ := h
 rcases open_ints ht he hC hf with ⟨hcs, _⟩ | ⟨x, l, c, zs, hcs, _, hl, hm, hz, _, hcell, hwz⟩
 ·simp [Value.cells] at hcs
  obtain ⟨rfl, rfl, rfl⟩ := hcs
  exact ⟨[], by simp, 1, none, 0, rfl, Nat.le_refl _, Nat.zero_le _, by simp, .inl rfl⟩
 ·simp [Value.cells] at hcs
  obtain ⟨rfl, rfl, rfl⟩ := hcs
  have hzl : zs.length = cap := by simpa using hz
  have hln : ((zs.take len).map byteC).length = len := by simp; omega
  refine ⟨zs.take len, fun y hy => u8_of_wf (hwz y (List.mem_of_mem_take hy)), 1, some x, cap, by rw [hln], by rw [hln]; omega, by unfold maxLen at *; omega, fun cs hcs => ?_, ?_⟩
  ·obtain ⟨x, _, rfl⟩ := List.mem_map.1 hcs
   rfl
  by_cases h0 : len = 0
  ·subst h0; exact .inl (by simp)
  ·right
   obtain ⟨b, off, spot⟩ := x
   have hc0 := hcell 0 om
   have hspot : spot = none := by simpa [Addr.add] using World.cell?_spot hc0
   subst hspot
   refine ⟨b, off, rfl, fun k cs hk j c hj => ?_⟩
   rw [List.getElem?_map] at hk
   cases hy : (zs.take len)[k]? with
   | none => rw [hy] at hk; cases hk
   | some y =>
    rw [hy] at hk
    simp only [Option.map_some, Option.some.injEq] at hk
    subst hk
    have hi : k < len := by have := (List.getElem?_eq_some_iff.1 hy).1; simp at this; omega
    cases j with
    | succ j => simp at hj
    | zero =>
     simp only [List.getElem?_cons_zero, Option.some.injEq] at hj
     subst hj
     have h1 := hcell k om
     rw [List.getElem?_take_of_lt hi] at hy
     have e1 : (Addr.mk b off none).add k = ⟨b, off + k, none⟩ := Addr.add_lit b off k
     rw [e1] at h1
     refine ⟨.int .u8 y, ?_, rdv (w := W) rfl⟩
     rw [show off + k * 1 + 0 = off + k by omega]
     exact rcell_of (h1.trans (by simp [List.getD, hy]))
end Go.Proofs.YtahkjonokeifmaaGreat
namespace Go.Proofs.YtahkjonokeifmaaGreat
open Go.ChangeShapes Go.WideShapes Go.ChangeAt Go.RowKit
theorem Pure.law {P : Program} {f : FuncId} {args : List (Bool × List C)} (h : Pure P f args (bR true)) (w : World) (vs : List Value) (hv : L2 (Pc fun b => w.heap[b]?) args vs) : Calls P f vs.toArray w fun e w' => e = .returned (.bool true) ∧ Below w.heap.size w w' :=
  (h _ w vs (fun _ _ h => h) hv).mono fun e w' ⟨us, F, he, ho, _, _, hb⟩ => by
    match us, ho with
    | [u], ⟨F1, F2, ⟨us', e1, e2, e3⟩, _, _⟩ =>
      have e2' := e2 rfl
      match us', e3, e2' with
      | [x], h3, _ =>
        obtain ⟨G1, G2, ⟨⟨h4, _⟩, _⟩, _, _⟩ := h3
        exact ⟨by rw [he, e1]; exact congrArg Ending.returned h4, hb⟩
theorem RdL.x {w : World} {d : Nat} : ∀ {cs : List C} {us : List Value}, RdL w d cs us → L2 (RdX fun b => w.heap[b]?) cs us
 | [], [], _ => trivial
 | _ :: _, _ :: _, h => ⟨⟨d, h.1⟩, RdL.x h.2⟩
 | [], _ :: _, h => h.elim
 | _ :: _, [], h => h.elim
end Go.Proofs.YtahkjonokeifmaaGreat
