/- Functions that draw and hand back what is only read from there on. No program in it. -/
import Derived.Test.YtahkjonokeifmaaGreatRaVDK
import Derived.Test.YtahkjonokeifmaaGreatRaVDG
namespace Go.Proofs.YtahkjonokeifmaaGreat.Cur
open Go.ChangeShapes Go.WideShapes Go.ChangeAt Go.RowKit
set_option linter.unusedVariables false
def Ext (w0 : World) (F0 : List Nat) (H H' : Nat → Option Obj) : Prop := (∀ b o, H b = some o → H' b = some o) ∧ ∀ b o, H' b = some o → H b = some o ∨ b ∈ F0 ∨ w0.heap.size ≤ b
theorem Ext.refl {w0 : World} {F0 : List Nat} {H : Nat → Option Obj} : Ext w0 F0 H H := ⟨fun _ _ h => h, fun _ _ h => .inl h⟩
theorem Ext.trans {w0 : World} {F0 : List Nat} {H H1 H2 : Nat → Option Obj} (h : Ext w0 F0 H H1) (k : Ext w0 F0 H1 H2) : Ext w0 F0 H H2 := ⟨fun b o hb => k.1 b o (h.1 b o hb), fun b o hb => (k.2 b o hb).elim (fun h9 => h.2 b o h9) .inr⟩
theorem L2.cC {ρ : Rho} : ∀ {l : List C} {us : List Value}, L2 (RepC ρ) (l.map AC.c) us → L2 (RdX ρ.H) l us
 | [], [], _ => trivial
 | _ :: _, _ :: _, h => ⟨h.1, L2.cC h.2⟩
 | [], _ :: _, h => h.elim
 | _ :: _, [], h => h.elim
theorem L2.Cc {ρ : Rho} : ∀ {l : List C} {us : List Value}, L2 (RdX ρ.H) l us → L2 (RepC ρ) (l.map AC.c) us
 | [], [], _ => trivial
 | _ :: _, _ :: _, h => ⟨h.1, L2.Cc h.2⟩
 | [], _ :: _, h => h.elim
 | _ :: _, [], h => h.elim
theorem nil_rd {H : Nat → Option Obj} {u : Value} {m : Nat} (h : Pc H (false, [.nil]) u) : Pc H (false, [.s m []]) u := by
 have h1 : L2 (RdX H) [.nil] [u] := h
 have h3 : L2 (RepC ⟨H, fun _ => 0, fun _ => undef, fun _ => [], fun _ => []⟩) [.c .nil] [u] := ⟨h1.1, trivial⟩
 have h2 := nilsO_rep (m := m) (l' := [.c (.s m [])]) rfl h3
 have h4 : L2 (RdX H) [.s m []] [u] := ⟨h2.1, trivial⟩
 exact h4
theorem pure_nil {P : Program} {f : FuncId} {m : Nat} {args : List (Bool × List C)} {res : List (Bool × List RC)} (h : Pure P f ((false, [.s m []]) :: args) res) : Pure P f ((false, [.nil]) :: args) res := fun H w vs hH hv => by
 refine h H w vs hH ?_
 match vs, hv with
 | u :: vs, h => exact ⟨nil_rd h.1, h.2⟩
section
variable {P : Program} {X : Cx} {S : St} {ρ : Rho} {a : Act} {w : World} {TT : List (Nat × TI)} {TD : Nat} {Q : Exit → Act → World → Prop}
theorem RepV.extH {H' : Nat → Option Obj} (hm : ∀ g o, ρ.H g = some o → H' g = some o) {av : AV} {v : Value} (h : RepV ρ av v) : RepV { ρ with H := H' } av v := by
 cases av with
 | p g l =>
  unfold RepV RepP at h ⊢
  cases g
  ·exact L2.mono' hm h
  ·obtain ⟨us, k4, k5⟩ := h; exact ⟨us, k4, L2.mono' hm k5⟩
 | tup ps =>
  obtain ⟨us, k4, k5⟩ := h
  refine ⟨us, k4, L2.mono (fun x u hx => ?_) k5⟩
  unfold RepP at hx ⊢
  split
  ·rename_i hg
   rw [if_pos hg] at hx
   obtain ⟨vs, k6, k7⟩ := hx; exact ⟨vs, k6, L2.mono' hm k7⟩
  ·rename_i hg
   rw [if_neg hg] at hx
   exact L2.mono' hm hx
 | no => trivial
 | und => exact h
theorem Sim.extH {H' : Nat → Option Obj} {T : List (Nat × AV)} {B : List (Nat × Nat × List AC)} {R : RL} (hs : Sim X ρ ⟨T, B, R, []⟩ a w) (hm : ∀ g o, X.H g = some o → H' g = some o) (hw : ∀ b o, H' b = some o → w.heap[b]? = some o) (hd : ∀ b ∈ feet ρ ⟨T, B, R, []⟩, H' b = none) :
  Sim ⟨X.N, X.w0, X.F0, H', X.K, X.D⟩ { ρ with H := H' } ⟨T, B, R, []⟩ a w := by
 have hm' : ∀ g o, ρ.H g = some o → H' g = some o := fun g o h => hm g o (by rw [← hs.df.2]; exact h)
 refine ⟨⟨hw, fun x hx => ?_, hs.hp.R, by simp, hs.hp.nd, hd⟩, fun t av ht => ?_, ⟨hs.df.1, rfl⟩, hs.sz, hs.fr, hs.ft⟩
 ·obtain ⟨us, k4, k5⟩ := hs.hp.B x hx
  exact ⟨us, k4, L2.mono' hm' k5⟩
 ·obtain ⟨v, k1, k2⟩ := hs.T t av ht
  exact ⟨v, k1, RepV.extH hm' k2⟩
def frsB (r : Nat) (y : C) : List (Nat × Nat × List AC) → List (Nat × Nat × List AC)
 | [] => []
 | (b, t, l) :: B => (b, t, l.map (frsC r y)) :: frsB r y B
theorem frsB_mem {r : Nat} {y : C} : ∀ {B : List (Nat × Nat × List AC)} {x : Nat × Nat × List AC}, x ∈ frsB r y B → ∃ l, (x.1, x.2.1, l) ∈ B ∧ x.2.2 = l.map (frsC r y)
  | (b, t, l) :: B, x, h => by
    unfold frsB at h
    rcases List.mem_cons.1 h with rfl | h
    · exact ⟨l, List.mem_cons_self, rfl⟩
    · obtain ⟨l2, h1, h2⟩ := frsB_mem h
      exact ⟨l2, List.mem_cons_of_mem _ h1, h2⟩
theorem frsB_ix {r : Nat} {y : C} : ∀ B : List (Nat × Nat × List AC), (frsB r y B).map (fun x => x.1) = B.map fun x => x.1
 | [] => rfl
 | (b, t, l) :: B => by unfold frsB; simp [frsB_ix B]
theorem ev_frsB {c : Code} {T : List (Nat × AV)} {B : List (Nat × Nat × List AC)} {R : RL} {ty n : Nat} {l : List (List C)} (r : Nat) (hr : lk R r = some (ty, n, l))
  (h : ∀ H', Ext X.w0 X.F0 X.H H' → Ev P ⟨X.N, X.w0, X.F0, H', X.K, X.D⟩ c Q ⟨frsT r (.s n l) T, frsB r (.s n l) B, eraR r R, []⟩) : Ev P X c Q ⟨T, B, R, []⟩ := by
 intro ρ a w hs
 obtain ⟨p, q, e1, e2⟩ := eraR_split hr
 rw [e2] at h
 subst e1
 have ho := hs.hp.R (r, ty, n, l) (by simp)
 simp only at ho
 have hnd := hs.hp.nd
 have hfe : feet ρ ⟨frsT r (.s n l) T, frsB r (.s n l) B, p ++ q, []⟩ = feet ρ ⟨T, B, p ++ q, []⟩ := by
  unfold feet
  have := congrArg (List.map ρ.box) (frsB_ix (r := r) (y := .s n l) B)
  simp only [List.map_map] at this
  show (frsB r (.s n l) B).map (fun x => ρ.box x.1) ++ _ = B.map (fun x => ρ.box x.1) ++ _
  rw [show (frsB r (.s n l) B).map (fun x => ρ.box x.1) = B.map (fun x => ρ.box x.1) from this]
 have hsub : (feet ρ ⟨T, B, p ++ q, []⟩).Sublist (feet ρ ⟨T, B, p ++ (r, ty, n, l) :: q, []⟩) := by
  unfold feet
  refine (List.Sublist.refl _).append (List.Sublist.append ?_ (List.Sublist.refl _))
  simp only [List.flatMap_append, List.flatMap_cons]
  exact (List.Sublist.refl _).append (List.sublist_append_right _ _)
 have hout : ∀ g ∈ feet ρ ⟨T, B, p ++ q, []⟩, g ∉ ρ.foot r := by
  intro g hg hf
  unfold feet at hnd hg
  simp only [List.flatMap_append, List.flatMap_cons, List.map_nil, List.append_nil] at hnd hg
  obtain ⟨_, n2, n3⟩ := List.nodup_append.1 hnd
  obtain ⟨_, n5, n6⟩ := List.nodup_append.1 n2
  obtain ⟨_, _, n9⟩ := List.nodup_append.1 n5
  rcases List.mem_append.1 hg with hg | hg
  ·exact n3 _ hg _ (List.mem_append_right _ (List.mem_append_left _ hf)) rfl
  ·rcases List.mem_append.1 hg with hg | hg
   ·exact n6 _ hg _ (List.mem_append_left _ hf) rfl
   ·exact n9 _ hf _ hg rfl
 have hrf : ∀ g ∈ ρ.foot r, g ∈ feet ρ ⟨T, B, p ++ (r, ty, n, l) :: q, []⟩ := fun g hg => by
  unfold feet
  exact List.mem_append_right _ (List.mem_append_left _ (List.mem_flatMap.2 ⟨(r, ty, n, l), by simp, hg⟩))
 have hin : ∀ g ∈ ρ.foot r, ρ.H g = none := fun g hg => hs.hp.dj g (hrf g hg)
 obtain ⟨H', hH'⟩ : ∃ H' : Nat → Option Obj, H' = fun g => if g ∈ ρ.foot r then w.heap[g]? else ρ.H g := ⟨_, rfl⟩
 have hm : ∀ g o, ρ.H g = some o → H' g = some o := fun g o hg => by
  rw [hH']
  simp only
  rw [if_neg (fun hf => by rw [hin g hf] at hg; cases hg)]
  exact hg
 have hrd : RdX H' (.s n l) (ρ.root r) := ho.c.read fun b hb => by rw [hH']; simp only; rw [if_pos hb]
 have hC : ∀ {x : AC} {u : Value}, RepC ρ x u → RepC { ρ with H := H' } (frsC r (.s n l) x) u := fun {x u} hx => by
  cases x with
  | rt k =>
   show RepC { ρ with H := H' } (match Nat.beq k r with
    | true => AC.c (C.s n l)
    | false => AC.rt k) u
   cases hk : Nat.beq k r with
   | false => exact hx
   | true =>
    obtain rfl := Nat.eq_of_beq_eq_true hk
    have hx : u = ρ.root k ∧ _ := hx
    rw [hx.1]
    exact hrd
  | _ => exact RepC.mono' hm hx
 have hL : ∀ {l2 : List AC} {us : List Value}, L2 (RepC ρ) l2 us → L2 (RepC { ρ with H := H' }) (l2.map (frsC r (.s n l))) us := by
  intro l2
  induction l2 with
  | nil => intro us h; match us, h with | [], _ => trivial
  | cons x l2 ih => intro us h; match us, h with | u :: us, h => exact ⟨hC h.1, ih h.2⟩
 refine h H' ⟨fun g o hg => hm g o (by rw [hs.df.2]; exact hg), fun b o hb => ?_⟩ { ρ with H := H' } a w ⟨⟨fun g o hg => ?_, fun x hx => ?_, fun x hx => hs.hp.R x ?_, by simp, ?_, fun g hg => ?_⟩, fun t av ht => ?_, ⟨hs.df.1, rfl⟩, hs.sz, hs.fr, fun g hg => ?_⟩
 ·rw [hH'] at hb
  simp only at hb
  split at hb
  ·rename_i hf
   exact .inr (hs.ft b (hrf b hf))
  ·exact .inl (by rw [← hs.df.2]; exact hb)
 ·rw [hH'] at hg
  simp only at hg
  split at hg
  ·exact hg
  ·exact hs.hp.H g o hg
 ·obtain ⟨l2, h1, h2⟩ := frsB_mem hx
  obtain ⟨us, k4, k5⟩ := hs.hp.B _ h1
  exact ⟨us, k4, by rw [h2]; exact hL k5⟩
 ·rcases List.mem_append.1 hx with hx | hx
  ·exact List.mem_append_left _ hx
  ·exact List.mem_append_right _ (List.mem_cons_of_mem _ hx)
 ·have : (feet ρ ⟨frsT r (.s n l) T, frsB r (.s n l) B, p ++ q, []⟩).Nodup := by rw [hfe]; exact hsub.nodup hnd
  exact this
 ·have hg : g ∈ feet ρ ⟨frsT r (.s n l) T, frsB r (.s n l) B, p ++ q, []⟩ := hg
  rw [hfe] at hg
  have h9 := hs.hp.dj g (hsub.subset hg)
  show H' g = none
  rw [hH']
  simp only
  rw [if_neg (hout g hg)]
  exact h9
 ·obtain ⟨av0, k1, rfl⟩ := frsT_lk ht
  obtain ⟨v, k2, k3⟩ := hs.T t av0 k1
  refine ⟨v, k2, ?_⟩
  cases av0 with
  | p g l2 =>
   unfold frsV
   unfold RepV RepP at k3 ⊢
   cases g
   ·exact hL k3
   ·obtain ⟨us, k4, k5⟩ := k3; exact ⟨us, k4, hL k5⟩
  | tup _ => trivial
  | no => trivial
  | und => exact k3
 ·have hg : g ∈ feet ρ ⟨frsT r (.s n l) T, frsB r (.s n l) B, p ++ q, []⟩ := hg
  rw [hfe] at hg
  exact hs.ft g (hsub.subset hg)
def RollPostF {α : Type} (H : Nat → Option Obj) (TD g : Nat) (v0 : Value) (n : Nat) (q : α → Prop) (res : α → List C) (w : World) (e : Ending) (w' : World) : Prop :=
 ∃ (x : α) (δ : DS n) (u : Value) (H' : Nat → Option Obj), q x ∧ DiceAt TD g v0 δ w' ∧ e = .returned u ∧ Pc H' (true, res x) u ∧ (∀ b o, H b = some o → H' b = some o) ∧ (∀ b o, H' b = some o → w'.heap[b]? = some o) ∧ (∀ b o, H' b = some o → H b = some o ∨ w.heap.size ≤ b) ∧ Chg w w' [g]
def RollsF (P : Program) (TD : Nat) (f : FuncId) {α : Type} (q : α → Prop) (res : α → List C) : Prop :=
 ∀ (H : Nat → Option Obj) (w : World) (g : Nat) (v0 : Value) (n : Nat) (δ : DS n), (∀ b o, H b = some o → w.heap[b]? = some o) → H g = none → Src H v0 n → DiceAt TD g v0 δ w → Calls P f #[.pointer (some ⟨g, 0, none⟩)] w (RollPostF H TD g v0 n q res w)
theorem rollsF_intro {α : Type} {q : α → Prop} {res : α → List C} {f : FuncId} {fn : Func} {c : Code} {N : Nat} (hf : P.funcs[f]? = some fn) (hb : fn.body = some c) (hN : fn.ntmps = N) (hl : Nat.ble 1 N = true)
  (h : ∀ H w g v0 n (δ : DS n), Src H v0 n → Ev P ⟨N, w, [g], H, [(0, .pointer (some ⟨g, 0, none⟩))], []⟩ c (bodyPost P fn (RollPostF H TD g v0 n q res w)) ⟨[(0, .p false [.pb 0 0])], [(0, TD, diceA v0 δ)], [], []⟩) : RollsF P TD f q res := by
 intro H w g v0 n δ hH hg hs hd
 refine calls_of_wp hf hb ?_
 have hle := Nat.le_of_ble_eq_true hl
 have t0 : (#[Value.pointer (some ⟨g, 0, none⟩)] ++ Array.replicate (fn.ntmps - 1) undef : Array Value)[0]? = some (.pointer (some ⟨g, 0, none⟩)) := by rw [Array.getElem?_append_left (by simp)]; rfl
 refine h H w g v0 n δ hs ⟨H, fun _ => g, fun _ => undef, fun _ => [], fun _ => []⟩ _ w ⟨⟨hH, fun x hx => ?_, by simp, by simp, by simp [feet], fun b hb => ?_⟩, fun t av ht => ?_, ⟨rfl, rfl⟩, ⟨by simp [hN]; omega, fun x hx => ?_⟩, Chg.refl _ _, fun b hb => ?_⟩
 ·obtain rfl := List.mem_singleton.1 hx
  exact ⟨_, hd, ⟨⟨0, rfl, hs.one⟩, ⟨0, rfl, rfl⟩, ⟨0, rfl, rfl⟩, trivial⟩⟩
 ·have : b = g := by simpa [feet] using hb
  rw [this]; exact hg
 ·have ht' : (if 0 = t then some (AV.p false [AC.pb 0 0]) else none) = some av := ht
  by_cases e : 0 = t
  ·rw [if_pos e] at ht'
   cases ht'
   subst e
   exact ⟨.pointer (some ⟨g, 0, none⟩), t0, ⟨rfl, trivial⟩⟩
  ·rw [if_neg e] at ht'
   cases ht'
 ·obtain rfl := List.mem_singleton.1 hx
  exact t0
 ·have : b = g := by simpa [feet] using hb
  exact .inl (by simp [this])
theorem ret_rollF {α : Type} {q : α → Prop} {res : α → List C} {fn : Func} {N n g : Nat} {w0 : World} {H H2 : Nat → Option Obj} {v0 : Value} {l : List AC} (x : α) (δ : DS n) (hE : Ext w0 [g] H H2) (hT : TTOk P TT) (h1 : retPs TT S fn.results.toList = some [(true, l)]) (h0 : lk S.T 0 = some (.p false [.pb 0 0])) (hB : lk S.B 0 = some (TD, diceA v0 δ)) (he : l = (res x).map AC.c) (hq : q x) :
  EvE ⟨N, w0, [g], H2, [(0, .pointer (some ⟨g, 0, none⟩))], []⟩ .ret (bodyPost P fn (RollPostF H TD g v0 n q res w0)) S := by
 intro ρ a w hs
 subst he
 obtain ⟨us, h3, h4⟩ := results_ok hT hs h1
 obtain ⟨u, rfl, h5⟩ := h3.one
 have hg := pin_box (t := 0) (nb := 0) (g := g) hs rfl h0
 have hd := dice_heap hs hB
 rw [hg] at hd
 have hgn : H2 g = none := by
  have := hs.hp.dj _ (box_feet hB)
  rw [hg, hs.df.2] at this
  exact this
 refine ⟨hs.df.1, _, h4, x, δ, u, H2, hq, hd, rfl, ?_, hE.1, fun b o hb => hs.hp.H b o (by rw [hs.df.2]; exact hb), fun b o hb => ?_, hs.fr⟩
 ·unfold RepP at h5
  simp only [if_true] at h5
  obtain ⟨vs, k1, k2⟩ := h5
  unfold Pc
  simp only [if_true]
  have := L2.cC k2
  rw [hs.df.2] at this
  exact ⟨vs, k1, this⟩
 ·rcases hE.2 b o hb with h9 | h9 | h9
  ·exact .inl h9
  ·rw [List.mem_singleton.1 h9, hgn] at hb; cases hb
  ·exact .inr h9
variable {ops : Array Oper} {rest : List Oper}
theorem evl_rollF {α : Type} {qq : α → Prop} {res : α → List C} {T : List (Nat × AV)} {B : List (Nat × Nat × List AC)} {R : RL} {f : FuncId} {x : Operand} {tys : Array TypeId} {nb n d ty : Nat} {v0 : Value} {δ : DS n} {pos : String} {af : Array Edge}
  (hF : chkF P f = true) (hc : RollsF P TD f qq res) (hx : opv T x = some (.p false [.pb nb 0])) (hB : lk B nb = some (TD, diceA v0 δ)) (hsrc : Src X.H v0 n) (hN : okD X d = true)
  (h : ∀ (y : α) (δ' : DS n) (H' : Nat → Option Obj), qq y → Ext X.w0 X.F0 X.H H' → ∃ B', updB nb (diceA v0 δ') B = some B' ∧ EvL P ⟨X.N, X.w0, X.F0, H', X.K, X.D⟩ ops rest Q ⟨(d, .p true ((res y).map AC.c)) :: T, B', R, []⟩) :
  EvL P X ops (⟨some d, .call ⟨.value (.func f), #[x], tys⟩, ty, pos, af, none⟩ :: rest) Q ⟨T, B, R, []⟩ := by
 intro ρ a w hs
 refine wpList_plain rfl fun K hK => ?_
 unfold Oper.wp
 rw [run_call hF a.eval #[x] tys (some d) ty pos af none rfl, Oper.upon_enter]
 have ex : a.eval x = .pointer (some ⟨ρ.box nb, 0, none⟩) := (opv_rep hs hx).1
 have e : #[x].map a.eval = #[.pointer (some ⟨ρ.box nb, 0, none⟩)] := by simp [ex]
 rw [e]
 refine (hc ρ.H w (ρ.box nb) v0 n δ hs.hp.H (hs.hp.dj _ (box_feet hB)) (by rw [hs.df.2]; exact hsrc) (dice_heap hs hB)).mono fun en w' hpost => ?_
 obtain ⟨y, δ', u, H', hq, hd', rfl, h1, h2, h3, h4, h5⟩ := hpost
 have hE : Ext X.w0 X.F0 X.H H' := ⟨fun b o hb => h2 b o (by rw [hs.df.2]; exact hb), fun b o hb => (h4 b o hb).elim (fun h9 => .inl (by rw [← hs.df.2]; exact h9)) fun h9 => .inr (.inr (Nat.le_trans hs.fr.size h9))⟩
 obtain ⟨B', k1, k2⟩ := h y δ' H' hq hE
 have hs' := hs.turn hB rfl k1 h5 hd' ⟨⟨0, rfl, hsrc.one⟩, ⟨0, rfl, rfl⟩, ⟨0, rfl, rfl⟩, trivial⟩
 have hfe : ∀ b, b ∈ feet ρ ⟨T, B', R, []⟩ → b ∈ feet ρ ⟨T, B, R, []⟩ := fun b hb => by
  obtain ⟨p, ty', l, q, hBe, rfl, _⟩ := updB_eq k1
  unfold feet at hb ⊢
  simp only [hBe] at hb ⊢
  simpa using hb
 have hs2 := Sim.extH hs' hE.1 h3 fun b hb => by
  cases ho : H' b with
  | none => rfl
  | some o =>
   rcases h4 b o ho with h9 | h9
   ·have := hs.hp.dj b (hfe b hb); rw [h9] at this; cases this
   ·have := hs.hp.lt b (hfe b hb); omega
 refine hK _ _ (k2 _ _ w' (hs2.put hN ?_))
 unfold Pc at h1
 simp only [if_true] at h1
 obtain ⟨vs, j1, j2⟩ := h1
 exact ⟨vs, j1, L2.Cc (ρ := { ρ with H := H' }) j2⟩
def GivesF (P : Program) (f : FuncId) {α : Type} (q : α → Prop) (res : α → List C) : Prop :=
 ∀ (H : Nat → Option Obj) (w : World) (v0 : Value) (l : List Int), (∀ b o, H b = some o → w.heap[b]? = some o) → RdX H (bytes l) v0 → (∀ x ∈ l, 0 ≤ x ∧ x ≤ 255) → l.length ≤ 4096 → Calls P f #[v0] w fun e w' =>
  ∃ (x : α) (u : Value) (H' : Nat → Option Obj), q x ∧ e = .returned u ∧ Pc H' (true, res x) u ∧ (∀ b o, H b = some o → H' b = some o) ∧ (∀ b o, H' b = some o → w'.heap[b]? = some o) ∧ (∀ b o, H' b = some o → H b = some o ∨ w.heap.size ≤ b) ∧ Below w.heap.size w w'
abbrev GivePostF {α : Type} (H : Nat → Option Obj) (q : α → Prop) (res : α → List C) (w : World) (e : Ending) (w' : World) : Prop :=
 ∃ (x : α) (u : Value) (H' : Nat → Option Obj), q x ∧ e = .returned u ∧ Pc H' (true, res x) u ∧ (∀ b o, H b = some o → H' b = some o) ∧ (∀ b o, H' b = some o → w'.heap[b]? = some o) ∧ (∀ b o, H' b = some o → H b = some o ∨ w.heap.size ≤ b) ∧ Below w.heap.size w w'
theorem givesF_intro {α : Type} {q : α → Prop} {res : α → List C} {f : FuncId} {fn : Func} {c : Code} {N : Nat} (hf : P.funcs[f]? = some fn) (hb : fn.body = some c) (hN : fn.ntmps = N) (hl : Nat.ble 1 N = true)
  (h : ∀ H w (l : List Int), (∀ x ∈ l, 0 ≤ x ∧ x ≤ 255) → l.length ≤ 4096 → Ev P ⟨N, w, [], H, [], []⟩ c (bodyPost P fn (GivePostF H q res w)) ⟨[(0, .p false [.c (bytes l)])], [], [], []⟩) : GivesF P f q res := by
 intro H w v0 l hH hv h3 h4
 refine calls_of_wp hf hb ?_
 have hle := Nat.le_of_ble_eq_true hl
 refine h H w l h3 h4 ⟨H, fun _ => 0, fun _ => undef, fun _ => [], fun _ => []⟩ _ w ⟨⟨hH, by simp, by simp, by simp, by simp [feet], by simp [feet]⟩, fun t av ht => ?_, ⟨rfl, rfl⟩, ⟨by simp [hN]; omega, by simp⟩, Chg.refl _ _, by simp [feet]⟩
 have ht' : (if 0 = t then some (AV.p false [.c (bytes l)]) else none) = some av := ht
 split at ht'
 ·rename_i e; subst e; cases ht'
  exact ⟨v0, by rw [Array.getElem?_append_left (by simp)]; rfl, ⟨hv, trivial⟩⟩
 ·cases ht'
theorem ret_giveF {α : Type} {q : α → Prop} {res : α → List C} {fn : Func} {N : Nat} {w0 : World} {F0 : List Nat} {K : List (Nat × Value)} {H H2 : Nat → Option Obj} {l : List AC} (x : α) (hF : ∀ b ∈ F0, w0.heap.size ≤ b) (hE : Ext w0 F0 H H2) (hT : TTOk P TT) (h1 : retPs TT S fn.results.toList = some [(true, l)]) (he : l = (res x).map AC.c) (hq : q x) :
  EvE ⟨N, w0, F0, H2, K, []⟩ .ret (bodyPost P fn (GivePostF H q res w0)) S := by
 intro ρ a w hs
 subst he
 obtain ⟨us, h3, h4⟩ := results_ok hT hs h1
 obtain ⟨u, rfl, h5⟩ := h3.one
 refine ⟨hs.df.1, _, h4, x, u, H2, hq, rfl, ?_, hE.1, fun b o hb => hs.hp.H b o (by rw [hs.df.2]; exact hb), fun b o hb => ?_, ⟨hs.fr.os, hs.fr.tape, hs.fr.output, hs.fr.size, fun k hk => hs.fr.block k hk ?_⟩⟩
 ·unfold RepP at h5
  simp only [if_true] at h5
  obtain ⟨vs, k1, k2⟩ := h5
  unfold Pc
  simp only [if_true]
  have := L2.cC k2
  rw [hs.df.2] at this
  exact ⟨vs, k1, this⟩
 ·rcases hE.2 b o hb with h9 | h9 | h9
  ·exact .inl h9
  ·exact .inr (hF b h9)
  ·exact .inr h9
 ·exact fun h9 => by have := hF k h9; omega
theorem evl_giveF {α : Type} {qq : α → Prop} {res : α → List C} {T : List (Nat × AV)} {B : List (Nat × Nat × List AC)} {R : RL} {f : FuncId} {x : Operand} {tys : Array TypeId} {d ty : Nat} {pos : String} {af : Array Edge} {l : List Int}
  (hF : chkF P f = true) (hc : GivesF P f qq res) (hx : opv T x = some (.p false [.c (bytes l)])) (hl : ∀ x ∈ l, 0 ≤ x ∧ x ≤ 255) (hn : l.length ≤ 4096) (hN : okD X d = true)
  (h : ∀ (y : α) (H' : Nat → Option Obj), qq y → Ext X.w0 X.F0 X.H H' → EvL P ⟨X.N, X.w0, X.F0, H', X.K, X.D⟩ ops rest Q ⟨(d, .p true ((res y).map AC.c)) :: T, B, R, []⟩) :
  EvL P X ops (⟨some d, .call ⟨.value (.func f), #[x], tys⟩, ty, pos, af, none⟩ :: rest) Q ⟨T, B, R, []⟩ := by
 intro ρ a w hs
 refine wpList_plain rfl fun K hK => ?_
 unfold Oper.wp
 rw [run_call hF a.eval #[x] tys (some d) ty pos af none rfl, Oper.upon_enter]
 have e : #[x].map a.eval = #[a.eval x] := by simp
 rw [e]
 refine (hc ρ.H w (a.eval x) l hs.hp.H (opv_rep hs hx).1 hl hn).mono fun en w' hpost => ?_
 obtain ⟨y, u, H', hq, rfl, h1, h2, h3, h4, h5⟩ := hpost
 have hE : Ext X.w0 X.F0 X.H H' := ⟨fun b o hb => h2 b o (by rw [hs.df.2]; exact hb), fun b o hb => (h4 b o hb).elim (fun h9 => .inl (by rw [← hs.df.2]; exact h9)) fun h9 => .inr (.inr (Nat.le_trans hs.fr.size h9))⟩
 have hs' := hs.next h5
 have hs2 := Sim.extH hs' hE.1 h3 fun b hb => by
  cases ho : H' b with
  | none => rfl
  | some o =>
   rcases h4 b o ho with h9 | h9
   ·have := hs.hp.dj b hb; rw [h9] at this; cases this
   ·have := hs.hp.lt b hb; omega
 refine hK _ _ (h y H' hq hE _ _ w' (hs2.put hN ?_))
 unfold Pc at h1
 simp only [if_true] at h1
 obtain ⟨vs, j1, j2⟩ := h1
 exact ⟨vs, j1, L2.Cc (ρ := { ρ with H := H' }) j2⟩
end
end Go.Proofs.YtahkjonokeifmaaGreat.Cur
