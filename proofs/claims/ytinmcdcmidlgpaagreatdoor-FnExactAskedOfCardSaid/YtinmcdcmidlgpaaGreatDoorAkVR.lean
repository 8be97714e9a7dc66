/- Ranges over functions: operations and code in a round. No program in it. -/
import Derived.Test.YtinmcdcmidlgpaaGreatDoorAkVP
import Derived.RangeFuncNested
import Derived.RangeFuncLeaves
import Derived.TacticsIn
import Derived.OrdersIn
namespace Go.Proofs.YtinmcdcmidlgpaaGreatDoor
open Go.ChangeShapes Go.WideShapes Go.ChangeAt Go.RowKit
set_option linter.unusedVariables false
def Fr (r : Option Nat) : Fence := { Fence.wide with round := r }
theorem callsFr {r : Option Nat} {n : Nat} {P : Program} {f : FuncId} {args : Array Value} {w : World} {R : Ending → World → Prop} (h : Calls P f args w R) : CallsIn (Fr r) n P f args w R :=
 (callsIn_wide (n := n).2 h : CallsIn Fence.wide n P f args w R)
theorem rowsFr {r : Option Nat} {n : Nat} {P : Program} {row : String} {args : Array Value} {w : World} {R : Value → World → Prop} (h : Rows P row args w R) : RowsIn (Fr r) n P row args w R :=
 fun c cs _ => let ⟨v, w', k, s⟩ := h c cs; ⟨v, w', k, (stepsIn_wide.2 s : StepsIn (Machine.fenced P Fence.wide) P _ _)⟩
section
variable {P : Program} {X : Cx} {S : St} {ρ : Rho} {a : Act} {w : World} {TT : List (Nat × TI)} {Q Q' : Exit → Act → World → Prop} {ops : Array Oper} {r : Option Nat} {n : Nat}
theorem Oper.lift {o : Oper} {K K' : Act → World → Prop} (hd : ∀ c, o.op ≠ .defer c) (hK : ∀ a w, K a w → K' a w) (hQ : ∀ e a w, e ≠ .normal → Q e a w → Q' e a w) (h : o.wp P a w K Q) : o.wpIn (Fr r) n P a w K' Q' := by
 refine ⟨fun f _ => trivial, ?_⟩
 have e : o.semAt (Fr r).round a.eval = execOp a.eval o := by
  cases r with
  | none => rfl
  | some l => exact Oper.semAt_some l a.eval o hd
 rw [e]
 unfold Oper.wp at h
 generalize (execOp a.eval o).run P w = res at h
 cases res with
 | ok x w' =>
  cases x with
  | value v => exact hK _ _ h
  | skip => exact hK _ _ h
  | defer d => exact hK _ _ h
  | enter f args =>
   refine ⟨fun h => by simp [Fr, Fence.wide] at h, callsFr (Calls.mono (h : Calls P f args w' _) fun e w'' he => ?_)⟩
   cases e with
   | returned v => exact hK _ _ he
   | panicked c => exact hQ _ _ _ (by simp) he
   | outgrown => exact let ⟨a0, w0, h0⟩ := he; ⟨a0, w0, hQ _ _ _ (by simp) h0⟩
  | row row args => exact ⟨fun h => by simp [Fr, Fence.wide] at h, rowsFr (Rows.mono (h : Rows P row args w' _) fun v w'' he => hK _ _ he)⟩
  | _ => exact h.elim
 | halt x w' =>
  cases x with
  | panic v => exact hQ _ _ _ (by simp) h
  | _ => exact h.elim
def isDef : Op → Bool
 | .defer _ => true
 | _ => false
def noDef : List Oper → Bool
 | [] => true
 | o :: r => match isDef o.op with
  | true => false
  | false => noDef r
theorem noDef_cons {o : Oper} {l : List Oper} (h : noDef (o :: l) = true) : (∀ c, o.op ≠ .defer c) ∧ noDef l = true := by
 unfold noDef at h
 split at h
 ·cases h
 ·rename_i hb
  exact ⟨fun c e => (by rw [e] at hb; cases hb), h⟩
theorem noDef_mem : ∀ {l : List Oper}, noDef l = true → ∀ o ∈ l, ∀ c, o.op ≠ .defer c
 | [], _, o, ho, c => by simp at ho
 | x :: r, h, o, ho, c => by
  obtain ⟨h1, h2⟩ := noDef_cons h
  rcases List.mem_cons.1 ho with rfl | ho
  ·exact h1 c
  ·exact noDef_mem h2 o ho c
theorem wpList_lift (hout : ∀ a w, ¬ Q .outgrown a w) : ∀ {l : List Oper} {a : Act} {w : World}, noDef l = true → wpList P ops Q l a w → wpListIn (Fr r) n P ops Q l a w
 | [], a, w, _, h => h
 | o :: l, a, w, hd, h => by
  obtain ⟨hd1, hd2⟩ := noDef_cons hd
  unfold wpList at h
  unfold wpListIn
  split
  ·rename_i hw
   rw [if_pos hw] at h
   rcases h with h | ⟨_, a0, w0, h0⟩
   ·exact Oper.lift hd1 (fun a w hk => wpList_lift hout hd2 hk) (fun _ _ _ _ h => h) h
   ·exact absurd h0 (hout a0 w0)
  ·rename_i hw
   rw [if_neg hw] at h
   exact ⟨fun f _ => trivial, wpList_lift hout hd2 h⟩
theorem wpAny_lift {md : Region.Mode} (hout : ∀ a w, ¬ Q .outgrown a w) (hd : ∀ o ∈ ops.toList, ∀ c, o.op ≠ .defer c) : ∀ {fuel : Nat} {listed : Array Bool} {a : Act} {w : World}, wpAny P md ops Q fuel listed a w → wpAnyIn (Fr r) n P md ops Q fuel listed a w
 | 0, _, _, _, h => h
 | fuel + 1, listed, a, w, h => by
  refine ⟨h.1, fun i hi => ?_⟩
  have h2 := h.2 i hi
  unfold wpOp at h2
  unfold wpOpIn
  split
  ·rename_i hn; rw [hn] at h2; exact wpAny_lift hout hd h2
  ·rename_i o ho
   rw [ho] at h2
   simp only at h2
   split
   ·rename_i hw
    rw [if_pos hw] at h2
    rcases h2 with h2 | ⟨_, a0, w0, h0⟩
    ·exact Oper.lift (hd o (List.mem_of_getElem? (by rw [Array.getElem?_toList]; exact ho))) (fun a w hk => wpAny_lift hout hd hk) (fun _ _ _ _ h => h) h2
    ·exact absurd h0 (hout a0 w0)
   ·rename_i hw
    rw [if_neg hw] at h2
    exact ⟨fun f _ => trivial, wpAny_lift hout hd h2⟩
def EvR (P : Program) (X : Cx) (r : Option Nat) (n : Nat) (c : Code) (Q : Exit → Act → World → Prop) (S : St) : Prop := ∀ ρ a w, Sim X ρ S a w → c.wpIn (Fr r) n P Q a w
theorem sqR {x y : Code} (h : EvR P X r n x (Exit.then (y.wpIn (Fr r) n P Q) Q) S) : EvR P X r n (.seq x y) Q S := fun ρ a w hs => wpIn_seq (h ρ a w hs)
theorem rgR {id : Nat} {l : List Oper} (hd : noDef l = true) (hout : ∀ a w, ¬ Q .outgrown a w) (h : EvL P X l.toArray l Q S) : EvR P X r n (.region id l.toArray false) Q S := fun ρ a w hs => wpIn_region_lit (wpList_lift hout hd (h ρ a w hs))
theorem etR {y : Code} {Q' : Exit → Act → World → Prop} (h : EvR P X r n y Q' S) : EvE X .normal (Exit.then (y.wpIn (Fr r) n P Q') Q) S := fun ρ a w hs => h ρ a w hs
theorem drawR {id : Nat} {l : List Oper} (ks : List Nat) (hm : P.follows .mixedOrders = true) (hd : noDef l = true) (h : RDk P X l.toArray ks l.toArray.size (Array.replicate l.toArray.size false) S (Q .normal)) : EvR P X r n (.region id l.toArray true) Q S := fun ρ a w hs =>
 Go.wpIn_mono (Q := QK (Q .normal)) (wpIn_region_any hm (wpAny_lift (fun _ _ h => h) (by simpa using noDef_mem hd) (wpAny_of_K _ _ _ _ (h ρ a w.drew hs.drew)))) fun e a' w' hq => by
  cases e with
  | normal => exact hq
  | _ => exact hq.elim
theorem blkR {id : Nat} {c : Code} (h : EvR P X r n c (Exit.inBlock id Q) S) : EvR P X r n (.block id c) Q S := fun ρ a w hs => wpIn_block (h ρ a w hs)
theorem skipR (h : EvE X .normal Q S) : EvR P X r n .skip Q S := fun ρ a w hs => wpIn_skip (h ρ a w hs)
theorem exitR {id : Nat} (h : EvE X (.exit id) Q S) : EvR P X r n (.exit id) Q S := fun ρ a w hs => wpIn_exit (h ρ a w hs)
theorem retR (h : EvE X .ret Q S) : EvR P X r n .ret Q S := fun ρ a w hs => wpIn_ret (h ρ a w hs)
theorem condR {c : Operand} {x y : Code} {b : Bool} (hc : opv S.T c = some (.p false [.c (.v (.bool b))])) (ht : b = true → EvR P X r n x Q S) (hf : b = false → EvR P X r n y Q S) : EvR P X r n (.cond c x y) Q S := by
 intro ρ a w hs
 have hb : a.eval c = .bool b := rd_v (opv_rep hs hc).1
 cases b
 ·exact wpIn_cond_false hb (hf rfl ρ a w hs)
 ·exact wpIn_cond_true hb (ht rfl ρ a w hs)
theorem condR_kt {c : Operand} {x y : Code} {b : Bool} (hc : opv S.T c = some (.p false [.c (.v (.bool b))])) (hb : b = true) (ht : EvR P X r n x Q S) : EvR P X r n (.cond c x y) Q S := condR hc (fun _ => ht) (fun h => (bno hb h).elim)
theorem condR_kf {c : Operand} {x y : Code} {b : Bool} (hc : opv S.T c = some (.p false [.c (.v (.bool b))])) (hb : b = false) (hf : EvR P X r n y Q S) : EvR P X r n (.cond c x y) Q S := condR hc (fun h => (bno h hb).elim) (fun _ => hf)
theorem OwC.isCells {w : World} : ∀ {d : Nat} {c : C} {u : Value} {F : List Nat}, OwC w d c u F → ∀ b ∈ F, ∃ o : Obj, w.heap[b]? = some o ∧ o.isCells = true
 | d, .v x, u, F, h, b, hb => by cases d <;> (rw [h.2] at hb; simp at hb)
 | d, .nil, u, F, h, b, hb => by cases d <;> (rw [h.2] at hb; simp at hb)
 | d, .hole, u, F, h, b, hb => by cases d <;> (rw [h.2] at hb; simp at hb)
 | 0, .s _ _, _, _, h, _, _ => h.elim
 | d + 1, .s n l, u, F, h, b, hb => by
  obtain ⟨ty, xs, Fs, ⟨h1, h2, h3⟩, rfl⟩ := h
  rcases List.mem_append.1 hb with hb | hb
  ·have hb := Option.mem_toList.1 hb
   rcases h1.2 with ⟨rfl, _⟩ | ⟨g, cap, cur, rfl, _, hg, _⟩
   ·simp [Value.ownBlock] at hb
   ·have e : b = g := by simpa [Value.ownBlock, eq_comm] using hb
    subst e
    exact ⟨_, hg, rfl⟩
  ·obtain ⟨G, hG, hb⟩ := List.mem_flatten.1 hb
   have key : ∀ {cs : List C} {xs : List Value} {Fs : List (List Nat)}, All3 (OwC w d) cs xs Fs → ∀ G ∈ Fs, ∀ b ∈ G, ∃ o : Obj, w.heap[b]? = some o ∧ o.isCells = true := by
    intro cs
    induction cs with
    | nil =>
     intro xs Fs h G hG
     match xs, Fs, h with
     | [], [], _ => simp at hG
     | [], _ :: _, h => exact h.elim
     | _ :: _, _, h => exact h.elim
    | cons c cs ih =>
     intro xs Fs h G hG b hb
     match xs, Fs, h with
     | x :: xs, F :: Fs, h =>
      rcases List.mem_cons.1 hG with rfl | hG
      ·exact h.1.isCells b hb
      ·exact ih h.2 G hG b hb
     | [], _, h => exact h.elim
     | _ :: _, [], h => exact h.elim
   exact key h3 G hG b hb
theorem Sim.cells (h : Sim X ρ S a w) (hM : S.M = []) : ∀ b ∈ feet ρ S, ∃ o : Obj, w.heap[b]? = some o ∧ o.isCells = true := by
 intro b hb
 unfold feet at hb
 rw [hM] at hb
 simp only [List.map_nil, List.append_nil] at hb
 rcases List.mem_append.1 hb with hb | hb
 ·obtain ⟨x, hx, rfl⟩ := List.mem_map.1 hb
  obtain ⟨vs, h1, _⟩ := h.hp.B x hx
  exact ⟨_, h1, rfl⟩
 ·obtain ⟨x, hx, hb⟩ := List.mem_flatMap.1 hb
  obtain ⟨d, hd⟩ := (h.hp.R x hx).c
  exact hd.isCells b hb
theorem Sim.world {w' : World} (h : Sim X ρ S a w) (hM : S.M = []) (hk : ∀ b ∈ feet ρ S, w'.heap[b]? = w.heap[b]?) (hH : ∀ b o, ρ.H b = some o → w'.heap[b]? = some o) (hf : Chg X.w0 w' X.F0) : Sim X ρ S a w' :=
 ⟨⟨hH, fun x hx => by
   obtain ⟨vs, h1, h2⟩ := h.hp.B x hx
   exact ⟨vs, by rw [hk _ (List.mem_append_left _ (List.mem_map.2 ⟨x, hx, rfl⟩))]; exact h1, h2⟩,
  fun x hx => (h.hp.R x hx).keep fun b hb => hk b (List.mem_append_right _ (List.mem_append_left _ (List.mem_flatMap.2 ⟨x, hx, hb⟩))),
  fun x hx => (by rw [hM] at hx; cases hx), h.hp.nd, h.hp.dj⟩, h.T, h.df, h.sz, hf, h.ft⟩
theorem Sim.grow {w' : World} {row : Option Nat} {B : Nat} (h : Sim X ρ S a w) (hM : S.M = []) (hHb : ∀ b o, X.H b = some o → b < B) (hB : X.w0.heap.size ≤ B) (hg : w.grownBy w' row) (hr : ∀ r, row = some r → B ≤ r ∧ ∃ o : Obj, w.heap[r]? = some o ∧ o.isCells = false) : Sim X ρ S a w' := by
 refine h.world hM (fun b hb => ?_) (fun b o hb => ?_) ⟨hg.os.trans h.fr.os, hg.tape.trans h.fr.tape, hg.output.trans h.fr.output, Nat.le_trans h.fr.size hg.size, fun k hk hn => ?_⟩
 ·obtain ⟨o, h1, h2⟩ := h.cells hM b hb
  refine hg.block b (heap_lt h1) fun e => ?_
  obtain ⟨_, o', h3, h4⟩ := hr b e.symm
  rw [h1] at h3; cases h3; rw [h2] at h4; cases h4
 ·have h1 := h.hp.H b o hb
  rw [hg.block b (heap_lt h1) fun e => ?_]
  ·exact h1
  ·have := hHb b o (by rw [← h.df.2]; exact hb)
   have := (hr b e.symm).1
   omega
 ·refine (hg.block k (Nat.lt_of_lt_of_le hk h.fr.size) fun e => ?_).trans (h.fr.block k hk hn)
  have := (hr k e.symm).1
  omega
def pinK (v : Nat → Value) : List (Nat × AV) → List (Nat × Value)
 | [] => []
 | (t, _) :: r => (t, v t) :: pinK v r
theorem pinK_mem {v : Nat → Value} : ∀ {T : List (Nat × AV)} {x : Nat × Value}, x ∈ pinK v T → x.2 = v x.1 ∧ ∃ av, (x.1, av) ∈ T
  | (t, av) :: r, x, h => by
    rcases List.mem_cons.1 h with rfl | h
    · exact ⟨rfl, av, by simp⟩
    · obtain ⟨h1, av', h2⟩ := pinK_mem h
      exact ⟨h1, av', by simp [h2]⟩
theorem mem_pinK {v : Nat → Value} : ∀ {T : List (Nat × AV)} {t : Nat} {av : AV}, (t, av) ∈ T → (t, v t) ∈ pinK v T
  | (k, a) :: r, t, av, h => by
    rcases List.mem_cons.1 h with h | h
    · cases h; exact List.mem_cons_self
    · exact List.mem_cons_of_mem _ (mem_pinK h)
theorem lk_of_mem {α : Type} : ∀ {l : List (Nat × α)} {t : Nat} {v : α}, (t, v) ∈ l → ∃ v', lk l t = some v'
  | (k, u) :: r, t, v, h => by
    unfold lk
    split
    · exact ⟨u, rfl⟩
    · rename_i e
      rcases List.mem_cons.1 h with h | h
      · cases h; exact absurd rfl e
      · exact lk_of_mem h
def KpF (B : Nat) (FB : List Nat) (W W' : World) : Prop := ∀ b, b < B → b ∉ FB → W'.heap[b]? = W.heap[b]?
def IR (X : Cx) (S : St) (a : Act) (B : Nat) (FB : List Nat) (W : World) : Prop := ∃ ρ, Sim X ρ S a W ∧ B ≤ W.heap.size ∧ ∀ b ∈ feet ρ S, b ∈ FB ∨ B ≤ b
theorem Sim.back {T0 : List (Nat × AV)} {S2 : St} {B : Nat} {FB F0 : List Nat} {ρ2 : Rho} {a2 : Act} {W W2 : World} (hs : Sim X ρ S a W) (hD : X.D = []) (hT : S2.T = T0) (hsz : B ≤ W.heap.size)
  (hF0 : ∀ b ∈ F0, (b ∈ FB ∨ B ≤ b) ∧ (b ∈ X.F0 ∨ X.w0.heap.size ≤ b) ∧ ∃ o : Obj, W.heap[b]? = some o ∧ o.isCells = true)
  (hT0 : ∀ t av, (t, av) ∈ T0 → ∃ av', lk S.T t = some av') (h2 : Sim ⟨X.N, W, F0, X.H, pinK (fun t => a.tmps.getD t undef) T0, []⟩ ρ2 S2 a2 W2) :
  KeepsFrom B W W2 ∧ KpF B FB W W2 ∧ IR X S2 a B FB W2 := by
 have hfr := h2.fr
 refine ⟨⟨hfr.size, fun k o hk h0 ho => ?_⟩, fun b hb hn => ?_, ρ2, ⟨h2.hp, fun t av ht => ?_, ⟨by rw [hs.df.1], h2.df.2⟩, hs.sz, ?_, fun b hb => ?_⟩, Nat.le_trans hsz hfr.size, fun b hb => ?_⟩
 ·rw [hfr.block k (heap_lt h0) fun hm => ?_]
  ·exact h0
  ·obtain ⟨_, _, o', h3, h4⟩ := hF0 k hm
   rw [h0] at h3; cases h3; rw [ho] at h4; cases h4
 ·refine hfr.block b (Nat.lt_of_lt_of_le hb hsz) fun hm => ?_
  rcases (hF0 b hm).1 with h3 | h3
  ·exact hn h3
  ·omega
 ·obtain ⟨v, h3, h4⟩ := h2.T t av ht
  have hmem : (t, av) ∈ T0 := by rw [← hT]; exact lk_mem ht
  have h5 := h2.sz.2 (t, a.tmps.getD t undef) (mem_pinK hmem)
  simp only at h5
  rw [h3] at h5
  obtain ⟨av', h6⟩ := hT0 t av hmem
  obtain ⟨v', h7, _⟩ := hs.T t av' h6
  refine ⟨v', h7, ?_⟩
  rw [Array.getD_eq_getD_getElem?, h7] at h5
  have : v = v' := Option.some.inj h5
  rw [← this]; exact h4
 ·exact hs.fr.step hfr fun b hb => (hF0 b hb).2.1
 ·rcases h2.ft b hb with h3 | h3
  ·exact (hF0 b h3).2.1
  ·exact .inr (Nat.le_trans hs.fr.size h3)
 ·rcases h2.ft b hb with h3 | h3
  ·exact (hF0 b h3).1
  ·exact .inr (Nat.le_trans hsz h3)
theorem RepC.monoH {H' : Nat → Option Obj} (hm : ∀ b o, ρ.H b = some o → H' b = some o) {x : AC} {u : Value} (h : RepC ρ x u) : RepC { ρ with H := H' } x u := by
 cases x with
 | c x => exact RdX.mono hm h
 | pe cs =>
  obtain ⟨g, o, e, hc⟩ := h
  exact ⟨g, o, e, fun j c hj => let ⟨x, h1, h2⟩ := hc j c hj; ⟨x, rcell_mono hm h1, h2.mono hm⟩⟩
 | _ => exact h
theorem Sim.readD (h : Sim X ρ S a w) (hM : S.M = []) {D : Nat} {o : Obj} {ds : List Deferred} (hD : w.heap[D]? = some o) (hc : o.isCells = false) :
  Sim ⟨X.N, X.w0, X.F0, fun b => if b = D then some o else X.H b, X.K, ds⟩ { ρ with H := fun b => if b = D then some o else X.H b } S { a with defers := ds } w := by
 have hm : ∀ b o', ρ.H b = some o' → (if b = D then some o else X.H b) = some o' := fun b o' hb => by
  split
  ·rename_i e; subst e
   have := h.hp.H b o' hb
   rw [hD] at this; exact this
  ·rw [← h.df.2]; exact hb
 refine ⟨⟨fun b o' hb => ?_, fun x hx => ?_, h.hp.R, fun x hx => (by rw [hM] at hx; cases hx), h.hp.nd, fun b hb => ?_⟩, Sim.tr (m := fun _ => false) (X := X) (fun x u _ hx => hx.monoH hm) (noT_ff _) h.T, ⟨rfl, rfl⟩, h.sz, h.fr, h.ft⟩
 ·have hb : (if b = D then some o else X.H b) = some o' := hb
  by_cases e : b = D
  ·subst e; rw [if_pos rfl] at hb; cases hb; exact hD
  ·rw [if_neg e] at hb; exact h.hp.H b o' (by rw [h.df.2]; exact hb)
 ·obtain ⟨vs, h1, h2⟩ := h.hp.B x hx
  exact ⟨vs, h1, h2.mono fun _ _ hx => hx.monoH hm⟩
 ·show (if b = D then some o else X.H b) = none
  split
  ·rename_i e; subst e
   obtain ⟨o', h3, h4⟩ := h.cells hM b hb
   rw [hD] at h3; cases h3; rw [hc] at h4; cases h4
  ·rw [← h.df.2]; exact h.hp.dj b hb
theorem Sim.addbox (h : Sim X ρ S a w) (hM : S.M = []) {d g ty : Nat} {cs : List AC} {vs : List Value} (hg : w.heap[g]? = some (.cells vs.toArray ty (0, 0))) (hr : L2 (RepC ρ) cs vs) (hn : g ∉ feet ρ S) (hH : ρ.H g = none) (hF : g ∈ X.F0 ∨ X.w0.heap.size ≤ g) (hf : freshB d S = true) (hcs : noL (mentB d) cs = true) :
  Sim X (ρ.setBox d g) ⟨S.T, (d, ty, cs) :: S.B, S.R, S.M⟩ a w := by
 have hf' := hf
 simp only [freshB, Bool.and_eq_true] at hf'
 have hbox : ∀ x ∈ S.B, (ρ.setBox d g).box x.1 = ρ.box x.1 := fun x hx => by
  show (if x.1 = d then g else ρ.box x.1) = _
  rw [if_neg (noK_mem hf'.2.2.1 x hx)]
 have hfe : feet (ρ.setBox d g) ⟨S.T, (d, ty, cs) :: S.B, S.R, S.M⟩ = g :: feet ρ S := by
  unfold feet
  rw [hM]
  simp only [List.map_cons, List.map_nil, List.append_nil, List.cons_append]
  rw [show (ρ.setBox d g).box d = g by show (if d = d then g else _) = g; rw [if_pos rfl], List.map_congr_left hbox]
  rfl
 refine ⟨⟨h.hp.H, fun x hx => ?_, h.hp.R, fun x hx => (by rw [hM] at hx; cases hx), ?_, fun b hb => ?_⟩, Sim.tr (m := mentB d) (X := X) (fun x u hx hu => hu.setBox hx) hf'.1 h.T, h.df, h.sz, h.fr, fun b hb => ?_⟩
 ·rcases List.mem_cons.1 hx with rfl | hx
  ·refine ⟨vs, ?_, hr.monoM fun a b ha hab => hab.setBox (noL_mem hcs a ha)⟩
   rw [show (ρ.setBox d g).box d = g by show (if d = d then g else _) = g; rw [if_pos rfl]]; exact hg
  ·obtain ⟨us, h1, h2⟩ := h.hp.B x hx
   exact ⟨us, by rw [hbox x hx]; exact h1, h2.monoM fun a b ha hab => hab.setBox (noL_mem (noBs_mem hf'.2.1 x hx) a ha)⟩
 ·rw [hfe]; exact List.nodup_cons.2 ⟨hn, h.hp.nd⟩
 ·rw [hfe] at hb
  rcases List.mem_cons.1 hb with rfl | hb
  ·exact hH
  ·exact h.hp.dj b hb
 ·rw [hfe] at hb
  rcases List.mem_cons.1 hb with rfl | hb
  ·exact hF
  ·exact h.ft b hb
theorem flat_foot {w : World} {ty n : Nat} {l : List (List C)} {u : Value} {xs : List Value} {F : List Nat} (h : OwS w ty n l u xs F) (hf : ∀ cs ∈ l, ∀ c ∈ cs, ∃ x, c = .v x) : F = u.ownBlock.toList := by
 obtain ⟨Fs, ⟨_, _, h3⟩, rfl⟩ := h
 have key : ∀ {cs : List C} {xs : List Value} {Fs : List (List Nat)}, All3 (OwX w) cs xs Fs → (∀ c ∈ cs, ∃ x, c = .v x) → Fs.flatten = [] := by
  intro cs
  induction cs with
  | nil =>
   intro xs Fs h _
   match xs, Fs, h with
   | [], [], _ => rfl
   | [], _ :: _, h => exact h.elim
   | _ :: _, _, h => exact h.elim
  | cons c cs ih =>
   intro xs Fs h hc
   match xs, Fs, h with
   | x :: xs, F :: Fs, h =>
    obtain ⟨y, rfl⟩ := hc c (by simp)
    obtain ⟨d, hd⟩ := h.1
    have : F = [] := by cases d <;> exact hd.2
    rw [List.flatten_cons, this, ih h.2 fun c hc2 => hc c (by simp [hc2])]
    rfl
   | [], _, h => exact h.elim
   | _ :: _, [], h => exact h.elim
 rw [key h3 fun c hc => by
  obtain ⟨cs, h1, h2⟩ := List.mem_flatten.1 hc
  exact hf cs h1 c h2]
 simp
@[reducible] def SR (T0 : List (Nat × AV)) (bn tys r ety n : Nat) (l : List (List C)) : St := ⟨T0, [(bn, tys, [.rt r])], [(r, ety, n, l)], []⟩
theorem feet_SR {T0 : List (Nat × AV)} {bn tys r ety n : Nat} {l : List (List C)} : feet ρ (SR T0 bn tys r ety n l) = ρ.box bn :: ρ.foot r := by
 simp [feet]
@[reducible] def SB (T0 : List (Nat × AV)) (bn tys r ety n d p E : Nat) (cx : List C) (l : List (List C)) : St := ⟨(d, .p false [.pb d 0]) :: (p, .p true (mapCO cx)) :: T0, [(d, E, mapCO cx), (bn, tys, [.rt r])], [(r, ety, n, l)], []⟩
theorem cells_rep {cx : List C} (hx : ∀ c ∈ cx, ∃ v : Value, c = .v v ∧ v.oneCell' = true) : L2 (RepC ρ) (mapCO cx) (cx.map cv) := by
 induction cx with
 | nil => trivial
 | cons c cs ih =>
  obtain ⟨v, rfl, hv⟩ := hx c (by simp)
  exact ⟨⟨0, rfl, hv⟩, ih fun c hc => hx c (by simp [hc])⟩
theorem cells_val {cx : List C} {us : List Value} (hx : ∀ c ∈ cx, ∃ v : Value, c = .v v ∧ v.oneCell' = true) (h : L2 (RepC ρ) (mapCO cx) us) : us = cx.map cv := by
 induction cx generalizing us with
 | nil => match us, h with | [], _ => rfl
 | cons c cs ih =>
  match us, h with
  | u :: us, h =>
   obtain ⟨v, rfl, _⟩ := hx c (by simp)
   rw [List.map_cons, ih (fun c hc => hx c (by simp [hc])) h.2, rd_v h.1]
   rfl
def capV (ρ : Rho) (caps : List (Nat × Nat)) : Array Value := (caps.map fun p => Value.pointer (some ⟨ρ.box p.1, p.2, none⟩)).toArray
def XD (X : Cx) (D : Nat) : Cx := ⟨X.N, X.w0, X.F0, fun b => if b = D then some (.deferred (some [])) else X.H b, X.K, [{ target := .collected D, args := #[] }]⟩
theorem enters_chk {f : FuncId} (h : chkF P f = true) : ∀ args w, (callFunc f args).run P w = .ok (.enter f args) w := by
 intro args w
 unfold chkF at h
 split at h
 ·rename_i fn hfn
  simp only [Bool.and_eq_true, Bool.not_eq_true', beq_eq_false_iff_ne, ne_eq] at h
  obtain ⟨h1, h2⟩ := h
  obtain ⟨c, hc⟩ := Option.isSome_iff_exists.1 h2
  simp [callFunc, hfn, h1, hc]
 ·cases h
theorem ir_own {T0 : List (Nat × AV)} {bn tys r ety n B0 : Nat} {l : List (List C)} {FB : List Nat} {W W' : World} {row : Option Nat} (h : IR X (SR T0 bn tys r ety n l) a B0 FB W) (hHb : ∀ b o, X.H b = some o → b < B0) (hB : X.w0.heap.size ≤ B0) (hg : W.grownBy W' row)
  (hr : ∀ r, row = some r → B0 ≤ r ∧ ∃ o : Obj, W.heap[r]? = some o ∧ o.isCells = false) : IR X (SR T0 bn tys r ety n l) a B0 FB W' := by
 obtain ⟨ρ, h1, h2, h3⟩ := h
 exact ⟨ρ, h1.grow rfl hHb hB hg hr, Nat.le_trans h2 hg.size, h3⟩
theorem ev_range {α : Type} {g : Operand} {p d : Nat} {assign body : Code} {f2 : FuncId} {caps : List (Nat × Nat)} {L : List α} {cx : α → List C} {T T0 : List (Nat × AV)} {B : List (Nat × Nat × List AC)} {R : RL} (σ : List (Nat × Nat)) (bn tys r ety n tb E idx : Nat) (f : List α → List (List C)) (pi px : List α → Prop)
    (hN : Nat.blt p X.N = true) (hD : X.D = []) (hg : opv T g = some (.p false [.fn (.func f2) caps])) (hF : chkF P f2 = true) (hle : Le σ ⟨T, B, R, []⟩ (SR T0 bn tys r ety n (f []))) (htb : lk T0 tb = some (.p false [.pb bn 0]))
    (hpd : Nat.beq p d = false) (hpT : noK p T0 = true) (hdm : noT (mentB d) T0 = true) (hdb : Nat.beq bn d = false) (hcx : ∀ x, ∀ c ∈ cx x, ∃ v : Value, c = .v v ∧ v.oneCell' = true) (hfl : ∀ pre, ∀ cs ∈ f pre, ∀ c ∈ cs, ∃ x, c = .v x) (hpi : pi [])
    (hseq : ∀ ρ a w, Sim X ρ ⟨T, B, R, []⟩ a w → SeqStopsK Fence.wide 4 P f2 (capV ρ caps) (fun x => #[.agg ((cx x).map cv).toArray]) (KpF w.heap.size (ρ.box bn :: ρ.foot (sg σ r))) (fun xs => xs = L) (fun pre => pre <+: L) L.length w)
    (hasg : ∀ (W : World) (v : Nat → Value) (l m : Nat) (x : α) (Q : Exit → Act → World → Prop), (∀ a w, ¬ Q .outgrown a w) → EvE ⟨X.N, W, [], X.H, pinK v T0, []⟩ .normal Q ⟨(d, .p false [.pb d 0]) :: (p, .p true (mapCO (cx x))) :: T0, [(d, E, mapCO (cx x))], [], []⟩ →
      EvR P ⟨X.N, W, [], X.H, pinK v T0, []⟩ (some l) m assign Q ⟨(p, .p true (mapCO (cx x))) :: T0, [], [], []⟩)
    (hbody : ∀ (W : World) (F0 : List Nat) (v : Nat → Value) (l m : Nat) (pre : List α) (x : α) (Q : Exit → Act → World → Prop), pi pre → pre.length < L.length → (∀ a w, ¬ Q .outgrown a w) →
      (pi (pre ++ [x]) → ∀ S' σ', Le σ' S' (SR T0 bn tys r ety n (f (pre ++ [x]))) → EvE ⟨X.N, W, F0, X.H, pinK v T0, []⟩ .normal Q S') →
      (px (pre ++ [x]) → ∀ S' σ', Le σ' S' (SR T0 bn tys r ety n (f (pre ++ [x]))) → EvE ⟨X.N, W, F0, X.H, pinK v T0, []⟩ (.exit idx) Q S') →
      EvR P ⟨X.N, W, F0, X.H, pinK v T0, []⟩ (some l) m body Q (SB T0 bn tys r ety n d p E (cx x) (f pre)))
    (hdone : pi L → ∀ D, X.w0.heap.size ≤ D → X.H D = none → EvE (XD X D) .normal Q (SR T0 bn tys r ety n (f L)))
    (hstop : ∀ pre, pre <+: L → px pre → ∀ D, X.w0.heap.size ≤ D → X.H D = none → EvE (XD X D) (.exit idx) Q (SR T0 bn tys r ety n (f pre))) : Ev P X (.rangeFunc g #[p] assign body) Q ⟨T, B, R, []⟩ := by
  intro ρ a w hs
  have hgv : a.eval g = .func (.func f2) #[] (capV ρ caps) := (opv_rep hs hg).1
  have hs0 := hs.le hle
  have hB0 : X.w0.heap.size ≤ w.heap.size := hs.fr.size
  have hHb : ∀ b o, X.H b = some o → b < w.heap.size := fun b o hb => heap_lt (hs.hp.H b o (by rw [hs.df.2]; exact hb))
  have hHn : ∀ D, w.heap.size ≤ D → X.H D = none := fun D hD => by
    cases h9 : X.H D with
    | none => rfl
    | some o => have := hHb D o h9; omega
  obtain ⟨FB, hFB⟩ : ∃ FB, FB = ρ.box bn :: ρ.foot (sg σ r) := ⟨_, rfl⟩
  have hseq0 := hseq ρ a w hs
  rw [← hFB] at hseq0
  have hpN : p < X.N := by have h9 : Nat.ble (p + 1) X.N = true := hN; have := Nat.le_of_ble_eq_true h9; omega
  have hpin : ∀ t av, (t, av) ∈ T0 → t ≠ p := fun t av h => noK_mem hpT (t, av) h
  have hTv : ∀ {l : List (List C)} {ρ' : Rho} {W : World}, Sim X ρ' (SR T0 bn tys r ety n l) a W → ∀ t av, (t, av) ∈ T0 → a.tmps[t]? = some (a.tmps.getD t undef) := fun hS t av hm => by
    obtain ⟨av', h1⟩ := lk_of_mem hm
    obtain ⟨v, h2, _⟩ := hS.T t av' h1
    rw [Array.getD_eq_getD_getElem?, h2]; rfl
  have hT0 : ∀ {l : List (List C)} t av, (t, av) ∈ T0 → ∃ av', lk (SR T0 bn tys r ety n l).T t = some av' := fun t av hm => lk_of_mem hm
  have hptr : ∀ {l : List (List C)} {ρ' : Rho} {W : World}, Sim X ρ' (SR T0 bn tys r ety n l) a W → a.tmps[tb]? = some (.pointer (some ⟨ρ'.box bn, 0, none⟩)) := fun hS => by
    obtain ⟨v, h1, h2⟩ := hS.T tb _ htb
    rw [h1]; congr 1; exact h2.1
  have hcell : ∀ {l : List (List C)} {ρ' : Rho} {W : World}, Sim X ρ' (SR T0 bn tys r ety n l) a W → W.cell? ⟨ρ'.box bn, 0, none⟩ = some (ρ'.root r) := fun hS => by
    obtain ⟨vs, h1, h2⟩ := hS.hp.B (bn, tys, [.rt r]) (by simp)
    obtain ⟨u, rfl, h3⟩ := h2.one
    have e : u = _ := h3.1
    unfold World.cell?
    simp only [h1]
    rw [e]; rfl
  refine (wpIn_wide (n := 5)).1 (wpIn_rangeFunc_ownH (F := Fence.wide) (n := 5) rfl om hgv trivial (enters_chk hF) hseq0 (fun h k b hb hn => (k b hb hn).trans (h b hb hn)) (fun W l o o' hl _ _ _ b hb _ => World.putObj_heap_other om) (Below.refl _ _) (fun _ => rfl)
    (fun pre W => pi pre ∧ IR X (SR T0 bn tys r ety n (f pre)) a w.heap.size FB W) (fun c pre W => c = .exit idx ∧ px pre ∧ IR X (SR T0 bn tys r ety n (f pre)) a w.heap.size FB W)
    (fun s W W' row hs hg hr => ⟨hs.1, ir_own hs.2 hHb hB0 hg hr⟩) (fun c s W W' row hs hg hr => ⟨hs.1, hs.2.1, ir_own hs.2.2 hHb hB0 hg hr⟩)
    ⟨hpi, ρ.ren σ, hs0, Nat.le_refl _, fun b hb => .inl (by rw [hFB]; rw [feet_SR] at hb; exact hb)⟩
    (fun x a' W => ∃ bx b5, w.heap.size ≤ bx ∧ a.tmps[tb]? = some (.pointer (some ⟨b5, 0, none⟩)) ∧ W.heap[bx]? = some (.cells ((cx x).map cv).toArray E (0, 0)) ∧ bx ≠ b5 ∧ (∃ o : Obj, W.heap[b5]? = some o ∧ o.isCells = true) ∧ (∀ u, W.cell? ⟨b5, 0, none⟩ = some u → u.ownBlock ≠ some bx) ∧
      a'.defers = [] ∧ a'.tmps.size = X.N ∧ a'.tmps[d]? = some (.pointer (some ⟨bx, 0, none⟩)) ∧ a'.tmps[p]? = some (.agg ((cx x).map cv).toArray) ∧ ∀ t av, (t, av) ∈ T0 → a'.tmps[t]? = some (a.tmps.getD t undef))
    ?ax ?assign ?body ?done ?stop)
  case ax =>
    intro x a' s W W' row hs hg hr
    obtain ⟨bx, b5, h1, h2, h3, h4, ⟨o, h5, h6⟩, h7, h8⟩ := hs
    have hne : ∀ b (o : Obj), W.heap[b]? = some o → o.isCells = true → W'.heap[b]? = W.heap[b]? := fun b o hb hc => hg.block b (heap_lt hb) fun e => by
      obtain ⟨_, o', h9, h10⟩ := hr b e.symm
      rw [hb] at h9; cases h9; rw [hc] at h10; cases h10
    exact ⟨bx, b5, h1, h2, (hne bx _ h3 rfl).trans h3, h4, ⟨o, (hne b5 o h5 h6).trans h5, h6⟩, fun u hu => h7 u (by rw [← hu]; exact (World.cell?_of_block (hne b5 o h5 h6)).symm), h8⟩
  case assign =>
    rintro l pre x W K ⟨hp, ρ1, hs1, hsz, hft⟩ hK
    have hS : Sim ⟨X.N, W, [], X.H, pinK (fun t => a.tmps.getD t undef) T0, []⟩ ρ1 ⟨(p, .p true (mapCO (cx x))) :: T0, [], [], []⟩ { tmps := a.tmps.setIfInBounds p (.agg ((cx x).map cv).toArray), defers := [] } W := by
      refine ⟨⟨hs1.hp.H, by simp, by simp, by simp, by simp [feet], by simp [feet]⟩, fun t av ht => ?_, ⟨rfl, hs1.df.2⟩, ⟨by simpa using hs1.sz.1, fun y hy => ?_⟩, Chg.refl _ _, by simp [feet]⟩
      · unfold lk at ht
        split at ht
        · rename_i e; subst e; cases ht
          exact ⟨_, by rw [Array.getElem?_setIfInBounds_self_of_lt (by rw [hs1.sz.1]; exact hpN)], _, rfl, cells_rep (hcx x)⟩
        · rename_i e
          obtain ⟨v, h1, h2⟩ := hs1.T t av ht
          exact ⟨v, by rw [Array.getElem?_setIfInBounds_ne om]; exact h1, h2⟩
      · obtain ⟨h1, av, h2⟩ := pinK_mem hy
        rw [h1, Array.getElem?_setIfInBounds_ne (Ne.symm (hpin _ _ h2))]
        exact hTv hs1 _ _ h2
    have ez : (#[p].zip #[Value.agg ((cx x).map cv).toArray]).foldl (fun (t : Array Value) (y : Nat × Value) => match y with | (p, v) => t.setIfInBounds p v) a.tmps = a.tmps.setIfInBounds p (.agg ((cx x).map cv).toArray) := by simp
    rw [ez]
    refine hasg W (fun t => a.tmps.getD t undef) l _ x (Exit.then K fun _ _ _ => False) (fun _ _ h => h) (fun ρ2 a2 W2 hs2 => ?_) ρ1 _ W hS
    have hbl : ∀ b, b < W.heap.size → W2.heap[b]? = W.heap[b]? := fun b hb => hs2.fr.block b hb (by simp)
    have hb2 : W.heap.size ≤ ρ2.box d := (hs2.ft (ρ2.box d) (by simp [feet])).resolve_left (by simp)
    have hs3 : Sim X ρ1 (SR T0 bn tys r ety n (f pre)) a W2 := hs1.world rfl (fun b hb => hbl b (hs1.hp.lt b hb)) (fun b o hb => by
      have h9 := hs1.hp.H b o hb
      rw [hbl b (heap_lt h9)]; exact h9) (hs1.fr.step hs2.fr (by simp))
    obtain ⟨vd, hd1, hd2⟩ := hs2.hp.B (d, E, mapCO (cx x)) (by simp)
    have hvd := cells_val (hcx x) hd2
    have hb5 : ρ1.box bn < W.heap.size := hs1.hp.lt _ (by simp [feet])
    refine hK a2 W2 ⟨hs2.fr.size, fun k o _ h0 _ => (hbl k (heap_lt h0)).trans h0⟩ (fun b hb _ => hbl b om) ⟨hp, ρ1, hs3, Nat.le_trans hsz hs2.fr.size, hft⟩ ⟨ρ2.box d, ρ1.box bn, by omega, hptr hs1, by rw [← hvd]; exact hd1, by omega, ?_, fun u hu e => ?_, hs2.df.1, hs2.sz.1, ?_, ?_, fun t av hm => hs2.sz.2 (t, a.tmps.getD t undef) (mem_pinK hm)⟩
    · obtain ⟨o, h1, h2⟩ := hs3.cells rfl (ρ1.box bn) (by simp [feet])
      exact ⟨o, h1, h2⟩
    · rw [hcell hs3] at hu
      cases hu
      have hmem : ρ2.box d ∈ ρ1.foot r := by
        have := flat_foot (hs1.hp.R (r, ety, n, f pre) (by simp)) (hfl pre)
        rw [show ρ1.foot r = _ from this, e]; simp
      have := hs1.hp.lt (ρ2.box d) (by rw [feet_SR]; exact List.mem_cons_of_mem _ hmem)
      omega
    · obtain ⟨v, h1, h2⟩ := hs2.T d (.p false [.pb d 0]) (by unfold lk; rw [if_pos rfl])
      rw [h1]; congr 1; exact h2.1
    · obtain ⟨v, h1, us, h2, h3⟩ := hs2.T p (.p true (mapCO (cx x))) (by unfold lk; rw [if_neg (fun e => Nat.ne_of_beq_eq_false hpd e.symm)]; unfold lk; rw [if_pos rfl])
      rw [h1, h2, cells_val (hcx x) h3]
  case body =>
    rintro l pre x a' W hl _ ⟨hp, ρ3, hs3, hsz, hft⟩ ⟨bx, b5, x1, x2, x3, x4, _, x6, x7, x8, x9, x10, x11⟩ hlen
    have e5 : b5 = ρ3.box bn := by
      have h9 := hptr hs3
      rw [x2] at h9
      simpa using h9
    subst e5
    have hbx : bx ∉ feet ρ3 (SR T0 bn tys r ety n (f pre)) := by
      rw [feet_SR]
      intro hm
      rcases List.mem_cons.1 hm with h9 | h9
      · exact x4 h9
      · have := flat_foot (hs3.hp.R (r, ety, n, f pre) (by simp)) (hfl pre)
        rw [show ρ3.foot r = _ from this] at h9
        exact x6 _ (hcell hs3) (Option.mem_toList.1 h9)
    have hHx : ρ3.H bx = none := by
      cases h9 : ρ3.H bx with
      | none => rfl
      | some o =>
        have := hHb bx o (by rw [← hs3.df.2]; exact h9)
        omega
    have hS : Sim ⟨X.N, W, bx :: feet ρ3 (SR T0 bn tys r ety n (f pre)), X.H, pinK (fun t => a.tmps.getD t undef) T0, []⟩ ρ3 ⟨(p, .p true (mapCO (cx x))) :: T0, [(bn, tys, [.rt r])], [(r, ety, n, f pre)], []⟩ a' W := by
      refine ⟨⟨hs3.hp.H, hs3.hp.B, hs3.hp.R, hs3.hp.M, hs3.hp.nd, hs3.hp.dj⟩, fun t av ht => ?_, ⟨x7, hs3.df.2⟩, ⟨x8, fun y hy => ?_⟩, Chg.refl _ _, fun b hb => .inl (List.mem_cons_of_mem _ hb)⟩
      · unfold lk at ht
        split at ht
        · rename_i e; subst e; cases ht
          exact ⟨_, x10, _, rfl, cells_rep (hcx x)⟩
        · rename_i e
          obtain ⟨v, h1, h2⟩ := hs3.T t av ht
          refine ⟨v, ?_, h2⟩
          rw [x11 t av (lk_mem ht), Array.getD_eq_getD_getElem?, h1]; rfl
      · obtain ⟨h1, av, h2⟩ := pinK_mem hy
        rw [h1]; exact x11 _ av h2
    have hS2 := hS.addbox rfl (d := d) (g := bx) (ty := E) (cs := mapCO (cx x)) x3 (cells_rep (hcx x)) (by simpa [feet] using hbx) hHx (.inl (by simp)) (by
      have hno : ∀ cs : List C, noL (mentB d) (mapCO cs) = true := fun cs => by
        induction cs with
        | nil => rfl
        | cons c cs ih => unfold mapCO noL; exact ih
      have h1 : noV (mentB d) (.p true (mapCO (cx x))) = true := hno _
      simp only [freshB, Bool.and_eq_true]
      refine ⟨by unfold noT; rw [h1]; exact hdm, rfl, ?_, rfl⟩
      unfold noK; rw [hdb]; rfl) (by
      have hno : ∀ cs : List C, noL (mentB d) (mapCO cs) = true := fun cs => by
        induction cs with
        | nil => rfl
        | cons c cs ih => unfold mapCO noL; exact ih
      exact hno _)
    have hS3 := hS2.know (t := d) (av := .p false [.pb d 0]) x9 ⟨by show _ = Value.pointer (some ⟨(ρ3.setBox d bx).box d, 0, none⟩); rw [show (ρ3.setBox d bx).box d = bx by show (if d = d then bx else _) = bx; rw [if_pos rfl]], trivial⟩
    have hF0 : ∀ b ∈ bx :: feet ρ3 (SR T0 bn tys r ety n (f pre)), (b ∈ FB ∨ w.heap.size ≤ b) ∧ (b ∈ X.F0 ∨ X.w0.heap.size ≤ b) ∧ ∃ o : Obj, W.heap[b]? = some o ∧ o.isCells = true := fun b hb => by
      rcases List.mem_cons.1 hb with rfl | hb
      · exact ⟨.inr x1, .inr (Nat.le_trans hB0 x1), _, x3, rfl⟩
      · exact ⟨hft b hb, hs3.ft b hb, hs3.cells rfl b hb⟩
    refine hbody W _ _ l _ pre x _ hp hlen (fun _ _ h => h) (fun hp' S' σ' hl' ρ5 a5 W5 hs5 => ?_) (fun hp' S' σ' hl' ρ5 a5 W5 hs5 => ?_) _ a' W hS3
    · have hb := hs3.back (S2 := SR T0 bn tys r ety n (f (pre ++ [x]))) (FB := FB) hD rfl hsz hF0 hT0 (hs5.le hl')
      exact ⟨hb.1, hb.2.1, hp', hb.2.2⟩
    · have hb := hs3.back (S2 := SR T0 bn tys r ety n (f (pre ++ [x]))) (FB := FB) hD rfl hsz hF0 hT0 (hs5.le hl')
      exact ⟨hb.1, rfl, hp', hb.2.2⟩
  case done =>
    rintro D xs W hDl rfl ⟨hp, ρ1, hs1, hsz, hft⟩ hdef
    have h9 := hs1.readD (ds := [{ target := .collected D, args := #[] }]) rfl hdef rfl
    have h10 : a.defers = [] := hs1.df.1.trans hD
    rw [h10]
    exact hdone hp D om (hHn D om) _ _ W h9
  case stop =>
    rintro D c pre W hDl hpre ⟨rfl, hp, ρ1, hs1, hsz, hft⟩ hdef
    have h9 := hs1.readD (ds := [{ target := .collected D, args := #[] }]) rfl hdef rfl
    have h10 : a.defers = [] := hs1.df.1.trans hD
    rw [h10]
    exact wpIn_exit (hstop pre hpre hp D om (hHn D om) _ _ W h9)
end
end Go.Proofs.YtinmcdcmidlgpaaGreatDoor
