/- The other cursor of draws: its cell is a number with a sign. Functions whose result is only known to be of a kind. No program in it. -/
import Derived.Test.YtahkjonokeifmaaGreatRaVDF
import Derived.Laws.Closers25b
namespace Go.Proofs.YtahkjonokeifmaaGreat.Cur
open Go.ChangeShapes Go.WideShapes Go.ChangeAt Go.RowKit
set_option linter.unusedVariables false
set_option linter.unusedSimpArgs false
structure DS (n : Nat) where
 i : Nat
 h : Int
 ok : i ≤ n ∧ -9223372036854775808 ≤ h ∧ h ≤ 9223372036854775807
@[reducible] def diceA {n : Nat} (v0 : Value) (δ : DS n) : List AC := [.c (.v v0), .c (iC δ.i), .c (.v (.int .i64 δ.h))]
def DiceAt {n : Nat} (TD g : Nat) (v0 : Value) (δ : DS n) (w : World) : Prop := w.heap[g]? = some (.cells [v0, .int .i64 δ.i, .int .i64 δ.h].toArray TD (0, 0))
def RollPost {α : Type} (H : Nat → Option Obj) (TD g : Nat) (v0 : Value) (n : Nat) (q : α → Prop) (res : α → List (Bool × List RC)) (w : World) (e : Ending) (w' : World) : Prop :=
 ∃ (x : α) (δ : DS n) (us : List Value) (F : List Nat), q x ∧ DiceAt TD g v0 δ w' ∧ e = .returned (retV us) ∧ OwPs H w' (res x) us F ∧ F.Nodup ∧ (∀ b ∈ F, w.heap.size ≤ b) ∧ Chg w w' [g]
def Rolls (P : Program) (TD : Nat) (f : FuncId) (args : List (Bool × List C)) {α : Type} (q : α → Prop) (res : α → List (Bool × List RC)) : Prop :=
 ∀ (H : Nat → Option Obj) (w : World) (g : Nat) (v0 : Value) (n : Nat) (δ : DS n) (vs : List Value), (∀ b o, H b = some o → w.heap[b]? = some o) → H g = none → Src H v0 n → DiceAt TD g v0 δ w → L2 (Pc H) args vs → Calls P f (.pointer (some ⟨g, 0, none⟩) :: vs).toArray w (RollPost H TD g v0 n q res w)
section
variable {P : Program} {X : Cx} {S : St} {ρ : Rho} {a : Act} {w : World} {TT : List (Nat × TI)} {TD : Nat}
theorem rolls_intro {α : Type} {q : α → Prop} {res : α → List (Bool × List RC)} {f : FuncId} {fn : Func} {c : Code} {args : List (Bool × List C)} {T : List (Nat × AV)} {N : Nat} (hf : P.funcs[f]? = some fn) (hb : fn.body = some c) (hN : fn.ntmps = N) (hl : Nat.ble (args.length + 1) N = true) (hT : argT 1 args = some T)
  (h : ∀ H w g v0 n (δ : DS n), Src H v0 n → Ev P ⟨N, w, [g], H, [(0, .pointer (some ⟨g, 0, none⟩))], []⟩ c (bodyPost P fn (RollPost H TD g v0 n q res w)) ⟨(0, .p false [.pb 0 0]) :: T, [(0, TD, diceA v0 δ)], [], []⟩) : Rolls P TD f args q res := by
 intro H w g v0 n δ vs hH hg hs hd hv
 refine calls_of_wp hf hb ?_
 have hle := Nat.le_of_ble_eq_true hl
 have hvl := hv.len
 refine h H w g v0 n δ hs ⟨H, fun _ => g, fun _ => undef, fun _ => [], fun _ => []⟩ _ w ⟨⟨hH, fun x hx => ?_, by simp, by simp, by simp [feet], fun b hb => ?_⟩, fun t av ht => ?_, ⟨rfl, rfl⟩, ⟨by simp [hN]; omega, fun x hx => ?_⟩, Chg.refl _ _, fun b hb => ?_⟩
 ·obtain rfl := List.mem_singleton.1 hx
  exact ⟨_, hd, ⟨⟨0, rfl, hs.one⟩, ⟨0, rfl, rfl⟩, ⟨0, rfl, rfl⟩, trivial⟩⟩
 ·have : b = g := by simpa [feet] using hb
  rw [this]; exact hg
 ·have ht' : (if 0 = t then some (AV.p false [AC.pb 0 0]) else lk T t) = some av := ht
  by_cases e : 0 = t
  ·rw [if_pos e] at ht'
   cases ht'
   subst e
   refine ⟨.pointer (some ⟨g, 0, none⟩), ?_, ⟨rfl, trivial⟩⟩
   show ((Value.pointer (some ⟨g, 0, none⟩) :: vs).toArray ++ _)[0]? = _
   rw [Array.getElem?_append_left (by simp)]
   rfl
  ·rw [if_neg e] at ht'
   obtain ⟨h0, u, h1, h2⟩ := argT_rep (ρ := ⟨H, fun _ => g, fun _ => undef, fun _ => [], fun _ => []⟩) hT hv t av ht'
   refine ⟨u, ?_, h2⟩
   have hlt : t - 1 < vs.length := (List.getElem?_eq_some_iff.1 h1).1
   show ((Value.pointer (some ⟨g, 0, none⟩) :: vs).toArray ++ _)[t]? = some u
   rw [Array.getElem?_append_left (by simp; omega)]
   simp only [List.getElem?_toArray]
   rw [show t = (t - 1) + 1 by omega, List.getElem?_cons_succ]
   exact h1
 ·obtain rfl := List.mem_singleton.1 hx
  show ((Value.pointer (some ⟨g, 0, none⟩) :: vs).toArray ++ _)[0]? = _
  rw [Array.getElem?_append_left (by simp)]
  rfl
 ·have : b = g := by simpa [feet] using hb
  exact .inl (by simp [this])
theorem dice_heap {nb n : Nat} {v0 : Value} {δ : DS n} (hs : Sim X ρ S a w) (hB : lk S.B nb = some (TD, diceA v0 δ)) : w.heap[ρ.box nb]? = some (.cells [v0, .int .i64 δ.i, .int .i64 δ.h].toArray TD (0, 0)) := by
 obtain ⟨vs, h1, h2⟩ := hs.hp.B _ (lk_mem hB)
 match vs, h2 with
 | [a, b, c], h2 =>
  obtain rfl : a = v0 := rd_v h2.1
  obtain rfl : b = _ := rd_v h2.2.1
  obtain rfl : c = _ := rd_v h2.2.2.1
  exact h1
theorem ret_roll {α : Type} {q : α → Prop} {res : α → List (Bool × List RC)} {fn : Func} {N n g : Nat} {w0 : World} {H : Nat → Option Obj} {v0 : Value} {ps : List (Bool × List AC)} {res' : List (Bool × List RC)} (x : α) (δ : DS n) (hT : TTOk P TT) (h1 : retPs TT S fn.results.toList = some ps) (h2 : toRCs S.R ps = some res') (h0 : lk S.T 0 = some (.p false [.pb 0 0])) (hB : lk S.B 0 = some (TD, diceA v0 δ)) (he : RpLe res' (res x)) (hq : q x) :
  EvE ⟨N, w0, [g], H, [(0, .pointer (some ⟨g, 0, none⟩))], []⟩ .ret (bodyPost P fn (RollPost H TD g v0 n q res w0)) S := by
 intro ρ a w hs
 obtain ⟨us, h3, h4⟩ := results_ok hT hs h1
 have hnd := hs.hp.nd
 unfold feet at hnd
 obtain ⟨n1, n2, n3⟩ := List.nodup_append.1 hnd
 obtain ⟨F, h5, h6, h7⟩ := toRCs_ok hs.hp.R (fun x hx => hx) h2 h3 (List.nodup_append.1 n2).1
 rw [hs.df.2] at h5
 have hg := pin_box (t := 0) (nb := 0) (g := g) hs rfl h0
 have hd := dice_heap hs hB
 rw [hg] at hd
 refine ⟨hs.df.1, _, h4, x, δ, us, F, hq, hd, rfl, he.ow h5, h6, fun b hb => ?_, hs.fr⟩
 rcases hs.ft b (List.mem_append_right _ (List.mem_append_left _ (h7 b hb))) with h9 | h9
 ·obtain rfl : b = g := by simpa using h9
  exact absurd hg (n3 (ρ.box 0) (List.mem_map.2 ⟨_, lk_mem hB, rfl⟩) b (List.mem_append_left _ (h7 b hb)))
 ·exact h9
theorem roll_wp {α : Type} {qq : α → Prop} {res : α → List (Bool × List RC)} {o : Oper} {f : FuncId} {x : Operand} {xs : List Operand} {tys : Array TypeId} {args : List (Bool × List C)} {nb n nm d : Nat} {v0 : Value} {δ : DS n} {T : List (Nat × AV)} {B : List (Nat × Nat × List AC)} {R : RL} {M : List (Nat × (Int → Option Value))} {K : Act → World → Prop} {Q : Exit → Act → World → Prop}
  (hF : chkF P f = true) (ho : o.op = .call ⟨.value (.func f), (x :: xs).toArray, tys⟩) (hd : o.dst = some d) (hc : Rolls P TD f args qq res) (hx : opv T x = some (.p false [.pb nb 0])) (hB : lk B nb = some (TD, diceA v0 δ)) (hsrc : Src X.H v0 n) (hr : RsA ⟨T, B, R, M⟩ xs args) (hm : ∀ x, noCr (res x) = true) (hs : Sim X ρ ⟨T, B, R, M⟩ a w)
  (h : ∀ (y : α) (δ' : DS n), qq y → ∃ av B' R', updB nb (diceA v0 δ') B = some B' ∧ imO T B' R nm (res y) = some (av, R') ∧ okD X d = true ∧ ∀ ρ' v w', Chg w w' [ρ.box nb] → ρ'.box = ρ.box → Sim X ρ' ⟨(d, av) :: T, B', R', M⟩ (a.put (some d) v) w' → K (a.put (some d) v) w') : Oper.wp P o a w K Q := by
 obtain ⟨od, oop, oty, opos, oaf, og⟩ := o
 simp only at ho hd
 subst ho; subst hd
 unfold Oper.wp
 rw [run_call hF a.eval (x :: xs).toArray tys (some d) oty opos oaf og rfl]
 rw [Oper.upon_enter]
 have ex : a.eval x = .pointer (some ⟨ρ.box nb, 0, none⟩) := (opv_rep hs hx).1
 have e : (x :: xs).toArray.map a.eval = (Value.pointer (some ⟨ρ.box nb, 0, none⟩) :: xs.map a.eval).toArray := by simp [ex]
 rw [e]
 have hH : ∀ b o, ρ.H b = some o → HG w (ρ.box nb) b = some o := fun b o hb => by
  unfold HG
  rw [if_neg (fun e => by have := hs.hp.dj _ (box_feet hB); rw [← e, hb] at this; cases this)]
  exact hs.hp.H b o hb
 refine (hc (HG w (ρ.box nb)) w (ρ.box nb) v0 n δ _ (fun b o hb => ?_) (if_pos rfl) (hsrc.mono fun b o hb => hH b o (by rw [hs.df.2]; exact hb)) (dice_heap hs hB) (RsA.rdG hs hB hr)).mono fun en w' hpost => ?_
 ·unfold HG at hb
  split at hb
  ·cases hb
  ·exact hb
 obtain ⟨y, δ', us, F, hq, hd', rfl, h1, h2, h3, h4⟩ := hpost
 obtain ⟨av, B', R', k1, k2, k3, k4⟩ := h y δ' hq
 have hs' := hs.turn hB rfl k1 h4 hd' ⟨⟨0, rfl, hsrc.one⟩, ⟨0, rfl, rfl⟩, ⟨0, rfl, rfl⟩, trivial⟩
 obtain ⟨ps, hp, rfl⟩ := impO_eq (imO_eq (M := M) k2)
 obtain ⟨ρ', j1, j2, j3, _⟩ := impPs_ok hp hs' (noCr_ok (hm y) h1) h2 (fun b hb => by
  have hge := h3 b hb
  have hfe : ∀ b, b ∈ feet ρ ⟨T, B', R, M⟩ → b ∈ feet ρ ⟨T, B, R, M⟩ := fun b hb => by
   obtain ⟨p, ty', l, q, hBe, rfl, _⟩ := updB_eq k1
   unfold feet at hb ⊢
   simp only [hBe] at hb ⊢
   simpa using hb
  refine ⟨fun hm => by have := hs.hp.lt b (hfe b hm); omega, ?_, .inr (Nat.le_trans hs.fr.size hge)⟩
  cases ho : ρ.H b with
  | none => rfl
  | some o => have := heap_lt (hs.hp.H b o ho); omega)
 exact k4 ρ' _ w' h4 j3.2.1 (j1.put k3 (resV_rep j2))
variable {Q : Exit → Act → World → Prop} {ops : Array Oper} {rest : List Oper}
def RollK (P : Program) (X : Cx) (ops : Array Oper) (rest : List Oper) (Q : Exit → Act → World → Prop) (d nm nb : Nat) (cs : List AC) (res : List (Bool × List RC)) (T : List (Nat × AV)) (B : List (Nat × Nat × List AC)) (R : RL) (M : List (Nat × (Int → Option Value))) : Prop :=
 ∃ av B' R', updB nb cs B = some B' ∧ imO T B' R nm res = some (av, R') ∧ okD X d = true ∧ EvL P X ops rest Q ⟨(d, av) :: T, B', R', M⟩
theorem rlk {T : List (Nat × AV)} {B B' : List (Nat × Nat × List AC)} {R R' : RL} {M : List (Nat × (Int → Option Value))} {d nm nb : Nat} {cs : List AC} {res : List (Bool × List RC)} {av : AV} (h1 : updB nb cs B = some B') (h2 : imO T B' R nm res = some (av, R')) (h3 : okD X d = true) (h : EvL P X ops rest Q ⟨(d, av) :: T, B', R', M⟩) : RollK P X ops rest Q d nm nb cs res T B R M := ⟨av, B', R', h1, h2, h3, h⟩
theorem evl_roll {α : Type} {qq : α → Prop} {res : α → List (Bool × List RC)} {T : List (Nat × AV)} {B : List (Nat × Nat × List AC)} {R : RL} {M : List (Nat × (Int → Option Value))} {f : FuncId} {x : Operand} {xs : List Operand} {tys : Array TypeId} {args : List (Bool × List C)} {nb n nm d ty : Nat} {v0 : Value} {δ : DS n} {pos : String} {af : Array Edge}
  (hF : chkF P f = true) (hc : Rolls P TD f args qq res) (hx : opv T x = some (.p false [.pb nb 0])) (hB : lk B nb = some (TD, diceA v0 δ)) (hsrc : Src X.H v0 n) (hr : RsA ⟨T, B, R, M⟩ xs args) (hm : ∀ x, noCr (res x) = true)
  (h : ∀ (y : α) (δ' : DS n), qq y → RollK P X ops rest Q d nm nb (diceA v0 δ') (res y) T B R M) : EvL P X ops (⟨some d, .call ⟨.value (.func f), (x :: xs).toArray, tys⟩, ty, pos, af, none⟩ :: rest) Q ⟨T, B, R, M⟩ :=
 fun ρ a w hs => wpList_plain rfl fun K hK => roll_wp hF rfl rfl hc hx hB hsrc hr hm hs fun y δ' hq => let ⟨av, B', R', h1, h2, h3, h4⟩ := h y δ' hq; ⟨av, B', R', h1, h2, h3, fun ρ' v w' _ _ hs' => hK _ _ (h4 ρ' _ w' hs')⟩
def MkCur (P : Program) (TD : Nat) (f : FuncId) : Prop := ∀ (H : Nat → Option Obj) (w : World) (v0 : Value) (n : Nat), (∀ b o, H b = some o → w.heap[b]? = some o) → Src H v0 n → Calls P f #[v0] w fun e w' => ∃ (g : Nat) (δ : DS n), e = .returned (.pointer (some ⟨g, 0, none⟩)) ∧ w.heap.size ≤ g ∧ DiceAt TD g v0 δ w' ∧ Below w.heap.size w w'
theorem evl_mkcur {T : List (Nat × AV)} {B : List (Nat × Nat × List AC)} {R : RL} {f : FuncId} {x : Operand} {tys : Array TypeId} {d ty : Nat} {pos : String} {af : Array Edge} {l : List Int}
  (hF : chkF P f = true) (hc : MkCur P TD f) (hx : opv T x = some (.p false [.c (bytes l)])) (hl : ∀ x ∈ l, 0 ≤ x ∧ x ≤ 255) (hn : l.length ≤ 4096) (hN : okD X d = true) (hf : freshB d ⟨T, B, R, []⟩ = true)
  (h : ∀ g v0 (δ : DS l.length), X.w0.heap.size ≤ g → Src X.H v0 l.length → EvL P ⟨X.N, X.w0, g :: X.F0, X.H, (d, .pointer (some ⟨g, 0, none⟩)) :: X.K, X.D⟩ ops rest Q ⟨(d, .p false [.pb d 0]) :: T, (d, TD, diceA v0 δ) :: B, R, []⟩) :
  EvL P X ops (⟨some d, .call ⟨.value (.func f), #[x], tys⟩, ty, pos, af, none⟩ :: rest) Q ⟨T, B, R, []⟩ := by
 intro ρ a w hs
 refine wpList_plain rfl fun K hK => ?_
 unfold Oper.wp
 rw [run_call hF a.eval #[x] tys (some d) ty pos af none rfl, Oper.upon_enter]
 have hxr : RdX ρ.H (bytes l) (a.eval x) := (opv_rep hs hx).1
 have e : #[x].map a.eval = #[a.eval x] := by simp
 rw [e]
 have hsrc : Src ρ.H (a.eval x) l.length := ⟨l, rfl, hxr, hl, hn⟩
 refine (hc ρ.H w (a.eval x) l.length hs.hp.H hsrc).mono fun en w' hp => ?_
 obtain ⟨g, δ, rfl, h1, h2, h3⟩ := hp
 have hs1 := hs.next h3
 have hgf : g ∉ feet ρ ⟨T, B, R, []⟩ := fun hm => by have := hs.hp.lt g hm; omega
 have hgH : ρ.H g = none := by
  cases ho : ρ.H g with
  | none => rfl
  | some o => have := heap_lt (hs.hp.H g o ho); omega
 have hge : X.w0.heap.size ≤ g := Nat.le_trans hs.fr.size h1
 have hfb := hf
 simp only [freshB, Bool.and_eq_true] at hfb
 have hbox : ∀ x ∈ B, (ρ.setBox d g).box x.1 = ρ.box x.1 := fun x hx => by
  show (if x.1 = d then g else ρ.box x.1) = _
  rw [if_neg (noK_mem hfb.2.2.1 x hx)]
 have hbd : (ρ.setBox d g).box d = g := by show (if d = d then g else _) = g; rw [if_pos rfl]
 have hfe : feet (ρ.setBox d g) ⟨T, (d, TD, diceA (a.eval x) δ) :: B, R, []⟩ = g :: feet ρ ⟨T, B, R, []⟩ := by
  unfold feet
  simp only [List.map_cons, List.map_nil, List.append_nil, List.cons_append]
  rw [hbd, List.map_congr_left hbox]
  rfl
 have hdN : d < X.N := by have h9 : Nat.ble (d + 1) X.N = true := (okD_lt hN).1; have := Nat.le_of_ble_eq_true h9; omega
 refine hK _ _ (h g (a.eval x) δ hge (by rw [← hs.df.2]; exact hsrc) (ρ.setBox d g) _ w' ⟨⟨hs1.hp.H, fun y hy => ?_, hs1.hp.R, by simp, ?_, fun b hb => ?_⟩, fun t av ht => ?_, hs1.df, ⟨?_, fun y hy => ?_⟩, ?_, fun b hb => ?_⟩)
 ·rcases List.mem_cons.1 hy with rfl | hy
  ·refine ⟨[a.eval x, .int .i64 δ.i, .int .i64 δ.h], by rw [hbd]; exact h2, ⟨⟨0, rfl, hsrc.one⟩, ⟨0, rfl, rfl⟩, ⟨0, rfl, rfl⟩, trivial⟩⟩
  ·obtain ⟨us, h4, h5⟩ := hs1.hp.B y hy
   exact ⟨us, by rw [hbox y hy]; exact h4, h5.monoM fun a b ha hab => hab.setBox (noL_mem (noBs_mem hfb.2.1 y hy) a ha)⟩
 ·have : (feet (ρ.setBox d g) ⟨T, (d, TD, diceA (a.eval x) δ) :: B, R, []⟩).Nodup := by rw [hfe]; exact List.nodup_cons.2 ⟨hgf, hs.hp.nd⟩
  exact this
 ·have hb : b ∈ feet (ρ.setBox d g) ⟨T, (d, TD, diceA (a.eval x) δ) :: B, R, []⟩ := hb
  rw [hfe] at hb
  rcases List.mem_cons.1 hb with rfl | hb
  ·exact hgH
  ·exact hs.hp.dj b hb
 ·have ht' : (if d = t then some (AV.p false [AC.pb d 0]) else lk T t) = some av := ht
  by_cases e : d = t
  ·rw [if_pos e] at ht'
   cases ht'
   subst e
   refine ⟨.pointer (some ⟨g, 0, none⟩), by simp [Act.put, hs.sz.1, hdN], ⟨?_, trivial⟩⟩
   show _ = Value.pointer (some ⟨(ρ.setBox d g).box d, 0, none⟩)
   rw [hbd]
  ·rw [if_neg e] at ht'
   obtain ⟨v, h4, h5⟩ := Sim.tr (m := mentB d) (X := X) (σ := ρ.setBox d g) (fun x u hx hu => hu.setBox hx) hfb.1 hs.T t av ht'
   exact ⟨v, by simp only [Act.put]; rw [Array.getElem?_setIfInBounds_ne e]; exact h4, h5⟩
 ·simpa [Act.put] using hs.sz.1
 ·rcases List.mem_cons.1 hy with rfl | hy
  ·simp [Act.put, hs.sz.1, hdN]
  ·have hne := noS_mem (okD_lt hN).2 y hy
   simp only [Act.put]; rw [Array.getElem?_setIfInBounds_ne (Ne.symm hne)]; exact hs.sz.2 y hy
 ·exact ⟨hs1.fr.os, hs1.fr.tape, hs1.fr.output, hs1.fr.size, fun k hk hn => hs1.fr.block k hk fun h9 => hn (List.mem_cons_of_mem _ h9)⟩
 ·have hb : b ∈ feet (ρ.setBox d g) ⟨T, (d, TD, diceA (a.eval x) δ) :: B, R, []⟩ := hb
  rw [hfe] at hb
  rcases List.mem_cons.1 hb with rfl | hb
  ·exact .inl (by simp)
  ·rcases hs.ft b hb with h9 | h9
   ·exact .inl (List.mem_cons_of_mem _ h9)
   ·exact .inr h9
def MkPost (TD : Nat) (v0 : Value) (n : Nat) (w : World) (e : Ending) (w' : World) : Prop := ∃ (g : Nat) (δ : DS n), e = .returned (.pointer (some ⟨g, 0, none⟩)) ∧ w.heap.size ≤ g ∧ DiceAt TD g v0 δ w' ∧ Below w.heap.size w w'
theorem mk_intro {TD : Nat} {f : FuncId} {fn : Func} {c : Code} {N : Nat} (hf : P.funcs[f]? = some fn) (hb : fn.body = some c) (hN : fn.ntmps = N) (hl : Nat.ble 1 N = true)
  (h : ∀ H w v0 (l : List Int), RdX H (bytes l) v0 → (∀ x ∈ l, 0 ≤ x ∧ x ≤ 255) → l.length ≤ 4096 → Ev P ⟨N, w, [], H, [], []⟩ c (bodyPost P fn (MkPost TD v0 l.length w)) ⟨[(0, .p false [.c (.v v0)])], [], [], []⟩) : MkCur P TD f := by
 intro H w v0 n hH hs
 obtain ⟨l, rfl, h2, h3, h4⟩ := hs
 refine calls_of_wp hf hb ?_
 have hle := Nat.le_of_ble_eq_true hl
 refine h H w v0 l h2 h3 h4 ⟨H, fun _ => 0, fun _ => undef, fun _ => [], fun _ => []⟩ _ w ⟨⟨hH, by simp, by simp, by simp, by simp [feet], by simp [feet]⟩, fun t av ht => ?_, ⟨rfl, rfl⟩, ⟨by simp [hN]; omega, by simp⟩, Chg.refl _ _, by simp [feet]⟩
 have ht' : (if 0 = t then some (AV.p false [.c (.v v0)]) else none) = some av := ht
 split at ht'
 ·rename_i e; subst e; cases ht'
  exact ⟨v0, by show (#[v0] ++ _)[0]? = _; rw [Array.getElem?_append_left (by simp)]; rfl, ⟨⟨0, rfl, h2.one⟩, trivial⟩⟩
 ·cases ht'
theorem ret_mk {TD : Nat} {fn : Func} {N n nb : Nat} {w0 : World} {H : Nat → Option Obj} {v0 : Value} (δ : DS n) (hT : TTOk P TT) (h1 : retPs TT S fn.results.toList = some [(false, [.pb nb 0])]) (hB : lk S.B nb = some (TD, diceA v0 δ)) : EvE ⟨N, w0, [], H, [], []⟩ .ret (bodyPost P fn (MkPost TD v0 n w0)) S := by
 intro ρ a w hs
 obtain ⟨us, h3, h4⟩ := results_ok hT hs h1
 obtain ⟨u, rfl, h5⟩ := h3.one
 have hu : u = .pointer (some ⟨ρ.box nb, 0, none⟩) := h5.1
 subst hu
 refine ⟨hs.df.1, _, h4, ρ.box nb, δ, rfl, ?_, dice_heap hs hB, hs.fr.below⟩
 rcases hs.ft _ (box_feet hB) with h9 | h9
 ·have h9 : ρ.box nb ∈ ([] : List Nat) := h9
  simp at h9
 ·exact h9
theorem q_wmul {t yt : TypeId} {x y : Operand} {m n : Int} (hx : opv S.T x = some (iV m)) (hy : opv S.T y = some (iV n)) : Quiet P X S (.binOp .mul t x y yt) (iV (IntKind.i64.wrap (m * n))) := by
 refine quiet_of fun ρ a w hs => ⟨.int .i64 (IntKind.i64.wrap (m * n)), ⟨⟨0, rfl, rfl⟩, trivial⟩, fun _ _ _ _ _ w' => ?_⟩
 have hp : a.eval x = .int .i64 m := rd_v (opv_rep hs hx).1
 have hq : a.eval y = .int .i64 n := rd_v (opv_rep hs hy).1
 simp [execOp, hp, hq, binOp, Op.intArith, cmp_guard]
theorem q_wadd {t yt : TypeId} {x y : Operand} {m n : Int} (hx : opv S.T x = some (iV m)) (hy : opv S.T y = some (iV n)) : Quiet P X S (.binOp .add t x y yt) (iV (IntKind.i64.wrap (m + n))) := by
 refine quiet_of fun ρ a w hs => ⟨.int .i64 (IntKind.i64.wrap (m + n)), ⟨⟨0, rfl, rfl⟩, trivial⟩, fun _ _ _ _ _ w' => ?_⟩
 have hp : a.eval x = .int .i64 m := rd_v (opv_rep hs hx).1
 have hq : a.eval y = .int .i64 n := rd_v (opv_rep hs hy).1
 simp [execOp, hp, hq, binOp, Op.intArith, cmp_guard]
theorem q_wshr {t yt : TypeId} {x y : Operand} {m k : Int} (hx : opv S.T x = some (iV m)) (hy : opv S.T y = some (uV k)) (h0 : 0 ≤ k) (h1 : k ≤ 64) : Quiet P X S (.binOp .shr t x y yt) (iV (m / 2 ^ k.toNat)) := by
 refine quiet_of fun ρ a w hs => ⟨.int .i64 (m / 2 ^ k.toNat), ⟨⟨0, rfl, rfl⟩, trivial⟩, fun _ _ _ _ _ w' => ?_⟩
 have hp : a.eval x = .int .i64 m := rd_v (opv_rep hs hx).1
 have hq : a.eval y = .int .u64 k := rd_v (opv_rep hs hy).1
 have h := shift_shr .i64 .u64 m k h0 h1
 simp [execOp, hp, hq, binOp, cmp_guard, h]
theorem q_wand {t yt : TypeId} {x y : Operand} {m n : Int} (hx : opv S.T x = some (iV m)) (hy : opv S.T y = some (iV n)) : Quiet P X S (.binOp .and t x y yt) (iV (bits BinOp.and .i64 m n)) := by
 refine quiet_of fun ρ a w hs => ⟨.int .i64 (bits BinOp.and .i64 m n), ⟨⟨0, rfl, rfl⟩, trivial⟩, fun _ _ _ _ _ w' => ?_⟩
 have hp : a.eval x = .int .i64 m := rd_v (opv_rep hs hx).1
 have hq : a.eval y = .int .i64 n := rd_v (opv_rep hs hy).1
 simp [execOp, hp, hq, binOp, cmp_guard, intBits_and]
theorem q_wxor {t yt : TypeId} {x y : Operand} {m n : Int} (hx : opv S.T x = some (iV m)) (hy : opv S.T y = some (iV n)) : Quiet P X S (.binOp .xor t x y yt) (iV (bits BinOp.xor .i64 m n)) := by
 refine quiet_of fun ρ a w hs => ⟨.int .i64 (bits BinOp.xor .i64 m n), ⟨⟨0, rfl, rfl⟩, trivial⟩, fun _ _ _ _ _ w' => ?_⟩
 have hp : a.eval x = .int .i64 m := rd_v (opv_rep hs hx).1
 have hq : a.eval y = .int .i64 n := rd_v (opv_rep hs hy).1
 simp [execOp, hp, hq, binOp, cmp_guard, intBits_xor]
theorem and_i64 (x : Int) (m : Nat) (hm : m < 4611686018427387904) : 0 ≤ bits BinOp.and IntKind.i64 x m ∧ bits BinOp.and IntKind.i64 x m ≤ m := by
 have h2 : (BitVec.ofInt 64 (m : Int)).toNat = m := by
  rw [BitVec.ofInt_natCast, BitVec.toNat_ofNat]; exact Nat.mod_eq_of_lt om
 have e : bits BinOp.and IntKind.i64 x m = IntKind.i64.wrap (((BitVec.ofInt 64 x &&& BitVec.ofInt 64 (m : Int)).toNat : Nat) : Int) := rfl
 rw [e, BitVec.toNat_and, h2]
 have h3 : (BitVec.ofInt 64 x).toNat &&& m ≤ m := Nat.and_le_right
 generalize (BitVec.ofInt 64 x).toNat &&& m = y at h3
 rw [IntWalk.i64_in _ om]
 omega
theorem and_in (x z : Int) (hz : 0 ≤ z ∧ z < 4611686018427387904) : 0 ≤ bits BinOp.and IntKind.i64 x z ∧ bits BinOp.and IntKind.i64 x z ≤ z := by
 obtain ⟨m, rfl⟩ := Int.eq_ofNat_of_zero_le hz.1
 exact and_i64 x m om
theorem wrap_i64 (n : Int) : -9223372036854775808 ≤ IntKind.i64.wrap n ∧ IntKind.i64.wrap n ≤ 9223372036854775807 := wrap_within .i64 n
end
section
variable {P : Program} {X : Cx} {ops : Array Oper} {ks : List Nat} {gg fuel : Nat} {listed : Array Bool} {T : List (Nat × AV)} {B : List (Nat × Nat × List AC)} {R : RL} {M : List (Nat × (Int → Option Value))} {Q : Act → World → Prop} {d : Nat} {ty : TypeId} {pos : String} {af : Array Edge} {g : Option (Nat × Bool)} {TD : Nat}
theorem rddo_roll {α : Type} {qq : α → Prop} {res : α → List (Bool × List RC)} {i : Nat} {f : FuncId} {x : Operand} {xs : List Operand} {tys : Array TypeId} {args : List (Bool × List C)} {nb n nm : Nat} {v0 : Value} {δ : DS n} (t : Nat) (hi : ops[i]? = some ⟨some d, .call ⟨.value (.func f), (x :: xs).toArray, tys⟩, ty, pos, af, g⟩) (hg : GOk ops T g) (hk : lk X.K t = some (.pointer (some ⟨gg, 0, none⟩))) (ht : lk T t = some (.p false [.pb nb 0]))
  (hF : chkF P f = true) (hc : Rolls P TD f args qq res) (hx : opv T x = some (.p false [.pb nb 0])) (hB : lk B nb = some (TD, diceA v0 δ)) (hsrc : Src X.H v0 n) (hr : RsA ⟨T, B, R, M⟩ xs args) (hm : ∀ x, noCr (res x) = true)
  (h : ∀ (y : α) (δ' : DS n), qq y → RollD P X ops ks gg fuel (listed.setIfInBounds i true) Q d nm nb (diceA v0 δ') (res y) T B R M) : RDdo P X ops ks gg fuel listed i ⟨T, B, R, M⟩ Q := by
 intro ρ a w hs
 refine wpOp_step hi fun K' hK => ?_
 rw [if_pos (GOk.wanted (o := ⟨some d, .call ⟨.value (.func f), (x :: xs).toArray, tys⟩, ty, pos, af, g⟩) hs hg)]
 have hp : ρ.box nb = gg := pin_box hs hk ht
 refine roll_wp (nm := nm) (o := ⟨some d, .call ⟨.value (.func f), (x :: xs).toArray, tys⟩, ty, pos, af, g⟩) hF rfl rfl hc hx hB hsrc hr hm hs fun y δ' hq => ?_
 obtain ⟨av, B', R', h1, h2, h3, h4⟩ := h y δ' hq
 refine ⟨av, B', R', h1, h2, h3, fun ρ' v w' hch _ hs' => ?_⟩
 rw [hp] at hch
 exact hK _ _ ⟨fun _ => hch, wpAnyK_mono (fun W hW => chg_tr hch hW) _ _ _ _ (h4 ρ' _ w' hs')⟩
end
end Go.Proofs.YtahkjonokeifmaaGreat.Cur
