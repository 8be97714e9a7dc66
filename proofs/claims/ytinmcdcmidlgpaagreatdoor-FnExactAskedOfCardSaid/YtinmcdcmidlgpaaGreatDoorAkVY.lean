/- Drawn regions over what is only read. No program in it. -/
import Derived.Test.YtinmcdcmidlgpaaGreatDoorAkVR
import Derived.ControlIn
import Derived.RangeFuncBound
import Derived.Test.YtinmcdcmidlgpaaGreatDoorAkVM
namespace Go.Proofs.YtinmcdcmidlgpaaGreatDoor
open Go.ChangeShapes Go.WideShapes Go.ChangeAt Go.RowKit
set_option linter.unusedVariables false
def EvLR (P : Program) (X : Cx) (r : Option Nat) (n : Nat) (ops : Array Oper) (l : List Oper) (Q : Exit → Act → World → Prop) (S : St) : Prop := ∀ ρ a w, Sim X ρ S a w → wpListIn (Fr r) n P ops Q l a w
def preQ (P : Program) (r : Option Nat) (n : Nat) (ops : Array Oper) (rest : List Oper) (Q : Exit → Act → World → Prop) : Exit → Act → World → Prop
 | .normal, a, w => wpListIn (Fr r) n P ops Q rest a w
 | e, a, w => Q e a w
section
variable {P : Program} {X : Cx} {S : St} {ρ : Rho} {a : Act} {w : World} {Q : Exit → Act → World → Prop} {ops : Array Oper} {r : Option Nat} {n : Nat}
theorem wpList_pre {rest : List Oper} (hout : ∀ a w, ¬ Q .outgrown a w) : ∀ {l : List Oper} {a : Act} {w : World}, noDef l = true → wpList P ops (preQ P r n ops rest Q) l a w → wpListIn (Fr r) n P ops Q (l ++ rest) a w
 | [], a, w, _, h => h
 | o :: l, a, w, hd, h => by
  obtain ⟨hd1, hd2⟩ := noDef_cons hd
  unfold wpList at h
  rw [List.cons_append]
  unfold wpListIn
  split
  ·rename_i hw
   rw [if_pos hw] at h
   rcases h with h | ⟨_, a0, w0, h0⟩
   ·exact Oper.lift hd1 (fun a w hk => wpList_pre hout hd2 hk) (fun e _ _ hn h => by cases e <;> first | exact h | exact absurd rfl hn) h
   ·exact absurd h0 (hout a0 w0)
  ·rename_i hw
   rw [if_neg hw] at h
   exact ⟨fun f _ => trivial, wpList_pre hout hd2 h⟩
theorem prefR (k : Nat) {id : Nat} {l : List Oper} (hd : noDef (l.take k) = true) (hout : ∀ a w, ¬ Q .outgrown a w) (h : EvL P X l.toArray (l.take k) (preQ P r n l.toArray (l.drop k) Q) S) : EvR P X r n (.region id l.toArray false) Q S :=
 fun ρ a w hs => wpIn_region_lit (by
  have := wpList_pre hout hd (h ρ a w hs)
  rwa [List.take_append_drop] at this)
theorem pre2 (k : Nat) {l : List Oper} (hd : noDef (l.take k) = true) (hout : ∀ a w, ¬ Q .outgrown a w) (h : EvL P X ops (l.take k) (preQ P r n ops (l.drop k) Q) S) : EvLR P X r n ops l Q S := fun ρ a w hs => by
 have := wpList_pre hout hd (h ρ a w hs)
 rwa [List.take_append_drop] at this
theorem evlr_part {b : Bool} {l : List Oper} (hk : b = true → EvLR P X r n ops l Q S) (hf : b = false → EvLR P X r n ops l Q S) : EvLR P X r n ops l Q S := by
 cases b
 ·exact hf rfl
 ·exact hk rfl
theorem evR_lenm {c : Code} {t m : Nat} {α : Type} {f : α → List C} {l : List α} (hx : lk S.T t = some (.p false [.c (.s m (List.map f l))])) (h : l.length ≤ 9223372036854775807 → EvR P X r n c Q S) : EvR P X r n c Q S := fun ρ a w hs => by
 obtain ⟨v, _, h2⟩ := hs.T t _ hx
 obtain ⟨ao, cap, _, h3, h4, _⟩ := rd_s h2.1
 rw [List.length_map] at h3
 exact h (by simp only [maxLen] at h4; omega) ρ a w hs
theorem sufR {l : List Oper} (hd : noDef l = true) (hout : ∀ a w, ¬ Q .outgrown a w) (h : EvL P X ops l Q S) : EvLR P X r n ops l Q S := fun ρ a w hs => wpList_lift hout hd (h ρ a w hs)
theorem preq {l2 : List Oper} (h : EvLR P X r n ops l2 Q S) : EvE X .normal (preQ P r n ops l2 Q) S := fun ρ a w hs => h ρ a w hs
def subT (T : List (Nat × AV)) : List (Nat × AV) → Prop
 | [] => True
 | (t, av) :: r => lk T t = some av ∧ subT T r
theorem lesT {T : List (Nat × AV)} : ∀ {T' : List (Nat × AV)}, subT T T' → ∀ t av, lk T' t = some av → lk T t = some av
  | [], _, t, av, h => by cases h
  | (k, v) :: r, h, t, av, ht => by
    unfold lk at ht
    split at ht
    · rename_i e; subst e; cases ht; exact h.1
    · exact lesT h.2 t av ht
theorem Sim.rebase {T : List (Nat × AV)} {w' : World} (h : Sim X ρ S a w) (hT : ∀ t av, lk T t = some av → lk S.T t = some av) (hD : X.D = []) (hK : X.K = []) (hH : ∀ b o, X.H b = some o → w'.heap[b]? = some o) :
  Sim ⟨X.N, w', [], X.H, [], []⟩ ρ ⟨T, [], [], []⟩ a w' :=
 ⟨⟨fun b o hb => hH b o (by rw [← h.df.2]; exact hb), by simp, by simp, by simp, by simp [feet], by simp [feet]⟩, fun t av ht => h.T t av (hT t av ht), ⟨h.df.1.trans hD, h.df.2⟩, ⟨h.sz.1, by simp⟩, Chg.refl _ _, by simp [feet]⟩
def vC : List AC → Bool
 | [] => true
 | .c (.v _) :: r => vC r
 | _ :: _ => false
def vT : List (Nat × AV) → Bool
  | [] => true
  | (_, .p false l) :: r => match vC l with
    | true => vT r
    | false => false
  | _ :: _ => false
theorem vC_rep {ρ' : Rho} : ∀ {l : List AC} {us : List Value}, vC l = true → L2 (RepC ρ) l us → L2 (RepC ρ') l us
 | [], [], _, _ => trivial
 | x :: l, u :: us, h, hr => by
  unfold vC at h
  split at h
  ·cases ‹_ :: _ = []›
  ·rename_i y r e; cases e
   refine ⟨?_, vC_rep h hr.2⟩
   have h1 := oneV (show RdX ρ.H (.v y) u from hr.1)
   exact ⟨0, h1.1, h1.2⟩
  ·cases h
 | [], _ :: _, _, h => h.elim
 | _ :: _, [], _, h => h.elim
theorem vT_rep {ρ' : Rho} : ∀ {T : List (Nat × AV)}, vT T = true → ∀ t av v, lk T t = some av → RepV ρ av v → RepV ρ' av v
  | [], _, t, av, v, h, _ => by cases h
  | (k, x) :: r, h, t, av, v, hl, hv => by
    unfold vT at h
    split at h
    · cases ‹_ :: _ = []›
    · rename_i k' l r' e; cases e
      split at h
      case h_2 => cases h
      rename_i hc
      unfold lk at hl
      split at hl
      · cases hl; exact vC_rep hc hv
      · exact vT_rep h t av v hl hv
    · cases h
theorem Sim.rebaseV {T : List (Nat × AV)} {w' : World} (h : Sim X ρ S a w) (hT : ∀ t av, lk T t = some av → lk S.T t = some av) (hr : vT T = true) (hD : X.D = []) :
  Sim ⟨X.N, w', [], fun _ => none, [], []⟩ ⟨fun _ => none, ρ.box, ρ.root, ρ.rows, ρ.foot⟩ ⟨T, [], [], []⟩ a w' :=
 ⟨⟨by simp, by simp, by simp, by simp, by simp [feet], by simp [feet]⟩, fun t av ht => let ⟨v, h1, h2⟩ := h.T t av (hT t av ht); ⟨v, h1, vT_rep hr t av v ht h2⟩, ⟨h.df.1.trans hD, rfl⟩, ⟨h.sz.1, by simp⟩, Chg.refl _ _, by simp [feet]⟩
def YOk (P : Program) (l : Nat) (args : Array Value) (n0 : Nat) (FB : List Nat) (J Jx : World → Prop) (W : World) : Prop :=
 YieldAt (Fr none) 3 P l args W fun e W' => (e = .returned (.bool true) ∧ J W' ∧ KpF n0 FB W W') ∨ (e = .returned (.bool false) ∧ Jx W')
theorem evlr_yield {N n0 l d ty t j : Nat} {W0 : World} {H : Nat → Option Obj} {FB : List Nat} {c x : Operand} {cx : List C} {tys : Array TypeId} {pos : String} {af : Array Edge} {b : Bool} {T' T'' : List (Nat × AV)} {rest : List Oper} {J Jx : World → Prop}
  (hj : gTmp ops j = some t) (hg : lk S.T t = some (.p false [.c (.v (.bool b))])) (hb : b = true) (hv : opv S.T c = some (.p false [.c (.v (.func (.yield l) #[] #[]))])) (hx : opv S.T x = some (.p true (mapCO cx))) (hcx : ∀ c ∈ cx, ∃ v : Value, c = .v v ∧ v.oneCell' = true) (hN : okD ⟨N, W0, [], H, [], []⟩ d = true)
  (hT' : ∀ u av, lk T' u = some av → lk S.T u = some av) (hT'' : ∀ u av, lk T'' u = some av → lk S.T u = some av) (hr'' : vT T'' = true) (hH : ∀ b o, H b = some o → W0.heap[b]? = some o ∧ b < n0 ∧ b ∉ FB)
  (hY : ∀ W, Chg W0 W [] → YOk P l #[.agg (cx.map cv).toArray] n0 FB J Jx W)
  (ht : ∀ W, J W → (∀ b o, H b = some o → W.heap[b]? = some o) → EvLR P ⟨N, W, [], H, [], []⟩ none 4 ops rest Q ⟨(d, .p false [.c (.v (.bool true))]) :: T', [], [], []⟩)
  (hf : ∀ W, Jx W → EvLR P ⟨N, W, [], fun _ => none, [], []⟩ none 4 ops rest Q ⟨(d, .p false [.c (.v (.bool false))]) :: T'', [], [], []⟩) :
  EvLR P ⟨N, W0, [], H, [], []⟩ none 4 ops (⟨some d, .call ⟨.value c, #[x], tys⟩, ty, pos, af, some (j, true)⟩ :: rest) Q S := by
 intro ρ a w hs
 unfold wpListIn
 rw [if_pos (by rw [wanted_of hs rfl hj hg, hb]; rfl)]
 obtain ⟨v, hv1, hv2⟩ := opv_rep hs hx
 have hax : a.eval x = .agg (cx.map cv).toArray := by
  rw [hv1, cells_val hcx hv2]
 have hac : a.eval c = .func (.yield l) #[] #[] := rd_v (opv_rep hs hv).1
 refine ⟨fun f _ => trivial, ?_⟩
 obtain ⟨fn, tmps, assign, body, hrun, hR⟩ := hY w hs.fr
 have e : (Oper.semAt (Fr none).round a.eval ⟨some d, .call ⟨.value c, #[x], tys⟩, ty, pos, af, some (j, true)⟩).run P w = .ok (.round l fn tmps assign body) w := by
  rw [show (Fr none).round = none from rfl, Oper.semAt_none]
  simp [execOp, resolve, Deferred.ofValue, hac, invoke, hax, hrun]
 rw [e, Oper.uponIn_round]
 refine ⟨fun h => by simp [Fr, Fence.wide] at h, hR.mono fun en w' he => ?_⟩
 have hdN : ∀ {W : World} {H' : Nat → Option Obj}, okD ⟨N, W, [], H', [], []⟩ d = true := hN
 rcases he with ⟨rfl, hj1, hk⟩ | ⟨rfl, hj1⟩
 ·have hH' : ∀ b o, H b = some o → w'.heap[b]? = some o := fun b o hb => by
   obtain ⟨h1, h2, h3⟩ := hH b o hb
   rw [hk b h2 h3, hs.fr.block b (heap_lt h1) (by simp)]; exact h1
  have h9 := hs.rebase (T := T') hT' rfl rfl hH'
  exact ht w' hj1 hH' _ _ w' (h9.put (d := d) (av := .p false [.c (.v (.bool true))]) (v := .bool true) hdN ⟨⟨0, rfl, rfl⟩, trivial⟩)
 ·have h9 := hs.rebaseV (T := T'') (w' := w') hT'' hr'' rfl
  exact hf w' hj1 _ _ w' (h9.put (d := d) (av := .p false [.c (.v (.bool false))]) (v := .bool false) hdN ⟨⟨0, rfl, rfl⟩, trivial⟩)
def LJ (N : Nat) (H : Nat → Option Obj) (T : Nat → List (Nat × AV)) (J : Nat → World → Prop) (n : Nat) (p : Nat → Prop) (a : Act) (w : World) : Prop := ∃ k ρ, k ≤ n ∧ p k ∧ Sim ⟨N, w, [], H, [], []⟩ ρ ⟨T k, [], [], []⟩ a w ∧ J k w
def tmpI (a : Act) (t : Nat) : Nat := match a.tmps[t]? with
 | some (.int _ z) => z.toNat
 | _ => 0
theorem tmpI_eq {N ti k : Nat} {H : Nat → Option Obj} {T : List (Nat × AV)} (hs : Sim X ρ S a w) (h : lk S.T ti = some (.p false [.c (iC (k : Int))])) : tmpI a ti = k := by
 obtain ⟨v, h1, h2⟩ := hs.T ti _ h
 have h3 : v = .int .i64 (k : Int) := rd_v h2.1
 unfold tmpI
 rw [h1, h3]
 simp
theorem evr_loop {N m n ti : Nat} {W0 : World} {H : Nat → Option Obj} {c : Code} (T : Nat → List (Nat × AV)) (J : Nat → World → Prop) (hi : ∀ k, lk (T k) ti = some (.p false [.c (iC (k : Int))])) (h0 : ∀ W, Chg W0 W [] → J 0 W) (hl : Le [] S ⟨T 0, [], [], []⟩)
  (hr : ∀ k W, k ≤ n → J k W → (∀ b o, H b = some o → W.heap[b]? = some o) → EvR P ⟨N, W, [], H, [], []⟩ none m c (Exit.then (LJ N H T J n fun j => j = k + 1) Q) ⟨T k, [], [], []⟩) : EvR P ⟨N, W0, [], H, [], []⟩ none m (.loop c) Q S := by
 intro ρ a w hs
 have hs0 := hs.le hl
 have hb : ∀ {ρ : Rho} {S : St} {a : Act} {W : World}, Sim ⟨N, W0, [], H, [], []⟩ ρ S a W → ∀ b o, H b = some o → W.heap[b]? = some o := fun h b o hb => h.hp.H b o (by rw [h.df.2]; exact hb)
 refine wpIn_loop (LJ N H T J n fun _ => True) (fun a _ => n - tmpI a ti) ⟨0, _, Nat.zero_le _, trivial, hs0.rebase (fun _ _ h => h) (T := T 0) rfl rfl (hb hs), h0 w hs.fr⟩ fun a w hI => ?_
 obtain ⟨k, ρ', hk, _, hs1, hj⟩ := hI
 refine Go.wpIn_mono (hr k w hk hj (fun b o hb => hs1.hp.H b o (by rw [hs1.df.2]; exact hb)) ρ' a w hs1) fun e a' w' hq => ?_
 cases e with
 | normal =>
  obtain ⟨k', ρ'', hk', rfl, hs2, hj2⟩ := hq
  refine ⟨⟨k + 1, ρ'', hk', trivial, hs2, hj2⟩, ?_⟩
  rw [tmpI_eq (N := N) (H := H) (T := T k) hs1 (hi k), tmpI_eq (N := N) (H := H) (T := T k) hs2 (hi (k + 1))]
  omega
 | _ => exact hq
theorem evr_round {N n k : Nat} {W : World} {H : Nat → Option Obj} {T : Nat → List (Nat × AV)} {J : Nat → World → Prop} (hk : k + 1 ≤ n) (hl : Le [] S ⟨T (k + 1), [], [], []⟩) (hj : ∀ W', Chg W W' [] → J (k + 1) W') : EvE ⟨N, W, [], H, [], []⟩ .normal (Exit.then (LJ N H T J n fun j => j = k + 1) Q) S :=
 fun ρ a w hs => ⟨k + 1, _, hk, rfl, (hs.le hl).rebase (fun _ _ h => h) rfl rfl (fun b o hb => hs.hp.H b o (by rw [hs.df.2]; exact hb)), hj w hs.fr⟩
def PeR (H : Nat → Option Obj) (cs : List C) (u : Value) : Prop := ∃ g o, u = .pointer (some ⟨g, o, none⟩) ∧ ∀ j c, cs[j]? = some c → ∃ x, rcell H g (o + j) = some x ∧ RdX H c x
def ItOk {α : Type} (P : Program) (f : FuncId) (css : List (List C)) (cx : α → List C) (L : List α) : Prop :=
 ∀ (H : Nat → Option Obj) (n0 : Nat) (FB : List Nat) (us : List Value) (l : Nat) (J Jx : List α → World → Prop) (W : World), (∀ b o, H b = some o → W.heap[b]? = some o ∧ b < n0 ∧ b ∉ FB) → L2 (PeR H) css us →
  (∀ pre W W', J pre W → Chg W W' [] → J pre W') → (∀ pre W W', Jx pre W → Chg W W' [] → Jx pre W') → (∀ pre x W, J pre W → pre.length < L.length → YOk P l #[.agg ((cx x).map cv).toArray] n0 FB (J (pre ++ [x])) (Jx (pre ++ [x])) W) → J [] W →
  CallsIn (Fr none) 4 P f (#[.func (.yield l) #[] #[]] ++ us.toArray) W fun e W' => (∃ v, e = .returned v) ∧ ((∃ xs, xs = L ∧ J xs W') ∨ (∃ pre, pre <+: L ∧ Jx pre W'))
def itT : Nat → List (List C) → List (Nat × AV)
 | _, [] => []
 | k, cs :: r => (k, .p false [.pe cs]) :: itT (k + 1) r
theorem itT_rep : ∀ {css : List (List C)} {k : Nat} {us : List Value}, L2 (PeR ρ.H) css us → ∀ t av, lk (itT k css) t = some av → k ≤ t ∧ ∃ v, us[t - k]? = some v ∧ RepV ρ av v
 | [], k, us, _, t, av, ht => by cases ht
 | cs :: r, k, u :: us, h, t, av, ht => by
  unfold itT lk at ht
  split at ht
  ·rename_i e
   subst e
   cases ht
   exact ⟨Nat.le_refl _, u, by simp, ⟨h.1, trivial⟩⟩
  ·obtain ⟨h1, v', h2, h3⟩ := itT_rep h.2 t av ht
   refine ⟨by omega, v', ?_, h3⟩
   rw [show t - k = (t - (k + 1)) + 1 by omega]
   simpa using h2
 | _ :: _, _, [], h, _, _, _ => h.elim
theorem it_intro {α : Type} {f : FuncId} {fn : Func} {c : Code} {css : List (List C)} {cx : α → List C} {L : List α} {N : Nat} (hf : P.funcs[f]? = some fn) (hb : fn.body = some c) (hN : fn.ntmps = N) (hl : Nat.ble (css.length + 1) N = true)
    (h : ∀ (H : Nat → Option Obj) (n0 : Nat) (FB : List Nat) (l : Nat) (J Jx : List α → World → Prop) (W : World), (∀ b o, H b = some o → W.heap[b]? = some o ∧ b < n0 ∧ b ∉ FB) → (∀ pre W W', J pre W → Chg W W' [] → J pre W') → (∀ pre W W', Jx pre W → Chg W W' [] → Jx pre W') →
      (∀ pre x W, J pre W → pre.length < L.length → YOk P l #[.agg ((cx x).map cv).toArray] n0 FB (J (pre ++ [x])) (Jx (pre ++ [x])) W) → J [] W → (∀ a w, ¬ bodyPost P fn (fun e W' => (∃ v, e = .returned v) ∧ ((∃ xs, xs = L ∧ J xs W') ∨ (∃ pre, pre <+: L ∧ Jx pre W'))) .outgrown a w) →
      EvR P ⟨N, W, [], H, [], []⟩ none 4 c (bodyPost P fn fun e W' => (∃ v, e = .returned v) ∧ ((∃ xs, xs = L ∧ J xs W') ∨ (∃ pre, pre <+: L ∧ Jx pre W'))) ⟨(0, .p false [.c (.v (.func (.yield l) #[] #[]))]) :: itT 1 css, [], [], []⟩) : ItOk P f css cx L := by
  intro H n0 FB us l J Jx W hH hu hJ hJx hY h0
  refine callsIn_of_wp hf hb trivial ?_
  have hle := Nat.le_of_ble_eq_true hl
  have hul := hu.len
  refine h H n0 FB l J Jx W hH hJ hJx hY h0 (fun _ _ h => by obtain ⟨⟨v, h⟩, _⟩ := h; cases h) ⟨H, fun _ => 0, fun _ => undef, fun _ => [], fun _ => []⟩ _ W ⟨⟨fun b o hb => (hH b o hb).1, by simp, by simp, by simp, by simp [feet], by simp [feet]⟩, fun t av ht => ?_, ⟨rfl, rfl⟩, ⟨by simp [hN]; omega, by simp⟩, Chg.refl _ _, by simp [feet]⟩
  show ∃ v, ((#[.func (.yield l) #[] #[]] ++ us.toArray) ++ _)[t]? = some v ∧ _
  unfold lk at ht
  split at ht
  · rename_i e; subst e; cases ht
    exact ⟨.func (.yield l) #[] #[], by rw [Array.getElem?_append_left (by simp), Array.getElem?_append_left (by simp)]; rfl, ⟨⟨0, rfl, rfl⟩, trivial⟩⟩
  · obtain ⟨h1, v, h2, h3⟩ := itT_rep (ρ := ⟨H, fun _ => 0, fun _ => undef, fun _ => [], fun _ => []⟩) hu t av ht
    refine ⟨v, ?_, h3⟩
    have hlt : t - 1 < us.length := (List.getElem?_eq_some_iff.1 h2).1
    rw [Array.getElem?_append_left (by simp; omega), Array.getElem?_append_right (by simpa using h1)]
    simpa using h2
theorem it_fall {α : Type} {fn : Func} {N : Nat} {W0 : World} {H : Nat → Option Obj} {L : List α} {J Jx : List α → World → Prop} (hres : fn.results = #[]) (hj : ∀ W, Chg W0 W [] → J L W) : EvE ⟨N, W0, [], H, [], []⟩ .normal (bodyPost P fn fun e W' => (∃ v, e = .returned v) ∧ ((∃ xs, xs = L ∧ J xs W') ∨ (∃ pre, pre <+: L ∧ Jx pre W'))) S := by
 intro ρ a w hs
 exact ⟨hs.df.1, _, results_none hres _ _ _, ⟨_, rfl⟩, .inl ⟨L, rfl, hj w hs.fr⟩⟩
theorem it_end {α : Type} {fn : Func} {N : Nat} {W0 : World} {H : Nat → Option Obj} {L : List α} {J Jx : List α → World → Prop} (hres : fn.results = #[]) (hj : ∀ W, Chg W0 W [] → (J L W ∨ ∃ pre, pre <+: L ∧ Jx pre W)) : EvE ⟨N, W0, [], H, [], []⟩ .ret (bodyPost P fn fun e W' => (∃ v, e = .returned v) ∧ ((∃ xs, xs = L ∧ J xs W') ∨ (∃ pre, pre <+: L ∧ Jx pre W'))) S := by
 intro ρ a w hs
 refine bodyPost_ret (v := .tuple #[]) ?_ hs.df.1 ⟨⟨_, rfl⟩, ?_⟩
 ·exact results_none hres _ _ _
 ·rcases hj w hs.fr with h | h
  ·exact .inl ⟨L, rfl, h⟩
  ·exact .inr h
theorem it_seq {α : Type} {f : FuncId} {cs1 cs2 : List C} {cx : α → List C} {L : List α} {b1 b2 ty1 ty2 n0 : Nat} {FB : List Nat} (hs : Sim X ρ S a w) (h1 : lk S.B b1 = some (ty1, mapCO cs1)) (h2 : lk S.B b2 = some (ty2, mapCO cs2)) (hn : w.heap.size = n0) (hit : ItOk P f [cs1, cs2] cx L)
  (hF1 : ∀ b ∈ FB, b ∈ feet ρ S ∧ b ≠ ρ.box b1 ∧ b ≠ ρ.box b2) :
  SeqStopsK Fence.wide 4 P f (capV ρ [(b1, 0), (b2, 0)]) (fun x => #[.agg ((cx x).map cv).toArray]) (KpF n0 FB) (fun xs => xs = L) (fun pre => pre <+: L) L.length w := by
 intro l J Jx W hW hJ hJx hY h0
 obtain ⟨vs1, e1, r1⟩ := hs.hp.B _ (lk_mem h1)
 obtain ⟨vs2, e2, r2⟩ := hs.hp.B _ (lk_mem h2)
 have hm1 := lk_mem h1
 have hm2 := lk_mem h2
 obtain ⟨H, hHe⟩ : ∃ H : Nat → Option Obj, H = fun b => if b = ρ.box b1 ∨ b = ρ.box b2 then w.heap[b]? else ρ.H b := ⟨_, rfl⟩
 have hHw : ∀ b o, H b = some o → w.heap[b]? = some o ∧ b ∉ FB := fun b o hb => by
  rw [hHe] at hb
  simp only at hb
  split at hb
  ·rename_i h9
   exact ⟨hb, fun hm => by obtain ⟨_, k1, k2⟩ := hF1 b hm; rcases h9 with h9 | h9 <;> contradiction⟩
  ·exact ⟨hs.hp.H b o hb, fun hm => by have := hs.hp.dj b (hF1 b hm).1; rw [hb] at this; cases this⟩
 have hsub : ∀ b o, ρ.H b = some o → H b = some o := fun b o hb => by
  rw [hHe]
  simp only
  split
  ·exact hs.hp.H b o hb
  ·exact hb
 have hpe : ∀ {b ty : Nat} {cs : List C} {vs : List Value}, (b = b1 ∨ b = b2) → w.heap[ρ.box b]? = some (.cells vs.toArray ty (0, 0)) → L2 (RepC ρ) (mapCO cs) vs → PeR H cs (.pointer (some ⟨ρ.box b, 0, none⟩)) := fun {b ty cs vs} hb he hr => by
  refine ⟨ρ.box b, 0, rfl, fun j c hj => ?_⟩
  have hm : (mapCO cs)[j]? = some (.c c) := by
   have key : ∀ {cs : List C} {j : Nat} {c : C}, cs[j]? = some c → (mapCO cs)[j]? = some (.c c) := by
    intro cs
    induction cs with
    | nil => intro j c h; simp at h
    | cons x r ih =>
     intro j c h
     cases j with
     | zero => simp only [List.getElem?_cons_zero, Option.some.injEq] at h; subst h; rfl
     | succ j => exact ih (by simpa using h)
   exact key hj
  obtain ⟨v, hv1, hv2⟩ := hr.get hm
  refine ⟨v, ?_, RdX.mono hsub hv2⟩
  have hHb : H (ρ.box b) = some (.cells vs.toArray ty (0, 0)) := by
   rw [hHe]
   simp only
   rw [if_pos (by rcases hb with rfl | rfl <;> simp)]
   exact he
  unfold rcell
  rw [hHb]
  simpa using hv1
 have hsz : ∀ b o, H b = some o → b < w.heap.size := fun b o hb => heap_lt (hHw b o hb).1
 refine hit H n0 FB _ l J Jx W (fun b o hb => ⟨?_, by rw [← hn]; exact hsz b o hb, (hHw b o hb).2⟩) ⟨hpe (.inl rfl) e1 r1, hpe (.inr rfl) e2 r2, trivial⟩ (fun pre W1 W2 hj hc => hJ pre W1 W2 none hj ⟨hc.os, hc.tape, hc.output, hc.size, fun k hk _ => hc.block k hk (by simp)⟩ (fun r h => by cases h)) (fun pre W1 W2 hj hc => hJx pre W1 W2 none hj ⟨hc.os, hc.tape, hc.output, hc.size, fun k hk _ => hc.block k hk (by simp)⟩ (fun r h => by cases h)) (fun pre x W1 hj hlen => ?_) h0
 ·rw [hW.block b (hsz b o hb)]; exact (hHw b o hb).1
 ·refine YieldAt.mono (hY pre x W1 hj hlen) fun e W' h => ?_
  rcases h with ⟨h1, h2, h3⟩ | h
  ·exact .inl ⟨h1, h2, h3⟩
  ·exact .inr h
theorem it_seq2 {α : Type} {f : FuncId} {cs1 cs2 : List C} {cx : α → List C} {L : List α} {b1 b2 ty1 ty2 bn tyb rr : Nat} {y : List AC} {z : Nat × Nat × List (List C)} (hs : Sim X ρ S a w) (h1 : lk S.B b1 = some (ty1, mapCO cs1)) (h2 : lk S.B b2 = some (ty2, mapCO cs2)) (h3 : lk S.B bn = some (tyb, y)) (h4 : lk S.R rr = some z) (hM : S.M = []) (n1 : Nat.beq bn b1 = false) (n2 : Nat.beq bn b2 = false) (n3 : Nat.beq 0 0 = true) (hit : ItOk P f [cs1, cs2] cx L) :
  SeqStopsK Fence.wide 4 P f (capV ρ [(b1, 0), (b2, 0)]) (fun x => #[.agg ((cx x).map cv).toArray]) (KpF w.heap.size (ρ.box bn :: ρ.foot rr)) (fun xs => xs = L) (fun pre => pre <+: L) L.length w := by
 have hnd := hs.hp.nd
 unfold feet at hnd
 obtain ⟨k1, k2, k3⟩ := List.nodup_append.1 hnd
 have m1 : ρ.box b1 ∈ S.B.map (fun x => ρ.box x.1) := List.mem_map.2 ⟨_, lk_mem h1, rfl⟩
 have m2 : ρ.box b2 ∈ S.B.map (fun x => ρ.box x.1) := List.mem_map.2 ⟨_, lk_mem h2, rfl⟩
 have m3 : ρ.box bn ∈ S.B.map (fun x => ρ.box x.1) := List.mem_map.2 ⟨_, lk_mem h3, rfl⟩
 refine it_seq hs h1 h2 rfl hit fun b hb => ?_
 rcases List.mem_cons.1 hb with rfl | hb
 ·refine ⟨List.mem_append_left _ m3, fun e => ?_, fun e => ?_⟩
  ·have h9 : bn = b1 := congrArg (fun z => z.1) (map_inj k1 _ (lk_mem h3) _ (lk_mem h1) e)
   rw [h9, Nat.beq_refl] at n1; cases n1
  ·have h9 : bn = b2 := congrArg (fun z => z.1) (map_inj k1 _ (lk_mem h3) _ (lk_mem h2) e)
   rw [h9, Nat.beq_refl] at n2; cases n2
 ·have m4 : b ∈ S.R.flatMap (fun x => ρ.foot x.1) ++ S.M.map (fun x => ρ.box x.1) := List.mem_append_left _ (List.mem_flatMap.2 ⟨_, lk_mem h4, hb⟩)
  exact ⟨List.mem_append_right _ m4, fun e => k3 _ m1 _ m4 e.symm, fun e => k3 _ m2 _ m4 e.symm⟩
def ClosPost (H : Nat → Option Obj) (w : World) (f2 : FuncId) (ty1 ty2 : Nat) (cs1 cs2 : List C) (e : Ending) (w' : World) : Prop :=
 ∃ g1 g2 vs1 vs2, e = .returned (.func (.func f2) #[] #[.pointer (some ⟨g1, 0, none⟩), .pointer (some ⟨g2, 0, none⟩)]) ∧ w'.heap[g1]? = some (.cells (List.toArray vs1) ty1 (0, 0)) ∧ L2 (RdX H) cs1 vs1 ∧ w'.heap[g2]? = some (.cells (List.toArray vs2) ty2 (0, 0)) ∧ L2 (RdX H) cs2 vs2 ∧ g1 ≠ g2 ∧ w.heap.size ≤ g1 ∧ w.heap.size ≤ g2 ∧ Below w.heap.size w w'
def Clos (P : Program) (f : FuncId) (args : List (Bool × List C)) (f2 : FuncId) (ty1 ty2 : Nat) (cs1 cs2 : List C) : Prop :=
 ∀ (H : Nat → Option Obj) (w : World) (vs : List Value), (∀ b o, H b = some o → w.heap[b]? = some o) → L2 (Pc H) args vs → Calls P f vs.toArray w (ClosPost H w f2 ty1 ty2 cs1 cs2)
theorem clos_intro {f f2 : FuncId} {fn : Func} {c : Code} {args : List (Bool × List C)} {ty1 ty2 : Nat} {cs1 cs2 : List C} {T : List (Nat × AV)} {N : Nat} (hf : P.funcs[f]? = some fn) (hb : fn.body = some c) (hN : fn.ntmps = N) (hl : Nat.ble args.length N = true) (hT : argT 0 args = some T)
  (h : ∀ H w, Ev P ⟨N, w, [], H, [], []⟩ c (bodyPost P fn (ClosPost H w f2 ty1 ty2 cs1 cs2)) ⟨T, [], [], []⟩) : Clos P f args f2 ty1 ty2 cs1 cs2 := by
 intro H w vs hH hv
 refine calls_of_wp hf hb ?_
 have hvl := hv.len
 have hle := Nat.le_of_ble_eq_true hl
 refine h H w ⟨H, fun _ => 0, fun _ => undef, fun _ => [], fun _ => []⟩ _ w ⟨⟨hH, by simp, by simp, by simp, by simp [feet], by simp [feet]⟩, fun t av ht => ?_, ⟨rfl, rfl⟩, ⟨by simp [hN]; omega, by simp⟩, Chg.refl _ _, by simp [feet]⟩
 obtain ⟨_, v, h1, h2⟩ := argT_rep (ρ := ⟨H, fun _ => 0, fun _ => undef, fun _ => [], fun _ => []⟩) hT hv t av ht
 refine ⟨v, ?_, h2⟩
 have hlt : t < vs.length := (List.getElem?_eq_some_iff.1 h1).1
 simp only [Nat.sub_zero] at h1
 show (vs.toArray ++ _)[t]? = some v
 rw [Array.getElem?_append_left (by simpa using hlt)]
 simpa using h1
theorem rdL {cs : List C} {us : List Value} (h : L2 (RepC ρ) (mapCO cs) us) : L2 (RdX ρ.H) cs us := by
 induction cs generalizing us with
 | nil => match us, h with | [], _ => trivial
 | cons c cs ih => match us, h with | u :: us, h => exact ⟨h.1, ih h.2⟩
theorem dlR {cs : List C} {us : List Value} (h : L2 (RdX ρ.H) cs us) : L2 (RepC ρ) (mapCO cs) us := by
 induction cs generalizing us with
 | nil => match us, h with | [], _ => trivial
 | cons c cs ih => match us, h with | u :: us, h => exact ⟨h.1, ih h.2⟩
theorem ret_clos {fn : Func} {N t b1 b2 f2 ty1 ty2 : Nat} {cs1 cs2 : List C} {w0 : World} {H : Nat → Option Obj} (hr : fn.results = #[.tmp t]) (ht : lk S.T t = some (.p false [.fn (.func f2) [(b1, 0), (b2, 0)]])) (h1 : lk S.B b1 = some (ty1, mapCO cs1)) (h2 : lk S.B b2 = some (ty2, mapCO cs2)) (hn : Nat.beq b1 b2 = false) :
  EvE ⟨N, w0, [], H, [], []⟩ .ret (bodyPost P fn (ClosPost H w0 f2 ty1 ty2 cs1 cs2)) S := by
 intro ρ a w hs
 obtain ⟨v, e1, e2⟩ := hs.T t _ ht
 have e3 : v = .func (.func f2) #[] #[.pointer (some ⟨ρ.box b1, 0, none⟩), .pointer (some ⟨ρ.box b2, 0, none⟩)] := e2.1
 obtain ⟨vs1, k1, r1⟩ := hs.hp.B _ (lk_mem h1)
 obtain ⟨vs2, k2, r2⟩ := hs.hp.B _ (lk_mem h2)
 have hH : ρ.H = H := hs.df.2
 have hge : ∀ b ∈ feet ρ S, w0.heap.size ≤ b := fun b hb => by simpa using hs.ft b hb
 have m1 : ρ.box b1 ∈ feet ρ S := List.mem_append_left _ (List.mem_map.2 ⟨_, lk_mem h1, rfl⟩)
 have m2 : ρ.box b2 ∈ feet ρ S := List.mem_append_left _ (List.mem_map.2 ⟨_, lk_mem h2, rfl⟩)
 have hnd := hs.hp.nd
 unfold feet at hnd
 have n1 := (List.nodup_append.1 hnd).1
 refine bodyPost_ret (v := v) ?_ hs.df.1 ⟨ρ.box b1, ρ.box b2, vs1, vs2, by rw [e3], k1, by rw [← hH]; exact rdL r1, k2, by rw [← hH]; exact rdL r2, fun e => ?_, hge _ m1, hge _ m2, hs.fr.below⟩
 ·have h9 : a.tmps[t]? = some v := e1
  simp [results, hr, h9]
 ·have := map_inj n1 _ (lk_mem h1) _ (lk_mem h2) e
  have h9 : b1 = b2 := congrArg (fun z => z.1) this
  rw [h9, Nat.beq_refl] at hn; cases hn
theorem evl_clos {T : List (Nat × AV)} {B : List (Nat × Nat × List AC)} {R : List (Nat × Nat × Nat × List (List C))} {f f2 : FuncId} {xs : List Operand} {tys : Array TypeId} {args : List (Bool × List C)} {d ty ty1 ty2 : Nat} {cs1 cs2 : List C} {pos : String} {af : Array Edge} {rest : List Oper} (n1 n2 : Nat)
  (hF : chkF P f = true) (hc : Clos P f args f2 ty1 ty2 cs1 cs2) (hr : RsA ⟨T, B, R, []⟩ xs args) (ha : allA T xs = true) (hN : okD X d = true) (hf1 : freshB n1 ⟨T, B, R, []⟩ = true) (hf2 : freshB n2 ⟨T, (n1, ty1, mapCO cs1) :: B, R, []⟩ = true)
  (h : EvL P X ops rest Q ⟨(d, .p false [.fn (.func f2) [(n1, 0), (n2, 0)]]) :: T, (n2, ty2, mapCO cs2) :: (n1, ty1, mapCO cs1) :: B, R, []⟩) :
  EvL P X ops (⟨some d, .call ⟨.value (.func f), xs.toArray, tys⟩, ty, pos, af, none⟩ :: rest) Q ⟨T, B, R, []⟩ := by
 intro ρ a w hs
 refine wpList_plain rfl fun K hK => ?_
 unfold Oper.wp
 rw [run_call hF a.eval xs.toArray tys (some d) ty pos af none rfl, Oper.upon_enter]
 have e : xs.toArray.map a.eval = (xs.map a.eval).toArray := by simp
 rw [e]
 refine (hc ρ.H w _ hs.hp.H (RsA.rdC hs hr ha)).mono fun en w' hpost => ?_
 obtain ⟨g1, g2, vs1, vs2, rfl, k1, r1, k2, r2, hne, hg1, hg2, hb⟩ := hpost
 have hs1 := hs.next hb
 have hH : ∀ g, w.heap.size ≤ g → ρ.H g = none := fun g hg => by
  cases ho : ρ.H g with
  | none => rfl
  | some o => have := heap_lt (hs.hp.H g o ho); omega
 have hno : ∀ d (cs : List C), noL (mentB d) (mapCO cs) = true := fun d cs => by
  induction cs with
  | nil => rfl
  | cons c cs ih => unfold mapCO noL; exact ih
 have hs2 := hs1.addbox rfl (d := n1) k1 (dlR r1) (fun hm => by have := hs.hp.lt _ hm; omega) (hH g1 hg1) (.inr (Nat.le_trans hs.fr.size hg1)) hf1 (hno _ _)
 have hb1 : (ρ.setBox n1 g1).box n1 = g1 := by show (if n1 = n1 then g1 else _) = g1; rw [if_pos rfl]
 have hfr2 : ∀ b ∈ feet (ρ.setBox n1 g1) ⟨T, (n1, ty1, mapCO cs1) :: B, R, []⟩, b = g1 ∨ b < w.heap.size := fun b hb => by
  unfold feet at hb
  simp only [List.map_cons, List.map_nil, List.append_nil, List.cons_append, List.mem_cons, hb1] at hb
  rcases hb with hb | hb
  ·exact .inl hb
  ·refine .inr (hs.hp.lt b ?_)
   unfold feet
   simp only [List.map_nil, List.append_nil]
   rcases List.mem_append.1 hb with hb | hb
   ·obtain ⟨x, hx, rfl⟩ := List.mem_map.1 hb
    simp only [freshB, Bool.and_eq_true] at hf1
    refine List.mem_append_left _ (List.mem_map.2 ⟨x, hx, ?_⟩)
    show _ = if x.1 = n1 then g1 else ρ.box x.1
    rw [if_neg (noK_mem hf1.2.2.1 x hx)]
   ·exact List.mem_append_right _ hb
 have hs3 := hs2.addbox rfl (d := n2) k2 (dlR (ρ := ρ.setBox n1 g1) r2) (fun hm => by rcases hfr2 _ hm with h9 | h9 <;> omega) (hH g2 hg2) (.inr (Nat.le_trans hs.fr.size hg2)) hf2 (hno _ _)
 refine hK _ _ (h _ _ w' (hs3.put hN ⟨?_, trivial⟩))
 have hb2 : ((ρ.setBox n1 g1).setBox n2 g2).box n2 = g2 := by show (if n2 = n2 then g2 else _) = g2; rw [if_pos rfl]
 have hn12 : n1 ≠ n2 := by
  simp only [freshB, Bool.and_eq_true] at hf2
  exact noK_mem hf2.2.2.1 _ List.mem_cons_self
 have hb3 : ((ρ.setBox n1 g1).setBox n2 g2).box n1 = g1 := by show (if n1 = n2 then g2 else (ρ.setBox n1 g1).box n1) = g1; rw [if_neg hn12, hb1]
 show _ = Value.func _ _ _
 simp [hb2, hb3]
theorem pure_introM {f : FuncId} {fn : Func} {c : Code} {args : List (Bool × List C)} {res : List (Bool × List RC)} {T : List (Nat × AV)} {N : Nat} (hf : P.funcs[f]? = some fn) (hb : fn.body = some c) (hN : fn.ntmps = N) (hl : Nat.ble args.length N = true) (hT : argT 0 args = some T)
  (h : ∀ H w, (∀ b o, H b = some o → b < w.heap.size) → Ev P ⟨N, w, [], H, [], []⟩ c (bodyPostM (Fr none) 5 P fn (PurePost H res w)) ⟨T, [], [], []⟩) : Pure P f args res := by
 intro H w vs hH hv
 refine (callsIn_wide (n := 5)).1 (callsIn_of_wp_marks hf hb trivial ?_)
 have hvl := hv.len
 have hle := Nat.le_of_ble_eq_true hl
 refine (wpIn_wide (n := 5)).2 (h H w (fun b o hb => heap_lt (hH b o hb)) ⟨H, fun _ => 0, fun _ => undef, fun _ => [], fun _ => []⟩ _ w ⟨⟨hH, by simp, by simp, by simp, by simp [feet], by simp [feet]⟩, fun t av ht => ?_, ⟨rfl, rfl⟩, ⟨by simp [hN]; omega, by simp⟩, Chg.refl _ _, by simp [feet]⟩)
 obtain ⟨_, v, h1, h2⟩ := argT_rep (ρ := ⟨H, fun _ => 0, fun _ => undef, fun _ => [], fun _ => []⟩) hT hv t av ht
 refine ⟨v, ?_, h2⟩
 have hlt : t < vs.length := (List.getElem?_eq_some_iff.1 h1).1
 simp only [Nat.sub_zero] at h1
 show (vs.toArray ++ _)[t]? = some v
 rw [Array.getElem?_append_left (by simpa using hlt)]
 simpa using h1
theorem rdC_monoR {H G : Nat → Option Obj} (h : ∀ b o x, rcell H b o = some x → rcell G b o = some x) : ∀ {d : Nat} {c : C} {u : Value}, RdC H d c u → RdC G d c u
 | d, .v x, u, hr => by cases d <;> exact hr
 | d, .nil, u, hr => by cases d <;> exact hr
 | d, .hole, u, hr => by cases d <;> exact hr
 | 0, .s _ _, _, hr => hr
 | d + 1, .s n l, u, hr => by
  obtain ⟨ao, cap, rfl, h1, h2, h3, h4⟩ := hr
  refine ⟨ao, cap, rfl, h1, h2, h3, ?_⟩
  rcases h4 with h4 | ⟨b, off, h5, h6⟩
  ·exact .inl h4
  ·refine .inr ⟨b, off, h5, fun k cs hk j c hj => ?_⟩
   obtain ⟨x, h7, h8⟩ := h6 k cs hk j c hj
   exact ⟨x, h _ _ _ h7, rdC_monoR h h8⟩
theorem rdX_monoR {H G : Nat → Option Obj} (h : ∀ b o x, rcell H b o = some x → rcell G b o = some x) {c : C} {u : Value} (hr : RdX H c u) : RdX G c u := let ⟨d, h1⟩ := hr; ⟨d, rdC_monoR h h1⟩
theorem repC_monoR {G : Nat → Option Obj} (h : ∀ b o x, rcell ρ.H b o = some x → rcell G b o = some x) {x : AC} {u : Value} (hr : RepC ρ x u) : RepC { ρ with H := G } x u := by
 cases x with
 | c x => exact rdX_monoR h hr
 | pe cs =>
  obtain ⟨g, o, e, hc⟩ := hr
  exact ⟨g, o, e, fun j c hj => let ⟨x, h1, h2⟩ := hc j c hj; ⟨x, h _ _ _ h1, rdX_monoR h h2⟩⟩
 | _ => exact hr
theorem repP_monoR {G : Nat → Option Obj} (h : ∀ b o x, rcell ρ.H b o = some x → rcell G b o = some x) {x : Bool × List AC} {u : Value} (hr : RepP ρ x u) : RepP { ρ with H := G } x u := by
 unfold RepP at *
 split
 ·rename_i hg
  rw [if_pos hg] at hr
  obtain ⟨vs, e, h2⟩ := hr
  exact ⟨vs, e, h2.mono fun a b hab => repC_monoR h hab⟩
 ·rename_i hg
  rw [if_neg hg] at hr
  exact hr.mono fun a b hab => repC_monoR h hab
theorem repV_monoR {G : Nat → Option Obj} (h : ∀ b o x, rcell ρ.H b o = some x → rcell G b o = some x) {x : AV} {u : Value} (hr : RepV ρ x u) : RepV { ρ with H := G } x u := by
 cases x with
 | p b l => exact repP_monoR h hr
 | tup ps =>
  obtain ⟨vs, e, h2⟩ := hr
  exact ⟨vs, e, h2.mono fun a b hab => repP_monoR h hab⟩
 | no => trivial
 | und => exact hr
theorem retM {fn : Func} {R : Ending → World → Prop} {D : Nat} (hD : X.D = []) (hM : S.M = []) (hg : X.w0.heap.size ≤ D) (hHD : X.H D = none) (h : EvE X .ret (bodyPost P fn R) S) : EvE (XD X D) .ret (bodyPostM (Fr none) 5 P fn R) S := by
 intro ρ a w hs
 have hdf : a.defers = [{ target := .collected D, args := #[] }] := hs.df.1
 have hρ : ρ.H = fun b => if b = D then some (.deferred (some [])) else X.H b := hs.df.2
 have hDw : w.heap[D]? = some (.deferred (some [])) := hs.hp.H D _ (by rw [hρ]; simp)
 have hnf : D ∉ feet ρ S := fun hm => by have := hs.hp.dj D hm; rw [hρ] at this; simp at this
 have hk : ∀ b, b ≠ D → (w.putObj D (.deferred none)).heap[b]? = w.heap[b]? := fun b hb => World.putObj_heap_other hb
 have hkf : ∀ b ∈ feet ρ S, (w.putObj D (.deferred none)).heap[b]? = w.heap[b]? := fun b hb => hk b fun e => hnf (e ▸ hb)
 have hrc : ∀ b o x, rcell ρ.H b o = some x → rcell X.H b o = some x := fun b o x hx => by
  unfold rcell at hx ⊢
  rw [hρ] at hx
  simp only at hx
  split at hx
  ·rename_i cs ty ar heq
   split at heq
   ·cases heq
   ·rw [heq]; exact hx
  ·cases hx
 have hD2 := heap_lt hDw
 have h2 : Sim X { ρ with H := X.H } S { a with defers := [] } (w.putObj D (.deferred none)) := by
  refine ⟨⟨fun b o hb => ?_, fun x hx => ?_, fun x hx => (hs.hp.R x hx).keep fun b hb => hkf b ?_, fun x hx => (by rw [hM] at hx; cases hx), hs.hp.nd, fun b hb => ?_⟩, fun t av ht => ?_, ⟨hD.symm, rfl⟩, hs.sz, ?_, hs.ft⟩
  ·have hb2 : X.H b = some o := hb
   have h9 : b ≠ D := fun e => by rw [e, hHD] at hb2; cases hb2
   rw [hk b h9]
   exact hs.hp.H b o (by rw [hρ]; simp only; rw [if_neg h9]; exact hb)
  ·obtain ⟨vs, k1, k2⟩ := hs.hp.B x hx
   exact ⟨vs, (hkf _ (List.mem_append_left _ (List.mem_map.2 ⟨x, hx, rfl⟩))).trans k1, k2.mono fun a b hab => repC_monoR hrc hab⟩
  ·exact List.mem_append_right _ (List.mem_append_left _ (List.mem_flatMap.2 ⟨x, hx, hb⟩))
  ·have h9 := hs.hp.dj b hb
   rw [hρ] at h9
   simp only at h9
   split at h9
   ·cases h9
   ·exact h9
  ·obtain ⟨v, k1, k2⟩ := hs.T t av ht
   exact ⟨v, k1, repV_monoR hrc k2⟩
  ·exact hs.fr.step (G := [D]) ⟨rfl, rfl, rfl, by simp, fun k hk9 hn => hk k (by simpa using hn)⟩ (by simp only [List.mem_singleton]; rintro x rfl; exact .inr hg)
 show LeavesInM _ _ _ _ _ _ a.defers _ _
 rw [hdf]
 obtain ⟨h3, v, h4, h5⟩ := h _ _ _ h2
 exact ⟨by simp, .inl ⟨D, _, rfl, run_takeDeferred hDw, v, h4, h5⟩⟩
theorem q_mkf {f : FuncId} {x y : Operand} {b1 b2 o1 o2 : Nat} (h1 : opv S.T x = some (.p false [.pb b1 o1])) (h2 : opv S.T y = some (.p false [.pb b2 o2])) : Quiet P X S (.makeFunc (.func f) #[] #[x, y]) (.p false [.fn (.func f) [(b1, o1), (b2, o2)]]) := fun ρ a w hs => by
 have e1 : a.eval x = .pointer (some ⟨ρ.box b1, o1, none⟩) := (opv_rep hs h1).1
 have e2 : a.eval y = .pointer (some ⟨ρ.box b2, o2, none⟩) := (opv_rep hs h2).1
 exact ⟨_, ⟨rfl, trivial⟩, fun _ _ _ _ _ _ _ => by simp [execOp, Instr.makeFunc, e1, e2]⟩
theorem retH {fn : Func} {w0 : World} {H H' : Nat → Option Obj} {res : List (Bool × List RC)} (hn : noCr res = true) (h : EvE X .ret (bodyPost P fn (PurePost H' res w0)) S) : EvE X .ret (bodyPost P fn (PurePost H res w0)) S := fun ρ a w hs =>
 let ⟨h1, v, h2, us, F, h3, h4, h5⟩ := h ρ a w hs; ⟨h1, v, h2, us, F, h3, noCr_ok hn h4, h5⟩
def frzC (b : Nat) (cs : List C) : AC → AC
 | .pb b' o => match Nat.beq b' b with
  | true => .pe (cs.drop o)
  | false => .pb b' o
 | .fn _ _ => .no
 | x => x
def frzV (b : Nat) (cs : List C) : AV → AV
 | .p g l => .p g (l.map (frzC b cs))
 | .tup _ => .no
 | x => x
def frzT (b : Nat) (cs : List C) : List (Nat × AV) → List (Nat × AV)
 | [] => []
 | (t, v) :: r => (t, frzV b cs v) :: frzT b cs r
def frzB (b : Nat) (cs : List C) : List (Nat × Nat × List AC) → List (Nat × Nat × List AC)
  | [] => []
  | (k, ty, l) :: r => match Nat.beq k b with
    | true => frzB b cs r
    | false => (k, ty, l.map (frzC b cs)) :: frzB b cs r
theorem frzT_lk {b : Nat} {cs : List C} : ∀ {T : List (Nat × AV)} {t : Nat} {av : AV}, lk (frzT b cs T) t = some av → ∃ av0, lk T t = some av0 ∧ av = frzV b cs av0
  | [], t, av, h => by cases h
  | (k, v) :: r, t, av, h => by
    unfold frzT lk at h
    unfold lk
    split at h
    · rename_i e; rw [if_pos e]; cases h; exact ⟨v, rfl, rfl⟩
    · rename_i e; rw [if_neg e]; exact frzT_lk h
theorem frzB_mem {b : Nat} {cs : List C} : ∀ {B : List (Nat × Nat × List AC)} {x : Nat × Nat × List AC}, x ∈ frzB b cs B → x.1 ≠ b ∧ ∃ l, (x.1, x.2.1, l) ∈ B ∧ x.2.2 = l.map (frzC b cs)
  | [], x, h => by simp [frzB] at h
  | (k, ty, l) :: r, x, h => by
    unfold frzB at h
    split at h
    · obtain ⟨h1, l', h2, h3⟩ := frzB_mem h; exact ⟨h1, l', by simp [h2], h3⟩
    · rename_i hk
      rcases List.mem_cons.1 h with rfl | h
      · exact ⟨Nat.ne_of_beq_eq_false hk, l, by simp, rfl⟩
      · obtain ⟨h1, l', h2, h3⟩ := frzB_mem h; exact ⟨h1, l', by simp [h2], h3⟩
theorem frzB_sub {b : Nat} {cs : List C} {f : Nat → Nat} : ∀ {B : List (Nat × Nat × List AC)}, ((frzB b cs B).map fun x => f x.1).Sublist (B.map fun x => f x.1)
  | [] => List.Sublist.refl _
  | (k, ty, l) :: r => by
    unfold frzB
    split
    · exact frzB_sub.cons _
    · exact frzB_sub.cons_cons _
theorem ev_freeze {c : Code} {T : List (Nat × AV)} {B : List (Nat × Nat × List AC)} {R : List (Nat × Nat × Nat × List (List C))} {ty : Nat} {cs : List C} (b : Nat) (hb : lk B b = some (ty, mapCO cs))
  (h : ∀ H', (∀ g o, X.H g = some o → H' g = some o) → Ev P ⟨X.N, X.w0, X.F0, H', X.K, X.D⟩ c Q ⟨frzT b cs T, frzB b cs B, R, []⟩) : Ev P X c Q ⟨T, B, R, []⟩ := by
 intro ρ a w hs
 obtain ⟨vs, e1, r1⟩ := hs.hp.B _ (lk_mem hb)
 simp only at e1 r1
 have hbf : ρ.box b ∈ feet ρ ⟨T, B, R, []⟩ := List.mem_append_left _ (List.mem_map.2 ⟨_, lk_mem hb, rfl⟩)
 have hbH : ρ.H (ρ.box b) = none := hs.hp.dj _ hbf
 obtain ⟨H', hH'⟩ : ∃ H' : Nat → Option Obj, H' = fun g => if g = ρ.box b then some (.cells vs.toArray ty (0, 0)) else ρ.H g := ⟨_, rfl⟩
 have hm : ∀ g o, ρ.H g = some o → H' g = some o := fun g o hg => by
  rw [hH']
  simp only
  rw [if_neg (fun e => by rw [e, hbH] at hg; cases hg)]
  exact hg
 have hC : ∀ {x : AC} {u : Value}, RepC ρ x u → RepC { ρ with H := H' } (frzC b cs x) u := fun {x u} hx => by
  cases x with
  | c x => exact RdX.mono hm hx
  | pe l =>
   obtain ⟨g, o, e, hc⟩ := hx
   exact ⟨g, o, e, fun j c hj => let ⟨y, k1, k2⟩ := hc j c hj; ⟨y, rcell_mono hm k1, RdX.mono hm k2⟩⟩
  | fn f cap => exact RepC.one (ρ := ρ) (x := .fn f cap) hx
  | pb b' o =>
   show RepC { ρ with H := H' } (match Nat.beq b' b with
    | true => AC.pe (cs.drop o)
    | false => AC.pb b' o) u
   cases hbb : Nat.beq b' b with
   | false => exact hx
   | true =>
    obtain rfl := Nat.eq_of_beq_eq_true hbb
    refine ⟨ρ.box b', o, hx, fun j c hj => ?_⟩
    rw [List.getElem?_drop] at hj
    have key : ∀ {cs : List C} {j : Nat} {c : C}, cs[j]? = some c → (mapCO cs)[j]? = some (.c c) := by
     intro cs
     induction cs with
     | nil => intro j c h; simp at h
     | cons x r ih =>
      intro j c h
      cases j with
      | zero => simp only [List.getElem?_cons_zero, Option.some.injEq] at h; subst h; rfl
      | succ j => exact ih (by simpa using h)
    obtain ⟨v, hv1, hv2⟩ := r1.get (key hj)
    refine ⟨v, ?_, RdX.mono hm hv2⟩
    unfold rcell
    rw [hH']
    simp only [if_true]
    simpa using hv1
  | _ => exact hx
 have hL : ∀ {l : List AC} {us : List Value}, L2 (RepC ρ) l us → L2 (RepC { ρ with H := H' }) (l.map (frzC b cs)) us := by
  intro l
  induction l with
  | nil => intro us h; match us, h with | [], _ => trivial
  | cons x l ih => intro us h; match us, h with | u :: us, h => exact ⟨hC h.1, ih h.2⟩
 have hfe : (feet { ρ with H := H' } ⟨frzT b cs T, frzB b cs B, R, []⟩).Sublist (feet ρ ⟨T, B, R, []⟩) := by
  unfold feet
  exact (frzB_sub (f := ρ.box)).append (List.Sublist.refl _)
 have hne : ∀ g ∈ feet { ρ with H := H' } ⟨frzT b cs T, frzB b cs B, R, []⟩, g ≠ ρ.box b := by
  intro g hg e
  have hnd := hs.hp.nd
  unfold feet at hnd hg
  obtain ⟨n1, _, n3⟩ := List.nodup_append.1 hnd
  rcases List.mem_append.1 hg with hg | hg
  ·obtain ⟨x, hx, rfl⟩ := List.mem_map.1 hg
   obtain ⟨k1, l, k2, _⟩ := frzB_mem hx
   have := map_inj n1 _ k2 _ (lk_mem hb) e
   exact k1 (congrArg (fun z => z.1) this)
  ·exact n3 _ (List.mem_map.2 ⟨_, lk_mem hb, rfl⟩) _ hg e.symm
 refine h H' (fun g o hg => hm g o (by rw [hs.df.2]; exact hg)) { ρ with H := H' } a w ⟨⟨fun g o hg => ?_, fun x hx => ?_, hs.hp.R, by simp, hfe.nodup hs.hp.nd, fun g hg => ?_⟩, fun t av ht => ?_, ⟨hs.df.1, rfl⟩, hs.sz, hs.fr, fun g hg => hs.ft g (hfe.subset hg)⟩
 ·rw [hH'] at hg
  simp only at hg
  split at hg
  ·rename_i e; rw [e, e1]; exact hg
  ·exact hs.hp.H g o hg
 ·obtain ⟨k1, l, k2, k3⟩ := frzB_mem hx
  obtain ⟨us, k4, k5⟩ := hs.hp.B _ k2
  exact ⟨us, k4, by rw [k3]; exact hL k5⟩
 ·have h9 := hs.hp.dj g (hfe.subset hg)
  show H' g = none
  rw [hH']
  simp only
  rw [if_neg (hne g hg)]
  exact h9
 ·obtain ⟨av0, k1, rfl⟩ := frzT_lk ht
  obtain ⟨v, k2, k3⟩ := hs.T t av0 k1
  refine ⟨v, k2, ?_⟩
  cases av0 with
  | p g l =>
   unfold frzV
   unfold RepV RepP at k3 ⊢
   cases g
   ·exact hL k3
   ·obtain ⟨us, k4, k5⟩ := k3; exact ⟨us, k4, hL k5⟩
  | tup _ => trivial
  | no => trivial
  | und => exact k3
end
section
variable {P : Program} {X : Cx} {S : St} {ρ : Rho} {a : Act} {w : World} {TT : List (Nat × TI)}
def vcs (us : List Value) : List AC := us.map fun u => .c (.v u)
theorem vcs_rep {us : List Value} (h : ∀ u ∈ us, u.oneCell' = true) : L2 (RepC ρ) (vcs us) us := by
 induction us with
 | nil => trivial
 | cons u us ih => exact ⟨⟨0, rfl, h u (by simp)⟩, ih fun x hx => h x (by simp [hx])⟩
theorem q_lookup_s {t kt et b : Nat} {x k : Operand} {kk : Int} {f : Int → Option Value} {i : TI} {us zs : List Value} (hm : mapB P t kt et = true) (hT : TTOk P TT) (hi : lk TT et = some i) (hz : i.zero.map cv = zs) (hg : i.sh.agg = true) (hx : opv S.T x = some (.p false [.mp b])) (hb : lk S.M b = some f) (hk : opv S.T k = some (.p false [.c (.v (.int .i64 kk))]))
  (hr : (f kk).getD (.agg zs.toArray) = .agg us.toArray) (h1 : ∀ u ∈ us, u.oneCell' = true) : Quiet P X S (.lookup t x k false) (.p true (vcs us)) := by
 intro ρ a w hs
 obtain ⟨hu, kd, hku⟩ := mapB_ok hm
 have hp : a.eval x = .map (some (ρ.box b)) := (opv_rep hs hx).1
 have hq : a.eval k = .int .i64 kk := rd_v (opv_rep hs hk).1
 have hM : MapI w (ρ.box b) f := hs.hp.M _ (lk_mem hb)
 refine ⟨.agg us.toArray, ⟨us, rfl, vcs_rep h1⟩, fun d ty pos af g w' hw => ?_⟩
 have hM' := hM.below hw hM.lt
 have hzv : ∀ W : World, (zeroValue et).run P W = .ok (.agg zs.toArray) W := fun W => by
  have := (hT et i hi).zeroValue (w := W)
  rw [hg, hz] at this
  exact this
 have := hM'.run_lookup (P := P) hu hku _ hzv kk
 rw [hr] at this
 simp only [execOp, hp, hq, Sem.run_bind, this, Result.andThen_ok, Sem.run_pure]
theorem q_lookup_ok {t kt et b : Nat} {x k : Operand} {kk : Int} {f : Int → Option Value} {i : TI} {us zs : List Value} {r : Bool} (hm : mapB P t kt et = true) (hT : TTOk P TT) (hi : lk TT et = some i) (hz : i.zero.map cv = zs) (hg : i.sh.agg = true) (hx : opv S.T x = some (.p false [.mp b])) (hb : lk S.M b = some f) (hk : opv S.T k = some (.p false [.c (.v (.int .i64 kk))]))
  (hr : (f kk).getD (.agg zs.toArray) = .agg us.toArray) (hr2 : (f kk).isSome = r) (h1 : ∀ u ∈ us, u.oneCell' = true) : Quiet P X S (.lookup t x k true) (.tup [(true, vcs us), (false, [.c (.v (.bool r))])]) := by
 intro ρ a w hs
 obtain ⟨hu, kd, hku⟩ := mapB_ok hm
 have hp : a.eval x = .map (some (ρ.box b)) := (opv_rep hs hx).1
 have hq : a.eval k = .int .i64 kk := rd_v (opv_rep hs hk).1
 have hM : MapI w (ρ.box b) f := hs.hp.M _ (lk_mem hb)
 refine ⟨.tuple #[.agg us.toArray, .bool r], ⟨[.agg us.toArray, .bool r], rfl, ⟨us, rfl, vcs_rep h1⟩, ⟨⟨0, rfl, rfl⟩, trivial⟩, trivial⟩, fun d ty pos af g w' hw => ?_⟩
 have hM' := hM.below hw hM.lt
 have hzv : ∀ W : World, (zeroValue et).run P W = .ok (.agg zs.toArray) W := fun W => by
  have := (hT et i hi).zeroValue (w := W)
  rw [hg, hz] at this
  exact this
 have := hM'.run_lookup_ok (P := P) hu hku _ hzv kk
 rw [hr, hr2] at this
 simp only [execOp, hp, hq, Sem.run_bind, this, Result.andThen_ok, Sem.run_pure]
theorem e_mapdel {T : List (Nat × AV)} {B : List (Nat × Nat × List AC)} {R : RL} {M M' : List (Nat × (Int → Option Value))} {t kt et b kt2 : Nat} {x k : Operand} {kk : Int} {f f' : Int → Option Value} {tys : Array TypeId} (hm : mapB P t kt et = true) (hty : tys = #[t, kt2]) (hx : opv T x = some (.p false [.mp b])) (hb : lk M b = some f) (hk : opv T k = some (.p false [.c (.v (.int .i64 kk))]))
  (hf : ∀ q, f' q = if q = kk then none else f q) (hM : updM b f' M = some M') : Eff P X ⟨T, B, R, M⟩ none (.call ⟨.builtin .delete, #[x, k], tys⟩) ⟨T, B, R, M'⟩ false := by
 intro ρ a w hs
 subst hty
 obtain ⟨hu, kd, hku⟩ := mapB_ok hm
 have hp : a.eval x = .map (some (ρ.box b)) := (opv_rep hs hx).1
 have hq : a.eval k = .int .i64 kk := rd_v (opv_rep hs hk).1
 have hMI : MapI w (ρ.box b) f := hs.hp.M _ (lk_mem hb)
 obtain ⟨w', h3, h4, h5⟩ := hMI.run_delete (P := P) hu hku 0 kt2 kk
 have h4' : MapI w' (ρ.box b) f' := by rw [show f' = fun q => if q = kk then none else f q from funext hf]; exact h4
 have h3' : ∀ ty : TypeId, (Builtin.delete_ #[t, kt2] ty #[.map (some (ρ.box b)), .int .i64 kk]).run P w = .ok (.tuple #[]) w' := fun ty => h3
 exact ⟨ρ, .value (.tuple #[]), .tuple #[], w', fun ty _ _ _ => by simp [execOp, resolve, invoke, builtin, hp, hq, h3' ty], .inl rfl, hs.wmap hM h4' h5, by intro h; cases h⟩
end
def HL (X : Cx) (W : World) : Prop := ∀ b o, X.H b = some o → W.heap[b]? = some o
def QuietH (P : Program) (X : Cx) (S : St) (op : Op) (av : AV) : Prop :=
 ∀ ρ a w, Sim X ρ S a w → ∃ v, RepV ρ av v ∧ ∀ (d : Option Tmp) (ty : TypeId) (pos : String) (af : Array Edge) (g : Option (Nat × Bool)) (w' : World), HL X w' → (execOp a.eval ⟨d, op, ty, pos, af, g⟩).run P w' = .ok (.value v) w'
def RDh (P : Program) (X : Cx) (ops : Array Oper) (fuel : Nat) (listed : Array Bool) (S : St) (Q : Act → World → Prop) : Prop :=
 ∀ ρ a w, Sim X ρ S a w → wpAnyK P .any ops (QK Q) [] (HL X) fuel listed a w
section
variable {P : Program} {X : Cx} {S S' S1 : St} {Q : Act → World → Prop} {ops : Array Oper} {T : List (Nat × AV)} {B : List (Nat × Nat × List AC)} {R : List (Nat × Nat × Nat × List (List C))} {M : List (Nat × (Int → Option Value))} {fuel : Nat} {listed : Array Bool} {d : Tmp} {op : Op} {ty : TypeId} {pos : String} {af : Array Edge} {g : Option (Nat × Bool)} {av : AV} {TT : List (Nat × TI)}
theorem Sim.hl {ρ : Rho} {a : Act} {w : World} (h : Sim X ρ S a w) : HL X w := fun b o hb => h.hp.H b o (by rw [h.df.2]; exact hb)
theorem QuietW.h (h : QuietW P X S op av) : QuietH P X S op av := fun ρ a w hs => let ⟨v, h1, h2⟩ := h ρ a w hs; ⟨v, h1, fun d ty pos af g w' _ => h2 d ty pos af g w'⟩
theorem ev_drawh {id : Nat} {l : List Oper} {Q : Exit → Act → World → Prop} (hm : P.follows .mixedOrders = true) (h : RDh P X l.toArray l.toArray.size (Array.replicate l.toArray.size false) S (Q .normal)) : Ev P X (.region id l.toArray true) Q S :=
 fun ρ a w hs => wp_mono (Q := QK (Q .normal)) (wp_region_any hm (wpAny_of_K _ _ _ _ (h ρ a w.drew hs.drew))) fun e a' w' hq => by
  cases e with
  | normal => exact hq
  | _ => exact hq.elim
theorem rdh_take (i : Nat) (hi : ops[i]? = some ⟨some d, op, ty, pos, af, g⟩) (hc : chkT ops [] listed i = true) (hg : GOk ops T g) (hq : QuietH P X ⟨T, B, R, M⟩ op av) (hN : okD X d = true)
  (h : RDh P X ops fuel (listed.setIfInBounds i true) ⟨(d, av) :: T, B, R, M⟩ Q) : RDh P X ops (fuel + 1) listed ⟨T, B, R, M⟩ Q := by
 intro ρ a w hs
 simp only [chkT, Bool.and_eq_true] at hc
 obtain ⟨v, h1, h2⟩ := hq ρ a w hs
 exact wpAnyK_first hi (Region.noSelect_spec hc.1) (fun _ _ _ h => h) (fun k hk => List.all_eq_true.1 hc.2.2.2.1 k hk) fuel listed a w (Region.free_spec hi hc.2.1) (closed_of _ hc.2.2.2.2.1) hc.2.2.2.2.2 (by simpa using hc.2.2.1)
  (.inl ⟨GOk.wanted hs hg, fun w' hw => h2 _ _ _ _ _ w' hw⟩) hs.hl (h ρ _ w (hs.put hN h1))
theorem rdh_one {dd : Option Tmp} {fr : Bool} (i : Nat) (hi : ops[i]? = some ⟨dd, op, ty, pos, af, g⟩) (hr : Region.ready .any ops listed = [i]) (hg : GOk ops S.T g) (he : Eff P X S dd op S1 fr) (h : RDh P X ops fuel (listed.setIfInBounds i true) S1 Q) : RDh P X ops (fuel + 1) listed S Q :=
 fun ρ a w hs => ⟨fun h0 => absurd h0 (by rw [hr]; simp), fun j hj => by
  rw [hr] at hj
  obtain rfl := List.mem_singleton.1 hj
  refine wpOp_step hi fun K' hK => ?_
  rw [if_pos (GOk.wanted (o := ⟨dd, op, ty, pos, af, g⟩) hs hg)]
  exact eff_wp (P := P) (o := ⟨dd, op, ty, pos, af, g⟩) he rfl hs fun ρ' v w' hs' _ => hK _ _ ⟨fun _ => hs'.hl, h ρ' _ w' hs'⟩⟩
theorem rdh_q (i : Nat) (hi : ops[i]? = some ⟨some d, op, ty, pos, af, g⟩) (hr : Region.ready .any ops listed = [i]) (hg : GOk ops T g) (hq : Quiet P X ⟨T, B, R, M⟩ op av) (hN : okD X d = true) (h : RDh P X ops fuel (listed.setIfInBounds i true) ⟨(d, av) :: T, B, R, M⟩ Q) : RDh P X ops (fuel + 1) listed ⟨T, B, R, M⟩ Q :=
 fun ρ a w hs => ⟨fun h0 => absurd h0 (by rw [hr]; simp), fun j hj => by
  rw [hr] at hj
  obtain rfl := List.mem_singleton.1 hj
  refine wpOp_step hi fun K' hK => ?_
  rw [if_pos (GOk.wanted (o := ⟨some d, op, ty, pos, af, g⟩) hs hg)]
  obtain ⟨v, h1, h2⟩ := hq ρ a w hs
  unfold Oper.wp
  rw [h2 _ _ _ _ _ w (Below.refl _ _)]
  exact hK _ _ ⟨fun _ => (hs.put hN h1).hl, h ρ _ w (hs.put hN h1)⟩⟩
theorem rdh_endq {Q : Exit → Act → World → Prop} (hr : Region.ready .any ops listed = []) (h : EvE X .normal Q S) : RDh P X ops fuel listed S (Q .normal) := by
 intro ρ a w hs
 cases fuel with
 | zero => exact ⟨hr, h ρ a w hs⟩
 | succ n => exact ⟨fun _ => h ρ a w hs, by rw [hr]; simp⟩
theorem q_loadH {t : TypeId} {x : Operand} {av : AV} {cs0 : List C} (hT : TTOk P TT) (hpe : opv S.T x = some (.p false [.pe cs0])) (h : qLoad TT S t x = some av) : QuietH P X S (.load t x) av := by
 intro ρ a w hs
 unfold qLoad at h
 split at h
 ·rename_i i hi
  have ht := hT t i hi
  split at h
  ·rename_i b o hx
   rw [hx] at hpe; cases hpe
  ·rename_i cs hx
   split at h
   ·rename_i r hr
    split at h
    case h_2 => cases h
    rename_i r2 hr2
    obtain rfl := mapOO_eq hr2
    obtain rfl := mkP_eq h
    obtain ⟨rfl, hrl⟩ := cutO_eq hr
    obtain ⟨g, o, hp, hc⟩ := (opv_rep hs hx).1
    simp only [List.drop_zero] at hrl ⊢
    have hch : ∀ (n : Nat) (cs : List C) (o : Nat), n ≤ cs.length → (∀ j c, cs[j]? = some c → ∃ x, rcell ρ.H g (o + j) = some x ∧ RdX ρ.H c x) →
      ∃ us : List Value, us.length = n ∧ L2 (RepC ρ) ((cs.take n).map AC.c) us ∧ ∀ (j : Nat) (u : Value), us[j]? = some u → rcell ρ.H g (o + j) = some u := by
     intro n
     induction n with
     | zero => exact fun cs o _ _ => ⟨[], rfl, by simp [L2], by simp⟩
     | succ n ih =>
      intro cs o hn hc
      match cs, hn with
      | c :: cs, hn =>
       obtain ⟨x, h1, h2⟩ := hc 0 c rfl
       obtain ⟨us, h3, h4, h5⟩ := ih cs (o + 1) (by simpa using hn) (fun j c hj => by
        obtain ⟨x, h6, h7⟩ := hc (j + 1) c (by simpa using hj)
        exact ⟨x, by rw [show o + 1 + j = o + (j + 1) by omega]; exact h6, h7⟩)
       refine ⟨x :: us, by simp [h3], ⟨h2, h4⟩, fun j u hj => ?_⟩
       cases j with
       | zero => simp only [List.getElem?_cons_zero, Option.some.injEq] at hj; subst hj; exact h1
       | succ j =>
        have := h5 j u (by simpa using hj)
        rw [show o + (j + 1) = o + 1 + j by omega]; exact this
    obtain ⟨us, hul, hu2, hu3⟩ := hch i.size cs o (by rw [List.length_take] at hrl; omega) hc
    refine ⟨mkV i.sh.agg us, mkV_rep (by rw [mapCO_eq]; exact hu2) (fun hg => by rw [hul, ht.one hg]), fun d ty' pos af g' w' hw => ?_⟩
    have hHw : ∀ b o, ρ.H b = some o → w'.heap[b]? = some o := fun b o hb => by
     exact hw b o (by rw [← hs.df.2]; exact hb)
    have := run_load_cells (w := w') ht (g := g) (o := o) (fun j u hj => rcell_cell hHw (hu3 j u hj)) hul
    simp [execOp, hp, this]
   ·cases h
  ·cases h
 ·cases h
end
end Go.Proofs.YtinmcdcmidlgpaaGreatDoor
