/- A law that hands back true: its call, as the statements ask for it. No program in it. -/
import Derived.Test.YtahkjonokeifmaaKeVDA
import Derived.Deep.QuietTactic
import Derived.BigQuiet
import Derived.Test.YtahkjonokeifmaaKeVN
import Derived.Test.YtahkjonokeifmaaKeVY
import Derived.Test.YtahkjonokeifmaaKeV3
import Derived.OpenShut
import Derived.Deep.Slices
import Derived.ChangeSlices
import Derived.Test.YtahkjonokeifmaaKeVB
namespace Go.Proofs.Ytahkjonokeifmaa
open Go.ChangeShapes Go.WideShapes Go.ChangeAt Go.RowKit
set_option linter.unusedVariables false
def detC : AC → Bool
 | .c (.v _) => true
 | .c .nil => true
 | .rt _ => true
 | .sub _ _ _ _ => true
 | .pb _ _ => true
 | .pr _ _ _ _ => true
 | _ => false
def detL : List AC → Bool
 | [] => true
 | x :: r => match detC x with
  | true => detL r
  | false => false
def detV : AV → Bool
 | .p _ l => detL l
 | _ => false
theorem detC_eq {ρ : Rho} {x : AC} {u v : Value} (hd : detC x = true) (h1 : RepC ρ x u) (h2 : RepC ρ x v) : u = v := by
 unfold detC at hd
 split at hd
 ·rw [rd_v h1, rd_v h2]
 ·rw [rd_nil h1, rd_nil h2]
 ·exact h1.1.trans h2.1.symm
 ·have e := h1.1.symm.trans h2.1
  exact Option.some.inj e
 ·exact Eq.trans h1 (Eq.symm h2)
 ·obtain ⟨g, h3, rfl⟩ := h1
  obtain ⟨g', h4, rfl⟩ := h2
  rw [h3] at h4
  cases h4
  rfl
 ·cases hd
theorem detL_eq {ρ : Rho} : ∀ {l : List AC} {us vs : List Value}, detL l = true → L2 (RepC ρ) l us → L2 (RepC ρ) l vs → us = vs
 | [], [], [], _, _, _ => rfl
 | x :: l, u :: us, v :: vs, hd, h1, h2 => by
  unfold detL at hd
  split at hd
  ·rename_i hx
   rw [detC_eq hx h1.1 h2.1, detL_eq hd h1.2 h2.2]
  ·cases hd
 | [], _ :: _, _, _, h, _ => h.elim
 | [], [], _ :: _, _, _, h => h.elim
 | _ :: _, [], _, _, h, _ => h.elim
 | _ :: _, _ :: _, [], _, _, h => h.elim
theorem detV_eq {ρ : Rho} {av : AV} {u v : Value} (hd : detV av = true) (h1 : RepV ρ av u) (h2 : RepV ρ av v) : u = v := by
 cases av with
 | p g l =>
  obtain ⟨us, k1, rfl, _⟩ := rep_cells h1
  obtain ⟨vs, k2, rfl, _⟩ := rep_cells h2
  rw [detL_eq hd k1 k2]
 | _ => cases hd
section
variable {P : Program} {X : Cx} {S S' S1 : St} {ρ : Rho} {a : Act} {w : World} {TT : List (Nat × TI)} {TD : Nat}
theorem Sim.apart {w' : World} {F : List Nat} (h : Sim X ρ S a w) (hc : Chg w w' F) (h1 : ∀ b ∈ feet ρ S, b ∉ F) (h2 : ∀ b ∈ F, ρ.H b = none) (h3 : ∀ b ∈ F, b ∈ X.F0 ∨ X.w0.heap.size ≤ b) : Sim X ρ S a w' := by
 have hk : ∀ b ∈ feet ρ S, w'.heap[b]? = w.heap[b]? := fun b hb => hc.block b (h.hp.lt b hb) (h1 b hb)
 refine ⟨⟨fun b o hb => ?_, fun x hx => ?_, fun x hx => ?_, fun x hx => ?_, h.hp.nd, h.hp.dj⟩, h.T, h.df, h.sz, h.fr.step hc h3, h.ft⟩
 ·have := h.hp.H b o hb
  rw [hc.block b (heap_lt this) fun hm => by rw [h2 b hm] at hb; cases hb]; exact this
 ·obtain ⟨vs, k1, k2⟩ := h.hp.B x hx
  exact ⟨vs, by rw [hk _ (List.mem_append_left _ (List.mem_map.2 ⟨x, hx, rfl⟩))]; exact k1, k2⟩
 ·exact (h.hp.R x hx).keep fun b hb => hk b (List.mem_append_right _ (List.mem_append_left _ (List.mem_flatMap.2 ⟨x, hx, hb⟩)))
 ·obtain ⟨es, c, k1, k2⟩ := h.hp.M x hx
  exact ⟨es, c, by rw [hk _ (List.mem_append_right _ (List.mem_append_right _ (List.mem_map.2 ⟨x, hx, rfl⟩)))]; exact k1, k2⟩
theorem remB_mem {ds : List Nat} : ∀ {B B' : List (Nat × Nat × List AC)}, remB ds B = some B' → ∀ x ∈ B', ds.elem x.1 = false
  | [], B', h, x, hx => by cases h; simp at hx
  | (b, y) :: r, B', h, x, hx => by
    unfold remB at h
    split at h
    · exact remB_mem h x hx
    · rename_i hb
      split at h
      · rename_i r' hr
        cases h
        rcases List.mem_cons.1 hx with rfl | hx
        · exact hb
        · exact remB_mem hr x hx
      · cases h
theorem quiet_but {op : Op} {av : AV} {nb g t : Nat} {z : Nat × List AC} {T : List (Nat × AV)} {B B0 : List (Nat × Nat × List AC)} {R : RL} {M : List (Nat × (Int → Option Value))} (hk : lk X.K t = some (.pointer (some ⟨g, 0, none⟩))) (ht : lk T t = some (.p false [.pb nb 0])) (hB : lk B nb = some z) (hB0 : remB [nb] B = some B0) (hq : Quiet P X ⟨T, B0, R, M⟩ op av) (hd : detV av = true) (hs : Sim X ρ ⟨T, B, R, M⟩ a w) :
  ∃ v, RepV ρ av v ∧ ∀ (d : Option Tmp) (ty : TypeId) (pos : String) (af : Array Edge) (gd : Option (Nat × Bool)) (w' : World), Chg w w' [g] → (execOp a.eval ⟨d, op, ty, pos, af, gd⟩).run P w' = .ok (.value v) w' := by
 have hg : ρ.box nb = g := pin_box hs hk ht
 have hsub := remB_sub hB0
 have hf : (feet ρ ⟨T, B0, R, M⟩).Sublist (feet ρ ⟨T, B, R, M⟩) := by
  unfold feet
  exact (hsub.map _).append (List.Sublist.refl _)
 have hs0 : Sim X ρ ⟨T, B0, R, M⟩ a w := ⟨⟨hs.hp.H, fun x hx => hs.hp.B x (hsub.subset hx), hs.hp.R, hs.hp.M, hf.nodup hs.hp.nd, fun b hb => hs.hp.dj b (hf.subset hb)⟩, hs.T, hs.df, hs.sz, hs.fr, fun b hb => hs.ft b (hf.subset hb)⟩
 have hout : g ∉ feet ρ ⟨T, B0, R, M⟩ := by
  intro hm
  have hnd := hs.hp.nd
  unfold feet at hm hnd
  obtain ⟨n1, n2, n3⟩ := List.nodup_append.1 hnd
  rcases List.mem_append.1 hm with hm | hm
  ·obtain ⟨x, hx, e⟩ := List.mem_map.1 hm
   have hne : x.1 ≠ nb := fun e2 => by
    have := remB_mem hB0 x hx
    rw [e2] at this
    simp [List.elem] at this
   have e : ρ.box x.1 = g := e
   rw [← hg] at e
   have := map_inj n1 _ (hsub.subset hx) _ (lk_mem hB) e
   exact hne (congrArg Prod.fst this)
  ·exact n3 (ρ.box nb) (List.mem_map.2 ⟨_, lk_mem hB, rfl⟩) g hm hg
 obtain ⟨v, h1, h2⟩ := hq ρ a w hs0
 refine ⟨v, h1, fun d ty pos af gd w' hc => ?_⟩
 have hmem : g ∈ feet ρ ⟨T, B, R, M⟩ := by rw [← hg]; exact box_feet hB
 have hs1 : Sim X ρ ⟨T, B0, R, M⟩ a w' := hs0.apart hc (fun b hb hm => by rw [List.mem_singleton.1 hm] at hb; exact hout hb) (fun b hb => by rw [List.mem_singleton.1 hb]; exact hs.hp.dj g hmem) (fun b hb => by rw [List.mem_singleton.1 hb]; exact hs.ft g hmem)
 obtain ⟨v', h3, h4⟩ := hq ρ a w' hs1
 rw [detV_eq hd h1 h3]
 exact h4 d ty pos af gd w' (Below.refl _ _)
def RDd (P : Program) (X : Cx) (ops : Array Oper) (ks : List Nat) (g : Nat) (fuel : Nat) (listed : Array Bool) (S : St) (Q : Act → World → Prop) : Prop :=
 ∀ ρ a w, Sim X ρ S a w → wpAnyK P .any ops (QK Q) ks (fun W => Chg w W [g]) fuel listed a w
def RDdo (P : Program) (X : Cx) (ops : Array Oper) (ks : List Nat) (g : Nat) (fuel : Nat) (listed : Array Bool) (i : Nat) (S : St) (Q : Act → World → Prop) : Prop :=
 ∀ ρ a w, Sim X ρ S a w → wpOp P ops (QK Q) i (fun a' w' => (unbroken ks (listed.setIfInBounds i true) = true → Chg w w' [g]) ∧ wpAnyK P .any ops (QK Q) ks (fun W => Chg w W [g]) fuel (listed.setIfInBounds i true) a' w') a w
variable {Q : Act → World → Prop} {ops : Array Oper} {ks : List Nat} {T : List (Nat × AV)} {B B0 : List (Nat × Nat × List AC)} {R : RL} {M : List (Nat × (Int → Option Value))} {fuel gg : Nat} {listed : Array Bool} {d : Tmp} {op : Op} {ty : TypeId} {pos : String} {af : Array Edge} {g : Option (Nat × Bool)} {av : AV}
theorem wpAnyK_broken {md : Region.Mode} {Q : Exit → Act → World → Prop} {S S2 : World → Prop} : ∀ (fuel : Nat) (listed : Array Bool) (a : Act) (w : World), unbroken ks listed = false → wpAnyK P md ops Q ks S fuel listed a w → wpAnyK P md ops Q ks S2 fuel listed a w
 | 0, _, _, _, _, h => h
 | fuel + 1, listed, _, _, hu, h => ⟨h.1, fun i hi => wpOp_mono (fun a' w' h' => ⟨fun h9 => absurd h9 (by rw [broken_more i hu]; simp), wpAnyK_broken fuel _ a' w' (broken_more i hu) h'.2⟩) (h.2 i hi)⟩
theorem chg_tr {a b c : World} {g : Nat} (h : Chg a b [g]) (k : Chg b c [g]) : Chg a c [g] := h.step k fun x hx => .inl hx
theorem ev_drawd {id : Nat} {l : List Oper} {Q : Exit → Act → World → Prop} (ks : List Nat) (g : Nat) (hm : P.follows .mixedOrders = true) (h : RDd P X l.toArray ks g l.toArray.size (Array.replicate l.toArray.size false) S (Q .normal)) : Ev P X (.region id l.toArray true) Q S :=
 fun ρ a w hs => wp_mono (Q := QK (Q .normal)) (wp_region_any hm (wpAny_of_K _ _ _ _ (h ρ a w.drew hs.drew))) fun e a' w' hq => by
  cases e with
  | normal => exact hq
  | _ => exact hq.elim
theorem rdd_take {z : Nat × List AC} (t nb : Nat) (i : Nat) (hi : ops[i]? = some ⟨some d, op, ty, pos, af, g⟩) (hc : chkT ops ks listed i = true) (hg : GOk ops T g) (hk : lk X.K t = some (.pointer (some ⟨gg, 0, none⟩))) (ht : lk T t = some (.p false [.pb nb 0])) (hB : lk B nb = some z) (hB0 : remB [nb] B = some B0) (hq : Quiet P X ⟨T, B0, R, M⟩ op av) (hd : detV av = true) (hN : okD X d = true)
  (h : RDd P X ops ks gg fuel (listed.setIfInBounds i true) ⟨(d, av) :: T, B, R, M⟩ Q) : RDd P X ops ks gg (fuel + 1) listed ⟨T, B, R, M⟩ Q := by
 intro ρ a w hs
 simp only [chkT, Bool.and_eq_true] at hc
 obtain ⟨v, h1, h2⟩ := quiet_but hk ht hB hB0 hq hd hs
 exact wpAnyK_first hi (Region.noSelect_spec hc.1) (fun _ _ _ h => h) (fun k hk => List.all_eq_true.1 hc.2.2.2.1 k hk) fuel listed a w (Region.free_spec hi hc.2.1) (closed_of _ hc.2.2.2.2.1) hc.2.2.2.2.2 (by simpa using hc.2.2.1)
  (.inl ⟨GOk.wanted hs hg, fun w' hw => h2 _ _ _ _ _ w' hw⟩) (Chg.refl _ _) (h ρ _ w (hs.put hN h1))
theorem rdd_pure (i : Nat) (hi : ops[i]? = some ⟨some d, op, ty, pos, af, g⟩) (hc : chkP ops ks listed i = true) (hg : GOk ops T g) (hq : QuietW P X ⟨T, B, R, M⟩ op av) (hN : okD X d = true)
  (h : RDd P X ops ks gg fuel (listed.setIfInBounds i true) ⟨(d, av) :: T, B, R, M⟩ Q) : RDd P X ops ks gg (fuel + 1) listed ⟨T, B, R, M⟩ Q := by
 intro ρ a w hs
 simp only [chkP, Bool.and_eq_true, Bool.not_eq_true'] at hc
 obtain ⟨v, h1, h2⟩ := hq ρ a w hs
 exact wpAnyK_firstP hi (Region.noSelect_spec hc.1) (fun _ _ _ h => h) (by simpa using hc.2.2.2) fuel listed a w (Region.free_spec hi hc.2.1) (by simpa using hc.2.2.1)
  (.inl ⟨GOk.wanted hs hg, fun w' hw => h2 _ _ _ _ _ w'⟩) (fun _ => Chg.refl _ _) (h ρ _ w (hs.put hN h1))
theorem rdd_1 (i : Nat) (hr : Region.ready .any ops listed = [i]) (h : RDdo P X ops ks gg fuel listed i S Q) : RDd P X ops ks gg (fuel + 1) listed S Q :=
 fun ρ a w hs => ⟨fun h0 => absurd h0 (by rw [hr]; simp), fun j hj => by
  rw [hr] at hj
  obtain rfl := List.mem_singleton.1 hj
  exact h ρ a w hs⟩
theorem rdd_endq {Q : Exit → Act → World → Prop} (hr : Region.ready .any ops listed = []) (h : EvE X .normal Q S) : RDd P X ops ks gg fuel listed S (Q .normal) := by
 intro ρ a w hs
 cases fuel with
 | zero => exact ⟨hr, h ρ a w hs⟩
 | succ n => exact ⟨fun _ => h ρ a w hs, by rw [hr]; simp⟩
def RollD (P : Program) (X : Cx) (ops : Array Oper) (ks : List Nat) (gg fuel : Nat) (listed : Array Bool) (Q : Act → World → Prop) (d nm nb : Nat) (cs : List AC) (res : List (Bool × List RC)) (T : List (Nat × AV)) (B : List (Nat × Nat × List AC)) (R : RL) (M : List (Nat × (Int → Option Value))) : Prop :=
 ∃ av B' R', updB nb cs B = some B' ∧ imO T B' R nm res = some (av, R') ∧ okD X d = true ∧ RDd P X ops ks gg fuel listed ⟨(d, av) :: T, B', R', M⟩ Q
theorem rdk {B' : List (Nat × Nat × List AC)} {R' : RL} {nm nb : Nat} {cs : List AC} {res : List (Bool × List RC)} (h1 : updB nb cs B = some B') (h2 : imO T B' R nm res = some (av, R')) (h3 : okD X d = true) (h : RDd P X ops ks gg fuel listed ⟨(d, av) :: T, B', R', M⟩ Q) : RollD P X ops ks gg fuel listed Q d nm nb cs res T B R M := ⟨av, B', R', h1, h2, h3, h⟩
theorem rddo_roll {α : Type} {qq : α → Prop} {res : α → List (Bool × List RC)} {i : Nat} {f : FuncId} {x : Operand} {xs : List Operand} {tys : Array TypeId} {args : List (Bool × List C)} {nb n nm : Nat} {v0 : Value} {δ : DS n} (t : Nat) (hi : ops[i]? = some ⟨some d, .call ⟨.value (.func f), (x :: xs).toArray, tys⟩, ty, pos, af, g⟩) (hg : GOk ops T g) (hk : lk X.K t = some (.pointer (some ⟨gg, 0, none⟩))) (ht : lk T t = some (.p false [.pb nb 0]))
  (hF : chkF P f = true) (hc : Rolls P TD f args qq res) (hx : opv T x = some (.p false [.pb nb 0])) (hB : lk B nb = some (TD, diceA v0 δ)) (hsrc : Src X.H v0 n) (hr : RsA ⟨T, B, R, M⟩ xs args) (hm : ∀ x, noCr (res x) = true)
  (h : ∀ (y : α) (δ' : DS n), qq y → RollD P X ops ks gg fuel (listed.setIfInBounds i true) Q d nm nb (diceA v0 δ') (res y) T B R M) : RDdo P X ops ks gg fuel listed i ⟨T, B, R, M⟩ Q := by
 intro ρ a w hs
 refine wpOp_step hi fun K' hK => ?_
 rw [if_pos (GOk.wanted (o := ⟨some d, .call ⟨.value (.func f), (x :: xs).toArray, tys⟩, ty, pos, af, g⟩) hs hg)]
 have hp : ρ.box nb = gg := pin_box hs hk ht
 refine roll_wp (nm := nm) (o := ⟨some d, .call ⟨.value (.func f), (x :: xs).toArray, tys⟩, ty, pos, af, g⟩) hF rfl rfl hc hx hB hsrc hr hm hs fun y δ' hq => ?_
 obtain ⟨av, B', R', h1, h2, h3, h4⟩ := h y δ' hq
 refine ⟨av, B', R', h1, h2, h3, fun ρ' v w' hch _ hs' => ?_⟩
 rw [hp] at hch
 exact hK _ _ ⟨fun _ => hch, wpAnyK_mono (fun W hW => chg_tr hch hW) _ _ _ _ (h4 ρ' _ w' hs')⟩
theorem rddo_call {i : Nat} {f : FuncId} {xs : List Operand} {tys : Array TypeId} {args : List (Bool × List C)} {res : List (Bool × List RC)} {nm : Nat} {R' : RL} (hi : ops[i]? = some ⟨some d, .call ⟨.value (.func f), xs.toArray, tys⟩, ty, pos, af, g⟩) (hg : GOk ops T g)
  (hF : chkF P f = true) (hc : Pure P f args res) (hr : RsA ⟨T, B, R, M⟩ xs args) (hm : modeB T xs res = true) (him : imO T B R nm res = some (av, R')) (hN : okD X d = true) (h : RDd P X ops ks gg fuel (listed.setIfInBounds i true) ⟨(d, av) :: T, B, R', M⟩ Q) : RDdo P X ops ks gg fuel listed i ⟨T, B, R, M⟩ Q := by
 intro ρ a w hs
 refine wpOp_step hi fun K' hK => ?_
 rw [if_pos (GOk.wanted (o := ⟨some d, .call ⟨.value (.func f), xs.toArray, tys⟩, ty, pos, af, g⟩) hs hg)]
 refine call_wp hF rfl rfl rfl hc hr hm (imO_eq him) hN hs fun ρ' v w' hb hs' => hK _ _ ⟨fun _ => Chg.of_below hb, ?_⟩
 exact wpAnyK_mono (fun W hW => chg_tr (Chg.of_below hb) hW) _ _ _ _ (h ρ' _ w' hs')
theorem rddo_new {i : Nat} {dd : Option Tmp} (hi : ops[i]? = some ⟨dd, op, ty, pos, af, g⟩) (hg : GOk ops S.T g) (he : Eff P X S dd op S1 true) (h : RDd P X ops ks gg fuel (listed.setIfInBounds i true) S1 Q) : RDdo P X ops ks gg fuel listed i S Q := by
 intro ρ a w hs
 refine wpOp_step hi fun K' hK => ?_
 rw [if_pos (GOk.wanted (o := ⟨dd, op, ty, pos, af, g⟩) hs hg)]
 refine eff_wp (P := P) (o := ⟨dd, op, ty, pos, af, g⟩) he rfl hs fun ρ' v w' hs' hb => hK _ _ ⟨fun _ => Chg.of_below (hb rfl), ?_⟩
 exact wpAnyK_mono (fun W hW => chg_tr (Chg.of_below (hb rfl)) hW) _ _ _ _ (h ρ' _ w' hs')
theorem rddo_brk {i : Nat} {dd : Option Tmp} {fr : Bool} (hi : ops[i]? = some ⟨dd, op, ty, pos, af, g⟩) (hu : unbroken ks (listed.setIfInBounds i true) = false) (hg : GOk ops S.T g) (he : Eff P X S dd op S1 fr) (h : RDd P X ops ks gg fuel (listed.setIfInBounds i true) S1 Q) : RDdo P X ops ks gg fuel listed i S Q := by
 intro ρ a w hs
 refine wpOp_step hi fun K' hK => ?_
 rw [if_pos (GOk.wanted (o := ⟨dd, op, ty, pos, af, g⟩) hs hg)]
 exact eff_wp (P := P) (o := ⟨dd, op, ty, pos, af, g⟩) he rfl hs fun ρ' v w' hs' _ => hK _ _ ⟨fun h9 => absurd h9 (by rw [hu]; simp), wpAnyK_broken _ _ _ _ hu (h ρ' _ w' hs')⟩
end
section
variable {P : Program} {X : Cx} {S : St} {ρ : Rho} {a : Act} {w : World} {TT : List (Nat × TI)} {T : List (Nat × AV)} {B : List (Nat × Nat × List AC)} {R : RL} {M : List (Nat × (Int → Option Value))}
@[reducible] def uV (x : Int) : AV := .p false [.c (.v (.int .u64 x))]
theorem q_umul {t yt : TypeId} {x y : Operand} {m n : Int} (hx : opv S.T x = some (uV m)) (hy : opv S.T y = some (uV n)) : Quiet P X S (.binOp .mul t x y yt) (uV (IntKind.u64.wrap (m * n))) := by
 refine quiet_of fun ρ a w hs => ⟨.int .u64 (IntKind.u64.wrap (m * n)), ⟨⟨0, rfl, rfl⟩, trivial⟩, fun _ _ _ _ _ w' => ?_⟩
 have hp : a.eval x = .int .u64 m := rd_v (opv_rep hs hx).1
 have hq : a.eval y = .int .u64 n := rd_v (opv_rep hs hy).1
 simp [execOp, hp, hq, binOp, Op.intArith, cmp_guard]
theorem q_uadd {t yt : TypeId} {x y : Operand} {m n : Int} (hx : opv S.T x = some (uV m)) (hy : opv S.T y = some (uV n)) : Quiet P X S (.binOp .add t x y yt) (uV (IntKind.u64.wrap (m + n))) := by
 refine quiet_of fun ρ a w hs => ⟨.int .u64 (IntKind.u64.wrap (m + n)), ⟨⟨0, rfl, rfl⟩, trivial⟩, fun _ _ _ _ _ w' => ?_⟩
 have hp : a.eval x = .int .u64 m := rd_v (opv_rep hs hx).1
 have hq : a.eval y = .int .u64 n := rd_v (opv_rep hs hy).1
 simp [execOp, hp, hq, binOp, Op.intArith, cmp_guard]
theorem q_ushr {t yt : TypeId} {x y : Operand} {m : Int} (hx : opv S.T x = some (uV m)) (hy : opv S.T y = some (uV 33)) : Quiet P X S (.binOp .shr t x y yt) (uV (m / 8589934592)) := by
 refine quiet_of fun ρ a w hs => ⟨.int .u64 (m / 8589934592), ⟨⟨0, rfl, rfl⟩, trivial⟩, fun _ _ _ _ _ w' => ?_⟩
 have hp : a.eval x = .int .u64 m := rd_v (opv_rep hs hx).1
 have hq : a.eval y = .int .u64 33 := rd_v (opv_rep hs hy).1
 have h := shift_shr .u64 .u64 m 33 (by decide) (by decide)
 rw [show (2 : Int) ^ (33 : Int).toNat = 8589934592 by decide] at h
 simp [execOp, hp, hq, binOp, cmp_guard, h]
theorem q_uand {t yt : TypeId} {x y : Operand} {m n : Int} (hx : opv S.T x = some (uV m)) (hy : opv S.T y = some (uV n)) : Quiet P X S (.binOp .and t x y yt) (uV (bits BinOp.and .u64 m n)) := by
 refine quiet_of fun ρ a w hs => ⟨.int .u64 (bits BinOp.and .u64 m n), ⟨⟨0, rfl, rfl⟩, trivial⟩, fun _ _ _ _ _ w' => ?_⟩
 have hp : a.eval x = .int .u64 m := rd_v (opv_rep hs hx).1
 have hq : a.eval y = .int .u64 n := rd_v (opv_rep hs hy).1
 simp [execOp, hp, hq, binOp, cmp_guard, intBits_and]
theorem q_cv {src dst : TypeId} {x : Operand} {k k2 j : IntKind} {n : Int} (hs : P.underlying src = some (.int k)) (hd : P.underlying dst = some (.int k2)) (hx : opv S.T x = some (.p false [.c (.v (.int j n))])) : Quiet P X S (.convert src dst x) (.p false [.c (.v (.int k2 (k2.wrap n)))]) := by
 refine quiet_of fun ρ a w hs2 => ⟨.int k2 (k2.wrap n), ⟨⟨0, rfl, rfl⟩, trivial⟩, fun _ _ _ _ _ w' => ?_⟩
 have hp : a.eval x = .int j n := rd_v (opv_rep hs2 hx).1
 simp [execOp, hp, convert, run_underlying hs, run_underlying hd, Conv.intToInt]
theorem qw_nilc {x : Operand} {b o : Nat} (hx : opv S.T x = some (.p false [.pb b o])) : QuietW P X S (.nilCheck x) (.p false [.pb b o]) := by
 refine fun ρ a w hs => ⟨.pointer (some ⟨ρ.box b, o, none⟩), ⟨rfl, trivial⟩, fun _ _ _ _ _ w' => ?_⟩
 have hp : a.eval x = .pointer (some ⟨ρ.box b, o, none⟩) := (opv_rep hs hx).1
 simp [execOp, hp]
theorem q_nilc {x : Operand} {b o : Nat} (hx : opv S.T x = some (.p false [.pb b o])) : Quiet P X S (.nilCheck x) (.p false [.pb b o]) := (qw_nilc hx).q
theorem evl_src {Q : Exit → Act → World → Prop} {ops : Array Oper} {rest : List Oper} {v0 : Value} {l : List Int} (t : Nat) (hx : lk T t = some (.p false [.c (.v v0)])) (hr : RdX X.H (bytes l) v0) (h : EvL P X ops rest Q ⟨(t, .p false [.c (bytes l)]) :: T, B, R, M⟩) : EvL P X ops rest Q ⟨T, B, R, M⟩ := fun ρ a w hs => by
 obtain ⟨v, h1, h2⟩ := hs.T t _ hx
 have e : v = v0 := rd_v h2.1
 subst e
 exact h ρ a w (hs.know h1 ⟨by show RdX ρ.H (bytes l) v; rw [hs.df.2]; exact hr, trivial⟩)
theorem ev_src {Q : Exit → Act → World → Prop} {c : Code} {v0 : Value} {l : List Int} (t : Nat) (hx : lk T t = some (.p false [.c (.v v0)])) (hr : RdX X.H (bytes l) v0) (h : Ev P X c Q ⟨(t, .p false [.c (bytes l)]) :: T, B, R, M⟩) : Ev P X c Q ⟨T, B, R, M⟩ := fun ρ a w hs => by
 obtain ⟨v, h1, h2⟩ := hs.T t _ hx
 have e : v = v0 := rd_v h2.1
 subst e
 exact h ρ a w (hs.know h1 ⟨by show RdX ρ.H (bytes l) v; rw [hs.df.2]; exact hr, trivial⟩)
theorem q_load_src {t b o : Nat} {x : Operand} {v0 : Value} {l : List Int} {ty : Nat} {cs : List AC} {i : TI} (hT : TTOk P TT) (hi : lk TT t = some i) (hx : opv S.T x = some (.p false [.pb b o])) (hB : lk S.B b = some (ty, cs)) (hc : cutO o i.size cs = some [.c (.v v0)]) (hg : i.sh.agg = false) (hr : RdX X.H (bytes l) v0) : Quiet P X S (.load t x) (.p false [.c (bytes l)]) := by
 have h0 : qLoad TT S t x = some (.p false [.c (.v v0)]) := by
  unfold qLoad
  rw [hi]
  simp only [hx, hB, hc, hg]
  rfl
 intro ρ a w hs
 obtain ⟨v, h1, h2⟩ := q_load hT h0 ρ a w hs
 have e : v = v0 := rd_v h1.1
 subst e
 exact ⟨v, ⟨by show RdX ρ.H (bytes l) v; rw [hs.df.2]; exact hr, trivial⟩, h2⟩
theorem wrap_u64 (n : Int) : 0 ≤ IntKind.u64.wrap n ∧ IntKind.u64.wrap n ≤ 18446744073709551615 := by
 have e : IntKind.u64.wrap n = n % (2 ^ 64 : Int) := by simp [IntKind.wrap, IntKind.signed, IntKind.bits]
 rw [e]
 have h0 := Int.emod_nonneg n (show (2 ^ 64 : Int) ≠ 0 by decide)
 have h1 := Int.emod_lt_of_pos n (show (0 : Int) < 2 ^ 64 by decide)
 have h2 : (2 ^ 64 : Int) = 18446744073709551616 := by decide
 omega
theorem and_bound (x : Int) (h0 : 0 ≤ x) (h1 : x ≤ 18446744073709551615) : 0 ≤ IntKind.i64.wrap (bits BinOp.and IntKind.u64 x 16777215) ∧ IntKind.i64.wrap (bits BinOp.and IntKind.u64 x 16777215) ≤ 16777215 := by
 have h := bits_and_u64_nat x.toNat 16777215 om om
 rw [Int.toNat_of_nonneg h0] at h
 have h2 : x.toNat &&& 16777215 ≤ 16777215 := Nat.and_le_right
 have h3 : bits BinOp.and IntKind.u64 x 16777215 = ((x.toNat &&& 16777215 : Nat) : Int) := h
 rw [h3]
 generalize x.toNat &&& 16777215 = m at h2
 rw [IntWalk.i64_in _ om]
 omega
def MkPost (TD : Nat) (v0 : Value) (n : Nat) (w : World) (e : Ending) (w' : World) : Prop := ∃ (g : Nat) (δ : DS n), e = .returned (.pointer (some ⟨g, 0, none⟩)) ∧ w.heap.size ≤ g ∧ DiceAt TD g v0 δ w' ∧ Below w.heap.size w w'
theorem mk_intro {TD : Nat} {f : FuncId} {fn : Func} {c : Code} {N : Nat} {k : Int} (hf : P.funcs[f]? = some fn) (hb : fn.body = some c) (hN : fn.ntmps = N) (hl : Nat.ble 2 N = true)
  (h : ∀ H w v0 (l : List Int), RdX H (bytes l) v0 → (∀ x ∈ l, 0 ≤ x ∧ x ≤ 255) → l.length ≤ 4096 → Ev P ⟨N, w, [], H, [], []⟩ c (bodyPost P fn (MkPost TD v0 l.length w)) ⟨[(0, .p false [.c (.v v0)]), (1, uV k)], [], [], []⟩) : MkRoll P TD f k := by
 intro H w v0 n hH hs
 obtain ⟨l, rfl, h2, h3, h4⟩ := hs
 refine calls_of_wp hf hb ?_
 have hle := Nat.le_of_ble_eq_true hl
 refine h H w v0 l h2 h3 h4 ⟨H, fun _ => 0, fun _ => undef, fun _ => [], fun _ => []⟩ _ w ⟨⟨hH, by simp, by simp, by simp, by simp [feet], by simp [feet]⟩, fun t av ht => ?_, ⟨rfl, rfl⟩, ⟨by simp [hN]; omega, by simp⟩, Chg.refl _ _, by simp [feet]⟩
 have ht' : (if 0 = t then some (AV.p false [.c (.v v0)]) else if 1 = t then some (uV k) else none) = some av := ht
 split at ht'
 ·rename_i e; subst e; cases ht'
  exact ⟨v0, by show (#[v0, Value.int .u64 k] ++ _)[0]? = _; rw [Array.getElem?_append_left (by simp)]; rfl, ⟨⟨0, rfl, h2.one⟩, trivial⟩⟩
 ·split at ht'
  ·rename_i e; subst e; cases ht'
   exact ⟨.int .u64 k, by show (#[v0, Value.int .u64 k] ++ _)[1]? = _; rw [Array.getElem?_append_left (by simp)]; rfl, ⟨⟨0, rfl, rfl⟩, trivial⟩⟩
  ·cases ht'
theorem ret_mk {TD : Nat} {fn : Func} {N n nb : Nat} {w0 : World} {H : Nat → Option Obj} {v0 : Value} (δ : DS n) (hT : TTOk P TT) (h1 : retPs TT S fn.results.toList = some [(false, [.pb nb 0])]) (hB : lk S.B nb = some (TD, diceA v0 δ)) : EvE ⟨N, w0, [], H, [], []⟩ .ret (bodyPost P fn (MkPost TD v0 n w0)) S := by
 intro ρ a w hs
 obtain ⟨us, h3, h4⟩ := results_ok hT hs h1
 obtain ⟨u, rfl, h5⟩ := h3.one
 have hu : u = .pointer (some ⟨ρ.box nb, 0, none⟩) := h5.1
 subst hu
 refine ⟨hs.df.1, _, h4, ρ.box nb, δ, rfl, ?_, dice_heap hs hB, hs.fr.below⟩
 rcases hs.ft _ (box_feet hB) with h9 | h9
 ·have h9 : ρ.box nb ∈ ([] : List Nat) := h9
  simp at h9
 ·exact h9
end
section
variable {P : Program} {X : Cx} {S : St} {ρ : Rho} {a : Act} {w : World} {TT : List (Nat × TI)}
theorem sub_own {r n' k j m ty : Nat} {rows : List (List C)} {row : List C} {c c' : List (List C)} {T : List (Nat × AV)} {B : List (Nat × Nat × List AC)} {R : RL} {M : List (Nat × (Int → Option Value))}
  (hr : lk R r = some (ty, n', rows)) (hk : rows[k]? = some row) (hj : row[j]? = some (.s m c)) (f2 : noBs (mentS r) B = true) (f3 : noK r (eraR r R) = true) (hs : Sim X ρ ⟨T, B, R, M⟩ a w) :
  ∃ (v : Value) (G : List Nat) (ty' : Nat) (xs' : List Value), (ρ.rows r)[k * n' + j]? = some v ∧ OwS w ty' m c v xs' G ∧ G.Nodup ∧ ∀ (w' : World) (F1 : List Nat) (ty2 : Nat) (xs2 : List Value), OwS w' ty2 m c' v xs2 F1 → F1.Nodup → (∀ b ∈ F1, b ∈ G ∨ w.heap.size ≤ b) → Chg w w' G →
   ∃ ρ', Sim X ρ' ⟨flT r T, B, (r, ty, n', rows.set k (row.set j (.s m c'))) :: eraR r R, M⟩ a w' := by
 have hnd : (R.flatMap fun x => ρ.foot x.1).Nodup := by
  have := hs.hp.nd
  unfold feet at this
  exact (List.nodup_append.1 (List.nodup_append.1 this).2.1).1
 obtain ⟨j1, j2, j3, j4⟩ := era_own (ρ := ρ) hr hnd
 have how := hs.hp.R _ j2
 obtain ⟨v, ob, G, A, D, hv, hox, hFe, hput⟩ := own_sub how hk hj
 have hFe : ρ.foot r = ob ++ (A ++ (G ++ D)) := hFe
 obtain ⟨ty', xs', hos⟩ := own_typed hox
 have hndr : (ρ.foot r).Nodup := (List.nodup_append.1 j3).1
 have hndG : G.Nodup := by
  rw [hFe] at hndr
  exact (List.nodup_append.1 (List.nodup_append.1 (List.nodup_append.1 hndr).2.1).2.1).1
 have hGd : ∀ b ∈ G, b ∉ ob ++ (A ++ D) := fun b hb hm => by
  rw [hFe] at hndr
  obtain ⟨a1, a2, a3⟩ := List.nodup_append.1 hndr
  obtain ⟨a4, a5, a6⟩ := List.nodup_append.1 a2
  obtain ⟨a7, a8, a9⟩ := List.nodup_append.1 a5
  rcases List.mem_append.1 hm with hm | hm
  ·exact a3 b hm b (List.mem_append_right _ (List.mem_append_left _ hb)) rfl
  ·rcases List.mem_append.1 hm with hm | hm
   ·exact a6 b hm b (List.mem_append_left _ hb) rfl
   ·exact a9 b hb b hm rfl
 have hGf : ∀ b ∈ G, b ∈ ρ.foot r := fun b hb => by rw [hFe]; simp [hb]
 refine ⟨v, G, ty', xs', hv, hos, hndG, fun w' F1 ty2 xs2 ho2 p4 p5 p6 => ?_⟩
 have hsz : ∀ b ∈ ob ++ (A ++ D), b < w.heap.size := fun b hb => by
  refine how.lt b ?_
  show b ∈ ρ.foot r
  rw [hFe]
  simp only [List.mem_append] at hb ⊢
  rcases hb with hb | hb | hb <;> simp [hb]
 have hnew := hput w' F1 (.s m c') (fun b hb => p6.block b (hsz b hb) fun hm => hGd b hm hb) ho2.c
 have hdrop := (hs.weakT (T := flT r T) fun t av ht => by
  rcases flT_lk ht with h9 | ⟨rfl, av', h9⟩
  ·exact .inl h9
  ·refine .inr ⟨rfl, ?_⟩
   obtain ⟨v9, h10, _⟩ := hs.T t av' h9
   rw [← hs.sz.1]
   exact (Array.getElem?_eq_some_iff.1 h10).1).drop (R' := eraR r R) j1 (List.nodup_append.1 j3).2.1 p6 fun b hb => ⟨j4 b (hGf b hb), fun hm => (List.nodup_append.1 j3).2.2 b (hGf b hb) b hm rfl⟩
 have hfs : ∀ b ∈ feet ρ ⟨flT r T, B, eraR r R, M⟩, b ∈ feet ρ ⟨T, B, R, M⟩ := fun b hb => by
  unfold feet at hb ⊢
  rcases List.mem_append.1 hb with hb | hb
  ·exact List.mem_append_left _ hb
  ·rcases List.mem_append.1 hb with hb | hb
   ·obtain ⟨x, hx, hb⟩ := List.mem_flatMap.1 hb
    exact List.mem_append_right _ (List.mem_append_left _ (List.mem_flatMap.2 ⟨x, j1 x hx, hb⟩))
   ·exact List.mem_append_right _ (List.mem_append_right _ hb)
 have hnd0 := hs.hp.nd
 unfold feet at hnd0
 obtain ⟨m1, m2, m3⟩ := List.nodup_append.1 hnd0
 obtain ⟨m4, m5, m6⟩ := List.nodup_append.1 m2
 have hnew2 : (ob ++ (A ++ (F1 ++ D)) ++ []).Nodup := nodup_swap (G := G) (by rw [List.append_nil, ← hFe]; exact hndr) p4 fun b hb => by
  rcases p5 b hb with h9 | h9
  ·exact .inl h9
  ·refine .inr fun hm => ?_
   rw [List.append_nil, ← hFe] at hm
   have := how.lt b hm
   omega
 rw [List.append_nil] at hnew2
 have hfin := hdrop.addback hnew hnew2 (fun b hb => by
  have hc9 : b ∈ ρ.foot r ∨ w.heap.size ≤ b := by
   rw [hFe]
   simp only [List.mem_append] at hb ⊢
   rcases hb with hb | hb | hb | hb
   ·exact .inl (.inl hb)
   ·exact .inl (.inr (.inl hb))
   ·rcases p5 b hb with h9 | h9
    ·exact .inl (.inr (.inr (.inl h9)))
    ·exact .inr h9
   ·exact .inl (.inr (.inr (.inr hb)))
  rcases hc9 with hb2 | hb2
  ·have hbR := j4 b hb2
   have hbf : b ∈ feet ρ ⟨T, B, R, M⟩ := List.mem_append_right _ (List.mem_append_left _ hbR)
   refine ⟨fun hm => ?_, hs.hp.dj b hbf, hs.ft b hbf⟩
   unfold feet at hm
   rcases List.mem_append.1 hm with hm | hm
   ·exact m3 b hm b (List.mem_append_left _ hbR) rfl
   ·rcases List.mem_append.1 hm with hm | hm
    ·exact (List.nodup_append.1 j3).2.2 b hb2 b hm rfl
    ·exact m6 b hbR b hm rfl
  ·refine ⟨fun hm => ?_, ?_, .inr (Nat.le_trans hs.fr.size hb2)⟩
   ·have := hs.hp.lt b (hfs b hm)
    omega
   ·cases ho : ρ.H b with
    | none => rfl
    | some o => have := heap_lt (hs.hp.H b o ho); omega) flT_no f2 f3
 exact ⟨_, hfin⟩
theorem evl_st_sub {T : List (Nat × AV)} {B : List (Nat × Nat × List AC)} {R : RL} {M : List (Nat × (Int → Option Value))} {ops : Array Oper} {rest : List Oper} {Q : Exit → Act → World → Prop} {d tx u ts tst e r n n' k j ty ty1 ty2 q : Nat} {ix : Operand} {pos1 pos2 : String} {af1 af2 : Array Edge} {rows rows' : List (List C)} {row : List C} {c : List (List C)} {i : Int} {kk : IntKind} {val : Value} {inf : TI}
  (hT : TTOk P TT) (ht : eSz TT ts = some (e, 1)) (hi2 : lk TT tst = some inf) (h1 : inf.size = 1) (hx : lk T tx = some (.p false [.sub r n k j])) (hi : opv T ix = some (.p false [.c (.v (.int kk i))])) (him : i = (q : Int)) (hq : q < c.length) (hy : lk T u = some (.p false [.c (.v val)]))
  (hr : lk R r = some (ty, n', rows)) (hn : Nat.beq n' n = true) (hk : rows[k]? = some row) (hj : row[j]? = some (.s 1 c)) (hrows : rows' = rows.set k (row.set j (.s 1 (c.set q [.v val])))) (f2 : noBs (mentS r) B = true) (f3 : noK r (eraR r R) = true) (hN : okD X d = true) (hne : (Nat.beq d u || (Nat.beq d tx || Nat.beq u tx)) = false)
  (h : EvL P X ops rest Q ⟨(d, .no) :: flT r T, B, (r, ty, n, rows') :: eraR r R, M⟩) :
  EvL P X ops (⟨some d, .indexAddr ts (.tmp tx) ix, ty1, pos1, af1, none⟩ :: ⟨none, .store tst (.tmp d) (.tmp u), ty2, pos2, af2, none⟩ :: rest) Q ⟨T, B, R, M⟩ := by
 intro ρ a w hs
 obtain rfl := Nat.eq_of_beq_eq_true hn
 subst hrows him
 obtain ⟨v, G, ty', xs', hv, hos, hndG, hfin⟩ := sub_own (c' := c.set q [.v val]) hr hk hj f2 f3 hs
 have htx : a.tmps[tx]? = some v := by
  obtain ⟨v1, e1, e2⟩ := hs.T tx _ hx
  have e3 : (ρ.rows r)[k * n' + j]? = some v1 := e2.1.1
  rw [hv] at e3
  cases e3
  exact e1
 have hex : a.eval (.tmp tx) = v := by
  show a.tmps.getD tx undef = v
  rw [Array.getD_eq_getD_getElem?, htx]; rfl
 have heq : a.eval ix = .int kk (q : Int) := rd_v (opv_rep hs hi).1
 obtain ⟨ao, cap, hu, h4, h5, h3⟩ := own_slice hos
 obtain ⟨hun, inf1, hin, hsz⟩ := eSz_ok hT ht
 have hz : ¬ c = [] := by intro e9; subst e9; simp at hq
 obtain ⟨g, rfl, hob⟩ := h3.resolve_left hz
 simp only [Bool.or_eq_false_iff] at hne
 have hdu : d ≠ u := fun e9 => by rw [e9] at hne; simp at hne
 have hdx : d ≠ tx := fun e9 => by rw [e9] at hne; simp at hne
 have hux : u ≠ tx := fun e9 => by rw [e9] at hne; simp at hne
 obtain ⟨w1, ew1, hw1⟩ := hs.T u _ hy
 have hdN : d < a.tmps.size := by
  have h9 : Nat.ble (d + 1) X.N = true := (okD_lt hN).1
  have := Nat.le_of_ble_eq_true h9
  rw [hs.sz.1]; omega
 refine wpList_plain rfl fun K hK => ?_
 unfold Oper.wp
 have hrun : (execOp a.eval ⟨some d, .indexAddr ts (.tmp tx) ix, ty1, pos1, af1, none⟩).run P w = .ok (.value (.pointer (some ⟨g, q * 1, none⟩))) w := by
  simp [execOp, Instr.indexAt, hex, hu, heq, asIntOf, run_underlying hun, hq, hin.size' hsz, addr_add]
 rw [hrun]
 refine hK _ _ ?_
 obtain ⟨a1, ha1⟩ : ∃ a1, a1 = a.put (some d) (.pointer (some ⟨g, q * 1, none⟩)) := ⟨_, rfl⟩
 rw [← ha1]
 have t1 : a1.tmps[d]? = some (.pointer (some ⟨g, q * 1, none⟩)) := by
  rw [ha1]; simp only [Act.put]; rw [Array.getElem?_setIfInBounds_self_of_lt hdN]
 have t2 : a1.tmps[u]? = some w1 := by
  rw [ha1]; simp only [Act.put]; rw [Array.getElem?_setIfInBounds_ne hdu]; exact ew1
 have t3 : a1.tmps[tx]? = some v := by
  rw [ha1]; simp only [Act.put]; rw [Array.getElem?_setIfInBounds_ne hdx]; exact htx
 have hw1v : w1 = val := rd_v hw1.1
 have hs0 : Sim ⟨a1.tmps.size, w, G, fun _ => none, [], a1.defers⟩ ⟨fun _ => none, fun _ => 0, fun _ => v, fun _ => xs', fun _ => G⟩ ⟨[], [], [(0, ty', 1, c)], []⟩ a1 w :=
  ⟨⟨by simp, by simp, fun x hx => by rw [List.mem_singleton.1 hx]; exact hos, by simp, by simpa [feet] using hndG, by simp⟩, fun t av ht => (by cases ht), ⟨rfl, rfl⟩, ⟨rfl, by simp⟩, Chg.refl _ _, fun b hb => .inl (by simpa [feet] using hb)⟩
 have hs1 := ((hs0.know (t := tx) (av := .p false [.rt 0]) t3 ⟨⟨rfl, by rw [hu]; rfl⟩, trivial⟩).know (t := u) (av := .p false [.c (.v val)]) t2 ⟨⟨0, by rw [hw1v], (hw1v ▸ hw1.1.one)⟩, trivial⟩).know (t := d) (av := .p false [.pr 0 1 q 0]) t1 ⟨⟨g, hob, rfl⟩, trivial⟩
 have hcq : c[q]? = some c[q] := List.getElem?_eq_getElem hq
 have hrow1 : c[q].length = 1 := by
  obtain ⟨Fs9, ⟨_, hl9, _⟩, _⟩ := hos
  exact hl9 _ (List.getElem_mem hq)
 have hput : putO 0 [C.v val] c[q] = some [C.v val] := by
  match hh : c[q], hrow1 with
  | [y], _ => rfl
 have hlk : ∀ (p : Nat), p ≠ d → p ≠ u → lk [(d, AV.p false [.pr 0 1 q 0]), (u, .p false [.c (.v val)]), (tx, .p false [.rt 0])] p = lk [(tx, AV.p false [.rt 0])] p := fun p h6 h7 => by
  unfold lk
  rw [if_neg (Ne.symm h6)]
  unfold lk
  rw [if_neg (Ne.symm h7)]
  rfl
 have eeff := e_st_pr (P := P) (X := ⟨a1.tmps.size, w, G, fun _ => none, [], a1.defers⟩) (T := [(d, AV.p false [.pr 0 1 q 0]), (u, .p false [.c (.v val)]), (tx, .p false [.rt 0])]) (B := []) (R := [(0, ty', 1, c)]) (M := []) (t := tst) (x := .tmp d) (y := .tmp u) (rows' := c.set q [.v val]) hT hi2
  (by show (if d = d then _ else _) = _; rw [if_pos rfl]) (by show (if d = u then _ else (if u = u then _ else _)) = _; rw [if_neg hdu, if_pos rfl]) (by rw [h1]; rfl) rfl rfl rfl hcq hput rfl rfl rfl rfl
 obtain ⟨ρ', nx, vv, w', g1, g2, g3, _⟩ := eeff _ a1 w hs1
 have hown := g3.hp.R _ (List.mem_cons_self)
 have hown : OwS w' ty' 1 (c.set q [.v val]) (ρ'.root 0) (ρ'.rows 0) (ρ'.foot 0) := hown
 have hroot : ρ'.root 0 = v := by
  obtain ⟨v2, e1, e2⟩ := g3.T tx (.p false [.rt 0]) (by rw [hlk tx (Ne.symm hdx) (Ne.symm hux)]; unfold lk; rw [if_pos rfl])
  have e3 : v2 = ρ'.root 0 := e2.1.1
  have e4 : a1.tmps[tx]? = some v2 := e1
  rw [t3] at e4
  cases e4
  exact e3.symm
 rw [hroot] at hown
 have hfnd : (ρ'.foot 0).Nodup := by
  have := g3.hp.nd
  simp [feet] at this
  exact (List.nodup_append.1 this).1
 obtain ⟨ρ2, hs2⟩ := hfin w' _ _ _ hown hfnd (fun b hb => g3.ft b (by simp [feet, hb])) g3.fr
 refine wpList_plain rfl fun K2 hK2 => ?_
 unfold Oper.wp
 rw [g1]
 have hfinal : Sim X ρ2 ⟨(d, .no) :: flT r T, B, (r, ty, n', rows.set k (row.set j (.s 1 (c.set q [.v val])))) :: eraR r R, M⟩ a1 w' := by
  rw [ha1]
  exact hs2.put hN trivial
 rcases g2 with rfl | ⟨rfl, rfl⟩
 ·exact hK2 _ _ (h ρ2 _ w' hfinal)
 ·exact hK2 _ _ (h ρ2 _ w' hfinal)
end
def frsC (r : Nat) (y : C) : AC → AC
 | .rt k => match Nat.beq k r with
  | true => .c y
  | false => .rt k
 | x => x
def frsV (r : Nat) (y : C) : AV → AV
 | .p g l => .p g (l.map (frsC r y))
 | .tup _ => .no
 | x => x
def frsT (r : Nat) (y : C) : List (Nat × AV) → List (Nat × AV)
 | [] => []
 | (t, v) :: T => (t, frsV r y v) :: frsT r y T
theorem frsT_lk {r : Nat} {y : C} : ∀ {T : List (Nat × AV)} {t : Nat} {av : AV}, lk (frsT r y T) t = some av → ∃ av0, lk T t = some av0 ∧ av = frsV r y av0
  | [], t, av, h => by cases h
  | (k, v) :: T, t, av, h => by
    unfold frsT lk at h
    unfold lk
    split at h
    · rename_i e; rw [if_pos e]; cases h; exact ⟨v, rfl, rfl⟩
    · rename_i e; rw [if_neg e]; exact frsT_lk h
theorem RepC.mono' {ρ : Rho} {H' : Nat → Option Obj} (hm : ∀ g o, ρ.H g = some o → H' g = some o) {x : AC} {u : Value} (hx : RepC ρ x u) : RepC { ρ with H := H' } x u := by
 cases x with
 | c x => exact RdX.mono hm hx
 | pe l =>
  obtain ⟨g, o, e, hc⟩ := hx
  exact ⟨g, o, e, fun j c hj => let ⟨y, k1, k2⟩ := hc j c hj; ⟨y, rcell_mono hm k1, RdX.mono hm k2⟩⟩
 | _ => exact hx
theorem L2.mono' {ρ : Rho} {H' : Nat → Option Obj} (hm : ∀ g o, ρ.H g = some o → H' g = some o) : ∀ {l : List AC} {us : List Value}, L2 (RepC ρ) l us → L2 (RepC { ρ with H := H' }) l us :=
 fun h => L2.mono (fun _ _ hx => RepC.mono' hm hx) h
section
variable {P : Program} {X : Cx} {Q : Exit → Act → World → Prop}
theorem ev_frs {c : Code} {T : List (Nat × AV)} {B : List (Nat × Nat × List AC)} {R : List (Nat × Nat × Nat × List (List C))} {ty n : Nat} {l : List (List C)} (r : Nat) (hr : lk R r = some (ty, n, l))
  (h : ∀ H', (∀ g o, X.H g = some o → H' g = some o) → Ev P ⟨X.N, X.w0, X.F0, H', X.K, X.D⟩ c Q ⟨frsT r (.s n l) T, B, eraR r R, []⟩) : Ev P X c Q ⟨T, B, R, []⟩ := by
 intro ρ a w hs
 obtain ⟨p, q, e1, e2⟩ := eraR_split hr
 rw [e2] at h
 subst e1
 have ho := hs.hp.R (r, ty, n, l) (by simp)
 simp only at ho
 have hnd := hs.hp.nd
 have hsub : (feet ρ ⟨T, B, p ++ q, []⟩).Sublist (feet ρ ⟨T, B, p ++ (r, ty, n, l) :: q, []⟩) := by
  unfold feet
  refine (List.Sublist.refl _).append (List.Sublist.append ?_ (List.Sublist.refl _))
  simp only [List.flatMap_append, List.flatMap_cons]
  exact (List.Sublist.refl _).append (List.sublist_append_right _ _)
 have hout : ∀ g ∈ feet ρ ⟨T, B, p ++ q, []⟩, g ∉ ρ.foot r := by
  intro g hg hf
  unfold feet at hnd hg
  simp only [List.flatMap_append, List.flatMap_cons, List.map_nil, List.append_nil] at hnd hg
  obtain ⟨_, n2, n3⟩ := List.nodup_append.1 hnd
  obtain ⟨_, n5, n6⟩ := List.nodup_append.1 n2
  obtain ⟨_, _, n9⟩ := List.nodup_append.1 n5
  rcases List.mem_append.1 hg with hg | hg
  ·exact n3 _ hg _ (List.mem_append_right _ (List.mem_append_left _ hf)) rfl
  ·rcases List.mem_append.1 hg with hg | hg
   ·exact n6 _ hg _ (List.mem_append_left _ hf) rfl
   ·exact n9 _ hf _ hg rfl
 have hin : ∀ g ∈ ρ.foot r, ρ.H g = none := fun g hg => hs.hp.dj g (by
  unfold feet
  exact List.mem_append_right _ (List.mem_append_left _ (List.mem_flatMap.2 ⟨(r, ty, n, l), by simp, hg⟩)))
 obtain ⟨H', hH'⟩ : ∃ H' : Nat → Option Obj, H' = fun g => if g ∈ ρ.foot r then w.heap[g]? else ρ.H g := ⟨_, rfl⟩
 have hm : ∀ g o, ρ.H g = some o → H' g = some o := fun g o hg => by
  rw [hH']
  simp only
  rw [if_neg (fun hf => by rw [hin g hf] at hg; cases hg)]
  exact hg
 have hrd : RdX H' (.s n l) (ρ.root r) := ho.c.read fun b hb => by rw [hH']; simp only; rw [if_pos hb]
 have hC : ∀ {x : AC} {u : Value}, RepC ρ x u → RepC { ρ with H := H' } (frsC r (.s n l) x) u := fun {x u} hx => by
  cases x with
  | rt k =>
   show RepC { ρ with H := H' } (match Nat.beq k r with
    | true => AC.c (C.s n l)
    | false => AC.rt k) u
   cases hk : Nat.beq k r with
   | false => exact hx
   | true =>
    obtain rfl := Nat.eq_of_beq_eq_true hk
    have hx : u = ρ.root k ∧ _ := hx
    rw [hx.1]
    exact hrd
  | _ => exact RepC.mono' hm hx
 have hL : ∀ {l2 : List AC} {us : List Value}, L2 (RepC ρ) l2 us → L2 (RepC { ρ with H := H' }) (l2.map (frsC r (.s n l))) us := by
  intro l2
  induction l2 with
  | nil => intro us h; match us, h with | [], _ => trivial
  | cons x l2 ih => intro us h; match us, h with | u :: us, h => exact ⟨hC h.1, ih h.2⟩
 refine h H' (fun g o hg => hm g o (by rw [hs.df.2]; exact hg)) { ρ with H := H' } a w ⟨⟨fun g o hg => ?_, fun x hx => ?_, fun x hx => hs.hp.R x ?_, by simp, hsub.nodup hnd, fun g hg => ?_⟩, fun t av ht => ?_, ⟨hs.df.1, rfl⟩, hs.sz, hs.fr, fun g hg => hs.ft g (hsub.subset hg)⟩
 ·rw [hH'] at hg
  simp only at hg
  split at hg
  ·exact hg
  ·exact hs.hp.H g o hg
 ·obtain ⟨us, k4, k5⟩ := hs.hp.B x hx
  exact ⟨us, k4, L2.mono' hm k5⟩
 ·rcases List.mem_append.1 hx with hx | hx
  ·exact List.mem_append_left _ hx
  ·exact List.mem_append_right _ (List.mem_cons_of_mem _ hx)
 ·have h9 := hs.hp.dj g (hsub.subset hg)
  show H' g = none
  rw [hH']
  simp only
  rw [if_neg (hout g hg)]
  exact h9
 ·obtain ⟨av0, k1, rfl⟩ := frsT_lk ht
  obtain ⟨v, k2, k3⟩ := hs.T t av0 k1
  refine ⟨v, k2, ?_⟩
  cases av0 with
  | p g l2 =>
   unfold frsV
   unfold RepV RepP at k3 ⊢
   cases g
   ·exact hL k3
   ·obtain ⟨us, k4, k5⟩ := k3; exact ⟨us, k4, hL k5⟩
  | tup _ => trivial
  | no => trivial
  | und => exact k3
theorem OwRs.bool {H H0 : Nat → Option Obj} {w : World} {b : Bool} : ∀ {us : List Value} {F : List Nat}, OwPs H w [(false, [.v (.bool b)])] us F → OwPs H0 w [(false, [.v (.bool b)])] us F
 | [u], F, ⟨F1, F2, ⟨vs, m1, m2, m3⟩, m4, m5⟩ => by
  match us2 : vs, m3 with
  | [x], ⟨G1, G2, g1, g2, g3⟩ => exact ⟨F1, F2, ⟨[x], m1, m2, ⟨G1, G2, g1, g2, g3⟩⟩, m4, m5⟩
 | [], _, h => h
theorem ret_lawH {fn : Func} {N g : Nat} {S : St} {TT : List (Nat × TI)} {K : List (Nat × Value)} {w0 : World} {H H0 : Nat → Option Obj} {ps : List (Bool × List AC)} {b : Bool} (hg : w0.heap.size ≤ g) (hT : TTOk P TT) (h1 : retPs TT S fn.results.toList = some ps) (h2 : toRCs S.R ps = some [(false, [.v (.bool b)])]) (he : b = true) :
  EvE ⟨N, w0, [g], H, K, []⟩ .ret (bodyPost P fn (PurePost H0 [(false, [.v (.bool true)])] w0)) S := by
 subst he
 intro ρ a w hs
 obtain ⟨k1, e, k2, us, F, k3, k4, k5⟩ := ret_law (P := P) (fn := fn) (H := H) (N := N) (K := K) hg hT h1 h2 rfl ρ a w hs
 exact ⟨k1, e, k2, us, F, k3, OwRs.bool k4, k5⟩
end
end Go.Proofs.Ytahkjonokeifmaa
namespace Go.Proofs.Ytahkjonokeifmaa
open Go.ChangeShapes Go.WideShapes Go.ChangeAt Go.RowKit Go.Deep
set_option linter.unusedVariables false
def F2 {α β : Type} (R : α → β → Prop) : List α → List β → Prop
 | [], [] => True
 | a :: as, b :: bs => R a b ∧ F2 R as bs
 | _, _ => False
theorem F2.append {α β : Type} {R : α → β → Prop} : ∀ {a c : List α} {b d : List β}, F2 R a b → F2 R c d → F2 R (a ++ c) (b ++ d)
 | [], _, [], _, _, h => h
 | _ :: _, _, _ :: _, _, h, k => ⟨h.1, F2.append h.2 k⟩
 | [], _, _ :: _, _, h, _ => h.elim
 | _ :: _, _, [], _, h, _ => h.elim
theorem F2.length {α β : Type} {R : α → β → Prop} : ∀ {a : List α} {b : List β}, F2 R a b → a.length = b.length
 | [], [], _ => rfl
 | _ :: _, _ :: _, h => by simp [F2.length h.2]
 | [], _ :: _, h => h.elim
 | _ :: _, [], h => h.elim
theorem F2.cons {α β : Type} {R : α → β → Prop} {a : α} {as : List α} {bs : List β} (h : F2 R (a :: as) bs) : ∃ b r, bs = b :: r ∧ R a b ∧ F2 R as r := by
 cases bs with
 | nil => exact h.elim
 | cons b r => exact ⟨b, r, rfl, h.1, h.2⟩
theorem F2.nil {α β : Type} {R : α → β → Prop} {bs : List β} (h : F2 R ([] : List α) bs) : bs = [] := by
 cases bs with
 | nil => rfl
 | cons b r => exact h.elim
section
variable {H : Type} {enc : TypeId × Value → H} {P : Program} {w : World} {base : Nat} {spare : Nat → Bool} {held : Bool}
end
section
variable {H : Type} {enc : TypeId × Value → H} {P : Program} {w : World} {base : Nat} {spare : Nat → Bool} {held : Bool} {α : Type}
def RdL (w : World) (d : Nat) : List C → List Value → Prop
 | [], [] => True
 | c :: cs, u :: us => RdC (fun b => w.heap[b]?) d c u ∧ RdL w d cs us
 | _, _ => False
theorem RdL.len {d : Nat} : ∀ {cs : List C} {us : List Value}, RdL w d cs us → us.length = cs.length
 | [], [], _ => rfl
 | c :: cs, u :: us, h => by simp [RdL.len h.2]
 | [], _ :: _, h => h.elim
 | _ :: _, [], h => h.elim
theorem RdL.get {d : Nat} : ∀ {cs : List C} {us : List Value} {j : Nat} {c : C}, RdL w d cs us → cs[j]? = some c → ∃ u, us[j]? = some u ∧ RdC (fun b => w.heap[b]?) d c u
 | c :: cs, u :: us, 0, _, h, hj => by simp only [List.getElem?_cons_zero, Option.some.injEq] at hj; subst hj; exact ⟨u, rfl, h.1⟩
 | c :: cs, u :: us, j + 1, _, h, hj => by simp only [List.getElem?_cons_succ] at hj ⊢; exact RdL.get h.2 hj
 | [], [], _, _, _, hj => by simp at hj
 | [], _ :: _, _, _, h, _ => h.elim
 | _ :: _, [], _, _, h, _ => h.elim
theorem rcell_of {b o : Nat} {x : Value} (h : w.cell? ⟨b, o, none⟩ = some x) : rcell (fun b => w.heap[b]?) b o = some x := by
 unfold World.cell? at h
 unfold rcell
 simp only at h ⊢
 cases hb : w.heap[b]? with
 | none => rw [hb] at h; cases h
 | some ob =>
  rw [hb] at h
  cases ob <;> first | exact h | cases h
theorem rdv {d : Nat} {x : Value} (h : x.oneCell' = true) : RdC (fun b => w.heap[b]?) d (.v x) x := by cases d <;> exact ⟨rfl, h⟩
end
end Go.Proofs.Ytahkjonokeifmaa
namespace Go.Proofs.Ytahkjonokeifmaa
open Go.ChangeShapes Go.WideShapes Go.ChangeAt Go.RowKit Go.Deep
theorem u8_of_wf {x : Int} (h : (Lit.int .u8 x).wf = true) : 0 ≤ x ∧ x ≤ 255 := by
 simp only [Lit.wf, Bool.and_eq_true, decide_eq_true_eq] at h
 have h1 : IntKind.u8.min = 0 := by decide
 have h2 : IntKind.u8.max = 255 := by decide
 omega
theorem open_bytesX {H : Type} {enc : TypeId × Value → H} {P : Program} {W : World} {t e : TypeId} {ao : Option Addr} {len cap : Nat} {d : DataW H} {p : List MemPlace}
  (ht : P.underlying t = some (.slice e)) (he : P.underlying e = some (.int .u8)) (hC : P.cellsOf e = 1) (h : DataW.Trod enc P W 0 (fun _ => true) true t (.slice ao len cap) d p) :
  ∃ l : List Int, (∀ x ∈ l, 0 ≤ x ∧ x ≤ 255) ∧ RdX (fun b => W.heap[b]?) (bytes l) (.slice ao len cap) := by
 obtain ⟨fuel, hf⟩ := h
 rcases open_ints ht he hC hf with ⟨hcs, _⟩ | ⟨x, l, c, zs, hcs, _, hl, hm, hz, _, hcell, hwz⟩
 ·simp [Value.cells] at hcs
  obtain ⟨rfl, rfl, rfl⟩ := hcs
  exact ⟨[], by simp, 1, none, 0, rfl, Nat.le_refl _, Nat.zero_le _, by simp, .inl rfl⟩
 ·simp [Value.cells] at hcs
  obtain ⟨rfl, rfl, rfl⟩ := hcs
  have hzl : zs.length = cap := by simpa using hz
  have hln : ((zs.take len).map byteC).length = len := by simp; omega
  refine ⟨zs.take len, fun y hy => u8_of_wf (hwz y (List.mem_of_mem_take hy)), 1, some x, cap, by rw [hln], by rw [hln]; omega, by unfold maxLen at *; omega, fun cs hcs => ?_, ?_⟩
  ·obtain ⟨x, _, rfl⟩ := List.mem_map.1 hcs
   rfl
  by_cases h0 : len = 0
  ·subst h0; exact .inl (by simp)
  ·right
   obtain ⟨b, off, spot⟩ := x
   have hc0 := hcell 0 om
   have hspot : spot = none := by simpa [Addr.add] using World.cell?_spot hc0
   subst hspot
   refine ⟨b, off, rfl, fun k cs hk j c hj => ?_⟩
   rw [List.getElem?_map] at hk
   cases hy : (zs.take len)[k]? with
   | none => rw [hy] at hk; cases hk
   | some y =>
    rw [hy] at hk
    simp only [Option.map_some, Option.some.injEq] at hk
    subst hk
    have hi : k < len := by have := (List.getElem?_eq_some_iff.1 hy).1; simp at this; omega
    cases j with
    | succ j => simp at hj
    | zero =>
     simp only [List.getElem?_cons_zero, Option.some.injEq] at hj
     subst hj
     have h1 := hcell k om
     rw [List.getElem?_take_of_lt hi] at hy
     have e1 : (Addr.mk b off none).add k = ⟨b, off + k, none⟩ := Addr.add_lit b off k
     rw [e1] at h1
     refine ⟨.int .u8 y, ?_, rdv (w := W) rfl⟩
     rw [show off + k * 1 + 0 = off + k by omega]
     exact rcell_of (h1.trans (by simp [List.getD, hy]))
end Go.Proofs.Ytahkjonokeifmaa
namespace Go.Proofs.Ytahkjonokeifmaa
open Go.ChangeShapes Go.WideShapes Go.ChangeAt Go.RowKit
theorem Pure.law {P : Program} {f : FuncId} {args : List (Bool × List C)} (h : Pure P f args (bR true)) (w : World) (vs : List Value) (hv : L2 (Pc fun b => w.heap[b]?) args vs) : Calls P f vs.toArray w fun e w' => e = .returned (.bool true) ∧ Below w.heap.size w w' :=
  (h _ w vs (fun _ _ h => h) hv).mono fun e w' ⟨us, F, he, ho, _, _, hb⟩ => by
    match us, ho with
    | [u], ⟨F1, F2, ⟨us', e1, e2, e3⟩, _, _⟩ =>
      have e2' := e2 rfl
      match us', e3, e2' with
      | [x], h3, _ =>
        obtain ⟨G1, G2, ⟨⟨h4, _⟩, _⟩, _, _⟩ := h3
        exact ⟨by rw [he, e1]; exact congrArg Ending.returned h4, hb⟩
theorem RdL.x {w : World} {d : Nat} : ∀ {cs : List C} {us : List Value}, RdL w d cs us → L2 (RdX fun b => w.heap[b]?) cs us
 | [], [], _ => trivial
 | _ :: _, _ :: _, h => ⟨⟨d, h.1⟩, RdL.x h.2⟩
 | [], _ :: _, h => h.elim
 | _ :: _, [], h => h.elim
end Go.Proofs.Ytahkjonokeifmaa
