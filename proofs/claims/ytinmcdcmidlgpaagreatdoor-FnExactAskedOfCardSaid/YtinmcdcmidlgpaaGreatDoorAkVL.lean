/- A law that hands back true: its call, as the statements ask for it. No program in it. -/
import Derived.Test.YtinmcdcmidlgpaaGreatDoorAkVP
import Derived.Test.YtinmcdcmidlgpaaGreatDoorAkVM
import Derived.Deep.QuietTactic
import Derived.BigQuiet
import Derived.Test.YtinmcdcmidlgpaaGreatDoorAkVR
import Derived.Test.YtinmcdcmidlgpaaGreatDoorAkVZ
import Derived.Test.YtinmcdcmidlgpaaGreatDoorAkVB
import Derived.Test.YtinmcdcmidlgpaaGreatDoorAkV3
import Derived.OpenShut
import Derived.Deep.Slices
namespace Go.Proofs.YtinmcdcmidlgpaaGreatDoor
open Go.ChangeShapes Go.WideShapes Go.ChangeAt Go.RowKit
set_option linter.unusedVariables false
structure DS (n : Nat) where
 i : Nat
 h : Int
 ok : i ≤ n ∧ 0 ≤ h ∧ h ≤ 18446744073709551615
@[reducible] def byteC (x : Int) : List C := [.v (.int .u8 x)]
@[reducible] def bytes (l : List Int) : C := .s 1 (l.map byteC)
@[reducible] def diceA {n : Nat} (v0 : Value) (δ : DS n) : List AC := [.c (.v v0), .c (iC δ.i), .c (.v (.int .u64 δ.h))]
def Src (H : Nat → Option Obj) (v0 : Value) (n : Nat) : Prop := ∃ l : List Int, l.length = n ∧ RdX H (bytes l) v0 ∧ (∀ x ∈ l, 0 ≤ x ∧ x ≤ 255) ∧ n ≤ 4096
theorem Src.mono {H G : Nat → Option Obj} {v0 : Value} {n : Nat} (h : Src H v0 n) (hm : ∀ b o, H b = some o → G b = some o) : Src G v0 n := let ⟨l, h1, h2, h3⟩ := h; ⟨l, h1, h2.mono hm, h3⟩
theorem Src.one {H : Nat → Option Obj} {v0 : Value} {n : Nat} (h : Src H v0 n) : v0.oneCell' = true := let ⟨_, _, h2, _⟩ := h; h2.one
section
variable {P : Program} {X : Cx} {S : St} {ρ : Rho} {a : Act} {w : World} {TT : List (Nat × TI)} {TD : Nat}
theorem box_feet {nb : Nat} {x : Nat × List AC} (hB : lk S.B nb = some x) : ρ.box nb ∈ feet ρ S := List.mem_append_left _ (List.mem_map.2 ⟨_, lk_mem hB, rfl⟩)
theorem Sim.turn {w' : World} {nb ty : Nat} {cs : List AC} {us : List Value} {B' : List (Nat × Nat × List AC)} {z : Nat × List AC} (hs : Sim X ρ S a w) (hB : lk S.B nb = some z) (hz : z.1 = ty) (hu : updB nb cs S.B = some B') (hc : Chg w w' [ρ.box nb]) (h1 : w'.heap[ρ.box nb]? = some (.cells us.toArray ty (0, 0))) (h2 : L2 (RepC ρ) cs us) : Sim X ρ ⟨S.T, B', S.R, S.M⟩ a w' := by
 obtain ⟨vs, h3, _⟩ := hs.hp.B _ (lk_mem hB)
 have h3 : w.heap[ρ.box nb]? = _ := h3
 obtain ⟨o, ho⟩ : ∃ o, o = Obj.cells vs.toArray z.1 (0, 0) := ⟨_, rfl⟩
 rw [← ho] at h3
 obtain ⟨w1, hw1⟩ : ∃ w1 : World, w1 = { w' with heap := w'.heap.setIfInBounds (ρ.box nb) o } := ⟨_, rfl⟩
 have hlt' := heap_lt h1
 have e1 : w1.heap[ρ.box nb]? = some o := by rw [hw1]; simp [hlt']
 have e2 : ∀ k, k ≠ ρ.box nb → w'.heap[k]? = w1.heap[k]? := fun k hk => by
  rw [hw1]
  show w'.heap[k]? = (w'.heap.setIfInBounds (ρ.box nb) o)[k]?
  rw [Array.getElem?_setIfInBounds_ne (Ne.symm hk)]
 have hb : Below w.heap.size w w1 := by
  refine ⟨by rw [hw1]; exact hc.os, by rw [hw1]; exact hc.tape, by rw [hw1]; exact hc.output, by rw [hw1]; simpa using hc.size, fun k hk => ?_⟩
  by_cases e : k = ρ.box nb
  ·rw [e, e1, h3]
  ·rw [← e2 k e, hc.block k hk (by simpa using e)]
 have hs1 := hs.next hb
 obtain ⟨p, ty', l, q, hBe, rfl, hlk⟩ := updB_eq hu
 rw [hB] at hlk
 cases hlk
 subst hz
 have hw := hs1.hp.write (T := S.T) hBe h1 h2 e2
 refine ⟨hw, hs.T, hs.df, hs.sz, hs.fr.step hc fun x hx => ?_, ?_⟩
 ·rw [List.mem_singleton.1 hx]
  exact hs.ft _ (box_feet hB)
 ·have hf : feet ρ ⟨S.T, p ++ (nb, ty', cs) :: q, S.R, S.M⟩ = feet ρ S := by unfold feet; rw [hBe]; simp
  rw [hf]; exact hs.ft
variable {Q : Exit → Act → World → Prop} {ops : Array Oper} {rest : List Oper}
end
section
variable {P : Program} {X : Cx} {S S' S1 : St} {ρ : Rho} {a : Act} {w : World} {TT : List (Nat × TI)} {TD : Nat}
theorem Sim.apart {w' : World} {F : List Nat} (h : Sim X ρ S a w) (hc : Chg w w' F) (h1 : ∀ b ∈ feet ρ S, b ∉ F) (h2 : ∀ b ∈ F, ρ.H b = none) (h3 : ∀ b ∈ F, b ∈ X.F0 ∨ X.w0.heap.size ≤ b) : Sim X ρ S a w' := by
 have hk : ∀ b ∈ feet ρ S, w'.heap[b]? = w.heap[b]? := fun b hb => hc.block b (h.hp.lt b hb) (h1 b hb)
 refine ⟨⟨fun b o hb => ?_, fun x hx => ?_, fun x hx => ?_, fun x hx => ?_, h.hp.nd, h.hp.dj⟩, h.T, h.df, h.sz, h.fr.step hc h3, h.ft⟩
 ·have := h.hp.H b o hb
  rw [hc.block b (heap_lt this) fun hm => by rw [h2 b hm] at hb; cases hb]; exact this
 ·obtain ⟨vs, k1, k2⟩ := h.hp.B x hx
  exact ⟨vs, by rw [hk _ (List.mem_append_left _ (List.mem_map.2 ⟨x, hx, rfl⟩))]; exact k1, k2⟩
 ·exact (h.hp.R x hx).keep fun b hb => hk b (List.mem_append_right _ (List.mem_append_left _ (List.mem_flatMap.2 ⟨x, hx, hb⟩)))
 ·obtain ⟨es, c, k1, k2⟩ := h.hp.M x hx
  exact ⟨es, c, by rw [hk _ (List.mem_append_right _ (List.mem_append_right _ (List.mem_map.2 ⟨x, hx, rfl⟩)))]; exact k1, k2⟩
variable {Q : Act → World → Prop} {ops : Array Oper} {ks : List Nat} {T : List (Nat × AV)} {B B0 : List (Nat × Nat × List AC)} {R : RL} {M : List (Nat × (Int → Option Value))} {fuel gg : Nat} {listed : Array Bool} {d : Tmp} {op : Op} {ty : TypeId} {pos : String} {af : Array Edge} {g : Option (Nat × Bool)} {av : AV}
end
section
variable {P : Program} {X : Cx} {S : St} {ρ : Rho} {a : Act} {w : World} {TT : List (Nat × TI)} {T : List (Nat × AV)} {B : List (Nat × Nat × List AC)} {R : RL} {M : List (Nat × (Int → Option Value))}
@[reducible] def uV (x : Int) : AV := .p false [.c (.v (.int .u64 x))]
end
def TakePost (H : Nat → Option Obj) (res : List (Bool × List RC)) (F : List Nat) (w : World) (e : Ending) (w' : World) : Prop :=
 ∃ us F', e = .returned (retV us) ∧ OwPs H w' res us F' ∧ F'.Nodup ∧ (∀ b ∈ F', b ∈ F ∨ w.heap.size ≤ b) ∧ Chg w w' F
def Takes (P : Program) (f : FuncId) (bef : Bool × List RC) (args : List (Bool × List C)) (res : List (Bool × List RC)) : Prop :=
 ∀ (H : Nat → Option Obj) (w : World) (v : Value) (vs : List Value) (F : List Nat), (∀ b o, H b = some o → w.heap[b]? = some o) → (∀ b ∈ F, H b = none) → OwP (fun _ => none) w bef v F → F.Nodup → L2 (Pc H) args vs → Calls P f (v :: vs).toArray w (TakePost H res F w)
section
variable {P : Program} {X : Cx} {S : St} {ρ : Rho} {a : Act} {w : World} {TT : List (Nat × TI)}
theorem takes_intro {f : FuncId} {fn : Func} {c : Code} {g : Bool} {bef : List RC} {args : List (Bool × List C)} {res : List (Bool × List RC)} {T : List (Nat × AV)} {N m : Nat} {l : List AC} {R : RL} (hf : P.funcs[f]? = some fn) (hb : fn.body = some c) (hN : fn.ntmps = N) (hl : Nat.ble (args.length + 1) N = true) (hp : noCl bef = true) (hi : imC [] [] [] 900 bef = some (l, R, m)) (hT : argT 1 args = some T)
  (h : ∀ H w F, Ev P ⟨N, w, F, H, [], []⟩ c (bodyPost P fn (TakePost H res F w)) ⟨(0, .p g l) :: T, [], R, []⟩) : Takes P f (g, bef) args res := by
 intro H w v vs F hH hFH ho hn hv
 obtain ⟨us, e1, e2, e3⟩ := ho
 refine calls_of_wp hf hb ?_
 have hle := Nat.le_of_ble_eq_true hl
 have hvl := hv.len
 obtain ⟨A, hA⟩ : ∃ A : Act, A = ⟨(v :: vs).toArray ++ Array.replicate (fn.ntmps - (v :: vs).toArray.size) undef, []⟩ := ⟨_, rfl⟩
 have hs0 : Sim ⟨N, w, F, H, [], []⟩ ⟨H, fun _ => 0, fun _ => undef, fun _ => [], fun _ => []⟩ ⟨[], [], [], []⟩ A w :=
  ⟨⟨hH, by simp, by simp, by simp, by simp [feet], by simp [feet]⟩, fun t av ht => (by cases ht), ⟨by rw [hA], rfl⟩, ⟨by rw [hA]; simp [hN]; omega, by simp⟩, Chg.refl _ _, by simp [feet]⟩
 obtain ⟨ρ', k1, k2, _⟩ := impC_ok (imC_eq (M := []) hi) hs0 (noCl_ok hp e3) hn (fun b hb => ⟨by simp [feet], hFH b hb, .inl hb⟩)
 have hρ : ρ'.H = H := k1.df.2
 have key : Sim ⟨N, w, F, H, [], []⟩ ρ' ⟨(0, .p g l) :: T, [], R, []⟩ A w := by
  refine ⟨⟨k1.hp.H, k1.hp.B, k1.hp.R, k1.hp.M, k1.hp.nd, k1.hp.dj⟩, fun t av ht => ?_, k1.df, k1.sz, k1.fr, k1.ft⟩
  have ht' : (if 0 = t then some (AV.p g l) else lk T t) = some av := ht
  by_cases e : 0 = t
  ·rw [if_pos e] at ht'
   cases ht'
   subst e
   refine ⟨v, ?_, ?_⟩
   ·rw [hA]
    show ((v :: vs).toArray ++ _)[0]? = some v
    rw [Array.getElem?_append_left (by simp)]
    rfl
   rw [e1]
   exact mkV_rep k2 e2
  ·rw [if_neg e] at ht'
   obtain ⟨h0, u, h1, h2⟩ := argT_rep (ρ := ρ') hT (by rw [hρ]; exact hv) t av ht'
   refine ⟨u, ?_, h2⟩
   have hlt : t - 1 < vs.length := (List.getElem?_eq_some_iff.1 h1).1
   rw [hA]
   show ((v :: vs).toArray ++ _)[t]? = some u
   rw [Array.getElem?_append_left (by simp; omega)]
   simp only [List.getElem?_toArray]
   rw [show t = (t - 1) + 1 by omega, List.getElem?_cons_succ]
   exact h1
 have := h H w F ρ' A w key
 rw [hA] at this
 exact this
theorem ret_take {fn : Func} {N : Nat} {w0 : World} {H : Nat → Option Obj} {F : List Nat} {ps : List (Bool × List AC)} {res res' : List (Bool × List RC)} (hT : TTOk P TT) (h1 : retPs TT S fn.results.toList = some ps) (h2 : toRCs S.R ps = some res') (he : RpLe res' res) :
  EvE ⟨N, w0, F, H, [], []⟩ .ret (bodyPost P fn (TakePost H res F w0)) S := by
 intro ρ a w hs
 obtain ⟨us, h3, h4⟩ := results_ok hT hs h1
 have hnd : (S.R.flatMap fun x => ρ.foot x.1).Nodup := by
  have := hs.hp.nd
  unfold feet at this
  exact (List.nodup_append.1 (List.nodup_append.1 this).2.1).1
 obtain ⟨F', h5, h6, h7⟩ := toRCs_ok hs.hp.R (fun x hx => hx) h2 h3 hnd
 rw [hs.df.2] at h5
 exact ⟨hs.df.1, _, h4, us, F', rfl, he.ow h5, h6, fun b hb => hs.ft b (List.mem_append_right _ (List.mem_append_left _ (h7 b hb))), hs.fr⟩
theorem take_wp {o : Oper} {f : FuncId} {x : Operand} {xs : List Operand} {tys : Array TypeId} {args : List (Bool × List C)} {res : List (Bool × List RC)} {d nm : Nat} {g : Bool} {l : List AC} {rcs : List RC} {av : AV} {T : List (Nat × AV)} {B : List (Nat × Nat × List AC)} {R R1 R' : RL} {M : List (Nat × (Int → Option Value))} {K : Act → World → Prop} {Q : Exit → Act → World → Prop}
  (hF : chkF P f = true) (ho : o.op = .call ⟨.value (.func f), (x :: xs).toArray, tys⟩) (hd : o.dst = some d) (hc : Takes P f (g, rcs) args res) (hx : opv T x = some (.p g l)) (ht : toRCn R l = some (rcs, R1)) (hp : noCl rcs = true) (hr : RsA ⟨T, B, R, M⟩ xs args) (ha : allA T xs = true) (hi : imO T B R1 nm res = some (av, R')) (hN : okD X d = true) (hs : Sim X ρ ⟨T, B, R, M⟩ a w)
  (h : ∀ ρ' v w', Sim X ρ' ⟨(d, av) :: T, B, R', M⟩ (a.put (some d) v) w' → K (a.put (some d) v) w') : Oper.wp P o a w K Q := by
 obtain ⟨od, oop, oty, opos, oaf, og⟩ := o
 simp only at ho hd
 subst ho; subst hd
 have ht := toRCn_eq ht
 unfold Oper.wp
 rw [run_call hF a.eval (x :: xs).toArray tys (some d) oty opos oaf og rfl]
 rw [Oper.upon_enter]
 have e : (x :: xs).toArray.map a.eval = (a.eval x :: xs.map a.eval).toArray := by simp
 rw [e]
 have hnd : (R.flatMap fun x => ρ.foot x.1).Nodup := by
  have := hs.hp.nd
  unfold feet at this
  exact (List.nodup_append.1 (List.nodup_append.1 this).2.1).1
 obtain ⟨us, k1, k2, k3⟩ := rep_cells (opv_rep hs hx)
 obtain ⟨F, j1, j2, j3, j4⟩ := toRC_ok hs.hp.R (fun x hx => hx) ht k1 hnd
 obtain ⟨n1, n2, n3⟩ := List.nodup_append.1 j3
 have hFf : ∀ b ∈ F, b ∈ feet ρ ⟨T, B, R, M⟩ := fun b hb => List.mem_append_right _ (List.mem_append_left _ (j4 b hb))
 refine (hc ρ.H w (a.eval x) (xs.map a.eval) F hs.hp.H (fun b hb => hs.hp.dj b (hFf b hb)) ⟨us, k2, k3, noCl_ok hp j1⟩ n1 (RsA.rdC hs hr ha)).mono fun en w' hpost => ?_
 obtain ⟨us', F', rfl, p3, p4, p5, p6⟩ := hpost
 have hdrop := hs.drop (R' := R1) j2 n2 p6 fun b hb => ⟨j4 b hb, fun hm => n3 b hb b hm rfl⟩
 have hfs : ∀ b ∈ feet ρ ⟨T, B, R1, M⟩, b ∈ feet ρ ⟨T, B, R, M⟩ := fun b hb => by
  unfold feet at hb ⊢
  rcases List.mem_append.1 hb with hb | hb
  ·exact List.mem_append_left _ hb
  ·rcases List.mem_append.1 hb with hb | hb
   ·obtain ⟨x, hx, hb⟩ := List.mem_flatMap.1 hb
    exact List.mem_append_right _ (List.mem_append_left _ (List.mem_flatMap.2 ⟨x, j2 x hx, hb⟩))
   ·exact List.mem_append_right _ (List.mem_append_right _ hb)
 have hnd0 := hs.hp.nd
 unfold feet at hnd0
 obtain ⟨m1, m2, m3⟩ := List.nodup_append.1 hnd0
 obtain ⟨m4, m5, m6⟩ := List.nodup_append.1 m2
 have hFx : ∀ b ∈ F', b ∉ feet ρ ⟨T, B, R1, M⟩ ∧ ρ.H b = none ∧ (b ∈ X.F0 ∨ X.w0.heap.size ≤ b) := fun b hb => by
  rcases p5 b hb with hb2 | hb2
  ·have hbR := j4 b hb2
   have hbf : b ∈ feet ρ ⟨T, B, R, M⟩ := List.mem_append_right _ (List.mem_append_left _ hbR)
   refine ⟨fun hm => ?_, hs.hp.dj b hbf, hs.ft b hbf⟩
   unfold feet at hm
   rcases List.mem_append.1 hm with hm | hm
   ·exact m3 b hm b (List.mem_append_left _ hbR) rfl
   ·rcases List.mem_append.1 hm with hm | hm
    ·exact n3 b hb2 b hm rfl
    ·exact m6 b hbR b hm rfl
  ·refine ⟨fun hm => ?_, ?_, .inr (Nat.le_trans hs.fr.size hb2)⟩
   ·have := hs.hp.lt b (hfs b hm)
    omega
   ·cases ho : ρ.H b with
    | none => rfl
    | some o => have := heap_lt (hs.hp.H b o ho); omega
 obtain ⟨ps, q1, rfl⟩ := impO_eq (imO_eq (M := M) hi)
 obtain ⟨ρ', q2, q3, _⟩ := impPs_ok q1 hdrop p3 p4 hFx
 exact h ρ' _ w' (q2.put hN (resV_rep q3))
variable {Q : Exit → Act → World → Prop} {ops : Array Oper} {rest : List Oper}
theorem evl_takec {T : List (Nat × AV)} {B : List (Nat × Nat × List AC)} {R R1 R' : RL} {M : List (Nat × (Int → Option Value))} {f : FuncId} {x : Operand} {xs : List Operand} {tys : Array TypeId} {args : List (Bool × List C)} {res : List (Bool × List RC)} {d nm ty : Nat} {pos : String} {af : Array Edge} {g : Bool} {l : List AC} {rcs : List RC} {av : AV}
  (hF : chkF P f = true) (hx : opv T x = some (.p g l)) (ht : toRCn R l = some (rcs, R1)) (hc : Takes P f (g, rcs) args res) (hp : noCl rcs = true) (hr : RsA ⟨T, B, R, M⟩ xs args) (ha : allA T xs = true) (hi : imO T B R1 nm res = some (av, R')) (hN : okD X d = true) (h : EvL P X ops rest Q ⟨(d, av) :: T, B, R', M⟩) :
  EvL P X ops (⟨some d, .call ⟨.value (.func f), (x :: xs).toArray, tys⟩, ty, pos, af, none⟩ :: rest) Q ⟨T, B, R, M⟩ :=
 fun ρ a w hs => wpList_plain rfl fun K hK => take_wp hF rfl rfl hc hx ht hp hr ha hi hN hs fun ρ' v w' hs' => hK _ _ (h ρ' _ w' hs')
def mkIfB (P : Program) (t : TypeId) : Bool :=
 match P.underlying t with
 | some (.interface _) => false
 | some _ => true
 | none => false
theorem q_mkif {t : TypeId} {x : Operand} {g : Bool} {l : List AC} (hm : mkIfB P t = true) (hx : opv S.T x = some (.p g l)) : Quiet P X S (.makeInterface t x) (.p false [.no]) := by
 intro ρ a w hs
 unfold mkIfB at hm
 split at hm
 ·cases hm
 ·rename_i u hn hu
  refine ⟨.iface t (a.eval x), ⟨rfl, trivial⟩, fun d ty pos af gg w' _ => ?_⟩
  have h1 := run_underlying hu (w := w')
  cases u <;> first | (simp [execOp, Instr.makeInterface, h1]; done) | exact absurd rfl (hn _)
 ·cases hm
theorem evl_asnil {T : List (Nat × AV)} {B : List (Nat × Nat × List AC)} {R : RL} {M : List (Nat × (Int → Option Value))} {f : FuncId} {x y : Operand} {tys : Array TypeId} {d ty : Nat} {pos : String} {af : Array Edge}
  (hF : chkF P f = true) (hA : ∀ (t : Value) (w : World), Calls P f #[.nilIface, t] w fun e w' => e = .returned (.bool false) ∧ w' = w) (hx : opv T x = some (.p false [.c (.v .nilIface)])) (hN : okD X d = true) (h : EvL P X ops rest Q ⟨(d, .p false [.c (.v (.bool false))]) :: T, B, R, M⟩) :
  EvL P X ops (⟨some d, .call ⟨.value (.func f), #[x, y], tys⟩, ty, pos, af, none⟩ :: rest) Q ⟨T, B, R, M⟩ := by
 intro ρ a w hs
 refine wpList_plain rfl fun K hK => ?_
 unfold Oper.wp
 rw [run_call hF a.eval #[x, y] tys (some d) ty pos af none rfl, Oper.upon_enter]
 have ex : a.eval x = .nilIface := rd_v (opv_rep hs hx).1
 have e : #[x, y].map a.eval = #[.nilIface, a.eval y] := by simp [ex]
 rw [e]
 refine (hA (a.eval y) w).mono fun en w' hp => ?_
 obtain ⟨rfl, rfl⟩ := hp
 exact hK _ _ (h ρ _ _ (hs.put hN ⟨⟨0, rfl, rfl⟩, trivial⟩))
end
def mapV (cs : List Value) : List AC := cs.map fun v => .c (.v v)
def PureEPost (w : World) (m te tb : Nat) (cs : List Value) (e : Ending) (w' : World) : Prop :=
 ∃ (us : List Value) (pb : Nat), e = .returned (retV [.agg us.toArray, .iface te (.pointer (some ⟨pb, 0, none⟩))]) ∧ us.length = m ∧ (∀ u ∈ us, u.oneCell' = true) ∧ w.heap.size ≤ pb ∧ w'.heap[pb]? = some (.cells cs.toArray tb (0, 0)) ∧ Below w.heap.size w w'
def PureE (Γ : World → Prop) (P : Program) (f : FuncId) (args : List (Bool × List C)) (m te tb : Nat) (cs : List Value) : Prop :=
 ∀ (H : Nat → Option Obj) (w : World) (vs : List Value), Γ w → (∀ b o, H b = some o → w.heap[b]? = some o) → L2 (Pc H) args vs → Calls P f vs.toArray w (PureEPost w m te tb cs)
theorem Pc.monoH {H G : Nat → Option Obj} (hm : ∀ b o, H b = some o → G b = some o) {x : Bool × List C} {u : Value} (h : Pc H x u) : Pc G x u := by
 unfold Pc at h ⊢
 split at h
 ·rename_i e
  rw [if_pos e]
  obtain ⟨us, h1, h2⟩ := h
  exact ⟨us, h1, L2.mono (fun _ _ hp => RdX.mono hm hp) h2⟩
 ·rename_i e
  rw [if_neg e]
  exact L2.mono (fun _ _ hp => RdX.mono hm hp) h
theorem pureE_intro {Γ : World → Prop} {P : Program} {f : FuncId} {fn : Func} {c : Code} {args : List (Bool × List C)} {m te tb : Nat} {cs : List Value} {T : List (Nat × AV)} {N : Nat} (hf : P.funcs[f]? = some fn) (hb : fn.body = some c) (hN : fn.ntmps = N) (hl : Nat.ble args.length N = true) (hT : argT 0 args = some T)
  (h : ∀ H w, Γ w → (∀ b, H b = w.heap[b]?) → Ev P ⟨N, w, [], H, [], []⟩ c (bodyPost P fn (PureEPost w m te tb cs)) ⟨T, [], [], []⟩) : PureE Γ P f args m te tb cs := by
 intro H0 w vs hG hH0 hv0
 obtain ⟨H, hHe⟩ : ∃ H : Nat → Option Obj, H = fun b => w.heap[b]? := ⟨_, rfl⟩
 have hH : ∀ b o, H b = some o → w.heap[b]? = some o := fun b o h => by rw [hHe] at h; exact h
 have hv : L2 (Pc H) args vs := L2.mono (fun _ _ hp => Pc.monoH (fun b o h9 => by rw [hHe]; exact hH0 b o h9) hp) hv0
 refine calls_of_wp hf hb ?_
 have hvl := hv.len
 have hle := Nat.le_of_ble_eq_true hl
 refine h H w hG (fun b => by rw [hHe]) ⟨H, fun _ => 0, fun _ => undef, fun _ => [], fun _ => []⟩ _ w ⟨⟨hH, by simp, by simp, by simp, by simp [feet], by simp [feet]⟩, fun t av ht => ?_, ⟨rfl, rfl⟩, ⟨by simp [hN]; omega, by simp⟩, Chg.refl _ _, by simp [feet]⟩
 obtain ⟨_, v, h1, h2⟩ := argT_rep (ρ := ⟨H, fun _ => 0, fun _ => undef, fun _ => [], fun _ => []⟩) hT hv t av ht
 refine ⟨v, ?_, h2⟩
 have hlt : t < vs.length := (List.getElem?_eq_some_iff.1 h1).1
 simp only [Nat.sub_zero] at h1
 show (vs.toArray ++ _)[t]? = some v
 rw [Array.getElem?_append_left (by simpa using hlt)]
 simpa using h1
theorem L2.onesE {ρ : Rho} : ∀ {l : List AC} {us : List Value}, L2 (RepC ρ) l us → ∀ u ∈ us, u.oneCell' = true
 | [], [], _, u, hu => by simp at hu
 | x :: l, y :: us, h, u, hu => by
  rcases List.mem_cons.1 hu with rfl | hu
  ·exact RepC.one h.1
  ·exact L2.onesE h.2 u hu
theorem L2.vals {ρ : Rho} : ∀ {cs us : List Value}, L2 (RepC ρ) (mapV cs) us → us = cs
 | [], [], _ => rfl
 | c :: cs, u :: us, h => by
  have h1 : u = c := rd_v h.1
  rw [h1, L2.vals h.2]
theorem L2.mk {ρ : Rho} : ∀ {cs : List Value}, (∀ v ∈ cs, v.oneCell' = true) → L2 (RepC ρ) (mapV cs) cs
 | [], _ => trivial
 | c :: cs, h => ⟨⟨0, rfl, h c (by simp)⟩, L2.mk fun v hv => h v (by simp [hv])⟩
theorem L2.nos {ρ : Rho} : ∀ {us : List Value}, (∀ u ∈ us, u.oneCell' = true) → L2 (RepC ρ) (List.replicate us.length .no) us
 | [], _ => trivial
 | u :: us, h => ⟨h u (by simp), L2.nos fun v hv => h v (by simp [hv])⟩
section
variable {P : Program} {X : Cx} {S : St} {ρ : Rho} {a : Act} {w : World} {TT : List (Nat × TI)}
theorem ret_pureE {fn : Func} {N : Nat} {w0 : World} {H : Nat → Option Obj} {l : List AC} {m te tb nb : Nat} {cs : List Value} (hT : TTOk P TT) (h1 : retPs TT S fn.results.toList = some [(true, l), (false, [.ib te nb])]) (hl : l.length = m) (hb : lk S.B nb = some (tb, mapV cs)) :
  EvE ⟨N, w0, [], H, [], []⟩ .ret (bodyPost P fn (PureEPost w0 m te tb cs)) S := by
 intro ρ a w hs
 obtain ⟨us, h3, h4⟩ := results_ok hT hs h1
 match us, h3 with
 | [u1, u2], ⟨k1, k2, _⟩ =>
  obtain ⟨vs, e1, k1⟩ : ∃ vs : List Value, u1 = .agg vs.toArray ∧ L2 (RepC ρ) l vs := k1
  have k2 : u2 = .iface te (.pointer (some ⟨ρ.box nb, 0, none⟩)) := k2.1
  subst e1; subst k2
  obtain ⟨ws, h5, h6⟩ := hs.hp.B _ (lk_mem hb)
  obtain rfl := L2.vals h6
  have hm : ρ.box nb ∈ feet ρ S := List.mem_append_left _ (List.mem_map.2 ⟨_, lk_mem hb, rfl⟩)
  refine ⟨hs.df.1, _, h4, vs, ρ.box nb, rfl, by rw [k1.len, hl], k1.onesE, ?_, h5, hs.fr.below⟩
  have := hs.ft _ hm
  simpa using this
variable {Q : Exit → Act → World → Prop} {ops : Array Oper} {rest : List Oper}
theorem evl_callE {Γ : World → Prop} {T : List (Nat × AV)} {B : List (Nat × Nat × List AC)} {R : RL} {f : FuncId} {xs : List Operand} {tys : Array TypeId} {args : List (Bool × List C)} {m te tb d ty : Nat} {cs : List Value} {pos : String} {af : Array Edge}
  (nb : Nat) (hF : chkF P f = true) (hc : PureE Γ P f args m te tb cs) (hΓ : ∀ ρ a w, Sim X ρ ⟨T, B, R, []⟩ a w → Γ w) (hone : ∀ v ∈ cs, v.oneCell' = true) (hr : RsA ⟨T, B, R, []⟩ xs args) (hf : freshB nb ⟨T, B, R, []⟩ = true) (hn : noL (mentB nb) (mapV cs) = true) (hN : okD X d = true)
  (h : EvL P X ops rest Q ⟨(d, .tup [(true, List.replicate m .no), (false, [.ib te nb])]) :: T, (nb, tb, mapV cs) :: B, R, []⟩) :
  EvL P X ops (⟨some d, .call ⟨.value (.func f), xs.toArray, tys⟩, ty, pos, af, none⟩ :: rest) Q ⟨T, B, R, []⟩ := by
 intro ρ a w hs
 refine wpList_plain rfl fun K hK => ?_
 unfold Oper.wp
 rw [run_call hF a.eval xs.toArray tys (some d) ty pos af none rfl, Oper.upon_enter]
 have e : xs.toArray.map a.eval = (xs.map a.eval).toArray := by simp
 rw [e]
 refine (hc (fun b => w.heap[b]?) w _ (hΓ ρ a w hs) (fun _ _ h => h) (RsA.rd hs hr)).mono fun en w' hp => ?_
 obtain ⟨us, pb, rfl, h1, h2, h3, h4, h5⟩ := hp
 subst h1
 have hs1 := hs.next h5
 have hgf : pb ∉ feet ρ ⟨T, B, R, []⟩ := fun hm => by have := hs.hp.lt pb hm; omega
 have hgH : ρ.H pb = none := by
  cases ho : ρ.H pb with
  | none => rfl
  | some o => have := heap_lt (hs.hp.H pb o ho); omega
 have hs2 := hs1.addbox rfl h4 (L2.mk hone) hgf hgH (.inr (Nat.le_trans hs.fr.size h3)) hf hn
 refine hK _ _ (h (ρ.setBox nb pb) _ w' (hs2.put hN ⟨[.agg us.toArray, .iface te (.pointer (some ⟨pb, 0, none⟩))], rfl, ⟨us, rfl, L2.nos h2⟩, ⟨?_, trivial⟩, trivial⟩))
 show _ = Value.iface te (.pointer (some ⟨(ρ.setBox nb pb).box nb, 0, none⟩))
 rw [show (ρ.setBox nb pb).box nb = pb by show (if nb = nb then pb else _) = pb; rw [if_pos rfl]]
theorem q_mkib {t : TypeId} {x : Operand} {b : Nat} (hm : mkIfB P t = true) (hx : opv S.T x = some (.p false [.pb b 0])) : Quiet P X S (.makeInterface t x) (.p false [.ib t b]) := by
 intro ρ a w hs
 have he : a.eval x = .pointer (some ⟨ρ.box b, 0, none⟩) := (opv_rep hs hx).1
 unfold mkIfB at hm
 split at hm
 ·cases hm
 ·rename_i u hn hu
  refine ⟨.iface t (a.eval x), ⟨by show _ = Value.iface t (.pointer (some ⟨ρ.box b, 0, none⟩)); rw [he], trivial⟩, fun d ty pos af gg w' _ => ?_⟩
  have h1 := run_underlying hu (w := w')
  cases u <;> first | (simp [execOp, Instr.makeInterface, h1]; done) | exact absurd rfl (hn _)
 ·cases hm
theorem evl_as {Γ : World → Prop} {T : List (Nat × AV)} {B B' : List (Nat × Nat × List AC)} {R : RL} {M : List (Nat × (Int → Option Value))} {f : FuncId} {x y : Operand} {tys : Array TypeId} {d ty te tt nb bt bty : Nat} {old : AC} {pos : String} {af : Array Edge}
  (hF : chkF P f = true) (hA : ∀ (e t : Addr) (o : Value) (w : World), Γ w → w.cell? t = some o → w.frozen? t = false → Calls P f #[.iface te (.pointer (some e)), .iface tt (.pointer (some t))] w fun ev w' => ev = .returned (.bool true) ∧ ∃ w1, Below w.heap.size w w1 ∧ w' = w1.setCell t (.pointer (some e)))
  (hΓ : ∀ ρ a w, Sim X ρ ⟨T, B, R, M⟩ a w → Γ w) (hx : opv T x = some (.p false [.ib te nb])) (hy : opv T y = some (.p false [.ib tt bt])) (hB : lk B bt = some (bty, [old])) (hu : updB bt [.pb nb 0] B = some B') (hN : okD X d = true) (h : EvL P X ops rest Q ⟨(d, .p false [.c (.v (.bool true))]) :: T, B', R, M⟩) :
  EvL P X ops (⟨some d, .call ⟨.value (.func f), #[x, y], tys⟩, ty, pos, af, none⟩ :: rest) Q ⟨T, B, R, M⟩ := by
 intro ρ a w hs
 refine wpList_plain rfl fun K hK => ?_
 unfold Oper.wp
 rw [run_call hF a.eval #[x, y] tys (some d) ty pos af none rfl, Oper.upon_enter]
 have ex : a.eval x = .iface te (.pointer (some ⟨ρ.box nb, 0, none⟩)) := (opv_rep hs hx).1
 have ey : a.eval y = .iface tt (.pointer (some ⟨ρ.box bt, 0, none⟩)) := (opv_rep hs hy).1
 have e : #[x, y].map a.eval = #[.iface te (.pointer (some ⟨ρ.box nb, 0, none⟩)), .iface tt (.pointer (some ⟨ρ.box bt, 0, none⟩))] := by simp [ex, ey]
 rw [e]
 obtain ⟨vs, h1, h2⟩ := hs.hp.B _ (lk_mem hB)
 have h1 : w.heap[ρ.box bt]? = some (.cells vs.toArray bty (0, 0)) := h1
 obtain ⟨v, rfl, _⟩ := h2.one
 have hc : w.cell? ⟨ρ.box bt, 0, none⟩ = some v := by unfold World.cell?; simp only [h1]; rfl
 have hfr : w.frozen? ⟨ρ.box bt, 0, none⟩ = false := by unfold World.frozen?; simp only [h1]; rfl
 refine (hA _ _ v w (hΓ ρ a w hs) hc hfr).mono fun en w' hp => ?_
 obtain ⟨rfl, w1, hb, rfl⟩ := hp
 have hs1 := hs.next hb
 have hlt := heap_lt h1
 have h3 : w1.heap[ρ.box bt]? = some (.cells #[v] bty (0, 0)) := by rw [hb.block _ hlt, h1]
 have h4 : (w1.setCell ⟨ρ.box bt, 0, none⟩ (.pointer (some ⟨ρ.box nb, 0, none⟩))).heap[ρ.box bt]? = some (.cells #[.pointer (some ⟨ρ.box nb, 0, none⟩)] bty (0, 0)) := by
  unfold World.setCell
  rw [Array.getElem?_modify]
  simp only [if_true, h3, Option.map_some]
  rfl
 have hch : Chg w1 (w1.setCell ⟨ρ.box bt, 0, none⟩ (.pointer (some ⟨ρ.box nb, 0, none⟩))) [ρ.box bt] := by
  refine ⟨rfl, rfl, rfl, by unfold World.setCell; simp, fun k hk hn => ?_⟩
  unfold World.setCell
  rw [Array.getElem?_modify, if_neg (fun h9 => hn (by simp [← h9]))]
 have hs2 := hs1.turn (us := [.pointer (some ⟨ρ.box nb, 0, none⟩)]) hB rfl hu hch h4 ⟨rfl, trivial⟩
 exact hK _ _ (h ρ _ _ (hs2.put hN ⟨⟨0, rfl, rfl⟩, trivial⟩))
theorem evl_is {T : List (Nat × AV)} {B : List (Nat × Nat × List AC)} {R : RL} {M : List (Nat × (Int → Option Value))} {f : FuncId} {x y : Operand} {tys : Array TypeId} {d ty te nb tb j k : Nat} {cs : List Value} {v : Value} {pos : String} {af : Array Edge} {want b : Bool} {t : Tmp}
  (hj : gTmp ops j = some t) (hv : lk T t = some (.p false [.c (.v (.bool b))])) (hb : b = want) (hF : chkF P f = true) (hA : ∀ (pb : Nat) (w : World), w.cell? ⟨pb, k, none⟩ = some v → Calls P f #[.iface te (.pointer (some ⟨pb, 0, none⟩)), v] w fun ev w' => ev = .returned (.bool true) ∧ w' = w)
  (hx : opv T x = some (.p false [.ib te nb])) (hy : opv T y = some (.p false [.c (.v v)])) (hB : lk B nb = some (tb, mapV cs)) (hk : cs[k]? = some v) (hN : okD X d = true) (h : EvL P X ops rest Q ⟨(d, .p false [.c (.v (.bool true))]) :: T, B, R, M⟩) :
  EvL P X ops (⟨some d, .call ⟨.value (.func f), #[x, y], tys⟩, ty, pos, af, some (j, want)⟩ :: rest) Q ⟨T, B, R, M⟩ := by
 intro ρ a w hs
 refine wpList_step fun K hK => ?_
 rw [wanted_of hs rfl hj hv, hb, beq_self_eq_true, if_pos rfl]
 unfold Oper.wp
 rw [run_call hF a.eval #[x, y] tys (some d) ty pos af _ rfl, Oper.upon_enter]
 have ex : a.eval x = .iface te (.pointer (some ⟨ρ.box nb, 0, none⟩)) := (opv_rep hs hx).1
 have ey : a.eval y = v := rd_v (opv_rep hs hy).1
 have e : #[x, y].map a.eval = #[.iface te (.pointer (some ⟨ρ.box nb, 0, none⟩)), v] := by simp [ex, ey]
 rw [e]
 obtain ⟨ws, h1, h2⟩ := hs.hp.B _ (lk_mem hB)
 have h1 : w.heap[ρ.box nb]? = some (.cells ws.toArray tb (0, 0)) := h1
 obtain rfl := L2.vals h2
 have hc : w.cell? ⟨ρ.box nb, k, none⟩ = some v := by unfold World.cell?; simp only [h1]; simpa using hk
 refine (hA (ρ.box nb) w hc).mono fun en w' hp => ?_
 obtain ⟨rfl, rfl⟩ := hp
 exact hK _ _ (h ρ _ _ (hs.put hN ⟨⟨0, rfl, rfl⟩, trivial⟩))
theorem q_gload {i : TI} {t : TypeId} {g : Nat} {v : Value} (hT : TTOk P TT) (hi : lk TT t = some i) (hz : i.size = 1) (hg : i.sh.agg = false) (h0 : X.w0.cell? ⟨g, 0, none⟩ = some v) (hF : ∀ b ∈ X.F0, X.w0.heap.size ≤ b) (hv : v.oneCell' = true) : Quiet P X S (.load t (.global g)) (.p false [.c (.v v)]) := by
 intro ρ a w hs
 refine ⟨v, ⟨⟨0, rfl, hv⟩, trivial⟩, fun d ty' pos af gg w' hw => ?_⟩
 have hlt : g < X.w0.heap.size := by
  unfold World.cell? at h0
  split at h0
  ·rename_i h9; exact heap_lt h9
  ·cases h0
 have hk : w'.heap[g]? = X.w0.heap[g]? := (hw.block g (Nat.lt_of_lt_of_le hlt hs.fr.size)).trans (hs.fr.block g hlt fun hm => by have := hF g hm; omega)
 have hc : w'.cell? ⟨g, 0, none⟩ = some v := by
  unfold World.cell? at h0 ⊢
  simp only at h0 ⊢
  rw [hk]; exact h0
 have := run_load_cells (w := w') (us := [v]) (hT t i hi) (g := g) (o := 0) (fun j u hj => by
  cases j with
  | zero => simp only [List.getElem?_cons_zero, Option.some.injEq] at hj; subst hj; exact hc
  | succ j => simp at hj) (by simp [hz])
 have he : a.eval (.global g) = .pointer (some ⟨g, 0, none⟩) := rfl
 simp [execOp, he, this, hg, mkV]
theorem q_gloadH {i : TI} {t : TypeId} {g : Nat} {v : Value} (hT : TTOk P TT) (hi : lk TT t = some i) (hz : i.size = 1) (hg : i.sh.agg = false) (h0 : rcell X.H g 0 = some v) (hv : v.oneCell' = true) : QuietH P X S (.load t (.global g)) (.p false [.c (.v v)]) := by
 intro ρ a w hs
 refine ⟨v, ⟨⟨0, rfl, hv⟩, trivial⟩, fun d ty' pos af gg w' hw => ?_⟩
 have hc : w'.cell? ⟨g, 0, none⟩ = some v := by
  unfold rcell at h0
  split at h0
  ·rename_i cs _ _ h9
   unfold World.cell?
   simp only [hw g _ h9]
   simpa using h0
  ·cases h0
 have := run_load_cells (w := w') (us := [v]) (hT t i hi) (g := g) (o := 0) (fun j u hj => by
  cases j with
  | zero => simp only [List.getElem?_cons_zero, Option.some.injEq] at hj; subst hj; exact hc
  | succ j => simp at hj) (by simp [hz])
 have he : a.eval (.global g) = .pointer (some ⟨g, 0, none⟩) := rfl
 simp [execOp, he, this, hg, mkV]
theorem rcell_heap9 {H : Nat → Option Obj} {w : World} {g : Nat} {v : Value} (h : w.cell? ⟨g, 0, none⟩ = some v) (hH : ∀ b, H b = w.heap[b]?) : rcell H g 0 = some v := by
 unfold World.cell? at h
 unfold rcell
 simp only at h
 rw [hH]
 split at h
 ·rename_i cs _ _ h9; simp only [h9]; simpa using h
 ·cases h
theorem cell_keep {b : Nat} {v : Value} (hs : Sim X ρ S a w) (hF : ∀ b ∈ X.F0, X.w0.heap.size ≤ b) (h0 : X.w0.cell? ⟨b, 0, none⟩ = some v) : w.cell? ⟨b, 0, none⟩ = some v := by
 have hlt : b < X.w0.heap.size := by
  unfold World.cell? at h0
  split at h0
  ·rename_i h9; exact heap_lt h9
  ·cases h0
 unfold World.cell? at h0 ⊢
 simp only at h0 ⊢
 rw [hs.fr.block b hlt fun hm => by have := hF b hm; omega]
 exact h0
end
def PureW (Γ : World → Prop) (P : Program) (f : FuncId) (args : List (Bool × List C)) (res : List (Bool × List RC)) : Prop :=
 ∀ (H : Nat → Option Obj) (w : World) (vs : List Value), Γ w → (∀ b o, H b = some o → w.heap[b]? = some o) → L2 (Pc H) args vs → Calls P f vs.toArray w (PurePost H res w)
theorem Pure.w {Γ : World → Prop} {P : Program} {f : FuncId} {args : List (Bool × List C)} {res : List (Bool × List RC)} (h : Pure P f args res) : PureW Γ P f args res := fun H w vs _ hH hv => h H w vs hH hv
theorem pureW_intro {Γ : World → Prop} {P : Program} {f : FuncId} {fn : Func} {c : Code} {args : List (Bool × List C)} {res : List (Bool × List RC)} {T : List (Nat × AV)} {N : Nat} (hf : P.funcs[f]? = some fn) (hb : fn.body = some c) (hN : fn.ntmps = N) (hl : Nat.ble args.length N = true) (hT : argT 0 args = some T)
  (h : ∀ H w, Γ w → Ev P ⟨N, w, [], H, [], []⟩ c (bodyPost P fn (PurePost H res w)) ⟨T, [], [], []⟩) : PureW Γ P f args res := by
 intro H w vs hG hH hv
 refine calls_of_wp hf hb ?_
 have hvl := hv.len
 have hle := Nat.le_of_ble_eq_true hl
 refine h H w hG ⟨H, fun _ => 0, fun _ => undef, fun _ => [], fun _ => []⟩ _ w ⟨⟨hH, by simp, by simp, by simp, by simp [feet], by simp [feet]⟩, fun t av ht => ?_, ⟨rfl, rfl⟩, ⟨by simp [hN]; omega, by simp⟩, Chg.refl _ _, by simp [feet]⟩
 obtain ⟨_, v, h1, h2⟩ := argT_rep (ρ := ⟨H, fun _ => 0, fun _ => undef, fun _ => [], fun _ => []⟩) hT hv t av ht
 refine ⟨v, ?_, h2⟩
 have hlt : t < vs.length := (List.getElem?_eq_some_iff.1 h1).1
 simp only [Nat.sub_zero] at h1
 show (vs.toArray ++ _)[t]? = some v
 rw [Array.getElem?_append_left (by simpa using hlt)]
 simpa using h1
section
variable {P : Program} {X : Cx} {Q : Exit → Act → World → Prop} {ops : Array Oper} {rest : List Oper}
end
section
variable {P : Program} {X : Cx} {Q : Exit → Act → World → Prop}
theorem callW_wp {Γ : World → Prop} {S : St} {ρ : Rho} {a : Act} {w : World} {o : Oper} {f : FuncId} {xs : List Operand} {tys : Array TypeId} {args : List (Bool × List C)} {res : List (Bool × List RC)} {nm d : Nat} {av : AV} {S' : St} {K : Act → World → Prop}
  (hF : chkF P f = true) (ho : o.op = .call ⟨.value (.func f), xs.toArray, tys⟩) (hd : o.dst = some d) (hΓ : Γ w) (hc : PureW Γ P f args res) (hr : RsA S xs args) (hm : noCr res = true) (hi : impO S nm res = some (av, S')) (hN : okD X d = true) (hs : Sim X ρ S a w)
  (h : ∀ ρ' v w', Below w.heap.size w w' → Sim X ρ' ⟨(d, av) :: S'.T, S'.B, S'.R, S'.M⟩ (a.put (some d) v) w' → K (a.put (some d) v) w') : Oper.wp P o a w K Q := by
 obtain ⟨od, op, oty, opos, oaf, og⟩ := o
 simp only at ho hd
 subst ho; subst hd
 unfold Oper.wp
 rw [run_call hF a.eval xs.toArray tys (some d) oty opos oaf og rfl, Oper.upon_enter]
 have e : xs.toArray.map a.eval = (xs.map a.eval).toArray := by simp
 rw [e]
 refine (hc (fun b => w.heap[b]?) w _ hΓ (fun _ _ h => h) (RsA.rd hs hr)).mono fun en w' hpost => ?_
 obtain ⟨us, F, rfl, h1, h2, h3, h4⟩ := hpost
 have h1 := noCr_ok (H' := ρ.H) hm h1
 obtain ⟨ps, hp, rfl⟩ := impO_eq hi
 have hs' := hs.next h4
 obtain ⟨ρ', k1, k2, _⟩ := impPs_ok hp hs' h1 h2 (fun b hb => by
  have hge := h3 b hb
  refine ⟨fun hm => by have := hs.hp.lt b hm; omega, ?_, .inr (Nat.le_trans hs.fr.size hge)⟩
  cases ho : ρ.H b with
  | none => rfl
  | some o => have := heap_lt (hs.hp.H b o ho); omega)
 exact h ρ' _ w' h4 (k1.put hN (resV_rep k2))
theorem rdo_callW {Γ : World → Prop} {Q : Act → World → Prop} {ops : Array Oper} {ks : List Nat} {T : List (Nat × AV)} {B : List (Nat × Nat × List AC)} {R : List (Nat × Nat × Nat × List (List C))} {M : List (Nat × (Int → Option Value))} {fuel : Nat} {listed : Array Bool} {d : Tmp} {ty : TypeId} {pos : String} {af : Array Edge} {g : Option (Nat × Bool)} {av : AV}
  {i : Nat} {f : FuncId} {xs : List Operand} {tys : Array TypeId} {args : List (Bool × List C)} {res : List (Bool × List RC)} {nm : Nat} {R' : List (Nat × Nat × Nat × List (List C))} (hi : ops[i]? = some ⟨some d, .call ⟨.value (.func f), xs.toArray, tys⟩, ty, pos, af, g⟩) (hg : GOk ops T g)
  (hF : chkF P f = true) (hΓ : ∀ ρ a w, Sim X ρ ⟨T, B, R, M⟩ a w → Γ w) (hc : PureW Γ P f args res) (hr : RsA ⟨T, B, R, M⟩ xs args) (hm : noCr res = true) (him : imO T B R nm res = some (av, R')) (hN : okD X d = true) (h : RDk P X ops ks fuel (listed.setIfInBounds i true) ⟨(d, av) :: T, B, R', M⟩ Q) : RDo P X ops ks fuel listed i ⟨T, B, R, M⟩ Q := by
 intro ρ a w hs
 refine wpOp_step hi fun K' hK => ?_
 rw [if_pos (GOk.wanted (o := ⟨some d, .call ⟨.value (.func f), xs.toArray, tys⟩, ty, pos, af, g⟩) hs hg)]
 refine callW_wp hF rfl rfl (hΓ ρ a w hs) hc hr hm (imO_eq him) hN hs fun ρ' v w' hb hs' => hK _ _ ⟨fun _ => hb, ?_⟩
 exact wpAnyK_mono (fun W hW => hb.trans (hW.mono hb.size)) _ _ _ _ (h ρ' _ w' hs')
end
def ddT : List Nat → List (Nat × AV) → Option (List (Nat × AV))
 | _, [] => some []
 | G, (t, v) :: r => match G.elem t with
  | true => ddT G r
  | false => match ddT (t :: G) r with
   | some r' => some ((t, v) :: r')
   | none => none
theorem ddT_lk : ∀ {T T' : List (Nat × AV)} {G : List Nat}, ddT G T = some T' → ∀ t av, lk T' t = some av → G.elem t = false ∧ lk T t = some av
  | [], T', G, h, t, av, ht => by cases h; cases ht
  | (k, v) :: r, T', G, h, t, av, ht => by
    unfold ddT at h
    show G.elem t = false ∧ (if k = t then some v else lk r t) = some av
    split at h
    · rename_i hk
      obtain ⟨h1, h2⟩ := ddT_lk h t av ht
      refine ⟨h1, ?_⟩
      rw [if_neg (fun e => by rw [e, h1] at hk; cases hk)]
      exact h2
    · rename_i hk
      split at h
      · rename_i r' hr
        cases h
        have ht' : (if k = t then some v else lk r' t) = some av := ht
        by_cases e : k = t
        · rw [if_pos e] at ht' ⊢
          exact ⟨by rw [← e]; exact hk, ht'⟩
        · rw [if_neg e] at ht' ⊢
          obtain ⟨h1, h2⟩ := ddT_lk hr t av ht'
          refine ⟨?_, h2⟩
          cases h9 : G.elem t with
          | false => rfl
          | true =>
            have : (k :: G).elem t = true := by
              show (match t == k with
                | true => true
                | false => G.elem t) = true
              rw [h9]
              cases (t == k) <;> rfl
            rw [h1] at this; cases this
      · cases h
theorem ev_dd {P : Program} {X : Cx} {Q : Exit → Act → World → Prop} {T T' : List (Nat × AV)} {B : List (Nat × Nat × List AC)} {R : List (Nat × Nat × Nat × List (List C))} {M : List (Nat × (Int → Option Value))} {c : Code} (hd : ddT [] T = some T') (h : Ev P X c Q ⟨T', B, R, M⟩) : Ev P X c Q ⟨T, B, R, M⟩ :=
 fun ρ a w hs => h ρ a w (hs.weakT fun t av ht => .inl (ddT_lk hd t av ht).2)
end Go.Proofs.YtinmcdcmidlgpaaGreatDoor
namespace Go.Proofs.YtinmcdcmidlgpaaGreatDoor
open Go.ChangeShapes Go.WideShapes Go.ChangeAt Go.RowKit Go.Deep
set_option linter.unusedVariables false
def F2 {α β : Type} (R : α → β → Prop) : List α → List β → Prop
 | [], [] => True
 | a :: as, b :: bs => R a b ∧ F2 R as bs
 | _, _ => False
theorem F2.append {α β : Type} {R : α → β → Prop} : ∀ {a c : List α} {b d : List β}, F2 R a b → F2 R c d → F2 R (a ++ c) (b ++ d)
 | [], _, [], _, _, h => h
 | _ :: _, _, _ :: _, _, h, k => ⟨h.1, F2.append h.2 k⟩
 | [], _, _ :: _, _, h, _ => h.elim
 | _ :: _, _, [], _, h, _ => h.elim
theorem F2.length {α β : Type} {R : α → β → Prop} : ∀ {a : List α} {b : List β}, F2 R a b → a.length = b.length
 | [], [], _ => rfl
 | _ :: _, _ :: _, h => by simp [F2.length h.2]
 | [], _ :: _, h => h.elim
 | _ :: _, [], h => h.elim
theorem F2.cons {α β : Type} {R : α → β → Prop} {a : α} {as : List α} {bs : List β} (h : F2 R (a :: as) bs) : ∃ b r, bs = b :: r ∧ R a b ∧ F2 R as r := by
 cases bs with
 | nil => exact h.elim
 | cons b r => exact ⟨b, r, rfl, h.1, h.2⟩
theorem F2.nil {α β : Type} {R : α → β → Prop} {bs : List β} (h : F2 R ([] : List α) bs) : bs = [] := by
 cases bs with
 | nil => rfl
 | cons b r => exact h.elim
inductive Cl where
 | int
 | bool
 | slice (e : TypeId)
def flatFields (P : Program) (g : TypeId → Option (List Cl)) : List Field → Nat → Option (List Cl)
 | [], _ => some []
 | f :: r, off =>
  match g f.type with
  | some a => if f.offset = off ∧ P.cellsOf f.type = a.length then (flatFields P g r (off + a.length)).map (a ++ ·) else none
  | none => none
def flat (P : Program) : Nat → TypeId → Option (List Cl)
 | 0, _ => none
 | n + 1, t =>
  match P.underlying t with
  | some (.int .i64) => some [.int]
  | some .bool => some [.bool]
  | some (.slice e) => some [.slice e]
  | some (.struct fs) =>
   match flatFields P (flat P n) fs.toList 0 with
   | some l => if P.cellsOf t = l.length then some l else none
   | none => none
  | _ => none
section
variable {H : Type} {enc : TypeId × Value → H} {P : Program} {w : World} {base : Nat} {spare : Nat → Bool} {held : Bool}
def ClOk (enc : TypeId × Value → H) (P : Program) (w : World) (base : Nat) (spare : Nat → Bool) (held : Bool) : Cl → Value → Prop
 | .int, v => ∃ x, v = .int .i64 x
 | .bool, v => ∃ b, v = .bool b
 | .slice e, v => v = .slice none 0 0 ∨
  ∃ (a : Addr) (len cap n : Nat), v = .slice (some a) len cap ∧ len ≤ cap ∧ cap ≤ maxLen ∧
   ∀ i, i < len → ∃ cs' y, w.cells? base (a.add (i * P.cellsOf e)) (P.cellsOf e) = some cs' ∧ DataW.trod enc P w base spare held n e cs' = some y
theorem flatFields_open (g : TypeId → Option (List Cl)) {n : Nat}
  (hg : ∀ t cs x l, g t = some l → DataW.trod enc P w base spare held n t cs = some x → F2 (ClOk enc P w base spare held) l cs) (cs : List Value) :
  ∀ (fs : List Field) (off : Nat) (l : List Cl), flatFields P g fs off = some l → (∀ f ∈ fs, ∃ y, DataW.trod enc P w base spare held n f.type ((cs.drop f.offset).take (P.cellsOf f.type)) = some y) →
   F2 (ClOk enc P w base spare held) l ((cs.drop off).take l.length)
 | [], off, l, h, _ => by
  simp [flatFields] at h
  subst h
  simp [F2]
 | f :: r, off, l, h, hf => by
  unfold flatFields at h
  split at h
  ·rename_i a ha
   split at h
   ·rename_i hc
    obtain ⟨hoff, hsz⟩ := hc
    cases hr : flatFields P g r (off + a.length) with
    | none => rw [hr] at h; simp at h
    | some b =>
     rw [hr] at h
     simp only [Option.map_some, Option.some.injEq] at h
     subst h
     obtain ⟨y, hy⟩ := hf f (by simp)
     have h1 := hg _ _ _ _ ha hy
     have h2 := flatFields_open g hg cs r _ b hr (fun f' hf' => hf f' (by simp [hf']))
     rw [hoff, hsz] at h1
     have e : (cs.drop off).take (a ++ b).length = (cs.drop off).take a.length ++ (cs.drop (off + a.length)).take b.length := by
      rw [List.length_append, List.take_add, List.drop_drop]
     rw [e]
     exact h1.append h2
   ·simp at h
  ·simp at h
theorem flat_open : ∀ (n : Nat) (t : TypeId) (cs : List Value) (x : DataW H × List MemPlace) (l : List Cl) (fuel : Nat), flat P n t = some l → DataW.trod enc P w base spare held fuel t cs = some x →
  F2 (ClOk enc P w base spare held) l cs
 | 0, _, _, _, _, _, h, _ => by simp [flat] at h
 | n + 1, t, cs, x, l, fuel, h, ht => by
  unfold flat at h
  split at h
  ·rename_i hu
   obtain ⟨m, rfl, _, hw⟩ := DataW.trod_int hu ht
   simp at h; subst h
   exact ⟨⟨m, rfl⟩, trivial⟩
  ·rename_i hu
   obtain ⟨b, rfl, _⟩ := DataW.trod_bool hu ht
   simp at h; subst h
   exact ⟨⟨b, rfl⟩, trivial⟩
  ·rename_i e hu
   simp at h; subst h
   rcases open_slice hu ht with ⟨rfl, _⟩ | ⟨a, len, cap, m, k, D, Pl, rfl, hb, hl, hm, hmm, _, hi⟩
   ·exact ⟨.inl rfl, trivial⟩
   ·refine ⟨.inr ⟨a, len, cap, k, rfl, hl, hm, fun i hlt => ?_⟩, trivial⟩
    obtain ⟨cs', h1, h2⟩ := hi i (by rw [hmm]; split <;> omega)
    exact ⟨cs', _, h1, h2⟩
  ·rename_i fs hu
   obtain ⟨xs, k, rfl, _, hl, hxl, hf⟩ := DataW.trod_struct hu ht
   split at h
   ·rename_i l' hfl
    split at h
    ·rename_i hc
     simp at h; subst h
     have := flatFields_open (enc := enc) (w := w) (base := base) (spare := spare) (held := held) (flat P n) (n := k) (fun t cs x l h1 h2 => flat_open n t cs x l k h1 h2) cs fs.toList 0 l' hfl (fun f hmem => by
      obtain ⟨i, hi⟩ := List.getElem?_of_mem hmem
      have h3 := hf i f (by simpa using hi)
      have hlt : i < xs.length := by rw [hxl]; have := (List.getElem?_eq_some_iff.1 hi).1; simpa using this
      rw [List.getElem?_eq_getElem hlt] at h3
      exact ⟨_, h3⟩)
     simpa [← hc, ← hl] using this
    ·simp at h
   ·simp at h
  ·simp at h
end
section
variable {H : Type} {enc : TypeId × Value → H} {P : Program} {w : World} {base : Nat} {spare : Nat → Bool} {held : Bool} {α : Type}
def RdL (w : World) (d : Nat) : List C → List Value → Prop
 | [], [] => True
 | c :: cs, u :: us => RdC (fun b => w.heap[b]?) d c u ∧ RdL w d cs us
 | _, _ => False
theorem RdL.len {d : Nat} : ∀ {cs : List C} {us : List Value}, RdL w d cs us → us.length = cs.length
 | [], [], _ => rfl
 | c :: cs, u :: us, h => by simp [RdL.len h.2]
 | [], _ :: _, h => h.elim
 | _ :: _, [], h => h.elim
theorem RdL.get {d : Nat} : ∀ {cs : List C} {us : List Value} {j : Nat} {c : C}, RdL w d cs us → cs[j]? = some c → ∃ u, us[j]? = some u ∧ RdC (fun b => w.heap[b]?) d c u
 | c :: cs, u :: us, 0, _, h, hj => by simp only [List.getElem?_cons_zero, Option.some.injEq] at hj; subst hj; exact ⟨u, rfl, h.1⟩
 | c :: cs, u :: us, j + 1, _, h, hj => by simp only [List.getElem?_cons_succ] at hj ⊢; exact RdL.get h.2 hj
 | [], [], _, _, _, hj => by simp at hj
 | [], _ :: _, _, _, h, _ => h.elim
 | _ :: _, [], _, _, h, _ => h.elim
theorem rcell_of {b o : Nat} {x : Value} (h : w.cell? ⟨b, o, none⟩ = some x) : rcell (fun b => w.heap[b]?) b o = some x := by
 unfold World.cell? at h
 unfold rcell
 simp only at h ⊢
 cases hb : w.heap[b]? with
 | none => rw [hb] at h; cases h
 | some ob =>
  rw [hb] at h
  cases ob <;> first | exact h | cases h
theorem rdv {d : Nat} {x : Value} (h : x.oneCell' = true) : RdC (fun b => w.heap[b]?) d (.v x) x := by cases d <;> exact ⟨rfl, h⟩
def Opn (enc : TypeId × Value → H) (P : Program) (w : World) (base : Nat) (spare : Nat → Bool) (held : Bool) (d : Nat) (f : α → List C) (t : TypeId) : Prop :=
 ∀ n cs y, DataW.trod enc P w base spare held n t cs = some y → ∃ x, RdL w d (f x) cs
theorem opn_list {d n : Nat} {f : α → List C} {e : TypeId} {v : Value} (hC : P.cellsOf e = n) (hn : 0 < n) (hl : ∀ x, (f x).length = n) (hO : Opn enc P w base spare held d f e) (h : ClOk enc P w base spare held (.slice e) v) :
  ∃ l : List α, RdC (fun b => w.heap[b]?) (d + 1) (.s n (l.map f)) v := by
 rcases h with rfl | ⟨a, len, cap, k, rfl, h1, h2, hi⟩
 ·exact ⟨[], none, 0, rfl, Nat.le_refl _, Nat.zero_le _, by simp, .inl rfl⟩
 ·have hch : ∃ l : List α, l.length = len ∧ ∀ i x, l[i]? = some x → ∃ vs, RdL w d (f x) vs ∧ w.cells? base (a.add (i * n)) n = some vs := by
   clear h1
   induction len with
   | zero => exact ⟨[], rfl, by simp⟩
   | succ k ih =>
    obtain ⟨l, h3, h4⟩ := ih (fun i h => hi i om)
    obtain ⟨cs', y, h5, h6⟩ := hi k om
    obtain ⟨x, h7⟩ := hO _ _ _ h6
    rw [hC] at h5
    refine ⟨l ++ [x], by simp [h3], fun i q e1 => ?_⟩
    by_cases hik : i < k
    ·rw [List.getElem?_append_left om] at e1
     exact h4 i q e1
    ·have hik2 : i = k := by have := (List.getElem?_eq_some_iff.1 e1).1; simp at this; omega
     subst hik2
     rw [List.getElem?_append_right om, h3, Nat.sub_self] at e1
     simp only [List.getElem?_cons_zero, Option.some.injEq] at e1
     subst e1
     exact ⟨cs', h7, h5⟩
  obtain ⟨l, rfl, h3⟩ := hch
  refine ⟨l, some a, cap, by rw [List.length_map], by rw [List.length_map]; exact h1, h2, fun cs hcs => ?_, ?_⟩
  ·obtain ⟨x, _, rfl⟩ := List.mem_map.1 hcs
   exact hl x
  ·by_cases h0 : l = []
   ·subst h0; exact .inl rfl
   ·have hpos : 0 < l.length := List.length_pos_iff.2 h0
    obtain ⟨b, off, spot⟩ := a
    have key : ∀ i x, l[i]? = some x → ∃ vs, RdL w d (f x) vs ∧ ∀ j c, vs[j]? = some c → w.cell? ((Addr.mk b off spot).add (i * n) |>.add j) = some c := fun i x e1 => by
     obtain ⟨vs, k1, k2⟩ := h3 i x e1
     refine ⟨vs, k1, fun j c hj => ?_⟩
     obtain ⟨_, _, k3⟩ := World.cells?_some k2
     have hjn : j < n := by have := (List.getElem?_eq_some_iff.1 hj).1; rwa [k1.len, hl] at this
     rw [k3 j hjn, hj]
    obtain ⟨vs0, k1, k2⟩ := key 0 _ (List.getElem?_eq_getElem hpos)
    have hk0 := k2 0 _ (List.getElem?_eq_getElem (by rw [k1.len, hl]; exact hn))
    have hspot : spot = none := by simpa [Addr.add] using World.cell?_spot hk0
    subst hspot
    refine .inr ⟨b, off, rfl, fun i cs e1 j c hj => ?_⟩
    rw [List.getElem?_map] at e1
    cases hx : l[i]? with
    | none => rw [hx] at e1; cases e1
    | some x =>
     rw [hx] at e1
     simp only [Option.map_some, Option.some.injEq] at e1
     subst e1
     obtain ⟨vs, k3, k4⟩ := key i x hx
     obtain ⟨u, k5, k6⟩ := k3.get hj
     have k7 := k4 j u k5
     rw [Addr.add_lit, Addr.add_lit] at k7
     exact ⟨u, rcell_of k7, k6⟩
theorem opn_int {d : Nat} {v : Value} (h : ClOk enc P w base spare held .int v) : ∃ x : Int, RdC (fun b => w.heap[b]?) d (.v (.int .i64 x)) v := by
 obtain ⟨x, rfl⟩ := h
 exact ⟨x, rdv rfl⟩
theorem opn_bool {d : Nat} {v : Value} (h : ClOk enc P w base spare held .bool v) : ∃ x : Bool, RdC (fun b => w.heap[b]?) d (.v (.bool x)) v := by
 obtain ⟨x, rfl⟩ := h
 exact ⟨x, rdv rfl⟩
end
end Go.Proofs.YtinmcdcmidlgpaaGreatDoor
namespace Go.Proofs.YtinmcdcmidlgpaaGreatDoor
open Go.ChangeShapes Go.WideShapes Go.ChangeAt Go.RowKit
theorem Pure.law {P : Program} {f : FuncId} {args : List (Bool × List C)} (h : Pure P f args (bR true)) (w : World) (vs : List Value) (hv : L2 (Pc fun b => w.heap[b]?) args vs) : Calls P f vs.toArray w fun e w' => e = .returned (.bool true) ∧ Below w.heap.size w w' :=
  (h _ w vs (fun _ _ h => h) hv).mono fun e w' ⟨us, F, he, ho, _, _, hb⟩ => by
    match us, ho with
    | [u], ⟨F1, F2, ⟨us', e1, e2, e3⟩, _, _⟩ =>
      have e2' := e2 rfl
      match us', e3, e2' with
      | [x], h3, _ =>
        obtain ⟨G1, G2, ⟨⟨h4, _⟩, _⟩, _, _⟩ := h3
        exact ⟨by rw [he, e1]; exact congrArg Ending.returned h4, hb⟩
theorem RdL.x {w : World} {d : Nat} : ∀ {cs : List C} {us : List Value}, RdL w d cs us → L2 (RdX fun b => w.heap[b]?) cs us
 | [], [], _ => trivial
 | _ :: _, _ :: _, h => ⟨⟨d, h.1⟩, RdL.x h.2⟩
 | [], _ :: _, h => h.elim
 | _ :: _, [], h => h.elim
theorem rdx {H : Nat → Option Obj} {d : Nat} {c : C} {u : Value} (h : RdC H d c u) : RdX H c u := ⟨d, h⟩
end Go.Proofs.YtinmcdcmidlgpaaGreatDoor
