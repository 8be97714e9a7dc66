/- An argument of the kind []byte: opened. No program in it. -/
import Derived.Test.YtinmcdcmidlgpaaGreatDoorFuVR
import Derived.Test.YtinmcdcmidlgpaaGreatDoorFuVDC
import Derived.Test.YtinmcdcmidlgpaaGreatDoorFuVZ
import Derived.Test.YtinmcdcmidlgpaaGreatDoorFuV3
import Derived.OpenShut
import Derived.Deep.Slices
import Derived.Test.YtinmcdcmidlgpaaGreatDoorFuVB
import Derived.ChangeSlices
namespace Go.Proofs.YtinmcdcmidlgpaaGreatDoor
open Go.ChangeShapes Go.WideShapes Go.ChangeAt Go.RowKit
set_option linter.unusedVariables false
def mapV (cs : List Value) : List AC := cs.map fun v => .c (.v v)
def PureEPost (w : World) (m te tb : Nat) (cs : List Value) (e : Ending) (w' : World) : Prop :=
 ∃ (us : List Value) (pb : Nat), e = .returned (retV [.agg us.toArray, .iface te (.pointer (some ⟨pb, 0, none⟩))]) ∧ us.length = m ∧ (∀ u ∈ us, u.oneCell' = true) ∧ w.heap.size ≤ pb ∧ w'.heap[pb]? = some (.cells cs.toArray tb (0, 0)) ∧ Below w.heap.size w w'
def PureE (Γ : World → Prop) (P : Program) (f : FuncId) (args : List (Bool × List C)) (m te tb : Nat) (cs : List Value) : Prop :=
 ∀ (H : Nat → Option Obj) (w : World) (vs : List Value), Γ w → (∀ b o, H b = some o → w.heap[b]? = some o) → L2 (Pc H) args vs → Calls P f vs.toArray w (PureEPost w m te tb cs)
theorem Pc.monoH {H G : Nat → Option Obj} (hm : ∀ b o, H b = some o → G b = some o) {x : Bool × List C} {u : Value} (h : Pc H x u) : Pc G x u := by
 unfold Pc at h ⊢
 split at h
 ·rename_i e
  rw [if_pos e]
  obtain ⟨us, h1, h2⟩ := h
  exact ⟨us, h1, L2.mono (fun _ _ hp => RdX.mono hm hp) h2⟩
 ·rename_i e
  rw [if_neg e]
  exact L2.mono (fun _ _ hp => RdX.mono hm hp) h
theorem pureE_intro {Γ : World → Prop} {P : Program} {f : FuncId} {fn : Func} {c : Code} {args : List (Bool × List C)} {m te tb : Nat} {cs : List Value} {T : List (Nat × AV)} {N : Nat} (hf : P.funcs[f]? = some fn) (hb : fn.body = some c) (hN : fn.ntmps = N) (hl : Nat.ble args.length N = true) (hT : argT 0 args = some T)
  (h : ∀ H w, Γ w → (∀ b, H b = w.heap[b]?) → Ev P ⟨N, w, [], H, [], []⟩ c (bodyPost P fn (PureEPost w m te tb cs)) ⟨T, [], [], []⟩) : PureE Γ P f args m te tb cs := by
 intro H0 w vs hG hH0 hv0
 obtain ⟨H, hHe⟩ : ∃ H : Nat → Option Obj, H = fun b => w.heap[b]? := ⟨_, rfl⟩
 have hH : ∀ b o, H b = some o → w.heap[b]? = some o := fun b o h => by rw [hHe] at h; exact h
 have hv : L2 (Pc H) args vs := L2.mono (fun _ _ hp => Pc.monoH (fun b o h9 => by rw [hHe]; exact hH0 b o h9) hp) hv0
 refine calls_of_wp hf hb ?_
 have hvl := hv.len
 have hle := Nat.le_of_ble_eq_true hl
 refine h H w hG (fun b => by rw [hHe]) ⟨H, fun _ => 0, fun _ => undef, fun _ => [], fun _ => []⟩ _ w ⟨⟨hH, by simp, by simp, by simp, by simp [feet], by simp [feet]⟩, fun t av ht => ?_, ⟨rfl, rfl⟩, ⟨by simp [hN]; omega, by simp⟩, Chg.refl _ _, by simp [feet]⟩
 obtain ⟨_, v, h1, h2⟩ := argT_rep (ρ := ⟨H, fun _ => 0, fun _ => undef, fun _ => [], fun _ => []⟩) hT hv t av ht
 refine ⟨v, ?_, h2⟩
 have hlt : t < vs.length := (List.getElem?_eq_some_iff.1 h1).1
 simp only [Nat.sub_zero] at h1
 show (vs.toArray ++ _)[t]? = some v
 rw [Array.getElem?_append_left (by simpa using hlt)]
 simpa using h1
theorem L2.onesE {ρ : Rho} : ∀ {l : List AC} {us : List Value}, L2 (RepC ρ) l us → ∀ u ∈ us, u.oneCell' = true
 | [], [], _, u, hu => by simp at hu
 | x :: l, y :: us, h, u, hu => by
  rcases List.mem_cons.1 hu with rfl | hu
  ·exact RepC.one h.1
  ·exact L2.onesE h.2 u hu
theorem L2.vals {ρ : Rho} : ∀ {cs us : List Value}, L2 (RepC ρ) (mapV cs) us → us = cs
 | [], [], _ => rfl
 | c :: cs, u :: us, h => by
  have h1 : u = c := rd_v h.1
  rw [h1, L2.vals h.2]
theorem L2.mk {ρ : Rho} : ∀ {cs : List Value}, (∀ v ∈ cs, v.oneCell' = true) → L2 (RepC ρ) (mapV cs) cs
 | [], _ => trivial
 | c :: cs, h => ⟨⟨0, rfl, h c (by simp)⟩, L2.mk fun v hv => h v (by simp [hv])⟩
theorem L2.nos {ρ : Rho} : ∀ {us : List Value}, (∀ u ∈ us, u.oneCell' = true) → L2 (RepC ρ) (List.replicate us.length .no) us
 | [], _ => trivial
 | u :: us, h => ⟨h u (by simp), L2.nos fun v hv => h v (by simp [hv])⟩
section
variable {P : Program} {X : Cx} {S : St} {ρ : Rho} {a : Act} {w : World} {TT : List (Nat × TI)}
theorem ret_pureE {fn : Func} {N : Nat} {w0 : World} {H : Nat → Option Obj} {l : List AC} {m te tb nb : Nat} {cs : List Value} (hT : TTOk P TT) (h1 : retPs TT S fn.results.toList = some [(true, l), (false, [.ib te nb])]) (hl : l.length = m) (hb : lk S.B nb = some (tb, mapV cs)) :
  EvE ⟨N, w0, [], H, [], []⟩ .ret (bodyPost P fn (PureEPost w0 m te tb cs)) S := by
 intro ρ a w hs
 obtain ⟨us, h3, h4⟩ := results_ok hT hs h1
 match us, h3 with
 | [u1, u2], ⟨k1, k2, _⟩ =>
  obtain ⟨vs, e1, k1⟩ : ∃ vs : List Value, u1 = .agg vs.toArray ∧ L2 (RepC ρ) l vs := k1
  have k2 : u2 = .iface te (.pointer (some ⟨ρ.box nb, 0, none⟩)) := k2.1
  subst e1; subst k2
  obtain ⟨ws, h5, h6⟩ := hs.hp.B _ (lk_mem hb)
  obtain rfl := L2.vals h6
  have hm : ρ.box nb ∈ feet ρ S := List.mem_append_left _ (List.mem_map.2 ⟨_, lk_mem hb, rfl⟩)
  refine ⟨hs.df.1, _, h4, vs, ρ.box nb, rfl, by rw [k1.len, hl], k1.onesE, ?_, h5, hs.fr.below⟩
  have := hs.ft _ hm
  simpa using this
variable {Q : Exit → Act → World → Prop} {ops : Array Oper} {rest : List Oper}
theorem evl_callE {Γ : World → Prop} {T : List (Nat × AV)} {B : List (Nat × Nat × List AC)} {R : RL} {f : FuncId} {xs : List Operand} {tys : Array TypeId} {args : List (Bool × List C)} {m te tb d ty : Nat} {cs : List Value} {pos : String} {af : Array Edge}
  (nb : Nat) (hF : chkF P f = true) (hc : PureE Γ P f args m te tb cs) (hΓ : ∀ ρ a w, Sim X ρ ⟨T, B, R, []⟩ a w → Γ w) (hone : ∀ v ∈ cs, v.oneCell' = true) (hr : RsA ⟨T, B, R, []⟩ xs args) (hf : freshB nb ⟨T, B, R, []⟩ = true) (hn : noL (mentB nb) (mapV cs) = true) (hN : okD X d = true)
  (h : EvL P X ops rest Q ⟨(d, .tup [(true, List.replicate m .no), (false, [.ib te nb])]) :: T, (nb, tb, mapV cs) :: B, R, []⟩) :
  EvL P X ops (⟨some d, .call ⟨.value (.func f), xs.toArray, tys⟩, ty, pos, af, none⟩ :: rest) Q ⟨T, B, R, []⟩ := by
 intro ρ a w hs
 refine wpList_plain rfl fun K hK => ?_
 unfold Oper.wp
 rw [run_call hF a.eval xs.toArray tys (some d) ty pos af none rfl, Oper.upon_enter]
 have e : xs.toArray.map a.eval = (xs.map a.eval).toArray := by simp
 rw [e]
 refine (hc (fun b => w.heap[b]?) w _ (hΓ ρ a w hs) (fun _ _ h => h) (RsA.rd hs hr)).mono fun en w' hp => ?_
 obtain ⟨us, pb, rfl, h1, h2, h3, h4, h5⟩ := hp
 subst h1
 have hs1 := hs.next h5
 have hgf : pb ∉ feet ρ ⟨T, B, R, []⟩ := fun hm => by have := hs.hp.lt pb hm; omega
 have hgH : ρ.H pb = none := by
  cases ho : ρ.H pb with
  | none => rfl
  | some o => have := heap_lt (hs.hp.H pb o ho); omega
 have hs2 := hs1.addbox rfl h4 (L2.mk hone) hgf hgH (.inr (Nat.le_trans hs.fr.size h3)) hf hn
 refine hK _ _ (h (ρ.setBox nb pb) _ w' (hs2.put hN ⟨[.agg us.toArray, .iface te (.pointer (some ⟨pb, 0, none⟩))], rfl, ⟨us, rfl, L2.nos h2⟩, ⟨?_, trivial⟩, trivial⟩))
 show _ = Value.iface te (.pointer (some ⟨(ρ.setBox nb pb).box nb, 0, none⟩))
 rw [show (ρ.setBox nb pb).box nb = pb by show (if nb = nb then pb else _) = pb; rw [if_pos rfl]]
theorem q_mkib {t : TypeId} {x : Operand} {b : Nat} (hm : mkIfB P t = true) (hx : opv S.T x = some (.p false [.pb b 0])) : Quiet P X S (.makeInterface t x) (.p false [.ib t b]) := by
 intro ρ a w hs
 have he : a.eval x = .pointer (some ⟨ρ.box b, 0, none⟩) := (opv_rep hs hx).1
 unfold mkIfB at hm
 split at hm
 ·cases hm
 ·rename_i u hn hu
  refine ⟨.iface t (a.eval x), ⟨by show _ = Value.iface t (.pointer (some ⟨ρ.box b, 0, none⟩)); rw [he], trivial⟩, fun d ty pos af gg w' _ => ?_⟩
  have h1 := run_underlying hu (w := w')
  cases u <;> first | (simp [execOp, Instr.makeInterface, h1]; done) | exact absurd rfl (hn _)
 ·cases hm
theorem evl_as {Γ : World → Prop} {T : List (Nat × AV)} {B B' : List (Nat × Nat × List AC)} {R : RL} {M : List (Nat × (Int → Option Value))} {f : FuncId} {x y : Operand} {tys : Array TypeId} {d ty te tt nb bt bty : Nat} {old : AC} {pos : String} {af : Array Edge}
  (hF : chkF P f = true) (hA : ∀ (e t : Addr) (o : Value) (w : World), Γ w → w.cell? t = some o → w.frozen? t = false → Calls P f #[.iface te (.pointer (some e)), .iface tt (.pointer (some t))] w fun ev w' => ev = .returned (.bool true) ∧ ∃ w1, Below w.heap.size w w1 ∧ w' = w1.setCell t (.pointer (some e)))
  (hΓ : ∀ ρ a w, Sim X ρ ⟨T, B, R, M⟩ a w → Γ w) (hx : opv T x = some (.p false [.ib te nb])) (hy : opv T y = some (.p false [.ib tt bt])) (hB : lk B bt = some (bty, [old])) (hu : updB bt [.pb nb 0] B = some B') (hN : okD X d = true) (h : EvL P X ops rest Q ⟨(d, .p false [.c (.v (.bool true))]) :: T, B', R, M⟩) :
  EvL P X ops (⟨some d, .call ⟨.value (.func f), #[x, y], tys⟩, ty, pos, af, none⟩ :: rest) Q ⟨T, B, R, M⟩ := by
 intro ρ a w hs
 refine wpList_plain rfl fun K hK => ?_
 unfold Oper.wp
 rw [run_call hF a.eval #[x, y] tys (some d) ty pos af none rfl, Oper.upon_enter]
 have ex : a.eval x = .iface te (.pointer (some ⟨ρ.box nb, 0, none⟩)) := (opv_rep hs hx).1
 have ey : a.eval y = .iface tt (.pointer (some ⟨ρ.box bt, 0, none⟩)) := (opv_rep hs hy).1
 have e : #[x, y].map a.eval = #[.iface te (.pointer (some ⟨ρ.box nb, 0, none⟩)), .iface tt (.pointer (some ⟨ρ.box bt, 0, none⟩))] := by simp [ex, ey]
 rw [e]
 obtain ⟨vs, h1, h2⟩ := hs.hp.B _ (lk_mem hB)
 have h1 : w.heap[ρ.box bt]? = some (.cells vs.toArray bty (0, 0)) := h1
 obtain ⟨v, rfl, _⟩ := h2.one
 have hc : w.cell? ⟨ρ.box bt, 0, none⟩ = some v := by unfold World.cell?; simp only [h1]; rfl
 have hfr : w.frozen? ⟨ρ.box bt, 0, none⟩ = false := by unfold World.frozen?; simp only [h1]; rfl
 refine (hA _ _ v w (hΓ ρ a w hs) hc hfr).mono fun en w' hp => ?_
 obtain ⟨rfl, w1, hb, rfl⟩ := hp
 have hs1 := hs.next hb
 have hlt := heap_lt h1
 have h3 : w1.heap[ρ.box bt]? = some (.cells #[v] bty (0, 0)) := by rw [hb.block _ hlt, h1]
 have h4 : (w1.setCell ⟨ρ.box bt, 0, none⟩ (.pointer (some ⟨ρ.box nb, 0, none⟩))).heap[ρ.box bt]? = some (.cells #[.pointer (some ⟨ρ.box nb, 0, none⟩)] bty (0, 0)) := by
  unfold World.setCell
  rw [Array.getElem?_modify]
  simp only [if_true, h3, Option.map_some]
  rfl
 have hch : Chg w1 (w1.setCell ⟨ρ.box bt, 0, none⟩ (.pointer (some ⟨ρ.box nb, 0, none⟩))) [ρ.box bt] := by
  refine ⟨rfl, rfl, rfl, by unfold World.setCell; simp, fun k hk hn => ?_⟩
  unfold World.setCell
  rw [Array.getElem?_modify, if_neg (fun h9 => hn (by simp [← h9]))]
 have hs2 := hs1.turn (us := [.pointer (some ⟨ρ.box nb, 0, none⟩)]) hB rfl hu hch h4 ⟨rfl, trivial⟩
 exact hK _ _ (h ρ _ _ (hs2.put hN ⟨⟨0, rfl, rfl⟩, trivial⟩))
theorem evl_is {T : List (Nat × AV)} {B : List (Nat × Nat × List AC)} {R : RL} {M : List (Nat × (Int → Option Value))} {f : FuncId} {x y : Operand} {tys : Array TypeId} {d ty te nb tb j k : Nat} {cs : List Value} {v : Value} {pos : String} {af : Array Edge} {want b : Bool} {t : Tmp}
  (hj : gTmp ops j = some t) (hv : lk T t = some (.p false [.c (.v (.bool b))])) (hb : b = want) (hF : chkF P f = true) (hA : ∀ (pb : Nat) (w : World), w.cell? ⟨pb, k, none⟩ = some v → Calls P f #[.iface te (.pointer (some ⟨pb, 0, none⟩)), v] w fun ev w' => ev = .returned (.bool true) ∧ w' = w)
  (hx : opv T x = some (.p false [.ib te nb])) (hy : opv T y = some (.p false [.c (.v v)])) (hB : lk B nb = some (tb, mapV cs)) (hk : cs[k]? = some v) (hN : okD X d = true) (h : EvL P X ops rest Q ⟨(d, .p false [.c (.v (.bool true))]) :: T, B, R, M⟩) :
  EvL P X ops (⟨some d, .call ⟨.value (.func f), #[x, y], tys⟩, ty, pos, af, some (j, want)⟩ :: rest) Q ⟨T, B, R, M⟩ := by
 intro ρ a w hs
 refine wpList_step fun K hK => ?_
 rw [wanted_of hs rfl hj hv, hb, beq_self_eq_true, if_pos rfl]
 unfold Oper.wp
 rw [run_call hF a.eval #[x, y] tys (some d) ty pos af _ rfl, Oper.upon_enter]
 have ex : a.eval x = .iface te (.pointer (some ⟨ρ.box nb, 0, none⟩)) := (opv_rep hs hx).1
 have ey : a.eval y = v := rd_v (opv_rep hs hy).1
 have e : #[x, y].map a.eval = #[.iface te (.pointer (some ⟨ρ.box nb, 0, none⟩)), v] := by simp [ex, ey]
 rw [e]
 obtain ⟨ws, h1, h2⟩ := hs.hp.B _ (lk_mem hB)
 have h1 : w.heap[ρ.box nb]? = some (.cells ws.toArray tb (0, 0)) := h1
 obtain rfl := L2.vals h2
 have hc : w.cell? ⟨ρ.box nb, k, none⟩ = some v := by unfold World.cell?; simp only [h1]; simpa using hk
 refine (hA (ρ.box nb) w hc).mono fun en w' hp => ?_
 obtain ⟨rfl, rfl⟩ := hp
 exact hK _ _ (h ρ _ _ (hs.put hN ⟨⟨0, rfl, rfl⟩, trivial⟩))
theorem q_gload {i : TI} {t : TypeId} {g : Nat} {v : Value} (hT : TTOk P TT) (hi : lk TT t = some i) (hz : i.size = 1) (hg : i.sh.agg = false) (h0 : X.w0.cell? ⟨g, 0, none⟩ = some v) (hF : ∀ b ∈ X.F0, X.w0.heap.size ≤ b) (hv : v.oneCell' = true) : Quiet P X S (.load t (.global g)) (.p false [.c (.v v)]) := by
 intro ρ a w hs
 refine ⟨v, ⟨⟨0, rfl, hv⟩, trivial⟩, fun d ty' pos af gg w' hw => ?_⟩
 have hlt : g < X.w0.heap.size := by
  unfold World.cell? at h0
  split at h0
  ·rename_i h9; exact heap_lt h9
  ·cases h0
 have hk : w'.heap[g]? = X.w0.heap[g]? := (hw.block g (Nat.lt_of_lt_of_le hlt hs.fr.size)).trans (hs.fr.block g hlt fun hm => by have := hF g hm; omega)
 have hc : w'.cell? ⟨g, 0, none⟩ = some v := by
  unfold World.cell? at h0 ⊢
  simp only at h0 ⊢
  rw [hk]; exact h0
 have := run_load_cells (w := w') (us := [v]) (hT t i hi) (g := g) (o := 0) (fun j u hj => by
  cases j with
  | zero => simp only [List.getElem?_cons_zero, Option.some.injEq] at hj; subst hj; exact hc
  | succ j => simp at hj) (by simp [hz])
 have he : a.eval (.global g) = .pointer (some ⟨g, 0, none⟩) := rfl
 simp [execOp, he, this, hg, mkV]
theorem q_gloadH {i : TI} {t : TypeId} {g : Nat} {v : Value} (hT : TTOk P TT) (hi : lk TT t = some i) (hz : i.size = 1) (hg : i.sh.agg = false) (h0 : rcell X.H g 0 = some v) (hv : v.oneCell' = true) : QuietH P X S (.load t (.global g)) (.p false [.c (.v v)]) := by
 intro ρ a w hs
 refine ⟨v, ⟨⟨0, rfl, hv⟩, trivial⟩, fun d ty' pos af gg w' hw => ?_⟩
 have hc : w'.cell? ⟨g, 0, none⟩ = some v := by
  unfold rcell at h0
  split at h0
  ·rename_i cs _ _ h9
   unfold World.cell?
   simp only [hw g _ h9]
   simpa using h0
  ·cases h0
 have := run_load_cells (w := w') (us := [v]) (hT t i hi) (g := g) (o := 0) (fun j u hj => by
  cases j with
  | zero => simp only [List.getElem?_cons_zero, Option.some.injEq] at hj; subst hj; exact hc
  | succ j => simp at hj) (by simp [hz])
 have he : a.eval (.global g) = .pointer (some ⟨g, 0, none⟩) := rfl
 simp [execOp, he, this, hg, mkV]
theorem rcell_heap9 {H : Nat → Option Obj} {w : World} {g : Nat} {v : Value} (h : w.cell? ⟨g, 0, none⟩ = some v) (hH : ∀ b, H b = w.heap[b]?) : rcell H g 0 = some v := by
 unfold World.cell? at h
 unfold rcell
 simp only at h
 rw [hH]
 split at h
 ·rename_i cs _ _ h9; simp only [h9]; simpa using h
 ·cases h
theorem cell_keep {b : Nat} {v : Value} (hs : Sim X ρ S a w) (hF : ∀ b ∈ X.F0, X.w0.heap.size ≤ b) (h0 : X.w0.cell? ⟨b, 0, none⟩ = some v) : w.cell? ⟨b, 0, none⟩ = some v := by
 have hlt : b < X.w0.heap.size := by
  unfold World.cell? at h0
  split at h0
  ·rename_i h9; exact heap_lt h9
  ·cases h0
 unfold World.cell? at h0 ⊢
 simp only at h0 ⊢
 rw [hs.fr.block b hlt fun hm => by have := hF b hm; omega]
 exact h0
end
def PureW (Γ : World → Prop) (P : Program) (f : FuncId) (args : List (Bool × List C)) (res : List (Bool × List RC)) : Prop :=
 ∀ (H : Nat → Option Obj) (w : World) (vs : List Value), Γ w → (∀ b o, H b = some o → w.heap[b]? = some o) → L2 (Pc H) args vs → Calls P f vs.toArray w (PurePost H res w)
theorem Pure.w {Γ : World → Prop} {P : Program} {f : FuncId} {args : List (Bool × List C)} {res : List (Bool × List RC)} (h : Pure P f args res) : PureW Γ P f args res := fun H w vs _ hH hv => h H w vs hH hv
theorem pureW_intro {Γ : World → Prop} {P : Program} {f : FuncId} {fn : Func} {c : Code} {args : List (Bool × List C)} {res : List (Bool × List RC)} {T : List (Nat × AV)} {N : Nat} (hf : P.funcs[f]? = some fn) (hb : fn.body = some c) (hN : fn.ntmps = N) (hl : Nat.ble args.length N = true) (hT : argT 0 args = some T)
  (h : ∀ H w, Γ w → Ev P ⟨N, w, [], H, [], []⟩ c (bodyPost P fn (PurePost H res w)) ⟨T, [], [], []⟩) : PureW Γ P f args res := by
 intro H w vs hG hH hv
 refine calls_of_wp hf hb ?_
 have hvl := hv.len
 have hle := Nat.le_of_ble_eq_true hl
 refine h H w hG ⟨H, fun _ => 0, fun _ => undef, fun _ => [], fun _ => []⟩ _ w ⟨⟨hH, by simp, by simp, by simp, by simp [feet], by simp [feet]⟩, fun t av ht => ?_, ⟨rfl, rfl⟩, ⟨by simp [hN]; omega, by simp⟩, Chg.refl _ _, by simp [feet]⟩
 obtain ⟨_, v, h1, h2⟩ := argT_rep (ρ := ⟨H, fun _ => 0, fun _ => undef, fun _ => [], fun _ => []⟩) hT hv t av ht
 refine ⟨v, ?_, h2⟩
 have hlt : t < vs.length := (List.getElem?_eq_some_iff.1 h1).1
 simp only [Nat.sub_zero] at h1
 show (vs.toArray ++ _)[t]? = some v
 rw [Array.getElem?_append_left (by simpa using hlt)]
 simpa using h1
section
variable {P : Program} {X : Cx} {Q : Exit → Act → World → Prop} {ops : Array Oper} {rest : List Oper}
theorem evl_callW {Γ : World → Prop} {T : List (Nat × AV)} {B : List (Nat × Nat × List AC)} {R : List (Nat × Nat × Nat × List (List C))} {M : List (Nat × (Int → Option Value))} {f : FuncId} {xs : List Operand} {tys : Array TypeId} {args : List (Bool × List C)} {res : List (Bool × List RC)} {nm d ty : Nat} {pos : String} {af : Array Edge} {av : AV} {R' : List (Nat × Nat × Nat × List (List C))}
  (hF : chkF P f = true) (hΓ : ∀ ρ a w, Sim X ρ ⟨T, B, R, M⟩ a w → Γ w) (hc : PureW Γ P f args res) (hr : RsA ⟨T, B, R, M⟩ xs args) (hm : noCr res = true) (hi : imO T B R nm res = some (av, R')) (hN : okD X d = true) (h : EvL P X ops rest Q ⟨(d, av) :: T, B, R', M⟩) :
  EvL P X ops (⟨some d, .call ⟨.value (.func f), xs.toArray, tys⟩, ty, pos, af, none⟩ :: rest) Q ⟨T, B, R, M⟩ := by
 intro ρ a w hs
 refine wpList_plain rfl fun K hK => ?_
 unfold Oper.wp
 rw [run_call hF a.eval xs.toArray tys (some d) ty pos af none rfl, Oper.upon_enter]
 have e : xs.toArray.map a.eval = (xs.map a.eval).toArray := by simp
 rw [e]
 refine (hc (fun b => w.heap[b]?) w _ (hΓ ρ a w hs) (fun _ _ h => h) (RsA.rd hs hr)).mono fun en w' hpost => ?_
 obtain ⟨us, F, rfl, h1, h2, h3, h4⟩ := hpost
 have h1 := noCr_ok (H' := ρ.H) hm h1
 obtain ⟨ps, hp, rfl⟩ := impO_eq (imO_eq hi)
 have hs' := hs.next h4
 obtain ⟨ρ', k1, k2, _⟩ := impPs_ok hp hs' h1 h2 (fun b hb => by
  have hge := h3 b hb
  refine ⟨fun hm => by have := hs.hp.lt b hm; omega, ?_, .inr (Nat.le_trans hs.fr.size hge)⟩
  cases ho : ρ.H b with
  | none => rfl
  | some o => have := heap_lt (hs.hp.H b o ho); omega)
 exact hK _ _ (h ρ' _ w' (k1.put hN (resV_rep k2)))
end
end Go.Proofs.YtinmcdcmidlgpaaGreatDoor
namespace Go.Proofs.YtinmcdcmidlgpaaGreatDoor
open Go.ChangeShapes Go.WideShapes Go.ChangeAt Go.RowKit Go.Deep
set_option linter.unusedVariables false
def F2 {α β : Type} (R : α → β → Prop) : List α → List β → Prop
 | [], [] => True
 | a :: as, b :: bs => R a b ∧ F2 R as bs
 | _, _ => False
theorem F2.append {α β : Type} {R : α → β → Prop} : ∀ {a c : List α} {b d : List β}, F2 R a b → F2 R c d → F2 R (a ++ c) (b ++ d)
 | [], _, [], _, _, h => h
 | _ :: _, _, _ :: _, _, h, k => ⟨h.1, F2.append h.2 k⟩
 | [], _, _ :: _, _, h, _ => h.elim
 | _ :: _, _, [], _, h, _ => h.elim
theorem F2.length {α β : Type} {R : α → β → Prop} : ∀ {a : List α} {b : List β}, F2 R a b → a.length = b.length
 | [], [], _ => rfl
 | _ :: _, _ :: _, h => by simp [F2.length h.2]
 | [], _ :: _, h => h.elim
 | _ :: _, [], h => h.elim
theorem F2.cons {α β : Type} {R : α → β → Prop} {a : α} {as : List α} {bs : List β} (h : F2 R (a :: as) bs) : ∃ b r, bs = b :: r ∧ R a b ∧ F2 R as r := by
 cases bs with
 | nil => exact h.elim
 | cons b r => exact ⟨b, r, rfl, h.1, h.2⟩
theorem F2.nil {α β : Type} {R : α → β → Prop} {bs : List β} (h : F2 R ([] : List α) bs) : bs = [] := by
 cases bs with
 | nil => rfl
 | cons b r => exact h.elim
section
variable {H : Type} {enc : TypeId × Value → H} {P : Program} {w : World} {base : Nat} {spare : Nat → Bool} {held : Bool}
end
section
variable {H : Type} {enc : TypeId × Value → H} {P : Program} {w : World} {base : Nat} {spare : Nat → Bool} {held : Bool} {α : Type}
def RdL (w : World) (d : Nat) : List C → List Value → Prop
 | [], [] => True
 | c :: cs, u :: us => RdC (fun b => w.heap[b]?) d c u ∧ RdL w d cs us
 | _, _ => False
theorem RdL.len {d : Nat} : ∀ {cs : List C} {us : List Value}, RdL w d cs us → us.length = cs.length
 | [], [], _ => rfl
 | c :: cs, u :: us, h => by simp [RdL.len h.2]
 | [], _ :: _, h => h.elim
 | _ :: _, [], h => h.elim
theorem RdL.get {d : Nat} : ∀ {cs : List C} {us : List Value} {j : Nat} {c : C}, RdL w d cs us → cs[j]? = some c → ∃ u, us[j]? = some u ∧ RdC (fun b => w.heap[b]?) d c u
 | c :: cs, u :: us, 0, _, h, hj => by simp only [List.getElem?_cons_zero, Option.some.injEq] at hj; subst hj; exact ⟨u, rfl, h.1⟩
 | c :: cs, u :: us, j + 1, _, h, hj => by simp only [List.getElem?_cons_succ] at hj ⊢; exact RdL.get h.2 hj
 | [], [], _, _, _, hj => by simp at hj
 | [], _ :: _, _, _, h, _ => h.elim
 | _ :: _, [], _, _, h, _ => h.elim
theorem rcell_of {b o : Nat} {x : Value} (h : w.cell? ⟨b, o, none⟩ = some x) : rcell (fun b => w.heap[b]?) b o = some x := by
 unfold World.cell? at h
 unfold rcell
 simp only at h ⊢
 cases hb : w.heap[b]? with
 | none => rw [hb] at h; cases h
 | some ob =>
  rw [hb] at h
  cases ob <;> first | exact h | cases h
theorem rdv {d : Nat} {x : Value} (h : x.oneCell' = true) : RdC (fun b => w.heap[b]?) d (.v x) x := by cases d <;> exact ⟨rfl, h⟩
end
end Go.Proofs.YtinmcdcmidlgpaaGreatDoor
namespace Go.Proofs.YtinmcdcmidlgpaaGreatDoor
open Go.ChangeShapes Go.WideShapes Go.ChangeAt Go.RowKit
theorem Pure.law {P : Program} {f : FuncId} {args : List (Bool × List C)} (h : Pure P f args (bR true)) (w : World) (vs : List Value) (hv : L2 (Pc fun b => w.heap[b]?) args vs) : Calls P f vs.toArray w fun e w' => e = .returned (.bool true) ∧ Below w.heap.size w w' :=
  (h _ w vs (fun _ _ h => h) hv).mono fun e w' ⟨us, F, he, ho, _, _, hb⟩ => by
    match us, ho with
    | [u], ⟨F1, F2, ⟨us', e1, e2, e3⟩, _, _⟩ =>
      have e2' := e2 rfl
      match us', e3, e2' with
      | [x], h3, _ =>
        obtain ⟨G1, G2, ⟨⟨h4, _⟩, _⟩, _, _⟩ := h3
        exact ⟨by rw [he, e1]; exact congrArg Ending.returned h4, hb⟩
theorem RdL.x {w : World} {d : Nat} : ∀ {cs : List C} {us : List Value}, RdL w d cs us → L2 (RdX fun b => w.heap[b]?) cs us
 | [], [], _ => trivial
 | _ :: _, _ :: _, h => ⟨⟨d, h.1⟩, RdL.x h.2⟩
 | [], _ :: _, h => h.elim
 | _ :: _, [], h => h.elim
end Go.Proofs.YtinmcdcmidlgpaaGreatDoor
namespace Go.Proofs.YtinmcdcmidlgpaaGreatDoor
open Go.ChangeShapes Go.WideShapes Go.ChangeAt Go.RowKit Go.Deep
theorem u8_of_wf {x : Int} (h : (Lit.int .u8 x).wf = true) : 0 ≤ x ∧ x ≤ 255 := by
 simp only [Lit.wf, Bool.and_eq_true, decide_eq_true_eq] at h
 have h1 : IntKind.u8.min = 0 := by decide
 have h2 : IntKind.u8.max = 255 := by decide
 omega
theorem open_bytesX {H : Type} {enc : TypeId × Value → H} {P : Program} {W : World} {t e : TypeId} {ao : Option Addr} {len cap : Nat} {d : DataW H} {p : List MemPlace}
  (ht : P.underlying t = some (.slice e)) (he : P.underlying e = some (.int .u8)) (hC : P.cellsOf e = 1) (h : DataW.Trod enc P W 0 (fun _ => true) true t (.slice ao len cap) d p) :
  ∃ l : List Int, (∀ x ∈ l, 0 ≤ x ∧ x ≤ 255) ∧ RdX (fun b => W.heap[b]?) (bytes l) (.slice ao len cap) := by
 obtain ⟨fuel, hf⟩ := h
 rcases open_ints ht he hC hf with ⟨hcs, _⟩ | ⟨x, l, c, zs, hcs, _, hl, hm, hz, _, hcell, hwz⟩
 ·simp [Value.cells] at hcs
  obtain ⟨rfl, rfl, rfl⟩ := hcs
  exact ⟨[], by simp, 1, none, 0, rfl, Nat.le_refl _, Nat.zero_le _, by simp, .inl rfl⟩
 ·simp [Value.cells] at hcs
  obtain ⟨rfl, rfl, rfl⟩ := hcs
  have hzl : zs.length = cap := by simpa using hz
  have hln : ((zs.take len).map byteC).length = len := by simp; omega
  refine ⟨zs.take len, fun y hy => u8_of_wf (hwz y (List.mem_of_mem_take hy)), 1, some x, cap, by rw [hln], by rw [hln]; omega, by unfold maxLen at *; omega, fun cs hcs => ?_, ?_⟩
  ·obtain ⟨x, _, rfl⟩ := List.mem_map.1 hcs
   rfl
  by_cases h0 : len = 0
  ·subst h0; exact .inl (by simp)
  ·right
   obtain ⟨b, off, spot⟩ := x
   have hc0 := hcell 0 om
   have hspot : spot = none := by simpa [Addr.add] using World.cell?_spot hc0
   subst hspot
   refine ⟨b, off, rfl, fun k cs hk j c hj => ?_⟩
   rw [List.getElem?_map] at hk
   cases hy : (zs.take len)[k]? with
   | none => rw [hy] at hk; cases hk
   | some y =>
    rw [hy] at hk
    simp only [Option.map_some, Option.some.injEq] at hk
    subst hk
    have hi : k < len := by have := (List.getElem?_eq_some_iff.1 hy).1; simp at this; omega
    cases j with
    | succ j => simp at hj
    | zero =>
     simp only [List.getElem?_cons_zero, Option.some.injEq] at hj
     subst hj
     have h1 := hcell k om
     rw [List.getElem?_take_of_lt hi] at hy
     have e1 : (Addr.mk b off none).add k = ⟨b, off + k, none⟩ := Addr.add_lit b off k
     rw [e1] at h1
     refine ⟨.int .u8 y, ?_, rdv (w := W) rfl⟩
     rw [show off + k * 1 + 0 = off + k by omega]
     exact rcell_of (h1.trans (by simp [List.getD, hy]))
end Go.Proofs.YtinmcdcmidlgpaaGreatDoor
