/- Slices that move from one slice of one's own into another one; nil taken for an empty slice. No program in it. -/
import Derived.Test.YtinmcdcmidlgpaaGreatDoorAkVM
namespace Go.Proofs.YtinmcdcmidlgpaaGreatDoor
open Go.ChangeShapes Go.WideShapes Go.ChangeAt Go.RowKit
set_option linter.unusedVariables false
section
variable {P : Program} {X : Cx} {S : St} {ρ : Rho} {a : Act} {w : World} {TT : List (Nat × TI)}
theorem Sim.addback (h : Sim X ρ S a w) {nm ty n : Nat} {l : List (List C)} {xs : List Value} {F : List Nat} (ho : OwS w ty n l (ρ.root nm) xs F) (hn : F.Nodup) (hF : ∀ b ∈ F, b ∉ feet ρ S ∧ ρ.H b = none ∧ (b ∈ X.F0 ∨ X.w0.heap.size ≤ b)) (f1 : noT (mentS nm) S.T = true) (f2 : noBs (mentS nm) S.B = true) (f3 : noK nm S.R = true) :
  Sim X (ρ.setRoot nm (ρ.root nm) xs F) ⟨S.T, S.B, (nm, ty, n, l) :: S.R, S.M⟩ a w := by
 have hfe : feet (ρ.setRoot nm (ρ.root nm) xs F) ⟨S.T, S.B, (nm, ty, n, l) :: S.R, S.M⟩ = S.B.map (fun x => ρ.box x.1) ++ (F ++ fts ρ S.R ++ S.M.map fun x => ρ.box x.1) := by
  have key : ∀ R : RL, (∀ x ∈ R, x.1 ≠ nm) → R.flatMap (fun x => (ρ.setRoot nm (ρ.root nm) xs F).foot x.1) = R.flatMap fun x => ρ.foot x.1 := by
   intro R
   induction R with
   | nil => intro _; rfl
   | cons x R ih =>
    intro h
    rw [List.flatMap_cons, List.flatMap_cons, ih fun y hy => h y (by simp [hy])]
    congr 1
    show (if x.1 = nm then F else ρ.foot x.1) = _
    rw [if_neg (h x (by simp))]
  unfold feet
  simp only [List.flatMap_cons, key S.R fun x hx => noK_mem f3 x hx]
  show _ ++ ((if nm = nm then F else ρ.foot nm) ++ _ ++ _) = _
  rw [if_pos rfl]
  rfl
 have hmem : ∀ b, b ∈ S.B.map (fun x => ρ.box x.1) ++ (F ++ fts ρ S.R ++ S.M.map fun x => ρ.box x.1) → b ∈ F ∨ b ∈ feet ρ S := by
  intro b hb
  unfold feet
  simp only [List.mem_append] at hb ⊢
  rcases hb with hb | (hb | hb) | hb
  ·exact .inr (.inl hb)
  ·exact .inl hb
  ·exact .inr (.inr (.inl hb))
  ·exact .inr (.inr (.inr hb))
 refine ⟨⟨h.hp.H, fun x hx => ?_, fun x hx => ?_, fun x hx => h.hp.M x hx, ?_, fun b hb => ?_⟩, Sim.tr (m := mentS nm) (X := X) (fun x v hx hv => hv.setRows hx) f1 h.T, h.df, h.sz, h.fr, fun b hb => ?_⟩
 ·obtain ⟨vs, h1, h2⟩ := h.hp.B x hx
  exact ⟨vs, h1, h2.monoM fun a b ha hab => hab.setRows (noL_mem (noBs_mem f2 x hx) a ha)⟩
 ·rcases List.mem_cons.1 hx with rfl | hx
  ·show OwS w ty n l (if nm = nm then ρ.root nm else ρ.root nm) (if nm = nm then xs else ρ.rows nm) (if nm = nm then F else ρ.foot nm)
   rw [if_pos rfl, if_pos rfl, if_pos rfl]; exact ho
  ·have hne : x.1 ≠ nm := noK_mem f3 x hx
   show OwS w x.2.1 x.2.2.1 x.2.2.2 (if x.1 = nm then ρ.root nm else ρ.root x.1) (if x.1 = nm then xs else ρ.rows x.1) (if x.1 = nm then F else ρ.foot x.1)
   rw [if_neg hne, if_neg hne, if_neg hne]; exact h.hp.R x hx
 ·rw [hfe]
  have hnd := h.hp.nd
  unfold feet at hnd
  obtain ⟨n1, n2, n3⟩ := List.nodup_append.1 hnd
  have hFn : ∀ b ∈ F, b ∉ feet ρ S := fun b hb => (hF b hb).1
  unfold feet at hFn
  refine List.nodup_append.2 ⟨n1, ?_, fun a ha b hb e => ?_⟩
  ·rw [List.append_assoc]
   exact List.nodup_append.2 ⟨hn, n2, fun a ha b hb e => hFn a ha (List.mem_append_right _ (e ▸ hb))⟩
  ·subst e
   rw [List.append_assoc] at hb
   rcases List.mem_append.1 hb with hb | hb
   ·exact hFn a hb (List.mem_append_left _ ha)
   ·exact n3 a ha a hb rfl
 ·rw [hfe] at hb
  rcases hmem b hb with hb | hb
  ·exact (hF b hb).2.1
  ·exact h.hp.dj b hb
 ·rw [hfe] at hb
  rcases hmem b hb with hb | hb
  ·exact (hF b hb).2.2
  ·exact h.ft b hb
def MarkPost (aft : Bool × List RC) (v res : Value) (F : List Nat) (w : World) (e : Ending) (w' : World) : Prop :=
 e = .returned res ∧ ∃ F', OwP (fun _ => none) w' aft v F' ∧ F'.Nodup ∧ (∀ b ∈ F', b ∈ F ∨ w.heap.size ≤ b) ∧ Chg w w' F
def Marks (P : Program) (f : FuncId) (bef aft : Bool × List RC) (k res : Int) : Prop :=
 ∀ (w : World) (v : Value) (F : List Nat), OwP (fun _ => none) w bef v F → F.Nodup → Calls P f #[v, .int .i64 k] w (MarkPost aft v (.int .i64 res) F w)
theorem marks_intro {f : FuncId} {fn : Func} {c : Code} {g : Bool} {bef : List RC} {aft : Bool × List RC} {k res : Int} {N m : Nat} {l : List AC} {R : RL} (hf : P.funcs[f]? = some fn) (hb : fn.body = some c) (hN : fn.ntmps = N) (hl : Nat.ble 2 N = true) (hi : imC [] [] [] 900 bef = some (l, R, m))
  (h : ∀ w v F, Ev P ⟨N, w, F, fun _ => none, [(0, v)], []⟩ c (bodyPost P fn (MarkPost aft v (.int .i64 res) F w)) ⟨[(0, .p g l), (1, .p false [.c (.v (.int .i64 k))])], [], R, []⟩) : Marks P f (g, bef) aft k res := by
 intro w v F ho hn
 obtain ⟨us, e1, e2, e3⟩ := ho
 refine calls_of_wp hf hb ?_
 have hle := Nat.le_of_ble_eq_true hl
 have hs0 : ∀ T : Act, T.defers = [] → T.tmps.size = N → T.tmps[0]? = some v → Sim ⟨N, w, F, fun _ => none, [(0, v)], []⟩ ⟨fun _ => none, fun _ => 0, fun _ => undef, fun _ => [], fun _ => []⟩ ⟨[], [], [], []⟩ T w := fun T hd hT h0 =>
  ⟨⟨by simp, by simp, by simp, by simp, by simp [feet], by simp [feet]⟩, fun t av ht => (by cases ht), ⟨hd, rfl⟩, ⟨hT, fun x hx => by rw [List.mem_singleton.1 hx]; exact h0⟩, Chg.refl _ _, by simp [feet]⟩
 have t0 : (#[v, .int .i64 k] ++ Array.replicate (fn.ntmps - 2) undef : Array Value)[0]? = some v := by rw [Array.getElem?_append_left (by show 0 < 2; omega)]; rfl
 have t1 : (#[v, .int .i64 k] ++ Array.replicate (fn.ntmps - 2) undef : Array Value)[1]? = some (.int .i64 k) := by rw [Array.getElem?_append_left (by show 1 < 2; omega)]; rfl
 obtain ⟨ρ', k1, k2, _⟩ := impC_ok (imC_eq (M := []) hi) (hs0 ⟨#[v, .int .i64 k] ++ Array.replicate (fn.ntmps - 2) undef, []⟩ rfl (by simp [hN]; omega) t0) e3 hn (fun b hb => ⟨by simp [feet], rfl, .inl hb⟩)
 refine h w v F ρ' _ w ((k1.know (t := 1) (av := .p false [.c (.v (.int .i64 k))]) t1 ⟨⟨0, rfl, rfl⟩, trivial⟩).know (t := 0) (av := .p g l) t0 ?_)
 rw [e1]
 exact mkV_rep k2 e2
theorem ret_mark {fn : Func} {N : Nat} {w0 : World} {F : List Nat} {v : Value} {g : Bool} {l : List AC} {aft : Bool × List RC} {rcs : List RC} {R' : RL} {r0 res : Int} (hT : TTOk P TT) (h1 : retPs TT S fn.results.toList = some [(false, [.c (.v (.int .i64 r0))])]) (h2 : lk S.T 0 = some (.p g l)) (h3 : toRC S.R l = some (rcs, R')) (he : (g, rcs) = aft ∧ r0 = res) :
  EvE ⟨N, w0, F, fun _ => none, [(0, v)], []⟩ .ret (bodyPost P fn (MarkPost aft v (.int .i64 res) F w0)) S := by
 intro ρ a w hs
 obtain ⟨rfl, rfl⟩ := he
 obtain ⟨us, h4, h5⟩ := results_ok hT hs h1
 have hnd : (S.R.flatMap fun x => ρ.foot x.1).Nodup := by
  have := hs.hp.nd
  unfold feet at this
  exact (List.nodup_append.1 (List.nodup_append.1 this).2.1).1
 obtain ⟨v0, h6, h7⟩ := hs.T 0 _ h2
 have h8 := hs.sz.2 (0, v) (by simp)
 simp only at h8
 rw [h8] at h6
 cases h6
 obtain ⟨vs, k1, k2, k3⟩ := rep_cells h7
 obtain ⟨F', j1, j2, j3, j4⟩ := toRC_ok hs.hp.R (fun x hx => hx) h3 k1 hnd
 rw [hs.df.2] at j1
 obtain ⟨u, rfl, h9⟩ := h4.one
 have hu : u = .int .i64 r0 := rd_v h9.1
 subst hu
 exact ⟨hs.df.1, _, h5, rfl, F', ⟨vs, k2, k3, j1⟩, (List.nodup_append.1 j3).1, fun b hb => hs.ft b (List.mem_append_right _ (List.mem_append_left _ (j4 b hb))), hs.fr⟩
def reI (T : List (Nat × AV)) (B : List (Nat × Nat × List AC)) : RL → List AC → List RC → Option RL
 | R, [], [] => some R
 | R, .rt r :: l, .s ty n y :: rc => match noT (mentS r) T && (noBs (mentS r) B && noK r R) with
  | true => reI T B ((r, ty, n, y) :: R) l rc
  | false => none
 | R, .c _ :: l, .v _ :: rc => reI T B R l rc
 | R, .c _ :: l, .nil :: rc => reI T B R l rc
 | R, .c _ :: l, .c _ :: rc => reI T B R l rc
 | _, _, _ => none
theorem reI_ok {T : List (Nat × AV)} {B : List (Nat × Nat × List AC)} {M : List (Nat × (Int → Option Value))} : ∀ {l : List AC} {rc : List RC} {R R' : RL} {us : List Value} {F : List Nat} {ρ : Rho}, reI T B R l rc = some R' → Sim X ρ ⟨T, B, R, M⟩ a w → L2 (fun x u => ∀ r, x = .rt r → u = ρ.root r) l us →
  OwRs (fun _ => none) w rc us F → F.Nodup → (∀ b ∈ F, b ∉ feet ρ ⟨T, B, R, M⟩ ∧ ρ.H b = none ∧ (b ∈ X.F0 ∨ X.w0.heap.size ≤ b)) → ∃ ρ', Sim X ρ' ⟨T, B, R', M⟩ a w
 | [], [], R, R', us, F, ρ, h, hs, _, _, _, _ => by cases h; exact ⟨ρ, hs⟩
 | .rt r :: l, .s ty n y :: rc, R, R', us, F, ρ, h, hs, hu, ho, hn, hF => by
  match us, hu, ho with
  | u :: us, hu, ho =>
   unfold reI at h
   split at h
   ·rename_i hf
    simp only [Bool.and_eq_true] at hf
    obtain ⟨F1, F2, ⟨xs, h1⟩, h2, rfl⟩ := ho
    obtain ⟨n1, n2, n3⟩ := List.nodup_append.1 hn
    have e : u = ρ.root r := hu.1 r rfl
    rw [e] at h1
    have hs1 := hs.addback h1 n1 (fun b hb => hF b (List.mem_append_left _ hb)) hf.1 hf.2.1 hf.2.2
    refine reI_ok h hs1 (hu.2.mono fun x v hx r' hr => ?_) h2 n2 fun b hb => ?_
    ·rw [hx r' hr]
     show _ = if r' = r then ρ.root r else ρ.root r'
     split
     ·rename_i e2; rw [e2]
     ·rfl
    ·obtain ⟨g1, g2, g3⟩ := hF b (List.mem_append_right _ hb)
     refine ⟨fun hm => ?_, g2, g3⟩
     have hk : ∀ R : RL, (∀ x ∈ R, x.1 ≠ r) → ∀ b, b ∈ R.flatMap (fun x => (ρ.setRoot r (ρ.root r) xs F1).foot x.1) → b ∈ R.flatMap fun x => ρ.foot x.1 := fun R hR b hb => by
      obtain ⟨x, hx, hb⟩ := List.mem_flatMap.1 hb
      refine List.mem_flatMap.2 ⟨x, hx, ?_⟩
      have hb : b ∈ (if x.1 = r then F1 else ρ.foot x.1) := hb
      rwa [if_neg (hR x hx)] at hb
     unfold feet at hm g1
     rcases List.mem_append.1 hm with hm | hm
     ·exact g1 (List.mem_append_left _ hm)
     ·rcases List.mem_append.1 hm with hm | hm
      ·simp only [List.flatMap_cons] at hm
       rcases List.mem_append.1 hm with hm | hm
       ·have hm : b ∈ (if r = r then F1 else ρ.foot r) := hm
        rw [if_pos rfl] at hm
        exact n3 b hm b hb rfl
       ·exact g1 (List.mem_append_right _ (List.mem_append_left _ (hk R (fun x hx => noK_mem hf.2.2 x hx) b hm)))
      ·exact g1 (List.mem_append_right _ (List.mem_append_right _ hm))
   ·cases h
 | .c _ :: l, .v _ :: rc, R, R', u :: us, F, ρ, h, hs, hu, ho, hn, hF => by
  obtain ⟨F1, F2, ⟨_, rfl⟩, h2, rfl⟩ := ho
  exact reI_ok (rc := rc) h hs hu.2 h2 (by simpa using hn) (by simpa using hF)
 | .c _ :: l, .nil :: rc, R, R', u :: us, F, ρ, h, hs, hu, ho, hn, hF => by
  obtain ⟨F1, F2, ⟨_, rfl⟩, h2, rfl⟩ := ho
  exact reI_ok (rc := rc) h hs hu.2 h2 (by simpa using hn) (by simpa using hF)
 | .c _ :: l, .c _ :: rc, R, R', u :: us, F, ρ, h, hs, hu, ho, hn, hF => by
  obtain ⟨F1, F2, ⟨_, rfl⟩, h2, rfl⟩ := ho
  exact reI_ok (rc := rc) h hs hu.2 h2 (by simpa using hn) (by simpa using hF)
 | .c _ :: _, .v _ :: _, _, _, [], _, _, _, _, hu, _, _, _ => hu.elim
 | .c _ :: _, .nil :: _, _, _, [], _, _, _, _, hu, _, _, _ => hu.elim
 | .c _ :: _, .c _ :: _, _, _, [], _, _, _, _, hu, _, _, _ => hu.elim
theorem mark_wp {o : Oper} {f : FuncId} {x y : Operand} {tys : Array TypeId} {d : Nat} {g : Bool} {l : List AC} {rcs aft : List RC} {T : List (Nat × AV)} {B : List (Nat × Nat × List AC)} {R R1 R' : RL} {M : List (Nat × (Int → Option Value))} {k res : Int} {K : Act → World → Prop} {Q : Exit → Act → World → Prop}
  (hF : chkF P f = true) (ho : o.op = .call ⟨.value (.func f), #[x, y], tys⟩) (hd : o.dst = some d) (hc : Marks P f (g, rcs) (g, aft) k res) (hx : opv T x = some (.p g l)) (hy : opv T y = some (.p false [.c (.v (.int .i64 k))])) (ht : toRC R l = some (rcs, R1)) (hp : noCl rcs = true) (hr : reI T B R1 l aft = some R') (hN : okD X d = true) (hs : Sim X ρ ⟨T, B, R, M⟩ a w)
  (h : ∀ ρ' v w', Sim X ρ' ⟨(d, .p false [.c (.v (.int .i64 res))]) :: T, B, R', M⟩ (a.put (some d) v) w' → K (a.put (some d) v) w') : Oper.wp P o a w K Q := by
 obtain ⟨od, op, oty, opos, oaf, og⟩ := o
 simp only at ho hd
 subst ho; subst hd
 unfold Oper.wp
 rw [run_call hF a.eval #[x, y] tys (some d) oty opos oaf og rfl]
 rw [Oper.upon_enter]
 have ey : a.eval y = .int .i64 k := rd_v (opv_rep hs hy).1
 have e : #[x, y].map a.eval = #[a.eval x, .int .i64 k] := by simp [ey]
 rw [e]
 have hnd : (R.flatMap fun x => ρ.foot x.1).Nodup := by
  have := hs.hp.nd
  unfold feet at this
  exact (List.nodup_append.1 (List.nodup_append.1 this).2.1).1
 obtain ⟨us, k1, k2, k3⟩ := rep_cells (opv_rep hs hx)
 obtain ⟨F, j1, j2, j3, j4⟩ := toRC_ok hs.hp.R (fun x hx => hx) ht k1 hnd
 obtain ⟨n1, n2, n3⟩ := List.nodup_append.1 j3
 refine (hc w (a.eval x) F ⟨us, k2, k3, noCl_ok hp j1⟩ n1).mono fun en w' hpost => ?_
 obtain ⟨rfl, F', ⟨us', p1, p2, p3⟩, p4, p5, p6⟩ := hpost
 have hus : us' = us := by
  have e1 : mkV g us' = mkV g us := p1.symm.trans k2
  unfold mkV at e1
  cases g with
  | true => simpa using e1
  | false =>
   have q1 := headD_one (p2 rfl)
   have q2 := headD_one (k3 rfl)
   simp only [Bool.false_eq_true, if_false] at e1
   rw [q1, q2, e1]
 subst hus
 have hdrop := hs.drop (R' := R1) j2 n2 p6 fun b hb => ⟨j4 b hb, fun hm => n3 b hb b hm rfl⟩
 have hfs : ∀ b ∈ feet ρ ⟨T, B, R1, M⟩, b ∈ feet ρ ⟨T, B, R, M⟩ := fun b hb => by
  unfold feet at hb ⊢
  rcases List.mem_append.1 hb with hb | hb
  ·exact List.mem_append_left _ hb
  ·rcases List.mem_append.1 hb with hb | hb
   ·obtain ⟨x, hx, hb⟩ := List.mem_flatMap.1 hb
    exact List.mem_append_right _ (List.mem_append_left _ (List.mem_flatMap.2 ⟨x, j2 x hx, hb⟩))
   ·exact List.mem_append_right _ (List.mem_append_right _ hb)
 have hnd0 := hs.hp.nd
 unfold feet at hnd0
 obtain ⟨m1, m2, m3⟩ := List.nodup_append.1 hnd0
 obtain ⟨m4, m5, m6⟩ := List.nodup_append.1 m2
 have hFx : ∀ b ∈ F', b ∉ feet ρ ⟨T, B, R1, M⟩ ∧ ρ.H b = none ∧ (b ∈ X.F0 ∨ X.w0.heap.size ≤ b) := fun b hb => by
  rcases p5 b hb with hb2 | hb2
  ·have hbR := j4 b hb2
   have hbf : b ∈ feet ρ ⟨T, B, R, M⟩ := List.mem_append_right _ (List.mem_append_left _ hbR)
   refine ⟨fun hm => ?_, hs.hp.dj b hbf, hs.ft b hbf⟩
   unfold feet at hm
   rcases List.mem_append.1 hm with hm | hm
   ·exact m3 b hm b (List.mem_append_left _ hbR) rfl
   ·rcases List.mem_append.1 hm with hm | hm
    ·exact n3 b hb2 b hm rfl
    ·exact m6 b hbR b hm rfl
  ·refine ⟨fun hm => ?_, ?_, .inr (Nat.le_trans hs.fr.size hb2)⟩
   ·have := hs.hp.lt b (hfs b hm)
    omega
   ·cases ho : ρ.H b with
    | none => rfl
    | some o => have := heap_lt (hs.hp.H b o ho); omega
 have hroots : L2 (fun x u => ∀ r, x = .rt r → u = ρ.root r) l us' := k1.mono fun x u hxu r e => by subst e; exact hxu.1
 obtain ⟨ρ', q1⟩ := reI_ok hr hdrop hroots p3 p4 hFx
 exact h ρ' _ w' (q1.put hN ⟨⟨0, rfl, rfl⟩, trivial⟩)
variable {Q : Exit → Act → World → Prop} {ops : Array Oper} {rest : List Oper}
def eraO (r : Nat) : RL → Option RL
  | [] => some []
  | (k, x) :: R => match Nat.beq k r with
    | true => some R
    | false => match eraO r R with
      | some R' => some ((k, x) :: R')
      | none => none
theorem eraO_eq {r : Nat} : ∀ {R R' : RL}, eraO r R = some R' → R' = eraR r R
  | [], R', h => by cases h; rfl
  | (k, x) :: R, R', h => by
    unfold eraO at h
    unfold eraR
    split at h
    · rename_i e; rw [e]; cases h; rfl
    · rename_i e
      rw [e]
      split at h
      · rename_i R2 h2; cases h; rw [eraO_eq h2]
      · cases h
def toRCn (R : RL) : List AC → Option (List RC × RL)
 | [] => some ([], R)
 | .c (.v x) :: r => match toRCn R r with
  | some (l, R') => some (.v x :: l, R')
  | none => none
 | .c .nil :: r => match toRCn R r with
  | some (l, R') => some (.nil :: l, R')
  | none => none
 | .c x :: r => match toRCn R r with
  | some (l, R') => some (.c x :: l, R')
  | none => none
 | .rt k :: r => match lk R k with
  | some (ty, n, l) => match eraO k R with
   | some R2 => match toRCn R2 r with
    | some (l', R') => some (.s ty n l :: l', R')
    | none => none
   | none => none
  | none => none
 | _ :: _ => none
theorem toRCn_eq : ∀ {l : List AC} {R : RL} {p : List RC × RL}, toRCn R l = some p → toRC R l = some p
 | [], R, p, h => h
 | x :: r, R, p, h => by
  unfold toRCn at h
  unfold toRC
  split at h
  ·cases ‹_ :: _ = []›
  ·rename_i y r' e
   cases e
   split at h
   ·rename_i l R' hr; simp only [toRCn_eq hr]; exact h
   ·cases h
  ·rename_i r' e
   cases e
   split at h
   ·rename_i l R' hr; simp only [toRCn_eq hr]; exact h
   ·cases h
  ·rename_i y r' h1 h2 e
   cases e
   split at h
   ·rename_i l R' hr
    cases y with
    | v x => exact absurd rfl (h1 x)
    | nil => exact absurd rfl h2
    | _ => simp only [toRCn_eq hr]; exact h
   ·cases h
  ·rename_i k r' e
   cases e
   split at h
   ·rename_i ty n l hk
    split at h
    ·rename_i R2 h2
     split at h
     ·rename_i l' R' hr
      simp only [hk, ← eraO_eq h2, toRCn_eq hr]
      exact h
     ·cases h
    ·cases h
   ·cases h
  ·cases h
theorem evl_mark {T : List (Nat × AV)} {B : List (Nat × Nat × List AC)} {R R1 R' : RL} {M : List (Nat × (Int → Option Value))} {f : FuncId} {x y : Operand} {tys : Array TypeId} {d ty : Nat} {pos : String} {af : Array Edge} {g : Bool} {l : List AC} {rcs aft : List RC} {k res : Int}
  (hF : chkF P f = true) (hx : opv T x = some (.p g l)) (hy : opv T y = some (.p false [.c (.v (.int .i64 k))])) (ht : toRCn R l = some (rcs, R1)) (hc : Marks P f (g, rcs) (g, aft) k res) (hp : noCl rcs = true) (hr : reI T B R1 l aft = some R') (hN : okD X d = true)
  (h : EvL P X ops rest Q ⟨(d, .p false [.c (.v (.int .i64 res))]) :: T, B, R', M⟩) :
  EvL P X ops (⟨some d, .call ⟨.value (.func f), #[x, y], tys⟩, ty, pos, af, none⟩ :: rest) Q ⟨T, B, R, M⟩ :=
 fun ρ a w hs => wpList_plain rfl fun K hK => mark_wp hF rfl rfl hc hx hy (toRCn_eq ht) hp hr hN hs fun ρ' v w' hs' => hK _ _ (h ρ' _ w' hs')
def flT (r : Nat) : List (Nat × AV) → List (Nat × AV)
  | [] => []
  | (t, v) :: T => match noV (mentS r) v with
    | true => (t, v) :: flT r T
    | false => (t, .no) :: flT r T
theorem flT_lk {r : Nat} : ∀ {T : List (Nat × AV)} {t : Nat} {av : AV}, lk (flT r T) t = some av → lk T t = some av ∨ av = .no ∧ ∃ av', lk T t = some av'
  | (k, v) :: T, t, av, h => by
    unfold flT at h
    split at h
    · unfold lk at h ⊢
      split at h
      · rename_i e; rw [if_pos e]; exact .inl h
      · rename_i e; rw [if_neg e]; exact flT_lk h
    · unfold lk at h ⊢
      split at h
      · rename_i e; rw [if_pos e]; cases h; exact .inr ⟨rfl, _, rfl⟩
      · rename_i e; rw [if_neg e]; exact flT_lk h
theorem flT_no {r : Nat} : ∀ {T : List (Nat × AV)}, noT (mentS r) (flT r T) = true
  | [] => rfl
  | (k, v) :: T => by
    unfold flT
    split
    · rename_i h; unfold noT; rw [h]; exact flT_no
    · unfold noT; exact flT_no
theorem nodup_swap {A B D G G' : List Nat} {o : List Nat} (h : (o ++ (A ++ (G ++ B)) ++ D).Nodup) (hG : G'.Nodup) (hn : ∀ b ∈ G', b ∈ G ∨ b ∉ o ++ (A ++ (G ++ B)) ++ D) : (o ++ (A ++ (G' ++ B)) ++ D).Nodup := by
 simp only [List.append_assoc] at *
 rw [List.nodup_append] at *
 obtain ⟨h1, h2, h3⟩ := h
 rw [List.nodup_append] at *
 obtain ⟨h4, h5, h6⟩ := h2
 rw [List.nodup_append] at *
 obtain ⟨h7, h8, h9⟩ := h5
 refine ⟨h1, ⟨h4, ⟨hG, h8, ?_⟩, ?_⟩, ?_⟩
 ·intro x hx y hy e
  subst e
  rcases hn x hx with h | h
  ·exact h9 x h x hy rfl
  ·exact h (by simp only [List.mem_append] at hy ⊢; rcases hy with hy | hy <;> simp [hy])
 ·intro x hx y hy e
  subst e
  rcases List.mem_append.1 hy with hy | hy
  ·rcases hn x hy with h | h
   ·exact h6 x hx x (List.mem_append_left _ h) rfl
   ·exact h (by simp [hx])
  ·exact h6 x hx x (List.mem_append_right _ hy) rfl
 ·intro x hx y hy e
  subst e
  rcases List.mem_append.1 hy with hy | hy
  ·exact h3 x hx x (List.mem_append_left _ hy) rfl
  ·rcases List.mem_append.1 hy with hy | hy
   ·rcases hn x hy with h | h
    ·exact h3 x hx x (List.mem_append_right _ (List.mem_append_left _ h)) rfl
    ·exact h (by simp [hx])
   ·exact h3 x hx x (List.mem_append_right _ (List.mem_append_right _ hy)) rfl
theorem cut_at {α : Type} : ∀ {l : List α} {q : Nat} {x : α}, l[q]? = some x → l = l.take q ++ x :: l.drop (q + 1)
 | a :: l, 0, x, h => by simp only [List.getElem?_cons_zero, Option.some.injEq] at h; subst h; simp
 | a :: l, q + 1, x, h => by
  simp only [List.getElem?_cons_succ] at h
  simp only [List.take_succ_cons, List.drop_succ_cons, List.cons_append, List.cons.injEq, true_and]
  exact cut_at h
 | [], q, x, h => by simp at h
theorem set_at {α : Type} : ∀ {l : List α} {q : Nat} {x : α}, q < l.length → l.set q x = l.take q ++ x :: l.drop (q + 1)
 | a :: l, 0, x, h => by simp
 | a :: l, q + 1, x, h => by
  simp only [List.set_cons_succ, List.take_succ_cons, List.drop_succ_cons, List.cons_append, List.cons.injEq, true_and]
  exact set_at (by simpa using h)
 | [], q, x, h => by simp at h
theorem own_sub {ty n : Nat} {rows : List (List C)} {u : Value} {xs : List Value} {F : List Nat} {k j : Nat} {row : List C} {c : C} (h : OwS w ty n rows u xs F) (hk : rows[k]? = some row) (hj : row[j]? = some c) :
  ∃ (v : Value) (o G A D : List Nat), xs[k * n + j]? = some v ∧ OwX w c v G ∧ F = o ++ (A ++ (G ++ D)) ∧ ∀ (w' : World) (G' : List Nat) (c' : C), (∀ b ∈ o ++ (A ++ D), w'.heap[b]? = w.heap[b]?) → OwX w' c' v G' →
   OwS w' ty n (rows.set k (row.set j c')) u xs (o ++ (A ++ (G' ++ D))) := by
 obtain ⟨Fs, ⟨m1, m2, m3⟩, rfl⟩ := h
 have hfa := flat_at m2 hk hj
 obtain ⟨v, G, hx, hG, hr⟩ := m3.get hfa
 have hkl : k < rows.length := (List.getElem?_eq_some_iff.1 hk).1
 have hjl : j < row.length := (List.getElem?_eq_some_iff.1 hj).1
 have hrl : row.length = n := m2 row (List.mem_of_getElem? hk)
 refine ⟨v, u.ownBlock.toList, G, (Fs.take (k * n + j)).flatten, (Fs.drop (k * n + j + 1)).flatten, hx, hr, ?_, fun w' G' c' hw ho => ?_⟩
 ·congr 1
  have := congrArg List.flatten (cut_at hG)
  rw [this]
  simp only [List.flatten_append, List.flatten_cons]
 ·refine ⟨Fs.take (k * n + j) ++ G' :: Fs.drop (k * n + j + 1), ⟨?_, fun ds hds => ?_, ?_⟩, by simp [List.flatten_append, List.flatten_cons]⟩
  ·have : w'.ownsRow 0 ty n u rows.length xs := owns_same' m1 fun b hb => hw b (List.mem_append_left _ (by rw [hb]; simp))
   rw [List.length_set]; exact this
  ·rcases List.mem_or_eq_of_mem_set hds with h9 | h9
   ·exact m2 ds h9
   ·rw [h9, List.length_set]; exact hrl
  ·have e : (rows.set k (row.set j c')).flatten = rows.flatten.take (k * n + j) ++ c' :: rows.flatten.drop (k * n + j + 1) := by
    rw [flat_set m2 hkl (by rw [List.length_set]; exact hrl), set_at hjl, flat_row m2 hk]
    have e1 := cut_l rows.flatten (m := k * n) (n := n) (o := j) om
    have e2 := cut_r rows.flatten (m := k * n) (n := n) (p := j + 1) om
    simp only [List.append_assoc, List.cons_append]
    rw [← List.append_assoc (rows.flatten.take (k * n)), e1, e2]
    rfl
   rw [e]
   have ex : xs = xs.take (k * n + j) ++ v :: xs.drop (k * n + j + 1) := cut_at hx
   rw [ex]
   refine All3.append (OwX.all_keep (m3.takeA _) fun b hb => hw b (List.mem_append_right _ (List.mem_append_left _ hb))) ⟨ho, OwX.all_keep (m3.dropA _) fun b hb => hw b (List.mem_append_right _ (List.mem_append_right _ hb))⟩
theorem own_typed {m : Nat} {c : List (List C)} {v : Value} {G : List Nat} (h : OwX w (.s m c) v G) : ∃ ty xs, OwS w ty m c v xs G := by
 obtain ⟨d, hd⟩ := h
 cases d with
 | zero => exact hd.elim
 | succ d =>
  obtain ⟨ty, xs, Fs, ⟨h1, h2, h3⟩, rfl⟩ := hd
  exact ⟨ty, xs, Fs, ⟨h1, h2, h3.mono fun c x G _ _ hr => ⟨d, hr⟩⟩, rfl⟩
theorem marksub_wp {o : Oper} {f : FuncId} {x y : Operand} {tys : Array TypeId} {d r n n' k j m ty : Nat} {rows rows' : List (List C)} {row : List C} {c c' : List (List C)} {T : List (Nat × AV)} {B : List (Nat × Nat × List AC)} {R : RL} {M : List (Nat × (Int → Option Value))} {kk res : Int} {K : Act → World → Prop} {Q : Exit → Act → World → Prop}
  (hF : chkF P f = true) (ho : o.op = .call ⟨.value (.func f), #[x, y], tys⟩) (hd : o.dst = some d) (hx : opv T x = some (.p false [.sub r n k j])) (hy : opv T y = some (.p false [.c (.v (.int .i64 kk))])) (hr : lk R r = some (ty, n', rows)) (hn : Nat.beq n' n = true) (hk : rows[k]? = some row) (hj : row[j]? = some (.s m c))
  (hc : ∀ ty', Marks P f (false, [.s ty' m c]) (false, [.s ty' m c']) kk res) (hrows : rows' = rows.set k (row.set j (.s m c'))) (f2 : noBs (mentS r) B = true) (f3 : noK r (eraR r R) = true) (hN : okD X d = true) (hs : Sim X ρ ⟨T, B, R, M⟩ a w)
  (h : ∀ ρ' v w', Sim X ρ' ⟨(d, .p false [.c (.v (.int .i64 res))]) :: flT r T, B, (r, ty, n, rows') :: eraR r R, M⟩ (a.put (some d) v) w' → K (a.put (some d) v) w') : Oper.wp P o a w K Q := by
 obtain ⟨od, op, oty, opos, oaf, og⟩ := o
 simp only at ho hd
 subst ho; subst hd; subst hrows
 obtain rfl := Nat.eq_of_beq_eq_true hn
 unfold Oper.wp
 rw [run_call hF a.eval #[x, y] tys (some d) oty opos oaf og rfl]
 rw [Oper.upon_enter]
 have ey : a.eval y = .int .i64 kk := rd_v (opv_rep hs hy).1
 have e : #[x, y].map a.eval = #[a.eval x, .int .i64 kk] := by simp [ey]
 rw [e]
 have hnd : (R.flatMap fun x => ρ.foot x.1).Nodup := by
  have := hs.hp.nd
  unfold feet at this
  exact (List.nodup_append.1 (List.nodup_append.1 this).2.1).1
 obtain ⟨j1, j2, j3, j4⟩ := era_own (ρ := ρ) hr hnd
 have how := hs.hp.R _ j2
 obtain ⟨v, ob, G, A, D, hv, hox, hFe, hput⟩ := own_sub how hk hj
 have hFe : ρ.foot r = ob ++ (A ++ (G ++ D)) := hFe
 have hvx : a.eval x = v := by
  have h1 := (opv_rep hs hx).1.1
  have hv : (ρ.rows r)[k * n' + j]? = some v := hv
  rw [hv] at h1
  exact (Option.some.inj h1).symm
 obtain ⟨ty', xs', hos⟩ := own_typed hox
 have hndr : (ρ.foot r).Nodup := (List.nodup_append.1 j3).1
 have hndG : G.Nodup := by
  rw [hFe] at hndr
  exact (List.nodup_append.1 (List.nodup_append.1 (List.nodup_append.1 hndr).2.1).2.1).1
 have hGd : ∀ b ∈ G, b ∉ ob ++ (A ++ D) := fun b hb hm => by
  rw [hFe] at hndr
  obtain ⟨a1, a2, a3⟩ := List.nodup_append.1 hndr
  obtain ⟨a4, a5, a6⟩ := List.nodup_append.1 a2
  obtain ⟨a7, a8, a9⟩ := List.nodup_append.1 a5
  rcases List.mem_append.1 hm with hm | hm
  ·exact a3 b hm b (List.mem_append_right _ (List.mem_append_left _ hb)) rfl
  ·rcases List.mem_append.1 hm with hm | hm
   ·exact a6 b hm b (List.mem_append_left _ hb) rfl
   ·exact a9 b hb b hm rfl
 have hGf : ∀ b ∈ G, b ∈ ρ.foot r := fun b hb => by rw [hFe]; simp [hb]
 rw [hvx]
 refine (hc ty' w v G ⟨[v], rfl, fun _ => rfl, G, [], ⟨xs', hos⟩, rfl, by simp⟩ hndG).mono fun en w' hpost => ?_
 obtain ⟨rfl, F', ⟨us', p1, p2, p3⟩, p4, p5, p6⟩ := hpost
 have hus : us' = [v] := by
  have q1 := headD_one (p2 rfl)
  have e1 : v = us'.headD undef := p1
  rw [q1, ← e1]
 subst hus
 obtain ⟨F1, F2, ⟨xs2, ho2⟩, e2, rfl⟩ := p3
 have e2 : F2 = [] := e2
 subst e2
 rw [List.append_nil] at *
 have hsz : ∀ b ∈ ob ++ (A ++ D), b < w.heap.size := fun b hb => by
  refine how.lt b ?_
  show b ∈ ρ.foot r
  rw [hFe]
  simp only [List.mem_append] at hb ⊢
  rcases hb with hb | hb | hb <;> simp [hb]
 have hnew := hput w' F1 (.s m c') (fun b hb => p6.block b (hsz b hb) fun hm => hGd b hm hb) ho2.c
 have hdrop := (hs.weakT (T := flT r T) fun t av ht => by
  rcases flT_lk ht with h9 | ⟨rfl, av', h9⟩
  ·exact .inl h9
  ·refine .inr ⟨rfl, ?_⟩
   obtain ⟨v9, h10, _⟩ := hs.T t av' h9
   rw [← hs.sz.1]
   exact (Array.getElem?_eq_some_iff.1 h10).1).drop (R' := eraR r R) j1 (List.nodup_append.1 j3).2.1 p6 fun b hb => ⟨j4 b (hGf b hb), fun hm => (List.nodup_append.1 j3).2.2 b (hGf b hb) b hm rfl⟩
 have hfs : ∀ b ∈ feet ρ ⟨flT r T, B, eraR r R, M⟩, b ∈ feet ρ ⟨T, B, R, M⟩ := fun b hb => by
  unfold feet at hb ⊢
  rcases List.mem_append.1 hb with hb | hb
  ·exact List.mem_append_left _ hb
  ·rcases List.mem_append.1 hb with hb | hb
   ·obtain ⟨x, hx, hb⟩ := List.mem_flatMap.1 hb
    exact List.mem_append_right _ (List.mem_append_left _ (List.mem_flatMap.2 ⟨x, j1 x hx, hb⟩))
   ·exact List.mem_append_right _ (List.mem_append_right _ hb)
 have hnd0 := hs.hp.nd
 unfold feet at hnd0
 obtain ⟨m1, m2, m3⟩ := List.nodup_append.1 hnd0
 obtain ⟨m4, m5, m6⟩ := List.nodup_append.1 m2
 have hnew2 : (ob ++ (A ++ (F1 ++ D)) ++ []).Nodup := nodup_swap (G := G) (by rw [List.append_nil, ← hFe]; exact hndr) p4 fun b hb => by
  rcases p5 b hb with h9 | h9
  ·exact .inl h9
  ·refine .inr fun hm => ?_
   rw [List.append_nil, ← hFe] at hm
   have := how.lt b hm
   omega
 rw [List.append_nil] at hnew2
 have hfin := hdrop.addback hnew hnew2 (fun b hb => by
  have hc9 : b ∈ ρ.foot r ∨ w.heap.size ≤ b := by
   rw [hFe]
   simp only [List.mem_append] at hb ⊢
   rcases hb with hb | hb | hb | hb
   ·exact .inl (.inl hb)
   ·exact .inl (.inr (.inl hb))
   ·rcases p5 b hb with h9 | h9
    ·exact .inl (.inr (.inr (.inl h9)))
    ·exact .inr h9
   ·exact .inl (.inr (.inr (.inr hb)))
  rcases hc9 with hb2 | hb2
  ·have hbR := j4 b hb2
   have hbf : b ∈ feet ρ ⟨T, B, R, M⟩ := List.mem_append_right _ (List.mem_append_left _ hbR)
   refine ⟨fun hm => ?_, hs.hp.dj b hbf, hs.ft b hbf⟩
   unfold feet at hm
   rcases List.mem_append.1 hm with hm | hm
   ·exact m3 b hm b (List.mem_append_left _ hbR) rfl
   ·rcases List.mem_append.1 hm with hm | hm
    ·exact (List.nodup_append.1 j3).2.2 b hb2 b hm rfl
    ·exact m6 b hbR b hm rfl
  ·refine ⟨fun hm => ?_, ?_, .inr (Nat.le_trans hs.fr.size hb2)⟩
   ·have := hs.hp.lt b (hfs b hm)
    omega
   ·cases ho : ρ.H b with
    | none => rfl
    | some o => have := heap_lt (hs.hp.H b o ho); omega) flT_no f2 f3
 exact h _ _ w' (hfin.put hN ⟨⟨0, rfl, rfl⟩, trivial⟩)
theorem evl_marks {T : List (Nat × AV)} {B : List (Nat × Nat × List AC)} {R : RL} {M : List (Nat × (Int → Option Value))} {f : FuncId} {x y : Operand} {tys : Array TypeId} {d t r n n' k j m ty : Nat} {pos : String} {af : Array Edge} {rows rows' : List (List C)} {row : List C} {c c' : List (List C)} {kk res : Int}
  (hF : chkF P f = true) (hx : opv T x = some (.p false [.sub r n k j])) (hy : opv T y = some (.p false [.c (.v (.int .i64 kk))])) (hr : lk R r = some (ty, n', rows)) (hn : Nat.beq n' n = true) (hk : rows[k]? = some row) (hj : row[j]? = some (.s m c))
  (hc : ∀ ty', Marks P f (false, [.s ty' m c]) (false, [.s ty' m c']) kk res) (hrows : rows' = rows.set k (row.set j (.s m c'))) (f2 : noBs (mentS r) B = true) (f3 : noK r (eraR r R) = true) (hN : okD X d = true)
  (h : EvL P X ops rest Q ⟨(d, .p false [.c (.v (.int .i64 res))]) :: flT r T, B, (r, ty, n, rows') :: eraR r R, M⟩) :
  EvL P X ops (⟨some d, .call ⟨.value (.func f), #[x, y], tys⟩, t, pos, af, none⟩ :: rest) Q ⟨T, B, R, M⟩ :=
 fun ρ a w hs => wpList_plain rfl fun K hK => marksub_wp hF rfl rfl hx hy hr hn hk hj hc hrows f2 f3 hN hs fun ρ' v w' hs' => hK _ _ (h ρ' _ w' hs')
end
section
variable {P : Program} {X : Cx} {S : St} {ρ : Rho} {a : Act} {w : World} {TT : List (Nat × TI)}
theorem RepC.eqR {σ : Rho} (h1 : σ.H = ρ.H) (h2 : σ.box = ρ.box) (h3 : σ.root = ρ.root) (h4 : σ.rows = ρ.rows) {x : AC} {u : Value} (h : RepC ρ x u) : RepC σ x u := by
 cases x <;> simp only [RepC, h1, h2, h3, h4] at * <;> exact h
theorem noL_ff : ∀ l : List AC, noL (fun _ => false) l = true
 | [] => rfl
 | _ :: r => by unfold noL; exact noL_ff r
theorem noPs_ff : ∀ l : List (Bool × List AC), noPs (fun _ => false) l = true
 | [] => rfl
 | (_, l) :: r => by unfold noPs; rw [noL_ff l]; exact noPs_ff r
theorem noT_ff : ∀ T : List (Nat × AV), noT (fun _ => false) T = true
  | [] => rfl
  | (_, v) :: r => by
    unfold noT
    have : noV (fun _ => false) v = true := by cases v <;> first | rfl | exact noL_ff _ | exact noPs_ff _
    rw [this]; exact noT_ff r
theorem root_same {d : Nat} {F : List Nat} : (ρ.setRoot d (ρ.root d) (ρ.rows d) F).root = ρ.root ∧ (ρ.setRoot d (ρ.root d) (ρ.rows d) F).rows = ρ.rows := by
 constructor
 ·funext b
  show (if b = d then ρ.root d else ρ.root b) = ρ.root b
  split
  ·rename_i e; rw [e]
  ·rfl
 ·funext b
  show (if b = d then ρ.rows d else ρ.rows b) = ρ.rows b
  split
  ·rename_i e; rw [e]
  ·rfl
theorem Sim.setR (h : Sim X ρ S a w) {r ty n ty0 n0 : Nat} {l l' : List (List C)} {F' : List Nat} (hr : lk S.R r = some (ty0, n0, l)) (ho : OwS w ty n l' (ρ.root r) (ρ.rows r) F') (hF : ∀ b ∈ F', b ∈ ρ.foot r) (hn : F'.Nodup) (f3 : noK r (eraR r S.R) = true) :
  Sim X (ρ.setRoot r (ρ.root r) (ρ.rows r) F') ⟨S.T, S.B, (r, ty, n, l') :: eraR r S.R, S.M⟩ a w ∧ ∀ b ∈ ρ.foot r, b ∉ F' → b ∉ feet (ρ.setRoot r (ρ.root r) (ρ.rows r) F') ⟨S.T, S.B, (r, ty, n, l') :: eraR r S.R, S.M⟩ := by
 have hndR : (fts ρ S.R).Nodup := by
  have := h.hp.nd
  unfold feet at this
  exact (List.nodup_append.1 (List.nodup_append.1 this).2.1).1
 obtain ⟨j1, j2, j3, j4⟩ := era_own (ρ := ρ) hr hndR
 obtain ⟨e1, e2⟩ := root_same (ρ := ρ) (d := r) (F := F')
 have hrep : ∀ x u, RepC ρ x u → RepC (ρ.setRoot r (ρ.root r) (ρ.rows r) F') x u := fun x u hx => RepC.eqR (ρ := ρ) (σ := ρ.setRoot r (ρ.root r) (ρ.rows r) F') rfl rfl e1 e2 hx
 have hfe : feet (ρ.setRoot r (ρ.root r) (ρ.rows r) F') ⟨S.T, S.B, (r, ty, n, l') :: eraR r S.R, S.M⟩ = S.B.map (fun x => ρ.box x.1) ++ (F' ++ fts ρ (eraR r S.R) ++ S.M.map fun x => ρ.box x.1) := by
  have key : ∀ R : RL, (∀ x ∈ R, x.1 ≠ r) → R.flatMap (fun x => (ρ.setRoot r (ρ.root r) (ρ.rows r) F').foot x.1) = R.flatMap fun x => ρ.foot x.1 := by
   intro R
   induction R with
   | nil => intro _; rfl
   | cons x R ih =>
    intro h
    rw [List.flatMap_cons, List.flatMap_cons, ih fun y hy => h y (by simp [hy])]
    congr 1
    show (if x.1 = r then F' else ρ.foot x.1) = _
    rw [if_neg (h x (by simp))]
  unfold feet
  simp only [List.flatMap_cons, key _ fun x hx => noK_mem f3 x hx]
  show _ ++ ((if r = r then F' else ρ.foot r) ++ _ ++ _) = _
  rw [if_pos rfl]
  rfl
 have hnd := h.hp.nd
 unfold feet at hnd
 obtain ⟨n1, n2, n3⟩ := List.nodup_append.1 hnd
 obtain ⟨n4, n5, n6⟩ := List.nodup_append.1 n2
 obtain ⟨m1, m2, m3⟩ := List.nodup_append.1 j3
 have hsubR : ∀ b ∈ fts ρ (eraR r S.R), b ∈ fts ρ S.R := fun b hb => let ⟨x, hx, hb⟩ := List.mem_flatMap.1 hb; List.mem_flatMap.2 ⟨x, j1 x hx, hb⟩
 have hsub : ∀ b ∈ S.B.map (fun x => ρ.box x.1) ++ (F' ++ fts ρ (eraR r S.R) ++ S.M.map fun x => ρ.box x.1), b ∈ feet ρ S := fun b hb => by
  unfold feet
  simp only [List.mem_append] at hb ⊢
  rcases hb with hb | (hb | hb) | hb
  ·exact .inl hb
  ·exact .inr (.inl (j4 b (hF b hb)))
  ·exact .inr (.inl (hsubR b hb))
  ·exact .inr (.inr hb)
 refine ⟨⟨⟨h.hp.H, fun x hx => ?_, fun x hx => ?_, fun x hx => h.hp.M x hx, ?_, fun b hb => ?_⟩, Sim.tr (m := fun _ => false) (X := X) (fun x v _ hv => hrep x v hv) (noT_ff _) h.T, h.df, h.sz, h.fr, fun b hb => ?_⟩, fun b hb hnb hm => ?_⟩
 ·obtain ⟨vs, h1, h2⟩ := h.hp.B x hx
  exact ⟨vs, h1, h2.monoM fun a b _ hab => hrep a b hab⟩
 ·rcases List.mem_cons.1 hx with rfl | hx
  ·show OwS w ty n l' (if r = r then ρ.root r else ρ.root r) (if r = r then ρ.rows r else ρ.rows r) (if r = r then F' else ρ.foot r)
   rw [if_pos rfl, if_pos rfl, if_pos rfl]; exact ho
  ·have hne : x.1 ≠ r := noK_mem f3 x hx
   show OwS w x.2.1 x.2.2.1 x.2.2.2 (if x.1 = r then ρ.root r else ρ.root x.1) (if x.1 = r then ρ.rows r else ρ.rows x.1) (if x.1 = r then F' else ρ.foot x.1)
   rw [if_neg hne, if_neg hne, if_neg hne]; exact h.hp.R x (j1 x hx)
 ·rw [hfe]
  refine List.nodup_append.2 ⟨n1, List.nodup_append.2 ⟨List.nodup_append.2 ⟨hn, m2, fun a ha b hb => m3 a (hF a ha) b hb⟩, n5, fun a ha b hb e => ?_⟩, fun a ha b hb e => ?_⟩
  ·subst e
   rcases List.mem_append.1 ha with ha | ha
   ·exact n6 a (j4 a (hF a ha)) a hb rfl
   ·exact n6 a (hsubR a ha) a hb rfl
  ·subst e
   rcases List.mem_append.1 hb with hb | hb
   ·rcases List.mem_append.1 hb with hb | hb
    ·exact n3 a ha a (List.mem_append_left _ (j4 a (hF a hb))) rfl
    ·exact n3 a ha a (List.mem_append_left _ (hsubR a hb)) rfl
   ·exact n3 a ha a (List.mem_append_right _ hb) rfl
 ·rw [hfe] at hb; exact h.hp.dj b (hsub b hb)
 ·rw [hfe] at hb; exact h.ft b (hsub b hb)
 ·rw [hfe] at hm
  rcases List.mem_append.1 hm with hm | hm
  ·exact n3 b hm b (List.mem_append_left _ (j4 b hb)) rfl
  ·rcases List.mem_append.1 hm with hm | hm
   ·rcases List.mem_append.1 hm with hm | hm
    ·exact hnb hm
    ·exact m3 b hb b hm rfl
   ·exact n6 b (j4 b hb) b hm rfl
variable {Q : Exit → Act → World → Prop} {ops : Array Oper} {rest : List Oper}
theorem Sim.take {T : List (Nat × AV)} {B : List (Nat × Nat × List AC)} {R : RL} {M : List (Nat × (Int → Option Value))} {t nm r n n' k j m ty : Nat} {rows : List (List C)} {row : List C} {c : List (List C)} (hs : Sim X ρ ⟨T, B, R, M⟩ a w) (hx : lk T t = some (.p false [.sub r n k j])) (hr : lk R r = some (ty, n', rows)) (hn : Nat.beq n' n = true)
  (hk : rows[k]? = some row) (hj : row[j]? = some (.s m c)) (f3 : noK r (eraR r R) = true) (hf : freshR nm ⟨T, B, (r, ty, n, rows.set k (row.set j .hole)) :: eraR r R, M⟩ = true) :
  ∃ ρ' ty', Sim X ρ' ⟨(t, .p false [.rt nm]) :: T, B, (nm, ty', m, c) :: (r, ty, n, rows.set k (row.set j .hole)) :: eraR r R, M⟩ a w := by
 obtain rfl := Nat.eq_of_beq_eq_true hn
 have how := hs.hp.R _ (lk_mem hr)
 obtain ⟨v, ob, G, A, D, hv, hox, hFe, hput⟩ := own_sub how hk hj
 have hFe : ρ.foot r = ob ++ (A ++ (G ++ D)) := hFe
 have hnd : (ρ.foot r).Nodup := by
  have := hs.hp.nd
  unfold feet at this
  exact (List.nodup_append.1 (era_own (ρ := ρ) hr (List.nodup_append.1 (List.nodup_append.1 this).2.1).1).2.2.1).1
 have hnd2 := hnd
 rw [hFe] at hnd2
 obtain ⟨a1, a2, a3⟩ := List.nodup_append.1 hnd2
 obtain ⟨a4, a5, a6⟩ := List.nodup_append.1 a2
 obtain ⟨a7, a8, a9⟩ := List.nodup_append.1 a5
 have hone : v.oneCell' = true := by
  have := hox.read (H := fun b => w.heap[b]?) fun _ _ => rfl
  exact this.one
 have hown := hput w [] .hole (fun _ _ => rfl) ⟨0, hone, rfl⟩
 rw [List.nil_append] at hown
 have hn2 : (ob ++ (A ++ D)).Nodup := List.nodup_append.2 ⟨a1, List.nodup_append.2 ⟨a4, a8, fun x hx y hy => a6 x hx y (List.mem_append_right _ hy)⟩, fun x hx y hy => a3 x hx y (by
  rcases List.mem_append.1 hy with hy | hy
  ·exact List.mem_append_left _ hy
  ·exact List.mem_append_right _ (List.mem_append_right _ hy))⟩
 obtain ⟨hs1, hout⟩ := hs.setR (ty := ty) (n := n') hr hown (fun b hb => by
  rw [hFe]
  simp only [List.mem_append] at hb ⊢
  rcases hb with hb | hb | hb
  ·exact .inl hb
  ·exact .inr (.inl hb)
  ·exact .inr (.inr (.inr hb))) hn2 f3
 obtain ⟨ty', xs', hos⟩ := own_typed hox
 have hGf : ∀ b ∈ G, b ∈ ρ.foot r := fun b hb => by rw [hFe]; simp [hb]
 have hbf : ∀ b ∈ G, b ∈ feet ρ ⟨T, B, R, M⟩ := fun b hb => List.mem_append_right _ (List.mem_append_left _ (List.mem_flatMap.2 ⟨_, lk_mem hr, hGf b hb⟩))
 have hs2 := hs1.newroot hos a7 (fun b hb => ⟨hout b (hGf b hb) fun hm => ?_, hs.hp.dj b (hbf b hb), hs.ft b (hbf b hb)⟩) hf
 ·refine ⟨_, ty', hs2.know (t := t) (v := v) (av := .p false [.rt nm]) ?_ ⟨⟨?_, hone⟩, trivial⟩⟩
  ·obtain ⟨u, h1, h2⟩ := hs.T t _ hx
   have h3 := h2.1.1
   have hv : (ρ.rows r)[k * n' + j]? = some v := hv
   rw [hv] at h3
   rw [h1]; congr 1; exact (Option.some.inj h3).symm
  ·show v = if nm = nm then v else _
   rw [if_pos rfl]
 ·rcases List.mem_append.1 hm with hm | hm
  ·exact a3 b hm b (List.mem_append_right _ (List.mem_append_left _ hb)) rfl
  ·rcases List.mem_append.1 hm with hm | hm
   ·exact a6 b hm b (List.mem_append_left _ hb) rfl
   ·exact a9 b hb b hm rfl
def nilsO (m : Nat) : List AC → Option (List AC)
 | [] => some []
 | x :: r => match nilsO m r with
  | some r' => match x with
   | .c .nil => some (.c (.s m []) :: r')
   | _ => some (x :: r')
  | none => none
theorem nilsO_rep {m : Nat} : ∀ {l l' : List AC} {us : List Value}, nilsO m l = some l' → L2 (RepC ρ) l us → L2 (RepC ρ) l' us
 | [], l', us, h, hu => by cases h; exact hu
 | x :: r, l', [], h, hu => hu.elim
 | x :: r, l', u :: us, h, hu => by
  unfold nilsO at h
  split at h
  ·rename_i r' hr
   split at h
   ·cases h
    refine ⟨?_, nilsO_rep hr hu.2⟩
    rw [rd_nil hu.1]
    exact ⟨1, none, 0, rfl, Nat.le_refl _, Nat.zero_le _, by simp, .inl rfl⟩
   ·cases h; exact ⟨hu.1, nilsO_rep hr hu.2⟩
  ·cases h
theorem evl_nilc {T : List (Nat × AV)} {B : List (Nat × Nat × List AC)} {R : RL} {M : List (Nat × (Int → Option Value))} {g : Bool} {l l' : List AC} (t m : Nat) (hx : lk T t = some (.p g l)) (hl : nilsO m l = some l') (h : EvL P X ops rest Q ⟨(t, .p g l') :: T, B, R, M⟩) : EvL P X ops rest Q ⟨T, B, R, M⟩ := fun ρ a w hs => by
 obtain ⟨v, h1, h2⟩ := hs.T t _ hx
 refine h ρ a w (hs.know h1 ?_)
 have h2 : RepP ρ (g, l) v := h2
 show RepP ρ (g, l') v
 unfold RepP at *
 split
 ·rename_i hg
  rw [if_pos hg] at h2
  obtain ⟨us, e, h3⟩ := h2
  exact ⟨us, e, nilsO_rep hl h3⟩
 ·rename_i hg
  rw [if_neg hg] at h2
  exact nilsO_rep hl h2
end
end Go.Proofs.YtinmcdcmidlgpaaGreatDoor
