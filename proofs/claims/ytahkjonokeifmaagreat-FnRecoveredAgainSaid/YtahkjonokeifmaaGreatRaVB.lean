/- Slices of one's own that are made, grown, written. No program in it. -/
import Derived.Test.YtahkjonokeifmaaGreatRaVA
import Derived.Maps.AppendAt
namespace Go.Proofs.YtahkjonokeifmaaGreat
open Go.ChangeShapes Go.WideShapes Go.ChangeAt Go.RowKit
set_option linter.unusedVariables false
@[reducible] def RL := List (Nat × Nat × Nat × List (List C))
@[reducible] def fts (ρ : Rho) (R : RL) : List Nat := R.flatMap fun x => ρ.foot x.1
section
variable {P : Program} {X : Cx} {S : St} {ρ : Rho} {a : Act} {w : World} {TT : List (Nat × TI)}
theorem Sim.drop {R' : RL} {w' : World} {G : List Nat} (h : Sim X ρ S a w) (hR' : ∀ x ∈ R', x ∈ S.R) (hnd : (fts ρ R').Nodup) (hc : Chg w w' G) (hG : ∀ b ∈ G, b ∈ fts ρ S.R ∧ b ∉ fts ρ R') : Sim X ρ ⟨S.T, S.B, R', S.M⟩ a w' := by
 have hsub : ∀ b ∈ fts ρ R', b ∈ fts ρ S.R := fun b hb => let ⟨x, hx, hb⟩ := List.mem_flatMap.1 hb; List.mem_flatMap.2 ⟨x, hR' x hx, hb⟩
 have hnd0 := h.hp.nd
 unfold feet at hnd0
 obtain ⟨n1, n2, n3⟩ := List.nodup_append.1 hnd0
 obtain ⟨n4, n5, n6⟩ := List.nodup_append.1 n2
 have hk : ∀ b, b < w.heap.size → b ∉ G → w'.heap[b]? = w.heap[b]? := fun b hb hn => hc.block b hb hn
 have hGf : ∀ b ∈ G, b ∈ feet ρ S := fun b hb => List.mem_append_right _ (List.mem_append_left _ (hG b hb).1)
 have hfs : ∀ b ∈ feet ρ ⟨S.T, S.B, R', S.M⟩, b ∈ feet ρ S := by
  intro b hb
  unfold feet at hb ⊢
  rcases List.mem_append.1 hb with hb | hb
  ·exact List.mem_append_left _ hb
  ·rcases List.mem_append.1 hb with hb | hb
   ·exact List.mem_append_right _ (List.mem_append_left _ (hsub b hb))
   ·exact List.mem_append_right _ (List.mem_append_right _ hb)
 refine ⟨⟨fun b o hb => ?_, fun x hx => ?_, fun x hx => ?_, fun x hx => ?_, ?_, fun b hb => h.hp.dj b (hfs b hb)⟩, h.T, h.df, h.sz, h.fr.step hc fun b hb => h.ft b (hGf b hb), fun b hb => h.ft b (hfs b hb)⟩
 ·have h1 := h.hp.H b o hb
  rw [hk b (heap_lt h1) fun hm => by have := h.hp.dj b (hGf b hm); rw [hb] at this; cases this]
  exact h1
 ·obtain ⟨vs, h1, h2⟩ := h.hp.B x hx
  refine ⟨vs, ?_, h2⟩
  rw [hk _ (heap_lt h1) fun hm => n3 _ (List.mem_map.2 ⟨x, hx, rfl⟩) _ (List.mem_append_left _ (hG _ hm).1) rfl]
  exact h1
 ·exact (h.hp.R x (hR' x hx)).keep fun b hb => hk b ((h.hp.R x (hR' x hx)).lt b hb) fun hm => (hG b hm).2 (List.mem_flatMap.2 ⟨x, hx, hb⟩)
 ·obtain ⟨es, c, h1, h2⟩ := h.hp.M x hx
  refine ⟨es, c, ?_, h2⟩
  rw [hk _ (heap_lt h1) fun hm => n6 _ (hG _ hm).1 _ (List.mem_map.2 ⟨x, hx, rfl⟩) rfl]
  exact h1
 ·unfold feet
  refine List.nodup_append.2 ⟨n1, List.nodup_append.2 ⟨hnd, n5, fun x hx y hy => n6 x (hsub x hx) y hy⟩, fun x hx y hy => n3 x hx y ?_⟩
  rcases List.mem_append.1 hy with hy | hy
  ·exact List.mem_append_left _ (hsub y hy)
  ·exact List.mem_append_right _ hy
theorem Sim.reroot {R' : RL} {w' : World} {G F : List Nat} {nm ty n : Nat} {l : List (List C)} {u : Value} {xs : List Value} (h : Sim X ρ S a w) (hR' : ∀ x ∈ R', x ∈ S.R) (hnd : (F ++ fts ρ R').Nodup) (hF : ∀ b ∈ F, b ∈ fts ρ S.R ∨ w.heap.size ≤ b) (hc : Chg w w' G) (hG : ∀ b ∈ G, b ∈ fts ρ S.R ∧ b ∉ fts ρ R')
  (ho : OwS w' ty n l u xs F) (hf : freshR nm ⟨S.T, S.B, R', S.M⟩ = true) : Sim X (ρ.setRoot nm u xs F) ⟨S.T, S.B, (nm, ty, n, l) :: R', S.M⟩ a w' := by
 obtain ⟨k1, k2, k3⟩ := List.nodup_append.1 hnd
 have h1 := h.drop hR' k2 hc hG
 have hnd0 := h.hp.nd
 unfold feet at hnd0
 obtain ⟨n1, n2, n3⟩ := List.nodup_append.1 hnd0
 obtain ⟨n4, n5, n6⟩ := List.nodup_append.1 n2
 refine h1.newroot ho k1 (fun b hb => ?_) hf
 rcases hF b hb with hb2 | hb2
 ·have hbf : b ∈ feet ρ S := List.mem_append_right _ (List.mem_append_left _ hb2)
  refine ⟨fun hm => ?_, h.hp.dj b hbf, h.ft b hbf⟩
  unfold feet at hm
  rcases List.mem_append.1 hm with hm | hm
  ·exact n3 b hm b (List.mem_append_left _ hb2) rfl
  ·rcases List.mem_append.1 hm with hm | hm
   ·exact k3 b hb b hm rfl
   ·exact n6 b hb2 b hm rfl
 ·refine ⟨fun hm => ?_, ?_, .inr (Nat.le_trans h.fr.size hb2)⟩
  ·have : b ∈ feet ρ S := by
    unfold feet at hm ⊢
    rcases List.mem_append.1 hm with hm | hm
    ·exact List.mem_append_left _ hm
    ·rcases List.mem_append.1 hm with hm | hm
     ·obtain ⟨x, hx, hb⟩ := List.mem_flatMap.1 hm
      exact List.mem_append_right _ (List.mem_append_left _ (List.mem_flatMap.2 ⟨x, hR' x hx, hb⟩))
     ·exact List.mem_append_right _ (List.mem_append_right _ hm)
   have := h.hp.lt b this
   omega
  ·cases ho : ρ.H b with
   | none => rfl
   | some o => have := heap_lt (h.hp.H b o ho); omega
theorem root_rep {nm : Nat} {u : Value} {xs : List Value} {F : List Nat} (h : u.oneCell' = true) : RepV (ρ.setRoot nm u xs F) (.p false [.rt nm]) u := by
 refine ⟨⟨?_, h⟩, trivial⟩
 show u = if nm = nm then u else ρ.root nm
 rw [if_pos rfl]
theorem OwS.one {ty n : Nat} {l : List (List C)} {u : Value} {xs : List Value} {F : List Nat} (h : OwS w ty n l u xs F) : u.oneCell' = true := by
 obtain ⟨ao, cap, hu, _⟩ := own_slice h
 rw [hu]; rfl
def rcC : RC → C
 | .v x => .v x
 | .s _ n l => .s n l
 | .nil => .nil
 | .c x => x
def toCs (R : RL) : List AC → Option (List C × RL)
 | [] => some ([], R)
 | .c (.v x) :: r => match toCs R r with
  | some (l, R') => some (.v x :: l, R')
  | none => none
 | .c .nil :: r => match toCs R r with
  | some (l, R') => some (.nil :: l, R')
  | none => none
 | .rt k :: r => match lk R k with
  | some (ty, n, l) => match toCs (eraR k R) r with
   | some (l', R') => some (.s n l :: l', R')
   | none => none
  | none => none
 | _ :: _ => none
theorem toCs_eq : ∀ {l : List AC} {R R' : RL} {cs : List C}, toCs R l = some (cs, R') → ∃ rs, toRC R l = some (rs, R') ∧ cs = rs.map rcC ∧ noCl rs = true
 | [], R, R', cs, h => by cases h; exact ⟨[], rfl, rfl, rfl⟩
 | x :: l, R, R', cs, h => by
  unfold toCs at h
  split at h
  ·cases ‹_ :: _ = []›
  ·rename_i y r e
   cases e
   split at h
   ·rename_i l' R2 hr
    cases h
    obtain ⟨rs, h1, rfl, h2⟩ := toCs_eq hr
    exact ⟨.v y :: rs, by simp [toRC, h1], rfl, h2⟩
   ·cases h
  ·rename_i r e
   cases e
   split at h
   ·rename_i l' R2 hr
    cases h
    obtain ⟨rs, h1, rfl, h2⟩ := toCs_eq hr
    exact ⟨.nil :: rs, by simp [toRC, h1], rfl, h2⟩
   ·cases h
  ·rename_i k r e
   cases e
   split at h
   ·rename_i ty n ll hk
    split at h
    ·rename_i l' R2 hr
     cases h
     obtain ⟨rs, h1, rfl, h2⟩ := toCs_eq hr
     exact ⟨.s ty n ll :: rs, by simp [toRC, hk, h1], rfl, h2⟩
    ·cases h
   ·cases h
  ·cases h
theorem OwR.x {H : Nat → Option Obj} {r : RC} {u : Value} {F : List Nat} (h : OwR H w r u F) (hn : noCl [r] = true) : OwX w (rcC r) u F := by
 cases r with
 | c x => cases hn
 | v x => exact ⟨0, h⟩
 | nil => exact ⟨0, h⟩
 | s ty n l => obtain ⟨xs, h⟩ := h; exact h.c
theorem OwRs.all {H : Nat → Option Obj} : ∀ {rs : List RC} {us : List Value} {F : List Nat}, noCl rs = true → OwRs H w rs us F → ∃ Fs, All3 (OwX w) (rs.map rcC) us Fs ∧ Fs.flatten = F
 | [], [], F, _, h => by rw [show F = [] from h]; exact ⟨[], trivial, rfl⟩
 | r :: rs, u :: us, F, hn, h => by
  obtain ⟨F1, F2, h1, h2, rfl⟩ := h
  have hn1 : noCl [r] = true ∧ noCl rs = true := by cases r <;> first | exact ⟨rfl, hn⟩ | cases hn
  obtain ⟨Fs, h3, rfl⟩ := OwRs.all hn1.2 h2
  exact ⟨F1 :: Fs, ⟨h1.x hn1.1, h3⟩, rfl⟩
 | [], _ :: _, _, _, h => h.elim
 | _ :: _, [], _, _, h => h.elim
theorem toCs_ok (h : Hp ρ S w) {l : List AC} {R' : RL} {cs : List C} {us : List Value} (ht : toCs S.R l = some (cs, R')) (hu : L2 (RepC ρ) l us) :
  ∃ Fs, All3 (OwX w) cs us Fs ∧ (∀ x ∈ R', x ∈ S.R) ∧ (Fs.flatten ++ fts ρ R').Nodup ∧ ∀ b ∈ Fs.flatten, b ∈ fts ρ S.R := by
 obtain ⟨rs, h1, rfl, hno⟩ := toCs_eq ht
 have hnd : (fts ρ S.R).Nodup := by
  have := h.nd
  unfold feet at this
  exact (List.nodup_append.1 (List.nodup_append.1 this).2.1).1
 obtain ⟨F, h2, h3, h4, h5⟩ := toRC_ok h.R (fun x hx => hx) h1 hu hnd
 obtain ⟨Fs, h6, rfl⟩ := h2.all hno
 exact ⟨Fs, h6, h3, h4, h5⟩
def chunkO {α : Type} (n : Nat) : Nat → List α → Option (List (List α))
 | 0, [] => some []
 | 0, _ :: _ => none
 | k + 1, l => match takeO n l with
  | some x => match dropO n l with
   | some y => match chunkO n k y with
    | some r => some (x :: r)
    | none => none
   | none => none
  | none => none
theorem chunkO_eq {α : Type} {n : Nat} : ∀ {k : Nat} {l : List α} {r : List (List α)}, chunkO n k l = some r → r.flatten = l ∧ r.length = k ∧ ∀ x ∈ r, x.length = n
 | 0, [], r, h => by cases h; simp
 | 0, _ :: _, r, h => by cases h
 | k + 1, l, r, h => by
  unfold chunkO at h
  split at h
  ·rename_i x hx
   split at h
   ·rename_i y hy
    split at h
    ·rename_i r' hr
     cases h
     obtain ⟨rfl, h2⟩ := takeO_eq hx
     obtain ⟨rfl, h4⟩ := dropO_eq hy
     obtain ⟨h5, h6, h7⟩ := chunkO_eq hr
     refine ⟨by simp [h5], by simp [h6], fun z hz => ?_⟩
     rcases List.mem_cons.1 hz with rfl | hz
     ·exact h2
     ·exact h7 z hz
    ·cases h
   ·cases h
  ·cases h
def noN : Nat → List AC
 | 0 => []
 | n + 1 => .no :: noN n
theorem noN_rep : ∀ {us : List Value}, (∀ u ∈ us, u.oneCell' = true) → L2 (RepC ρ) (noN us.length) us
 | [], _ => trivial
 | u :: us, h => ⟨h u (by simp), noN_rep fun v hv => h v (by simp [hv])⟩
def eLit (TT : List (Nat × TI)) (S : St) (t : TypeId) (len : Nat) (parts : List (Nat × Operand)) : Option (Nat × Nat × List (List C) × RL) :=
 match eSz TT t with
 | some (e, n) => match Nat.ble (len * n) 16777216 with
  | true => match qParts S (fun k => some (k * n, n)) parts (noN (len * n)) with
   | some r => match toCs S.R r with
    | some (cs, R') => match chunkO n len cs with
     | some ls => some (e, n, ls, R')
     | none => none
    | none => none
   | none => none
  | false => none
 | none => none
theorem Sim.know {X : Cx} {S : St} {ρ : Rho} {a : Act} {w : World} (h : Sim X ρ S a w) {t : Nat} {av : AV} {v : Value} (h1 : a.tmps[t]? = some v) (h2 : RepV ρ av v) : Sim X ρ ⟨(t, av) :: S.T, S.B, S.R, S.M⟩ a w := by
 refine ⟨⟨h.hp.H, h.hp.B, h.hp.R, h.hp.M, h.hp.nd, h.hp.dj⟩, fun k b hk => ?_, h.df, h.sz, h.fr, h.ft⟩
 unfold lk at hk
 split at hk
 ·rename_i e; subst e; cases hk; exact ⟨v, h1, h2⟩
 ·exact h.T k b hk
theorem All3.lenV {Rl : C → Value → List Nat → Prop} {cs : List C} {us : List Value} {Fs : List (List Nat)} (h : All3 Rl cs us Fs) : us.length = cs.length := h.len.1
theorem OwX.all_lt : ∀ {cs : List C} {us : List Value} {Fs : List (List Nat)}, All3 (OwX w) cs us Fs → ∀ b ∈ Fs.flatten, b < w.heap.size
 | [], [], [], _, b, hb => by simp at hb
 | c :: cs, u :: us, F :: Fs, h, b, hb => by
  rw [List.flatten_cons] at hb
  rcases List.mem_append.1 hb with hb | hb
  ·exact h.1.lt b hb
  ·exact OwX.all_lt h.2 b hb
 | [], _ :: _, _, h, _, _ => h.elim
 | [], [], _ :: _, h, _, _ => h.elim
 | _ :: _, [], _, h, _, _ => h.elim
 | _ :: _, _ :: _, [], h, _, _ => h.elim
theorem OwX.all_keep {w' : World} {cs : List C} {us : List Value} {Fs : List (List Nat)} (h : All3 (OwX w) cs us Fs) (hk : ∀ b ∈ Fs.flatten, w'.heap[b]? = w.heap[b]?) : All3 (OwX w') cs us Fs :=
 h.mono fun c x F _ hF hr => hr.keep fun b hb => hk b (List.mem_flatten.2 ⟨F, hF, hb⟩)
theorem flat_length {α : Type} {n : Nat} : ∀ {l : List (List α)}, (∀ x ∈ l, x.length = n) → l.flatten.length = l.length * n
 | [], _ => by simp
 | x :: l, h => by simp [flat_length (l := l) fun y hy => h y (by simp [hy]), h x (by simp), Nat.succ_mul, Nat.add_comm]
theorem e_lit {T : List (Nat × AV)} {B : List (Nat × Nat × List AC)} {R : RL} {M : List (Nat × (Int → Option Value))} {t : TypeId} {len d e n : Nat} {parts : List (Nat × Operand)} {ls : List (List C)} {R' : RL} (hT : TTOk P TT) (h : eLit TT ⟨T, B, R, M⟩ t len parts = some (e, n, ls, R')) (hN : okD X d = true)
  (hf : freshR d ⟨T, B, R', M⟩ = true) : Eff P X ⟨T, B, R, M⟩ (some d) (.buildSlice t len parts.toArray) ⟨(d, .p false [.rt d]) :: T, B, (d, e, n, ls) :: R', M⟩ true := by
 intro ρ a w hs
 unfold eLit at h
 split at h
 case h_2 => cases h
 rename_i e' n' hsz
 split at h
 case h_2 => cases h
 rename_i hlim
 split at h
 case h_2 => cases h
 rename_i r hr
 split at h
 case h_2 => cases h
 rename_i cs R2 hcs
 split at h
 case h_2 => cases h
 rename_i ls' hls
 cases h
 obtain ⟨hu, i, hi, hin⟩ := eSz_ok hT hsz
 have hlim' := Nat.le_of_ble_eq_true hlim
 have hpos : 0 < n := by rw [← hin]; exact hi.pos
 obtain ⟨inf, hinf, hsz1, _, hz⟩ := hi.info
 generalize hzs : ((Array.range (len * n)).map fun k => (i.zero.map cv).toArray[k % (i.zero.map cv).toArray.size]!) = zs
 have hzl : zs.toList.length = len * n := by rw [← hzs]; simp
 have hz1 : ∀ c ∈ i.zero, (cv c).oneCell' = true := fun c hc => ((hi.zero c hc).1 (fun _ => none)).one
 have hz2 : ∀ u ∈ zs.toList, u.oneCell' = true := by
  intro u hu
  rw [← hzs] at hu
  simp only [Array.toList_map, Array.toList_range, List.mem_map, List.mem_range] at hu
  obtain ⟨k, hk, rfl⟩ := hu
  have hlt : k % (i.zero.map cv).toArray.size < (i.zero.map cv).toArray.size := Nat.mod_lt _ (by simp; rw [hi.len]; exact hi.pos)
  have hm : (i.zero.map cv).toArray[k % (i.zero.map cv).toArray.size]! ∈ i.zero.map cv := by
   rw [getElem!_pos (i.zero.map cv).toArray _ hlt, List.getElem_toArray]; exact List.getElem_mem _
  obtain ⟨c, hc, e⟩ := List.mem_map.1 hm
  rw [← e]; exact hz1 c hc
 have hbase : L2 (RepC ρ) (noN (len * n)) zs.toList := by rw [← hzl]; exact noN_rep hz2
 obtain ⟨us, hfill, hus⟩ := qParts_ok hs hr hbase
 obtain ⟨Fs, k1, k2, k3, k4⟩ := toCs_ok hs.hp hcs hus
 obtain ⟨c1, c2, c3⟩ := chunkO_eq hls
 have hlu : us.length = len * n := by rw [k1.lenV, ← c1, flat_length c3, c2]
 have hblt := OwX.all_lt k1
 have hrun : ∀ ty pos af g, (execOp a.eval ⟨some d, .buildSlice t len parts.toArray, ty, pos, af, g⟩).run P w = .ok (.value (.slice (some ⟨w.heap.size, 0, none⟩) len len)) (w.alloc (.cells us.toArray e)) := by
  intro ty pos af g
  have hzv := hi.zeroValue (w := w)
  have hcells : (if i.sh.agg then Value.agg (i.zero.map cv).toArray else (i.zero.map cv).headD undef).cells = (i.zero.map cv).toArray := cells_mk (g := i.sh.agg) (us := i.zero.map cv) (fun hg => by rw [List.length_map, hi.len, hi.one hg]) (fun u hu => by obtain ⟨c, hc, rfl⟩ := List.mem_map.1 hu; exact hz1 c hc)
  have hfill' : Instr.fill (fun i => some (i * n, n)) zs ((parts.map fun (i, x) => (i, a.eval x)).toArray.toList) = some us.toArray := by simpa using hfill
  have hno : ¬ 16777216 < len * n := by omega
  have hparts : parts.toArray.map (fun (i, x) => (i, a.eval x)) = (parts.map fun (i, x) => (i, a.eval x)).toArray := by simp
  simp only [execOp, Instr.buildSlice, Sem.run_bind, run_underlying hu, Result.andThen_ok, hi.size' hin]
  rw [if_neg (by simpa using hno)]
  by_cases h0 : len * n = 0
  ·rw [if_pos h0]
   have hzs0 : zs = (Array.range (len * n)).map fun k => ((#[] : Array Value)[k % (#[] : Array Value).size]!) := by rw [← hzs, h0]; simp
   simp only [Sem.run_bind, Sem.run_pure, Result.andThen_ok, ← hzs0]
   rw [hparts, hfill']
   rfl
  ·rw [if_neg h0]
   simp only [Sem.run_bind, Sem.run_pure, Result.andThen_ok, hzv, hcells, hzs]
   rw [hparts, hfill']
   rfl
 have hb : Below w.heap.size w (w.alloc (.cells us.toArray e)) := (Below.refl _ _).alloc (Nat.le_refl _) _
 have ho : OwS (w.alloc (.cells us.toArray e)) e n ls (.slice (some ⟨w.heap.size, 0, none⟩) len len) us (w.heap.size :: Fs.flatten) := by
  refine ⟨Fs, ⟨⟨by rw [hlu, c2], .inr ⟨w.heap.size, len, us.toArray, by rw [c2], Nat.zero_le _, heap_alloc_new w _, by rw [c2]; exact Nat.le_refl _, ?_, by simp [hlu], ?_⟩⟩, c3, ?_⟩, rfl⟩
  ·have : len ≤ len * n := Nat.le_mul_of_pos_right _ hpos
   simp only [maxLen]; omega
  ·rw [c2, ← hlu]; simp
  ·rw [c1]; exact OwX.all_keep k1 fun b hb2 => hb.block b (hblt b hb2)
 have hsim := hs.reroot (R' := R') (nm := d) (ty := e) (n := n) (l := ls) (u := .slice (some ⟨w.heap.size, 0, none⟩) len len) (xs := us) (F := w.heap.size :: Fs.flatten) (w' := w.alloc (.cells us.toArray e)) (G := []) k2 ?_ ?_ (Chg.of_below hb) (by simp) ho hf
 ·exact ⟨_, _, _, _, hrun, .inl rfl, hsim.put hN (root_rep rfl), fun _ => hb⟩
 ·rw [List.cons_append]
  refine List.nodup_cons.2 ⟨fun hm => ?_, k3⟩
  rcases List.mem_append.1 hm with hm | hm
  ·exact Nat.lt_irrefl _ (hblt _ hm)
  ·obtain ⟨x, hx, hm⟩ := List.mem_flatMap.1 hm
   exact Nat.lt_irrefl _ ((hs.hp.R x (k2 x hx)).lt _ hm)
 ·intro b hb2
  rcases List.mem_cons.1 hb2 with rfl | hb2
  ·exact .inr (Nat.le_refl _)
  ·exact .inl (k4 b hb2)
theorem e_lit1 {T : List (Nat × AV)} {B : List (Nat × Nat × List AC)} {R : RL} {M : List (Nat × (Int → Option Value))} {t : TypeId} {len d e n : Nat} {parts : List (Nat × Operand)} {ls : List (List C)} {R' : RL} (hT : TTOk P TT) (h : eLit TT ⟨T, B, R, M⟩ t len parts = some (e, n, ls, R')) (hN : okD X d = true)
  (hf : freshR d ⟨T, B, R', M⟩ = true) {s0 k0 i0 j0 : Nat} {r0 : List AC} (hs0 : lk T s0 = some (.p false [.rt k0])) (hr0 : qParts ⟨T, B, R, M⟩ (fun k => some (k * n, n)) parts (noN (len * n)) = some r0) (hp0 : nthO (i0 * n + j0) r0 = some (.rt k0)) : Eff P X ⟨T, B, R, M⟩ (some d) (.buildSlice t len parts.toArray) ⟨(d, .p false [.rt d]) :: (s0, .p false [.sub d n i0 j0]) :: T, B, (d, e, n, ls) :: R', M⟩ true := by
 intro ρ a w hs
 unfold eLit at h
 split at h
 case h_2 => cases h
 rename_i e' n' hsz
 split at h
 case h_2 => cases h
 rename_i hlim
 split at h
 case h_2 => cases h
 rename_i r hr
 split at h
 case h_2 => cases h
 rename_i cs R2 hcs
 split at h
 case h_2 => cases h
 rename_i ls' hls
 cases h
 obtain ⟨hu, i, hi, hin⟩ := eSz_ok hT hsz
 have hlim' := Nat.le_of_ble_eq_true hlim
 have hpos : 0 < n := by rw [← hin]; exact hi.pos
 obtain ⟨inf, hinf, hsz1, _, hz⟩ := hi.info
 generalize hzs : ((Array.range (len * n)).map fun k => (i.zero.map cv).toArray[k % (i.zero.map cv).toArray.size]!) = zs
 have hzl : zs.toList.length = len * n := by rw [← hzs]; simp
 have hz1 : ∀ c ∈ i.zero, (cv c).oneCell' = true := fun c hc => ((hi.zero c hc).1 (fun _ => none)).one
 have hz2 : ∀ u ∈ zs.toList, u.oneCell' = true := by
  intro u hu
  rw [← hzs] at hu
  simp only [Array.toList_map, Array.toList_range, List.mem_map, List.mem_range] at hu
  obtain ⟨k, hk, rfl⟩ := hu
  have hlt : k % (i.zero.map cv).toArray.size < (i.zero.map cv).toArray.size := Nat.mod_lt _ (by simp; rw [hi.len]; exact hi.pos)
  have hm : (i.zero.map cv).toArray[k % (i.zero.map cv).toArray.size]! ∈ i.zero.map cv := by
   rw [getElem!_pos (i.zero.map cv).toArray _ hlt, List.getElem_toArray]; exact List.getElem_mem _
  obtain ⟨c, hc, e⟩ := List.mem_map.1 hm
  rw [← e]; exact hz1 c hc
 have hbase : L2 (RepC ρ) (noN (len * n)) zs.toList := by rw [← hzl]; exact noN_rep hz2
 obtain ⟨us, hfill, hus⟩ := qParts_ok hs hr hbase
 obtain ⟨Fs, k1, k2, k3, k4⟩ := toCs_ok hs.hp hcs hus
 rw [hr] at hr0
 cases hr0
 obtain ⟨u0, hu0, hu1⟩ := hus.get (nthO_eq hp0)
 obtain ⟨v0, hv0, hv1⟩ := hs.T s0 _ hs0
 have huv : v0 = u0 := by rw [show v0 = ρ.root k0 from hv1.1.1, show u0 = ρ.root k0 from hu1.1]
 obtain ⟨c1, c2, c3⟩ := chunkO_eq hls
 have hlu : us.length = len * n := by rw [k1.lenV, ← c1, flat_length c3, c2]
 have hblt := OwX.all_lt k1
 have hrun : ∀ ty pos af g, (execOp a.eval ⟨some d, .buildSlice t len parts.toArray, ty, pos, af, g⟩).run P w = .ok (.value (.slice (some ⟨w.heap.size, 0, none⟩) len len)) (w.alloc (.cells us.toArray e)) := by
  intro ty pos af g
  have hzv := hi.zeroValue (w := w)
  have hcells : (if i.sh.agg then Value.agg (i.zero.map cv).toArray else (i.zero.map cv).headD undef).cells = (i.zero.map cv).toArray := cells_mk (g := i.sh.agg) (us := i.zero.map cv) (fun hg => by rw [List.length_map, hi.len, hi.one hg]) (fun u hu => by obtain ⟨c, hc, rfl⟩ := List.mem_map.1 hu; exact hz1 c hc)
  have hfill' : Instr.fill (fun i => some (i * n, n)) zs ((parts.map fun (i, x) => (i, a.eval x)).toArray.toList) = some us.toArray := by simpa using hfill
  have hno : ¬ 16777216 < len * n := by omega
  have hparts : parts.toArray.map (fun (i, x) => (i, a.eval x)) = (parts.map fun (i, x) => (i, a.eval x)).toArray := by simp
  simp only [execOp, Instr.buildSlice, Sem.run_bind, run_underlying hu, Result.andThen_ok, hi.size' hin]
  rw [if_neg (by simpa using hno)]
  by_cases h0 : len * n = 0
  ·rw [if_pos h0]
   have hzs0 : zs = (Array.range (len * n)).map fun k => ((#[] : Array Value)[k % (#[] : Array Value).size]!) := by rw [← hzs, h0]; simp
   simp only [Sem.run_bind, Sem.run_pure, Result.andThen_ok, ← hzs0]
   rw [hparts, hfill']
   rfl
  ·rw [if_neg h0]
   simp only [Sem.run_bind, Sem.run_pure, Result.andThen_ok, hzv, hcells, hzs]
   rw [hparts, hfill']
   rfl
 have hb : Below w.heap.size w (w.alloc (.cells us.toArray e)) := (Below.refl _ _).alloc (Nat.le_refl _) _
 have ho : OwS (w.alloc (.cells us.toArray e)) e n ls (.slice (some ⟨w.heap.size, 0, none⟩) len len) us (w.heap.size :: Fs.flatten) := by
  refine ⟨Fs, ⟨⟨by rw [hlu, c2], .inr ⟨w.heap.size, len, us.toArray, by rw [c2], Nat.zero_le _, heap_alloc_new w _, by rw [c2]; exact Nat.le_refl _, ?_, by simp [hlu], ?_⟩⟩, c3, ?_⟩, rfl⟩
  ·have : len ≤ len * n := Nat.le_mul_of_pos_right _ hpos
   simp only [maxLen]; omega
  ·rw [c2, ← hlu]; simp
  ·rw [c1]; exact OwX.all_keep k1 fun b hb2 => hb.block b (hblt b hb2)
 have hsim := hs.reroot (R' := R') (nm := d) (ty := e) (n := n) (l := ls) (u := .slice (some ⟨w.heap.size, 0, none⟩) len len) (xs := us) (F := w.heap.size :: Fs.flatten) (w' := w.alloc (.cells us.toArray e)) (G := []) k2 ?_ ?_ (Chg.of_below hb) (by simp) ho hf
 ·refine ⟨_, _, _, _, hrun, .inl rfl, (hsim.know (t := s0) (av := .p false [.sub d n i0 j0]) hv0 ⟨⟨?_, hv1.1.2⟩, trivial⟩).put hN (root_rep rfl), fun _ => hb⟩
  show (if d = d then us else ρ.rows d)[i0 * n + j0]? = some v0
  rw [if_pos rfl, huv]; exact hu0
 ·rw [List.cons_append]
  refine List.nodup_cons.2 ⟨fun hm => ?_, k3⟩
  rcases List.mem_append.1 hm with hm | hm
  ·exact Nat.lt_irrefl _ (hblt _ hm)
  ·obtain ⟨x, hx, hm⟩ := List.mem_flatMap.1 hm
   exact Nat.lt_irrefl _ ((hs.hp.R x (k2 x hx)).lt _ hm)
 ·intro b hb2
  rcases List.mem_cons.1 hb2 with rfl | hb2
  ·exact .inr (Nat.le_refl _)
  ·exact .inl (k4 b hb2)
end
section
variable {P : Program} {X : Cx} {S : St} {ρ : Rho} {a : Act} {w : World} {TT : List (Nat × TI)}
def SrcAt (w : World) (ao : Option Addr) (news : List Value) : Prop := news = [] ∨ ∃ ad, ao = some ad ∧ ∀ j u, news[j]? = some u → w.cell? (ad.add j) = some u
theorem run_append_src (t ty e : TypeId) (i : TypeInfo) (z : Value) (size bytes : Nat) (ht : P.underlying t = some (.slice e)) (hi : P.info? e = some i) (hz : i.zero = some z)
  (hsize : i.size = size) (hby : i.bytes = bytes) (hzs : z.cells.size = size) (hsz : 0 < size)
  (v : Value) (n : Nat) (xs : List Value) (hown : w.ownsRow 0 e size v n xs) (ao : Option Addr) (m c : Nat) (news : List Value) (hl : news.length = m * size) (hsrc : SrcAt w ao news) (h1 : ∀ u ∈ news, u.oneCell' = true)
  (h63 : n + m ≤ maxLen) (hbytes : (n + m) * bytes ≤ 140737488355328) :
  ∃ v' w', (Builtin.append_ #[t, t] ty #[v, .slice ao m c]).run P w = .ok v' w' ∧ w'.ownsRow 0 e size v' (n + m) (xs ++ news) ∧ w.grownBy w' v.ownBlock ∧ (v'.ownBlock = v.ownBlock ∨ v'.ownBlock = some w.heap.size) := by
 rcases hsrc with rfl | ⟨ad, rfl, hc⟩
 ·have hm : m = 0 := by
   rcases Nat.eq_zero_or_pos m with h | h
   ·exact h
   ·have := Nat.mul_pos h hsz; simp at hl; omega
  subst hm
  cases ao with
  | some ad =>
   obtain ⟨v', w', hr, h2, h3, _, h4⟩ := run_append_own_at (P := P) w 0 t ty e i z size bytes ht hi hz hsize hby hzs hsz v n xs hown ad 0 c [] (by simp) (by simp) (by simp) h63 hbytes (Nat.zero_le _)
   exact ⟨v', w', hr, h2, h3, h4⟩
  | none =>
   refine ⟨v, w, ?_, by simpa using hown, ⟨rfl, rfl, rfl, Nat.le_refl _, fun _ _ _ => rfl⟩, .inl rfl⟩
   rcases hown.2 with ⟨rfl, rfl⟩ | ⟨g, cap, cur, rfl, _, _, hnc, _⟩
   ·simp [Builtin.append_, run_underlying ht, Go.sizeOf, typeInfo, hi, Builtin.lenOf, Builtin.firstCells]
   ·simp [Builtin.append_, run_underlying ht, Go.sizeOf, typeInfo, hi, Builtin.lenOf, Builtin.firstCells, hnc, storeCells]
 ·obtain ⟨v', w', hr, h2, h3, _, h4⟩ := run_append_own_at (P := P) w 0 t ty e i z size bytes ht hi hz hsize hby hzs hsz v n xs hown ad m c news hl hc h1 h63 hbytes (Nat.zero_le _)
  exact ⟨v', w', hr, h2, h3, h4⟩
structure Dst (ρ : Rho) (R : RL) (w : World) (e n : Nat) (l : List (List C)) (v : Value) (R' : RL) : Prop where
 own : ∃ xs F, OwS w e n l v xs F ∧ (∀ b ∈ F, b ∈ fts ρ R) ∧ (F ++ fts ρ R').Nodup
 sub : ∀ x ∈ R', x ∈ R
def appD (e n : Nat) (R : RL) : Option AV → Option (List (List C) × RL)
 | some (.p false [.rt r]) => match lk R r with
  | some (ty, n', l) => match Nat.beq ty e with
   | true => match Nat.beq n' n with
    | true => some (l, eraR r R)
    | false => none
   | false => none
  | none => none
 | some (.p false [.c .nil]) => some ([], R)
 | _ => none
theorem OwS.nil {e n : Nat} : OwS w e n [] (.slice none 0 0) [] [] := ⟨[], ⟨World.ownsRow_nil w 0 e n, by simp, trivial⟩, rfl⟩
theorem hp_rnd (h : Hp ρ S w) : (fts ρ S.R).Nodup := by
 have := h.nd
 unfold feet at this
 exact (List.nodup_append.1 (List.nodup_append.1 this).2.1).1
theorem era_own {R : RL} {r : Nat} {x : Nat × Nat × List (List C)} (h : lk R r = some x) (hnd : (fts ρ R).Nodup) : (∀ y ∈ eraR r R, y ∈ R) ∧ (r, x) ∈ R ∧ (ρ.foot r ++ fts ρ (eraR r R)).Nodup ∧ ∀ b ∈ ρ.foot r, b ∈ fts ρ R := by
 obtain ⟨p, q, rfl, h2⟩ := eraR_split h
 rw [h2]
 refine ⟨fun y hy => by rcases List.mem_append.1 hy with h9 | h9 <;> simp [h9], by simp, ?_, fun b hb => List.mem_flatMap.2 ⟨(r, x), by simp, hb⟩⟩
 simp only [fts, List.flatMap_append, List.flatMap_cons] at hnd ⊢
 obtain ⟨n1, n2, n3⟩ := List.nodup_append.1 hnd
 obtain ⟨n4, n5, n6⟩ := List.nodup_append.1 n2
 refine List.nodup_append.2 ⟨n4, List.nodup_append.2 ⟨n1, n5, fun a ha b hb => n3 a ha b (List.mem_append_right _ hb)⟩, fun a ha b hb e => ?_⟩
 subst e
 rcases List.mem_append.1 hb with hb | hb
 ·exact n3 a hb a (List.mem_append_left _ ha) rfl
 ·exact n6 a ha a hb rfl
theorem appD_ok {R R' : RL} {e n : Nat} {l : List (List C)} {av : AV} {v : Value} (hR : ∀ x ∈ R, OwS w x.2.1 x.2.2.1 x.2.2.2 (ρ.root x.1) (ρ.rows x.1) (ρ.foot x.1)) (hnd : (fts ρ R).Nodup) (h : appD e n R (some av) = some (l, R')) (hv : RepV ρ av v) : Dst ρ R w e n l v R' := by
 unfold appD at h
 split at h
 ·rename_i r hav
  cases hav
  split at h
  ·rename_i ty n' ll hr
   split at h
   ·rename_i h1
    split at h
    ·rename_i h2
     obtain rfl := Nat.eq_of_beq_eq_true h1
     obtain rfl := Nat.eq_of_beq_eq_true h2
     cases h
     obtain ⟨k1, k2, k3, k4⟩ := era_own hr hnd
     have ho := hR _ k2
     exact ⟨⟨_, _, by rw [show v = ρ.root r from hv.1.1]; exact ho, k4, k3⟩, k1⟩
    ·cases h
   ·cases h
  ·cases h
 ·rename_i hav
  cases hav
  cases h
  exact ⟨⟨[], [], by rw [show v = .slice none 0 0 from rd_nil hv.1]; exact OwS.nil, by simp, by simpa using hnd⟩, fun x hx => hx⟩
 ·cases h
theorem OwS.src {e n : Nat} {l : List (List C)} {v : Value} {xs : List Value} {F : List Nat} (h : OwS w e n l v xs F) : ∃ ao cap, v = .slice ao l.length cap ∧ SrcAt w ao xs ∧ xs.length = l.length * n := by
 obtain ⟨Fs, ⟨h1, h2, h3⟩, _⟩ := h
 have hc := fun g (hg : v.ownBlock = some g) => h1.cells hg
 rcases h1.2 with ⟨rfl, h0⟩ | ⟨g, cap, cur, rfl, _⟩
 ·exact ⟨none, 0, by rw [h0], .inl (by have := h1.1; rw [h0] at this; exact List.eq_nil_of_length_eq_zero (by simpa using this)), h1.1⟩
 ·exact ⟨_, cap, rfl, .inr ⟨_, rfl, hc g rfl⟩, h1.1⟩
theorem All3.ones : ∀ {cs : List C} {us : List Value} {Fs : List (List Nat)}, All3 (OwX w) cs us Fs → ∀ u ∈ us, u.oneCell' = true
 | [], [], [], _, u, hu => by simp at hu
 | c :: cs, v :: us, F :: Fs, h, u, hu => by
  rcases List.mem_cons.1 hu with rfl | hu
  ·exact (h.1.read (H := fun b => w.heap[b]?) fun _ _ => rfl).one
  ·exact All3.ones h.2 u hu
 | [], _ :: _, _, h, _, _ => h.elim
 | [], [], _ :: _, h, _, _ => h.elim
 | _ :: _, [], _, h, _, _ => h.elim
 | _ :: _, _ :: _, [], h, _, _ => h.elim
def lenBy (TT : List (Nat × TI)) (e : Nat) : Bool :=
 match lk TT e with
 | some i => Nat.ble i.bytes 100000
 | none => false
theorem app_core {t e n : Nat} {d : Tmp} {s x : Operand} {l1 l2 : List (List C)} {v : Value} {xs news : List Value} {F1 : List Nat} {Fs2 : List (List Nat)} {ao : Option Addr} {cap : Nat} (hT : TTOk P TT) (ht : eSz TT t = some (e, n)) (hby : lenBy TT e = true) (hb : l1.length + l2.length ≤ 1000000000)
  (hs : a.eval s = v) (hd : OwS w e n l1 v xs F1) (hx : a.eval x = .slice ao l2.length cap) (hsrc : SrcAt w ao news) (hl2 : ∀ cs ∈ l2, cs.length = n) (h3 : All3 (OwX w) l2.flatten news Fs2) (hdj : ∀ b ∈ v.ownBlock.toList, b ∉ Fs2.flatten) (hnd1 : F1.Nodup) :
  ∃ v' w' Fi, (∀ ty pos af g, (execOp a.eval ⟨some d, .call ⟨.builtin .append, #[s, x], #[t, t]⟩, ty, pos, af, g⟩).run P w = .ok (.value v') w') ∧ F1 = v.ownBlock.toList ++ Fi ∧ OwS w' e n (l1 ++ l2) v' (xs ++ news) (v'.ownBlock.toList ++ (Fi ++ Fs2.flatten)) ∧ Chg w w' v.ownBlock.toList ∧ (v'.ownBlock = v.ownBlock ∨ v'.ownBlock = some w.heap.size) := by
 obtain ⟨hu, i, hi, hin⟩ := eSz_ok hT ht
 obtain ⟨inf, hinf, hsz1, hby1, hz⟩ := hi.info
 have hbb : i.bytes ≤ 100000 := by
  unfold lenBy at hby
  split at hby
  ·rename_i i2 hi2
   have hi2' := hT e i2 hi2
   obtain ⟨inf2, hinf2, _, hby2, _⟩ := hi2'.info
   rw [hinf] at hinf2
   cases hinf2
   rw [← hby1, hby2]
   exact Nat.le_of_ble_eq_true hby
  ·cases hby
 have hpos : 0 < n := by rw [← hin]; exact hi.pos
 have hz1 : ∀ c ∈ i.zero, (cv c).oneCell' = true := fun c hc => ((hi.zero c hc).1 (fun _ => none)).one
 have hcells : (if i.sh.agg then Value.agg (i.zero.map cv).toArray else (i.zero.map cv).headD undef).cells = (i.zero.map cv).toArray := cells_mk (g := i.sh.agg) (us := i.zero.map cv) (fun hg => by rw [List.length_map, hi.len, hi.one hg]) (fun u hu => by obtain ⟨c, hc, rfl⟩ := List.mem_map.1 hu; exact hz1 c hc)
 obtain ⟨Fs1, ⟨h1, h2, h4⟩, rfl⟩ := hd
 have hnl : news.length = l2.length * n := by rw [h3.lenV, flat_length hl2]
 have hbytes : (l1.length + l2.length) * i.bytes ≤ 140737488355328 := by
  have := Nat.mul_le_mul hb hbb
  omega
 obtain ⟨v', w', hr, k1, k2, k3⟩ := run_append_src (P := P) (w := w) t 0 e inf _ n i.bytes hu hinf hz (hsz1.trans hin) hby1 (by rw [hcells]; simp [hi.len, hin]) hpos v l1.length xs h1 ao l2.length cap news hnl hsrc h3.ones (by simp only [maxLen]; omega) hbytes
 refine ⟨v', w', Fs1.flatten, fun ty pos af g => ?_, rfl, ⟨Fs1 ++ Fs2, ⟨by rw [List.length_append]; exact k1, ?_, ?_⟩, by simp⟩, ⟨k2.os, k2.tape, k2.output, k2.size, fun k hk hn => k2.block k hk fun e => hn (by rw [← e]; simp)⟩, k3⟩
 ·have hr' : (Builtin.append_ #[t, t] ty #[v, .slice ao l2.length cap]).run P w = .ok v' w' := hr
  simp [execOp, resolve, invoke, builtin, hs, hx, hr']
 ·intro cs hcs
  rcases List.mem_append.1 hcs with h | h
  ·exact h2 cs h
  ·exact hl2 cs h
 ·rw [List.flatten_append]
  have hkeep : ∀ b, b < w.heap.size → b ∉ v.ownBlock.toList → w'.heap[b]? = w.heap[b]? := fun b hb hn => k2.block b hb fun e => hn (by rw [← e]; simp)
  have hn1 := (List.nodup_append.1 hnd1).2.2
  have hlt1 := OwX.all_lt h4
  have hlt2 := OwX.all_lt h3
  exact All3.append (OwX.all_keep h4 fun b hb => hkeep b (hlt1 b hb) fun hm => hn1 b hm b hb rfl) (OwX.all_keep h3 fun b hb => hkeep b (hlt2 b hb) fun hm => hdj b hm hb)
theorem app_end {R R' : RL} {T : List (Nat × AV)} {B : List (Nat × Nat × List AC)} {M : List (Nat × (Int → Option Value))} {d e n : Nat} {l : List (List C)} {v v' : Value} {zs : List Value} {Fi F2 : List Nat} {w' : World} (hs : Sim X ρ ⟨T, B, R, M⟩ a w) (hN : okD X d = true) (hf : freshR d ⟨T, B, R', M⟩ = true)
  (hsub : ∀ x ∈ R', x ∈ R) (hF : ∀ b ∈ v.ownBlock.toList ++ (Fi ++ F2), b ∈ fts ρ R) (hnd : (v.ownBlock.toList ++ (Fi ++ F2) ++ fts ρ R').Nodup) (ho : OwS w' e n l v' zs (v'.ownBlock.toList ++ (Fi ++ F2))) (hc : Chg w w' v.ownBlock.toList) (hv : v'.ownBlock = v.ownBlock ∨ v'.ownBlock = some w.heap.size) :
  ∃ ρ', Sim X ρ' ⟨(d, .p false [.rt d]) :: T, B, (d, e, n, l) :: R', M⟩ (a.put (some d) v') w' := by
 have hltR : ∀ b ∈ fts ρ R, b < w.heap.size := fun b hb => hs.hp.lt b (List.mem_append_right _ (List.mem_append_left _ hb))
 have hne : (v'.ownBlock.toList ++ (Fi ++ F2) ++ fts ρ R').Nodup := by
  rcases hv with hv | hv
  ·rw [hv]; exact hnd
  ·rw [hv]
   have h2 : ((Fi ++ F2) ++ fts ρ R').Nodup := by
    rw [List.append_assoc] at hnd; exact (List.nodup_append.1 hnd).2.1
   show (w.heap.size :: ((Fi ++ F2) ++ fts ρ R')).Nodup
   refine List.nodup_cons.2 ⟨fun hm => ?_, h2⟩
   have : w.heap.size ∈ fts ρ R := by
    rcases List.mem_append.1 hm with hm | hm
    ·exact hF _ (List.mem_append_right _ hm)
    ·obtain ⟨x, hx, hb⟩ := List.mem_flatMap.1 hm
     exact List.mem_flatMap.2 ⟨x, hsub x hx, hb⟩
   exact Nat.lt_irrefl _ (hltR _ this)
 refine ⟨_, (hs.reroot (R' := R') (nm := d) (ty := e) (n := n) (l := l) (u := v') (xs := zs) (F := v'.ownBlock.toList ++ (Fi ++ F2)) (w' := w') (G := v.ownBlock.toList) hsub hne (fun b hb => ?_) hc (fun b hb => ⟨hF b (List.mem_append_left _ hb), fun hm => (List.nodup_append.1 hnd).2.2 b (List.mem_append_left _ hb) b hm rfl⟩) ho hf).put hN (root_rep ho.one)⟩
 rcases List.mem_append.1 hb with hb | hb
 ·rcases hv with hv | hv
  ·rw [hv] at hb; exact .inl (hF b (List.mem_append_left _ hb))
  ·rw [hv] at hb
   simp only [Option.toList_some, List.mem_singleton] at hb
   exact .inr om
 ·exact .inl (hF b (List.mem_append_right _ hb))
theorem app_end1 {R R' : RL} {T : List (Nat × AV)} {B : List (Nat × Nat × List AC)} {M : List (Nat × (Int → Option Value))} {d e n : Nat} {l : List (List C)} {v v' : Value} {zs : List Value} {Fi F2 : List Nat} {w' : World} (hs : Sim X ρ ⟨T, B, R, M⟩ a w) (hN : okD X d = true) (hf : freshR d ⟨T, B, R', M⟩ = true) {t i j : Nat} {v0 : Value} (hv0 : a.tmps[t]? = some v0) (hz0 : zs[i * n + j]? = some v0) (ho0 : v0.oneCell' = true)
  (hsub : ∀ x ∈ R', x ∈ R) (hF : ∀ b ∈ v.ownBlock.toList ++ (Fi ++ F2), b ∈ fts ρ R) (hnd : (v.ownBlock.toList ++ (Fi ++ F2) ++ fts ρ R').Nodup) (ho : OwS w' e n l v' zs (v'.ownBlock.toList ++ (Fi ++ F2))) (hc : Chg w w' v.ownBlock.toList) (hv : v'.ownBlock = v.ownBlock ∨ v'.ownBlock = some w.heap.size) :
  ∃ ρ', Sim X ρ' ⟨(d, .p false [.rt d]) :: (t, .p false [.sub d n i j]) :: T, B, (d, e, n, l) :: R', M⟩ (a.put (some d) v') w' := by
 have hltR : ∀ b ∈ fts ρ R, b < w.heap.size := fun b hb => hs.hp.lt b (List.mem_append_right _ (List.mem_append_left _ hb))
 have hne : (v'.ownBlock.toList ++ (Fi ++ F2) ++ fts ρ R').Nodup := by
  rcases hv with hv | hv
  ·rw [hv]; exact hnd
  ·rw [hv]
   have h2 : ((Fi ++ F2) ++ fts ρ R').Nodup := by
    rw [List.append_assoc] at hnd; exact (List.nodup_append.1 hnd).2.1
   show (w.heap.size :: ((Fi ++ F2) ++ fts ρ R')).Nodup
   refine List.nodup_cons.2 ⟨fun hm => ?_, h2⟩
   have : w.heap.size ∈ fts ρ R := by
    rcases List.mem_append.1 hm with hm | hm
    ·exact hF _ (List.mem_append_right _ hm)
    ·obtain ⟨x, hx, hb⟩ := List.mem_flatMap.1 hm
     exact List.mem_flatMap.2 ⟨x, hsub x hx, hb⟩
   exact Nat.lt_irrefl _ (hltR _ this)
 refine ⟨_, ((hs.reroot (R' := R') (nm := d) (ty := e) (n := n) (l := l) (u := v') (xs := zs) (F := v'.ownBlock.toList ++ (Fi ++ F2)) (w' := w') (G := v.ownBlock.toList) hsub hne (fun b hb => ?_) hc (fun b hb => ⟨hF b (List.mem_append_left _ hb), fun hm => (List.nodup_append.1 hnd).2.2 b (List.mem_append_left _ hb) b hm rfl⟩) ho hf).know (t := t) (av := .p false [.sub d n i j]) hv0 ⟨⟨by show (if d = d then zs else ρ.rows d)[i * n + j]? = some v0; rw [if_pos rfl]; exact hz0, ho0⟩, trivial⟩).put hN (root_rep ho.one)⟩
 rcases List.mem_append.1 hb with hb | hb
 ·rcases hv with hv | hv
  ·rw [hv] at hb; exact .inl (hF b (List.mem_append_left _ hb))
  ·rw [hv] at hb
   simp only [Option.toList_some, List.mem_singleton] at hb
   exact .inr om
 ·exact .inl (hF b (List.mem_append_right _ hb))
variable {T : List (Nat × AV)} {B : List (Nat × Nat × List AC)} {R R1 R2 : RL} {M : List (Nat × (Int → Option Value))}
theorem e_app {t d e n k ty2 n2 : Nat} {s x : Operand} {l1 l2 : List (List C)} (hT : TTOk P TT) (ht : eSz TT t = some (e, n)) (hby : lenBy TT e = true) (h1 : appD e n R (opv T s) = some (l1, R1)) (hx : opv T x = some (.p false [.rt k])) (h2 : lk R1 k = some (ty2, n2, l2)) (hn2 : Nat.beq n2 n = true) (hR2 : R2 = eraR k R1)
  (hb : l1.length + l2.length ≤ 1000000000) (hN : okD X d = true) (hf : freshR d ⟨T, B, R2, M⟩ = true) : Eff P X ⟨T, B, R, M⟩ (some d) (.call ⟨.builtin .append, #[s, x], #[t, t]⟩) ⟨(d, .p false [.rt d]) :: T, B, (d, e, n, l1 ++ l2) :: R2, M⟩ false := by
 intro ρ a w hs
 obtain rfl := Nat.eq_of_beq_eq_true hn2
 subst hR2
 cases hsv : opv T s with
 | none => rw [hsv] at h1; simp [appD] at h1
 | some av =>
  rw [hsv] at h1
  have hd := appD_ok hs.hp.R (hp_rnd hs.hp) h1 (opv_rep hs hsv)
  obtain ⟨⟨xs, F, ho, hF, hnd⟩, hsub⟩ := hd
  have hu : a.eval x = ρ.root k := (opv_rep hs hx).1.1
  obtain ⟨j1, j2, j3, j4⟩ := era_own (ρ := ρ) h2 (List.nodup_append.1 hnd).2.1
  have ho2 := hs.hp.R _ (hsub _ j2)
  obtain ⟨ao, cap, e1, e2, e3⟩ := ho2.src
  obtain ⟨Fs2, ⟨g1, g2, g3⟩, g4⟩ := ho2
  have hF2 : ∀ b ∈ Fs2.flatten, b ∈ ρ.foot k := fun b hb => by show b ∈ ρ.foot (k, ty2, n2, l2).1; rw [g4]; exact List.mem_append_right _ hb
  obtain ⟨Fs1, _, hFe⟩ := id ho
  have hdj : ∀ b ∈ (a.eval s).ownBlock.toList, b ∉ Fs2.flatten := fun b hb hm => (List.nodup_append.1 hnd).2.2 b (by rw [hFe]; exact List.mem_append_left _ hb) b (j4 b (hF2 b hm)) rfl
  obtain ⟨v', w', Fi, k1, k2, k3, k4, k5⟩ := app_core (d := d) hT ht hby hb rfl ho (hu.trans e1) e2 g2 g3 hdj (List.nodup_append.1 hnd).1
  have hall : ((a.eval s).ownBlock.toList ++ (Fi ++ Fs2.flatten) ++ fts ρ (eraR k R1)).Nodup := by
   have h9 : (F ++ (ρ.foot k ++ fts ρ (eraR k R1))).Nodup := List.nodup_append.2 ⟨(List.nodup_append.1 hnd).1, j3, fun b hb c hc e => (List.nodup_append.1 hnd).2.2 b hb c (by
    rcases List.mem_append.1 hc with hc | hc
    ·exact j4 c hc
    ·obtain ⟨y, hy, hc⟩ := List.mem_flatMap.1 hc
     exact List.mem_flatMap.2 ⟨y, j1 y hy, hc⟩) e⟩
   have hsl : (Fs2.flatten ++ fts ρ (eraR k R1)).Sublist (ρ.foot k ++ fts ρ (eraR k R1)) := by
    show List.Sublist _ (ρ.foot (k, ty2, n2, l2).1 ++ _)
    rw [g4, List.append_assoc]; exact List.sublist_append_right _ _
   rw [k2] at h9
   have := h9.sublist ((List.Sublist.refl _).append hsl)
   simpa [List.append_assoc] using this
  obtain ⟨ρ', hS⟩ := app_end (hs := hs) hN hf (fun y hy => hsub y (j1 y hy)) (fun b hb => by
   rw [← List.append_assoc, ← k2] at hb
   rcases List.mem_append.1 hb with hb | hb
   ·exact hF b hb
   ·have := j4 b (hF2 b hb)
    obtain ⟨y, hy, hb⟩ := List.mem_flatMap.1 this
    exact List.mem_flatMap.2 ⟨y, hsub y hy, hb⟩) hall k3 k4 k5
  exact ⟨ρ', .value v', v', w', k1, .inl rfl, hS, by intro h; cases h⟩
theorem e_app1 {t d e n k ty2 n2 : Nat} {s x : Operand} {l1 l2 : List (List C)} (hT : TTOk P TT) (ht : eSz TT t = some (e, n)) (hby : lenBy TT e = true) (h1 : appD e n R (opv T s) = some (l1, R1)) (hx : opv T x = some (.p false [.rt k])) (h2 : lk R1 k = some (ty2, n2, l2)) (hn2 : Nat.beq n2 n = true) (hR2 : R2 = eraR k R1)
  (hb : l1.length + l2.length ≤ 1000000000) (hN : okD X d = true) (hf : freshR d ⟨T, B, R2, M⟩ = true) {s0 i0 j0 : Nat} (hs0 : lk T s0 = some (.p false [.sub k n i0 j0])) : Eff P X ⟨T, B, R, M⟩ (some d) (.call ⟨.builtin .append, #[s, x], #[t, t]⟩) ⟨(d, .p false [.rt d]) :: (s0, .p false [.sub d n (l1.length + i0) j0]) :: T, B, (d, e, n, l1 ++ l2) :: R2, M⟩ false := by
 intro ρ a w hs
 obtain rfl := Nat.eq_of_beq_eq_true hn2
 subst hR2
 cases hsv : opv T s with
 | none => rw [hsv] at h1; simp [appD] at h1
 | some av =>
  rw [hsv] at h1
  have hd := appD_ok hs.hp.R (hp_rnd hs.hp) h1 (opv_rep hs hsv)
  obtain ⟨⟨xs, F, ho, hF, hnd⟩, hsub⟩ := hd
  have hu : a.eval x = ρ.root k := (opv_rep hs hx).1.1
  obtain ⟨j1, j2, j3, j4⟩ := era_own (ρ := ρ) h2 (List.nodup_append.1 hnd).2.1
  have ho2 := hs.hp.R _ (hsub _ j2)
  obtain ⟨ao, cap, e1, e2, e3⟩ := ho2.src
  obtain ⟨Fs2, ⟨g1, g2, g3⟩, g4⟩ := ho2
  have hF2 : ∀ b ∈ Fs2.flatten, b ∈ ρ.foot k := fun b hb => by show b ∈ ρ.foot (k, ty2, n2, l2).1; rw [g4]; exact List.mem_append_right _ hb
  obtain ⟨Fs1, _, hFe⟩ := id ho
  have hdj : ∀ b ∈ (a.eval s).ownBlock.toList, b ∉ Fs2.flatten := fun b hb hm => (List.nodup_append.1 hnd).2.2 b (by rw [hFe]; exact List.mem_append_left _ hb) b (j4 b (hF2 b hm)) rfl
  obtain ⟨v', w', Fi, k1, k2, k3, k4, k5⟩ := app_core (d := d) hT ht hby hb rfl ho (hu.trans e1) e2 g2 g3 hdj (List.nodup_append.1 hnd).1
  have hall : ((a.eval s).ownBlock.toList ++ (Fi ++ Fs2.flatten) ++ fts ρ (eraR k R1)).Nodup := by
   have h9 : (F ++ (ρ.foot k ++ fts ρ (eraR k R1))).Nodup := List.nodup_append.2 ⟨(List.nodup_append.1 hnd).1, j3, fun b hb c hc e => (List.nodup_append.1 hnd).2.2 b hb c (by
    rcases List.mem_append.1 hc with hc | hc
    ·exact j4 c hc
    ·obtain ⟨y, hy, hc⟩ := List.mem_flatMap.1 hc
     exact List.mem_flatMap.2 ⟨y, j1 y hy, hc⟩) e⟩
   have hsl : (Fs2.flatten ++ fts ρ (eraR k R1)).Sublist (ρ.foot k ++ fts ρ (eraR k R1)) := by
    show List.Sublist _ (ρ.foot (k, ty2, n2, l2).1 ++ _)
    rw [g4, List.append_assoc]; exact List.sublist_append_right _ _
   rw [k2] at h9
   have := h9.sublist ((List.Sublist.refl _).append hsl)
   simpa [List.append_assoc] using this
  obtain ⟨v0, hv0, hv1⟩ := hs.T s0 _ hs0
  have hxl : xs.length = l1.length * n2 := by obtain ⟨_, ⟨q, _⟩, _⟩ := ho; exact q.1
  obtain ⟨ρ', hS⟩ := app_end1 (hs := hs) (t := s0) (i := l1.length + i0) (j := j0) hN hf hv0 (by rw [Nat.add_mul, Nat.add_assoc, ← hxl, List.getElem?_append_right om, Nat.add_sub_cancel_left]; exact hv1.1.1) hv1.1.2 (fun y hy => hsub y (j1 y hy)) (fun b hb => by
   rw [← List.append_assoc, ← k2] at hb
   rcases List.mem_append.1 hb with hb | hb
   ·exact hF b hb
   ·have := j4 b (hF2 b hb)
    obtain ⟨y, hy, hb⟩ := List.mem_flatMap.1 this
    exact List.mem_flatMap.2 ⟨y, hsub y hy, hb⟩) hall k3 k4 k5
  exact ⟨ρ', .value v', v', w', k1, .inl rfl, hS, by intro h; cases h⟩
def Flat (l : List (List C)) : Prop := ∀ cs ∈ l, ∀ c ∈ cs, ∃ x, c = .v x
theorem flat_own : ∀ {cs : List C} {us : List Value}, (∀ c ∈ cs, ∃ x, c = .v x) → L2 (RdX fun b => w.heap[b]?) cs us → All3 (OwX w) cs us (cs.map fun _ => []) 
 | [], [], _, _ => trivial
 | c :: cs, u :: us, hf, h => by
  obtain ⟨x, rfl⟩ := hf c (by simp)
  exact ⟨⟨0, oneV h.1, rfl⟩, flat_own (fun c hc => hf c (by simp [hc])) h.2⟩
 | [], _ :: _, _, h => h.elim
 | _ :: _, [], _, h => h.elim
theorem flat_nil {cs : List C} : (cs.map fun _ => ([] : List Nat)).flatten = [] := by
 induction cs with
 | nil => rfl
 | cons c cs ih => simp
theorem rd_src {n : Nat} {l : List (List C)} {u : Value} (h : RdX (fun b => w.heap[b]?) (.s n l) u) : ∃ ao cap us, u = .slice ao l.length cap ∧ SrcAt w ao us ∧ L2 (RdX fun b => w.heap[b]?) l.flatten us ∧ ∀ cs ∈ l, cs.length = n := by
 obtain ⟨ao, cap, hu, h1, h2, h3, h4⟩ := rd_s h
 rcases h4 with rfl | ⟨b, off, rfl, h5⟩
 ·exact ⟨ao, cap, [], hu, .inl rfl, trivial, by simp⟩
 ·have key : ∀ (l : List (List C)) (off : Nat), (∀ cs ∈ l, cs.length = n) → (∀ k cs, l[k]? = some cs → ∀ j c, cs[j]? = some c → ∃ x, rcell (fun b => w.heap[b]?) b (off + k * n + j) = some x ∧ RdX (fun b => w.heap[b]?) c x) →
    ∃ us : List Value, L2 (RdX fun b => w.heap[b]?) l.flatten us ∧ ∀ j u, us[j]? = some u → rcell (fun b => w.heap[b]?) b (off + j) = some u := by
   intro l
   induction l with
   | nil => intro off _ _; exact ⟨[], trivial, by simp⟩
   | cons cs l ih =>
    intro off hall h
    obtain ⟨us2, m1, m2⟩ := ih (off + n) (fun x hx => hall x (by simp [hx])) fun k ds hk j c hj => by
     obtain ⟨x, h6, h7⟩ := h (k + 1) ds (by simpa using hk) j c hj
     exact ⟨x, by rw [show off + n + k * n + j = off + (k + 1) * n + j by rw [Nat.succ_mul]; omega]; exact h6, h7⟩
    have row : ∀ (cs : List C) (off : Nat), (∀ j c, cs[j]? = some c → ∃ x, rcell (fun b => w.heap[b]?) b (off + j) = some x ∧ RdX (fun b => w.heap[b]?) c x) → ∃ us : List Value, L2 (RdX fun b => w.heap[b]?) cs us ∧ ∀ j u, us[j]? = some u → rcell (fun b => w.heap[b]?) b (off + j) = some u := by
     intro cs
     induction cs with
     | nil => intro off _; exact ⟨[], trivial, by simp⟩
     | cons c cs ih2 =>
      intro off h
      obtain ⟨x, h6, h7⟩ := h 0 c rfl
      obtain ⟨us, h8, h9⟩ := ih2 (off + 1) fun j c hj => by
       obtain ⟨x, h6, h7⟩ := h (j + 1) c (by simpa using hj)
       exact ⟨x, by rw [show off + 1 + j = off + (j + 1) by omega]; exact h6, h7⟩
      refine ⟨x :: us, ⟨h7, h8⟩, fun j u hj => ?_⟩
      cases j with
      | zero => simp only [List.getElem?_cons_zero, Option.some.injEq] at hj; subst hj; exact h6
      | succ j => rw [show off + (j + 1) = off + 1 + j by omega]; exact h9 j u (by simpa using hj)
    obtain ⟨us1, m3, m4⟩ := row cs off fun j c hj => by
     obtain ⟨x, h6, h7⟩ := h 0 cs rfl j c hj
     exact ⟨x, by rw [show off + j = off + 0 * n + j by omega]; exact h6, h7⟩
    have hlen : us1.length = n := by rw [m3.len]; exact hall cs (by simp)
    refine ⟨us1 ++ us2, by rw [List.flatten_cons]; exact m3.append m1, fun j u hj => ?_⟩
    rw [List.getElem?_append] at hj
    split at hj
    ·exact m4 j u hj
    ·rename_i hge
     rw [show off + j = off + n + (j - us1.length) by omega]
     exact m2 _ u hj
  obtain ⟨us, m1, m2⟩ := key l off h3 h5
  refine ⟨_, cap, us, hu, .inr ⟨_, rfl, fun j u hj => ?_⟩, m1, h3⟩
  rw [addr_add]
  exact rcell_cell (fun b o h => h) (m2 j u hj)
theorem e_app_c {t d e n : Nat} {s x : Operand} {y : AC} {l1 l2 : List (List C)} (hT : TTOk P TT) (ht : eSz TT t = some (e, n)) (hby : lenBy TT e = true) (h1 : appD e n R (opv T s) = some (l1, R1)) (hx : opv T x = some (.p false [y])) (hy : RsC ⟨T, B, R, M⟩ y (.s n l2)) (hfl : Flat l2)
  (hb : l1.length + l2.length ≤ 1000000000) (hN : okD X d = true) (hf : freshR d ⟨T, B, R1, M⟩ = true) : Eff P X ⟨T, B, R, M⟩ (some d) (.call ⟨.builtin .append, #[s, x], #[t, t]⟩) ⟨(d, .p false [.rt d]) :: T, B, (d, e, n, l1 ++ l2) :: R1, M⟩ false := by
 intro ρ a w hs
 cases hsv : opv T s with
 | none => rw [hsv] at h1; simp [appD] at h1
 | some av =>
  rw [hsv] at h1
  have hd := appD_ok hs.hp.R (hp_rnd hs.hp) h1 (opv_rep hs hsv)
  obtain ⟨⟨xs, F, ho, hF, hnd⟩, hsub⟩ := hd
  have hrd := RsC.rd hs.hp (opv_rep hs hx).1 hy
  obtain ⟨ao, cap, us, e1, e2, e3, e4⟩ := rd_src hrd
  have hfo := flat_own (fun c hc => by obtain ⟨cs, hcs, hc⟩ := List.mem_flatten.1 hc; exact hfl cs hcs c hc) e3
  obtain ⟨v', w', Fi, k1, k2, k3, k4, k5⟩ := app_core (d := d) hT ht hby hb rfl ho e1 e2 e4 hfo (by rw [flat_nil]; simp) (List.nodup_append.1 hnd).1
  rw [flat_nil] at k3
  obtain ⟨ρ', hS⟩ := app_end (hs := hs) (F2 := []) hN hf hsub (fun b hb => by
   simp only [List.append_nil] at hb
   rw [← k2] at hb
   exact hF b hb) (by simp only [List.append_nil]; rw [← k2]; exact hnd) k3 k4 k5
  exact ⟨ρ', .value v', v', w', k1, .inl rfl, hS, by intro h; cases h⟩
end
end Go.Proofs.YtahkjonokeifmaaGreat
