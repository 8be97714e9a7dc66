/- Structs put together, cells of boxes written, literal slices, appends, on states. No program in it. -/
import Derived.Test.YtphaggopgdbojaaGreatRiV5
namespace Go.Proofs.YtphaggopgdbojaaGreat
open Go.ChangeShapes Go.WideShapes Go.ChangeAt Go.RowKit
set_option linter.unusedVariables false
/-- xs put at place n -/
def putO {α : Type} : Nat → List α → List α → Option (List α)
  | 0, [], r => some r
  | 0, _ :: _, [] => none
  | 0, x :: xs, _ :: r => match putO 0 xs r with
    | some r' => some (x :: r')
    | none => none
  | _ + 1, _, [] => none
  | n + 1, xs, y :: r => match putO n xs r with
    | some r' => some (y :: r')
    | none => none
theorem putO_eq {α : Type} : ∀ {n : Nat} {xs r s : List α}, putO n xs r = some s → s = r.take n ++ xs ++ r.drop (n + xs.length) ∧ n + xs.length ≤ r.length
  | 0, [], r, s, h => by simp [putO] at h; subst h; simp
  | 0, _ :: _, [], _, h => by simp [putO] at h
  | 0, x :: xs, y :: r, s, h => by
    unfold putO at h
    split at h
    · rename_i r' hr
      cases h
      obtain ⟨rfl, h2⟩ := putO_eq hr
      refine ⟨by simp, by simp at h2 ⊢; omega⟩
    · cases h
  | n + 1, xs, [], _, h => by cases xs <;> simp [putO] at h
  | n + 1, xs, y :: r, s, h => by
    have h' : (match putO n xs r with | some r' => some (y :: r') | none => none) = some s := by
      rw [← h]; cases xs <;> rfl
    split at h'
    · rename_i r' hr
      cases h'
      obtain ⟨rfl, h2⟩ := putO_eq hr
      refine ⟨?_, by simp; omega⟩
      rw [show n + 1 + xs.length = (n + xs.length) + 1 by omega]
      simp
    · cases h'
theorem L2.put {α β : Type} {R : α → β → Prop} {n : Nat} {xs r s : List α} {us bs : List β} (h : putO n xs r = some s) (h1 : L2 R r bs) (h2 : L2 R xs us) : L2 R s (bs.take n ++ us ++ bs.drop (n + us.length)) := by
  obtain ⟨rfl, _⟩ := putO_eq h
  rw [h2.len]
  exact ((h1.take n).append h2).append (h1.drop _)
theorem fold_set : ∀ (vs : List Value) (o k : Nat) (cs : Array Value), o + k + vs.length ≤ cs.size →
    ((vs.zipIdx k).foldl (fun cs (p : Value × Nat) => cs.setIfInBounds (o + p.2) p.1) cs) = (cs.toList.take (o + k) ++ vs ++ cs.toList.drop (o + k + vs.length)).toArray
  | [], o, k, cs, _ => by simp
  | v :: vs, o, k, cs, h => by
    simp only [List.length_cons] at h
    rw [List.zipIdx_cons, List.foldl_cons, fold_set vs o (k + 1) _ (by simp; omega)]
    congr 1
    simp only [Array.toList_setIfInBounds]
    have hlt : o + k < cs.toList.length := by simp; omega
    rw [show o + (k + 1) = (o + k) + 1 by omega, List.take_add_one, List.take_set_of_le (Nat.le_refl _), List.drop_set_of_lt (by omega), List.getElem?_set_self hlt]
    simp only [Option.toList_some, List.append_assoc, List.cons_append, List.nil_append, List.length_cons]
    rw [show o + k + (vs.length + 1) = o + k + 1 + vs.length by omega]
def lenB {α : Type} : List α → Nat → Bool
  | [], 0 => true
  | _ :: r, n + 1 => lenB r n
  | _, _ => false
theorem lenB_eq {α : Type} : ∀ {l : List α} {n : Nat}, lenB l n = true → l.length = n
  | [], 0, _ => rfl
  | _ :: r, n + 1, h => by simp [lenB_eq (l := r) h]
  | [], _ + 1, h => by cases h
  | _ :: _, 0, h => by cases h
def qParts (S : St) (pl : Nat → Option (Nat × Nat)) : List (Nat × Operand) → List AC → Option (List AC)
  | [], base => some base
  | (k, x) :: r, base => match pl k with
    | some (off, sz) => match opv S.T x with
      | some (.p _ l) => match lenB l sz with
        | true => match putO off l base with
          | some b' => qParts S pl r b'
          | none => none
        | false => none
      | _ => none
    | none => none
section
variable {P : Program} {X : Cx} {S : St} {TT : List (Nat × TI)} {d : Nat}
theorem qParts_ok {ρ : Rho} {a : Act} {w : World} (hs : Sim X ρ S a w) {pl : Nat → Option (Nat × Nat)} : ∀ {parts : List (Nat × Operand)} {base l : List AC} {bs : List Value}, qParts S pl parts base = some l → L2 (RepC ρ) base bs →
    ∃ us : List Value, Instr.fill pl bs.toArray (parts.map fun (i, x) => (i, a.eval x)) = some us.toArray ∧ L2 (RepC ρ) l us
  | [], base, l, bs, h, hb => by cases h; exact ⟨bs, rfl, hb⟩
  | (k, x) :: r, base, l, bs, h, hb => by
    unfold qParts at h
    split at h
    · rename_i off sz hp
      split at h
      · rename_i g cs hx
        split at h
        · rename_i hl
          split at h
          · rename_i b' hb'
            obtain ⟨vs, h1, h2, h3⟩ := rep_cells (opv_rep hs hx)
            have hlen := lenB_eq hl
            have hput := L2.put hb' hb h1
            obtain ⟨us, h4, h5⟩ := qParts_ok hs h hput
            refine ⟨us, ?_, h5⟩
            have hc := cells_mk h3 h1.ones
            have hvl : vs.length = sz := by rw [h1.len, hlen]
            have hle : off + vs.length ≤ bs.length := by rw [h1.len, hb.len]; exact (putO_eq hb').2
            have hfold := fold_set vs off 0 bs.toArray (by simpa using hle)
            simp only [Nat.add_zero] at hfold
            rw [List.map_cons, Instr.fill]
            simp only [hp, h2, hc]
            rw [if_neg (by simp; omega)]
            have e : (vs.toArray.zipIdx.foldl (fun cs (p : Value × Nat) => cs.setIfInBounds (off + p.2) p.1) bs.toArray) = (bs.take off ++ vs ++ bs.drop (off + vs.length)).toArray := by
              rw [← hfold, ← Array.foldl_toList]
              simp
            have e2 : (vs.toArray.zipIdx.foldl (fun cs (x : Value × Nat) => match x with | (c, j) => cs.setIfInBounds (off + j) c) bs.toArray) = (bs.take off ++ vs ++ bs.drop (off + vs.length)).toArray := e
            rw [e2]
            exact h4
          · cases h
        · cases h
      · cases h
    · cases h
def plc (l : List (Nat × Nat × Bool)) (k : Nat) : Option (Nat × Nat) :=
  match nthO k l with
  | some (o, s, _) => some (o, s)
  | none => none
def qBuild (TT : List (Nat × TI)) (S : St) (t : TypeId) (parts : List (Nat × Operand)) : Option AV :=
  match lk TT t with
  | some i => match i.sh with
    | .st l => match mapOO i.zero with
      | some z => match qParts S (plc l) parts z with
        | some r => some (.p true r)
        | none => none
      | none => none
    | .ar _ _ sz _ => match mapOO i.zero with
      | some z => match qParts S (fun k => some (k * sz, sz)) parts z with
        | some r => some (.p true r)
        | none => none
      | none => none
    | _ => none
  | none => none
theorem fldsB_places : ∀ {fs : List Field} {l : List (Nat × Nat × Bool)}, fldsB P fs l = true → fs.mapM (fun f => (P.info? f.type).map fun i => (f.offset, i.size)) = some (l.map fun x => (x.1, x.2.1))
  | [], [], _ => by simp
  | fd :: fs, (o, s, g) :: r, h => by
    simp only [fldsB, Bool.and_eq_true, decide_eq_true_eq] at h
    obtain ⟨⟨⟨⟨⟨⟨h1, h2⟩, h3⟩, h4⟩, h5⟩, h6⟩, h7⟩ := h
    have h3' : ∃ i, P.info? fd.type = some i ∧ i.size = s := by
      unfold sizB at h3
      split at h3
      · rename_i i hi; exact ⟨i, hi, by simpa using h3⟩
      · cases h3
    obtain ⟨i, hi, rfl⟩ := h3'
    simp [List.mapM_cons, hi, fldsB_places h7, h1]
  | [], _ :: _, h => by cases h
  | _ :: _, [], h => by cases h
theorem zero_rep {ρ : Rho} : ∀ {zs : List C}, (∀ c ∈ zs, (∀ H, RdX H c (cv c)) ∧ ∀ w, OwX w c (cv c) []) → L2 (RepC ρ) (mapCO zs) (zs.map cv)
  | [], _ => trivial
  | c :: zs, h => ⟨(h c (by simp)).1 _, zero_rep fun c hc => h c (by simp [hc])⟩
theorem nthO_none {α : Type} : ∀ {n : Nat} {l : List α}, nthO n l = none → l[n]? = none
  | 0, [], _ => rfl
  | _ + 1, [], _ => rfl
  | 0, _ :: _, h => by simp [nthO] at h
  | n + 1, _ :: xs, h => by simpa using nthO_none (n := n) (l := xs) (by simpa [nthO] using h)
theorem q_build {t : TypeId} {parts : List (Nat × Operand)} {av : AV} (hT : TTOk P TT) (h : qBuild TT S t parts = some av) : Quiet P X S (.build t parts.toArray) av := by
  refine quiet_of fun ρ a w hs => ?_
  unfold qBuild at h
  split at h
  · rename_i i hi
    have ht := hT t i hi
    obtain ⟨d, hd, hsb⟩ := ht.und
    obtain ⟨inf, hin, _, _, hz⟩ := ht.info
    have key : ∀ (pl : Nat → Option (Nat × Nat)) (r : List AC), qParts S pl parts (mapCO i.zero) = some r → i.sh.agg = true → (∀ us : List Value, Instr.fill pl (i.zero.map cv).toArray (parts.map fun (i, x) => (i, a.eval x)) = some us.toArray → P.built t (parts.map fun (i, x) => (i, a.eval x)) = some us.toArray) →
        ∃ v, RepV ρ (.p true r) v ∧ ∀ (d : Option Tmp) (ty : TypeId) (pos : String) (af : Array Edge) (g : Option (Nat × Bool)) (w' : World), (execOp a.eval ⟨d, .build t parts.toArray, ty, pos, af, g⟩).run P w' = .ok (.value v) w' := by
      intro pl r hr hg hb
      obtain ⟨us, h1, h2⟩ := qParts_ok hs hr (zero_rep ht.zero)
      refine ⟨.agg us.toArray, ⟨us, rfl, h2⟩, fun _ _ _ _ _ w' => ?_⟩
      have := run_build (P := P) w' t (parts.toArray.map fun (i, x) => (i, a.eval x)) us.toArray (by simpa using hb us h1)
      simp only [execOp, Sem.run_bind, this, Result.andThen_ok, Sem.run_pure]
    split at h
    · rename_i l hl
      split at h
      case h_2 => cases h
      rename_i z hz0
      obtain rfl := mapOO_eq hz0
      split at h
      · rename_i r hr
        cases h
        refine key _ r hr (by rw [hl]; rfl) fun us hu => ?_
        rw [hl] at hsb hz
        cases d <;> first | (cases hsb; done) | skip
        rename_i fields
        unfold Program.built
        simp only [hin, hd, hz]
        have hpl := fldsB_places (P := P) (fs := fields.toList) hsb
        simp only [hpl]
        rw [← hu]
        have e : (fun x => (l.map fun x => (x.1, x.2.1)).toArray[x]?) = plc l := by
          funext k
          unfold plc
          cases hk : nthO k l with
          | none => simp [nthO_none hk]
          | some x => simp [nthO_eq hk]
        simp only [e, Sh.agg, if_true, Value.cells]
      · cases h
    · rename_i n e sz g hl
      split at h
      case h_2 => cases h
      rename_i z hz0
      obtain rfl := mapOO_eq hz0
      split at h
      · rename_i r hr
        cases h
        refine key _ r hr (by rw [hl]; rfl) fun us hu => ?_
        rw [hl] at hsb hz
        cases d <;> first | (cases hsb; done) | skip
        rename_i n' e'
        simp only [shB, Bool.and_eq_true, decide_eq_true_eq] at hsb
        obtain ⟨⟨⟨⟨⟨⟨rfl, rfl⟩, _⟩, hsz⟩, _⟩, _⟩, _⟩ := hsb
        unfold sizB at hsz
        split at hsz
        · rename_i ie hie
          have hsz' : ie.size = sz := by simpa using hsz
          unfold Program.built
          simp only [hin, hd, hz, hie, hsz', Sh.agg, if_true, Value.cells]
          exact hu
        · cases hsz
      · cases h
    · cases h
  · cases h
/-! stores -/
def updB (b : Nat) (cs : List AC) : List (Nat × Nat × List AC) → Option (List (Nat × Nat × List AC))
  | [] => none
  | (k, ty, l) :: r => match Nat.beq k b with
    | true => some ((k, ty, cs) :: r)
    | false => match updB b cs r with
      | some r' => some ((k, ty, l) :: r')
      | none => none
theorem updB_eq {b : Nat} {cs : List AC} : ∀ {B B' : List (Nat × Nat × List AC)}, updB b cs B = some B' → ∃ p ty l q, B = p ++ (b, ty, l) :: q ∧ B' = p ++ (b, ty, cs) :: q ∧ lk B b = some (ty, l)
  | [], _, h => by cases h
  | (k, ty, l) :: r, B', h => by
    unfold updB at h
    split at h
    · rename_i hk
      obtain rfl := Nat.eq_of_beq_eq_true hk
      cases h
      exact ⟨[], ty, l, r, rfl, rfl, by simp [lk]⟩
    · rename_i hk
      split at h
      · rename_i r' hr
        cases h
        obtain ⟨p, ty', l', q, rfl, rfl, h3⟩ := updB_eq hr
        refine ⟨(k, ty, l) :: p, ty', l', q, rfl, rfl, ?_⟩
        simp only [lk, if_neg (beq_f hk)]
        exact h3
      · cases h
/-- one block of those that are named is written -/
theorem Hp.write {ρ : Rho} {w w' : World} (h : Hp ρ S w) {b ty : Nat} {cs l : List AC} {p q : List (Nat × Nat × List AC)} {T : List (Nat × AV)} (hB : S.B = p ++ (b, ty, l) :: q) {us : List Value} (hu : w'.heap[ρ.box b]? = some (.cells us.toArray ty (0, 0)))
    (hr : L2 (RepC ρ) cs us) (ho : ∀ k, k ≠ ρ.box b → w'.heap[k]? = w.heap[k]?) : Hp ρ ⟨T, p ++ (b, ty, cs) :: q, S.R, S.M⟩ w' := by
  have hf : feet ρ ⟨T, p ++ (b, ty, cs) :: q, S.R, S.M⟩ = feet ρ S := by unfold feet; rw [hB]; simp
  have hmem : ρ.box b ∈ feet ρ S := by unfold feet; rw [hB]; simp
  have hnd := h.nd
  have hne : ∀ x ∈ p ++ q, ρ.box x.1 ≠ ρ.box b := by
    intro x hx e
    unfold feet at hnd
    rw [hB] at hnd
    have h1 := (List.nodup_append.1 hnd).1
    simp only [List.map_append, List.map_cons] at h1
    obtain ⟨_, h2, h3⟩ := List.nodup_append.1 h1
    rcases List.mem_append.1 hx with hx | hx
    · exact h3 _ (List.mem_map.2 ⟨x, hx, rfl⟩) _ (List.mem_cons_self ..) e
    · exact (List.nodup_cons.1 h2).1 (by rw [← e]; exact List.mem_map.2 ⟨x, hx, rfl⟩)
  have hrest : ∀ k ∈ S.R.flatMap (fun x => ρ.foot x.1) ++ S.M.map (fun x => ρ.box x.1), k ≠ ρ.box b := by
    intro k hk e
    unfold feet at hnd
    rw [hB] at hnd
    exact (List.nodup_append.1 hnd).2.2 (ρ.box b) (by simp) k hk e.symm
  refine ⟨fun k o hk => ?_, fun x hx => ?_, fun x hx => ?_, fun x hx => ?_, by rw [hf]; exact h.nd, by rw [hf]; exact h.dj⟩
  · rw [ho k (fun e => by have := h.dj _ hmem; rw [← e, hk] at this; cases this)]
    exact h.H k o hk
  · have hx' : x = (b, ty, cs) ∨ x ∈ p ++ q := by
      rcases List.mem_append.1 hx with hx | hx
      · exact .inr (List.mem_append_left _ hx)
      · rcases List.mem_cons.1 hx with hx | hx
        · exact .inl hx
        · exact .inr (List.mem_append_right _ hx)
    rcases hx' with rfl | hx'
    · exact ⟨us, hu, hr⟩
    · obtain ⟨vs, h1, h2⟩ := h.B x (by rw [hB]; rcases List.mem_append.1 hx' with h9 | h9 <;> simp [h9])
      exact ⟨vs, by rw [ho _ (hne x hx')]; exact h1, h2⟩
  · exact (h.R x hx).keep fun k hk => ho k (hrest k (List.mem_append_left _ (List.mem_flatMap.2 ⟨x, hx, hk⟩)))
  · obtain ⟨es, c, h1, h2⟩ := h.M x hx
    exact ⟨es, c, by rw [ho _ (hrest _ (List.mem_append_right _ (List.mem_map.2 ⟨x, hx, rfl⟩)))]; exact h1, h2⟩
def eStore (TT : List (Nat × TI)) (S : St) (t : TypeId) (x y : Operand) : Option (List (Nat × Nat × List AC)) :=
  match lk TT t with
  | some i => match opv S.T x with
    | some (.p false [.pb b o]) => match opv S.T y with
      | some (.p _ l) => match lenB l i.size with
        | true => match lk S.B b with
          | some (_, cs) => match putO o l cs with
            | some cs' => updB b cs' S.B
            | none => none
          | none => none
        | false => none
      | _ => none
    | _ => none
  | none => none
theorem e_store {T : List (Nat × AV)} {B : List (Nat × Nat × List AC)} {R : List (Nat × Nat × Nat × List (List C))} {M : List (Nat × (Int → Option Value))} {t : TypeId} {x y : Operand} {B' : List (Nat × Nat × List AC)} (hT : TTOk P TT) (h : eStore TT ⟨T, B, R, M⟩ t x y = some B') : Eff P X ⟨T, B, R, M⟩ none (.store t x y) ⟨T, B', R, M⟩ false := by
  generalize hS : (⟨T, B, R, M⟩ : St) = S at h ⊢
  have e : (⟨T, B', R, M⟩ : St) = ⟨S.T, B', S.R, S.M⟩ := by rw [← hS]
  rw [e]
  clear e hS
  intro ρ a w hs
  unfold eStore at h
  split at h
  · rename_i i hi
    split at h
    · rename_i b o hx
      split at h
      · rename_i g l hy
        split at h
        · rename_i hl
          split at h
          · rename_i ty cs hb
            split at h
            · rename_i cs' hp
              obtain ⟨p, ty', l', q, hB, rfl, hlk⟩ := updB_eq h
              rw [hb] at hlk
              cases hlk
              have hpx : a.eval x = .pointer (some ⟨ρ.box b, o, none⟩) := (opv_rep hs hx).1
              obtain ⟨us, h1, h2, h3⟩ := rep_cells (opv_rep hs hy)
              obtain ⟨vs, h4, h5⟩ := hs.hp.B _ (lk_mem hb)
              have hle := (putO_eq hp).2
              have hul : us.length = i.size := by rw [h1.len, lenB_eq hl]
              have hput := L2.put hp h5 h1
              have hst := run_storeCells_at P (ρ.box b) o ty us 0 vs.toArray w h4 (by rw [h1.len]; simp only [List.size_toArray, Nat.add_zero]; rw [h5.len]; exact hle) h1.ones
              simp only [Nat.add_zero] at hst
              have hc := cells_mk h3 h1.ones
              have ht := hT t i hi
              have hmem : ρ.box b ∈ feet ρ S := by unfold feet; rw [hB]; simp
              refine ⟨ρ, .skip, undef, w.setRow (ρ.box b) (vs.take o ++ us ++ vs.drop (o + us.length)).toArray, fun _ _ _ _ => ?_, .inr ⟨rfl, rfl⟩, ?_, by intro h; cases h⟩
              · have hrun : (storeVar t ⟨ρ.box b, o, none⟩ (mkV g us)).run P w = .ok () (w.setRow (ρ.box b) (vs.take o ++ us ++ vs.drop (o + us.length)).toArray) := by
                  unfold storeVar
                  simp only [Sem.run_bind, ht.sizeOf, Result.andThen_ok, hc]
                  simp [hul, hst]
                simp [execOp, Instr.storeAt, Instr.sureAddr, hpx, h2, hrun]
              · have hw := hs.hp.write (T := S.T) hB (setRow_heap w (ρ.box b) vs.toArray _ ty (0, 0) h4) hput (fun k hk => setRow_other w (ρ.box b) k _ hk)
                refine ⟨hw, hs.T, hs.df, hs.sz, ?_, ?_⟩
                · refine hs.fr.step (G := [ρ.box b]) ⟨rfl, rfl, rfl, by simp [World.setRow], fun k _ hk => setRow_other w (ρ.box b) k _ (by simpa using hk)⟩ ?_
                  intro k hk
                  rw [List.mem_singleton.1 hk]
                  exact hs.ft _ hmem
                · have hf : feet ρ ⟨S.T, p ++ (b, ty, cs') :: q, S.R, S.M⟩ = feet ρ S := by unfold feet; rw [hB]; simp
                  rw [hf]; exact hs.ft
            · cases h
          · cases h
        · cases h
      · cases h
    · cases h
  · cases h
end
end Go.Proofs.YtphaggopgdbojaaGreat
