/- Maps of one's own with numbers as keys. No program in it. -/
import Derived.Test.YtphaggopgdbojaaGreatReVG
namespace Go.Proofs.YtphaggopgdbojaaGreat
open Go.ChangeShapes Go.WideShapes Go.ChangeAt Go.RowKit
set_option linter.unusedVariables false
def mapB (P : Program) (t kt et : Nat) : Bool :=
  match P.underlying t, P.underlying kt with
  | some (.map k e), some (.int _) => decide (k = kt) && decide (e = et)
  | _, _ => false
theorem mapB_ok {P : Program} {t kt et : Nat} (h : mapB P t kt et = true) : P.underlying t = some (.map kt et) ∧ ∃ kd, P.underlying kt = some (.int kd) := by
  unfold mapB at h
  split at h
  · rename_i k e kd h1 h2
    simp only [Bool.and_eq_true, decide_eq_true_eq] at h
    obtain ⟨rfl, rfl⟩ := h
    exact ⟨h1, kd, h2⟩
  · cases h
section
variable {P : Program} {X : Cx} {S : St} {ρ : Rho} {a : Act} {w : World} {TT : List (Nat × TI)}
theorem e_mkmap {T : List (Nat × AV)} {B : List (Nat × Nat × List AC)} {R : RL} {M : List (Nat × (Int → Option Value))} {t kt et d : Nat} (hm : mapB P t kt et = true) (hN : okD X d = true) (hf : freshB d ⟨T, B, R, M⟩ = true) :
    Eff P X ⟨T, B, R, M⟩ (some d) (.makeMap t none) ⟨(d, .p false [.mp d]) :: T, B, R, (d, fun _ => none) :: M⟩ true := by
  intro ρ a w hs
  obtain ⟨hu, kd, hk⟩ := mapB_ok hm
  have hf' := hf
  simp only [freshB, Bool.and_eq_true] at hf'
  obtain ⟨f1, f2, f3, f4⟩ := hf'
  have hb : Below w.heap.size w (w.alloc (.map #[] 0)) := (Below.refl _ _).alloc (Nat.le_refl _) _
  have hold : ∀ b, b < w.heap.size → (w.alloc (.map #[] 0)).heap[b]? = w.heap[b]? := fun b hb => Below.heap_alloc w _ b hb
  have e1 : B.map (fun x => (ρ.setBox d w.heap.size).box x.1) = B.map fun x => ρ.box x.1 := List.map_congr_left fun x hx => by
    show (if x.1 = d then w.heap.size else ρ.box x.1) = ρ.box x.1
    rw [if_neg (noK_mem f3 x hx)]
  have e2 : M.map (fun x => (ρ.setBox d w.heap.size).box x.1) = M.map fun x => ρ.box x.1 := List.map_congr_left fun x hx => by
    show (if x.1 = d then w.heap.size else ρ.box x.1) = ρ.box x.1
    rw [if_neg (noK_mem f4 x hx)]
  have hfeet : feet (ρ.setBox d w.heap.size) ⟨T, B, R, (d, fun _ => none) :: M⟩ = B.map (fun x => ρ.box x.1) ++ (fts ρ R ++ w.heap.size :: M.map fun x => ρ.box x.1) := by
    unfold feet
    simp only [List.map_cons, e1, e2]
    show _ ++ (_ ++ (if d = d then w.heap.size else ρ.box d) :: _) = _
    rw [if_pos rfl]
    rfl
  have hmem : ∀ b, b ∈ B.map (fun x => ρ.box x.1) ++ (fts ρ R ++ w.heap.size :: M.map fun x => ρ.box x.1) → b = w.heap.size ∨ b ∈ feet ρ ⟨T, B, R, M⟩ := by
    intro b hb
    unfold feet
    simp only [List.mem_append, List.mem_cons] at hb ⊢
    rcases hb with hb | hb | hb | hb
    · exact .inr (.inl hb)
    · exact .inr (.inr (.inl hb))
    · exact .inl hb
    · exact .inr (.inr (.inr hb))
  have hlt := hs.hp.lt
  have hsim : Sim X (ρ.setBox d w.heap.size) ⟨T, B, R, (d, fun _ => none) :: M⟩ a (w.alloc (.map #[] 0)) := by
    refine ⟨⟨fun b o hb2 => ?_, fun x hx => ?_, fun x hx => (hs.hp.R x hx).keep fun b hb2 => hold b ((hs.hp.R x hx).lt b hb2), fun x hx => ?_, ?_, fun b hb2 => ?_⟩, Sim.tr (m := mentB d) (X := X) (fun x u hx hu => hu.setBox hx) f1 hs.T, hs.df, hs.sz, hs.fr.step (Chg.of_below (F := []) hb) (by simp), fun b hb2 => ?_⟩
    · have := hs.hp.H b o hb2
      rw [hold b (heap_lt this)]; exact this
    · obtain ⟨us, h1, h2⟩ := hs.hp.B x hx
      refine ⟨us, ?_, h2.monoM fun a b ha hab => hab.setBox (noL_mem (noBs_mem f2 x hx) a ha)⟩
      show (w.alloc _).heap[if x.1 = d then w.heap.size else ρ.box x.1]? = _
      rw [if_neg (noK_mem f3 x hx), hold _ (heap_lt h1)]; exact h1
    · rcases List.mem_cons.1 hx with rfl | hx
      · show MapI (w.alloc _) (if d = d then w.heap.size else ρ.box d) _
        rw [if_pos rfl]; exact MapI.made w
      · show MapI (w.alloc _) (if x.1 = d then w.heap.size else ρ.box x.1) _
        rw [if_neg (noK_mem f4 x hx)]
        have h1 : MapI w (ρ.box x.1) x.2 := hs.hp.M x hx
        exact h1.same (hold _ h1.lt)
    · rw [hfeet]
      have hnd := hs.hp.nd
      unfold feet at hnd
      obtain ⟨n1, n2, n3⟩ := List.nodup_append.1 hnd
      obtain ⟨n4, n5, n6⟩ := List.nodup_append.1 n2
      have hno : ∀ b ∈ feet ρ ⟨T, B, R, M⟩, b ≠ w.heap.size := fun b hb2 e => by have := hlt b hb2; omega
      unfold feet at hno
      refine List.nodup_append.2 ⟨n1, List.nodup_append.2 ⟨n4, List.nodup_cons.2 ⟨fun hm => hno _ (List.mem_append_right _ (List.mem_append_right _ hm)) rfl, n5⟩, fun x hx y hy => ?_⟩, fun x hx y hy => ?_⟩
      · rcases List.mem_cons.1 hy with rfl | hy
        · exact hno x (List.mem_append_right _ (List.mem_append_left _ hx))
        · exact n6 x hx y hy
      · rcases List.mem_append.1 hy with hy | hy
        · exact n3 x hx y (List.mem_append_left _ hy)
        · rcases List.mem_cons.1 hy with rfl | hy
          · exact hno x (List.mem_append_left _ hx)
          · exact n3 x hx y (List.mem_append_right _ hy)
    · rw [hfeet] at hb2
      rcases hmem b hb2 with rfl | hb2
      · show ρ.H w.heap.size = none
        cases ho : ρ.H w.heap.size with
        | none => rfl
        | some o => exact absurd (heap_lt (hs.hp.H _ o ho)) (Nat.lt_irrefl _)
      · exact hs.hp.dj b hb2
    · rw [hfeet] at hb2
      rcases hmem b hb2 with rfl | hb2
      · exact .inr hs.fr.size
      · exact hs.ft b hb2
  refine ⟨_, .value (.map (some w.heap.size)), _, w.alloc (.map #[] 0), fun _ _ _ _ => ?_, .inl rfl, hsim.put hN ⟨?_, trivial⟩, fun _ => hb⟩
  · simp [execOp, Instr.makeMap, newObj]
    rfl
  · show _ = Value.map (some (if d = d then w.heap.size else ρ.box d))
    rw [if_pos rfl]
/-- m[k], where a truth value lies -/
theorem q_lookup_b {t kt et b : Nat} {x k : Operand} {kk : Int} {f : Int → Option Value} {i : TI} {r : Bool} (hm : mapB P t kt et = true) (hT : TTOk P TT) (hi : lk TT et = some i) (hz : i.zero = [.v (.bool false)]) (hg : i.sh.agg = false) (hx : opv S.T x = some (.p false [.mp b])) (hb : lk S.M b = some f) (hk : opv S.T k = some (.p false [.c (.v (.int .i64 kk))]))
    (hr : f kk = if r then some (.bool true) else none) : Quiet P X S (.lookup t x k false) (.p false [.c (.v (.bool r))]) := by
  intro ρ a w hs
  obtain ⟨hu, kd, hku⟩ := mapB_ok hm
  have hp : a.eval x = .map (some (ρ.box b)) := (opv_rep hs hx).1
  have hq : a.eval k = .int .i64 kk := rd_v (opv_rep hs hk).1
  have hM : MapI w (ρ.box b) f := hs.hp.M _ (lk_mem hb)
  refine ⟨.bool r, ⟨⟨0, rfl, rfl⟩, trivial⟩, fun d ty pos af g w' hw => ?_⟩
  have hM' := hM.below hw hM.lt
  have hzv : ∀ W : World, (zeroValue et).run P W = .ok (.bool false) W := fun W => by
    have := (hT et i hi).zeroValue (w := W)
    rw [hg, hz] at this
    exact this
  have := hM'.run_lookup (P := P) hu hku (.bool false) hzv kk
  rw [hr] at this
  simp only [execOp, hp, hq, Sem.run_bind, this, Result.andThen_ok, Sem.run_pure]
  cases r <;> rfl
def updM (b : Nat) (f : Int → Option Value) : List (Nat × (Int → Option Value)) → Option (List (Nat × (Int → Option Value)))
  | [] => none
  | (k, g) :: r => match Nat.beq k b with
    | true => some ((k, f) :: r)
    | false => match updM b f r with
      | some r' => some ((k, g) :: r')
      | none => none
theorem updM_eq {b : Nat} {f : Int → Option Value} : ∀ {B B' : List (Nat × (Int → Option Value))}, updM b f B = some B' → ∃ p g q, B = p ++ (b, g) :: q ∧ B' = p ++ (b, f) :: q ∧ lk B b = some g
  | [], _, h => by cases h
  | (k, l) :: r, B', h => by
    unfold updM at h
    split at h
    · rename_i hk
      obtain rfl := Nat.eq_of_beq_eq_true hk
      cases h
      exact ⟨[], l, r, rfl, rfl, by simp [lk]⟩
    · rename_i hk
      split at h
      · rename_i r' hr
        cases h
        obtain ⟨p, l', q, rfl, rfl, h3⟩ := updM_eq hr
        refine ⟨(k, l) :: p, l', q, rfl, rfl, ?_⟩
        simp only [lk, if_neg (beq_f hk)]
        exact h3
      · cases h
/-- one map is written -/
theorem Sim.wmap {w' : World} {b : Nat} {f : Int → Option Value} {M' : List (Nat × (Int → Option Value))} (h : Sim X ρ S a w) (hu : updM b f S.M = some M') (hf : MapI w' (ρ.box b) f) (hw : Wrote1 w w' (ρ.box b)) : Sim X ρ ⟨S.T, S.B, S.R, M'⟩ a w' := by
  obtain ⟨p, g, q, hM, rfl, hlk⟩ := updM_eq hu
  have hfe : feet ρ ⟨S.T, S.B, S.R, p ++ (b, f) :: q⟩ = feet ρ S := by unfold feet; rw [hM]; simp
  have hmem : ρ.box b ∈ feet ρ S := by unfold feet; rw [hM]; simp
  have hnd := h.hp.nd
  unfold feet at hnd
  rw [hM] at hnd
  obtain ⟨n1, n2, n3⟩ := List.nodup_append.1 hnd
  obtain ⟨n4, n5, n6⟩ := List.nodup_append.1 n2
  have hne : ∀ x ∈ p ++ q, ρ.box x.1 ≠ ρ.box b := by
    intro x hx e
    simp only [List.map_append, List.map_cons] at n5
    obtain ⟨_, m2, m3⟩ := List.nodup_append.1 n5
    rcases List.mem_append.1 hx with hx | hx
    · exact m3 _ (List.mem_map.2 ⟨x, hx, rfl⟩) _ (List.mem_cons_self ..) e
    · exact (List.nodup_cons.1 m2).1 (by rw [← e]; exact List.mem_map.2 ⟨x, hx, rfl⟩)
  have hbm : ρ.box b ∈ (p ++ (b, g) :: q).map fun x => ρ.box x.1 := by simp
  obtain ⟨w1, w2, w3, w4, w5⟩ := hw
  refine ⟨⟨fun k o hk => ?_, fun x hx => ?_, fun x hx => ?_, fun x hx => ?_, by rw [hfe]; exact h.hp.nd, by rw [hfe]; exact h.hp.dj⟩, h.T, h.df, h.sz, ?_, by rw [hfe]; exact h.ft⟩
  · rw [w5 k (fun e => by have := h.hp.dj _ hmem; rw [← e, hk] at this; cases this)]
    exact h.hp.H k o hk
  · obtain ⟨vs, h1, h2⟩ := h.hp.B x hx
    exact ⟨vs, by rw [w5 _ (fun e => n3 _ (List.mem_map.2 ⟨x, hx, rfl⟩) _ (List.mem_append_right _ hbm) e)]; exact h1, h2⟩
  · exact (h.hp.R x hx).keep fun k hk => w5 k fun e => n6 k (List.mem_flatMap.2 ⟨x, hx, hk⟩) _ hbm e
  · have hx' : x = (b, f) ∨ x ∈ p ++ q := by
      rcases List.mem_append.1 hx with hx | hx
      · exact .inr (List.mem_append_left _ hx)
      · rcases List.mem_cons.1 hx with hx | hx
        · exact .inl hx
        · exact .inr (List.mem_append_right _ hx)
    rcases hx' with rfl | hx'
    · exact hf
    · have h1 : MapI w (ρ.box x.1) x.2 := h.hp.M x (by rw [hM]; rcases List.mem_append.1 hx' with h9 | h9 <;> simp [h9])
      exact h1.same (w5 _ (hne x hx'))
  · refine h.fr.step (G := [ρ.box b]) ⟨w1, w2, w3, by rw [w4]; exact Nat.le_refl _, fun k _ hk => w5 k (by simpa using hk)⟩ ?_
    intro k hk
    rw [List.mem_singleton.1 hk]
    exact h.ft _ hmem
/-- cells that are known values -/
def valsO : List AC → Option (List Value)
  | [] => some []
  | .c (.v x) :: r => match valsO r with
    | some l => some (x :: l)
    | none => none
  | _ :: _ => none
theorem valsO_rep : ∀ {l : List AC} {xs us : List Value}, valsO l = some xs → L2 (RepC ρ) l us → us = xs
  | [], xs, us, h, hu => by cases h; match us, hu with | [], _ => rfl
  | y :: l, xs, us, h, hu => by
    match us, hu with
    | u :: us, hu =>
      unfold valsO at h
      split at h
      · cases ‹_ :: _ = []›
      · rename_i x r e
        cases e
        split at h
        · rename_i xs' hr
          cases h
          rw [valsO_rep hr hu.2, rd_v hu.1]
        · cases h
      · cases h
/-- m[k] = v -/
theorem e_mapset {T : List (Nat × AV)} {B : List (Nat × Nat × List AC)} {R : RL} {M M' : List (Nat × (Int → Option Value))} {t kt et b : Nat} {x k y : Operand} {kk : Int} {f f' : Int → Option Value} {g : Bool} {l : List AC} {vs : List Value} (hm : mapB P t kt et = true) (hx : opv T x = some (.p false [.mp b])) (hb : lk M b = some f) (hk : opv T k = some (.p false [.c (.v (.int .i64 kk))]))
    (hy : opv T y = some (.p g l)) (hv : valsO l = some vs) (hf : ∀ q, f' q = if q = kk then some (mkV g vs) else f q) (hM : updM b f' M = some M') : Eff P X ⟨T, B, R, M⟩ none (.mapUpdate t x k y) ⟨T, B, R, M'⟩ false := by
  intro ρ a w hs
  obtain ⟨hu, kd, hku⟩ := mapB_ok hm
  have hp : a.eval x = .map (some (ρ.box b)) := (opv_rep hs hx).1
  have hq : a.eval k = .int .i64 kk := rd_v (opv_rep hs hk).1
  obtain ⟨us, h1, h2, _⟩ := rep_cells (opv_rep hs hy)
  obtain rfl := valsO_rep hv h1
  have hMI : MapI w (ρ.box b) f := hs.hp.M _ (lk_mem hb)
  obtain ⟨w', h3, h4, h5⟩ := hMI.run_update (P := P) hu hku kk (mkV g us)
  have h4' : MapI w' (ρ.box b) f' := by rw [show f' = fun q => if q = kk then some (mkV g us) else f q from funext hf]; exact h4
  exact ⟨ρ, .skip, undef, w', fun _ _ _ _ => by simp [execOp, hp, hq, h2, h3], .inr ⟨rfl, rfl⟩, hs.wmap hM h4' h5, by intro h; cases h⟩
end
end Go.Proofs.YtphaggopgdbojaaGreat
