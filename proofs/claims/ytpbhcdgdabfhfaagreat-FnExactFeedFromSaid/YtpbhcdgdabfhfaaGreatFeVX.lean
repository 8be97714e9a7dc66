/- The first elements of a slice of one's own. No program in it. -/
import Derived.Test.YtpbhcdgdabfhfaaGreatFeVE
namespace Go.Proofs.YtpbhcdgdabfhfaaGreat
open Go.ChangeShapes Go.WideShapes Go.ChangeAt Go.RowKit
set_option linter.unusedVariables false
section
variable {P : Program} {X : Cx} {S : St} {ρ : Rho} {a : Act} {w : World} {TT : List (Nat × TI)}
theorem flat_tk {n : Nat} : ∀ {l : List (List C)} {k : Nat}, (∀ cs ∈ l, cs.length = n) → (l.take k).flatten = l.flatten.take (k * n)
  | [], k, _ => by simp
  | cs :: l, 0, _ => by simp
  | cs :: l, k + 1, h => by
    have h1 := h cs (by simp)
    have e1 : cs.take ((k + 1) * n) = cs := List.take_of_length_le (by rw [h1, Nat.add_mul]; omega)
    rw [List.take_succ_cons, List.flatten_cons, List.flatten_cons, List.take_append, flat_tk fun c hc => h c (by simp [hc]), e1, h1, show (k + 1) * n - n = k * n by rw [Nat.add_mul]; omega]
theorem e_slto {T : List (Nat × AV)} {B : List (Nat × Nat × List AC)} {R : RL} {M : List (Nat × (Int → Option Value))} {t d e m n k r ty : Nat} {x hi : Operand} {kk : IntKind} {i : Int} {l : List (List C)} (hT : TTOk P TT) (ht : eSz TT t = some (e, m)) (hx : opv T x = some (.p false [.rt r])) (hl : lk R r = some (ty, n, l))
    (hh : opv T hi = some (.p false [.c (.v (.int kk i))])) (hi' : i = (k : Int)) (hk : k ≤ l.length) (hN : okD X d = true) (hf : freshR d ⟨T, B, eraR r R, M⟩ = true) :
    Eff P X ⟨T, B, R, M⟩ (some d) (.slice t x none (some hi) none) ⟨(d, .p false [.rt d]) :: T, B, (d, ty, n, l.take k) :: eraR r R, M⟩ false := by
  intro ρ a w hs
  subst hi'
  have hp : a.eval x = ρ.root r := (opv_rep hs hx).1.1
  have hq : a.eval hi = .int kk (k : Int) := rd_v (opv_rep hs hh).1
  obtain ⟨hu, inf, hin, hsz⟩ := eSz_ok hT ht
  have hndR : (fts ρ R).Nodup := by
    have := hs.hp.nd
    unfold feet at this
    exact (List.nodup_append.1 (List.nodup_append.1 this).2.1).1
  obtain ⟨j1, j2, j3, j4⟩ := era_own (ρ := ρ) hl hndR
  have hown := hs.hp.R _ (lk_mem hl)
  simp only at hown
  obtain ⟨Fs, ⟨g1, g2, g3⟩, g4⟩ := hown
  have hlen : (l.take k).length = k := by rw [List.length_take]; omega
  obtain ⟨v', hv', hrun, how⟩ : ∃ v' : Value, v'.ownBlock = (ρ.root r).ownBlock ∧ (∀ ty pos af g, (execOp a.eval ⟨some d, .slice t x none (some hi) none, ty, pos, af, g⟩).run P w = .ok (.value v') w) ∧ w.ownsRow 0 ty n v' k ((ρ.rows r).take (k * n)) := by
    have hxl : ((ρ.rows r).take (k * n)).length = k * n := by
      rw [List.length_take, g1.1, Nat.min_eq_left (Nat.mul_le_mul_right n hk)]
    rcases g1.2 with ⟨e1, e2⟩ | ⟨g, cap, cur, e1, e2, e3, e4, e5, e6, e7⟩
    · have hk0 : k = 0 := by omega
      subst hk0
      refine ⟨.slice none 0 0, by rw [e1], fun _ _ _ _ => ?_, hxl, .inl ⟨rfl, rfl⟩⟩
      simp [execOp, Instr.sliceAt, Instr.slice, Instr.sliceBounds, Instr.sliceBound, asIntOf, run_underlying hu, hp, hq, e1, hin.size' hsz]
    · refine ⟨.slice (some ⟨g, 0, none⟩) k cap, by rw [e1]; rfl, fun _ _ _ _ => ?_, hxl, .inr ⟨g, cap, cur, rfl, e2, e3, by omega, e5, e6, ?_⟩⟩
      · have hb : k ≤ cap := by omega
        simp [execOp, Instr.sliceAt, Instr.slice, Instr.sliceBounds, Instr.sliceBound, asIntOf, run_underlying hu, hp, hq, e1, hin.size' hsz, hb]
        try (intro _; simp [Addr.add])
      · rw [← e7, List.take_take, Nat.min_eq_left (Nat.mul_le_mul_right n hk)]
  have hsubF : ∀ b ∈ (Fs.take (k * n)).flatten, b ∈ Fs.flatten := fun b hb => by
    obtain ⟨G, hG, hb⟩ := List.mem_flatten.1 hb
    exact List.mem_flatten.2 ⟨G, List.mem_of_mem_take hG, hb⟩
  have hfoot : ρ.foot r = (ρ.root r).ownBlock.toList ++ Fs.flatten := g4
  obtain ⟨ρ', hS⟩ := app_end (v := ρ.root r) (v' := v') (zs := (ρ.rows r).take (k * n)) (Fi := (Fs.take (k * n)).flatten) (F2 := []) (e := ty) (n := n) (l := l.take k) (w' := w) hs hN hf (fun y hy => j1 y hy) (fun b hb => j4 b (by
      rw [hfoot]
      rw [List.append_nil] at hb
      rcases List.mem_append.1 hb with hb | hb
      · exact List.mem_append_left _ hb
      · exact List.mem_append_right _ (hsubF b hb))) (by
      rw [hfoot] at j3
      refine j3.sublist ?_
      rw [List.append_nil]
      refine (((List.Sublist.refl _).append ?_)).append (List.Sublist.refl _)
      conv => rhs; rw [← List.take_append_drop (k * n) Fs, List.flatten_append]
      exact List.sublist_append_left _ _) ⟨Fs.take (k * n), ⟨by rw [hlen]; exact how, fun cs hcs => g2 cs (List.mem_of_mem_take hcs), by rw [flat_tk g2]; exact All3.takeA _ g3⟩, by rw [List.append_nil]⟩ (Chg.refl _ _) (.inl hv')
  exact ⟨ρ', .value v', v', w, hrun, .inl rfl, hS, by intro h; cases h⟩
end
end Go.Proofs.YtpbhcdgdabfhfaaGreat
