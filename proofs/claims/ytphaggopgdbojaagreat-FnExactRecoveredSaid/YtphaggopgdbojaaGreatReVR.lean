/- Ranges over functions: operations and code in a round. No program in it. -/
import Derived.Test.YtphaggopgdbojaaGreatReVP
import Derived.RangeFuncNested
import Derived.RangeFuncLeaves
import Derived.TacticsIn
import Derived.OrdersIn
namespace Go.Proofs.YtphaggopgdbojaaGreat
open Go.ChangeShapes Go.WideShapes Go.ChangeAt Go.RowKit
set_option linter.unusedVariables false
section
variable {P : Program} {X : Cx} {S : St} {ρ : Rho} {a : Act} {w : World} {TT : List (Nat × TI)} {Q Q' : Exit → Act → World → Prop} {ops : Array Oper} {r : Option Nat} {n : Nat}
theorem OwC.isCells {w : World} : ∀ {d : Nat} {c : C} {u : Value} {F : List Nat}, OwC w d c u F → ∀ b ∈ F, ∃ o : Obj, w.heap[b]? = some o ∧ o.isCells = true
  | d, .v x, u, F, h, b, hb => by cases d <;> (rw [h.2] at hb; simp at hb)
  | d, .nil, u, F, h, b, hb => by cases d <;> (rw [h.2] at hb; simp at hb)
  | d, .hole, u, F, h, b, hb => by cases d <;> (rw [h.2] at hb; simp at hb)
  | 0, .s _ _, _, _, h, _, _ => h.elim
  | d + 1, .s n l, u, F, h, b, hb => by
    obtain ⟨ty, xs, Fs, ⟨h1, h2, h3⟩, rfl⟩ := h
    rcases List.mem_append.1 hb with hb | hb
    · have hb := Option.mem_toList.1 hb
      rcases h1.2 with ⟨rfl, _⟩ | ⟨g, cap, cur, rfl, _, hg, _⟩
      · simp [Value.ownBlock] at hb
      · have e : b = g := by simpa [Value.ownBlock, eq_comm] using hb
        subst e
        exact ⟨_, hg, rfl⟩
    · obtain ⟨G, hG, hb⟩ := List.mem_flatten.1 hb
      have key : ∀ {cs : List C} {xs : List Value} {Fs : List (List Nat)}, All3 (OwC w d) cs xs Fs → ∀ G ∈ Fs, ∀ b ∈ G, ∃ o : Obj, w.heap[b]? = some o ∧ o.isCells = true := by
        intro cs
        induction cs with
        | nil =>
          intro xs Fs h G hG
          match xs, Fs, h with
          | [], [], _ => simp at hG
          | [], _ :: _, h => exact h.elim
          | _ :: _, _, h => exact h.elim
        | cons c cs ih =>
          intro xs Fs h G hG b hb
          match xs, Fs, h with
          | x :: xs, F :: Fs, h =>
            rcases List.mem_cons.1 hG with rfl | hG
            · exact h.1.isCells b hb
            · exact ih h.2 G hG b hb
          | [], _, h => exact h.elim
          | _ :: _, [], h => exact h.elim
      exact key h3 G hG b hb
theorem Sim.cells (h : Sim X ρ S a w) (hM : S.M = []) : ∀ b ∈ feet ρ S, ∃ o : Obj, w.heap[b]? = some o ∧ o.isCells = true := by
  intro b hb
  unfold feet at hb
  rw [hM] at hb
  simp only [List.map_nil, List.append_nil] at hb
  rcases List.mem_append.1 hb with hb | hb
  · obtain ⟨x, hx, rfl⟩ := List.mem_map.1 hb
    obtain ⟨vs, h1, _⟩ := h.hp.B x hx
    exact ⟨_, h1, rfl⟩
  · obtain ⟨x, hx, hb⟩ := List.mem_flatMap.1 hb
    obtain ⟨d, hd⟩ := (h.hp.R x hx).c
    exact hd.isCells b hb
/-- the state holds in another world in which its blocks lie as they lay -/
theorem Sim.world {w' : World} (h : Sim X ρ S a w) (hM : S.M = []) (hk : ∀ b ∈ feet ρ S, w'.heap[b]? = w.heap[b]?) (hH : ∀ b o, ρ.H b = some o → w'.heap[b]? = some o) (hf : Chg X.w0 w' X.F0) : Sim X ρ S a w' :=
  ⟨⟨hH, fun x hx => by
      obtain ⟨vs, h1, h2⟩ := h.hp.B x hx
      exact ⟨vs, by rw [hk _ (List.mem_append_left _ (List.mem_map.2 ⟨x, hx, rfl⟩))]; exact h1, h2⟩,
    fun x hx => (h.hp.R x hx).keep fun b hb => hk b (List.mem_append_right _ (List.mem_append_left _ (List.mem_flatMap.2 ⟨x, hx, hb⟩))),
    fun x hx => (by rw [hM] at hx; cases hx), h.hp.nd, h.hp.dj⟩, h.T, h.df, h.sz, hf, h.ft⟩
def pinK (v : Nat → Value) : List (Nat × AV) → List (Nat × Value)
  | [] => []
  | (t, _) :: r => (t, v t) :: pinK v r
theorem mem_pinK {v : Nat → Value} : ∀ {T : List (Nat × AV)} {t : Nat} {av : AV}, (t, av) ∈ T → (t, v t) ∈ pinK v T
  | (k, a) :: r, t, av, h => by
    rcases List.mem_cons.1 h with h | h
    · cases h; exact List.mem_cons_self
    · exact List.mem_cons_of_mem _ (mem_pinK h)
/-- what a round keeps: all that lay there but for FB -/
def KpF (B : Nat) (FB : List Nat) (W W' : World) : Prop := ∀ b, b < B → b ∉ FB → W'.heap[b]? = W.heap[b]?
/-- between two rounds -/
def IR (X : Cx) (S : St) (a : Act) (B : Nat) (FB : List Nat) (W : World) : Prop := ∃ ρ, Sim X ρ S a W ∧ B ≤ W.heap.size ∧ ∀ b ∈ feet ρ S, b ∈ FB ∨ B ≤ b
/-- a walk that began at W, within a round, comes back to the loop's own state -/
theorem Sim.back {T0 : List (Nat × AV)} {S2 : St} {B : Nat} {FB F0 : List Nat} {ρ2 : Rho} {a2 : Act} {W W2 : World} (hs : Sim X ρ S a W) (hD : X.D = []) (hT : S2.T = T0) (hsz : B ≤ W.heap.size)
    (hF0 : ∀ b ∈ F0, (b ∈ FB ∨ B ≤ b) ∧ (b ∈ X.F0 ∨ X.w0.heap.size ≤ b) ∧ ∃ o : Obj, W.heap[b]? = some o ∧ o.isCells = true)
    (hT0 : ∀ t av, (t, av) ∈ T0 → ∃ av', lk S.T t = some av') (h2 : Sim ⟨X.N, W, F0, X.H, pinK (fun t => a.tmps.getD t undef) T0, []⟩ ρ2 S2 a2 W2) :
    KeepsFrom B W W2 ∧ KpF B FB W W2 ∧ IR X S2 a B FB W2 := by
  have hfr := h2.fr
  refine ⟨⟨hfr.size, fun k o hk h0 ho => ?_⟩, fun b hb hn => ?_, ρ2, ⟨h2.hp, fun t av ht => ?_, ⟨by rw [hs.df.1], h2.df.2⟩, hs.sz, ?_, fun b hb => ?_⟩, Nat.le_trans hsz hfr.size, fun b hb => ?_⟩
  · rw [hfr.block k (heap_lt h0) fun hm => ?_]
    · exact h0
    · obtain ⟨_, _, o', h3, h4⟩ := hF0 k hm
      rw [h0] at h3; cases h3; rw [ho] at h4; cases h4
  · refine hfr.block b (Nat.lt_of_lt_of_le hb hsz) fun hm => ?_
    rcases (hF0 b hm).1 with h3 | h3
    · exact hn h3
    · omega
  · obtain ⟨v, h3, h4⟩ := h2.T t av ht
    have hmem : (t, av) ∈ T0 := by rw [← hT]; exact lk_mem ht
    have h5 := h2.sz.2 (t, a.tmps.getD t undef) (mem_pinK hmem)
    simp only at h5
    rw [h3] at h5
    obtain ⟨av', h6⟩ := hT0 t av hmem
    obtain ⟨v', h7, _⟩ := hs.T t av' h6
    refine ⟨v', h7, ?_⟩
    rw [Array.getD_eq_getD_getElem?, h7] at h5
    have : v = v' := Option.some.inj h5
    rw [← this]; exact h4
  · exact hs.fr.step hfr fun b hb => (hF0 b hb).2.1
  · rcases h2.ft b hb with h3 | h3
    · exact (hF0 b h3).2.1
    · exact .inr (Nat.le_trans hs.fr.size h3)
  · rcases h2.ft b hb with h3 | h3
    · exact (hF0 b h3).1
    · exact .inr (Nat.le_trans hsz h3)
end
end Go.Proofs.YtphaggopgdbojaaGreat
