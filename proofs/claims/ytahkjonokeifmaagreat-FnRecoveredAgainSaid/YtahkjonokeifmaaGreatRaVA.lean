/- Walks on states: short forms. No program in it. -/
import Derived.Test.YtahkjonokeifmaaGreatRaV8
import Derived.LoopN
namespace Go.Proofs.YtahkjonokeifmaaGreat
open Go.ChangeShapes Go.WideShapes Go.ChangeAt Go.RowKit
set_option linter.unusedVariables false
def sg (σ : List (Nat × Nat)) (r : Nat) : Nat :=
 match lk σ r with
 | some x => x
 | none => r
def renC (σ : List (Nat × Nat)) : AC → AC
 | .rt r => .rt (sg σ r)
 | .sub r n k j => .sub (sg σ r) n k j
 | .pr r n k o => .pr (sg σ r) n k o
 | x => x
def renP (σ : List (Nat × Nat)) : List (Bool × List AC) → List (Bool × List AC)
 | [] => []
 | (g, l) :: r => (g, l.map (renC σ)) :: renP σ r
def renV (σ : List (Nat × Nat)) : AV → AV
 | .p g l => .p g (l.map (renC σ))
 | .tup ps => .tup (renP σ ps)
 | .no => .no
 | .und => .und
def LeT (σ : List (Nat × Nat)) (T : List (Nat × AV)) : List (Nat × AV) → Prop
 | [] => True
 | (t, av) :: r => lk T t = some (renV σ av) ∧ LeT σ T r
def LeB (σ : List (Nat × Nat)) (B : List (Nat × Nat × List AC)) : List (Nat × Nat × List AC) → Prop
 | [] => True
 | (b, ty, cs) :: r => lk B b = some (ty, cs.map (renC σ)) ∧ LeB σ B r
def LeR (σ : List (Nat × Nat)) (R : List (Nat × Nat × Nat × List (List C))) : List (Nat × Nat × Nat × List (List C)) → Prop
 | [] => True
 | (r, ty, n, l) :: rest => (∃ l', lk R (sg σ r) = some (ty, n, l') ∧ l' = l) ∧ LeR σ R rest
def LeM (M : List (Nat × (Int → Option Value))) : List (Nat × (Int → Option Value)) → Prop
 | [] => True
 | (m, l) :: rest => (∃ l', lk M m = some l' ∧ l' = l) ∧ LeM M rest
def memN (k : Nat) : List Nat → Bool
 | [] => false
 | x :: r => match Nat.beq x k with
  | true => true
  | false => memN k r
def ndN : List Nat → Bool
 | [] => true
 | x :: r => match memN x r with
  | true => false
  | false => ndN r
theorem memN_f {k : Nat} : ∀ {l : List Nat}, memN k l = false → k ∉ l
 | [], _, h => by simp at h
 | x :: r, h, hm => by
  unfold memN at h
  split at h
  ·cases h
  ·rename_i hx
   rcases List.mem_cons.1 hm with rfl | hm
   ·simp at hx
   ·exact memN_f h hm
theorem ndN_eq : ∀ {l : List Nat}, ndN l = true → l.Nodup
 | [], _ => by simp
 | x :: r, h => by
  unfold ndN at h
  split at h
  ·cases h
  ·rename_i hx
   exact List.nodup_cons.2 ⟨memN_f hx, ndN_eq h⟩
def ndS (σ : List (Nat × Nat)) (S : St) : Bool := ndN (S.B.map (·.1)) && (ndN (S.R.map fun x => sg σ x.1) && ndN (S.M.map (·.1)))
structure Le (σ : List (Nat × Nat)) (S S' : St) : Prop where
 T : LeT σ S.T S'.T
 B : LeB σ S.B S'.B
 R : LeR σ S.R S'.R
 M : LeM S.M S'.M
 n : ndS σ S' = true
section
variable {P : Program} {X : Cx} {S S' : St} {ρ : Rho} {a : Act} {w : World} {σ : List (Nat × Nat)}
def Rho.ren (ρ : Rho) (σ : List (Nat × Nat)) : Rho := { ρ with root := fun r => ρ.root (sg σ r), rows := fun r => ρ.rows (sg σ r), foot := fun r => ρ.foot (sg σ r) }
theorem RepC.ren {x : AC} {u : Value} (h : RepC ρ (renC σ x) u) : RepC (ρ.ren σ) x u := by cases x <;> exact h
theorem RepL.ren : ∀ {l : List AC} {us : List Value}, L2 (RepC ρ) (l.map (renC σ)) us → L2 (RepC (ρ.ren σ)) l us
 | [], [], _ => trivial
 | x :: l, u :: us, h => ⟨RepC.ren h.1, RepL.ren h.2⟩
 | [], _ :: _, h => h.elim
 | _ :: _, [], h => h.elim
theorem RepP.ren {g : Bool} {l : List AC} {u : Value} (h : RepP ρ (g, l.map (renC σ)) u) : RepP (ρ.ren σ) (g, l) u := by
 unfold RepP at *
 cases g
 ·exact RepL.ren h
 ·obtain ⟨vs, rfl, h2⟩ := h; exact ⟨vs, rfl, RepL.ren h2⟩
theorem RepV.ren {av : AV} {u : Value} (h : RepV ρ (renV σ av) u) : RepV (ρ.ren σ) av u := by
 cases av with
 | p g l => exact RepP.ren h
 | no => trivial
 | und => exact h
 | tup ps =>
  obtain ⟨vs, rfl, h2⟩ := h
  refine ⟨vs, rfl, ?_⟩
  have key : ∀ {ps : List (Bool × List AC)} {vs : List Value}, L2 (RepP ρ) (renP σ ps) vs → L2 (RepP (ρ.ren σ)) ps vs := by
   intro ps
   induction ps with
   | nil => intro vs h; match vs, h with | [], _ => trivial
   | cons p ps ih => intro vs h; match vs, h with | v :: vs, h => exact ⟨RepP.ren h.1, ih h.2⟩
  exact key h2
theorem LeT.get : ∀ {T T' : List (Nat × AV)}, LeT σ T T' → ∀ t av, lk T' t = some av → lk T t = some (renV σ av)
 | T, [], _, t, av, h => by cases h
 | T, (k, v) :: r, h, t, av, ht => by
  unfold lk at ht
  split at ht
  ·rename_i e; subst e; cases ht; exact h.1
  ·exact LeT.get h.2 t av ht
theorem LeB.get : ∀ {B B' : List (Nat × Nat × List AC)}, LeB σ B B' → ∀ x ∈ B', (x.1, x.2.1, x.2.2.map (renC σ)) ∈ B
 | B, [], _, x, hx => by simp at hx
 | B, (b, ty, cs) :: r, h, x, hx => by
  rcases List.mem_cons.1 hx with rfl | hx
  ·exact lk_mem h.1
  ·exact LeB.get h.2 x hx
theorem LeR.get : ∀ {R R' : List (Nat × Nat × Nat × List (List C))}, LeR σ R R' → ∀ x ∈ R', (sg σ x.1, x.2) ∈ R
 | R, [], _, x, hx => by simp at hx
 | R, (r, ty, n, l) :: rest, h, x, hx => by
  rcases List.mem_cons.1 hx with rfl | hx
  ·obtain ⟨l', h1, rfl⟩ := h.1; exact lk_mem h1
  ·exact LeR.get h.2 x hx
theorem LeM.get : ∀ {M M' : List (Nat × (Int → Option Value))}, LeM M M' → ∀ x ∈ M', x ∈ M
 | M, [], _, x, hx => by simp at hx
 | M, (m, l) :: rest, h, x, hx => by
  rcases List.mem_cons.1 hx with rfl | hx
  ·obtain ⟨l', h1, rfl⟩ := h.1; exact lk_mem h1
  ·exact LeM.get h.2 x hx
theorem map_inj {α : Type} {f : α → Nat} : ∀ {L : List α}, (L.map f).Nodup → ∀ x ∈ L, ∀ y ∈ L, f x = f y → x = y
 | [], _, x, hx, _, _, _ => by simp at hx
 | z :: L, h, x, hx, y, hy, e => by
  rw [List.map_cons, List.nodup_cons] at h
  rcases List.mem_cons.1 hx with h1 | h1
  ·rcases List.mem_cons.1 hy with h2 | h2
   ·rw [h1, h2]
   ·exact absurd (List.mem_map.2 ⟨y, h2, by rw [← e, h1]⟩) h.1
  ·rcases List.mem_cons.1 hy with h2 | h2
   ·exact absurd (List.mem_map.2 ⟨x, h1, by rw [e, h2]⟩) h.1
   ·exact map_inj h.2 x h1 y h2 e
theorem nodup_by {α : Type} {f : α → Nat} {k : α → Nat} : ∀ {L : List α}, (L.map k).Nodup → (∀ x ∈ L, ∀ y ∈ L, f x = f y → k x = k y) → (L.map f).Nodup
 | [], _, _ => by simp
 | z :: L, h, hi => by
  rw [List.map_cons, List.nodup_cons] at h ⊢
  refine ⟨fun hm => ?_, nodup_by h.2 fun x hx y hy => hi x (by simp [hx]) y (by simp [hy])⟩
  obtain ⟨y, hy, e⟩ := List.mem_map.1 hm
  exact h.1 (List.mem_map.2 ⟨y, hy, hi y (by simp [hy]) z (by simp) e⟩)
theorem flat_apart {α : Type} {f : α → List Nat} : ∀ {L : List α}, (L.flatMap f).Nodup → ∀ x ∈ L, ∀ y ∈ L, x ≠ y → ∀ b ∈ f x, b ∉ f y
 | [], _, x, hx, _, _, _, _, _ => by simp at hx
 | z :: L, h, x, hx, y, hy, hne, b, hb => by
  rw [List.flatMap_cons] at h
  obtain ⟨h1, h2, h3⟩ := List.nodup_append.1 h
  rcases List.mem_cons.1 hx with k1 | k1
  ·rcases List.mem_cons.1 hy with k2 | k2
   ·exact absurd (k1.trans k2.symm) hne
   ·exact fun hm => h3 b (k1 ▸ hb) b (List.mem_flatMap.2 ⟨y, k2, hm⟩) rfl
  ·rcases List.mem_cons.1 hy with k2 | k2
   ·exact fun hm => h3 b (k2 ▸ hm) b (List.mem_flatMap.2 ⟨x, k1, hb⟩) rfl
   ·exact flat_apart h2 x k1 y k2 hne b hb
theorem flat_one {α : Type} {f : α → List Nat} : ∀ {L : List α}, (L.flatMap f).Nodup → ∀ x ∈ L, (f x).Nodup
 | [], _, x, hx => by simp at hx
 | z :: L, h, x, hx => by
  rw [List.flatMap_cons] at h
  obtain ⟨h1, h2, h3⟩ := List.nodup_append.1 h
  rcases List.mem_cons.1 hx with rfl | hx
  ·exact h1
  ·exact flat_one h2 x hx
theorem flat_by {α : Type} {f : α → List Nat} {k : α → Nat} : ∀ {L : List α}, (L.map k).Nodup → (∀ x ∈ L, (f x).Nodup) → (∀ x ∈ L, ∀ y ∈ L, k x ≠ k y → ∀ b ∈ f x, b ∉ f y) → (L.flatMap f).Nodup
 | [], _, _, _ => by simp
 | z :: L, h, h1, h2 => by
  rw [List.map_cons, List.nodup_cons] at h
  rw [List.flatMap_cons]
  refine List.nodup_append.2 ⟨h1 z (by simp), flat_by h.2 (fun x hx => h1 x (by simp [hx])) (fun x hx y hy => h2 x (by simp [hx]) y (by simp [hy])), fun a ha b hb e => ?_⟩
  subst e
  obtain ⟨y, hy, hb⟩ := List.mem_flatMap.1 hb
  exact h2 z (by simp) y (by simp [hy]) (fun e => h.1 (List.mem_map.2 ⟨y, hy, e.symm⟩)) a ha hb
theorem Sim.le (h : Sim X ρ S a w) (hl : Le σ S S') : Sim X (ρ.ren σ) S' a w := by
 have hn := hl.n
 simp only [ndS, Bool.and_eq_true] at hn
 have hB := LeB.get hl.B
 have hR := LeR.get hl.R
 have hM := LeM.get hl.M
 have hnd := h.hp.nd
 unfold feet at hnd
 obtain ⟨n1, n2, n3⟩ := List.nodup_append.1 hnd
 obtain ⟨n4, n5, n6⟩ := List.nodup_append.1 n2
 have hsub : ∀ b ∈ feet (ρ.ren σ) S', b ∈ feet ρ S := by
  intro b hb
  unfold feet at hb ⊢
  rcases List.mem_append.1 hb with hb | hb
  ·obtain ⟨x, hx, rfl⟩ := List.mem_map.1 hb
   exact List.mem_append_left _ (List.mem_map.2 ⟨_, hB x hx, rfl⟩)
  ·rcases List.mem_append.1 hb with hb | hb
   ·obtain ⟨x, hx, hb⟩ := List.mem_flatMap.1 hb
    exact List.mem_append_right _ (List.mem_append_left _ (List.mem_flatMap.2 ⟨_, hR x hx, hb⟩))
   ·obtain ⟨x, hx, rfl⟩ := List.mem_map.1 hb
    exact List.mem_append_right _ (List.mem_append_right _ (List.mem_map.2 ⟨_, hM x hx, rfl⟩))
 refine ⟨⟨h.hp.H, fun x hx => ?_, fun x hx => h.hp.R _ (hR x hx), fun x hx => h.hp.M x (hM x hx), ?_, fun b hb => h.hp.dj b (hsub b hb)⟩, fun t av ht => ?_, h.df, h.sz, h.fr, fun b hb => h.ft b (hsub b hb)⟩
 ·obtain ⟨vs, h1, h2⟩ := h.hp.B _ (hB x hx)
  exact ⟨vs, h1, RepL.ren h2⟩
 ·unfold feet
  have m1 : (S'.B.map fun x => ρ.box x.1).Nodup := nodup_by (k := fun x => x.1) (ndN_eq hn.1) fun x hx y hy e => by
   have := map_inj n1 _ (hB x hx) _ (hB y hy) e
   exact congrArg (fun z => z.1) this
  have m2 : (S'.R.flatMap fun x => ρ.foot (sg σ x.1)).Nodup := flat_by (k := fun x => sg σ x.1) (ndN_eq hn.2.1) (fun x hx => flat_one n4 _ (hR x hx)) fun x hx y hy hne b hb => flat_apart n4 _ (hR x hx) _ (hR y hy) (fun e => hne (congrArg (fun z => z.1) e)) b hb
  have m3 : (S'.M.map fun x => ρ.box x.1).Nodup := nodup_by (k := fun x => x.1) (ndN_eq hn.2.2) fun x hx y hy e => by
   have := map_inj n5 _ (hM x hx) _ (hM y hy) e
   exact congrArg (fun z => z.1) this
  refine List.nodup_append.2 ⟨m1, List.nodup_append.2 ⟨m2, m3, fun a ha b hb e => ?_⟩, fun a ha b hb e => ?_⟩
  ·subst e
   obtain ⟨x, hx, ha⟩ := List.mem_flatMap.1 ha
   obtain ⟨y, hy, rfl⟩ := List.mem_map.1 hb
   exact n6 _ (List.mem_flatMap.2 ⟨_, hR x hx, ha⟩) _ (List.mem_map.2 ⟨_, hM y hy, rfl⟩) rfl
  ·subst e
   obtain ⟨x, hx, rfl⟩ := List.mem_map.1 ha
   refine n3 _ (List.mem_map.2 ⟨_, hB x hx, rfl⟩) _ ?_ rfl
   rcases List.mem_append.1 hb with hb | hb
   ·obtain ⟨y, hy, hb⟩ := List.mem_flatMap.1 hb
    exact List.mem_append_left _ (List.mem_flatMap.2 ⟨_, hR y hy, hb⟩)
   ·obtain ⟨y, hy, e⟩ := List.mem_map.1 hb
    exact List.mem_append_right _ (List.mem_map.2 ⟨_, hM y hy, e⟩)
 ·obtain ⟨v, h1, h2⟩ := h.T t _ (LeT.get hl.T t av ht)
  exact ⟨v, h1, RepV.ren h2⟩
def LI (X : Cx) {ι : Type} (I : ι → St) (p : ι → Prop) (a : Act) (w : World) : Prop := ∃ i ρ, p i ∧ Sim X ρ (I i) a w
theorem ev_loop {Q : Exit → Act → World → Prop} {c : Code} {ι : Type} (I : ι → St) (p : ι → Prop) (m : ι → Nat) (i0 : ι) (σ : List (Nat × Nat)) (h0 : p i0) (hl : Le σ S (I i0))
  (hr : ∀ i, p i → Ev P X c (Exit.then (LI X I fun j => p j ∧ m j < m i) Q) (I i)) : Ev P X (.loop c) Q S := by
 intro ρ a w hs
 have hcl : ∀ (a : Act) (w : World), LI X I p a w → ∃ n, (∃ i ρ, p i ∧ Sim X ρ (I i) a w ∧ m i = n) ∧ ∀ n' < n, ¬ ∃ i ρ, p i ∧ Sim X ρ (I i) a w ∧ m i = n' := by
  intro a w ⟨i, ρ, hp, hi⟩
  have key : ∀ n, (∃ i ρ, p i ∧ Sim X ρ (I i) a w ∧ m i = n) → ∃ n, (∃ i ρ, p i ∧ Sim X ρ (I i) a w ∧ m i = n) ∧ ∀ n' < n, ¬ ∃ i ρ, p i ∧ Sim X ρ (I i) a w ∧ m i = n' := by
   intro n
   induction n using Nat.strongRecOn with
   | _ n ih =>
    intro h
    by_cases h2 : ∃ n' < n, ∃ i ρ, p i ∧ Sim X ρ (I i) a w ∧ m i = n'
    ·obtain ⟨n', hn, h3⟩ := h2
     exact ih n' hn h3
    ·exact ⟨n, h, fun n' hn h3 => h2 ⟨n', hn, h3⟩⟩
  exact key (m i) ⟨i, ρ, hp, hi, rfl⟩
 refine wp_loop (LI X I p) (fun a w => open Classical in if h : LI X I p a w then (hcl a w h).choose else 0) ⟨i0, _, h0, hs.le hl⟩ fun a w hI => ?_
 obtain ⟨⟨i, ρ', hp, hi, hm⟩, hmin⟩ := (hcl a w hI).choose_spec
 refine wp_mono (hr i hp ρ' a w hi) fun e a' w' hq => ?_
 cases e with
 | normal =>
  obtain ⟨j, ρ'', ⟨hpj, hlt⟩, hj⟩ := hq
  have hI' : LI X I p a' w' := ⟨j, ρ'', hpj, hj⟩
  refine ⟨hI', ?_⟩
  simp only [dif_pos hI, dif_pos hI']
  obtain ⟨_, hmin'⟩ := (hcl a' w' hI').choose_spec
  have : (hcl a' w' hI').choose ≤ m j := by
   rcases Nat.lt_or_ge (m j) (hcl a' w' hI').choose with h9 | h9
   ·exact absurd ⟨j, ρ'', hpj, hj, rfl⟩ (hmin' _ h9)
   ·exact h9
  omega
 | _ => exact hq
theorem eve_round {Q : Exit → Act → World → Prop} {ι : Type} {I : ι → St} {p : ι → Prop} (j : ι) (σ : List (Nat × Nat)) (hp : p j) (hl : Le σ S (I j)) : EvE X .normal (Exit.then (LI X I p) Q) S :=
 fun _ _ _ hs => ⟨j, _, hp, hs.le hl⟩
theorem ev_rounds {Q : Exit → Act → World → Prop} {c : Code} (n : Nat) (h : Ev P X c (Exit.then (Code.rounds P c Q n) Q) S) : Ev P X (.loop c) Q S := fun ρ a w hs => wp_loop_rounds (n + 1) (h ρ a w hs)
theorem eve_again {Q : Exit → Act → World → Prop} {c : Code} {n : Nat} (h : Ev P X c (Exit.then (Code.rounds P c Q n) Q) S) : EvE X .normal (Exit.then (Code.rounds P c Q (n + 1)) Q) S := fun ρ a w hs => h ρ a w hs
def remB (ds : List Nat) : List (Nat × Nat × List AC) → Option (List (Nat × Nat × List AC))
  | [] => some []
  | (b, x) :: r => match ds.elem b with
    | true => remB ds r
    | false => match remB ds r with
      | some r' => some ((b, x) :: r')
      | none => none
theorem remB_sub {ds : List Nat} : ∀ {B B' : List (Nat × Nat × List AC)}, remB ds B = some B' → B'.Sublist B
  | [], B', h => by cases h; exact List.Sublist.refl _
  | (b, x) :: r, B', h => by
    unfold remB at h
    split at h
    · exact (remB_sub h).cons _
    · split at h
      · rename_i r' hr
        cases h
        exact (remB_sub hr).cons_cons _
      · cases h
theorem ev_remB {Q : Exit → Act → World → Prop} {c : Code} {T : List (Nat × AV)} {B B' : List (Nat × Nat × List AC)} {R : List (Nat × Nat × Nat × List (List C))} {M : List (Nat × (Int → Option Value))} (ds : List Nat) (hB : remB ds B = some B') (h : Ev P X c Q ⟨T, B', R, M⟩) : Ev P X c Q ⟨T, B, R, M⟩ := fun ρ a w hs => by
 have hsub := remB_sub hB
 have hf : (feet ρ ⟨T, B', R, M⟩).Sublist (feet ρ ⟨T, B, R, M⟩) := by
  unfold feet
  exact (hsub.map _).append (List.Sublist.refl _)
 exact h ρ a w ⟨⟨hs.hp.H, fun x hx => hs.hp.B x (hsub.subset hx), hs.hp.R, hs.hp.M, hf.nodup hs.hp.nd, fun b hb => hs.hp.dj b (hf.subset hb)⟩, hs.T, hs.df, hs.sz, hs.fr, fun b hb => hs.ft b (hf.subset hb)⟩
theorem ev_le {Q : Exit → Act → World → Prop} {c : Code} (σ : List (Nat × Nat)) (hl : Le σ S S') (h : Ev P X c Q S') : Ev P X c Q S := fun _ a w hs => h _ a w (hs.le hl)
theorem ev_len {Q : Exit → Act → World → Prop} {c : Code} {t n : Nat} {l : List (List C)} (hx : lk S.T t = some (.p false [.c (.s n l)])) (h : l.length ≤ 9223372036854775807 → Ev P X c Q S) : Ev P X c Q S := fun ρ a w hs => by
 obtain ⟨v, _, h2⟩ := hs.T t _ hx
 obtain ⟨ao, cap, _, h3, h4, _⟩ := rd_s h2.1
 exact h (by simp only [maxLen] at h4; omega) ρ a w hs
theorem ev_lenm {Q : Exit → Act → World → Prop} {c : Code} {t n : Nat} {α : Type} {f : α → List C} {l : List α} (hx : lk S.T t = some (.p false [.c (.s n (List.map f l))])) (h : l.length ≤ 9223372036854775807 → Ev P X c Q S) : Ev P X c Q S :=
 ev_len hx (by rw [List.length_map]; exact h)
theorem ev_lena {Q : Exit → Act → World → Prop} {c : Code} {t n : Nat} (i : Nat) {α : Type} {f : α → List C} {l : List α} {cs : List AC} (hx : lk S.T t = some (.p true cs)) (hi : nthO i cs = some (.c (.s n (List.map f l)))) (h : l.length ≤ 9223372036854775807 → Ev P X c Q S) : Ev P X c Q S := fun ρ a w hs => by
 obtain ⟨v, _, us, _, h2⟩ := hs.T t _ hx
 obtain ⟨u, _, h3⟩ := h2.get (nthO_eq hi)
 obtain ⟨ao, cap, _, h4, h5, _⟩ := rd_s h3
 rw [List.length_map] at h4
 exact h (by simp only [maxLen] at h5; omega) ρ a w hs
end
theorem lei {σ : List (Nat × Nat)} {S S' : St} (h1 : LeT σ S.T S'.T := by repeat first | exact trivial | refine ⟨rfl, ?_⟩) (h2 : LeB σ S.B S'.B := by repeat first | exact trivial | refine ⟨rfl, ?_⟩) (h3 : LeR σ S.R S'.R := by repeat first | exact trivial | refine ⟨⟨_, rfl, rfl⟩, ?_⟩) (h4 : LeM S.M S'.M := by repeat first | exact trivial | refine ⟨⟨_, rfl, rfl⟩, ?_⟩) (h5 : ndS σ S' = true := by rfl) : Le σ S S' := ⟨h1, h2, h3, h4, h5⟩
@[reducible] def iC (x : Int) : C := .v (.int .i64 x)
@[reducible] def bC (x : Bool) : C := .v (.bool x)
@[reducible] def ints (l : List Int) : C := .s 1 (l.map fun x => [iC x])
@[reducible] def one (c : C) : Bool × List C := (false, [c])
@[reducible] def many (l : List C) : Bool × List C := (true, l)
@[reducible] def bR (x : Bool) : List (Bool × List RC) := [(false, [RC.v (.bool x)])]
@[reducible] def iR (x : Int) : List (Bool × List RC) := [(false, [RC.v (.int .i64 x)])]
@[reducible] def intsR (ty : Nat) (l : List Int) : RC := .s ty 1 (l.map fun x => [iC x])
@[reducible] def iV (x : Int) : AV := .p false [.c (iC x)]
@[reducible] def bV (x : Bool) : AV := .p false [.c (bC x)]
@[reducible] def cV (c : C) : AV := .p false [.c c]
theorem bno {b : Bool} (h : b = true) (k : b = false) : False := by subst h; cases k
section
variable {P : Program} {X : Cx} {S : St} {Q : Exit → Act → World → Prop} {ops : Array Oper} {rest : List Oper} {TT : List (Nat × TI)} {T : List (Nat × AV)} {B : List (Nat × Nat × List AC)} {R : List (Nat × Nat × Nat × List (List C))} {M : List (Nat × (Int → Option Value))} {d : Tmp} {ty : TypeId} {pos : String} {af : Array Edge} {av : AV} {x y : Operand}
theorem xm (h : opv T x = some av) (hN : okD X d = true) (k : EvL P X ops rest Q ⟨(d, av) :: T, B, R, M⟩) : EvL P X ops (⟨some d, .move x, ty, pos, af, none⟩ :: rest) Q ⟨T, B, R, M⟩ := evl_q (q_move h) hN k
theorem xs (h : opv T x = some av) (hN : okD X d = true) (k : EvL P X ops rest Q ⟨(d, av) :: T, B, R, M⟩) : EvL P X ops (⟨some d, .assign x, ty, pos, af, none⟩ :: rest) Q ⟨T, B, R, M⟩ := evl_q (q_assign h) hN k
theorem xl {t : TypeId} (hT : TTOk P TT) (h : qLoad TT ⟨T, B, R, M⟩ t x = some av) (hN : okD X d = true) (k : EvL P X ops rest Q ⟨(d, av) :: T, B, R, M⟩) : EvL P X ops (⟨some d, .load t x, ty, pos, af, none⟩ :: rest) Q ⟨T, B, R, M⟩ := evl_q (q_load hT h) hN k
theorem xf {t f : Nat} (hT : TTOk P TT) (h : qFieldA TT ⟨T, B, R, M⟩ t x f = some av) (hN : okD X d = true) (k : EvL P X ops rest Q ⟨(d, av) :: T, B, R, M⟩) : EvL P X ops (⟨some d, .fieldAddr t x f, ty, pos, af, none⟩ :: rest) Q ⟨T, B, R, M⟩ := evl_q (q_fieldAddr hT h) hN k
theorem xb {op : BinOp} {t yt : TypeId} (hT : TTOk P TT) (h : qBin TT ⟨T, B, R, M⟩ op t x y = some av) (hN : okD X d = true) (k : EvL P X ops rest Q ⟨(d, av) :: T, B, R, M⟩) : EvL P X ops (⟨some d, .binOp op t x y yt, ty, pos, af, none⟩ :: rest) Q ⟨T, B, R, M⟩ := evl_q (q_bin hT h) hN k
theorem xa {op : BinOp} {t yt : TypeId} {m n z : Int} (hx : opv T x = some (.p false [.c (.v (.int .i64 m))])) (hy : opv T y = some (.p false [.c (.v (.int .i64 n))])) (h : arO op m n = some z) (hz : -9223372036854775808 ≤ z ∧ z ≤ 9223372036854775807) (hN : okD X d = true)
 (k : EvL P X ops rest Q ⟨(d, iV z) :: T, B, R, M⟩) : EvL P X ops (⟨some d, .binOp op t x y yt, ty, pos, af, none⟩ :: rest) Q ⟨T, B, R, M⟩ := evl_q (q_ar hx hy h hz) hN k
theorem xst {d : Option Tmp} {t : TypeId} {B' : List (Nat × Nat × List AC)} (hT : TTOk P TT) (h : eStore TT ⟨T, B, R, M⟩ t x y = some B') (hd : d = none) (k : EvL P X ops rest Q ⟨T, B', R, M⟩) : EvL P X ops (⟨d, .store t x y, ty, pos, af, none⟩ :: rest) Q ⟨T, B, R, M⟩ := by
 subst hd; exact evl_e (e_store hT h) k
theorem ev_cond_kt {c : Operand} {x y : Code} {b : Bool} (hc : opv S.T c = some (.p false [.c (.v (.bool b))])) (hb : b = true) (ht : Ev P X x Q S) : Ev P X (.cond c x y) Q S := ev_cond hc (fun _ => ht) (fun h => (bno hb h).elim)
theorem ev_cond_kf {c : Operand} {x y : Code} {b : Bool} (hc : opv S.T c = some (.p false [.c (.v (.bool b))])) (hb : b = false) (hf : Ev P X y Q S) : Ev P X (.cond c x y) Q S := ev_cond hc (fun h => (bno h hb).elim) (fun _ => hf)
theorem evl_partn {d : Option Tmp} {op : Op} {j : Nat} {want b : Bool} {t : Tmp} (hj : gTmp ops j = some t) (hv : lk S.T t = some (.p false [.c (.v (.bool !b))])) (ht : b = false → EvL P X ops (⟨d, op, ty, pos, af, some (j, want)⟩ :: rest) Q S)
 (hf : b = true → EvL P X ops (⟨d, op, ty, pos, af, some (j, want)⟩ :: rest) Q S) : EvL P X ops (⟨d, op, ty, pos, af, some (j, want)⟩ :: rest) Q S := evl_part hj hv (fun h => ht (by simpa using h)) (fun h => hf (by simpa using h))
theorem nt {b : Bool} (h : b = false) : (!b) = true := by subst h; rfl
theorem nf {b : Bool} (h : b = true) : (!b) = false := by subst h; rfl
theorem et {y : Code} {Q' : Exit → Act → World → Prop} (h : Ev P X y Q' S) : EvE X .normal (Exit.then (y.wp P Q') Q) S := eve_then h
theorem eb {id : Nat} (h : EvE X .normal Q S) : EvE X .normal (Exit.inBlock id Q) S := eve_blk h
theorem sq {x y : Code} (h : Ev P X x (Exit.then (y.wp P Q) Q) S) : Ev P X (.seq x y) Q S := ev_seq h
theorem rg {id : Nat} {l : List Oper} (h : EvL P X l.toArray l Q S) : Ev P X (.region id l.toArray false) Q S := ev_reg h
theorem nl (h : EvE X .normal Q S) : EvL P X ops [] Q S := evl_nil h
theorem xo {op : Op} (hq : Quiet P X ⟨T, B, R, M⟩ op av) (hN : okD X d = true) (h : EvL P X ops rest Q ⟨(d, av) :: T, B, R, M⟩) : EvL P X ops (⟨some d, op, ty, pos, af, none⟩ :: rest) Q ⟨T, B, R, M⟩ := evl_q hq hN h
theorem gm {j : Nat} {want b : Bool} {t : Tmp} (hb : b = want) (hj : gTmp ops j = some t) (hv : lk T t = some (.p false [.c (.v (.bool b))])) (h : opv T x = some av) (hN : okD X d = true) (k : EvL P X ops rest Q ⟨(d, av) :: T, B, R, M⟩) : EvL P X ops (⟨some d, .move x, ty, pos, af, some (j, want)⟩ :: rest) Q ⟨T, B, R, M⟩ := evl_qg hj hv hb (q_move h) hN k
theorem go {j : Nat} {want b : Bool} {t : Tmp} {op : Op} (hb : b = want) (hj : gTmp ops j = some t) (hv : lk T t = some (.p false [.c (.v (.bool b))])) (hq : Quiet P X ⟨T, B, R, M⟩ op av) (hN : okD X d = true) (k : EvL P X ops rest Q ⟨(d, av) :: T, B, R, M⟩) : EvL P X ops (⟨some d, op, ty, pos, af, some (j, want)⟩ :: rest) Q ⟨T, B, R, M⟩ := evl_qg hj hv hb hq hN k
theorem gn {j : Nat} {want b : Bool} {t : Tmp} {op : Op} (hb : b = !want) (hj : gTmp ops j = some t) (hv : lk T t = some (.p false [.c (.v (.bool b))])) (hN : okD X d = true) (k : EvL P X ops rest Q ⟨(d, .und) :: T, B, R, M⟩) : EvL P X ops (⟨some d, op, ty, pos, af, some (j, want)⟩ :: rest) Q ⟨T, B, R, M⟩ := evl_no hj hv hb hN k
theorem gu {j : Nat} {want : Bool} {t : Tmp} {op : Op} (hj : gTmp ops j = some t) (hv : lk T t = some .und) (hN : okD X d = true) (k : EvL P X ops rest Q ⟨(d, .und) :: T, B, R, M⟩) : EvL P X ops (⟨some d, op, ty, pos, af, some (j, want)⟩ :: rest) Q ⟨T, B, R, M⟩ := evl_noU hj hv hN k
end
end Go.Proofs.YtahkjonokeifmaaGreat
