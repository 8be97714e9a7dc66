/- Slices that move from one slice of one's own into another one; nil taken for an empty slice. No program in it. -/
import Derived.Test.YtphaggopgdbojaaGreatRiVK
namespace Go.Proofs.YtphaggopgdbojaaGreat
open Go.ChangeShapes Go.WideShapes Go.ChangeAt Go.RowKit
set_option linter.unusedVariables false
section
variable {P : Program} {X : Cx} {S : St} {ρ : Rho} {a : Act} {w : World} {TT : List (Nat × TI)}
theorem RepC.eqR {σ : Rho} (h1 : σ.H = ρ.H) (h2 : σ.box = ρ.box) (h3 : σ.root = ρ.root) (h4 : σ.rows = ρ.rows) {x : AC} {u : Value} (h : RepC ρ x u) : RepC σ x u := by
  cases x <;> simp only [RepC, h1, h2, h3, h4] at * <;> exact h
theorem noL_ff : ∀ l : List AC, noL (fun _ => false) l = true
  | [] => rfl
  | _ :: r => by unfold noL; exact noL_ff r
theorem noPs_ff : ∀ l : List (Bool × List AC), noPs (fun _ => false) l = true
  | [] => rfl
  | (_, l) :: r => by unfold noPs; rw [noL_ff l]; exact noPs_ff r
theorem noT_ff : ∀ T : List (Nat × AV), noT (fun _ => false) T = true
  | [] => rfl
  | (_, v) :: r => by
    unfold noT
    have : noV (fun _ => false) v = true := by cases v <;> first | rfl | exact noL_ff _ | exact noPs_ff _
    rw [this]; exact noT_ff r
theorem root_same {d : Nat} {F : List Nat} : (ρ.setRoot d (ρ.root d) (ρ.rows d) F).root = ρ.root ∧ (ρ.setRoot d (ρ.root d) (ρ.rows d) F).rows = ρ.rows := by
  constructor
  · funext b
    show (if b = d then ρ.root d else ρ.root b) = ρ.root b
    split
    · rename_i e; rw [e]
    · rfl
  · funext b
    show (if b = d then ρ.rows d else ρ.rows b) = ρ.rows b
    split
    · rename_i e; rw [e]
    · rfl
/-- what is known of a slice of one's own turns; some of its blocks may be given up -/
theorem Sim.setR (h : Sim X ρ S a w) {r ty n ty0 n0 : Nat} {l l' : List (List C)} {F' : List Nat} (hr : lk S.R r = some (ty0, n0, l)) (ho : OwS w ty n l' (ρ.root r) (ρ.rows r) F') (hF : ∀ b ∈ F', b ∈ ρ.foot r) (hn : F'.Nodup) (f3 : noK r (eraR r S.R) = true) :
    Sim X (ρ.setRoot r (ρ.root r) (ρ.rows r) F') ⟨S.T, S.B, (r, ty, n, l') :: eraR r S.R, S.M⟩ a w ∧ ∀ b ∈ ρ.foot r, b ∉ F' → b ∉ feet (ρ.setRoot r (ρ.root r) (ρ.rows r) F') ⟨S.T, S.B, (r, ty, n, l') :: eraR r S.R, S.M⟩ := by
  have hndR : (fts ρ S.R).Nodup := by
    have := h.hp.nd
    unfold feet at this
    exact (List.nodup_append.1 (List.nodup_append.1 this).2.1).1
  obtain ⟨j1, j2, j3, j4⟩ := era_own (ρ := ρ) hr hndR
  obtain ⟨e1, e2⟩ := root_same (ρ := ρ) (d := r) (F := F')
  have hrep : ∀ x u, RepC ρ x u → RepC (ρ.setRoot r (ρ.root r) (ρ.rows r) F') x u := fun x u hx => RepC.eqR (ρ := ρ) (σ := ρ.setRoot r (ρ.root r) (ρ.rows r) F') rfl rfl e1 e2 hx
  have hfe : feet (ρ.setRoot r (ρ.root r) (ρ.rows r) F') ⟨S.T, S.B, (r, ty, n, l') :: eraR r S.R, S.M⟩ = S.B.map (fun x => ρ.box x.1) ++ (F' ++ fts ρ (eraR r S.R) ++ S.M.map fun x => ρ.box x.1) := by
    have key : ∀ R : RL, (∀ x ∈ R, x.1 ≠ r) → R.flatMap (fun x => (ρ.setRoot r (ρ.root r) (ρ.rows r) F').foot x.1) = R.flatMap fun x => ρ.foot x.1 := by
      intro R
      induction R with
      | nil => intro _; rfl
      | cons x R ih =>
        intro h
        rw [List.flatMap_cons, List.flatMap_cons, ih fun y hy => h y (by simp [hy])]
        congr 1
        show (if x.1 = r then F' else ρ.foot x.1) = _
        rw [if_neg (h x (by simp))]
    unfold feet
    simp only [List.flatMap_cons, key _ fun x hx => noK_mem f3 x hx]
    show _ ++ ((if r = r then F' else ρ.foot r) ++ _ ++ _) = _
    rw [if_pos rfl]
    rfl
  have hnd := h.hp.nd
  unfold feet at hnd
  obtain ⟨n1, n2, n3⟩ := List.nodup_append.1 hnd
  obtain ⟨n4, n5, n6⟩ := List.nodup_append.1 n2
  obtain ⟨m1, m2, m3⟩ := List.nodup_append.1 j3
  have hsubR : ∀ b ∈ fts ρ (eraR r S.R), b ∈ fts ρ S.R := fun b hb => let ⟨x, hx, hb⟩ := List.mem_flatMap.1 hb; List.mem_flatMap.2 ⟨x, j1 x hx, hb⟩
  have hsub : ∀ b ∈ S.B.map (fun x => ρ.box x.1) ++ (F' ++ fts ρ (eraR r S.R) ++ S.M.map fun x => ρ.box x.1), b ∈ feet ρ S := fun b hb => by
    unfold feet
    simp only [List.mem_append] at hb ⊢
    rcases hb with hb | (hb | hb) | hb
    · exact .inl hb
    · exact .inr (.inl (j4 b (hF b hb)))
    · exact .inr (.inl (hsubR b hb))
    · exact .inr (.inr hb)
  refine ⟨⟨⟨h.hp.H, fun x hx => ?_, fun x hx => ?_, fun x hx => h.hp.M x hx, ?_, fun b hb => ?_⟩, Sim.tr (m := fun _ => false) (X := X) (fun x v _ hv => hrep x v hv) (noT_ff _) h.T, h.df, h.sz, h.fr, fun b hb => ?_⟩, fun b hb hnb hm => ?_⟩
  · obtain ⟨vs, h1, h2⟩ := h.hp.B x hx
    exact ⟨vs, h1, h2.monoM fun a b _ hab => hrep a b hab⟩
  · rcases List.mem_cons.1 hx with rfl | hx
    · show OwS w ty n l' (if r = r then ρ.root r else ρ.root r) (if r = r then ρ.rows r else ρ.rows r) (if r = r then F' else ρ.foot r)
      rw [if_pos rfl, if_pos rfl, if_pos rfl]; exact ho
    · have hne : x.1 ≠ r := noK_mem f3 x hx
      show OwS w x.2.1 x.2.2.1 x.2.2.2 (if x.1 = r then ρ.root r else ρ.root x.1) (if x.1 = r then ρ.rows r else ρ.rows x.1) (if x.1 = r then F' else ρ.foot x.1)
      rw [if_neg hne, if_neg hne, if_neg hne]; exact h.hp.R x (j1 x hx)
  · rw [hfe]
    refine List.nodup_append.2 ⟨n1, List.nodup_append.2 ⟨List.nodup_append.2 ⟨hn, m2, fun a ha b hb => m3 a (hF a ha) b hb⟩, n5, fun a ha b hb e => ?_⟩, fun a ha b hb e => ?_⟩
    · subst e
      rcases List.mem_append.1 ha with ha | ha
      · exact n6 a (j4 a (hF a ha)) a hb rfl
      · exact n6 a (hsubR a ha) a hb rfl
    · subst e
      rcases List.mem_append.1 hb with hb | hb
      · rcases List.mem_append.1 hb with hb | hb
        · exact n3 a ha a (List.mem_append_left _ (j4 a (hF a hb))) rfl
        · exact n3 a ha a (List.mem_append_left _ (hsubR a hb)) rfl
      · exact n3 a ha a (List.mem_append_right _ hb) rfl
  · rw [hfe] at hb; exact h.hp.dj b (hsub b hb)
  · rw [hfe] at hb; exact h.ft b (hsub b hb)
  · rw [hfe] at hm
    rcases List.mem_append.1 hm with hm | hm
    · exact n3 b hm b (List.mem_append_left _ (j4 b hb)) rfl
    · rcases List.mem_append.1 hm with hm | hm
      · rcases List.mem_append.1 hm with hm | hm
        · exact hnb hm
        · exact m3 b hb b hm rfl
      · exact n6 b (j4 b hb) b hm rfl
/-- nil, taken for an empty slice whose elements have m cells -/
def nilTo (m : Nat) : C → C
  | .nil => .s m []
  | c => c
theorem own_nil {m : Nat} {c : C} {u : Value} {F : List Nat} (h : OwX w c u F) : OwX w (nilTo m c) u F := by
  cases c with
  | nil =>
    obtain ⟨d, hd⟩ := h
    have hd : u = .slice none 0 0 ∧ F = [] := by cases d <;> exact hd
    obtain ⟨rfl, rfl⟩ := hd
    exact ⟨1, 0, [], [], ⟨⟨by simp, .inl ⟨rfl, rfl⟩⟩, by simp, trivial⟩, rfl⟩
  | _ => exact h
theorem own_nils {m : Nat} : ∀ {cs : List C} {us : List Value} {Fs : List (List Nat)}, All3 (OwX w) cs us Fs → All3 (OwX w) (cs.map (nilTo m)) us Fs
  | [], [], [], _ => trivial
  | _ :: _, _ :: _, _ :: _, h => ⟨own_nil h.1, own_nils h.2⟩
  | [], _ :: _, _, h => h.elim
  | [], [], _ :: _, h => h.elim
  | _ :: _, [], _, h => h.elim
  | _ :: _, _ :: _, [], h => h.elim
variable {Q : Exit → Act → World → Prop} {ops : Array Oper} {rest : List Oper}
theorem ev_nils {T : List (Nat × AV)} {B : List (Nat × Nat × List AC)} {R : RL} {M : List (Nat × (Int → Option Value))} {c : Code} {r ty n m : Nat} {l l' : List (List C)} (hr : lk R r = some (ty, n, l)) (hl : l' = l.map fun row => row.map (nilTo m)) (f3 : noK r (eraR r R) = true)
    (h : Ev P X c Q ⟨T, B, (r, ty, n, l') :: eraR r R, M⟩) : Ev P X c Q ⟨T, B, R, M⟩ := fun ρ a w hs => by
  subst hl
  have how := hs.hp.R _ (lk_mem hr)
  obtain ⟨Fs, ⟨h1, h2, h3⟩, h4⟩ := how
  have hnd : (ρ.foot r).Nodup := by
    have := hs.hp.nd
    unfold feet at this
    exact (List.nodup_append.1 (era_own (ρ := ρ) hr (List.nodup_append.1 (List.nodup_append.1 this).2.1).1).2.2.1).1
  refine h _ a w (hs.setR (ty := ty) (n := n) hr (F' := ρ.foot r) ⟨Fs, ⟨by simpa using h1, fun cs hcs => ?_, ?_⟩, h4⟩ (fun b hb => hb) hnd f3).1
  · obtain ⟨x, hx, rfl⟩ := List.mem_map.1 hcs
    rw [List.length_map]; exact h2 x hx
  · rw [show (l.map fun row => row.map (nilTo m)).flatten = l.flatten.map (nilTo m) by rw [List.map_flatten]]
    exact own_nils h3
/-- a slice within a slice of one's own becomes one of its own name; there a hole is left -/
theorem Sim.take {T : List (Nat × AV)} {B : List (Nat × Nat × List AC)} {R : RL} {M : List (Nat × (Int → Option Value))} {t nm r n n' k j m ty : Nat} {rows : List (List C)} {row : List C} {c : List (List C)} (hs : Sim X ρ ⟨T, B, R, M⟩ a w) (hx : lk T t = some (.p false [.sub r n k j])) (hr : lk R r = some (ty, n', rows)) (hn : Nat.beq n' n = true)
    (hk : rows[k]? = some row) (hj : row[j]? = some (.s m c)) (f3 : noK r (eraR r R) = true) (hf : freshR nm ⟨T, B, (r, ty, n, rows.set k (row.set j .hole)) :: eraR r R, M⟩ = true) :
    ∃ ρ' ty', Sim X ρ' ⟨(t, .p false [.rt nm]) :: T, B, (nm, ty', m, c) :: (r, ty, n, rows.set k (row.set j .hole)) :: eraR r R, M⟩ a w := by
  obtain rfl := Nat.eq_of_beq_eq_true hn
  have how := hs.hp.R _ (lk_mem hr)
  obtain ⟨v, ob, G, A, D, hv, hox, hFe, hput⟩ := own_sub how hk hj
  have hFe : ρ.foot r = ob ++ (A ++ (G ++ D)) := hFe
  have hnd : (ρ.foot r).Nodup := by
    have := hs.hp.nd
    unfold feet at this
    exact (List.nodup_append.1 (era_own (ρ := ρ) hr (List.nodup_append.1 (List.nodup_append.1 this).2.1).1).2.2.1).1
  have hnd2 := hnd
  rw [hFe] at hnd2
  obtain ⟨a1, a2, a3⟩ := List.nodup_append.1 hnd2
  obtain ⟨a4, a5, a6⟩ := List.nodup_append.1 a2
  obtain ⟨a7, a8, a9⟩ := List.nodup_append.1 a5
  have hone : v.oneCell' = true := by
    have := hox.read (H := fun b => w.heap[b]?) fun _ _ => rfl
    exact this.one
  have hown := hput w [] .hole (fun _ _ => rfl) ⟨0, hone, rfl⟩
  rw [List.nil_append] at hown
  have hn2 : (ob ++ (A ++ D)).Nodup := List.nodup_append.2 ⟨a1, List.nodup_append.2 ⟨a4, a8, fun x hx y hy => a6 x hx y (List.mem_append_right _ hy)⟩, fun x hx y hy => a3 x hx y (by
    rcases List.mem_append.1 hy with hy | hy
    · exact List.mem_append_left _ hy
    · exact List.mem_append_right _ (List.mem_append_right _ hy))⟩
  obtain ⟨hs1, hout⟩ := hs.setR (ty := ty) (n := n') hr hown (fun b hb => by
    rw [hFe]
    simp only [List.mem_append] at hb ⊢
    rcases hb with hb | hb | hb
    · exact .inl hb
    · exact .inr (.inl hb)
    · exact .inr (.inr (.inr hb))) hn2 f3
  obtain ⟨ty', xs', hos⟩ := own_typed hox
  have hGf : ∀ b ∈ G, b ∈ ρ.foot r := fun b hb => by rw [hFe]; simp [hb]
  have hbf : ∀ b ∈ G, b ∈ feet ρ ⟨T, B, R, M⟩ := fun b hb => List.mem_append_right _ (List.mem_append_left _ (List.mem_flatMap.2 ⟨_, lk_mem hr, hGf b hb⟩))
  have hs2 := hs1.newroot hos a7 (fun b hb => ⟨hout b (hGf b hb) fun hm => ?_, hs.hp.dj b (hbf b hb), hs.ft b (hbf b hb)⟩) hf
  · refine ⟨_, ty', hs2.know (t := t) (v := v) (av := .p false [.rt nm]) ?_ ⟨⟨?_, hone⟩, trivial⟩⟩
    · obtain ⟨u, h1, h2⟩ := hs.T t _ hx
      have h3 := h2.1.1
      have hv : (ρ.rows r)[k * n' + j]? = some v := hv
      rw [hv] at h3
      rw [h1]; congr 1; exact (Option.some.inj h3).symm
    · show v = if nm = nm then v else _
      rw [if_pos rfl]
  · rcases List.mem_append.1 hm with hm | hm
    · exact a3 b hm b (List.mem_append_right _ (List.mem_append_left _ hb)) rfl
    · rcases List.mem_append.1 hm with hm | hm
      · exact a6 b hm b (List.mem_append_left _ hb) rfl
      · exact a9 b hb b hm rfl
theorem evl_take {T : List (Nat × AV)} {B : List (Nat × Nat × List AC)} {R : RL} {M : List (Nat × (Int → Option Value))} {r n n' k j m ty : Nat} {rows rows' : List (List C)} {row : List C} {c : List (List C)} (t nm : Nat) (hx : lk T t = some (.p false [.sub r n k j])) (hr : lk R r = some (ty, n', rows)) (hn : Nat.beq n' n = true)
    (hk : rows[k]? = some row) (hj : row[j]? = some (.s m c)) (hrows : rows' = rows.set k (row.set j .hole)) (f3 : noK r (eraR r R) = true) (hf : freshR nm ⟨T, B, (r, ty, n, rows') :: eraR r R, M⟩ = true)
    (h : ∀ ty', EvL P X ops rest Q ⟨(t, .p false [.rt nm]) :: T, B, (nm, ty', m, c) :: (r, ty, n, rows') :: eraR r R, M⟩) : EvL P X ops rest Q ⟨T, B, R, M⟩ := fun ρ a w hs => by
  subst hrows
  obtain ⟨ρ', ty', hs'⟩ := hs.take hx hr hn hk hj f3 hf
  exact h ty' ρ' a w hs'
/-- slots that name cells of the slice r are forgotten ahead of an operation -/
theorem eff_flt {T : List (Nat × AV)} {B : List (Nat × Nat × List AC)} {R : RL} {M : List (Nat × (Int → Option Value))} {d : Option Tmp} {op : Op} {S' : St} {fr : Bool} (r : Nat) (h : Eff P X ⟨flT r T, B, R, M⟩ d op S' fr) : Eff P X ⟨T, B, R, M⟩ d op S' fr := fun ρ a w hs => h ρ a w (hs.weakT fun t av ht => by
  rcases flT_lk ht with h9 | ⟨rfl, av', h9⟩
  · exact .inl h9
  · refine .inr ⟨rfl, ?_⟩
    obtain ⟨v9, h10, _⟩ := hs.T t av' h9
    rw [← hs.sz.1]
    exact (Array.getElem?_eq_some_iff.1 h10).1)
end
end Go.Proofs.YtphaggopgdbojaaGreat
