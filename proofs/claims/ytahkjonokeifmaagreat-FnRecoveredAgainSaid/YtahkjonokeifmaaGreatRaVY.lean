/- Drawn regions over what is only read. No program in it. -/
import Derived.Test.YtahkjonokeifmaaGreatRaVN
import Derived.RangeFuncNested
import Derived.RangeFuncLeaves
import Derived.TacticsIn
import Derived.OrdersIn
import Derived.ControlIn
import Derived.RangeFuncBound
namespace Go.Proofs.YtahkjonokeifmaaGreat
open Go.ChangeShapes Go.WideShapes Go.ChangeAt Go.RowKit
set_option linter.unusedVariables false
section
variable {P : Program} {X : Cx} {S : St} {ρ : Rho} {a : Act} {w : World} {TT : List (Nat × TI)}
theorem RepC.eqR {σ : Rho} (h1 : σ.H = ρ.H) (h2 : σ.box = ρ.box) (h3 : σ.root = ρ.root) (h4 : σ.rows = ρ.rows) {x : AC} {u : Value} (h : RepC ρ x u) : RepC σ x u := by
 cases x <;> simp only [RepC, h1, h2, h3, h4] at * <;> exact h
theorem noL_ff : ∀ l : List AC, noL (fun _ => false) l = true
 | [] => rfl
 | _ :: r => by unfold noL; exact noL_ff r
theorem noPs_ff : ∀ l : List (Bool × List AC), noPs (fun _ => false) l = true
 | [] => rfl
 | (_, l) :: r => by unfold noPs; rw [noL_ff l]; exact noPs_ff r
theorem noT_ff : ∀ T : List (Nat × AV), noT (fun _ => false) T = true
  | [] => rfl
  | (_, v) :: r => by
    unfold noT
    have : noV (fun _ => false) v = true := by cases v <;> first | rfl | exact noL_ff _ | exact noPs_ff _
    rw [this]; exact noT_ff r
theorem root_same {d : Nat} {F : List Nat} : (ρ.setRoot d (ρ.root d) (ρ.rows d) F).root = ρ.root ∧ (ρ.setRoot d (ρ.root d) (ρ.rows d) F).rows = ρ.rows := by
 constructor
 ·funext b
  show (if b = d then ρ.root d else ρ.root b) = ρ.root b
  split
  ·rename_i e; rw [e]
  ·rfl
 ·funext b
  show (if b = d then ρ.rows d else ρ.rows b) = ρ.rows b
  split
  ·rename_i e; rw [e]
  ·rfl
theorem Sim.setR (h : Sim X ρ S a w) {r ty n ty0 n0 : Nat} {l l' : List (List C)} {F' : List Nat} (hr : lk S.R r = some (ty0, n0, l)) (ho : OwS w ty n l' (ρ.root r) (ρ.rows r) F') (hF : ∀ b ∈ F', b ∈ ρ.foot r) (hn : F'.Nodup) (f3 : noK r (eraR r S.R) = true) :
  Sim X (ρ.setRoot r (ρ.root r) (ρ.rows r) F') ⟨S.T, S.B, (r, ty, n, l') :: eraR r S.R, S.M⟩ a w ∧ ∀ b ∈ ρ.foot r, b ∉ F' → b ∉ feet (ρ.setRoot r (ρ.root r) (ρ.rows r) F') ⟨S.T, S.B, (r, ty, n, l') :: eraR r S.R, S.M⟩ := by
 have hndR : (fts ρ S.R).Nodup := by
  have := h.hp.nd
  unfold feet at this
  exact (List.nodup_append.1 (List.nodup_append.1 this).2.1).1
 obtain ⟨j1, j2, j3, j4⟩ := era_own (ρ := ρ) hr hndR
 obtain ⟨e1, e2⟩ := root_same (ρ := ρ) (d := r) (F := F')
 have hrep : ∀ x u, RepC ρ x u → RepC (ρ.setRoot r (ρ.root r) (ρ.rows r) F') x u := fun x u hx => RepC.eqR (ρ := ρ) (σ := ρ.setRoot r (ρ.root r) (ρ.rows r) F') rfl rfl e1 e2 hx
 have hfe : feet (ρ.setRoot r (ρ.root r) (ρ.rows r) F') ⟨S.T, S.B, (r, ty, n, l') :: eraR r S.R, S.M⟩ = S.B.map (fun x => ρ.box x.1) ++ (F' ++ fts ρ (eraR r S.R) ++ S.M.map fun x => ρ.box x.1) := by
  have key : ∀ R : RL, (∀ x ∈ R, x.1 ≠ r) → R.flatMap (fun x => (ρ.setRoot r (ρ.root r) (ρ.rows r) F').foot x.1) = R.flatMap fun x => ρ.foot x.1 := by
   intro R
   induction R with
   | nil => intro _; rfl
   | cons x R ih =>
    intro h
    rw [List.flatMap_cons, List.flatMap_cons, ih fun y hy => h y (by simp [hy])]
    congr 1
    show (if x.1 = r then F' else ρ.foot x.1) = _
    rw [if_neg (h x (by simp))]
  unfold feet
  simp only [List.flatMap_cons, key _ fun x hx => noK_mem f3 x hx]
  show _ ++ ((if r = r then F' else ρ.foot r) ++ _ ++ _) = _
  rw [if_pos rfl]
  rfl
 have hnd := h.hp.nd
 unfold feet at hnd
 obtain ⟨n1, n2, n3⟩ := List.nodup_append.1 hnd
 obtain ⟨n4, n5, n6⟩ := List.nodup_append.1 n2
 obtain ⟨m1, m2, m3⟩ := List.nodup_append.1 j3
 have hsubR : ∀ b ∈ fts ρ (eraR r S.R), b ∈ fts ρ S.R := fun b hb => let ⟨x, hx, hb⟩ := List.mem_flatMap.1 hb; List.mem_flatMap.2 ⟨x, j1 x hx, hb⟩
 have hsub : ∀ b ∈ S.B.map (fun x => ρ.box x.1) ++ (F' ++ fts ρ (eraR r S.R) ++ S.M.map fun x => ρ.box x.1), b ∈ feet ρ S := fun b hb => by
  unfold feet
  simp only [List.mem_append] at hb ⊢
  rcases hb with hb | (hb | hb) | hb
  ·exact .inl hb
  ·exact .inr (.inl (j4 b (hF b hb)))
  ·exact .inr (.inl (hsubR b hb))
  ·exact .inr (.inr hb)
 refine ⟨⟨⟨h.hp.H, fun x hx => ?_, fun x hx => ?_, fun x hx => h.hp.M x hx, ?_, fun b hb => ?_⟩, Sim.tr (m := fun _ => false) (X := X) (fun x v _ hv => hrep x v hv) (noT_ff _) h.T, h.df, h.sz, h.fr, fun b hb => ?_⟩, fun b hb hnb hm => ?_⟩
 ·obtain ⟨vs, h1, h2⟩ := h.hp.B x hx
  exact ⟨vs, h1, h2.monoM fun a b _ hab => hrep a b hab⟩
 ·rcases List.mem_cons.1 hx with rfl | hx
  ·show OwS w ty n l' (if r = r then ρ.root r else ρ.root r) (if r = r then ρ.rows r else ρ.rows r) (if r = r then F' else ρ.foot r)
   rw [if_pos rfl, if_pos rfl, if_pos rfl]; exact ho
  ·have hne : x.1 ≠ r := noK_mem f3 x hx
   show OwS w x.2.1 x.2.2.1 x.2.2.2 (if x.1 = r then ρ.root r else ρ.root x.1) (if x.1 = r then ρ.rows r else ρ.rows x.1) (if x.1 = r then F' else ρ.foot x.1)
   rw [if_neg hne, if_neg hne, if_neg hne]; exact h.hp.R x (j1 x hx)
 ·rw [hfe]
  refine List.nodup_append.2 ⟨n1, List.nodup_append.2 ⟨List.nodup_append.2 ⟨hn, m2, fun a ha b hb => m3 a (hF a ha) b hb⟩, n5, fun a ha b hb e => ?_⟩, fun a ha b hb e => ?_⟩
  ·subst e
   rcases List.mem_append.1 ha with ha | ha
   ·exact n6 a (j4 a (hF a ha)) a hb rfl
   ·exact n6 a (hsubR a ha) a hb rfl
  ·subst e
   rcases List.mem_append.1 hb with hb | hb
   ·rcases List.mem_append.1 hb with hb | hb
    ·exact n3 a ha a (List.mem_append_left _ (j4 a (hF a hb))) rfl
    ·exact n3 a ha a (List.mem_append_left _ (hsubR a hb)) rfl
   ·exact n3 a ha a (List.mem_append_right _ hb) rfl
 ·rw [hfe] at hb; exact h.hp.dj b (hsub b hb)
 ·rw [hfe] at hb; exact h.ft b (hsub b hb)
 ·rw [hfe] at hm
  rcases List.mem_append.1 hm with hm | hm
  ·exact n3 b hm b (List.mem_append_left _ (j4 b hb)) rfl
  ·rcases List.mem_append.1 hm with hm | hm
   ·rcases List.mem_append.1 hm with hm | hm
    ·exact hnb hm
    ·exact m3 b hb b hm rfl
   ·exact n6 b (j4 b hb) b hm rfl
def nilTo (m : Nat) : C → C
 | .nil => .s m []
 | c => c
theorem own_nil {m : Nat} {c : C} {u : Value} {F : List Nat} (h : OwX w c u F) : OwX w (nilTo m c) u F := by
 cases c with
 | nil =>
  obtain ⟨d, hd⟩ := h
  have hd : u = .slice none 0 0 ∧ F = [] := by cases d <;> exact hd
  obtain ⟨rfl, rfl⟩ := hd
  exact ⟨1, 0, [], [], ⟨⟨by simp, .inl ⟨rfl, rfl⟩⟩, by simp, trivial⟩, rfl⟩
 | _ => exact h
theorem own_nils {m : Nat} : ∀ {cs : List C} {us : List Value} {Fs : List (List Nat)}, All3 (OwX w) cs us Fs → All3 (OwX w) (cs.map (nilTo m)) us Fs
 | [], [], [], _ => trivial
 | _ :: _, _ :: _, _ :: _, h => ⟨own_nil h.1, own_nils h.2⟩
 | [], _ :: _, _, h => h.elim
 | [], [], _ :: _, h => h.elim
 | _ :: _, [], _, h => h.elim
 | _ :: _, _ :: _, [], h => h.elim
variable {Q : Exit → Act → World → Prop} {ops : Array Oper} {rest : List Oper}
theorem ev_nils {T : List (Nat × AV)} {B : List (Nat × Nat × List AC)} {R : RL} {M : List (Nat × (Int → Option Value))} {c : Code} {r ty n m : Nat} {l l' : List (List C)} (hr : lk R r = some (ty, n, l)) (hl : l' = l.map fun row => row.map (nilTo m)) (f3 : noK r (eraR r R) = true)
  (h : Ev P X c Q ⟨T, B, (r, ty, n, l') :: eraR r R, M⟩) : Ev P X c Q ⟨T, B, R, M⟩ := fun ρ a w hs => by
 subst hl
 have how := hs.hp.R _ (lk_mem hr)
 obtain ⟨Fs, ⟨h1, h2, h3⟩, h4⟩ := how
 have hnd : (ρ.foot r).Nodup := by
  have := hs.hp.nd
  unfold feet at this
  exact (List.nodup_append.1 (era_own (ρ := ρ) hr (List.nodup_append.1 (List.nodup_append.1 this).2.1).1).2.2.1).1
 refine h _ a w (hs.setR (ty := ty) (n := n) hr (F' := ρ.foot r) ⟨Fs, ⟨by simpa using h1, fun cs hcs => ?_, ?_⟩, h4⟩ (fun b hb => hb) hnd f3).1
 ·obtain ⟨x, hx, rfl⟩ := List.mem_map.1 hcs
  rw [List.length_map]; exact h2 x hx
 ·rw [show (l.map fun row => row.map (nilTo m)).flatten = l.flatten.map (nilTo m) by rw [List.map_flatten]]
  exact own_nils h3
theorem Sim.take {T : List (Nat × AV)} {B : List (Nat × Nat × List AC)} {R : RL} {M : List (Nat × (Int → Option Value))} {t nm r n n' k j m ty : Nat} {rows : List (List C)} {row : List C} {c : List (List C)} (hs : Sim X ρ ⟨T, B, R, M⟩ a w) (hx : lk T t = some (.p false [.sub r n k j])) (hr : lk R r = some (ty, n', rows)) (hn : Nat.beq n' n = true)
  (hk : rows[k]? = some row) (hj : row[j]? = some (.s m c)) (f3 : noK r (eraR r R) = true) (hf : freshR nm ⟨T, B, (r, ty, n, rows.set k (row.set j .hole)) :: eraR r R, M⟩ = true) :
  ∃ ρ' ty', Sim X ρ' ⟨(t, .p false [.rt nm]) :: T, B, (nm, ty', m, c) :: (r, ty, n, rows.set k (row.set j .hole)) :: eraR r R, M⟩ a w := by
 obtain rfl := Nat.eq_of_beq_eq_true hn
 have how := hs.hp.R _ (lk_mem hr)
 obtain ⟨v, ob, G, A, D, hv, hox, hFe, hput⟩ := own_sub how hk hj
 have hFe : ρ.foot r = ob ++ (A ++ (G ++ D)) := hFe
 have hnd : (ρ.foot r).Nodup := by
  have := hs.hp.nd
  unfold feet at this
  exact (List.nodup_append.1 (era_own (ρ := ρ) hr (List.nodup_append.1 (List.nodup_append.1 this).2.1).1).2.2.1).1
 have hnd2 := hnd
 rw [hFe] at hnd2
 obtain ⟨a1, a2, a3⟩ := List.nodup_append.1 hnd2
 obtain ⟨a4, a5, a6⟩ := List.nodup_append.1 a2
 obtain ⟨a7, a8, a9⟩ := List.nodup_append.1 a5
 have hone : v.oneCell' = true := by
  have := hox.read (H := fun b => w.heap[b]?) fun _ _ => rfl
  exact this.one
 have hown := hput w [] .hole (fun _ _ => rfl) ⟨0, hone, rfl⟩
 rw [List.nil_append] at hown
 have hn2 : (ob ++ (A ++ D)).Nodup := List.nodup_append.2 ⟨a1, List.nodup_append.2 ⟨a4, a8, fun x hx y hy => a6 x hx y (List.mem_append_right _ hy)⟩, fun x hx y hy => a3 x hx y (by
  rcases List.mem_append.1 hy with hy | hy
  ·exact List.mem_append_left _ hy
  ·exact List.mem_append_right _ (List.mem_append_right _ hy))⟩
 obtain ⟨hs1, hout⟩ := hs.setR (ty := ty) (n := n') hr hown (fun b hb => by
  rw [hFe]
  simp only [List.mem_append] at hb ⊢
  rcases hb with hb | hb | hb
  ·exact .inl hb
  ·exact .inr (.inl hb)
  ·exact .inr (.inr (.inr hb))) hn2 f3
 obtain ⟨ty', xs', hos⟩ := own_typed hox
 have hGf : ∀ b ∈ G, b ∈ ρ.foot r := fun b hb => by rw [hFe]; simp [hb]
 have hbf : ∀ b ∈ G, b ∈ feet ρ ⟨T, B, R, M⟩ := fun b hb => List.mem_append_right _ (List.mem_append_left _ (List.mem_flatMap.2 ⟨_, lk_mem hr, hGf b hb⟩))
 have hs2 := hs1.newroot hos a7 (fun b hb => ⟨hout b (hGf b hb) fun hm => ?_, hs.hp.dj b (hbf b hb), hs.ft b (hbf b hb)⟩) hf
 ·refine ⟨_, ty', hs2.know (t := t) (v := v) (av := .p false [.rt nm]) ?_ ⟨⟨?_, hone⟩, trivial⟩⟩
  ·obtain ⟨u, h1, h2⟩ := hs.T t _ hx
   have h3 := h2.1.1
   have hv : (ρ.rows r)[k * n' + j]? = some v := hv
   rw [hv] at h3
   rw [h1]; congr 1; exact (Option.some.inj h3).symm
  ·show v = if nm = nm then v else _
   rw [if_pos rfl]
 ·rcases List.mem_append.1 hm with hm | hm
  ·exact a3 b hm b (List.mem_append_right _ (List.mem_append_left _ hb)) rfl
  ·rcases List.mem_append.1 hm with hm | hm
   ·exact a6 b hm b (List.mem_append_left _ hb) rfl
   ·exact a9 b hb b hm rfl
theorem evl_take {T : List (Nat × AV)} {B : List (Nat × Nat × List AC)} {R : RL} {M : List (Nat × (Int → Option Value))} {r n n' k j m ty : Nat} {rows rows' : List (List C)} {row : List C} {c : List (List C)} (t nm : Nat) (hx : lk T t = some (.p false [.sub r n k j])) (hr : lk R r = some (ty, n', rows)) (hn : Nat.beq n' n = true)
  (hk : rows[k]? = some row) (hj : row[j]? = some (.s m c)) (hrows : rows' = rows.set k (row.set j .hole)) (f3 : noK r (eraR r R) = true) (hf : freshR nm ⟨T, B, (r, ty, n, rows') :: eraR r R, M⟩ = true)
  (h : ∀ ty', EvL P X ops rest Q ⟨(t, .p false [.rt nm]) :: T, B, (nm, ty', m, c) :: (r, ty, n, rows') :: eraR r R, M⟩) : EvL P X ops rest Q ⟨T, B, R, M⟩ := fun ρ a w hs => by
 subst hrows
 obtain ⟨ρ', ty', hs'⟩ := hs.take hx hr hn hk hj f3 hf
 exact h ty' ρ' a w hs'
theorem ev_take {T : List (Nat × AV)} {B : List (Nat × Nat × List AC)} {R : RL} {M : List (Nat × (Int → Option Value))} {r n n' k j m ty : Nat} {rows rows' : List (List C)} {row : List C} {c : List (List C)} {cd : Code} (t nm : Nat) (hx : lk T t = some (.p false [.sub r n k j])) (hr : lk R r = some (ty, n', rows)) (hn : Nat.beq n' n = true)
  (hk : rows[k]? = some row) (hj : row[j]? = some (.s m c)) (hrows : rows' = rows.set k (row.set j .hole)) (f3 : noK r (eraR r R) = true) (hf : freshR nm ⟨T, B, (r, ty, n, rows') :: eraR r R, M⟩ = true)
  (h : ∀ ty', Ev P X cd Q ⟨(t, .p false [.rt nm]) :: T, B, (nm, ty', m, c) :: (r, ty, n, rows') :: eraR r R, M⟩) : Ev P X cd Q ⟨T, B, R, M⟩ := fun ρ a w hs => by
 subst hrows
 obtain ⟨ρ', ty', hs'⟩ := hs.take hx hr hn hk hj f3 hf
 exact h ty' ρ' a w hs'
def nilsO (m : Nat) : List AC → Option (List AC)
 | [] => some []
 | x :: r => match nilsO m r with
  | some r' => match x with
   | .c .nil => some (.c (.s m []) :: r')
   | _ => some (x :: r')
  | none => none
theorem nilsO_rep {m : Nat} : ∀ {l l' : List AC} {us : List Value}, nilsO m l = some l' → L2 (RepC ρ) l us → L2 (RepC ρ) l' us
 | [], l', us, h, hu => by cases h; exact hu
 | x :: r, l', [], h, hu => hu.elim
 | x :: r, l', u :: us, h, hu => by
  unfold nilsO at h
  split at h
  ·rename_i r' hr
   split at h
   ·cases h
    refine ⟨?_, nilsO_rep hr hu.2⟩
    rw [rd_nil hu.1]
    exact ⟨1, none, 0, rfl, Nat.le_refl _, Nat.zero_le _, by simp, .inl rfl⟩
   ·cases h; exact ⟨hu.1, nilsO_rep hr hu.2⟩
  ·cases h
theorem evl_nilc {T : List (Nat × AV)} {B : List (Nat × Nat × List AC)} {R : RL} {M : List (Nat × (Int → Option Value))} {g : Bool} {l l' : List AC} (t m : Nat) (hx : lk T t = some (.p g l)) (hl : nilsO m l = some l') (h : EvL P X ops rest Q ⟨(t, .p g l') :: T, B, R, M⟩) : EvL P X ops rest Q ⟨T, B, R, M⟩ := fun ρ a w hs => by
 obtain ⟨v, h1, h2⟩ := hs.T t _ hx
 refine h ρ a w (hs.know h1 ?_)
 have h2 : RepP ρ (g, l) v := h2
 show RepP ρ (g, l') v
 unfold RepP at *
 split
 ·rename_i hg
  rw [if_pos hg] at h2
  obtain ⟨us, e, h3⟩ := h2
  exact ⟨us, e, nilsO_rep hl h3⟩
 ·rename_i hg
  rw [if_neg hg] at h2
  exact nilsO_rep hl h2
theorem eff_flt {T : List (Nat × AV)} {B : List (Nat × Nat × List AC)} {R : RL} {M : List (Nat × (Int → Option Value))} {d : Option Tmp} {op : Op} {S' : St} {fr : Bool} (r : Nat) (h : Eff P X ⟨flT r T, B, R, M⟩ d op S' fr) : Eff P X ⟨T, B, R, M⟩ d op S' fr := fun ρ a w hs => h ρ a w (hs.weakT fun t av ht => by
 rcases flT_lk ht with h9 | ⟨rfl, av', h9⟩
 ·exact .inl h9
 ·refine .inr ⟨rfl, ?_⟩
  obtain ⟨v9, h10, _⟩ := hs.T t av' h9
  rw [← hs.sz.1]
  exact (Array.getElem?_eq_some_iff.1 h10).1)
end
section
variable {P : Program} {X : Cx} {S : St} {ρ : Rho} {a : Act} {w : World} {TT : List (Nat × TI)} {Q Q' : Exit → Act → World → Prop} {ops : Array Oper} {r : Option Nat} {n : Nat}
theorem OwC.isCells {w : World} : ∀ {d : Nat} {c : C} {u : Value} {F : List Nat}, OwC w d c u F → ∀ b ∈ F, ∃ o : Obj, w.heap[b]? = some o ∧ o.isCells = true
 | d, .v x, u, F, h, b, hb => by cases d <;> (rw [h.2] at hb; simp at hb)
 | d, .nil, u, F, h, b, hb => by cases d <;> (rw [h.2] at hb; simp at hb)
 | d, .hole, u, F, h, b, hb => by cases d <;> (rw [h.2] at hb; simp at hb)
 | 0, .s _ _, _, _, h, _, _ => h.elim
 | d + 1, .s n l, u, F, h, b, hb => by
  obtain ⟨ty, xs, Fs, ⟨h1, h2, h3⟩, rfl⟩ := h
  rcases List.mem_append.1 hb with hb | hb
  ·have hb := Option.mem_toList.1 hb
   rcases h1.2 with ⟨rfl, _⟩ | ⟨g, cap, cur, rfl, _, hg, _⟩
   ·simp [Value.ownBlock] at hb
   ·have e : b = g := by simpa [Value.ownBlock, eq_comm] using hb
    subst e
    exact ⟨_, hg, rfl⟩
  ·obtain ⟨G, hG, hb⟩ := List.mem_flatten.1 hb
   have key : ∀ {cs : List C} {xs : List Value} {Fs : List (List Nat)}, All3 (OwC w d) cs xs Fs → ∀ G ∈ Fs, ∀ b ∈ G, ∃ o : Obj, w.heap[b]? = some o ∧ o.isCells = true := by
    intro cs
    induction cs with
    | nil =>
     intro xs Fs h G hG
     match xs, Fs, h with
     | [], [], _ => simp at hG
     | [], _ :: _, h => exact h.elim
     | _ :: _, _, h => exact h.elim
    | cons c cs ih =>
     intro xs Fs h G hG b hb
     match xs, Fs, h with
     | x :: xs, F :: Fs, h =>
      rcases List.mem_cons.1 hG with rfl | hG
      ·exact h.1.isCells b hb
      ·exact ih h.2 G hG b hb
     | [], _, h => exact h.elim
     | _ :: _, [], h => exact h.elim
   exact key h3 G hG b hb
theorem Sim.cells (h : Sim X ρ S a w) (hM : S.M = []) : ∀ b ∈ feet ρ S, ∃ o : Obj, w.heap[b]? = some o ∧ o.isCells = true := by
 intro b hb
 unfold feet at hb
 rw [hM] at hb
 simp only [List.map_nil, List.append_nil] at hb
 rcases List.mem_append.1 hb with hb | hb
 ·obtain ⟨x, hx, rfl⟩ := List.mem_map.1 hb
  obtain ⟨vs, h1, _⟩ := h.hp.B x hx
  exact ⟨_, h1, rfl⟩
 ·obtain ⟨x, hx, hb⟩ := List.mem_flatMap.1 hb
  obtain ⟨d, hd⟩ := (h.hp.R x hx).c
  exact hd.isCells b hb
theorem Sim.world {w' : World} (h : Sim X ρ S a w) (hM : S.M = []) (hk : ∀ b ∈ feet ρ S, w'.heap[b]? = w.heap[b]?) (hH : ∀ b o, ρ.H b = some o → w'.heap[b]? = some o) (hf : Chg X.w0 w' X.F0) : Sim X ρ S a w' :=
 ⟨⟨hH, fun x hx => by
   obtain ⟨vs, h1, h2⟩ := h.hp.B x hx
   exact ⟨vs, by rw [hk _ (List.mem_append_left _ (List.mem_map.2 ⟨x, hx, rfl⟩))]; exact h1, h2⟩,
  fun x hx => (h.hp.R x hx).keep fun b hb => hk b (List.mem_append_right _ (List.mem_append_left _ (List.mem_flatMap.2 ⟨x, hx, hb⟩))),
  fun x hx => (by rw [hM] at hx; cases hx), h.hp.nd, h.hp.dj⟩, h.T, h.df, h.sz, hf, h.ft⟩
def pinK (v : Nat → Value) : List (Nat × AV) → List (Nat × Value)
 | [] => []
 | (t, _) :: r => (t, v t) :: pinK v r
theorem mem_pinK {v : Nat → Value} : ∀ {T : List (Nat × AV)} {t : Nat} {av : AV}, (t, av) ∈ T → (t, v t) ∈ pinK v T
  | (k, a) :: r, t, av, h => by
    rcases List.mem_cons.1 h with h | h
    · cases h; exact List.mem_cons_self
    · exact List.mem_cons_of_mem _ (mem_pinK h)
def KpF (B : Nat) (FB : List Nat) (W W' : World) : Prop := ∀ b, b < B → b ∉ FB → W'.heap[b]? = W.heap[b]?
def IR (X : Cx) (S : St) (a : Act) (B : Nat) (FB : List Nat) (W : World) : Prop := ∃ ρ, Sim X ρ S a W ∧ B ≤ W.heap.size ∧ ∀ b ∈ feet ρ S, b ∈ FB ∨ B ≤ b
theorem Sim.back {T0 : List (Nat × AV)} {S2 : St} {B : Nat} {FB F0 : List Nat} {ρ2 : Rho} {a2 : Act} {W W2 : World} (hs : Sim X ρ S a W) (hD : X.D = []) (hT : S2.T = T0) (hsz : B ≤ W.heap.size)
  (hF0 : ∀ b ∈ F0, (b ∈ FB ∨ B ≤ b) ∧ (b ∈ X.F0 ∨ X.w0.heap.size ≤ b) ∧ ∃ o : Obj, W.heap[b]? = some o ∧ o.isCells = true)
  (hT0 : ∀ t av, (t, av) ∈ T0 → ∃ av', lk S.T t = some av') (h2 : Sim ⟨X.N, W, F0, X.H, pinK (fun t => a.tmps.getD t undef) T0, []⟩ ρ2 S2 a2 W2) :
  KeepsFrom B W W2 ∧ KpF B FB W W2 ∧ IR X S2 a B FB W2 := by
 have hfr := h2.fr
 refine ⟨⟨hfr.size, fun k o hk h0 ho => ?_⟩, fun b hb hn => ?_, ρ2, ⟨h2.hp, fun t av ht => ?_, ⟨by rw [hs.df.1], h2.df.2⟩, hs.sz, ?_, fun b hb => ?_⟩, Nat.le_trans hsz hfr.size, fun b hb => ?_⟩
 ·rw [hfr.block k (heap_lt h0) fun hm => ?_]
  ·exact h0
  ·obtain ⟨_, _, o', h3, h4⟩ := hF0 k hm
   rw [h0] at h3; cases h3; rw [ho] at h4; cases h4
 ·refine hfr.block b (Nat.lt_of_lt_of_le hb hsz) fun hm => ?_
  rcases (hF0 b hm).1 with h3 | h3
  ·exact hn h3
  ·omega
 ·obtain ⟨v, h3, h4⟩ := h2.T t av ht
  have hmem : (t, av) ∈ T0 := by rw [← hT]; exact lk_mem ht
  have h5 := h2.sz.2 (t, a.tmps.getD t undef) (mem_pinK hmem)
  simp only at h5
  rw [h3] at h5
  obtain ⟨av', h6⟩ := hT0 t av hmem
  obtain ⟨v', h7, _⟩ := hs.T t av' h6
  refine ⟨v', h7, ?_⟩
  rw [Array.getD_eq_getD_getElem?, h7] at h5
  have : v = v' := Option.some.inj h5
  rw [← this]; exact h4
 ·exact hs.fr.step hfr fun b hb => (hF0 b hb).2.1
 ·rcases h2.ft b hb with h3 | h3
  ·exact (hF0 b h3).2.1
  ·exact .inr (Nat.le_trans hs.fr.size h3)
 ·rcases h2.ft b hb with h3 | h3
  ·exact (hF0 b h3).1
  ·exact .inr (Nat.le_trans hsz h3)
end
section
variable {P : Program} {X : Cx} {S : St} {ρ : Rho} {a : Act} {w : World} {Q : Exit → Act → World → Prop} {ops : Array Oper} {r : Option Nat} {n : Nat}
def PeR (H : Nat → Option Obj) (cs : List C) (u : Value) : Prop := ∃ g o, u = .pointer (some ⟨g, o, none⟩) ∧ ∀ j c, cs[j]? = some c → ∃ x, rcell H g (o + j) = some x ∧ RdX H c x
def itT : Nat → List (List C) → List (Nat × AV)
 | _, [] => []
 | k, cs :: r => (k, .p false [.pe cs]) :: itT (k + 1) r
theorem itT_rep : ∀ {css : List (List C)} {k : Nat} {us : List Value}, L2 (PeR ρ.H) css us → ∀ t av, lk (itT k css) t = some av → k ≤ t ∧ ∃ v, us[t - k]? = some v ∧ RepV ρ av v
 | [], k, us, _, t, av, ht => by cases ht
 | cs :: r, k, u :: us, h, t, av, ht => by
  unfold itT lk at ht
  split at ht
  ·rename_i e
   subst e
   cases ht
   exact ⟨Nat.le_refl _, u, by simp, ⟨h.1, trivial⟩⟩
  ·obtain ⟨h1, v', h2, h3⟩ := itT_rep h.2 t av ht
   refine ⟨by omega, v', ?_, h3⟩
   rw [show t - k = (t - (k + 1)) + 1 by omega]
   simpa using h2
 | _ :: _, _, [], h, _, _, _ => h.elim
theorem retH {fn : Func} {w0 : World} {H H' : Nat → Option Obj} {res : List (Bool × List RC)} (hn : noCr res = true) (h : EvE X .ret (bodyPost P fn (PurePost H' res w0)) S) : EvE X .ret (bodyPost P fn (PurePost H res w0)) S := fun ρ a w hs =>
 let ⟨h1, v, h2, us, F, h3, h4, h5⟩ := h ρ a w hs; ⟨h1, v, h2, us, F, h3, noCr_ok hn h4, h5⟩
def frzC (b : Nat) (cs : List C) : AC → AC
 | .pb b' o => match Nat.beq b' b with
  | true => .pe (cs.drop o)
  | false => .pb b' o
 | .fn _ _ => .no
 | x => x
def frzV (b : Nat) (cs : List C) : AV → AV
 | .p g l => .p g (l.map (frzC b cs))
 | .tup _ => .no
 | x => x
def frzT (b : Nat) (cs : List C) : List (Nat × AV) → List (Nat × AV)
 | [] => []
 | (t, v) :: r => (t, frzV b cs v) :: frzT b cs r
def frzB (b : Nat) (cs : List C) : List (Nat × Nat × List AC) → List (Nat × Nat × List AC)
  | [] => []
  | (k, ty, l) :: r => match Nat.beq k b with
    | true => frzB b cs r
    | false => (k, ty, l.map (frzC b cs)) :: frzB b cs r
theorem frzT_lk {b : Nat} {cs : List C} : ∀ {T : List (Nat × AV)} {t : Nat} {av : AV}, lk (frzT b cs T) t = some av → ∃ av0, lk T t = some av0 ∧ av = frzV b cs av0
  | [], t, av, h => by cases h
  | (k, v) :: r, t, av, h => by
    unfold frzT lk at h
    unfold lk
    split at h
    · rename_i e; rw [if_pos e]; cases h; exact ⟨v, rfl, rfl⟩
    · rename_i e; rw [if_neg e]; exact frzT_lk h
theorem frzB_mem {b : Nat} {cs : List C} : ∀ {B : List (Nat × Nat × List AC)} {x : Nat × Nat × List AC}, x ∈ frzB b cs B → x.1 ≠ b ∧ ∃ l, (x.1, x.2.1, l) ∈ B ∧ x.2.2 = l.map (frzC b cs)
  | [], x, h => by simp [frzB] at h
  | (k, ty, l) :: r, x, h => by
    unfold frzB at h
    split at h
    · obtain ⟨h1, l', h2, h3⟩ := frzB_mem h; exact ⟨h1, l', by simp [h2], h3⟩
    · rename_i hk
      rcases List.mem_cons.1 h with rfl | h
      · exact ⟨Nat.ne_of_beq_eq_false hk, l, by simp, rfl⟩
      · obtain ⟨h1, l', h2, h3⟩ := frzB_mem h; exact ⟨h1, l', by simp [h2], h3⟩
theorem frzB_sub {b : Nat} {cs : List C} {f : Nat → Nat} : ∀ {B : List (Nat × Nat × List AC)}, ((frzB b cs B).map fun x => f x.1).Sublist (B.map fun x => f x.1)
  | [] => List.Sublist.refl _
  | (k, ty, l) :: r => by
    unfold frzB
    split
    · exact frzB_sub.cons _
    · exact frzB_sub.cons_cons _
theorem ev_freeze {c : Code} {T : List (Nat × AV)} {B : List (Nat × Nat × List AC)} {R : List (Nat × Nat × Nat × List (List C))} {ty : Nat} {cs : List C} (b : Nat) (hb : lk B b = some (ty, mapCO cs))
  (h : ∀ H', (∀ g o, X.H g = some o → H' g = some o) → Ev P ⟨X.N, X.w0, X.F0, H', X.K, X.D⟩ c Q ⟨frzT b cs T, frzB b cs B, R, []⟩) : Ev P X c Q ⟨T, B, R, []⟩ := by
 intro ρ a w hs
 obtain ⟨vs, e1, r1⟩ := hs.hp.B _ (lk_mem hb)
 simp only at e1 r1
 have hbf : ρ.box b ∈ feet ρ ⟨T, B, R, []⟩ := List.mem_append_left _ (List.mem_map.2 ⟨_, lk_mem hb, rfl⟩)
 have hbH : ρ.H (ρ.box b) = none := hs.hp.dj _ hbf
 obtain ⟨H', hH'⟩ : ∃ H' : Nat → Option Obj, H' = fun g => if g = ρ.box b then some (.cells vs.toArray ty (0, 0)) else ρ.H g := ⟨_, rfl⟩
 have hm : ∀ g o, ρ.H g = some o → H' g = some o := fun g o hg => by
  rw [hH']
  simp only
  rw [if_neg (fun e => by rw [e, hbH] at hg; cases hg)]
  exact hg
 have hC : ∀ {x : AC} {u : Value}, RepC ρ x u → RepC { ρ with H := H' } (frzC b cs x) u := fun {x u} hx => by
  cases x with
  | c x => exact RdX.mono hm hx
  | pe l =>
   obtain ⟨g, o, e, hc⟩ := hx
   exact ⟨g, o, e, fun j c hj => let ⟨y, k1, k2⟩ := hc j c hj; ⟨y, rcell_mono hm k1, RdX.mono hm k2⟩⟩
  | fn f cap => exact RepC.one (ρ := ρ) (x := .fn f cap) hx
  | pb b' o =>
   show RepC { ρ with H := H' } (match Nat.beq b' b with
    | true => AC.pe (cs.drop o)
    | false => AC.pb b' o) u
   cases hbb : Nat.beq b' b with
   | false => exact hx
   | true =>
    obtain rfl := Nat.eq_of_beq_eq_true hbb
    refine ⟨ρ.box b', o, hx, fun j c hj => ?_⟩
    rw [List.getElem?_drop] at hj
    have key : ∀ {cs : List C} {j : Nat} {c : C}, cs[j]? = some c → (mapCO cs)[j]? = some (.c c) := by
     intro cs
     induction cs with
     | nil => intro j c h; simp at h
     | cons x r ih =>
      intro j c h
      cases j with
      | zero => simp only [List.getElem?_cons_zero, Option.some.injEq] at h; subst h; rfl
      | succ j => exact ih (by simpa using h)
    obtain ⟨v, hv1, hv2⟩ := r1.get (key hj)
    refine ⟨v, ?_, RdX.mono hm hv2⟩
    unfold rcell
    rw [hH']
    simp only [if_true]
    simpa using hv1
  | _ => exact hx
 have hL : ∀ {l : List AC} {us : List Value}, L2 (RepC ρ) l us → L2 (RepC { ρ with H := H' }) (l.map (frzC b cs)) us := by
  intro l
  induction l with
  | nil => intro us h; match us, h with | [], _ => trivial
  | cons x l ih => intro us h; match us, h with | u :: us, h => exact ⟨hC h.1, ih h.2⟩
 have hfe : (feet { ρ with H := H' } ⟨frzT b cs T, frzB b cs B, R, []⟩).Sublist (feet ρ ⟨T, B, R, []⟩) := by
  unfold feet
  exact (frzB_sub (f := ρ.box)).append (List.Sublist.refl _)
 have hne : ∀ g ∈ feet { ρ with H := H' } ⟨frzT b cs T, frzB b cs B, R, []⟩, g ≠ ρ.box b := by
  intro g hg e
  have hnd := hs.hp.nd
  unfold feet at hnd hg
  obtain ⟨n1, _, n3⟩ := List.nodup_append.1 hnd
  rcases List.mem_append.1 hg with hg | hg
  ·obtain ⟨x, hx, rfl⟩ := List.mem_map.1 hg
   obtain ⟨k1, l, k2, _⟩ := frzB_mem hx
   have := map_inj n1 _ k2 _ (lk_mem hb) e
   exact k1 (congrArg (fun z => z.1) this)
  ·exact n3 _ (List.mem_map.2 ⟨_, lk_mem hb, rfl⟩) _ hg e.symm
 refine h H' (fun g o hg => hm g o (by rw [hs.df.2]; exact hg)) { ρ with H := H' } a w ⟨⟨fun g o hg => ?_, fun x hx => ?_, hs.hp.R, by simp, hfe.nodup hs.hp.nd, fun g hg => ?_⟩, fun t av ht => ?_, ⟨hs.df.1, rfl⟩, hs.sz, hs.fr, fun g hg => hs.ft g (hfe.subset hg)⟩
 ·rw [hH'] at hg
  simp only at hg
  split at hg
  ·rename_i e; rw [e, e1]; exact hg
  ·exact hs.hp.H g o hg
 ·obtain ⟨k1, l, k2, k3⟩ := frzB_mem hx
  obtain ⟨us, k4, k5⟩ := hs.hp.B _ k2
  exact ⟨us, k4, by rw [k3]; exact hL k5⟩
 ·have h9 := hs.hp.dj g (hfe.subset hg)
  show H' g = none
  rw [hH']
  simp only
  rw [if_neg (hne g hg)]
  exact h9
 ·obtain ⟨av0, k1, rfl⟩ := frzT_lk ht
  obtain ⟨v, k2, k3⟩ := hs.T t av0 k1
  refine ⟨v, k2, ?_⟩
  cases av0 with
  | p g l =>
   unfold frzV
   unfold RepV RepP at k3 ⊢
   cases g
   ·exact hL k3
   ·obtain ⟨us, k4, k5⟩ := k3; exact ⟨us, k4, hL k5⟩
  | tup _ => trivial
  | no => trivial
  | und => exact k3
end
section
variable {P : Program} {X : Cx} {S : St} {ρ : Rho} {a : Act} {w : World} {TT : List (Nat × TI)}
def vcs (us : List Value) : List AC := us.map fun u => .c (.v u)
theorem vcs_rep {us : List Value} (h : ∀ u ∈ us, u.oneCell' = true) : L2 (RepC ρ) (vcs us) us := by
 induction us with
 | nil => trivial
 | cons u us ih => exact ⟨⟨0, rfl, h u (by simp)⟩, ih fun x hx => h x (by simp [hx])⟩
theorem q_lookup_s {t kt et b : Nat} {x k : Operand} {kk : Int} {f : Int → Option Value} {i : TI} {us zs : List Value} (hm : mapB P t kt et = true) (hT : TTOk P TT) (hi : lk TT et = some i) (hz : i.zero.map cv = zs) (hg : i.sh.agg = true) (hx : opv S.T x = some (.p false [.mp b])) (hb : lk S.M b = some f) (hk : opv S.T k = some (.p false [.c (.v (.int .i64 kk))]))
  (hr : (f kk).getD (.agg zs.toArray) = .agg us.toArray) (h1 : ∀ u ∈ us, u.oneCell' = true) : Quiet P X S (.lookup t x k false) (.p true (vcs us)) := by
 intro ρ a w hs
 obtain ⟨hu, kd, hku⟩ := mapB_ok hm
 have hp : a.eval x = .map (some (ρ.box b)) := (opv_rep hs hx).1
 have hq : a.eval k = .int .i64 kk := rd_v (opv_rep hs hk).1
 have hM : MapI w (ρ.box b) f := hs.hp.M _ (lk_mem hb)
 refine ⟨.agg us.toArray, ⟨us, rfl, vcs_rep h1⟩, fun d ty pos af g w' hw => ?_⟩
 have hM' := hM.below hw hM.lt
 have hzv : ∀ W : World, (zeroValue et).run P W = .ok (.agg zs.toArray) W := fun W => by
  have := (hT et i hi).zeroValue (w := W)
  rw [hg, hz] at this
  exact this
 have := hM'.run_lookup (P := P) hu hku _ hzv kk
 rw [hr] at this
 simp only [execOp, hp, hq, Sem.run_bind, this, Result.andThen_ok, Sem.run_pure]
theorem q_lookup_ok {t kt et b : Nat} {x k : Operand} {kk : Int} {f : Int → Option Value} {i : TI} {us zs : List Value} {r : Bool} (hm : mapB P t kt et = true) (hT : TTOk P TT) (hi : lk TT et = some i) (hz : i.zero.map cv = zs) (hg : i.sh.agg = true) (hx : opv S.T x = some (.p false [.mp b])) (hb : lk S.M b = some f) (hk : opv S.T k = some (.p false [.c (.v (.int .i64 kk))]))
  (hr : (f kk).getD (.agg zs.toArray) = .agg us.toArray) (hr2 : (f kk).isSome = r) (h1 : ∀ u ∈ us, u.oneCell' = true) : Quiet P X S (.lookup t x k true) (.tup [(true, vcs us), (false, [.c (.v (.bool r))])]) := by
 intro ρ a w hs
 obtain ⟨hu, kd, hku⟩ := mapB_ok hm
 have hp : a.eval x = .map (some (ρ.box b)) := (opv_rep hs hx).1
 have hq : a.eval k = .int .i64 kk := rd_v (opv_rep hs hk).1
 have hM : MapI w (ρ.box b) f := hs.hp.M _ (lk_mem hb)
 refine ⟨.tuple #[.agg us.toArray, .bool r], ⟨[.agg us.toArray, .bool r], rfl, ⟨us, rfl, vcs_rep h1⟩, ⟨⟨0, rfl, rfl⟩, trivial⟩, trivial⟩, fun d ty pos af g w' hw => ?_⟩
 have hM' := hM.below hw hM.lt
 have hzv : ∀ W : World, (zeroValue et).run P W = .ok (.agg zs.toArray) W := fun W => by
  have := (hT et i hi).zeroValue (w := W)
  rw [hg, hz] at this
  exact this
 have := hM'.run_lookup_ok (P := P) hu hku _ hzv kk
 rw [hr, hr2] at this
 simp only [execOp, hp, hq, Sem.run_bind, this, Result.andThen_ok, Sem.run_pure]
theorem e_mapdel {T : List (Nat × AV)} {B : List (Nat × Nat × List AC)} {R : RL} {M M' : List (Nat × (Int → Option Value))} {t kt et b kt2 : Nat} {x k : Operand} {kk : Int} {f f' : Int → Option Value} {tys : Array TypeId} (hm : mapB P t kt et = true) (hty : tys = #[t, kt2]) (hx : opv T x = some (.p false [.mp b])) (hb : lk M b = some f) (hk : opv T k = some (.p false [.c (.v (.int .i64 kk))]))
  (hf : ∀ q, f' q = if q = kk then none else f q) (hM : updM b f' M = some M') : Eff P X ⟨T, B, R, M⟩ none (.call ⟨.builtin .delete, #[x, k], tys⟩) ⟨T, B, R, M'⟩ false := by
 intro ρ a w hs
 subst hty
 obtain ⟨hu, kd, hku⟩ := mapB_ok hm
 have hp : a.eval x = .map (some (ρ.box b)) := (opv_rep hs hx).1
 have hq : a.eval k = .int .i64 kk := rd_v (opv_rep hs hk).1
 have hMI : MapI w (ρ.box b) f := hs.hp.M _ (lk_mem hb)
 obtain ⟨w', h3, h4, h5⟩ := hMI.run_delete (P := P) hu hku 0 kt2 kk
 have h4' : MapI w' (ρ.box b) f' := by rw [show f' = fun q => if q = kk then none else f q from funext hf]; exact h4
 have h3' : ∀ ty : TypeId, (Builtin.delete_ #[t, kt2] ty #[.map (some (ρ.box b)), .int .i64 kk]).run P w = .ok (.tuple #[]) w' := fun ty => h3
 exact ⟨ρ, .value (.tuple #[]), .tuple #[], w', fun ty _ _ _ => by simp [execOp, resolve, invoke, builtin, hp, hq, h3' ty], .inl rfl, hs.wmap hM h4' h5, by intro h; cases h⟩
end
def HL (X : Cx) (W : World) : Prop := ∀ b o, X.H b = some o → W.heap[b]? = some o
def QuietH (P : Program) (X : Cx) (S : St) (op : Op) (av : AV) : Prop :=
 ∀ ρ a w, Sim X ρ S a w → ∃ v, RepV ρ av v ∧ ∀ (d : Option Tmp) (ty : TypeId) (pos : String) (af : Array Edge) (g : Option (Nat × Bool)) (w' : World), HL X w' → (execOp a.eval ⟨d, op, ty, pos, af, g⟩).run P w' = .ok (.value v) w'
def RDh (P : Program) (X : Cx) (ops : Array Oper) (fuel : Nat) (listed : Array Bool) (S : St) (Q : Act → World → Prop) : Prop :=
 ∀ ρ a w, Sim X ρ S a w → wpAnyK P .any ops (QK Q) [] (HL X) fuel listed a w
section
variable {P : Program} {X : Cx} {S S' S1 : St} {Q : Act → World → Prop} {ops : Array Oper} {T : List (Nat × AV)} {B : List (Nat × Nat × List AC)} {R : List (Nat × Nat × Nat × List (List C))} {M : List (Nat × (Int → Option Value))} {fuel : Nat} {listed : Array Bool} {d : Tmp} {op : Op} {ty : TypeId} {pos : String} {af : Array Edge} {g : Option (Nat × Bool)} {av : AV} {TT : List (Nat × TI)}
theorem Sim.hl {ρ : Rho} {a : Act} {w : World} (h : Sim X ρ S a w) : HL X w := fun b o hb => h.hp.H b o (by rw [h.df.2]; exact hb)
theorem QuietW.h (h : QuietW P X S op av) : QuietH P X S op av := fun ρ a w hs => let ⟨v, h1, h2⟩ := h ρ a w hs; ⟨v, h1, fun d ty pos af g w' _ => h2 d ty pos af g w'⟩
theorem rdh_take (i : Nat) (hi : ops[i]? = some ⟨some d, op, ty, pos, af, g⟩) (hc : chkT ops [] listed i = true) (hg : GOk ops T g) (hq : QuietH P X ⟨T, B, R, M⟩ op av) (hN : okD X d = true)
  (h : RDh P X ops fuel (listed.setIfInBounds i true) ⟨(d, av) :: T, B, R, M⟩ Q) : RDh P X ops (fuel + 1) listed ⟨T, B, R, M⟩ Q := by
 intro ρ a w hs
 simp only [chkT, Bool.and_eq_true] at hc
 obtain ⟨v, h1, h2⟩ := hq ρ a w hs
 exact wpAnyK_first hi (Region.noSelect_spec hc.1) (fun _ _ _ h => h) (fun k hk => List.all_eq_true.1 hc.2.2.2.1 k hk) fuel listed a w (Region.free_spec hi hc.2.1) (closed_of _ hc.2.2.2.2.1) hc.2.2.2.2.2 (by simpa using hc.2.2.1)
  (.inl ⟨GOk.wanted hs hg, fun w' hw => h2 _ _ _ _ _ w' hw⟩) hs.hl (h ρ _ w (hs.put hN h1))
theorem q_loadH {t : TypeId} {x : Operand} {av : AV} {cs0 : List C} (hT : TTOk P TT) (hpe : opv S.T x = some (.p false [.pe cs0])) (h : qLoad TT S t x = some av) : QuietH P X S (.load t x) av := by
 intro ρ a w hs
 unfold qLoad at h
 split at h
 ·rename_i i hi
  have ht := hT t i hi
  split at h
  ·rename_i b o hx
   rw [hx] at hpe; cases hpe
  ·rename_i cs hx
   split at h
   ·rename_i r hr
    split at h
    case h_2 => cases h
    rename_i r2 hr2
    obtain rfl := mapOO_eq hr2
    obtain rfl := mkP_eq h
    obtain ⟨rfl, hrl⟩ := cutO_eq hr
    obtain ⟨g, o, hp, hc⟩ := (opv_rep hs hx).1
    simp only [List.drop_zero] at hrl ⊢
    have hch : ∀ (n : Nat) (cs : List C) (o : Nat), n ≤ cs.length → (∀ j c, cs[j]? = some c → ∃ x, rcell ρ.H g (o + j) = some x ∧ RdX ρ.H c x) →
      ∃ us : List Value, us.length = n ∧ L2 (RepC ρ) ((cs.take n).map AC.c) us ∧ ∀ (j : Nat) (u : Value), us[j]? = some u → rcell ρ.H g (o + j) = some u := by
     intro n
     induction n with
     | zero => exact fun cs o _ _ => ⟨[], rfl, by simp [L2], by simp⟩
     | succ n ih =>
      intro cs o hn hc
      match cs, hn with
      | c :: cs, hn =>
       obtain ⟨x, h1, h2⟩ := hc 0 c rfl
       obtain ⟨us, h3, h4, h5⟩ := ih cs (o + 1) (by simpa using hn) (fun j c hj => by
        obtain ⟨x, h6, h7⟩ := hc (j + 1) c (by simpa using hj)
        exact ⟨x, by rw [show o + 1 + j = o + (j + 1) by omega]; exact h6, h7⟩)
       refine ⟨x :: us, by simp [h3], ⟨h2, h4⟩, fun j u hj => ?_⟩
       cases j with
       | zero => simp only [List.getElem?_cons_zero, Option.some.injEq] at hj; subst hj; exact h1
       | succ j =>
        have := h5 j u (by simpa using hj)
        rw [show o + (j + 1) = o + 1 + j by omega]; exact this
    obtain ⟨us, hul, hu2, hu3⟩ := hch i.size cs o (by rw [List.length_take] at hrl; omega) hc
    refine ⟨mkV i.sh.agg us, mkV_rep (by rw [mapCO_eq]; exact hu2) (fun hg => by rw [hul, ht.one hg]), fun d ty' pos af g' w' hw => ?_⟩
    have hHw : ∀ b o, ρ.H b = some o → w'.heap[b]? = some o := fun b o hb => by
     exact hw b o (by rw [← hs.df.2]; exact hb)
    have := run_load_cells (w := w') ht (g := g) (o := o) (fun j u hj => rcell_cell hHw (hu3 j u hj)) hul
    simp [execOp, hp, this]
   ·cases h
  ·cases h
 ·cases h
end
end Go.Proofs.YtahkjonokeifmaaGreat
