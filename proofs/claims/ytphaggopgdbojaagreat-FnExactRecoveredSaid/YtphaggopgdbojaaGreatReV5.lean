/- Operations that make memory or write it, on states. No program in it. -/
import Derived.Test.YtphaggopgdbojaaGreatReV4
import Derived.Maps.AppendAt
import Derived.Laws.CopyRow
namespace Go.Proofs.YtphaggopgdbojaaGreat
open Go.ChangeShapes Go.WideShapes Go.ChangeAt Go.RowKit
set_option linter.unusedVariables false
/-! names -/
def mentB (d : Nat) : AC → Bool
  | .pb b _ => Nat.beq b d
  | .mp b => Nat.beq b d
  | .fn _ cap => cap.any fun p => Nat.beq p.1 d
  | _ => false
def mentR (d : Nat) : AC → Bool
  | .rt r => Nat.beq r d
  | .sub r _ _ _ => Nat.beq r d
  | .pr r _ _ _ => Nat.beq r d
  | _ => false
def noL (m : AC → Bool) : List AC → Bool
  | [] => true
  | x :: r => match m x with
    | true => false
    | false => noL m r
def noPs (m : AC → Bool) : List (Bool × List AC) → Bool
  | [] => true
  | (_, l) :: r => match noL m l with
    | true => noPs m r
    | false => false
def noV (m : AC → Bool) : AV → Bool
  | .p _ l => noL m l
  | .tup ps => noPs m ps
  | .no => true
  | .und => true
def noT (m : AC → Bool) : List (Nat × AV) → Bool
  | [] => true
  | (_, v) :: r => match noV m v with
    | true => noT m r
    | false => false
def noBs (m : AC → Bool) : List (Nat × Nat × List AC) → Bool
  | [] => true
  | (_, _, l) :: r => match noL m l with
    | true => noBs m r
    | false => false
def noK {α : Type} (d : Nat) : List (Nat × α) → Bool
  | [] => true
  | (k, _) :: r => match Nat.beq k d with
    | true => false
    | false => noK d r
theorem noL_mem {m : AC → Bool} : ∀ {l : List AC}, noL m l = true → ∀ x ∈ l, m x = false
  | [], _, x, hx => by simp at hx
  | y :: r, h, x, hx => by
    unfold noL at h
    split at h
    · cases h
    · rename_i hy
      rcases List.mem_cons.1 hx with rfl | hx
      · exact hy
      · exact noL_mem h x hx
theorem noT_mem {m : AC → Bool} : ∀ {T : List (Nat × AV)}, noT m T = true → ∀ x ∈ T, noV m x.2 = true
  | [], _, x, hx => by simp at hx
  | (k, v) :: r, h, x, hx => by
    unfold noT at h
    split at h
    · rename_i hv
      rcases List.mem_cons.1 hx with rfl | hx
      · exact hv
      · exact noT_mem h x hx
    · cases h
theorem noBs_mem {m : AC → Bool} : ∀ {T : List (Nat × Nat × List AC)}, noBs m T = true → ∀ x ∈ T, noL m x.2.2 = true
  | [], _, x, hx => by simp at hx
  | (k, y, v) :: r, h, x, hx => by
    unfold noBs at h
    split at h
    · rename_i hv
      rcases List.mem_cons.1 hx with rfl | hx
      · exact hv
      · exact noBs_mem h x hx
    · cases h
theorem noK_mem {α : Type} {d : Nat} : ∀ {T : List (Nat × α)}, noK d T = true → ∀ x ∈ T, x.1 ≠ d
  | [], _, x, hx => by simp at hx
  | (k, v) :: r, h, x, hx => by
    unfold noK at h
    split at h
    · cases h
    · rename_i hv
      rcases List.mem_cons.1 hx with rfl | hx
      · intro e; simp only at e; subst e; simp at hv
      · exact noK_mem h x hx
def freshB (d : Nat) (S : St) : Bool := noT (mentB d) S.T && (noBs (mentB d) S.B && (noK d S.B && noK d S.M))
def freshR (d : Nat) (S : St) : Bool := noT (mentR d) S.T && (noBs (mentR d) S.B && noK d S.R)
def Rho.setBox (ρ : Rho) (d g : Nat) : Rho := { ρ with box := fun b => if b = d then g else ρ.box b }
def Rho.setRoot (ρ : Rho) (d : Nat) (u : Value) (xs : List Value) (F : List Nat) : Rho := { ρ with root := fun b => if b = d then u else ρ.root b, rows := fun b => if b = d then xs else ρ.rows b, foot := fun b => if b = d then F else ρ.foot b }
section
variable {ρ σ : Rho} {d g : Nat} {S : St} {w : World}
theorem beq_f {a b : Nat} (h : Nat.beq a b = false) : a ≠ b := by intro e; subst e; simp at h
theorem RepC.setBox {x : AC} {u : Value} (h : RepC ρ x u) (hx : mentB d x = false) : RepC (ρ.setBox d g) x u := by
  cases x with
  | pb b o =>
    have hb : b ≠ d := beq_f hx
    show u = .pointer (some ⟨if b = d then g else ρ.box b, o, none⟩)
    rw [if_neg hb]; exact h
  | mp b =>
    have hb : b ≠ d := beq_f hx
    show u = .map (some (if b = d then g else ρ.box b))
    rw [if_neg hb]; exact h
  | fn f cap =>
    show u = .func f #[] (cap.map fun p => Value.pointer (some ⟨if p.1 = d then g else ρ.box p.1, p.2, none⟩)).toArray
    have e : (cap.map fun p => Value.pointer (some ⟨if p.1 = d then g else ρ.box p.1, p.2, none⟩)) = cap.map fun p => Value.pointer (some ⟨ρ.box p.1, p.2, none⟩) := by
      refine List.map_congr_left fun p hp => ?_
      have hb : p.1 ≠ d := by
        have := List.any_eq_false.1 hx p hp
        exact fun e => by rw [e] at this; simp at this
      rw [if_neg hb]
    rw [e]; exact h
  | _ => exact h
theorem RepC.setRoot {x : AC} {u v : Value} {xs : List Value} {F : List Nat} (h : RepC ρ x u) (hx : mentR d x = false) : RepC (ρ.setRoot d v xs F) x u := by
  cases x with
  | rt r =>
    have hb : r ≠ d := beq_f hx
    show u = (if r = d then v else ρ.root r) ∧ _
    rw [if_neg hb]; exact h
  | sub r n k j =>
    have hb : r ≠ d := beq_f hx
    show (if r = d then xs else ρ.rows r)[k * n + j]? = some u ∧ _
    rw [if_neg hb]; exact h
  | pr r n k o =>
    have hb : r ≠ d := beq_f hx
    show ∃ g, (if r = d then v else ρ.root r).ownBlock = some g ∧ _
    rw [if_neg hb]; exact h
  | _ => exact h
theorem L2.monoM {α β : Type} {R T : α → β → Prop} : ∀ {l : List α} {m : List β}, L2 R l m → (∀ a b, a ∈ l → R a b → T a b) → L2 T l m
  | [], [], _, _ => trivial
  | a :: l, b :: m, h, hm => ⟨hm a b (by simp) h.1, L2.monoM h.2 fun a b ha => hm a b (by simp [ha])⟩
  | [], _ :: _, h, _ => h.elim
  | _ :: _, [], h, _ => h.elim
theorem noPs_mem {m : AC → Bool} : ∀ {l : List (Bool × List AC)}, noPs m l = true → ∀ x ∈ l, noL m x.2 = true
  | [], _, x, hx => by simp at hx
  | (b, y) :: r, h, x, hx => by
    unfold noPs at h
    split at h
    · rename_i hy
      rcases List.mem_cons.1 hx with rfl | hx
      · exact hy
      · exact noPs_mem h x hx
    · cases h
/-- another reading of the names, the same for all that is named -/
theorem RepP.tr {m : AC → Bool} (hC : ∀ x u, m x = false → RepC ρ x u → RepC σ x u) {x : Bool × List AC} {u : Value} (h : RepP ρ x u) (hn : noL m x.2 = true) : RepP σ x u := by
  unfold RepP at *
  split
  · rename_i hb
    rw [if_pos hb] at h
    obtain ⟨vs, rfl, h2⟩ := h
    exact ⟨vs, rfl, h2.monoM fun a b ha => hC a b (noL_mem hn a ha)⟩
  · rename_i hb
    rw [if_neg hb] at h
    exact h.monoM fun a b ha => hC a b (noL_mem hn a ha)
theorem RepV.tr {m : AC → Bool} (hC : ∀ x u, m x = false → RepC ρ x u → RepC σ x u) {av : AV} {u : Value} (h : RepV ρ av u) (hn : noV m av = true) : RepV σ av u := by
  cases av with
  | p b l => exact RepP.tr hC h hn
  | tup ps =>
    obtain ⟨vs, rfl, h2⟩ := h
    exact ⟨vs, rfl, h2.monoM fun a b ha hr => RepP.tr hC hr (noPs_mem hn a ha)⟩
  | no => trivial
  | und => exact h
theorem Sim.tr {X : Cx} {a : Act} {T : List (Nat × AV)} {m : AC → Bool} (hC : ∀ x u, m x = false → RepC ρ x u → RepC σ x u) (hn : noT m T = true) (h : ∀ t av, lk T t = some av → ∃ v, a.tmps[t]? = some v ∧ RepV ρ av v) :
    ∀ t av, lk T t = some av → ∃ v, a.tmps[t]? = some v ∧ RepV σ av v := fun t av ht => by
  obtain ⟨v, h1, h2⟩ := h t av ht
  exact ⟨v, h1, RepV.tr hC h2 (noT_mem hn _ (lk_mem ht))⟩
/-- a block more, under a new name -/
theorem Hp.newbox (h : Hp ρ S w) {T : List (Nat × AV)} {ty : Nat} {cs : List AC} {vs : List Value} (hf : freshB d S = true) (hcs : noL (mentB d) cs = true) (hr : L2 (RepC ρ) cs vs) :
    Hp (ρ.setBox d w.heap.size) ⟨T, (d, ty, cs) :: S.B, S.R, S.M⟩ (w.alloc (.cells vs.toArray ty)) := by
  simp only [freshB, Bool.and_eq_true] at hf
  obtain ⟨_, f2, f3, f4⟩ := hf
  have hold : ∀ b, b < w.heap.size → (w.alloc (.cells vs.toArray ty)).heap[b]? = w.heap[b]? := fun b hb => Below.heap_alloc w _ b hb
  have hnew := heap_alloc_new w (.cells vs.toArray ty)
  have hfeet : feet (ρ.setBox d w.heap.size) ⟨T, (d, ty, cs) :: S.B, S.R, S.M⟩ = w.heap.size :: feet ρ S := by
    have e1 : S.B.map (fun x => (ρ.setBox d w.heap.size).box x.1) = S.B.map fun x => ρ.box x.1 := List.map_congr_left fun x hx => by
      show (if x.1 = d then w.heap.size else ρ.box x.1) = ρ.box x.1
      rw [if_neg (noK_mem f3 x hx)]
    have e2 : S.M.map (fun x => (ρ.setBox d w.heap.size).box x.1) = S.M.map fun x => ρ.box x.1 := List.map_congr_left fun x hx => by
      show (if x.1 = d then w.heap.size else ρ.box x.1) = ρ.box x.1
      rw [if_neg (noK_mem f4 x hx)]
    unfold feet
    simp only [List.map_cons, e1, e2]
    show (if d = d then w.heap.size else ρ.box d) :: _ = _
    rw [if_pos rfl]
    rfl
  have hlt := h.lt
  refine ⟨fun b o hb => ?_, fun x hx => ?_, fun x hx => ?_, fun x hx => ?_, ?_, ?_⟩
  · have := h.H b o hb
    rw [hold b (heap_lt this)]; exact this
  · rcases List.mem_cons.1 hx with rfl | hx
    · refine ⟨vs, ?_, hr.monoM fun a b ha hab => hab.setBox (noL_mem hcs a ha)⟩
      show (w.alloc _).heap[if d = d then w.heap.size else ρ.box d]? = _
      rw [if_pos rfl]; exact hnew
    · obtain ⟨us, h1, h2⟩ := h.B x hx
      refine ⟨us, ?_, h2.monoM fun a b ha hab => hab.setBox (noL_mem (noBs_mem f2 x hx) a ha)⟩
      show (w.alloc _).heap[if x.1 = d then w.heap.size else ρ.box x.1]? = _
      rw [if_neg (noK_mem f3 x hx), hold _ (heap_lt h1)]; exact h1
  · exact (h.R x hx).keep fun b hb => hold b ((h.R x hx).lt b hb)
  · obtain ⟨es, c, h1, h2⟩ := h.M x hx
    refine ⟨es, c, ?_, h2⟩
    show (w.alloc _).heap[if x.1 = d then w.heap.size else ρ.box x.1]? = _
    rw [if_neg (noK_mem f4 x hx), hold _ (heap_lt h1)]; exact h1
  · rw [hfeet]
    exact List.nodup_cons.2 ⟨fun hm => Nat.lt_irrefl _ (hlt _ hm), h.nd⟩
  · rw [hfeet]
    intro b hb
    rcases List.mem_cons.1 hb with rfl | hb
    · show ρ.H w.heap.size = none
      cases ho : ρ.H w.heap.size with
      | none => rfl
      | some o => exact absurd (heap_lt (h.H _ o ho)) (Nat.lt_irrefl _)
    · exact h.dj b hb
theorem feet_newbox {T : List (Nat × AV)} {ty : Nat} {cs : List AC} (hf : freshB d S = true) : feet (ρ.setBox d g) ⟨T, (d, ty, cs) :: S.B, S.R, S.M⟩ = g :: feet ρ S := by
  simp only [freshB, Bool.and_eq_true] at hf
  obtain ⟨_, f2, f3, f4⟩ := hf
  have e1 : S.B.map (fun x => (ρ.setBox d g).box x.1) = S.B.map fun x => ρ.box x.1 := List.map_congr_left fun x hx => by
    show (if x.1 = d then g else ρ.box x.1) = ρ.box x.1
    rw [if_neg (noK_mem f3 x hx)]
  have e2 : S.M.map (fun x => (ρ.setBox d g).box x.1) = S.M.map fun x => ρ.box x.1 := List.map_congr_left fun x hx => by
    show (if x.1 = d then g else ρ.box x.1) = ρ.box x.1
    rw [if_neg (noK_mem f4 x hx)]
  unfold feet
  simp only [List.map_cons, e1, e2]
  show (if d = d then g else ρ.box d) :: _ = _
  rw [if_pos rfl]
  rfl
theorem Sim.newbox {X : Cx} {a : Act} (h : Sim X ρ S a w) {ty : Nat} {cs : List AC} {vs : List Value} (hN : okD X d = true) (hf : freshB d S = true) (hcs : noL (mentB d) cs = true) (hr : L2 (RepC ρ) cs vs) :
    Sim X (ρ.setBox d w.heap.size) ⟨(d, .p false [.pb d 0]) :: S.T, (d, ty, cs) :: S.B, S.R, S.M⟩ (a.put (some d) (.pointer (some ⟨w.heap.size, 0, none⟩))) (w.alloc (.cells vs.toArray ty)) := by
  have hf' := hf
  simp only [freshB, Bool.and_eq_true] at hf'
  have hb : Below w.heap.size w (w.alloc (.cells vs.toArray ty)) := (Below.refl _ _).alloc (Nat.le_refl _) _
  have h0 : Sim X (ρ.setBox d w.heap.size) ⟨S.T, (d, ty, cs) :: S.B, S.R, S.M⟩ a (w.alloc (.cells vs.toArray ty)) := by
    refine ⟨h.hp.newbox hf hcs hr, Sim.tr (m := mentB d) (X := X) (fun x u hx hu => hu.setBox hx) hf'.1 h.T, h.df, h.sz, h.fr.step (Chg.of_below (F := []) hb) (by simp), fun b hb2 => ?_⟩
    rw [feet_newbox hf] at hb2
    rcases List.mem_cons.1 hb2 with rfl | hb2
    · exact .inr h.fr.size
    · exact h.ft b hb2
  refine h0.put hN ⟨?_, trivial⟩
  show _ = Value.pointer (some ⟨if d = d then w.heap.size else ρ.box d, 0, none⟩)
  rw [if_pos rfl]
end
/-- an operation that makes or writes memory -/
def Eff (P : Program) (X : Cx) (S : St) (d : Option Tmp) (op : Op) (S' : St) (fr : Bool) : Prop :=
  ∀ ρ a w, Sim X ρ S a w → ∃ ρ' nx v w', (∀ ty pos af g, (execOp a.eval ⟨d, op, ty, pos, af, g⟩).run P w = .ok nx w') ∧ (nx = .value v ∨ (nx = .skip ∧ v = undef)) ∧ Sim X ρ' S' (a.put d v) w' ∧ (fr = true → Below w.heap.size w w')
section
variable {P : Program} {X : Cx} {S : St} {TT : List (Nat × TI)} {d : Nat}
theorem cells_mk {g : Bool} {us : List Value} (h1 : g = false → us.length = 1) (h : ∀ u ∈ us, u.oneCell' = true) : (mkV g us).cells = us.toArray := by
  unfold mkV
  cases g
  · have := headD_one (h1 rfl)
    simp only [Bool.false_eq_true, if_false]
    rw [cells_one (h _ (by rw [this]; simp)), ← this]
  · rfl
theorem L2.ones {ρ : Rho} : ∀ {l : List AC} {us : List Value}, L2 (RepC ρ) l us → ∀ u ∈ us, u.oneCell' = true
  | [], [], _, u, hu => by simp at hu
  | x :: l, v :: us, h, u, hu => by
    rcases List.mem_cons.1 hu with rfl | hu
    · exact h.1.one
    · exact L2.ones h.2 u hu
  | [], _ :: _, h, _, _ => h.elim
  | _ :: _, [], h, _, _ => h.elim
theorem run_newVar {ty : TypeId} {v : Value} {w : World} : (newVar ty v).run P w = .ok ⟨w.heap.size, 0, none⟩ (w.alloc (.cells v.cells ty)) := rfl
theorem run_alloc {ty : TypeId} {z : Value} {w : World} (hz : (zeroValue ty).run P w = .ok z w) : (Instr.alloc ty true (.tuple #[])).run P w = .ok (.pointer (some ⟨w.heap.size, 0, none⟩)) (w.alloc (.cells z.cells ty)) := by
  unfold Instr.alloc
  simp only [Sem.run_bind, hz, Result.andThen_ok]
  rfl
theorem e_box {T : List (Nat × AV)} {B : List (Nat × Nat × List AC)} {R : List (Nat × Nat × Nat × List (List C))} {M : List (Nat × (Int → Option Value))} {ty : TypeId} {x : Operand} {b : Bool} {l : List AC} (hx : opv T x = some (.p b l)) (hN : okD X d = true) (hf : freshB d ⟨T, B, R, M⟩ = true) (hl : noL (mentB d) l = true) :
    Eff P X ⟨T, B, R, M⟩ (some d) (.box ty x) ⟨(d, .p false [.pb d 0]) :: T, (d, ty, l) :: B, R, M⟩ true := by
  intro ρ a w hs
  obtain ⟨us, h1, h2, h3⟩ := rep_cells (opv_rep hs hx)
  refine ⟨_, .value (.pointer (some ⟨w.heap.size, 0, none⟩)), _, w.alloc (.cells us.toArray ty), fun _ _ _ _ => ?_, .inl rfl, hs.newbox hN hf hl h1, fun _ => (Below.refl _ _).alloc (Nat.le_refl _) _⟩
  have hc := cells_mk h3 h1.ones
  simp [execOp, Instr.box, run_newVar, h2, hc]
theorem e_alloc {T : List (Nat × AV)} {B : List (Nat × Nat × List AC)} {R : List (Nat × Nat × Nat × List (List C))} {M : List (Nat × (Int → Option Value))} {ty : TypeId} {i : TI} {l : List AC} (hT : TTOk P TT) (ht : lk TT ty = some i) (hl0 : mapOO i.zero = some l) (hN : okD X d = true) (hf : freshB d ⟨T, B, R, M⟩ = true) :
    Eff P X ⟨T, B, R, M⟩ (some d) (.alloc ty) ⟨(d, .p false [.pb d 0]) :: T, (d, ty, l) :: B, R, M⟩ true := by
  intro ρ a w hs
  have hl := mapOO_eq hl0
  have hi := hT ty i ht
  have hz : ∀ zs : List C, (∀ c ∈ zs, (∀ H, RdX H c (cv c)) ∧ ∀ w, OwX w c (cv c) []) → L2 (RepC ρ) (mapCO zs) (zs.map cv) := by
    intro zs
    induction zs with
    | nil => intro _; trivial
    | cons c zs ih => exact fun h => ⟨(h c (by simp)).1 _, ih fun c hc => h c (by simp [hc])⟩
  have h1 := hz i.zero hi.zero
  have hcl : noL (mentB d) l = true := by
    subst hl
    have : ∀ zs : List C, noL (mentB d) (mapCO zs) = true := by
      intro zs
      induction zs with
      | nil => rfl
      | cons c zs ih => exact ih
    exact this _
  subst hl
  refine ⟨_, .value (.pointer (some ⟨w.heap.size, 0, none⟩)), _, w.alloc (.cells (i.zero.map cv).toArray ty), fun _ _ _ _ => ?_, .inl rfl, hs.newbox hN hf hcl h1, fun _ => (Below.refl _ _).alloc (Nat.le_refl _) _⟩
  have hc := cells_mk (g := i.sh.agg) (us := i.zero.map cv) (fun hg => by rw [List.length_map, hi.len, hi.one hg]) h1.ones
  have hzv := hi.zeroValue (w := w)
  have hr := run_alloc hzv
  rw [show (if i.sh.agg then Value.agg (i.zero.map cv).toArray else (i.zero.map cv).headD undef) = mkV i.sh.agg (i.zero.map cv) from rfl, hc] at hr
  simp only [execOp, Sem.run_bind, hr, Result.andThen_ok, Sem.run_pure]
end
end Go.Proofs.YtphaggopgdbojaaGreat
