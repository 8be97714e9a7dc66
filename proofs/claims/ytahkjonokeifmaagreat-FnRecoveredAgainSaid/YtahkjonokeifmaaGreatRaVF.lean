/- Structs of numbers compared; arrays; max; slices against nil; calls that hand their cells on. No program in it. -/
import Derived.Test.YtahkjonokeifmaaGreatRaVB
import Derived.Laws.OwnMore
import Derived.Laws.StructEq
namespace Go.Proofs.YtahkjonokeifmaaGreat
open Go.ChangeShapes Go.WideShapes Go.ChangeAt Go.RowKit
set_option linter.unusedVariables false
section
variable {P : Program} {X : Cx} {S : St} {ρ : Rho} {a : Act} {w : World} {TT : List (Nat × TI)}
theorem q_sl_to {t : TypeId} {x hi : Operand} {e m n k : Nat} {kk : IntKind} {i : Int} {l : List (List C)} (hT : TTOk P TT) (ht : eSz TT t = some (e, m)) (hx : opv S.T x = some (.p false [.c (.s n l)])) (hh : opv S.T hi = some (.p false [.c (.v (.int kk i))])) (hi' : i = (k : Int)) (hk : k ≤ l.length) :
  Quiet P X S (.slice t x none (some hi) none) (.p false [.c (.s n (l.take k))]) := by
 refine quiet_of fun ρ a w hs => ?_
 obtain ⟨ao, cap, hp, h1, h2, h3, h4⟩ := rd_s (opv_rep hs hx).1
 have hq : a.eval hi = .int kk i := rd_v (opv_rep hs hh).1
 have hr := (opv_rep hs hx).1
 obtain ⟨hu, inf, hin, hsz⟩ := eSz_ok hT ht
 subst hi'
 have hlen : (l.take k).length = k := by rw [List.length_take]; omega
 refine ⟨.slice ao k cap, ⟨?_, trivial⟩, fun _ _ _ _ _ w' => ?_⟩
 ·obtain ⟨d, hd⟩ := hr
  cases d with
  | zero => exact hd.elim
  | succ d =>
   obtain ⟨ao', cap', e1, e2, e3, e4, e5⟩ := hd
   rw [hp] at e1
   cases e1
   refine ⟨d + 1, ao, cap, by rw [hlen], by rw [hlen]; omega, e3, fun cs hcs => e4 cs (List.mem_of_mem_take hcs), ?_⟩
   rcases e5 with rfl | ⟨b, off, rfl, h6⟩
   ·exact .inl (by simp)
   ·refine .inr ⟨b, off, rfl, fun q cs hq2 => h6 q cs ?_⟩
    rw [List.getElem?_take] at hq2
    split at hq2
    ·exact hq2
    ·cases hq2
 ·have hb : k ≤ cap := by omega
  simp [execOp, Instr.sliceAt, Instr.slice, Instr.sliceBounds, Instr.sliceBound, asIntOf, run_underlying hu, hp, hq, hin.size' hsz, hb]
  intro _
  cases ao <;> simp [Addr.add]
theorem q_sl_from {t : TypeId} {x lo : Operand} {e n k : Nat} {kk : IntKind} {i : Int} {l : List (List C)} (hT : TTOk P TT) (ht : eSz TT t = some (e, n)) (hx : opv S.T x = some (.p false [.c (.s n l)])) (hh : opv S.T lo = some (.p false [.c (.v (.int kk i))])) (hi' : i = (k : Int)) (hk : k ≤ l.length) :
  Quiet P X S (.slice t x (some lo) none none) (.p false [.c (.s n (l.drop k))]) := by
 refine quiet_of fun ρ a w hs => ?_
 obtain ⟨ao, cap, hp, h1, h2, h3, h4⟩ := rd_s (opv_rep hs hx).1
 have hq : a.eval lo = .int kk i := rd_v (opv_rep hs hh).1
 have hr := (opv_rep hs hx).1
 obtain ⟨hu, inf, hin, hsz⟩ := eSz_ok hT ht
 subst hi'
 have hlen : (l.drop k).length = l.length - k := by rw [List.length_drop]
 refine ⟨.slice (if cap = k then ao else ao.map fun z => z.add (k * n)) (l.length - k) (cap - k), ⟨?_, trivial⟩, fun _ _ _ _ _ w' => ?_⟩
 ·obtain ⟨d, hd⟩ := hr
  cases d with
  | zero => exact hd.elim
  | succ d =>
   obtain ⟨ao', cap', e1, e2, e3, e4, e5⟩ := hd
   rw [hp] at e1
   cases e1
   refine ⟨d + 1, _, _, by rw [hlen], by rw [hlen]; omega, by simp only [maxLen] at e3 ⊢; omega, fun cs hcs => e4 cs (List.mem_of_mem_drop hcs), ?_⟩
   rcases e5 with rfl | ⟨b, off, rfl, h6⟩
   ·exact .inl (by simp)
   ·by_cases hck : cap = k
    ·exact .inl (List.drop_eq_nil_of_le om)
    ·refine .inr ⟨b, off + k * n, by rw [if_neg hck]; simp [addr_add], fun q cs hq2 j c hj => ?_⟩
     rw [List.getElem?_drop] at hq2
     obtain ⟨x, h7, h8⟩ := h6 (k + q) cs hq2 j c hj
     exact ⟨x, by rw [show off + k * n + q * n + j = off + (k + q) * n + j by rw [Nat.add_mul]; omega]; exact h7, h8⟩
 ·simp [execOp, Instr.sliceAt, Instr.slice, Instr.sliceBounds, Instr.sliceBound, asIntOf, run_underlying hu, hp, hq, hin.size' hsz, hk]
theorem q_load_pr {t : TypeId} {x : Operand} {r n n' k o ty : Nat} {rows : List (List C)} {row : List C} {i : TI} {l : List AC} {av : AV} (hT : TTOk P TT) (hi : lk TT t = some i) (hx : opv S.T x = some (.p false [.pr r n k o])) (hr : lk S.R r = some (ty, n', rows)) (hn : Nat.beq n' n = true) (hk : rows[k]? = some row)
  (hl : cutO o i.size (subs r n k 0 row) = some l) (hav : mkP i.sh.agg l = some av) : Quiet P X S (.load t x) av := by
 intro ρ a w hs
 obtain rfl := Nat.eq_of_beq_eq_true hn
 obtain rfl := mkP_eq hav
 obtain ⟨rfl, hcl⟩ := cutO_eq hl
 have ht := hT t i hi
 obtain ⟨g, hg, hp⟩ := (opv_rep hs hx).1
 obtain ⟨Fs, ⟨h1, h2, h3⟩, h4⟩ := hs.hp.R _ (lk_mem hr)
 have hone := All3.ones h3
 have hkl : k < rows.length := (List.getElem?_eq_some_iff.1 hk).1
 have hrl : row.length = n' := h2 row (List.mem_of_getElem? hk)
 have hcell := h1.cells hg
 have hxs : ∀ j c, row[j]? = some c → ∃ u, (ρ.rows r)[k * n' + j]? = some u ∧ RdX (fun b => w.heap[b]?) c u ∧ u.oneCell' = true := fun j c hj => by
  obtain ⟨u, F, h7, _, h8⟩ := h3.get (flat_at h2 hk hj)
  have := h8.read (H := fun b => w.heap[b]?) fun _ _ => rfl
  exact ⟨u, h7, this, this.one⟩
 have key : ∀ (row2 : List C) (j0 : Nat), (∀ j c, row2[j]? = some c → ∃ u, (ρ.rows r)[k * n' + (j0 + j)]? = some u ∧ RdX (fun b => w.heap[b]?) c u ∧ u.oneCell' = true) →
   ∃ us : List Value, L2 (RepC ρ) (subs r n' k j0 row2) us ∧ ∀ j u, us[j]? = some u → (ρ.rows r)[k * n' + (j0 + j)]? = some u := by
  intro row2
  induction row2 with
  | nil => intro j0 _; exact ⟨[], trivial, by simp⟩
  | cons c cs ih =>
   intro j0 h
   obtain ⟨u, h5, h6, h7⟩ := h 0 c rfl
   obtain ⟨us, h8, h9⟩ := ih (j0 + 1) fun j c hj => by
    obtain ⟨u, m1, m2⟩ := h (j + 1) c (by simpa using hj)
    exact ⟨u, by rw [show j0 + 1 + j = j0 + (j + 1) by omega]; exact m1, m2⟩
   refine ⟨u :: us, ?_, fun j v hj => ?_⟩
   ·cases c with
    | v x => exact ⟨⟨0, rd_v h6, by rw [← rd_v h6]; exact h7⟩, h8⟩
    | nil => exact ⟨⟨0, rd_nil h6⟩, h8⟩
    | s m l => exact ⟨⟨h5, h7⟩, h8⟩
    | hole => exact ⟨h7, h8⟩
   ·cases j with
    | zero => simp only [List.getElem?_cons_zero, Option.some.injEq] at hj; subst hj; exact h5
    | succ j => rw [show j0 + (j + 1) = j0 + 1 + j by omega]; exact h9 j v (by simpa using hj)
 obtain ⟨us, m1, m2⟩ := key row 0 (fun j c hj => by simpa using hxs j c hj)
 have h3' := (m1.drop o).take i.size
 have hl3 : ((us.drop o).take i.size).length = i.size := by rw [h3'.len, hcl]
 refine ⟨mkV i.sh.agg ((us.drop o).take i.size), mkV_rep h3' (fun hg => by rw [hl3, ht.one hg]), fun d ty' pos af g' w' hw => ?_⟩
 have hgl := (h1.lt g hg).2
 have hc : ∀ (j : Nat) (u : Value), ((us.drop o).take i.size)[j]? = some u → w'.cell? ⟨g, k * n' + o + j, none⟩ = some u := fun j u hj => by
  rw [hw.cell (p := ⟨g, k * n' + o + j, none⟩) hgl]
  rw [List.getElem?_take] at hj
  split at hj
  ·rw [List.getElem?_drop] at hj
   have := m2 _ u hj
   have := hcell _ u this
   rw [addr_add] at this
   rw [show k * n' + o + j = 0 + (k * n' + (0 + (o + j))) by omega]
   exact this
  ·cases hj
 have := run_load_cells (w := w') ht hc hl3
 simp [execOp, hp, this]
def mentS (d : Nat) : AC → Bool
 | .sub r _ _ _ => Nat.beq r d
 | _ => false
theorem RepC.setRows {x : AC} {u : Value} {d : Nat} {xs : List Value} {F : List Nat} (h : RepC ρ x u) (hx : mentS d x = false) : RepC (ρ.setRoot d (ρ.root d) xs F) x u := by
 cases x with
 | rt r =>
  show u = (if r = d then ρ.root d else ρ.root r) ∧ _
  split
  ·rename_i e; subst e; exact h
  ·exact h
 | sub r n k j =>
  have hb : r ≠ d := beq_f hx
  show (if r = d then xs else ρ.rows r)[k * n + j]? = some u ∧ _
  rw [if_neg hb]; exact h
 | pr r n k o =>
  show ∃ g, (if r = d then ρ.root d else ρ.root r).ownBlock = some g ∧ _
  split
  ·rename_i e; subst e; exact h
  ·exact h
 | _ => exact h
theorem Sim.rewrite {R' : RL} {w' : World} {F : List Nat} {nm ty n : Nat} {l : List (List C)} {xs : List Value} {G : List Nat} (h : Sim X ρ S a w) (hR' : ∀ x ∈ R', x ∈ S.R) (hnd : (F ++ fts ρ R').Nodup) (hF : ∀ b ∈ F, b ∈ fts ρ S.R) (hc : Chg w w' G) (hG : ∀ b ∈ G, b ∈ fts ρ S.R ∧ b ∉ fts ρ R')
  (ho : OwS w' ty n l (ρ.root nm) xs F) (f1 : noT (mentS nm) S.T = true) (f2 : noBs (mentS nm) S.B = true) (f3 : noK nm R' = true) : Sim X (ρ.setRoot nm (ρ.root nm) xs F) ⟨S.T, S.B, (nm, ty, n, l) :: R', S.M⟩ a w' := by
 obtain ⟨k1, k2, k3⟩ := List.nodup_append.1 hnd
 have h1 := h.drop hR' k2 hc hG
 have hnd0 := h.hp.nd
 unfold feet at hnd0
 obtain ⟨n1, n2, n3⟩ := List.nodup_append.1 hnd0
 obtain ⟨n4, n5, n6⟩ := List.nodup_append.1 n2
 have hfe : feet (ρ.setRoot nm (ρ.root nm) xs F) ⟨S.T, S.B, (nm, ty, n, l) :: R', S.M⟩ = S.B.map (fun x => ρ.box x.1) ++ (F ++ fts ρ R' ++ S.M.map fun x => ρ.box x.1) := by
  have key : ∀ R : RL, (∀ x ∈ R, x.1 ≠ nm) → R.flatMap (fun x => (ρ.setRoot nm (ρ.root nm) xs F).foot x.1) = R.flatMap fun x => ρ.foot x.1 := by
   intro R
   induction R with
   | nil => intro _; rfl
   | cons x R ih =>
    intro h
    rw [List.flatMap_cons, List.flatMap_cons, ih fun y hy => h y (by simp [hy])]
    congr 1
    show (if x.1 = nm then F else ρ.foot x.1) = _
    rw [if_neg (h x (by simp))]
  unfold feet
  simp only [List.flatMap_cons, key R' fun x hx => noK_mem f3 x hx]
  show _ ++ ((if nm = nm then F else ρ.foot nm) ++ _ ++ _) = _
  rw [if_pos rfl]
  rfl
 have hmem : ∀ b, b ∈ S.B.map (fun x => ρ.box x.1) ++ (F ++ fts ρ R' ++ S.M.map fun x => ρ.box x.1) → b ∈ F ∨ b ∈ feet ρ ⟨S.T, S.B, R', S.M⟩ := by
  intro b hb
  unfold feet
  simp only [List.mem_append] at hb ⊢
  rcases hb with hb | (hb | hb) | hb
  ·exact .inr (.inl hb)
  ·exact .inl hb
  ·exact .inr (.inr (.inl hb))
  ·exact .inr (.inr (.inr hb))
 have hFf : ∀ b ∈ F, b ∈ feet ρ S := fun b hb => List.mem_append_right _ (List.mem_append_left _ (hF b hb))
 refine ⟨⟨h1.hp.H, fun x hx => ?_, fun x hx => ?_, fun x hx => h1.hp.M x hx, ?_, fun b hb => ?_⟩, Sim.tr (m := mentS nm) (X := X) (fun x v hx hv => hv.setRows hx) f1 h1.T, h1.df, h1.sz, h1.fr, fun b hb => ?_⟩
 ·obtain ⟨vs, e1, e2⟩ := h1.hp.B x hx
  exact ⟨vs, e1, e2.monoM fun a b ha hab => hab.setRows (noL_mem (noBs_mem f2 x hx) a ha)⟩
 ·rcases List.mem_cons.1 hx with rfl | hx
  ·show OwS w' ty n l (if nm = nm then ρ.root nm else ρ.root nm) (if nm = nm then xs else ρ.rows nm) (if nm = nm then F else ρ.foot nm)
   rw [if_pos rfl, if_pos rfl, if_pos rfl]; exact ho
  ·have hne : x.1 ≠ nm := noK_mem f3 x hx
   show OwS w' x.2.1 x.2.2.1 x.2.2.2 (if x.1 = nm then ρ.root nm else ρ.root x.1) (if x.1 = nm then xs else ρ.rows x.1) (if x.1 = nm then F else ρ.foot x.1)
   rw [if_neg hne, if_neg hne, if_neg hne]; exact h1.hp.R x hx
 ·rw [hfe]
  refine List.nodup_append.2 ⟨n1, ?_, fun a ha b hb e => ?_⟩
  ·refine List.nodup_append.2 ⟨hnd, n5, fun x hx y hy => n6 x ?_ y hy⟩
   rcases List.mem_append.1 hx with hx | hx
   ·exact hF x hx
   ·obtain ⟨z, hz, hx⟩ := List.mem_flatMap.1 hx
    exact List.mem_flatMap.2 ⟨z, hR' z hz, hx⟩
  ·subst e
   refine n3 a ha a ?_ rfl
   rcases List.mem_append.1 hb with hb | hb
   ·refine List.mem_append_left _ ?_
    rcases List.mem_append.1 hb with hb | hb
    ·exact hF a hb
    ·obtain ⟨z, hz, hx⟩ := List.mem_flatMap.1 hb
     exact List.mem_flatMap.2 ⟨z, hR' z hz, hx⟩
   ·exact List.mem_append_right _ hb
 ·rw [hfe] at hb
  rcases hmem b hb with hb | hb
  ·exact h.hp.dj b (hFf b hb)
  ·exact h1.hp.dj b hb
 ·rw [hfe] at hb
  rcases hmem b hb with hb | hb
  ·exact h.ft b (hFf b hb)
  ·exact h1.ft b hb
theorem All3.takeA {Rl : C → Value → List Nat → Prop} : ∀ {cs : List C} {us : List Value} {Fs : List (List Nat)} (n : Nat), All3 Rl cs us Fs → All3 Rl (cs.take n) (us.take n) (Fs.take n)
 | _, _, _, 0, _ => by simp [All3]
 | [], [], [], _ + 1, _ => trivial
 | c :: cs, u :: us, F :: Fs, n + 1, h => ⟨h.1, All3.takeA n h.2⟩
 | [], _ :: _, _, _, h => h.elim
 | [], [], _ :: _, _, h => h.elim
 | _ :: _, [], _, _, h => h.elim
 | _ :: _, _ :: _, [], _, h => h.elim
theorem All3.dropA {Rl : C → Value → List Nat → Prop} : ∀ {cs : List C} {us : List Value} {Fs : List (List Nat)} (n : Nat), All3 Rl cs us Fs → All3 Rl (cs.drop n) (us.drop n) (Fs.drop n)
 | _, _, _, 0, h => h
 | [], [], [], _ + 1, _ => trivial
 | c :: cs, u :: us, F :: Fs, n + 1, h => All3.dropA n h.2
 | [], _ :: _, _, _, h => h.elim
 | [], [], _ :: _, _, h => h.elim
 | _ :: _, [], _, _, h => h.elim
 | _ :: _, _ :: _, [], _, h => h.elim
theorem flat_set {n : Nat} : ∀ {l : List (List C)} {k : Nat} {row : List C}, (∀ cs ∈ l, cs.length = n) → k < l.length → row.length = n → (l.set k row).flatten = l.flatten.take (k * n) ++ row ++ l.flatten.drop (k * n + n)
 | [], k, row, _, hk, _ => by simp at hk
 | x :: l, 0, row, h, _, hr => by
  have hx : x.length = n := h x (by simp)
  simp only [List.set_cons_zero, List.flatten_cons, Nat.zero_mul, List.take_zero, List.nil_append, Nat.zero_add]
  rw [← hx, List.drop_left]
 | x :: l, k + 1, row, h, hk, hr => by
  have hx : x.length = n := h x (by simp)
  have ih := flat_set (l := l) (k := k) (row := row) (fun cs hcs => h cs (by simp [hcs])) (by simpa using hk) hr
  have e1 : (x ++ l.flatten).take ((k + 1) * n) = x ++ l.flatten.take (k * n) := by
   rw [Nat.succ_mul, Nat.add_comm, ← hx, List.take_length_add_append]
  have e2 : (x ++ l.flatten).drop ((k + 1) * n + n) = l.flatten.drop (k * n + n) := by
   rw [Nat.succ_mul, show k * n + n + n = n + (k * n + n) by omega]
   conv => lhs; rw [← hx]
   rw [List.drop_length_add_append, hx]
  simp only [List.set_cons_succ, List.flatten_cons, ih, e1, e2, List.append_assoc]
theorem flat_row {n : Nat} : ∀ {l : List (List C)} {k : Nat} {row : List C}, (∀ cs ∈ l, cs.length = n) → l[k]? = some row → row = (l.flatten.drop (k * n)).take n
 | [], k, row, _, hk => by simp at hk
 | x :: l, 0, row, h, hk => by
  have hx : x.length = n := h x (by simp)
  simp only [List.getElem?_cons_zero, Option.some.injEq] at hk
  subst hk
  rw [List.flatten_cons, Nat.zero_mul, List.drop_zero, ← hx, List.take_left]
 | x :: l, k + 1, row, h, hk => by
  have hx : x.length = n := h x (by simp)
  have ih := flat_row (l := l) (k := k) (row := row) (fun cs hcs => h cs (by simp [hcs])) (by simpa using hk)
  have e2 : (x ++ l.flatten).drop ((k + 1) * n) = l.flatten.drop (k * n) := by
   rw [Nat.succ_mul, Nat.add_comm]
   conv => lhs; rw [← hx]
   rw [List.drop_length_add_append, hx]
  rw [List.flatten_cons, e2]
  exact ih
theorem cut_l {α : Type} (L : List α) {m n o : Nat} (ho : o ≤ n) : L.take m ++ ((L.drop m).take n).take o = L.take (m + o) := by
 rw [List.take_take, Nat.min_eq_left ho, ← List.take_add]
theorem cut_r {α : Type} (L : List α) {m n p : Nat} (hp : p ≤ n) : ((L.drop m).take n).drop p ++ L.drop (m + n) = L.drop (m + p) := by
 have e : L.drop (m + n) = (L.drop (m + p)).drop (n - p) := by rw [List.drop_drop]; congr 1; omega
 have e2 : (L.drop m).drop p = L.drop (m + p) := List.drop_drop
 rw [List.drop_take, e2, e, List.take_append_drop]
theorem nodup_mid {A B D G R : List Nat} {b : Nat} (h : (G ++ (b :: (A ++ (B ++ D)) ++ R)).Nodup) : (b :: (A ++ G ++ D) ++ R).Nodup := by
 have h1 : (b :: (A ++ G ++ D) ++ R).Perm (G ++ (b :: (A ++ D) ++ R)) := by
  rw [List.perm_iff_count]
  intro c
  simp only [List.count_append, List.count_cons, List.cons_append]
  omega
 have h2 : (G ++ (b :: (A ++ D) ++ R)).Sublist (G ++ (b :: (A ++ (B ++ D)) ++ R)) :=
  (List.Sublist.refl _).append ((((List.Sublist.refl A).append (List.sublist_append_right B D)).cons_cons b).append (List.Sublist.refl R))
 exact h1.nodup_iff.2 (h.sublist h2)
theorem e_st_pr {T : List (Nat × AV)} {B : List (Nat × Nat × List AC)} {R R1 : RL} {M : List (Nat × (Int → Option Value))} {t : TypeId} {x y : Operand} {r n n' k o ty : Nat} {g : Bool} {i : TI} {rows rows' : List (List C)} {row row' cs : List C} {l : List AC} (hT : TTOk P TT) (hi : lk TT t = some i)
  (hx : opv T x = some (.p false [.pr r n k o])) (hy : opv T y = some (.p g l)) (hl : lenB l i.size = true) (hcs : toCs R l = some (cs, R1)) (hr : lk R1 r = some (ty, n', rows)) (hn : Nat.beq n' n = true) (hk : rows[k]? = some row) (hp : putO o cs row = some row') (hrows : rows' = rows.set k row')
  (f1 : noT (mentS r) T = true) (f2 : noBs (mentS r) B = true) (f3 : noK r (eraR r R1) = true) : Eff P X ⟨T, B, R, M⟩ none (.store t x y) ⟨T, B, (r, ty, n, rows') :: eraR r R1, M⟩ false := by
 intro ρ a w hs
 obtain rfl := Nat.eq_of_beq_eq_true hn
 subst hrows
 have ht := hT t i hi
 obtain ⟨b, hb, hpx⟩ := (opv_rep hs hx).1
 obtain ⟨us, h1, h2, h3⟩ := rep_cells (opv_rep hs hy)
 obtain ⟨Gs, k1, k2, k3, k4⟩ := toCs_ok hs.hp hcs h1
 have hul : us.length = i.size := by rw [h1.len, lenB_eq hl]
 have hcl : cs.length = us.length := k1.lenV.symm
 obtain ⟨j1, j2, j3, j4⟩ := era_own (ρ := ρ) hr (List.nodup_append.1 k3).2.1
 have ho := hs.hp.R _ (k2 _ j2)
 obtain ⟨Fs, ⟨m1, m2, m3⟩, m4⟩ := ho
 have hkl : k < rows.length := (List.getElem?_eq_some_iff.1 hk).1
 have hrl : row.length = n' := m2 row (List.mem_of_getElem? hk)
 obtain ⟨hrow', hple⟩ := putO_eq hp
 have hrl' : row'.length = n' := by
  rw [hrow']
  simp only [List.length_append, List.length_take, List.length_drop]
  omega
 have hxl : (ρ.rows r).length = rows.length * n' := m1.1
 have hkn : k * n' + n' ≤ rows.length * n' := by rw [← Nat.succ_mul]; exact Nat.mul_le_mul_right _ hkl
 have hole : o + us.length ≤ n' := by omega
 have hroot := m1.2
 rcases hroot with ⟨e0, h0⟩ | ⟨b', cap, cur, e0, _, hg, hnc, hcm, hcs2, htake⟩
 ·exact absurd hb (by show ¬ (ρ.root (r, ty, n', rows).1).ownBlock = some b; rw [show ρ.root (r, ty, n', rows).1 = _ from e0]; simp [Value.ownBlock])
 have hcs2 : cur.size = cap * n' := hcs2
 have hnc : rows.length ≤ cap := hnc
 have htake : cur.toList.take (rows.length * n') = ρ.rows r := htake
 have hb2 : b' = b := by
  have : (ρ.root r).ownBlock = some b' := by rw [show ρ.root r = _ from e0]; rfl
  rw [hb] at this; cases this; rfl
 subst hb2
 have hle : k * n' + o + us.length ≤ cur.toList.length := by
  have : rows.length * n' ≤ cap * n' := Nat.mul_le_mul_right _ hnc
  simp only [Array.length_toList]; omega
 have hst := run_storeCells_at P b' (k * n' + o) ty us 0 cur w hg (by simpa using hle) h1.ones
 simp only [Nat.add_zero] at hst
 have hc := cells_mk h3 h1.ones
 generalize hcur' : cur.toList.take (k * n' + o) ++ us ++ cur.toList.drop (k * n' + o + us.length) = cur' at hst
 have hrun : (storeVar t ⟨b', k * n' + o, none⟩ (mkV g us)).run P w = .ok () (w.setRow b' cur'.toArray) := by
  unfold storeVar
  simp only [Sem.run_bind, ht.sizeOf, Result.andThen_ok, hc]
  simp [hul, hst]
 have hheap := setRow_heap w b' cur cur'.toArray ty (0, 0) hg
 have hoth : ∀ q, q ≠ b' → (w.setRow b' cur'.toArray).heap[q]? = w.heap[q]? := fun q hq => setRow_other w b' q _ hq
 have hbF : b' ∈ ρ.foot r := by
  show b' ∈ ρ.foot (r, ty, n', rows).1
  rw [m4]; exact List.mem_append_left _ (by show b' ∈ (ρ.root r).ownBlock.toList; rw [hb]; simp)
 have hbG : b' ∉ Gs.flatten := fun hm => (List.nodup_append.1 k3).2.2 b' hm b' (j4 b' hbF) rfl
 have hndF : (ρ.foot r).Nodup := (List.nodup_append.1 j3).1
 have hFe : ρ.foot r = b' :: Fs.flatten := by
  have : ρ.foot (r, ty, n', rows).1 = (ρ.root r).ownBlock.toList ++ Fs.flatten := m4
  rw [hb] at this; exact this
 have hbFs : b' ∉ Fs.flatten := by rw [hFe] at hndF; exact (List.nodup_cons.1 hndF).1
 have m3' : All3 (OwX (w.setRow b' cur'.toArray)) rows.flatten (ρ.rows r) Fs := OwX.all_keep m3 fun q hq => hoth q fun e => hbFs (e ▸ hq)
 have k1' : All3 (OwX (w.setRow b' cur'.toArray)) cs us Gs := OwX.all_keep k1 fun q hq => hoth q fun e => hbG (e ▸ hq)
 have hflat : (rows.set k row').flatten = rows.flatten.take (k * n' + o) ++ cs ++ rows.flatten.drop (k * n' + (o + cs.length)) := by
  rw [flat_set m2 hkl hrl', hrow']
  rw [flat_row m2 hk, ← cut_l rows.flatten (m := k * n') (n := n') (show o ≤ n' by omega), ← cut_r rows.flatten (m := k * n') (n := n') (show o + cs.length ≤ n' by omega)]
  simp only [List.append_assoc]
 have hall : All3 (OwX (w.setRow b' cur'.toArray)) (rows.set k row').flatten ((ρ.rows r).take (k * n' + o) ++ us ++ (ρ.rows r).drop (k * n' + (o + cs.length))) (Fs.take (k * n' + o) ++ Gs ++ Fs.drop (k * n' + (o + cs.length))) := by
  rw [hflat]
  exact All3.append (All3.append (m3'.takeA _) k1') (m3'.dropA _)
 have hxs2 : cur'.take (rows.length * n') = (ρ.rows r).take (k * n' + o) ++ us ++ (ρ.rows r).drop (k * n' + (o + cs.length)) := by
  have hx : ρ.rows r = cur.toList.take (rows.length * n') := htake.symm
  rw [hx, ← hcur', List.take_take, Nat.min_eq_left om, List.drop_take, hcl]
  have hl1 : (cur.toList.take (k * n' + o) ++ us).length = k * n' + (o + us.length) := by
   rw [List.length_append, List.length_take]; omega
  rw [List.take_append, hl1, List.take_of_length_le om, show k * n' + o + us.length = k * n' + (o + us.length) by omega]
 have hsplit : Fs.flatten = (Fs.take (k * n' + o)).flatten ++ (((Fs.drop (k * n' + o)).take cs.length).flatten ++ (Fs.drop (k * n' + (o + cs.length))).flatten) := by
  have e : Fs.drop (k * n' + (o + cs.length)) = (Fs.drop (k * n' + o)).drop cs.length := by rw [List.drop_drop]; congr 1; omega
  rw [← List.flatten_append, ← List.flatten_append, e, List.take_append_drop, List.take_append_drop]
 have hnd : ((b' :: ((Fs.take (k * n' + o)).flatten ++ Gs.flatten ++ (Fs.drop (k * n' + (o + cs.length))).flatten)) ++ fts ρ (eraR r R1)).Nodup := by
  refine nodup_mid (B := ((Fs.drop (k * n' + o)).take cs.length).flatten) ?_
  rw [← hsplit, ← hFe]
  refine List.nodup_append.2 ⟨(List.nodup_append.1 k3).1, j3, fun c hc e he => (List.nodup_append.1 k3).2.2 c hc e ?_⟩
  rcases List.mem_append.1 he with he | he
  ·exact j4 e he
  ·obtain ⟨z, hz, he⟩ := List.mem_flatMap.1 he
   exact List.mem_flatMap.2 ⟨z, j1 z hz, he⟩
 have hS := hs.rewrite (R' := eraR r R1) (w' := w.setRow b' cur'.toArray) (F := b' :: ((Fs.take (k * n' + o)).flatten ++ Gs.flatten ++ (Fs.drop (k * n' + (o + cs.length))).flatten)) (nm := r) (ty := ty) (n := n') (l := rows.set k row') (xs := (ρ.rows r).take (k * n' + o) ++ us ++ (ρ.rows r).drop (k * n' + (o + cs.length))) (G := [b'])
  (fun y hy => k2 y (j1 y hy)) hnd ?_ ⟨rfl, rfl, rfl, by simp [World.setRow], fun q _ hq => hoth q (by simpa using hq)⟩ ?_ ?_ f1 f2 f3
 ·refine ⟨_, .skip, undef, w.setRow b' cur'.toArray, fun _ _ _ _ => ?_, .inr ⟨rfl, rfl⟩, hS, by intro h; cases h⟩
  simp [execOp, Instr.storeAt, Instr.sureAddr, hpx, h2, hrun]
 ·intro q hq
  have hFr : ∀ q ∈ ρ.foot r, q ∈ fts ρ R := fun q hq => by
   obtain ⟨z, hz, hq⟩ := List.mem_flatMap.1 (j4 q hq)
   exact List.mem_flatMap.2 ⟨z, k2 z hz, hq⟩
  rcases List.mem_cons.1 hq with rfl | hq
  ·exact hFr _ hbF
  ·rcases List.mem_append.1 hq with hq | hq
   ·rcases List.mem_append.1 hq with hq | hq
    ·exact hFr q (by rw [hFe, hsplit]; simp only [List.mem_cons, List.mem_append]; exact .inr (.inl hq))
    ·exact k4 q hq
   ·exact hFr q (by rw [hFe, hsplit]; simp only [List.mem_cons, List.mem_append]; exact .inr (.inr (.inr hq)))
 ·intro q hq
  rw [List.mem_singleton.1 hq]
  refine ⟨?_, fun hm => (List.nodup_append.1 j3).2.2 b' hbF b' hm rfl⟩
  obtain ⟨z, hz, hq⟩ := List.mem_flatMap.1 (j4 b' hbF)
  exact List.mem_flatMap.2 ⟨z, k2 z hz, hq⟩
 ·refine ⟨Fs.take (k * n' + o) ++ Gs ++ Fs.drop (k * n' + (o + cs.length)), ⟨⟨?_, .inr ⟨b', cap, cur'.toArray, ?_, Nat.zero_le _, hheap, by rw [List.length_set]; exact hnc, hcm, ?_, ?_⟩⟩, fun ds hds => ?_, hall⟩, ?_⟩
  ·simp only [List.length_append, List.length_take, List.length_drop, List.length_set]; omega
  ·rw [List.length_set]; exact e0
  ·rw [← hcs2, ← hcur']
   simp only [List.size_toArray, List.length_append, List.length_take, List.length_drop, Array.length_toList] at hle ⊢
   omega
  ·rw [List.length_set]; exact hxs2
  ·rcases List.mem_or_eq_of_mem_set hds with h9 | h9
   ·exact m2 ds h9
   ·rw [h9]; exact hrl'
  ·rw [hb]; simp
theorem made_eq {z : List Value} {n : Nat} (hz : z.length = n) (hn : 0 < n) : ∀ m, ((List.range (m * n)).map fun k => z.toArray[k % n]!) = (List.replicate m z).flatten
 | 0 => by simp
 | m + 1 => by
  rw [List.replicate_succ, List.flatten_cons, ← made_eq hz hn m, Nat.succ_mul, Nat.add_comm, List.range_add, List.map_append]
  congr 1
  ·apply List.ext_getElem?
   intro k
   rw [List.getElem?_map]
   by_cases hk : k < n
   ·rw [List.getElem?_range hk]
    have hk2 : k < z.length := by omega
    simp only [Option.map_some, Nat.mod_eq_of_lt hk]
    rw [getElem!_pos z.toArray k (by simpa using hk2), List.getElem?_eq_getElem hk2]
    rfl
   ·rw [List.getElem?_eq_none (by simp; omega), List.getElem?_eq_none om]
    rfl
  ·rw [List.map_map]
   apply List.map_congr_left
   intro k _
   simp
theorem e_make {T : List (Nat × AV)} {B : List (Nat × Nat × List AC)} {R : RL} {M : List (Nat × (Int → Option Value))} {t d e n m : Nat} {x y : Operand} {k1 k2 : IntKind} {i j : Int} {inf : TI} (hT : TTOk P TT) (ht : eSz TT t = some (e, n)) (hi : lk TT e = some inf) (hby : lenBy TT e = true) (hx : opv T x = some (.p false [.c (.v (.int k1 i))])) (hy : opv T y = some (.p false [.c (.v (.int k2 j))]))
  (him : i = (m : Int)) (hjm : j = (m : Int)) (hb : m ≤ 1000000000) (hN : okD X d = true) (hf : freshR d ⟨T, B, R, M⟩ = true) : Eff P X ⟨T, B, R, M⟩ (some d) (.makeSlice t x y) ⟨(d, .p false [.rt d]) :: T, B, (d, e, n, List.replicate m inf.zero) :: R, M⟩ true := by
 intro ρ a w hs
 subst him; subst hjm
 have hex : a.eval x = .int k1 (m : Int) := rd_v (opv_rep hs hx).1
 have hey : a.eval y = .int k2 (m : Int) := rd_v (opv_rep hs hy).1
 obtain ⟨hu, i0, hi0, hin0⟩ := eSz_ok hT ht
 have hi' := hT e inf hi
 obtain ⟨ii, hinf, hsz1, hby1, hz⟩ := hi'.info
 have hin : inf.size = n := by
  obtain ⟨i2, h2, h3, _⟩ := hi0.info
  rw [hinf] at h2; cases h2
  rw [← hsz1, h3]; exact hin0
 have hbb : inf.bytes ≤ 100000 := by
  unfold lenBy at hby
  rw [hi] at hby
  exact Nat.le_of_ble_eq_true hby
 have hpos : 0 < n := by rw [← hin]; exact hi'.pos
 have hz1 : ∀ c ∈ inf.zero, (cv c).oneCell' = true := fun c hc => ((hi'.zero c hc).1 (fun _ => none)).one
 have hcells : (if inf.sh.agg then Value.agg (inf.zero.map cv).toArray else (inf.zero.map cv).headD undef).cells = (inf.zero.map cv).toArray := cells_mk (g := inf.sh.agg) (us := inf.zero.map cv) (fun hg => by rw [List.length_map, hi'.len, hi'.one hg]) (fun u hu => by obtain ⟨c, hc, rfl⟩ := List.mem_map.1 hu; exact hz1 c hc)
 have hbytes : ii.bytes * m ≤ 281474976710656 := by
  rw [hby1]
  have := Nat.mul_le_mul hbb hb
  omega
 obtain ⟨w', hrun, h1, h2⟩ := run_make_full (P := P) w 0 t e ii _ n hu hinf hz (hsz1.trans hin) k1 k2 m hbytes (by simp only [maxLen]; omega) (Nat.zero_le _)
 rw [hcells] at h1
 have hzl : (inf.zero.map cv).length = n := by rw [List.length_map, hi'.len, hin]
 have hmade : (madeCells (inf.zero.map cv).toArray (m * n)).toList = (List.replicate m (inf.zero.map cv)).flatten := by
  rw [← made_eq hzl hpos m]
  simp [madeCells, hi'.len, hin]
 rw [hmade] at h1
 have hbel : Below w.heap.size w w' := ⟨h2.os, h2.tape, h2.output, h2.size, fun k hk => h2.block k hk (by simp)⟩
 have hnew : w.heap.size < w'.heap.size := (h1.lt w.heap.size rfl).2
 have hrow : ∀ zs : List C, (∀ c ∈ zs, c ∈ inf.zero) → All3 (OwX w') zs (zs.map cv) (zs.map fun _ => []) := by
  intro zs
  induction zs with
  | nil => intro _; trivial
  | cons c zs ih => exact fun h => ⟨(hi'.zero c (h c (by simp))).2 w', ih fun c hc => h c (by simp [hc])⟩
 have hrows : ∀ m, All3 (OwX w') (List.replicate m inf.zero).flatten (List.replicate m (inf.zero.map cv)).flatten ((List.replicate m inf.zero).flatten.map fun _ => []) := by
  intro m
  induction m with
  | zero => trivial
  | succ m ih =>
   rw [List.replicate_succ, List.replicate_succ, List.flatten_cons, List.flatten_cons, List.map_append]
   exact (hrow inf.zero fun c hc => hc).append ih
 have ho : OwS w' e n (List.replicate m inf.zero) (.slice (some ⟨w.heap.size, 0, none⟩) m m) (List.replicate m (inf.zero.map cv)).flatten [w.heap.size] := by
  refine ⟨_, ⟨by rw [List.length_replicate]; exact h1, fun cs hcs => by rw [List.eq_of_mem_replicate hcs, hi'.len, hin], hrows m⟩, ?_⟩
  rw [flat_nil]; rfl
 have hsim := (hs.next hbel).newroot (nm := d) ho (by simp) (fun b hb => by
  rw [List.mem_singleton.1 hb]
  refine ⟨fun hm => Nat.lt_irrefl _ (hs.hp.lt _ hm), ?_, .inr hs.fr.size⟩
  cases hH : ρ.H w.heap.size with
  | none => rfl
  | some o => exact absurd (heap_lt (hs.hp.H _ o hH)) (Nat.lt_irrefl _)) hf
 exact ⟨_, .value _, _, w', fun _ _ _ _ => by simp [execOp, hex, hey, hrun], .inl rfl, hsim.put hN (root_rep rfl), fun _ => hbel⟩
end
section
variable {P : Program} {X : Cx} {S : St} {ρ : Rho} {a : Act} {w : World} {TT : List (Nat × TI)}
def intF (P : Program) : Nat → List Field → Bool
 | _, [] => true
 | j, f :: fs => (f.name != "_") && (decide (f.offset = j) && ((match P.underlying f.type with | some (.int .i64) => true | _ => false) && intF P (j + 1) fs))
def intS (P : Program) (x : Nat × Nat) : Bool :=
 match P.underlying x.1 with
 | some (.struct fs) => decide (fs.size = x.2) && (intF P 0 fs.toList && (!P.stoodInHeld x.1 && !P.eqGuardType P.depth x.1))
 | _ => false
theorem run_eqF (d : Nat) (xs ys : List Int) : ∀ (fs : List Field) (j : Nat), intF P j fs = true → xs.length = j + fs.length → ys.length = j + fs.length →
  (Op.eqFields (d + 1) (xs.map (Value.int .i64)).toArray (ys.map (Value.int .i64)).toArray fs).run P w = .ok (decide (xs.drop j = ys.drop j)) w
 | [], j, _, hx, hy => by
  rw [List.drop_eq_nil_of_le (by simp at hx; omega), List.drop_eq_nil_of_le (by simp at hy; omega)]
  simp [Op.eqFields]
 | f :: fs, j, h, hx, hy => by
  simp only [intF, Bool.and_eq_true, decide_eq_true_eq, bne_iff_ne, ne_eq] at h
  obtain ⟨h1, rfl, h3, h4⟩ := h
  have hu : P.underlying f.type = some (.int .i64) := by
   split at h3
   ·assumption
   ·cases h3
  have hag : (isAgg f.type).run P w = .ok false w := by unfold Go.isAgg; rw [Sem.run_bind, run_underlying hu]; rfl
  have hxl : f.offset < xs.length := by simp at hx; omega
  have hyl : f.offset < ys.length := by simp at hy; omega
  have hpx : (part f.type (xs.map (Value.int .i64)).toArray f.offset).run P w = .ok (.int .i64 xs[f.offset]) w := by
   unfold part; simp [hag, hxl]
  have hpy : (part f.type (ys.map (Value.int .i64)).toArray f.offset).run P w = .ok (.int .i64 ys[f.offset]) w := by
   unfold part; simp [hag, hyl]
  have he : (Op.equalIn (d + 1) f.type (.int .i64 xs[f.offset]) (.int .i64 ys[f.offset])).run P w = .ok (xs[f.offset] == ys[f.offset]) w := by
   simp [Op.equalIn, run_underlying hu]
  have ih := run_eqF d xs ys fs (f.offset + 1) h4 (by simp at hx; omega) (by simp at hy; omega)
  unfold Op.eqFields
  rw [if_pos h1]
  simp only [Sem.run_bind, hpx, hpy, he, Result.andThen_ok]
  rw [List.drop_eq_getElem_cons hxl, List.drop_eq_getElem_cons hyl]
  by_cases hxy : xs[f.offset] = ys[f.offset]
  ·simp only [hxy, beq_self_eq_true, Bool.not_true, Bool.false_eq_true, if_false, ih, List.cons.injEq, true_and]
  ·have h9 : (xs[f.offset] == ys[f.offset]) = false := by simpa using hxy
   have h8 : decide (xs[f.offset] :: xs.drop (f.offset + 1) = ys[f.offset] :: ys.drop (f.offset + 1)) = false := decide_eq_false fun h => hxy (List.cons.inj h).1
   rw [h8]
   simp [h9]
theorem run_eqS {T n : Nat} {xs ys : List Int} (h : intS P (T, n) = true) (hx : xs.length = n) (hy : ys.length = n) : (Op.equal T (.agg (xs.map (Value.int .i64)).toArray) (.agg (ys.map (Value.int .i64)).toArray)).run P w = .ok (decide (xs = ys)) w := by
 unfold intS at h
 split at h
 ·rename_i fs hu
  simp only [Bool.and_eq_true, decide_eq_true_eq, Bool.not_eq_true'] at h
  obtain ⟨h1, h2, h3, _⟩ := h
  have hf : P.fieldsOf T = fs := by simp [Program.fieldsOf, hu]
  have := run_equalIn_struct (P := P) (w := w) 9999 T (xs.map (Value.int .i64)).toArray (ys.map (Value.int .i64)).toArray (by rw [hf]; exact hu) h3
  have h9 := run_eqF (P := P) (w := w) 9998 xs ys fs.toList 0 h2 (by simp; omega) (by simp; omega)
  rw [hf] at this
  unfold Op.equal
  rw [show Op.maxDepth = 9999 + 1 from rfl, this, h9]
  simp
 ·cases h
def numsO : List AC → Option (List Int)
 | [] => some []
 | .c (.v (.int .i64 x)) :: r => match numsO r with
  | some l => some (x :: l)
  | none => none
 | _ :: _ => none
theorem numsO_rep : ∀ {l : List AC} {xs : List Int} {us : List Value}, numsO l = some xs → L2 (RepC ρ) l us → us = xs.map (Value.int .i64)
 | [], xs, us, h, hu => by cases h; match us, hu with | [], _ => rfl
 | y :: l, xs, us, h, hu => by
  match us, hu with
  | u :: us, hu =>
   unfold numsO at h
   split at h
   ·cases ‹_ :: _ = []›
   ·rename_i x r e
    cases e
    split at h
    ·rename_i xs' hr
     cases h
     rw [numsO_rep hr hu.2, rd_v hu.1]; rfl
    ·cases h
   ·cases h
def mkEq : BinOp → Bool → Option Bool
 | .eql, b => some b
 | .neq, b => some (!b)
 | _, _ => none
def eqO (xs ys : List Int) : BinOp → Option Bool
 | .eql => some (decide (xs = ys))
 | .neq => some (decide (xs ≠ ys))
 | _ => none
theorem qw_eqS {op : BinOp} {t yt n : TypeId} {x y : Operand} {l m : List AC} {xs ys : List Int} {b : Bool} (hI : intS P (t, n) = true) (hx : opv S.T x = some (.p true l)) (hy : opv S.T y = some (.p true m)) (h1 : numsO l = some xs) (h2 : numsO m = some ys) (hl1 : lenB xs n = true) (hl2 : lenB ys n = true)
  (hb : eqO xs ys op = some b) : QuietW P X S (.binOp op t x y yt) (.p false [.c (.v (.bool b))]) := by
 refine fun ρ a w hs => ⟨.bool b, ⟨⟨0, rfl, rfl⟩, trivial⟩, fun _ _ _ _ _ w' => ?_⟩
 obtain ⟨us, hp, hu⟩ := opv_rep hs hx
 obtain ⟨vs, hq, hv⟩ := opv_rep hs hy
 rw [numsO_rep h1 hu] at hp
 rw [numsO_rep h2 hv] at hq
 have hr := run_eqS (w := w') hI (lenB_eq hl1) (lenB_eq hl2)
 have hI' := hI
 have hg : (eqGuard op t x y (a.eval x) (a.eval y)).run P w' = .ok () w' := by
  unfold intS at hI
  split at hI
  ·simp only [Bool.and_eq_true, Bool.not_eq_true'] at hI
   rw [hp, hq]
   unfold eqGuard
   cases op <;> first | (cases hb; done) | simp [hI.2.2.2]
  ·cases hI
 rw [hp, hq] at hg
 cases op <;> first | (cases hb; done) | skip
 ·cases hb
  simp [execOp, hp, hq, hg, binOp, hr]
 ·cases hb
  simp [execOp, hp, hq, hg, binOp, hr]
theorem q_eqS {op : BinOp} {t yt n : TypeId} {x y : Operand} {l m : List AC} {xs ys : List Int} {b : Bool} (hI : intS P (t, n) = true) (hx : opv S.T x = some (.p true l)) (hy : opv S.T y = some (.p true m)) (h1 : numsO l = some xs) (h2 : numsO m = some ys) (hl1 : lenB xs n = true) (hl2 : lenB ys n = true)
 (hb : eqO xs ys op = some b) : Quiet P X S (.binOp op t x y yt) (.p false [.c (.v (.bool b))]) := (qw_eqS hI hx hy h1 h2 hl1 hl2 hb).q
def qIxArr (TT : List (Nat × TI)) (S : St) (t : TypeId) (x ix : Operand) (m : Nat) : Option AV :=
 match lk TT t with
 | some ⟨_, _, _, .ar len _ sz _⟩ => match Nat.blt m len with
  | true => match opv S.T x with
   | some (.p false [.pb b o]) => some (.p false [.pb b (o + m * sz)])
   | _ => none
  | false => none
 | _ => none
theorem arr_ok {t len e sz : Nat} {g : Bool} {s b : Nat} {z : List C} (hT : TTOk P TT) (h : lk TT t = some ⟨s, b, z, .ar len e sz g⟩) : P.underlying t = some (.array len e) ∧ 0 < sz ∧ (∀ w, (Go.sizeOf e).run P w = .ok sz w) ∧ (∀ w, (isAgg e).run P w = .ok g w) ∧ (g = false → sz = 1) := by
 obtain ⟨d, hd, hsb⟩ := (hT t _ h).und
 cases d <;> first | (cases hsb; done) | skip
 simp only [shB, Bool.and_eq_true, decide_eq_true_eq, Bool.or_eq_true, beq_iff_eq] at hsb
 obtain ⟨⟨⟨⟨⟨⟨rfl, rfl⟩, h3⟩, h4⟩, h5⟩, rfl⟩, h7⟩ := hsb
 exact ⟨hd, h3, fun w => sizB_run h4, fun w => aggB_run h5, fun hg => h7.resolve_left (by simp [hg])⟩
theorem qw_ix_arr {t : TypeId} {x ix : Operand} {i : Int} {k : IntKind} {av : AV} (m : Nat) (hT : TTOk P TT) (h : qIxArr TT S t x ix m = some av) (hi : opv S.T ix = some (.p false [.c (.v (.int k i))])) (him : i = (m : Int)) : QuietW P X S (.indexAddr t x ix) av := by
 refine fun ρ a w hs => ?_
 subst him
 have hq : a.eval ix = .int k (m : Int) := rd_v (opv_rep hs hi).1
 unfold qIxArr at h
 split at h
 ·rename_i s b z len e sz g ht
  obtain ⟨hu, hsz, h3, _, _⟩ := arr_ok hT ht
  split at h
  ·rename_i hm
   have hml : m < len := by have h9 : Nat.ble (m + 1) len = true := hm; have := Nat.le_of_ble_eq_true h9; omega
   split at h
   ·rename_i bb o hx
    cases h
    have hp : a.eval x = .pointer (some ⟨ρ.box bb, o, none⟩) := (opv_rep hs hx).1
    refine ⟨.pointer (some ⟨ρ.box bb, o + m * sz, none⟩), ⟨rfl, trivial⟩, fun _ _ _ _ _ w' => ?_⟩
    have h5 := h3 w'
    simp [execOp, Instr.indexAt, hp, hq, asIntOf, run_underlying hu, hml, h5, addr_add, Instr.sureAddr]
   ·cases h
  ·cases h
 ·cases h
theorem q_ix_arr {t : TypeId} {x ix : Operand} {i : Int} {k : IntKind} {av : AV} (m : Nat) (hT : TTOk P TT) (h : qIxArr TT S t x ix m = some av) (hi : opv S.T ix = some (.p false [.c (.v (.int k i))])) (him : i = (m : Int)) : Quiet P X S (.indexAddr t x ix) av := (qw_ix_arr m hT h hi him).q
def qIndex (TT : List (Nat × TI)) (S : St) (t : TypeId) (x : Operand) (m : Nat) : Option AV :=
 match lk TT t with
 | some ⟨_, _, _, .ar len _ sz g⟩ => match Nat.blt m len with
  | true => match opv S.T x with
   | some (.p true l) => match cutO (m * sz) sz l with
    | some r => mkP g r
    | none => none
   | _ => none
  | false => none
 | _ => none
theorem qw_index {t : TypeId} {x ix : Operand} {i : Int} {k : IntKind} {av : AV} (m : Nat) (hT : TTOk P TT) (h : qIndex TT S t x m = some av) (hi : opv S.T ix = some (.p false [.c (.v (.int k i))])) (him : i = (m : Int)) : QuietW P X S (.index t x ix) av := by
 refine fun ρ a w hs => ?_
 subst him
 have hq : a.eval ix = .int k (m : Int) := rd_v (opv_rep hs hi).1
 unfold qIndex at h
 split at h
 ·rename_i s b z len e sz g ht
  obtain ⟨hu, hsz, h3, h4, h5⟩ := arr_ok hT ht
  split at h
  ·rename_i hm
   have hml : m < len := by have h9 : Nat.ble (m + 1) len = true := hm; have := Nat.le_of_ble_eq_true h9; omega
   split at h
   ·rename_i l hx
    split at h
    ·rename_i r hr
     obtain rfl := mkP_eq h
     obtain ⟨rfl, hl⟩ := cutO_eq hr
     obtain ⟨vs, hp, hr2⟩ := opv_rep hs hx
     have h6 := (hr2.drop (m * sz)).take sz
     have hl3 : ((vs.drop (m * sz)).take sz).length = sz := by rw [h6.len, hl]
     refine ⟨mkV g ((vs.drop (m * sz)).take sz), mkV_rep h6 (fun hg => by rw [hl3, h5 hg]), fun d ty pos af gg w' => ?_⟩
     have hpart : (part e vs.toArray (m * sz)).run P w' = .ok (mkV g ((vs.drop (m * sz)).take sz)) w' := by
      unfold part mkV
      simp only [Sem.run_bind, h4, Result.andThen_ok]
      cases hg : g
      ·have h1z := h5 hg
       subst h1z
       have : vs[m * 1]? = some (((vs.drop (m * 1)).take 1).headD undef) := by
        have h9 := headD_one hl3
        have h10 : ((vs.drop (m * 1)).take 1)[0]? = some (((vs.drop (m * 1)).take 1).headD undef) := by rw [h9]; rfl
        rw [List.getElem?_take_of_lt om, List.getElem?_drop] at h10
        simpa using h10
       simp only [Nat.mul_one] at this ⊢
       simp [this]
      ·simp only [if_true, Sem.run_bind, h3, Result.andThen_ok, Sem.run_pure]
       congr 2
       apply Array.ext'
       simp
     simp [execOp, Instr.index, hp, hq, asIntOf, run_underlying hu, hml, h3 w', hpart]
    ·cases h
   ·cases h
  ·cases h
 ·cases h
theorem q_index {t : TypeId} {x ix : Operand} {i : Int} {k : IntKind} {av : AV} (m : Nat) (hT : TTOk P TT) (h : qIndex TT S t x m = some av) (hi : opv S.T ix = some (.p false [.c (.v (.int k i))])) (him : i = (m : Int)) : Quiet P X S (.index t x ix) av := (qw_index m hT h hi him).q
theorem q_nilv {op : BinOp} {t yt : TypeId} {x y : Operand} {e m n : Nat} {z : AC} {l : List (List C)} {b : Bool} (hT : TTOk P TT) (ht : eSz TT t = some (e, m)) (hx : opv S.T x = some (.p false [z])) (hz : RsC S z (.s n l)) (hl : l ≠ []) (hy : opv S.T y = some (.p false [.c .nil])) (hb : mkEq op false = some b) :
  Quiet P X S (.binOp op t x y yt) (.p false [.c (.v (.bool b))]) := by
 refine quiet_of fun ρ a w hs => ⟨.bool b, ⟨⟨0, rfl, rfl⟩, trivial⟩, fun _ _ _ _ _ w' => ?_⟩
 have hq : a.eval y = .slice none 0 0 := rd_nil (opv_rep hs hy).1
 obtain ⟨ao, cap, hp, h1, h2, h3, h4⟩ := rd_s (RsC.rd hs.hp (opv_rep hs hx).1 hz)
 obtain ⟨bb, off, rfl, _⟩ := h4.resolve_left hl
 have hu := (eSz_ok hT ht).1
 have he : (Op.equal t (.slice (some ⟨bb, off, none⟩) l.length cap) (.slice none 0 0)).run P w' = .ok false w' := by
  unfold Op.equal
  rw [show Op.maxDepth = 9999 + 1 from rfl]
  unfold Op.equalIn
  simp [run_underlying hu]
 cases op <;> first | (cases hb; done) | skip
 ·cases hb
  simp [execOp, hp, hq, binOp, he, cmp_guard]
 ·cases hb
  simp [execOp, hp, hq, binOp, he, cmp_guard]
theorem qw_max {ats : Array TypeId} {x y : Operand} {m n : Int} (hx : opv S.T x = some (.p false [.c (.v (.int .i64 m))])) (hy : opv S.T y = some (.p false [.c (.v (.int .i64 n))])) : QuietW P X S (.call ⟨.builtin .max, #[x, y], ats⟩) (.p false [.c (.v (.int .i64 (max m n)))]) := by
 refine fun ρ a w hs => ⟨.int .i64 (max m n), ⟨⟨0, rfl, rfl⟩, trivial⟩, fun _ _ _ _ _ w' => ?_⟩
 have hp : a.eval x = .int .i64 m := rd_v (opv_rep hs hx).1
 have hq : a.eval y = .int .i64 n := rd_v (opv_rep hs hy).1
 have e : max m n = if n > m then n else m := by
  split <;> omega
 rw [e]
 simp [execOp, resolve, invoke, builtin, Builtin.max_, Builtin.max2, hp, hq]
theorem q_max {ats : Array TypeId} {x y : Operand} {m n : Int} (hx : opv S.T x = some (.p false [.c (.v (.int .i64 m))])) (hy : opv S.T y = some (.p false [.c (.v (.int .i64 n))])) : Quiet P X S (.call ⟨.builtin .max, #[x, y], ats⟩) (.p false [.c (.v (.int .i64 (max m n)))]) := (qw_max hx hy).q
theorem q_sl_to_map {α : Type} {f : α → List C} {L : List α} {t : TypeId} {x hi : Operand} {e m n k : Nat} {kk : IntKind} {i : Int} (hT : TTOk P TT) (ht : eSz TT t = some (e, m)) (hx : opv S.T x = some (.p false [.c (.s n (List.map f L))])) (hh : opv S.T hi = some (.p false [.c (.v (.int kk i))])) (hi' : i = (k : Int)) (hk : k ≤ L.length) :
  Quiet P X S (.slice t x none (some hi) none) (.p false [.c (.s n (List.map f (L.take k)))]) := by
 rw [List.map_take]
 exact q_sl_to hT ht hx hh hi' (by rw [List.length_map]; exact hk)
theorem q_sl_from_map {α : Type} {f : α → List C} {L : List α} {t : TypeId} {x lo : Operand} {e n k : Nat} {kk : IntKind} {i : Int} (hT : TTOk P TT) (ht : eSz TT t = some (e, n)) (hx : opv S.T x = some (.p false [.c (.s n (List.map f L))])) (hh : opv S.T lo = some (.p false [.c (.v (.int kk i))])) (hi' : i = (k : Int)) (hk : k ≤ L.length) :
  Quiet P X S (.slice t x (some lo) none none) (.p false [.c (.s n (List.map f (L.drop k)))]) := by
 rw [List.map_drop]
 exact q_sl_from hT ht hx hh hi' (by rw [List.length_map]; exact hk)
theorem ev_adopt {T : List (Nat × AV)} {B B' : List (Nat × Nat × List AC)} {R : RL} {M : List (Nat × (Int → Option Value))} {Q : Exit → Act → World → Prop} {c : Code} {b ty : Nat} {cs cs' : List AC} (o nm e n : Nat) (hb : lk B b = some (ty, cs)) (hn : nthO o cs = some (.c .nil)) (hp : putO o [.rt nm] cs = some cs') (hB : updB b cs' B = some B') (hf : freshR nm ⟨T, B, R, M⟩ = true)
  (h : Ev P X c Q ⟨T, B', (nm, e, n, []) :: R, M⟩) : Ev P X c Q ⟨T, B, R, M⟩ := by
 intro ρ a w hs
 have hs1 := hs.newroot (nm := nm) (ty := e) (n := n) (l := []) (u := .slice none 0 0) (xs := []) (F := []) OwS.nil (by simp) (by simp) hf
 obtain ⟨p, ty', l', q, hBe, rfl, hlk⟩ := updB_eq hB
 rw [hb] at hlk
 cases hlk
 refine h _ a w ⟨⟨hs1.hp.H, fun x hx => ?_, hs1.hp.R, hs1.hp.M, ?_, ?_⟩, hs1.T, hs1.df, hs1.sz, hs1.fr, ?_⟩
 ·have hx' : x = (b, ty, cs') ∨ x ∈ B := by
   rw [hBe]
   rcases List.mem_append.1 hx with hx | hx
   ·exact .inr (List.mem_append_left _ hx)
   ·rcases List.mem_cons.1 hx with hx | hx
    ·exact .inl hx
    ·exact .inr (List.mem_append_right _ (List.mem_cons_of_mem _ hx))
  rcases hx' with rfl | hx'
  ·obtain ⟨vs, h1, h2⟩ := hs1.hp.B _ (lk_mem hb)
   refine ⟨vs, h1, ?_⟩
   obtain ⟨rfl, hle⟩ := putO_eq hp
   obtain ⟨u, hu, hr⟩ := h2.get (nthO_eq hn)
   have hu0 : u = .slice none 0 0 := rd_nil hr
   subst hu0
   have hrt : RepC (ρ.setRoot nm (.slice none 0 0) [] []) (.rt nm) (.slice none 0 0) := ⟨by show _ = if nm = nm then Value.slice none 0 0 else _; rw [if_pos rfl], rfl⟩
   have hvs : vs = vs.take o ++ [.slice none 0 0] ++ vs.drop (o + 1) := by
    have hlt : o < vs.length := (List.getElem?_eq_some_iff.1 hu).1
    have he : vs[o] = .slice none 0 0 := (List.getElem?_eq_some_iff.1 hu).2
    rw [List.append_assoc, List.singleton_append, ← he, List.getElem_cons_drop, List.take_append_drop]
   rw [hvs]
   exact (L2.append (h2.take o) (show L2 _ [AC.rt nm] [_] from ⟨hrt, trivial⟩)).append (h2.drop (o + 1))
  ·exact hs1.hp.B x hx'
 ·have := hs1.hp.nd
  unfold feet at this ⊢
  rw [hBe] at this
  simpa using this
 ·intro k hk
  refine hs1.hp.dj k ?_
  unfold feet at hk ⊢
  rw [hBe]
  simpa using hk
 ·intro k hk
  refine hs1.ft k ?_
  unfold feet at hk ⊢
  rw [hBe]
  simpa using hk
theorem e_make0 {T : List (Nat × AV)} {B : List (Nat × Nat × List AC)} {R : RL} {M : List (Nat × (Int → Option Value))} {t d e n m : Nat} {x y : Operand} {k1 k2 : IntKind} {i j : Int} {inf : TI} (hT : TTOk P TT) (ht : eSz TT t = some (e, n)) (hi : lk TT e = some inf) (hby : lenBy TT e = true) (hx : opv T x = some (.p false [.c (.v (.int k1 i))])) (hy : opv T y = some (.p false [.c (.v (.int k2 j))]))
  (him : i = 0) (hjm : j = (m : Int)) (hb : m ≤ 1000000000) (hN : okD X d = true) (hf : freshR d ⟨T, B, R, M⟩ = true) : Eff P X ⟨T, B, R, M⟩ (some d) (.makeSlice t x y) ⟨(d, .p false [.rt d]) :: T, B, (d, e, n, []) :: R, M⟩ true := by
 intro ρ a w hs
 subst him; subst hjm
 have hex : a.eval x = .int k1 0 := rd_v (opv_rep hs hx).1
 have hey : a.eval y = .int k2 (m : Int) := rd_v (opv_rep hs hy).1
 obtain ⟨hu, i0, hi0, hin0⟩ := eSz_ok hT ht
 have hi' := hT e inf hi
 obtain ⟨ii, hinf, hsz1, hby1, hz⟩ := hi'.info
 have hin : inf.size = n := by
  obtain ⟨i2, h2, h3, _⟩ := hi0.info
  rw [hinf] at h2; cases h2
  rw [← hsz1, h3]; exact hin0
 have hbb : inf.bytes ≤ 100000 := by
  unfold lenBy at hby
  rw [hi] at hby
  exact Nat.le_of_ble_eq_true hby
 have hbytes : ii.bytes * m ≤ 281474976710656 := by
  rw [hby1]
  have := Nat.mul_le_mul hbb hb
  omega
 obtain ⟨w', hrun, h1, h2⟩ := run_make_own (P := P) w 0 t e ii _ n hu hinf hz (hsz1.trans hin) k1 k2 m hbytes (by simp only [maxLen]; omega) (Nat.zero_le _)
 have hbel : Below w.heap.size w w' := ⟨h2.os, h2.tape, h2.output, h2.size, fun k hk => h2.block k hk (by simp)⟩
 have ho : OwS w' e n [] (.slice (some ⟨w.heap.size, 0, none⟩) 0 m) [] [w.heap.size] := ⟨[], ⟨h1, by simp, trivial⟩, rfl⟩
 have hsim := (hs.next hbel).newroot (nm := d) ho (by simp) (fun b hb => by
  rw [List.mem_singleton.1 hb]
  refine ⟨fun hm => Nat.lt_irrefl _ (hs.hp.lt _ hm), ?_, .inr hs.fr.size⟩
  cases hH : ρ.H w.heap.size with
  | none => rfl
  | some o => exact absurd (heap_lt (hs.hp.H _ o hH)) (Nat.lt_irrefl _)) hf
 exact ⟨_, .value _, _, w', fun _ _ _ _ => by simp [execOp, hex, hey, hrun], .inl rfl, hsim.put hN (root_rep rfl), fun _ => hbel⟩
end
end Go.Proofs.YtahkjonokeifmaaGreat
