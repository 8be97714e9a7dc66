/- An array in a box whose cells are slices: taken as a slice of one's own, so that its cells may be named by a number that is only known as a letter. No program in it. -/
import Derived.Test.YtphaggopgdbojaaGreatReVP
import Derived.Test.YtphaggopgdbojaaGreatReVE
import Derived.Test.YtphaggopgdbojaaGreatReVZ
namespace Go.Proofs.YtphaggopgdbojaaGreat
open Go.ChangeShapes Go.WideShapes Go.ChangeAt Go.RowKit
set_option linter.unusedVariables false
section
variable {P : Program} {X : Cx} {S : St} {ρ : Rho} {a : Act} {w : World} {TT : List (Nat × TI)}
theorem all3_nils : ∀ {m : Nat} {vs : List Value}, L2 (RepC ρ) (List.replicate m (.c .nil)) vs → All3 (OwX w) (List.replicate m C.nil) vs (List.replicate m [])
  | 0, [], _ => trivial
  | 0, _ :: _, h => h.elim
  | m + 1, [], h => h.elim
  | m + 1, v :: vs, h => ⟨⟨0, rd_nil h.1, rfl⟩, all3_nils h.2⟩
theorem flat_ones {α : Type} {x : α} : ∀ m, (List.replicate m [x]).flatten = List.replicate m x
  | 0 => rfl
  | m + 1 => by rw [List.replicate_succ, List.flatten_cons, flat_ones m, List.replicate_succ]; rfl
theorem flat_nils : ∀ m, (List.replicate m ([] : List Nat)).flatten = []
  | 0 => rfl
  | m + 1 => by rw [List.replicate_succ, List.flatten_cons, flat_nils m]; rfl
/-- the box b of m nil slices becomes a slice of one's own, its address in slot t the address of its first element -/
theorem ev_arr {Q : Exit → Act → World → Prop} {c : Code} {T : List (Nat × AV)} {B B' : List (Nat × Nat × List AC)} {R : RL} {M : List (Nat × (Int → Option Value))} {b ty : Nat} {cs : List AC} (t nm m : Nat) (hb : lk B b = some (ty, cs)) (hcs : cs = List.replicate m (.c .nil)) (ht : lk T t = some (.p false [.pb b 0])) (hB : remB [b] B = some B') (hm : m ≤ maxLen) (hm0 : 0 < m) (hf : freshR nm ⟨T, B', R, M⟩ = true)
    (h : Ev P X c Q ⟨(t, .p false [.pr nm 1 0 0]) :: T, B', (nm, ty, 1, List.replicate m [.nil]) :: R, M⟩) : Ev P X c Q ⟨T, B, R, M⟩ := by
  intro ρ a w hs
  subst hcs
  obtain ⟨vs, e1, r1⟩ := hs.hp.B _ (lk_mem hb)
  simp only at e1 r1
  have hvl : vs.length = m := by rw [r1.len, List.length_replicate]
  have hsub := remB_sub hB
  have hfe : (feet ρ ⟨T, B', R, M⟩).Sublist (feet ρ ⟨T, B, R, M⟩) := by
    unfold feet
    exact (hsub.map _).append (List.Sublist.refl _)
  have hs0 : Sim X ρ ⟨T, B', R, M⟩ a w := ⟨⟨hs.hp.H, fun x hx => hs.hp.B x (hsub.subset hx), hs.hp.R, hs.hp.M, hfe.nodup hs.hp.nd, fun b hb => hs.hp.dj b (hfe.subset hb)⟩, hs.T, hs.df, hs.sz, hs.fr, fun b hb => hs.ft b (hfe.subset hb)⟩
  have hbf : ρ.box b ∈ feet ρ ⟨T, B, R, M⟩ := List.mem_append_left _ (List.mem_map.2 ⟨_, lk_mem hb, rfl⟩)
  have hno : ρ.box b ∉ feet ρ ⟨T, B', R, M⟩ := by
    intro hm9
    have hnd := hs.hp.nd
    unfold feet at hnd hm9
    obtain ⟨n1, _, n3⟩ := List.nodup_append.1 hnd
    rcases List.mem_append.1 hm9 with h9 | h9
    · obtain ⟨x, hx, e⟩ := List.mem_map.1 h9
      have h8 := map_inj n1 _ (hsub.subset hx) _ (lk_mem hb) e
      have key : ∀ {B B' : List (Nat × Nat × List AC)}, remB [b] B = some B' → ∀ x ∈ B', x.1 ≠ b := by
        intro B
        induction B with
        | nil => intro B' h x hx; cases h; simp at hx
        | cons y r ih =>
          obtain ⟨k, y⟩ := y
          intro B' h x hx
          unfold remB at h
          split at h
          · exact ih h x hx
          · rename_i hk
            split at h
            · rename_i r' hr
              cases h
              rcases List.mem_cons.1 hx with rfl | hx
              · intro e; subst e; simp at hk
              · exact ih hr x hx
            · cases h
      exact key hB x hx (congrArg (fun z => z.1) h8)
    · exact n3 _ (List.mem_map.2 ⟨_, lk_mem hb, rfl⟩) _ h9 rfl
  have ho : OwS w ty 1 (List.replicate m [.nil]) (.slice (some ⟨ρ.box b, 0, none⟩) m m) vs [ρ.box b] := by
    refine ⟨List.replicate m [], ⟨⟨by rw [List.length_replicate]; omega, .inr ⟨ρ.box b, m, vs.toArray, by rw [List.length_replicate], Nat.zero_le _, e1, by rw [List.length_replicate]; exact Nat.le_refl _, hm, by simp; omega, ?_⟩⟩, fun cs hcs => ?_, ?_⟩, ?_⟩
    · rw [List.length_replicate]
      show vs.take (m * 1) = vs
      exact List.take_of_length_le (by omega)
    · rw [List.eq_of_mem_replicate hcs]; rfl
    · rw [flat_ones]; exact all3_nils r1
    · rw [flat_nils]; rfl
  have hs1 := hs0.newroot (nm := nm) ho (by simp) (fun g hg => by
    rw [List.mem_singleton.1 hg]
    exact ⟨hno, hs.hp.dj _ hbf, hs.ft _ hbf⟩) hf
  refine h _ a w ⟨⟨hs1.hp.H, hs1.hp.B, hs1.hp.R, hs1.hp.M, hs1.hp.nd, hs1.hp.dj⟩, fun k av hk => ?_, hs1.df, hs1.sz, hs1.fr, hs1.ft⟩
  have hk' : (if t = k then some (AV.p false [.pr nm 1 0 0]) else lk T k) = some av := hk
  by_cases e : t = k
  · rw [if_pos e] at hk'
    cases hk'
    obtain ⟨v, h1, h2⟩ := hs.T _ _ ht
    have hv : v = .pointer (some ⟨ρ.box b, 0, none⟩) := h2.1
    subst hv
    refine ⟨_, by rw [← e]; exact h1, ⟨⟨ρ.box b, ?_, rfl⟩, trivial⟩⟩
    show Value.ownBlock (if nm = nm then Value.slice (some ⟨ρ.box b, 0, none⟩) m m else _) = _
    rw [if_pos rfl]; rfl
  · rw [if_neg e] at hk'
    exact hs1.T k av hk'
/-- the address of an element of such an array -/
theorem qw_ix_arrp {t : TypeId} {x ix : Operand} {i : Int} {k : IntKind} {s b len e r : Nat} {z : List C} {g : Bool} (m : Nat) (hT : TTOk P TT) (ht : lk TT t = some ⟨s, b, z, .ar len e 1 g⟩) (hx : opv S.T x = some (.p false [.pr r 1 0 0])) (hi : opv S.T ix = some (.p false [.c (.v (.int k i))])) (him : i = (m : Int)) (hm : m < len) : QuietW P X S (.indexAddr t x ix) (.p false [.pr r 1 m 0]) := by
  intro ρ a w hs
  subst him
  have hq : a.eval ix = .int k (m : Int) := rd_v (opv_rep hs hi).1
  obtain ⟨hu, hsz, h3, _, _⟩ := arr_ok hT ht
  obtain ⟨g9, hg9, hp⟩ := (opv_rep hs hx).1
  refine ⟨.pointer (some ⟨g9, m * 1 + 0, none⟩), ⟨⟨g9, hg9, rfl⟩, trivial⟩, fun _ _ _ _ _ w' => ?_⟩
  have h5 := h3 w'
  simp [execOp, Instr.indexAt, hp, hq, asIntOf, run_underlying hu, hm, h5, addr_add, Instr.sureAddr]
theorem q_ix_arrp {t : TypeId} {x ix : Operand} {i : Int} {k : IntKind} {s b len e r : Nat} {z : List C} {g : Bool} (m : Nat) (hT : TTOk P TT) (ht : lk TT t = some ⟨s, b, z, .ar len e 1 g⟩) (hx : opv S.T x = some (.p false [.pr r 1 0 0])) (hi : opv S.T ix = some (.p false [.c (.v (.int k i))])) (him : i = (m : Int)) (hm : m < len) : Quiet P X S (.indexAddr t x ix) (.p false [.pr r 1 m 0]) := (qw_ix_arrp m hT ht hx hi him hm).q
def subsF (r : Nat) : Nat → Nat → List AC
  | _, 0 => []
  | k, m + 1 => .sub r 1 k 0 :: subsF r (k + 1) m
theorem subsF_get {r : Nat} : ∀ {m k j : Nat}, j < m → (subsF r k m)[j]? = some (.sub r 1 (k + j) 0)
  | 0, _, _, h => by omega
  | m + 1, k, 0, _ => rfl
  | m + 1, k, j + 1, h => by
    show (subsF r (k + 1) m)[j]? = _
    rw [subsF_get (by omega)]
    simp only [Option.some.injEq, AC.sub.injEq, true_and, and_true]
    omega
/-- the whole array -/
theorem q_load_arrp {t : TypeId} {x : Operand} {r ty : Nat} {rows : List (List C)} {i : TI} {m : Nat} (hT : TTOk P TT) (hi : lk TT t = some i) (hx : opv S.T x = some (.p false [.pr r 1 0 0])) (hr : lk S.R r = some (ty, 1, rows)) (hl : rows.length = m) (hm : i.size = m) (hg : i.sh.agg = true) : Quiet P X S (.load t x) (.p true (subsF r 0 m)) := by
  intro ρ a w hs
  have ht := hT t i hi
  obtain ⟨g, hg9, hp⟩ := (opv_rep hs hx).1
  obtain ⟨Fs, ⟨h1, h2, h3⟩, h4⟩ := hs.hp.R _ (lk_mem hr)
  have hone := All3.ones h3
  have hxl : (ρ.rows r).length = m := by have h9 : (ρ.rows r).length = rows.length * 1 := h1.1; omega
  have hcell := h1.cells hg9
  have hrep : ∀ (us : List Value) (k : Nat), (∀ j u, us[j]? = some u → (ρ.rows r)[k + j]? = some u) → L2 (RepC ρ) (subsF r k us.length) us := by
    intro us
    induction us with
    | nil => intro k _; trivial
    | cons u us ih =>
      intro k h
      have h0 := h 0 u rfl
      refine ⟨⟨by rw [show k * 1 + 0 = k + 0 by omega]; exact h0, hone u (List.mem_of_getElem? h0)⟩, ih (k + 1) fun j v hj => ?_⟩
      rw [show k + 1 + j = k + (j + 1) by omega]
      exact h (j + 1) v (by simpa using hj)
  have hR := hrep (ρ.rows r) 0 (fun j u hj => by rw [Nat.zero_add]; exact hj)
  rw [hxl] at hR
  refine ⟨.agg (ρ.rows r).toArray, ⟨ρ.rows r, rfl, hR⟩, fun d ty' pos af g' w' hw => ?_⟩
  have hgl := (h1.lt g hg9).2
  have hc : ∀ (j : Nat) (u : Value), (ρ.rows r)[j]? = some u → w'.cell? ⟨g, 0 * 1 + 0 + j, none⟩ = some u := fun j u hj => by
    rw [hw.cell (p := ⟨g, 0 * 1 + 0 + j, none⟩) hgl]
    have := hcell _ u hj
    rw [addr_add] at this
    exact this
  have := run_load_cells (w := w') ht hc (by omega)
  rw [hg] at this
  have e : mkV true (ρ.rows r) = .agg (ρ.rows r).toArray := rfl
  rw [e] at this
  simp [execOp, hp, this]
/-- an element of the whole array -/
theorem q_index_sub {t : TypeId} {x ix : Operand} {i : Int} {k : IntKind} {s b len e r n : Nat} {z : List C} (m : Nat) (hT : TTOk P TT) (ht : lk TT t = some ⟨s, b, z, .ar len e 1 false⟩) (hx : opv S.T x = some (.p true (subsF r 0 n))) (hi : opv S.T ix = some (.p false [.c (.v (.int k i))])) (him : i = (m : Int)) (hn : n = len) (hm : m < len) : Quiet P X S (.index t x ix) (.p false [.sub r 1 m 0]) := by
  refine QuietW.q fun ρ a w hs => ?_
  subst him
  have hq : a.eval ix = .int k (m : Int) := rd_v (opv_rep hs hi).1
  obtain ⟨hu, hsz, h3, h4, h5⟩ := arr_ok hT ht
  obtain ⟨vs, hp, hr2⟩ := opv_rep hs hx
  obtain ⟨u, hu1, hu2⟩ := hr2.get (subsF_get (r := r) (m := n) (k := 0) (j := m) (by omega))
  rw [Nat.zero_add] at hu2
  refine ⟨u, ⟨hu2, trivial⟩, fun d ty pos af gg w' => ?_⟩
  have hpart : (part e vs.toArray (m * 1)).run P w' = .ok u w' := by
    unfold part
    simp only [Sem.run_bind, h4, Result.andThen_ok, Nat.mul_one]
    have : vs.getD m undef = u := by rw [List.getD_eq_getElem?_getD, hu1]; rfl
    simp [hu1]
  rw [Nat.mul_one] at hpart
  simp [execOp, Instr.index, hp, hq, asIntOf, run_underlying hu, hm, h3 w', hpart]
theorem rs_c3 {S : St} {x y z : Operand} {l : List AC} {l' : List C} {c zz : C} {r n k j ty : Nat} {rows : List (List C)} {cs : List C} (hx : opv S.T x = some (.p true l)) (hl : rsL S.R l = some l') (hy : opv S.T y = some (.p false [.c c])) (hz : opv S.T z = some (.p false [.sub r n k j])) (hr : lk S.R r = some (ty, n, rows)) (hk : rows[k]? = some cs) (hj : cs[j]? = some zz) : RsA S [x, y, z] [(true, l'), (false, [c]), (false, [zz])] :=
  ⟨⟨l, hx, rsL_ok hl⟩, ⟨_, hy, rfl, trivial⟩, ⟨_, hz, ⟨ty, rows, cs, hr, hk, hj⟩, trivial⟩, trivial⟩
variable {Q : Act → World → Prop} {ops : Array Oper} {fuel : Nat} {listed : Array Bool}
theorem rdh_3 (i j k : Nat) (hr : Region.ready .any ops listed = [i, j, k]) (h1 : RDho P X ops fuel listed i S Q) (h2 : RDho P X ops fuel listed j S Q) (h3 : RDho P X ops fuel listed k S Q) : RDh P X ops (fuel + 1) listed S Q :=
  fun ρ a w hs => ⟨fun h0 => absurd h0 (by rw [hr]; simp), fun q hq => by
    rw [hr] at hq
    rcases List.mem_cons.1 hq with rfl | hq
    · exact h1 ρ a w hs
    · rcases List.mem_cons.1 hq with rfl | hq
      · exact h2 ρ a w hs
      · obtain rfl := List.mem_singleton.1 hq
        exact h3 ρ a w hs⟩
end
end Go.Proofs.YtphaggopgdbojaaGreat
