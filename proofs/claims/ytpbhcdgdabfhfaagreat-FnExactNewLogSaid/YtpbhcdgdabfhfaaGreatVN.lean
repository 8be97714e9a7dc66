/- Structs compared whose fields are numbers or structs of numbers; calls through function values. No program in it. -/
import Derived.Test.YtpbhcdgdabfhfaaGreatVG
namespace Go.Proofs.YtpbhcdgdabfhfaaGreat
open Go.ChangeShapes Go.WideShapes Go.ChangeAt Go.RowKit
set_option linter.unusedVariables false
section
variable {P : Program} {X : Cx} {S : St} {ρ : Rho} {a : Act} {w : World} {TT : List (Nat × TI)}
def intG (P : Program) (n : Nat) : Nat → List Field → Bool
  | j, [] => decide (j = n)
  | j, f :: fs => (f.name != "_") && (decide (f.offset = j) && (match P.underlying f.type with
    | some (.int .i64) => intG P n (j + 1) fs
    | some (.struct gs) => intS P (f.type, gs.size) && (sizB P f.type gs.size && intG P n (j + gs.size) fs)
    | _ => false))
def intT (P : Program) (x : Nat × Nat) : Bool :=
  match P.underlying x.1 with
  | some (.struct fs) => intG P x.2 0 fs.toList && (!P.stoodInHeld x.1 && !P.eqGuardType P.depth x.1)
  | _ => false
theorem ext_map (xs : List Int) (o k : Nat) : (xs.map (Value.int .i64)).toArray.extract o (o + k) = (((xs.drop o).take k).map (Value.int .i64)).toArray := by
  apply Array.ext'
  rw [Array.toList_extract]
  simp only [List.extract, List.map_take, List.map_drop]
  rw [show o + k - o = k by omega]
theorem drop_split {xs ys : List Int} {o k : Nat} (h : ((xs.drop o).take k = (ys.drop o).take k) = True) : (xs.drop (o + k) = ys.drop (o + k)) = (xs.drop o = ys.drop o) := by
  have h' := of_eq_true h
  apply propext
  constructor
  · intro h2
    rw [← List.take_append_drop k (xs.drop o), ← List.take_append_drop k (ys.drop o), h', List.drop_drop, List.drop_drop, h2]
  · intro h2
    rw [← List.drop_drop, ← List.drop_drop, h2]
theorem run_eqG (d n : Nat) (xs ys : List Int) (hx : xs.length = n) (hy : ys.length = n) : ∀ (fs : List Field) (j : Nat), intG P n j fs = true →
    j ≤ n ∧ (Op.eqFields (d + 2) (xs.map (Value.int .i64)).toArray (ys.map (Value.int .i64)).toArray fs).run P w = .ok (decide (xs.drop j = ys.drop j)) w
  | [], j, h => by
    have h : j = n := of_decide_eq_true h
    subst h
    rw [List.drop_eq_nil_of_le (by omega), List.drop_eq_nil_of_le (by omega)]
    simp [Op.eqFields]
  | f :: fs, j, h => by
    unfold intG at h
    rw [Bool.and_eq_true, Bool.and_eq_true] at h
    obtain ⟨h1, h2, h3⟩ := h
    have h1 : f.name ≠ "_" := by simpa using h1
    have h2 : f.offset = j := of_decide_eq_true h2
    subst h2
    split at h3
    · rename_i hu
      obtain ⟨hle, ih⟩ := run_eqG d n xs ys hx hy fs (f.offset + 1) h3
      refine ⟨by omega, ?_⟩
      have hag : (isAgg f.type).run P w = .ok false w := by unfold Go.isAgg; rw [Sem.run_bind, run_underlying hu]; rfl
      have hxl : f.offset < xs.length := by omega
      have hyl : f.offset < ys.length := by omega
      have hpx : (part f.type (xs.map (Value.int .i64)).toArray f.offset).run P w = .ok (.int .i64 xs[f.offset]) w := by
        unfold part; simp [hag, hxl]
      have hpy : (part f.type (ys.map (Value.int .i64)).toArray f.offset).run P w = .ok (.int .i64 ys[f.offset]) w := by
        unfold part; simp [hag, hyl]
      have he : (Op.equalIn (d + 2) f.type (.int .i64 xs[f.offset]) (.int .i64 ys[f.offset])).run P w = .ok (xs[f.offset] == ys[f.offset]) w := by
        simp [Op.equalIn, run_underlying hu]
      unfold Op.eqFields
      rw [if_pos h1]
      simp only [Sem.run_bind, hpx, hpy, he, Result.andThen_ok]
      rw [List.drop_eq_getElem_cons hxl, List.drop_eq_getElem_cons hyl]
      by_cases hxy : xs[f.offset] = ys[f.offset]
      · simp only [hxy, beq_self_eq_true, Bool.not_true, Bool.false_eq_true, if_false, ih, List.cons.injEq, true_and]
      · have h9 : (xs[f.offset] == ys[f.offset]) = false := by simpa using hxy
        have h8 : decide (xs[f.offset] :: xs.drop (f.offset + 1) = ys[f.offset] :: ys.drop (f.offset + 1)) = false := decide_eq_false fun h => hxy (List.cons.inj h).1
        rw [h8]
        simp [h9]
    · rename_i gs hu
      rw [Bool.and_eq_true, Bool.and_eq_true] at h3
      obtain ⟨h4, h5, h6⟩ := h3
      obtain ⟨hle, ih⟩ := run_eqG d n xs ys hx hy fs (f.offset + gs.size) h6
      refine ⟨by omega, ?_⟩
      have hag : (isAgg f.type).run P w = .ok true w := by unfold Go.isAgg; rw [Sem.run_bind, run_underlying hu]; rfl
      have hsz : (Go.sizeOf f.type).run P w = .ok gs.size w := by
        unfold sizB at h5
        split at h5
        · rename_i i hi
          simp [Go.sizeOf, typeInfo, hi, of_decide_eq_true h5]
        · cases h5
      have hpx : (part f.type (xs.map (Value.int .i64)).toArray f.offset).run P w = .ok (.agg (((xs.drop f.offset).take gs.size).map (Value.int .i64)).toArray) w := by
        unfold part
        simp only [Sem.run_bind, hag, Result.andThen_ok, if_true, hsz, Sem.run_pure, ext_map]
      have hpy : (part f.type (ys.map (Value.int .i64)).toArray f.offset).run P w = .ok (.agg (((ys.drop f.offset).take gs.size).map (Value.int .i64)).toArray) w := by
        unfold part
        simp only [Sem.run_bind, hag, Result.andThen_ok, if_true, hsz, Sem.run_pure, ext_map]
      generalize hA : (xs.drop f.offset).take gs.size = A at hpx
      generalize hB : (ys.drop f.offset).take gs.size = B at hpy
      have hAl : A.length = gs.size := by rw [← hA, List.length_take, List.length_drop]; omega
      have hBl : B.length = gs.size := by rw [← hB, List.length_take, List.length_drop]; omega
      have he : (Op.equalIn (d + 2) f.type (.agg (A.map (Value.int .i64)).toArray) (.agg (B.map (Value.int .i64)).toArray)).run P w = .ok (decide (A = B)) w := by
        unfold intS at h4
        rw [hu] at h4
        simp only [Bool.and_eq_true, decide_eq_true_eq, Bool.not_eq_true'] at h4
        obtain ⟨_, k2, k3, _⟩ := h4
        have hf : P.fieldsOf f.type = gs := by simp [Program.fieldsOf, hu]
        have e1 := run_equalIn_struct (P := P) (w := w) (d + 1) f.type (A.map (Value.int .i64)).toArray (B.map (Value.int .i64)).toArray (by rw [hf]; exact hu) k3
        have e2 := run_eqF (P := P) (w := w) d A B gs.toList 0 k2 (by simp; omega) (by simp; omega)
        rw [hf, e2] at e1
        simpa using e1
      unfold Op.eqFields
      rw [if_pos h1]
      simp only [Sem.run_bind, hpx, hpy, he, Result.andThen_ok]
      by_cases hAB : A = B
      · have e3 := drop_split (xs := xs) (ys := ys) (o := f.offset) (k := gs.size) (by rw [hA, hB]; exact eq_true hAB)
        have e4 : decide (xs.drop (f.offset + gs.size) = ys.drop (f.offset + gs.size)) = decide (xs.drop f.offset = ys.drop f.offset) := by simp only [e3]
        simp only [hAB, decide_true, Bool.not_true, Bool.false_eq_true, if_false, ih, e4]
      · have h8 : decide (xs.drop f.offset = ys.drop f.offset) = false := decide_eq_false fun h => hAB (by rw [← hA, ← hB, h])
        rw [h8]
        simp [hAB]
    · cases h3
theorem run_eqT {T n : Nat} {xs ys : List Int} (h : intT P (T, n) = true) (hx : xs.length = n) (hy : ys.length = n) : (Op.equal T (.agg (xs.map (Value.int .i64)).toArray) (.agg (ys.map (Value.int .i64)).toArray)).run P w = .ok (decide (xs = ys)) w := by
  unfold intT at h
  split at h
  · rename_i fs hu
    simp only [Bool.and_eq_true, Bool.not_eq_true'] at h
    obtain ⟨h2, h3, _⟩ := h
    have hf : P.fieldsOf T = fs := by simp [Program.fieldsOf, hu]
    have := run_equalIn_struct (P := P) (w := w) 9999 T (xs.map (Value.int .i64)).toArray (ys.map (Value.int .i64)).toArray (by rw [hf]; exact hu) h3
    have h9 := (run_eqG (P := P) (w := w) 9997 n xs ys hx hy fs.toList 0 h2).2
    rw [hf] at this
    unfold Op.equal
    rw [show Op.maxDepth = 9999 + 1 from rfl, this, h9]
    simp
  · cases h
theorem qw_eqT {op : BinOp} {t yt n : TypeId} {x y : Operand} {l m : List AC} {xs ys : List Int} {b : Bool} (hI : intT P (t, n) = true) (hx : opv S.T x = some (.p true l)) (hy : opv S.T y = some (.p true m)) (h1 : numsO l = some xs) (h2 : numsO m = some ys) (hl1 : lenB xs n = true) (hl2 : lenB ys n = true)
    (hb : eqO xs ys op = some b) : QuietW P X S (.binOp op t x y yt) (.p false [.c (.v (.bool b))]) := by
  refine fun ρ a w hs => ⟨.bool b, ⟨⟨0, rfl, rfl⟩, trivial⟩, fun _ _ _ _ _ w' => ?_⟩
  obtain ⟨us, hp, hu⟩ := opv_rep hs hx
  obtain ⟨vs, hq, hv⟩ := opv_rep hs hy
  rw [numsO_rep h1 hu] at hp
  rw [numsO_rep h2 hv] at hq
  have hr := run_eqT (w := w') hI (lenB_eq hl1) (lenB_eq hl2)
  have hg : (eqGuard op t x y (a.eval x) (a.eval y)).run P w' = .ok () w' := by
    unfold intT at hI
    split at hI
    · simp only [Bool.and_eq_true, Bool.not_eq_true'] at hI
      rw [hp, hq]
      unfold eqGuard
      cases op <;> first | (cases hb; done) | simp [hI.2.2]
    · cases hI
  rw [hp, hq] at hg
  cases op <;> first | (cases hb; done) | skip
  · cases hb
    simp [execOp, hp, hq, hg, binOp, hr]
  · cases hb
    simp [execOp, hp, hq, hg, binOp, hr]
theorem q_eqT {op : BinOp} {t yt n : TypeId} {x y : Operand} {l m : List AC} {xs ys : List Int} {b : Bool} (hI : intT P (t, n) = true) (hx : opv S.T x = some (.p true l)) (hy : opv S.T y = some (.p true m)) (h1 : numsO l = some xs) (h2 : numsO m = some ys) (hl1 : lenB xs n = true) (hl2 : lenB ys n = true)
    (hb : eqO xs ys op = some b) : Quiet P X S (.binOp op t x y yt) (.p false [.c (.v (.bool b))]) := (qw_eqT hI hx hy h1 h2 hl1 hl2 hb).q
end
end Go.Proofs.YtpbhcdgdabfhfaaGreat
