/- Structs of numbers compared; arrays; max; slices against nil; calls that hand their cells on. No program in it. -/
import Derived.Test.YtpbhcdgdabfhfaaGreatFeVE
import Derived.Laws.StructEq
namespace Go.Proofs.YtpbhcdgdabfhfaaGreat
open Go.ChangeShapes Go.WideShapes Go.ChangeAt Go.RowKit
set_option linter.unusedVariables false
section
variable {P : Program} {X : Cx} {S : St} {ρ : Rho} {a : Act} {w : World} {TT : List (Nat × TI)}
def intF (P : Program) : Nat → List Field → Bool
  | _, [] => true
  | j, f :: fs => (f.name != "_") && (decide (f.offset = j) && ((match P.underlying f.type with | some (.int .i64) => true | _ => false) && intF P (j + 1) fs))
/-- a struct of n numbers -/
def intS (P : Program) (x : Nat × Nat) : Bool :=
  match P.underlying x.1 with
  | some (.struct fs) => decide (fs.size = x.2) && (intF P 0 fs.toList && (!P.stoodInHeld x.1 && !P.eqGuardType P.depth x.1))
  | _ => false
theorem run_eqF (d : Nat) (xs ys : List Int) : ∀ (fs : List Field) (j : Nat), intF P j fs = true → xs.length = j + fs.length → ys.length = j + fs.length →
    (Op.eqFields (d + 1) (xs.map (Value.int .i64)).toArray (ys.map (Value.int .i64)).toArray fs).run P w = .ok (decide (xs.drop j = ys.drop j)) w
  | [], j, _, hx, hy => by
    rw [List.drop_eq_nil_of_le (by simp at hx; omega), List.drop_eq_nil_of_le (by simp at hy; omega)]
    simp [Op.eqFields]
  | f :: fs, j, h, hx, hy => by
    simp only [intF, Bool.and_eq_true, decide_eq_true_eq, bne_iff_ne, ne_eq] at h
    obtain ⟨h1, rfl, h3, h4⟩ := h
    have hu : P.underlying f.type = some (.int .i64) := by
      split at h3
      · assumption
      · cases h3
    have hag : (isAgg f.type).run P w = .ok false w := by unfold Go.isAgg; rw [Sem.run_bind, run_underlying hu]; rfl
    have hxl : f.offset < xs.length := by simp at hx; omega
    have hyl : f.offset < ys.length := by simp at hy; omega
    have hpx : (part f.type (xs.map (Value.int .i64)).toArray f.offset).run P w = .ok (.int .i64 xs[f.offset]) w := by
      unfold part; simp [hag, hxl]
    have hpy : (part f.type (ys.map (Value.int .i64)).toArray f.offset).run P w = .ok (.int .i64 ys[f.offset]) w := by
      unfold part; simp [hag, hyl]
    have he : (Op.equalIn (d + 1) f.type (.int .i64 xs[f.offset]) (.int .i64 ys[f.offset])).run P w = .ok (xs[f.offset] == ys[f.offset]) w := by
      simp [Op.equalIn, run_underlying hu]
    have ih := run_eqF d xs ys fs (f.offset + 1) h4 (by simp at hx; omega) (by simp at hy; omega)
    unfold Op.eqFields
    rw [if_pos h1]
    simp only [Sem.run_bind, hpx, hpy, he, Result.andThen_ok]
    rw [List.drop_eq_getElem_cons hxl, List.drop_eq_getElem_cons hyl]
    by_cases hxy : xs[f.offset] = ys[f.offset]
    · simp only [hxy, beq_self_eq_true, Bool.not_true, Bool.false_eq_true, if_false, ih, List.cons.injEq, true_and]
    · have h9 : (xs[f.offset] == ys[f.offset]) = false := by simpa using hxy
      have h8 : decide (xs[f.offset] :: xs.drop (f.offset + 1) = ys[f.offset] :: ys.drop (f.offset + 1)) = false := decide_eq_false fun h => hxy (List.cons.inj h).1
      rw [h8]
      simp [h9]
theorem run_eqS {T n : Nat} {xs ys : List Int} (h : intS P (T, n) = true) (hx : xs.length = n) (hy : ys.length = n) : (Op.equal T (.agg (xs.map (Value.int .i64)).toArray) (.agg (ys.map (Value.int .i64)).toArray)).run P w = .ok (decide (xs = ys)) w := by
  unfold intS at h
  split at h
  · rename_i fs hu
    simp only [Bool.and_eq_true, decide_eq_true_eq, Bool.not_eq_true'] at h
    obtain ⟨h1, h2, h3, _⟩ := h
    have hf : P.fieldsOf T = fs := by simp [Program.fieldsOf, hu]
    have := run_equalIn_struct (P := P) (w := w) 9999 T (xs.map (Value.int .i64)).toArray (ys.map (Value.int .i64)).toArray (by rw [hf]; exact hu) h3
    have h9 := run_eqF (P := P) (w := w) 9998 xs ys fs.toList 0 h2 (by simp; omega) (by simp; omega)
    rw [hf] at this
    unfold Op.equal
    rw [show Op.maxDepth = 9999 + 1 from rfl, this, h9]
    simp
  · cases h
/-- cells that are numbers -/
def numsO : List AC → Option (List Int)
  | [] => some []
  | .c (.v (.int .i64 x)) :: r => match numsO r with
    | some l => some (x :: l)
    | none => none
  | _ :: _ => none
theorem numsO_rep : ∀ {l : List AC} {xs : List Int} {us : List Value}, numsO l = some xs → L2 (RepC ρ) l us → us = xs.map (Value.int .i64)
  | [], xs, us, h, hu => by cases h; match us, hu with | [], _ => rfl
  | y :: l, xs, us, h, hu => by
    match us, hu with
    | u :: us, hu =>
      unfold numsO at h
      split at h
      · cases ‹_ :: _ = []›
      · rename_i x r e
        cases e
        split at h
        · rename_i xs' hr
          cases h
          rw [numsO_rep hr hu.2, rd_v hu.1]; rfl
        · cases h
      · cases h
def eqO (xs ys : List Int) : BinOp → Option Bool
  | .eql => some (decide (xs = ys))
  | .neq => some (decide (xs ≠ ys))
  | _ => none
theorem qw_eqS {op : BinOp} {t yt n : TypeId} {x y : Operand} {l m : List AC} {xs ys : List Int} {b : Bool} (hI : intS P (t, n) = true) (hx : opv S.T x = some (.p true l)) (hy : opv S.T y = some (.p true m)) (h1 : numsO l = some xs) (h2 : numsO m = some ys) (hl1 : lenB xs n = true) (hl2 : lenB ys n = true)
    (hb : eqO xs ys op = some b) : QuietW P X S (.binOp op t x y yt) (.p false [.c (.v (.bool b))]) := by
  refine fun ρ a w hs => ⟨.bool b, ⟨⟨0, rfl, rfl⟩, trivial⟩, fun _ _ _ _ _ w' => ?_⟩
  obtain ⟨us, hp, hu⟩ := opv_rep hs hx
  obtain ⟨vs, hq, hv⟩ := opv_rep hs hy
  rw [numsO_rep h1 hu] at hp
  rw [numsO_rep h2 hv] at hq
  have hr := run_eqS (w := w') hI (lenB_eq hl1) (lenB_eq hl2)
  have hI' := hI
  have hg : (eqGuard op t x y (a.eval x) (a.eval y)).run P w' = .ok () w' := by
    unfold intS at hI
    split at hI
    · simp only [Bool.and_eq_true, Bool.not_eq_true'] at hI
      rw [hp, hq]
      unfold eqGuard
      cases op <;> first | (cases hb; done) | simp [hI.2.2.2]
    · cases hI
  rw [hp, hq] at hg
  cases op <;> first | (cases hb; done) | skip
  · cases hb
    simp [execOp, hp, hq, hg, binOp, hr]
  · cases hb
    simp [execOp, hp, hq, hg, binOp, hr]
theorem q_eqS {op : BinOp} {t yt n : TypeId} {x y : Operand} {l m : List AC} {xs ys : List Int} {b : Bool} (hI : intS P (t, n) = true) (hx : opv S.T x = some (.p true l)) (hy : opv S.T y = some (.p true m)) (h1 : numsO l = some xs) (h2 : numsO m = some ys) (hl1 : lenB xs n = true) (hl2 : lenB ys n = true)
    (hb : eqO xs ys op = some b) : Quiet P X S (.binOp op t x y yt) (.p false [.c (.v (.bool b))]) := (qw_eqS hI hx hy h1 h2 hl1 hl2 hb).q
/-- the greater of two -/
theorem qw_max {ats : Array TypeId} {x y : Operand} {m n : Int} (hx : opv S.T x = some (.p false [.c (.v (.int .i64 m))])) (hy : opv S.T y = some (.p false [.c (.v (.int .i64 n))])) : QuietW P X S (.call ⟨.builtin .max, #[x, y], ats⟩) (.p false [.c (.v (.int .i64 (max m n)))]) := by
  refine fun ρ a w hs => ⟨.int .i64 (max m n), ⟨⟨0, rfl, rfl⟩, trivial⟩, fun _ _ _ _ _ w' => ?_⟩
  have hp : a.eval x = .int .i64 m := rd_v (opv_rep hs hx).1
  have hq : a.eval y = .int .i64 n := rd_v (opv_rep hs hy).1
  have e : max m n = if n > m then n else m := by
    split <;> omega
  rw [e]
  simp [execOp, resolve, invoke, builtin, Builtin.max_, Builtin.max2, hp, hq]
theorem q_max {ats : Array TypeId} {x y : Operand} {m n : Int} (hx : opv S.T x = some (.p false [.c (.v (.int .i64 m))])) (hy : opv S.T y = some (.p false [.c (.v (.int .i64 n))])) : Quiet P X S (.call ⟨.builtin .max, #[x, y], ats⟩) (.p false [.c (.v (.int .i64 (max m n)))]) := (qw_max hx hy).q
theorem q_sl_to_map {α : Type} {f : α → List C} {L : List α} {t : TypeId} {x hi : Operand} {e m n k : Nat} {kk : IntKind} {i : Int} (hT : TTOk P TT) (ht : eSz TT t = some (e, m)) (hx : opv S.T x = some (.p false [.c (.s n (List.map f L))])) (hh : opv S.T hi = some (.p false [.c (.v (.int kk i))])) (hi' : i = (k : Int)) (hk : k ≤ L.length) :
    Quiet P X S (.slice t x none (some hi) none) (.p false [.c (.s n (List.map f (L.take k)))]) := by
  rw [List.map_take]
  exact q_sl_to hT ht hx hh hi' (by rw [List.length_map]; exact hk)
end
end Go.Proofs.YtpbhcdgdabfhfaaGreat
