/- More operations that read only: fields, tests, sums, elements, lengths, parts of slices. No program in it. -/
import Derived.Test.YtphaggopgdbojaaGreatReV3
import Derived.IntWalk
import Derived.WalkLawsBesides
import Derived.WalkSpells
namespace Go.Proofs.YtphaggopgdbojaaGreat
open Go.ChangeShapes Go.WideShapes Go.ChangeAt Go.RowKit
set_option linter.unusedVariables false
section
variable {P : Program} {X : Cx} {S : St} {TT : List (Nat × TI)}
/-- what gives its value without a look at the world -/
theorem quiet_of {op : Op} {av : AV} (h : ∀ ρ a w, Sim X ρ S a w → ∃ v, RepV ρ av v ∧ ∀ (d : Option Tmp) (ty : TypeId) (pos : String) (af : Array Edge) (g : Option (Nat × Bool)) (w' : World), (execOp a.eval ⟨d, op, ty, pos, af, g⟩).run P w' = .ok (.value v) w') : Quiet P X S op av :=
  fun ρ a w hs => let ⟨v, h1, h2⟩ := h ρ a w hs; ⟨v, h1, fun d ty pos af g w' _ => h2 d ty pos af g w'⟩
def nthO {α : Type} : Nat → List α → Option α
  | _, [] => none
  | 0, x :: _ => some x
  | n + 1, _ :: xs => nthO n xs
theorem nthO_eq {α : Type} : ∀ {n : Nat} {l : List α} {x : α}, nthO n l = some x → l[n]? = some x
  | 0, [], _, h => by simp [nthO] at h
  | _ + 1, [], _, h => by simp [nthO] at h
  | 0, _ :: _, _, h => by simpa [nthO] using h
  | n + 1, _ :: xs, _, h => by simpa using nthO_eq (n := n) (l := xs) (by simpa [nthO] using h)
def qFld (TT : List (Nat × TI)) (t f : Nat) : Option (Nat × Nat × Bool) :=
  match lk TT t with
  | some i => match i.sh with
    | .st l => nthO f l
    | _ => none
  | none => none
theorem fldsB_get : ∀ {fs : List Field} {l : List (Nat × Nat × Bool)} {f off sz : Nat} {g : Bool}, fldsB P fs l = true → l[f]? = some (off, sz, g) →
    ∃ fd, fs[f]? = some fd ∧ fd.offset = off ∧ 0 < sz ∧ sizB P fd.type sz = true ∧ undB P fd.type = true ∧ aggB P fd.type = g ∧ (g = false → sz = 1)
  | [], [], _, _, _, _, _, h => by simp at h
  | fd :: fs, (o, s, g) :: r, 0, _, _, _, h, hk => by
    simp only [List.getElem?_cons_zero, Option.some.injEq, Prod.mk.injEq] at hk
    obtain ⟨rfl, rfl, rfl⟩ := hk
    simp only [fldsB, Bool.and_eq_true, decide_eq_true_eq, beq_iff_eq, Bool.or_eq_true] at h
    obtain ⟨⟨⟨⟨⟨⟨h1, h2⟩, h3⟩, h4⟩, h5⟩, h6⟩, _⟩ := h
    exact ⟨fd, rfl, h1, h2, h3, h4, h5, fun hg => h6.resolve_left (by simp [hg])⟩
  | fd :: fs, (o, s, g) :: r, f + 1, _, _, _, h, hk => by
    simp only [List.getElem?_cons_succ] at hk ⊢
    simp only [fldsB, Bool.and_eq_true] at h
    exact fldsB_get h.2 hk
  | [], _ :: _, _, _, _, _, h, _ => by cases h
  | _ :: _, [], _, _, _, _, h, _ => by cases h
theorem qFld_ok {t f off sz : Nat} {g : Bool} (hT : TTOk P TT) (h : qFld TT t f = some (off, sz, g)) :
    ∃ fields fd, P.underlying t = some (.struct fields) ∧ fields[f]? = some fd ∧ fd.offset = off ∧ 0 < sz ∧ sizB P fd.type sz = true ∧ undB P fd.type = true ∧ aggB P fd.type = g ∧ (g = false → sz = 1) := by
  unfold qFld at h
  split at h
  · rename_i i hi
    split at h
    · rename_i l hl
      obtain ⟨d, hd, hs⟩ := (hT t i hi).und
      rw [hl] at hs
      cases d <;> first | (cases hs; done) | skip
      rename_i fields
      obtain ⟨fd, h1, h2⟩ := fldsB_get (P := P) (fs := fields.toList) hs (nthO_eq h)
      exact ⟨fields, fd, hd, by simpa using h1, h2⟩
    · cases h
  · cases h
theorem addr_add (g o j : Nat) : (Addr.mk g o none).add j = ⟨g, o + j, none⟩ := by unfold Addr.add; split <;> simp_all
theorem sizB_run {T n : Nat} {w : World} (h : sizB P T n = true) : (sizeOf T).run P w = .ok n w := by
  unfold sizB at h
  split at h
  · rename_i i hi
    have h' : i.size = n := by simpa using h
    simp [Go.sizeOf, typeInfo, hi, h']
  · cases h
theorem aggB_run {T : Nat} {w : World} (h : undB P T = true) : (isAgg T).run P w = .ok (aggB P T) w := by
  unfold undB at h
  obtain ⟨d, hd⟩ := Option.isSome_iff_exists.1 h
  unfold Go.isAgg aggB
  rw [Sem.run_bind, run_underlying hd, hd]
  cases d <;> rfl
theorem run_fieldAt {t f off sz g o : Nat} {gg : Bool} {w : World} (hT : TTOk P TT) (h : qFld TT t f = some (off, sz, gg)) :
    (Instr.fieldAt t (.pointer (some ⟨g, o, none⟩)) f).run P w = .ok (.pointer (some ⟨g, o + off, none⟩)) w := by
  obtain ⟨fields, fd, h1, h2, rfl, h4, h5, _⟩ := qFld_ok hT h
  have hz : sz ≠ 0 := by omega
  simp [Instr.fieldAt, run_underlying h1, h2, Instr.sureAddr, fieldPlace, sizB_run h5, hz, addr_add]
def qFieldA (TT : List (Nat × TI)) (S : St) (t : TypeId) (x : Operand) (f : Nat) : Option AV :=
  match qFld TT t f with
  | some (off, _, _) => match opv S.T x with
    | some (.p false [.pb b o]) => some (.p false [.pb b (o + off)])
    | some (.p false [.pr r n k o]) => some (.p false [.pr r n k (o + off)])
    | some (.p false [.pe cs]) => match dropO off cs with
      | some r => some (.p false [.pe r])
      | none => none
    | _ => none
  | none => none
theorem qw_fieldAddr {t : TypeId} {x : Operand} {f : Nat} {av : AV} (hT : TTOk P TT) (h : qFieldA TT S t x f = some av) : QuietW P X S (.fieldAddr t x f) av := by
  refine fun ρ a w hs => ?_
  unfold qFieldA at h
  split at h
  · rename_i off sz g hf
    split at h
    · rename_i b o hx
      cases h
      have hp : a.eval x = .pointer (some ⟨ρ.box b, o, none⟩) := (opv_rep hs hx).1
      exact ⟨.pointer (some ⟨ρ.box b, o + off, none⟩), ⟨rfl, trivial⟩, fun _ _ _ _ _ w' => by simp [execOp, hp, run_fieldAt hT hf]⟩
    · rename_i r n k o hx
      cases h
      obtain ⟨g', h1, hp⟩ := (opv_rep hs hx).1
      exact ⟨.pointer (some ⟨g', k * n + o + off, none⟩), ⟨⟨g', h1, by rw [Nat.add_assoc]⟩, trivial⟩, fun _ _ _ _ _ w' => by simp [execOp, hp, run_fieldAt hT hf]⟩
    · rename_i cs hx
      split at h
      · rename_i r hr
        cases h
        obtain ⟨rfl, _⟩ := dropO_eq hr
        obtain ⟨g', o, hp, hc⟩ := (opv_rep hs hx).1
        refine ⟨.pointer (some ⟨g', o + off, none⟩), ⟨⟨g', o + off, rfl, fun j c hj => ?_⟩, trivial⟩, fun _ _ _ _ _ w' => by simp [execOp, hp, run_fieldAt hT hf]⟩
        rw [List.getElem?_drop] at hj
        rw [Nat.add_assoc]
        exact hc _ c hj
      · cases h
    · cases h
  · cases h
theorem q_fieldAddr {t : TypeId} {x : Operand} {f : Nat} {av : AV} (hT : TTOk P TT) (h : qFieldA TT S t x f = some av) : Quiet P X S (.fieldAddr t x f) av := (qw_fieldAddr hT h).q
def qField (TT : List (Nat × TI)) (S : St) (t : TypeId) (x : Operand) (f : Nat) : Option AV :=
  match qFld TT t f with
  | some (off, sz, g) => match opv S.T x with
    | some (.p true l) => match cutO off sz l with
      | some r => mkP g r
      | none => none
    | _ => none
  | none => none
theorem qw_field {t : TypeId} {x : Operand} {f : Nat} {av : AV} (hT : TTOk P TT) (h : qField TT S t x f = some av) : QuietW P X S (.field t x f) av := by
  refine fun ρ a w hs => ?_
  unfold qField at h
  split at h
  · rename_i off sz g hf
    split at h
    · rename_i l hx
      split at h
      · rename_i r hr
        obtain rfl := mkP_eq h
        obtain ⟨rfl, hl⟩ := cutO_eq hr
        obtain ⟨vs, hp, hr2⟩ := opv_rep hs hx
        obtain ⟨fields, fd, h1, h2, rfl, h4, h5, h6, rfl, h8⟩ := qFld_ok hT hf
        have h3 := (hr2.drop fd.offset).take sz
        have hl3 : ((vs.drop fd.offset).take sz).length = sz := by rw [h3.len, hl]
        refine ⟨mkV (aggB P fd.type) ((vs.drop fd.offset).take sz), mkV_rep h3 (fun hg => by rw [hl3, h8 hg]), fun d ty pos af g w' => ?_⟩
        have hpart : (part fd.type vs.toArray fd.offset).run P w' = .ok (mkV (aggB P fd.type) ((vs.drop fd.offset).take sz)) w' := by
          unfold part mkV
          simp only [Sem.run_bind, aggB_run h6, Result.andThen_ok]
          cases hg : aggB P fd.type
          · have h1z := h8 hg
            subst h1z
            have : vs[fd.offset]? = some (((vs.drop fd.offset).take 1).headD undef) := by
              have h9 := headD_one hl3
              have h10 : ((vs.drop fd.offset).take 1)[0]? = some (((vs.drop fd.offset).take 1).headD undef) := by rw [h9]; rfl
              rw [List.getElem?_take_of_lt (by omega), List.getElem?_drop] at h10
              simpa using h10
            simp [this]
          · simp only [if_true, Sem.run_bind, sizB_run h5, Result.andThen_ok, Sem.run_pure]
            congr 2
            apply Array.ext'
            simp
        simp [execOp, Instr.field, hp, run_underlying h1, h2, asAgg, hpart]
      · cases h
    · cases h
  · cases h
theorem q_field {t : TypeId} {x : Operand} {f : Nat} {av : AV} (hT : TTOk P TT) (h : qField TT S t x f = some av) : Quiet P X S (.field t x f) av := (qw_field hT h).q
def cmpO : BinOp → Int → Int → Option Bool
  | .eql, a, b => some (decide (a = b))
  | .neq, a, b => some (decide (a ≠ b))
  | .lss, a, b => some (decide (a < b))
  | .leq, a, b => some (decide (a ≤ b))
  | .gtr, a, b => some (decide (a > b))
  | .geq, a, b => some (decide (a ≥ b))
  | _, _, _ => none
def qBin (TT : List (Nat × TI)) (S : St) (op : BinOp) (t : TypeId) (x y : Operand) : Option AV :=
  match opv S.T x with
  | some (.p false [.c (.v (.int k a))]) => match opv S.T y with
    | some (.p false [.c (.v (.int j b))]) => if k = j then match cmpO op a b with
        | some r => some (.p false [.c (.v (.bool r))])
        | none => none
      else none
    | _ => none
  | some (.p false [.c (.v (.bool a))]) => match opv S.T y with
    | some (.p false [.c (.v (.bool b))]) => match lk TT t with
      | some ⟨_, _, _, .bo⟩ => match op with
        | .eql => some (.p false [.c (.v (.bool (a == b)))])
        | .neq => some (.p false [.c (.v (.bool (!(a == b))))])
        | _ => none
      | _ => none
    | _ => none
  | some (.p false [.c .nil]) => match opv S.T y with
    | some (.p false [.c .nil]) => match lk TT t with
      | some ⟨_, _, _, .sl _⟩ => match op with
        | .eql => some (.p false [.c (.v (.bool true))])
        | .neq => some (.p false [.c (.v (.bool false))])
        | _ => none
      | _ => none
    | _ => none
  | _ => none
theorem run_cmp {op : BinOp} {a b : Int} {r : Bool} {k : IntKind} {t : TypeId} {w : World} (h : cmpO op a b = some r) : (binOp op t (.int k a) (.int k b)).run P w = .ok (.bool r) w := by
  cases op <;> first | (cases h; done) | (cases h; simp [binOp, Op.intCmp]; done) | (cases h; simp [binOp, Op.intCmp, Bool.beq_eq_decide_eq]; done) | (cases h; simp only [binOp, Op.intCmp]; simp only [ne_eq, not_true_eq_false, if_false, Sem.run_pure]; congr 2; rw [Bool.eq_iff_iff]; simp)
theorem cmp_guard {op : BinOp} {a b : Value} {t : TypeId} {x y : Operand} {w : World} (h1 : ∀ l, a ≠ .agg l) (h2 : a ≠ .nilIface) : (eqGuard op t x y a b).run P w = .ok () w := by
  unfold eqGuard
  cases op <;> simp <;> (split <;> simp_all)
theorem qw_bin {op : BinOp} {t yt : TypeId} {x y : Operand} {av : AV} (hT : TTOk P TT) (h : qBin TT S op t x y = some av) : QuietW P X S (.binOp op t x y yt) av := by
  refine fun ρ a w hs => ?_
  unfold qBin at h
  split at h
  · rename_i k m hx
    split at h
    · rename_i j n hy
      split at h
      · rename_i e
        subst e
        split at h
        · rename_i r hr
          cases h
          have hp : a.eval x = .int k m := rd_v (opv_rep hs hx).1
          have hq : a.eval y = .int k n := rd_v (opv_rep hs hy).1
          exact ⟨.bool r, ⟨⟨0, rfl, rfl⟩, trivial⟩, fun _ _ _ _ _ w' => by simp [execOp, hp, hq, run_cmp hr, cmp_guard]⟩
        · cases h
      · cases h
    · cases h
  · rename_i m hx
    split at h
    · rename_i n hy
      split at h
      · rename_i s b z hi
        have hp : a.eval x = .bool m := rd_v (opv_rep hs hx).1
        have hq : a.eval y = .bool n := rd_v (opv_rep hs hy).1
        obtain ⟨d, hd, hsb⟩ := (hT t _ hi).und
        have hd' : P.underlying t = some .bool := by cases d <;> first | exact hd | (cases hsb; done)
        split at h
        · cases h
          exact ⟨.bool (m == n), ⟨⟨0, rfl, rfl⟩, trivial⟩, fun _ _ _ _ _ w' => by simp [execOp, hp, hq, binOp, run_equal_bool w' t m n hd', cmp_guard]⟩
        · cases h
          exact ⟨.bool (!(m == n)), ⟨⟨0, rfl, rfl⟩, trivial⟩, fun _ _ _ _ _ w' => by simp [execOp, hp, hq, binOp, run_equal_bool w' t m n hd', cmp_guard]⟩
        · cases h
      · cases h
    · cases h
  · rename_i hx
    split at h
    · rename_i hy
      split at h
      · rename_i s b z e hi
        have hp : a.eval x = .slice none 0 0 := rd_nil (opv_rep hs hx).1
        have hq : a.eval y = .slice none 0 0 := rd_nil (opv_rep hs hy).1
        obtain ⟨d, hd, hsb⟩ := (hT t _ hi).und
        have hd' : ∃ e', P.underlying t = some (.slice e') := by cases d <;> first | exact ⟨_, hd⟩ | (cases hsb; done)
        obtain ⟨e', hd'⟩ := hd'
        split at h
        · cases h
          exact ⟨.bool true, ⟨⟨0, rfl, rfl⟩, trivial⟩, fun _ _ _ _ _ w' => by simp [execOp, hp, hq, binOp, run_equal_slice_nil w' t e' none 0 0 hd', cmp_guard]⟩
        · cases h
          exact ⟨.bool false, ⟨⟨0, rfl, rfl⟩, trivial⟩, fun _ _ _ _ _ w' => by simp [execOp, hp, hq, binOp, run_equal_slice_nil w' t e' none 0 0 hd', cmp_guard]⟩
        · cases h
      · cases h
    · cases h
  · cases h
theorem q_bin {op : BinOp} {t yt : TypeId} {x y : Operand} {av : AV} (hT : TTOk P TT) (h : qBin TT S op t x y = some av) : Quiet P X S (.binOp op t x y yt) av := (qw_bin hT h).q
def arO : BinOp → Int → Int → Option Int
  | .add, a, b => some (a + b)
  | .sub, a, b => some (a - b)
  | .mul, a, b => some (a * b)
  | _, _, _ => none
/-- a sum that fits -/
theorem qw_ar {op : BinOp} {t yt : TypeId} {x y : Operand} {m n z : Int} (hx : opv S.T x = some (.p false [.c (.v (.int .i64 m))])) (hy : opv S.T y = some (.p false [.c (.v (.int .i64 n))])) (h : arO op m n = some z)
    (hz : -9223372036854775808 ≤ z ∧ z ≤ 9223372036854775807) : QuietW P X S (.binOp op t x y yt) (.p false [.c (.v (.int .i64 z))]) := by
  refine fun ρ a w hs => ⟨.int .i64 z, ⟨⟨0, rfl, rfl⟩, trivial⟩, fun _ _ _ _ _ w' => ?_⟩
  have hp : a.eval x = .int .i64 m := rd_v (opv_rep hs hx).1
  have hq : a.eval y = .int .i64 n := rd_v (opv_rep hs hy).1
  have hw := IntWalk.i64_in z hz
  cases op <;> first | (cases h; done) | (cases h; simp [execOp, hp, hq, binOp, Op.intArith, cmp_guard, hw])
theorem q_ar {op : BinOp} {t yt : TypeId} {x y : Operand} {m n z : Int} (hx : opv S.T x = some (.p false [.c (.v (.int .i64 m))])) (hy : opv S.T y = some (.p false [.c (.v (.int .i64 n))])) (h : arO op m n = some z)
    (hz : -9223372036854775808 ≤ z ∧ z ≤ 9223372036854775807) : Quiet P X S (.binOp op t x y yt) (.p false [.c (.v (.int .i64 z))]) := (qw_ar hx hy h hz).q
theorem qw_rem {t yt : TypeId} {x y : Operand} {m n : Int} (hx : opv S.T x = some (.p false [.c (.v (.int .i64 m))])) (hy : opv S.T y = some (.p false [.c (.v (.int .i64 n))])) (hn : n ≠ 0) : QuietW P X S (.binOp .rem t x y yt) (.p false [.c (.v (.int .i64 (m.tmod n)))]) := by
  refine fun ρ a w hs => ⟨.int .i64 (m.tmod n), ⟨⟨0, rfl, rfl⟩, trivial⟩, fun _ _ _ _ _ w' => ?_⟩
  have hp : a.eval x = .int .i64 m := rd_v (opv_rep hs hx).1
  have hq : a.eval y = .int .i64 n := rd_v (opv_rep hs hy).1
  simp [execOp, hp, hq, binOp, Op.intDiv, cmp_guard, hn]
theorem q_rem {t yt : TypeId} {x y : Operand} {m n : Int} (hx : opv S.T x = some (.p false [.c (.v (.int .i64 m))])) (hy : opv S.T y = some (.p false [.c (.v (.int .i64 n))])) (hn : n ≠ 0) : Quiet P X S (.binOp .rem t x y yt) (.p false [.c (.v (.int .i64 (m.tmod n)))]) := (qw_rem hx hy hn).q
theorem q_rem_pos {t yt : TypeId} {x y : Operand} {m n : Int} (hx : opv S.T x = some (.p false [.c (.v (.int .i64 m))])) (hy : opv S.T y = some (.p false [.c (.v (.int .i64 n))])) (h : 0 ≤ m ∧ 0 < n) : Quiet P X S (.binOp .rem t x y yt) (.p false [.c (.v (.int .i64 (m % n)))]) := by
  have := q_rem (P := P) (X := X) (S := S) (t := t) (yt := yt) hx hy (by omega)
  rwa [Int.tmod_eq_emod_of_nonneg h.1] at this
theorem qw_quo_pos {t yt : TypeId} {x y : Operand} {m n : Int} (hx : opv S.T x = some (.p false [.c (.v (.int .i64 m))])) (hy : opv S.T y = some (.p false [.c (.v (.int .i64 n))])) (h : 0 ≤ m ∧ m ≤ 9223372036854775807 ∧ 0 < n) : QuietW P X S (.binOp .quo t x y yt) (.p false [.c (.v (.int .i64 (m / n)))]) := by
  refine fun ρ a w hs => ⟨.int .i64 (m / n), ⟨⟨0, rfl, rfl⟩, trivial⟩, fun _ _ _ _ _ w' => ?_⟩
  have hp : a.eval x = .int .i64 m := rd_v (opv_rep hs hx).1
  have hq : a.eval y = .int .i64 n := rd_v (opv_rep hs hy).1
  have e : m.tdiv n = m / n := Int.tdiv_eq_ediv_of_nonneg h.1
  have h0 : 0 ≤ m / n := Int.ediv_nonneg h.1 (by omega)
  have h1 : m / n ≤ m := Int.ediv_le_self _ h.1
  have hw := IntWalk.i64_in (m / n) (by omega)
  have hn : n ≠ 0 := by omega
  simp [execOp, hp, hq, binOp, Op.intDiv, cmp_guard, hn, e, hw]
theorem q_quo_pos {t yt : TypeId} {x y : Operand} {m n : Int} (hx : opv S.T x = some (.p false [.c (.v (.int .i64 m))])) (hy : opv S.T y = some (.p false [.c (.v (.int .i64 n))])) (h : 0 ≤ m ∧ m ≤ 9223372036854775807 ∧ 0 < n) : Quiet P X S (.binOp .quo t x y yt) (.p false [.c (.v (.int .i64 (m / n)))]) := (qw_quo_pos hx hy h).q
def qNot (S : St) (x : Operand) : Option AV :=
  match opv S.T x with
  | some (.p false [.c (.v (.bool b))]) => match b with
    | true => some (.p false [.c (.v (.bool false))])
    | false => some (.p false [.c (.v (.bool true))])
  | _ => none
theorem qw_not {t : TypeId} {x : Operand} {b : Bool} (hx : opv S.T x = some (.p false [.c (.v (.bool b))])) : QuietW P X S (.unOp .not t x) (.p false [.c (.v (.bool !b))]) := by
  refine fun ρ a w hs => ⟨.bool !b, ⟨⟨0, rfl, rfl⟩, trivial⟩, fun _ _ _ _ _ w' => ?_⟩
  have hp : a.eval x = .bool b := rd_v (opv_rep hs hx).1
  simp [execOp, hp, Op.unary]
theorem q_not {t : TypeId} {x : Operand} {b : Bool} (hx : opv S.T x = some (.p false [.c (.v (.bool b))])) : Quiet P X S (.unOp .not t x) (.p false [.c (.v (.bool !b))]) := (qw_not hx).q
theorem q_notL {t : TypeId} {x : Operand} {av : AV} (h : qNot S x = some av) : Quiet P X S (.unOp .not t x) av := by
  unfold qNot at h
  split at h
  · rename_i b hx
    have := q_not (P := P) (X := X) (t := t) hx
    cases b <;> (cases h; exact this)
  · cases h
def qExt (S : St) (x : Operand) (i : Nat) : Option AV :=
  match opv S.T x with
  | some (.tup ps) => match nthO i ps with
    | some (b, l) => some (.p b l)
    | none => none
  | _ => none
theorem qw_ext {x : Operand} {i : Nat} {av : AV} (h : qExt S x i = some av) : QuietW P X S (.extract x i) av := by
  refine fun ρ a w hs => ?_
  unfold qExt at h
  split at h
  · rename_i ps hx
    split at h
    · rename_i b l hn
      cases h
      obtain ⟨vs, hp, hr⟩ := opv_rep hs hx
      obtain ⟨v, h1, h2⟩ := hr.get (nthO_eq hn)
      exact ⟨v, h2, fun _ _ _ _ _ w' => by simp [execOp, Instr.extract, hp, h1]⟩
    · cases h
  · cases h
theorem q_ext {x : Operand} {i : Nat} {av : AV} (h : qExt S x i = some av) : Quiet P X S (.extract x i) av := (qw_ext h).q
/-- a slice's elements: their width by the type -/
def eSz (TT : List (Nat × TI)) (t : TypeId) : Option (Nat × Nat) :=
  match lk TT t with
  | some ⟨_, _, _, .sl e⟩ => match lk TT e with
    | some i => some (e, i.size)
    | none => none
  | _ => none
theorem eSz_ok {t e n : Nat} (hT : TTOk P TT) (h : eSz TT t = some (e, n)) : P.underlying t = some (.slice e) ∧ ∃ i, TOk P e i ∧ i.size = n := by
  unfold eSz at h
  split at h
  · rename_i s b z e' hi
    split at h
    · rename_i i he
      cases h
      obtain ⟨d, hd, hsb⟩ := (hT t _ hi).und
      have hd' : P.underlying t = some (.slice e) := by
        cases d <;> first | (cases hsb; done) | skip
        simp only [shB, decide_eq_true_eq] at hsb
        rw [← hsb]; exact hd
      exact ⟨hd', i, hT e i he, rfl⟩
    · cases h
  · cases h
theorem q_len {t : TypeId} {x : Operand} {e m n : Nat} {l : List (List C)} (hT : TTOk P TT) (ht : eSz TT t = some (e, m)) (hx : opv S.T x = some (.p false [.c (.s n l)])) :
    Quiet P X S (.call ⟨.builtin .len, #[x], #[t]⟩) (.p false [.c (.v (.int .i64 l.length))]) := by
  refine quiet_of fun ρ a w hs => ⟨.int .i64 l.length, ⟨⟨0, rfl, rfl⟩, trivial⟩, fun _ _ _ _ _ w' => ?_⟩
  obtain ⟨ao, cap, hp, _⟩ := rd_s (opv_rep hs hx).1
  simp [execOp, resolve, invoke, builtin, Builtin.len_, run_underlying (eSz_ok hT ht).1, hp, goInt]
theorem q_len_map {α : Type} {f : α → List C} {L : List α} {t : TypeId} {x : Operand} {e m n : Nat} (hT : TTOk P TT) (ht : eSz TT t = some (e, m)) (hx : opv S.T x = some (.p false [.c (.s n (List.map f L))])) :
    Quiet P X S (.call ⟨.builtin .len, #[x], #[t]⟩) (.p false [.c (.v (.int .i64 L.length))]) := by
  have := q_len (P := P) (X := X) hT ht hx
  rwa [List.length_map] at this
theorem own_slice {w : World} {ty n : Nat} {l : List (List C)} {u : Value} {xs : List Value} {F : List Nat} (h : OwS w ty n l u xs F) : ∃ ao cap, u = .slice ao l.length cap ∧ l.length ≤ cap ∧ cap ≤ maxLen ∧ (l = [] ∨ ∃ g, ao = some ⟨g, 0, none⟩ ∧ u.ownBlock = some g) := by
  obtain ⟨Fs, ⟨h1, _⟩, _⟩ := h
  rcases h1.2 with ⟨rfl, h0⟩ | ⟨g, cap, cur, rfl, _, _, hnc, hcm, _⟩
  · exact ⟨none, 0, by rw [h0], by omega, by simp [maxLen], .inl (List.eq_nil_of_length_eq_zero h0)⟩
  · exact ⟨_, cap, rfl, hnc, hcm, .inr ⟨g, rfl, rfl⟩⟩
theorem q_len_rt {t : TypeId} {x : Operand} {e m r ty n : Nat} {l : List (List C)} (hT : TTOk P TT) (ht : eSz TT t = some (e, m)) (hx : opv S.T x = some (.p false [.rt r])) (hr : lk S.R r = some (ty, n, l)) :
    Quiet P X S (.call ⟨.builtin .len, #[x], #[t]⟩) (.p false [.c (.v (.int .i64 l.length))]) := by
  refine quiet_of fun ρ a w hs => ⟨.int .i64 l.length, ⟨⟨0, rfl, rfl⟩, trivial⟩, fun _ _ _ _ _ w' => ?_⟩
  have hp : a.eval x = ρ.root r := (opv_rep hs hx).1.1
  obtain ⟨ao, cap, hu, _⟩ := own_slice (hs.hp.R _ (lk_mem hr))
  rw [hu] at hp
  simp [execOp, resolve, invoke, builtin, Builtin.len_, run_underlying (eSz_ok hT ht).1, hp, goInt]
theorem TOk.size' {e n : Nat} {i : TI} {w : World} (h : TOk P e i) (hn : i.size = n) : (Go.sizeOf e).run P w = .ok n w := by rw [← hn]; exact h.sizeOf
/-- the address of an element of what is only read -/
theorem qw_ix {t : TypeId} {x ix : Operand} {e n m : Nat} {l : List (List C)} {cs : List C} {i : Int} {k : IntKind} (hT : TTOk P TT) (ht : eSz TT t = some (e, n)) (hx : opv S.T x = some (.p false [.c (.s n l)])) (hi : opv S.T ix = some (.p false [.c (.v (.int k i))]))
    (him : i = (m : Int)) (hm : l[m]? = some cs) : QuietW P X S (.indexAddr t x ix) (.p false [.pe cs]) := by
  refine fun ρ a w hs => ?_
  obtain ⟨ao, cap, hp, h1, h2, h3, h4⟩ := rd_s (opv_rep hs hx).1
  have hq : a.eval ix = .int k i := rd_v (opv_rep hs hi).1
  have hml : m < l.length := (List.getElem?_eq_some_iff.1 hm).1
  obtain ⟨hu, inf, hin, hsz⟩ := eSz_ok hT ht
  rcases h4 with rfl | ⟨b, off, rfl, h5⟩
  · simp at hm
  · refine ⟨.pointer (some ⟨b, off + m * n, none⟩), ⟨⟨b, off + m * n, rfl, fun j c hj => h5 m cs hm j c hj⟩, trivial⟩, fun _ _ _ _ _ w' => ?_⟩
    subst him
    simp [execOp, Instr.indexAt, hp, hq, asIntOf, run_underlying hu, hml, hin.size' hsz, addr_add]
theorem q_ix {t : TypeId} {x ix : Operand} {e n m : Nat} {l : List (List C)} {cs : List C} {i : Int} {k : IntKind} (hT : TTOk P TT) (ht : eSz TT t = some (e, n)) (hx : opv S.T x = some (.p false [.c (.s n l)])) (hi : opv S.T ix = some (.p false [.c (.v (.int k i))]))
    (him : i = (m : Int)) (hm : l[m]? = some cs) : Quiet P X S (.indexAddr t x ix) (.p false [.pe cs]) := (qw_ix hT ht hx hi him hm).q
theorem q_ix_map {α : Type} {f : α → List C} {L : List α} {t : TypeId} {x ix : Operand} {e n : Nat} {m : Nat} {i : Int} {k : IntKind} (hT : TTOk P TT) (ht : eSz TT t = some (e, n)) (hx : opv S.T x = some (.p false [.c (.s n (List.map f L))])) (hi : opv S.T ix = some (.p false [.c (.v (.int k i))]))
    (him : i = (m : Int)) (hm : m < L.length) : Quiet P X S (.indexAddr t x ix) (.p false [.pe (f L[m])]) :=
  q_ix hT ht hx hi him (by rw [List.getElem?_map, List.getElem?_eq_getElem hm]; rfl)
/-- the address of an element of a slice of one's own -/
theorem q_ix_rt {t : TypeId} {x ix : Operand} {e n n' m r ty : Nat} {l : List (List C)} {i : Int} {k : IntKind} (hT : TTOk P TT) (ht : eSz TT t = some (e, n)) (hx : opv S.T x = some (.p false [.rt r])) (hr : lk S.R r = some (ty, n', l)) (hn : n = n')
    (hi : opv S.T ix = some (.p false [.c (.v (.int k i))])) (him : i = (m : Int)) (hm : m < l.length) : Quiet P X S (.indexAddr t x ix) (.p false [.pr r n m 0]) := by
  subst hn
  refine quiet_of fun ρ a w hs => ?_
  have hp : a.eval x = ρ.root r := (opv_rep hs hx).1.1
  have hq : a.eval ix = .int k i := rd_v (opv_rep hs hi).1
  obtain ⟨ao, cap, hu, h1, h2, h3⟩ := own_slice (hs.hp.R _ (lk_mem hr))
  obtain ⟨hun, inf, hin, hsz⟩ := eSz_ok hT ht
  have hz : ¬ l = [] := by intro e; subst e; simp at hm
  obtain ⟨g, rfl, hob⟩ := h3.resolve_left hz
  rw [hu] at hp
  refine ⟨.pointer (some ⟨g, m * n, none⟩), ⟨⟨g, hob, rfl⟩, trivial⟩, fun _ _ _ _ _ w' => ?_⟩
  subst him
  simp [execOp, Instr.indexAt, hp, hq, asIntOf, run_underlying hun, hm, hin.size' hsz, addr_add]
theorem q_len_rtm {α : Type} {f : α → List C} {L : List α} {t : TypeId} {x : Operand} {e m r ty n : Nat} (hT : TTOk P TT) (ht : eSz TT t = some (e, m)) (hx : opv S.T x = some (.p false [.rt r])) (hr : lk S.R r = some (ty, n, List.map f L)) :
    Quiet P X S (.call ⟨.builtin .len, #[x], #[t]⟩) (.p false [.c (.v (.int .i64 L.length))]) := by
  have := q_len_rt (P := P) (X := X) hT ht hx hr
  rwa [List.length_map] at this
/-- the cells of an element of a slice of one's own, as they are read -/
def subs (r n k : Nat) : Nat → List C → List AC
  | _, [] => []
  | j, .v x :: cs => .c (.v x) :: subs r n k (j + 1) cs
  | j, .nil :: cs => .c .nil :: subs r n k (j + 1) cs
  | j, .s _ _ :: cs => .sub r n k j :: subs r n k (j + 1) cs
  | j, .hole :: cs => .no :: subs r n k (j + 1) cs
end
end Go.Proofs.YtphaggopgdbojaaGreat
