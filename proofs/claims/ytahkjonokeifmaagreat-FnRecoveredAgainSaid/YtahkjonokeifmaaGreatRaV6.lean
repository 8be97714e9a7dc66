/- Structs put together, cells of boxes written, literal slices, appends, on states. No program in it. -/
import Derived.Test.YtahkjonokeifmaaGreatRaV3
import Derived.IntWalk
import Derived.WalkLawsBesides
import Derived.WalkSpells
import Derived.Maps.AppendAt
import Derived.Laws.CopyRow
namespace Go.Proofs.YtahkjonokeifmaaGreat
open Go.ChangeShapes Go.WideShapes Go.ChangeAt Go.RowKit
set_option linter.unusedVariables false
section
variable {P : Program} {X : Cx} {S : St} {TT : List (Nat × TI)}
theorem quiet_of {op : Op} {av : AV} (h : ∀ ρ a w, Sim X ρ S a w → ∃ v, RepV ρ av v ∧ ∀ (d : Option Tmp) (ty : TypeId) (pos : String) (af : Array Edge) (g : Option (Nat × Bool)) (w' : World), (execOp a.eval ⟨d, op, ty, pos, af, g⟩).run P w' = .ok (.value v) w') : Quiet P X S op av :=
 fun ρ a w hs => let ⟨v, h1, h2⟩ := h ρ a w hs; ⟨v, h1, fun d ty pos af g w' _ => h2 d ty pos af g w'⟩
def nthO {α : Type} : Nat → List α → Option α
 | _, [] => none
 | 0, x :: _ => some x
 | n + 1, _ :: xs => nthO n xs
theorem nthO_eq {α : Type} : ∀ {n : Nat} {l : List α} {x : α}, nthO n l = some x → l[n]? = some x
 | 0, [], _, h => by simp [nthO] at h
 | _ + 1, [], _, h => by simp [nthO] at h
 | 0, _ :: _, _, h => by simpa [nthO] using h
 | n + 1, _ :: xs, _, h => by simpa using nthO_eq (n := n) (l := xs) (by simpa [nthO] using h)
def qFld (TT : List (Nat × TI)) (t f : Nat) : Option (Nat × Nat × Bool) :=
 match lk TT t with
 | some i => match i.sh with
  | .st l => nthO f l
  | _ => none
 | none => none
theorem fldsB_get : ∀ {fs : List Field} {l : List (Nat × Nat × Bool)} {f off sz : Nat} {g : Bool}, fldsB P fs l = true → l[f]? = some (off, sz, g) →
  ∃ fd, fs[f]? = some fd ∧ fd.offset = off ∧ 0 < sz ∧ sizB P fd.type sz = true ∧ undB P fd.type = true ∧ aggB P fd.type = g ∧ (g = false → sz = 1)
 | [], [], _, _, _, _, _, h => by simp at h
 | fd :: fs, (o, s, g) :: r, 0, _, _, _, h, hk => by
  simp only [List.getElem?_cons_zero, Option.some.injEq, Prod.mk.injEq] at hk
  obtain ⟨rfl, rfl, rfl⟩ := hk
  simp only [fldsB, Bool.and_eq_true, decide_eq_true_eq, beq_iff_eq, Bool.or_eq_true] at h
  obtain ⟨⟨⟨⟨⟨⟨h1, h2⟩, h3⟩, h4⟩, h5⟩, h6⟩, _⟩ := h
  exact ⟨fd, rfl, h1, h2, h3, h4, h5, fun hg => h6.resolve_left (by simp [hg])⟩
 | fd :: fs, (o, s, g) :: r, f + 1, _, _, _, h, hk => by
  simp only [List.getElem?_cons_succ] at hk ⊢
  simp only [fldsB, Bool.and_eq_true] at h
  exact fldsB_get h.2 hk
 | [], _ :: _, _, _, _, _, h, _ => by cases h
 | _ :: _, [], _, _, _, _, h, _ => by cases h
theorem qFld_ok {t f off sz : Nat} {g : Bool} (hT : TTOk P TT) (h : qFld TT t f = some (off, sz, g)) :
  ∃ fields fd, P.underlying t = some (.struct fields) ∧ fields[f]? = some fd ∧ fd.offset = off ∧ 0 < sz ∧ sizB P fd.type sz = true ∧ undB P fd.type = true ∧ aggB P fd.type = g ∧ (g = false → sz = 1) := by
 unfold qFld at h
 split at h
 ·rename_i i hi
  split at h
  ·rename_i l hl
   obtain ⟨d, hd, hs⟩ := (hT t i hi).und
   rw [hl] at hs
   cases d <;> first | (cases hs; done) | skip
   rename_i fields
   obtain ⟨fd, h1, h2⟩ := fldsB_get (P := P) (fs := fields.toList) hs (nthO_eq h)
   exact ⟨fields, fd, hd, by simpa using h1, h2⟩
  ·cases h
 ·cases h
theorem addr_add (g o j : Nat) : (Addr.mk g o none).add j = ⟨g, o + j, none⟩ := by unfold Addr.add; split <;> simp_all
theorem sizB_run {T n : Nat} {w : World} (h : sizB P T n = true) : (sizeOf T).run P w = .ok n w := by
 unfold sizB at h
 split at h
 ·rename_i i hi
  have h' : i.size = n := by simpa using h
  simp [Go.sizeOf, typeInfo, hi, h']
 ·cases h
theorem aggB_run {T : Nat} {w : World} (h : undB P T = true) : (isAgg T).run P w = .ok (aggB P T) w := by
 unfold undB at h
 obtain ⟨d, hd⟩ := Option.isSome_iff_exists.1 h
 unfold Go.isAgg aggB
 rw [Sem.run_bind, run_underlying hd, hd]
 cases d <;> rfl
theorem run_fieldAt {t f off sz g o : Nat} {gg : Bool} {w : World} (hT : TTOk P TT) (h : qFld TT t f = some (off, sz, gg)) :
  (Instr.fieldAt t (.pointer (some ⟨g, o, none⟩)) f).run P w = .ok (.pointer (some ⟨g, o + off, none⟩)) w := by
 obtain ⟨fields, fd, h1, h2, rfl, h4, h5, _⟩ := qFld_ok hT h
 have hz : sz ≠ 0 := by omega
 simp [Instr.fieldAt, run_underlying h1, h2, Instr.sureAddr, fieldPlace, sizB_run h5, hz, addr_add]
def qFieldA (TT : List (Nat × TI)) (S : St) (t : TypeId) (x : Operand) (f : Nat) : Option AV :=
 match qFld TT t f with
 | some (off, _, _) => match opv S.T x with
  | some (.p false [.pb b o]) => some (.p false [.pb b (o + off)])
  | some (.p false [.pr r n k o]) => some (.p false [.pr r n k (o + off)])
  | some (.p false [.pe cs]) => match dropO off cs with
   | some r => some (.p false [.pe r])
   | none => none
  | _ => none
 | none => none
theorem qw_fieldAddr {t : TypeId} {x : Operand} {f : Nat} {av : AV} (hT : TTOk P TT) (h : qFieldA TT S t x f = some av) : QuietW P X S (.fieldAddr t x f) av := by
 refine fun ρ a w hs => ?_
 unfold qFieldA at h
 split at h
 ·rename_i off sz g hf
  split at h
  ·rename_i b o hx
   cases h
   have hp : a.eval x = .pointer (some ⟨ρ.box b, o, none⟩) := (opv_rep hs hx).1
   exact ⟨.pointer (some ⟨ρ.box b, o + off, none⟩), ⟨rfl, trivial⟩, fun _ _ _ _ _ w' => by simp [execOp, hp, run_fieldAt hT hf]⟩
  ·rename_i r n k o hx
   cases h
   obtain ⟨g', h1, hp⟩ := (opv_rep hs hx).1
   exact ⟨.pointer (some ⟨g', k * n + o + off, none⟩), ⟨⟨g', h1, by rw [Nat.add_assoc]⟩, trivial⟩, fun _ _ _ _ _ w' => by simp [execOp, hp, run_fieldAt hT hf]⟩
  ·rename_i cs hx
   split at h
   ·rename_i r hr
    cases h
    obtain ⟨rfl, _⟩ := dropO_eq hr
    obtain ⟨g', o, hp, hc⟩ := (opv_rep hs hx).1
    refine ⟨.pointer (some ⟨g', o + off, none⟩), ⟨⟨g', o + off, rfl, fun j c hj => ?_⟩, trivial⟩, fun _ _ _ _ _ w' => by simp [execOp, hp, run_fieldAt hT hf]⟩
    rw [List.getElem?_drop] at hj
    rw [Nat.add_assoc]
    exact hc _ c hj
   ·cases h
  ·cases h
 ·cases h
theorem q_fieldAddr {t : TypeId} {x : Operand} {f : Nat} {av : AV} (hT : TTOk P TT) (h : qFieldA TT S t x f = some av) : Quiet P X S (.fieldAddr t x f) av := (qw_fieldAddr hT h).q
def qField (TT : List (Nat × TI)) (S : St) (t : TypeId) (x : Operand) (f : Nat) : Option AV :=
 match qFld TT t f with
 | some (off, sz, g) => match opv S.T x with
  | some (.p true l) => match cutO off sz l with
   | some r => mkP g r
   | none => none
  | _ => none
 | none => none
theorem qw_field {t : TypeId} {x : Operand} {f : Nat} {av : AV} (hT : TTOk P TT) (h : qField TT S t x f = some av) : QuietW P X S (.field t x f) av := by
 refine fun ρ a w hs => ?_
 unfold qField at h
 split at h
 ·rename_i off sz g hf
  split at h
  ·rename_i l hx
   split at h
   ·rename_i r hr
    obtain rfl := mkP_eq h
    obtain ⟨rfl, hl⟩ := cutO_eq hr
    obtain ⟨vs, hp, hr2⟩ := opv_rep hs hx
    obtain ⟨fields, fd, h1, h2, rfl, h4, h5, h6, rfl, h8⟩ := qFld_ok hT hf
    have h3 := (hr2.drop fd.offset).take sz
    have hl3 : ((vs.drop fd.offset).take sz).length = sz := by rw [h3.len, hl]
    refine ⟨mkV (aggB P fd.type) ((vs.drop fd.offset).take sz), mkV_rep h3 (fun hg => by rw [hl3, h8 hg]), fun d ty pos af g w' => ?_⟩
    have hpart : (part fd.type vs.toArray fd.offset).run P w' = .ok (mkV (aggB P fd.type) ((vs.drop fd.offset).take sz)) w' := by
     unfold part mkV
     simp only [Sem.run_bind, aggB_run h6, Result.andThen_ok]
     cases hg : aggB P fd.type
     ·have h1z := h8 hg
      subst h1z
      have : vs[fd.offset]? = some (((vs.drop fd.offset).take 1).headD undef) := by
       have h9 := headD_one hl3
       have h10 : ((vs.drop fd.offset).take 1)[0]? = some (((vs.drop fd.offset).take 1).headD undef) := by rw [h9]; rfl
       rw [List.getElem?_take_of_lt om, List.getElem?_drop] at h10
       simpa using h10
      simp [this]
     ·simp only [if_true, Sem.run_bind, sizB_run h5, Result.andThen_ok, Sem.run_pure]
      congr 2
      apply Array.ext'
      simp
    simp [execOp, Instr.field, hp, run_underlying h1, h2, asAgg, hpart]
   ·cases h
  ·cases h
 ·cases h
theorem q_field {t : TypeId} {x : Operand} {f : Nat} {av : AV} (hT : TTOk P TT) (h : qField TT S t x f = some av) : Quiet P X S (.field t x f) av := (qw_field hT h).q
def cmpO : BinOp → Int → Int → Option Bool
 | .eql, a, b => some (decide (a = b))
 | .neq, a, b => some (decide (a ≠ b))
 | .lss, a, b => some (decide (a < b))
 | .leq, a, b => some (decide (a ≤ b))
 | .gtr, a, b => some (decide (a > b))
 | .geq, a, b => some (decide (a ≥ b))
 | _, _, _ => none
def qBin (TT : List (Nat × TI)) (S : St) (op : BinOp) (t : TypeId) (x y : Operand) : Option AV :=
 match opv S.T x with
 | some (.p false [.c (.v (.int k a))]) => match opv S.T y with
  | some (.p false [.c (.v (.int j b))]) => if k = j then match cmpO op a b with
    | some r => some (.p false [.c (.v (.bool r))])
    | none => none
   else none
  | _ => none
 | some (.p false [.c (.v (.bool a))]) => match opv S.T y with
  | some (.p false [.c (.v (.bool b))]) => match lk TT t with
   | some ⟨_, _, _, .bo⟩ => match op with
    | .eql => some (.p false [.c (.v (.bool (a == b)))])
    | .neq => some (.p false [.c (.v (.bool (!(a == b))))])
    | _ => none
   | _ => none
  | _ => none
 | some (.p false [.c .nil]) => match opv S.T y with
  | some (.p false [.c .nil]) => match lk TT t with
   | some ⟨_, _, _, .sl _⟩ => match op with
    | .eql => some (.p false [.c (.v (.bool true))])
    | .neq => some (.p false [.c (.v (.bool false))])
    | _ => none
   | _ => none
  | _ => none
 | _ => none
theorem run_cmp {op : BinOp} {a b : Int} {r : Bool} {k : IntKind} {t : TypeId} {w : World} (h : cmpO op a b = some r) : (binOp op t (.int k a) (.int k b)).run P w = .ok (.bool r) w := by
 cases op <;> first | (cases h; done) | (cases h; simp [binOp, Op.intCmp]; done) | (cases h; simp [binOp, Op.intCmp, Bool.beq_eq_decide_eq]; done) | (cases h; simp only [binOp, Op.intCmp]; simp only [ne_eq, not_true_eq_false, if_false, Sem.run_pure]; congr 2; rw [Bool.eq_iff_iff]; simp)
theorem cmp_guard {op : BinOp} {a b : Value} {t : TypeId} {x y : Operand} {w : World} (h1 : ∀ l, a ≠ .agg l) (h2 : a ≠ .nilIface) : (eqGuard op t x y a b).run P w = .ok () w := by
 unfold eqGuard
 cases op <;> simp <;> (split <;> simp_all)
theorem qw_bin {op : BinOp} {t yt : TypeId} {x y : Operand} {av : AV} (hT : TTOk P TT) (h : qBin TT S op t x y = some av) : QuietW P X S (.binOp op t x y yt) av := by
 refine fun ρ a w hs => ?_
 unfold qBin at h
 split at h
 ·rename_i k m hx
  split at h
  ·rename_i j n hy
   split at h
   ·rename_i e
    subst e
    split at h
    ·rename_i r hr
     cases h
     have hp : a.eval x = .int k m := rd_v (opv_rep hs hx).1
     have hq : a.eval y = .int k n := rd_v (opv_rep hs hy).1
     exact ⟨.bool r, ⟨⟨0, rfl, rfl⟩, trivial⟩, fun _ _ _ _ _ w' => by simp [execOp, hp, hq, run_cmp hr, cmp_guard]⟩
    ·cases h
   ·cases h
  ·cases h
 ·rename_i m hx
  split at h
  ·rename_i n hy
   split at h
   ·rename_i s b z hi
    have hp : a.eval x = .bool m := rd_v (opv_rep hs hx).1
    have hq : a.eval y = .bool n := rd_v (opv_rep hs hy).1
    obtain ⟨d, hd, hsb⟩ := (hT t _ hi).und
    have hd' : P.underlying t = some .bool := by cases d <;> first | exact hd | (cases hsb; done)
    split at h
    ·cases h
     exact ⟨.bool (m == n), ⟨⟨0, rfl, rfl⟩, trivial⟩, fun _ _ _ _ _ w' => by simp [execOp, hp, hq, binOp, run_equal_bool w' t m n hd', cmp_guard]⟩
    ·cases h
     exact ⟨.bool (!(m == n)), ⟨⟨0, rfl, rfl⟩, trivial⟩, fun _ _ _ _ _ w' => by simp [execOp, hp, hq, binOp, run_equal_bool w' t m n hd', cmp_guard]⟩
    ·cases h
   ·cases h
  ·cases h
 ·rename_i hx
  split at h
  ·rename_i hy
   split at h
   ·rename_i s b z e hi
    have hp : a.eval x = .slice none 0 0 := rd_nil (opv_rep hs hx).1
    have hq : a.eval y = .slice none 0 0 := rd_nil (opv_rep hs hy).1
    obtain ⟨d, hd, hsb⟩ := (hT t _ hi).und
    have hd' : ∃ e', P.underlying t = some (.slice e') := by cases d <;> first | exact ⟨_, hd⟩ | (cases hsb; done)
    obtain ⟨e', hd'⟩ := hd'
    split at h
    ·cases h
     exact ⟨.bool true, ⟨⟨0, rfl, rfl⟩, trivial⟩, fun _ _ _ _ _ w' => by simp [execOp, hp, hq, binOp, run_equal_slice_nil w' t e' none 0 0 hd', cmp_guard]⟩
    ·cases h
     exact ⟨.bool false, ⟨⟨0, rfl, rfl⟩, trivial⟩, fun _ _ _ _ _ w' => by simp [execOp, hp, hq, binOp, run_equal_slice_nil w' t e' none 0 0 hd', cmp_guard]⟩
    ·cases h
   ·cases h
  ·cases h
 ·cases h
theorem q_bin {op : BinOp} {t yt : TypeId} {x y : Operand} {av : AV} (hT : TTOk P TT) (h : qBin TT S op t x y = some av) : Quiet P X S (.binOp op t x y yt) av := (qw_bin hT h).q
def arO : BinOp → Int → Int → Option Int
 | .add, a, b => some (a + b)
 | .sub, a, b => some (a - b)
 | .mul, a, b => some (a * b)
 | _, _, _ => none
theorem qw_ar {op : BinOp} {t yt : TypeId} {x y : Operand} {m n z : Int} (hx : opv S.T x = some (.p false [.c (.v (.int .i64 m))])) (hy : opv S.T y = some (.p false [.c (.v (.int .i64 n))])) (h : arO op m n = some z)
  (hz : -9223372036854775808 ≤ z ∧ z ≤ 9223372036854775807) : QuietW P X S (.binOp op t x y yt) (.p false [.c (.v (.int .i64 z))]) := by
 refine fun ρ a w hs => ⟨.int .i64 z, ⟨⟨0, rfl, rfl⟩, trivial⟩, fun _ _ _ _ _ w' => ?_⟩
 have hp : a.eval x = .int .i64 m := rd_v (opv_rep hs hx).1
 have hq : a.eval y = .int .i64 n := rd_v (opv_rep hs hy).1
 have hw := IntWalk.i64_in z hz
 cases op <;> first | (cases h; done) | (cases h; simp [execOp, hp, hq, binOp, Op.intArith, cmp_guard, hw])
theorem q_ar {op : BinOp} {t yt : TypeId} {x y : Operand} {m n z : Int} (hx : opv S.T x = some (.p false [.c (.v (.int .i64 m))])) (hy : opv S.T y = some (.p false [.c (.v (.int .i64 n))])) (h : arO op m n = some z)
 (hz : -9223372036854775808 ≤ z ∧ z ≤ 9223372036854775807) : Quiet P X S (.binOp op t x y yt) (.p false [.c (.v (.int .i64 z))]) := (qw_ar hx hy h hz).q
theorem qw_rem {t yt : TypeId} {x y : Operand} {m n : Int} (hx : opv S.T x = some (.p false [.c (.v (.int .i64 m))])) (hy : opv S.T y = some (.p false [.c (.v (.int .i64 n))])) (hn : n ≠ 0) : QuietW P X S (.binOp .rem t x y yt) (.p false [.c (.v (.int .i64 (m.tmod n)))]) := by
 refine fun ρ a w hs => ⟨.int .i64 (m.tmod n), ⟨⟨0, rfl, rfl⟩, trivial⟩, fun _ _ _ _ _ w' => ?_⟩
 have hp : a.eval x = .int .i64 m := rd_v (opv_rep hs hx).1
 have hq : a.eval y = .int .i64 n := rd_v (opv_rep hs hy).1
 simp [execOp, hp, hq, binOp, Op.intDiv, cmp_guard, hn]
theorem q_rem {t yt : TypeId} {x y : Operand} {m n : Int} (hx : opv S.T x = some (.p false [.c (.v (.int .i64 m))])) (hy : opv S.T y = some (.p false [.c (.v (.int .i64 n))])) (hn : n ≠ 0) : Quiet P X S (.binOp .rem t x y yt) (.p false [.c (.v (.int .i64 (m.tmod n)))]) := (qw_rem hx hy hn).q
theorem q_rem_pos {t yt : TypeId} {x y : Operand} {m n : Int} (hx : opv S.T x = some (.p false [.c (.v (.int .i64 m))])) (hy : opv S.T y = some (.p false [.c (.v (.int .i64 n))])) (h : 0 ≤ m ∧ 0 < n) : Quiet P X S (.binOp .rem t x y yt) (.p false [.c (.v (.int .i64 (m % n)))]) := by
 have := q_rem (P := P) (X := X) (S := S) (t := t) (yt := yt) hx hy om
 rwa [Int.tmod_eq_emod_of_nonneg h.1] at this
theorem qw_quo_pos {t yt : TypeId} {x y : Operand} {m n : Int} (hx : opv S.T x = some (.p false [.c (.v (.int .i64 m))])) (hy : opv S.T y = some (.p false [.c (.v (.int .i64 n))])) (h : 0 ≤ m ∧ m ≤ 9223372036854775807 ∧ 0 < n) : QuietW P X S (.binOp .quo t x y yt) (.p false [.c (.v (.int .i64 (m / n)))]) := by
 refine fun ρ a w hs => ⟨.int .i64 (m / n), ⟨⟨0, rfl, rfl⟩, trivial⟩, fun _ _ _ _ _ w' => ?_⟩
 have hp : a.eval x = .int .i64 m := rd_v (opv_rep hs hx).1
 have hq : a.eval y = .int .i64 n := rd_v (opv_rep hs hy).1
 have e : m.tdiv n = m / n := Int.tdiv_eq_ediv_of_nonneg h.1
 have h0 : 0 ≤ m / n := Int.ediv_nonneg h.1 om
 have h1 : m / n ≤ m := Int.ediv_le_self _ h.1
 have hw := IntWalk.i64_in (m / n) om
 have hn : n ≠ 0 := by omega
 simp [execOp, hp, hq, binOp, Op.intDiv, cmp_guard, hn, e, hw]
theorem q_quo_pos {t yt : TypeId} {x y : Operand} {m n : Int} (hx : opv S.T x = some (.p false [.c (.v (.int .i64 m))])) (hy : opv S.T y = some (.p false [.c (.v (.int .i64 n))])) (h : 0 ≤ m ∧ m ≤ 9223372036854775807 ∧ 0 < n) : Quiet P X S (.binOp .quo t x y yt) (.p false [.c (.v (.int .i64 (m / n)))]) := (qw_quo_pos hx hy h).q
def qNot (S : St) (x : Operand) : Option AV :=
 match opv S.T x with
 | some (.p false [.c (.v (.bool b))]) => match b with
  | true => some (.p false [.c (.v (.bool false))])
  | false => some (.p false [.c (.v (.bool true))])
 | _ => none
theorem qw_not {t : TypeId} {x : Operand} {b : Bool} (hx : opv S.T x = some (.p false [.c (.v (.bool b))])) : QuietW P X S (.unOp .not t x) (.p false [.c (.v (.bool !b))]) := by
 refine fun ρ a w hs => ⟨.bool !b, ⟨⟨0, rfl, rfl⟩, trivial⟩, fun _ _ _ _ _ w' => ?_⟩
 have hp : a.eval x = .bool b := rd_v (opv_rep hs hx).1
 simp [execOp, hp, Op.unary]
theorem q_not {t : TypeId} {x : Operand} {b : Bool} (hx : opv S.T x = some (.p false [.c (.v (.bool b))])) : Quiet P X S (.unOp .not t x) (.p false [.c (.v (.bool !b))]) := (qw_not hx).q
theorem q_notL {t : TypeId} {x : Operand} {av : AV} (h : qNot S x = some av) : Quiet P X S (.unOp .not t x) av := by
 unfold qNot at h
 split at h
 ·rename_i b hx
  have := q_not (P := P) (X := X) (t := t) hx
  cases b <;> (cases h; exact this)
 ·cases h
def qExt (S : St) (x : Operand) (i : Nat) : Option AV :=
 match opv S.T x with
 | some (.tup ps) => match nthO i ps with
  | some (b, l) => some (.p b l)
  | none => none
 | _ => none
theorem qw_ext {x : Operand} {i : Nat} {av : AV} (h : qExt S x i = some av) : QuietW P X S (.extract x i) av := by
 refine fun ρ a w hs => ?_
 unfold qExt at h
 split at h
 ·rename_i ps hx
  split at h
  ·rename_i b l hn
   cases h
   obtain ⟨vs, hp, hr⟩ := opv_rep hs hx
   obtain ⟨v, h1, h2⟩ := hr.get (nthO_eq hn)
   exact ⟨v, h2, fun _ _ _ _ _ w' => by simp [execOp, Instr.extract, hp, h1]⟩
  ·cases h
 ·cases h
theorem q_ext {x : Operand} {i : Nat} {av : AV} (h : qExt S x i = some av) : Quiet P X S (.extract x i) av := (qw_ext h).q
def eSz (TT : List (Nat × TI)) (t : TypeId) : Option (Nat × Nat) :=
 match lk TT t with
 | some ⟨_, _, _, .sl e⟩ => match lk TT e with
  | some i => some (e, i.size)
  | none => none
 | _ => none
theorem eSz_ok {t e n : Nat} (hT : TTOk P TT) (h : eSz TT t = some (e, n)) : P.underlying t = some (.slice e) ∧ ∃ i, TOk P e i ∧ i.size = n := by
 unfold eSz at h
 split at h
 ·rename_i s b z e' hi
  split at h
  ·rename_i i he
   cases h
   obtain ⟨d, hd, hsb⟩ := (hT t _ hi).und
   have hd' : P.underlying t = some (.slice e) := by
    cases d <;> first | (cases hsb; done) | skip
    simp only [shB, decide_eq_true_eq] at hsb
    rw [← hsb]; exact hd
   exact ⟨hd', i, hT e i he, rfl⟩
  ·cases h
 ·cases h
theorem q_len {t : TypeId} {x : Operand} {e m n : Nat} {l : List (List C)} (hT : TTOk P TT) (ht : eSz TT t = some (e, m)) (hx : opv S.T x = some (.p false [.c (.s n l)])) :
  Quiet P X S (.call ⟨.builtin .len, #[x], #[t]⟩) (.p false [.c (.v (.int .i64 l.length))]) := by
 refine quiet_of fun ρ a w hs => ⟨.int .i64 l.length, ⟨⟨0, rfl, rfl⟩, trivial⟩, fun _ _ _ _ _ w' => ?_⟩
 obtain ⟨ao, cap, hp, _⟩ := rd_s (opv_rep hs hx).1
 simp [execOp, resolve, invoke, builtin, Builtin.len_, run_underlying (eSz_ok hT ht).1, hp, goInt]
theorem q_len_map {α : Type} {f : α → List C} {L : List α} {t : TypeId} {x : Operand} {e m n : Nat} (hT : TTOk P TT) (ht : eSz TT t = some (e, m)) (hx : opv S.T x = some (.p false [.c (.s n (List.map f L))])) :
  Quiet P X S (.call ⟨.builtin .len, #[x], #[t]⟩) (.p false [.c (.v (.int .i64 L.length))]) := by
 have := q_len (P := P) (X := X) hT ht hx
 rwa [List.length_map] at this
theorem own_slice {w : World} {ty n : Nat} {l : List (List C)} {u : Value} {xs : List Value} {F : List Nat} (h : OwS w ty n l u xs F) : ∃ ao cap, u = .slice ao l.length cap ∧ l.length ≤ cap ∧ cap ≤ maxLen ∧ (l = [] ∨ ∃ g, ao = some ⟨g, 0, none⟩ ∧ u.ownBlock = some g) := by
 obtain ⟨Fs, ⟨h1, _⟩, _⟩ := h
 rcases h1.2 with ⟨rfl, h0⟩ | ⟨g, cap, cur, rfl, _, _, hnc, hcm, _⟩
 ·exact ⟨none, 0, by rw [h0], by omega, by simp [maxLen], .inl (List.eq_nil_of_length_eq_zero h0)⟩
 ·exact ⟨_, cap, rfl, hnc, hcm, .inr ⟨g, rfl, rfl⟩⟩
theorem q_len_rt {t : TypeId} {x : Operand} {e m r ty n : Nat} {l : List (List C)} (hT : TTOk P TT) (ht : eSz TT t = some (e, m)) (hx : opv S.T x = some (.p false [.rt r])) (hr : lk S.R r = some (ty, n, l)) :
  Quiet P X S (.call ⟨.builtin .len, #[x], #[t]⟩) (.p false [.c (.v (.int .i64 l.length))]) := by
 refine quiet_of fun ρ a w hs => ⟨.int .i64 l.length, ⟨⟨0, rfl, rfl⟩, trivial⟩, fun _ _ _ _ _ w' => ?_⟩
 have hp : a.eval x = ρ.root r := (opv_rep hs hx).1.1
 obtain ⟨ao, cap, hu, _⟩ := own_slice (hs.hp.R _ (lk_mem hr))
 rw [hu] at hp
 simp [execOp, resolve, invoke, builtin, Builtin.len_, run_underlying (eSz_ok hT ht).1, hp, goInt]
theorem TOk.size' {e n : Nat} {i : TI} {w : World} (h : TOk P e i) (hn : i.size = n) : (Go.sizeOf e).run P w = .ok n w := by rw [← hn]; exact h.sizeOf
theorem qw_ix {t : TypeId} {x ix : Operand} {e n m : Nat} {l : List (List C)} {cs : List C} {i : Int} {k : IntKind} (hT : TTOk P TT) (ht : eSz TT t = some (e, n)) (hx : opv S.T x = some (.p false [.c (.s n l)])) (hi : opv S.T ix = some (.p false [.c (.v (.int k i))]))
  (him : i = (m : Int)) (hm : l[m]? = some cs) : QuietW P X S (.indexAddr t x ix) (.p false [.pe cs]) := by
 refine fun ρ a w hs => ?_
 obtain ⟨ao, cap, hp, h1, h2, h3, h4⟩ := rd_s (opv_rep hs hx).1
 have hq : a.eval ix = .int k i := rd_v (opv_rep hs hi).1
 have hml : m < l.length := (List.getElem?_eq_some_iff.1 hm).1
 obtain ⟨hu, inf, hin, hsz⟩ := eSz_ok hT ht
 rcases h4 with rfl | ⟨b, off, rfl, h5⟩
 ·simp at hm
 ·refine ⟨.pointer (some ⟨b, off + m * n, none⟩), ⟨⟨b, off + m * n, rfl, fun j c hj => h5 m cs hm j c hj⟩, trivial⟩, fun _ _ _ _ _ w' => ?_⟩
  subst him
  simp [execOp, Instr.indexAt, hp, hq, asIntOf, run_underlying hu, hml, hin.size' hsz, addr_add]
theorem q_ix {t : TypeId} {x ix : Operand} {e n m : Nat} {l : List (List C)} {cs : List C} {i : Int} {k : IntKind} (hT : TTOk P TT) (ht : eSz TT t = some (e, n)) (hx : opv S.T x = some (.p false [.c (.s n l)])) (hi : opv S.T ix = some (.p false [.c (.v (.int k i))]))
 (him : i = (m : Int)) (hm : l[m]? = some cs) : Quiet P X S (.indexAddr t x ix) (.p false [.pe cs]) := (qw_ix hT ht hx hi him hm).q
theorem q_ix_map {α : Type} {f : α → List C} {L : List α} {t : TypeId} {x ix : Operand} {e n : Nat} {m : Nat} {i : Int} {k : IntKind} (hT : TTOk P TT) (ht : eSz TT t = some (e, n)) (hx : opv S.T x = some (.p false [.c (.s n (List.map f L))])) (hi : opv S.T ix = some (.p false [.c (.v (.int k i))]))
  (him : i = (m : Int)) (hm : m < L.length) : Quiet P X S (.indexAddr t x ix) (.p false [.pe (f L[m])]) :=
 q_ix hT ht hx hi him (by rw [List.getElem?_map, List.getElem?_eq_getElem hm]; rfl)
theorem q_ix_rt {t : TypeId} {x ix : Operand} {e n n' m r ty : Nat} {l : List (List C)} {i : Int} {k : IntKind} (hT : TTOk P TT) (ht : eSz TT t = some (e, n)) (hx : opv S.T x = some (.p false [.rt r])) (hr : lk S.R r = some (ty, n', l)) (hn : n = n')
  (hi : opv S.T ix = some (.p false [.c (.v (.int k i))])) (him : i = (m : Int)) (hm : m < l.length) : Quiet P X S (.indexAddr t x ix) (.p false [.pr r n m 0]) := by
 subst hn
 refine quiet_of fun ρ a w hs => ?_
 have hp : a.eval x = ρ.root r := (opv_rep hs hx).1.1
 have hq : a.eval ix = .int k i := rd_v (opv_rep hs hi).1
 obtain ⟨ao, cap, hu, h1, h2, h3⟩ := own_slice (hs.hp.R _ (lk_mem hr))
 obtain ⟨hun, inf, hin, hsz⟩ := eSz_ok hT ht
 have hz : ¬ l = [] := by intro e; subst e; simp at hm
 obtain ⟨g, rfl, hob⟩ := h3.resolve_left hz
 rw [hu] at hp
 refine ⟨.pointer (some ⟨g, m * n, none⟩), ⟨⟨g, hob, rfl⟩, trivial⟩, fun _ _ _ _ _ w' => ?_⟩
 subst him
 simp [execOp, Instr.indexAt, hp, hq, asIntOf, run_underlying hun, hm, hin.size' hsz, addr_add]
theorem q_len_rtm {α : Type} {f : α → List C} {L : List α} {t : TypeId} {x : Operand} {e m r ty n : Nat} (hT : TTOk P TT) (ht : eSz TT t = some (e, m)) (hx : opv S.T x = some (.p false [.rt r])) (hr : lk S.R r = some (ty, n, List.map f L)) :
  Quiet P X S (.call ⟨.builtin .len, #[x], #[t]⟩) (.p false [.c (.v (.int .i64 L.length))]) := by
 have := q_len_rt (P := P) (X := X) hT ht hx hr
 rwa [List.length_map] at this
def subs (r n k : Nat) : Nat → List C → List AC
 | _, [] => []
 | j, .v x :: cs => .c (.v x) :: subs r n k (j + 1) cs
 | j, .nil :: cs => .c .nil :: subs r n k (j + 1) cs
 | j, .s _ _ :: cs => .sub r n k j :: subs r n k (j + 1) cs
 | j, .hole :: cs => .no :: subs r n k (j + 1) cs
end
def mentB (d : Nat) : AC → Bool
 | .pb b _ => Nat.beq b d
 | .mp b => Nat.beq b d
 | .ib _ b => Nat.beq b d
 | .fn _ cap => cap.any fun p => Nat.beq p.1 d
 | _ => false
def mentR (d : Nat) : AC → Bool
 | .rt r => Nat.beq r d
 | .sub r _ _ _ => Nat.beq r d
 | .pr r _ _ _ => Nat.beq r d
 | _ => false
def noL (m : AC → Bool) : List AC → Bool
 | [] => true
 | x :: r => match m x with
  | true => false
  | false => noL m r
def noPs (m : AC → Bool) : List (Bool × List AC) → Bool
  | [] => true
  | (_, l) :: r => match noL m l with
    | true => noPs m r
    | false => false
def noV (m : AC → Bool) : AV → Bool
 | .p _ l => noL m l
 | .tup ps => noPs m ps
 | .no => true
 | .und => true
def noT (m : AC → Bool) : List (Nat × AV) → Bool
  | [] => true
  | (_, v) :: r => match noV m v with
    | true => noT m r
    | false => false
def noBs (m : AC → Bool) : List (Nat × Nat × List AC) → Bool
  | [] => true
  | (_, _, l) :: r => match noL m l with
    | true => noBs m r
    | false => false
def noK {α : Type} (d : Nat) : List (Nat × α) → Bool
  | [] => true
  | (k, _) :: r => match Nat.beq k d with
    | true => false
    | false => noK d r
theorem noL_mem {m : AC → Bool} : ∀ {l : List AC}, noL m l = true → ∀ x ∈ l, m x = false
 | [], _, x, hx => by simp at hx
 | y :: r, h, x, hx => by
  unfold noL at h
  split at h
  ·cases h
  ·rename_i hy
   rcases List.mem_cons.1 hx with rfl | hx
   ·exact hy
   ·exact noL_mem h x hx
theorem noT_mem {m : AC → Bool} : ∀ {T : List (Nat × AV)}, noT m T = true → ∀ x ∈ T, noV m x.2 = true
  | [], _, x, hx => by simp at hx
  | (k, v) :: r, h, x, hx => by
    unfold noT at h
    split at h
    · rename_i hv
      rcases List.mem_cons.1 hx with rfl | hx
      · exact hv
      · exact noT_mem h x hx
    · cases h
theorem noBs_mem {m : AC → Bool} : ∀ {T : List (Nat × Nat × List AC)}, noBs m T = true → ∀ x ∈ T, noL m x.2.2 = true
  | [], _, x, hx => by simp at hx
  | (k, y, v) :: r, h, x, hx => by
    unfold noBs at h
    split at h
    · rename_i hv
      rcases List.mem_cons.1 hx with rfl | hx
      · exact hv
      · exact noBs_mem h x hx
    · cases h
theorem noK_mem {α : Type} {d : Nat} : ∀ {T : List (Nat × α)}, noK d T = true → ∀ x ∈ T, x.1 ≠ d
  | [], _, x, hx => by simp at hx
  | (k, v) :: r, h, x, hx => by
    unfold noK at h
    split at h
    · cases h
    · rename_i hv
      rcases List.mem_cons.1 hx with rfl | hx
      · intro e; simp only at e; subst e; simp at hv
      · exact noK_mem h x hx
def freshB (d : Nat) (S : St) : Bool := noT (mentB d) S.T && (noBs (mentB d) S.B && (noK d S.B && noK d S.M))
def freshR (d : Nat) (S : St) : Bool := noT (mentR d) S.T && (noBs (mentR d) S.B && noK d S.R)
def Rho.setBox (ρ : Rho) (d g : Nat) : Rho := { ρ with box := fun b => if b = d then g else ρ.box b }
def Rho.setRoot (ρ : Rho) (d : Nat) (u : Value) (xs : List Value) (F : List Nat) : Rho := { ρ with root := fun b => if b = d then u else ρ.root b, rows := fun b => if b = d then xs else ρ.rows b, foot := fun b => if b = d then F else ρ.foot b }
section
variable {ρ σ : Rho} {d g : Nat} {S : St} {w : World}
theorem beq_f {a b : Nat} (h : Nat.beq a b = false) : a ≠ b := by intro e; subst e; simp at h
theorem RepC.setBox {x : AC} {u : Value} (h : RepC ρ x u) (hx : mentB d x = false) : RepC (ρ.setBox d g) x u := by
 cases x with
 | pb b o =>
  have hb : b ≠ d := beq_f hx
  show u = .pointer (some ⟨if b = d then g else ρ.box b, o, none⟩)
  rw [if_neg hb]; exact h
 | mp b =>
  have hb : b ≠ d := beq_f hx
  show u = .map (some (if b = d then g else ρ.box b))
  rw [if_neg hb]; exact h
 | ib t b =>
  have hb : b ≠ d := beq_f hx
  show u = .iface t (.pointer (some ⟨if b = d then g else ρ.box b, 0, none⟩))
  rw [if_neg hb]; exact h
 | fn f cap =>
  show u = .func f #[] (cap.map fun p => Value.pointer (some ⟨if p.1 = d then g else ρ.box p.1, p.2, none⟩)).toArray
  have e : (cap.map fun p => Value.pointer (some ⟨if p.1 = d then g else ρ.box p.1, p.2, none⟩)) = cap.map fun p => Value.pointer (some ⟨ρ.box p.1, p.2, none⟩) := by
   refine List.map_congr_left fun p hp => ?_
   have hb : p.1 ≠ d := by
    have := List.any_eq_false.1 hx p hp
    exact fun e => by rw [e] at this; simp at this
   rw [if_neg hb]
  rw [e]; exact h
 | _ => exact h
theorem RepC.setRoot {x : AC} {u v : Value} {xs : List Value} {F : List Nat} (h : RepC ρ x u) (hx : mentR d x = false) : RepC (ρ.setRoot d v xs F) x u := by
 cases x with
 | rt r =>
  have hb : r ≠ d := beq_f hx
  show u = (if r = d then v else ρ.root r) ∧ _
  rw [if_neg hb]; exact h
 | sub r n k j =>
  have hb : r ≠ d := beq_f hx
  show (if r = d then xs else ρ.rows r)[k * n + j]? = some u ∧ _
  rw [if_neg hb]; exact h
 | pr r n k o =>
  have hb : r ≠ d := beq_f hx
  show ∃ g, (if r = d then v else ρ.root r).ownBlock = some g ∧ _
  rw [if_neg hb]; exact h
 | _ => exact h
theorem L2.monoM {α β : Type} {R T : α → β → Prop} : ∀ {l : List α} {m : List β}, L2 R l m → (∀ a b, a ∈ l → R a b → T a b) → L2 T l m
 | [], [], _, _ => trivial
 | a :: l, b :: m, h, hm => ⟨hm a b (by simp) h.1, L2.monoM h.2 fun a b ha => hm a b (by simp [ha])⟩
 | [], _ :: _, h, _ => h.elim
 | _ :: _, [], h, _ => h.elim
theorem noPs_mem {m : AC → Bool} : ∀ {l : List (Bool × List AC)}, noPs m l = true → ∀ x ∈ l, noL m x.2 = true
  | [], _, x, hx => by simp at hx
  | (b, y) :: r, h, x, hx => by
    unfold noPs at h
    split at h
    · rename_i hy
      rcases List.mem_cons.1 hx with rfl | hx
      · exact hy
      · exact noPs_mem h x hx
    · cases h
theorem RepP.tr {m : AC → Bool} (hC : ∀ x u, m x = false → RepC ρ x u → RepC σ x u) {x : Bool × List AC} {u : Value} (h : RepP ρ x u) (hn : noL m x.2 = true) : RepP σ x u := by
 unfold RepP at *
 split
 ·rename_i hb
  rw [if_pos hb] at h
  obtain ⟨vs, rfl, h2⟩ := h
  exact ⟨vs, rfl, h2.monoM fun a b ha => hC a b (noL_mem hn a ha)⟩
 ·rename_i hb
  rw [if_neg hb] at h
  exact h.monoM fun a b ha => hC a b (noL_mem hn a ha)
theorem RepV.tr {m : AC → Bool} (hC : ∀ x u, m x = false → RepC ρ x u → RepC σ x u) {av : AV} {u : Value} (h : RepV ρ av u) (hn : noV m av = true) : RepV σ av u := by
 cases av with
 | p b l => exact RepP.tr hC h hn
 | tup ps =>
  obtain ⟨vs, rfl, h2⟩ := h
  exact ⟨vs, rfl, h2.monoM fun a b ha hr => RepP.tr hC hr (noPs_mem hn a ha)⟩
 | no => trivial
 | und => exact h
theorem Sim.tr {X : Cx} {a : Act} {T : List (Nat × AV)} {m : AC → Bool} (hC : ∀ x u, m x = false → RepC ρ x u → RepC σ x u) (hn : noT m T = true) (h : ∀ t av, lk T t = some av → ∃ v, a.tmps[t]? = some v ∧ RepV ρ av v) :
  ∀ t av, lk T t = some av → ∃ v, a.tmps[t]? = some v ∧ RepV σ av v := fun t av ht => by
 obtain ⟨v, h1, h2⟩ := h t av ht
 exact ⟨v, h1, RepV.tr hC h2 (noT_mem hn _ (lk_mem ht))⟩
theorem Hp.newbox (h : Hp ρ S w) {T : List (Nat × AV)} {ty : Nat} {cs : List AC} {vs : List Value} (hf : freshB d S = true) (hcs : noL (mentB d) cs = true) (hr : L2 (RepC ρ) cs vs) :
  Hp (ρ.setBox d w.heap.size) ⟨T, (d, ty, cs) :: S.B, S.R, S.M⟩ (w.alloc (.cells vs.toArray ty)) := by
 simp only [freshB, Bool.and_eq_true] at hf
 obtain ⟨_, f2, f3, f4⟩ := hf
 have hold : ∀ b, b < w.heap.size → (w.alloc (.cells vs.toArray ty)).heap[b]? = w.heap[b]? := fun b hb => Below.heap_alloc w _ b hb
 have hnew := heap_alloc_new w (.cells vs.toArray ty)
 have hfeet : feet (ρ.setBox d w.heap.size) ⟨T, (d, ty, cs) :: S.B, S.R, S.M⟩ = w.heap.size :: feet ρ S := by
  have e1 : S.B.map (fun x => (ρ.setBox d w.heap.size).box x.1) = S.B.map fun x => ρ.box x.1 := List.map_congr_left fun x hx => by
   show (if x.1 = d then w.heap.size else ρ.box x.1) = ρ.box x.1
   rw [if_neg (noK_mem f3 x hx)]
  have e2 : S.M.map (fun x => (ρ.setBox d w.heap.size).box x.1) = S.M.map fun x => ρ.box x.1 := List.map_congr_left fun x hx => by
   show (if x.1 = d then w.heap.size else ρ.box x.1) = ρ.box x.1
   rw [if_neg (noK_mem f4 x hx)]
  unfold feet
  simp only [List.map_cons, e1, e2]
  show (if d = d then w.heap.size else ρ.box d) :: _ = _
  rw [if_pos rfl]
  rfl
 have hlt := h.lt
 refine ⟨fun b o hb => ?_, fun x hx => ?_, fun x hx => ?_, fun x hx => ?_, ?_, ?_⟩
 ·have := h.H b o hb
  rw [hold b (heap_lt this)]; exact this
 ·rcases List.mem_cons.1 hx with rfl | hx
  ·refine ⟨vs, ?_, hr.monoM fun a b ha hab => hab.setBox (noL_mem hcs a ha)⟩
   show (w.alloc _).heap[if d = d then w.heap.size else ρ.box d]? = _
   rw [if_pos rfl]; exact hnew
  ·obtain ⟨us, h1, h2⟩ := h.B x hx
   refine ⟨us, ?_, h2.monoM fun a b ha hab => hab.setBox (noL_mem (noBs_mem f2 x hx) a ha)⟩
   show (w.alloc _).heap[if x.1 = d then w.heap.size else ρ.box x.1]? = _
   rw [if_neg (noK_mem f3 x hx), hold _ (heap_lt h1)]; exact h1
 ·exact (h.R x hx).keep fun b hb => hold b ((h.R x hx).lt b hb)
 ·obtain ⟨es, c, h1, h2⟩ := h.M x hx
  refine ⟨es, c, ?_, h2⟩
  show (w.alloc _).heap[if x.1 = d then w.heap.size else ρ.box x.1]? = _
  rw [if_neg (noK_mem f4 x hx), hold _ (heap_lt h1)]; exact h1
 ·rw [hfeet]
  exact List.nodup_cons.2 ⟨fun hm => Nat.lt_irrefl _ (hlt _ hm), h.nd⟩
 ·rw [hfeet]
  intro b hb
  rcases List.mem_cons.1 hb with rfl | hb
  ·show ρ.H w.heap.size = none
   cases ho : ρ.H w.heap.size with
   | none => rfl
   | some o => exact absurd (heap_lt (h.H _ o ho)) (Nat.lt_irrefl _)
  ·exact h.dj b hb
theorem feet_newbox {T : List (Nat × AV)} {ty : Nat} {cs : List AC} (hf : freshB d S = true) : feet (ρ.setBox d g) ⟨T, (d, ty, cs) :: S.B, S.R, S.M⟩ = g :: feet ρ S := by
 simp only [freshB, Bool.and_eq_true] at hf
 obtain ⟨_, f2, f3, f4⟩ := hf
 have e1 : S.B.map (fun x => (ρ.setBox d g).box x.1) = S.B.map fun x => ρ.box x.1 := List.map_congr_left fun x hx => by
  show (if x.1 = d then g else ρ.box x.1) = ρ.box x.1
  rw [if_neg (noK_mem f3 x hx)]
 have e2 : S.M.map (fun x => (ρ.setBox d g).box x.1) = S.M.map fun x => ρ.box x.1 := List.map_congr_left fun x hx => by
  show (if x.1 = d then g else ρ.box x.1) = ρ.box x.1
  rw [if_neg (noK_mem f4 x hx)]
 unfold feet
 simp only [List.map_cons, e1, e2]
 show (if d = d then g else ρ.box d) :: _ = _
 rw [if_pos rfl]
 rfl
theorem Sim.newbox {X : Cx} {a : Act} (h : Sim X ρ S a w) {ty : Nat} {cs : List AC} {vs : List Value} (hN : okD X d = true) (hf : freshB d S = true) (hcs : noL (mentB d) cs = true) (hr : L2 (RepC ρ) cs vs) :
  Sim X (ρ.setBox d w.heap.size) ⟨(d, .p false [.pb d 0]) :: S.T, (d, ty, cs) :: S.B, S.R, S.M⟩ (a.put (some d) (.pointer (some ⟨w.heap.size, 0, none⟩))) (w.alloc (.cells vs.toArray ty)) := by
 have hf' := hf
 simp only [freshB, Bool.and_eq_true] at hf'
 have hb : Below w.heap.size w (w.alloc (.cells vs.toArray ty)) := (Below.refl _ _).alloc (Nat.le_refl _) _
 have h0 : Sim X (ρ.setBox d w.heap.size) ⟨S.T, (d, ty, cs) :: S.B, S.R, S.M⟩ a (w.alloc (.cells vs.toArray ty)) := by
  refine ⟨h.hp.newbox hf hcs hr, Sim.tr (m := mentB d) (X := X) (fun x u hx hu => hu.setBox hx) hf'.1 h.T, h.df, h.sz, h.fr.step (Chg.of_below (F := []) hb) (by simp), fun b hb2 => ?_⟩
  rw [feet_newbox hf] at hb2
  rcases List.mem_cons.1 hb2 with rfl | hb2
  ·exact .inr h.fr.size
  ·exact h.ft b hb2
 refine h0.put hN ⟨?_, trivial⟩
 show _ = Value.pointer (some ⟨if d = d then w.heap.size else ρ.box d, 0, none⟩)
 rw [if_pos rfl]
end
def Eff (P : Program) (X : Cx) (S : St) (d : Option Tmp) (op : Op) (S' : St) (fr : Bool) : Prop :=
 ∀ ρ a w, Sim X ρ S a w → ∃ ρ' nx v w', (∀ ty pos af g, (execOp a.eval ⟨d, op, ty, pos, af, g⟩).run P w = .ok nx w') ∧ (nx = .value v ∨ (nx = .skip ∧ v = undef)) ∧ Sim X ρ' S' (a.put d v) w' ∧ (fr = true → Below w.heap.size w w')
section
variable {P : Program} {X : Cx} {S : St} {TT : List (Nat × TI)} {d : Nat}
theorem cells_mk {g : Bool} {us : List Value} (h1 : g = false → us.length = 1) (h : ∀ u ∈ us, u.oneCell' = true) : (mkV g us).cells = us.toArray := by
 unfold mkV
 cases g
 ·have := headD_one (h1 rfl)
  simp only [Bool.false_eq_true, if_false]
  rw [cells_one (h _ (by rw [this]; simp)), ← this]
 ·rfl
theorem L2.ones {ρ : Rho} : ∀ {l : List AC} {us : List Value}, L2 (RepC ρ) l us → ∀ u ∈ us, u.oneCell' = true
 | [], [], _, u, hu => by simp at hu
 | x :: l, v :: us, h, u, hu => by
  rcases List.mem_cons.1 hu with rfl | hu
  ·exact h.1.one
  ·exact L2.ones h.2 u hu
 | [], _ :: _, h, _, _ => h.elim
 | _ :: _, [], h, _, _ => h.elim
theorem run_newVar {ty : TypeId} {v : Value} {w : World} : (newVar ty v).run P w = .ok ⟨w.heap.size, 0, none⟩ (w.alloc (.cells v.cells ty)) := rfl
theorem run_alloc {ty : TypeId} {z : Value} {w : World} (hz : (zeroValue ty).run P w = .ok z w) : (Instr.alloc ty true (.tuple #[])).run P w = .ok (.pointer (some ⟨w.heap.size, 0, none⟩)) (w.alloc (.cells z.cells ty)) := by
 unfold Instr.alloc
 simp only [Sem.run_bind, hz, Result.andThen_ok]
 rfl
theorem e_box {T : List (Nat × AV)} {B : List (Nat × Nat × List AC)} {R : List (Nat × Nat × Nat × List (List C))} {M : List (Nat × (Int → Option Value))} {ty : TypeId} {x : Operand} {b : Bool} {l : List AC} (hx : opv T x = some (.p b l)) (hN : okD X d = true) (hf : freshB d ⟨T, B, R, M⟩ = true) (hl : noL (mentB d) l = true) :
  Eff P X ⟨T, B, R, M⟩ (some d) (.box ty x) ⟨(d, .p false [.pb d 0]) :: T, (d, ty, l) :: B, R, M⟩ true := by
 intro ρ a w hs
 obtain ⟨us, h1, h2, h3⟩ := rep_cells (opv_rep hs hx)
 refine ⟨_, .value (.pointer (some ⟨w.heap.size, 0, none⟩)), _, w.alloc (.cells us.toArray ty), fun _ _ _ _ => ?_, .inl rfl, hs.newbox hN hf hl h1, fun _ => (Below.refl _ _).alloc (Nat.le_refl _) _⟩
 have hc := cells_mk h3 h1.ones
 simp [execOp, Instr.box, run_newVar, h2, hc]
theorem e_alloc {T : List (Nat × AV)} {B : List (Nat × Nat × List AC)} {R : List (Nat × Nat × Nat × List (List C))} {M : List (Nat × (Int → Option Value))} {ty : TypeId} {i : TI} {l : List AC} (hT : TTOk P TT) (ht : lk TT ty = some i) (hl0 : mapOO i.zero = some l) (hN : okD X d = true) (hf : freshB d ⟨T, B, R, M⟩ = true) :
  Eff P X ⟨T, B, R, M⟩ (some d) (.alloc ty) ⟨(d, .p false [.pb d 0]) :: T, (d, ty, l) :: B, R, M⟩ true := by
 intro ρ a w hs
 have hl := mapOO_eq hl0
 have hi := hT ty i ht
 have hz : ∀ zs : List C, (∀ c ∈ zs, (∀ H, RdX H c (cv c)) ∧ ∀ w, OwX w c (cv c) []) → L2 (RepC ρ) (mapCO zs) (zs.map cv) := by
  intro zs
  induction zs with
  | nil => intro _; trivial
  | cons c zs ih => exact fun h => ⟨(h c (by simp)).1 _, ih fun c hc => h c (by simp [hc])⟩
 have h1 := hz i.zero hi.zero
 have hcl : noL (mentB d) l = true := by
  subst hl
  have : ∀ zs : List C, noL (mentB d) (mapCO zs) = true := by
   intro zs
   induction zs with
   | nil => rfl
   | cons c zs ih => exact ih
  exact this _
 subst hl
 refine ⟨_, .value (.pointer (some ⟨w.heap.size, 0, none⟩)), _, w.alloc (.cells (i.zero.map cv).toArray ty), fun _ _ _ _ => ?_, .inl rfl, hs.newbox hN hf hcl h1, fun _ => (Below.refl _ _).alloc (Nat.le_refl _) _⟩
 have hc := cells_mk (g := i.sh.agg) (us := i.zero.map cv) (fun hg => by rw [List.length_map, hi.len, hi.one hg]) h1.ones
 have hzv := hi.zeroValue (w := w)
 have hr := run_alloc hzv
 rw [show (if i.sh.agg then Value.agg (i.zero.map cv).toArray else (i.zero.map cv).headD undef) = mkV i.sh.agg (i.zero.map cv) from rfl, hc] at hr
 simp only [execOp, Sem.run_bind, hr, Result.andThen_ok, Sem.run_pure]
end
def putO {α : Type} : Nat → List α → List α → Option (List α)
 | 0, [], r => some r
 | 0, _ :: _, [] => none
 | 0, x :: xs, _ :: r => match putO 0 xs r with
  | some r' => some (x :: r')
  | none => none
 | _ + 1, _, [] => none
 | n + 1, xs, y :: r => match putO n xs r with
  | some r' => some (y :: r')
  | none => none
theorem putO_eq {α : Type} : ∀ {n : Nat} {xs r s : List α}, putO n xs r = some s → s = r.take n ++ xs ++ r.drop (n + xs.length) ∧ n + xs.length ≤ r.length
 | 0, [], r, s, h => by simp [putO] at h; subst h; simp
 | 0, _ :: _, [], _, h => by simp [putO] at h
 | 0, x :: xs, y :: r, s, h => by
  unfold putO at h
  split at h
  ·rename_i r' hr
   cases h
   obtain ⟨rfl, h2⟩ := putO_eq hr
   refine ⟨by simp, by simp at h2 ⊢; omega⟩
  ·cases h
 | n + 1, xs, [], _, h => by cases xs <;> simp [putO] at h
 | n + 1, xs, y :: r, s, h => by
  have h' : (match putO n xs r with | some r' => some (y :: r') | none => none) = some s := by
   rw [← h]; cases xs <;> rfl
  split at h'
  ·rename_i r' hr
   cases h'
   obtain ⟨rfl, h2⟩ := putO_eq hr
   refine ⟨?_, by simp; omega⟩
   rw [show n + 1 + xs.length = (n + xs.length) + 1 by omega]
   simp
  ·cases h'
theorem L2.put {α β : Type} {R : α → β → Prop} {n : Nat} {xs r s : List α} {us bs : List β} (h : putO n xs r = some s) (h1 : L2 R r bs) (h2 : L2 R xs us) : L2 R s (bs.take n ++ us ++ bs.drop (n + us.length)) := by
 obtain ⟨rfl, _⟩ := putO_eq h
 rw [h2.len]
 exact ((h1.take n).append h2).append (h1.drop _)
theorem fold_set : ∀ (vs : List Value) (o k : Nat) (cs : Array Value), o + k + vs.length ≤ cs.size →
  ((vs.zipIdx k).foldl (fun cs (p : Value × Nat) => cs.setIfInBounds (o + p.2) p.1) cs) = (cs.toList.take (o + k) ++ vs ++ cs.toList.drop (o + k + vs.length)).toArray
 | [], o, k, cs, _ => by simp
 | v :: vs, o, k, cs, h => by
  simp only [List.length_cons] at h
  rw [List.zipIdx_cons, List.foldl_cons, fold_set vs o (k + 1) _ (by simp; omega)]
  congr 1
  simp only [Array.toList_setIfInBounds]
  have hlt : o + k < cs.toList.length := by simp; omega
  rw [show o + (k + 1) = (o + k) + 1 by omega, List.take_add_one, List.take_set_of_le (Nat.le_refl _), List.drop_set_of_lt om, List.getElem?_set_self hlt]
  simp only [Option.toList_some, List.append_assoc, List.cons_append, List.nil_append, List.length_cons]
  rw [show o + k + (vs.length + 1) = o + k + 1 + vs.length by omega]
def lenB {α : Type} : List α → Nat → Bool
 | [], 0 => true
 | _ :: r, n + 1 => lenB r n
 | _, _ => false
theorem lenB_eq {α : Type} : ∀ {l : List α} {n : Nat}, lenB l n = true → l.length = n
 | [], 0, _ => rfl
 | _ :: r, n + 1, h => by simp [lenB_eq (l := r) h]
 | [], _ + 1, h => by cases h
 | _ :: _, 0, h => by cases h
def qParts (S : St) (pl : Nat → Option (Nat × Nat)) : List (Nat × Operand) → List AC → Option (List AC)
  | [], base => some base
  | (k, x) :: r, base => match pl k with
    | some (off, sz) => match opv S.T x with
      | some (.p _ l) => match lenB l sz with
        | true => match putO off l base with
          | some b' => qParts S pl r b'
          | none => none
        | false => none
      | _ => none
    | none => none
section
variable {P : Program} {X : Cx} {S : St} {TT : List (Nat × TI)} {d : Nat}
theorem qParts_ok {ρ : Rho} {a : Act} {w : World} (hs : Sim X ρ S a w) {pl : Nat → Option (Nat × Nat)} : ∀ {parts : List (Nat × Operand)} {base l : List AC} {bs : List Value}, qParts S pl parts base = some l → L2 (RepC ρ) base bs →
    ∃ us : List Value, Instr.fill pl bs.toArray (parts.map fun (i, x) => (i, a.eval x)) = some us.toArray ∧ L2 (RepC ρ) l us
  | [], base, l, bs, h, hb => by cases h; exact ⟨bs, rfl, hb⟩
  | (k, x) :: r, base, l, bs, h, hb => by
    unfold qParts at h
    split at h
    · rename_i off sz hp
      split at h
      · rename_i g cs hx
        split at h
        · rename_i hl
          split at h
          · rename_i b' hb'
            obtain ⟨vs, h1, h2, h3⟩ := rep_cells (opv_rep hs hx)
            have hlen := lenB_eq hl
            have hput := L2.put hb' hb h1
            obtain ⟨us, h4, h5⟩ := qParts_ok hs h hput
            refine ⟨us, ?_, h5⟩
            have hc := cells_mk h3 h1.ones
            have hvl : vs.length = sz := by rw [h1.len, hlen]
            have hle : off + vs.length ≤ bs.length := by rw [h1.len, hb.len]; exact (putO_eq hb').2
            have hfold := fold_set vs off 0 bs.toArray (by simpa using hle)
            simp only [Nat.add_zero] at hfold
            rw [List.map_cons, Instr.fill]
            simp only [hp, h2, hc]
            rw [if_neg (by simp; omega)]
            have e : (vs.toArray.zipIdx.foldl (fun cs (p : Value × Nat) => cs.setIfInBounds (off + p.2) p.1) bs.toArray) = (bs.take off ++ vs ++ bs.drop (off + vs.length)).toArray := by
              rw [← hfold, ← Array.foldl_toList]
              simp
            have e2 : (vs.toArray.zipIdx.foldl (fun cs (x : Value × Nat) => match x with | (c, j) => cs.setIfInBounds (off + j) c) bs.toArray) = (bs.take off ++ vs ++ bs.drop (off + vs.length)).toArray := e
            rw [e2]
            exact h4
          · cases h
        · cases h
      · cases h
    · cases h
def plc (l : List (Nat × Nat × Bool)) (k : Nat) : Option (Nat × Nat) :=
 match nthO k l with
 | some (o, s, _) => some (o, s)
 | none => none
def qBuild (TT : List (Nat × TI)) (S : St) (t : TypeId) (parts : List (Nat × Operand)) : Option AV :=
 match lk TT t with
 | some i => match i.sh with
  | .st l => match mapOO i.zero with
   | some z => match qParts S (plc l) parts z with
    | some r => some (.p true r)
    | none => none
   | none => none
  | .ar _ _ sz _ => match mapOO i.zero with
   | some z => match qParts S (fun k => some (k * sz, sz)) parts z with
    | some r => some (.p true r)
    | none => none
   | none => none
  | _ => none
 | none => none
theorem fldsB_places : ∀ {fs : List Field} {l : List (Nat × Nat × Bool)}, fldsB P fs l = true → fs.mapM (fun f => (P.info? f.type).map fun i => (f.offset, i.size)) = some (l.map fun x => (x.1, x.2.1))
 | [], [], _ => by simp
 | fd :: fs, (o, s, g) :: r, h => by
  simp only [fldsB, Bool.and_eq_true, decide_eq_true_eq] at h
  obtain ⟨⟨⟨⟨⟨⟨h1, h2⟩, h3⟩, h4⟩, h5⟩, h6⟩, h7⟩ := h
  have h3' : ∃ i, P.info? fd.type = some i ∧ i.size = s := by
   unfold sizB at h3
   split at h3
   ·rename_i i hi; exact ⟨i, hi, by simpa using h3⟩
   ·cases h3
  obtain ⟨i, hi, rfl⟩ := h3'
  simp [List.mapM_cons, hi, fldsB_places h7, h1]
 | [], _ :: _, h => by cases h
 | _ :: _, [], h => by cases h
theorem zero_rep {ρ : Rho} : ∀ {zs : List C}, (∀ c ∈ zs, (∀ H, RdX H c (cv c)) ∧ ∀ w, OwX w c (cv c) []) → L2 (RepC ρ) (mapCO zs) (zs.map cv)
 | [], _ => trivial
 | c :: zs, h => ⟨(h c (by simp)).1 _, zero_rep fun c hc => h c (by simp [hc])⟩
theorem nthO_none {α : Type} : ∀ {n : Nat} {l : List α}, nthO n l = none → l[n]? = none
 | 0, [], _ => rfl
 | _ + 1, [], _ => rfl
 | 0, _ :: _, h => by simp [nthO] at h
 | n + 1, _ :: xs, h => by simpa using nthO_none (n := n) (l := xs) (by simpa [nthO] using h)
theorem q_build {t : TypeId} {parts : List (Nat × Operand)} {av : AV} (hT : TTOk P TT) (h : qBuild TT S t parts = some av) : Quiet P X S (.build t parts.toArray) av := by
 refine quiet_of fun ρ a w hs => ?_
 unfold qBuild at h
 split at h
 ·rename_i i hi
  have ht := hT t i hi
  obtain ⟨d, hd, hsb⟩ := ht.und
  obtain ⟨inf, hin, _, _, hz⟩ := ht.info
  have key : ∀ (pl : Nat → Option (Nat × Nat)) (r : List AC), qParts S pl parts (mapCO i.zero) = some r → i.sh.agg = true → (∀ us : List Value, Instr.fill pl (i.zero.map cv).toArray (parts.map fun (i, x) => (i, a.eval x)) = some us.toArray → P.built t (parts.map fun (i, x) => (i, a.eval x)) = some us.toArray) →
    ∃ v, RepV ρ (.p true r) v ∧ ∀ (d : Option Tmp) (ty : TypeId) (pos : String) (af : Array Edge) (g : Option (Nat × Bool)) (w' : World), (execOp a.eval ⟨d, .build t parts.toArray, ty, pos, af, g⟩).run P w' = .ok (.value v) w' := by
   intro pl r hr hg hb
   obtain ⟨us, h1, h2⟩ := qParts_ok hs hr (zero_rep ht.zero)
   refine ⟨.agg us.toArray, ⟨us, rfl, h2⟩, fun _ _ _ _ _ w' => ?_⟩
   have := run_build (P := P) w' t (parts.toArray.map fun (i, x) => (i, a.eval x)) us.toArray (by simpa using hb us h1)
   simp only [execOp, Sem.run_bind, this, Result.andThen_ok, Sem.run_pure]
  split at h
  ·rename_i l hl
   split at h
   case h_2 => cases h
   rename_i z hz0
   obtain rfl := mapOO_eq hz0
   split at h
   ·rename_i r hr
    cases h
    refine key _ r hr (by rw [hl]; rfl) fun us hu => ?_
    rw [hl] at hsb hz
    cases d <;> first | (cases hsb; done) | skip
    rename_i fields
    unfold Program.built
    simp only [hin, hd, hz]
    have hpl := fldsB_places (P := P) (fs := fields.toList) hsb
    simp only [hpl]
    rw [← hu]
    have e : (fun x => (l.map fun x => (x.1, x.2.1)).toArray[x]?) = plc l := by
     funext k
     unfold plc
     cases hk : nthO k l with
     | none => simp [nthO_none hk]
     | some x => simp [nthO_eq hk]
    simp only [e, Sh.agg, if_true, Value.cells]
   ·cases h
  ·rename_i n e sz g hl
   split at h
   case h_2 => cases h
   rename_i z hz0
   obtain rfl := mapOO_eq hz0
   split at h
   ·rename_i r hr
    cases h
    refine key _ r hr (by rw [hl]; rfl) fun us hu => ?_
    rw [hl] at hsb hz
    cases d <;> first | (cases hsb; done) | skip
    rename_i n' e'
    simp only [shB, Bool.and_eq_true, decide_eq_true_eq] at hsb
    obtain ⟨⟨⟨⟨⟨⟨rfl, rfl⟩, _⟩, hsz⟩, _⟩, _⟩, _⟩ := hsb
    unfold sizB at hsz
    split at hsz
    ·rename_i ie hie
     have hsz' : ie.size = sz := by simpa using hsz
     unfold Program.built
     simp only [hin, hd, hz, hie, hsz', Sh.agg, if_true, Value.cells]
     exact hu
    ·cases hsz
   ·cases h
  ·cases h
 ·cases h
def updB (b : Nat) (cs : List AC) : List (Nat × Nat × List AC) → Option (List (Nat × Nat × List AC))
  | [] => none
  | (k, ty, l) :: r => match Nat.beq k b with
    | true => some ((k, ty, cs) :: r)
    | false => match updB b cs r with
      | some r' => some ((k, ty, l) :: r')
      | none => none
theorem updB_eq {b : Nat} {cs : List AC} : ∀ {B B' : List (Nat × Nat × List AC)}, updB b cs B = some B' → ∃ p ty l q, B = p ++ (b, ty, l) :: q ∧ B' = p ++ (b, ty, cs) :: q ∧ lk B b = some (ty, l)
  | [], _, h => by cases h
  | (k, ty, l) :: r, B', h => by
    unfold updB at h
    split at h
    · rename_i hk
      obtain rfl := Nat.eq_of_beq_eq_true hk
      cases h
      exact ⟨[], ty, l, r, rfl, rfl, by simp [lk]⟩
    · rename_i hk
      split at h
      · rename_i r' hr
        cases h
        obtain ⟨p, ty', l', q, rfl, rfl, h3⟩ := updB_eq hr
        refine ⟨(k, ty, l) :: p, ty', l', q, rfl, rfl, ?_⟩
        simp only [lk, if_neg (beq_f hk)]
        exact h3
      · cases h
theorem Hp.write {ρ : Rho} {w w' : World} (h : Hp ρ S w) {b ty : Nat} {cs l : List AC} {p q : List (Nat × Nat × List AC)} {T : List (Nat × AV)} (hB : S.B = p ++ (b, ty, l) :: q) {us : List Value} (hu : w'.heap[ρ.box b]? = some (.cells us.toArray ty (0, 0)))
  (hr : L2 (RepC ρ) cs us) (ho : ∀ k, k ≠ ρ.box b → w'.heap[k]? = w.heap[k]?) : Hp ρ ⟨T, p ++ (b, ty, cs) :: q, S.R, S.M⟩ w' := by
 have hf : feet ρ ⟨T, p ++ (b, ty, cs) :: q, S.R, S.M⟩ = feet ρ S := by unfold feet; rw [hB]; simp
 have hmem : ρ.box b ∈ feet ρ S := by unfold feet; rw [hB]; simp
 have hnd := h.nd
 have hne : ∀ x ∈ p ++ q, ρ.box x.1 ≠ ρ.box b := by
  intro x hx e
  unfold feet at hnd
  rw [hB] at hnd
  have h1 := (List.nodup_append.1 hnd).1
  simp only [List.map_append, List.map_cons] at h1
  obtain ⟨_, h2, h3⟩ := List.nodup_append.1 h1
  rcases List.mem_append.1 hx with hx | hx
  ·exact h3 _ (List.mem_map.2 ⟨x, hx, rfl⟩) _ (List.mem_cons_self ..) e
  ·exact (List.nodup_cons.1 h2).1 (by rw [← e]; exact List.mem_map.2 ⟨x, hx, rfl⟩)
 have hrest : ∀ k ∈ S.R.flatMap (fun x => ρ.foot x.1) ++ S.M.map (fun x => ρ.box x.1), k ≠ ρ.box b := by
  intro k hk e
  unfold feet at hnd
  rw [hB] at hnd
  exact (List.nodup_append.1 hnd).2.2 (ρ.box b) (by simp) k hk e.symm
 refine ⟨fun k o hk => ?_, fun x hx => ?_, fun x hx => ?_, fun x hx => ?_, by rw [hf]; exact h.nd, by rw [hf]; exact h.dj⟩
 ·rw [ho k (fun e => by have := h.dj _ hmem; rw [← e, hk] at this; cases this)]
  exact h.H k o hk
 ·have hx' : x = (b, ty, cs) ∨ x ∈ p ++ q := by
   rcases List.mem_append.1 hx with hx | hx
   ·exact .inr (List.mem_append_left _ hx)
   ·rcases List.mem_cons.1 hx with hx | hx
    ·exact .inl hx
    ·exact .inr (List.mem_append_right _ hx)
  rcases hx' with rfl | hx'
  ·exact ⟨us, hu, hr⟩
  ·obtain ⟨vs, h1, h2⟩ := h.B x (by rw [hB]; rcases List.mem_append.1 hx' with h9 | h9 <;> simp [h9])
   exact ⟨vs, by rw [ho _ (hne x hx')]; exact h1, h2⟩
 ·exact (h.R x hx).keep fun k hk => ho k (hrest k (List.mem_append_left _ (List.mem_flatMap.2 ⟨x, hx, hk⟩)))
 ·obtain ⟨es, c, h1, h2⟩ := h.M x hx
  exact ⟨es, c, by rw [ho _ (hrest _ (List.mem_append_right _ (List.mem_map.2 ⟨x, hx, rfl⟩)))]; exact h1, h2⟩
def eStore (TT : List (Nat × TI)) (S : St) (t : TypeId) (x y : Operand) : Option (List (Nat × Nat × List AC)) :=
 match lk TT t with
 | some i => match opv S.T x with
  | some (.p false [.pb b o]) => match opv S.T y with
   | some (.p _ l) => match lenB l i.size with
    | true => match lk S.B b with
     | some (_, cs) => match putO o l cs with
      | some cs' => updB b cs' S.B
      | none => none
     | none => none
    | false => none
   | _ => none
  | _ => none
 | none => none
theorem e_store {T : List (Nat × AV)} {B : List (Nat × Nat × List AC)} {R : List (Nat × Nat × Nat × List (List C))} {M : List (Nat × (Int → Option Value))} {t : TypeId} {x y : Operand} {B' : List (Nat × Nat × List AC)} (hT : TTOk P TT) (h : eStore TT ⟨T, B, R, M⟩ t x y = some B') : Eff P X ⟨T, B, R, M⟩ none (.store t x y) ⟨T, B', R, M⟩ false := by
 generalize hS : (⟨T, B, R, M⟩ : St) = S at h ⊢
 have e : (⟨T, B', R, M⟩ : St) = ⟨S.T, B', S.R, S.M⟩ := by rw [← hS]
 rw [e]
 clear e hS
 intro ρ a w hs
 unfold eStore at h
 split at h
 ·rename_i i hi
  split at h
  ·rename_i b o hx
   split at h
   ·rename_i g l hy
    split at h
    ·rename_i hl
     split at h
     ·rename_i ty cs hb
      split at h
      ·rename_i cs' hp
       obtain ⟨p, ty', l', q, hB, rfl, hlk⟩ := updB_eq h
       rw [hb] at hlk
       cases hlk
       have hpx : a.eval x = .pointer (some ⟨ρ.box b, o, none⟩) := (opv_rep hs hx).1
       obtain ⟨us, h1, h2, h3⟩ := rep_cells (opv_rep hs hy)
       obtain ⟨vs, h4, h5⟩ := hs.hp.B _ (lk_mem hb)
       have hle := (putO_eq hp).2
       have hul : us.length = i.size := by rw [h1.len, lenB_eq hl]
       have hput := L2.put hp h5 h1
       have hst := run_storeCells_at P (ρ.box b) o ty us 0 vs.toArray w h4 (by rw [h1.len]; simp only [List.size_toArray, Nat.add_zero]; rw [h5.len]; exact hle) h1.ones
       simp only [Nat.add_zero] at hst
       have hc := cells_mk h3 h1.ones
       have ht := hT t i hi
       have hmem : ρ.box b ∈ feet ρ S := by unfold feet; rw [hB]; simp
       refine ⟨ρ, .skip, undef, w.setRow (ρ.box b) (vs.take o ++ us ++ vs.drop (o + us.length)).toArray, fun _ _ _ _ => ?_, .inr ⟨rfl, rfl⟩, ?_, by intro h; cases h⟩
       ·have hrun : (storeVar t ⟨ρ.box b, o, none⟩ (mkV g us)).run P w = .ok () (w.setRow (ρ.box b) (vs.take o ++ us ++ vs.drop (o + us.length)).toArray) := by
         unfold storeVar
         simp only [Sem.run_bind, ht.sizeOf, Result.andThen_ok, hc]
         simp [hul, hst]
        simp [execOp, Instr.storeAt, Instr.sureAddr, hpx, h2, hrun]
       ·have hw := hs.hp.write (T := S.T) hB (setRow_heap w (ρ.box b) vs.toArray _ ty (0, 0) h4) hput (fun k hk => setRow_other w (ρ.box b) k _ hk)
        refine ⟨hw, hs.T, hs.df, hs.sz, ?_, ?_⟩
        ·refine hs.fr.step (G := [ρ.box b]) ⟨rfl, rfl, rfl, by simp [World.setRow], fun k _ hk => setRow_other w (ρ.box b) k _ (by simpa using hk)⟩ ?_
         intro k hk
         rw [List.mem_singleton.1 hk]
         exact hs.ft _ hmem
        ·have hf : feet ρ ⟨S.T, p ++ (b, ty, cs') :: q, S.R, S.M⟩ = feet ρ S := by unfold feet; rw [hB]; simp
         rw [hf]; exact hs.ft
      ·cases h
     ·cases h
    ·cases h
   ·cases h
  ·cases h
 ·cases h
end
end Go.Proofs.YtahkjonokeifmaaGreat
