/- Walks on states: short forms. No program in it. -/
import Derived.Test.YtphaggopgdbojaaGreatReV9
namespace Go.Proofs.YtphaggopgdbojaaGreat
open Go.ChangeShapes Go.WideShapes Go.ChangeAt Go.RowKit
set_option linter.unusedVariables false
@[reducible] def iC (x : Int) : C := .v (.int .i64 x)
@[reducible] def bC (x : Bool) : C := .v (.bool x)
@[reducible] def ints (l : List Int) : C := .s 1 (l.map fun x => [iC x])
@[reducible] def one (c : C) : Bool × List C := (false, [c])
@[reducible] def many (l : List C) : Bool × List C := (true, l)
@[reducible] def bR (x : Bool) : List (Bool × List RC) := [(false, [RC.v (.bool x)])]
@[reducible] def iR (x : Int) : List (Bool × List RC) := [(false, [RC.v (.int .i64 x)])]
@[reducible] def intsR (ty : Nat) (l : List Int) : RC := .s ty 1 (l.map fun x => [iC x])
@[reducible] def iV (x : Int) : AV := .p false [.c (iC x)]
@[reducible] def bV (x : Bool) : AV := .p false [.c (bC x)]
@[reducible] def cV (c : C) : AV := .p false [.c c]
theorem bno {b : Bool} (h : b = true) (k : b = false) : False := by subst h; cases k
section
variable {P : Program} {X : Cx} {S : St} {Q : Exit → Act → World → Prop} {ops : Array Oper} {rest : List Oper} {TT : List (Nat × TI)} {T : List (Nat × AV)} {B : List (Nat × Nat × List AC)} {R : List (Nat × Nat × Nat × List (List C))} {M : List (Nat × (Int → Option Value))} {d : Tmp} {ty : TypeId} {pos : String} {af : Array Edge} {av : AV} {x y : Operand}
theorem xm (h : opv T x = some av) (hN : okD X d = true) (k : EvL P X ops rest Q ⟨(d, av) :: T, B, R, M⟩) : EvL P X ops (⟨some d, .move x, ty, pos, af, none⟩ :: rest) Q ⟨T, B, R, M⟩ := evl_q (q_move h) hN k
theorem xs (h : opv T x = some av) (hN : okD X d = true) (k : EvL P X ops rest Q ⟨(d, av) :: T, B, R, M⟩) : EvL P X ops (⟨some d, .assign x, ty, pos, af, none⟩ :: rest) Q ⟨T, B, R, M⟩ := evl_q (q_assign h) hN k
theorem xl {t : TypeId} (hT : TTOk P TT) (h : qLoad TT ⟨T, B, R, M⟩ t x = some av) (hN : okD X d = true) (k : EvL P X ops rest Q ⟨(d, av) :: T, B, R, M⟩) : EvL P X ops (⟨some d, .load t x, ty, pos, af, none⟩ :: rest) Q ⟨T, B, R, M⟩ := evl_q (q_load hT h) hN k
theorem xf {t f : Nat} (hT : TTOk P TT) (h : qFieldA TT ⟨T, B, R, M⟩ t x f = some av) (hN : okD X d = true) (k : EvL P X ops rest Q ⟨(d, av) :: T, B, R, M⟩) : EvL P X ops (⟨some d, .fieldAddr t x f, ty, pos, af, none⟩ :: rest) Q ⟨T, B, R, M⟩ := evl_q (q_fieldAddr hT h) hN k
theorem xb {op : BinOp} {t yt : TypeId} (hT : TTOk P TT) (h : qBin TT ⟨T, B, R, M⟩ op t x y = some av) (hN : okD X d = true) (k : EvL P X ops rest Q ⟨(d, av) :: T, B, R, M⟩) : EvL P X ops (⟨some d, .binOp op t x y yt, ty, pos, af, none⟩ :: rest) Q ⟨T, B, R, M⟩ := evl_q (q_bin hT h) hN k
theorem xa {op : BinOp} {t yt : TypeId} {m n z : Int} (hx : opv T x = some (.p false [.c (.v (.int .i64 m))])) (hy : opv T y = some (.p false [.c (.v (.int .i64 n))])) (h : arO op m n = some z) (hz : -9223372036854775808 ≤ z ∧ z ≤ 9223372036854775807) (hN : okD X d = true)
    (k : EvL P X ops rest Q ⟨(d, iV z) :: T, B, R, M⟩) : EvL P X ops (⟨some d, .binOp op t x y yt, ty, pos, af, none⟩ :: rest) Q ⟨T, B, R, M⟩ := evl_q (q_ar hx hy h hz) hN k
theorem xst {d : Option Tmp} {t : TypeId} {B' : List (Nat × Nat × List AC)} (hT : TTOk P TT) (h : eStore TT ⟨T, B, R, M⟩ t x y = some B') (hd : d = none) (k : EvL P X ops rest Q ⟨T, B', R, M⟩) : EvL P X ops (⟨d, .store t x y, ty, pos, af, none⟩ :: rest) Q ⟨T, B, R, M⟩ := by
  subst hd; exact evl_e (e_store hT h) k
theorem ev_cond_kt {c : Operand} {x y : Code} {b : Bool} (hc : opv S.T c = some (.p false [.c (.v (.bool b))])) (hb : b = true) (ht : Ev P X x Q S) : Ev P X (.cond c x y) Q S := ev_cond hc (fun _ => ht) (fun h => (bno hb h).elim)
theorem ev_cond_kf {c : Operand} {x y : Code} {b : Bool} (hc : opv S.T c = some (.p false [.c (.v (.bool b))])) (hb : b = false) (hf : Ev P X y Q S) : Ev P X (.cond c x y) Q S := ev_cond hc (fun h => (bno h hb).elim) (fun _ => hf)
/-- parted on b, where the operation hangs on not b -/
theorem evl_partn {d : Option Tmp} {op : Op} {j : Nat} {want b : Bool} {t : Tmp} (hj : gTmp ops j = some t) (hv : lk S.T t = some (.p false [.c (.v (.bool !b))])) (ht : b = false → EvL P X ops (⟨d, op, ty, pos, af, some (j, want)⟩ :: rest) Q S)
    (hf : b = true → EvL P X ops (⟨d, op, ty, pos, af, some (j, want)⟩ :: rest) Q S) : EvL P X ops (⟨d, op, ty, pos, af, some (j, want)⟩ :: rest) Q S := evl_part hj hv (fun h => ht (by simpa using h)) (fun h => hf (by simpa using h))
theorem nt {b : Bool} (h : b = false) : (!b) = true := by subst h; rfl
theorem nf {b : Bool} (h : b = true) : (!b) = false := by subst h; rfl
theorem et {y : Code} {Q' : Exit → Act → World → Prop} (h : Ev P X y Q' S) : EvE X .normal (Exit.then (y.wp P Q') Q) S := eve_then h
theorem eb {id : Nat} (h : EvE X .normal Q S) : EvE X .normal (Exit.inBlock id Q) S := eve_blk h
theorem sq {x y : Code} (h : Ev P X x (Exit.then (y.wp P Q) Q) S) : Ev P X (.seq x y) Q S := ev_seq h
theorem rg {id : Nat} {l : List Oper} (h : EvL P X l.toArray l Q S) : Ev P X (.region id l.toArray false) Q S := ev_reg h
theorem nl (h : EvE X .normal Q S) : EvL P X ops [] Q S := evl_nil h
theorem xo {op : Op} (hq : Quiet P X ⟨T, B, R, M⟩ op av) (hN : okD X d = true) (h : EvL P X ops rest Q ⟨(d, av) :: T, B, R, M⟩) : EvL P X ops (⟨some d, op, ty, pos, af, none⟩ :: rest) Q ⟨T, B, R, M⟩ := evl_q hq hN h
theorem gm {j : Nat} {want b : Bool} {t : Tmp} (hb : b = want) (hj : gTmp ops j = some t) (hv : lk T t = some (.p false [.c (.v (.bool b))])) (h : opv T x = some av) (hN : okD X d = true) (k : EvL P X ops rest Q ⟨(d, av) :: T, B, R, M⟩) : EvL P X ops (⟨some d, .move x, ty, pos, af, some (j, want)⟩ :: rest) Q ⟨T, B, R, M⟩ := evl_qg hj hv hb (q_move h) hN k
theorem go {j : Nat} {want b : Bool} {t : Tmp} {op : Op} (hb : b = want) (hj : gTmp ops j = some t) (hv : lk T t = some (.p false [.c (.v (.bool b))])) (hq : Quiet P X ⟨T, B, R, M⟩ op av) (hN : okD X d = true) (k : EvL P X ops rest Q ⟨(d, av) :: T, B, R, M⟩) : EvL P X ops (⟨some d, op, ty, pos, af, some (j, want)⟩ :: rest) Q ⟨T, B, R, M⟩ := evl_qg hj hv hb hq hN k
theorem gn {j : Nat} {want b : Bool} {t : Tmp} {op : Op} (hb : b = !want) (hj : gTmp ops j = some t) (hv : lk T t = some (.p false [.c (.v (.bool b))])) (hN : okD X d = true) (k : EvL P X ops rest Q ⟨(d, .und) :: T, B, R, M⟩) : EvL P X ops (⟨some d, op, ty, pos, af, some (j, want)⟩ :: rest) Q ⟨T, B, R, M⟩ := evl_no hj hv hb hN k
theorem gu {j : Nat} {want : Bool} {t : Tmp} {op : Op} (hj : gTmp ops j = some t) (hv : lk T t = some .und) (hN : okD X d = true) (k : EvL P X ops rest Q ⟨(d, .und) :: T, B, R, M⟩) : EvL P X ops (⟨some d, op, ty, pos, af, some (j, want)⟩ :: rest) Q ⟨T, B, R, M⟩ := evl_noU hj hv hN k
end
end Go.Proofs.YtphaggopgdbojaaGreat
