/- Walks of functions of the program, printed by a program of the prover. -/
import Derived.Test.YtinmcdcmidlgpaaGreatDoorFuF65
import Derived.Test.YtinmcdcmidlgpaaGreatDoorFuVDC
import Derived.LaidEql
import Derived.Stop.Asserts
import Derived.RowKitTokens
import Derived.Test.YtinmcdcmidlgpaaGreatDoorFuF84
import Derived.Test.YtinmcdcmidlgpaaGreatDoorFuF54I
import Derived.Test.YtinmcdcmidlgpaaGreatDoorFuVDE
import Derived.LaidLaws
import Derived.LaidHandle
import Derived.Test.YtinmcdcmidlgpaaGreatDoorRows
namespace Go.Proofs.YtinmcdcmidlgpaaGreatDoor
open Go.ChangeShapes Go.WideShapes Go.ChangeAt Go.RowKit
set_option linter.unusedVariables false
set_option linter.unusedSimpArgs false
set_option maxHeartbeats 1000000
set_option maxRecDepth 100000
attribute [local irreducible] EvL Ev EvE Quiet Eff Pure RDk RDb RDo
open Go.Extern.Stop Go.Stop Go.Extern
theorem as_valueOf (t : Addr) (w : World) : (ReflectliteValue.unpack (.iface 124 (.pointer (some t)))).run Tryz.prog w
 = .ok (.agg #[.pointer (some ⟨2, 124, none⟩), .pointer (some ⟨w.heap.size, 0, none⟩), .int .u64 150]) (w.alloc (.cells #[.pointer (some t)] 124)) := by kernel_rfl
theorem as_type (a : Addr) (w : World) : (ReflectliteValue.methodAny (ReflectliteValue.valueError "reflectlite.Value.Type" 0) (fun t _ _ _ => ReflectliteType.toType t) #[.agg #[.pointer (some ⟨2, 124, none⟩), .pointer (some a), .int .u64 150]]).run Tryz.prog w
 = .ok (.iface 239 (.agg #[.pointer (some ⟨2, 124, none⟩)])) w := by kernel_rfl
theorem as_methodKind (h : Value) (w : World) : (Go.method 419 239 (.agg #[h]) "Kind").run Tryz.prog w = .ok (277, h) w := by kernel_rfl
theorem as_kindP (w : World) : ((ReflectliteType.abiMethod fun t => (fun a : Nat => Value.int IntKind.u8 (a : Int)) <$> Rtype.kind t) #[.pointer (some ⟨2, 124, none⟩)]).run Tryz.prog w = .ok (.int .u8 22) w := by kernel_rfl
theorem as_kindE (w : World) : ((ReflectliteType.abiMethod fun t => (fun a : Nat => Value.int IntKind.u8 (a : Int)) <$> Rtype.kind t) #[.pointer (some ⟨2, 122, none⟩)]).run Tryz.prog w = .ok (.int .u8 22) w := by kernel_rfl
theorem as_rlm (z : Sem Value) (f : TypeId → Addr → Nat → Nat → Sem Value) (v : Value) :
 ReflectliteValue.method z f #[v] = (do match ← ReflectliteValue.parts v with | none => z | some (t, a, fl) => f t a fl (fl % 32)) := rfl
theorem as_parts (a : Addr) (w : World) : (ReflectliteValue.parts (.agg #[.pointer (some ⟨2, 124, none⟩), .pointer (some a), .int .u64 150])).run Tryz.prog w = .ok (some (124, a, 150)) w := by kernel_rfl
theorem as_isNil (a p : Addr) (W : World) (ha : W.cell? a = some (.pointer (some p))) :
  (ReflectliteValue.method (ReflectliteValue.valueError "reflectlite.Value.IsNil" 0) ReflectliteValue.isNil #[.agg #[.pointer (some ⟨2, 124, none⟩), .pointer (some a), .int .u64 150]]).run Tryz.prog W = .ok (.bool false) W := by
 rw [as_rlm]
 simp only [Sem.run_bind, as_parts, Result.andThen]
 simp [ReflectliteValue.isNil, loadVar, isAgg, underlying, Tryz.underlying124, ha, Result.andThen]
theorem as_methodElem (h : Value) (w : World) : (Go.method 419 239 (.agg #[h]) "Elem").run Tryz.prog w = .ok (291, .agg #[h]) w := by kernel_rfl
theorem as_methodImplements (h : Value) (w : World) : (Go.method 419 239 (.agg #[h]) "Implements").run Tryz.prog w = .ok (292, .agg #[h]) w := by kernel_rfl
theorem as_methodAssignableTo (h : Value) (w : World) : (Go.method 419 239 (.agg #[h]) "AssignableTo").run Tryz.prog w = .ok (289, .agg #[h]) w := by kernel_rfl
theorem as_elemT (w : World) : (ReflectliteType.method ReflectliteType.elem #[.agg #[.pointer (some ⟨2, 124, none⟩)]]).run Tryz.prog w = .ok (.iface 239 (.agg #[.pointer (some ⟨2, 122, none⟩)])) w := by kernel_rfl
theorem as_implements (w : World) : (ReflectliteType.relation "Implements" ReflectliteType.implements_ #[.agg #[.pointer (some ⟨2, 122, none⟩)], .iface 239 (.agg #[.pointer (some ⟨2, 119, none⟩)])]).run Tryz.prog w = .ok (.bool true) w := by kernel_rfl
theorem as_typeOf (v : Value) (w : World) : (ReflectliteType.typeOf #[.iface 122 v]).run Tryz.prog w = .ok (.iface 239 (.agg #[.pointer (some ⟨2, 122, none⟩)])) w := by kernel_rfl
theorem as_assignable (w : World) : (ReflectliteType.relation "AssignableTo" ReflectliteType.assignableTo #[.agg #[.pointer (some ⟨2, 122, none⟩)], .iface 239 (.agg #[.pointer (some ⟨2, 122, none⟩)])]).run Tryz.prog w = .ok (.bool true) w := by kernel_rfl
theorem as_valueE (e : Addr) (w : World) : (ReflectliteValue.unpack (.iface 122 (.pointer (some e)))).run Tryz.prog w
 = .ok (.agg #[.pointer (some ⟨2, 122, none⟩), .pointer (some ⟨w.heap.size, 0, none⟩), .int .u64 150]) (w.alloc (.cells #[.pointer (some e)] 122)) := by kernel_rfl
theorem as_elemOf (w : World) : (Rtype.elem? 124).run Tryz.prog w = .ok (some 122) w := by kernel_rfl
theorem as_mkE (p : Addr) (w : World) : (ReflectliteValue.mk 122 p ReflectliteValue.flagAddr).run Tryz.prog w = .ok (.agg #[.pointer (some ⟨2, 122, none⟩), .pointer (some p), .int .u64 406]) w := by kernel_rfl
theorem as_elemV (a p : Addr) (W : World) (ha : W.cell? a = some (.pointer (some p))) :
    (ReflectliteValue.method (ReflectliteValue.valueError "reflectlite.Value.Elem" 0) ReflectliteValue.elem #[.agg #[.pointer (some ⟨2, 124, none⟩), .pointer (some a), .int .u64 150]]).run Tryz.prog W
      = .ok (.agg #[.pointer (some ⟨2, 122, none⟩), .pointer (some p), .int .u64 406]) W := by
  rw [as_rlm]
  simp only [Sem.run_bind, as_parts, Result.andThen]
  simp [ReflectliteValue.elem, loadVar, isAgg, underlying, Tryz.underlying124, ha, Result.andThen, as_elemOf, as_mkE]
theorem as_rls (v x : Value) : ReflectliteValue.set #[v, x] = (do
 let (some (dst, a, fl), some (src, b, _)) := (← ReflectliteValue.parts v, ← ReflectliteValue.parts x)
  | unsupported (.noEntry "extern/(internal/reflectlite.Value).Set.zeroValue")
 if fl / ReflectliteValue.flagAddr % 2 == 0 then unsupported (.noEntry "extern/(internal/reflectlite.Value).Set.unaddressable")
 let val ← loadVar src b
 if ← Rtype.directlyAssignable dst src then storeVar dst a val
 else if ← Rtype.implements dst src then
  if (← Rtype.kind src) == 20 then
   match val with
   | .nilIface => unsupported (.noEntry "extern/reflectlite: a nil value of one interface type handed on as a value of another")
   | _ => storeVar dst a val
  else storeVar dst a (.iface src val)
 else panicString ("reflectlite.Set: value of type " ++ (← Rtype.spelt src) ++ " is not assignable to type " ++ (← Rtype.spelt dst))
 pure (.tuple #[])) := rfl
theorem as_partsA (a : Addr) (w : World) : (ReflectliteValue.parts (.agg #[.pointer (some ⟨2, 122, none⟩), .pointer (some a), .int .u64 406])).run Tryz.prog w = .ok (some (122, a, 406)) w := by kernel_rfl
theorem as_partsE (a : Addr) (w : World) : (ReflectliteValue.parts (.agg #[.pointer (some ⟨2, 122, none⟩), .pointer (some a), .int .u64 150])).run Tryz.prog w = .ok (some (122, a, 150)) w := by kernel_rfl
theorem as_direct (w : World) : (Rtype.directlyAssignable 122 122).run Tryz.prog w = .ok true w := by kernel_rfl
theorem as_set (ta b e : Addr) (old : Value) (W : World) (hb : W.cell? b = some (.pointer (some e))) (ht : W.cell? ta = some old) (hf : W.frozen? ta = false) :
    (ReflectliteValue.set #[.agg #[.pointer (some ⟨2, 122, none⟩), .pointer (some ta), .int .u64 406], .agg #[.pointer (some ⟨2, 122, none⟩), .pointer (some b), .int .u64 150]]).run Tryz.prog W
      = .ok (.tuple #[]) (W.setCell ta (.pointer (some e))) := by
  rw [as_rls]
  simp only [Sem.run_bind, as_partsA, as_partsE, Result.andThen]
  simp [ReflectliteValue.flagAddr, loadVar, isAgg, underlying, Tryz.underlying122, hb, Result.andThen, as_direct, storeVar, Value.cells, storeCells, Addr.add]
  rw [run_store Tryz.prog W ta _ _ (by rfl)]
  simp [ht, hf]
@[reducible] def asW (w : World) (e t : Addr) : World := (((w.alloc (.cells #[.pointer (some t)] 124)).alloc (.cells #[.pointer (some ⟨2, 124, none⟩), .pointer (some ⟨w.heap.size, 0, none⟩), .int .u64 150] 186)).alloc (.cells #[.pointer (some ⟨2, 124, none⟩), .pointer (some ⟨w.heap.size, 0, none⟩), .int .u64 150] 186)).alloc (.cells #[.pointer (some e)] 122)
set_option maxHeartbeats 4000000 in
theorem as_hit (e t : Addr) (old : Value) (w : World) (hg : w.cell? ⟨1, 0, none⟩ = some (.iface 239 (.agg #[.pointer (some ⟨2, 119, none⟩)]))) (ht0 : w.cell? t = some old) (hf0 : w.frozen? t = false) :
  Calls Tryz.prog 67 #[.iface 122 (.pointer (some e)), .iface 124 (.pointer (some t))] w fun ev w' => ev = .returned (.bool true) ∧ w' = (asW w e t).setCell t (.pointer (some e)) := by
 have h6 := @run_callFunc_extern Tryz.prog 151 _ (fun args => ReflectliteValue.unpack (args.getD 0 (.tuple #[]))) Tryz.func151 kr kr kr kr
 have h7 := @run_callFunc_extern Tryz.prog 152 _ (ReflectliteValue.methodAny (ReflectliteValue.valueError "reflectlite.Value.Type" 0) (fun t _ _ _ => ReflectliteType.toType t)) Tryz.func152 kr kr kr kr
 have h8 := @run_callFunc_extern Tryz.prog 153 _ (ReflectliteValue.method (ReflectliteValue.valueError "reflectlite.Value.IsNil" 0) ReflectliteValue.isNil) Tryz.func153 kr kr kr kr
 have h27 := @run_callFunc_extern Tryz.prog 277 _ (ReflectliteType.abiMethod fun t => do pure (.int .u8 (← Rtype.kind t))) Tryz.func277 kr kr kr kr
 have h37 := @run_callFunc_extern Tryz.prog 291 _ (ReflectliteType.method ReflectliteType.elem) Tryz.func291 kr kr kr kr
 have h38 := @run_callFunc_extern Tryz.prog 292 _ (ReflectliteType.relation "Implements" ReflectliteType.implements_) Tryz.func292 kr kr kr kr
 have h10 := @run_callFunc_extern Tryz.prog 155 _ ReflectliteType.typeOf Tryz.func155 kr kr kr kr
 have h35 := @run_callFunc_extern Tryz.prog 289 _ (ReflectliteType.relation "AssignableTo" ReflectliteType.assignableTo) Tryz.func289 kr kr kr kr
 have h11 := @run_callFunc_extern Tryz.prog 211 _ (ReflectliteValue.method (ReflectliteValue.valueError "reflectlite.Value.Elem" 0) ReflectliteValue.elem) Tryz.func211 kr kr kr kr
 have h12 := @run_callFunc_extern Tryz.prog 212 _ ReflectliteValue.set Tryz.func212 kr kr kr kr
 have tO := as_typeOf
 have mA := as_methodAssignableTo
 have a25 := as_assignable
 have v25 := as_valueE
 have f6 := as_valueOf
 have f7 := as_type
 have mK := as_methodKind
 have mE := as_methodElem
 have mI := as_methodImplements
 have k27 := as_kindP
 have k25 := as_kindE
 have e27 := as_elemT
 have i25 := as_implements
 have n8 := as_isNil ⟨w.heap.size, 0, none⟩ t ((w.alloc (.cells #[.pointer (some t)] 124)).alloc (.cells #[.pointer (some ⟨2, 124, none⟩), .pointer (some ⟨w.heap.size, 0, none⟩), .int .u64 150] 186)) (by simp)
 have hlt : 1 < w.heap.size := by
  rcases Nat.lt_or_ge 1 w.heap.size with h | h
  ·exact h
  ·simp [World.cell?, Array.getElem?_eq_none h] at hg
 have hg2 : ((w.alloc (.cells #[.pointer (some t)] 124)).alloc (.cells #[.pointer (some ⟨2, 124, none⟩), .pointer (some ⟨w.heap.size, 0, none⟩), .int .u64 150] 186)).cell? ⟨1, 0, none⟩ = some (.iface 239 (.agg #[.pointer (some ⟨2, 119, none⟩)])) := by
  rw [World.cell?_alloc_lt _ _ ⟨1, 0, none⟩ (by simp; omega), World.cell?_alloc_lt _ _ ⟨1, 0, none⟩ hlt]; exact hg
 have htl : t.block < w.heap.size := by
  rcases Nat.lt_or_ge t.block w.heap.size with h | h
  ·exact h
  ·simp [World.cell?, Array.getElem?_eq_none h] at ht0
 have el := as_elemV ⟨w.heap.size, 0, none⟩ t (((w.alloc (.cells #[.pointer (some t)] 124)).alloc (.cells #[.pointer (some ⟨2, 124, none⟩), .pointer (some ⟨w.heap.size, 0, none⟩), .int .u64 150] 186)).alloc (.cells #[.pointer (some ⟨2, 124, none⟩), .pointer (some ⟨w.heap.size, 0, none⟩), .int .u64 150] 186)) (by rw [World.cell?_alloc_lt _ _ ⟨w.heap.size, 0, none⟩ (by simp; omega)]; simp)
 have st := as_set t ⟨w.heap.size + 1 + 1 + 1, 0, none⟩ e old (asW w e t)
  (by rw [World.cell?_alloc_at _ _ _ _ (by simp)]; rfl)
  (by rw [World.cell?_alloc_lt _ _ t (by simp; omega), World.cell?_alloc_lt _ _ t (by simp; omega), World.cell?_alloc_lt _ _ t (by simp; omega), World.cell?_alloc_lt _ _ t htl]; exact ht0)
  (by rw [World.frozen?_alloc_old _ _ t (by simp; omega), World.frozen?_alloc_old _ _ t (by simp; omega), World.frozen?_alloc_old _ _ t (by simp; omega), World.frozen?_alloc_old _ _ t (Nat.ne_of_lt htl)]; exact hf0)
 go_enter Tryz.func67, Tryz.ntmps67
 go_wp2
 refine wp_loop_rounds 1 ?_
 rw [rounds_succ]
 go_wp2
 go_ret
 exact ⟨rfl, rfl⟩
end Go.Proofs.YtinmcdcmidlgpaaGreatDoor
namespace Go.Proofs.YtinmcdcmidlgpaaGreatDoor
open Go.ChangeShapes Go.WideShapes Go.ChangeAt Go.RowKit
set_option linter.unusedVariables false
set_option linter.unusedSimpArgs false
set_option maxHeartbeats 1000000
set_option maxRecDepth 100000
attribute [local irreducible] EvL Ev EvE Quiet Eff Pure RDk RDb RDo
def errW (v : Value) (w : World) : Prop := w.cell? ⟨0, 0, none⟩ = some v ∧ w.cell? ⟨1, 0, none⟩ = some (.iface 239 (.agg #[.pointer (some ⟨2, 119, none⟩)])) ∧ (∃ eb : Addr, v = .iface 285 (.pointer (some eb)))
theorem c_recNo (v : Value) (hv1 : v.oneCell' = true) (n : LogN) (a : Ask) (now : Int) (h : logOkF n = true) (hno : takesA n (entA n a now) = false) : PureE (errW v) Tryz.prog 66 [many (logC n), many (askC a), one (iC now)] 19 122 182 [.int .i64 a.client, .int .i64 a.seq, .int .i64 a.kind, .int .i64 a.a, .int .i64 a.b, .int .i64 a.c, .int .i64 a.d, v] := by
 obtain ⟨hk, hh, hb, he1, he2⟩ := log_all h
 have hsm := log_small h
 have hbd := book_bd hb
 have hbl := book_last hb
 have hbl2 := book_last2 hb
 have hbq : lastB n.book = n.book.base + n.book.entries.length := rfl
 refine pureE_intro (N := 79) Tryz.func66 rfl rfl rfl rfl (fun H w hG hHw => ?_)
 refine sq (rg (evl_e (e_box rfl rfl rfl rfl) (evl_e (e_box rfl rfl rfl rfl) (evl_e (e_alloc ttOk rfl rfl rfl rfl) (xs rfl rfl (nl (et (sq ?_))))))))
 refine' ev_draw [17] mo ?hdr1 ?kdr1
 case hdr1 =>
  refine rk0 0 rfl (q_fieldAddr ttOk rfl) rfl (rk0 1 rfl (q_load ttOk rfl) rfl (rk0 4 rfl (q_move rfl) rfl (rk0 5 rfl (q_fieldAddr ttOk rfl) rfl (rk0 6 rfl (q_load ttOk rfl) rfl (rk0 9 rfl (q_fieldAddr ttOk rfl) rfl (rk0 10 rfl (q_load ttOk rfl) rfl (rk0 11 rfl (q_fieldAddr ttOk rfl) rfl (rk0 12 rfl (q_load ttOk rfl) rfl (rk0 13 rfl (q_fieldAddr ttOk rfl) rfl (rk0 14 rfl (q_load ttOk rfl) rfl (rdk_two 2 16 kr ?_ ?_)))))))))))
  ·refine rdo_call (nm := 13) rfl trivial (cf rfl) (c_lastOf n.book hb) (rs_of rfl) rfl rfl rfl (rk0 3 rfl (q_ar rfl rfl rfl om) rfl (rdk_two 7 16 kr ?_ ?_))
   ·refine rdo_call (nm := 18) rfl trivial (cf rfl) (c_timeOf n.book hb) (rs_of rfl) rfl rfl rfl (rk0 8 rfl (q_max rfl rfl) rfl (rk0 15 rfl (q_build ttOk rfl) rfl (rdk_one 16 kr (rdo_new rfl trivial (e_alloc ttOk rfl rfl rfl rfl) (rdk_one 17 kr (rdo_brk rfl rfl trivial (e_store ttOk rfl) ?_))))))
    exact rdb_fin kr
   ·refine rdo_new rfl trivial (e_alloc ttOk rfl rfl rfl rfl) (rdk_one 7 kr (rdo_call (nm := 18) rfl trivial (cf rfl) (c_timeOf n.book hb) (rs_of rfl) rfl rfl rfl (rk0 8 rfl (q_max rfl rfl) rfl (rk0 15 rfl (q_build ttOk rfl) rfl (rdk_one 17 kr (rdo_brk rfl rfl trivial (e_store ttOk rfl) ?_))))))
    exact rdb_le [] kr lei
  ·refine rdo_new rfl trivial (e_alloc ttOk rfl rfl rfl rfl) (rdk_one 2 kr (rdo_call (nm := 13) rfl trivial (cf rfl) (c_lastOf n.book hb) (rs_of rfl) rfl rfl rfl (rk0 3 rfl (q_ar rfl rfl rfl om) rfl (rdk_one 7 kr (rdo_call (nm := 18) rfl trivial (cf rfl) (c_timeOf n.book hb) (rs_of rfl) rfl rfl rfl (rk0 8 rfl (q_max rfl rfl) rfl (rk0 15 rfl (q_build ttOk rfl) rfl (rdk_one 17 kr (rdo_brk rfl rfl trivial (e_store ttOk rfl) ?_)))))))))
   exact rdb_le [] kr lei
 refine et (sq (sq (rg (xf ttOk rfl rfl (xl ttOk rfl rfl (xl ttOk rfl rfl (evl_call (nm := 30) (cf rfl) (c_fits n.book (entA n a now) hb) (rs_of rfl) rfl rfl rfl (xo (q_not rfl) rfl (nl (et (ev_cond_n rfl (fun h1 => ?_) (fun h1 => ?_))))))))))))
 ·refine sq (ev_frz (cs := logC n) 3 rfl rfl rfl (fun HF3_0 hHF3_0 => ?_))
  refine ev_frz (cs := askC a) 4 rfl rfl rfl (fun HF3_1 hHF3_1 => ?_)
  refine ev_drawh mo (rdh_take 0 rfl kr trivial (q_loadH ttOk rfl rfl) rfl (rdh_take 1 rfl kr trivial (q_loadH ttOk rfl rfl) rfl (rdh_take 2 rfl kr trivial (q_gloadH ttOk rfl rfl rfl (rcell_mono hHF3_1 (rcell_mono hHF3_0 (rcell_heap9 hG.1 hHw))) hv1) rfl (rdh_2 3 6 kr ?_ ?_))))
  ·refine rdho_q rfl trivial (q_build ttOk rfl) rfl (rdh_2 4 6 kr ?_ ?_)
   ·refine rdho_eff rfl trivial (e_box rfl rfl rfl rfl) (rdh_2 5 6 kr ?_ ?_)
    ·refine rdho_q rfl trivial (q_mkib kr rfl) rfl (rdh_1 6 kr (rdho_eff rfl trivial (e_store ttOk rfl) (rdh_take 7 rfl kr trivial (QuietW.h (qw_assign rfl)) rfl (rdh_endq kr (et (ev_ret (evr_then ?_)))))))
     exact ret_pureE ttOk rfl rfl rfl
    ·refine rdho_eff rfl trivial (e_store ttOk rfl) (rdh_1 5 kr (rdho_q rfl trivial (q_mkib kr rfl) rfl (rdh_take 7 rfl kr trivial (QuietW.h (qw_assign rfl)) rfl (rdh_endq kr (et (ev_ret (evr_then ?_)))))))
     exact ret_pureE ttOk rfl rfl rfl
   ·refine rdho_eff rfl trivial (e_store ttOk rfl) (rdh_1 4 kr (rdho_eff rfl trivial (e_box rfl rfl rfl rfl) (rdh_1 5 kr (rdho_q rfl trivial (q_mkib kr rfl) rfl (rdh_take 7 rfl kr trivial (QuietW.h (qw_assign rfl)) rfl (rdh_endq kr (et (ev_ret (evr_then ?_)))))))))
    exact ret_pureE ttOk rfl rfl rfl
  ·refine rdho_eff rfl trivial (e_store ttOk rfl) (rdh_1 3 kr (rdho_q rfl trivial (q_build ttOk rfl) rfl (rdh_1 4 kr (rdho_eff rfl trivial (e_box rfl rfl rfl rfl) (rdh_1 5 kr (rdho_q rfl trivial (q_mkib kr rfl) rfl (rdh_take 7 rfl kr trivial (QuietW.h (qw_assign rfl)) rfl (rdh_endq kr (et (ev_ret (evr_then ?_)))))))))))
   exact ret_pureE ttOk rfl rfl rfl
 ·have hent := (fits_iff.1 h1).1
  refine ev_skip (et (sq (rg (xf ttOk rfl rfl (xl ttOk rfl rfl (xl ttOk rfl rfl (evl_call (nm := 42) (cf rfl) (c_KeptEntry' n.two (entA n a now) hent) (rs_of rfl) rfl rfl rfl (xm rfl rfl (xo (q_ext rfl) rfl (xo (q_ext rfl) rfl (evl_e (e_alloc ttOk rfl rfl rfl rfl) (xst ttOk rfl rfl (xs rfl rfl (nl (et (sq (sq (rg (xm rfl rfl (xo (q_not rfl) rfl (nl (et (ev_cond_n rfl (fun h2 => ?_) (fun h2 => ?_))))))))))))))))))))))))
  ·refine sq (ev_frz (cs := logC n) 3 rfl rfl rfl (fun HF6_0 hHF6_0 => ?_))
   refine ev_frz (cs := askC a) 4 rfl rfl rfl (fun HF6_1 hHF6_1 => ?_)
   refine ev_drawh mo (rdh_take 0 rfl kr trivial (q_loadH ttOk rfl rfl) rfl (rdh_take 1 rfl kr trivial (q_loadH ttOk rfl rfl) rfl (rdh_take 2 rfl kr trivial (q_gloadH ttOk rfl rfl rfl (rcell_mono hHF6_1 (rcell_mono hHF6_0 (rcell_heap9 hG.1 hHw))) hv1) rfl (rdh_2 3 6 kr ?_ ?_))))
   ·refine rdho_q rfl trivial (q_build ttOk rfl) rfl (rdh_2 4 6 kr ?_ ?_)
    ·refine rdho_eff rfl trivial (e_box rfl rfl rfl rfl) (rdh_2 5 6 kr ?_ ?_)
     ·refine rdho_q rfl trivial (q_mkib kr rfl) rfl (rdh_1 6 kr (rdho_eff rfl trivial (e_store ttOk rfl) (rdh_take 7 rfl kr trivial (QuietW.h (qw_assign rfl)) rfl (rdh_endq kr (et (ev_ret (evr_then ?_)))))))
      exact ret_pureE ttOk rfl rfl rfl
     ·refine rdho_eff rfl trivial (e_store ttOk rfl) (rdh_1 5 kr (rdho_q rfl trivial (q_mkib kr rfl) rfl (rdh_take 7 rfl kr trivial (QuietW.h (qw_assign rfl)) rfl (rdh_endq kr (et (ev_ret (evr_then ?_)))))))
      exact ret_pureE ttOk rfl rfl rfl
    ·refine rdho_eff rfl trivial (e_store ttOk rfl) (rdh_1 4 kr (rdho_eff rfl trivial (e_box rfl rfl rfl rfl) (rdh_1 5 kr (rdho_q rfl trivial (q_mkib kr rfl) rfl (rdh_take 7 rfl kr trivial (QuietW.h (qw_assign rfl)) rfl (rdh_endq kr (et (ev_ret (evr_then ?_)))))))))
     exact ret_pureE ttOk rfl rfl rfl
   ·refine rdho_eff rfl trivial (e_store ttOk rfl) (rdh_1 3 kr (rdho_q rfl trivial (q_build ttOk rfl) rfl (rdh_1 4 kr (rdho_eff rfl trivial (e_box rfl rfl rfl rfl) (rdh_1 5 kr (rdho_q rfl trivial (q_mkib kr rfl) rfl (rdh_take 7 rfl kr trivial (QuietW.h (qw_assign rfl)) rfl (rdh_endq kr (et (ev_ret (evr_then ?_)))))))))))
    exact ret_pureE ttOk rfl rfl rfl
  ·exact absurd hno (by unfold takesA; rw [h1, h2]; decide)
theorem asW_below (w : World) (e t : Addr) : Below w.heap.size w (asW w e t) := by
 refine Below.alloc (Below.alloc (Below.alloc (Below.alloc (Below.refl _ _) ?_ _) ?_ _) ?_ _) ?_ _ <;> simp <;> omega
theorem errW_keep {X : Cx} {S : St} {ρ : Rho} {a : Act} {w : World} {v : Value} (hs : Sim X ρ S a w) (hF : ∀ b ∈ X.F0, X.w0.heap.size ≤ b) (h : errW v X.w0) : errW v w := ⟨cell_keep hs hF h.1, cell_keep hs hF h.2.1, h.2.2⟩
theorem c_AskedOfNo (v : Value) (hv1 : v.oneCell' = true) (n : LogN) (a : Ask) (now : Int) (h1 : logOkF n = true) (h2 : askOkF a = true) (h3 : timeOk now = true) (h4 : a.seq > (findM n.seen a.client).seq) (hno : takesA n (entA n a now) = false) : PureW (errW v) Tryz.prog 16 [many (logC n), many (askC a), one (iC now)] [many' (logR (n)), one' (acksR [])] := by
 have cl := c_LogOk' n
 rw [logOk_same] at cl
 obtain ⟨hk, hh, hb, he1, he2⟩ := log_all h1
 have hsm := log_small h1
 have hso := of_sok (log_seen h1).2.2
 have hone : ∀ u ∈ ([.int .i64 a.client, .int .i64 a.seq, .int .i64 a.kind, .int .i64 a.a, .int .i64 a.b, .int .i64 a.c, .int .i64 a.d, v] : List Value), u.oneCell' = true := by
  intro u hu
  simp only [List.mem_cons, List.not_mem_nil, or_false] at hu
  rcases hu with rfl | rfl | rfl | rfl | rfl | rfl | rfl | rfl
  all_goals first | rfl | exact hv1
 refine pureW_intro (N := 97) Tryz.func16 rfl rfl rfl rfl (fun H w hG => ?_)
 have asH : ∀ (e t : Addr) (o : Value) (w : World), errW v w → w.cell? t = some o → w.frozen? t = false → Calls Tryz.prog 67 #[.iface 122 (.pointer (some e)), .iface 124 (.pointer (some t))] w fun ev w' => ev = .returned (.bool true) ∧ ∃ w1, Below w.heap.size w w1 ∧ w' = w1.setCell t (.pointer (some e)) :=
  fun e t o w hw h5 h6 => (as_hit e t o w hw.2.1 h5 h6).mono fun ev w' hp => ⟨hp.1, _, asW_below w e t, hp.2⟩
 have isH : ∀ (pb : Nat) (w : World), w.cell? ⟨pb, 7, none⟩ = some v → Calls Tryz.prog 68 #[.iface 122 (.pointer (some ⟨pb, 0, none⟩)), v] w fun ev w' => ev = .returned (.bool true) ∧ w' = w := by
  obtain ⟨eb, rfl⟩ := hG.2.2
  exact fun pb w h5 => is_hit pb eb w h5
 refine sq (rg (evl_e (e_box rfl rfl rfl rfl) (evl_e (e_box rfl rfl rfl rfl) (evl_e (e_alloc ttOk rfl rfl rfl rfl) (xs rfl rfl (nl (et (sq (sq (rg (xl ttOk rfl rfl (evl_call (nm := 14) (cf rfl) cl (rs_of rfl) rfl rfl rfl (xo (q_not rfl) rfl (nl (et (ev_cond_kf rfl (nf h1) (ev_skip (et (sq (rg (xl ttOk rfl rfl (evl_call (nm := 18) (cf rfl) (c_copyLog n h1) (rs_of rfl) rfl rfl rfl (evl_e (e_alloc ttOk rfl rfl rfl rfl) (xst ttOk rfl rfl (nl (et (sq (sq (rg (xl ttOk rfl rfl (evl_call (nm := 20) (cf rfl) (c_AskOk' a) (rs_of rfl) rfl rfl rfl (xo (q_not rfl) rfl (xm rfl rfl (gm (nf h2) rfl rfl rfl rfl (evl_callg rfl rfl (nf h2) (nm := 24) (cf rfl) (c_TimeOk' now) (rs_of rfl) rfl rfl rfl (go (nf h2) rfl rfl (q_not rfl) rfl (xo (q_pick_f rfl (nf h2) rfl) rfl (nl (et (ev_cond_kf rfl (nf h3) (ev_skip (et (sq (rg (xf ttOk rfl rfl (xl ttOk rfl rfl (xf ttOk rfl rfl (xl ttOk rfl rfl (evl_call (nm := 32) (cf rfl) (c_markOf n.seen a.client) (rs_of rfl) rfl rfl rfl (evl_e (e_alloc ttOk rfl rfl rfl rfl) ?_))))))))))))))))))))))))))))))))))))))))))))))))))
 refine xst ttOk rfl rfl (nl (et (sq (ev_blk (sq (rg (xf ttOk rfl rfl (xl ttOk rfl rfl (xf ttOk rfl rfl (xl ttOk rfl rfl (xb ttOk rfl rfl (xs rfl rfl (nl (et (ev_cond_kt rfl (decide_eq_true h4) (sq (rg (xl ttOk rfl rfl (xl ttOk rfl rfl (xm rfl rfl (evl_callE 1043 (cf rfl) (c_recNo v hv1 n a now h1 hno) (fun ρ a w hs => errW_keep hs (by simp) hG) hone (rs_of rfl) rfl rfl rfl (xm rfl rfl (xo (q_ext rfl) rfl (xo (q_ext rfl) rfl (evl_e (e_alloc ttOk rfl rfl rfl rfl) (xst ttOk rfl rfl (xs rfl rfl (nl (et (sq (rg (evl_e (e_alloc ttOk rfl rfl rfl rfl) (nl (et (sq (sq (rg (xm rfl rfl (xo (q_mkib kr rfl) rfl (evl_as (cf rfl) asH (fun ρ a w hs => errW_keep hs (by simp) hG) rfl rfl rfl rfl rfl (xm rfl rfl (go rfl rfl rfl (q_load ttOk rfl) rfl (go rfl rfl rfl (q_mkib kr rfl) rfl (go rfl rfl rfl (q_gload ttOk rfl rfl rfl hG.1 (by simp) hv1) rfl (evl_is (k := 7) rfl rfl rfl (cf rfl) isH rfl rfl rfl rfl rfl (xo (q_pick_t rfl rfl rfl) rfl (nl (et (ev_cond_kt rfl rfl (sq ?_))))))))))))))))))))))))))))))))))))))))))))))))))
 refine rg (xl ttOk rfl rfl (xst ttOk rfl rfl (xs rfl rfl (nl (et (ev_ret (evr_then (evr_blk (evr_then (ret_pureN ttOk rfl rfl ?_))))))))))
 simp [RpLe, L2, RcLe]; done
theorem c_AskedOfW (v : Value) (hv1 : v.oneCell' = true) (n : LogN) (a : Ask) (now : Int) : PureW (errW v) Tryz.prog 16 [many (logC n), many (askC a), one (iC now)] [many' (logR ((askedF n a now).1)), one' (acksR (askedF n a now).2)] := by
 by_cases hc : logOkF n = true ∧ askOkF a = true ∧ timeOk now = true ∧ a.seq > (findM n.seen a.client).seq ∧ takesA n (entA n a now) = false
 ·obtain ⟨h1, h2, h3, h4, h5⟩ := hc
  have e : askedF n a now = (n, []) := by
   rw [ak_fresh h1 h2 h3 h4]
   unfold freshLogF
   rw [h5]
   rfl
  rw [e]
  exact c_AskedOfNo v hv1 n a now h1 h2 h3 h4 h5
 ·refine (c_AskedOf1 n a now fun h1 h2 h3 h4 => ?_).w
  cases h5 : takesA n (entA n a now) with
  | true => rfl
  | false => exact absurd ⟨h1, h2, h3, h4, h5⟩ hc
theorem lw_et : Tryz.prog.globalNamed "errors.errorType" = some 1 := by kernel_rfl
theorem lw_full : Tryz.prog.globalNamed "loop.example/g00851/impl.errFull" = some 0 := by kernel_rfl
theorem lw_fullT : (Tryz.prog.globals[0]?).map (·.type) = some 119 := by kernel_rfl
theorem lw_rt : (Tryz.prog.cutTypes.find? (·.1 == "internal/reflectlite.rtype")).map (·.2) = some 239 := by kernel_rfl
theorem lw_oneRow : ((List.range Tryz.prog.types.size).filter fun t => Tryz.prog.rowNamed t [101, 114, 114, 111, 114]) = [119] := by kernel_rfl
theorem lw_cells1 : Tryz.prog.cellsOf 307 = 1 := by kernel_rfl
theorem lw_cells2 : Tryz.prog.cellsOf 9 = 1 := by kernel_rfl
theorem lw_star : "*" ++ "errors.errorString" = "*errors.errorString" := by decide
theorem lw_row (u : TypeId) (h : Tryz.prog.typeName? 3 u = some "*errors.errorString") : u = 285 :=
 typeName_ptr_named (nm := "errors.errorString") (by rw [lw_star]; kernel_rfl) kr (by decide) u (by rw [lw_star]; exact h)
theorem errW_of_laid {W : World} (h : laidMetH Tryz.prog [("errors.errorType", Rows.laid_errors_errorType), ("loop.example/g00851/impl.errFull", Rows.laid_loop_example_g00851_impl_errFull)] W) : ∃ v : Value, v.oneCell' = true ∧ errW v W := by
 have h' : laidMet Tryz.prog [("loop.example/g00851/impl.errFull", Rows.laid_loop_example_g00851_impl_errFull)] W ∧ handlesMet Tryz.prog [("errors.errorType", Rows.laid_errors_errorType)] W := h
 obtain ⟨name, u, ty, e1, e2, e3, e4, e5⟩ := h'.2 _ (List.mem_singleton.2 rfl)
 have en : name = [101, 114, 114, 111, 114] := (Option.some.inj e1).symm
 subst en
 obtain rfl := Option.some.inj (lw_rt.symm.trans e2)
 have hm : ty ∈ (List.range Tryz.prog.types.size).filter fun t => Tryz.prog.rowNamed t [101, 114, 114, 111, 114] := List.mem_filter.2 ⟨List.mem_range.2 e3, e4⟩
 rw [lw_oneRow] at hm
 obtain rfl := List.mem_singleton.1 hm
 have hh : typeHandle Tryz.prog 119 = .pointer (some ⟨2, 119, none⟩) := by kernel_rfl
 rw [hh] at e5
 have c1 : W.cell? ⟨1, 0, none⟩ = some (.iface 239 (.agg #[.pointer (some ⟨2, 119, none⟩)])) := by simpa using World.var?_cell lw_et e5 0
 obtain ⟨ps, ⟨g0, t0, cs0, f0, p0, q0, hg0, ht0, hv0, hd0, hq, e0⟩, hnd, hrows⟩ := h'.1
 obtain rfl := Option.some.inj (lw_full.symm.trans hg0)
 obtain rfl := Option.some.inj (lw_fullT.symm.trans ht0)
 have hq : q0 = [] := hq
 subst hq
 subst e0
 obtain ⟨l0⟩ := cs0
 have ok0 : ∀ u v, l0 = [.iface u v] → Value.okWide Tryz.prog W .any 0 u v := fun u v e => by
  subst e
  exact (hrows 0 0 (by simp [MemPlace.row])).2 u v (by simpa using World.var?_cell lw_full hv0 0)
 obtain ⟨a0, s0, rfl, _⟩ := errorString_of_trod Tryz.underlying119 lw_row Tryz.underlying285 Tryz.underlying307 rfl rfl Tryz.underlying9 lw_cells1 lw_cells2 hd0 ok0
 exact ⟨.iface 285 (.pointer (some a0)), rfl, by simpa using World.var?_cell lw_full hv0 0, c1, a0, rfl⟩
def PureAt (P : Program) (f : FuncId) (args : List (Bool × List C)) (W : World) : Prop := ∀ vs : List Value, L2 (Pc fun b => W.heap[b]?) args vs → Calls P f vs.toArray W fun e w' => e = .returned (.bool true) ∧ Below W.heap.size W w'
theorem PureAt.law {P : Program} {f : FuncId} {args : List (Bool × List C)} {W : World} (h : PureAt P f args W) (_ : World) (vs : List Value) (hv : L2 (Pc fun b => W.heap[b]?) args vs) : Calls P f vs.toArray W fun e w' => e = .returned (.bool true) ∧ Below W.heap.size W w' := h vs hv
theorem law_at {f : FuncId} {args : List (Bool × List C)} {W : World} (hL : laidMetH Tryz.prog [("errors.errorType", Rows.laid_errors_errorType), ("loop.example/g00851/impl.errFull", Rows.laid_loop_example_g00851_impl_errFull)] W) (h : ∀ v : Value, v.oneCell' = true → PureW (errW v) Tryz.prog f args (bR true)) : PureAt Tryz.prog f args W := by
 obtain ⟨v, hv1, hev⟩ := errW_of_laid hL
 intro vs hv
 refine (h v hv1 _ W vs hev (fun _ _ h => h) hv).mono fun e w' ⟨us, F, he, ho, _, _, hb⟩ => ?_
 match us, ho with
 | [u], ⟨F1, F2, ⟨us', e1, e2, e3⟩, _, _⟩ =>
  have e2' := e2 rfl
  match us', e3, e2' with
  | [x], h3, _ =>
   obtain ⟨G1, G2, ⟨⟨h4, _⟩, _⟩, _, _⟩ := h3
   exact ⟨by rw [he, e1]; exact congrArg Ending.returned h4, hb⟩
theorem L_FullBook (v : Value) (hv1 : v.oneCell' = true) (l : List Int) (hl : ∀ x ∈ l, 0 ≤ x ∧ x ≤ 255) : PureW (errW v) Tryz.prog 5 [one (bytes l)] (bR true) := by
 refine pureW_intro (N := 133) Tryz.func5 rfl rfl rfl rfl (fun H w hG => ?_)
 refine sq (rg (xs rfl rfl (nl (et (sq (sq (rg (xm rfl rfl (evl_call (nm := 16) (cf rfl) (c_big _) (rs_of rfl) rfl rfl rfl (nl (et (ev_cond rfl (fun h1 => ?_) (fun h1 => ?_)))))))))))))
 ·try have d1 := of_decide_eq_true h1
  refine sq (rg (xs rfl rfl (nl (et (ev_ret (evr_then (ret_pure' ttOk rfl rfl ?_)))))))
  rfl
 ·try have d1 := of_decide_eq_false h1
  have hn0 : ¬ (l.length : Int) > 4096 := of_decide_eq_false h1
  refine ev_skip (et (sq (rg (xm rfl rfl (evl_mkroll (cf rfl) (c_roll 929) rfl rfl hl om rfl rfl (fun g v0 δ0 hg hsrc => ?_))))))
  refine xs rfl rfl (nl (et (sq (rg (evl_call (nm := 19) (cf rfl) c_NewLog' (rs_of rfl) rfl rfl rfl (evl_e (e_alloc ttOk rfl rfl rfl rfl) (xst ttOk rfl rfl (nl (et (sq (sq (rg (xs rfl rfl (nl (et (ev_blk (ev_loop (fun i : Nat × LogN × DS l.length => (⟨[(18, pbV 18 0), (3, pbV 18 0), (4, pbV 4 0), (5, iV i.1)], [(4, 55, [.rt 101, .rt 102, .rt 103, .rt 104, .c (iC i.2.1.head.num), .c (iC i.2.1.head.base), .c (iC i.2.1.head.time), .rt 105, .c (iC i.2.1.next.num), .c (iC i.2.1.next.base), .c (iC i.2.1.next.time), .rt 106, .c (bC i.2.1.more), .c (iC i.2.1.book.base), .c (iC i.2.1.book.time), .rt 107, .rt 108, .c (iC i.2.1.durable), .rt 109]), (18, 135, diceA v0 i.2.2)], [(101, 74, 1, (i.2.1.two.a.kept.map fun r => [ints r])), (102, 212, 2, (i.2.1.two.a.wait.map fun x => [iC x.1, ints x.2])), (103, 74, 1, (i.2.1.two.b.kept.map fun r => [ints r])), (104, 212, 2, (i.2.1.two.b.wait.map fun x => [iC x.1, ints x.2])), (105, 94, 3, (i.2.1.head.seen.map markC)), (106, 94, 3, (i.2.1.next.seen.map markC)), (107, 80, 9, (i.2.1.book.entries.map entryC)), (108, 94, 3, (i.2.1.seen.map markC)), (109, 83, 4, (i.2.1.owe.map ackC))], []⟩ : St)) (fun i => i.1 ≤ 20 ∧ Nt i.1 i.1 i.2.1 ∧ i.2.1.head.base = 0 ∧ i.2.1.durable = 0) (fun i => 20 - i.1) (0, newLogF, δ0) [(101, 19), (102, 1019), (103, 2019), (104, 3019), (105, 4019), (106, 5019), (107, 6019), (108, 7019), (109, 8019)] (⟨by omega, newNt, rfl, rfl⟩) ⟨trf, trf, ⟨⟨_, rfl, by rfl⟩, ⟨_, rfl, by rfl⟩, ⟨_, rfl, by rfl⟩, ⟨_, rfl, by rfl⟩, ⟨_, rfl, by rfl⟩, ⟨_, rfl, by rfl⟩, ⟨_, rfl, by rfl⟩, ⟨_, rfl, by rfl⟩, ⟨_, rfl, by rfl⟩, trivial⟩, tre, rfl⟩ ?_)))))))))))))))))
  intro i hp
  obtain ⟨k, lg, δ⟩ := i
  have hp : k ≤ 20 ∧ Nt k k lg ∧ lg.head.base = 0 ∧ lg.durable = 0 := hp
  obtain ⟨p0, p1, p2, p3⟩ := hp
  show Ev _ _ _ _ (⟨[(18, pbV 18 0), (3, pbV 18 0), (4, pbV 4 0), (5, iV k)], [(4, 55, [.rt 101, .rt 102, .rt 103, .rt 104, .c (iC lg.head.num), .c (iC lg.head.base), .c (iC lg.head.time), .rt 105, .c (iC lg.next.num), .c (iC lg.next.base), .c (iC lg.next.time), .rt 106, .c (bC lg.more), .c (iC lg.book.base), .c (iC lg.book.time), .rt 107, .rt 108, .c (iC lg.durable), .rt 109]), (18, 135, diceA v0 δ)], [(101, 74, 1, (lg.two.a.kept.map fun r => [ints r])), (102, 212, 2, (lg.two.a.wait.map fun x => [iC x.1, ints x.2])), (103, 74, 1, (lg.two.b.kept.map fun r => [ints r])), (104, 212, 2, (lg.two.b.wait.map fun x => [iC x.1, ints x.2])), (105, 94, 3, (lg.head.seen.map markC)), (106, 94, 3, (lg.next.seen.map markC)), (107, 80, 9, (lg.book.entries.map entryC)), (108, 94, 3, (lg.seen.map markC)), (109, 83, 4, (lg.owe.map ackC))], []⟩ : St)
  refine sq (sq (rg (xm rfl rfl (xb ttOk rfl rfl (nl (et (ev_cond rfl (fun h2 => ?_) (fun h2 => ?_))))))))
  ·try have d2 := of_decide_eq_true h2
   refine ev_skip (et (sq (ev_blk (ev_drawd [10] g mo (rdd_take 18 18 0 rfl kr trivial rfl rfl rfl rfl (q_load ttOk rfl) rfl rfl (rdd_pure 1 rfl kr trivial (qw_move rfl) rfl (rdd_take 18 18 2 rfl kr trivial rfl rfl rfl rfl (q_load ttOk rfl) rfl rfl (rdd_pure 4 rfl kr trivial (qw_move rfl) rfl (rdd_1 3 kr (rddo_roll (nm := 28) 18 rfl trivial rfl rfl (cf rfl) (c_w9Fresh lg p1.lg.seenOk) rfl rfl hsrc (rs_of rfl) (fun _ => rfl) (fun aa δ3 r3 => ?_)))))))))))
   refine rdk rfl rfl rfl ?_
   have hfr := r3
   have hfa := p1.lg.fresh_ok r3.1 r3.2.1 r3.2.2 om
   refine rdd_1 5 kr (rddo_roll (nm := 30) 18 rfl trivial rfl rfl (cf rfl) (c_below _ om) rfl rfl hsrc (rs_of rfl) (fun _ => rfl) (fun x4 δ4 r4 => ?_))
   refine rdk rfl rfl rfl ?_
   obtain ⟨r4a, r4b⟩ := r4
   refine rdd_1 6 kr (rddo_call (nm := 31) rfl trivial (cf rfl) (c_AskedOf1 lg aa _ (p1.ask1 hfa.1 ⟨by omega, by omega⟩ om om)) (rs_of rfl) rfl rfl rfl (rdd_pure 7 rfl kr trivial (qw_move rfl) rfl (rdd_pure 8 rfl kr trivial (qw_ext rfl) rfl (rdd_pure 9 rfl kr trivial (qw_ext rfl) rfl (rdd_1 10 kr (rddo_brk rfl kr trivial (e_store ttOk rfl) (rdd_endq kr (eb (et (rg (xm rfl rfl (xa rfl rfl rfl om rfl (xs rfl rfl (nl (eve_round (k + 1, (askedF lg aa x4).1, δ4) [(101, 31), (102, 1031), (103, 2031), (104, 3031), (105, 4031), (106, 5031), (107, 6031), (108, 7031), (109, 8031)] ?hp ⟨trf, trf, ⟨⟨_, rfl, rfl⟩, ⟨_, rfl, rfl⟩, ⟨_, rfl, rfl⟩, ⟨_, rfl, rfl⟩, ⟨_, rfl, rfl⟩, ⟨_, rfl, rfl⟩, ⟨_, rfl, rfl⟩, ⟨_, rfl, rfl⟩, ⟨_, rfl, rfl⟩, trivial⟩, tre, rfl⟩)))))))))))))))
   case hp =>
    obtain ⟨g1, g2, g3, g4⟩ := p1.ask hfr.1 hfr.2.1 hfr.2.2 (now := x4) ⟨by omega, by omega⟩ om om
    exact ⟨⟨by omega, g1, by rw [g2]; exact p2, by rw [g3]; exact p3⟩, by omega⟩
  ·try have d2 := of_decide_eq_false h2
   refine ev_exit (evx_then (evx_then (evx_hit (et (sq (rg (xm rfl rfl (xl ttOk rfl rfl (evl_roll (nm := 36) (cf rfl) (c_w9Fresh lg p1.lg.seenOk) rfl rfl hsrc (rs_of rfl) (fun _ => rfl) (fun ab δ5 r5 => ?_))))))))))
   refine rlk rfl rfl rfl ?_
   have hfr := r5
   obtain rfl : k = 20 := by omega
   obtain ⟨f1, f2, n1, f3, f4, f5⟩ := p1.full p2 p3 r5.1 r5.2.1 r5.2.2
   have cW1 := c_AskedOfW v hv1 lg ab 70
   rw [f2] at cW1
   dsimp only at cW1
   have cW2 := c_AskedOfW v hv1 n1 ab 70
   rw [f4] at cW2
   dsimp only at cW2
   have cS := c_SyncedLog' lg
   rw [f3] at cS
   dsimp only at cS
   refine evl_e (e_alloc ttOk rfl rfl rfl rfl) (xst ttOk rfl rfl (nl (et (sq (rg (xl ttOk rfl rfl (xl ttOk rfl rfl (evl_callW (nm := 40) (cf rfl) (fun ρ a w hs => errW_keep hs (by simpa using hg) hG) cW1 (rs_of rfl) rfl rfl rfl (xm rfl rfl (xo (q_ext rfl) rfl (xo (q_ext rfl) rfl (evl_e (e_alloc ttOk rfl rfl rfl rfl) (xst ttOk rfl rfl (xs rfl rfl (nl (et (sq (sq (rg (xf ttOk rfl rfl (xl ttOk rfl rfl ?_)))))))))))))))))))))
   first | refine xo (q_len_rtm ttOk rfl rfl rfl) rfl ?_ | refine xo (q_len_map ttOk rfl rfl) rfl ?_
   refine xb ttOk rfl rfl (xm rfl rfl (gm (decide_eq_false om) rfl rfl rfl rfl ?_))
   first | refine go (decide_eq_false om) rfl rfl (q_len_rtm ttOk rfl rfl rfl) rfl ?_ | refine go (decide_eq_false om) rfl rfl (q_len_map ttOk rfl rfl) rfl ?_
   refine go (decide_eq_false om) rfl rfl (q_bin ttOk rfl) rfl (xo (q_pick_f rfl (decide_eq_false om) rfl) rfl (xm rfl rfl (go rfl rfl rfl (q_load ttOk rfl) rfl (go rfl rfl rfl (q_load ttOk rfl) rfl ?_))))
   first | refine evl_callg rfl rfl rfl (nm := 55) (cf rfl) (c_SameLog' lg lg) (rs_of rfl) rfl rfl rfl ?_ | refine evl_callg rfl rfl rfl (nm := 55) (cf rfl) (c_SameLog' n1 n1) (rs_of rfl) rfl rfl rfl ?_
   refine go rfl rfl rfl (q_not rfl) rfl (xo (q_pick_f rfl rfl rfl) rfl (nl (et (ev_cond_kf rfl (nf sameL_refl) (ev_skip (et (sq (rg (xl ttOk rfl rfl ?_)))))))))
   first | refine evl_call (nm := 60) (cf rfl) cSy (rs_of rfl) rfl rfl rfl ?_ | refine evl_call (nm := 60) (cf rfl) cS (rs_of rfl) rfl rfl rfl ?_
   refine xm rfl rfl (xo (q_ext rfl) rfl (xo (q_ext rfl) rfl (xst ttOk rfl rfl (xs rfl rfl (nl (et (sq (rg (xl ttOk rfl rfl (xl ttOk rfl rfl (evl_callW (nm := 66) (cf rfl) (fun ρ a w hs => errW_keep hs (by simpa using hg) hG) cW2 (rs_of rfl) rfl rfl rfl (xm rfl rfl (xo (q_ext rfl) rfl (xo (q_ext rfl) rfl (xst ttOk rfl rfl (xs rfl rfl (nl (et (sq (rg (xm rfl rfl (evl_roll (nm := 70) (cf rfl) (c_below _ om) rfl rfl hsrc (rs_of rfl) (fun _ => rfl) (fun yk δ6 r6 => ?_)))))))))))))))))))))))
   refine rlk rfl rfl rfl ?_
   obtain ⟨r6a, r6b⟩ := r6
   obtain ⟨q, hq⟩ : ∃ q : Int, q = 1 + yk := ⟨_, rfl⟩
   obtain ⟨y, z, fz1, fz2, fz3, hzo, fz5⟩ := f5 q om om
   have cT := c_TrimAsked' n1 q
   have cSy := c_SyncedLog' (trimAskedF n1 q)
   rw [fz1] at cSy
   have cW3 := c_AskedOfW v hv1 y ab 70
   rw [fz3] at cW3
   dsimp only at cW3
   refine xa rfl rfl rfl om rfl (xs rfl rfl (nl (et (sq ?_))))
   rw [← hq]
   refine rg (xl ttOk rfl rfl (xm rfl rfl (evl_call (nm := 75) (cf rfl) cT (rs_of rfl) rfl rfl rfl ?_)))
   first | refine evl_call (nm := 76) (cf rfl) cSy (rs_of rfl) rfl rfl rfl ?_ | refine evl_call (nm := 76) (cf rfl) cS (rs_of rfl) rfl rfl rfl ?_
   refine xm rfl rfl (xo (q_ext rfl) rfl (xo (q_ext rfl) rfl (evl_e (e_alloc ttOk rfl rfl rfl rfl) (xst ttOk rfl rfl (xs rfl rfl (nl (et (sq (rg (xl ttOk rfl rfl (xl ttOk rfl rfl (evl_callW (nm := 82) (cf rfl) (fun ρ a w hs => errW_keep hs (by simpa using hg) hG) cW3 (rs_of rfl) rfl rfl rfl (xm rfl rfl (xo (q_ext rfl) rfl (xo (q_ext rfl) rfl (evl_e (e_alloc ttOk rfl rfl rfl rfl) (xst ttOk rfl rfl (xs rfl rfl (nl (et (sq (ev_drawq [] mo (rk0 0 rfl (q_move rfl) rfl ?_)))))))))))))))))))))))
   first | refine rk0 1 rfl (q_len_rtm ttOk rfl rfl rfl) rfl ?_ | refine rk0 1 rfl (q_len_map ttOk rfl rfl) rfl ?_
   refine rk0 2 rfl (q_bin ttOk rfl) rfl (rk0 3 rfl (q_move rfl) rfl (rdk_take 4 rfl kr ⟨_, _, rfl, rfl, (decide_eq_true om)⟩ (q_move rfl) rfl ?_))
   first | refine rdk_take 5 rfl kr ⟨_, _, rfl, rfl, (decide_eq_true om)⟩ (q_len_rtm ttOk rfl rfl rfl) rfl ?_ | refine rdk_take 5 rfl kr ⟨_, _, rfl, rfl, (decide_eq_true om)⟩ (q_len_map ttOk rfl rfl) rfl ?_
   refine rdk_take 6 rfl kr ⟨_, _, rfl, rfl, (decide_eq_true om)⟩ (q_bin ttOk rfl) rfl (rk0 7 rfl (q_pick_t rfl (decide_eq_true om) rfl) rfl (rk0 8 rfl (q_move rfl) rfl (rkt 9 rfl rfl rfl rfl (q_load ttOk rfl) rfl (rkt 10 rfl rfl rfl rfl (q_load ttOk rfl) rfl (rdk_one 11 kr ?_)))))
   first | refine rdo_call (nm := 96) rfl ⟨_, _, rfl, rfl, rfl⟩ (cf rfl) (c_SameLog' lg lg) (rs_of rfl) rfl rfl rfl ?_ | refine rdo_call (nm := 96) rfl ⟨_, _, rfl, rfl, rfl⟩ (cf rfl) (c_SameLog' n1 n1) (rs_of rfl) rfl rfl rfl ?_
   refine rk0 12 rfl (q_pick_t rfl rfl rfl) rfl (rk0 13 rfl (q_move rfl) rfl (rkt 14 rfl rfl rfl sameL_refl (q_fieldAddr ttOk rfl) rfl (rkt 15 rfl rfl rfl sameL_refl (q_fieldAddr ttOk rfl) rfl (rkt 16 rfl rfl rfl sameL_refl (q_load ttOk rfl) rfl (rkt 17 rfl rfl rfl sameL_refl (q_move rfl) rfl (rkt 18 rfl rfl rfl sameL_refl (q_bin ttOk rfl) rfl (rk0 19 rfl (q_pick_t rfl sameL_refl rfl) rfl (rk0 20 rfl (q_move rfl) rfl (rdk_take 21 rfl kr ⟨_, _, rfl, rfl, (decide_eq_true fz2)⟩ (q_fieldAddr ttOk rfl) rfl (rdk_take 22 rfl kr ⟨_, _, rfl, rfl, (decide_eq_true fz2)⟩ (q_load ttOk rfl) rfl ?_))))))))))
   first | refine rdk_take 23 rfl kr ⟨_, _, rfl, rfl, (decide_eq_true fz2)⟩ (q_len_rtm ttOk rfl rfl rfl) rfl ?_ | refine rdk_take 23 rfl kr ⟨_, _, rfl, rfl, (decide_eq_true fz2)⟩ (q_len_map ttOk rfl rfl) rfl ?_
   refine rdk_take 24 rfl kr ⟨_, _, rfl, rfl, (decide_eq_true fz2)⟩ (q_bin ttOk rfl) rfl (rk0 25 rfl (q_pick_t rfl (decide_eq_true fz2) rfl) rfl (rk0 26 rfl (q_move rfl) rfl (rdk_take 27 rfl kr ⟨_, _, rfl, rfl, (decide_eq_true (by rw [hzo]; rfl))⟩ (q_fieldAddr ttOk rfl) rfl (rdk_take 28 rfl kr ⟨_, _, rfl, rfl, (decide_eq_true (by rw [hzo]; rfl))⟩ (q_load ttOk rfl) rfl (rdk_take 29 rfl kr ⟨_, _, rfl, rfl, (decide_eq_true (by rw [hzo]; rfl))⟩ (q_ix_rt (m := 0) ttOk rfl rfl rfl rfl rfl rfl (by simp [hzo])) rfl (rdk_take 30 rfl kr ⟨_, _, rfl, rfl, (decide_eq_true (by rw [hzo]; rfl))⟩ (q_fieldAddr ttOk rfl) rfl (rdk_take 31 rfl kr ⟨_, _, rfl, rfl, (decide_eq_true (by rw [hzo]; rfl))⟩ (q_load_pr (row := ackC (⟨ab.client, ab.seq, 21, ab.seq⟩ : Ack)) ttOk rfl rfl rfl rfl (by rw [hzo]; rfl) rfl rfl) rfl (rdk_take 32 rfl kr ⟨_, _, rfl, rfl, (decide_eq_true (by rw [hzo]; rfl))⟩ (q_bin ttOk rfl) rfl (rk0 33 rfl (q_pick_t rfl (decide_eq_true (by rw [hzo]; rfl)) rfl) rfl (rk0 34 rfl (q_move rfl) rfl (rdk_take 35 rfl kr ⟨_, _, rfl, rfl, (decide_eq_true rfl)⟩ (q_fieldAddr ttOk rfl) rfl (rdk_take 36 rfl kr ⟨_, _, rfl, rfl, (decide_eq_true rfl)⟩ (q_load ttOk rfl) rfl (rdk_take 37 rfl kr ⟨_, _, rfl, rfl, (decide_eq_true rfl)⟩ (q_ix_rt (m := 0) ttOk rfl rfl rfl rfl rfl rfl (by simp [hzo])) rfl (rdk_take 38 rfl kr ⟨_, _, rfl, rfl, (decide_eq_true rfl)⟩ (q_fieldAddr ttOk rfl) rfl (rdk_take 39 rfl kr ⟨_, _, rfl, rfl, (decide_eq_true rfl)⟩ (q_load_pr (row := ackC (⟨ab.client, ab.seq, 21, ab.seq⟩ : Ack)) ttOk rfl rfl rfl rfl (by rw [hzo]; rfl) rfl rfl) rfl (rdk_take 40 rfl kr ⟨_, _, rfl, rfl, (decide_eq_true rfl)⟩ (q_fieldAddr ttOk rfl) rfl (rdk_take 41 rfl kr ⟨_, _, rfl, rfl, (decide_eq_true rfl)⟩ (q_load ttOk rfl) rfl (rdk_take 42 rfl kr ⟨_, _, rfl, rfl, (decide_eq_true rfl)⟩ (q_bin ttOk rfl) rfl (rk0 43 rfl (q_pick_t rfl (decide_eq_true rfl) rfl) rfl (rk0 44 rfl (q_move rfl) rfl (rdk_take 45 rfl kr ⟨_, _, rfl, rfl, (decide_eq_true rfl)⟩ (q_load ttOk rfl) rfl (rdk_one 46 kr (rdo_call (nm := 131) rfl ⟨_, _, rfl, rfl, (decide_eq_true rfl)⟩ (cf rfl) (c_LogOk z) (rs_of rfl) rfl rfl rfl (rk0 47 rfl (q_pick_t rfl (decide_eq_true rfl) rfl) rfl (rk0 48 rfl (q_assign rfl) rfl (rdk_endq kr (et (ev_ret ?_))))))))))))))))))))))))))))
   exact ret_law hg ttOk rfl rfl (congrArg bR fz5)
end Go.Proofs.YtinmcdcmidlgpaaGreatDoor
