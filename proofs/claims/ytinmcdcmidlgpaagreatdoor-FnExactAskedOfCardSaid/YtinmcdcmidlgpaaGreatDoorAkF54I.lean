/- Walks of functions of the program, printed by a program of the prover. -/
import Derived.Test.YtinmcdcmidlgpaaGreatDoorAkF56
import Derived.Test.YtinmcdcmidlgpaaGreatDoorAkVL
import Derived.LaidEql
import Derived.Stop.Asserts
import Derived.RowKitTokens
namespace Go.Proofs.YtinmcdcmidlgpaaGreatDoor
open Go.ChangeShapes Go.WideShapes Go.ChangeAt Go.RowKit
set_option linter.unusedVariables false
set_option linter.unusedSimpArgs false
set_option maxHeartbeats 1000000
set_option maxRecDepth 100000
attribute [local irreducible] EvL Ev EvE Quiet Eff Pure RDk RDb RDo
open Go.Extern.Stop Go.Stop Go.Extern
theorem is_typeOf (v : Value) (w : World) : (Extern.ReflectliteType.typeOf #[.iface 285 v]).run Tryz.prog w = .ok (.iface 239 (.agg #[.pointer (some ⟨2, 285, none⟩)])) w := by kernel_rfl
def isCmp : TypeId → Sem Value := fun t => do Rtype.noPackHeld "Comparable" t; pure (.bool (← typeInfo t).comparable)
theorem is_comparable (w : World) : ((Extern.ReflectliteType.method isCmp) #[.agg #[.pointer (some ⟨2, 285, none⟩)]]).run Tryz.prog w = .ok (.bool true) w := by kernel_rfl
theorem is_methodComparable (v : Value) (w : World) : (Go.method 419 239 v "Comparable").run Tryz.prog w = .ok (290, v) w := by kernel_rfl
theorem is_comp : (Tryz.prog.info? 285).map (·.comparable) = some true := by kernel_rfl
theorem is_size : (Tryz.prog.info? 307).map (·.size) = some 1 := by kernel_rfl
theorem is_noIs (v : Value) (xT : TypeId) (w : World) : (Instr.typeAssert (.iface 122 v) xT 251 true).run Tryz.prog w = .ok (.tuple #[.nilIface, .bool false]) w := run_typeAssert_lacksB Tryz.underlying251 kr kr v xT w
theorem is_hasUnwrap (v : Value) (xT : TypeId) (w : World) : (Instr.typeAssert (.iface 122 v) xT 246 true).run Tryz.prog w = .ok (.tuple #[.iface 122 v, .bool true]) w := run_typeAssert_hasB Tryz.underlying246 kr v xT w
theorem is_methodUnwrap (v : Value) (w : World) : (Go.method 419 122 v "Unwrap").run Tryz.prog w = .ok (284, v) w := by kernel_rfl
set_option maxHeartbeats 4000000 in
theorem is_hit (pb : Nat) (b : Addr) (w : World) (h1 : w.cell? ⟨pb, 7, none⟩ = some (.iface 285 (.pointer (some b)))) :
  Calls Tryz.prog 68 #[.iface 122 (.pointer (some ⟨pb, 0, none⟩)), .iface 285 (.pointer (some b))] w fun e w' => e = .returned (.bool true) ∧ w' = w := by
 obtain ⟨i, hi, hcmp⟩ := Option.map_eq_some_iff.1 is_comp
 obtain ⟨j, hj, hjs⟩ := Option.map_eq_some_iff.1 is_size
 have h8 := @run_callFunc_extern Tryz.prog 155 _ Extern.ReflectliteType.typeOf Tryz.func155 kr kr kr kr
 have h32 := @run_callFunc_extern Tryz.prog 290 _ (Extern.ReflectliteType.method isCmp) Tryz.func290 kr kr kr kr
 have tT := is_typeOf
 have cT := is_comparable
 have mR := is_methodComparable
 have nW := is_noIs
 have uW := is_hasUnwrap
 have mU := is_methodUnwrap
 have heq := run_eql_iface_ptr_same (P := Tryz.prog) w b Tryz.underlying119 Tryz.underlying285 hi hcmp hj
 have hty := run_eql_iface_types (P := Tryz.prog) 122 285 (.pointer (some ⟨pb, 0, none⟩)) (.pointer (some b)) Tryz.underlying119 (by decide) w
 go_enter Tryz.func68, Tryz.ntmps68
 go_wp2
 refine wp_loop_rounds 2 ?_
 rw [rounds_succ]
 go_wp2
 rw [rounds_succ]
 go_wp2
 go_ret
 exact ⟨rfl, rfl⟩
end Go.Proofs.YtinmcdcmidlgpaaGreatDoor
