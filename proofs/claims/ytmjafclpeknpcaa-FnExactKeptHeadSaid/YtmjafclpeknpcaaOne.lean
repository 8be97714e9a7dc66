/- Letters of one number: fetch, trim, poll. -/
import Derived.Test.YtmjafclpeknpcaaMarks
import Derived.Test.YtmjafclpeknpcaaIface
import Derived.Test.YtmjafclpeknpcaaApp
namespace Go.Proofs.Ytmjafclpeknpcaa
open Go.RowKit
set_option maxHeartbeats 400000
set_option maxRecDepth 100000

def oneRow (kind x lo hi : Int) : List Int := if inB x lo hi then [kind, x] else []
theorem oneRow_t {kind x lo hi : Int} (h : inB x lo hi = true) : oneRow kind x lo hi = [kind, x] := by simp [oneRow, h]
theorem oneRow_f {kind x lo hi : Int} (h : inB x lo hi = false) : oneRow kind x lo hi = [] := by simp [oneRow, h]
theorem owns_lit (w : World) (lo ty : Nat) (l : List Int) (hb : lo ≤ w.heap.size) (hl : l.length ≤ 1099511627776) (hin : ∀ x ∈ l, inI64 x) :
    IntsO (w.alloc (.cells (l.map (Value.int .i64)).toArray ty)) lo ty (.slice (some ⟨w.heap.size, 0, none⟩) l.length l.length) l := by
  refine ⟨hin, by omega, ?_⟩
  have := World.ownsRow_lit (base := lo) (e := ty) (size := 1) w (l.map (Value.int .i64)).toArray l.length hb (by unfold maxLen; omega) (by simp)
  simpa using this
theorem owns_empty (w : World) (lo ty : Nat) (hb : lo ≤ w.heap.size) : IntsO (w.alloc (.cells #[] ty)) lo ty (.slice (some ⟨w.heap.size, 0, none⟩) 0 0) [] := owns_lit w lo ty [] hb (by simp) (by simp)
theorem owns_nil (w : World) (lo ty : Nat) : IntsO w lo ty (.slice none 0 0) [] := ⟨by simp, by simp, World.ownsRow_nil _ _ _ _⟩

theorem ta_Ack (t : TypeId) (h : t ≠ 97) (xt : TypeId) (v : Value) (w : World) : (Instr.typeAssert (.iface t v) xt 97 true).run Try.prog w = .ok (.tuple #[.agg #[.int .i64 0, .int .i64 0, .int .i64 0, .int .i64 0], .bool false]) w :=
  ta_no Try.underlying97 rfl (fun _ => by kernel_rfl) h v w
end Go.Proofs.Ytmjafclpeknpcaa
