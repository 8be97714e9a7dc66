/- The seat's tables: its types, its functions. -/
import Derived.Test.YtahkjonokeifmaaProg
import Derived.Test.YtahkjonokeifmaaKeVB
namespace Go.Proofs.Ytahkjonokeifmaa
set_option maxRecDepth 100000
def tt : List (Nat × TI) := [(2, ⟨1, 8, [.v (.int .i64 0)], .ot⟩), (3, ⟨1, 8, [.v (.int .i64 0)], .ot⟩), (4, ⟨1, 1, [.v (.bool false)], .bo⟩), (5, ⟨1, 1, [.v (.int .u8 0)], .ot⟩), (22, ⟨1, 24, [.nil], .sl 5⟩), (24, ⟨1, 8, [.v (.pointer none)], .ot⟩), (26, ⟨1, 8, [.v (.int .u64 0)], .ot⟩), (27, ⟨1, 24, [.nil], .sl 59⟩), (30, ⟨1, 24, [.nil], .sl 39⟩), (31, ⟨1, 24, [.nil], .sl 92⟩), (33, ⟨2, 48, [.nil, .nil], .st [(0, 1, false), (1, 1, false)]⟩), (35, ⟨4, 96, [.nil, .nil, .nil, .nil], .st [(0, 2, true), (2, 2, true)]⟩), (39, ⟨1, 24, [.nil], .sl 2⟩), (43, ⟨1, 24, [.nil], .sl 89⟩), (45, ⟨4, 48, [.v (.int .i64 0), .v (.int .i64 0), .v (.int .i64 0), .nil], .st [(0, 1, false), (1, 1, false), (2, 1, false), (3, 1, false)]⟩), (47, ⟨3, 40, [.v (.int .i64 0), .v (.int .i64 0), .nil], .st [(0, 1, false), (1, 1, false), (2, 1, false)]⟩), (55, ⟨3, 40, [.nil, .v (.int .i64 0), .v (.int .u64 0)], .st [(0, 1, false), (1, 1, false), (2, 1, false)]⟩), (57, ⟨5, 40, [.v (.int .i64 0), .v (.int .i64 0), .v (.int .i64 0), .v (.int .i64 0), .v (.int .i64 0)], .st [(0, 1, false), (1, 1, false), (2, 1, false), (3, 1, false), (4, 1, false)]⟩), (59, ⟨9, 72, [.v (.int .i64 0), .v (.int .i64 0), .v (.int .i64 0), .v (.int .i64 0), .v (.int .i64 0), .v (.int .i64 0), .v (.int .i64 0), .v (.int .i64 0), .v (.int .i64 0)], .st [(0, 1, false), (1, 1, false), (2, 1, false), (3, 1, false), (4, 5, true)]⟩), (68, ⟨2, 48, [.nil, .nil], .ar 2 39 1 false⟩), (69, ⟨4, 96, [.nil, .nil, .nil, .nil], .ar 2 33 2 true⟩), (80, ⟨22, 528, [.nil, .nil, .nil, .nil, .nil, .nil, .nil, .nil, .nil, .nil, .nil, .nil, .nil, .nil, .nil, .nil, .nil, .nil, .nil, .nil, .nil, .nil], .ar 22 39 1 false⟩), (89, ⟨3, 24, [.v (.int .i64 0), .v (.int .i64 0), .v (.int .i64 0)], .st [(0, 1, false), (1, 1, false), (2, 1, false)]⟩), (92, ⟨2, 32, [.v (.int .i64 0), .nil], .st [(0, 1, false), (1, 1, false)]⟩), (101, ⟨1, 8, [.v .nilFunc], .ot⟩), (116, ⟨6, 64, [.v (.int .i64 0), .v (.int .i64 0), .v (.int .i64 0), .v (.int .i64 0), .v (.int .i64 0), .nil], .st [(0, 5, true), (5, 1, false)]⟩), (118, ⟨1, 8, [.v (.map none)], .ot⟩), (121, ⟨1, 8, [.v (.map none)], .ot⟩)]
theorem ttOk : TTOk Try.prog tt := ttok kr
def ff : List Nat := [4, 5, 6, 7, 8, 9, 10, 11, 12, 13, 14, 15, 16, 17, 18, 19, 20, 21, 22, 23, 24, 25, 26, 27, 28, 29, 30, 31, 32, 33, 34, 35, 36, 37, 38, 39, 40, 41, 42, 43, 44, 45, 46, 47, 48, 49, 50, 51, 52, 53, 54, 55, 56, 58, 59, 60, 61, 62, 63, 64, 65, 66, 67, 68, 69, 70, 71, 72, 73, 74, 75, 76, 77, 78, 79, 80, 81, 82, 83, 84]
theorem ffAll : ff.all (chkF Try.prog) = true := by kernel_rfl
theorem mo : Try.prog.follows .mixedOrders = true := by kernel_rfl
theorem cf {f : Nat} (h : memN f ff = true) : chkF Try.prog f = true := by
 have key : ∀ {l : List Nat}, memN f l = true → f ∈ l := by
  intro l
  induction l with
  | nil => intro h; cases h
  | cons x r ih =>
   intro h
   unfold memN at h
   split at h
   ·rename_i hx; rw [Nat.eq_of_beq_eq_true hx]; simp
   ·exact List.mem_cons_of_mem _ (ih h)
 exact List.all_eq_true.1 ffAll f (key h)
end Go.Proofs.Ytahkjonokeifmaa
