/- The seat's tables: its types, its functions. -/
import Derived.Test.YtahkjonokeifmaaGreatProg
import Derived.Test.YtahkjonokeifmaaGreatRaVA
namespace Go.Proofs.YtahkjonokeifmaaGreat
set_option maxRecDepth 100000
def tt : List (Nat × TI) := [(2, ⟨1, 8, [.v (.int .i64 0)], .ot⟩), (3, ⟨1, 8, [.v (.int .i64 0)], .ot⟩), (4, ⟨1, 1, [.v (.bool false)], .bo⟩), (5, ⟨1, 1, [.v (.int .u8 0)], .ot⟩), (22, ⟨1, 24, [.nil], .sl 5⟩), (24, ⟨1, 8, [.v (.pointer none)], .ot⟩), (26, ⟨1, 8, [.v (.int .u64 0)], .ot⟩), (27, ⟨1, 24, [.nil], .sl 45⟩), (28, ⟨1, 24, [.nil], .sl 103⟩), (30, ⟨2, 48, [.nil, .nil], .st [(0, 1, false), (1, 1, false)]⟩), (32, ⟨4, 96, [.nil, .nil, .nil, .nil], .st [(0, 2, true), (2, 2, true)]⟩), (34, ⟨1, 24, [.nil], .sl 76⟩), (36, ⟨4, 48, [.v (.int .i64 0), .v (.int .i64 0), .v (.int .i64 0), .nil], .st [(0, 1, false), (1, 1, false), (2, 1, false), (3, 1, false)]⟩), (37, ⟨1, 24, [.nil], .sl 62⟩), (39, ⟨3, 40, [.v (.int .i64 0), .v (.int .i64 0), .nil], .st [(0, 1, false), (1, 1, false), (2, 1, false)]⟩), (45, ⟨1, 24, [.nil], .sl 2⟩), (54, ⟨3, 40, [.nil, .v (.int .i64 0), .v (.int .u64 0)], .st [(0, 1, false), (1, 1, false), (2, 1, false)]⟩), (57, ⟨22, 528, [.nil, .nil, .nil, .nil, .nil, .nil, .nil, .nil, .nil, .nil, .nil, .nil, .nil, .nil, .nil, .nil, .nil, .nil, .nil, .nil, .nil, .nil], .ar 22 45 1 false⟩), (60, ⟨5, 40, [.v (.int .i64 0), .v (.int .i64 0), .v (.int .i64 0), .v (.int .i64 0), .v (.int .i64 0)], .st [(0, 1, false), (1, 1, false), (2, 1, false), (3, 1, false), (4, 1, false)]⟩), (62, ⟨9, 72, [.v (.int .i64 0), .v (.int .i64 0), .v (.int .i64 0), .v (.int .i64 0), .v (.int .i64 0), .v (.int .i64 0), .v (.int .i64 0), .v (.int .i64 0), .v (.int .i64 0)], .st [(0, 1, false), (1, 1, false), (2, 1, false), (3, 1, false), (4, 5, true)]⟩), (68, ⟨2, 48, [.nil, .nil], .ar 2 45 1 false⟩), (69, ⟨4, 96, [.nil, .nil, .nil, .nil], .ar 2 30 2 true⟩), (76, ⟨3, 24, [.v (.int .i64 0), .v (.int .i64 0), .v (.int .i64 0)], .st [(0, 1, false), (1, 1, false), (2, 1, false)]⟩), (82, ⟨1, 8, [.v (.pointer none)], .ot⟩), (89, ⟨1, 8, [.v .nilFunc], .ot⟩), (103, ⟨2, 32, [.v (.int .i64 0), .nil], .st [(0, 1, false), (1, 1, false)]⟩), (106, ⟨1, 8, [.v (.map none)], .ot⟩), (108, ⟨3, 40, [.nil, .v (.int .i64 0), .v (.int .i64 0)], .st [(0, 1, false), (1, 1, false), (2, 1, false)]⟩), (117, ⟨6, 64, [.v (.int .i64 0), .v (.int .i64 0), .v (.int .i64 0), .v (.int .i64 0), .v (.int .i64 0), .nil], .st [(0, 5, true), (5, 1, false)]⟩), (135, ⟨1, 8, [.v (.map none)], .ot⟩)]
theorem ttOk : TTOk Tryz.prog tt := ttok kr
def ff : List Nat := [4, 5, 6, 7, 8, 9, 10, 11, 12, 13, 14, 15, 16, 17, 18, 19, 20, 21, 22, 23, 24, 25, 26, 27, 28, 29, 30, 31, 32, 33, 34, 35, 36, 37, 38, 39, 40, 41, 42, 43, 44, 45, 46, 47, 48, 49, 51, 52, 53, 54, 55, 56, 57, 58, 59, 60, 61, 62, 63, 64, 65, 66, 67, 68, 69, 70, 71, 72, 73, 74, 75, 76, 77, 78, 79, 80, 81, 82, 83, 84, 85, 86, 87, 88, 89, 90, 91, 92, 93, 94, 95, 96, 97, 98, 99, 100, 101, 102, 103, 104, 105, 106, 107, 108, 109, 110, 111, 112, 113, 114, 115, 116, 117, 118, 119, 120, 121, 122, 123, 124, 125, 126, 127, 128, 129, 130, 131, 132, 133, 134, 135, 136, 137, 138, 139, 140, 141, 142, 143, 144, 145, 146, 147, 148, 149, 150, 151, 152, 153, 154, 155, 156]
theorem ffAll : ff.all (chkF Tryz.prog) = true := by kernel_rfl
theorem mo : Tryz.prog.follows .mixedOrders = true := by kernel_rfl
theorem cf {f : Nat} (h : memN f ff = true) : chkF Tryz.prog f = true := by
 have key : ∀ {l : List Nat}, memN f l = true → f ∈ l := by
  intro l
  induction l with
  | nil => intro h; cases h
  | cons x r ih =>
   intro h
   unfold memN at h
   split at h
   ·rename_i hx; rw [Nat.eq_of_beq_eq_true hx]; simp
   ·exact List.mem_cons_of_mem _ (ih h)
 exact List.all_eq_true.1 ffAll f (key h)
end Go.Proofs.YtahkjonokeifmaaGreat
