/- The draws of the laws: a box of the law's own. -/
import Derived.Test.YtpfkfppooeikeaaCut
import Derived.WalkKit
import Derived.WalkSpells
import Derived.Deep.QuietTactic
import Derived.BigQuiet
import Derived.Deep.Light
import Derived.Lib.Hide
import Derived.IntWalk
import Derived.WalkSmall
namespace Go.Proofs.Ytpfkfppooeikeaa
open Go.ChangeShapes Go.WideShapes Go.ChangeAt Go.RowKit Go.Deep
set_option maxHeartbeats 800000
set_option maxRecDepth 100000

/-- a slice of bytes that is only read -/
def BytesR (w : World) (lo : Nat) (ao : Option Addr) (l : List Int) : Prop :=
  (∀ x ∈ l, 0 ≤ x ∧ x ≤ 255) ∧
  (l = [] ∨ ∃ b off, ao = some ⟨b, off, none⟩ ∧ b < lo ∧ ∀ i x, l[i]? = some x → w.cell? ⟨b, off + i, none⟩ = some (.int .u8 x))
def big64 : Int := 18446744073709551616
/-- the dice in block g -/
def Dice (w : World) (g : Nat) : Prop :=
  ∃ (ao : Option Addr) (cap : Nat) (l : List Int) (i : Nat) (h : Int), BytesR w g ao l ∧ i ≤ l.length ∧ l.length ≤ 4096 ∧ 0 ≤ h ∧ h < big64 ∧ Bx w g [.slice ao l.length cap, .int .i64 i, .int .u64 h] ∧ Fx w g
theorem BytesR.kept {w w' : World} {lo : Nat} {ao : Option Addr} {l : List Int} (h : BytesR w lo ao l) (hlo : lo ≤ w.heap.size) {row : Option Nat} (hg : w.grownBy w' row) (hr : ∀ k, row = some k → lo ≤ k) : BytesR w' lo ao l := by
  obtain ⟨h1, h2⟩ := h
  refine ⟨h1, ?_⟩
  rcases h2 with h2 | ⟨b, off, rfl, hlt, hc⟩
  · exact .inl h2
  · refine .inr ⟨b, off, rfl, hlt, fun i x hx => ?_⟩
    rw [← hc i x hx]
    exact World.cell?_of_block (a := ⟨b, off + i, none⟩) (hg.block b (by omega) (fun e => by have := hr b e.symm; omega))
theorem Dice.kept {w w' : World} {g : Nat} (h : Dice w g) {row : Option Nat} (hg : w.grownBy w' row) (hr : ∀ k, row = some k → g < k) : Dice w' g := by
  obtain ⟨ao, cap, l, i, hh, h1, h2, h3, h4, h5, h6, h7⟩ := h
  exact ⟨ao, cap, l, i, hh, h1.kept (Nat.le_of_lt h6.1) hg (fun k hk => Nat.le_of_lt (hr k hk)), h2, h3, h4, h5, h6.grown hg (fun e => by have := hr _ e; omega), h7.grown hg (fun e => by have := hr _ e; omega)⟩
theorem Dice.below {w w' : World} {g : Nat} (h : Dice w g) (hb : Below w.heap.size w w') : Dice w' g :=
  h.kept (grown_of_below hb) (fun k hk => by cases hk)
theorem Dice.alloc {w : World} {g : Nat} (h : Dice w g) (o : Obj) : Dice (w.alloc o) g := h.below ((Below.refl _ _).alloc (Nat.le_refl _) o)
theorem Dice.lt {w : World} {g : Nat} (h : Dice w g) : g < w.heap.size := by
  obtain ⟨ao, cap, l, i, hh, h1, h2, h3, h4, h5, h6, h7⟩ := h
  exact h6.1
theorem wrap_u64 (n : Int) : 0 ≤ IntKind.u64.wrap n ∧ IntKind.u64.wrap n < big64 := by
  have e : IntKind.u64.wrap n = n % (2 ^ 64 : Int) := by simp [IntKind.wrap, IntKind.signed, IntKind.bits]
  rw [e]
  exact ⟨Int.emod_nonneg _ (by decide), Int.emod_lt_of_pos _ (by decide)⟩
/-- what a draw hands back -/
def RetBelow (w : World) (g : Nat) (n : Int) (e : Ending) (w' : World) : Prop :=
  ∃ x, e = .returned (.int .i64 x) ∧ 0 ≤ x ∧ x < n ∧ Dice w' g ∧ w.grownBy w' (some g)

theorem grownBy_setCell (w : World) (a : Addr) (v : Value) : w.grownBy (w.setCell a v) (some a.block) :=
  ⟨rfl, rfl, rfl, by simp [World.setCell], fun k _ hne => Below.heap_setCell w a v k (fun e => hne (by rw [e]))⟩
theorem grown_drewN {w w' : World} {row : Option Nat} {n : Nat} (h : w.grownBy w' row) : w.grownBy (w'.drewN n) row :=
  h.andThen (grown_of_below (below_drewN (Below.refl _ _) n)) (fun j hj => by cases hj)
theorem Dice.drewN {w : World} {g n : Nat} (h : Dice w g) : Dice (w.drewN n) g := h.below (below_drewN (Below.refl _ _) n)
theorem div_bound {x : Int} (h0 : 0 ≤ x) (h1 : x < big64) : x / 8589934592 ≤ 18446744073709551615 := by
  unfold big64 at h1
  omega
theorem and_bound (x : Int) (h0 : 0 ≤ x) (h1 : x ≤ 18446744073709551615) : 0 ≤ wrap64 (bits BinOp.and IntKind.u64 x 16777215) ∧ wrap64 (bits BinOp.and IntKind.u64 x 16777215) ≤ 16777215 := by
  have h := bits_and_u64_nat x.toNat 16777215 (by omega) (by omega)
  rw [Int.toNat_of_nonneg h0] at h
  have h2 : x.toNat &&& 16777215 ≤ 16777215 := Nat.and_le_right
  have h3 : bits BinOp.and IntKind.u64 x 16777215 = ((x.toNat &&& 16777215 : Nat) : Int) := h
  rw [h3]
  generalize x.toNat &&& 16777215 = m at h2
  unfold wrap64
  omega
theorem c_below (g : Nat) (n : Int) (w : World) (hD : Dice w g) (h1 : 1 ≤ n) (h2 : n ≤ 100000) :
    Calls Try.prog 87 #[.pointer (some ⟨g, 0, none⟩), .int .i64 n] w (RetBelow w g n) := by
  obtain ⟨ao, cap, l, i, h, hB, hi, hl, hh0, hh1, hBx, hFx⟩ := hD
  by_cases hlt : i < l.length
  · obtain ⟨b, off, rfl, hbg, hc⟩ : ∃ b off, ao = some ⟨b, off, none⟩ ∧ b < g ∧ ∀ i x, l[i]? = some x → w.cell? ⟨b, off + i, none⟩ = some (.int .u8 x) := by
      rcases hB.2 with h0 | h0
      · subst h0; simp at hlt
      · exact h0
    have kb := hc i _ (List.getElem?_eq_getElem hlt)
    obtain ⟨hx0, hx1⟩ := hB.1 _ (List.getElem_mem hlt)
    generalize l[i] = x at kb hx0 hx1
    have hne : b ≠ g := by omega
    have hp : (i : Int) < (l.length : Int) := by omega
    have q0 := hBx.2
    have q1 := hFx.2
    clear hc
    go_enter Try.func87, Try.ntmps87
    go_wp2_with fail
    have hb := wrap_u64 (IntKind.u64.wrap (h * 6364136223846793005) + 1442695040888963407)
    generalize IntKind.u64.wrap (IntKind.u64.wrap (h * 6364136223846793005) + 1442695040888963407) = h9 at hb ⊢
    have hy := and_bound (h9 / 8589934592) (Int.ediv_nonneg hb.1 (by omega)) (div_bound hb.1 hb.2)
    generalize wrap64 (bits BinOp.and IntKind.u64 (h9 / 8589934592) 16777215) = y at hy ⊢
    obtain ⟨hy0, hy1⟩ := hy
    have hg1 := grownBy_setCell w ⟨g, 2, none⟩ (.int .u64 h9)
    replace hB := hB.kept (Nat.le_of_lt hBx.1) hg1 (fun k hk => by cases hk; exact Nat.le_refl _)
    replace kb : (w.setCell ⟨g, 2, none⟩ (.int .u64 h9)).cell? ⟨b, off + i, none⟩ = some (.int .u8 x) := (World.cell?_of_block (a := ⟨b, off + i, none⟩) (Below.heap_setCell w ⟨g, 2, none⟩ _ b hne)).trans kb
    replace hBx := hBx.set 2 (.int .u64 h9) (by simp)
    replace hFx := hFx.set ⟨g, 2, none⟩ (.int .u64 h9)
    simp only [List.set_cons_succ, List.set_cons_zero] at hBx
    clear q0 q1
    have q0 := hBx.2
    have q1 := hFx.2
    go_quiet (fail)
    go_wp2_with fail
    go_quiet (fail)
    go_wp2_with fail
    have hg2 := grownBy_setCell (w.setCell ⟨g, 2, none⟩ (.int .u64 h9)) ⟨g, 1, none⟩ (.int .i64 ((i : Int) + 1))
    replace hB := hB.kept (Nat.le_of_lt hBx.1) hg2 (fun k hk => by cases hk; exact Nat.le_refl _)
    replace hBx := hBx.set 1 (.int .i64 ((i : Int) + 1)) (by simp)
    replace hFx := hFx.set ⟨g, 1, none⟩ (.int .i64 ((i : Int) + 1))
    simp only [List.set_cons_succ, List.set_cons_zero] at hBx
    go_ret
    refine ⟨(y + x) % n, rfl, Int.emod_nonneg _ (by omega), Int.emod_lt_of_pos _ (by omega), ?_, ?_⟩
    · exact Dice.drewN ⟨_, cap, l, i + 1, h9, hB, by omega, hl, hb.1, hb.2, hBx, hFx⟩
    · exact grown_drewN (hg1.trans hg2)
  · have hd : decide (i < l.length) = false := by simp; omega
    have q0 := hBx.2
    have q1 := hFx.2
    go_enter Try.func87, Try.ntmps87
    go_wp2_with fail
    have hb := wrap_u64 (IntKind.u64.wrap (h * 6364136223846793005) + 1442695040888963407)
    generalize IntKind.u64.wrap (IntKind.u64.wrap (h * 6364136223846793005) + 1442695040888963407) = h9 at hb ⊢
    have hy := and_bound (h9 / 8589934592) (Int.ediv_nonneg hb.1 (by omega)) (div_bound hb.1 hb.2)
    generalize wrap64 (bits BinOp.and IntKind.u64 (h9 / 8589934592) 16777215) = y at hy ⊢
    obtain ⟨hy0, hy1⟩ := hy
    have hg1 := grownBy_setCell w ⟨g, 2, none⟩ (.int .u64 h9)
    replace hB := hB.kept (Nat.le_of_lt hBx.1) hg1 (fun k hk => by cases hk; exact Nat.le_refl _)
    replace hBx := hBx.set 2 (.int .u64 h9) (by simp)
    replace hFx := hFx.set ⟨g, 2, none⟩ (.int .u64 h9)
    simp only [List.set_cons_succ, List.set_cons_zero] at hBx
    clear q0 q1
    have q0 := hBx.2
    go_quiet (fail)
    go_wp2_with fail
    go_ret
    refine ⟨y % n, rfl, Int.emod_nonneg _ (by omega), Int.emod_lt_of_pos _ (by omega), ?_, ?_⟩
    · exact Dice.drewN ⟨_, cap, l, i, h9, hB, hi, hl, hb.1, hb.2, hBx, hFx⟩
    · exact grown_drewN hg1
theorem Dice.set {w : World} {g : Nat} (h : Dice w g) (a : Addr) (v : Value) (ha : g < a.block) : Dice (w.setCell a v) g := h.kept (grownBy_setCell w a v) (fun k hk => by cases hk; exact ha)
theorem grown_setNew {w w' : World} {row : Option Nat} (h : w.grownBy w' row) (a : Addr) (v : Value) (ha : w.heap.size ≤ a.block) : w.grownBy (w'.setCell a v) row :=
  h.andThen (grownBy_setCell w' a v) (fun j hj => by cases hj; exact .inl ha)
theorem grown_allocNew {w w' : World} {row : Option Nat} (h : w.grownBy w' row) (o : Obj) : w.grownBy (w'.alloc o) row :=
  h.andThen (World.grownBy_alloc w' o none) (fun j hj => by cases hj)
end Go.Proofs.Ytpfkfppooeikeaa
