/- Walks of functions of the program, printed by a program of the prover. -/
import Derived.Test.YtmjafclpeknpcaaLeaf
import Derived.Test.YtmjafclpeknpcaaSlMark
import Derived.WalkKit
import Derived.WalkSpells
import Derived.Deep.QuietTactic
import Derived.BigQuiet
import Derived.Deep.Light
import Derived.Lib.Hide
import Derived.IntWalk
namespace Go.Proofs.Ytmjafclpeknpcaa
open Go.ChangeShapes Go.WideShapes Go.ChangeAt Go.RowKit Go.Deep
set_option maxHeartbeats 400000
set_option maxRecDepth 100000

def entryOk (i t c s k a b x y : Int) : Bool := inB i 1 2000 && (inB t 0 1000000 && (inB c 2 5 && (inB s 1 2000 && opOk k a b x y)))

def entryCells (d : Int × Int × Int × Int × Int × Int × Int × Int × Int) : List Value := [.int .i64 d.1, .int .i64 d.2.1, .int .i64 d.2.2.1, .int .i64 d.2.2.2.1, .int .i64 d.2.2.2.2.1, .int .i64 d.2.2.2.2.2.1, .int .i64 d.2.2.2.2.2.2.1, .int .i64 d.2.2.2.2.2.2.2.1, .int .i64 d.2.2.2.2.2.2.2.2]
def entryE : Enc (Int × Int × Int × Int × Int × Int × Int × Int × Int) := { n := 9, cells := entryCells, len := fun _ => rfl, pos := by decide, ok := fun d => inI64 d.1 ∧ inI64 d.2.1 ∧ inI64 d.2.2.1 ∧ inI64 d.2.2.2.1 ∧ inI64 d.2.2.2.2.1 ∧ inI64 d.2.2.2.2.2.1 ∧ inI64 d.2.2.2.2.2.2.1 ∧ inI64 d.2.2.2.2.2.2.2.1 ∧ inI64 d.2.2.2.2.2.2.2.2 }
theorem entryE_n : entryE.n = 9 := rfl
theorem entry_at {w : World} {ao : Option Addr} {l : List (Int × Int × Int × Int × Int × Int × Int × Int × Int)} (h : ReadA entryE w ao l) {k : Nat} (hk : k < l.length) :
    ∃ b off, ao = some ⟨b, off, none⟩ ∧ b < w.heap.size ∧ ∀ i (hi : i < l.length), w.cell? ⟨b, off + i * 9, none⟩ = some (.int .i64 l[i].1) ∧ w.cell? ⟨b, off + i * 9 + 1, none⟩ = some (.int .i64 l[i].2.1) ∧ w.cell? ⟨b, off + i * 9 + 2, none⟩ = some (.int .i64 l[i].2.2.1) ∧ w.cell? ⟨b, off + i * 9 + 3, none⟩ = some (.int .i64 l[i].2.2.2.1) ∧ w.cell? ⟨b, off + i * 9 + 4, none⟩ = some (.int .i64 l[i].2.2.2.2.1) ∧ w.cell? ⟨b, off + i * 9 + 5, none⟩ = some (.int .i64 l[i].2.2.2.2.2.1) ∧ w.cell? ⟨b, off + i * 9 + 6, none⟩ = some (.int .i64 l[i].2.2.2.2.2.2.1) ∧ w.cell? ⟨b, off + i * 9 + 7, none⟩ = some (.int .i64 l[i].2.2.2.2.2.2.2.1) ∧ w.cell? ⟨b, off + i * 9 + 8, none⟩ = some (.int .i64 l[i].2.2.2.2.2.2.2.2) := by
  obtain ⟨b, off, h1, h2, h3⟩ := h.at hk
  exact ⟨b, off, h1, h2, fun i hi => ⟨(h3 i hi).2 0 _ rfl, (h3 i hi).2 1 _ rfl, (h3 i hi).2 2 _ rfl, (h3 i hi).2 3 _ rfl, (h3 i hi).2 4 _ rfl, (h3 i hi).2 5 _ rfl, (h3 i hi).2 6 _ rfl, (h3 i hi).2 7 _ rfl, (h3 i hi).2 8 _ rfl⟩⟩
theorem open_entrys {H : Type} {enc : TypeId × Value → H} {P : Program} {w : World} {base : Nat} {spare : Nat → Bool} {held : Bool} {ty : TypeId} {v : Value}
    (hf : flat P 5 ty = some [.int, .int, .int, .int, .int, .int, .int, .int, .int]) (hC : P.cellsOf ty = 9) (h : ClOk enc P w base spare held (.slice ty) v) :
    ∃ (ao : Option Addr) (cap : Nat) (l : List (Int × Int × Int × Int × Int × Int × Int × Int × Int)), v = .slice ao l.length cap ∧ ReadA entryE w ao l := by
  rcases h with rfl | ⟨a, len, cap, n, rfl, hl, hm, hi⟩
  · exact ⟨none, 0, [], rfl, by simp, by simp, .inl rfl⟩
  · have hel : ∀ i, i < len → ∃ d : Int × Int × Int × Int × Int × Int × Int × Int × Int, entryE.ok d ∧ w.cells? base (a.add (i * 9)) 9 = some (entryCells d) := fun i hlt => by
      obtain ⟨cs', y, h1, h2⟩ := hi i hlt
      have h3 := flat_open 5 ty cs' y _ n hf h2
      obtain ⟨_, r0, e0, ⟨p0, rfl, q0⟩, h4⟩ := h3.cons
      obtain ⟨_, r1, e1, ⟨p1, rfl, q1⟩, h5⟩ := h4.cons
      obtain ⟨_, r2, e2, ⟨p2, rfl, q2⟩, h6⟩ := h5.cons
      obtain ⟨_, r3, e3, ⟨p3, rfl, q3⟩, h7⟩ := h6.cons
      obtain ⟨_, r4, e4, ⟨p4, rfl, q4⟩, h8⟩ := h7.cons
      obtain ⟨_, r5, e5, ⟨p5, rfl, q5⟩, h9⟩ := h8.cons
      obtain ⟨_, r6, e6, ⟨p6, rfl, q6⟩, h10⟩ := h9.cons
      obtain ⟨_, r7, e7, ⟨p7, rfl, q7⟩, h11⟩ := h10.cons
      obtain ⟨_, r8, e8, ⟨p8, rfl, q8⟩, h12⟩ := h11.cons
      have e9 := h12.nil
      subst e9
      subst e8
      subst e7
      subst e6
      subst e5
      subst e4
      subst e3
      subst e2
      subst e1
      subst e0
      rw [hC] at h1
      exact ⟨(p0, p1, p2, p3, p4, p5, p6, p7, p8), ⟨q0, q1, q2, q3, q4, q5, q6, q7, q8⟩, h1⟩
    exact open_enc entryE hl hm hel
/-- the marks of the laws -/
def entryMk (k : Int) (i : Nat) : Int × Int × Int × Int × Int × Int × Int × Int × Int := (k + 9 * (i : Int), k + 9 * (i : Int) + 1, k + 9 * (i : Int) + 1 + 1, k + 9 * (i : Int) + 1 + 1 + 1, k + 9 * (i : Int) + 1 + 1 + 1 + 1, k + 9 * (i : Int) + 1 + 1 + 1 + 1 + 1, k + 9 * (i : Int) + 1 + 1 + 1 + 1 + 1 + 1, k + 9 * (i : Int) + 1 + 1 + 1 + 1 + 1 + 1 + 1, k + 9 * (i : Int) + 1 + 1 + 1 + 1 + 1 + 1 + 1 + 1)
theorem entryMk_ok {k : Int} {i : Nat} (h0 : 0 ≤ k) (h1 : k ≤ 1099511627776) (h2 : i ≤ 1099511627776) : entryE.ok (entryMk k i) := ⟨by simp only [entryMk]; unfold inI64; omega, by simp only [entryMk]; unfold inI64; omega, by simp only [entryMk]; unfold inI64; omega, by simp only [entryMk]; unfold inI64; omega, by simp only [entryMk]; unfold inI64; omega, by simp only [entryMk]; unfold inI64; omega, by simp only [entryMk]; unfold inI64; omega, by simp only [entryMk]; unfold inI64; omega, by simp only [entryMk]; unfold inI64; omega⟩
theorem c_laws_toEntry (i t c s k a b x y : Int) (w : World) : Calls Try.prog 10 #[.agg #[.int .i64 i, .int .i64 t, .int .i64 c, .int .i64 s, .int .i64 k, .int .i64 a, .int .i64 b, .int .i64 x, .int .i64 y]] w fun e w' => e = .returned (.agg #[.int .i64 i, .int .i64 t, .int .i64 c, .int .i64 s, .int .i64 k, .int .i64 a, .int .i64 b, .int .i64 x, .int .i64 y]) ∧ Below w.heap.size w w' := by
  go_enter Try.func10, Try.ntmps10
  go_wp2_with (first | (go_at_call 37; refine (c_laws_toOp _ _ _ _ _ _).mono ?_; rintro e w' ⟨rfl, hb⟩; obtain ⟨hc, hf, hs⟩ := bcell hb; have hz := hb.size; (try simp at hz)))
  refine bodyPost_ret (v := .agg #[.int .i64 i, .int .i64 t, .int .i64 c, .int .i64 s, .int .i64 k, .int .i64 a, .int .i64 b, .int .i64 x, .int .i64 y]) (by simp [results, Try.results10, go_sem, *]) rfl ⟨rfl, ?_⟩
  (repeat (first | with_reducible exact Below.refl _ _ | ((with_reducible refine bl_alloc ?_ ?_); (focus (first | (simp; done) | (simp; omega) | omega))) | ((with_reducible refine bl_set ?_ ?_); (focus (first | (simp; done) | (simp; omega) | omega))) | ((with_reducible refine bl_later ?_ ?_); (focus (first | (simp; done) | (simp; omega) | omega))) | with_reducible refine bl_drew ?_ | with_reducible refine bl_drewN ?_ | ((with_reducible refine bl_step (by assumption) ?_ ?_); (focus (first | (simp; done) | (simp; omega) | omega)))))

theorem c_spec_EntryOk (i t c s k a b x y : Int) (w : World) : Calls Try.prog 31 #[.agg #[.int .i64 i, .int .i64 t, .int .i64 c, .int .i64 s, .int .i64 k, .int .i64 a, .int .i64 b, .int .i64 x, .int .i64 y]] w fun e w' => e = .returned (.bool (entryOk i t c s k a b x y)) ∧ Below w.heap.size w w' := by
  go_enter Try.func31, Try.ntmps31
  go_wp2_with (first | (go_at_call 75; refine (c_spec_l7Index _ _).mono ?_; rintro e w' ⟨rfl, rfl⟩) | (go_at_call 76; refine (c_spec_TimeOk _ _).mono ?_; rintro e w' ⟨rfl, rfl⟩) | (go_at_call 77; refine (c_spec_AskerOk _ _).mono ?_; rintro e w' ⟨rfl, rfl⟩) | (go_at_call 78; refine (c_spec_l7Seq _ _).mono ?_; rintro e w' ⟨rfl, rfl⟩) | (go_at_call 79; refine (c_spec_OpOk _ _ _ _ _ _).mono ?_; rintro e w' ⟨rfl, hb⟩; obtain ⟨hc, hf, hs⟩ := bcell hb; have hz := hb.size; (try simp at hz)))
  all_goals go_ret
  all_goals (refine ⟨by simp [entryOk, *], ?_⟩; (repeat (first | with_reducible exact Below.refl _ _ | ((with_reducible refine bl_alloc ?_ ?_); (focus (first | (simp; done) | (simp; omega) | omega))) | ((with_reducible refine bl_set ?_ ?_); (focus (first | (simp; done) | (simp; omega) | omega))) | ((with_reducible refine bl_later ?_ ?_); (focus (first | (simp; done) | (simp; omega) | omega))) | with_reducible refine bl_drew ?_ | with_reducible refine bl_drewN ?_ | ((with_reducible refine bl_step (by assumption) ?_ ?_); (focus (first | (simp; done) | (simp; omega) | omega))))))

theorem c_impl_EntryOk (i t c s k a b x y : Int) (w : World) : Calls Try.prog 90 #[.agg #[.int .i64 i, .int .i64 t, .int .i64 c, .int .i64 s, .int .i64 k, .int .i64 a, .int .i64 b, .int .i64 x, .int .i64 y]] w fun e w' => e = .returned (.bool (entryOk i t c s k a b x y)) ∧ Below w.heap.size w w' := by
  go_enter Try.func90, Try.ntmps90
  go_wp2_with (first | (go_at_call 88; refine (c_impl_indexOk _ _).mono ?_; rintro e w' ⟨rfl, rfl⟩) | (go_at_call 144; refine (c_impl_TimeOk _ _).mono ?_; rintro e w' ⟨rfl, rfl⟩) | (go_at_call 145; refine (c_impl_AskerOk _ _).mono ?_; rintro e w' ⟨rfl, rfl⟩) | (go_at_call 146; refine (c_impl_seqOk _ _).mono ?_; rintro e w' ⟨rfl, rfl⟩) | (go_at_call 147; refine (c_impl_OpOk _ _ _ _ _ _).mono ?_; rintro e w' ⟨rfl, hb⟩; obtain ⟨hc, hf, hs⟩ := bcell hb; have hz := hb.size; (try simp at hz)))
  all_goals go_ret
  all_goals (refine ⟨by simp [entryOk, *], ?_⟩; (repeat (first | with_reducible exact Below.refl _ _ | ((with_reducible refine bl_alloc ?_ ?_); (focus (first | (simp; done) | (simp; omega) | omega))) | ((with_reducible refine bl_set ?_ ?_); (focus (first | (simp; done) | (simp; omega) | omega))) | ((with_reducible refine bl_later ?_ ?_); (focus (first | (simp; done) | (simp; omega) | omega))) | with_reducible refine bl_drew ?_ | with_reducible refine bl_drewN ?_ | ((with_reducible refine bl_step (by assumption) ?_ ?_); (focus (first | (simp; done) | (simp; omega) | omega))))))

end Go.Proofs.Ytmjafclpeknpcaa
