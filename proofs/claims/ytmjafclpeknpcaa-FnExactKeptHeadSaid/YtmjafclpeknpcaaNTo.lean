/- The laws' copies of a list of rows. -/
import Derived.Test.YtmjafclpeknpcaaMarkR
import Derived.WalkKit
import Derived.WalkSpells
import Derived.Deep.QuietTactic
import Derived.BigQuiet
import Derived.Deep.Light
import Derived.Lib.Hide
import Derived.IntWalk
namespace Go.Proofs.Ytmjafclpeknpcaa
open Go.ChangeShapes Go.WideShapes Go.ChangeAt Go.RowKit Go.Deep
set_option maxHeartbeats 1600000
set_option maxRecDepth 100000
/-- what hands back a value of its own and touches nothing that was there -/
def RetSp {α : Type} (A : En α) (w : World) (x : α) (v : Value) (w' : World) : Prop := Sp A w' w.heap.size w'.heap.size x [v] ∧ Below w.heap.size w w'
abbrev rowsO : En (List (List Int)) := listE (ownI 2)
theorem info_ints : (Try.prog.info? 85).map (fun i => (i.zero, i.size, i.bytes)) = some (some (.slice none 0 0), 1, 24) := by kernel_rfl
theorem info_write : (Try.prog.info? 124).map (fun i => (i.zero, i.size, i.bytes)) = some (some (.agg #[.int .i64 0, .slice none 0 0]), 2, 32) := by kernel_rfl
theorem c_toInt64SS (ao : Option Addr) (cap : Nat) (K : List (List Int)) (w : World) (hK : RowsR w ao K) (hl : K.length ≤ 1048576) (hs : lenSum K ≤ 1048576) :
    Calls Try.prog 84 #[.slice ao K.length cap] w fun e w' => ∃ ao' cap', e = .returned (.slice ao' K.length cap') ∧ RetSp rowsO w K (.slice ao' K.length cap') w' := by
  have hm := hK.1
  obtain ⟨i0, hi, hz0, hz1, hz2⟩ := info_parts info_ints
  go_enter Try.func84, Try.ntmps84
  go_wp2_with (at_make; refine wpList_make_full _ rfl _ _ 22 rfl w.heap.size 85 i0 (.slice none 0 0) 1 Try.underlying22 hi hz0 hz1 _ _ _ _ K.length rfl rfl rfl rfl ?c1 ?c2 ?c3 ?_)
  case c1 => rw [hz2]; omega
  case c2 => unfold maxLen; omega
  case c3 => omega
  intro w1 hown hgrow
  have hst : NestPre (ownI 2) rawS w1 w.heap.size 85 w.heap.size K.length K.length [] [] [] := NestPre.start hown
  have hb1 : Below w.heap.size w w1 := (Below.refl _ _).grown hgrow (Nat.le_refl _) (by simp)
  clear hown hgrow
  go_wp2
  go_loopw [4] (fun i wr => ∃ k : Nat, k ≤ K.length ∧ i = .int .i64 k ∧ (∃ rs Fs, NestPre (ownI 2) rawS wr w.heap.size 85 w.heap.size K.length K.length (K.take k) rs Fs) ∧ Below w.heap.size w wr)
    (fun i _ => K.length - (intOf i).toNat)
  case atStart => exact ⟨0, Nat.zero_le _, rfl, ⟨_, _, hst⟩, hb1⟩
  case round =>
    obtain ⟨k, hk, rfl, ⟨rs, Fs, hpre⟩, hbel⟩ := hrel
    clear hst hb1
    have hlk : (K.take k).length = k := by rw [List.length_take]; omega
    by_cases hlt : k < K.length
    · have hp : (k : Int) < (K.length : Int) := by omega
      obtain ⟨b, off, rfl, hbl, hc⟩ := hK.at hlt
      obtain ⟨ai, ci, hcell, hr, hci⟩ := hc k hlt
      have hck : wr.cell? ⟨b, off + k, none⟩ = some (.slice ai K[k].length ci) := (hbel.cell (p := ⟨b, off + k, none⟩) hbl).trans hcell
      have hrr := hr.below hbel
      have Hpre := Lib.hid hpre
      clear hc hcell hpre hr
      have hkl : K[k].length ≤ 1048576 := by have := lenSum_take hlt; have := lenSum_le K (k + 1); omega
      go_wp2_with fail
      refine (c_toInt64S ai ci K[k] _ hrr (by omega)).mono ?_
      rintro e w2 ⟨a2, c2, rfl, ho2, hb2⟩
      have hpre2 := Hpre.out.below hb2
      obtain ⟨⟨u, hu⟩, hf⟩ := hpre2.cell (by omega) (j := 0) (by decide)
      obtain ⟨G, hstep⟩ := Hpre.out.step (r := (a2, K[k].length, c2)) hb2 (sp_ints ho2) trivial (by omega) hbel.size
      rw [hlk, show rawS.n = 1 from rfl, Nat.mul_one, Nat.add_zero] at hu hf
      rw [hlk, show rawS.n = 1 from rfl, Nat.mul_one, ← List.take_succ_eq_append_getElem hlt] at hstep
      have Hstep := Lib.hid hstep
      clear hstep hpre2
      go_wp2_with fail
      go_roundw
      case rel => exact ⟨k + 1, by omega, by go_num, ⟨_, _, Hstep.out⟩, (bl_step hb2 hbel.size hbel).setCell (Nat.le_refl _) _⟩
      case measure => simp [intOf]; omega
    · obtain rfl : k = K.length := by omega
      rw [List.take_length] at hpre
      go_wp2_with fail
      go_ret
      exact ⟨_, _, rfl, Nest.sp rfl (hpre.done rfl (by omega)), hbel⟩
theorem Out.setCell (w : World) (a : Addr) (v : Value) : Out a.block (a.block + 1) w (w.setCell a v) :=
  (ChgF.setCell w a v).out fun b hb => by rw [List.mem_singleton.1 hb]; omega
theorem Sp.setB {α : Type} {A : En α} {w : World} {lo hi : Nat} {x : α} {vs : List Value} {a : Addr} {u : Value} (ha : a.block < lo) (h : Sp A w lo hi x vs) : Sp A (w.setCell a u) lo hi x vs := h.out (Out.setCell w a u) (.inr ha)
theorem IntsO.setB {w : World} {lo ty : Nat} {v : Value} {l : List Int} {a : Addr} {u : Value} (ha : a.block < lo) (h : IntsO w lo ty v l) : IntsO (w.setCell a u) lo ty v l := ⟨h.1, h.2.1, ownsRow_setCell_below h.2.2 ha u⟩
theorem IntsO.alloc' {w : World} {lo ty : Nat} {v : Value} {l : List Int} (o : Obj) (h : IntsO w lo ty v l) : IntsO (w.alloc o) lo ty v l := h.below ((Below.refl _ _).alloc (Nat.le_refl _) o)
theorem sp_write {w : World} {ty lo hi : Nat} {a : Int} {l : List Int} {v : Value} (ha : inI64 a) (h : Sp (ownI ty) w lo hi l [v]) : Sp (pairE numE (ownI ty)) w lo hi (a, l) [.int .i64 a, v] := by
  obtain ⟨G, h1, h2, h3, h4⟩ := h
  exact ⟨G, ⟨[.int .i64 a], [v], [], G, rfl, rfl, ⟨rfl, ha, rfl⟩, h1⟩, h2, h3, h4⟩
abbrev writesO : En (List (Int × List Int)) := listE (pairE numE (ownI 2))
abbrev diskO : En (List (List Int) × List (Int × List Int)) := pairE rowsO writesO
theorem c_toWrite (a : Int) (ao : Option Addr) (cap : Nat) (l : List Int) (w : World) (hl : IntsR w ao l) (hs : l.length ≤ 1048576) :
    Calls Try.prog 138 #[.agg #[.int .i64 a, .slice ao l.length cap]] w fun e w' => ∃ ao' cap', e = .returned (.agg #[.int .i64 a, .slice ao' l.length cap']) ∧ IntsO w' w.heap.size 2 (.slice ao' l.length cap') l ∧ Below w.heap.size w w' := by
  have Hl : Hid (∀ W, Below w.heap.size w W → IntsR W ao l) := fun W hb => hl.below hb
  clear hl
  go_enter Try.func138, Try.ntmps138
  go_wp2_with fail
  refine (c_toInt64S _ _ _ _ (Hl.out _ (by (repeat (first | with_reducible exact Below.refl _ _ | ((with_reducible refine bl_alloc ?_ ?_); (focus (first | (simp; done) | (simp; omega) | omega))) | ((with_reducible refine bl_set ?_ ?_); (focus (first | (simp; done) | (simp; omega) | omega))) | ((with_reducible refine bl_later ?_ ?_); (focus (first | (simp; done) | (simp; omega) | omega))) | with_reducible refine bl_drew ?_ | with_reducible refine bl_drewN ?_ | ((with_reducible refine bl_step (by assumption) ?_ ?_); (focus (first | (simp; done) | (simp; omega) | omega))))))) (by omega)).mono ?_
  rintro en w1 ⟨a1, c1, rfl, ho1, hb1⟩
  have hz1 := hb1.size
  simp at hz1
  have hc0 := fun (o : Nat) => hb1.cell (p := ⟨w.heap.size, o, none⟩) (by (first | (simp; done) | (simp; omega) | omega))
  have hc1 := fun (o : Nat) => hb1.cell (p := ⟨w.heap.size + 1, o, none⟩) (by (first | (simp; done) | (simp; omega) | omega))
  have hc2 := fun (o : Nat) => hb1.cell (p := ⟨w.heap.size + 1 + 1, o, none⟩) (by (first | (simp; done) | (simp; omega) | omega))
  have hf0 := fun (o : Nat) => hb1.frozen (p := ⟨w.heap.size, o, none⟩) (by (first | (simp; done) | (simp; omega) | omega))
  have hf1 := fun (o : Nat) => hb1.frozen (p := ⟨w.heap.size + 1, o, none⟩) (by (first | (simp; done) | (simp; omega) | omega))
  have hf2 := fun (o : Nat) => hb1.frozen (p := ⟨w.heap.size + 1 + 1, o, none⟩) (by (first | (simp; done) | (simp; omega) | omega))
  have Ho1 := Lib.hid ho1
  clear ho1
  go_wp2_with fail
  refine bodyPost_ret (v := .agg #[.int .i64 a, .slice a1 l.length c1]) (by simp [results, Try.results138, go_sem, *]) rfl ⟨a1, c1, rfl, ?_, ?_⟩
  · refine IntsO.lower (lo := w.heap.size + 1 + 1 + 1) ?_ (by omega)
    repeat (first | ((with_reducible refine IntsO.setB ?_ ?_); (focus (first | (simp; done) | (simp; omega) | omega))))
    have := Ho1.out
    simpa using this
  · (repeat (first | with_reducible exact Below.refl _ _ | ((with_reducible refine bl_alloc ?_ ?_); (focus (first | (simp; done) | (simp; omega) | omega))) | ((with_reducible refine bl_set ?_ ?_); (focus (first | (simp; done) | (simp; omega) | omega))) | ((with_reducible refine bl_later ?_ ?_); (focus (first | (simp; done) | (simp; omega) | omega))) | with_reducible refine bl_drew ?_ | with_reducible refine bl_drewN ?_ | ((with_reducible refine bl_step (by assumption) ?_ ?_); (focus (first | (simp; done) | (simp; omega) | omega)))))
theorem c_toWriteS (ao : Option Addr) (cap : Nat) (K : List (Int × List Int)) (w : World) (hK : WritesR w ao K) (hl : K.length ≤ 1048576) (hs : ∀ k (h : k < K.length), K[k].2.length ≤ 1048576) :
    Calls Try.prog 85 #[.slice ao K.length cap] w fun e w' => ∃ ao' cap', e = .returned (.slice ao' K.length cap') ∧ RetSp writesO w K (.slice ao' K.length cap') w' := by
  have hm := hK.1
  obtain ⟨i0, hi, hz0, hz1, hz2⟩ := info_parts info_write
  go_enter Try.func85, Try.ntmps85
  go_wp2_with (at_make; refine wpList_make_full _ rfl _ _ 33 rfl w.heap.size 124 i0 (.agg #[.int .i64 0, .slice none 0 0]) 2 Try.underlying33 hi hz0 hz1 _ _ _ _ K.length rfl rfl rfl rfl ?c1 ?c2 ?c3 ?_)
  case c1 => rw [hz2]; omega
  case c2 => unfold maxLen; omega
  case c3 => omega
  intro w1 hown hgrow
  have hst : NestPre (pairE numE (ownI 2)) rawW w1 w.heap.size 124 w.heap.size K.length K.length [] [] [] := NestPre.start hown
  have hb1 : Below w.heap.size w w1 := (Below.refl _ _).grown hgrow (Nat.le_refl _) (by simp)
  clear hown hgrow
  go_wp2
  go_loopw [4] (fun i wr => ∃ k : Nat, k ≤ K.length ∧ i = .int .i64 k ∧ (∃ rs Fs, NestPre (pairE numE (ownI 2)) rawW wr w.heap.size 124 w.heap.size K.length K.length (K.take k) rs Fs) ∧ Below w.heap.size w wr)
    (fun i _ => K.length - (intOf i).toNat)
  case atStart => exact ⟨0, Nat.zero_le _, rfl, ⟨_, _, hst⟩, hb1⟩
  case round =>
    obtain ⟨k, hk, rfl, ⟨rs, Fs, hpre⟩, hbel⟩ := hrel
    clear hst hb1
    have hlk : (K.take k).length = k := by rw [List.length_take]; omega
    by_cases hlt : k < K.length
    · have hp : (k : Int) < (K.length : Int) := by omega
      have hstk := List.take_succ_eq_append_getElem hlt
      obtain ⟨b, off, rfl, hbl, hc⟩ := hK.at hlt
      obtain ⟨hia, hcell0, ai, ci, hcell, hr, hci⟩ := hc k hlt
      have hkl := hs k hlt
      obtain ⟨a, r, hd⟩ : ∃ a r, K[k] = (a, r) := ⟨_, _, rfl⟩
      rw [hd] at hia hcell0 hcell hr hci hkl hstk
      simp only at hia hcell0 hcell hr hci hkl
      have hck0 : wr.cell? ⟨b, off + k * 2, none⟩ = some (.int .i64 a) := (hbel.cell (p := ⟨b, off + k * 2, none⟩) hbl).trans hcell0
      have hck : wr.cell? ⟨b, off + k * 2 + 1, none⟩ = some (.slice ai r.length ci) := (hbel.cell (p := ⟨b, off + k * 2 + 1, none⟩) hbl).trans hcell
      have hrr := hr.below hbel
      have Hpre := Lib.hid hpre
      clear hc hcell hcell0 hpre hr hd
      go_wp2_with fail
      refine (c_toWrite a ai ci r _ hrr hkl).mono ?_
      rintro e w2 ⟨a2, c2, rfl, ho2, hb2⟩
      have hpre2 := Hpre.out.below hb2
      obtain ⟨⟨u0, hu0⟩, hf0⟩ := hpre2.cell (by omega) (j := 0) (by decide)
      obtain ⟨⟨u1, hu1⟩, hf1⟩ := hpre2.cell (by omega) (j := 1) (by decide)
      obtain ⟨G, hstep⟩ := Hpre.out.step (r := (a, a2, r.length, c2)) hb2 (sp_write hia (sp_ints ho2)) trivial (by omega) hbel.size
      rw [hlk, show rawW.n = 2 from rfl, Nat.add_zero] at hu0 hf0
      rw [hlk, show rawW.n = 2 from rfl] at hu1 hf1
      rw [hlk, show rawW.n = 2 from rfl, ← hstk] at hstep
      have Hstep := Lib.hid hstep
      clear hstep hpre2
      go_wp2_with fail
      go_roundw
      case rel => exact ⟨k + 1, by omega, by go_num, ⟨_, _, Hstep.out⟩, ((bl_step hb2 hbel.size hbel).setCell (Nat.le_refl _) _).setCell (Nat.le_refl _) _⟩
      case measure => simp [intOf]; omega
    · obtain rfl : k = K.length := by omega
      rw [List.take_length] at hpre
      go_wp2_with fail
      go_ret
      exact ⟨_, _, rfl, Nest.sp rfl (hpre.done rfl (by omega)), hbel⟩
theorem c_toDisk (ak aw : Option Addr) (ck cw : Nat) (d : List (List Int) × List (Int × List Int)) (w : World) (hK : RowsR w ak d.1) (hW : WritesR w aw d.2) (h1 : d.1.length ≤ 1048576) (h2 : lenSum d.1 ≤ 1048576) (h3 : d.2.length ≤ 1048576) (h4 : ∀ k (h : k < d.2.length), d.2[k].2.length ≤ 1048576) :
    Calls Try.prog 36 #[.agg #[.slice ak d.1.length ck, .slice aw d.2.length cw]] w fun e w' => ∃ a1 c1 a2 c2, e = .returned (.agg #[.slice a1 d.1.length c1, .slice a2 d.2.length c2]) ∧ Sp diskO w' w.heap.size w'.heap.size d [.slice a1 d.1.length c1, .slice a2 d.2.length c2] ∧ Below w.heap.size w w' := by
  have HK : Hid (∀ W, Below w.heap.size w W → RowsR W ak d.1) := fun W hb => hK.below hb
  have HW : Hid (∀ W, Below w.heap.size w W → WritesR W aw d.2) := fun W hb => hW.below hb
  clear hK hW
  go_enter Try.func36, Try.ntmps36
  go_wp2_with fail
  refine (c_toInt64SS ak ck d.1 _ (HK.out _ (by (repeat (first | with_reducible exact Below.refl _ _ | ((with_reducible refine bl_alloc ?_ ?_); (focus (first | (simp; done) | (simp; omega) | omega))) | ((with_reducible refine bl_set ?_ ?_); (focus (first | (simp; done) | (simp; omega) | omega))) | ((with_reducible refine bl_later ?_ ?_); (focus (first | (simp; done) | (simp; omega) | omega))) | with_reducible refine bl_drew ?_ | with_reducible refine bl_drewN ?_ | ((with_reducible refine bl_step (by assumption) ?_ ?_); (focus (first | (simp; done) | (simp; omega) | omega))))))) h1 h2).mono ?_
  rintro en w1 ⟨a1, c1, rfl, hs1, hb1⟩
  have hz1 := hb1.size
  simp at hz1
  have hc0 := fun (o : Nat) => hb1.cell (p := ⟨w.heap.size, o, none⟩) (by (first | (simp; done) | (simp; omega) | omega))
  have hc1 := fun (o : Nat) => hb1.cell (p := ⟨w.heap.size + 1, o, none⟩) (by (first | (simp; done) | (simp; omega) | omega))
  have hc2 := fun (o : Nat) => hb1.cell (p := ⟨w.heap.size + 1 + 1, o, none⟩) (by (first | (simp; done) | (simp; omega) | omega))
  have hf0 := fun (o : Nat) => hb1.frozen (p := ⟨w.heap.size, o, none⟩) (by (first | (simp; done) | (simp; omega) | omega))
  have hf1 := fun (o : Nat) => hb1.frozen (p := ⟨w.heap.size + 1, o, none⟩) (by (first | (simp; done) | (simp; omega) | omega))
  have hf2 := fun (o : Nat) => hb1.frozen (p := ⟨w.heap.size + 1 + 1, o, none⟩) (by (first | (simp; done) | (simp; omega) | omega))
  have hl0 : w.heap.size < w1.heap.size := by omega
  have hl1 : w.heap.size + 1 < w1.heap.size := by omega
  have hl2 : w.heap.size + 1 + 1 < w1.heap.size := by omega
  simp only [World.size_alloc] at hs1
  have Hs1 := Lib.hid hs1
  clear hs1
  go_wp2_with fail
  refine (c_toWriteS aw cw d.2 _ (HW.out _ (by (repeat (first | with_reducible exact Below.refl _ _ | ((with_reducible refine bl_alloc ?_ ?_); (focus (first | (simp; done) | (simp; omega) | omega))) | ((with_reducible refine bl_set ?_ ?_); (focus (first | (simp; done) | (simp; omega) | omega))) | ((with_reducible refine bl_later ?_ ?_); (focus (first | (simp; done) | (simp; omega) | omega))) | with_reducible refine bl_drew ?_ | with_reducible refine bl_drewN ?_ | ((with_reducible refine bl_step (by assumption) ?_ ?_); (focus (first | (simp; done) | (simp; omega) | omega))))))) h3 h4).mono ?_
  rintro en w2 ⟨a2, c2, rfl, hs2, hb2⟩
  have hz2 := hb2.size
  simp only [World.size_setCell] at hz2
  have hd0 := fun (o : Nat) => hb2.cell (p := ⟨w.heap.size, o, none⟩) (by (first | (simp; done) | (simp; omega) | omega))
  have hd1 := fun (o : Nat) => hb2.cell (p := ⟨w.heap.size + 1, o, none⟩) (by (first | (simp; done) | (simp; omega) | omega))
  have hd2 := fun (o : Nat) => hb2.cell (p := ⟨w.heap.size + 1 + 1, o, none⟩) (by (first | (simp; done) | (simp; omega) | omega))
  have hg0 := fun (o : Nat) => hb2.frozen (p := ⟨w.heap.size, o, none⟩) (by (first | (simp; done) | (simp; omega) | omega))
  have hg1 := fun (o : Nat) => hb2.frozen (p := ⟨w.heap.size + 1, o, none⟩) (by (first | (simp; done) | (simp; omega) | omega))
  have hg2 := fun (o : Nat) => hb2.frozen (p := ⟨w.heap.size + 1 + 1, o, none⟩) (by (first | (simp; done) | (simp; omega) | omega))
  have Hs2 : Hid (Sp rowsO w2 (w.heap.size + 1 + 1 + 1) w1.heap.size d.1 [.slice a1 d.1.length c1]) := (Hs1.out.setB (a := ⟨w.heap.size + 1 + 1, 0, none⟩) (u := .slice a1 d.1.length c1) (by (first | (simp; done) | (simp; omega) | omega))).below hb2
  simp only [World.size_setCell] at hs2
  have Hs3 := Lib.hid hs2
  clear hs2
  go_wp2_with fail
  refine bodyPost_ret (v := .agg #[.slice a1 d.1.length c1, .slice a2 d.2.length c2]) (by simp [results, Try.results36, go_sem, *]) rfl ⟨a1, c1, a2, c2, rfl, ?_, ?_⟩
  · refine Sp.wide (lo := w.heap.size + 1 + 1 + 1) (hi := w2.heap.size) (Sp.pair (mid := w1.heap.size) (mid' := w1.heap.size) (va := [.slice a1 d.1.length c1]) (vb := [.slice a2 d.2.length c2]) ?_ ?_ (Nat.le_refl _) (by omega) hz2) (by omega) (by simp)
    · repeat (first | ((with_reducible refine Sp.setB ?_ ?_); (focus (first | (simp; done) | (simp; omega) | omega))))
      exact Hs2.out
    · repeat (first | ((with_reducible refine Sp.setB ?_ ?_); (focus (first | (simp; done) | (simp; omega) | omega))))
      exact Hs3.out
  · (repeat (first | with_reducible exact Below.refl _ _ | ((with_reducible refine bl_alloc ?_ ?_); (focus (first | (simp; done) | (simp; omega) | omega))) | ((with_reducible refine bl_set ?_ ?_); (focus (first | (simp; done) | (simp; omega) | omega))) | ((with_reducible refine bl_later ?_ ?_); (focus (first | (simp; done) | (simp; omega) | omega))) | with_reducible refine bl_drew ?_ | with_reducible refine bl_drewN ?_ | ((with_reducible refine bl_step (by assumption) ?_ ?_); (focus (first | (simp; done) | (simp; omega) | omega)))))
/-- what a walk reads of a disk -/
def DiskR (w : World) (ak aw : Option Addr) (d : List (List Int) × List (Int × List Int)) : Prop := RowsR w ak d.1 ∧ WritesR w aw d.2
theorem DiskR.below {w w' : World} {ak aw : Option Addr} {d : List (List Int) × List (Int × List Int)} (h : DiskR w ak aw d) (hb : Below w.heap.size w w') : DiskR w' ak aw d := ⟨h.1.below hb, h.2.below hb⟩
def DiskIn (d : List (List Int) × List (Int × List Int)) : Prop := d.1.length ≤ 1048576 ∧ lenSum d.1 ≤ 1048576 ∧ d.2.length ≤ 1048576 ∧ ∀ k (h : k < d.2.length), d.2[k].2.length ≤ 1048576
abbrev twoO : En ((List (List Int) × List (Int × List Int)) × (List (List Int) × List (Int × List Int))) := pairE diskO diskO
theorem c_toTwo (ak aw bk bw : Option Addr) (ck cw dk dw : Nat) (d e : List (List Int) × List (Int × List Int)) (w : World) (hK : DiskR w ak aw d) (hW : DiskR w bk bw e) (h1 : DiskIn d) (h2 : DiskIn e) :
    Calls Try.prog 9 #[.agg #[.slice ak d.1.length ck, .slice aw d.2.length cw, .slice bk e.1.length dk, .slice bw e.2.length dw]] w fun en w' => ∃ a1 c1 a2 c2 a3 c3 a4 c4, en = .returned (.agg #[.slice a1 d.1.length c1, .slice a2 d.2.length c2, .slice a3 e.1.length c3, .slice a4 e.2.length c4]) ∧ Sp twoO w' w.heap.size w'.heap.size (d, e) [.slice a1 d.1.length c1, .slice a2 d.2.length c2, .slice a3 e.1.length c3, .slice a4 e.2.length c4] ∧ Below w.heap.size w w' := by
  have HK : Hid (∀ W, Below w.heap.size w W → DiskR W ak aw d) := fun W hb => hK.below hb
  have HW : Hid (∀ W, Below w.heap.size w W → DiskR W bk bw e) := fun W hb => hW.below hb
  clear hK hW
  go_enter Try.func9, Try.ntmps9
  go_wp2_with fail
  refine (c_toDisk ak aw ck cw d _ (HK.out _ (by (repeat (first | with_reducible exact Below.refl _ _ | ((with_reducible refine bl_alloc ?_ ?_); (focus (first | (simp; done) | (simp; omega) | omega))) | ((with_reducible refine bl_set ?_ ?_); (focus (first | (simp; done) | (simp; omega) | omega))) | ((with_reducible refine bl_later ?_ ?_); (focus (first | (simp; done) | (simp; omega) | omega))) | with_reducible refine bl_drew ?_ | with_reducible refine bl_drewN ?_ | ((with_reducible refine bl_step (by assumption) ?_ ?_); (focus (first | (simp; done) | (simp; omega) | omega))))))).1 (HK.out _ (by (repeat (first | with_reducible exact Below.refl _ _ | ((with_reducible refine bl_alloc ?_ ?_); (focus (first | (simp; done) | (simp; omega) | omega))) | ((with_reducible refine bl_set ?_ ?_); (focus (first | (simp; done) | (simp; omega) | omega))) | ((with_reducible refine bl_later ?_ ?_); (focus (first | (simp; done) | (simp; omega) | omega))) | with_reducible refine bl_drew ?_ | with_reducible refine bl_drewN ?_ | ((with_reducible refine bl_step (by assumption) ?_ ?_); (focus (first | (simp; done) | (simp; omega) | omega))))))).2 h1.1 h1.2.1 h1.2.2.1 h1.2.2.2).mono ?_
  rintro en w1 ⟨a1, c1, a2, c2, rfl, hs1, hb1⟩
  have hz1 := hb1.size
  simp at hz1
  have hc0 := fun (o : Nat) => hb1.cell (p := ⟨w.heap.size, o, none⟩) (by (first | (simp; done) | (simp; omega) | omega))
  have hc1 := fun (o : Nat) => hb1.cell (p := ⟨w.heap.size + 1, o, none⟩) (by (first | (simp; done) | (simp; omega) | omega))
  have hc2 := fun (o : Nat) => hb1.cell (p := ⟨w.heap.size + 1 + 1, o, none⟩) (by (first | (simp; done) | (simp; omega) | omega))
  have hf0 := fun (o : Nat) => hb1.frozen (p := ⟨w.heap.size, o, none⟩) (by (first | (simp; done) | (simp; omega) | omega))
  have hf1 := fun (o : Nat) => hb1.frozen (p := ⟨w.heap.size + 1, o, none⟩) (by (first | (simp; done) | (simp; omega) | omega))
  have hf2 := fun (o : Nat) => hb1.frozen (p := ⟨w.heap.size + 1 + 1, o, none⟩) (by (first | (simp; done) | (simp; omega) | omega))
  have hl0 : w.heap.size < w1.heap.size := by omega
  have hl1 : w.heap.size + 1 < w1.heap.size := by omega
  have hl2 : w.heap.size + 1 + 1 < w1.heap.size := by omega
  simp only [World.size_alloc] at hs1
  have Hs1 := Lib.hid hs1
  clear hs1
  go_wp2_with fail
  refine (c_toDisk bk bw dk dw e _ (HW.out _ (by (repeat (first | with_reducible exact Below.refl _ _ | ((with_reducible refine bl_alloc ?_ ?_); (focus (first | (simp; done) | (simp; omega) | omega))) | ((with_reducible refine bl_set ?_ ?_); (focus (first | (simp; done) | (simp; omega) | omega))) | ((with_reducible refine bl_later ?_ ?_); (focus (first | (simp; done) | (simp; omega) | omega))) | with_reducible refine bl_drew ?_ | with_reducible refine bl_drewN ?_ | ((with_reducible refine bl_step (by assumption) ?_ ?_); (focus (first | (simp; done) | (simp; omega) | omega))))))).1 (HW.out _ (by (repeat (first | with_reducible exact Below.refl _ _ | ((with_reducible refine bl_alloc ?_ ?_); (focus (first | (simp; done) | (simp; omega) | omega))) | ((with_reducible refine bl_set ?_ ?_); (focus (first | (simp; done) | (simp; omega) | omega))) | ((with_reducible refine bl_later ?_ ?_); (focus (first | (simp; done) | (simp; omega) | omega))) | with_reducible refine bl_drew ?_ | with_reducible refine bl_drewN ?_ | ((with_reducible refine bl_step (by assumption) ?_ ?_); (focus (first | (simp; done) | (simp; omega) | omega))))))).2 h2.1 h2.2.1 h2.2.2.1 h2.2.2.2).mono ?_
  rintro en w2 ⟨a3, c3, a4, c4, rfl, hs2, hb2⟩
  have hz2 := hb2.size
  simp only [World.size_setCell] at hz2
  have hd0 := fun (o : Nat) => hb2.cell (p := ⟨w.heap.size, o, none⟩) (by (first | (simp; done) | (simp; omega) | omega))
  have hd1 := fun (o : Nat) => hb2.cell (p := ⟨w.heap.size + 1, o, none⟩) (by (first | (simp; done) | (simp; omega) | omega))
  have hd2 := fun (o : Nat) => hb2.cell (p := ⟨w.heap.size + 1 + 1, o, none⟩) (by (first | (simp; done) | (simp; omega) | omega))
  have hg0 := fun (o : Nat) => hb2.frozen (p := ⟨w.heap.size, o, none⟩) (by (first | (simp; done) | (simp; omega) | omega))
  have hg1 := fun (o : Nat) => hb2.frozen (p := ⟨w.heap.size + 1, o, none⟩) (by (first | (simp; done) | (simp; omega) | omega))
  have hg2 := fun (o : Nat) => hb2.frozen (p := ⟨w.heap.size + 1 + 1, o, none⟩) (by (first | (simp; done) | (simp; omega) | omega))
  have Hs2 : Hid (Sp diskO w2 (w.heap.size + 1 + 1 + 1) w1.heap.size d [.slice a1 d.1.length c1, .slice a2 d.2.length c2]) := ((Hs1.out.setB (a := ⟨w.heap.size + 1 + 1, 0, none⟩) (u := .slice a1 d.1.length c1) (by (first | (simp; done) | (simp; omega) | omega))).setB (a := ⟨w.heap.size + 1 + 1, 1, none⟩) (u := .slice a2 d.2.length c2) (by (first | (simp; done) | (simp; omega) | omega))).below hb2
  simp only [World.size_setCell] at hs2
  have Hs3 := Lib.hid hs2
  clear hs2
  go_wp2_with fail
  refine bodyPost_ret (v := .agg #[.slice a1 d.1.length c1, .slice a2 d.2.length c2, .slice a3 e.1.length c3, .slice a4 e.2.length c4]) (by simp [results, Try.results9, go_sem, *]) rfl ⟨a1, c1, a2, c2, a3, c3, a4, c4, rfl, ?_, ?_⟩
  · refine Sp.wide (lo := w.heap.size + 1 + 1 + 1) (hi := w2.heap.size) (Sp.pair (mid := w1.heap.size) (mid' := w1.heap.size) (va := [.slice a1 d.1.length c1, .slice a2 d.2.length c2]) (vb := [.slice a3 e.1.length c3, .slice a4 e.2.length c4]) ?_ ?_ (Nat.le_refl _) (by omega) hz2) (by omega) (by simp)
    · repeat (first | ((with_reducible refine Sp.setB ?_ ?_); (focus (first | (simp; done) | (simp; omega) | omega))))
      exact Hs2.out
    · repeat (first | ((with_reducible refine Sp.setB ?_ ?_); (focus (first | (simp; done) | (simp; omega) | omega))))
      exact Hs3.out
  · (repeat (first | with_reducible exact Below.refl _ _ | ((with_reducible refine bl_alloc ?_ ?_); (focus (first | (simp; done) | (simp; omega) | omega))) | ((with_reducible refine bl_set ?_ ?_); (focus (first | (simp; done) | (simp; omega) | omega))) | ((with_reducible refine bl_later ?_ ?_); (focus (first | (simp; done) | (simp; omega) | omega))) | with_reducible refine bl_drew ?_ | with_reducible refine bl_drewN ?_ | ((with_reducible refine bl_step (by assumption) ?_ ?_); (focus (first | (simp; done) | (simp; omega) | omega)))))
end Go.Proofs.Ytmjafclpeknpcaa
