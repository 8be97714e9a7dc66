/- Walks of functions of the program, printed by a program of the prover. -/
import Derived.Test.YtpfkfppooeikeaaFedS
import Derived.WalkKit
import Derived.WalkSpells
import Derived.Deep.QuietTactic
import Derived.BigQuiet
import Derived.Deep.Light
import Derived.Lib.Hide
import Derived.Deep.RegionHeld3
namespace Go.Proofs.Ytpfkfppooeikeaa
open Go.ChangeShapes Go.WideShapes Go.ChangeAt Go.RowKit Go.Deep
set_option maxHeartbeats 1600000
set_option maxRecDepth 100000

theorem c_FedNext (ao : Option Addr) (cap : Nat) (l : List Int) (w : World) (hB : BytesR w w.heap.size ao l) (hm : l.length ≤ 9223372036854775807) :
    Calls Try.prog 13 #[.slice ao l.length cap] w fun e w' => e = .returned (.bool true) ∧ Below w.heap.size w w' := by
  have HB := Lib.hid hB
  clear hB
  by_cases hb : 4096 < l.length
  · go_enter Try.func13, Try.ntmps13
    go_wp2_with fail
    refine (c_big ao cap l.length w hm).mono ?_
    rintro e w1 ⟨rfl, rfl⟩
    go_wp2_with fail
    go_ret
    exact ⟨rfl, Below.refl _ _⟩
  · have hb4 : decide (4096 < l.length) = false := by simpa using hb
    go_enter Try.func13, Try.ntmps13
    go_wp2_with fail
    refine (c_big ao cap l.length w hm).mono ?_
    rintro e w1 ⟨rfl, rfl⟩
    go_wp2_with fail
    refine (c_roll ao cap l 921 w HB.out (by omega)).mono ?_
    rintro e w1 ⟨rfl, hD, hb1⟩
    go_wp2_with fail
    refine (c_w9Feed w.heap.size w1 hD).mono ?_
    rintro e w2 ⟨bs, la, D, af, cf, rfl, hok, hcf, hR, hD2, hg2⟩
    have hs2 := hb1.size
    have hs3 := hg2.size
    have hb2 : Below w.heap.size w w2 := bl_grown hg2 hs2 (fun k hk => by have h7 := Option.some.inj hk; omega) hb1
    clear hD hD2 hg2 hb1
    have hbl : (0 ≤ bs ∧ bs ≤ la) ∧ la ≤ 2000 := by
      have h7 := hok
      simp only [feedOk, inB, Bool.and_eq_true, decide_eq_true_eq] at h7
      exact ⟨h7.1, h7.2.1⟩
    replace hR := hR.below ((Below.refl _ _).alloc (Nat.le_refl _) (.cells ([.int .i64 bs, .int .i64 la, .slice af D.length cf] : List Value).toArray 44))
    have hBx := Bx.new w2 [.int .i64 bs, .int .i64 la, .slice af D.length cf] 44
    have hFx := Fx.new w2 [.int .i64 bs, .int .i64 la, .slice af D.length cf] 44
    replace hb2 := hb2.alloc (Nat.le_trans hs2 hs3) (.cells ([.int .i64 bs, .int .i64 la, .slice af D.length cf] : List Value).toArray 44)
    have q0 := hBx.2
    go_wp2_with fail
    clear q0
    refine (c_impl_FeedOk bs la af cf D _ hR).mono ?_
    rw [hok]
    rintro e w3 ⟨rfl, hb3⟩
    have hs4 := hb3.size
    simp only [World.size_alloc] at hs4
    replace hR := hR.below hb3
    replace hBx := hBx.below hb3
    replace hFx := hFx.below hb3
    replace hb2 := bl_step hb3 hb2.size hb2
    clear hb3
    by_cases hn : D.length = 0
    · obtain rfl : D = [] := List.eq_nil_of_length_eq_zero hn
      have q0 := hBx.2
      go_wp2_with fail
      clear q0
      refine (c_impl_FeedRow bs la af cf [] w3 (by unfold inI64; omega) (by unfold inI64; omega) hR).mono ?_
      rintro e w4 ⟨a4, c4, rfl, ho4, hb4⟩
      have h3 : (rowFeed bs la []).length = 3 := len_rowFeed hok
      rw [h3]
      go_wp2_with fail
      go_ret
      exact ⟨rfl, bl_step hb4 hb2.size hb2⟩
    · obtain ⟨n, hn1⟩ : ∃ n, D.length = n + 1 := ⟨D.length - 1, by omega⟩
      obtain ⟨b, off, rfl, hbl2, hc⟩ := entry_at hR (k := 0) (by omega)
      have k0 := (hc 0 (by omega)).1
      have kn := (hc n (by omega)).1
      obtain ⟨x0, hx0⟩ : ∃ x, D[0].1 = x := ⟨_, rfl⟩
      obtain ⟨xn, hxn⟩ : ∃ x, D[n].1 = x := ⟨_, rfl⟩
      rw [hx0] at k0
      rw [hxn] at kn
      rw [Nat.zero_mul, Nat.add_zero] at k0
      have hn3 : n ≤ 2 := by have h7 := (feedOk_ents hok).2; omega
      have q0 := hBx.2
      have hBl := hBx.1
      clear hc
      have hs5 := hb2.size
      have hcap : n + 1 ≤ cf := hn1 ▸ hcf
      obtain ⟨j0, hj, hj0, hj1, hj2⟩ := info_parts info_Entry
      have hsl : ∀ W, (Instr.slice 42 (.slice (some ⟨b, off, none⟩) (n + 1) cf) (some (.int .i64 (n : Int))) none none).run Try.prog W = .ok (.slice (cutAo (some ⟨b, off, none⟩) cf n 9) 1 (cf - n)) W := fun W => by
        have h7 := run_low_rows (P := Try.prog) (t := 42) Try.underlying42 hj 9 hj1 (some ⟨b, off, none⟩) (n + 1) cf n (Nat.le_succ _) W
        rw [Nat.add_sub_cancel_left] at h7
        exact h7
      have hR9 := hR
      have hbg : b < w3.heap.size := hbl2
      have hxa := feedOk_each hok (j := n) (by omega)
      have hxb := feedOk_each hok (j := 0) (by omega)
      rw [hxn] at hxa
      rw [hx0] at hxb
      have hw1 : wrap64 (xn - 1) = xn - 1 := by unfold wrap64; omega
      have hw2 : wrap64 (x0 + 9) = x0 + 9 := by unfold wrap64; omega
      have hnw : Value.int .i64 (wrap64 (n : Int)) = .int .i64 (n : Int) := congrArg _ (by unfold wrap64; omega)
      have hnw2 : Value.int .i64 (IntKind.i64.wrap (n : Int)) = .int .i64 (n : Int) := congrArg _ (IntWalk.i64_in _ (by omega))
      have hf8 : feedOk bs la (D ++ D.drop n) = false := by
        have h7 := feedOk_twice (bs := bs) (la := la) (D := D) (by omega)
        rwa [hn1, Nat.add_sub_cancel] at h7
      have hib : inI64 bs := by unfold inI64; omega
      have hil : inI64 la := by unfold inI64; omega
      have hix : inI64 (xn - 1) := by unfold inI64; omega
      have hi0 : inI64 x0 := by unfold inI64; omega
      have hi9 : inI64 (x0 + 9) := by unfold inI64; omega
      go_wp2_with fail
      refine restS_begin (FedS w w2.heap.size w3.heap.size (.int .i64 bs) (.int .i64 la) (.int .i64 (xn - 1)) (.int .i64 x0) (.int .i64 (x0 + 9)) (.slice (some ⟨b, off, none⟩) (n + 1) cf) b off D) (by kernel_rfl) ?_ ?_
      · have h4 : C3 w3 w2.heap.size (.int .i64 bs) (.int .i64 la) (.slice (some ⟨b, off, none⟩) (n + 1) cf) := ⟨hBx.1, hBx.2 0, hBx.2 1, (hBx.2 2).trans (by rw [hn1]; rfl)⟩
        refine ⟨⟨?_, hR.below ?_⟩, ⟨h4.below ?_, ?_, ?_⟩, ?_⟩
        · (repeat (first | with_reducible exact Below.refl _ _ | ((with_reducible refine bl_alloc ?_ ?_); (focus (first | (simp; done) | (simp; omega) | omega))) | ((with_reducible refine bl_set ?_ ?_); (focus (first | (simp; done) | (simp; omega) | omega))) | ((with_reducible refine bl_later ?_ ?_); (focus (first | (simp; done) | (simp; omega) | omega))) | with_reducible refine bl_drew ?_ | with_reducible refine bl_drewN ?_ | ((with_reducible refine bl_step (by assumption) ?_ ?_); (focus (first | (simp; done) | (simp; omega) | omega)))))
        · (repeat (first | with_reducible exact Below.refl _ _ | ((with_reducible refine bl_alloc ?_ ?_); (focus (first | (simp; done) | (simp; omega) | omega))) | ((with_reducible refine bl_set ?_ ?_); (focus (first | (simp; done) | (simp; omega) | omega))) | ((with_reducible refine bl_later ?_ ?_); (focus (first | (simp; done) | (simp; omega) | omega))) | with_reducible refine bl_drew ?_ | with_reducible refine bl_drewN ?_ | ((with_reducible refine bl_step (by assumption) ?_ ?_); (focus (first | (simp; done) | (simp; omega) | omega)))))
        · (repeat (first | with_reducible exact Below.refl _ _ | ((with_reducible refine bl_alloc ?_ ?_); (focus (first | (simp; done) | (simp; omega) | omega))) | ((with_reducible refine bl_set ?_ ?_); (focus (first | (simp; done) | (simp; omega) | omega))) | ((with_reducible refine bl_later ?_ ?_); (focus (first | (simp; done) | (simp; omega) | omega))) | with_reducible refine bl_drew ?_ | with_reducible refine bl_drewN ?_ | ((with_reducible refine bl_step (by assumption) ?_ ?_); (focus (first | (simp; done) | (simp; omega) | omega)))))
        · exact ⟨by simp; omega, by go_simp, by go_simp, by go_simp⟩
        · exact ⟨by simp, by go_simp, by go_simp, by go_simp⟩
        · exact ⟨by simp, by go_simp, by go_simp, ⟨_, by go_simp; rfl⟩, by go_simp⟩
      clear q0 hBl k0 kn hBx hFx
      refine restS_take (v := ?_) 0 rfl (by kernel_rfl) (by kernel_rfl) (by kernel_rfl) (fun _ _ _ h => h) (by rfl) ?_ ?_
      rotate_left
      · intro w9 h9; try dsimp only at h9
        go_split_ands
        go_simp; try with_reducible rfl
      try simp only [Act.put, List.setIfInBounds_toArray, List.set_cons_zero, List.set_cons_succ]
      refine restS_take (v := ?_) 1 rfl (by kernel_rfl) (by kernel_rfl) (by kernel_rfl) (fun _ _ _ h => h) (by rfl) ?_ ?_
      rotate_left
      · intro w9 h9; obtain ⟨_, ⟨⟨p0, p1, p2, p3⟩, _⟩, _⟩ := h9
        go_simp; try with_reducible rfl
      try simp only [Act.put, List.setIfInBounds_toArray, List.set_cons_zero, List.set_cons_succ]
      refine restS_take (v := ?_) 2 rfl (by kernel_rfl) (by kernel_rfl) (by kernel_rfl) (fun _ _ _ h => h) (by rfl) ?_ ?_
      rotate_left
      · intro w9 h9; try dsimp only at h9
        go_split_ands
        go_simp; try with_reducible rfl
      try simp only [Act.put, List.setIfInBounds_toArray, List.set_cons_zero, List.set_cons_succ]
      refine restS_take (v := ?_) 3 rfl (by kernel_rfl) (by kernel_rfl) (by kernel_rfl) (fun _ _ _ h => h) (by rfl) ?_ ?_
      rotate_left
      · intro w9 h9; obtain ⟨_, ⟨⟨p0, p1, p2, p3⟩, _⟩, _⟩ := h9
        go_simp; try with_reducible rfl
      try simp only [Act.put, List.setIfInBounds_toArray, List.set_cons_zero, List.set_cons_succ]
      refine restS_take (v := ?_) 4 rfl (by kernel_rfl) (by kernel_rfl) (by kernel_rfl) (fun _ _ _ h => h) (by rfl) ?_ ?_
      rotate_left
      · intro w9 h9; try dsimp only at h9
        go_split_ands
        go_simp; try with_reducible rfl
      try simp only [Act.put, List.setIfInBounds_toArray, List.set_cons_zero, List.set_cons_succ]
      refine restS_take (v := ?_) 5 rfl (by kernel_rfl) (by kernel_rfl) (by kernel_rfl) (fun _ _ _ h => h) (by rfl) ?_ ?_
      rotate_left
      · intro w9 h9; try dsimp only at h9
        go_split_ands
        go_simp; try with_reducible rfl
      try simp only [Act.put, List.setIfInBounds_toArray, List.set_cons_zero, List.set_cons_succ]
      refine restS_take (v := ?_) 6 rfl (by kernel_rfl) (by kernel_rfl) (by kernel_rfl) (fun _ _ _ h => h) (by rfl) ?_ ?_
      rotate_left
      · intro w9 h9; try dsimp only at h9
        go_split_ands
        go_simp; try with_reducible rfl
      try simp only [Act.put, List.setIfInBounds_toArray, List.set_cons_zero, List.set_cons_succ]
      refine restS_alone 7 rfl (by kernel_rfl) (by rfl) (fun hS K hK => ?_)
      go_wp2_with fail
      have hS7 := hS
      obtain ⟨⟨hb7, hR7⟩, _, hlo, _⟩ := hS7
      have hcut := read_cut_rows (E := entryE) hR7 cf n (n + 1) (by omega) (by omega)
      have hdl : (D.drop n).length = 1 := by simp; omega
      rw [Nat.add_sub_cancel_left, List.take_of_length_le (by omega)] at hcut
      refine Calls.mono (by
        have h7 := c_w9Both (some ⟨b, off, none⟩) (cutAo (some ⟨b, off, none⟩) cf n 9) cf (cf - n) D (D.drop n) _ hR7 hcut (by omega) (by omega)
        rw [hdl, hn1] at h7
        exact h7) ?_
      rintro e w5 ⟨a5, c5, rfl, ho5, hb5⟩
      have hS2 := hS.below hb5
      have hO5 := ho5
      have hlb : (D ++ D.drop n).length = n + 2 := by rw [List.length_append]; omega
      rw [hlb] at ho5 ⊢
      refine hK.out _ _ hS2 ?_
      try simp only [Act.put, List.setIfInBounds_toArray, List.set_cons_zero, List.set_cons_succ]
      clear hK K hS
      clear hS2 hb7 hR7 hcut hdl hb5 ho5
      refine restS_take (v := ?_) 8 rfl (by kernel_rfl) (by kernel_rfl) (by kernel_rfl) (fun _ _ _ h => h) (by rfl) ?_ ?_
      rotate_left
      · intro w9 h9; try dsimp only at h9
        go_split_ands
        go_simp; try with_reducible rfl
      try simp only [Act.put, List.setIfInBounds_toArray, List.set_cons_zero, List.set_cons_succ]
      refine restS_alone 9 rfl (by kernel_rfl) (by rfl) (fun hS K hK => ?_)
      have hS3 := hS
      obtain ⟨_, _, p0, p1, p2, ⟨u, p3⟩, p4⟩ := hS3
      go_wp2_with fail
      have hS2 := hS.set (.slice a5 (n + 2) c5) (by omega) hbg (by omega)
      have hR5 := (OwnA.set (a := ⟨w3.heap.size + 2, 2, none⟩) (u := .slice a5 (n + 2) c5) hlo hO5).read
      refine hK.out _ _ hS2.1 ?_
      try simp only [Act.put, List.setIfInBounds_toArray, List.set_cons_zero, List.set_cons_succ]
      clear hK K hS
      clear p0 p1 p2 p3 p4 hO5
      have hC5 := hS2.2
      clear hS2 hlo
      generalize w5.setCell ⟨w3.heap.size + 2, 2, none⟩ (.slice a5 (n + 2) c5) = V at hR5 hC5 ⊢
      refine restS_done (by kernel_rfl) (fun hS => ?_)
      obtain ⟨⟨hb2, hR⟩, ⟨c4, c6, c7⟩, _⟩ := hS
      have c8 := hC5
      clear hC5
      have c4q := c4
      have c6q := c6
      have c7q := c7
      have c8q := c8
      obtain ⟨pc40, pc41, pc42, pc43⟩ := c4q
      obtain ⟨pc60, pc61, pc62, pc63⟩ := c6q
      obtain ⟨pc70, pc71, pc72, pc73⟩ := c7q
      obtain ⟨pc80, pc81, pc82, pc83⟩ := c8q
      go_wp2_with fail
      refine Calls.mono (by
        have h7 := c_impl_FeedOk (bs) (xn - 1) (some ⟨b, off, none⟩) cf (D) _ hR
        rw [hn1] at h7
        exact h7) ?_
      rw [feedOk_low (j := n) (by omega) hxn]
      rintro e w6 ⟨rfl, hbx⟩
      clear pc40 pc41 pc42 pc43 pc60 pc61 pc62 pc63 pc70 pc71 pc72 pc73 pc80 pc81 pc82 pc83
      replace c4 := c4.below hbx
      have c4q := c4
      replace c6 := c6.below hbx
      have c6q := c6
      replace c7 := c7.below hbx
      have c7q := c7
      replace c8 := c8.below hbx
      have c8q := c8
      replace hR := hR.below hbx
      replace hR5 := hR5.below hbx
      replace hb2 := bl_step hbx hb2.size hb2
      clear hbx
      obtain ⟨pc40, pc41, pc42, pc43⟩ := c4q
      obtain ⟨pc60, pc61, pc62, pc63⟩ := c6q
      obtain ⟨pc70, pc71, pc72, pc73⟩ := c7q
      obtain ⟨pc80, pc81, pc82, pc83⟩ := c8q
      go_wp2_with fail
      refine Calls.mono (by
        have h7 := c_impl_FeedOk (x0) (x0 + 9) (some ⟨b, off, none⟩) cf (D) _ hR
        rw [hn1] at h7
        exact h7) ?_
      rw [feedOk_high (by omega) hx0]
      rintro e w7 ⟨rfl, hbx⟩
      clear pc40 pc41 pc42 pc43 pc60 pc61 pc62 pc63 pc70 pc71 pc72 pc73 pc80 pc81 pc82 pc83
      replace c4 := c4.below hbx
      have c4q := c4
      replace c6 := c6.below hbx
      have c6q := c6
      replace c7 := c7.below hbx
      have c7q := c7
      replace c8 := c8.below hbx
      have c8q := c8
      replace hR := hR.below hbx
      replace hR5 := hR5.below hbx
      replace hb2 := bl_step hbx hb2.size hb2
      clear hbx
      obtain ⟨pc40, pc41, pc42, pc43⟩ := c4q
      obtain ⟨pc60, pc61, pc62, pc63⟩ := c6q
      obtain ⟨pc70, pc71, pc72, pc73⟩ := c7q
      obtain ⟨pc80, pc81, pc82, pc83⟩ := c8q
      go_wp2_with fail
      refine Calls.mono (by
        have h7 := c_impl_FeedOk (bs) (la) (a5) c5 (D ++ D.drop n) _ hR5
        rw [hlb] at h7
        exact h7) ?_
      rw [hf8]
      rintro e w8 ⟨rfl, hbx⟩
      clear pc40 pc41 pc42 pc43 pc60 pc61 pc62 pc63 pc70 pc71 pc72 pc73 pc80 pc81 pc82 pc83
      replace c4 := c4.below hbx
      have c4q := c4
      replace c6 := c6.below hbx
      have c6q := c6
      replace c7 := c7.below hbx
      have c7q := c7
      replace c8 := c8.below hbx
      have c8q := c8
      replace hR := hR.below hbx
      replace hR5 := hR5.below hbx
      replace hb2 := bl_step hbx hb2.size hb2
      clear hbx
      obtain ⟨pc40, pc41, pc42, pc43⟩ := c4q
      obtain ⟨pc60, pc61, pc62, pc63⟩ := c6q
      obtain ⟨pc70, pc71, pc72, pc73⟩ := c7q
      obtain ⟨pc80, pc81, pc82, pc83⟩ := c8q
      go_wp2_with fail
      refine Calls.mono (by
        have h7 := c_impl_FeedRow (bs) (xn - 1) (some ⟨b, off, none⟩) cf D _ hib hix hR
        rw [hn1, rowFeed_f (feedOk_low (j := n) (by omega) hxn)] at h7
        exact h7) ?_
      rintro e w9 ⟨a9, d9, rfl, ho, hbx⟩
      clear ho
      clear pc40 pc41 pc42 pc43 pc60 pc61 pc62 pc63 pc70 pc71 pc72 pc73 pc80 pc81 pc82 pc83
      replace c4 := c4.below hbx
      have c4q := c4
      replace c6 := c6.below hbx
      have c6q := c6
      replace c7 := c7.below hbx
      have c7q := c7
      replace c8 := c8.below hbx
      have c8q := c8
      replace hR := hR.below hbx
      replace hR5 := hR5.below hbx
      replace hb2 := bl_step hbx hb2.size hb2
      clear hbx
      obtain ⟨pc40, pc41, pc42, pc43⟩ := c4q
      obtain ⟨pc60, pc61, pc62, pc63⟩ := c6q
      obtain ⟨pc70, pc71, pc72, pc73⟩ := c7q
      obtain ⟨pc80, pc81, pc82, pc83⟩ := c8q
      go_wp2_with fail
      refine Calls.mono (by
        have h7 := c_impl_FeedRow (x0) (x0 + 9) (some ⟨b, off, none⟩) cf D _ hi0 hi9 hR
        rw [hn1, rowFeed_f (feedOk_high (by omega) hx0)] at h7
        exact h7) ?_
      rintro e w10 ⟨a10, d10, rfl, ho, hbx⟩
      clear ho
      clear pc40 pc41 pc42 pc43 pc60 pc61 pc62 pc63 pc70 pc71 pc72 pc73 pc80 pc81 pc82 pc83
      replace c4 := c4.below hbx
      have c4q := c4
      replace c6 := c6.below hbx
      have c6q := c6
      replace c7 := c7.below hbx
      have c7q := c7
      replace c8 := c8.below hbx
      have c8q := c8
      replace hR := hR.below hbx
      replace hR5 := hR5.below hbx
      replace hb2 := bl_step hbx hb2.size hb2
      clear hbx
      obtain ⟨pc40, pc41, pc42, pc43⟩ := c4q
      obtain ⟨pc60, pc61, pc62, pc63⟩ := c6q
      obtain ⟨pc70, pc71, pc72, pc73⟩ := c7q
      obtain ⟨pc80, pc81, pc82, pc83⟩ := c8q
      go_wp2_with fail
      refine Calls.mono (by
        have h7 := c_impl_FeedRow (bs) (la) (some ⟨b, off, none⟩) cf D _ hib hil hR
        unfold RetI at h7
        rw [hn1, len_rowFeed hok, hn1] at h7
        exact h7) ?_
      rintro e w11 ⟨a11, d11, rfl, ho, hbx⟩
      clear ho
      have hmul : Value.int .i64 (wrap64 (9 * ((n : Int) + 1))) = .int .i64 (9 * ((n : Int) + 1)) := congrArg _ (by unfold wrap64; omega)
      have hmf : ((9 * ((n : Int) + 1) + 3 == 3 + 9 * ((n : Int) + 1)) = true) := by rw [beq_iff_eq]; omega
      go_wp2_with fail
      go_ret
      exact ⟨rfl, bl_step hbx hb2.size hb2⟩

end Go.Proofs.Ytpfkfppooeikeaa
