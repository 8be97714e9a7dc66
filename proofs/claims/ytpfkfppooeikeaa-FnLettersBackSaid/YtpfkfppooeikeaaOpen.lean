/- The list of open jobs, by the reference and by the program. -/
import Derived.Test.YtpfkfppooeikeaaDue
import Derived.Test.YtpfkfppooeikeaaMapI
namespace Go.Proofs.Ytpfkfppooeikeaa
open Go.RowKit
set_option maxHeartbeats 400000

def prevOk (l : List (Int × Int)) : Nat → Int × Int → Bool
  | 0, _ => true
  | j + 1, d => dueLess (l.getD j (0, 0)) d
def dueOk1 (l : List (Int × Int)) (i : Nat) (d : Int × Int) : Bool := inB d.1 1 20 && inB d.2 0 1000000 && prevOk l i d
def dueOk (l : List (Int × Int)) (i : Nat) : Bool := dueOk1 l i (l.getD i (0, 0)) && !((l.take i).any fun c => c.1 == (l.getD i (0, 0)).1)
def openOk (l : List (Int × Int)) : Bool := decide (l.length ≤ 8) && (List.range l.length).all (dueOk l)
theorem openOk_long {l : List (Int × Int)} (h : 8 < l.length) : openOk l = false := by simp [openOk]; omega
theorem openOk_bad {l : List (Int × Int)} {k : Nat} (hk : k < l.length) (h : dueOk l k = false) : openOk l = false := by
  simp only [openOk, Bool.and_eq_false_iff, List.all_eq_false]
  exact .inr ⟨k, by simpa using hk, by simp [h]⟩
theorem openOk_good {l : List (Int × Int)} (h : l.length ≤ 8) (h2 : ∀ i, i < l.length → dueOk l i = true) : openOk l = true := by
  simp only [openOk, Bool.and_eq_true, decide_eq_true_eq, List.all_eq_true, List.mem_range]
  exact ⟨h, h2⟩
theorem dueOk_eq {l : List (Int × Int)} {k : Nat} (hk : k < l.length) : dueOk l k = (dueOk1 l k l[k] && !((l.take k).any fun c => c.1 == l[k].1)) := by
  unfold dueOk
  rw [List.getD_eq_getElem?_getD, List.getElem?_eq_getElem hk, Option.getD_some]
theorem any_take {l : List (Int × Int)} {k : Nat} (hk : k < l.length) {x : Int} : ((l.take k).any fun c => c.1 == x) = true ↔ ∃ j, ∃ hj : j < k, l[j].1 = x := by
  simp only [List.any_eq_true, beq_iff_eq]
  constructor
  · rintro ⟨c, hc, rfl⟩
    obtain ⟨j, hj, rfl⟩ := List.getElem_of_mem hc
    simp at hj
    exact ⟨j, by omega, by simp⟩
  · rintro ⟨j, hj, rfl⟩
    exact ⟨l[j], by rw [List.mem_take_iff_getElem]; exact ⟨j, by omega, rfl⟩, rfl⟩

theorem c_spec_l11Open (ao : Option Addr) (cap : Nat) (l : List (Int × Int)) (w : World) (h : ReadA dueE w ao l) :
    Calls Try.prog 163 #[.slice ao l.length cap] w fun e w' => e = .returned (.bool (openOk l)) ∧ Below w.heap.size w w' := by
  have hm := h.2.1
  by_cases hlen : 8 < l.length
  · have Hr := Lib.hid (openOk_long hlen)
    go_enter Try.func163, Try.ntmps163
    go_wp2
    go_ret
    exact ⟨by rw [Hr.out]; rfl, Below.refl _ _⟩
  · have hl2 : l.length ≤ 8 := by omega
    go_enter Try.func163, Try.ntmps163
    go_wp2
    go_loopw [3] (fun i wr => ∃ k : Nat, k ≤ l.length ∧ i = .int .i64 k ∧ Hid (∀ i, i < k → dueOk l i = true) ∧ Below w.heap.size w wr) (fun i _ => l.length - (intOf i).toNat)
    case atStart => exact ⟨0, Nat.zero_le _, rfl, fun i hi => by omega, Below.refl _ _⟩
    case round =>
      obtain ⟨k, hk, rfl, Hall, hbel⟩ := hrel
      by_cases hlt : k < l.length
      · obtain ⟨b, off, rfl, hbl, hc⟩ := due_at h hlt
        have hck0 : _ := (hbel.cell (p := ⟨b, off + k * 2, none⟩) hbl).trans (hc k hlt).1
        have hck1 : _ := (hbel.cell (p := ⟨b, off + k * 2 + 1, none⟩) hbl).trans (hc k hlt).2
        have hbw := Nat.lt_of_lt_of_le hbl hbel.size
        have hp : (k : Int) < l.length := by omega
        have Heq := Lib.hid (dueOk_eq hlt)
        by_cases hk0 : k = 0
        · have Hk0 := Lib.hid hk0
          have hk1 : k ≤ 0 := by omega
          clear hk0
          have hd0 : decide (0 < k) = false := by simp; omega
          have hd2 : decide ((0 : Int) < (k : Int)) = false := by simp; omega
          have hd1 : Hid (dueOk1 l k l[k] = (inB l[k].1 1 20 && inB l[k].2 0 1000000)) := by
            obtain rfl : k = 0 := Hk0.out
            simp [Hid, dueOk1, prevOk]
          go_wp2_with fail
          refine wp_region_later (by kernel_rfl) (by kernel_rfl) ?_
          repeat (any_goals (first | go_big_quiet_step ((first | (go_at_call 173; exact later_same (c_spec_l7Id _ _)) | (go_at_call 161; exact later_same (c_spec_TimeOk _ _)) | (go_at_call 174; exact later_call (c_spec_dueLess _ _ _ _ _)))) | quiet_step ((first | (go_at_call 173; exact later_same (c_spec_l7Id _ _)) | (go_at_call 161; exact later_same (c_spec_TimeOk _ _)) | (go_at_call 174; exact later_call (c_spec_dueLess _ _ _ _ _)))) | (refine wpQuiet_step (fun K hK => ?_); go_simp; split <;> (refine hK _ ?_; clear hK K))))
          all_goals (refine wpQuiet_nil ?_; intro _ hw'; obtain ⟨x, hw''⟩ := hw'; subst hw'')
          all_goals go_wp2_with fail
          any_goals (go_ret; exact ⟨by rw [openOk_bad hlt (by rw [Heq.out, hd1.out]; simp_all)]; rfl, bl_later hbel.size hbel⟩)
          have Hg : Hid (dueOk1 l (k) l[k] = true) := by show dueOk1 l (k) l[k] = true; rw [hd1.out]; simp_all
          have hbx : Below w.heap.size w x.w := bl_later hbel.size hbel
          have Hc := Lib.hid hc
          clear hc hck0 hck1 
          go_loopw [4] (fun i wi => ∃ q : Nat, q ≤ k ∧ i = .int .i64 q ∧ Hid (∀ j, j < q → (l.getD j (0, 0)).1 ≠ l[k].1) ∧ Below x.w.heap.size x.w wi) (fun i _ => k - (intOf i).toNat)
          case atStart => exact ⟨0, Nat.zero_le _, rfl, fun j hj => by omega, Below.refl _ _⟩
          case round =>
            obtain ⟨q, hq, rfl, Hno, hbi⟩ := hrel
            have hbi2 : Below w.heap.size w _ := bl_step hbi hbx.size hbx
            by_cases hlq : q < k
            · have hlq' : q < l.length := by omega
              have hcq : _ := (hbi2.cell (p := ⟨b, off + q * 2, none⟩) hbl).trans (Hc.out q hlq').1
              have hck : _ := (hbi2.cell (p := ⟨b, off + (k) * 2, none⟩) hbl).trans (Hc.out (k) hlt).1
              have hpq : (q : Int) < l.length := by omega
              have hpk : ((k : Nat) : Int) < l.length := by omega
              cases hn : (l[q].1 == l[k].1)
              · go_wp2_with fail
                go_quiet (fail)
                go_wp2
                go_roundw
                case rel => exact ⟨q + 1, by omega, by go_num, fun j hj => by
                  by_cases he : j = q
                  · subst he; rw [List.getD_eq_getElem?_getD, List.getElem?_eq_getElem hlq', Option.getD_some]; simpa using hn
                  · exact Hno.out j (by omega), below_drewN hbi _⟩
                case measure => simp [intOf]; omega
              · go_wp2_with fail
                go_quiet (fail)
                go_wp2
                go_ret
                exact ⟨by rw [openOk_bad hlt (by rw [Heq.out, (any_take hlt).2 ⟨q, hlq, by simpa using hn⟩]; simp)]; rfl, below_drewN hbi2 _⟩
            · obtain rfl : q = k := by omega
              go_wp2
              go_roundw
              case rel => exact ⟨q + 1, by omega, by go_num, fun i hi => by
                by_cases he : i = q
                · subst he
                  rw [Heq.out, Hg.out, Bool.true_and, Bool.not_eq_true', ← Bool.not_eq_true]
                  intro ha
                  obtain ⟨j, hj, hjj⟩ := (any_take hlt).1 ha
                  have := Hno.out j hj
                  rw [List.getD_eq_getElem?_getD, List.getElem?_eq_getElem (by omega), Option.getD_some] at this
                  exact this hjj
                · exact Hall.out i (by omega), hbi2⟩
              case measure => simp [intOf]; omega
        · obtain ⟨k, rfl⟩ : ∃ j, k = j + 1 := ⟨k - 1, by omega⟩
          clear hk0
          have hlt' : k < l.length := by omega
          have hcj0 : _ := (hbel.cell (p := ⟨b, off + k * 2, none⟩) hbl).trans (hc k hlt').1
          have hcj1 : _ := (hbel.cell (p := ⟨b, off + k * 2 + 1, none⟩) hbl).trans (hc k hlt').2
          have hd1 : Hid (dueOk1 l (k + 1) l[k + 1] = (inB l[k + 1].1 1 20 && inB l[k + 1].2 0 1000000 && dueLess l[k] l[k + 1])) := by
            simp [Hid, dueOk1, prevOk, List.getElem?_eq_getElem hlt']
          go_wp2_with fail
          refine wp_region_later (by kernel_rfl) (by kernel_rfl) ?_
          repeat (any_goals (first | go_big_quiet_step ((first | (go_at_call 173; exact later_same (c_spec_l7Id _ _)) | (go_at_call 161; exact later_same (c_spec_TimeOk _ _)) | (go_at_call 174; exact later_call (c_spec_dueLess _ _ _ _ _)))) | quiet_step ((first | (go_at_call 173; exact later_same (c_spec_l7Id _ _)) | (go_at_call 161; exact later_same (c_spec_TimeOk _ _)) | (go_at_call 174; exact later_call (c_spec_dueLess _ _ _ _ _)))) | (refine wpQuiet_step (fun K hK => ?_); go_simp; split <;> (refine hK _ ?_; clear hK K))))
          all_goals (refine wpQuiet_nil ?_; intro _ hw'; obtain ⟨x, hw''⟩ := hw'; subst hw'')
          all_goals go_wp2_with fail
          any_goals (go_ret; exact ⟨by rw [openOk_bad hlt (by rw [Heq.out, hd1.out]; simp_all)]; rfl, bl_later hbel.size hbel⟩)
          have Hg : Hid (dueOk1 l (k + 1) l[k + 1] = true) := by show dueOk1 l (k + 1) l[k + 1] = true; rw [hd1.out]; simp_all
          have hbx : Below w.heap.size w x.w := bl_later hbel.size hbel
          have Hc := Lib.hid hc
          clear hc hck0 hck1 hcj0 hcj1
          go_loopw [4] (fun i wi => ∃ q : Nat, q ≤ k + 1 ∧ i = .int .i64 q ∧ Hid (∀ j, j < q → (l.getD j (0, 0)).1 ≠ l[k + 1].1) ∧ Below x.w.heap.size x.w wi) (fun i _ => k + 1 - (intOf i).toNat)
          case atStart => exact ⟨0, Nat.zero_le _, rfl, fun j hj => by omega, Below.refl _ _⟩
          case round =>
            obtain ⟨q, hq, rfl, Hno, hbi⟩ := hrel
            have hbi2 : Below w.heap.size w _ := bl_step hbi hbx.size hbx
            by_cases hlq : q < k + 1
            · have hlq' : q < l.length := by omega
              have hcq : _ := (hbi2.cell (p := ⟨b, off + q * 2, none⟩) hbl).trans (Hc.out q hlq').1
              have hck : _ := (hbi2.cell (p := ⟨b, off + (k + 1) * 2, none⟩) hbl).trans (Hc.out (k + 1) hlt).1
              have hpq : (q : Int) < l.length := by omega
              have hpk : ((k + 1 : Nat) : Int) < l.length := by omega
              have hpk2 : (k : Int) + 1 < l.length := by omega
              cases hn : (l[q].1 == l[k + 1].1)
              · go_wp2_with fail
                go_quiet (fail)
                go_wp2
                go_roundw
                case rel => exact ⟨q + 1, by omega, by go_num, fun j hj => by
                  by_cases he : j = q
                  · subst he; rw [List.getD_eq_getElem?_getD, List.getElem?_eq_getElem hlq', Option.getD_some]; simpa using hn
                  · exact Hno.out j (by omega), below_drewN hbi _⟩
                case measure => simp [intOf]; omega
              · go_wp2_with fail
                go_quiet (fail)
                go_wp2
                go_ret
                exact ⟨by rw [openOk_bad hlt (by rw [Heq.out, (any_take hlt).2 ⟨q, hlq, by simpa using hn⟩]; simp)]; rfl, below_drewN hbi2 _⟩
            · obtain rfl : q = k + 1 := by omega
              go_wp2
              go_roundw
              case rel => exact ⟨k + 1 + 1, by omega, by go_num, fun i hi => by
                by_cases he : i = k + 1
                · subst he
                  rw [Heq.out, Hg.out, Bool.true_and, Bool.not_eq_true', ← Bool.not_eq_true]
                  intro ha
                  obtain ⟨j, hj, hjj⟩ := (any_take hlt).1 ha
                  have := Hno.out j hj
                  rw [List.getD_eq_getElem?_getD, List.getElem?_eq_getElem (by omega), Option.getD_some] at this
                  exact this hjj
                · exact Hall.out i (by omega), hbi2⟩
              case measure => simp [intOf]; omega
      · go_wp2
        go_ret
        exact ⟨by rw [openOk_good hl2 fun i hi => Hall.out i (by omega)]; rfl, hbel⟩
end Go.Proofs.Ytpfkfppooeikeaa
