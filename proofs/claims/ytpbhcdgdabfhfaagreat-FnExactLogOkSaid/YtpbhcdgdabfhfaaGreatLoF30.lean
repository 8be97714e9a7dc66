/- Walks of functions of the program, printed by a program of the prover. -/
import Derived.Test.YtpbhcdgdabfhfaaGreatLoF29
namespace Go.Proofs.YtpbhcdgdabfhfaaGreat
open Go.ChangeShapes Go.WideShapes Go.ChangeAt Go.RowKit
set_option linter.unusedVariables false
set_option linter.unusedSimpArgs false
set_option maxHeartbeats 1000000
set_option maxRecDepth 100000
attribute [local irreducible] EvL Ev EvE Quiet Eff Pure RDk RDb RDo
def ackF (e : Entry) : Ack := if entryOk e then ⟨e.client, e.seq, e.index, e.seq⟩ else ⟨0, 0, 0, 0⟩
def partF (b : Book) (x y : Int) : List Entry := b.entries.filter fun e => inB e.index x y
def lastB (b : Book) : Int := b.base + b.entries.length
def fromF (b : Book) (x : Int) : List Entry := b.entries.filter fun e => decide (e.index ≥ x)
theorem filter_take {α : Type} {p : α → Bool} {l : List α} {k : Nat} (hk : k < l.length) : (l.take (k + 1)).filter p = (l.take k).filter p ++ (if p l[k] then [l[k]] else []) := by
  rw [List.take_succ_eq_append_getElem hk, List.filter_append]
  cases hp : p l[k] <;> simp [hp]
theorem filter_yes {α : Type} {p : α → Bool} {l : List α} {k : Nat} (hk : k < l.length) (h : p l[k] = true) : (l.take (k + 1)).filter p = (l.take k).filter p ++ [l[k]] := by rw [filter_take hk, if_pos h]
theorem filter_not {α : Type} {p : α → Bool} {l : List α} {k : Nat} (hk : k < l.length) (h : p l[k] = false) : (l.take (k + 1)).filter p = (l.take k).filter p := by rw [filter_take hk, h]; simp
theorem filter_len {α : Type} {p : α → Bool} {l : List α} {k : Nat} : ((l.take k).filter p).length ≤ k := Nat.le_trans (List.length_filter_le _ _) (by rw [List.length_take]; omega)
theorem filter_lt {α : Type} {p : α → Bool} {l : List α} {k : Nat} (hk : k < l.length) (h : p l[k] = true) : ((l.take k).filter p).length < (l.filter p).length := by
  have h1 : (l.take (k + 1)).filter p <+: l.filter p := (List.take_prefix _ _).filter _
  have h2 := h1.length_le
  rw [filter_yes hk h] at h2
  simp at h2
  omega
theorem filter_pre {α : Type} {p : α → Bool} {l : List α} {k : Nat} : (l.take k).filter p <+: l.filter p := (List.take_prefix _ _).filter _
theorem filter_full {α : Type} {p : α → Bool} {l : List α} {k : Nat} (hk : l.length ≤ k) : (l.take k).filter p = l.filter p := by rw [List.take_of_length_le hk]
theorem flat_marks (l : List Mark) : ∀ cs ∈ l.map markC, ∀ c ∈ cs, ∃ x, c = .v x := by
  intro cs h c hc
  obtain ⟨x, _, rfl⟩ := List.mem_map.1 h
  simp only [List.mem_cons, List.not_mem_nil, or_false] at hc
  rcases hc with rfl | rfl | rfl <;> exact ⟨_, rfl⟩
theorem book_bd {b : Book} (h : bookOk b = true) : 0 ≤ b.base ∧ b.base ≤ 2000 ∧ b.entries.length ≤ 20 ∧ timeOk b.time = true ∧ entriesOk b.entries = true := by
  simp only [bookOk, Bool.and_eq_true, decide_eq_true_eq] at h
  obtain ⟨h1, h2, h3, h4, h5, h6⟩ := h
  have := inB_iff.1 h1
  exact ⟨this.1, this.2, h4, h2, h5⟩
theorem c_AckOf (e : Entry) : Pure Tryz.prog 147 [many (entryC e)] [many' [.v (.int .i64 (ackF e).client), .v (.int .i64 (ackF e).seq), .v (.int .i64 (ackF e).index), .v (.int .i64 (ackF e).last)]] := by
 refine pure_intro (N := 16) Tryz.func147 rfl rfl rfl rfl (fun H w => ?_)
 refine sq (rg (evl_e (e_box rfl rfl rfl rfl) (evl_e (e_alloc ttOk rfl rfl rfl rfl) (nl (et (sq (sq (rg (xl ttOk rfl rfl (evl_call (nm := 4) (cf rfl) (c_EntryOk e) (rs_of rfl) rfl rfl rfl (xo (q_not rfl) rfl (nl (et (ev_cond_n rfl (fun h1 => ?_) (fun h1 => ?_)))))))))))))))
 · refine sq (rg (xo (q_build ttOk rfl) rfl (xst ttOk rfl rfl (nl (et (ev_ret (evr_then (ret_pure' ttOk rfl rfl ?_))))))))
   simp_all [ackF]
 · refine ev_skip (et (sq (rg (xf ttOk rfl rfl (xl ttOk rfl rfl (xf ttOk rfl rfl (xl ttOk rfl rfl (xf ttOk rfl rfl (xl ttOk rfl rfl (xf ttOk rfl rfl (xl ttOk rfl rfl (xo (q_build ttOk rfl) rfl (xst ttOk rfl rfl (nl (et (ev_ret (ret_pure' ttOk rfl rfl ?_)))))))))))))))))
   simp_all [ackF]
theorem c_AckOf' (e : Entry) : Pure Tryz.prog 162 [many (entryC e)] [many' [.v (.int .i64 (ackF e).client), .v (.int .i64 (ackF e).seq), .v (.int .i64 (ackF e).index), .v (.int .i64 (ackF e).last)]] := by
 refine pure_intro (N := 16) Tryz.func162 rfl rfl rfl rfl (fun H w => ?_)
 refine sq (rg (evl_e (e_box rfl rfl rfl rfl) (evl_e (e_alloc ttOk rfl rfl rfl rfl) (nl (et (sq (sq (rg (xl ttOk rfl rfl (evl_call (nm := 4) (cf rfl) (c_EntryOk' e) (rs_of rfl) rfl rfl rfl (xo (q_not rfl) rfl (nl (et (ev_cond_n rfl (fun h1 => ?_) (fun h1 => ?_)))))))))))))))
 · refine sq (rg (xo (q_build ttOk rfl) rfl (xst ttOk rfl rfl (nl (et (ev_ret (evr_then (ret_pure' ttOk rfl rfl ?_))))))))
   simp_all [ackF]
 · refine ev_skip (et (sq (rg (xf ttOk rfl rfl (xl ttOk rfl rfl (xf ttOk rfl rfl (xl ttOk rfl rfl (xf ttOk rfl rfl (xl ttOk rfl rfl (xf ttOk rfl rfl (xl ttOk rfl rfl (xo (q_build ttOk rfl) rfl (xst ttOk rfl rfl (nl (et (ev_ret (ret_pure' ttOk rfl rfl ?_)))))))))))))))))
   simp_all [ackF]
theorem c_l9Copy (l : List Mark) (h : l.length ≤ 1048576) : Pure Tryz.prog 95 [one (marks l)] [one' (marksR l)] := by
 refine pure_intro (N := 6) Tryz.func95 rfl rfl rfl rfl (fun H w => ?_)
 refine sq (rg (xs rfl rfl (nl (et (sq (rg (evl_e (e_lit ttOk rfl rfl rfl) (xm rfl rfl (evl_e (e_app_c ttOk rfl rfl rfl rfl rfl (flat_marks _) (by simp; omega) rfl rfl) (xs rfl rfl (nl (et (ev_ret (ret_pure' ttOk rfl rfl ?_))))))))))))))
 rfl
theorem c_copySeen (l : List Mark) (h : l.length ≤ 1048576) : Pure Tryz.prog 157 [one (marks l)] [one' (marksR l)] := by
 refine pure_intro (N := 6) Tryz.func157 rfl rfl rfl rfl (fun H w => ?_)
 refine sq (rg (xs rfl rfl (nl (et (sq (rg (evl_e (e_lit ttOk rfl rfl rfl) (xm rfl rfl (evl_e (e_app_c ttOk rfl rfl rfl rfl rfl (flat_marks _) (by simp; omega) rfl rfl) (xs rfl rfl (nl (et (ev_ret (ret_pure' ttOk rfl rfl ?_))))))))))))))
 rfl
theorem c_l8Last (b : Book) (h : bookOk b = true) : Pure Tryz.prog 77 [many (bookC b)] (iR (lastB b)) := by
 refine pure_intro (N := 9) Tryz.func77 rfl rfl rfl rfl (fun H w => ?_)
 have hb := book_bd h
 refine sq (rg (evl_e (e_box rfl rfl rfl rfl) (xs rfl rfl (nl (et (sq (rg (xf ttOk rfl rfl (xl ttOk rfl rfl (xf ttOk rfl rfl (xl ttOk rfl rfl (xo (q_len_map ttOk rfl rfl) rfl (xa rfl rfl rfl (by omega) rfl (xs rfl rfl (nl (et (ev_ret (ret_pure' ttOk rfl rfl ?_))))))))))))))))))
 rfl
theorem c_lastOf (b : Book) (h : bookOk b = true) : Pure Tryz.prog 90 [many (bookC b)] (iR (lastB b)) := by
 refine pure_intro (N := 9) Tryz.func90 rfl rfl rfl rfl (fun H w => ?_)
 have hb := book_bd h
 refine sq (rg (evl_e (e_box rfl rfl rfl rfl) (xs rfl rfl (nl (et (sq (rg (xf ttOk rfl rfl (xl ttOk rfl rfl (xf ttOk rfl rfl (xl ttOk rfl rfl (xo (q_len_map ttOk rfl rfl) rfl (xa rfl rfl rfl (by omega) rfl (xs rfl rfl (nl (et (ev_ret (ret_pure' ttOk rfl rfl ?_))))))))))))))))))
 rfl

end Go.Proofs.YtpbhcdgdabfhfaaGreat
