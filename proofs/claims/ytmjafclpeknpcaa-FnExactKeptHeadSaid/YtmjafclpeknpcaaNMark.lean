/- The laws' marks in lists of rows, lists of writes, disks: walks. -/
import Derived.Test.YtmjafclpeknpcaaNTo
import Derived.WalkKit
import Derived.WalkSpells
import Derived.Deep.QuietTactic
import Derived.BigQuiet
import Derived.Deep.Light
import Derived.Lib.Hide
import Derived.IntWalk
namespace Go.Proofs.Ytmjafclpeknpcaa
open Go.ChangeShapes Go.WideShapes Go.ChangeAt Go.RowKit Go.Deep
set_option maxHeartbeats 1600000
set_option maxRecDepth 100000
theorem Free.chg {w w' : World} {F G : List Nat} (h : Free w F) (hc : ChgF w w' G) (hg : Free w' G) : Free w' F := by
  intro b hb
  by_cases hbG : b ∈ G
  · exact hg b hbG
  · obtain ⟨cur, e, h1⟩ := h b hb
    exact ⟨cur, e, by rw [hc.block b (Array.getElem?_eq_some_iff.1 h1).1 hbG]; exact h1⟩
theorem Free.frozen {w : World} {F : List Nat} (h : Free w F) {b : Nat} (hb : b ∈ F) (o : Nat) : w.frozen? ⟨b, o, none⟩ = false := by
  obtain ⟨cur, e, h1⟩ := h b hb
  simp [World.frozen?, h1]
/-- what a mark leaves of a value of its own -/
def Marked {α : Type} (A : En α) (w : World) (x : α) (vs : List Value) (F : List Nat) (w' : World) : Prop := A.rd w' x vs F ∧ Free w' F ∧ ChgF w w' F
theorem c_markRows (ao : Option Addr) (cap : Nat) (K : List (List Int)) (F : List Nat) (k : Int) (w : World) (h : rowsO.rd w K [.slice ao K.length cap] F) (hn : F.Nodup) (hf : Free w F) (hk : 0 ≤ k) (hk2 : k + lenSum K ≤ 1099511627776) (hl : K.length ≤ 1048576) :
    Calls Try.prog 94 #[.slice ao K.length cap, .int .i64 k] w fun e w' => e = .returned (.int .i64 (k + lenSum K)) ∧ Marked rowsO w (mkRows k K) [.slice ao K.length cap] F w' := by
  by_cases h0 : K = []
  · subst h0
    simp only [List.length_nil] at *
    go_enter Try.func94, Try.ntmps94
    go_wp2
    refine wp_loop_rounds 1 ?_
    rw [rounds_succ]
    go_wp2
    go_ret
    exact ⟨by simp [lenSum], h, hf, ChgF.refl _ _⟩
  · obtain ⟨ao', cap', hv, h1, h2, h3⟩ := h
    simp only [List.cons.injEq, Value.slice.injEq, and_true, true_and] at hv
    obtain ⟨rfl, rfl⟩ := hv
    rcases h3 with ⟨rfl, _⟩ | ⟨b, off, Fs, rfl, hb, rfl, hE⟩
    · exact absurd rfl h0
    have Hn := Lib.hid hn
    have Hf := Lib.hid hf
    have HE := Lib.hid hE
    have H1 := Lib.hid h1
    clear hn hf hE h1
    go_enter Try.func94, Try.ntmps94
    go_wp2
    go_loopw [1, 5] (fun kk i wr => ∃ q : Nat, q ≤ K.length ∧ i = .int .i64 q ∧ kk = .int .i64 (k + lenSum (K.take q)) ∧ Hid (ElsAt (ownI 2) wr b off (mixR k K q) Fs) ∧ Hid (Free wr (b :: Fs.flatten)) ∧ Hid (ChgF w wr (b :: Fs.flatten)) ∧ b < wr.heap.size)
      (fun _ i _ => K.length - (intOf i).toNat)
    case atStart => exact ⟨0, Nat.zero_le _, rfl, by simp [lenSum], by rw [mixR_zero]; exact HE.out, Hf.out, ChgF.refl _ _, hb⟩
    case round =>
      clear hb
      obtain ⟨q, hq, rfl, rfl, HEr, Hfr, HCr, hb⟩ := hrel
      by_cases hqt : q < K.length
      · have hp : (q : Int) < (K.length : Int) := by omega
        have hFl : q < Fs.length := by rw [HE.out.1]; exact hqt
        obtain ⟨vs, ⟨ai, ci, rfl, ho, hGe⟩, hcs⟩ := HEr.out.2 q K[q] Fs[q] (mixR_at hqt) (List.getElem?_eq_getElem hFl)
        have hcell := hcs 0 _ rfl
        rw [show off + q * (ownI 2).n + 0 = off + q by simp [ownI]] at hcell
        have ht := lenSum_take hqt
        have hle := lenSum_le K (q + 1)
        have Ht := Lib.hid ht
        obtain ⟨m, hm⟩ : ∃ m : Int, k + (lenSum (K.take q) : Int) = m := ⟨_, rfl⟩
        have Hm := Lib.hid hm
        rw [hm]
        have hm0 : 0 ≤ m := by omega
        have hm1 : m ≤ 1099511627776 := by omega
        have hr : K[q].length ≤ 1099511627776 := by omega
        have Ho := Lib.hid ho
        have HGe := Lib.hid hGe
        have Hcs := Lib.hid hcs
        clear hm ht hle ho hGe hcs
        go_wp2_with fail
        refine (c_laws_markInt64S ai ci 0 K[q] m wr Ho.out hm0 hm1 hr).mono ?_
        rintro e w2 ⟨rfl, ho2, hg2, hz2⟩
        have hchg : ChgF wr w2 Fs[q] := by rw [HGe.out]; exact ChgF.of_grown hg2
        have hrd : (ownI 2).rd w2 (seqI m K[q].length) [.slice ai K[q].length ci] Fs[q] := ⟨ai, ci, by rw [length_seqI], by rw [length_seqI]; exact ho2, by rw [length_seqI]; exact HGe.out⟩
        have HE2 := Lib.hid (HEr.out.sub Hn.out (List.getElem?_eq_getElem hFl) (by rw [length_mixR _ _ hq]; exact hqt) hrd Hcs.out hb hchg)
        have Hf2 := Lib.hid (Hfr.out.chg hchg (by rw [HGe.out]; exact owns_free ho2.2.2))
        have HC2 := Lib.hid (HCr.out.trans (hchg.wide (G := b :: Fs.flatten) fun x hx => List.mem_cons_of_mem _ (List.mem_flatten.2 ⟨Fs[q], List.getElem_mem hFl, hx⟩)))
        have hb2 : b < w2.heap.size := by rw [hz2]; exact hb
        clear hchg hrd ho2 hg2 hz2
        go_wp2_with fail
        go_roundw
        case rel => exact ⟨q + 1, by omega, by go_num, by have := Ht.out; have := Hm.out; congr 1; omega, by rw [← mixR_succ hqt, Hm.out]; exact HE2.out, Hf2.out, HC2.out, hb2⟩
        case measure => simp [intOf]; omega
      · obtain rfl : q = K.length := by omega
        rw [List.take_length]
        go_wp2_with fail
        go_ret
        refine ⟨rfl, ⟨_, cap, by rw [length_mkRows], by rw [length_mkRows]; exact H1.out, h2, .inr ⟨b, off, Fs, rfl, hb, rfl, ?_⟩⟩, Hfr.out, HCr.out⟩
        have h9 := HEr.out
        rw [mixR_all] at h9
        exact h9
/-- the cells of one element are written -/
theorem ElsAt.put {α : Type} {A : En α} {w w' : World} {b off : Nat} {l : List α} {Fs : List (List Nat)} (h : ElsAt A w b off l Fs) (hnd : (b :: Fs.flatten).Nodup) {i : Nat} {x' : α} {G : List Nat} {vs : List Value} (hG : Fs[i]? = some G) (hi : i < l.length)
    (hk : ∀ k, k ≠ b → w'.heap[k]? = w.heap[k]?) (hx : A.rd w x' vs G) (hv : ∀ j c, vs[j]? = some c → w'.cell? ⟨b, off + i * A.n + j, none⟩ = some c)
    (ho : ∀ i' j, i' ≠ i → j < A.n → w'.cell? ⟨b, off + i' * A.n + j, none⟩ = w.cell? ⟨b, off + i' * A.n + j, none⟩) : ElsAt A w' b off (l.set i x') Fs := by
  have hb := (List.nodup_cons.1 hnd).1
  have hne : ∀ {H : List Nat} {j : Nat}, Fs[j]? = some H → ∀ k ∈ H, w'.heap[k]? = w.heap[k]? := fun hH k hkH => hk k fun e => hb (by rw [← e]; exact List.mem_flatten.2 ⟨_, List.mem_of_getElem? hH, hkH⟩)
  refine ⟨by rw [List.length_set]; exact h.1, fun j y H e1 e2 => ?_⟩
  by_cases hij : i = j
  · subst hij
    rw [List.getElem?_set_self hi] at e1
    rw [hG] at e2
    obtain rfl := Option.some.inj e1
    obtain rfl := Option.some.inj e2
    exact ⟨vs, A.keep hx (hne hG), hv⟩
  · rw [List.getElem?_set_ne hij] at e1
    obtain ⟨us, h5, h6⟩ := h.2 j y H e1 e2
    refine ⟨us, A.keep h5 (hne e2), fun k c hc => ?_⟩
    rw [ho j k (fun e => hij e.symm) (by have := (List.getElem?_eq_some_iff.1 hc).1; rwa [A.len h5] at this)]
    exact h6 k c hc
theorem c_markWrites (ao : Option Addr) (cap : Nat) (K : List (Int × List Int)) (F : List Nat) (k : Int) (w : World) (h : writesO.rd w K [.slice ao K.length cap] F) (hn : F.Nodup) (hf : Free w F) (hk : 0 ≤ k) (hk2 : k + szW K ≤ 1099511627776) (hl : K.length ≤ 1048576) :
    Calls Try.prog 95 #[.slice ao K.length cap, .int .i64 k] w fun e w' => e = .returned (.int .i64 (k + szW K)) ∧ Marked writesO w (mkWrites k K) [.slice ao K.length cap] F w' := by
  by_cases h0 : K = []
  · subst h0
    simp only [List.length_nil] at *
    go_enter Try.func95, Try.ntmps95
    go_wp2
    refine wp_loop_rounds 1 ?_
    rw [rounds_succ]
    go_wp2
    go_ret
    exact ⟨by simp [szW, wrows, lenSum], h, hf, ChgF.refl _ _⟩
  · obtain ⟨ao', cap', hv, h1, h2, h3⟩ := h
    simp only [List.cons.injEq, Value.slice.injEq, and_true, true_and] at hv
    obtain ⟨rfl, rfl⟩ := hv
    rcases h3 with ⟨rfl, _⟩ | ⟨b, off, Fs, rfl, hb, rfl, hE⟩
    · exact absurd rfl h0
    have Hn := Lib.hid hn
    have Hf := Lib.hid hf
    have HE := Lib.hid hE
    have H1 := Lib.hid h1
    clear hn hf hE h1
    go_enter Try.func95, Try.ntmps95
    go_wp2
    go_loopw [1, 5] (fun kk i wr => ∃ q : Nat, q ≤ K.length ∧ i = .int .i64 q ∧ kk = .int .i64 (k + szW (K.take q)) ∧ Hid (ElsAt (pairE numE (ownI 2)) wr b off (mixW k K q) Fs) ∧ Hid (Free wr (b :: Fs.flatten)) ∧ Hid (ChgF w wr (b :: Fs.flatten)) ∧ b < wr.heap.size)
      (fun _ i _ => K.length - (intOf i).toNat)
    case atStart => exact ⟨0, Nat.zero_le _, rfl, by simp [szW, wrows, lenSum], by rw [mixW_zero]; exact HE.out, Hf.out, ChgF.refl _ _, hb⟩
    case round =>
      clear hb
      obtain ⟨q, hq, rfl, rfl, HEr, Hfr, HCr, hb⟩ := hrel
      by_cases hqt : q < K.length
      · have hp : (q : Int) < (K.length : Int) := by omega
        have hFl : q < Fs.length := by rw [HE.out.1]; exact hqt
        obtain ⟨vs, ⟨va, vb, Fa, Fb, rfl, hFab, ⟨rfl, hia, rfl⟩, hrow⟩, hcs⟩ := HEr.out.2 q K[q] Fs[q] (mixW_at hqt) (List.getElem?_eq_getElem hFl)
        rw [List.nil_append] at hFab
        subst hFab
        obtain ⟨ai, ci, rfl, ho, hGe⟩ := hrow
        have en : (pairE numE (ownI 2)).n = 2 := rfl
        have hc0 := hcs 0 _ rfl
        have hc1 := hcs 1 _ rfl
        rw [en, Nat.add_zero] at hc0
        rw [en] at hc1
        have hfz := Hfr.out.frozen (b := b) (by simp) (off + q * 2)
        have ht := szW_take hqt
        have hle := szW_le K (q + 1)
        have Ht := Lib.hid ht
        obtain ⟨m, hm⟩ : ∃ m : Int, k + (szW (K.take q) : Int) = m := ⟨_, rfl⟩
        have Hm := Lib.hid hm
        rw [hm]
        have hm0 : 0 ≤ m := by omega
        have hm1 : m + 1 ≤ 1099511627776 := by omega
        have hr : K[q].2.length ≤ 1099511627776 := by omega
        have hmi : inI64 m := by unfold inI64; omega
        have hbF : b ∉ Fs[q] := fun hx => (List.nodup_cons.1 Hn.out).1 (List.mem_flatten.2 ⟨Fs[q], List.getElem_mem hFl, hx⟩)
        -- the world behind the store
        have hcu : (wr.setCell ⟨b, off + q * 2, none⟩ (.int .i64 m)).cell? ⟨b, off + q * 2, none⟩ = some (.int .i64 m) := World.cell?_setCell_same _ _ _ hc0
        have hcr : (wr.setCell ⟨b, off + q * 2, none⟩ (.int .i64 m)).cell? ⟨b, off + q * 2 + 1, none⟩ = some (.slice ai K[q].2.length ci) := (World.cell?_setCell_other _ _ _ _ (fun e => by have h7 := (Addr.mk.inj e).2.1; omega)).trans hc1
        have hEp : ElsAt (pairE numE (ownI 2)) (wr.setCell ⟨b, off + q * 2, none⟩ (.int .i64 m)) b off ((mixW k K q).set q (m, K[q].2)) Fs := by
          refine HEr.out.put Hn.out (vs := [.int .i64 m] ++ [.slice ai K[q].2.length ci]) (List.getElem?_eq_getElem hFl) (by rw [length_mixW _ _ hq]; exact hqt) (fun x hx => Below.heap_setCell _ _ _ _ hx) ⟨_, _, [], _, rfl, rfl, ⟨rfl, hmi, rfl⟩, ai, ci, rfl, ho, hGe⟩ (fun j c hj => ?_) (fun i' j hi' hj => World.cell?_setCell_other _ _ _ _ (fun e => by
            have h7 := (Addr.mk.inj e).2.1
            rw [en] at h7 hj
            omega))
          rw [en]
          match j, hj with
          | 0, hj => cases hj; exact hcu
          | 1, hj => cases hj; exact hcr
        have HEp := Lib.hid hEp
        have Hfp := Lib.hid (Hfr.out.setCell ⟨b, off + q * 2, none⟩ (.int .i64 m))
        have HCp := Lib.hid (HCr.out.trans ((ChgF.setCell wr ⟨b, off + q * 2, none⟩ (.int .i64 m)).wide (G := b :: Fs.flatten) fun x hx => by rw [List.mem_singleton.1 hx]; simp))
        have ho' : IntsO (wr.setCell ⟨b, off + q * 2, none⟩ (.int .i64 m)) 0 2 (.slice ai K[q].2.length ci) K[q].2 := ⟨ho.1, ho.2.1, owns_same ho.2.2 fun x hx => Below.heap_setCell _ _ _ _ (fun e => hbF (by rw [hGe, hx]; simp [e]))⟩
        have hbp : b < (wr.setCell ⟨b, off + q * 2, none⟩ (.int .i64 m)).heap.size := by simp [World.setCell]; exact hb
        have Ho := Lib.hid ho'
        have HGe := Lib.hid hGe
        have Hbp := Lib.hid hbp
        have Hcu := Lib.hid hcu
        have Hcr := Lib.hid hcr
        have HbF := Lib.hid hbF
        clear hm ht hle ho ho' hGe hcs hEp hcu hbp hbF hia
        go_wp2_with fail
        refine (c_laws_markInt64S ai ci 0 K[q].2 (m + 1) _ Ho.out (by omega) hm1 hr).mono ?_
        rintro e w2 ⟨rfl, ho2, hg2, hz2⟩
        have hchg : ChgF (wr.setCell ⟨b, off + q * 2, none⟩ (.int .i64 m)) w2 Fs[q] := by rw [HGe.out]; exact ChgF.of_grown hg2
        have hrd : (pairE numE (ownI 2)).rd w2 (m, seqI (m + 1) K[q].2.length) ([.int .i64 m] ++ [.slice ai K[q].2.length ci]) Fs[q] := ⟨_, _, [], Fs[q], rfl, rfl, ⟨rfl, hmi, rfl⟩, ai, ci, by rw [length_seqI], by rw [length_seqI]; exact ho2, by rw [length_seqI]; exact HGe.out⟩
        have hsub := HEp.out.sub Hn.out (List.getElem?_eq_getElem hFl) (by rw [List.length_set, length_mixW _ _ hq]; exact hqt) hrd (fun j c hj => by
          rw [en]
          match j, hj with
          | 0, hj => cases hj; exact Hcu.out
          | 1, hj => cases hj; exact Hcr.out) Hbp.out hchg
        rw [List.set_set] at hsub
        have HE2 := Lib.hid hsub
        have Hf2 := Lib.hid (Hfp.out.chg hchg (by rw [HGe.out]; exact owns_free ho2.2.2))
        have HC2 := Lib.hid (HCp.out.trans (hchg.wide (G := b :: Fs.flatten) fun x hx => List.mem_cons_of_mem _ (List.mem_flatten.2 ⟨Fs[q], List.getElem_mem hFl, hx⟩)))
        have hb2 : b < w2.heap.size := by rw [hz2]; exact Hbp.out
        clear hchg hrd ho2 hg2 hz2 hsub
        go_wp2_with fail
        go_roundw
        case rel => exact ⟨q + 1, by omega, by go_num, by have := Ht.out; have := Hm.out; congr 1; omega, by rw [← mixW_succ hqt, Hm.out]; exact HE2.out, Hf2.out, HC2.out, hb2⟩
        case measure => simp [intOf]; omega
      · obtain rfl : q = K.length := by omega
        rw [List.take_length]
        go_wp2_with fail
        go_ret
        refine ⟨rfl, ⟨_, cap, by rw [length_mkWrites], by rw [length_mkWrites]; exact H1.out, h2, .inr ⟨b, off, Fs, rfl, hb, rfl, ?_⟩⟩, Hfr.out, HCr.out⟩
        have h9 := HEr.out
        rw [mixW_all] at h9
        exact h9
section
variable {α β : Type} {A : En α} {B : En β} {w w2 w3 : World} {x x' : α} {y y' : β} {va vb : List Value} {Fa Fb : List Nat}
theorem ChgF.keepRd (hc : ChgF w w2 Fa) (hy : B.rd w y vb Fb) (hnd : (Fa ++ Fb).Nodup) : B.rd w2 y vb Fb :=
  B.keep hy fun b hb => hc.block b (B.lt hy b hb) fun ha => (List.nodup_append.1 hnd).2.2 b ha b hb rfl
theorem Marked.pair (hnd : (Fa ++ Fb).Nodup) (h1 : Marked A w x' va Fa w2) (h2 : Marked B w2 y' vb Fb w3) : Marked (pairE A B) w (x', y') (va ++ vb) (Fa ++ Fb) w3 := by
  obtain ⟨a1, a2, a3⟩ := h1
  obtain ⟨b1, b2, b3⟩ := h2
  have hnd2 : (Fb ++ Fa).Nodup := List.perm_append_comm.nodup_iff.1 hnd
  have hab : ChgF w w3 (Fa ++ Fb) := (a3.wide fun k hk => List.mem_append_left _ hk).trans (b3.wide fun k hk => List.mem_append_right _ hk)
  refine ⟨⟨va, vb, Fa, Fb, rfl, rfl, b3.keepRd a1 hnd2, b1⟩, fun b hb => ?_, hab⟩
  rcases List.mem_append.1 hb with hb | hb
  · by_cases hbb : b ∈ Fb
    · exact b2 b hbb
    · obtain ⟨cur, e, h9⟩ := a2 b hb
      exact ⟨cur, e, by rw [b3.block b (Array.getElem?_eq_some_iff.1 h9).1 hbb]; exact h9⟩
  · exact b2 b hb
theorem pair_open (h : (pairE A B).rd w (x, y) (va ++ vb) Fa) (hl : va.length = A.n) : ∃ F G, Fa = F ++ G ∧ A.rd w x va F ∧ B.rd w y vb G := by
  obtain ⟨ua, ub, F, G, h1, h2, h3, h4⟩ := h
  have hla := A.len h3
  obtain ⟨rfl, rfl⟩ := List.append_inj h1 (by omega)
  exact ⟨F, G, h2, h3, h4⟩
theorem Marked.of_below {B' : World} (h : Below B'.heap.size B' w) (hm : Marked A w x' va Fa w2) : Marked A B' x' va Fa w2 := ⟨hm.1, hm.2.1, (ChgF.of_below h).trans hm.2.2⟩
end
def mkDisk (k : Int) (d : List (List Int) × List (Int × List Int)) : List (List Int) × List (Int × List Int) := (mkRows k d.1, mkWrites (k + lenSum d.1) d.2)
def mkSum (d : List (List Int) × List (Int × List Int)) : Nat := lenSum d.1 + szW d.2
theorem c_markDisk (ak aw : Option Addr) (ck cw : Nat) (d : List (List Int) × List (Int × List Int)) (F : List Nat) (k : Int) (w : World) (h : diskO.rd w d [.slice ak d.1.length ck, .slice aw d.2.length cw] F) (hn : F.Nodup) (hf : Free w F) (hk : 0 ≤ k) (hk2 : k + mkSum d ≤ 1099511627776) (hI : DiskIn d) :
    Calls Try.prog 42 #[.agg #[.slice ak d.1.length ck, .slice aw d.2.length cw], .int .i64 k] w fun e w' => e = .returned (.int .i64 (k + mkSum d)) ∧ Marked diskO w (mkDisk k d) [.slice ak d.1.length ck, .slice aw d.2.length cw] F w' := by
  obtain ⟨K, W⟩ := d
  simp only at *
  obtain ⟨Fa, Fb, rfl, hK, hW⟩ := pair_open (A := rowsO) (B := writesO) (va := [.slice ak K.length ck]) (vb := [.slice aw W.length cw]) h rfl
  have hb0 : Below w.heap.size w (w.alloc (.cells #[.slice ak K.length ck, .slice aw W.length cw] 35)) := (Below.refl _ _).alloc (Nat.le_refl _) _
  have hltF := diskO.lt h
  have hks : (mkSum (K, W) : Int) = lenSum K + szW W := by simp [mkSum]
  have hf0 := hf.keep fun b hb => hb0.block b (hltF b hb)
  have hK0 := En.below hK hb0
  have hW0 := En.below hW hb0
  have hfa : Free (w.alloc (.cells #[.slice ak K.length ck, .slice aw W.length cw] 35)) Fa := fun b hb => hf0 b (List.mem_append_left _ hb)
  have hna := (List.nodup_append.1 hn).1
  have hnb := (List.nodup_append.1 hn).2.1
  have hnot : w.heap.size ∉ Fa := fun hm => by have := hltF _ (List.mem_append_left _ hm); omega
  have HK := Lib.hid hK0
  have HW := Lib.hid hW0
  have Hf := Lib.hid hf0
  have Hfa := Lib.hid hfa
  have Hn := Lib.hid hn
  clear h hf hK hW hK0 hW0 hf0 hfa hn hltF
  go_enter Try.func42, Try.ntmps42
  go_wp2_with fail
  refine (c_markRows ak ck K Fa k _ HK.out hna Hfa.out hk (by omega) hI.1).mono ?_
  rintro e w2 ⟨rfl, hM1⟩
  have hz := hM1.2.2.size
  simp only [World.size_alloc] at hz
  have hcb : ∀ o, w2.cell? ⟨w.heap.size, o, none⟩ = (w.alloc (.cells #[.slice ak K.length ck, .slice aw W.length cw] 35)).cell? ⟨w.heap.size, o, none⟩ := fun o => World.cell?_of_block (a := ⟨w.heap.size, o, none⟩) (hM1.2.2.block w.heap.size (by simp) hnot)
  have HM1 := Lib.hid hM1
  clear hM1
  go_wp2_with fail
  refine (c_markWrites aw cw W Fb (k + lenSum K) w2 (HM1.out.2.2.keepRd HW.out Hn.out) hnb (fun b hb => ?_) (by omega) (by omega) hI.2.2.1).mono ?_
  · obtain ⟨cur, e, h9⟩ := Hf.out b (List.mem_append_right _ hb)
    exact ⟨cur, e, by rw [HM1.out.2.2.block b (Array.getElem?_eq_some_iff.1 h9).1 (fun ha => (List.nodup_append.1 Hn.out).2.2 b ha b hb rfl)]; exact h9⟩
  · rintro e w3 ⟨rfl, hM2⟩
    have HM2 := Lib.hid hM2
    clear hM2
    go_wp2_with fail
    go_ret
    exact ⟨by show Ending.returned (Value.int .i64 (k + lenSum K + szW W)) = _; rw [hks, Int.add_assoc], Marked.of_below hb0 (Marked.pair Hn.out HM1.out HM2.out)⟩
theorem c_markTwo (ak aw bk bw : Option Addr) (ck cw dk dw : Nat) (d e : List (List Int) × List (Int × List Int)) (F : List Nat) (k : Int) (w : World) (h : twoO.rd w (d, e) [.slice ak d.1.length ck, .slice aw d.2.length cw, .slice bk e.1.length dk, .slice bw e.2.length dw] F) (hn : F.Nodup) (hf : Free w F) (hk : 0 ≤ k) (hk2 : k + (mkSum d + mkSum e : Nat) ≤ 1099511627776) (hI : DiskIn d) (hJ : DiskIn e) :
    Calls Try.prog 13 #[.agg #[.slice ak d.1.length ck, .slice aw d.2.length cw, .slice bk e.1.length dk, .slice bw e.2.length dw], .int .i64 k] w fun en w' => en = .returned (.int .i64 (k + (mkSum d + mkSum e : Nat))) ∧ Marked twoO w (mkDisk k d, mkDisk (k + mkSum d) e) [.slice ak d.1.length ck, .slice aw d.2.length cw, .slice bk e.1.length dk, .slice bw e.2.length dw] F w' := by
  obtain ⟨Fa, Fb, rfl, hK, hW⟩ := pair_open (A := diskO) (B := diskO) (va := [.slice ak d.1.length ck, .slice aw d.2.length cw]) (vb := [.slice bk e.1.length dk, .slice bw e.2.length dw]) h rfl
  have hb0 : Below w.heap.size w (w.alloc (.cells #[.slice ak d.1.length ck, .slice aw d.2.length cw, .slice bk e.1.length dk, .slice bw e.2.length dw] 37)) := (Below.refl _ _).alloc (Nat.le_refl _) _
  have hltF := twoO.lt h
  have hks : ((mkSum d + mkSum e : Nat) : Int) = mkSum d + mkSum e := by simp
  have hf0 := hf.keep fun b hb => hb0.block b (hltF b hb)
  have hK0 := En.below hK hb0
  have hW0 := En.below hW hb0
  have hfa : Free (w.alloc (.cells #[.slice ak d.1.length ck, .slice aw d.2.length cw, .slice bk e.1.length dk, .slice bw e.2.length dw] 37)) Fa := fun b hb => hf0 b (List.mem_append_left _ hb)
  have hna := (List.nodup_append.1 hn).1
  have hnb := (List.nodup_append.1 hn).2.1
  have hnot : w.heap.size ∉ Fa := fun hm => by have := hltF _ (List.mem_append_left _ hm); omega
  have HK := Lib.hid hK0
  have HW := Lib.hid hW0
  have Hf := Lib.hid hf0
  have Hfa := Lib.hid hfa
  have Hn := Lib.hid hn
  clear h hf hK hW hK0 hW0 hf0 hfa hn hltF
  go_enter Try.func13, Try.ntmps13
  go_wp2_with fail
  refine (c_markDisk ak aw ck cw d Fa k _ HK.out hna Hfa.out hk (by omega) hI).mono ?_
  rintro en w2 ⟨rfl, hM1⟩
  have hz := hM1.2.2.size
  simp only [World.size_alloc] at hz
  have hcb : ∀ o, w2.cell? ⟨w.heap.size, o, none⟩ = (w.alloc (.cells #[.slice ak d.1.length ck, .slice aw d.2.length cw, .slice bk e.1.length dk, .slice bw e.2.length dw] 37)).cell? ⟨w.heap.size, o, none⟩ := fun o => World.cell?_of_block (a := ⟨w.heap.size, o, none⟩) (hM1.2.2.block w.heap.size (by simp) hnot)
  have HM1 := Lib.hid hM1
  clear hM1
  go_wp2_with fail
  refine (c_markDisk bk bw dk dw e Fb (k + mkSum d) w2 (HM1.out.2.2.keepRd HW.out Hn.out) hnb (fun b hb => ?_) (by omega) (by omega) hJ).mono ?_
  · obtain ⟨cur, ty, h9⟩ := Hf.out b (List.mem_append_right _ hb)
    exact ⟨cur, ty, by rw [HM1.out.2.2.block b (Array.getElem?_eq_some_iff.1 h9).1 (fun ha => (List.nodup_append.1 Hn.out).2.2 b ha b hb rfl)]; exact h9⟩
  · rintro en w3 ⟨rfl, hM2⟩
    have HM2 := Lib.hid hM2
    clear hM2
    go_wp2_with fail
    go_ret
    exact ⟨by show Ending.returned (Value.int .i64 (k + mkSum d + mkSum e)) = _; rw [hks, Int.add_assoc], Marked.of_below hb0 (Marked.pair Hn.out HM1.out HM2.out)⟩
end Go.Proofs.Ytmjafclpeknpcaa
