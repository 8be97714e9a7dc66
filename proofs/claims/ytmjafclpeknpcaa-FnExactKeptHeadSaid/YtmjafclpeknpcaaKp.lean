/- What lies in the blocks from lo to hi stays as it is: carried over calls and over writes elsewhere. -/
import Derived.Test.YtmjafclpeknpcaaNTwo
import Derived.Test.YtmjafclpeknpcaaTakeK
import Derived.Test.YtmjafclpeknpcaaRowsCut
import Derived.Test.YtmjafclpeknpcaaNMark
namespace Go.Proofs.Ytmjafclpeknpcaa
open Go.ChangeShapes Go.WideShapes Go.ChangeAt Go.RowKit Go.Deep
structure Kp (lo hi : Nat) (w w' : World) : Prop where
  size : w.heap.size ≤ w'.heap.size
  block : ∀ k, lo ≤ k → k < hi → w'.heap[k]? = w.heap[k]?
theorem kp_refl {lo hi : Nat} {w : World} : Kp lo hi w w := ⟨Nat.le_refl _, fun _ _ _ => rfl⟩
theorem kp_step {lo hi : Nat} {a b c : World} (k : Below b.heap.size b c) (hB : hi ≤ b.heap.size) (h : Kp lo hi a b) : Kp lo hi a c :=
  ⟨Nat.le_trans h.size k.size, fun i h1 h2 => (k.block i (by omega)).trans (h.block i h1 h2)⟩
theorem kp_alloc {lo hi : Nat} {a w : World} {o : Obj} (hB : hi ≤ w.heap.size) (h : Kp lo hi a w) : Kp lo hi a (w.alloc o) :=
  kp_step ((Below.refl _ _).alloc (Nat.le_refl _) o) hB h
theorem kp_set {lo hi : Nat} {a w : World} {p : Addr} {u : Value} (hp : p.block < lo ∨ hi ≤ p.block) (h : Kp lo hi a w) : Kp lo hi a (w.setCell p u) :=
  ⟨by simpa [World.setCell] using h.size, fun k h1 h2 => (Below.heap_setCell w p u k (by omega)).trans (h.block k h1 h2)⟩
theorem kp_drew {lo hi : Nat} {a w : World} (h : Kp lo hi a w) : Kp lo hi a w.drew := ⟨h.size, h.block⟩
theorem kp_drewN {lo hi n : Nat} {a w : World} (h : Kp lo hi a w) : Kp lo hi a (w.drewN n) := by
  have := below_drewN (Below.refl w.heap.size w) n
  exact ⟨Nat.le_trans h.size this.size, fun k h1 h2 => by
    by_cases hk : k < w.heap.size
    · exact (this.block k hk).trans (h.block k h1 h2)
    · rw [← h.block k h1 h2, World.drewN]⟩
theorem kp_grown {lo hi : Nat} {a b c : World} {row : Option Nat} (hg : b.grownBy c row) (hB : hi ≤ b.heap.size) (hr : ∀ k, row = some k → k < lo ∨ hi ≤ k) (h : Kp lo hi a b) : Kp lo hi a c :=
  ⟨Nat.le_trans h.size hg.size, fun i h1 h2 => (hg.block i (by omega) (fun e => by have := hr i e.symm; omega)).trans (h.block i h1 h2)⟩
theorem kp_of_below {B lo hi : Nat} {w w' : World} (h : Below B w w') (hs : hi ≤ B) : Kp lo hi w w' := ⟨h.size, fun k _ h2 => h.block k (by omega)⟩
section
variable {α : Type} {w w' : World} {lo hi : Nat}
theorem Sp.kp {A : En α} {x : α} {vs : List Value} (h : Sp A w lo hi x vs) (k : Kp lo hi w w') : Sp A w' lo hi x vs := by
  obtain ⟨F, h1, h2, h3, h4⟩ := h
  have hk : ∀ b ∈ F, w'.heap[b]? = w.heap[b]? := fun b hb => k.block b (h3 b hb).1 (h3 b hb).2
  exact ⟨F, A.keep h1 hk, h2, h3, h4.keep hk⟩
theorem owns_kp {ty n m : Nat} {v : Value} {xs : List Value} (h : w.ownsRow lo ty n v m xs) (k : Kp lo w.heap.size w w') : w'.ownsRow lo ty n v m xs :=
  owns_same h fun b hb => k.block b (h.lt b hb).1 (h.lt b hb).2
theorem IntsO.kp {ty : Nat} {v : Value} {l : List Int} (h : IntsO w lo ty v l) (k : Kp lo w.heap.size w w') : IntsO w' lo ty v l := ⟨h.1, h.2.1, owns_kp h.2.2 k⟩
theorem OwnA.kp {E : Enc α} {ty : Nat} {v : Value} {l : List α} (h : OwnA E w lo ty v l) (k : Kp lo w.heap.size w w') : OwnA E w' lo ty v l := ⟨h.1, h.2.1, owns_kp h.2.2 k⟩
theorem Bx.kp {b : Nat} {L : List Value} (h : Bx w b L) (k : Kp b (b + 1) w w') : Bx w' b L :=
  ⟨Nat.lt_of_lt_of_le h.1 k.size, fun o => by
    have := k.block b (Nat.le_refl _) (Nat.lt_succ_self _)
    rw [← h.2 o]; unfold World.cell?; rw [this]⟩
theorem sp_of_ints {ty cap : Nat} {ao : Option Addr} {l : List Int} (h : IntsO w lo ty (.slice ao l.length cap) l) : Sp (ownI ty) w lo w.heap.size l [.slice ao l.length cap] := sp_ints h
theorem ints_some {ty cap : Nat} {ao : Option Addr} {l : List Int} (h : IntsO w lo ty (.slice ao l.length cap) l) (hn : l.length ≠ 0) : ∃ g, ao = some ⟨g, 0, none⟩ := by
  rcases h.2.2.2 with ⟨_, h5⟩ | ⟨g, cap', cur, h4, _⟩
  · exact absurd h5 hn
  · simp only [Value.slice.injEq] at h4
    exact ⟨g, h4.1⟩
end
/-! what is read of values of one's own -/
section
variable {w : World} {lo hi : Nat}
theorem rd_own_ints {ty : Nat} {l : List Int} {vs : List Value} {G : List Nat} (h : (ownI ty).rd w l vs G) : ∃ G', intsN.rd w l vs G' := by
  obtain ⟨ao, cap, rfl, ho, _⟩ := h
  have h2 := ho.read
  have hc : l.length ≤ cap ∧ cap ≤ maxLen := by
    rcases ho.2.2.2 with ⟨h4, h5⟩ | ⟨g, cap', cur, h4, _, _, hnc, hcm, _⟩
    · simp only [Value.slice.injEq] at h4
      unfold maxLen
      omega
    · simp only [Value.slice.injEq] at h4
      omega
  rcases h2.2.2 with h3 | ⟨b, off, rfl, hb, hcell⟩
  · exact ⟨[], ao, cap, rfl, hc.1, hc.2, .inl ⟨h3, rfl⟩⟩
  · refine ⟨_, _, cap, rfl, hc.1, hc.2, .inr ⟨b, off, List.replicate l.length [], rfl, hb, rfl, by simp, fun i x G e1 e2 => ?_⟩⟩
    have e3 : G = [] := by
      have := List.mem_of_getElem? e2
      exact (List.mem_replicate.1 this).2
    subst e3
    refine ⟨[.int .i64 x], ⟨rfl, h2.1 x (List.mem_of_getElem? e1), rfl⟩, fun j c hj => ?_⟩
    have hj0 : j = 0 := by have := (List.getElem?_eq_some_iff.1 hj).1; simpa using this
    subst hj0
    simp only [List.getElem?_cons_zero, Option.some.injEq] at hj
    subst hj
    have := hcell i x e1
    simpa [numE] using this
theorem rd_own_write {ty : Nat} {x : Int × List Int} {vs : List Value} {G : List Nat} (h : (pairE numE (ownI ty)).rd w x vs G) : ∃ G', writeN.rd w x vs G' := by
  obtain ⟨va, vb, Fa, Fb, rfl, rfl, h1, h2⟩ := h
  obtain ⟨G', h3⟩ := rd_own_ints h2
  exact ⟨_, va, vb, Fa, G', rfl, rfl, h1, h3⟩
theorem rd_own_disk {d : List (List Int) × List (Int × List Int)} {vs : List Value} (h : Rd diskO w d vs) : Rd diskN w d vs := by
  obtain ⟨F, va, vb, Fa, Fb, rfl, rfl, h1, h2⟩ := h
  exact Rd.pair (Rd.listMono (A := ownI 2) (B := intsN) rfl (fun h => rd_own_ints h) ⟨_, h1⟩) (Rd.listMono (A := pairE numE (ownI 2)) (B := writeN) rfl (fun h => rd_own_write h) ⟨_, h2⟩)
theorem diskR_of {d : List (List Int) × List (Int × List Int)} {a b : Option Addr} {n m c1 c2 : Nat} (h : Rd diskN w d [.slice a n c1, .slice b m c2]) : DiskR w a b d := by
  obtain ⟨F, va, vb, Fa, Fb, hv, rfl, h1, h2⟩ := h
  have l1 := rowsN.len h1
  have l2 := writesN.len h2
  obtain ⟨x, rfl⟩ : ∃ x, va = [x] := by
    match va, l1 with
    | [x], _ => exact ⟨x, rfl⟩
  obtain ⟨y, rfl⟩ : ∃ x, vb = [x] := by
    match vb, l2 with
    | [x], _ => exact ⟨x, rfl⟩
  simp only [List.cons_append, List.nil_append, List.cons.injEq, and_true] at hv
  obtain ⟨rfl, rfl⟩ := hv
  obtain ⟨a', c', e, h3, _⟩ := rd_rows ⟨_, h1⟩
  obtain ⟨a2, c2', e2, h4, _⟩ := rd_writes ⟨_, h2⟩
  simp only [Value.slice.injEq] at e e2
  obtain ⟨rfl, _⟩ := e
  obtain ⟨rfl, _⟩ := e2
  exact ⟨h3, h4⟩
theorem Sp.diskR {d : List (List Int) × List (Int × List Int)} {a b : Option Addr} {n m c1 c2 : Nat} (h : Sp diskO w lo hi d [.slice a n c1, .slice b m c2]) : DiskR w a b d := diskR_of (rd_own_disk h.rd)
theorem Sp.fst {α β : Type} {A : En α} {B : En β} {x : α} {y : β} {va vb : List Value} (hl : va.length = A.n) (h : Sp (pairE A B) w lo hi (x, y) (va ++ vb)) : Sp A w lo hi x va := by
  obtain ⟨F, h1, h2, h3, h4⟩ := h
  obtain ⟨G, H, rfl, k1, k2⟩ := pair_open h1 hl
  exact ⟨G, k1, (List.nodup_append.1 h2).1, fun b hb => h3 b (List.mem_append_left _ hb), fun b hb => h4 b (List.mem_append_left _ hb)⟩
theorem Sp.snd {α β : Type} {A : En α} {B : En β} {x : α} {y : β} {va vb : List Value} (hl : va.length = A.n) (h : Sp (pairE A B) w lo hi (x, y) (va ++ vb)) : Sp B w lo hi y vb := by
  obtain ⟨F, h1, h2, h3, h4⟩ := h
  obtain ⟨G, H, rfl, k1, k2⟩ := pair_open h1 hl
  exact ⟨H, k2, (List.nodup_append.1 h2).2.1, fun b hb => h3 b (List.mem_append_right _ hb), fun b hb => h4 b (List.mem_append_right _ hb)⟩
end
end Go.Proofs.Ytmjafclpeknpcaa
