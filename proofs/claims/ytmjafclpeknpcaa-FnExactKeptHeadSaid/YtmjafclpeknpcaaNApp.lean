/- One element more, by append: an element that holds slices of its own. -/
import Derived.Test.YtmjafclpeknpcaaKp
import Derived.Test.YtmjafclpeknpcaaNestPre
import Derived.Maps.AppendAt
namespace Go.Proofs.Ytmjafclpeknpcaa
open Go.ChangeShapes Go.WideShapes Go.ChangeAt Go.RowKit Go.Deep
section
variable {α ρ : Type} {A : En α} {E : Enc ρ} {P : Program} {w0 w : World} {ops : Array Oper} {rest : List Oper} {o : Oper} {a : Act} {K : Act → World → Prop} {Q : Exit → Act → World → Prop}
theorem run_append_nest (t ty lo e : Nat) (i : TypeInfo) (z : Value) (bytes : Nat) (ht : P.underlying t = some (.slice e)) (hi : P.info? e = some i) (hz : i.zero = some z) (hsize : i.size = E.n) (hby : i.bytes = bytes) (hzs : z.cells.size = E.n) (hb128 : bytes ≤ 128)
    (hone : ∀ d : ρ, ∀ u ∈ E.cells d, u.oneCell' = true)
    {ao : Option Addr} {cap : Nat} {l : List α} {rs : List ρ} {Fs : List (List Nat)} {x : α} {r : ρ} {ad : Addr} {c : Nat}
    (h : Nest A E w0 lo e (.slice ao l.length cap) l rs Fs) (hb : Below w0.heap.size w0 w) (hx : Sp A w w0.heap.size w.heap.size x (E.cells r)) (hok : E.ok r) (hlo : lo ≤ w0.heap.size)
    (hc : ∀ j u, (E.cells r)[j]? = some u → w.cell? (ad.add j) = some u) (hlen : l.length ≤ 1099511627775) :
    ∃ ao' cap' w', (Builtin.append_ #[t, t] ty #[.slice ao l.length cap, .slice (some ad) 1 c]).run P w = .ok (.slice ao' (l.length + 1) cap') w' ∧ (∃ G, Nest A E w' lo e (.slice ao' (l.length + 1) cap') (l ++ [x]) (rs ++ [r]) (Fs ++ [G]) ∧ ∀ b ∈ (Value.slice ao' (l.length + 1) cap').ownBlock.toList ++ (Fs ++ [G]).flatten, b ∈ (Value.slice ao l.length cap).ownBlock.toList ++ Fs.flatten ∨ w0.heap.size ≤ b) ∧ w.grownBy w' (Value.ownBlock (.slice ao l.length cap)) := by
  have hl := h.len
  have hown := (h.own.below hb).2.2
  rw [hl] at hown
  obtain ⟨v', w', hr, h2, h3, _, h5⟩ := run_append_own_at (P := P) w lo t ty e i z E.n bytes ht hi hz hsize hby hzs E.pos _ _ _ hown ad 1 c (E.cells r) (by rw [E.len, Nat.one_mul]) hc (hone r) (by unfold maxLen; omega) (Nat.le_trans (Nat.mul_le_mul (show l.length + 1 ≤ 1099511627776 by omega) hb128) (by decide)) (Nat.le_trans hlo hb.size)
  obtain ⟨ao', cap', rfl⟩ := owns_form h2
  refine ⟨ao', cap', w', hr, ?_, h3⟩
  have ho : OwnA E w' lo e (.slice ao' (l.length + 1) cap') (rs ++ [r]) := by
    refine ⟨fun y hy => ?_, by simp; omega, ?_⟩
    · rcases List.mem_append.1 hy with hy | hy
      · exact h.own.1 y hy
      · rw [List.mem_singleton.1 hy]; exact hok
    · have e1 : (rs ++ [r]).length = l.length + 1 := by simp [hl]
      have e2 : (rs ++ [r]).flatMap E.cells = rs.flatMap E.cells ++ E.cells r := by simp
      rw [e1, e2]
      exact h2
  obtain ⟨G, k1, k2⟩ := h.push hb hx hlo ho h3 h5
  refine ⟨G, k1, fun b hb2 => ?_⟩
  have hsz := hb.size
  rw [List.flatten_append, List.flatten_cons, List.flatten_nil, List.append_nil] at hb2
  rcases List.mem_append.1 hb2 with hb2 | hb2
  · rcases h5 with e | e
    · rw [e] at hb2; exact .inl (List.mem_append_left _ hb2)
    · rw [e] at hb2
      simp only [Option.toList_some, List.mem_singleton] at hb2
      exact .inr (by omega)
  · rcases List.mem_append.1 hb2 with hb2 | hb2
    · exact .inl (List.mem_append_right _ hb2)
    · exact .inr (k2 b hb2)
/-- as one operation -/
theorem wpo_append_nest (s y : Operand) (t : TypeId) (ho : o.op = .call { callee := .builtin .append, args := #[s, y], argTypes := #[t, t] })
    (lo e : Nat) (i : TypeInfo) (z : Value) (bytes : Nat) (ht : P.underlying t = some (.slice e)) (hi : P.info? e = some i) (hz : i.zero = some z) (hsize : i.size = E.n) (hby : i.bytes = bytes) (hzs : z.cells.size = E.n) (hb128 : bytes ≤ 128)
    (hone : ∀ d : ρ, ∀ u ∈ E.cells d, u.oneCell' = true)
    {ao : Option Addr} {cap : Nat} {l : List α} {rs : List ρ} {Fs : List (List Nat)} {x : α} {r : ρ} {ad : Addr} {c n : Nat}
    (hs : a.eval s = .slice ao n cap) (hn : n = l.length) (hy : a.eval y = .slice (some ad) 1 c)
    (h : Nest A E w0 lo e (.slice ao l.length cap) l rs Fs) (hb : Below w0.heap.size w0 w) (hx : Sp A w w0.heap.size w.heap.size x (E.cells r)) (hok : E.ok r) (hlo : lo ≤ w0.heap.size)
    (hc : ∀ j u, (E.cells r)[j]? = some u → w.cell? (ad.add j) = some u) (hlen : l.length ≤ 1099511627775)
    (hK : ∀ ao' cap' w', (∃ G, Nest A E w' lo e (.slice ao' (l.length + 1) cap') (l ++ [x]) (rs ++ [r]) (Fs ++ [G])) → w.grownBy w' (Value.ownBlock (.slice ao l.length cap)) → K (a.put o.dst (.slice ao' (n + 1) cap')) w') : Oper.wp P o a w K Q := by
  subst hn
  obtain ⟨ao', cap', w', hr, h2, h3⟩ := run_append_nest (P := P) t o.type lo e i z bytes ht hi hz hsize hby hzs hb128 hone (c := c) h hb hx hok hlo hc hlen
  unfold Oper.wp execOp
  simp only [ho, resolve, invoke, builtin, Sem.run_bind, Sem.run_pure, Result.andThen_ok, List.map_toArray, List.map_cons, List.map_nil, hs, hy, hr]
  exact hK ao' cap' w' (h2.imp fun _ h => h.1) h3
/-- as one operation; with where the blocks lie -/
theorem wpo_append_nestG (s y : Operand) (t : TypeId) (ho : o.op = .call { callee := .builtin .append, args := #[s, y], argTypes := #[t, t] })
    (lo e : Nat) (i : TypeInfo) (z : Value) (bytes : Nat) (ht : P.underlying t = some (.slice e)) (hi : P.info? e = some i) (hz : i.zero = some z) (hsize : i.size = E.n) (hby : i.bytes = bytes) (hzs : z.cells.size = E.n) (hb128 : bytes ≤ 128)
    (hone : ∀ d : ρ, ∀ u ∈ E.cells d, u.oneCell' = true)
    {ao : Option Addr} {cap : Nat} {l : List α} {rs : List ρ} {Fs : List (List Nat)} {x : α} {r : ρ} {ad : Addr} {c n : Nat}
    (hs : a.eval s = .slice ao n cap) (hn : n = l.length) (hy : a.eval y = .slice (some ad) 1 c)
    (h : Nest A E w0 lo e (.slice ao l.length cap) l rs Fs) (hb : Below w0.heap.size w0 w) (hx : Sp A w w0.heap.size w.heap.size x (E.cells r)) (hok : E.ok r) (hlo : lo ≤ w0.heap.size)
    (hc : ∀ j u, (E.cells r)[j]? = some u → w.cell? (ad.add j) = some u) (hlen : l.length ≤ 1099511627775)
    (hK : ∀ ao' cap' w', (∃ G, Nest A E w' lo e (.slice ao' (l.length + 1) cap') (l ++ [x]) (rs ++ [r]) (Fs ++ [G]) ∧ ∀ b ∈ (Value.slice ao' (l.length + 1) cap').ownBlock.toList ++ (Fs ++ [G]).flatten, b ∈ (Value.slice ao l.length cap).ownBlock.toList ++ Fs.flatten ∨ w0.heap.size ≤ b) → w.grownBy w' (Value.ownBlock (.slice ao l.length cap)) → K (a.put o.dst (.slice ao' (n + 1) cap')) w') : Oper.wp P o a w K Q := by
  subst hn
  obtain ⟨ao', cap', w', hr, h2, h3⟩ := run_append_nest (P := P) t o.type lo e i z bytes ht hi hz hsize hby hzs hb128 hone (c := c) h hb hx hok hlo hc hlen
  unfold Oper.wp execOp
  simp only [ho, resolve, invoke, builtin, Sem.run_bind, Sem.run_pure, Result.andThen_ok, List.map_toArray, List.map_cons, List.map_nil, hs, hy, hr]
  exact hK ao' cap' w' h2 h3
theorem wpList_append_nest (hgd : o.guard = none) (s y : Operand) (t : TypeId) (ho : o.op = .call { callee := .builtin .append, args := #[s, y], argTypes := #[t, t] })
    (lo e : Nat) (i : TypeInfo) (z : Value) (bytes : Nat) (ht : P.underlying t = some (.slice e)) (hi : P.info? e = some i) (hz : i.zero = some z) (hsize : i.size = E.n) (hby : i.bytes = bytes) (hzs : z.cells.size = E.n) (hb128 : bytes ≤ 128)
    (hone : ∀ d : ρ, ∀ u ∈ E.cells d, u.oneCell' = true)
    {ao : Option Addr} {cap : Nat} {l : List α} {rs : List ρ} {Fs : List (List Nat)} {x : α} {r : ρ} {ad : Addr} {c n : Nat}
    (hs : a.eval s = .slice ao n cap) (hn : n = l.length) (hy : a.eval y = .slice (some ad) 1 c)
    (h : Nest A E w0 lo e (.slice ao l.length cap) l rs Fs) (hb : Below w0.heap.size w0 w) (hx : Sp A w w0.heap.size w.heap.size x (E.cells r)) (hok : E.ok r) (hlo : lo ≤ w0.heap.size)
    (hc : ∀ j u, (E.cells r)[j]? = some u → w.cell? (ad.add j) = some u) (hlen : l.length ≤ 1099511627775)
    (hK : ∀ ao' cap' w', (∃ G, Nest A E w' lo e (.slice ao' (l.length + 1) cap') (l ++ [x]) (rs ++ [r]) (Fs ++ [G])) → w.grownBy w' (Value.ownBlock (.slice ao l.length cap)) → wpList P ops Q rest (a.put o.dst (.slice ao' (n + 1) cap')) w') : wpList P ops Q (o :: rest) a w := by
  refine wpList_plain hgd fun K hK' => ?_
  exact wpo_append_nest s y t ho lo e i z bytes ht hi hz hsize hby hzs hb128 hone hs hn hy h hb hx hok hlo hc hlen fun a' c' w' h2 h3 => hK' _ _ (hK a' c' w' h2 h3)
theorem lit_cells {w : World} {L : List Value} {ty : TypeId} : ∀ j u, L[j]? = some u → (w.alloc (.cells L.toArray ty)).cell? ((Addr.mk w.heap.size 0 none).add j) = some u := fun j u hu => by
  rw [Addr.add_lit, Nat.zero_add, World.cell?_alloc_new]
  simpa using hu
theorem Nest.start {lo ty g cap : Nat} (h : w.ownsRow lo ty E.n (.slice (some ⟨g, 0, none⟩) 0 cap) 0 []) : Nest A E w lo ty (.slice (some ⟨g, 0, none⟩) 0 cap) [] [] [] :=
  Nest.empty ⟨by simp, by simp, h⟩
theorem Nest.apart {lo ty : Nat} {v : Value} {l : List α} {rs : List ρ} {Fs : List (List Nat)} (h : Nest A E w lo ty v l rs Fs) : ∀ k, v.ownBlock = some k → lo ≤ k ∧ k < w.heap.size := fun k hk => h.own.2.2.lt k hk
theorem Nest.keepB {lo ty hi : Nat} {v : Value} {l : List α} {rs : List ρ} {Fs : List (List Nat)} {w' : World} (h : Nest A E w lo ty v l rs Fs) (h1 : ∀ k, v.ownBlock = some k → k < hi) (h2 : ∀ b ∈ Fs.flatten, b < hi) (k : Kp lo hi w w') : Nest A E w' lo ty v l rs Fs := by
  have hk : ∀ b ∈ Fs.flatten, w'.heap[b]? = w.heap[b]? := fun b hb => k.block b (h.low b hb) (h2 b hb)
  exact ⟨⟨h.own.1, h.own.2.1, owns_same h.own.2.2 fun b hb => k.block b (h.own.2.2.lt b hb).1 (h1 b hb)⟩, h.len, h.lenF, fun i x r G h1 h2 h3 => A.keep (h.els i x r G h1 h2 h3) fun b hb => hk b (List.mem_flatten.2 ⟨G, List.mem_of_getElem? h3, hb⟩), h.nodup, h.low, h.free.keep hk⟩
theorem Nest.keepF {lo ty : Nat} {v : Value} {l : List α} {rs : List ρ} {Fs : List (List Nat)} {w' : World} (h : Nest A E w lo ty v l rs Fs) (hk : ∀ b ∈ v.ownBlock.toList ++ Fs.flatten, w'.heap[b]? = w.heap[b]?) : Nest A E w' lo ty v l rs Fs := by
  have hk2 : ∀ b ∈ Fs.flatten, w'.heap[b]? = w.heap[b]? := fun b hb => hk b (List.mem_append_right _ hb)
  exact ⟨⟨h.own.1, h.own.2.1, owns_same h.own.2.2 fun b hb => hk b (List.mem_append_left _ (Option.mem_toList.2 hb))⟩, h.len, h.lenF, fun i x r G h1 h2 h3 => A.keep (h.els i x r G h1 h2 h3) fun b hb => hk2 b (List.mem_flatten.2 ⟨G, List.mem_of_getElem? h3, hb⟩), h.nodup, h.low, h.free.keep hk2⟩
/-- such a slice whose blocks lie from lo to hi -/
def NestB (A : En α) (E : Enc ρ) (w : World) (lo hi ty : Nat) (v : Value) (l : List α) : Prop :=
  ∃ rs Fs, Nest A E w lo ty v l rs Fs ∧ (∀ k, v.ownBlock = some k → k < hi) ∧ ∀ b ∈ Fs.flatten, b < hi
theorem Nest.toB {lo ty : Nat} {v : Value} {l : List α} {rs : List ρ} {Fs : List (List Nat)} (h : Nest A E w lo ty v l rs Fs) : NestB A E w lo w.heap.size ty v l :=
  ⟨rs, Fs, h, fun k hk => (h.own.2.2.lt k hk).2, h.ltF⟩
theorem NestB.mem {lo hi ty : Nat} {v : Value} {l : List α} {rs : List ρ} {Fs : List (List Nat)} (h : Nest A E w lo ty v l rs Fs) (h1 : ∀ k, v.ownBlock = some k → k < hi) (h2 : ∀ b ∈ Fs.flatten, b < hi) : ∀ b ∈ v.ownBlock.toList ++ Fs.flatten, lo ≤ b ∧ b < hi := by
  intro b hb
  rcases List.mem_append.1 hb with hb | hb
  · have := Option.mem_toList.1 hb
    exact ⟨(h.own.2.2.lt b this).1, h1 b this⟩
  · exact ⟨h.low b hb, h2 b hb⟩
theorem NestB.kp {lo hi ty : Nat} {v : Value} {l : List α} {w' : World} (h : NestB A E w lo hi ty v l) (k : Kp lo hi w w') : NestB A E w' lo hi ty v l := by
  obtain ⟨rs, Fs, h, h1, h2⟩ := h
  exact ⟨rs, Fs, h.keepB h1 h2 k, h1, h2⟩
theorem Nest.weak {lo lo' ty : Nat} {v : Value} {l : List α} {rs : List ρ} {Fs : List (List Nat)} (hl : lo' ≤ lo) (h : Nest A E w lo ty v l rs Fs) : Nest A E w lo' ty v l rs Fs :=
  ⟨h.own.weak hl, h.len, h.lenF, h.els, h.nodup, fun b hb => Nat.le_trans hl (h.low b hb), h.free⟩
theorem NestB.wide {lo lo' hi hi' ty : Nat} {v : Value} {l : List α} (h : NestB A E w lo hi ty v l) (h1 : lo' ≤ lo) (h2 : hi ≤ hi') : NestB A E w lo' hi' ty v l := by
  obtain ⟨rs, Fs, h, h3, h4⟩ := h
  exact ⟨rs, Fs, h.weak h1, fun k hk => Nat.lt_of_lt_of_le (h3 k hk) h2, fun b hb => Nat.lt_of_lt_of_le (h4 b hb) h2⟩
theorem Nest.rdF {lo ty : Nat} {ao : Option Addr} {cap : Nat} {l : List α} {rs : List ρ} {Fs : List (List Nat)} (hn : E.n = A.n) (h : Nest A E w lo ty (.slice ao l.length cap) l rs Fs) :
    (listE A).rd w l [.slice ao l.length cap] ((Value.slice ao l.length cap).ownBlock.toList ++ Fs.flatten) ∧ Free w ((Value.slice ao l.length cap).ownBlock.toList ++ Fs.flatten) := by
  have h2 := h.len
  have h3 := h.lenF
  have hlt := h.own.2.2.lt
  rcases h.own.2.2.2 with ⟨h4, h5⟩ | ⟨g, cap', cur, h4, hb, hg, hnc, hcm, hcs, htake⟩
  · have h6 : l = [] := List.eq_nil_of_length_eq_zero (by omega)
    subst h6
    simp only [List.length_nil, Value.slice.injEq] at h4
    obtain ⟨rfl, _, rfl⟩ := h4
    have h7 : Fs = [] := List.eq_nil_of_length_eq_zero (by simpa using h3)
    subst h7
    exact ⟨⟨none, 0, rfl, by simp, by unfold maxLen; omega, .inl ⟨rfl, by simp [Value.ownBlock]⟩⟩, by simp [Free, Value.ownBlock]⟩
  · simp only [Value.slice.injEq] at h4
    obtain ⟨rfl, h5, rfl⟩ := h4
    have hgl := (hlt g rfl).2
    refine ⟨⟨_, cap, rfl, by omega, hcm, .inr ⟨g, 0, Fs, rfl, hgl, rfl, h3, fun i x G e1 e2 => ?_⟩⟩, fun b hb2 => ?_⟩
    · have hi : i < l.length := (List.getElem?_eq_some_iff.1 e1).1
      have e3 : rs[i]? = some (rs[i]'(by omega)) := List.getElem?_eq_getElem (by omega)
      refine ⟨E.cells (rs[i]'(by omega)), h.els i x _ G e1 e3 e2, fun j c hc => ?_⟩
      have hrd := h.own
      rw [show l.length = rs.length by omega] at hrd
      obtain ⟨b, off, e4, _, e6⟩ := hrd.read.at (k := i) (by omega)
      simp only [Option.some.injEq, Addr.mk.injEq] at e4
      obtain ⟨rfl, rfl, _⟩ := e4
      rw [← hn]
      exact (e6 i (by omega)).2 j c hc
    · rcases List.mem_cons.1 hb2 with rfl | hb2
      · exact ⟨cur, ty, hg⟩
      · exact h.free b hb2
theorem NestB.sp {lo hi ty : Nat} {ao : Option Addr} {cap : Nat} {l : List α} (hn : E.n = A.n) (h : NestB A E w lo hi ty (.slice ao l.length cap) l) : Sp (listE A) w lo hi l [.slice ao l.length cap] := by
  obtain ⟨rs, Fs, h, h1, h2⟩ := h
  have hr := h.rdF hn
  refine ⟨_, hr.1, h.nodup, fun b hb => ?_, hr.2⟩
  rcases List.mem_append.1 hb with hb | hb
  · have := Option.mem_toList.1 hb
    exact ⟨(h.own.2.2.lt b this).1, h1 b this⟩
  · exact ⟨h.low b hb, h2 b hb⟩
theorem Nest.kp {lo ty : Nat} {v : Value} {l : List α} {rs : List ρ} {Fs : List (List Nat)} {w' : World} (h : Nest A E w lo ty v l rs Fs) (k : Kp lo w.heap.size w w') : Nest A E w' lo ty v l rs Fs := by
  have hlt := h.ltF
  have hk : ∀ b ∈ Fs.flatten, w'.heap[b]? = w.heap[b]? := fun b hb => k.block b (h.low b hb) (hlt b hb)
  exact ⟨h.own.kp k, h.len, h.lenF, fun i x r G h1 h2 h3 => A.keep (h.els i x r G h1 h2 h3) fun b hb => hk b (List.mem_flatten.2 ⟨G, List.mem_of_getElem? h3, hb⟩), h.nodup, h.low, h.free.keep hk⟩
end
/-- a disk of its own, that can still grow -/
def DiskOwn (w : World) (lo hi : Nat) (d : List (List Int) × List (Int × List Int)) (a1 : Option Addr) (c1 : Nat) (a2 : Option Addr) (c2 : Nat) : Prop :=
  ∃ mid, lo ≤ mid ∧ mid ≤ hi ∧ NestB (ownI 2) rawS w lo mid 85 (.slice a1 d.1.length c1) d.1 ∧ NestB (pairE numE (ownI 2)) rawW w mid hi 124 (.slice a2 d.2.length c2) d.2
theorem DiskOwn.kp {w w' : World} {lo hi : Nat} {d : List (List Int) × List (Int × List Int)} {a1 a2 : Option Addr} {c1 c2 : Nat} (h : DiskOwn w lo hi d a1 c1 a2 c2) (k : Kp lo hi w w') : DiskOwn w' lo hi d a1 c1 a2 c2 := by
  obtain ⟨mid, h1, h2, h3, h4⟩ := h
  exact ⟨mid, h1, h2, h3.kp ⟨k.size, fun i a b => k.block i a (by omega)⟩, h4.kp ⟨k.size, fun i a b => k.block i (by omega) b⟩⟩
theorem DiskOwn.wide {w : World} {lo hi lo' hi' : Nat} {d : List (List Int) × List (Int × List Int)} {a1 a2 : Option Addr} {c1 c2 : Nat} (h : DiskOwn w lo hi d a1 c1 a2 c2) (h1 : lo' ≤ lo) (h2 : hi ≤ hi') : DiskOwn w lo' hi' d a1 c1 a2 c2 := by
  obtain ⟨mid, k1, k2, h3, h4⟩ := h
  exact ⟨mid, by omega, by omega, h3.wide h1 (Nat.le_refl _), h4.wide (Nat.le_refl _) h2⟩
theorem DiskOwn.sp {w : World} {lo hi : Nat} {d : List (List Int) × List (Int × List Int)} {a1 a2 : Option Addr} {c1 c2 : Nat} (h : DiskOwn w lo hi d a1 c1 a2 c2) : Sp diskO w lo hi d [.slice a1 d.1.length c1, .slice a2 d.2.length c2] := by
  obtain ⟨mid, h1, h2, h3, h4⟩ := h
  exact Sp.pair (mid := mid) (mid' := mid) (va := [.slice a1 d.1.length c1]) (vb := [.slice a2 d.2.length c2]) (h3.sp rfl) (h4.sp rfl) (Nat.le_refl _) h1 h2
end Go.Proofs.Ytmjafclpeknpcaa
