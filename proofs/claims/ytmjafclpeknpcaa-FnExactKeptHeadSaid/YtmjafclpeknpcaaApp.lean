/- append on a slice that the call has made, from whatever slice that reads as a list. -/
import Derived.Test.YtmjafclpeknpcaaInts
import Derived.Test.YtmjafclpeknpcaaSl
namespace Go.Proofs.Ytmjafclpeknpcaa
open Go.RowKit
section
variable {P : Program} {w : World} {ops : Array Oper} {rest : List Oper} {o : Oper} {a : Act} {Q : Exit → Act → World → Prop}

/-- the cells of a source of m elements lie where it leads -/
def SrcAt (w : World) (ao : Option Addr) (news : List Value) : Prop := news = [] ∨ ∃ ad, ao = some ad ∧ ∀ j u, news[j]? = some u → w.cell? (ad.add j) = some u

theorem run_append_src (base : Nat) (t ty e : TypeId) (i : TypeInfo) (z : Value) (size bytes : Nat) (ht : P.underlying t = some (.slice e)) (hi : P.info? e = some i) (hz : i.zero = some z)
    (hsize : i.size = size) (hby : i.bytes = bytes) (hzs : z.cells.size = size) (hsz : 0 < size)
    (v : Value) (n : Nat) (xs : List Value) (hown : w.ownsRow base e size v n xs) (ao : Option Addr) (m c : Nat) (news : List Value) (hl : news.length = m * size) (hsrc : SrcAt w ao news) (h1 : ∀ u ∈ news, u.oneCell' = true)
    (h63 : n + m ≤ maxLen) (hbytes : (n + m) * bytes ≤ 140737488355328) (hbase : base ≤ w.heap.size) :
    ∃ v' w', (Builtin.append_ #[t, t] ty #[v, .slice ao m c]).run P w = .ok v' w' ∧ w'.ownsRow base e size v' (n + m) (xs ++ news) ∧ w.grownBy w' v.ownBlock := by
  rcases hsrc with rfl | ⟨ad, rfl, hc⟩
  · have hm : m = 0 := by
      rcases Nat.eq_zero_or_pos m with h | h
      · exact h
      · have := Nat.mul_pos h hsz; simp at hl; omega
    subst hm
    cases ao with
    | some ad =>
      obtain ⟨v', w', hr, h2, h3, _⟩ := run_append_own (P := P) w base t ty e i z size bytes ht hi hz hsize hby hzs hsz v n xs hown ad 0 c [] (by simp) (by simp) (by simp) h63 hbytes hbase
      exact ⟨v', w', hr, h2, h3⟩
    | none =>
      refine ⟨v, w, ?_, by simpa using hown, ⟨rfl, rfl, rfl, Nat.le_refl _, fun _ _ _ => rfl⟩⟩
      rcases hown.2 with ⟨rfl, rfl⟩ | ⟨g, cap, cur, rfl, _, _, hnc, _⟩
      · simp [Builtin.append_, run_underlying ht, sizeOf, typeInfo, hi, Builtin.lenOf, Builtin.firstCells]
      · simp [Builtin.append_, run_underlying ht, sizeOf, typeInfo, hi, Builtin.lenOf, Builtin.firstCells, hnc, storeCells]
  · obtain ⟨v', w', hr, h2, h3, _⟩ := run_append_own (P := P) w base t ty e i z size bytes ht hi hz hsize hby hzs hsz v n xs hown ad m c news hl hc h1 h63 hbytes hbase
    exact ⟨v', w', hr, h2, h3⟩

theorem wpList_append_src (hgd : o.guard = none) (s x : Operand) (t : TypeId) (ho : o.op = .call { callee := .builtin .append, args := #[s, x], argTypes := #[t, t] })
    (base : Nat) (e : TypeId) (i : TypeInfo) (z : Value) (size bytes : Nat) (ht : P.underlying t = some (.slice e)) (hi : P.info? e = some i) (hz : i.zero = some z)
    (hsize : i.size = size) (hby : i.bytes = bytes) (hzs : z.cells.size = size) (hsz : 0 < size)
    (v : Value) (n : Nat) (xs : List Value) (hs : a.eval s = v) (hown : w.ownsRow base e size v n xs) (ao : Option Addr) (m c : Nat) (news : List Value) (hx : a.eval x = .slice ao m c) (hl : news.length = m * size) (hsrc : SrcAt w ao news) (h1 : ∀ u ∈ news, u.oneCell' = true)
    (h63 : n + m ≤ maxLen) (hbytes : (n + m) * bytes ≤ 140737488355328) (hbase : base ≤ w.heap.size)
    (h : ∀ v' w', w'.ownsRow base e size v' (n + m) (xs ++ news) → w.grownBy w' v.ownBlock → wpList P ops Q rest (a.put o.dst v') w') : wpList P ops Q (o :: rest) a w := by
  refine wpList_plain hgd fun K hK => ?_
  obtain ⟨v', w', hr, h2, h3⟩ := run_append_src (P := P) (w := w) base t o.type e i z size bytes ht hi hz hsize hby hzs hsz v n xs hown ao m c news hl hsrc h1 h63 hbytes hbase
  unfold Oper.wp execOp
  simp only [ho, resolve, invoke, builtin, Sem.run_bind, Sem.run_pure, Result.andThen_ok, List.map_toArray, List.map_cons, List.map_nil, hs, hx, hr]
  exact hK _ _ (h v' w' h2 h3)

theorem owns_form {w : World} {base e size n : Nat} {v : Value} {xs : List Value} (h : w.ownsRow base e size v n xs) : ∃ ao cap, v = .slice ao n cap := by
  rcases h.2 with ⟨rfl, rfl⟩ | ⟨g, cap, cur, rfl, _⟩
  · exact ⟨none, 0, rfl⟩
  · exact ⟨_, _, rfl⟩

theorem srcI {w : World} {ao : Option Addr} {m : List Int} (h : IntsR w ao m) : SrcAt w ao (m.map (Value.int .i64)) := by
  rcases h.2.2 with rfl | ⟨b, off, rfl, _, hc⟩
  · exact .inl rfl
  · refine .inr ⟨_, rfl, fun j u hu => ?_⟩
    rw [List.getElem?_map] at hu
    cases hm : m[j]? with
    | none => rw [hm] at hu; simp at hu
    | some x => rw [hm] at hu; simp at hu; subst hu; rw [Addr.add_lit]; exact hc j x hm

/-- append on []int64 -/
theorem wpList_append_ints (hgd : o.guard = none) (s x : Operand) (t : TypeId) (ho : o.op = .call { callee := .builtin .append, args := #[s, x], argTypes := #[t, t] })
    (lo e : Nat) (i : TypeInfo) (ht : P.underlying t = some (.slice e)) (hi : P.info? e = some i) (hz : i.zero = some (.int .i64 0)) (hsize : i.size = 1) (hby : i.bytes = 8)
    (ao ao2 : Option Addr) (cap cap2 : Nat) (l m : List Int) (hs : a.eval s = .slice ao l.length cap) (hown : IntsO w lo e (.slice ao l.length cap) l) (hx : a.eval x = .slice ao2 m.length cap2) (hrd : IntsR w ao2 m)
    (hlen : l.length + m.length ≤ 1099511627776) (hbase : lo ≤ w.heap.size)
    (h : ∀ ao' cap' w', IntsO w' lo e (.slice ao' (l ++ m).length cap') (l ++ m) → w.grownBy w' (Value.ownBlock (.slice ao l.length cap)) → wpList P ops Q rest (a.put o.dst (.slice ao' (l ++ m).length cap')) w') : wpList P ops Q (o :: rest) a w := by
  refine wpList_append_src hgd s x t ho lo e i (.int .i64 0) 1 8 ht hi hz hsize hby rfl (by decide) _ _ _ hs hown.2.2 ao2 m.length cap2 (m.map (Value.int .i64)) hx (by simp) (srcI hrd) (ints_oneCell _ _) (by unfold maxLen; omega) (by omega) hbase fun v' w' h2 h3 => ?_
  obtain ⟨ao', cap', rfl⟩ := owns_form h2
  rw [← List.map_append, ← List.length_append] at h2
  rw [← List.length_append]
  exact h ao' cap' w' ⟨fun y hy => by
    rcases List.mem_append.1 hy with hy | hy
    · exact hown.1 y hy
    · exact hrd.1 y hy, by rw [List.length_append]; omega, h2⟩ h3

theorem srcA {α : Type} {E : Enc α} {w : World} {ao : Option Addr} {m : List α} (h : ReadA E w ao m) : SrcAt w ao (m.flatMap E.cells) := by
  rcases h.2.2 with rfl | ⟨b, off, rfl, _, hc⟩
  · exact .inl rfl
  · refine .inr ⟨_, rfl, fun j u hu => ?_⟩
    have hn := E.pos
    have hj : j < m.length * E.n := by have := (List.getElem?_eq_some_iff.1 hu).1; rwa [length_flatMap] at this
    have hq : j / E.n < m.length := (Nat.div_lt_iff_lt_mul hn).2 hj
    have e1 : j / E.n * E.n + j % E.n = j := by rw [Nat.mul_comm]; exact Nat.div_add_mod j E.n
    have e2 := getElem?_flatMap E m (j / E.n) (j % E.n) m[j / E.n] (List.getElem?_eq_getElem hq) (Nat.mod_lt _ hn)
    rw [e1, hu] at e2
    have := hc (j / E.n) m[j / E.n] (List.getElem?_eq_getElem hq) (j % E.n) u e2.symm
    rw [Nat.add_assoc, e1] at this
    rw [Addr.add_lit]
    exact this

/-- append on a slice of rows -/
theorem wpList_append_rows {α : Type} {E : Enc α} (hgd : o.guard = none) (s x : Operand) (t : TypeId) (ho : o.op = .call { callee := .builtin .append, args := #[s, x], argTypes := #[t, t] })
    (lo e : Nat) (i : TypeInfo) (z : Value) (bytes : Nat) (ht : P.underlying t = some (.slice e)) (hi : P.info? e = some i) (hz : i.zero = some z) (hsize : i.size = E.n) (hby : i.bytes = bytes) (hzs : z.cells.size = E.n) (hb : bytes ≤ 128)
    (hone : ∀ d : α, ∀ u ∈ E.cells d, u.oneCell' = true)
    (ao ao2 : Option Addr) (cap cap2 : Nat) (l m : List α) (hs : a.eval s = .slice ao l.length cap) (hown : OwnA E w lo e (.slice ao l.length cap) l) (hx : a.eval x = .slice ao2 m.length cap2) (hrd : ReadA E w ao2 m)
    (hlen : l.length + m.length ≤ 1099511627776) (hbase : lo ≤ w.heap.size)
    (h : ∀ ao' cap' w', OwnA E w' lo e (.slice ao' (l ++ m).length cap') (l ++ m) → w.grownBy w' (Value.ownBlock (.slice ao l.length cap)) → wpList P ops Q rest (a.put o.dst (.slice ao' (l ++ m).length cap')) w') : wpList P ops Q (o :: rest) a w := by
  refine wpList_append_src hgd s x t ho lo e i z E.n bytes ht hi hz hsize hby hzs E.pos _ _ _ hs hown.2.2 ao2 m.length cap2 (m.flatMap E.cells) hx (length_flatMap E m) (srcA hrd) (fun u hu => ?_) (by unfold maxLen; omega) ?_ hbase fun v' w' h2 h3 => ?_
  · obtain ⟨d, _, hd⟩ := List.mem_flatMap.1 hu
    exact hone d u hd
  · exact Nat.le_trans (Nat.mul_le_mul hlen hb) (by decide)
  · obtain ⟨ao', cap', rfl⟩ := owns_form h2
    rw [← List.flatMap_append, ← List.length_append] at h2
    rw [← List.length_append]
    exact h ao' cap' w' ⟨fun y hy => by
      rcases List.mem_append.1 hy with hy | hy
      · exact hown.1 y hy
      · exact hrd.1 y hy, by rw [List.length_append]; omega, h2⟩ h3
end
end Go.Proofs.Ytmjafclpeknpcaa
