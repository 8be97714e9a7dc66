/- Maps with int64 keys that the call itself makes: look up, store, delete. -/
import Derived.Test.YtphaggopgdbojaaGreatReV1
import Derived.MapKept
namespace Go.Proofs.YtphaggopgdbojaaGreat
open Go.RowKit
set_option linter.unusedVariables false
set_option linter.unusedSimpArgs false

def keyIs : Value → Int → Bool
  | .int _ n, k => n == k
  | _, _ => false
/-- what a list of entries holds under a key -/
def findE : List MapEntry → Int → Option Value
  | [], _ => none
  | e :: es, k => if keyIs e.key k = true then some e.val else findE es k
def keysI : List MapEntry → Prop
  | [] => True
  | e :: es => (∃ k, e.key = .int .i64 k ∧ findE es k = none) ∧ keysI es

/-- block b is a map of int64 keys that reads as f -/
def MapI (w : World) (b : Nat) (f : Int → Option Value) : Prop :=
  ∃ (es : Array MapEntry) (clock : Nat), w.heap[b]? = some (.map es clock) ∧ keysI es.toList ∧ ∀ k, findE es.toList k = f k

theorem MapI.lt {w : World} {b : Nat} {f : Int → Option Value} (h : MapI w b f) : b < w.heap.size := by
  obtain ⟨es, c, h1, _⟩ := h
  exact (Array.getElem?_eq_some_iff.1 h1).1
theorem MapI.same {w w' : World} {b : Nat} {f : Int → Option Value} (h : MapI w b f) (hb : w'.heap[b]? = w.heap[b]?) : MapI w' b f := by
  obtain ⟨es, c, h1, h2⟩ := h
  exact ⟨es, c, hb.trans h1, h2⟩
theorem MapI.below {w w' : World} {b B : Nat} {f : Int → Option Value} (h : MapI w b f) (hb : Below B w w') (hB : b < B) : MapI w' b f := h.same (hb.block b hB)
theorem MapI.made (w : World) : MapI (w.alloc (.map #[] 0)) w.heap.size (fun _ => none) :=
  ⟨#[], 0, (MapKept.heap_alloc w _).1, trivial, fun _ => rfl⟩
/-- the index and value of a key -/
def findN : List MapEntry → Int → Nat → Option (Nat × Value)
  | [], _, _ => none
  | e :: es, k, i => if keyIs e.key k = true then some (i, e.val) else findN es k (i + 1)
theorem findNow_eq {kd : IntKind} (k : Int) : ∀ (es : List MapEntry) (i : Nat), keysI es → Instr.findNow (.int kd) (.int .i64 k) es i = some (findN es k i)
  | [], _, _ => rfl
  | e :: es, i, h => by
    obtain ⟨⟨k', hk, _⟩, h2⟩ := h
    unfold Instr.findNow findN
    simp only [hk, Instr.sameNow, if_true, keyIs]
    by_cases hkk : k = k'
    · subst hkk; simp
    · have h1 : (k == k') = false := by simpa using hkk
      have h3 : (k' == k) = false := by simpa using fun e : k' = k => hkk e.symm
      rw [h1, h3, if_neg (by simp)]
      exact findNow_eq k es (i + 1) h2
theorem findN_none {k : Int} : ∀ (es : List MapEntry) (i : Nat), findN es k i = none → findE es k = none
  | [], _, _ => rfl
  | e :: es, i, h => by
    cases hc : keyIs e.key k
    · simp only [findN, hc, Bool.false_eq_true, if_false] at h
      simp only [findE, hc, Bool.false_eq_true, if_false]
      exact findN_none es (i + 1) h
    · simp [findN, hc] at h
theorem findN_some {k : Int} : ∀ (es : List MapEntry) (i j : Nat) (v : Value), findN es k i = some (j, v) →
    findE es k = some v ∧ ∃ d, j = i + d ∧ d < es.length
  | [], _, _, _, h => by simp [findN] at h
  | e :: es, i, j, v, h => by
    cases hc : keyIs e.key k
    · simp only [findN, hc, Bool.false_eq_true, if_false] at h
      obtain ⟨h1, d, h2, h3⟩ := findN_some es (i + 1) j v h
      simp only [findE, hc, Bool.false_eq_true, if_false]
      exact ⟨h1, d + 1, by omega, by simp; omega⟩
    · simp only [findN, hc, if_true, Option.some.injEq, Prod.mk.injEq] at h
      obtain ⟨rfl, rfl⟩ := h
      simp only [findE, hc, if_true]
      exact ⟨trivial, 0, rfl, by simp⟩
theorem keyIs_key {e : MapEntry} {k' : Int} (h : e.key = .int .i64 k') (k : Int) : keyIs e.key k = (k' == k) := by rw [h]; rfl

/-- a key's value set, at the end -/
theorem findE_push {k : Int} {v : Value} {c : Nat} : ∀ (es : List MapEntry), keysI es → findE es k = none →
    keysI (es ++ [{ key := .int .i64 k, val := v, born := c }]) ∧ ∀ q, findE (es ++ [{ key := .int .i64 k, val := v, born := c }]) q = if q = k then some v else findE es q
  | [], _, _ => ⟨⟨⟨k, rfl, rfl⟩, trivial⟩, fun q => by
      by_cases h : q = k
      · subst h; simp [findE, keyIs]
      · have : (k == q) = false := by simpa using fun e : k = q => h e.symm
        simp [findE, keyIs, this, h]⟩
  | e :: es, h, hn => by
    obtain ⟨⟨k', hk, hf⟩, h2⟩ := h
    have hne : (k' == k) = false := by
      cases hc : (k' == k)
      · rfl
      · simp [findE, keyIs_key hk, hc] at hn
    have hn2 : findE es k = none := by simpa [findE, keyIs_key hk, hne] using hn
    obtain ⟨h3, h4⟩ := findE_push es h2 hn2
    have hne2 : k' ≠ k := by simpa using hne
    refine ⟨⟨⟨k', hk, by have := h4 k'; rw [if_neg hne2] at this; exact this.trans hf⟩, h3⟩, fun q => ?_⟩
    cases hc : (k' == q)
    · simp only [List.cons_append, findE, keyIs_key hk, hc, Bool.false_eq_true, if_false]; exact h4 q
    · have : k' = q := by simpa using hc
      subst this
      simp [findE, keyIs_key hk, hne2]
/-- a key's value set, where the key lies -/
theorem findE_modify {k : Int} {v : Value} : ∀ (es : List MapEntry) (i d : Nat) (u : Value), keysI es → findN es k i = some (i + d, u) →
    keysI (es.modify d fun e => { e with key := .int .i64 k, val := v }) ∧ ∀ q, findE (es.modify d fun e => { e with key := .int .i64 k, val := v }) q = if q = k then some v else findE es q
  | [], _, _, _, _, h => by simp [findN] at h
  | e :: es, i, d, u, hK, h => by
    obtain ⟨⟨k', hk, hf⟩, h2⟩ := hK
    cases hc : (k' == k)
    · simp only [findN, keyIs_key hk, hc, Bool.false_eq_true, if_false] at h
      obtain ⟨_, d', hd, _⟩ := findN_some es (i + 1) _ _ h
      have hd' : d = d' + 1 := by omega
      subst hd'
      rw [show i + (d' + 1) = i + 1 + d' by omega] at h
      obtain ⟨h3, h4⟩ := findE_modify es (i + 1) d' u h2 h
      have hne : k' ≠ k := by simpa using hc
      simp only [List.modify_succ_cons]
      refine ⟨⟨⟨k', hk, by rw [h4, if_neg hne]; exact hf⟩, h3⟩, fun q => ?_⟩
      cases hq : (k' == q)
      · simp only [findE, keyIs_key hk, hq, Bool.false_eq_true, if_false]; exact h4 q
      · have : k' = q := by simpa using hq
        subst this
        simp [findE, keyIs_key hk, hne]
    · have hkk : k' = k := by simpa using hc
      subst hkk
      simp only [findN, keyIs_key hk, hc, if_true, Option.some.injEq, Prod.mk.injEq] at h
      have hd : d = 0 := by omega
      subst hd
      simp only [List.modify_zero_cons]
      refine ⟨⟨⟨k', rfl, hf⟩, h2⟩, fun q => ?_⟩
      by_cases hq : q = k'
      · subst hq; simp [findE, keyIs]
      · have h1 : (k' == q) = false := by simpa using fun e : k' = q => hq e.symm
        simp [findE, keyIs, hk, h1, hq]
/-- a key taken out -/
theorem findE_erase {k : Int} : ∀ (es : List MapEntry) (i d : Nat) (u : Value), keysI es → findN es k i = some (i + d, u) →
    (keysI (es.eraseIdx d) ∧ ∀ q, findE (es.eraseIdx d) q = if q = k then none else findE es q)
  | [], _, _, _, _, h => by simp [findN] at h
  | e :: es, i, d, u, hK, h => by
    obtain ⟨⟨k', hk, hf⟩, h2⟩ := hK
    cases hc : (k' == k)
    · simp only [findN, keyIs_key hk, hc, Bool.false_eq_true, if_false] at h
      obtain ⟨_, d', hd, _⟩ := findN_some es (i + 1) _ _ h
      have hd' : d = d' + 1 := by omega
      subst hd'
      rw [show i + (d' + 1) = i + 1 + d' by omega] at h
      obtain ⟨h3, h4⟩ := findE_erase es (i + 1) d' u h2 h
      have hne : k' ≠ k := by simpa using hc
      simp only [List.eraseIdx_cons_succ]
      refine ⟨⟨⟨k', hk, by rw [h4, if_neg hne]; exact hf⟩, h3⟩, fun q => ?_⟩
      cases hq : (k' == q)
      · simp only [findE, keyIs_key hk, hq, Bool.false_eq_true, if_false]; exact h4 q
      · have : k' = q := by simpa using hq
        subst this
        simp [findE, keyIs_key hk, hne]
    · have hkk : k' = k := by simpa using hc
      subst hkk
      simp only [findN, keyIs_key hk, hc, if_true, Option.some.injEq, Prod.mk.injEq] at h
      have hd : d = 0 := by omega
      subst hd
      simp only [List.eraseIdx_cons_zero]
      refine ⟨h2, fun q => ?_⟩
      by_cases hq : q = k'
      · subst hq; simpa using hf
      · have h1 : (k' == q) = false := by simpa using fun e : k' = q => hq e.symm
        simp [findE, keyIs_key hk, h1, hq]

section
variable {P : Program} {w : World} {b : Nat} {f : Int → Option Value} {t kt et : TypeId} {kd : IntKind}

theorem run_findKey_int {es : List MapEntry} (h : keysI es) (hk : P.underlying kt = some (.int kd)) (k : Int) : (Instr.findKey kt (.int .i64 k) es).run P w = .ok (findN es k 0) w := by
  unfold Instr.findKey
  simp [run_underlying hk, findNow_eq k es 0 h]
theorem run_checkKey_int (hk : P.underlying kt = some (.int kd)) (c : Bool) (k : Int) : (Instr.checkKey c 10000 kt (.int .i64 k)).run P w = .ok () w := by
  rw [show (10000 : Nat) = 9999 + 1 from rfl]
  unfold Instr.checkKey
  simp [run_underlying hk]

/-- 'm[k]' -/
theorem MapI.run_lookup (h : MapI w b f) (ht : P.underlying t = some (.map kt et)) (hk : P.underlying kt = some (.int kd)) (z : Value) (hz : ∀ W : World, (zeroValue et).run P W = .ok z W) (k : Int) :
    (Instr.lookup t (.map (some b)) (.int .i64 k) false).run P w = .ok ((f k).getD z) w := by
  obtain ⟨es, c, h1, h2, h3⟩ := h
  unfold Instr.lookup
  simp only [Sem.run_bind, run_underlying ht, Result.andThen_ok, MapKept.run_getObj_map h1, run_checkKey_int hk, run_findKey_int h2 hk, Sem.run_pure]
  rw [← h3 k]
  cases hf : findN es.toList k 0 with
  | none => simp [findN_none _ _ hf, hz]
  | some x => obtain ⟨j, v⟩ := x; simp [(findN_some _ _ _ _ hf).1]
/-- 'v, ok := m[k]' -/
theorem MapI.run_lookup_ok (h : MapI w b f) (ht : P.underlying t = some (.map kt et)) (hk : P.underlying kt = some (.int kd)) (z : Value) (hz : ∀ W : World, (zeroValue et).run P W = .ok z W) (k : Int) :
    (Instr.lookup t (.map (some b)) (.int .i64 k) true).run P w = .ok (.tuple #[(f k).getD z, .bool (f k).isSome]) w := by
  obtain ⟨es, c, h1, h2, h3⟩ := h
  unfold Instr.lookup
  simp only [Sem.run_bind, run_underlying ht, Result.andThen_ok, MapKept.run_getObj_map h1, run_checkKey_int hk, run_findKey_int h2 hk, Sem.run_pure]
  rw [← h3 k]
  cases hf : findN es.toList k 0 with
  | none => simp [findN_none _ _ hf, hz]
  | some x => obtain ⟨j, v⟩ := x; simp [(findN_some _ _ _ _ hf).1]

/-- one block written -/
def Wrote1 (w w' : World) (b : Nat) : Prop := w'.os = w.os ∧ w'.tape = w.tape ∧ w'.output = w.output ∧ w'.heap.size = w.heap.size ∧ ∀ j, j ≠ b → w'.heap[j]? = w.heap[j]?
theorem Wrote1.below {w w' : World} {b B : Nat} (h : Wrote1 w w' b) (hB : B ≤ b) : Below B w w' := ⟨h.1, h.2.1, h.2.2.1, by rw [h.2.2.2.1]; exact Nat.le_refl _, fun k hk => h.2.2.2.2 k (by omega)⟩
theorem Wrote1.cell {w w' : World} {b : Nat} (h : Wrote1 w w' b) {c o : Nat} (hc : c ≠ b) : w'.cell? ⟨c, o, none⟩ = w.cell? ⟨c, o, none⟩ := World.cell?_of_block (h.2.2.2.2 c hc)
theorem wrote1_set (w : World) (b : Nat) (o : Obj) : Wrote1 w { w with heap := w.heap.setIfInBounds b o } b :=
  ⟨rfl, rfl, rfl, by simp, fun j hj => by simp [Ne.symm hj]⟩

/-- 'm[k] = v' -/
theorem MapI.run_update (h : MapI w b f) (ht : P.underlying t = some (.map kt et)) (hk : P.underlying kt = some (.int kd)) (k : Int) (v : Value) :
    ∃ w', (Instr.mapUpdate t (.map (some b)) (.int .i64 k) v).run P w = .ok () w' ∧ MapI w' b (fun q => if q = k then some v else f q) ∧ Wrote1 w w' b := by
  obtain ⟨es, c, h1, h2, h3⟩ := h
  have hb := (Array.getElem?_eq_some_iff.1 h1).1
  unfold Instr.mapUpdate
  simp only [Sem.run_bind, run_underlying ht, Result.andThen_ok, MapKept.run_getObj_map h1, run_checkKey_int hk, run_findKey_int h2 hk]
  cases hf : findN es.toList k 0 with
  | none =>
    simp only [MapKept.run_setObj_map _ h1]
    obtain ⟨h4, h5⟩ := findE_push (v := v) (c := c) es.toList h2 (findN_none _ _ hf)
    refine ⟨_, rfl, ⟨es.push { key := .int .i64 k, val := v, born := c }, c + 1, by simp [hb], by simpa using h4, fun q => by simpa [h3] using h5 q⟩, wrote1_set w b _⟩
  | some x =>
    obtain ⟨j, u⟩ := x
    obtain ⟨h6, d, hd, hdl⟩ := findN_some _ _ _ _ hf
    have hjd : j = d := by omega
    subst hjd
    have hkey : (es[j]?).map (·.key) = some (.int .i64 k) := by
      clear h1 h3 hb
      obtain ⟨l⟩ := es
      simp only [List.getElem?_toArray] at *
      clear h6 hd
      have : ∀ (l : List MapEntry) (i j : Nat), keysI l → findN l k i = some (i + j, u) → (l[j]?).map (·.key) = some (.int .i64 k) := by
        intro l
        induction l with
        | nil => intro i j _ h; simp [findN] at h
        | cons e l ih =>
          intro i j hK h
          obtain ⟨⟨k', hk', _⟩, h2'⟩ := hK
          cases hc : (k' == k)
          · simp only [findN, keyIs_key hk', hc, Bool.false_eq_true, if_false] at h
            obtain ⟨_, d', hd', _⟩ := findN_some l (i + 1) _ _ h
            have : j = d' + 1 := by omega
            subst this
            rw [show i + (d' + 1) = i + 1 + d' by omega] at h
            simpa using ih (i + 1) d' h2' h
          · have hkk : k' = k := by simpa using hc
            subst hkk
            simp only [findN, keyIs_key hk', hc, if_true, Option.some.injEq, Prod.mk.injEq] at h
            have : j = 0 := by omega
            subst this
            simp [hk']
      exact this l 0 j h2 (by simpa using hf)
    have hstay : (Instr.keyThatStays (((es[j]?).map (·.key)).getD (.int .i64 k)) (.int .i64 k)).run P w = .ok (.int .i64 k) w := by
      rw [hkey]
      simp [Instr.keyThatStays, Instr.sameBits]
    simp only [Sem.run_bind, hstay, Result.andThen_ok, MapKept.run_setObj_map _ h1]
    obtain ⟨h4, h5⟩ := findE_modify (v := v) es.toList 0 j u h2 (by simpa using hf)
    refine ⟨_, rfl, ⟨es.modify j fun e => { e with key := .int .i64 k, val := v }, c, by simp [hb], by simpa using h4, fun q => by simpa [h3] using h5 q⟩, wrote1_set w b _⟩

/-- 'delete(m, k)' -/
theorem MapI.run_delete (h : MapI w b f) (ht : P.underlying t = some (.map kt et)) (hk : P.underlying kt = some (.int kd)) (ty kt2 : TypeId) (k : Int) :
    ∃ w', (Builtin.delete_ #[t, kt2] ty #[.map (some b), .int .i64 k]).run P w = .ok (.tuple #[]) w' ∧ MapI w' b (fun q => if q = k then none else f q) ∧ Wrote1 w w' b := by
  obtain ⟨es, c, h1, h2, h3⟩ := h
  have hb := (Array.getElem?_eq_some_iff.1 h1).1
  unfold Builtin.delete_
  simp only [List.getElem?_toArray, List.getElem?_cons_zero, List.getElem?_cons_succ, Sem.run_bind, run_underlying ht, Result.andThen_ok, MapKept.run_getObj_map h1, run_checkKey_int hk, run_findKey_int h2 hk]
  cases hf : findN es.toList k 0 with
  | none =>
    simp only [Sem.run_bind, MapKept.run_setObj_map _ h1, Result.andThen_ok, Sem.run_pure]
    refine ⟨_, rfl, ⟨es, c, by simp [hb], h2, fun q => ?_⟩, wrote1_set w b _⟩
    have := findN_none _ _ hf
    by_cases hq : q = k
    · subst hq; simpa using this
    · simp [hq, h3]
  | some x =>
    obtain ⟨j, u⟩ := x
    obtain ⟨h6, d, hd, hdl⟩ := findN_some _ _ _ _ hf
    have hjd : j = d := by omega
    subst hjd
    simp only [Sem.run_bind, MapKept.run_setObj_map _ h1, Result.andThen_ok, Sem.run_pure]
    obtain ⟨h4, h5⟩ := findE_erase es.toList 0 j u h2 (by simpa using hf)
    refine ⟨_, rfl, ⟨es.eraseIdxIfInBounds j, c, by simp [hb], ?_, fun q => ?_⟩, wrote1_set w b _⟩
    · have : (es.eraseIdxIfInBounds j).toList = es.toList.eraseIdx j := by simp
      rw [this]; exact h4
    · have : (es.eraseIdxIfInBounds j).toList = es.toList.eraseIdx j := by simp
      rw [this, h5 q, h3]
end
end Go.Proofs.YtphaggopgdbojaaGreat
