/- Structs of numbers compared; arrays; max; slices against nil; calls that hand their cells on. No program in it. -/
import Derived.Test.YtphaggopgdbojaaGreatReVE
import Derived.Laws.StructEq
namespace Go.Proofs.YtphaggopgdbojaaGreat
open Go.ChangeShapes Go.WideShapes Go.ChangeAt Go.RowKit
set_option linter.unusedVariables false
section
variable {P : Program} {X : Cx} {S : St} {ρ : Rho} {a : Act} {w : World} {TT : List (Nat × TI)}
def mkEq : BinOp → Bool → Option Bool
  | .eql, b => some b
  | .neq, b => some (!b)
  | _, _ => none
/-- an element of an array in a box -/
def qIxArr (TT : List (Nat × TI)) (S : St) (t : TypeId) (x ix : Operand) (m : Nat) : Option AV :=
  match lk TT t with
  | some ⟨_, _, _, .ar len _ sz _⟩ => match Nat.blt m len with
    | true => match opv S.T x with
      | some (.p false [.pb b o]) => some (.p false [.pb b (o + m * sz)])
      | _ => none
    | false => none
  | _ => none
theorem arr_ok {t len e sz : Nat} {g : Bool} {s b : Nat} {z : List C} (hT : TTOk P TT) (h : lk TT t = some ⟨s, b, z, .ar len e sz g⟩) : P.underlying t = some (.array len e) ∧ 0 < sz ∧ (∀ w, (Go.sizeOf e).run P w = .ok sz w) ∧ (∀ w, (isAgg e).run P w = .ok g w) ∧ (g = false → sz = 1) := by
  obtain ⟨d, hd, hsb⟩ := (hT t _ h).und
  cases d <;> first | (cases hsb; done) | skip
  simp only [shB, Bool.and_eq_true, decide_eq_true_eq, Bool.or_eq_true, beq_iff_eq] at hsb
  obtain ⟨⟨⟨⟨⟨⟨rfl, rfl⟩, h3⟩, h4⟩, h5⟩, rfl⟩, h7⟩ := hsb
  exact ⟨hd, h3, fun w => sizB_run h4, fun w => aggB_run h5, fun hg => h7.resolve_left (by simp [hg])⟩
theorem qw_ix_arr {t : TypeId} {x ix : Operand} {i : Int} {k : IntKind} {av : AV} (m : Nat) (hT : TTOk P TT) (h : qIxArr TT S t x ix m = some av) (hi : opv S.T ix = some (.p false [.c (.v (.int k i))])) (him : i = (m : Int)) : QuietW P X S (.indexAddr t x ix) av := by
  refine fun ρ a w hs => ?_
  subst him
  have hq : a.eval ix = .int k (m : Int) := rd_v (opv_rep hs hi).1
  unfold qIxArr at h
  split at h
  · rename_i s b z len e sz g ht
    obtain ⟨hu, hsz, h3, _, _⟩ := arr_ok hT ht
    split at h
    · rename_i hm
      have hml : m < len := by have h9 : Nat.ble (m + 1) len = true := hm; have := Nat.le_of_ble_eq_true h9; omega
      split at h
      · rename_i bb o hx
        cases h
        have hp : a.eval x = .pointer (some ⟨ρ.box bb, o, none⟩) := (opv_rep hs hx).1
        refine ⟨.pointer (some ⟨ρ.box bb, o + m * sz, none⟩), ⟨rfl, trivial⟩, fun _ _ _ _ _ w' => ?_⟩
        have h5 := h3 w'
        simp [execOp, Instr.indexAt, hp, hq, asIntOf, run_underlying hu, hml, h5, addr_add, Instr.sureAddr]
      · cases h
    · cases h
  · cases h
theorem q_ix_arr {t : TypeId} {x ix : Operand} {i : Int} {k : IntKind} {av : AV} (m : Nat) (hT : TTOk P TT) (h : qIxArr TT S t x ix m = some av) (hi : opv S.T ix = some (.p false [.c (.v (.int k i))])) (him : i = (m : Int)) : Quiet P X S (.indexAddr t x ix) av := (qw_ix_arr m hT h hi him).q
/-- an element of an array value -/
def qIndex (TT : List (Nat × TI)) (S : St) (t : TypeId) (x : Operand) (m : Nat) : Option AV :=
  match lk TT t with
  | some ⟨_, _, _, .ar len _ sz g⟩ => match Nat.blt m len with
    | true => match opv S.T x with
      | some (.p true l) => match cutO (m * sz) sz l with
        | some r => mkP g r
        | none => none
      | _ => none
    | false => none
  | _ => none
theorem qw_index {t : TypeId} {x ix : Operand} {i : Int} {k : IntKind} {av : AV} (m : Nat) (hT : TTOk P TT) (h : qIndex TT S t x m = some av) (hi : opv S.T ix = some (.p false [.c (.v (.int k i))])) (him : i = (m : Int)) : QuietW P X S (.index t x ix) av := by
  refine fun ρ a w hs => ?_
  subst him
  have hq : a.eval ix = .int k (m : Int) := rd_v (opv_rep hs hi).1
  unfold qIndex at h
  split at h
  · rename_i s b z len e sz g ht
    obtain ⟨hu, hsz, h3, h4, h5⟩ := arr_ok hT ht
    split at h
    · rename_i hm
      have hml : m < len := by have h9 : Nat.ble (m + 1) len = true := hm; have := Nat.le_of_ble_eq_true h9; omega
      split at h
      · rename_i l hx
        split at h
        · rename_i r hr
          obtain rfl := mkP_eq h
          obtain ⟨rfl, hl⟩ := cutO_eq hr
          obtain ⟨vs, hp, hr2⟩ := opv_rep hs hx
          have h6 := (hr2.drop (m * sz)).take sz
          have hl3 : ((vs.drop (m * sz)).take sz).length = sz := by rw [h6.len, hl]
          refine ⟨mkV g ((vs.drop (m * sz)).take sz), mkV_rep h6 (fun hg => by rw [hl3, h5 hg]), fun d ty pos af gg w' => ?_⟩
          have hpart : (part e vs.toArray (m * sz)).run P w' = .ok (mkV g ((vs.drop (m * sz)).take sz)) w' := by
            unfold part mkV
            simp only [Sem.run_bind, h4, Result.andThen_ok]
            cases hg : g
            · have h1z := h5 hg
              subst h1z
              have : vs[m * 1]? = some (((vs.drop (m * 1)).take 1).headD undef) := by
                have h9 := headD_one hl3
                have h10 : ((vs.drop (m * 1)).take 1)[0]? = some (((vs.drop (m * 1)).take 1).headD undef) := by rw [h9]; rfl
                rw [List.getElem?_take_of_lt (by omega), List.getElem?_drop] at h10
                simpa using h10
              simp only [Nat.mul_one] at this ⊢
              simp [this]
            · simp only [if_true, Sem.run_bind, h3, Result.andThen_ok, Sem.run_pure]
              congr 2
              apply Array.ext'
              simp
          simp [execOp, Instr.index, hp, hq, asIntOf, run_underlying hu, hml, h3 w', hpart]
        · cases h
      · cases h
    · cases h
  · cases h
theorem q_index {t : TypeId} {x ix : Operand} {i : Int} {k : IntKind} {av : AV} (m : Nat) (hT : TTOk P TT) (h : qIndex TT S t x m = some av) (hi : opv S.T ix = some (.p false [.c (.v (.int k i))])) (him : i = (m : Int)) : Quiet P X S (.index t x ix) av := (qw_index m hT h hi him).q
/-- a slice against nil -/
theorem q_nilv {op : BinOp} {t yt : TypeId} {x y : Operand} {e m n : Nat} {z : AC} {l : List (List C)} {b : Bool} (hT : TTOk P TT) (ht : eSz TT t = some (e, m)) (hx : opv S.T x = some (.p false [z])) (hz : RsC S z (.s n l)) (hl : l ≠ []) (hy : opv S.T y = some (.p false [.c .nil])) (hb : mkEq op false = some b) :
    Quiet P X S (.binOp op t x y yt) (.p false [.c (.v (.bool b))]) := by
  refine quiet_of fun ρ a w hs => ⟨.bool b, ⟨⟨0, rfl, rfl⟩, trivial⟩, fun _ _ _ _ _ w' => ?_⟩
  have hq : a.eval y = .slice none 0 0 := rd_nil (opv_rep hs hy).1
  obtain ⟨ao, cap, hp, h1, h2, h3, h4⟩ := rd_s (RsC.rd hs.hp (opv_rep hs hx).1 hz)
  obtain ⟨bb, off, rfl, _⟩ := h4.resolve_left hl
  have hu := (eSz_ok hT ht).1
  have he : (Op.equal t (.slice (some ⟨bb, off, none⟩) l.length cap) (.slice none 0 0)).run P w' = .ok false w' := by
    unfold Op.equal
    rw [show Op.maxDepth = 9999 + 1 from rfl]
    unfold Op.equalIn
    simp [run_underlying hu]
  cases op <;> first | (cases hb; done) | skip
  · cases hb
    simp [execOp, hp, hq, binOp, he, cmp_guard]
  · cases hb
    simp [execOp, hp, hq, binOp, he, cmp_guard]
/-- the greater of two -/
theorem qw_max {ats : Array TypeId} {x y : Operand} {m n : Int} (hx : opv S.T x = some (.p false [.c (.v (.int .i64 m))])) (hy : opv S.T y = some (.p false [.c (.v (.int .i64 n))])) : QuietW P X S (.call ⟨.builtin .max, #[x, y], ats⟩) (.p false [.c (.v (.int .i64 (max m n)))]) := by
  refine fun ρ a w hs => ⟨.int .i64 (max m n), ⟨⟨0, rfl, rfl⟩, trivial⟩, fun _ _ _ _ _ w' => ?_⟩
  have hp : a.eval x = .int .i64 m := rd_v (opv_rep hs hx).1
  have hq : a.eval y = .int .i64 n := rd_v (opv_rep hs hy).1
  have e : max m n = if n > m then n else m := by
    split <;> omega
  rw [e]
  simp [execOp, resolve, invoke, builtin, Builtin.max_, Builtin.max2, hp, hq]
theorem q_max {ats : Array TypeId} {x y : Operand} {m n : Int} (hx : opv S.T x = some (.p false [.c (.v (.int .i64 m))])) (hy : opv S.T y = some (.p false [.c (.v (.int .i64 n))])) : Quiet P X S (.call ⟨.builtin .max, #[x, y], ats⟩) (.p false [.c (.v (.int .i64 (max m n)))]) := (qw_max hx hy).q
theorem q_sl_to_map {α : Type} {f : α → List C} {L : List α} {t : TypeId} {x hi : Operand} {e m n k : Nat} {kk : IntKind} {i : Int} (hT : TTOk P TT) (ht : eSz TT t = some (e, m)) (hx : opv S.T x = some (.p false [.c (.s n (List.map f L))])) (hh : opv S.T hi = some (.p false [.c (.v (.int kk i))])) (hi' : i = (k : Int)) (hk : k ≤ L.length) :
    Quiet P X S (.slice t x none (some hi) none) (.p false [.c (.s n (List.map f (L.take k)))]) := by
  rw [List.map_take]
  exact q_sl_to hT ht hx hh hi' (by rw [List.length_map]; exact hk)
theorem q_sl_from_map {α : Type} {f : α → List C} {L : List α} {t : TypeId} {x lo : Operand} {e n k : Nat} {kk : IntKind} {i : Int} (hT : TTOk P TT) (ht : eSz TT t = some (e, n)) (hx : opv S.T x = some (.p false [.c (.s n (List.map f L))])) (hh : opv S.T lo = some (.p false [.c (.v (.int kk i))])) (hi' : i = (k : Int)) (hk : k ≤ L.length) :
    Quiet P X S (.slice t x (some lo) none none) (.p false [.c (.s n (List.map f (L.drop k)))]) := by
  rw [List.map_drop]
  exact q_sl_from hT ht hx hh hi' (by rw [List.length_map]; exact hk)
/-- nil becomes an empty slice of one's own: in a box -/
theorem ev_adopt {T : List (Nat × AV)} {B B' : List (Nat × Nat × List AC)} {R : RL} {M : List (Nat × (Int → Option Value))} {Q : Exit → Act → World → Prop} {c : Code} {b ty : Nat} {cs cs' : List AC} (o nm e n : Nat) (hb : lk B b = some (ty, cs)) (hn : nthO o cs = some (.c .nil)) (hp : putO o [.rt nm] cs = some cs') (hB : updB b cs' B = some B') (hf : freshR nm ⟨T, B, R, M⟩ = true)
    (h : Ev P X c Q ⟨T, B', (nm, e, n, []) :: R, M⟩) : Ev P X c Q ⟨T, B, R, M⟩ := by
  intro ρ a w hs
  have hs1 := hs.newroot (nm := nm) (ty := e) (n := n) (l := []) (u := .slice none 0 0) (xs := []) (F := []) OwS.nil (by simp) (by simp) hf
  obtain ⟨p, ty', l', q, hBe, rfl, hlk⟩ := updB_eq hB
  rw [hb] at hlk
  cases hlk
  refine h _ a w ⟨⟨hs1.hp.H, fun x hx => ?_, hs1.hp.R, hs1.hp.M, ?_, ?_⟩, hs1.T, hs1.df, hs1.sz, hs1.fr, ?_⟩
  · have hx' : x = (b, ty, cs') ∨ x ∈ B := by
      rw [hBe]
      rcases List.mem_append.1 hx with hx | hx
      · exact .inr (List.mem_append_left _ hx)
      · rcases List.mem_cons.1 hx with hx | hx
        · exact .inl hx
        · exact .inr (List.mem_append_right _ (List.mem_cons_of_mem _ hx))
    rcases hx' with rfl | hx'
    · obtain ⟨vs, h1, h2⟩ := hs1.hp.B _ (lk_mem hb)
      refine ⟨vs, h1, ?_⟩
      obtain ⟨rfl, hle⟩ := putO_eq hp
      obtain ⟨u, hu, hr⟩ := h2.get (nthO_eq hn)
      have hu0 : u = .slice none 0 0 := rd_nil hr
      subst hu0
      have hrt : RepC (ρ.setRoot nm (.slice none 0 0) [] []) (.rt nm) (.slice none 0 0) := ⟨by show _ = if nm = nm then Value.slice none 0 0 else _; rw [if_pos rfl], rfl⟩
      have hvs : vs = vs.take o ++ [.slice none 0 0] ++ vs.drop (o + 1) := by
        have hlt : o < vs.length := (List.getElem?_eq_some_iff.1 hu).1
        have he : vs[o] = .slice none 0 0 := (List.getElem?_eq_some_iff.1 hu).2
        rw [List.append_assoc, List.singleton_append, ← he, List.getElem_cons_drop, List.take_append_drop]
      rw [hvs]
      exact (L2.append (h2.take o) (show L2 _ [AC.rt nm] [_] from ⟨hrt, trivial⟩)).append (h2.drop (o + 1))
    · exact hs1.hp.B x hx'
  · have := hs1.hp.nd
    unfold feet at this ⊢
    rw [hBe] at this
    simpa using this
  · intro k hk
    refine hs1.hp.dj k ?_
    unfold feet at hk ⊢
    rw [hBe]
    simpa using hk
  · intro k hk
    refine hs1.ft k ?_
    unfold feet at hk ⊢
    rw [hBe]
    simpa using hk
/-- make with no elements -/
theorem e_make0 {T : List (Nat × AV)} {B : List (Nat × Nat × List AC)} {R : RL} {M : List (Nat × (Int → Option Value))} {t d e n m : Nat} {x y : Operand} {k1 k2 : IntKind} {i j : Int} {inf : TI} (hT : TTOk P TT) (ht : eSz TT t = some (e, n)) (hi : lk TT e = some inf) (hby : lenBy TT e = true) (hx : opv T x = some (.p false [.c (.v (.int k1 i))])) (hy : opv T y = some (.p false [.c (.v (.int k2 j))]))
    (him : i = 0) (hjm : j = (m : Int)) (hb : m ≤ 1000000000) (hN : okD X d = true) (hf : freshR d ⟨T, B, R, M⟩ = true) : Eff P X ⟨T, B, R, M⟩ (some d) (.makeSlice t x y) ⟨(d, .p false [.rt d]) :: T, B, (d, e, n, []) :: R, M⟩ true := by
  intro ρ a w hs
  subst him; subst hjm
  have hex : a.eval x = .int k1 0 := rd_v (opv_rep hs hx).1
  have hey : a.eval y = .int k2 (m : Int) := rd_v (opv_rep hs hy).1
  obtain ⟨hu, i0, hi0, hin0⟩ := eSz_ok hT ht
  have hi' := hT e inf hi
  obtain ⟨ii, hinf, hsz1, hby1, hz⟩ := hi'.info
  have hin : inf.size = n := by
    obtain ⟨i2, h2, h3, _⟩ := hi0.info
    rw [hinf] at h2; cases h2
    rw [← hsz1, h3]; exact hin0
  have hbb : inf.bytes ≤ 100000 := by
    unfold lenBy at hby
    rw [hi] at hby
    exact Nat.le_of_ble_eq_true hby
  have hbytes : ii.bytes * m ≤ 281474976710656 := by
    rw [hby1]
    have := Nat.mul_le_mul hbb hb
    omega
  obtain ⟨w', hrun, h1, h2⟩ := run_make_own (P := P) w 0 t e ii _ n hu hinf hz (hsz1.trans hin) k1 k2 m hbytes (by simp only [maxLen]; omega) (Nat.zero_le _)
  have hbel : Below w.heap.size w w' := ⟨h2.os, h2.tape, h2.output, h2.size, fun k hk => h2.block k hk (by simp)⟩
  have ho : OwS w' e n [] (.slice (some ⟨w.heap.size, 0, none⟩) 0 m) [] [w.heap.size] := ⟨[], ⟨h1, by simp, trivial⟩, rfl⟩
  have hsim := (hs.next hbel).newroot (nm := d) ho (by simp) (fun b hb => by
    rw [List.mem_singleton.1 hb]
    refine ⟨fun hm => Nat.lt_irrefl _ (hs.hp.lt _ hm), ?_, .inr hs.fr.size⟩
    cases hH : ρ.H w.heap.size with
    | none => rfl
    | some o => exact absurd (heap_lt (hs.hp.H _ o hH)) (Nat.lt_irrefl _)) hf
  exact ⟨_, .value _, _, w', fun _ _ _ _ => by simp [execOp, hex, hey, hrun], .inl rfl, hsim.put hN (root_rep rfl), fun _ => hbel⟩
end
end Go.Proofs.YtphaggopgdbojaaGreat
