/- Operations that read only, on states. No program in it. -/
import Derived.Test.YtphaggopgdbojaaGreatReV2
import Derived.Laws.Entries
import Derived.Laws.Cells
namespace Go.Proofs.YtphaggopgdbojaaGreat
open Go.ChangeShapes Go.WideShapes Go.ChangeAt Go.RowKit
set_option linter.unusedVariables false

/-- the shape of a type: a struct (offset, size, whether a struct: of each field); an array; a slice; bool; another one -/
inductive Sh where
  | st (f : List (Nat × Nat × Bool))
  | ar (len e size : Nat) (agg : Bool)
  | sl (e : Nat)
  | bo
  | ot
structure TI where
  size : Nat
  bytes : Nat
  zero : List C
  sh : Sh
def Sh.agg : Sh → Bool
  | .st _ => true
  | .ar .. => true
  | _ => false
def cv : C → Value
  | .v x => x
  | _ => .slice none 0 0
def vEq : C → Value → Bool
  | .v (.int k n), .int j m => decide (k = j) && decide (n = m)
  | .v (.bool b), .bool c => decide (b = c)
  | .v (.pointer none), .pointer none => true
  | .v (.map none), .map none => true
  | .v .nilFunc, .nilFunc => true
  | .v .nilIface, .nilIface => true
  | .nil, .slice none l c => decide (l = 0) && decide (c = 0)
  | _, _ => false
theorem vEq_cv {c : C} {x : Value} (h : vEq c x = true) : x = cv c ∧ (∀ H, RdX H c x) ∧ ∀ w, OwX w c x [] := by
  unfold vEq at h
  split at h
  · simp only [Bool.and_eq_true, decide_eq_true_eq] at h; obtain ⟨rfl, rfl⟩ := h; exact ⟨rfl, fun _ => ⟨0, rfl, rfl⟩, fun _ => ⟨0, ⟨rfl, rfl⟩, rfl⟩⟩
  · simp only [decide_eq_true_eq] at h; subst h; exact ⟨rfl, fun _ => ⟨0, rfl, rfl⟩, fun _ => ⟨0, ⟨rfl, rfl⟩, rfl⟩⟩
  · exact ⟨rfl, fun _ => ⟨0, rfl, rfl⟩, fun _ => ⟨0, ⟨rfl, rfl⟩, rfl⟩⟩
  · exact ⟨rfl, fun _ => ⟨0, rfl, rfl⟩, fun _ => ⟨0, ⟨rfl, rfl⟩, rfl⟩⟩
  · exact ⟨rfl, fun _ => ⟨0, rfl, rfl⟩, fun _ => ⟨0, ⟨rfl, rfl⟩, rfl⟩⟩
  · exact ⟨rfl, fun _ => ⟨0, rfl, rfl⟩, fun _ => ⟨0, ⟨rfl, rfl⟩, rfl⟩⟩
  · simp only [Bool.and_eq_true, decide_eq_true_eq] at h; obtain ⟨rfl, rfl⟩ := h; exact ⟨rfl, fun _ => ⟨0, rfl⟩, fun _ => ⟨0, rfl, rfl⟩⟩
  · cases h
def all2 : List C → List Value → Bool
  | [], [] => true
  | c :: cs, x :: xs => vEq c x && all2 cs xs
  | _, _ => false
theorem all2_eq : ∀ {cs : List C} {xs : List Value}, all2 cs xs = true → xs = cs.map cv ∧ ∀ c ∈ cs, (∀ H, RdX H c (cv c)) ∧ ∀ w, OwX w c (cv c) []
  | [], [], _ => ⟨rfl, by simp⟩
  | c :: cs, x :: xs, h => by
    simp only [all2, Bool.and_eq_true] at h
    obtain ⟨rfl, h1, h3⟩ := vEq_cv h.1
    obtain ⟨rfl, h2⟩ := all2_eq h.2
    refine ⟨rfl, fun d hd => ?_⟩
    rcases List.mem_cons.1 hd with rfl | hd
    · exact ⟨h1, h3⟩
    · exact h2 d hd
  | [], _ :: _, h => by cases h
  | _ :: _, [], h => by cases h
def aggB (P : Program) (T : TypeId) : Bool :=
  match P.underlying T with
  | some (.struct _) => true
  | some (.array _ _) => true
  | _ => false
def sizB (P : Program) (T : TypeId) (n : Nat) : Bool := match P.info? T with | some i => decide (i.size = n) | none => false
def undB (P : Program) (T : TypeId) : Bool := (P.underlying T).isSome
def fldsB (P : Program) : List Field → List (Nat × Nat × Bool) → Bool
  | [], [] => true
  | f :: fs, (o, s, g) :: r => decide (f.offset = o) && decide (0 < s) && sizB P f.type s && undB P f.type && (aggB P f.type == g) && (g || decide (s = 1)) && fldsB P fs r
  | _, _ => false
def shB (P : Program) : TypeDesc → Sh → Bool
  | .struct fs, s => match s with
    | .st l => fldsB P fs.toList l
    | _ => false
  | .array n e, s => match s with
    | .ar m e' sz g => decide (n = m) && decide (e = e') && decide (0 < sz) && sizB P e sz && undB P e && (aggB P e == g) && (g || decide (sz = 1))
    | _ => false
  | .slice e, s => match s with
    | .sl e' => decide (e = e')
    | _ => false
  | .bool, s => match s with
    | .bo => true
    | _ => false
  | _, s => match s with
    | .ot => true
    | _ => false
def tchk (P : Program) (T : TypeId) (i : TI) : Bool :=
  match P.info? T, P.underlying T with
  | some inf, some d => decide (inf.size = i.size) && decide (inf.bytes = i.bytes) && decide (0 < i.size) && (i.sh.agg || decide (i.size = 1)) && decide (i.zero.length = i.size) && shB P d i.sh &&
    (match inf.zero with
      | some (.agg vs) => i.sh.agg && all2 i.zero vs.toList
      | some x => !i.sh.agg && all2 i.zero [x]
      | none => false)
  | _, _ => false
structure TOk (P : Program) (T : TypeId) (i : TI) : Prop where
  info : ∃ inf, P.info? T = some inf ∧ inf.size = i.size ∧ inf.bytes = i.bytes ∧ inf.zero = some (if i.sh.agg then .agg (i.zero.map cv).toArray else (i.zero.map cv).headD undef)
  und : ∃ d, P.underlying T = some d ∧ shB P d i.sh = true
  pos : 0 < i.size
  one : i.sh.agg = false → i.size = 1
  len : i.zero.length = i.size
  zero : ∀ c ∈ i.zero, (∀ H, RdX H c (cv c)) ∧ ∀ w, OwX w c (cv c) []
theorem tok {P : Program} {T : TypeId} {i : TI} (h : tchk P T i = true) : TOk P T i := by
  unfold tchk at h
  split at h
  · rename_i inf d hi hd
    simp only [Bool.and_eq_true, decide_eq_true_eq, Bool.or_eq_true] at h
    obtain ⟨⟨⟨⟨⟨⟨h1, h2⟩, h3⟩, h4⟩, h5⟩, h6⟩, h7⟩ := h
    have hz : inf.zero = some (if i.sh.agg then .agg (i.zero.map cv).toArray else (i.zero.map cv).headD undef) ∧ ∀ c ∈ i.zero, (∀ H, RdX H c (cv c)) ∧ ∀ w, OwX w c (cv c) [] := by
      split at h7
      · rename_i vs hv
        simp only [Bool.and_eq_true] at h7
        obtain ⟨e, h9⟩ := all2_eq h7.2
        refine ⟨?_, h9⟩
        rw [hv, if_pos h7.1, ← e]
      · rename_i x _ hv
        simp only [Bool.and_eq_true, Bool.not_eq_true'] at h7
        obtain ⟨e, h9⟩ := all2_eq h7.2
        refine ⟨?_, h9⟩
        rw [hv, h7.1, ← e]
        rfl
      · cases h7
    exact ⟨⟨inf, hi, h1, h2, hz.1⟩, ⟨d, hd, h6⟩, h3, fun hg => h4.resolve_left (by simp [hg]), h5, hz.2⟩
  · cases h
def TTOk (P : Program) (TT : List (Nat × TI)) : Prop := ∀ T i, lk TT T = some i → TOk P T i
theorem ttok {P : Program} {TT : List (Nat × TI)} (h : (TT.all fun x => tchk P x.1 x.2) = true) : TTOk P TT := fun T i hT => tok (List.all_eq_true.1 h (T, i) (lk_mem hT))
section
variable {P : Program} {T : TypeId} {i : TI} {w : World}
theorem shB_agg {d : TypeDesc} {s : Sh} (h : shB P d s = true) : s.agg = (match d with | .struct _ => true | .array _ _ => true | _ => false) := by
  cases d <;> cases s <;> first | rfl | (cases h)
theorem TOk.isAgg (h : TOk P T i) : (isAgg T).run P w = .ok i.sh.agg w := by
  obtain ⟨d, hd, hs⟩ := h.und
  rw [shB_agg hs]
  unfold Go.isAgg
  rw [Sem.run_bind, run_underlying hd]
  cases d <;> rfl
theorem TOk.sizeOf (h : TOk P T i) : (sizeOf T).run P w = .ok i.size w := by
  obtain ⟨inf, hi, h1, _⟩ := h.info
  simp [Go.sizeOf, typeInfo, hi, h1]
theorem TOk.zeroValue (h : TOk P T i) : (zeroValue T).run P w = .ok (if i.sh.agg then .agg (i.zero.map cv).toArray else (i.zero.map cv).headD undef) w := by
  obtain ⟨inf, hi, _, _, h1⟩ := h.info
  simp [Go.zeroValue, typeInfo, hi, h1]
end
theorem headD_one {us : List Value} (h : us.length = 1) : us = [us.headD undef] := by
  match us, h with
  | [x], _ => rfl
/-- a value of a type, of its cells -/
def mkV (g : Bool) (us : List Value) : Value := if g then .agg us.toArray else us.headD undef
theorem mkV_rep {ρ : Rho} {g : Bool} {l : List AC} {us : List Value} (h : L2 (RepC ρ) l us) (h1 : g = false → us.length = 1) : RepP ρ (g, l) (mkV g us) := by
  unfold RepP mkV
  cases g
  · simp only [Bool.false_eq_true, if_false]
    have := headD_one (h1 rfl)
    rw [← this]
    exact h
  · simp only [if_true]
    exact ⟨us, rfl, h⟩
theorem rep_cells {ρ : Rho} {g : Bool} {l : List AC} {u : Value} (h : RepP ρ (g, l) u) : ∃ us : List Value, L2 (RepC ρ) l us ∧ u = mkV g us ∧ (g = false → us.length = 1) := by
  unfold RepP at h
  cases g
  · exact ⟨[u], h, rfl, fun _ => rfl⟩
  · obtain ⟨vs, rfl, h2⟩ := h
    exact ⟨vs, h2, rfl, fun h => by cases h⟩
theorem run_load_cells {P : Program} {T : TypeId} {i : TI} {w : World} (ht : TOk P T i) {g o : Nat} {us : List Value} (hc : ∀ (j : Nat) (u : Value), us[j]? = some u → w.cell? ⟨g, o + j, none⟩ = some u) (hl : us.length = i.size) :
    (Instr.loadAt T (.pointer (some ⟨g, o, none⟩))).run P w = .ok (mkV i.sh.agg us) w := by
  have hadd : ∀ j, (Addr.mk g o none).add j = ⟨g, o + j, none⟩ := fun j => by unfold Addr.add; split <;> simp_all
  unfold Instr.loadAt Instr.sureAddr loadVar mkV
  simp only [Sem.run_bind, Sem.run_pure, Result.andThen_ok, ht.isAgg]
  cases hg : i.sh.agg
  · simp only [Bool.false_eq_true, if_false]
    have h1 := ht.one hg
    have hu := headD_one (hl.trans h1)
    have := hc 0 (us.headD undef) (by rw [hu]; rfl)
    simp only [Nat.add_zero] at this
    simp [load, Sem.run, this]
  · simp only [if_true, Sem.run_bind, ht.sizeOf, Result.andThen_ok]
    rw [← hl, run_loadCells_list w _ us (fun j v hj => by rw [hadd]; exact hc j v hj)]
    rfl

def takeO {α : Type} : Nat → List α → Option (List α)
  | 0, _ => some []
  | _ + 1, [] => none
  | n + 1, x :: xs => match takeO n xs with
    | some r => some (x :: r)
    | none => none
def dropO {α : Type} : Nat → List α → Option (List α)
  | 0, l => some l
  | _ + 1, [] => none
  | n + 1, _ :: xs => dropO n xs
theorem takeO_eq {α : Type} : ∀ {n : Nat} {l r : List α}, takeO n l = some r → r = l.take n ∧ r.length = n
  | 0, _, r, h => by cases h; simp
  | _ + 1, [], _, h => by cases h
  | n + 1, x :: xs, r, h => by
    unfold takeO at h
    split at h
    · rename_i r' hr
      cases h
      obtain ⟨rfl, h2⟩ := takeO_eq hr
      exact ⟨by simp, by simp [h2]⟩
    · cases h
theorem dropO_eq {α : Type} : ∀ {n : Nat} {l r : List α}, dropO n l = some r → r = l.drop n ∧ n ≤ l.length
  | 0, l, r, h => by cases h; simp
  | _ + 1, [], _, h => by cases h
  | n + 1, x :: xs, r, h => by
    obtain ⟨rfl, h2⟩ := dropO_eq (n := n) h
    exact ⟨rfl, by simp; exact h2⟩
def mapCO : List C → List AC
  | [] => []
  | c :: r => .c c :: mapCO r
theorem mapCO_eq : ∀ l : List C, mapCO l = l.map AC.c
  | [] => rfl
  | c :: r => by simp [mapCO, mapCO_eq r]

theorem rd_v {H : Nat → Option Obj} {x u : Value} (h : RdX H (.v x) u) : u = x := by obtain ⟨d, hd⟩ := h; cases d <;> exact hd.1
theorem rd_nil {H : Nat → Option Obj} {u : Value} (h : RdX H .nil u) : u = .slice none 0 0 := by obtain ⟨d, hd⟩ := h; cases d <;> exact hd
theorem rd_s {H : Nat → Option Obj} {n : Nat} {l : List (List C)} {u : Value} (h : RdX H (.s n l) u) : ∃ ao cap, u = .slice ao l.length cap ∧ l.length ≤ cap ∧ cap ≤ maxLen ∧ (∀ cs ∈ l, cs.length = n) ∧
    (l = [] ∨ ∃ b off, ao = some ⟨b, off, none⟩ ∧ ∀ k cs, l[k]? = some cs → ∀ j c, cs[j]? = some c → ∃ x, rcell H b (off + k * n + j) = some x ∧ RdX H c x) := by
  obtain ⟨d, hd⟩ := h
  cases d with
  | zero => exact hd.elim
  | succ d =>
    obtain ⟨ao, cap, h1, h2, h3, h4, h5⟩ := hd
    refine ⟨ao, cap, h1, h2, h3, h4, ?_⟩
    rcases h5 with h5 | ⟨b, off, h6, h7⟩
    · exact .inl h5
    · exact .inr ⟨b, off, h6, fun k cs hk j c hj => let ⟨x, h8, h9⟩ := h7 k cs hk j c hj; ⟨x, h8, d, h9⟩⟩
def mapOO : List C → Option (List AC)
  | [] => some []
  | c :: r => match mapOO r with
    | some r' => some (.c c :: r')
    | none => none
theorem mapOO_eq : ∀ {l : List C} {r : List AC}, mapOO l = some r → r = mapCO l
  | [], r, h => by cases h; rfl
  | c :: l, r, h => by
    unfold mapOO at h
    split at h
    · rename_i r' hr
      cases h
      rw [mapOO_eq hr]; rfl
    · cases h
def constV : Value → Option AV
  | .int k n => some (.p false [.c (.v (.int k n))])
  | .bool b => some (.p false [.c (.v (.bool b))])
  | .slice none l c => if l = 0 then if c = 0 then some (.p false [.c .nil]) else none else none
  | .pointer none => some (.p false [.c (.v (.pointer none))])
  | .nilFunc => some (.p false [.c (.v .nilFunc)])
  | .nilIface => some (.p false [.c (.v .nilIface)])
  | _ => none
def opv (T : List (Nat × AV)) : Operand → Option AV
  | .tmp t => lk T t
  | .const v => constV v
  | .func f => some (.p false [.c (.v (.func (.func f) #[] #[]))])
  | .global _ => none
theorem constV_rep {ρ : Rho} {v : Value} {av : AV} (h : constV v = some av) : RepV ρ av v := by
  unfold constV at h
  split at h
  · cases h; exact ⟨⟨0, rfl, rfl⟩, trivial⟩
  · cases h; exact ⟨⟨0, rfl, rfl⟩, trivial⟩
  · split at h
    · split at h
      · rename_i e1 e2; subst e1; subst e2; cases h; exact ⟨⟨0, rfl⟩, trivial⟩
      · cases h
    · cases h
  · cases h; exact ⟨⟨0, rfl, rfl⟩, trivial⟩
  · cases h; exact ⟨⟨0, rfl, rfl⟩, trivial⟩
  · cases h; exact ⟨⟨0, rfl, rfl⟩, trivial⟩
  · cases h
section
variable {X : Cx} {ρ : Rho} {S : St} {a : Act} {w : World}
theorem opv_rep (hs : Sim X ρ S a w) {x : Operand} {av : AV} (h : opv S.T x = some av) : RepV ρ av (a.eval x) := by
  cases x with
  | tmp t =>
    obtain ⟨v, h1, h2⟩ := hs.T t av h
    have e : a.eval (.tmp t) = v := by simp [Act.eval, Array.getD_eq_getD_getElem?, h1]
    rw [e]; exact h2
  | const v => exact constV_rep h
  | global g => cases h
  | func f => cases h; exact ⟨⟨0, rfl, rfl⟩, trivial⟩
end
/-- an operation that only reads: whatever has come to the heap since, it gives v -/
def Quiet (P : Program) (X : Cx) (S : St) (op : Op) (av : AV) : Prop :=
  ∀ ρ a w, Sim X ρ S a w → ∃ v, RepV ρ av v ∧ ∀ (d : Option Tmp) (ty : TypeId) (pos : String) (af : Array Edge) (g : Option (Nat × Bool)) (w' : World), Below w.heap.size w w' → (execOp a.eval ⟨d, op, ty, pos, af, g⟩).run P w' = .ok (.value v) w'
/-- in whatever world -/
def QuietW (P : Program) (X : Cx) (S : St) (op : Op) (av : AV) : Prop :=
  ∀ ρ a w, Sim X ρ S a w → ∃ v, RepV ρ av v ∧ ∀ (d : Option Tmp) (ty : TypeId) (pos : String) (af : Array Edge) (g : Option (Nat × Bool)) (w' : World), (execOp a.eval ⟨d, op, ty, pos, af, g⟩).run P w' = .ok (.value v) w'
theorem QuietW.q {P : Program} {X : Cx} {S : St} {op : Op} {av : AV} (h : QuietW P X S op av) : Quiet P X S op av := fun ρ a w hs => let ⟨v, h1, h2⟩ := h ρ a w hs; ⟨v, h1, fun d ty pos af g w' _ => h2 d ty pos af g w'⟩
section
variable {P : Program} {X : Cx} {S : St} {TT : List (Nat × TI)}
theorem qw_move {x : Operand} {av : AV} (h : opv S.T x = some av) : QuietW P X S (.move x) av :=
  fun _ a _ hs => ⟨a.eval x, opv_rep hs h, fun _ _ _ _ _ _ => rfl⟩
theorem qw_assign {x : Operand} {av : AV} (h : opv S.T x = some av) : QuietW P X S (.assign x) av :=
  fun _ a _ hs => ⟨a.eval x, opv_rep hs h, fun _ _ _ _ _ _ => rfl⟩
theorem q_move {x : Operand} {av : AV} (h : opv S.T x = some av) : Quiet P X S (.move x) av := (qw_move h).q
theorem q_assign {x : Operand} {av : AV} (h : opv S.T x = some av) : Quiet P X S (.assign x) av := (qw_assign h).q
def qPick (T : List (Nat × AV)) (c x y : Operand) : Option AV :=
  match opv T c with
  | some (.p false [.c (.v (.bool true))]) => opv T x
  | some (.p false [.c (.v (.bool false))]) => opv T y
  | _ => none
theorem q_pick {c x y : Operand} {av : AV} (h : qPick S.T c x y = some av) : Quiet P X S (.pick c x y) av := by
  intro ρ a w hs
  unfold qPick at h
  split at h
  · rename_i hc
    have hb := opv_rep hs hc
    have hb' : a.eval c = .bool true := rd_v hb.1
    exact ⟨a.eval x, opv_rep hs h, fun _ _ _ _ _ _ _ => by simp [execOp, hb', asBool]⟩
  · rename_i hc
    have hb := opv_rep hs hc
    have hb' : a.eval c = .bool false := rd_v hb.1
    exact ⟨a.eval y, opv_rep hs h, fun _ _ _ _ _ _ _ => by simp [execOp, hb', asBool]⟩
  · cases h
/-- a truth value that is known -/
theorem q_pick_t {c x y : Operand} {b : Bool} {av : AV} (hc : opv S.T c = some (.p false [.c (.v (.bool b))])) (hb : b = true) (h : opv S.T x = some av) : Quiet P X S (.pick c x y) av :=
  q_pick (by subst hb; unfold qPick; rw [hc]; exact h)
theorem q_pick_f {c x y : Operand} {b : Bool} {av : AV} (hc : opv S.T c = some (.p false [.c (.v (.bool b))])) (hb : b = false) (h : opv S.T y = some av) : Quiet P X S (.pick c x y) av :=
  q_pick (by subst hb; unfold qPick; rw [hc]; exact h)
def mkP : Bool → List AC → Option AV
  | true, l => some (.p true l)
  | false, l => some (.p false l)
theorem mkP_eq {b : Bool} {l : List AC} {av : AV} (h : mkP b l = some av) : av = .p b l := by cases b <;> (cases h; rfl)
def cutO {α : Type} (o n : Nat) (l : List α) : Option (List α) :=
  match dropO o l with
  | some r => takeO n r
  | none => none
theorem cutO_eq {α : Type} {o n : Nat} {l r : List α} (h : cutO o n l = some r) : r = (l.drop o).take n ∧ r.length = n := by
  unfold cutO at h
  split at h
  · rename_i r' hr
    obtain ⟨rfl, _⟩ := dropO_eq hr
    exact takeO_eq h
  · cases h
def qLoad (TT : List (Nat × TI)) (S : St) (t : TypeId) (x : Operand) : Option AV :=
  match lk TT t with
  | some i => match opv S.T x with
    | some (.p false [.pb b o]) => match lk S.B b with
      | some (_, cs) => match cutO o i.size cs with
        | some r => mkP i.sh.agg r
        | none => none
      | none => none
    | some (.p false [.pe cs]) => match cutO 0 i.size cs with
      | some r => match mapOO r with
        | some r' => mkP i.sh.agg r'
        | none => none
      | none => none
    | _ => none
  | none => none
theorem q_load {t : TypeId} {x : Operand} {av : AV} (hT : TTOk P TT) (h : qLoad TT S t x = some av) : Quiet P X S (.load t x) av := by
  intro ρ a w hs
  unfold qLoad at h
  split at h
  · rename_i i hi
    have ht := hT t i hi
    split at h
    · rename_i b o hx
      split at h
      · rename_i ty cs hb
        split at h
        · rename_i r hr
          obtain rfl := mkP_eq h
          obtain ⟨rfl, hrl⟩ := cutO_eq hr
          have hp : a.eval x = .pointer (some ⟨ρ.box b, o, none⟩) := (opv_rep hs hx).1
          obtain ⟨vs, h1, h2⟩ := hs.hp.B _ (lk_mem hb)
          have h3 := (h2.drop o).take i.size
          have hl3 : ((vs.drop o).take i.size).length = i.size := by rw [h3.len, hrl]
          refine ⟨mkV i.sh.agg ((vs.drop o).take i.size), mkV_rep h3 (fun hg => by rw [hl3, ht.one hg]), fun d ty' pos af g w' hw => ?_⟩
          have hcell : ∀ (j : Nat) (u : Value), ((vs.drop o).take i.size)[j]? = some u → w'.cell? ⟨ρ.box b, o + j, none⟩ = some u := fun j u hj => by
            rw [hw.cell (p := ⟨ρ.box b, o + j, none⟩) (heap_lt h1)]
            unfold World.cell?
            simp only [h1, Option.isSome_none, Bool.false_eq_true, if_false]
            rw [List.getElem?_take] at hj
            split at hj
            · rw [List.getElem?_drop] at hj
              simpa using hj
            · cases hj
          have := run_load_cells (w := w') ht hcell hl3
          simp [execOp, hp, this]
        · cases h
      · cases h
    · rename_i cs hx
      split at h
      · rename_i r hr
        split at h
        case h_2 => cases h
        rename_i r2 hr2
        obtain rfl := mapOO_eq hr2
        obtain rfl := mkP_eq h
        obtain ⟨rfl, hrl⟩ := cutO_eq hr
        obtain ⟨g, o, hp, hc⟩ := (opv_rep hs hx).1
        simp only [List.drop_zero] at hrl ⊢
        have hch : ∀ (n : Nat) (cs : List C) (o : Nat), n ≤ cs.length → (∀ j c, cs[j]? = some c → ∃ x, rcell ρ.H g (o + j) = some x ∧ RdX ρ.H c x) →
            ∃ us : List Value, us.length = n ∧ L2 (RepC ρ) ((cs.take n).map AC.c) us ∧ ∀ (j : Nat) (u : Value), us[j]? = some u → rcell ρ.H g (o + j) = some u := by
          intro n
          induction n with
          | zero => exact fun cs o _ _ => ⟨[], rfl, by simp [L2], by simp⟩
          | succ n ih =>
            intro cs o hn hc
            match cs, hn with
            | c :: cs, hn =>
              obtain ⟨x, h1, h2⟩ := hc 0 c rfl
              obtain ⟨us, h3, h4, h5⟩ := ih cs (o + 1) (by simpa using hn) (fun j c hj => by
                obtain ⟨x, h6, h7⟩ := hc (j + 1) c (by simpa using hj)
                exact ⟨x, by rw [show o + 1 + j = o + (j + 1) by omega]; exact h6, h7⟩)
              refine ⟨x :: us, by simp [h3], ⟨h2, h4⟩, fun j u hj => ?_⟩
              cases j with
              | zero => simp only [List.getElem?_cons_zero, Option.some.injEq] at hj; subst hj; exact h1
              | succ j =>
                have := h5 j u (by simpa using hj)
                rw [show o + (j + 1) = o + 1 + j by omega]; exact this
        obtain ⟨us, hul, hu2, hu3⟩ := hch i.size cs o (by rw [List.length_take] at hrl; omega) hc
        refine ⟨mkV i.sh.agg us, mkV_rep (by rw [mapCO_eq]; exact hu2) (fun hg => by rw [hul, ht.one hg]), fun d ty' pos af g' w' hw => ?_⟩
        have hHw : ∀ b o, ρ.H b = some o → w'.heap[b]? = some o := fun b o hb => by
          have := hs.hp.H b o hb
          rw [hw.block b (heap_lt this)]; exact this
        have := run_load_cells (w := w') ht (g := g) (o := o) (fun j u hj => rcell_cell hHw (hu3 j u hj)) hul
        simp [execOp, hp, this]
      · cases h
    · cases h
  · cases h
end
end Go.Proofs.YtphaggopgdbojaaGreat
