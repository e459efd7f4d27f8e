import Derived.Test.YtchcogjfmbfccaaOm7
set_option linter.unusedVariables false
set_option linter.unusedSimpArgs false
namespace Go.OM

/-! ### What is known of types -/
inductive TK where
  | int (k : IntKind)
  | bool
  | str
  | slice (e : TypeId)
  | struct (offs : List (Nat × Nat))
  | ptr
  | func
  | iface
structure TI where
  size : Nat
  bytes : Nat
  kind : TK
  zero : List TA
def TK.isStruct : TK → Bool
  | .struct _ => true
  | _ => false
/-- How a value of the type is made out of its cells: none: one cell. -/
def TI.kk (ti : TI) : Option Nat := if ti.kind.isStruct = true then some ti.size else none
def TI.zv (ti : TI) : Value := if ti.kind.isStruct = true then .agg (TA.vals ti.zero).toArray else (TA.vals ti.zero).headD undef
def zeroCell : TA → Bool
  | .v (.int _ _) => true
  | .v (.bool _) => true
  | .v (.string _) => true
  | .v .nilFunc => true
  | .v .nilIface => true
  | .v (.pointer none) => true
  | .nl true _ none => true
  | _ => false
def TI.wf (ti : TI) : Bool := ti.zero.length == ti.size && ti.zero.all zeroCell && (ti.kind.isStruct || ti.size == 1)
def structOffs (P : Program) (t : TypeId) : Option (List (Nat × Nat)) := match P.underlying t with
  | some (.struct fs) => fs.toList.mapM fun f => match P.info? f.type with
    | some i => if i.size = 0 then none else some (f.offset, i.size)
    | none => none
  | _ => none
def KindOk (P : Program) (t : TypeId) : TK → Prop
  | .int k => P.underlying t = some (.int k)
  | .bool => P.underlying t = some .bool
  | .str => P.underlying t = some .string
  | .slice e => P.underlying t = some (.slice e)
  | .struct offs => structOffs P t = some offs
  | .ptr => ∃ e, P.underlying t = some (.pointer e)
  | .func => ∃ a b c, P.underlying t = some (.func a b c)
  | .iface => ∃ ms, P.underlying t = some (.interface ms)
def TIok (P : Program) (t : TypeId) (ti : TI) : Prop :=
  (P.info? t).map (fun i => (i.zero, i.size, i.bytes)) = some (some ti.zv, ti.size, ti.bytes) ∧ KindOk P t ti.kind ∧ ti.wf = true
structure Env where
  P : Program
  ty : TypeId → Option TI
  ok : ∀ t ti, ty t = some ti → TIok P t ti
  mixed : P.follows .mixedOrders = true

section
variable {P : Program} {t : TypeId} {ti : TI} (w : World)
theorem TIok.info (h : TIok P t ti) : ∃ i, P.info? t = some i ∧ i.zero = some ti.zv ∧ i.size = ti.size ∧ i.bytes = ti.bytes := by
  obtain ⟨i, hi, he⟩ := Option.map_eq_some_iff.1 h.1
  simp only [Prod.mk.injEq] at he
  exact ⟨i, hi, he.1, he.2.1, he.2.2⟩
theorem TIok.und (h : TIok P t ti) : ∃ d, P.underlying t = some d ∧ ((match d with | .struct _ => true | .array .. => true | _ => false) = ti.kind.isStruct) := by
  have hk := h.2.1
  cases hh : ti.kind <;> rw [hh] at hk <;> simp only [KindOk] at hk
  case struct offs =>
    unfold structOffs at hk
    split at hk
    · rename_i fs hfs; exact ⟨_, hfs, rfl⟩
    · cases hk
  case ptr => obtain ⟨e, he⟩ := hk; exact ⟨_, he, rfl⟩
  case func => obtain ⟨a, b, c, he⟩ := hk; exact ⟨_, he, rfl⟩
  case iface => obtain ⟨a, he⟩ := hk; exact ⟨_, he, rfl⟩
  all_goals exact ⟨_, hk, rfl⟩
theorem TIok.run_isAgg (h : TIok P t ti) : (isAgg t).run P w = .ok ti.kind.isStruct w := by
  obtain ⟨d, hd, hs⟩ := h.und
  unfold isAgg
  simp only [Sem.run_bind, run_underlying hd, Result.andThen_ok]
  rw [← hs]
  cases d <;> rfl
theorem TIok.run_sizeOf (h : TIok P t ti) : (sizeOf t).run P w = .ok ti.size w := by
  obtain ⟨i, hi, _, hs, _⟩ := h.info
  simp [sizeOf, typeInfo, hi, hs]
theorem TIok.run_zero (h : TIok P t ti) : (zeroValue t).run P w = .ok ti.zv w := by
  obtain ⟨i, hi, hz, hs, _⟩ := h.info
  simp [zeroValue, typeInfo, hi, hz]
theorem TIok.len (h : TIok P t ti) : ti.zero.length = ti.size := by
  have := h.2.2
  simp only [TI.wf, Bool.and_eq_true, beq_iff_eq] at this
  exact this.1.1
theorem TIok.cell (h : TIok P t ti) : ∀ c ∈ ti.zero, zeroCell c = true := by
  have := h.2.2
  simp only [TI.wf, Bool.and_eq_true, List.all_eq_true] at this
  exact this.1.2
theorem TIok.one (h : TIok P t ti) : ti.kind.isStruct = false → ti.size = 1 := by
  have := h.2.2
  simp only [TI.wf, Bool.and_eq_true, Bool.or_eq_true, beq_iff_eq] at this
  intro hk
  rcases this.2 with h2 | h2
  · rw [hk] at h2; cases h2
  · exact h2
end

def mkT : Option Nat → List T → T
  | some _, l => .agg l
  | none, l => l.headD .dead
def mkTA : Option Nat → List TA → TA
  | some _, l => .agg l
  | none, l => l.headD (.dead undef)
theorem er_mkTA (k : Option Nat) (l : List TA) : (mkTA k l).er = mkT k (TA.erL l) := by
  cases k with
  | some _ => rfl
  | none => cases l <;> rfl
theorem mkTA_cells {k : Option Nat} {l : List TA} (h : k = none → l.length = 1) (hc : ∀ c ∈ l, c.isCell = true) : (mkTA k l).cells = l := by
  cases k with
  | some _ => rfl
  | none =>
    obtain ⟨x, rfl⟩ := List.length_eq_one_iff.1 (h rfl)
    have := hc x (by simp)
    cases x <;> simp_all [mkTA, TA.cells, TA.isCell]
theorem mkTA_val {k : Option Nat} {l : List TA} (h : k = none → l.length = 1) (hc : ∀ c ∈ l, c.isCell = true) : (mkTA k l).val = mkVal k l := by
  cases k with
  | some _ => rfl
  | none =>
    obtain ⟨x, rfl⟩ := List.length_eq_one_iff.1 (h rfl)
    have := hc x (by simp)
    cases x <;> first | (simp [TA.isCell] at this; done) | rfl
theorem mkTA_cnt {k : Option Nat} {l : List TA} (q : Nat) (h : k = none → l.length = 1) : (mkTA k l).cnt q = TA.cntL q l := by
  cases k with
  | some _ => simp [mkTA, TA.cnt]
  | none =>
    obtain ⟨x, rfl⟩ := List.length_eq_one_iff.1 (h rfl)
    simp [mkTA, TA.cntL]
theorem mkTA_holds {Z : Nat → Prop} {h : Array Obj} {k : Option Nat} {l : List TA} (hl : k = none → l.length = 1) (hc : ∀ c ∈ l, c.isCell = true) (hh : TA.HoldsL Z h l) : (mkTA k l).Holds Z h := by
  cases k with
  | some _ => simp only [mkTA, TA.Holds]; exact ⟨hh, hc⟩
  | none =>
    obtain ⟨x, rfl⟩ := List.length_eq_one_iff.1 (hl rfl)
    simpa [mkTA, TA.HoldsL] using hh

/-! ### Operands -/
def scal : Value → Bool
  | .int _ _ => true
  | .bool _ => true
  | .string _ => true
  | .func _ _ _ => true
  | .nilFunc => true
  | .nilIface => true
  | _ => false
namespace St
def op (s : St) : Operand → AV
  | .tmp n => s.get n
  | .const v => if scal v = true then .t (.v v) else .u
  | .func f => .t (.v (.func (.func f) #[] #[]))
  | .global _ => .u
/-- An operand that is one cell with an address in it nowhere. -/
def sc (s : St) (x : Operand) : Option Value := match s.op x with
  | .t (.v y) => some y
  | _ => none
end St
variable {C : Ctx} {Z : Nat → Prop} {s : StA} {a : Act} {w w' : World}
theorem opA (H : SRel C Z s a w) (x : Operand) : ∃ xA : AVA, xA.er = s.er.op x ∧ ValOk s Z w.heap xA (a.eval x) := by
  cases x with
  | tmp n =>
    simp only [St.op, St.get, look_er]
    cases h : look s.tm n with
    | none => exact ⟨.u, rfl, trivial⟩
    | some y => exact ⟨y, rfl, H.tm n y h⟩
  | const v =>
    simp only [St.op]
    by_cases h : scal v = true
    · rw [if_pos h]
      refine ⟨.t (.v v), rfl, rfl, ?_⟩
      cases v <;> simp_all [scal, TA.Holds, TA.OneCell]
    · rw [if_neg h]
      exact ⟨.u, rfl, trivial⟩
  | func f => exact ⟨.t (.v (.func (.func f) #[] #[])), rfl, rfl, by simp [TA.Holds, TA.OneCell]⟩
  | global g => exact ⟨.u, rfl, trivial⟩
theorem er_t {x : AVA} {y : T} (h : x.er = .t y) : ∃ z, x = .t z ∧ z.er = y := by
  cases x with
  | t z => simp only [AVA.er, AV.t.injEq] at h; exact ⟨z, rfl, h⟩
  | _ => simp [AVA.er] at h
theorem er_al {x : AVA} {r : Root} {o : Nat} {p : Path} {k : Option Nat} (h : x.er = .al r o p k) : x = .al r o p k := by
  cases x with
  | al r1 o1 p1 k1 => simp only [AVA.er, AV.al.injEq] at h; obtain ⟨rfl, rfl, rfl, rfl⟩ := h; rfl
  | _ => simp [AVA.er] at h
theorem er_ref {x : AVA} {r : Root} {o : Nat} {p : Path} (h : x.er = .ref r o p) : x = .ref r o p := by
  cases x with
  | ref r1 o1 p1 => simp only [AVA.er, AV.ref.injEq] at h; obtain ⟨rfl, rfl, rfl⟩ := h; rfl
  | _ => simp [AVA.er] at h
theorem er_rop {x : AVA} {cs : List T} {o : Nat} (h : x.er = .rop cs o) : ∃ b off csA, x = .rop b off csA o ∧ TA.erL csA = cs := by
  cases x with
  | rop b off c1 o1 => simp only [AVA.er, AV.rop.injEq] at h; obtain ⟨h1, rfl⟩ := h; exact ⟨_, _, _, rfl, h1⟩
  | _ => simp [AVA.er] at h
theorem er_tup {x : AVA} {ys : List T} (h : x.er = .tup ys) : ∃ zs, x = .tup zs ∧ TA.erL zs = ys := by
  cases x with
  | tup z => simp only [AVA.er, AV.tup.injEq] at h; exact ⟨z, rfl, h⟩
  | _ => simp [AVA.er] at h
theorem er_v {x : TA} {y : Value} (h : x.er = .v y) : x = .v y := by
  cases x with
  | v z => simp only [TA.er, T.v.injEq] at h; rw [h]
  | _ => simp [TA.er] at h
theorem er_sl {x : TA} {o : Bool} {s : Nat} {es : List T} (h : x.er = .sl o s es) : (∃ A, x = .nl o s A ∧ es = []) ∨ ∃ b off cap esA, x = .sl o s b off cap esA ∧ TA.erL esA = es := by
  cases x with
  | nl o1 s1 A => simp only [TA.er, T.sl.injEq] at h; obtain ⟨rfl, rfl, h3⟩ := h; exact .inl ⟨A, rfl, h3.symm⟩
  | sl o1 s1 b off cap esA => simp only [TA.er, T.sl.injEq] at h; obtain ⟨rfl, rfl, h3⟩ := h; exact .inr ⟨b, off, cap, esA, rfl, h3⟩
  | _ => simp [TA.er] at h
theorem sc_val {y : Value} {x : Operand} (H : SRel C Z s a w) (h : s.er.sc x = some y) : a.eval x = y ∧ TA.OneCell y := by
  unfold St.sc at h
  split at h
  · rename_i z hz
    injection h with h
    subst h
    obtain ⟨xA, h1, h2⟩ := opA H x
    rw [hz] at h1
    obtain ⟨tA, rfl, h3⟩ := er_t h1
    have h4 := er_v h3
    subst h4
    exact ⟨h2.1, by have := h2.2; simpa [TA.Holds] using this⟩
  · cases h

/-- The state is told by σ. -/
def SOk (C : Ctx) (σ : St) (a : Act) (w : World) : Prop := ∃ s Z, s.er = σ ∧ s.hd = [] ∧ SRel C Z s a w

theorem into_t {d : Nat} (x : T) : (AV.t x).into d = false := rfl

/-- An operation that hands on a value and leaves the world alone. -/
theorem SOk.value {σ : St} {d : Nat} {x : AV} {v : Value} (H : SRel C Z s a w) (hs : s.er = σ) (hh : s.hd = []) (hd : d < C.N) {xA : AVA} (hx : xA.er = x) (hv : ValOk s Z w.heap xA v) (hi : x.into d = false) (hc : ∀ k, xA.cnt k = 0) :
    SOk C (σ.set d x) (a.put (some d) v) w := by
  subst hs; subst hx
  obtain ⟨s', h1, h2, h3⟩ := H.set (hd' := []) hd hv hi (fun k => by rw [hc, hh]; simp [TA.cntL]) (by simp [TA.HoldsL])
  exact ⟨s', Z, h1, h2, h3⟩
theorem SOk.scalar {σ : St} {d : Nat} {v : Value} (H : SOk C σ a w) (hd : d < C.N) (hv : TA.OneCell v) : SOk C (σ.set d (.t (.v v))) (a.put (some d) v) w := by
  obtain ⟨s, Z, h1, h2, h3⟩ := H
  refine SOk.value h3 h1 h2 hd (xA := .t (.v v)) rfl ⟨rfl, by simpa [TA.Holds] using hv⟩ rfl (fun k => rfl)

/-- A world that has only drawn. -/
theorem SOk.drew {σ : St} (H : SOk C σ a w) (n : Nat) : SOk C σ a { w with drawn := n } := by
  obtain ⟨s, Z, h1, h2, h3⟩ := H
  exact ⟨s, Z, h1, h2, h3.drewN n⟩
theorem wp_value {E : Env} {o : Oper} {K : Act → World → Prop} {Q : Exit → Act → World → Prop} {v : Value} (h : (execOp a.eval o).run E.P w = .ok (.value v) w') (hk : K (a.put o.dst v) w') : o.wp E.P a w K Q := by
  unfold Oper.wp
  rw [h]
  exact hk
theorem wp_skip' {E : Env} {o : Oper} {K : Act → World → Prop} {Q : Exit → Act → World → Prop} (h : (execOp a.eval o).run E.P w = .ok .skip w') (hk : K (a.put o.dst undef) w') : o.wp E.P a w K Q := by
  unfold Oper.wp
  rw [h]
  exact hk

/-! ### Operations on plain values -/
def ibin (op : BinOp) (k : IntKind) (x y : Int) : Option Value :=
  match op with
  | .add => some (.int k (k.wrap (x + y)))
  | .sub => some (.int k (k.wrap (x - y)))
  | .mul => some (.int k (k.wrap (x * y)))
  | .quo => if y = 0 then none else some (.int k (k.wrap (x.tdiv y)))
  | .rem => if y = 0 then none else some (.int k (x.tmod y))
  | .eql => some (.bool (x == y))
  | .neq => some (.bool (x != y))
  | .lss => some (.bool (decide (x < y)))
  | .leq => some (.bool (decide (x ≤ y)))
  | .gtr => some (.bool (decide (x > y)))
  | .geq => some (.bool (decide (x ≥ y)))
  | .and | .or | .xor | .andNot => some (.int k (bits op k x y))
  | _ => none
def ishift (op : BinOp) (k : IntKind) (x y : Int) : Option Value :=
  if y < 0 then none else match op with
  | .shl => some (.int k (k.wrap (x * 2 ^ (min y.toNat k.bits))))
  | .shr => some (.int k (x.fdiv (2 ^ (min y.toNat k.bits))))
  | _ => none
def sbin (op : BinOp) (x y : ByteArray) : Option Value :=
  match op with
  | .add => if x.size + y.size ≤ 9223372036854775807 then some (.string (x ++ y)) else none
  | .eql => some (.bool (x.toList == y.toList))
  | .neq => some (.bool !(x.toList == y.toList))
  | .lss => some (.bool (Op.bytesLess x.toList y.toList))
  | .leq => some (.bool (Op.bytesLess x.toList y.toList || x.toList == y.toList))
  | .gtr => some (.bool !(Op.bytesLess x.toList y.toList || x.toList == y.toList))
  | .geq => some (.bool !(Op.bytesLess x.toList y.toList))
  | _ => none
def isShift : BinOp → Bool
  | .shl => true
  | .shr => true
  | _ => false
def binV (isBool : Bool) (op : BinOp) : Value → Value → Option Value
  | .int k x, .int k' y => if isShift op = true then ishift op k x y else if k = k' then ibin op k x y else none
  | .string x, .string y => sbin op x y
  | .bool x, .bool y => if isBool = true then (match op with | .eql => some (.bool (x == y)) | .neq => some (.bool !(x == y)) | _ => none) else none
  | _, _ => none
end Go.OM
