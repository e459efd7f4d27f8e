import Derived.Test.YtchcogjfmbfccaaOm8
import Derived.Laws.Small
set_option linter.unusedVariables false
set_option linter.unusedSimpArgs false
namespace Go.OM
variable {C : Ctx} {Z : Nat → Prop} {s : StA} {a : Act} {w w' : World} {E : Env} {o : Oper} {σ σ' : St} {K : Act → World → Prop} {Q : Exit → Act → World → Prop}

def St.put? (s : St) (N : Nat) (dst : Option Nat) (x : AV) : Option St := match dst with
  | some d => if d < N ∧ x.into d = false then some (s.set d x) else none
  | none => some s

/-- Its value goes to dst: with what the hand held, or nothing of its own. -/
theorem SOk.put? {x : AV} {v : Value} {dst : Option Nat} {xA : AVA} (H : SRel C Z s a w) (hs : s.er = σ) (hp : σ.put? C.N dst x = some σ') (hx : xA.er = x) (hv : ValOk s Z w.heap xA v) (hc : ∀ k, xA.cnt k ≤ TA.cntL k s.hd) : SOk C σ' (a.put dst v) w := by
  subst hs; subst hx
  unfold St.put? at hp
  cases dst with
  | none =>
    injection hp with hp
    subst hp
    exact ⟨⟨s.tm, s.bx, []⟩, Z, rfl, rfl, H.drop (fun k => by simp [TA.cntL]) (by simp [TA.HoldsL])⟩
  | some d =>
    simp only at hp
    split at hp
    · rename_i hd
      injection hp with hp
      subst hp
      obtain ⟨s', h1, h2, h3⟩ := H.set (hd' := []) hd.1 hv hd.2 (fun k => by have := hc k; simp only [TA.cntL]; omega) (by simp [TA.HoldsL])
      exact ⟨s', Z, h1, h2, h3⟩
    · cases hp
theorem SOk.put0 {x : AV} {v : Value} {dst : Option Nat} {xA : AVA} (H : SRel C Z s a w) (hs : s.er = σ) (hp : σ.put? C.N dst x = some σ') (hx : xA.er = x) (hv : ValOk s Z w.heap xA v) (hc : ∀ k, xA.cnt k = 0) : SOk C σ' (a.put dst v) w :=
  SOk.put? H hs hp hx hv (fun k => by rw [hc]; exact Nat.zero_le _)
theorem SOk.putS {v : Value} {dst : Option Nat} (H : SOk C σ a w) (hp : σ.put? C.N dst (.t (.v v)) = some σ') (hv : TA.OneCell v) : SOk C σ' (a.put dst v) w := by
  obtain ⟨s, Z, h1, h2, h3⟩ := H
  exact SOk.put0 h3 h1 hp (xA := .t (.v v)) rfl ⟨rfl, by simpa [TA.Holds] using hv⟩ (fun k => rfl)

/-! ### Arithmetic -/
theorem run_equal_bool {t : TypeId} (a b : Bool) (hu : E.P.underlying t = some .bool) : (Op.equal t (.bool a) (.bool b)).run E.P w = .ok (a == b) w := by
  exact run_equalIn_bool w 9999 t a b hu
theorem run_binV {b : Bool} {op : BinOp} {x y v : Value} {t : TypeId} (hb : b = true → E.P.underlying t = some .bool) (h : binV b op x y = some v) : (binOp op t x y).run E.P w = .ok v w ∧ TA.OneCell v := by
  cases x with
  | int k n =>
    cases y with
    | int k' m =>
      simp only [binV] at h
      by_cases hs : isShift op = true
      · rw [if_pos hs] at h
        cases op <;> simp [isShift] at hs
        all_goals
          unfold ishift at h
          split at h
          · cases h
          · rename_i hn
            simp only [Option.some.injEq] at h
            subst h
            simp [binOp, Op.shift, hn, TA.OneCell]
      · rw [if_neg hs] at h
        split at h
        case isFalse => cases h
        rename_i hk
        subst hk
        cases op <;> simp [isShift] at hs <;> simp only [ibin] at h
        case quo =>
          split at h
          · cases h
          · rename_i hm; injection h with h; subst h; simp [binOp, Op.intDiv, hm, TA.OneCell]
        case rem =>
          split at h
          · cases h
          · rename_i hm; injection h with h; subst h; simp [binOp, Op.intDiv, hm, TA.OneCell]
        all_goals
          injection h with h
          subst h
          simp [binOp, Op.intArith, Op.intCmp, intBits_and, intBits_or, intBits_xor, intBits_andNot, TA.OneCell]
    | _ => simp [binV] at h
  | string s1 =>
    cases y with
    | string s2 =>
      simp only [binV] at h
      cases op <;> simp only [sbin] at h
      case add =>
        split at h
        · rename_i hl
          injection h with h
          subst h
          have : ¬ (((s1.size + s2.size : Nat) : Int) > IntKind.i64.max) := by
            have : (IntKind.i64.max : Int) = 9223372036854775807 := by decide
            rw [this]; omega
          simp only [binOp, Op.stringOp]
          rw [if_neg this]
          exact ⟨rfl, by simp [TA.OneCell]⟩
        · cases h
      all_goals first
        | cases h; done
        | (injection h with h; subst h; simp [binOp, Op.stringOp, TA.OneCell])
    | _ => simp [binV] at h
  | bool b1 =>
    cases y with
    | bool b2 =>
      simp only [binV] at h
      split at h
      · rename_i hbb
        have hu := hb hbb
        cases op <;> simp only at h
        case eql =>
          injection h with h; subst h
          refine ⟨?_, by simp [TA.OneCell]⟩
          show (do pure (Value.bool (← Op.equal t (.bool b1) (.bool b2))) : Sem Value).run E.P w = _
          simp only [Sem.run_bind, run_equal_bool b1 b2 hu, Result.andThen_ok]; rfl
        case neq =>
          injection h with h; subst h
          refine ⟨?_, by simp [TA.OneCell]⟩
          show (do pure (Value.bool (!(← Op.equal t (.bool b1) (.bool b2)))) : Sem Value).run E.P w = _
          simp only [Sem.run_bind, run_equal_bool b1 b2 hu, Result.andThen_ok]; rfl
        all_goals cases h
      · cases h
    | _ => simp [binV] at h
  | _ => simp [binV] at h
theorem run_eqGuard {b : Bool} {op : BinOp} {x y v : Value} {t : TypeId} (p q : Operand) (h : binV b op x y = some v) : (eqGuard op t p q x y).run E.P w = .ok () w := by
  unfold eqGuard
  cases x <;> first | (simp [binV] at h; done) | skip
  all_goals
    cases y <;> first | (simp [binV] at h; done) | skip
    all_goals
      cases op <;> rfl
def isBoolT (E : Env) (t : TypeId) : Bool := match E.ty t with
  | some ti => match ti.kind with
    | .bool => true
    | _ => false
  | none => false
theorem isBoolT_ok {t : TypeId} (h : isBoolT E t = true) : E.P.underlying t = some .bool := by
  unfold isBoolT at h
  split at h
  · rename_i ti hti
    split at h
    · rename_i hk
      have := (E.ok t ti hti).2.1
      rw [hk] at this
      exact this
    · cases h
  · cases h
def stBin (E : Env) (N : Nat) (dst : Option Nat) (op : BinOp) (t : TypeId) (x y : Operand) (σ : St) : Option St := match σ.sc x, σ.sc y with
  | some u, some v => (binV (isBoolT E t) op u v).bind fun r => σ.put? N dst (.t (.v r))
  | _, _ => none
theorem stBin_ok {op : BinOp} {t t2 : TypeId} {x y : Operand} (ho : o.op = .binOp op t x y t2) (h : stBin E C.N o.dst op t x y σ = some σ') (H : SOk C σ a w) (hK : ∀ a' w', SOk C σ' a' w' → K a' w') : o.wp E.P a w K Q := by
  unfold stBin at h
  split at h
  case h_2 => cases h
  rename_i u v hu hv
  obtain ⟨r, hr, h⟩ := Option.bind_eq_some_iff.1 h
  obtain ⟨s, Z, h1, h2, h3⟩ := id H
  subst h1
  obtain ⟨e1, o1⟩ := sc_val h3 hu
  obtain ⟨e2, o2⟩ := sc_val h3 hv
  have hrun := run_binV (E := E) (w := w) (t := t) isBoolT_ok hr
  refine wp_value (v := r) (w' := w) ?_ (hK _ _ (H.putS h hrun.2))
  simp only [execOp, ho, e1, e2, Sem.run_bind, run_eqGuard x y hr, hrun.1, Result.andThen_ok]
  rfl

def unV (op : UnOp) : Value → Option Value
  | .int k n => match op with
    | .neg => some (.int k (k.wrap (0 - n)))
    | _ => none
  | .bool b => match op with
    | .not => some (.bool !b)
    | _ => none
  | _ => none
def stUn (N : Nat) (dst : Option Nat) (op : UnOp) (x : Operand) (σ : St) : Option St := match σ.sc x with
  | some u => (unV op u).bind fun r => σ.put? N dst (.t (.v r))
  | none => none
theorem stUn_ok {op : UnOp} {t : TypeId} {x : Operand} (ho : o.op = .unOp op t x) (h : stUn C.N o.dst op x σ = some σ') (H : SOk C σ a w) (hK : ∀ a' w', SOk C σ' a' w' → K a' w') : o.wp E.P a w K Q := by
  unfold stUn at h
  split at h
  case h_2 => cases h
  rename_i u hu
  obtain ⟨r, hr, h⟩ := Option.bind_eq_some_iff.1 h
  obtain ⟨s, Z, h1, h2, h3⟩ := id H
  subst h1
  obtain ⟨e1, o1⟩ := sc_val h3 hu
  have hov : TA.OneCell r := by
    cases u <;> cases op <;> simp [unV] at hr <;> subst hr <;> simp [TA.OneCell]
  refine wp_value (v := r) (w' := w) ?_ (hK _ _ (H.putS h hov))
  simp only [execOp, ho, e1]
  cases u <;> cases op <;> simp [unV] at hr <;> subst hr <;> simp [Op.unary, Op.intArith]

/-- int to int. -/
def kindOf (E : Env) (t : TypeId) : Option TK := (E.ty t).map TI.kind
theorem kindOf_ok {t : TypeId} {k : TK} (h : kindOf E t = some k) : KindOk E.P t k := by
  obtain ⟨ti, h1, rfl⟩ := Option.map_eq_some_iff.1 h
  exact (E.ok t ti h1).2.1
def stConv (E : Env) (N : Nat) (dst : Option Nat) (src d : TypeId) (x : Operand) (σ : St) : Option St := match kindOf E src, kindOf E d, σ.sc x with
  | some (.int _), some (.int k), some (.int _ n) => σ.put? N dst (.t (.v (.int k (k.wrap n))))
  | some .str, some .str, some (.string z) => σ.put? N dst (.t (.v (.string z)))
  | _, _, _ => none
theorem stConv_ok {src d : TypeId} {x : Operand} (ho : o.op = .convert src d x) (h : stConv E C.N o.dst src d x σ = some σ') (H : SOk C σ a w) (hK : ∀ a' w', SOk C σ' a' w' → K a' w') : o.wp E.P a w K Q := by
  unfold stConv at h
  split at h
  · rename_i k0 k k1 n hs hd hx
    obtain ⟨s, Z, h1, h2, h3⟩ := id H
    subst h1
    obtain ⟨e1, o1⟩ := sc_val h3 hx
    have u1 : E.P.underlying src = some (.int k0) := kindOf_ok hs
    have u2 : E.P.underlying d = some (.int k) := kindOf_ok hd
    refine wp_value (v := .int k (k.wrap n)) (w' := w) ?_ (hK _ _ (H.putS h (by simp [TA.OneCell])))
    simp [execOp, ho, e1, convert, run_underlying u1, run_underlying u2, Conv.intToInt]
  · rename_i z hs hd hx
    obtain ⟨s, Z, h1, h2, h3⟩ := id H
    subst h1
    obtain ⟨e1, o1⟩ := sc_val h3 hx
    have u1 : E.P.underlying src = some .string := kindOf_ok hs
    have u2 : E.P.underlying d = some .string := kindOf_ok hd
    refine wp_value (v := .string z) (w' := w) ?_ (hK _ _ (H.putS h (by simp [TA.OneCell])))
    simp [execOp, ho, e1, convert, run_underlying u1, run_underlying u2]
  · cases h

/-! ### move -/
def nilT (E : Env) (t : TypeId) : Option T := match kindOf E t with
  | some (.slice e) => (E.ty e).map fun ti => .sl true ti.size []
  | _ => none
def kOf : T → Option Nat
  | .agg cs => some cs.length
  | _ => none
def isNil : Operand → Bool
  | .const (.slice none 0 0) => true
  | _ => false
def stMove (E : Env) (N : Nat) (dst : Option Nat) (ty : TypeId) (x : Operand) (σ : St) : Option St :=
  if isNil x = true then (nilT E ty).bind fun y => σ.put? N dst (.t y)
  else match σ.op x with
    | .t y => if y.hasOwn = true then (match x with | .tmp n => σ.put? N dst (.al (.slot n) 0 [] (kOf y)) | _ => none) else σ.put? N dst (.t y)
    | .al r p q k => σ.put? N dst (.al r p q k)
    | .ref r p q => σ.put? N dst (.ref r p q)
    | .rop cs p => σ.put? N dst (.rop cs p)
    | _ => none
theorem isNil_eq {x : Operand} (h : isNil x = true) : x = .const (.slice none 0 0) := by
  unfold isNil at h
  split at h
  · rfl
  · cases h
theorem getP_whole (x : TA) : TA.getP x.cells 0 [] ((kOf x.er).getD 1) = some x.cells ∧ (kOf x.er = none → x.cells.length = 1) ∧ mkVal (kOf x.er) x.cells = x.val := by
  cases x with
  | agg cs => simp [TA.er, kOf, TA.cells, TA.getP, TA.erL_map, mkVal, TA.val]
  | _ => simp [TA.er, kOf, TA.cells, TA.getP, mkVal, TA.val]
theorem val_copy {xA : AVA} {v : Value} {k : Nat} (hx : xA.er.hasOwn = false) (ht : ∀ xs, xA ≠ .tup xs) : xA.cnt k = 0 := by
  cases xA with
  | t y => exact TA.cnt_of_noOwn k y hx
  | tup xs => exact absurd rfl (ht xs)
  | _ => rfl
theorem stMove_ok {x : Operand} (ho : o.op = .move x) (h : stMove E C.N o.dst o.type x σ = some σ') (H : SOk C σ a w) (hK : ∀ a' w', SOk C σ' a' w' → K a' w') : o.wp E.P a w K Q := by
  have hrun : (execOp a.eval o).run E.P w = .ok (.value (a.eval x)) w := by simp [execOp, ho]
  refine wp_value hrun (hK _ _ ?_)
  unfold stMove at h
  split at h
  · rename_i hn
    rw [isNil_eq hn]
    obtain ⟨y, hy, h⟩ := Option.bind_eq_some_iff.1 h
    unfold nilT at hy
    split at hy
    · obtain ⟨ti, _, rfl⟩ := Option.map_eq_some_iff.1 hy
      obtain ⟨s, Z, h1, h2, h3⟩ := id H
      exact SOk.put0 h3 h1 h (xA := .t (.nl true ti.size none)) rfl ⟨rfl, by simp [TA.Holds]⟩ (fun k => rfl)
    · cases hy
  · obtain ⟨s, Z, h1, h2, h3⟩ := id H
    subst h1
    obtain ⟨xA, e1, e2⟩ := opA h3 x
    split at h
    · rename_i y hy
      rw [hy] at e1
      obtain ⟨yA, rfl, rfl⟩ := er_t e1
      split at h
      · rename_i hown
        split at h
        · rename_i n _
          -- an alias of what the slot holds
          simp only [St.op, St.get, look_er] at hy
          cases hlk : look s.tm n with
          | none => rw [hlk] at hy; simp at hy
          | some z =>
            rw [hlk] at hy
            simp only [Option.map_some, Option.getD_some] at hy
            obtain ⟨z', rfl, hz⟩ := er_t hy
            have hv := h3.tm n _ hlk
            obtain ⟨g1, g2, g3⟩ := getP_whole z'
            rw [hz] at g1 g2 g3
            refine SOk.put0 h3 rfl h (xA := .al (.slot n) 0 [] (kOf yA.er)) rfl ⟨none, z'.cells, z'.cells, ?_, g1, ?_, ?_⟩ (fun k => rfl)
            · simp [StA.rootCells, hlk]
            · rw [hasOwnL_cells, hz]; exact hown
            · rw [g3]; exact hv.1
        · cases h
      · rename_i hno
        exact SOk.put0 h3 rfl h (xA := .t yA) rfl e2 (fun k => TA.cnt_of_noOwn k yA (by simpa using hno))
    · rename_i r p q k hy
      rw [hy] at e1
      rw [er_al e1] at e2
      exact SOk.put0 h3 rfl h (xA := .al r p q k) rfl e2 (fun k => rfl)
    · rename_i r p q hy
      rw [hy] at e1
      rw [er_ref e1] at e2
      exact SOk.put0 h3 rfl h (xA := .ref r p q) rfl e2 (fun k => rfl)
    · rename_i cs p hy
      rw [hy] at e1
      obtain ⟨b, off, csA, rfl, rfl⟩ := er_rop e1
      exact SOk.put0 h3 rfl h (xA := .rop b off csA p) rfl e2 (fun k => rfl)
    · cases h

/-! ### What is taken out of an operand -/
def St.take (σ : St) (N : Nat) (x : Operand) : Option (T × St) := match σ.op x with
  | .t y => if y.hasOwn = true then (match x with | .tmp n => if n < N then some (y, σ.set n .u) else none | _ => none) else some (y, σ)
  | .al r o p k => (σ.rootCells r).bind fun cs => (T.getP cs o p (k.getD 1)).bind fun l => some (mkT k l, σ.setRoot true r (T.setP cs o p (l.map T.bury)))
  | _ => none
theorem erL_bury (l : List TA) : TA.erL (l.map TA.bury) = (TA.erL l).map T.bury := by
  simp only [TA.erL_map, List.map_map]
  exact List.map_congr_left fun t _ => TA.er_bury t
theorem take_ok {x : Operand} {y : T} (H : SRel C Z s a w) (h : s.er.take C.N x = some (y, σ')) :
    ∃ s' yA, yA.er = y ∧ s'.er = σ' ∧ s'.hd = yA :: s.hd ∧ SRel C Z s' a w ∧ a.eval x = yA.val ∧ yA.Holds Z w.heap := by
  unfold St.take at h
  obtain ⟨xA, e1, e2⟩ := opA H x
  split at h
  · rename_i z hz
    rw [hz] at e1
    obtain ⟨yA, rfl, rfl⟩ := er_t e1
    split at h
    · rename_i hown
      split at h
      · rename_i n
        split at h
        · rename_i hn
          injection h with h
          simp only [Prod.mk.injEq] at h
          obtain ⟨rfl, rfl⟩ := h
          simp only [St.op, St.get, look_er] at hz
          cases hlk : look s.tm n with
          | none => rw [hlk] at hz; simp at hz
          | some q =>
            rw [hlk] at hz
            simp only [Option.map_some, Option.getD_some] at hz
            obtain ⟨z', rfl, hz'⟩ := er_t hz
            obtain ⟨s', g1, g2, g3, g4, g5⟩ := H.takeSlot hn hlk
            exact ⟨s', z', hz', g1, g2, g3, g5, g4⟩
        · cases h
      · cases h
    · rename_i hno
      injection h with h
      simp only [Prod.mk.injEq] at h
      obtain ⟨rfl, rfl⟩ := h
      have hno' : yA.er.hasOwn = false := by simpa using hno
      refine ⟨s.push [yA], yA, rfl, rfl, rfl, ?_, e2.1, e2.2⟩
      refine H.newHand [yA] (fun _ hz => hz) (fun k hk => .inl hk) H.zlt (by simp only [TA.HoldsL]; exact ⟨e2.2, trivial⟩) (fun k => ?_) (fun k hk => ?_) H.notZ (fun q _ => ?_)
      · simp [TA.cntL, TA.cnt_of_noOwn k yA hno']
      · simp [TA.cntL, TA.cnt_of_noOwn k yA hno'] at hk
      · simp [TA.cntL, TA.cnt_of_noOwn _ yA hno']
  · rename_i r p q k hz
    rw [hz] at e1
    rw [er_al e1] at e2
    obtain ⟨csT, hcs, h⟩ := Option.bind_eq_some_iff.1 h
    obtain ⟨lT, hl, h⟩ := Option.bind_eq_some_iff.1 h
    injection h with h
    simp only [Prod.mk.injEq] at h
    obtain ⟨rfl, rfl⟩ := h
    obtain ⟨base, cs, l, g1, g2, g3, g4⟩ := e2
    rw [StA.er_rootCells, g1] at hcs
    simp only [Option.map_some, Option.some.injEq] at hcs
    subst hcs
    obtain ⟨l', t1, t2⟩ := TA.er_get _ _ _ _ _ hl
    rw [g2] at t1
    injection t1 with t1
    subst t1
    subst t2
    obtain ⟨r1, r2, r3⟩ := H.takePlace g1 g2
    have hlen : k = none → l.length = 1 := fun hk => by rw [TA.getP_length _ _ _ _ _ g2, hk]; rfl
    refine ⟨_, mkTA k l, er_mkTA k l, ?_, ?_, r1.drop (hd' := mkTA k l :: s.hd) (fun q => ?_) ?_, ?_, mkTA_holds hlen r3 r2⟩
    · show StA.er _ = _
      have := StA.er_setRoot s true r (TA.setP cs p q (l.map TA.bury)) (l ++ s.hd)
      rw [TA.er_set, erL_bury] at this
      exact this
    · rfl
    · rw [hd_setRoot]
      simp only [TA.cntL, TA.cntL_append, mkTA_cnt q hlen]; omega
    · simp only [TA.HoldsL]
      exact ⟨mkTA_holds hlen r3 r2, H.hand⟩
    · rw [g4, mkTA_val hlen r3]
  · cases h

/-! ### assign -/
def stAssign (E : Env) (N : Nat) (dst : Option Nat) (ty : TypeId) (x : Operand) (σ : St) : Option St :=
  if isNil x = true then (nilT E ty).bind fun y => σ.put? N dst (.t y)
  else match σ.op x with
    | .ref r p q => σ.put? N dst (.ref r p q)
    | .rop cs p => σ.put? N dst (.rop cs p)
    | _ => (σ.take N x).bind fun y => y.2.put? N dst (.t y.1)
theorem stAssign_ok {x : Operand} (ho : o.op = .assign x) (h : stAssign E C.N o.dst o.type x σ = some σ') (H : SOk C σ a w) (hK : ∀ a' w', SOk C σ' a' w' → K a' w') : o.wp E.P a w K Q := by
  have hrun : (execOp a.eval o).run E.P w = .ok (.value (a.eval x)) w := by simp [execOp, ho]
  refine wp_value hrun (hK _ _ ?_)
  unfold stAssign at h
  obtain ⟨s, Z, h1, h2, h3⟩ := id H
  subst h1
  split at h
  · rename_i hn
    rw [isNil_eq hn]
    obtain ⟨y, hy, h⟩ := Option.bind_eq_some_iff.1 h
    unfold nilT at hy
    split at hy
    · obtain ⟨ti, _, rfl⟩ := Option.map_eq_some_iff.1 hy
      exact SOk.put0 h3 rfl h (xA := .t (.nl true ti.size none)) rfl ⟨rfl, by simp [TA.Holds]⟩ (fun k => rfl)
    · cases hy
  · obtain ⟨xA, e1, e2⟩ := opA h3 x
    split at h
    · rename_i r p q hy
      rw [hy] at e1
      rw [er_ref e1] at e2
      exact SOk.put0 h3 rfl h (xA := .ref r p q) rfl e2 (fun k => rfl)
    · rename_i cs p hy
      rw [hy] at e1
      obtain ⟨b, off, csA, rfl, rfl⟩ := er_rop e1
      exact SOk.put0 h3 rfl h (xA := .rop b off csA p) rfl e2 (fun k => rfl)
    · obtain ⟨⟨y, σ1⟩, ht, h⟩ := Option.bind_eq_some_iff.1 h
      obtain ⟨s', yA, t1, t2, t3, t4, t5, t6⟩ := take_ok h3 ht
      simp only at h
      subst t1
      rw [t5]
      refine SOk.put? t4 t2 h (xA := .t yA) rfl ⟨rfl, t6⟩ (fun k => ?_)
      rw [t3]
      simp only [AVA.cnt_t, TA.cntL]; omega
end Go.OM
