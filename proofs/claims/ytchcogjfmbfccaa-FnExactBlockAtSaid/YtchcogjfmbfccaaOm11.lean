import Derived.Test.YtchcogjfmbfccaaOm10
set_option linter.unusedVariables false
set_option linter.unusedSimpArgs false
namespace Go.OM
variable {C : Ctx} {Z : Nat → Prop} {s : StA} {a : Act} {w w' : World} {E : Env} {o : Oper} {σ σ' : St} {K : Act → World → Prop} {Q : Exit → Act → World → Prop}

/-! ### An element's address -/
theorem addr_snoc : ∀ (p : Path) (base : Option (Nat × Nat)) (cs : List TA) (o : Nat) (i : Nat) {s b off cap : Nat} {es : List TA} {e : TA}, TA.getP cs o p 1 = some [.sl true s b off cap es] → es[i]? = some e →
    TA.addrP base cs o (p ++ [(i, 0)]) = some (b, off + i * s)
  | [], base, cs, o, i, s, b, off, cap, es, e, hg, he => by
    simp only [TA.getP] at hg
    split at hg
    · rename_i hle
      injection hg with hg
      have : cs[o]? = some (.sl true s b off cap es) := by
        have h2 : ((cs.drop o).take 1)[0]? = some (TA.sl true s b off cap es) := by rw [hg]; rfl
        rw [List.getElem?_take, if_pos (by omega), List.getElem?_drop] at h2
        simpa using h2
      simp [TA.addrP, this, he]
    · cases hg
  | (j, o') :: p, base, cs, o, i, s, b, off, cap, es, e, hg, he => by
    simp only [TA.getP] at hg
    split at hg
    · rename_i s1 b1 off1 cap1 es1 hcs
      split at hg
      · rename_i e1 he1
        simp only [List.cons_append, TA.addrP, hcs, he1]
        exact addr_snoc p _ _ _ i hg he
      · cases hg
    · cases hg
/-- The elements' size, as the type tells it. -/
def elemSize (E : Env) (t : TypeId) : Option Nat := match kindOf E t with
  | some (.slice e) => (E.ty e).map TI.size
  | _ => none
theorem elemSize_ok {t : TypeId} {n : Nat} (h : elemSize E t = some n) : ∃ e ti, E.P.underlying t = some (.slice e) ∧ E.ty e = some ti ∧ ti.size = n := by
  unfold elemSize at h
  split at h
  · rename_i e hk
    obtain ⟨ti, h1, h2⟩ := Option.map_eq_some_iff.1 h
    exact ⟨e, ti, kindOf_ok hk, h1, h2⟩
  · cases h
theorem run_indexAt {t e : TypeId} {ti : TI} {k : IntKind} {n : Int} {b off len cap : Nat} (ht : E.P.underlying t = some (.slice e)) (hti : E.ty e = some ti) (h0 : 0 ≤ n) (h1 : n < len) :
    (Instr.indexAt t (.slice (some ⟨b, off, none⟩) len cap) (.int k n)).run E.P w = .ok (.pointer (some ⟨b, off + n.toNat * ti.size, none⟩)) w := by
  have ok := E.ok e ti hti
  unfold Instr.indexAt
  simp only [asIntOf, Sem.run_bind, Sem.run_pure, Result.andThen_ok, run_underlying ht]
  rw [if_pos ⟨h0, h1⟩]
  simp only [Sem.run_bind, ok.run_sizeOf w, Result.andThen_ok, Addr_add_lit]
  rfl
def stIdx (E : Env) (N : Nat) (dst : Option Nat) (t : TypeId) (x i : Operand) (σ : St) : Option St := match elemSize E t, σ.sc i with
  | some sz, some (.int _ n) => match σ.op x with
    | .t (.sl false s es) => if s = sz ∧ 0 ≤ n ∧ n < es.length then (es[n.toNat]?).bind fun e => σ.put? N dst (.rop e.cells 0) else none
    | .t (.sl true s es) => if s = sz ∧ 0 ≤ n ∧ n < es.length then (match x with | .tmp m => σ.put? N dst (.ref (.slot m) 0 [(n.toNat, 0)]) | _ => none) else none
    | .al r p q none => (σ.rootCells r).bind fun cs => match T.getP cs p q 1 with
      | some [.sl true s es] => if s = sz ∧ 0 ≤ n ∧ n < es.length then σ.put? N dst (.ref r p (q ++ [(n.toNat, 0)])) else none
      | _ => none
    | _ => none
  | _, _ => none
theorem stIdx_ok {t : TypeId} {x i : Operand} (ho : o.op = .indexAddr t x i) (h : stIdx E C.N o.dst t x i σ = some σ') (H : SOk C σ a w) (hK : ∀ a' w', SOk C σ' a' w' → K a' w') : o.wp E.P a w K Q := by
  unfold stIdx at h
  split at h
  case h_2 => cases h
  rename_i sz k n hsz hi
  obtain ⟨e, ti, ht, hti, rfl⟩ := elemSize_ok hsz
  obtain ⟨s, Z, h1, h2, h3⟩ := id H
  subst h1
  obtain ⟨hiv, _⟩ := sc_val h3 hi
  obtain ⟨xA, e1, e2⟩ := opA h3 x
  split at h
  · -- read only
    rename_i sz es hx
    rw [hx] at e1
    obtain ⟨yA, rfl, hy⟩ := er_t e1
    split at h
    case isFalse => cases h
    rename_i hb
    obtain ⟨rfl, hb0, hb1⟩ := hb
    obtain ⟨el, hel, h⟩ := Option.bind_eq_some_iff.1 h
    rcases er_sl hy with ⟨A0, rfl, rfl⟩ | ⟨b, off, cap, esA, rfl, rfl⟩
    · simp at hel
    · obtain ⟨g1, g2⟩ := e2
      simp only [TA.Holds] at g2
      obtain ⟨m1, m2, m3, m4, m5⟩ := g2
      obtain ⟨z1, z2⟩ := m3 trivial
      rw [TA.er_len] at hb1
      rw [TA.erL_map, List.getElem?_map] at hel
      obtain ⟨eA, heA, rfl⟩ := Option.map_eq_some_iff.1 hel
      have heH := TA.holdsL_get m4 heA
      refine wp_value (v := .pointer (some ⟨b, off + n.toNat * ti.size, none⟩)) (w' := w) ?_ (hK _ _ ?_)
      · simp only [execOp, ho, g1, hiv, TA.val, TA.val1, Sem.run_bind, run_indexAt ht hti hb0 hb1, Result.andThen_ok]; rfl
      · refine SOk.put0 h3 rfl h (xA := .rop b (off + n.toNat * ti.size) eA.cells 0) (by simp [AVA.er, TA.er_cells]) ⟨rfl, z1, ?_, TA.holds_cells heH, fun k => ?_, TA.isCell_mem_cells heH⟩ (fun k => rfl)
        · obtain ⟨c, ety, fr, q1, q2, q3⟩ := m1
          refine ⟨c, ety, fr, q1, (fun hh => nomatch hh), fun j u hj => ?_⟩
          have hj2 : j < ti.size := by
            have := (List.getElem?_eq_some_iff.1 hj).1
            rw [TA.vals_length, m5 _ (List.mem_of_getElem? heA)] at this
            exact this
          rw [Nat.add_assoc]
          refine q3 _ u ?_
          rw [TA.vals_get, flat_get m5 _ j hj2, heA]
          rw [TA.vals_get] at hj
          exact hj
        · rw [TA.cntL_cells]
          have := TA.cnt_le_cntL k heA
          rw [z2 k] at this
          omega
  · -- what a slot owns
    rename_i sz es hx
    rw [hx] at e1
    obtain ⟨yA, rfl, hy⟩ := er_t e1
    split at h
    case isFalse => cases h
    rename_i hb
    obtain ⟨rfl, hb0, hb1⟩ := hb
    cases x with
    | const _ => cases h
    | func _ => cases h
    | global _ => cases h
    | tmp m =>
    simp only [St.op, St.get, look_er] at hx
    cases hlk : look s.tm m with
    | none => rw [hlk] at hx; simp at hx
    | some z =>
      rw [hlk] at hx
      simp only [Option.map_some, Option.getD_some] at hx
      obtain ⟨z', rfl, hz⟩ := er_t hx
      have hv := h3.tm m _ hlk
      have hev : a.eval (.tmp m) = a.tmps.getD m undef := rfl
      rcases er_sl hz with ⟨A0, rfl, rfl⟩ | ⟨b, off, cap, esA, rfl, rfl⟩
      · simp at hb1; omega
      · obtain ⟨g1, g2⟩ := hv
        rw [TA.er_len] at hb1
        have hlt : n.toNat < esA.length := by omega
        refine wp_value (v := .pointer (some ⟨b, off + n.toNat * ti.size, none⟩)) (w' := w) ?_ (hK _ _ ?_)
        · simp only [execOp, ho, hev, g1, hiv, TA.val, TA.val1, Sem.run_bind, run_indexAt ht hti hb0 hb1, Result.andThen_ok]; rfl
        · refine SOk.put0 h3 rfl h (xA := .ref (.slot m) 0 [(n.toNat, 0)]) rfl ⟨none, [.sl true ti.size b off cap esA], (b, off + n.toNat * ti.size), by simp [StA.rootCells, hlk, TA.cells], ?_, rfl⟩ (fun k => rfl)
          simp [TA.addrP, List.getElem?_eq_getElem hlt]
  · -- what a place owns
    rename_i r p q hx
    rw [hx] at e1
    rw [er_al e1] at e2
    obtain ⟨csT, hcs, h⟩ := Option.bind_eq_some_iff.1 h
    obtain ⟨base, cs, l, g1, g2, g3, g4⟩ := e2
    rw [StA.er_rootCells, g1] at hcs
    simp only [Option.map_some, Option.some.injEq] at hcs
    subst hcs
    split at h
    case h_2 => cases h
    rename_i sz es hgT
    obtain ⟨l', t1, t2⟩ := TA.er_get _ _ _ _ _ hgT
    simp only [Option.getD_none] at g2
    rw [g2] at t1
    injection t1 with t1
    subst t1
    split at h
    case isFalse => cases h
    rename_i hb
    obtain ⟨rfl, hb0, hb1⟩ := hb
    have hl1 := TA.getP_length _ _ _ _ _ g2
    obtain ⟨x1, rfl⟩ := List.length_eq_one_iff.1 hl1
    simp only [TA.erL, List.cons.injEq, and_true] at t2
    rcases er_sl t2 with ⟨A0, rfl, rfl⟩ | ⟨b, off, cap, esA, rfl, rfl⟩
    · simp at hb1; omega
    · rw [TA.er_len] at hb1
      have hlt : n.toNat < esA.length := by omega
      refine wp_value (v := .pointer (some ⟨b, off + n.toNat * ti.size, none⟩)) (w' := w) ?_ (hK _ _ ?_)
      · simp only [execOp, ho, g4, hiv, mkVal, TA.val1, Sem.run_bind, run_indexAt ht hti hb0 hb1, Result.andThen_ok]; rfl
      · exact SOk.put0 h3 rfl h (xA := .ref r p (q ++ [(n.toNat, 0)])) rfl ⟨base, cs, _, g1, addr_snoc q base cs p n.toNat g2 (List.getElem?_eq_getElem hlt), rfl⟩ (fun k => rfl)
  · cases h

/-! ### A string's byte, a length, a string's part -/
def byteAt (z : ByteArray) (n : Int) : Int := ((z.data.toList.getD n.toNat 0).toNat : Int)
def stIndex (E : Env) (N : Nat) (dst : Option Nat) (t : TypeId) (x i : Operand) (σ : St) : Option St := match kindOf E t, σ.sc x, σ.sc i with
  | some .str, some (.string z), some (.int _ n) => if 0 ≤ n ∧ n < z.size then σ.put? N dst (.t (.v (.int .u8 (byteAt z n)))) else none
  | _, _, _ => none
theorem stIndex_ok {t : TypeId} {x i : Operand} (ho : o.op = .index t x i) (h : stIndex E C.N o.dst t x i σ = some σ') (H : SOk C σ a w) (hK : ∀ a' w', SOk C σ' a' w' → K a' w') : o.wp E.P a w K Q := by
  unfold stIndex at h
  split at h
  case h_2 => cases h
  rename_i z k n hk hx hi
  split at h
  case isFalse => cases h
  rename_i hb
  obtain ⟨s, Z, h1, h2, h3⟩ := id H
  subst h1
  obtain ⟨v1, _⟩ := sc_val h3 hx
  obtain ⟨v2, _⟩ := sc_val h3 hi
  have hu : E.P.underlying t = some .string := kindOf_ok hk
  refine wp_value (v := .int .u8 (byteAt z n)) (w' := w) ?_ (hK _ _ (H.putS h (by simp [TA.OneCell])))
  have hlt : n.toNat < z.size := by omega
  have hget : (z[n.toNat]? : Option UInt8) = some (z.data.toList.getD n.toNat 0) := by
    have h5 : n.toNat < z.data.size := hlt
    simp only [getElem?, decidableGetElem?]
    rw [dif_pos hlt]
    congr 1
    simp only [List.getD_eq_getElem?_getD, List.getElem?_eq_getElem (show n.toNat < z.data.toList.length by simpa using h5), Option.getD_some, Array.getElem_toList]
    rfl
  simp only [execOp, ho, v1, v2, Instr.index, asIntOf, Sem.run_bind, Sem.run_pure, Result.andThen_ok, run_underlying hu]
  rw [if_pos hb.1, hget]
  rfl
/-- How long what an operand tells is. -/
def St.len (σ : St) (x : Operand) : Option Nat := match σ.op x with
  | .t (.sl _ _ es) => some es.length
  | .t (.v (.string z)) => some z.size
  | .al r p q none => (σ.rootCells r).bind fun cs => match T.getP cs p q 1 with
    | some [.sl _ _ es] => some es.length
    | _ => none
  | _ => none
def isLenT (E : Env) (t : TypeId) (str : Bool) : Bool := match kindOf E t with
  | some (.slice _) => !str
  | some .str => str
  | _ => false
def St.isStr (σ : St) (x : Operand) : Bool := match σ.sc x with
  | some (.string _) => true
  | _ => false
def stLen (E : Env) (N : Nat) (dst : Option Nat) (t : TypeId) (x : Operand) (σ : St) : Option St := if isLenT E t (σ.isStr x) = true then (σ.len x).bind fun n => σ.put? N dst (.t (.v (.int .i64 n))) else none
theorem len_val {x : Operand} {n : Nat} (H : SRel C Z s a w) (h : s.er.len x = some n) : (∃ A cap, a.eval x = .slice A n cap ∧ s.er.isStr x = false) ∨ (∃ z : ByteArray, a.eval x = .string z ∧ z.size = n ∧ s.er.isStr x = true) := by
  unfold St.len at h
  obtain ⟨xA, e1, e2⟩ := opA H x
  split at h
  · rename_i ow sz es hx
    injection h with h
    subst h
    rw [hx] at e1
    obtain ⟨yA, rfl, hy⟩ := er_t e1
    left
    have hs : s.er.isStr x = false := by unfold St.isStr St.sc; rw [hx]
    rcases er_sl hy with ⟨A0, rfl, rfl⟩ | ⟨b, off, cap, esA, rfl, rfl⟩
    · exact ⟨A0, 0, e2.1, hs⟩
    · exact ⟨_, cap, by rw [TA.er_len]; exact e2.1, hs⟩
  · rename_i z hx
    injection h with h
    subst h
    rw [hx] at e1
    obtain ⟨yA, rfl, hy⟩ := er_t e1
    rw [er_v hy] at e2
    right
    exact ⟨z, e2.1, rfl, by unfold St.isStr St.sc; rw [hx]⟩
  · rename_i r p q hx
    rw [hx] at e1
    rw [er_al e1] at e2
    obtain ⟨csT, hcs, h⟩ := Option.bind_eq_some_iff.1 h
    obtain ⟨base, cs, l, g1, g2, g3, g4⟩ := e2
    rw [StA.er_rootCells, g1] at hcs
    simp only [Option.map_some, Option.some.injEq] at hcs
    subst hcs
    split at h
    · rename_i ow sz es hgT
      injection h with h
      subst h
      obtain ⟨l', t1, t2⟩ := TA.er_get _ _ _ _ _ hgT
      simp only [Option.getD_none] at g2
      rw [g2] at t1
      injection t1 with t1
      subst t1
      have hl1 := TA.getP_length _ _ _ _ _ g2
      obtain ⟨x1, rfl⟩ := List.length_eq_one_iff.1 hl1
      simp only [TA.erL, List.cons.injEq, and_true] at t2
      left
      have hs : s.er.isStr x = false := by unfold St.isStr St.sc; rw [hx]
      rcases er_sl t2 with ⟨A0, rfl, rfl⟩ | ⟨b, off, cap, esA, rfl, rfl⟩
      · exact ⟨A0, 0, g4, hs⟩
      · exact ⟨_, cap, by rw [TA.er_len]; exact g4, hs⟩
    · cases h
  · cases h
theorem stLen_ok {t : TypeId} {x : Operand} {ts : Array TypeId} (ho : o.op = .call { callee := .builtin .len, args := #[x], argTypes := ts }) (hts : ts[0]? = some t) (h : stLen E C.N o.dst t x σ = some σ') (H : SOk C σ a w) (hK : ∀ a' w', SOk C σ' a' w' → K a' w') : o.wp E.P a w K Q := by
  unfold stLen at h
  split at h
  case isFalse => cases h
  rename_i hT
  obtain ⟨n, hn, h⟩ := Option.bind_eq_some_iff.1 h
  obtain ⟨s, Z, h1, h2, h3⟩ := id H
  subst h1
  refine wp_value (v := .int .i64 n) (w' := w) ?_ (hK _ _ (H.putS h (by simp [TA.OneCell])))
  rcases len_val h3 hn with ⟨A, cap, hv, hs⟩ | ⟨z, hv, hz, hs⟩
  · rw [hs] at hT
    unfold isLenT at hT
    split at hT
    · rename_i e hk
      have hu : E.P.underlying t = some (.slice e) := kindOf_ok hk
      simp [execOp, ho, resolve, invoke, builtin, Builtin.len_, hts, hv, run_underlying hu, goInt]
    · cases hT
    · cases hT
  · rw [hs] at hT
    unfold isLenT at hT
    split at hT
    · cases hT
    · rename_i hk
      have hu : E.P.underlying t = some .string := kindOf_ok hk
      simp [execOp, ho, resolve, invoke, builtin, Builtin.len_, hts, hv, run_underlying hu, goInt, hz]
    · cases hT

/-! ### pick, extract -/
def AV.plain : AV → Bool
  | .t x => !x.hasOwn
  | .ref _ _ _ => true
  | .rop _ _ => true
  | .al _ _ _ _ => true
  | _ => false
def stPick (N : Nat) (dst : Option Nat) (c x y : Operand) (σ : St) : Option St := match σ.sc c with
  | some (.bool b) => if b = true then (if (σ.op x).plain = true then σ.put? N dst (σ.op x) else none) else (if (σ.op y).plain = true then σ.put? N dst (σ.op y) else none)
  | _ => none
theorem put_plain {x : Operand} {dst : Option Nat} (H : SOk C σ a w) (hp : (σ.op x).plain = true) (h : σ.put? C.N dst (σ.op x) = some σ') : SOk C σ' (a.put dst (a.eval x)) w := by
  obtain ⟨s, Z, h1, h2, h3⟩ := id H
  subst h1
  obtain ⟨xA, e1, e2⟩ := opA h3 x
  refine SOk.put0 h3 rfl h (xA := xA) e1 e2 (fun k => ?_)
  rw [← e1] at hp
  cases xA with
  | t y => simp only [AVA.er, AV.plain, Bool.not_eq_true'] at hp; exact TA.cnt_of_noOwn k y hp
  | tup xs => simp [AVA.er, AV.plain] at hp
  | _ => rfl
theorem stPick_ok {c x y : Operand} (ho : o.op = .pick c x y) (h : stPick C.N o.dst c x y σ = some σ') (H : SOk C σ a w) (hK : ∀ a' w', SOk C σ' a' w' → K a' w') : o.wp E.P a w K Q := by
  unfold stPick at h
  split at h
  case h_2 => cases h
  rename_i b hc
  obtain ⟨s, Z, h1, h2, h3⟩ := id H
  subst h1
  obtain ⟨v1, _⟩ := sc_val h3 hc
  cases b with
  | true =>
    simp only [if_true] at h
    split at h
    · rename_i hp
      refine wp_value (v := a.eval x) (w' := w) ?_ (hK _ _ (put_plain H hp h))
      simp [execOp, ho, v1, asBool]
    · cases h
  | false =>
    simp only [Bool.false_eq_true, if_false] at h
    split at h
    · rename_i hp
      refine wp_value (v := a.eval y) (w' := w) ?_ (hK _ _ (put_plain H hp h))
      simp [execOp, ho, v1, asBool]
    · cases h
end Go.OM
