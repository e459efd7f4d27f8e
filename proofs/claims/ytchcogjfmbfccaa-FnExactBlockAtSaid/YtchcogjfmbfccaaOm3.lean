import Derived.Test.YtchcogjfmbfccaaOm2
set_option linter.unusedVariables false
namespace Go.OM

/-! ### States -/
inductive AV where
  | u
  | t (x : T)
  | tup (xs : List T)
  | al (r : Root) (o : Nat) (p : Path) (k : Option Nat)
  | ref (r : Root) (o : Nat) (p : Path)
  | rop (cs : List T) (o : Nat)
  deriving Inhabited
inductive AVA where
  | u
  | t (x : TA)
  | tup (xs : List TA)
  | al (r : Root) (o : Nat) (p : Path) (k : Option Nat)
  | ref (r : Root) (o : Nat) (p : Path)
  | rop (b off : Nat) (cs : List TA) (o : Nat)
  deriving Inhabited
structure BoxA where
  b : Nat
  off : Nat
  cs : List TA
structure St where
  tm : List (Nat × AV)
  bx : List (Nat × List T)
structure StA where
  tm : List (Nat × AVA)
  bx : List (Nat × BoxA)
  hd : List TA
namespace AVA
def er : AVA → AV
  | .u => .u
  | .t x => .t x.er
  | .tup xs => .tup (TA.erL xs)
  | .al r o p k => .al r o p k
  | .ref r o p => .ref r o p
  | .rop _ _ cs o => .rop (TA.erL cs) o
def cnt (k : Nat) : AVA → Nat
  | .t x => x.cnt k
  | .tup xs => TA.cntL k xs
  | _ => 0
def kill (r : Root) : AVA → AVA
  | .al r' o p k => if r' = r then .u else .al r' o p k
  | .ref r' o p => if r' = r ∧ p ≠ [] then .u else .ref r' o p
  | x => x
/-- As 'kill', and what points to the root itself. -/
def killAll (r : Root) : AVA → AVA
  | .al r' o p k => if r' = r then .u else .al r' o p k
  | .ref r' o p => if r' = r then .u else .ref r' o p
  | x => x
theorem cnt_kill (r : Root) (k : Nat) (x : AVA) : (x.kill r).cnt k = x.cnt k := by
  cases x <;> simp only [kill] <;> first | rfl | (split <;> rfl)
theorem cnt_killAll (r : Root) (k : Nat) (x : AVA) : (x.killAll r).cnt k = x.cnt k := by
  cases x <;> simp only [killAll] <;> first | rfl | (split <;> rfl)
end AVA
namespace AV
def kill (r : Root) : AV → AV
  | .al r' o p k => if r' = r then .u else .al r' o p k
  | .ref r' o p => if r' = r ∧ p ≠ [] then .u else .ref r' o p
  | x => x
def killAll (r : Root) : AV → AV
  | .al r' o p k => if r' = r then .u else .al r' o p k
  | .ref r' o p => if r' = r then .u else .ref r' o p
  | x => x
/-- May something point into it? -/
def hasOwn : AV → Bool
  | .t x => x.hasOwn
  | _ => false
end AV
theorem AVA.er_kill (r : Root) (x : AVA) : (x.kill r).er = x.er.kill r := by
  cases x with
  | al r' o p k => by_cases h : r' = r <;> simp [kill, AVA.er, AV.kill, h]
  | ref r' o p => by_cases h : r' = r ∧ p ≠ [] <;> simp [kill, AVA.er, AV.kill, h]
  | _ => rfl
theorem AVA.er_killAll (r : Root) (x : AVA) : (x.killAll r).er = x.er.killAll r := by
  cases x with
  | al r' o p k => by_cases h : r' = r <;> simp [killAll, AVA.er, AV.killAll, h]
  | ref r' o p => by_cases h : r' = r <;> simp [killAll, AVA.er, AV.killAll, h]
  | _ => rfl
def BoxA.cnt (k : Nat) (x : BoxA) : Nat := (if x.b = k then 1 else 0) + TA.cntL k x.cs
namespace StA
def er (s : StA) : St := ⟨s.tm.map fun e => (e.1, e.2.er), s.bx.map fun e => (e.1, TA.erL e.2.cs)⟩
def cnt (k : Nat) (s : StA) : Nat := tot (AVA.cnt k) s.tm + tot (BoxA.cnt k) s.bx + TA.cntL k s.hd
def rootCells (s : StA) : Root → Option (Option (Nat × Nat) × List TA)
  | .slot n => match look s.tm n with
    | some (.t x) => some (none, x.cells)
    | _ => none
  | .box n => (look s.bx n).map fun x => (some (x.b, x.off), x.cs)
def kill (r : Root) (s : StA) : StA := ⟨s.tm.map fun e => (e.1, e.2.kill r), s.bx, s.hd⟩
def killAll (r : Root) (s : StA) : StA := ⟨s.tm.map fun e => (e.1, e.2.killAll r), s.bx, s.hd⟩
end StA
namespace St
def kill (r : Root) (s : St) : St := ⟨s.tm.map fun e => (e.1, e.2.kill r), s.bx⟩
def killAll (r : Root) (s : St) : St := ⟨s.tm.map fun e => (e.1, e.2.killAll r), s.bx⟩
/-- Does nothing point into what stands at d? -/
def free (s : St) (d : Nat) : Bool := match look s.tm d with
  | some x => !x.hasOwn
  | none => true
/-- d holds x then. -/
def set (s : St) (d : Nat) (x : AV) : St := if s.free d = true then ⟨put s.tm d x, s.bx⟩ else ⟨put (s.kill (.slot d)).tm d x, s.bx⟩
def get (s : St) (n : Nat) : AV := (look s.tm n).getD .u
end St
def StA.set (s : StA) (d : Nat) (x : AVA) : StA := if s.er.free d = true then ⟨put s.tm d x, s.bx, s.hd⟩ else ⟨put (s.kill (.slot d)).tm d x, s.bx, s.hd⟩
theorem StA.er_kill (r : Root) (s : StA) : (s.kill r).er = s.er.kill r := by
  simp [StA.kill, StA.er, St.kill, AVA.er_kill]
theorem StA.er_killAll (r : Root) (s : StA) : (s.killAll r).er = s.er.killAll r := by
  simp [StA.killAll, StA.er, St.killAll, AVA.er_killAll]
theorem StA.er_set (s : StA) (d : Nat) (x : AVA) : (s.set d x).er = s.er.set d x.er := by
  unfold StA.set St.set
  by_cases h : s.er.free d = true
  · rw [if_pos h, if_pos h]; simp [StA.er, put_map]
  · rw [if_neg h, if_neg h]
    have := StA.er_kill (.slot d) s
    simp only [StA.er, St.kill, St.mk.injEq] at this
    simp only [StA.er, put_map, St.kill, this.1]
theorem look_er (s : StA) (n : Nat) : look s.er.tm n = (look s.tm n).map AVA.er := look_map _ _ _
theorem look_er_bx (s : StA) (n : Nat) : look s.er.bx n = (look s.bx n).map fun x => TA.erL x.cs := look_map (fun x : BoxA => TA.erL x.cs) s.bx n
theorem StA.cnt_kill (k : Nat) (r : Root) (s : StA) : (s.kill r).cnt k = s.cnt k := by
  simp only [StA.cnt, StA.kill, tot_map, AVA.cnt_kill]
theorem StA.cnt_killAll (k : Nat) (r : Root) (s : StA) : (s.killAll r).cnt k = s.cnt k := by
  simp only [StA.cnt, StA.killAll, tot_map, AVA.cnt_killAll]
theorem rootCells_kill (s : StA) (r r' : Root) : (s.kill r).rootCells r' = s.rootCells r' := by
  cases r' with
  | slot n =>
    simp only [StA.rootCells, StA.kill, look_map]
    cases look s.tm n with
    | none => rfl
    | some x =>
      cases x with
      | al r1 o p k => by_cases h : r1 = r <;> simp [AVA.kill, h]
      | ref r1 o p => simp only [Option.map_some, AVA.kill]; split <;> (rename_i hh; split at hh <;> simp_all)
      | _ => rfl
  | box n => rfl
theorem rootCells_killAll (s : StA) (r r' : Root) : (s.killAll r).rootCells r' = s.rootCells r' := by
  cases r' with
  | slot n =>
    simp only [StA.rootCells, StA.killAll, look_map]
    cases look s.tm n with
    | none => rfl
    | some x =>
      cases x with
      | al r1 o p k => by_cases h : r1 = r <;> simp [AVA.killAll, h]
      | ref r1 o p => simp only [Option.map_some, AVA.killAll]; split <;> (rename_i hh; split at hh <;> simp_all)
      | _ => rfl
  | box n => rfl

def mkVal : Option Nat → List TA → Value
  | none, [x] => x.val1
  | none, _ => undef
  | some _, l => .agg (TA.vals l).toArray

def ValOk (s : StA) (Z : Nat → Prop) (h : Array Obj) : AVA → Value → Prop
  | .u, _ => True
  | .t x, v => v = x.val ∧ x.Holds Z h
  | .tup xs, v => v = .tuple (xs.map TA.val).toArray ∧ TA.HoldsL Z h xs
  | .al r o p k, v => ∃ base cs l, s.rootCells r = some (base, cs) ∧ TA.getP cs o p (k.getD 1) = some l ∧ T.hasOwnL (TA.erL l) = true ∧ v = mkVal k l
  | .ref r o p, v => ∃ base cs ad, s.rootCells r = some (base, cs) ∧ TA.addrP base cs o p = some ad ∧ v = .pointer (some ⟨ad.1, ad.2, none⟩)
  | .rop b off cs o, v => v = .pointer (some ⟨b, off + o, none⟩) ∧ Z b ∧ TA.Mem h false b off 0 (TA.vals cs) ∧ TA.HoldsL Z h cs ∧ (∀ k, TA.cntL k cs = 0) ∧ ∀ c ∈ cs, c.isCell = true

/-- What holds since the function was entered. w0: the world then; F: the blocks that came in owned; Z0: those that came in to be read; PB: rows' parts that came in by pointers. -/
structure Ctx where
  N : Nat
  w0 : World
  Z0 : Nat → Prop
  F : Nat → Prop
  PB : List (Nat × Nat × Nat)
  PK : List (Nat × Nat × Nat × Nat)

/-- What came in owned, but for the rows that were lent in part. -/
def Ctx.Fz (C : Ctx) (k : Nat) : Prop := C.F k ∧ ∀ x ∈ C.PB, x.1 ≠ k

/-- Outside of a part a row is as it was. -/
def Outside (h h' : Array Obj) (b off n : Nat) : Prop :=
  ∃ c c' e fr, h[b]? = some (.cells c e fr) ∧ h'[b]? = some (.cells c' e fr) ∧ c'.size = c.size ∧ ∀ j, (j < off ∨ off + n ≤ j) → c'[j]? = c[j]?

structure SRel (C : Ctx) (Z : Nat → Prop) (s : StA) (a : Act) (w : World) : Prop where
  defers : a.defers = []
  size : a.tmps.size = C.N
  tm : ∀ n x, look s.tm n = some x → ValOk s Z w.heap x (a.tmps.getD n undef)
  bx : ∀ n x, look s.bx n = some x → TA.Mem w.heap true x.b x.off x.cs.length (TA.vals x.cs) ∧ TA.HoldsL Z w.heap x.cs ∧ ∀ c ∈ x.cs, c.isCell = true
  uniq : ∀ k, s.cnt k ≤ 1
  notZ : ∀ k, 0 < s.cnt k → ¬ Z k
  lt : ∀ k, 0 < s.cnt k → k < w.heap.size
  zlt : ∀ k, Z k → k < w.heap.size
  own : ∀ k, 0 < s.cnt k → C.F k ∨ C.w0.heap.size ≤ k
  z0 : ∀ k, C.Z0 k → Z k
  zext : ∀ k, Z k → C.Z0 k ∨ C.w0.heap.size ≤ k ∨ C.Fz k
  os : w.os = C.w0.os
  tape : w.tape = C.w0.tape
  output : w.output = C.w0.output
  grown : C.w0.heap.size ≤ w.heap.size
  kept : ∀ k, k < C.w0.heap.size → ¬ C.F k → w.heap[k]? = C.w0.heap[k]?
  part : ∀ x ∈ C.PB, Outside C.w0.heap w.heap x.1 x.2.1 x.2.2
  pbx : ∀ x ∈ C.PB, ∀ n y, look s.bx n = some y → y.b = x.1 → y.off = x.2.1 ∧ y.cs.length ≤ x.2.2
  pbo : ∀ x ∈ C.PB, ∀ n y, look s.tm n = some y → y.cnt x.1 = 0
  pbi : ∀ x ∈ C.PB, ∀ n y, look s.bx n = some y → TA.cntL x.1 y.cs = 0
  hand : TA.HoldsL Z w.heap s.hd
  pbh : ∀ x ∈ C.PB, TA.cntL x.1 s.hd = 0
  pk : ∀ x ∈ C.PK, C.N ≤ x.1 ∧ ∃ cs, look s.bx x.1 = some ⟨x.2.1, x.2.2.1, cs⟩ ∧ cs.length = x.2.2.2

theorem cnt_tm_le {s : StA} {n : Nat} {x : AVA} (h : look s.tm n = some x) (k : Nat) : x.cnt k ≤ s.cnt k := by
  have := look_le_tot (AVA.cnt k) h
  simp only [StA.cnt]; omega
theorem cnt_bx_le {s : StA} {n : Nat} {x : BoxA} (h : look s.bx n = some x) (k : Nat) : x.cnt k ≤ s.cnt k := by
  have := look_le_tot (BoxA.cnt k) h
  simp only [StA.cnt]; omega

/-- Roots are kept; so is what is said of a value. -/
theorem ValOk.keep {s s' : StA} {Z Z' : Nat → Prop} {h h' : Array Obj} {x : AVA} {v : Value} (H : ValOk s Z h x v) (hz : ∀ b, Z b → Z' b) (hf : ∀ b, (0 < x.cnt b ∨ Z b) → h'[b]? = h[b]?)
    (hal : ∀ r o p k, x = .al r o p k → ∀ base cs l, s.rootCells r = some (base, cs) → TA.getP cs o p (k.getD 1) = some l → T.hasOwnL (TA.erL l) = true → s'.rootCells r = s.rootCells r)
    (href : ∀ r o p, x = .ref r o p → ∀ base cs ad, s.rootCells r = some (base, cs) → TA.addrP base cs o p = some ad → ∃ base' cs', s'.rootCells r = some (base', cs') ∧ TA.addrP base' cs' o p = some ad) : ValOk s' Z' h' x v := by
  cases x with
  | u => trivial
  | t x => exact ⟨H.1, TA.Holds.frame x H.2 hz (by simpa [AVA.cnt] using hf)⟩
  | tup xs => exact ⟨H.1, TA.HoldsL.frame xs H.2 hz (by simpa [AVA.cnt] using hf)⟩
  | al r o p k =>
    obtain ⟨base, cs, l, h1, h2, h3, h4⟩ := H
    exact ⟨base, cs, l, (hal r o p k rfl base cs l h1 h2 h3).trans h1, h2, h3, h4⟩
  | ref r o p =>
    obtain ⟨base, cs, ad, h1, h2, h3⟩ := H
    obtain ⟨base', cs', g1, g2⟩ := href r o p rfl base cs ad h1 h2
    exact ⟨base', cs', ad, g1, g2, h3⟩
  | rop b off cs o =>
    obtain ⟨h1, h2, h3, h4, h5, h6⟩ := H
    refine ⟨h1, hz b h2, h3.frame (hf b (.inr h2)), TA.HoldsL.frame cs h4 hz (fun q hq => hf q ?_), h5, h6⟩
    rcases hq with hq | hq
    · rw [h5 q] at hq; omega
    · exact .inr hq

theorem getP_noOwn : ∀ (p : Path) (cs : List TA) (o k : Nat) (l : List TA), TA.getP cs o p k = some l → T.hasOwnL (TA.erL cs) = false → p = [] ∧ T.hasOwnL (TA.erL l) = false
  | [], cs, o, k, l, h, hn => by
    refine ⟨rfl, ?_⟩
    simp only [TA.getP] at h
    split at h
    · injection h with h
      subst h
      have key : ∀ (l : List TA), T.hasOwnL (TA.erL l) = true ↔ ∃ t ∈ l, t.er.hasOwn = true := by
        intro l
        induction l with
        | nil => simp [TA.erL, T.hasOwnL]
        | cons t ts ih => simp [TA.erL, T.hasOwnL, ih]
      cases hc : T.hasOwnL (TA.erL ((cs.drop o).take k)) with
      | false => rfl
      | true =>
        obtain ⟨t, ht, ht2⟩ := (key _).1 hc
        have : T.hasOwnL (TA.erL cs) = true := (key _).2 ⟨t, List.mem_of_mem_drop (List.mem_of_mem_take ht), ht2⟩
        rw [hn] at this; cases this
    · cases h
  | (i, o') :: p, cs, o, k, l, h, hn => by
    exfalso
    simp only [TA.getP] at h
    split at h
    · rename_i s b off cap es hcs
      have key : ∀ (l : List TA) (j : Nat) (t : TA), l[j]? = some t → T.hasOwnL (TA.erL l) = false → t.er.hasOwn = false := by
        intro l
        induction l with
        | nil => intro j t hj; simp at hj
        | cons y ys ih =>
          intro j t hj hl
          simp only [TA.erL, T.hasOwnL, Bool.or_eq_false_iff] at hl
          cases j with
          | zero => simp only [List.getElem?_cons_zero, Option.some.injEq] at hj; subst hj; exact hl.1
          | succ j => simp only [List.getElem?_cons_succ] at hj; exact ih j t hj hl.2
      have := key cs o _ hcs hn
      simp [TA.er, T.hasOwn] at this
    · cases h
theorem addrP_noOwn {base : Option (Nat × Nat)} : ∀ (p : Path) (cs : List TA) (o : Nat) (ad : Nat × Nat), TA.addrP base cs o p = some ad → T.hasOwnL (TA.erL cs) = false → p = [] 
  | [], _, _, _, _, _ => rfl
  | (i, o') :: p, cs, o, ad, h, hn => by
    exfalso
    simp only [TA.addrP] at h
    split at h
    · rename_i s b off cap es hcs
      have key : ∀ (l : List TA) (j : Nat) (t : TA), l[j]? = some t → T.hasOwnL (TA.erL l) = false → t.er.hasOwn = false := by
        intro l
        induction l with
        | nil => intro j t hj; simp at hj
        | cons y ys ih =>
          intro j t hj hl
          simp only [TA.erL, T.hasOwnL, Bool.or_eq_false_iff] at hl
          cases j with
          | zero => simp only [List.getElem?_cons_zero, Option.some.injEq] at hj; subst hj; exact hl.1
          | succ j => simp only [List.getElem?_cons_succ] at hj; exact ih j t hj hl.2
      have := key cs o _ hcs hn
      simp [TA.er, T.hasOwn] at this
    · cases h
theorem hasOwnL_cells (x : TA) : T.hasOwnL (TA.erL x.cells) = x.er.hasOwn := by
  cases x <;> simp [TA.cells, TA.erL, T.hasOwnL, TA.er, T.hasOwn]

theorem kill_ne_al {r r' : Root} {o : Nat} {p : Path} {k : Option Nat} {y : AVA} (h : y.kill r = .al r' o p k) : y = .al r' o p k ∧ r' ≠ r := by
  cases y with
  | al r1 o1 p1 k1 =>
    simp only [AVA.kill] at h
    split at h
    · cases h
    · rename_i hne; injection h with e1 e2 e3 e4; subst e1; subst e2; subst e3; subst e4; exact ⟨rfl, hne⟩
  | ref r1 o1 p1 => simp only [AVA.kill] at h; split at h <;> cases h
  | _ => simp [AVA.kill] at h
theorem kill_ne_ref {r r' : Root} {o : Nat} {p : Path} {y : AVA} (h : y.kill r = .ref r' o p) : y = .ref r' o p ∧ ¬ (r' = r ∧ p ≠ []) := by
  cases y with
  | ref r1 o1 p1 =>
    simp only [AVA.kill] at h
    split at h
    · cases h
    · rename_i hne; injection h with e1 e2 e3; subst e1; subst e2; subst e3; exact ⟨rfl, hne⟩
  | al r1 o1 p1 k1 => simp only [AVA.kill] at h; split at h <;> cases h
  | _ => simp [AVA.kill] at h
theorem ValOk.kill {s s' : StA} {Z : Nat → Prop} {h : Array Obj} {x : AVA} {v : Value} (r : Root) (H : ValOk s Z h x v) (hr : ∀ r', s'.rootCells r' = s.rootCells r') : ValOk s' Z h (x.kill r) v := by
  cases x with
  | al r' o p k =>
    simp only [AVA.kill]
    split
    · trivial
    · exact H.keep (fun _ hz => hz) (fun _ _ => rfl) (fun r o p k e base cs l h1 h2 h3 => hr _) (fun r o p e base cs ad h1 h2 => ⟨base, cs, (hr _).trans h1, h2⟩)
  | ref r' o p =>
    simp only [AVA.kill]
    split
    · trivial
    · exact H.keep (fun _ hz => hz) (fun _ _ => rfl) (fun r o p k e base cs l h1 h2 h3 => hr _) (fun r o p e base cs ad h1 h2 => ⟨base, cs, (hr _).trans h1, h2⟩)
  | u => trivial
  | t x => exact H
  | tup xs => exact H
  | rop b off cs o => exact H

theorem SRel.kill {C : Ctx} {Z : Nat → Prop} {s : StA} {a : Act} {w : World} (H : SRel C Z s a w) (r : Root) : SRel C Z (s.kill r) a w where
  defers := H.defers
  size := H.size
  tm := fun n x hx => by
    simp only [StA.kill, look_map] at hx
    obtain ⟨y, hy, rfl⟩ := Option.map_eq_some_iff.1 hx
    exact (H.tm n y hy).kill r (rootCells_kill s r)
  bx := H.bx
  uniq := fun k => by rw [StA.cnt_kill]; exact H.uniq k
  notZ := fun k hk => H.notZ k (by rwa [StA.cnt_kill] at hk)
  lt := fun k hk => H.lt k (by rwa [StA.cnt_kill] at hk)
  zlt := H.zlt
  own := fun k hk => H.own k (by rwa [StA.cnt_kill] at hk)
  z0 := H.z0
  zext := H.zext
  os := H.os
  tape := H.tape
  output := H.output
  grown := H.grown
  kept := H.kept
  part := H.part
  pbx := H.pbx
  pbo := fun x hx n y hy => by
    simp only [StA.kill, look_map] at hy
    obtain ⟨z, hz, rfl⟩ := Option.map_eq_some_iff.1 hy
    rw [AVA.cnt_kill]; exact H.pbo x hx n z hz
  pbi := H.pbi
  hand := H.hand
  pbh := H.pbh
  pk := H.pk

/-- The world has only grown. -/
structure Grow (w w' : World) : Prop where
  os : w'.os = w.os
  tape : w'.tape = w.tape
  output : w'.output = w.output
  size : w.heap.size ≤ w'.heap.size
  block : ∀ k, k < w.heap.size → w'.heap[k]? = w.heap[k]?
theorem Grow.refl (w : World) : Grow w w := ⟨rfl, rfl, rfl, Nat.le_refl _, fun _ _ => rfl⟩
theorem Grow.trans {a b c : World} (h : Grow a b) (k : Grow b c) : Grow a c :=
  ⟨k.os.trans h.os, k.tape.trans h.tape, k.output.trans h.output, Nat.le_trans h.size k.size, fun i hi => (k.block i (by have := h.size; omega)).trans (h.block i hi)⟩
theorem Grow.below {w w' : World} (h : Go.RowKit.Below w.heap.size w w') : Grow w w' := ⟨h.os, h.tape, h.output, h.size, h.block⟩

variable {C : Ctx} {Z : Nat → Prop} {s : StA} {a : Act} {w w' : World}
theorem ValOk.lt {x : AVA} {v : Value} {h : Array Obj} (H : ValOk s Z h x v) {k : Nat} (hk : 0 < x.cnt k) : k < h.size := by
  cases x with
  | t x => exact TA.Holds.lt x H.2 hk
  | tup xs => exact TA.HoldsL.lt xs H.2 hk
  | _ => simp [AVA.cnt] at hk
theorem SRel.grow (H : SRel C Z s a w) (g : Grow w w') : SRel C Z s a w' where
  defers := H.defers
  size := H.size
  tm := fun n x hx => (H.tm n x hx).keep (fun _ hz => hz) (fun k hk => g.block k (by
      rcases hk with hk | hk
      · exact (H.tm n x hx).lt hk
      · exact H.zlt k hk)) (fun _ _ _ _ _ _ _ _ _ _ _ => rfl) (fun r o p e base cs ad h1 h2 => ⟨base, cs, h1, h2⟩)
  bx := fun n x hx => by
    obtain ⟨h1, h2, h3⟩ := H.bx n x hx
    refine ⟨h1.frame (g.block _ h1.lt), TA.HoldsL.frame _ h2 (fun _ hz => hz) (fun k hk => g.block k ?_), h3⟩
    rcases hk with hk | hk
    · exact TA.HoldsL.lt _ h2 hk
    · exact H.zlt k hk
  uniq := H.uniq
  notZ := H.notZ
  lt := fun k hk => Nat.lt_of_lt_of_le (H.lt k hk) g.size
  zlt := fun k hk => Nat.lt_of_lt_of_le (H.zlt k hk) g.size
  own := H.own
  z0 := H.z0
  zext := H.zext
  os := g.os.trans H.os
  tape := g.tape.trans H.tape
  output := g.output.trans H.output
  grown := Nat.le_trans H.grown g.size
  kept := fun k hk hf => (g.block k (Nat.lt_of_lt_of_le hk H.grown)).trans (H.kept k hk hf)
  part := fun x hx => by
    obtain ⟨c, c', e, fr, h1, h2, h3⟩ := H.part x hx
    exact ⟨c, c', e, fr, h1, (g.block _ (by exact (Array.getElem?_eq_some_iff.1 h2).1)).trans h2, h3⟩
  pbx := H.pbx
  pbo := H.pbo
  pbi := H.pbi
  hand := TA.HoldsL.frame _ H.hand (fun _ hz => hz) (fun k hk => g.block k (by
    rcases hk with hk | hk
    · exact TA.HoldsL.lt _ H.hand hk
    · exact H.zlt k hk))
  pbh := H.pbh
  pk := H.pk
theorem SRel.drewN (H : SRel C Z s a w) (n : Nat) : SRel C Z s a { w with drawn := n } := H.grow ⟨rfl, rfl, rfl, Nat.le_refl _, fun _ _ => rfl⟩
end Go.OM
