import Derived.Test.YtchcogjfmbfccaaOm22
import Derived.Tactics
import Derived.Deep.LoopGhost
set_option linter.unusedVariables false
set_option linter.unusedSimpArgs false
namespace Go.OM
variable {C : Ctx} {Z Z' : Nat → Prop} {s : StA} {a : Act} {w w' : World} {E : Env} {o : Oper} {σ σ' : St} {K : Act → World → Prop} {Q : Exit → Act → World → Prop}

/-! ### One operation -/
def St.op1 (E : Env) (N : Nat) (o : Oper) (σ : St) : Option St := match o.op with
  | .move x => stMove E N o.dst o.type x σ
  | .assign x => stAssign E N o.dst o.type x σ
  | .pick c x y => stPick N o.dst c x y σ
  | .alloc t => stAlloc E N o.dst t σ
  | .box _ x => stBox N o.dst x σ
  | .build t ps => stBuild E N o.dst t ps.toList σ
  | .buildSlice t len ps => stLit E N o.dst t len ps.toList σ
  | .load t x => stLoad E N o.dst t x σ
  | .store t x y => (match o.dst with
    | none => stStore E N t x y σ
    | some _ => none)
  | .nilCheck x => stNilc N o.dst x σ
  | .binOp op t x y _ => stBin E N o.dst op t x y σ
  | .unOp op _ x => stUn N o.dst op x σ
  | .convert s d x => stConv E N o.dst s d x σ
  | .makeFunc fn fi ca => (match fi.toList, ca.toList with
    | [], [] => stFunc N o.dst fn σ
    | _, _ => none)
  | .makeSlice t x y => stMake E N o.dst t x y σ
  | .slice t x lo hi mx => (match mx with
    | none => stSlice E N o.dst t x lo hi σ
    | some _ => none)
  | .fieldAddr t x f => stField E N o.dst t x f σ
  | .indexAddr t x i => stIdx E N o.dst t x i σ
  | .index t x i => stIndex E N o.dst t x i σ
  | .extract x i => stExtract N o.dst x i σ
  | .call c => (match c.callee with
    | .builtin b => (match b, c.args.toList, c.argTypes.toList with
      | .append, [x, y], _ => stAppend E N o.dst c.argTypes x y σ
      | .len, [x], t :: _ => stLen E N o.dst t x σ
      | _, _, _ => none)
    | _ => none)
  | _ => none
theorem arr1 {α : Type} {x : Array α} {y : α} (h : x.toList = [y]) : x = #[y] := Array.toList_inj.1 h
theorem arr2 {α : Type} {x : Array α} {y z : α} (h : x.toList = [y, z]) : x = #[y, z] := Array.toList_inj.1 h
theorem op1_ok (h : σ.op1 E C.N o = some σ') (H : SOk C σ a w) (hK : ∀ a' w', SOk C σ' a' w' → K a' w') : o.wp E.P a w K Q := by
  unfold St.op1 at h
  split at h
  · rename_i x ho; exact stMove_ok ho h H hK
  · rename_i x ho; exact stAssign_ok ho h H hK
  · rename_i c x y ho; exact stPick_ok ho h H hK
  · rename_i t ho; exact stAlloc_ok ho h H hK
  · rename_i t x ho; exact stBox_ok ho h H hK
  · rename_i t ps ho; exact stBuild_ok ho h H hK
  · rename_i t len ps ho; exact stLit_ok ho h H hK
  · rename_i t x ho; exact stLoad_ok ho h H hK
  · rename_i t x y ho
    split at h
    · rename_i hd; exact stStore_ok ho hd h H hK
    · cases h
  · rename_i x ho; exact stNilc_ok ho h H hK
  · rename_i op t x y t2 ho; exact stBin_ok ho h H hK
  · rename_i op t x ho; exact stUn_ok ho h H hK
  · rename_i sr d x ho; exact stConv_ok ho h H hK
  · rename_i fn fi ca ho
    split at h
    · rename_i h1 h2; exact stFunc_ok (Array.toList_inj.1 h1) (Array.toList_inj.1 h2) ho h H hK
    · cases h
  · rename_i t x y ho; exact stMake_ok ho h H hK
  · rename_i t x lo hi mx ho
    split at h
    · exact stSlice_ok ho h H hK
    · cases h
  · rename_i t x f ho; exact stField_ok ho h H hK
  · rename_i t x i ho; exact stIdx_ok ho h H hK
  · rename_i t x i ho; exact stIndex_ok ho h H hK
  · rename_i x i ho; exact stExtract_ok ho h H hK
  · rename_i c ho
    obtain ⟨ce, ar, at'⟩ := c
    split at h
    case h_2 => cases h
    rename_i b hb
    simp only at hb h
    subst hb
    split at h
    · rename_i x y hxy
      rw [arr2 hxy] at ho
      exact stAppend_ok ho h H hK
    · rename_i x t ts hx ht
      rw [arr1 hx] at ho
      refine stLen_ok (ts := at') ho ?_ h H hK
      rw [← Array.getElem?_toList, ht]; rfl
    · cases h
  · cases h

/-! ### Guards, regions -/
def St.gives (ops : List Oper) (σ : St) (j : Nat) : Option Bool := match (ops[j]?).bind Oper.dst with
  | some d => (match σ.get d with
    | .t (.v (.bool b)) => some b
    | _ => none)
  | none => none
theorem gives_ok {ops : Array Oper} {j : Nat} {b : Bool} (H : SOk C σ a w) (h : σ.gives ops.toList j = some b) : yielded ops a.tmps j = some b := by
  obtain ⟨s, Z, h1, h2, h3⟩ := H
  subst h1
  unfold St.gives at h
  split at h
  case h_2 => cases h
  rename_i d hd
  split at h
  case h_2 => cases h
  rename_i b' hx
  injection h with h
  subst h
  have hs : s.er.sc (.tmp d) = some (.bool b') := by
    show (match s.er.get d with | .t (.v y) => some y | _ => none) = _
    rw [hx]
  obtain ⟨hv, _⟩ := sc_val h3 hs
  unfold yielded
  rw [Array.getElem?_toList] at hd
  rw [hd]
  have hv' : a.tmps.getD d undef = .bool b' := hv
  simp only [Option.bind_some]
  cases hg : a.tmps[d]? with
  | none =>
    rw [Array.getD_eq_getD_getElem?, hg] at hv'
    simp [undef] at hv'
  | some v =>
    rw [Array.getD_eq_getD_getElem?, hg] at hv'
    simp only [Option.getD_some] at hv'
    subst hv'
    rfl
/-- Is it wanted? -/
def St.wants (ops : List Oper) (σ : St) (o : Oper) : Option Bool := match o.guard with
  | none => some true
  | some (j, want) => (σ.gives ops j).map fun b => b == want
def callOf (o : Oper) : Option (Operand × List Operand) := match o.op with
  | .call c => (match c.callee with
    | .value g => some (g, c.args.toList)
    | _ => none)
  | _ => none
/-- The function that an operand tells. -/
def St.fn (σ : St) (x : Operand) : Option FuncId := match σ.sc x with
  | some (.func (.func f) i c) => (match i.toList, c.toList with
    | [], [] => some f
    | _, _ => none)
  | _ => none
/-- f is a function with a body. -/
def Enters (P : Program) (f : FuncId) : Prop := ∀ (args : Array Value) (w : World), (callFunc f args).run P w = .ok (.enter f args) w
def St.wps (E : Env) (N : Nat) (ops : List Oper) : List Oper → (St → Prop) → St → Prop
  | [], K, σ => K σ
  | o :: os, K, σ => match σ.wants ops o with
    | some false => ∃ σ1, σ.put? N o.dst .u = some σ1 ∧ St.wps E N ops os K σ1
    | some true => (match callOf o with
      | some (g, xs) => ∃ f, σ.fn g = some f ∧ Enters E.P f ∧ ∃ ms args pls σ2, ms.map Prod.snd = xs ∧ σ.lend N ms = some (args, pls, σ2) ∧ ∃ res outs, Ok E.P f args res outs ∧ ∃ σ1, St.land N o.dst (ms.any fun m => m.1.isBor) pls res outs σ2 = some σ1 ∧ St.wps E N ops os K σ1
      | none => ∃ σ1, σ.op1 E N o = some σ1 ∧ St.wps E N ops os K σ1)
    | none => False
theorem stCall_ok {g : Operand} {xs : List Operand} {f : FuncId} {ms : List (Mode × Operand)} {args : List Arg} {res : List T} {outs : List (List T)} {pls : List Pl} {σ2 : St} (ho : callOf o = some (g, xs)) (hf : σ.fn g = some f) (he : Enters E.P f) (hms : ms.map Prod.snd = xs)
    (hl : σ.lend C.N ms = some (args, pls, σ2)) (hok : Ok E.P f args res outs) (hb : St.land C.N o.dst (ms.any fun m => m.1.isBor) pls res outs σ2 = some σ') (H : SOk C σ a w) (hK : ∀ a' w', SOk C σ' a' w' → K a' w') : o.wp E.P a w K Q := by
  have hcall := call_ok hok hl hb H
  obtain ⟨s, Z, h1, h2, h3⟩ := H
  subst h1
  unfold callOf at ho
  split at ho
  case h_2 => cases ho
  rename_i c hc
  split at ho
  case h_2 => cases ho
  rename_i g' hg
  simp only [Option.some.injEq, Prod.mk.injEq] at ho
  obtain ⟨rfl, hxs⟩ := ho
  unfold St.fn at hf
  split at hf
  case h_2 => cases hf
  rename_i f' i c' hsc
  split at hf
  case h_2 => cases hf
  rename_i hi hc'
  injection hf with hf
  subst hf
  obtain ⟨hv, _⟩ := sc_val h3 hsc
  have hi' : i = #[] := Array.toList_inj.1 hi
  have hc2 : c' = #[] := Array.toList_inj.1 hc'
  subst hi'; subst hc2
  have hargs : c.args.map a.eval = (ms.map fun m => a.eval m.2).toArray := by
    apply Array.toList_inj.1
    rw [Array.toList_map, hxs, ← hms, List.map_map]
    rfl
  have hrun : (execOp a.eval o).run E.P w = .ok (.enter f' (ms.map fun m => a.eval m.2).toArray) w := by
    simp only [execOp, hc, resolve, hg, hv, hargs, Deferred.ofValue]
    simp [invoke, he _ _]
  unfold Oper.wp
  rw [hrun]
  exact hcall.mono fun e w' ⟨v, e1, e2⟩ => by
    subst e1
    exact hK _ _ e2
theorem wps_ok {ops : Array Oper} : ∀ (os : List Oper) (σ : St) (a : Act) (w : World) (KS : St → Prop), σ.wps E C.N ops.toList os KS → SOk C σ a w → (∀ σ' a' w', KS σ' → SOk C σ' a' w' → Q .normal a' w') → wpList E.P ops Q os a w
  | [], σ, a, w, KS, h, H, hQ => hQ σ a w h H
  | o :: os, σ, a, w, KS, h, H, hQ => by
    simp only [St.wps] at h
    unfold wpList
    split at h
    · -- not wanted
      rename_i hw
      obtain ⟨σ1, h1, h2⟩ := h
      have hn : Region.wanted o (yielded ops a.tmps) = false := by
        unfold St.wants at hw
        split at hw
        · cases hw
        · rename_i j want hg
          obtain ⟨b, hb, hb2⟩ := Option.map_eq_some_iff.1 hw
          simp only [Region.wanted, hg, gives_ok H hb]
          simpa using hb2
      rw [if_neg (by rw [hn]; simp)]
      refine wps_ok os σ1 _ _ KS h2 ?_ hQ
      obtain ⟨s, Z, q1, q2, q3⟩ := H
      exact SOk.put0 q3 q1 h1 (xA := .u) rfl trivial (fun k => rfl)
    · rename_i hw
      have hn : Region.wanted o (yielded ops a.tmps) = true := by
        unfold St.wants at hw
        split at hw
        · rename_i hg; simp [Region.wanted, hg]
        · rename_i j want hg
          obtain ⟨b, hb, hb2⟩ := Option.map_eq_some_iff.1 hw
          simp only [Region.wanted, hg, gives_ok H hb]
          simpa using hb2
      rw [if_pos hn]
      left
      split at h
      · rename_i g xs hcall
        obtain ⟨f, hf, he, ms, args, pls, σ2, hms, hl, res, outs, hok, σ1, hb, hrest⟩ := h
        exact stCall_ok hcall hf he hms hl hok hb H fun a' w' H' => wps_ok os σ1 a' w' KS hrest H' hQ
      · obtain ⟨σ1, h1, h2⟩ := h
        exact op1_ok h1 H fun a' w' H' => wps_ok os σ1 a' w' KS h2 H' hQ
    · exact h.elim

/-! ### Code -/
def SWp (E : Env) (C : Ctx) (c : Code) (Q : Exit → St → Prop) (σ : St) : Prop := ∀ a w, SOk C σ a w → c.wp E.P (fun e a w => ∃ σ', Q e σ' ∧ SOk C σ' a w) a w
variable {S : Exit → St → Prop} {c d : Code}
theorem SWp.region {id : Nat} {ops : Array Oper} (h : σ.wps E C.N ops.toList ops.toList (S .normal)) : SWp E C (.region id ops false) S σ :=
  fun a w H => wp_region_list (wps_ok ops.toList σ a w _ h H fun σ' a' w' hS H' => ⟨σ', hS, H'⟩)
def thenS (K : St → Prop) (S : Exit → St → Prop) : Exit → St → Prop
  | .normal, σ => K σ
  | e, σ => S e σ
theorem SWp.mono {S' : Exit → St → Prop} (h : SWp E C c S σ) (hS : ∀ e σ, S e σ → S' e σ) : SWp E C c S' σ :=
  fun a w H => Code.wp_mono (fun e a w ⟨σ', h1, h2⟩ => ⟨σ', hS _ _ h1, h2⟩) (h a w H)
theorem SWp.seq (h : SWp E C c (thenS (SWp E C d S) S) σ) : SWp E C (.seq c d) S σ := fun a w H => wp_seq (Code.wp_mono (fun e a w ⟨σ', h1, h2⟩ => by
  cases e with
  | normal => exact h1 a w h2
  | _ => exact ⟨σ', h1, h2⟩) (h a w H))
theorem SWp.cond {x : Operand} {b : Bool} (hx : σ.sc x = some (.bool b)) (h : SWp E C (if b = true then c else d) S σ) : SWp E C (.cond x c d) S σ := fun a w H => by
  obtain ⟨s, Z, h1, h2, h3⟩ := id H
  subst h1
  obtain ⟨hv, _⟩ := sc_val h3 hx
  exact wp_cond hv (h a w H)
theorem SWp.skip (h : S .normal σ) : SWp E C .skip S σ := fun a w H => wp_skip ⟨σ, h, H⟩
theorem SWp.label {l : Nat} (h : S .normal σ) : SWp E C (.label l) S σ := fun a w H => wp_label ⟨σ, h, H⟩
theorem SWp.ret (h : S .ret σ) : SWp E C .ret S σ := fun a w H => wp_ret ⟨σ, h, H⟩
theorem SWp.exit {id : Nat} (h : S (.exit id) σ) : SWp E C (.exit id) S σ := fun a w H => wp_exit ⟨σ, h, H⟩
def inBlockS (id : Nat) (S : Exit → St → Prop) : Exit → St → Prop
  | .exit id', σ => if id' = id then S .normal σ else S (.exit id') σ
  | e, σ => S e σ
theorem SWp.block {id : Nat} (h : SWp E C c (inBlockS id S) σ) : SWp E C (.block id c) S σ := fun a w H => wp_block (Code.wp_mono (fun e a w ⟨σ', h1, h2⟩ => by
  cases e with
  | exit id' =>
    simp only [inBlockS] at h1
    simp only [Exit.inBlock]
    split
    · rename_i e; rw [if_pos e] at h1; exact ⟨σ', h1, h2⟩
    · rename_i e; rw [if_neg e] at h1; exact ⟨σ', h1, h2⟩
  | _ => exact ⟨σ', h1, h2⟩) (h a w H))
/-- **A loop**: rounds told by what 'α' tells; each round lessens μ. -/
theorem SWp.loop {α : Type} (inv : α → St) (μ : α → Nat) (I : α → Prop) (g : α) (hI : I g) (hσ : inv g = σ) (h : ∀ g, I g → SWp E C c (thenS (fun σ' => ∃ g', I g' ∧ inv g' = σ' ∧ μ g' < μ g) S) (inv g)) : SWp E C (.loop c) S σ := fun a w H => by
  refine wp_loop_ghost (fun n a w => ∃ g, I g ∧ μ g = n ∧ SOk C (inv g) a w) (μ g) ⟨g, hI, rfl, hσ ▸ H⟩ ?_
  intro n a w ⟨g, hI, hn, H⟩
  subst hn
  refine Code.wp_mono (fun e a w ⟨σ', h1, h2⟩ => ?_) (h g hI a w H)
  cases e with
  | normal =>
    obtain ⟨g', q1, q2, q3⟩ := h1
    exact ⟨μ g', q3, g', q1, rfl, q2 ▸ h2⟩
  | _ => exact ⟨σ', h1, h2⟩
end Go.OM
