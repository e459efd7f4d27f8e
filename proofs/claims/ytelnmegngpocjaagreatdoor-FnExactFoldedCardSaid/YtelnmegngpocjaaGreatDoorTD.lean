import Derived.Test.YtelnmegngpocjaaGreatDoorTC
set_option linter.unusedVariables false
set_option linter.unusedSimpArgs false
set_option linter.unusedVariables false
set_option linter.unusedSimpArgs false
namespace Go.OM
def paramB (x : GParam) : Bool := nameB x.Name && inB x.Typ 1 4
def bodyB (p : GProgram) (f : GFn) : Bool := inB f.Body 0 ((p.Nodes.length : Int) - 1) && (match p.Nodes[f.Body.toNat]? with | some x => x.Kind == 20 | none => false)
def retB (p : GProgram) (f : GFn) : Bool := if f.Res = 0 then f.Ret == -1 else inB f.Ret 0 ((p.Nodes.length : Int) - 1) && (match p.Nodes[f.Ret.toNat]? with | some x => valueB x.Kind | none => false)
def fnB (p : GProgram) (f : GFn) : Bool := nameB f.Name && (!decide ((f.Params.length : Int) > 3) && (inB f.Res 0 2 && (f.Params.all paramB && (bodyB p f && retB p f))))
theorem bodyB_iff {p : GProgram} {f : GFn} : bodyB p f = true ↔ 0 ≤ f.Body ∧ f.Body < p.Nodes.length ∧ ∃ x, p.Nodes[f.Body.toNat]? = some x ∧ x.Kind = 20 := by
 unfold bodyB
 rw [Bool.and_eq_true, inB_iff]
 constructor
 ·rintro ⟨⟨h1, h2⟩, h3⟩
  refine ⟨h1, by omega, ?_⟩
  split at h3
  ·rename_i x hx; exact ⟨x, hx, by simpa using h3⟩
  ·cases h3
 ·rintro ⟨h1, h2, x, hx, hk⟩
  refine ⟨⟨h1, by omega⟩, ?_⟩
  rw [hx]; simpa using hk
theorem body_step (p : GProgram) (f : GFn) (hn : p.Nodes.length ≤ 1048576) (g : Bool → Option Bool) : (Option.bind (if (!(inB f.Body 0 ((p.Nodes.length : Int) - 1))) = true then some true else (getI p.Nodes f.Body).bind fun e => some (e.Kind != 20)) fun v => g v) = g (!(bodyB p f)) := by
 unfold bodyB
 cases h : inB f.Body 0 ((p.Nodes.length : Int) - 1) with
 | false => rfl
 | true =>
  have h' := inB_iff.1 h
  have hlt : f.Body.toNat < p.Nodes.length := by omega
  rw [getI_in h'.1 (by omega), List.getElem?_eq_getElem hlt]
  rfl
theorem ret_step (p : GProgram) (f : GFn) (hn : p.Nodes.length ≤ 1048576) : (if (f.Res == 0) = true then some (f.Ret == (-1)) else Option.bind (if inB f.Ret 0 ((p.Nodes.length : Int) - 1) = true then (getI p.Nodes f.Ret).bind fun e => some (valueB e.Kind) else some false) fun v => some v) = some (retB p f) := by
 unfold retB
 by_cases h0 : f.Res = 0
 ·rw [if_pos (by simpa using h0), if_pos h0]
 ·rw [if_neg (by simpa using h0), if_neg h0]
  cases h : inB f.Ret 0 ((p.Nodes.length : Int) - 1) with
  | false => rfl
  | true =>
   have h' := inB_iff.1 h
   have hlt : f.Ret.toNat < p.Nodes.length := by omega
   rw [getI_in h'.1 (by omega), List.getElem?_eq_getElem hlt]
   rfl
theorem impl_fnOk_eq (p : GProgram) (f : GFn) (hn : p.Nodes.length ≤ 1048576) : impl_fnOk p f = some (fnB p f) := by
 unfold impl_fnOk fnB
 simp only [impl_NameOk_eq, impl_in_eq, impl_isValue_eq, Option.bind_some, w64_pred hn]
 cases hnm : nameB f.Name with
 | false => rfl
 | true =>
  simp only [Bool.not_true, Bool.false_eq_true, if_false, Bool.true_and]
  by_cases hp3 : (f.Params.length : Int) > 3
  ·rw [if_pos (by simpa using hp3), decide_eq_true hp3]; rfl
  ·rw [if_neg (by simpa using hp3), decide_eq_false hp3]
   simp only [Bool.not_false, Bool.true_and]
   have hres : (if (f.Res != 0) = true then if (f.Res != 1) = true then some (f.Res != 2) else some false else some false) = some (!(inB f.Res 0 2)) := by
    by_cases h0 : f.Res = 0
    ·rw [h0]; rfl
    ·by_cases h1 : f.Res = 1
     ·rw [h1]; rfl
     ·by_cases h2 : f.Res = 2
      ·rw [h2]; rfl
      ·have : inB f.Res 0 2 = false := inB_false.2 (by omega)
       simp [this, h0, h1, h2]
   rw [hres]
   cases hin : inB f.Res 0 2 with
   | false => rfl
   | true =>
    simp only [Option.bind_some, Bool.not_true, Bool.false_eq_true, if_false, Bool.true_and]
    rw [loopP_all f.Params paramB (impl_fnOk_l1 f) (fun k hk => by
     simp only [impl_fnOk_l1, ofNat_lt_true hk, if_true, getI_at hk, Option.bind_some, impl_NameOk_eq, impl_in_eq, w64_nat hk (by omega)]
     unfold paramB
     cases nameB f.Params[k].Name
     ·rfl
     ·cases inB f.Params[k].Typ 1 4 <;> rfl) (by simp [impl_fnOk_l1])]
    cases f.Params.all paramB with
    | false => rfl
    | true =>
     simp only [if_true, Option.bind_some, Bool.true_and]
     rw [body_step p f hn]
     cases bodyB p f with
     | false => rfl
     | true =>
      simp only [Bool.not_true, Bool.false_eq_true, if_false, Bool.true_and]
      exact ret_step p f hn
def fnAtQ (p : GProgram) (nm : ByteArray) (k : Nat) : Option Int := match p.Fns[k]? with
 | some f => if sEq f.Name nm = true then some (k : Int) else none
 | none => none
def fnAtB (p : GProgram) (nm : ByteArray) : Int := ((List.range p.Fns.length).findSome? (fnAtQ p nm)).getD (-1)
theorem impl_FnAt_eq (p : GProgram) (nm : ByteArray) (hp : p.Fns.length ≤ 1048576) : impl_FnAt p nm = some (fnAtB p nm) := by
 unfold impl_FnAt fnAtB
 rw [find_range p.Fns.length (fnAtQ p nm) (impl_FnAt_l1 p nm) (fun k hk => by
  simp only [impl_FnAt_l1, ofNat_lt_true hk, if_true, getI_at hk, Option.bind_some, w64_nat hk hp]
  unfold fnAtQ
  rw [List.getElem?_eq_getElem hk]
  cases h : sEq p.Fns[k].Name nm <;> simp [h]) (by simp [impl_FnAt_l1])]
 cases (List.range p.Fns.length).findSome? (fnAtQ p nm) <;> rfl
theorem spec_FnAt_eq (p : GProgram) (nm : ByteArray) (hp : p.Fns.length ≤ 1048576) : spec_FnAt p nm = some (fnAtB p nm) := impl_FnAt_eq p nm hp
theorem spec_l04Fn_eq (p : GProgram) (i : Nat) (hi : i < p.Fns.length) (hn : p.Nodes.length ≤ 1048576) (hp : p.Fns.length ≤ 1048576) : spec_l04Fn p i = some (fnB p p.Fns[i] && fnAtB p p.Fns[i].Name == i) := by
 unfold spec_l04Fn fnB
 simp only [getI_at hi, spec_NameOk_eq, spec_in_eq, spec_l04Value_eq, spec_FnAt_eq p _ hp, Option.bind_some, w64_pred hn]
 generalize p.Fns[i] = f
 cases hnm : nameB f.Name with
 | false => rfl
 | true =>
  simp only [Bool.not_true, Bool.false_eq_true, if_false, Bool.true_and]
  cases hat : fnAtB p f.Name == i with
  | false =>
   have : (fnAtB p f.Name != i) = true := by simp only [bne, hat, Bool.not_false]
   rw [this, Bool.and_false]; rfl
  | true =>
   have : (fnAtB p f.Name != i) = false := by simp only [bne, hat, Bool.not_true]
   rw [this, Bool.and_true]
   simp only [Bool.false_eq_true, if_false]
   by_cases hp3 : (f.Params.length : Int) > 3
   ·rw [if_pos (by simpa using hp3), decide_eq_true hp3]; rfl
   ·rw [if_neg (by simpa using hp3), decide_eq_false hp3]
    simp only [Bool.not_false, Bool.true_and]
    cases hin : inB f.Res 0 2 with
    | false => rfl
    | true =>
     simp only [Option.bind_some, Bool.not_true, Bool.false_eq_true, if_false, Bool.true_and]
     rw [loopP_all f.Params paramB (spec_l04Fn_l1 f) (fun k hk => by
      simp only [spec_l04Fn_l1, ofNat_lt_true hk, if_true, getI_at hk, Option.bind_some, spec_NameOk_eq, spec_in_eq, w64_nat hk (by omega)]
      unfold paramB
      cases nameB f.Params[k].Name
      ·rfl
      ·cases inB f.Params[k].Typ 1 4 <;> rfl) (by simp [spec_l04Fn_l1])]
     cases f.Params.all paramB with
     | false => rfl
     | true =>
      simp only [if_true, Option.bind_some, Bool.true_and]
      rw [body_step p f hn]
      cases bodyB p f with
      | false => rfl
      | true =>
       simp only [Bool.not_true, Bool.false_eq_true, if_false, Bool.true_and]
       exact ret_step p f hn
def incs (d : Int) (l : List Int) (m : List Int) : List Int := l.foldl (fun m e => m.set e.toNat (m.getD e.toNat 0 + d)) m
theorem incs_len (d : Int) : ∀ (l m : List Int), (incs d l m).length = m.length
 | [], m => rfl
 | e :: l, m => by
  show (incs d l (m.set e.toNat (m.getD e.toNat 0 + d))).length = _
  rw [incs_len d l]; simp
theorem incs_append (d : Int) (a b m : List Int) : incs d (a ++ b) m = incs d b (incs d a m) := by unfold incs; rw [List.foldl_append]
theorem incs_get (d : Int) (k : Nat) : ∀ (l m : List Int), (∀ e ∈ l, 0 ≤ e ∧ e < m.length) → (incs d l m).getD k 0 = m.getD k 0 + d * (l.count (k : Int) : Nat)
 | [], m, _ => by simp [incs]
 | e :: l, m, h => by
  have he := h e (by simp)
  have ih := incs_get d k l (m.set e.toNat (m.getD e.toNat 0 + d)) (fun x hx => by rw [List.length_set]; exact h x (by simp [hx]))
  show (incs d l (m.set e.toNat (m.getD e.toNat 0 + d))).getD k 0 = _
  rw [ih, List.count_cons]
  by_cases hk : e.toNat = k
  ·have : (e == (k : Int)) = true := by simp only [beq_iff_eq]; omega
   rw [if_pos this]
   have hg : (m.set e.toNat (m.getD e.toNat 0 + d)).getD k 0 = m.getD k 0 + d := by
    rw [List.getD_eq_getElem?_getD, List.getElem?_set, if_pos hk, if_pos (by omega), hk]; rfl
   rw [hg, Int.natCast_add, Int.mul_add]
   simp only [Int.natCast_one, Int.mul_one]
   omega
  ·have : ¬ (e == (k : Int)) = true := by simp only [beq_iff_eq]; omega
   rw [if_neg this]
   have hg : (m.set e.toNat (m.getD e.toNat 0 + d)).getD k 0 = m.getD k 0 := by
    rw [List.getD_eq_getElem?_getD, List.getElem?_set, if_neg hk, ← List.getD_eq_getElem?_getD]
   rw [hg]; rfl
structure Bd (n : Nat) (C : Int) (m : List Int) : Prop where
 len : m.length = n
 bnd : ∀ v ∈ m, 0 ≤ v ∧ v ≤ C
theorem Bd.mono {n : Nat} {C C' : Int} {m : List Int} (h : Bd n C m) (hc : C ≤ C') : Bd n C' m := ⟨h.len, fun v hv => by have := h.bnd v hv; omega⟩
theorem Bd.getD {n : Nat} {C : Int} {m : List Int} (h : Bd n C m) (hC : 0 ≤ C) (k : Nat) : 0 ≤ m.getD k 0 ∧ m.getD k 0 ≤ C := by
 rw [List.getD_eq_getElem?_getD]
 cases hk : m[k]? with
 | none => exact ⟨Int.le_refl 0, hC⟩
 | some v => exact h.bnd v (List.mem_of_getElem? hk)
theorem Bd.set {n : Nat} {C d : Int} {m : List Int} (h : Bd n C m) (hC : 0 ≤ C) (hd : 0 ≤ d) (k : Nat) : Bd n (C + d) (m.set k (m.getD k 0 + d)) := ⟨by rw [List.length_set]; exact h.len, fun v hv => by
 rcases List.mem_or_eq_of_mem_set hv with h1 | h1
 ·have := h.bnd v h1; omega
 ·have := h.getD hC k; omega⟩
theorem Bd.incs {n : Nat} {d : Int} (hd : 0 ≤ d) : ∀ (l : List Int) {C : Int} {m : List Int}, 0 ≤ C → Bd n C m → Bd n (C + d * l.length) (Go.OM.incs d l m)
 | [], C, m, hC, h => by simpa [Go.OM.incs] using h
 | e :: l, C, m, hC, h => by
  have := Bd.incs hd l (C := C + d) (by omega) (h.set hC hd e.toNat)
  refine this.mono ?_
  rw [List.length_cons, Int.natCast_add, Int.mul_add]
  simp only [Int.natCast_one, Int.mul_one]
  omega
theorem inc_loop {ρ : Type} (n : Nat) (kids : List Int) (hk : ∀ e ∈ kids, 0 ≤ e ∧ e < n) (C : Int) (hC : 0 ≤ C) (f : List Int × Int → Option ((List Int × Int) ⊕ ρ)) (fin : List Int → ρ)
  (hf : ∀ (m : List Int) (j : Nat) (hj : j < kids.length), Bd n (C + kids.length) m → f (m, j) = some (.inl (m.set kids[j].toNat (m.getD kids[j].toNat 0 + 1), ((j + 1 : Nat) : Int))))
  (he : ∀ m : List Int, f (m, kids.length) = some (.inr (fin m))) (m : List Int) (hm : Bd n C m) : loopP f (m, 0) = some (fin (incs 1 kids m)) := by
 have := loopP_fold kids (fun (m : List Int) j => (m, (j : Int))) (fun j m => Bd n (C + j) m) (fun m e => .inl (m.set e.toNat (m.getD e.toNat 0 + 1))) fin f (fun m j hj hI => by
  left
  refine ⟨_, rfl, hf m j hj (hI.mono (by omega)), ?_⟩
  have := hI.set (by omega) (show (0 : Int) ≤ 1 by omega) kids[j].toNat
  exact this.mono (by omega)) (fun m _ => he m) m (by simpa using hm)
 rw [foldE_inl] at this
 exact this
def kidAll (nodes : List GNode) : List Int := nodes.flatMap (·.Kids)
def kc (nodes : List GNode) (k : Nat) : Nat := (kidAll nodes).count (k : Int)
theorem okU_kids {nodes : List GNode} (h : okU nodes nodes.length = true) {x : GNode} (hx : x ∈ nodes) : x.Kids.length ≤ 12 ∧ (∀ e ∈ x.Kids, 0 ≤ e ∧ e < nodes.length) ∧ x.Kids.Nodup := by
 obtain ⟨i, hi, rfl⟩ := List.mem_iff_getElem.1 hx
 have hn := (okU_at h hi).1
 have hg : nodes[i]? = some nodes[i] := List.getElem?_eq_getElem hi
 refine ⟨nodeB_kidlen hn hg, fun e he => ?_, ?_⟩
 ·have := nodeB_kids hn hg e he; omega
 ·obtain ⟨_, _, _, h3, _⟩ := nodeB_get hn
  rw [List.nodup_iff_pairwise_ne, List.pairwise_iff_getElem]
  intro a b ha hb hab e
  refine (h3 b hb).2.1 ?_
  rw [← e]
  refine List.mem_iff_getElem.2 ⟨a, by simp only [List.length_take]; omega, ?_⟩
  rw [List.getElem_take]
theorem kc_le {nodes : List GNode} (h : okU nodes nodes.length = true) (k : Nat) : kc nodes k ≤ nodes.length := by
 have key : ∀ l : List GNode, (∀ x ∈ l, x.Kids.Nodup) → (l.flatMap (·.Kids)).count (k : Int) ≤ l.length := by
  intro l
  induction l with
  | nil => intro _; simp
  | cons x l ih =>
   intro hl
   rw [List.flatMap_cons, List.count_append, List.length_cons]
   have h1 := ih fun y hy => hl y (by simp [hy])
   have h2 := List.nodup_iff_count.1 (hl x (by simp)) (k : Int)
   omega
 exact key nodes fun x hx => (okU_kids h hx).2.2
theorem kids_loop (nodes : List GNode) (hok : okU nodes nodes.length = true) (hn : nodes.length ≤ 300) (f : List Int × Int → Option ((List Int × Int) ⊕ List Int))
  (hf : ∀ (m : List Int) (i : Nat) (hi : i < nodes.length), Bd nodes.length (12 * i) m → f (m, i) = some (.inl (incs 1 nodes[i].Kids m, ((i + 1 : Nat) : Int))))
  (he : ∀ m : List Int, f (m, nodes.length) = some (.inr m)) : loopP f (List.replicate nodes.length 0, 0) = some (incs 1 (kidAll nodes) (List.replicate nodes.length 0)) := by
 have := loopP_fold nodes (fun (m : List Int) j => (m, (j : Int))) (fun j m => Bd nodes.length (12 * j) m) (fun m x => .inl (incs 1 x.Kids m)) id f (fun m j hj hI => by
  left
  refine ⟨_, rfl, hf m j hj hI, ?_⟩
  have h12 := (okU_kids hok (List.getElem_mem hj)).1
  have := Bd.incs (show (0 : Int) ≤ 1 by omega) nodes[j].Kids (by omega) hI
  exact this.mono (by omega)) (fun m _ => he m) (List.replicate nodes.length 0) ⟨by simp, fun v hv => by
   have := (List.mem_replicate.1 hv).2
   omega⟩
 rw [foldE_inl] at this
 have e : ∀ (l : List GNode) (m : List Int), l.foldl (fun m x => incs 1 x.Kids m) m = incs 1 (l.flatMap (·.Kids)) m := by
  intro l
  induction l with
  | nil => intro m; rfl
  | cons x l ih => intro m; rw [List.foldl_cons, List.flatMap_cons, incs_append, ih]
 rw [e] at this
 exact this
def met0 (nodes : List GNode) : List Int := incs 1 (kidAll nodes) (List.replicate nodes.length 0)
theorem met0_len (nodes : List GNode) : (met0 nodes).length = nodes.length := by unfold met0; rw [incs_len]; simp
theorem met0_get {nodes : List GNode} (h : okU nodes nodes.length = true) (k : Nat) : (met0 nodes).getD k 0 = (kc nodes k : Nat) := by
 unfold met0
 rw [incs_get 1 k _ _ (fun e he => by
  obtain ⟨x, hx, hm⟩ := List.mem_flatMap.1 he
  rw [List.length_replicate]
  exact (okU_kids h hx).2.1 e hm)]
 have : (List.replicate nodes.length (0 : Int)).getD k 0 = 0 := by
  rw [List.getD_eq_getElem?_getD, List.getElem?_replicate]; split <;> rfl
 rw [this]
 unfold kc
 omega
theorem impl_met (p : GProgram) (hok : okU p.Nodes p.Nodes.length = true) (hn : p.Nodes.length ≤ 300) : loopP (impl_ProgramOk_l1 p) (List.replicate p.Nodes.length 0, 0) = some (met0 p.Nodes) := by
 refine kids_loop p.Nodes hok hn _ (fun m i hi hI => ?_) (fun m => by simp [impl_ProgramOk_l1])
 obtain ⟨h12, hb, _⟩ := okU_kids hok (List.getElem_mem hi)
 simp only [impl_ProgramOk_l1, ofNat_lt_true hi, if_true, getI_at hi, Option.bind_some]
 rw [inc_loop p.Nodes.length p.Nodes[i].Kids hb (12 * i) (by omega) (impl_ProgramOk_l2 p.Nodes[i]) id (fun m j hj hm => by
  have hbe := hb _ (List.getElem_mem hj)
  have hg := hm.getD (by omega) p.Nodes[i].Kids[j].toNat
  simp only [impl_ProgramOk_l2, ofNat_lt_true hj, if_true, getI_at hj, Option.bind_some]
  rw [getI_in hbe.1 (by rw [hm.len]; exact hbe.2)]
  have hlt : p.Nodes[i].Kids[j].toNat < m.length := by rw [hm.len]; omega
  have e : m[p.Nodes[i].Kids[j].toNat] = m.getD p.Nodes[i].Kids[j].toNat 0 := by rw [List.getD_eq_getElem?_getD, List.getElem?_eq_getElem hlt]; rfl
  rw [e]
  simp only [Option.bind_some, bindS_def, w64 (n := m.getD p.Nodes[i].Kids[j].toNat 0 + 1) (by omega) (by omega), w64_nat hj (show p.Nodes[i].Kids.length ≤ 1048576 by omega)]) (fun m => by simp [impl_ProgramOk_l2]) m hI]
 simp only [Option.bind_some, id, w64_nat hi (show p.Nodes.length ≤ 1048576 by omega)]
theorem spec_met (nodes : List GNode) (hok : okU nodes nodes.length = true) (hn : nodes.length ≤ 300) : spec_l04Used nodes = some (met0 nodes) := by
 unfold spec_l04Used
 rw [mkI_len _ _ _ (by omega) (by omega)]
 simp only [Option.bind_some]
 rw [kids_loop nodes hok hn (spec_l04Used_l1 nodes) (fun m i hi hI => by
  obtain ⟨h12, hb, _⟩ := okU_kids hok (List.getElem_mem hi)
  simp only [spec_l04Used_l1, ofNat_lt_true hi, if_true]
  rw [inc_loop nodes.length nodes[i].Kids hb (12 * i) (by omega) (spec_l04Used_l2 nodes i) id (fun m j hj hm => by
   have hbe := hb _ (List.getElem_mem hj)
   have hg := hm.getD (by omega) nodes[i].Kids[j].toNat
   simp only [spec_l04Used_l2, getI_at hi, ofNat_lt_true hj, if_true, getI_at hj, Option.bind_some]
   rw [getI_in hbe.1 (by rw [hm.len]; exact hbe.2)]
   have hlt : nodes[i].Kids[j].toNat < m.length := by rw [hm.len]; omega
   have e : m[nodes[i].Kids[j].toNat] = m.getD nodes[i].Kids[j].toNat 0 := by rw [List.getD_eq_getElem?_getD, List.getElem?_eq_getElem hlt]; rfl
   rw [e]
   simp only [Option.bind_some, bindS_def, w64 (n := m.getD nodes[i].Kids[j].toNat 0 + 1) (by omega) (by omega), w64_nat hj (show nodes[i].Kids.length ≤ 1048576 by omega)]) (fun m => by simp [spec_l04Used_l2, getI_at hi]) m hI]
  simp only [Option.bind_some, id, w64_nat hi (show nodes.length ≤ 1048576 by omega)]) (fun m => by simp [spec_l04Used_l1])]
 rfl
def rootsF (f : GFn) : List Int := if f.Ret < 0 then [f.Body] else [f.Body, f.Ret]
def rootsT (p : GProgram) (n : Nat) : List Int := (p.Fns.take n).flatMap rootsF
def roots (p : GProgram) : List Int := p.Fns.flatMap rootsF
theorem rootsT_all (p : GProgram) : rootsT p p.Fns.length = roots p := by unfold rootsT roots; rw [List.take_length]
theorem rootsT_succ (p : GProgram) {n : Nat} (h : n < p.Fns.length) : rootsT p (n + 1) = rootsT p n ++ rootsF p.Fns[n] := by
 unfold rootsT
 rw [List.take_add_one, List.getElem?_eq_getElem h, List.flatMap_append]; simp
def goodF (p : GProgram) (i : Nat) : Bool := match p.Fns[i]? with
 | some f => fnB p f && fnAtB p f.Name == i
 | none => false
theorem goodF_at {p : GProgram} {i : Nat} (h : i < p.Fns.length) : goodF p i = (fnB p p.Fns[i] && fnAtB p p.Fns[i].Name == i) := by unfold goodF; rw [List.getElem?_eq_getElem h]
theorem fnB_roots {p : GProgram} {f : GFn} (h : fnB p f = true) : (∀ e ∈ rootsF f, 0 ≤ e ∧ e < p.Nodes.length) ∧ 0 ≤ f.Body ∧ f.Body < p.Nodes.length ∧ f.Ret < p.Nodes.length := by
 unfold fnB at h
 simp only [Bool.and_eq_true] at h
 obtain ⟨_, _, _, _, h5, h6⟩ := h
 obtain ⟨b1, b2, _⟩ := bodyB_iff.1 h5
 have hr : f.Ret < p.Nodes.length := by
  unfold retB at h6
  split at h6
  ·simp only [beq_iff_eq] at h6; omega
  ·rw [Bool.and_eq_true, inB_iff] at h6; omega
 refine ⟨?_, b1, b2, hr⟩
 intro e he
 unfold rootsF at he
 split at he
 ·simp only [List.mem_singleton] at he; subst he; exact ⟨b1, b2⟩
 ·simp only [List.mem_cons, List.not_mem_nil, or_false] at he
  rcases he with rfl | rfl
  ·exact ⟨b1, b2⟩
  ·exact ⟨by omega, hr⟩
def markR : List Int → List Int → Option (List Int)
 | [], m => some m
 | r :: rs, m => if m.getD r.toNat 0 = 0 then markR rs (m.set r.toNat (-1)) else none
theorem markR_append : ∀ (a b m : List Int), markR (a ++ b) m = (markR a m).bind (markR b)
 | [], b, m => rfl
 | r :: a, b, m => by
  simp only [List.cons_append, markR]
  split
  ·exact markR_append a b _
  ·rfl
theorem markR_spec (n : Nat) : ∀ (rs m : List Int), m.length = n → (∀ r ∈ rs, 0 ≤ r ∧ r < n) →
  (match markR rs m with
   | some m' => (rs.Nodup ∧ ∀ r ∈ rs, m.getD r.toNat 0 = 0) ∧ m'.length = n ∧ ∀ k : Nat, m'.getD k 0 = if (k : Int) ∈ rs then -1 else m.getD k 0
   | none => ¬ (rs.Nodup ∧ ∀ r ∈ rs, m.getD r.toNat 0 = 0))
 | [], m, hm, _ => by simp [markR, hm]
 | r :: rs, m, hm, h => by
  have hr := h r (by simp)
  simp only [markR]
  by_cases h0 : m.getD r.toNat 0 = 0
  ·rw [if_pos h0]
   have ih := markR_spec n rs (m.set r.toNat (-1)) (by rw [List.length_set]; exact hm) (fun x hx => h x (by simp [hx]))
   have hget : ∀ k : Nat, (m.set r.toNat (-1)).getD k 0 = if (k : Int) = r then -1 else m.getD k 0 := by
    intro k
    rw [List.getD_eq_getElem?_getD, List.getElem?_set]
    by_cases hk : r.toNat = k
    ·rw [if_pos hk, if_pos (by omega), if_pos (by omega)]; rfl
    ·rw [if_neg hk, if_neg (by omega), ← List.getD_eq_getElem?_getD]
   have hre : ∀ x ∈ rs, ((x.toNat : Nat) : Int) = x := fun x hx => by have := h x (by simp [hx]); omega
   split at ih
   ·rename_i m' hm'
    try rw [hm']
    obtain ⟨⟨i1, i2⟩, i3, i4⟩ := ih
    have hnr : r ∉ rs := fun hm => by
     have := i2 r hm
     rw [hget, hre r hm, if_pos rfl] at this
     omega
    refine ⟨⟨List.nodup_cons.2 ⟨hnr, i1⟩, fun x hx => ?_⟩, i3, fun k => ?_⟩
    ·rcases List.mem_cons.1 hx with rfl | hx
     ·exact h0
     ·have := i2 x hx
      rw [hget, hre x hx] at this
      split at this
      ·omega
      ·exact this
    ·rw [i4, hget]
     by_cases h1 : (k : Int) ∈ rs
     ·rw [if_pos h1, if_pos (by simp [h1])]
     ·rw [if_neg h1]
      by_cases h2 : (k : Int) = r
      ·rw [if_pos h2, if_pos (by simp [h2])]
      ·rw [if_neg h2, if_neg (by simp [h1, h2])]
   ·rename_i hm'
    try rw [hm']
    rintro ⟨j1, j2⟩
    rw [List.nodup_cons] at j1
    refine ih ⟨j1.2, fun x hx => ?_⟩
    rw [hget, hre x hx]
    have : ¬ x = r := fun e => j1.1 (e ▸ hx)
    rw [if_neg this]
    exact j2 x (by simp [hx])
  ·rw [if_neg h0]
   rintro ⟨_, j2⟩
   exact h0 (j2 r (by simp))
def usedB (n : Nat) : Bool := n == 1 || n == 1000
def progB (p : GProgram) : Bool := inB p.Nodes.length 1 300 && (inB p.Fns.length 1 8 && (okU p.Nodes p.Nodes.length && ((List.range p.Fns.length).all (goodF p) && (List.range p.Nodes.length).all fun k => usedB (kc p.Nodes k + 1000 * (roots p).count (k : Int)))))
theorem deepB_last {nodes : List GNode} (h : 1 ≤ nodes.length) : (deepB nodes ((nodes.length : Int) - 1) == 0) = !(okU nodes nodes.length) := by
 unfold deepB
 have e : ((nodes.length : Int) - 1).toNat = nodes.length - 1 := by omega
 rw [e, show nodes.length - 1 + 1 = nodes.length by omega]
 cases hok : okU nodes nodes.length with
 | true =>
  rw [if_pos ⟨by omega, by omega, rfl⟩]
  have := dval_pos nodes (nodes.length - 1)
  have hne : ¬ dval nodes (nodes.length - 1) = 0 := by omega
  simp [hne]
 | false => rw [if_neg (fun h => by cases h.2.2)]; rfl
theorem impl_l4_eq (p : GProgram) (f : GFn) (hf : fnB p f = true) (m : List Int) (hm : m.length = p.Nodes.length) : loopP (impl_ProgramOk_l4 f) (m, 0) = some (match markR (rootsF f) m with | some m' => .inl m' | none => .inr (.inr (.inr false))) := by
 obtain ⟨_, b0, b1, r1⟩ := fnB_roots hf
 have hl : (([f.Body, f.Ret] : List Int).length : Int) = 2 := rfl
 have g0 : getI [f.Body, f.Ret] 0 = some f.Body := rfl
 have g1 : getI [f.Body, f.Ret] 1 = some f.Ret := rfl
 have d0 : decide ((0 : Int) < 2) = true := rfl
 have d1 : decide ((1 : Int) < 2) = true := rfl
 have d2 : decide ((2 : Int) < 2) = false := rfl
 have w0 : IntKind.wrap .i64 ((0 : Int) + 1) = 1 := rfl
 have w1 : IntKind.wrap .i64 ((1 : Int) + 1) = 2 := rfl
 have hgd : ∀ (m : List Int) (v : Int), m.length = p.Nodes.length → 0 ≤ v → v < p.Nodes.length → getI m v = some (m.getD v.toNat 0) := fun m v hm h0 h1 => by
  have hlt : v.toNat < m.length := by omega
  rw [getI_in h0 (by omega), List.getD_eq_getElem?_getD, List.getElem?_eq_getElem hlt]; rfl
 have step1 : ∀ m : List Int, m.length = p.Nodes.length → loopP (impl_ProgramOk_l4 f) (m, 1) = some (match markR (if f.Ret < 0 then [] else [f.Ret]) m with | some m' => .inl m' | none => .inr (.inr (.inr false))) := by
  intro m hm
  by_cases hr : f.Ret < 0
  ·have : impl_ProgramOk_l4 f (m, 1) = some (.inl (m, 2)) := by
    simp only [impl_ProgramOk_l4, hl, d1, if_true, g1, Option.bind_some, w1]
    rw [if_pos (by simpa using hr)]
   rw [loopP_inl this, if_pos hr, loopP_inr (r := .inl m) (by simp only [impl_ProgramOk_l4, hl, d2, Bool.false_eq_true, if_false])]
   rfl
  ·rw [if_neg hr]
   simp only [markR]
   by_cases hz : m.getD f.Ret.toNat 0 = 0
   ·have : impl_ProgramOk_l4 f (m, 1) = some (.inl (m.set f.Ret.toNat (-1), 2)) := by
     simp only [impl_ProgramOk_l4, hl, d1, if_true, g1, Option.bind_some, w1]
     rw [if_neg (by simpa using hr), hgd m f.Ret hm (by omega) r1]
     simp only [Option.bind_some, hz, bindS_def]
     rfl
    rw [loopP_inl this, if_pos hz, loopP_inr (r := .inl (m.set f.Ret.toNat (-1))) (by simp only [impl_ProgramOk_l4, hl, d2, Bool.false_eq_true, if_false])]
   ·have : impl_ProgramOk_l4 f (m, 1) = some (.inr (.inr (.inr (.inr false)))) := by
     simp only [impl_ProgramOk_l4, hl, d1, if_true, g1, Option.bind_some, w1]
     rw [if_neg (by simpa using hr), hgd m f.Ret hm (by omega) r1]
     simp only [Option.bind_some]
     rw [if_pos (by simpa using hz)]
    rw [loopP_inr this, if_neg hz]
 have hsplit : rootsF f = f.Body :: (if f.Ret < 0 then [] else [f.Ret]) := by unfold rootsF; split <;> rfl
 rw [hsplit]
 simp only [markR]
 have hb : ¬ f.Body < 0 := by omega
 by_cases hz : m.getD f.Body.toNat 0 = 0
 ·have : impl_ProgramOk_l4 f (m, 0) = some (.inl (m.set f.Body.toNat (-1), 1)) := by
   simp only [impl_ProgramOk_l4, hl, d0, if_true, g0, Option.bind_some, w0]
   rw [if_neg (by simpa using hb), hgd m f.Body hm b0 b1]
   simp only [Option.bind_some, hz, bindS_def]
   rfl
  rw [loopP_inl this, if_pos hz, step1 _ (by rw [List.length_set]; exact hm)]
 ·have : impl_ProgramOk_l4 f (m, 0) = some (.inr (.inr (.inr (.inr false)))) := by
   simp only [impl_ProgramOk_l4, hl, d0, if_true, g0, Option.bind_some, w0]
   rw [if_neg (by simpa using hb), hgd m f.Body hm b0 b1]
   simp only [Option.bind_some]
   rw [if_pos (by simpa using hz)]
  rw [loopP_inr this, if_neg hz]
theorem markR_len : ∀ (rs m : List Int) {m' : List Int}, markR rs m = some m' → m'.length = m.length
 | [], m, m', h => by cases h; rfl
 | r :: rs, m, m', h => by
  simp only [markR] at h
  split at h
  ·rw [markR_len rs _ h]; simp
  ·cases h
theorem impl_l3_eq (p : GProgram) (hn : p.Nodes.length ≤ 300) (hp : p.Fns.length ≤ 8) (m0 : List Int) (hm0 : m0.length = p.Nodes.length) : loopP (impl_ProgramOk_l3 p) (m0, 0) = some (if (List.range p.Fns.length).all (goodF p) = true then (match markR (roots p) m0 with | some m => .inl m | none => .inr false) else .inr false) := by
 obtain ⟨r, h1, h2⟩ := loopP_run (f := impl_ProgramOk_l3 p) (fun s : List Int × Int => ∃ i : Nat, s.2 = i ∧ i ≤ p.Fns.length ∧ (∀ j, j < i → goodF p j = true) ∧ markR (rootsT p i) m0 = some s.1) (fun s => p.Fns.length - s.2.toNat) (fun r => r = if (List.range p.Fns.length).all (goodF p) = true then (match markR (roots p) m0 with | some m => .inl m | none => .inr false) else .inr false) (by
  rintro ⟨m, i⟩ ⟨i, rfl, hi, hg, hm⟩
  simp only at hm hi
  have hml : m.length = p.Nodes.length := by rw [markR_len _ _ hm]; exact hm0
  by_cases hlt : i < p.Fns.length
  ·have hbad : (goodF p i = false) → (List.range p.Fns.length).all (goodF p) = false := by
    intro hb
    rw [Bool.eq_false_iff]
    intro h
    rw [List.all_eq_true.1 h i (List.mem_range.2 hlt)] at hb
    cases hb
   have hgi := goodF_at hlt
   have hcond : (Option.bind (if (!(fnB p p.Fns[i])) = true then some true else some (fnAtB p p.Fns[i].Name != (i : Int))) fun v : Bool => some v) = some (!(goodF p i)) := by
    rw [hgi]; cases fnB p p.Fns[i] <;> rfl
   have hcond2 : (if (!(fnB p p.Fns[i])) = true then some true else some (fnAtB p p.Fns[i].Name != (i : Int))) = some (!(goodF p i)) := by
    rw [hgi]; cases fnB p p.Fns[i] <;> rfl
   simp only [impl_ProgramOk_l3, ofNat_lt_true hlt, if_true, getI_at hlt, Option.bind_some, impl_fnOk_eq p _ (show p.Nodes.length ≤ 1048576 by omega), impl_FnAt_eq p _ (show p.Fns.length ≤ 1048576 by omega), hcond2]
   cases hgb : goodF p i with
   | false =>
    right
    refine ⟨.inr false, rfl, ?_⟩
    rw [hbad hgb]; rfl
   | true =>
    simp only [Bool.not_true, Bool.false_eq_true, if_false]
    have hfb : fnB p p.Fns[i] = true := by rw [hgi, Bool.and_eq_true] at hgb; exact hgb.1
    rw [impl_l4_eq p _ hfb m hml]
    simp only [Option.bind_some]
    have hsucc : markR (rootsT p (i + 1)) m0 = markR (rootsF p.Fns[i]) m := by
     rw [rootsT_succ p hlt, markR_append, hm]; rfl
    cases hmr : markR (rootsF p.Fns[i]) m with
    | some m' =>
     left
     refine ⟨(m', ((i + 1 : Nat) : Int)), by simp only [w64_nat hlt (show p.Fns.length ≤ 1048576 by omega)], ⟨i + 1, rfl, by omega, fun j hj => ?_, by rw [hsucc]; exact hmr⟩, by simp only [Int.toNat_natCast]; omega⟩
     by_cases e : j = i
     ·subst e; exact hgb
     ·exact hg j (by omega)
    | none =>
     right
     refine ⟨.inr false, rfl, ?_⟩
     have : markR (roots p) m0 = none := by
      have hsp : roots p = rootsT p (i + 1) ++ (p.Fns.drop (i + 1)).flatMap rootsF := by
       unfold roots rootsT
       rw [← List.flatMap_append, List.take_append_drop]
      rw [hsp, markR_append, hsucc, hmr]; rfl
     rw [this]; split <;> rfl
  ·right
   have : i = p.Fns.length := by omega
   subst this
   refine ⟨.inl m, by simp [impl_ProgramOk_l3], ?_⟩
   rw [if_pos (List.all_eq_true.2 fun j hj => hg j (List.mem_range.1 hj)), ← rootsT_all, hm]) (m0, 0) ⟨0, rfl, by omega, fun j hj => by omega, rfl⟩
 rw [h1, h2]
theorem range_count (n : Nat) (m : List Int) (q : Int → Bool) (hm : m.length = n) : m.all q = (List.range n).all fun k => q (m.getD k 0) := by
 rw [Bool.eq_iff_iff, List.all_eq_true, List.all_eq_true]
 constructor
 ·intro h k hk
  have hk' : k < m.length := by rw [hm]; exact List.mem_range.1 hk
  rw [List.getD_eq_getElem?_getD, List.getElem?_eq_getElem hk']
  exact h _ (List.getElem_mem hk')
 ·intro h v hv
  obtain ⟨k, hk, rfl⟩ := List.mem_iff_getElem.1 hv
  have := h k (List.mem_range.2 (by omega))
  rw [List.getD_eq_getElem?_getD, List.getElem?_eq_getElem hk] at this
  exact this
theorem roots_bnd {p : GProgram} (h : (List.range p.Fns.length).all (goodF p) = true) : ∀ e ∈ roots p, 0 ≤ e ∧ e < p.Nodes.length := by
 intro e he
 obtain ⟨f, hf, hm⟩ := List.mem_flatMap.1 he
 obtain ⟨i, hi, rfl⟩ := List.mem_iff_getElem.1 hf
 have := List.all_eq_true.1 h i (List.mem_range.2 hi)
 rw [goodF_at hi, Bool.and_eq_true] at this
 exact (fnB_roots this.1).1 e hm
theorem impl_ProgramOk_eq (p : GProgram) (hn : p.Nodes.length ≤ 1048576) (hp : p.Fns.length ≤ 1048576) : impl_ProgramOk p = some (progB p) := by
 unfold impl_ProgramOk progB
 simp only [impl_in_eq, Option.bind_some, w64_pred hn, impl_DeepOf_eq p.Nodes hn]
 cases h1 : inB p.Nodes.length 1 300 with
 | false => rfl
 | true =>
  have h1' := inB_iff.1 h1
  cases h2 : inB p.Fns.length 1 8 with
  | false => rfl
  | true =>
   have h2' := inB_iff.1 h2
   simp only [Bool.not_true, Bool.false_eq_true, if_false, Bool.true_and, Option.bind_some, deepB_last (show 1 ≤ p.Nodes.length by omega)]
   cases h3 : okU p.Nodes p.Nodes.length with
   | false => rfl
   | true =>
    simp only [Bool.not_true, Bool.false_eq_true, if_false, Bool.true_and]
    rw [mkI_len _ _ _ (by omega) (by omega)]
    simp only [Option.bind_some]
    rw [impl_met p h3 (by omega)]
    simp only [Option.bind_some]
    rw [impl_l3_eq p (by omega) (by omega) _ (met0_len _)]
    cases h4 : (List.range p.Fns.length).all (goodF p) with
    | false => rfl
    | true =>
     simp only [if_true, Option.bind_some, Bool.true_and]
     have hb := roots_bnd h4
     have hsp := markR_spec p.Nodes.length (roots p) (met0 p.Nodes) (met0_len _) hb
     have hmet : ∀ r ∈ roots p, (met0 p.Nodes).getD r.toNat 0 = (kc p.Nodes r.toNat : Nat) := fun r _ => met0_get h3 _
     cases hmr : markR (roots p) (met0 p.Nodes) with
     | none =>
      rw [hmr] at hsp
      simp only at hsp ⊢
      congr 1
      rw [eq_comm, Bool.eq_false_iff]
      intro hall
      rw [List.all_eq_true] at hall
      refine hsp ⟨List.nodup_iff_count.2 fun a => ?_, fun r hr => ?_⟩
      ·by_cases ha : a ∈ roots p
       ·have hab := hb a ha
        have := hall a.toNat (List.mem_range.2 (by omega))
        rw [show ((a.toNat : Nat) : Int) = a by omega] at this
        simp only [usedB, Bool.or_eq_true, beq_iff_eq] at this
        omega
       ·rw [List.count_eq_zero.2 ha]; omega
      ·have hrb := hb r hr
       have := hall r.toNat (List.mem_range.2 (by omega))
       rw [show ((r.toNat : Nat) : Int) = r by omega] at this
       simp only [usedB, Bool.or_eq_true, beq_iff_eq] at this
       have hc := List.count_pos_iff.2 hr
       rw [met0_get h3]
       omega
     | some m =>
      rw [hmr] at hsp
      obtain ⟨⟨s1, s2⟩, s3, s4⟩ := hsp
      simp only
      rw [loopP_all m (fun v => v == 1 || v == -1) (impl_ProgramOk_l5 m) (fun k hk => by
       simp only [impl_ProgramOk_l5, ofNat_lt_true hk, if_true, getI_at hk, Option.bind_some, w64_nat hk (show m.length ≤ 1048576 by omega)]
       by_cases e1 : m[k] = 1
       ·simp [e1]
       ·by_cases e2 : m[k] = -1 <;> simp [e1, e2]) (by simp [impl_ProgramOk_l5])]
      have hfin : m.all (fun v => v == 1 || v == -1) = (List.range p.Nodes.length).all fun k => usedB (kc p.Nodes k + 1000 * (roots p).count (k : Int)) := by
       rw [range_count p.Nodes.length m _ s3, Bool.eq_iff_iff, List.all_eq_true, List.all_eq_true]
       have each : ∀ k, k < p.Nodes.length → ((m.getD k 0 == 1 || m.getD k 0 == -1) = true ↔ usedB (kc p.Nodes k + 1000 * (roots p).count (k : Int)) = true) := by
        intro k hk
        have hkc := kc_le h3 k
        rw [s4, met0_get h3]
        simp only [usedB, Bool.or_eq_true, beq_iff_eq]
        by_cases hm : (k : Int) ∈ roots p
        ·rw [if_pos hm]
         have hc := List.count_pos_iff.2 hm
         have hc1 := List.nodup_iff_count.1 s1 (k : Int)
         have := s2 _ hm
         rw [Int.toNat_natCast, met0_get h3] at this
         omega
        ·rw [if_neg hm, List.count_eq_zero.2 hm]
         omega
       constructor
       ·intro h k hk; exact (each k (List.mem_range.1 hk)).1 (h k hk)
       ·intro h k hk; exact (each k (List.mem_range.1 hk)).2 (h k hk)
      rw [hfin]
      cases (List.range p.Nodes.length).all fun k => usedB (kc p.Nodes k + 1000 * (roots p).count (k : Int)) <;> rfl
theorem spec_l1_step (p : GProgram) (hn : p.Nodes.length ≤ 300) (hp : p.Fns.length ≤ 8) (C : Int) (hC : 0 ≤ C) (hC2 : C ≤ 1000000) (m : List Int) (hm : Bd p.Nodes.length C m) (i : Nat) (hi : i < p.Fns.length) : spec_ProgramOk_l1 p (m, i) = some (if goodF p i = true then .inl (incs 1000 (rootsF p.Fns[i]) m, ((i + 1 : Nat) : Int)) else .inr (.inr false)) := by
 simp only [spec_ProgramOk_l1, ofNat_lt_true hi, if_true, spec_l04Fn_eq p i hi (show p.Nodes.length ≤ 1048576 by omega) (show p.Fns.length ≤ 1048576 by omega), Option.bind_some, getI_at hi]
 rw [← goodF_at hi]
 cases hg : goodF p i with
 | false => rfl
 | true =>
  simp only [Bool.not_true, Bool.false_eq_true, if_false, if_true]
  have hfb : fnB p p.Fns[i] = true := by rw [goodF_at hi, Bool.and_eq_true] at hg; exact hg.1
  obtain ⟨_, b0, b1, r1⟩ := fnB_roots hfb
  generalize p.Fns[i] = f at *
  have hgd : ∀ (m : List Int) (v : Int), m.length = p.Nodes.length → 0 ≤ v → v < p.Nodes.length → getI m v = some (m.getD v.toNat 0) := fun m v hm h0 h1 => by
   have hlt : v.toNat < m.length := by omega
   rw [getI_in h0 (by omega), List.getD_eq_getElem?_getD, List.getElem?_eq_getElem hlt]; rfl
  have g0 := hm.getD hC f.Body.toNat
  have hm1 := hm.set hC (show (0 : Int) ≤ 1000 by omega) f.Body.toNat
  have g1 := hm1.getD (by omega) f.Ret.toNat
  rw [hgd m f.Body hm.len b0 b1]
  simp only [Option.bind_some, bindS_def, w64 (n := m.getD f.Body.toNat 0 + 1000) (by omega) (by omega), w64_nat hi (show p.Fns.length ≤ 1048576 by omega)]
  unfold rootsF
  by_cases hr : f.Ret < 0
  ·have hr' : ¬ f.Ret ≥ 0 := by omega
   rw [if_neg (by simpa using hr'), if_pos hr]
   rfl
  ·have hr' : f.Ret ≥ 0 := by omega
   rw [if_pos (by simpa using hr'), if_neg hr, hgd _ f.Ret hm1.len (by omega) r1]
   simp only [Option.bind_some, bindS_def]
   rw [w64 (by omega) (by omega)]
   rfl
theorem spec_l1_eq (p : GProgram) (hn : p.Nodes.length ≤ 300) (hp : p.Fns.length ≤ 8) (m0 : List Int) (C : Int) (hC : 0 ≤ C) (hC2 : C ≤ 10000) (hm0 : Bd p.Nodes.length C m0) : loopP (spec_ProgramOk_l1 p) (m0, 0) = some (if (List.range p.Fns.length).all (goodF p) = true then .inl (incs 1000 (roots p) m0) else .inr false) := by
 obtain ⟨r, h1, h2⟩ := loopP_run (f := spec_ProgramOk_l1 p) (fun s : List Int × Int => ∃ i : Nat, s.2 = i ∧ i ≤ p.Fns.length ∧ (∀ j, j < i → goodF p j = true) ∧ s.1 = incs 1000 (rootsT p i) m0 ∧ Bd p.Nodes.length (C + 2000 * i) s.1) (fun s => p.Fns.length - s.2.toNat) (fun r => r = if (List.range p.Fns.length).all (goodF p) = true then .inl (incs 1000 (roots p) m0) else .inr false) (by
  rintro ⟨m, i⟩ ⟨i, rfl, hi, hg, hm, hb⟩
  simp only at hm hi hb
  by_cases hlt : i < p.Fns.length
  ·have hst := spec_l1_step p hn hp (C + 2000 * i) (by omega) (by omega) m hb i hlt
   cases hgb : goodF p i with
   | false =>
    right
    refine ⟨.inr false, by rw [hst, hgb]; rfl, ?_⟩
    have : (List.range p.Fns.length).all (goodF p) = false := by
     rw [Bool.eq_false_iff]
     intro h
     rw [List.all_eq_true.1 h i (List.mem_range.2 hlt)] at hgb
     cases hgb
    rw [this]; rfl
   | true =>
    left
    refine ⟨_, by rw [hst, hgb, if_pos rfl], ⟨i + 1, rfl, by omega, fun j hj => ?_, ?_, ?_⟩, by simp only [Int.toNat_natCast]; omega⟩
    ·by_cases e : j = i
     ·subst e; exact hgb
     ·exact hg j (by omega)
    ·simp only
     rw [rootsT_succ p hlt, incs_append, ← hm]
    ·have := Bd.incs (show (0 : Int) ≤ 1000 by omega) (rootsF p.Fns[i]) (by omega) hb
     refine this.mono ?_
     have : (rootsF p.Fns[i]).length ≤ 2 := by unfold rootsF; split <;> simp
     omega
  ·right
   have : i = p.Fns.length := by omega
   subst this
   refine ⟨.inl m, by simp [spec_ProgramOk_l1], ?_⟩
   rw [if_pos (List.all_eq_true.2 fun j hj => hg j (List.mem_range.1 hj)), ← rootsT_all, hm]) (m0, 0) ⟨0, rfl, by omega, fun j hj => by omega, rfl, hm0.mono (by omega)⟩
 rw [h1, h2]
theorem spec_ProgramOk_eq (p : GProgram) (hn : p.Nodes.length ≤ 1048576) (hp : p.Fns.length ≤ 1048576) : spec_ProgramOk p = some (progB p) := by
 unfold spec_ProgramOk progB
 simp only [spec_in_eq, Option.bind_some, w64_pred hn]
 cases h1 : inB p.Nodes.length 1 300 with
 | false => rfl
 | true =>
  have h1' := inB_iff.1 h1
  cases h2 : inB p.Fns.length 1 8 with
  | false => rfl
  | true =>
   have h2' := inB_iff.1 h2
   have hc : ((p.Nodes.length : Int) - 1) = ((p.Nodes.length - 1 : Nat) : Int) := by omega
   simp only [Bool.not_true, Bool.false_eq_true, if_false, Bool.true_and, Option.bind_some]
   rw [hc, spec_Deeps_eq p.Nodes hn _ (by omega)]
   simp only [Option.bind_some, sdeeps_len]
   rw [show p.Nodes.length - 1 + 1 = p.Nodes.length by omega, w64_pred hn, hc, getI_nat, sdeeps_get p.Nodes (show p.Nodes.length - 1 < p.Nodes.length by omega), show p.Nodes.length - 1 + 1 = p.Nodes.length by omega]
   simp only [Option.bind_some]
   cases h3 : okU p.Nodes p.Nodes.length with
   | false => rfl
   | true =>
    have hpos := dval_pos p.Nodes (p.Nodes.length - 1)
    have hne : ¬ dval p.Nodes (p.Nodes.length - 1) = 0 := by omega
    simp only [if_true, Bool.true_and]
    rw [if_neg (by simpa using hne), spec_met p.Nodes h3 (by omega)]
    simp only [Option.bind_some]
    have hB : Bd p.Nodes.length 300 (met0 p.Nodes) := ⟨met0_len _, fun v hv => by
     obtain ⟨k, hk, rfl⟩ := List.mem_iff_getElem.1 hv
     have h := met0_get h3 k
     rw [List.getD_eq_getElem?_getD, List.getElem?_eq_getElem hk, Option.getD_some] at h
     have := kc_le h3 k
     omega⟩
    rw [spec_l1_eq p (by omega) (by omega) _ 300 (by omega) (by omega) hB]
    cases h4 : (List.range p.Fns.length).all (goodF p) with
    | false => rfl
    | true =>
     simp only [if_true, Option.bind_some, Bool.true_and]
     have hb := roots_bnd h4
     have hl : (incs 1000 (roots p) (met0 p.Nodes)).length = p.Nodes.length := by rw [incs_len, met0_len]
     have hval : ∀ k, (incs 1000 (roots p) (met0 p.Nodes)).getD k 0 = ((kc p.Nodes k + 1000 * (roots p).count (k : Int) : Nat) : Int) := by
      intro k
      rw [incs_get 1000 k _ _ (fun e he => by rw [met0_len]; exact hb e he), met0_get h3]
      omega
     generalize hmm : incs 1000 (roots p) (met0 p.Nodes) = m at *
     rw [loopP_all m (fun v => v == 1 || v == 1000) (spec_ProgramOk_l2 m) (fun k hk => by
      simp only [spec_ProgramOk_l2, ofNat_lt_true hk, if_true, getI_at hk, Option.bind_some, w64_nat hk (show m.length ≤ 1048576 by omega)]
      by_cases e1 : m[k] = 1
      ·simp [e1]
      ·by_cases e2 : m[k] = 1000 <;> simp [e1, e2]) (by simp [spec_ProgramOk_l2])]
     have hfin : m.all (fun v => v == 1 || v == 1000) = (List.range p.Nodes.length).all fun k => usedB (kc p.Nodes k + 1000 * (roots p).count (k : Int)) := by
      rw [range_count p.Nodes.length m _ hl]
      congr 1
      funext k
      rw [hval, Bool.eq_iff_iff]
      simp only [usedB, Bool.or_eq_true, beq_iff_eq]
      omega
     rw [hfin]
     cases (List.range p.Nodes.length).all fun k => usedB (kc p.Nodes k + 1000 * (roots p).count (k : Int)) <;> rfl
end Go.OM
namespace Go.OM
def pkL (rc : List GNode → Int → Option (Int × List GNode)) : List Int → List Int × List GNode → Option (List Int × List GNode)
 | [], s => some s
 | x :: xs, s => match rc s.2 x with
  | none => none
  | some r => pkL rc xs (s.1 ++ [r.1], r.2)
def pkI (nodes : List GNode) : Nat → Int → List GNode → Int → Option (Int × List GNode)
 | 0 => fun _ _ _ => none
 | f + 1 => fun d tq k => if inB k 0 ((nodes.length : Int) - 1) = true ∧ d ≤ 10 ∧ tq.length < 300 then (match nodes[k.toNat]? with
  | none => none
  | some e => match pkL (pkI nodes f (d + 1)) e.Kids ([], tq) with
   | none => none
   | some s => if s.2.length < 300 then some ((s.2.length : Int), s.2 ++ [⟨e.Kind, e.Num, e.Name, s.1⟩]) else none) else none
theorem pkI_len {nodes : List GNode} : ∀ {f : Nat} {d : Int} {tq : List GNode} {k : Int} {r : Int × List GNode}, pkI nodes f d tq k = some r → r.2.length ≤ 300
 | 0, d, tq, k, r, h => by cases h
 | f + 1, d, tq, k, r, h => by
  simp only [pkI] at h
  split at h
  ·split at h
   ·cases h
   ·split at h
    ·cases h
    ·split at h
     ·have := Option.some.inj h
      subst this
      simp only [List.length_append, List.length_cons, List.length_nil]; omega
     ·cases h
  ·cases h
theorem pkL_len {rc : List GNode → Int → Option (Int × List GNode)} (hr : ∀ tq k r, rc tq k = some r → r.2.length ≤ 300) : ∀ (l : List Int) (s s' : List Int × List GNode), s.2.length ≤ 300 → pkL rc l s = some s' → s'.2.length ≤ 300
 | [], s, s', hs, h => by cases h; exact hs
 | x :: l, s, s', hs, h => by
  simp only [pkL] at h
  split at h
  ·cases h
  ·rename_i r hx
   exact pkL_len hr l _ s' (hr _ _ _ hx) h
theorem app56 {l : List GNode} (h : l.length ≤ 1000000) (x : GNode) : appI 56 l [x] = some (l ++ [x]) := app1g (by omega) (by omega)
theorem impl_put_main (nodes : List GNode) (hn : nodes.length ≤ 1048576) (hk : ∀ x ∈ nodes, x.Kids.length ≤ 1048576) : ∀ (f : Nat) (d : Int) (tq : List GNode) (k : Int), 1 ≤ d → d ≤ 11 → 12 ≤ d + f → tq.length ≤ 300 →
  (∀ r, pkI nodes f d tq k = some r → impl_packer_put_rec f ⟨nodes, tq, false⟩ k d = some (r.1, ⟨nodes, r.2, false⟩)) ∧ (pkI nodes f d tq k = none → ∃ X, impl_packer_put_rec f ⟨nodes, tq, false⟩ k d = some (-1, ⟨nodes, X, true⟩))
 | 0, d, tq, k, h1, h2, h3, _ => by omega
 | f + 1, d, tq, k, h1, h2, h3, h4 => by
  show (∀ r, pkI nodes (f + 1) d tq k = some r → impl_packer_put_b (impl_packer_put_rec f) ⟨nodes, tq, false⟩ k d = some (r.1, ⟨nodes, r.2, false⟩)) ∧ (pkI nodes (f + 1) d tq k = none → ∃ X, impl_packer_put_b (impl_packer_put_rec f) ⟨nodes, tq, false⟩ k d = some (-1, ⟨nodes, X, true⟩))
  unfold impl_packer_put_b
  simp only [pkI, impl_in_eq, Option.bind_some, w64_pred hn, Bool.false_eq_true, if_false]
  have hcond : (if (!(inB k 0 ((nodes.length : Int) - 1))) = true then some true else if decide (d > 10) = true then some true else some (decide ((tq.length : Int) ≥ 300))) = some (decide (¬ (inB k 0 ((nodes.length : Int) - 1) = true ∧ d ≤ 10 ∧ tq.length < 300))) := by
   cases hi : inB k 0 ((nodes.length : Int) - 1) with
   | false => simp
   | true =>
    by_cases hd : d > 10
    ·have : ¬ d ≤ 10 := by omega
     simp [hd, this]
    ·have hd' : d ≤ 10 := by omega
     simp only [Bool.not_true, Bool.false_eq_true, if_false, decide_eq_true_eq, if_neg hd]
     congr 1
     rw [decide_eq_decide]
     constructor
     ·rintro h ⟨_, _, h3⟩; omega
     ·intro h
      rcases Nat.lt_or_ge tq.length 300 with h' | h'
      ·exact absurd ⟨trivial, hd', h'⟩ h
      ·omega
  rw [hcond]
  simp only [Option.bind_some, decide_eq_true_eq]
  by_cases hc : inB k 0 ((nodes.length : Int) - 1) = true ∧ d ≤ 10 ∧ tq.length < 300
  ·rw [if_pos hc, if_neg (fun h => h hc)]
   obtain ⟨hi, hd, hl⟩ := hc
   have hi' := inB_iff.1 hi
   have hlt : k.toNat < nodes.length := by omega
   have hmem := List.getElem_mem hlt
   have hkl := hk _ hmem
   rw [getI_in hi'.1 (by omega), List.getElem?_eq_getElem hlt]
   simp only [Option.bind_some]
   generalize nodes[k.toNat] = e at *
   have hw : IntKind.wrap .i64 (d + 1) = d + 1 := w64 (by omega) (by omega)
   obtain ⟨r, g1, g2⟩ := loopP_run (f := impl_packer_put_l1 (impl_packer_put_rec f) d e) (fun s : List Int × Int × Gpacker => ∃ (i : Nat) (t : List GNode), s.2.1 = i ∧ i ≤ e.Kids.length ∧ s.1.length = i ∧ s.2.2 = ⟨nodes, t, false⟩ ∧ t.length ≤ 300 ∧ pkL (pkI nodes f (d + 1)) e.Kids ([], tq) = pkL (pkI nodes f (d + 1)) (e.Kids.drop i) (s.1, t)) (fun s => e.Kids.length - s.2.1.toNat)
     (fun r => (∀ s, pkL (pkI nodes f (d + 1)) e.Kids ([], tq) = some s → r = .inl (s.1, ⟨nodes, s.2, false⟩)) ∧ (pkL (pkI nodes f (d + 1)) e.Kids ([], tq) = none → ∃ X, r = .inr (-1, ⟨nodes, X, true⟩))) (by
    rintro ⟨ks, i, pk⟩ ⟨i, t, rfl, hi, hkl', rfl, ht, hp⟩
    simp only at hi hkl' ht hp
    by_cases hil : i < e.Kids.length
    ·rw [List.drop_eq_getElem_cons hil] at hp
     simp only [pkL] at hp
     obtain ⟨m1, m2⟩ := impl_put_main nodes hn hk f (d + 1) t e.Kids[i] (by omega) (by omega) (by omega) ht
     cases hx : pkI nodes f (d + 1) t e.Kids[i] with
     | none =>
      right
      obtain ⟨X, hX⟩ := m2 hx
      rw [hx] at hp
      simp only at hp
      refine ⟨.inr (-1, ⟨nodes, X, true⟩), ?_, fun s hs => ?_, fun _ => ⟨X, rfl⟩⟩
      ·simp only [impl_packer_put_l1, ofNat_lt_true hil, if_true, getI_at hil, Option.bind_some, hw, hX]
      ·rw [hp] at hs; cases hs
     | some q =>
      left
      have hq := m1 q hx
      rw [hx] at hp
      simp only at hp
      refine ⟨(ks ++ [q.1], ((i + 1 : Nat) : Int), ⟨nodes, q.2, false⟩), ?_, ⟨i + 1, q.2, rfl, by omega, by simp only [List.length_append, List.length_cons, List.length_nil]; omega, rfl, pkI_len hx, hp⟩, by simp only [Int.toNat_natCast]; omega⟩
      have happ : appI 8 ks [q.1] = some (ks ++ [q.1]) := app1 (by omega) (by omega)
      simp only [impl_packer_put_l1, ofNat_lt_true hil, if_true, getI_at hil, Option.bind_some, hw, hq, Bool.false_eq_true, if_false, happ, w64_nat hil hkl]
    ·right
     have : i = e.Kids.length := by omega
     subst this
     rw [List.drop_length] at hp
     simp only [pkL] at hp
     refine ⟨.inl (ks, ⟨nodes, t, false⟩), by simp [impl_packer_put_l1], fun s hs => ?_, fun h => ?_⟩
     ·rw [hp] at hs
      have := Option.some.inj hs
      subst this; rfl
     ·rw [hp] at h; cases h) ([], 0, ⟨nodes, tq, false⟩) ⟨0, tq, rfl, by omega, rfl, rfl, h4, by simp⟩
   rw [g1]
   simp only [Option.bind_some]
   cases hp : pkL (pkI nodes f (d + 1)) e.Kids ([], tq) with
   | none =>
    obtain ⟨X, hX⟩ := g2.2 hp
    subst hX
    exact ⟨fun r h => (by simp only at h; cases h), fun _ => ⟨X, rfl⟩⟩
   | some s =>
    have hr := g2.1 s hp
    subst hr
    have hsl := pkL_len (fun _ _ _ h => pkI_len h) _ _ _ h4 hp
    simp only
    by_cases hs : s.2.length < 300
    ·rw [if_pos hs, if_neg (show ¬ ((s.2.length : Int) ≥ 300) by omega), app56 (by omega)]
     refine ⟨fun r h => ?_, fun h => (by cases h)⟩
     have := Option.some.inj h
     subst this
     simp only [Option.bind_some, List.length_append, List.length_cons, List.length_nil]
     rw [w64 (by omega) (by omega)]
     congr 2
     omega
    ·rw [if_neg hs, if_pos (show (s.2.length : Int) ≥ 300 by omega)]
     exact ⟨fun r h => (by cases h), fun _ => ⟨_, rfl⟩⟩
  ·rw [if_neg hc, if_pos hc]
   exact ⟨fun r h => (by cases h), fun _ => ⟨_, rfl⟩⟩
theorem spec_put_doom (nodes : List GNode) (hn : nodes.length ≤ 1048576) (f : Nat) (X : List GNode) (b : Bool) (hb : b = true ∨ X.length > 300) (k d : Int) : spec_l04Pack_put_rec (f + 1) ⟨nodes, X, b⟩ k d = some (-1, ⟨nodes, X, true⟩) := by
 show spec_l04Pack_put_b (spec_l04Pack_put_rec f) ⟨nodes, X, b⟩ k d = _
 unfold spec_l04Pack_put_b
 simp only [spec_in_eq, Option.bind_some, w64_pred hn]
 cases hbb : b with
 | true => rfl
 | false =>
  have hx : X.length > 300 := by
   rcases hb with h | h
   ·rw [hbb] at h; cases h
   ·exact h
  have hd : decide ((X.length : Int) > 300) = true := by simp only [decide_eq_true_eq]; omega
  simp only [Bool.false_eq_true, if_false, hd]
  by_cases h10 : decide (d > 10) = true
  ·rw [if_pos h10]; rfl
  ·rw [if_neg h10]
   cases inB k 0 ((nodes.length : Int) - 1) <;> rfl
theorem spec_put_main (nodes : List GNode) (hn : nodes.length ≤ 1048576) (hk : ∀ x ∈ nodes, x.Kids.length ≤ 1048576) : ∀ (f : Nat) (d : Int) (tq : List GNode) (k : Int), 1 ≤ d → d ≤ 11 → 12 ≤ d + f → tq.length ≤ 300 →
  (∀ r, pkI nodes f d tq k = some r → spec_l04Pack_put_rec f ⟨nodes, tq, false⟩ k d = some (r.1, ⟨nodes, r.2, false⟩)) ∧ (pkI nodes f d tq k = none → ∃ (q : Int) (X : List GNode) (b : Bool), spec_l04Pack_put_rec f ⟨nodes, tq, false⟩ k d = some (q, ⟨nodes, X, b⟩) ∧ (b = true ∨ X.length > 300) ∧ (X.length : Int) ≤ 300 + (11 - d))
 | 0, d, tq, k, h1, h2, h3, _ => by omega
 | f + 1, d, tq, k, h1, h2, h3, h4 => by
  show (∀ r, pkI nodes (f + 1) d tq k = some r → spec_l04Pack_put_b (spec_l04Pack_put_rec f) ⟨nodes, tq, false⟩ k d = some (r.1, ⟨nodes, r.2, false⟩)) ∧ (pkI nodes (f + 1) d tq k = none → ∃ (q : Int) (X : List GNode) (b : Bool), spec_l04Pack_put_b (spec_l04Pack_put_rec f) ⟨nodes, tq, false⟩ k d = some (q, ⟨nodes, X, b⟩) ∧ (b = true ∨ X.length > 300) ∧ (X.length : Int) ≤ 300 + (11 - d))
  unfold spec_l04Pack_put_b
  simp only [pkI, spec_in_eq, Option.bind_some, w64_pred hn, Bool.false_eq_true, if_false]
  have hcond : (if decide (d > 10) = true then some true else if (!(inB k 0 ((nodes.length : Int) - 1))) = true then some true else some (decide ((tq.length : Int) > 300))) = some (decide (¬ (inB k 0 ((nodes.length : Int) - 1) = true ∧ d ≤ 10))) := by
   have hto : decide ((tq.length : Int) > 300) = false := by simp only [decide_eq_false_iff_not]; omega
   rw [hto]
   by_cases hd : d > 10
   ·have : ¬ d ≤ 10 := by omega
    simp [hd, this]
   ·have hd' : d ≤ 10 := by omega
    simp only [decide_eq_true_eq, if_neg hd]
    cases hi : inB k 0 ((nodes.length : Int) - 1) <;> simp [hd']
  rw [hcond]
  simp only [Option.bind_some, decide_eq_true_eq]
  by_cases hc : inB k 0 ((nodes.length : Int) - 1) = true ∧ d ≤ 10
  ·rw [if_neg (show ¬ ¬ (inB k 0 ((nodes.length : Int) - 1) = true ∧ d ≤ 10) from fun h => h hc)]
   obtain ⟨hi, hd⟩ := hc
   have hi' := inB_iff.1 hi
   have hlt : k.toNat < nodes.length := by omega
   have hmem := List.getElem_mem hlt
   have hkl := hk _ hmem
   have hge : getI nodes k = some nodes[k.toNat] := getI_in hi'.1 (by omega)
   rw [List.getElem?_eq_getElem hlt, hge]
   simp only [Option.bind_some]
   generalize nodes[k.toNat] = e at *
   have hw : IntKind.wrap .i64 (d + 1) = d + 1 := w64 (by omega) (by omega)
   -- is there room at all?
   generalize hpk : (if inB k 0 ((nodes.length : Int) - 1) = true ∧ d ≤ 10 ∧ tq.length < 300 then (match pkL (pkI nodes f (d + 1)) e.Kids ([], tq) with | none => none | some s => if s.2.length < 300 then some ((s.2.length : Int), s.2 ++ [(⟨e.Kind, e.Num, e.Name, s.1⟩ : GNode)]) else none) else none) = P
   have hf : ∃ f', f = f' + 1 := by
    cases f with
    | zero => omega
    | succ f' => exact ⟨f', rfl⟩
   obtain ⟨r, g1, ⟨ks, X, b, g2, g3⟩⟩ := loopP_run (f := spec_l04Pack_put_l1 (spec_l04Pack_put_rec f) k d) (fun s : Int × GNode × Gl04Pack => ∃ (i : Nat) (ks : List Int) (t : List GNode) (b : Bool), s.1 = i ∧ i ≤ e.Kids.length ∧ ks.length ≤ i ∧ s.2.1 = ⟨e.Kind, e.Num, e.Name, ks⟩ ∧ s.2.2 = ⟨nodes, t, b⟩ ∧
     ((b = false ∧ t.length ≤ 300 ∧ pkL (pkI nodes f (d + 1)) e.Kids ([], tq) = pkL (pkI nodes f (d + 1)) (e.Kids.drop i) (ks, t)) ∨ (pkL (pkI nodes f (d + 1)) e.Kids ([], tq) = none ∧ (b = true ∨ t.length > 300) ∧ (t.length : Int) ≤ 300 + (10 - d)))) (fun s => e.Kids.length - s.1.toNat)
     (fun r => ∃ (ks : List Int) (X : List GNode) (b : Bool), r = ((⟨e.Kind, e.Num, e.Name, ks⟩ : GNode), (⟨nodes, X, b⟩ : Gl04Pack)) ∧ ((b = false ∧ X.length ≤ 300 ∧ pkL (pkI nodes f (d + 1)) e.Kids ([], tq) = some (ks, X)) ∨ (pkL (pkI nodes f (d + 1)) e.Kids ([], tq) = none ∧ (b = true ∨ X.length > 300) ∧ (X.length : Int) ≤ 300 + (10 - d)))) (by
    rintro ⟨i, nd, pk⟩ ⟨i, ks, t, b, rfl, hi, hkl', rfl, rfl, hcase⟩
    try simp only at hi hkl' hcase
    by_cases hil : i < e.Kids.length
    ·have hcnd : (if decide ((i : Int) < (e.Kids.length : Int)) = true then some (!b) else some false) = some (!b) := by rw [ofNat_lt_true hil]; rfl
     cases hbb : b with
     | true =>
      right
      refine ⟨(⟨e.Kind, e.Num, e.Name, ks⟩, ⟨nodes, t, true⟩), ?_, ks, t, true, rfl, ?_⟩
      ·simp only [spec_l04Pack_put_l1, hge, Option.bind_some, ofNat_lt_true hil, if_true, Bool.not_true, Bool.false_eq_true, if_false]
      ·rcases hcase with ⟨h, _⟩ | ⟨h1', _, h3'⟩
       ·rw [hbb] at h; cases h
       ·exact .inr ⟨h1', .inl rfl, h3'⟩
     | false =>
      left
      have hstp : ∀ (q : Int) (X : List GNode) (b' : Bool), spec_l04Pack_put_rec f ⟨nodes, t, false⟩ e.Kids[i] (d + 1) = some (q, ⟨nodes, X, b'⟩) → spec_l04Pack_put_l1 (spec_l04Pack_put_rec f) k d ((i : Int), ⟨e.Kind, e.Num, e.Name, ks⟩, ⟨nodes, t, false⟩) = some (.inl (((i + 1 : Nat) : Int), ⟨e.Kind, e.Num, e.Name, ks ++ [q]⟩, ⟨nodes, X, b'⟩)) := by
       intro q X b' hq
       have happ : appI 8 ks [q] = some (ks ++ [q]) := app1 (by omega) (by omega)
       simp only [spec_l04Pack_put_l1, hge, Option.bind_some, ofNat_lt_true hil, if_true, Bool.not_false, getI_at hil, hw, hq, happ, w64_nat hil hkl]
      by_cases hdoom : pkL (pkI nodes f (d + 1)) e.Kids ([], tq) = none ∧ (t.length > 300) ∧ (t.length : Int) ≤ 300 + (10 - d)
      ·obtain ⟨f', rfl⟩ := hf
       have hq := spec_put_doom nodes hn f' t false (.inr hdoom.2.1) e.Kids[i] (d + 1)
       exact ⟨_, hstp _ _ _ hq, ⟨i + 1, ks ++ [-1], t, true, rfl, by omega, by simp only [List.length_append, List.length_cons, List.length_nil]; omega, rfl, rfl, .inr ⟨hdoom.1, .inl rfl, hdoom.2.2⟩⟩, by simp only [Int.toNat_natCast]; omega⟩
      ·have hgood : t.length ≤ 300 ∧ pkL (pkI nodes f (d + 1)) e.Kids ([], tq) = pkL (pkI nodes f (d + 1)) (e.Kids.drop i) (ks, t) := by
        rcases hcase with ⟨_, h5, h6⟩ | ⟨h5, h6, h7⟩
        ·exact ⟨h5, h6⟩
        ·rcases h6 with h6 | h6
         ·rw [hbb] at h6; cases h6
         ·exact absurd ⟨h5, h6, h7⟩ hdoom
       obtain ⟨ht, hp⟩ := hgood
       rw [List.drop_eq_getElem_cons hil] at hp
       simp only [pkL] at hp
       obtain ⟨m1, m2⟩ := spec_put_main nodes hn hk f (d + 1) t e.Kids[i] (by omega) (by omega) (by omega) ht
       cases hx : pkI nodes f (d + 1) t e.Kids[i] with
       | none =>
        obtain ⟨q, X, b', n1, n2, n3⟩ := m2 hx
        rw [hx] at hp
        simp only at hp
        exact ⟨_, hstp _ _ _ n1, ⟨i + 1, ks ++ [q], X, b', rfl, by omega, by simp only [List.length_append, List.length_cons, List.length_nil]; omega, rfl, rfl, .inr ⟨hp, n2, by omega⟩⟩, by simp only [Int.toNat_natCast]; omega⟩
       | some q =>
        have hq := m1 q hx
        rw [hx] at hp
        simp only at hp
        exact ⟨_, hstp _ _ _ hq, ⟨i + 1, ks ++ [q.1], q.2, false, rfl, by omega, by simp only [List.length_append, List.length_cons, List.length_nil]; omega, rfl, rfl, .inl ⟨rfl, pkI_len hx, hp⟩⟩, by simp only [Int.toNat_natCast]; omega⟩
    ·right
     have : i = e.Kids.length := by omega
     subst this
     refine ⟨(⟨e.Kind, e.Num, e.Name, ks⟩, ⟨nodes, t, b⟩), ?_, ks, t, b, rfl, ?_⟩
     ·simp only [spec_l04Pack_put_l1, hge, Option.bind_some, len_not_lt, Bool.false_eq_true, if_false]
     ·rcases hcase with ⟨h5, h6, h7⟩ | h5
      ·rw [List.drop_length] at h7
       exact .inl ⟨h5, h6, h7⟩
      ·exact .inr h5) (0, ⟨e.Kind, e.Num, e.Name, []⟩, ⟨nodes, tq, false⟩) ⟨0, [], tq, false, rfl, by omega, by simp, rfl, rfl, .inl ⟨rfl, h4, by simp⟩⟩
   subst g2
   rw [g1]
   simp only [Option.bind_some]
   have hXl : X.length ≤ 1000000 := by
    rcases g3 with ⟨_, h, _⟩ | ⟨_, _, h⟩ <;> omega
   rw [app56 hXl]
   simp only [Option.bind_some, List.length_append, List.length_cons, List.length_nil]
   have hw2 : IntKind.wrap .i64 (((X.length + (0 + 1) : Nat) : Int) - 1) = (X.length : Int) := by rw [w64 (by omega) (by omega)]; omega
   rw [hw2]
   have hgoodP : ∀ r, P = some r → b = false ∧ r = ((X.length : Int), X ++ [(⟨e.Kind, e.Num, e.Name, ks⟩ : GNode)]) := by
    intro r hr
    rw [← hpk] at hr
    split at hr
    ·rcases g3 with ⟨h5, h6, h7⟩ | ⟨h5, _⟩
     ·rw [h7] at hr
      simp only at hr
      split at hr
      ·exact ⟨h5, (Option.some.inj hr).symm⟩
      ·cases hr
     ·rw [h5] at hr; cases hr
    ·cases hr
   have hbadP : P = none → (b = true ∨ X.length ≥ 300) := by
    intro hr
    rw [← hpk] at hr
    rcases g3 with ⟨h5, h6, h7⟩ | ⟨_, h6, _⟩
    ·right
     split at hr
     ·rw [h7] at hr
      simp only at hr
      split at hr
      ·cases hr
      ·omega
     ·rename_i hno
      have hge300 : ¬ tq.length < 300 := fun h => hno ⟨hi, hd, h⟩
      -- nothing is taken away
      have mono : ∀ (l : List Int) (s s' : List Int × List GNode), pkL (pkI nodes f (d + 1)) l s = some s' → s.2.length ≤ s'.2.length := by
       intro l
       induction l with
       | nil => intro s s' h; cases h; exact Nat.le_refl _
       | cons x l ih =>
        intro s s' h
        simp only [pkL] at h
        split at h
        ·cases h
        ·rename_i q hq
         have h8 := ih _ _ h
         have h9 : s.2.length ≤ q.2.length := by
          have : ∀ (f : Nat) (d : Int) (tq : List GNode) (k : Int) (q : Int × List GNode), pkI nodes f d tq k = some q → tq.length < 300 := by
           intro f d tq k q h
           cases f with
           | zero => cases h
           | succ f =>
            simp only [pkI] at h
            split at h
            ·rename_i hh; exact hh.2.2
            ·cases h
          have hlt := this _ _ _ _ _ hq
          have hgr : ∀ (f : Nat) (d : Int) (tq : List GNode) (k : Int) (q : Int × List GNode), pkI nodes f d tq k = some q → tq.length ≤ q.2.length := by
           intro f
           induction f with
           | zero => intro d tq k q h; cases h
           | succ f ihf =>
            intro d tq k q h
            simp only [pkI] at h
            split at h
            ·split at h
             ·cases h
             ·split at h
              ·cases h
              ·rename_i s'' hs''
               have hm : ∀ (l : List Int) (s s' : List Int × List GNode), pkL (pkI nodes f (d + 1)) l s = some s' → s.2.length ≤ s'.2.length := by
                intro l
                induction l with
                | nil => intro s s' h; cases h; exact Nat.le_refl _
                | cons x l ihl =>
                 intro s s' h
                 simp only [pkL] at h
                 split at h
                 ·cases h
                 ·rename_i q' hq'
                  exact Nat.le_trans (ihf _ _ _ _ hq') (ihl _ _ h)
               have h10 := hm _ _ _ hs''
               split at h
               ·have := Option.some.inj h
                subst this
                simp only [List.length_append] at h10 ⊢; omega
               ·cases h
            ·cases h
          exact hgr _ _ _ _ _ hq
         exact Nat.le_trans h9 h8
      have := mono _ _ _ h7
      simp only at this
      omega
    ·rcases h6 with h6 | h6
     ·exact .inl h6
     ·exact .inr (by omega)
   refine ⟨fun r hr => ?_, fun hr => ?_⟩
   ·obtain ⟨h5, h6⟩ := hgoodP r hr
    subst h5 h6; rfl
   ·refine ⟨_, _, b, rfl, ?_, ?_⟩
    ·rcases hbadP hr with h | h
     ·exact .inl h
     ·right
      simp only [List.length_append, List.length_cons, List.length_nil]; omega
    ·simp only [List.length_append, List.length_cons, List.length_nil]
     rcases g3 with ⟨_, h, _⟩ | ⟨_, _, h⟩ <;> omega
  ·rw [if_pos hc, if_neg (fun h => hc ⟨h.1, h.2.1⟩)]
   exact ⟨fun r h => (by cases h), fun _ => ⟨_, _, true, rfl, .inl rfl, by first | omega | (simp only; omega)⟩⟩
end Go.OM
namespace Go.OM
theorem appN_nil {α : Type} {n : Nat} {l : List α} (h : l.length ≤ 1048576) (hn : n ≤ 64) : appI n [] l = some l := app_nil h hn
theorem pkL_kids {rc : List GNode → Int → Option (Int × List GNode)} : ∀ (l : List Int) (s s' : List Int × List GNode), pkL rc l s = some s' → s'.1.length = s.1.length + l.length
 | [], s, s', h => by cases h; rfl
 | x :: l, s, s', h => by
  simp only [pkL] at h
  split at h
  ·cases h
  ·rename_i r hx
   have := pkL_kids l _ s' h
   rw [this]
   simp only [List.length_append, List.length_cons, List.length_nil]; omega
def NL (l : List GNode) : Prop := ∀ x ∈ l, GNode.le 1048576 x
theorem pkL_nl {rc : List GNode → Int → Option (Int × List GNode)} (hr : ∀ tq k r, NL tq → rc tq k = some r → NL r.2) : ∀ (l : List Int) (s s' : List Int × List GNode), NL s.2 → pkL rc l s = some s' → NL s'.2
 | [], s, s', hs, h => by cases h; exact hs
 | x :: l, s, s', hs, h => by
  simp only [pkL] at h
  split at h
  ·cases h
  ·rename_i r hx
   exact pkL_nl hr l _ s' (hr _ _ _ hs hx) h
theorem pkI_nl {nodes : List GNode} (hN : NL nodes) : ∀ (f : Nat) (d : Int) (tq : List GNode) (k : Int) (r : Int × List GNode), NL tq → pkI nodes f d tq k = some r → NL r.2
 | 0, d, tq, k, r, _, h => by cases h
 | f + 1, d, tq, k, r, ht, h => by
  simp only [pkI] at h
  split at h
  ·split at h
   ·cases h
   ·rename_i e he
    split at h
    ·cases h
    ·rename_i s hs
     split at h
     ·have hr := Option.some.inj h
      subst hr
      have h1 := pkL_nl (fun tq k r => pkI_nl hN f (d + 1) tq k r) _ _ _ ht hs
      have h2 := pkL_kids _ _ _ hs
      have h3 := hN e (List.mem_of_getElem? he)
      intro x hx
      simp only [List.mem_append, List.mem_singleton] at hx
      rcases hx with hx | hx
      ·exact h1 x hx
      ·subst hx
       refine ⟨h3.1, ?_⟩
       simp only [List.length_nil, Nat.zero_add] at h2
       simp only
       rw [h2]
       exact h3.2
     ·cases h
  ·cases h
theorem impl_put_bad (nodes : List GNode) : ∀ (f : Nat), 1 ≤ f → ∀ (X : List GNode) (k d : Int), impl_packer_put_rec f ⟨nodes, X, true⟩ k d = some (-1, ⟨nodes, X, true⟩)
 | 0, h, _, _, _ => by omega
 | f + 1, _, X, k, d => rfl
theorem spec_put_bad (nodes : List GNode) (hn : nodes.length ≤ 1048576) : ∀ (f : Nat), 1 ≤ f → ∀ (X : List GNode) (b : Bool), (b = true ∨ X.length > 300) → ∀ (k d : Int), spec_l04Pack_put_rec f ⟨nodes, X, b⟩ k d = some (-1, ⟨nodes, X, true⟩)
 | 0, h, _, _, _, _, _ => by omega
 | f + 1, _, X, b, hb, k, d => spec_put_doom nodes hn f X b hb k d
theorem copyFn_eq (f : GFn) (h : f.Params.length ≤ 1048576) : impl_copyFn f = some f := by
 unfold impl_copyFn
 rw [appN_nil h (by omega)]
 rfl
def RelP (p : GProgram) (i : Nat) (pk : Gpacker) (pr : GProgram) (pr' : GProgram) (pk' : Gl04Pack) : Prop :=
 (∃ (t : List GNode) (fs : List GFn), pk = ⟨p.Nodes, t, false⟩ ∧ pk' = ⟨p.Nodes, t, false⟩ ∧ t.length ≤ 300 ∧ NL t ∧ pr = ⟨[], fs⟩ ∧ pr' = ⟨[], fs⟩ ∧ fs.length = i ∧ ∀ f ∈ fs, GFn.le 1048576 f) ∨
 (∃ (X X' : List GNode) (b' : Bool) (fs fs' : List GFn), pk = ⟨p.Nodes, X, true⟩ ∧ pk' = ⟨p.Nodes, X', b'⟩ ∧ (b' = true ∨ X'.length > 300) ∧ X'.length ≤ 1000 ∧ pr = ⟨[], fs⟩ ∧ pr' = ⟨[], fs'⟩ ∧ fs.length = i ∧ fs'.length = i)
theorem Packed_main (p : GProgram) (h : GProgram.le 1048576 p) : ∃ (q : GProgram) (b : Bool), impl_Packed p = some (q, b) ∧ spec_Packed p = some (q, b) ∧ (b = true → GProgram.le 1048576 q) := by
 obtain ⟨⟨hn, hN⟩, hF, hFl⟩ := h
 have hk : ∀ x ∈ p.Nodes, x.Kids.length ≤ 1048576 := fun x hx => (hN x hx).2
 have h1f : 1 ≤ recFuel := by rw [recFuel_eq]; omega
 have h12 : 12 ≤ (1 : Int) + (recFuel : Nat) := by rw [recFuel_eq]; omega
 have ip : ∀ (t : List GNode) (k : Int), t.length ≤ 300 → (∀ r, pkI p.Nodes recFuel 1 t k = some r → impl_packer_put ⟨p.Nodes, t, false⟩ k 1 = some (r.1, ⟨p.Nodes, r.2, false⟩)) ∧ (pkI p.Nodes recFuel 1 t k = none → ∃ X, impl_packer_put ⟨p.Nodes, t, false⟩ k 1 = some (-1, ⟨p.Nodes, X, true⟩)) := fun t k ht => impl_put_main p.Nodes hn hk recFuel 1 t k (by omega) (by omega) h12 ht
 have sp : ∀ (t : List GNode) (k : Int), t.length ≤ 300 → (∀ r, pkI p.Nodes recFuel 1 t k = some r → spec_l04Pack_put ⟨p.Nodes, t, false⟩ k 1 = some (r.1, ⟨p.Nodes, r.2, false⟩)) ∧ (pkI p.Nodes recFuel 1 t k = none → ∃ (q : Int) (X : List GNode) (b : Bool), spec_l04Pack_put ⟨p.Nodes, t, false⟩ k 1 = some (q, ⟨p.Nodes, X, b⟩) ∧ (b = true ∨ X.length > 300) ∧ (X.length : Int) ≤ 300 + (11 - 1)) := fun t k ht => spec_put_main p.Nodes hn hk recFuel 1 t k (by omega) (by omega) h12 ht
 have ib : ∀ (X : List GNode) (k : Int), impl_packer_put ⟨p.Nodes, X, true⟩ k 1 = some (-1, ⟨p.Nodes, X, true⟩) := fun X k => impl_put_bad p.Nodes recFuel h1f X k 1
 have sb : ∀ (X : List GNode) (b : Bool) (k : Int), (b = true ∨ X.length > 300) → spec_l04Pack_put ⟨p.Nodes, X, b⟩ k 1 = some (-1, ⟨p.Nodes, X, true⟩) := fun X b k hb => spec_put_bad p.Nodes hn recFuel h1f X b hb k 1
 obtain ⟨r, r', g1, g2, pk, pr, pr', pk', e1, e2, g3⟩ := loopP_sim (f := impl_Packed_l1 p) (g := spec_Packed_l1 p) (fun (a : Int × Gpacker × GProgram) (b : Int × GProgram × Gl04Pack) => ∃ i : Nat, a.1 = i ∧ b.1 = i ∧ i ≤ p.Fns.length ∧ RelP p i a.2.1 a.2.2 b.2.1 b.2.2) (fun a => p.Fns.length - a.1.toNat)
  (fun r r' => ∃ pk pr pr' pk', r = (pk, pr) ∧ r' = (pr', pk') ∧ RelP p p.Fns.length pk pr pr' pk') (by
  rintro ⟨i, pk, pr⟩ ⟨i', pr', pk'⟩ ⟨i, rfl, rfl, hi, hrel⟩
  simp only at hi hrel
  by_cases hlt : i < p.Fns.length
  ·left
   have hfm := List.getElem_mem hlt
   have hfl := hFl _ hfm
   have hpar : (p.Fns[i]).Params.length ≤ 1048576 := hfl.2.1
   have hcp := copyFn_eq p.Fns[i] hpar
   have hap := appN_nil (n := 24) hpar (by omega)
   have hgi : getI p.Fns (i : Int) = some p.Fns[i] := getI_at hlt
   generalize p.Fns[i] = f at *
   have hwi := w64_nat hlt hF
   have appF : ∀ (fs : List GFn) (x : GFn), fs.length = i → appI 64 fs [x] = some (fs ++ [x]) := fun fs x hfs => app1g (by omega) (by omega)
   -- both go wrong
   have wrong : ∀ (X X' : List GNode) (b' : Bool) (z z' : GFn) (fs fs' : List GFn), (b' = true ∨ X'.length > 300) → X'.length ≤ 1000 → fs.length = i → fs'.length = i → RelP p (i + 1) ⟨p.Nodes, X, true⟩ ⟨[], fs ++ [z]⟩ ⟨[], fs' ++ [z']⟩ ⟨p.Nodes, X', b'⟩ := fun X X' b' z z' fs fs' a1 a2 a3 a4 => .inr ⟨X, X', b', _, _, rfl, rfl, a1, a2, rfl, rfl, by simp [a3], by simp [a4]⟩
   by_cases hret : f.Ret ≥ 0
   ·have hrd : decide (f.Ret ≥ 0) = true := by simpa using hret
    rcases hrel with ⟨t, fs, rfl, rfl, ht, hnl, rfl, rfl, hfs, hfle⟩ | ⟨X, X', b', fs, fs', rfl, rfl, hb, hXl, rfl, rfl, hfs, hfs'⟩
    ·obtain ⟨i1, i2⟩ := ip t f.Body ht
     obtain ⟨s1, s2⟩ := sp t f.Body ht
     cases hx : pkI p.Nodes recFuel 1 t f.Body with
     | none =>
      obtain ⟨X, hX⟩ := i2 hx
      obtain ⟨q, X', b', n1, n2, n3⟩ := s2 hx
      refine ⟨(((i + 1 : Nat) : Int), ⟨p.Nodes, X, true⟩, ⟨[], fs ++ [⟨f.Name, f.Params, f.Res, -1, -1⟩]⟩), (((i + 1 : Nat) : Int), ⟨[], fs ++ [⟨f.Name, f.Params, f.Res, q, -1⟩]⟩, ⟨p.Nodes, X', true⟩), ?_, ?_, ⟨i + 1, rfl, rfl, by omega, wrong X X' true _ _ fs fs (.inl rfl) (by omega) hfs hfs⟩, by simp only [Int.toNat_natCast]; omega⟩
      ·simp only [impl_Packed_l1, ofNat_lt_true hlt, if_true, hgi, Option.bind_some, hcp, hX, hrd, ib, appF _ _ hfs, hwi]
      ·simp only [spec_Packed_l1, ofNat_lt_true hlt, if_true, hgi, Option.bind_some, hap, n1, hrd, sb X' b' _ n2, appF _ _ hfs, hwi]
     | some r1 =>
      have hl1 := pkI_len hx
      have hnl1 := pkI_nl hN _ _ _ _ _ hnl hx
      obtain ⟨j1, j2⟩ := ip r1.2 f.Ret hl1
      obtain ⟨u1, u2⟩ := sp r1.2 f.Ret hl1
      cases hy : pkI p.Nodes recFuel 1 r1.2 f.Ret with
      | none =>
       obtain ⟨X, hX⟩ := j2 hy
       obtain ⟨q, X', b', n1, n2, n3⟩ := u2 hy
       refine ⟨(((i + 1 : Nat) : Int), ⟨p.Nodes, X, true⟩, ⟨[], fs ++ [⟨f.Name, f.Params, f.Res, r1.1, -1⟩]⟩), (((i + 1 : Nat) : Int), ⟨[], fs ++ [⟨f.Name, f.Params, f.Res, r1.1, q⟩]⟩, ⟨p.Nodes, X', b'⟩), ?_, ?_, ⟨i + 1, rfl, rfl, by omega, wrong X X' b' _ _ fs fs n2 (by omega) hfs hfs⟩, by simp only [Int.toNat_natCast]; omega⟩
       ·simp only [impl_Packed_l1, ofNat_lt_true hlt, if_true, hgi, Option.bind_some, hcp, i1 r1 hx, hrd, hX, appF _ _ hfs, hwi]
       ·simp only [spec_Packed_l1, ofNat_lt_true hlt, if_true, hgi, Option.bind_some, hap, s1 r1 hx, hrd, n1, appF _ _ hfs, hwi]
      | some r2 =>
       refine ⟨(((i + 1 : Nat) : Int), ⟨p.Nodes, r2.2, false⟩, ⟨[], fs ++ [⟨f.Name, f.Params, f.Res, r1.1, r2.1⟩]⟩), (((i + 1 : Nat) : Int), ⟨[], fs ++ [⟨f.Name, f.Params, f.Res, r1.1, r2.1⟩]⟩, ⟨p.Nodes, r2.2, false⟩), ?_, ?_, ⟨i + 1, rfl, rfl, by omega, .inl ⟨r2.2, _, rfl, rfl, pkI_len hy, pkI_nl hN _ _ _ _ _ hnl1 hy, rfl, rfl, by simp [hfs], fun x hx => ?_⟩⟩, by simp only [Int.toNat_natCast]; omega⟩
       ·simp only [impl_Packed_l1, ofNat_lt_true hlt, if_true, hgi, Option.bind_some, hcp, i1 r1 hx, hrd, j1 r2 hy, appF _ _ hfs, hwi]
       ·simp only [spec_Packed_l1, ofNat_lt_true hlt, if_true, hgi, Option.bind_some, hap, s1 r1 hx, hrd, u1 r2 hy, appF _ _ hfs, hwi]
       ·simp only [List.mem_append, List.mem_singleton] at hx
        rcases hx with hx | hx
        ·exact hfle x hx
        ·subst hx; exact hfl
    ·refine ⟨(((i + 1 : Nat) : Int), ⟨p.Nodes, X, true⟩, ⟨[], fs ++ [⟨f.Name, f.Params, f.Res, -1, -1⟩]⟩), (((i + 1 : Nat) : Int), ⟨[], fs' ++ [⟨f.Name, f.Params, f.Res, -1, -1⟩]⟩, ⟨p.Nodes, X', true⟩), ?_, ?_, ⟨i + 1, rfl, rfl, by omega, wrong X X' true _ _ fs fs' (.inl rfl) hXl hfs hfs'⟩, by simp only [Int.toNat_natCast]; omega⟩
     ·simp only [impl_Packed_l1, ofNat_lt_true hlt, if_true, hgi, Option.bind_some, hcp, hrd, ib, appF _ _ hfs, hwi]
     ·simp only [spec_Packed_l1, ofNat_lt_true hlt, if_true, hgi, Option.bind_some, hap, hrd, sb X' b' _ hb, sb X' true _ (.inl rfl), appF _ _ hfs', hwi]
   ·have hrd : decide (f.Ret ≥ 0) = false := by simpa using hret
    rcases hrel with ⟨t, fs, rfl, rfl, ht, hnl, rfl, rfl, hfs, hfle⟩ | ⟨X, X', b', fs, fs', rfl, rfl, hb, hXl, rfl, rfl, hfs, hfs'⟩
    ·obtain ⟨i1, i2⟩ := ip t f.Body ht
     obtain ⟨s1, s2⟩ := sp t f.Body ht
     cases hx : pkI p.Nodes recFuel 1 t f.Body with
     | none =>
      obtain ⟨X, hX⟩ := i2 hx
      obtain ⟨q, X', b', n1, n2, n3⟩ := s2 hx
      refine ⟨(((i + 1 : Nat) : Int), ⟨p.Nodes, X, true⟩, ⟨[], fs ++ [⟨f.Name, f.Params, f.Res, -1, f.Ret⟩]⟩), (((i + 1 : Nat) : Int), ⟨[], fs ++ [⟨f.Name, f.Params, f.Res, q, f.Ret⟩]⟩, ⟨p.Nodes, X', b'⟩), ?_, ?_, ⟨i + 1, rfl, rfl, by omega, wrong X X' b' _ _ fs fs n2 (by omega) hfs hfs⟩, by simp only [Int.toNat_natCast]; omega⟩
      ·simp only [impl_Packed_l1, ofNat_lt_true hlt, if_true, hgi, Option.bind_some, hcp, hX, hrd, Bool.false_eq_true, if_false, appF _ _ hfs, hwi]
      ·simp only [spec_Packed_l1, ofNat_lt_true hlt, if_true, hgi, Option.bind_some, hap, n1, hrd, Bool.false_eq_true, if_false, appF _ _ hfs, hwi]
     | some r1 =>
      refine ⟨(((i + 1 : Nat) : Int), ⟨p.Nodes, r1.2, false⟩, ⟨[], fs ++ [⟨f.Name, f.Params, f.Res, r1.1, f.Ret⟩]⟩), (((i + 1 : Nat) : Int), ⟨[], fs ++ [⟨f.Name, f.Params, f.Res, r1.1, f.Ret⟩]⟩, ⟨p.Nodes, r1.2, false⟩), ?_, ?_, ⟨i + 1, rfl, rfl, by omega, .inl ⟨r1.2, _, rfl, rfl, pkI_len hx, pkI_nl hN _ _ _ _ _ hnl hx, rfl, rfl, by simp [hfs], fun x hx => ?_⟩⟩, by simp only [Int.toNat_natCast]; omega⟩
      ·simp only [impl_Packed_l1, ofNat_lt_true hlt, if_true, hgi, Option.bind_some, hcp, i1 r1 hx, hrd, Bool.false_eq_true, if_false, appF _ _ hfs, hwi]
      ·simp only [spec_Packed_l1, ofNat_lt_true hlt, if_true, hgi, Option.bind_some, hap, s1 r1 hx, hrd, Bool.false_eq_true, if_false, appF _ _ hfs, hwi]
      ·simp only [List.mem_append, List.mem_singleton] at hx
       rcases hx with hx | hx
       ·exact hfle x hx
       ·subst hx; exact hfl
    ·refine ⟨(((i + 1 : Nat) : Int), ⟨p.Nodes, X, true⟩, ⟨[], fs ++ [⟨f.Name, f.Params, f.Res, -1, f.Ret⟩]⟩), (((i + 1 : Nat) : Int), ⟨[], fs' ++ [⟨f.Name, f.Params, f.Res, -1, f.Ret⟩]⟩, ⟨p.Nodes, X', true⟩), ?_, ?_, ⟨i + 1, rfl, rfl, by omega, wrong X X' true _ _ fs fs' (.inl rfl) hXl hfs hfs'⟩, by simp only [Int.toNat_natCast]; omega⟩
     ·simp only [impl_Packed_l1, ofNat_lt_true hlt, if_true, hgi, Option.bind_some, hcp, hrd, ib, Bool.false_eq_true, if_false, appF _ _ hfs, hwi]
     ·simp only [spec_Packed_l1, ofNat_lt_true hlt, if_true, hgi, Option.bind_some, hap, hrd, sb X' b' _ hb, Bool.false_eq_true, if_false, appF _ _ hfs', hwi]
  ·right
   have : i = p.Fns.length := by omega
   subst this
   exact ⟨(pk, pr), (pr', pk'), by simp [impl_Packed_l1], by simp [spec_Packed_l1], pk, pr, pr', pk', rfl, rfl, hrel⟩) (0, ⟨p.Nodes, [], false⟩, ⟨[], []⟩) (0, ⟨[], []⟩, ⟨p.Nodes, [], false⟩) ⟨0, rfl, rfl, by omega, .inl ⟨[], [], rfl, rfl, by simp, fun x hx => (by cases hx), rfl, rfl, rfl, fun x hx => (by cases hx)⟩⟩
 subst e1 e2
 unfold impl_Packed spec_Packed
 rw [g1, g2]
 simp only [Option.bind_some]
 rcases g3 with ⟨t, fs, rfl, rfl, ht, hnl, rfl, rfl, hfs, hfle⟩ | ⟨X, X', b', fs, fs', rfl, rfl, hb, hXl, rfl, rfl, hfs, hfs'⟩
 ·have hd : decide ((t.length : Int) > 300) = false := by simp only [decide_eq_false_iff_not]; omega
  refine ⟨⟨t, fs⟩, true, by simp, by simp only [Bool.false_eq_true, if_false, hd, Option.bind_some], fun _ => ⟨⟨by simp only; omega, hnl⟩, by simp only; omega, hfle⟩⟩
 ·refine ⟨⟨[], []⟩, false, by simp, ?_, fun h => by cases h⟩
  have : (if b' = true then some true else some (decide ((X'.length : Int) > 300))) = some true := by
   rcases hb with h | h
   ·rw [h]; rfl
   ·have hd : decide ((X'.length : Int) > 300) = true := by simp only [decide_eq_true_eq]; omega
    rw [hd]; split <;> rfl
  simp only [this, Option.bind_some, if_true]
end Go.OM
namespace Go.OM
theorem progB_iff {p : GProgram} (h : progB p = true) : 1 ≤ p.Nodes.length ∧ p.Nodes.length ≤ 300 ∧ 1 ≤ p.Fns.length ∧ p.Fns.length ≤ 8 ∧ okU p.Nodes p.Nodes.length = true := by
 unfold progB at h
 simp only [Bool.and_eq_true, inB_iff] at h
 obtain ⟨h1, h2, h3, _⟩ := h
 exact ⟨by omega, by omega, by omega, by omega, h3⟩
def setT (v : Bool) (l : List Int) (m : List Bool) : List Bool := l.foldl (fun m e => m.set e.toNat v) m
theorem setT_len (v : Bool) : ∀ (l : List Int) (m : List Bool), (setT v l m).length = m.length
 | [], m => rfl
 | e :: l, m => by
  show (setT v l (m.set e.toNat v)).length = _
  rw [setT_len v l]; simp
theorem setT_loop {τ ρ : Type} (kids : List Int) (n k : Nat) (hk : k < n) (hkb : ∀ e ∈ kids, 0 ≤ e ∧ e < k) (v b : Bool) (f : List Bool × Int → Option ((List Bool × Int) ⊕ ρ)) (fin : List Bool → ρ)
  (hf : ∀ (m : List Bool) (j : Nat) (hj : j < kids.length), m.length = n → m[k]? = some b → f (m, j) = some (.inl (m.set kids[j].toNat v, ((j + 1 : Nat) : Int))))
  (he : ∀ m : List Bool, f (m, kids.length) = some (.inr (fin m))) (m : List Bool) (hm : m.length = n) (hb : m[k]? = some b) : loopP f (m, 0) = some (fin (setT v kids m)) := by
 have := loopP_fold kids (fun (m : List Bool) j => (m, (j : Int))) (fun j m => m.length = n ∧ m[k]? = some b) (fun m e => .inl (m.set e.toNat v)) fin f (fun m j hj hI => by
  left
  refine ⟨_, rfl, hf m j hj hI.1 hI.2, by rw [List.length_set]; exact hI.1, ?_⟩
  have := hkb _ (List.getElem_mem hj)
  rw [List.getElem?_set, if_neg (by omega)]
  exact hI.2) (fun m _ => he m) m ⟨hm, hb⟩
 rw [foldE_inl] at this
 exact this
end Go.OM
namespace Go.OM
theorem tops_main (p : GProgram) (hn : p.Nodes.length ≤ 1048576) (b1 : 1 ≤ p.Nodes.length) (b2 : p.Nodes.length ≤ 300) (hu : okU p.Nodes p.Nodes.length = true) : ∃ l : List Int, impl_outermost p = some l ∧ spec_l26Tops p = some l ∧ l.length ≤ p.Nodes.length ∧ ∀ x ∈ l, 0 ≤ x ∧ x < (p.Nodes.length : Int) := by
 unfold impl_outermost spec_l26Tops
 rw [mkI_len _ _ _ (by omega) (by omega)]
 simp only [Option.bind_some, w64_pred hn]
 obtain ⟨r, r', h1, h2, h3⟩ := loopP_sim (f := impl_outermost_l1 p) (g := spec_l26Tops_l1 p) (fun (a b : List Bool × List Int × Int) => a = b ∧ a.1.length = p.Nodes.length ∧ -1 ≤ a.2.2 ∧ a.2.2 < p.Nodes.length ∧ (a.2.1.length : Int) + a.2.2 < p.Nodes.length ∧ ∀ x ∈ a.2.1, 0 ≤ x ∧ x < (p.Nodes.length : Int)) (fun a => (a.2.2 + 1).toNat) (fun r r' => r = r' ∧ r.length ≤ p.Nodes.length ∧ ∀ x ∈ r, 0 ≤ x ∧ x < (p.Nodes.length : Int)) (by
  rintro ⟨m, out, k⟩ _ ⟨rfl, hm, hk0, hk1, ho, hob⟩
  simp only at hm hk0 hk1 ho hob
  by_cases hneg : k < 0
  ·right
   have d : decide (k ≥ 0) = false := by simp only [decide_eq_false_iff_not]; omega
   exact ⟨out, out, by simp only [impl_outermost_l1, d, Bool.false_eq_true, if_false], by simp only [spec_l26Tops_l1, d, Bool.false_eq_true, if_false], rfl, (by omega), hob⟩
  ·left
   have d : decide (k ≥ 0) = true := by simp only [decide_eq_true_eq]; omega
   have hkk : k = ((k.toNat : Nat) : Int) := by omega
   have hlt : k.toNat < p.Nodes.length := by omega
   generalize k.toNat = i at *
   subst hkk
   obtain ⟨n, b, c1, c2, _, _, c3⟩ := constOf_main p i (okU_mono (by omega) hu)
   have hx : p.Nodes[i]? = some p.Nodes[i] := List.getElem?_eq_getElem hlt
   have hnb := (okU_at hu hlt).1
   have hkb := nodeB_kids hnb hx
   have hkl := nodeB_kidlen hnb hx
   have him : i < m.length := by omega
   have hmi : m[i]? = some m[i] := List.getElem?_eq_getElem him
   have hdeep : deepB p.Nodes (i : Int) = dval p.Nodes i := by
    unfold deepB
    rw [if_pos ⟨by omega, by omega, okU_mono (by simp only [Int.toNat_natCast]; omega) hu⟩, Int.toNat_natCast]
   have hdn : ¬ (dval p.Nodes i == 0) = true := by
    have := dval_pos p.Nodes i
    simp only [beq_iff_eq]; omega
   have hco : impl_ConstOf p (i : Int) = some (n, b) := by
    unfold impl_ConstOf
    rw [impl_DeepOf_eq _ hn, hdeep]
    simp only [Option.bind_some]
    rw [if_neg hdn, c1]; rfl
   generalize hg : p.Nodes[i] = x at *
   have hgi : getI p.Nodes (i : Int) = some x := by rw [getI_at hlt, hg]
   have hgm : getI m (i : Int) = some m[i] := getI_at him
   -- may it be reckoned?
   have hfold : impl_Foldable p (i : Int) = some (b && x.Kind != 1) := by
    unfold impl_Foldable
    rw [hco]
    simp only [Option.bind_some]
    cases b with
    | false => rfl
    | true =>
     rw [if_pos rfl, hgi]
     simp only [Option.bind_some, impl_in_eq]
     obtain ⟨y, hy, hyk⟩ := c3 rfl
     rw [hx] at hy
     have hy' := Option.some.inj hy
     subst hy'
     rcases hyk with e | e
     ·rw [e]; rfl
     ·have hin : inB x.Kind 9 11 = true := inB_iff.2 e
      have hne : ¬ x.Kind = 1 := by omega
      simp [hin, hne]
   have hok2 : (if b = true then (getI p.Nodes (i : Int)).bind fun e => some (e.Kind != 1) else some false) = some (b && x.Kind != 1) := by
    cases b with
    | false => rfl
    | true => rw [if_pos rfl, hgi]; rfl
   generalize hq : (b && x.Kind != 1) = q at *
   have hout : (Option.bind (if q = true then some (!m[i]) else some false) fun v : Bool => if v = true then (appI 8 out [(i : Int)]).bind fun l => some l else some out) = some (if (q && !m[i]) = true then out ++ [(i : Int)] else out) := by
    have happ : appI 8 out [(i : Int)] = some (out ++ [(i : Int)]) := app1 (by omega) (by omega)
    cases q with
    | false => rfl
    | true =>
     simp only [if_true, Option.bind_some, Bool.true_and]
     cases m[i] <;> simp [happ]
   have hw : IntKind.wrap .i64 ((i : Int) - 1) = (i : Int) - 1 := w64 (by omega) (by omega)
   have hset : ∀ (z : Bool) (o : List Int), z = (m[i] || q) → loopP (impl_outermost_l2 i q o x) (m, 0) = some (setT z x.Kids m, o) := by
    intro z o hz
    subst hz
    exact setT_loop (τ := Unit) x.Kids p.Nodes.length i hlt hkb (m[i] || q) m[i] (impl_outermost_l2 i q o x) (fun m => (m, o)) (fun m' j hj hm' hb' => by
     have hbe := hkb _ (List.getElem_mem hj)
     have g1 : getI m' (i : Int) = some m[i] := by rw [getI_nat]; exact hb'
     simp only [impl_outermost_l2, ofNat_lt_true hj, if_true, getI_at hj, Option.bind_some, g1]
     rw [getI_in hbe.1 (by omega)]
     simp only [Option.bind_some, bindS_def, w64_nat hj (show x.Kids.length ≤ 1048576 by omega)]
     cases m[i] <;> cases q <;> rfl) (fun m => by simp [impl_outermost_l2]) m hm hmi
   have hset2 : ∀ (z : Bool) (o : List Int), z = (m[i] || q) → loopP (spec_l26Tops_l2 p i q o) (m, 0) = some (setT z x.Kids m, o) := by
    intro z o hz
    subst hz
    exact setT_loop (τ := Unit) x.Kids p.Nodes.length i hlt hkb (m[i] || q) m[i] (spec_l26Tops_l2 p i q o) (fun m => (m, o)) (fun m' j hj hm' hb' => by
     have hbe := hkb _ (List.getElem_mem hj)
     have g1 : getI m' (i : Int) = some m[i] := by rw [getI_nat]; exact hb'
     simp only [spec_l26Tops_l2, hgi, ofNat_lt_true hj, if_true, getI_at hj, Option.bind_some, g1]
     rw [getI_in hbe.1 (by omega)]
     simp only [Option.bind_some, bindS_def, w64_nat hj (show x.Kids.length ≤ 1048576 by omega)]
     cases q <;> cases m[i] <;> rfl) (fun m => by simp [spec_l26Tops_l2, hgi]) m hm hmi
   refine ⟨(setT (m[i] || q) x.Kids m, (if (q && !m[i]) = true then out ++ [(i : Int)] else out), (i : Int) - 1), (setT (m[i] || q) x.Kids m, (if (q && !m[i]) = true then out ++ [(i : Int)] else out), (i : Int) - 1), ?_, ?_, ⟨rfl, ?_⟩, ?_⟩
   ·simp only [impl_outermost_l1, d, if_true, hfold, Option.bind_some, hgm, hgi]
    rw [hout]
    simp only [Option.bind_some]
    rw [hset _ _ rfl]
    simp only [Option.bind_some, hw]
   ·simp only [spec_l26Tops_l1, d, if_true, c2, Option.bind_some, hgm]
    rw [hok2]
    simp only [Option.bind_some]
    rw [hout]
    simp only [Option.bind_some]
    rw [hset2 _ _ rfl]
    simp only [Option.bind_some, hw]
   ·refine ⟨by simp only [setT_len]; exact hm, by simp only; omega, by simp only; omega, ?_, fun x hx => ?_⟩
    ·simp only
     split
     ·rw [List.length_append]; simp only [List.length_cons, List.length_nil]; omega
     ·omega
    ·simp only at hx
     split at hx
     ·rcases List.mem_append.1 hx with hx | hx
      ·exact hob x hx
      ·simp only [List.mem_singleton] at hx
       subst hx
       exact ⟨by omega, by omega⟩
     ·exact hob x hx
   ·simp only; omega) (List.replicate p.Nodes.length false, [], (p.Nodes.length : Int) - 1) _ ⟨rfl, by simp, by simp only; omega, by simp only; omega, by simp only [List.length_nil]; omega, fun x hx => (by cases hx)⟩
 rw [h1, h2]
 obtain ⟨h3, h4⟩ := h3
 subst h3
 exact ⟨_, rfl, rfl, h4⟩
theorem copy_loop {α ρ : Type} (l : List α) (hl : l.length ≤ 1048576) (f : List α × Int → Option ((List α × Int) ⊕ ρ)) (fin : List α → ρ)
  (hf : ∀ (o : List α) (k : Nat) (hk : k < l.length), o.length = k → f (o, k) = some (.inl (o ++ [l[k]], ((k + 1 : Nat) : Int)))) (he : ∀ o : List α, f (o, l.length) = some (.inr (fin o))) : loopP f ([], 0) = some (fin l) := by
 obtain ⟨r, h1, h2⟩ := loopP_run (f := f) (fun s : List α × Int => ∃ k : Nat, s.2 = k ∧ k ≤ l.length ∧ s.1 = l.take k) (fun s => l.length - s.2.toNat) (fun r => r = fin l) (by
  rintro ⟨o, i⟩ ⟨k, rfl, hk, ho⟩
  simp only at ho hk
  by_cases hlt : k < l.length
  ·left
   refine ⟨_, hf o k hlt (by rw [ho, List.length_take]; omega), ⟨k + 1, rfl, by omega, ?_⟩, by simp only [Int.toNat_natCast]; omega⟩
   simp only
   rw [ho, List.take_add_one, List.getElem?_eq_getElem hlt]; rfl
  ·right
   have : k = l.length := by omega
   subst this
   rw [List.take_length] at ho
   exact ⟨_, he o, by rw [ho]⟩) ([], 0) ⟨0, rfl, by omega, by simp⟩
 rw [h1, h2]
theorem copyNodes_eq (l : List GNode) (hl : l.length ≤ 1048576) (hN : NL l) : impl_copyNodes l = some l := by
 unfold impl_copyNodes
 rw [copy_loop l hl (impl_copyNodes_l1 l) (fun o => o) (fun o k hk ho => by
  have hk2 := (hN _ (List.getElem_mem hk)).2
  have hc : impl_copyInts (l[k]).Kids = some (l[k]).Kids := by unfold impl_copyInts; rw [appN_nil hk2 (by omega)]; rfl
  simp only [impl_copyNodes_l1, ofNat_lt_true hk, if_true, getI_at hk, Option.bind_some, hc, app1g (show o.length ≤ 1048576 by omega) (show 56 ≤ 64 by omega), w64_nat hk hl]) (fun o => by simp [impl_copyNodes_l1])]
 rfl
theorem specNodes_eq (l : List GNode) (hl : l.length ≤ 1048576) (hN : NL l) : spec_l04Nodes l = some l := by
 unfold spec_l04Nodes
 rw [copy_loop l hl (spec_l04Nodes_l1 l) (fun o => o) (fun o k hk ho => by
  have hk2 := (hN _ (List.getElem_mem hk)).2
  simp only [spec_l04Nodes_l1, ofNat_lt_true hk, if_true, getI_at hk, Option.bind_some, appN_nil hk2 (show 8 ≤ 64 by omega), app1g (show o.length ≤ 1048576 by omega) (show 56 ≤ 64 by omega), w64_nat hk hl]) (fun o => by simp [spec_l04Nodes_l1])]
 rfl
theorem copyProgram_eq (p : GProgram) (h : GProgram.le 1048576 p) : impl_copyProgram p = some p ∧ spec_l04Copy p = some p := by
 obtain ⟨⟨hn, hN⟩, hF, hFl⟩ := h
 constructor
 ·unfold impl_copyProgram
  rw [copyNodes_eq _ hn hN]
  simp only [Option.bind_some]
  obtain ⟨r, h1, h2⟩ := loopP_run (f := impl_copyProgram_l1 p) (fun s : Int × GProgram => ∃ k : Nat, s.1 = k ∧ k ≤ p.Fns.length ∧ s.2 = ⟨p.Nodes, p.Fns.take k⟩) (fun s => p.Fns.length - s.1.toNat) (fun r => r = p) (by
   rintro ⟨i, v⟩ ⟨k, rfl, hk, rfl⟩
   try simp only at hk
   by_cases hlt : k < p.Fns.length
   ·left
    have hpar := (hFl _ (List.getElem_mem hlt)).2.1
    refine ⟨(((k + 1 : Nat) : Int), ⟨p.Nodes, p.Fns.take (k + 1)⟩), ?_, ⟨k + 1, rfl, by omega, rfl⟩, by simp only [Int.toNat_natCast]; omega⟩
    simp only [impl_copyProgram_l1, ofNat_lt_true hlt, if_true, getI_at hlt, Option.bind_some, copyFn_eq _ hpar, app1g (show (p.Fns.take k).length ≤ 1048576 by rw [List.length_take]; omega) (show 64 ≤ 64 by omega), w64_nat hlt hF]
    rw [List.take_add_one, List.getElem?_eq_getElem hlt]; rfl
   ·right
    have : k = p.Fns.length := by omega
    subst this
    refine ⟨⟨p.Nodes, p.Fns.take p.Fns.length⟩, by simp [impl_copyProgram_l1], ?_⟩
    rw [List.take_length]) (0, ⟨p.Nodes, []⟩) ⟨0, rfl, by omega, by simp⟩
  rw [h1, h2]; rfl
 ·unfold spec_l04Copy
  rw [specNodes_eq _ hn hN]
  simp only [Option.bind_some]
  obtain ⟨r, h1, h2⟩ := loopP_run (f := spec_l04Copy_l1 p) (fun s : Int × GProgram => ∃ k : Nat, s.1 = k ∧ k ≤ p.Fns.length ∧ s.2 = ⟨p.Nodes, p.Fns.take k⟩) (fun s => p.Fns.length - s.1.toNat) (fun r => r = p) (by
   rintro ⟨i, v⟩ ⟨k, rfl, hk, rfl⟩
   try simp only at hk
   by_cases hlt : k < p.Fns.length
   ·left
    have hpar := (hFl _ (List.getElem_mem hlt)).2.1
    refine ⟨(((k + 1 : Nat) : Int), ⟨p.Nodes, p.Fns.take (k + 1)⟩), ?_, ⟨k + 1, rfl, by omega, rfl⟩, by simp only [Int.toNat_natCast]; omega⟩
    simp only [spec_l04Copy_l1, ofNat_lt_true hlt, if_true, getI_at hlt, Option.bind_some, appN_nil hpar (show 24 ≤ 64 by omega), app1g (show (p.Fns.take k).length ≤ 1048576 by rw [List.length_take]; omega) (show 64 ≤ 64 by omega), w64_nat hlt hF]
    rw [List.take_add_one, List.getElem?_eq_getElem hlt]; rfl
   ·right
    have : k = p.Fns.length := by omega
    subst this
    refine ⟨⟨p.Nodes, p.Fns.take p.Fns.length⟩, by simp [spec_l04Copy_l1], ?_⟩
    rw [List.take_length]) (0, ⟨p.Nodes, []⟩) ⟨0, rfl, by omega, by simp⟩
  rw [h1, h2]; rfl
theorem Folded_main (p : GProgram) (h : GProgram.le 1048576 p) : ∃ q : GProgram, impl_Folded p = some q ∧ spec_Folded p = some q ∧ GProgram.le 1048576 q := by
 obtain ⟨c1, c2⟩ := copyProgram_eq p h
 have hle := h
 obtain ⟨⟨hn, hN⟩, hF, hFl⟩ := h
 unfold impl_Folded spec_Folded
 rw [impl_ProgramOk_eq p hn hF, spec_ProgramOk_eq p hn hF, c1, c2]
 simp only [Option.bind_some]
 cases hok : progB p with
 | false => exact ⟨p, rfl, rfl, hle⟩
 | true =>
  obtain ⟨b1, b2, b3, b4, hu⟩ := progB_iff hok
  simp only [Bool.not_true, Bool.false_eq_true, if_false]
  obtain ⟨l, t1, t2, tl, t3⟩ := tops_main p hn b1 b2 hu
  rw [t1, t2]
  simp only [Option.bind_some]
  obtain ⟨r, r', g1, g2, g3, g4⟩ := loopP_sim (f := impl_Folded_l1 p l) (g := spec_Folded_l1 p l) (fun (a b : Int × GProgram) => a = b ∧ ∃ k : Nat, a.1 = k ∧ k ≤ l.length ∧ a.2.Nodes.length = p.Nodes.length ∧ GProgram.le 1048576 a.2) (fun a => l.length - a.1.toNat) (fun r r' => r = r' ∧ GProgram.le 1048576 r) (by
   rintro ⟨i, v⟩ _ ⟨rfl, k, rfl, hk, hv, hvl⟩
   simp only at hk hv hvl
   by_cases hlt : k < l.length
   ·left
    have hb := t3 _ (List.getElem_mem hlt)
    have hlt2 : (l[k]).toNat < p.Nodes.length := by omega
    have hcast : (((l[k]).toNat : Nat) : Int) = l[k] := by omega
    obtain ⟨n, b, d1, d2, _⟩ := constOf_main p (l[k]).toNat (okU_mono (by omega) hu)
    rw [hcast] at d1 d2
    have hgv : getI v.Nodes l[k] = some (v.Nodes[(l[k]).toNat]'(by omega)) := getI_in hb.1 (by rw [hv]; exact hb.2)
    have hwk := w64_nat hlt (show l.length ≤ 1048576 by omega)
    refine ⟨(IntKind.wrap .i64 ((k : Int) + 1), ⟨v.Nodes.set (l[k]).toNat ⟨1, n, ByteArray.empty, []⟩, v.Fns⟩), (IntKind.wrap .i64 ((k : Int) + 1), ⟨v.Nodes.set (l[k]).toNat ⟨1, n, ByteArray.empty, []⟩, v.Fns⟩), ?_, ?_, ⟨rfl, k + 1, ?_, by omega, by simp only [List.length_set]; exact hv, ?_⟩, ?_⟩
    ·simp only [impl_Folded_l1, ofNat_lt_true hlt, if_true, getI_at hlt, Option.bind_some, d1, hgv, bindS_def]
    ·simp only [spec_Folded_l1, ofNat_lt_true hlt, if_true, getI_at hlt, Option.bind_some, d2, hgv, bindS_def]
    ·exact hwk
    ·refine ⟨⟨by simp only [List.length_set]; exact hvl.1.1, fun x hx => ?_⟩, hvl.2⟩
     rcases List.mem_or_eq_of_mem_set hx with h1 | h1
     ·exact hvl.1.2 x h1
     ·subst h1
      exact ⟨by simp, by simp⟩
    ·simp only [hwk, Int.toNat_natCast]; omega
   ·right
    have : k = l.length := by omega
    subst this
    exact ⟨v, v, by simp [impl_Folded_l1], by simp [spec_Folded_l1], rfl, hvl⟩) (0, p) (0, p) ⟨rfl, 0, rfl, by omega, rfl, hle⟩
  subst g3
  rw [g1, g2]
  simp only [Option.bind_some]
  obtain ⟨q, b, m1, m2, m3⟩ := Packed_main r g4
  rw [m1, m2]
  simp only [Option.bind_some]
  cases hb : b with
  | false => exact ⟨p, rfl, rfl, hle⟩
  | true => exact ⟨q, rfl, rfl, m3 hb⟩
theorem law_Folded (p : GProgram) (hw : GProgram.le maxLen p) : laws_FnExactFolded p = some true := by
 unfold laws_FnExactFolded
 obtain ⟨r, h1, h2, h3⟩ := laws_szProgram_p p hw 1048576 (by omega) (by omega)
 rw [h1]
 simp only [Option.bind_some]
 by_cases hr : r < 0
 ·simp [hr]
 ·have hp := h3 (by omega)
  obtain ⟨q, v1, v2, hok⟩ := Folded_main p hp
  obtain ⟨k1, c1, m1, m2, m3⟩ := laws_markProgram_p p hp 1 (by omega) (by omega)
  obtain ⟨k2, w2, n1, n2, n3, n4⟩ := laws_markProgram_p q hok 1 (by omega) (by omega)
  simp [hr, laws_toProgram_p p hp, v1, v2, laws_eqProgram_p q q hok hok, laws_eqProgram_p p p hp hp, m1, n1, n4, show ¬ k1 < 0 by omega, show ¬ k2 < 0 by omega]
end Go.OM
