import Derived.Test.YtaikgmffaohobaaGreatDoorOmB
import Derived.Sort.OwnSortedInts
set_option linter.unusedVariables false
set_option linter.unusedSimpArgs false
set_option linter.unusedVariables false
set_option linter.unusedSimpArgs false
namespace Go.OM
variable {C:Ctx} {E:Env} {σ σ':St} {Q:Exit→Act→World→Prop} {S:Exit→St→Prop} {a:Act} {w:World} {P:Program}
def notTo (r:Root):AV→Bool
 | .al r' _ _ _=>!decide (r'=r)
 | .ref r' _ _=>!decide (r'=r)
 | .clo _ xs=>!(xs.any (Cap.at r))
 | _=>true
def Lies (D:Nat→Bool) (base vs:List (Nat × AV)) (e:Nat × AV):Prop:=e.2 = .u ∨ e ∈ base ∨ ∃ j,j < vs.length∧D j=true∧e=vsAt vs j
theorem killAll_id {tm base vs : List (Nat × AV)} {D : Nat → Bool} (r : Root) (bad : List Nat) (h : ∀ e ∈ tm, Lies D base vs e) (hb : base.all (fun e => notTo r e.2) = true) (hv : ((List.range vs.length).all fun j => notTo r (vsAt vs j).2 || bad.contains j) = true) (hbad : ∀ j ∈ bad, D j = false) : (tm.map fun e => (e.1, e.2.killAll r)) = tm := by
  have key : ∀ x : AV, notTo r x = true → x.killAll r = x := by
    intro x hx
    cases x with
    | clo f xs =>
      simp only [notTo, Bool.not_eq_true'] at hx
      simp only [AV.killAll, hx, Bool.false_eq_true, if_false]
    | _ => simp_all [notTo, AV.killAll]
  have h2 : ∀ e ∈ tm, (e.1, e.2.killAll r) = e := by
    intro e he
    have hx : e.2.killAll r = e.2 := by
      rcases h e he with h1 | h1 | ⟨j, h1, h2, h3⟩
      · rw [h1]; rfl
      · exact key _ (List.all_eq_true.1 hb e h1)
      · subst h3
        have h4 := List.all_eq_true.1 hv j (List.mem_range.2 h1)
        rw [Bool.or_eq_true] at h4
        rcases h4 with h4 | h4
        · exact key _ h4
        · rw [hbad j (by simpa using h4)] at h2; cases h2
    rw [hx]
  calc (tm.map fun e => (e.1, e.2.killAll r)) = tm.map id := List.map_congr_left h2
    _ = tm := List.map_id tm
theorem famL_lies (D:Nat→Bool):∀ (vs:List (Nat × AV)) (i:Nat) (e:Nat × AV),e ∈ famL D i vs→e.2 = .u ∨ ∃ j,j < vs.length∧D (i + j)=true∧e=vsAt vs j
 | [],i,e,h=>by cases h
 | v :: vs,i,e,h=>by
  simp only [famL,List.mem_cons] at h
  rcases h with h | h
  ·cases hD:D i with
   | true =>
    right
    refine ⟨0,by simp,by simpa using hD,?_⟩
    rw [h,hD];rfl
   | false=>left;rw [h,hD];rfl
  ·rcases famL_lies D vs (i + 1) e h with h1 | ⟨j,h1,h2,h3⟩
   ·exact .inl h1
   ·refine .inr ⟨j + 1,by simp only [List.length_cons];omega,by rw [show i + (j + 1)=i + 1 + j by omega];exact h2,?_⟩
    rw [h3];rfl
def owedY (E:Env) (C:Ctx) (σ:St) (l:List Oper) (vs:List (Nat × AV)) (xs:List (List (Nat × List T))) (td:List (List Nat)) (i:Nat) (o:Oper):Prop :=
 ∀ (τ:St) (D:Nat→Bool),τ.bx=famX D 0 xs σ.bx→(∀ n,n ∉ vs.map Prod.fst→look τ.tm n=look σ.tm n)→(∀ j ∈ td.getD i [],look τ.tm (vsAt vs j).1=some (vsAt vs j).2)→look τ.tm (vsAt vs i).1=some .u →
  D i=false→(∀ j ∈ td.getD i [],D j=true)→(∀ j,i ∈ td.getD j []→j < vs.length→D j=false)→(∀ e ∈ τ.tm,Lies D σ.tm vs e)→∀ K:St→Prop,(∀ σ',σ'=⟨put τ.tm (vsAt vs i).1 (vsAt vs i).2,famX (upd1 D i) 0 xs σ.bx⟩→K σ')→τ.wps E C.N l [o] K
theorem SWp.drawY {id:Nat} {ops:Array Oper} {l:List Oper} (hl:ops.toList=l) (hp:pinB C.pin l=true) (vs:List (Nat × AV)) (xs:List (List (Nat × List T))) (td:List (List Nat)) (hxl:xs.length=vs.length) (hm:vs.length ≤ l.length) (hdup:decide (vs.map Prod.fst).Nodup=true) (hfresh:∀ n ∈ vs.map Prod.fst,look σ.tm n=none) (hord:ordB 0 l=true) (hlast:lastT td vs.length l.length=true) (htd:tdB td 0 l=true)
  (hstep:allIdx (owedY E C σ l vs xs td) 0 (l.take vs.length))
  (hend:∀ K:St→Prop,(∀ σ,S .normal σ→K σ)→(⟨σ.tm ++ vs,famX (fun _=>true) 0 xs σ.bx⟩:St).wps E C.N l (l.drop vs.length) K):SWp E C (.region id ops true) S σ:=fun a w H=>by
 subst hl
 have hnd:(vs.map Prod.fst).Nodup:=of_decide_eq_true hdup
 have hdis:∀ e ∈ vs,e.1 ∉ σ.tm.map Prod.fst:=by
  intro e he hm
  have h1:=hfresh e.1 (List.mem_map.2 ⟨e,he,rfl⟩)
  obtain ⟨f,hf,hfe⟩:=List.mem_map.1 hm
  have:∀ (l:List (Nat × AV)) (n:Nat),n ∈ l.map Prod.fst→look l n ≠ none:=by
   intro l
   induction l with
   | nil=>intro n h;simp at h
   | cons x l ih =>
    intro n h
    obtain ⟨k,y⟩:=x
    simp only [look]
    by_cases e:k=n
    ·simp [e]
    ·rw [if_neg e]
     simp only [List.map_cons,List.mem_cons] at h
     exact ih n (h.resolve_left fun h=>e h.symm)
  exact this σ.tm e.1 hm h1
 have hordI:∀ (i:Nat) (o:Oper),ops[i]? = some o→∀ e ∈ o.after.toList,Region.binds .any e=true→e.on < i:=by
  intro i o ho
  have:=qF ops.toList 0 i o hord (by rw [Array.getElem?_toList];exact ho)
  simpa using this
 have key:∀ D:Nat→Bool,(∀ (j:Nat) (o':Oper),ops[j]? = some o'→D j=true→gG o' D)→∀ (i:Nat) (o:Oper),ops[i]? = some o→gG o D→∀ j ∈ td.getD i [],j < i∧D j=true:=by
  intro D hcl i
  induction i using Nat.strongRecOn with
  | _ i ih =>
   intro o ho hdep j hj
   have h1:=tdB_get ops.toList 0 i o htd (by rw [Array.getElem?_toList];exact ho)
   rw [Nat.zero_add] at h1
   obtain ⟨e,he,hb,h2⟩:=h1 j hj
   have hei:=hordI i o ho e he hb
   rcases h2 with h2 | ⟨_,h2⟩
   ·subst h2;exact ⟨hei,hdep e he hb⟩
   ·have hlt:e.on < ops.size:=by have:=(Array.getElem?_eq_some_iff.1 ho).1;omega
    have hoe:ops[e.on]? = some ops[e.on]:=Array.getElem?_eq_getElem hlt
    obtain ⟨h3,h4⟩:=ih e.on hei _ hoe (hcl e.on _ hoe (hdep e he hb)) j h2
    exact ⟨by omega,h4⟩
 refine wp_region_any E.mixed ?_
 refine oI (C:=C) (E:=E) hp vs.length (by simpa using hm) (fun D=>⟨σ.tm ++ famL D 0 vs,famX D 0 xs σ.bx⟩) hordI (fun i o hi ho=>?_) (fun i o hi ho D hD hcl hdep=>?_) (fun D hD a w H=>?_) ops.size _ (fun _=>false) a _ (by simp) (fun i d hi=>by simp [Array.getD,hi]) (fun _ _=>rfl) (fun _ _ _ h=>by cases h) ?_ ?_
 ·intro D hcl hdep j hj
  have hlt:i < ops.size:=(Array.getElem?_eq_some_iff.1 ho).1
  exact (key D hcl i o ho hdep j (qN hlast hi (by simpa using hlt) hj)).2
 ·have hget:(ops.toList.take vs.length)[i]? = some o:=by
   rw [List.getElem?_take,if_pos hi,Array.getElem?_toList];exact ho
  have hob:=mJ _ 0 i o hstep hget
  rw [Nat.zero_add] at hob
  have hvi:vs[i]? = some (vsAt vs i):=by
   unfold vsAt
   rw [List.getD_eq_getElem?_getD,List.getElem?_eq_getElem hi];rfl
  have hlk:∀ j,j < vs.length→look (σ.tm ++ famL D 0 vs) (vsAt vs j).1=some (if D j=true then (vsAt vs j).2 else .u):=by
   intro j hj
   have hvj:vs[j]? = some (vsAt vs j):=by
    unfold vsAt
    rw [List.getD_eq_getElem?_getD,List.getElem?_eq_getElem hj];rfl
   rw [mP,hfresh _ (List.mem_map.2 ⟨_,List.mem_of_getElem? hvj,rfl⟩)]
   have:=famL_get D 0 vs j _ hnd hvj
   rw [Nat.zero_add] at this
   exact this
  refine hob ⟨σ.tm ++ famL D 0 vs,famX D 0 xs σ.bx⟩ D rfl (fun n hn=>?_) ?_ ?_ hD (fun j hj=>(key D hcl i o ho hdep j hj).2) ?_ (fun e he=>?_) _ (fun σ' hσ'=>?_)
  ·show look (σ.tm ++ famL D 0 vs) n=_
   rw [mP]
   cases h:look σ.tm n with
   | some x=>rfl
   | none=>exact look_none (by rw [famL_keys];exact hn)
  ·-- what it leans on is done
   intro j hj
   obtain ⟨h1,h2⟩:=key D hcl i o ho hdep j hj
   have:=hlk j (by omega)
   rw [h2,if_pos rfl] at this
   exact this
  ·have:=hlk i hi
   rw [hD] at this
   simpa using this
  ·intro j hj hjl
   cases hDj:D j with
   | false=>rfl
   | true =>
    exfalso
    have hlt:j < ops.size:=by simp only [Array.length_toList] at hm;omega
    have hoj:ops[j]? = some ops[j]:=Array.getElem?_eq_getElem hlt
    have:=(key D hcl j _ hoj (hcl j _ hoj hDj) i hj).2
    rw [hD] at this;cases this
  ·rcases List.mem_append.1 he with he | he
   ·exact .inr (.inl he)
   ·rcases famL_lies D vs 0 e he with h1 | ⟨j,h1,h2,h3⟩
    ·exact .inl h1
    ·exact .inr (.inr ⟨j,h1,by simpa using h2,h3⟩)
  ·subst hσ'
   show (⟨_,_⟩:St)=⟨_,_⟩
   congr 1
   have hmem:vsAt vs i ∈ vs:=List.mem_of_getElem? hvi
   rw [put_mem _ _ _ _ (hdis _ hmem)]
   have:=put_famL D 0 vs i _ hnd hvi
   rw [Nat.zero_add] at this
   rw [this]
 ·have hall:famL D 0 vs=vs:=famL_all D 0 vs (fun j _ hj=>hD j (by omega))
  have h2:=hend (fun σ'=>S .normal σ') (fun _ h=>h)
  have hallX:famX D 0 xs σ.bx=famX (fun _=>true) 0 xs σ.bx:=famX_congr 0 xs _ fun j _ h=>hD j (by omega)
  simp only [hall,hallX] at H
  have hpd:pinB C.pin (ops.toList.drop vs.length)=true:=List.all_eq_true.2 fun o ho=>List.all_eq_true.1 hp o (List.mem_of_mem_drop ho)
  exact jZ (E:=E) _ _ a w _ hpd h2 H (fun σ' a' w' hS H'=>⟨σ',hS,H'⟩)
 ·exact Nat.le_trans List.countP_le_length (by simp)
 ·have:=H.1.pad (vs.map Prod.fst)
  rw [famL_none,famX_none]
  rw [List.map_map] at this
  exact ⟨this.drew _,H.2⟩
end Go.OM
namespace Go.OM
open Go.Sort
theorem er_ints:∀ {es:List TA} {l:List Int},TA.erL es=(l.map fun n=>T.v (.int .i64 n))→es=l.map fun n=>TA.v (.int .i64 n)
 | [],[],_=>rfl
 | [],x :: xs,h=>by simp [TA.erL] at h
 | a :: as,[],h=>by simp [TA.erL] at h
 | a :: as,x :: xs,h=>by
  simp only [TA.erL,List.map_cons,List.cons.injEq] at h ⊢
  refine ⟨?_,er_ints h.2⟩
  have h1:=h.1
  cases a<;>simp only [TA.er,T.v.injEq,reduceCtorEq] at h1
  rw [h1]
theorem vals_ints (l:List Int):TA.vals ((l.map fun n=>TA.v (.int .i64 n)).flatMap TA.cells)=l.map (Value.int .i64):=by
 induction l with
 | nil=>rfl
 | cons x l ih =>
  simp only [List.map_cons,List.flatMap_cons,TA.cells,TA.vals,List.map_append,List.map_nil,TA.val1,List.singleton_append]
  simp only [TA.vals] at ih
  rw [ih]
theorem cntL_ints (q:Nat) (l:List Int):TA.cntL q (l.map fun n=>TA.v (.int .i64 n))=0:=by
 induction l with
 | nil=>rfl
 | cons x l ih=>simp only [List.map_cons,TA.cntL,TA.cnt,ih]
theorem holdsL_ints (Z:Nat→Prop) (h:Array Obj) (l:List Int):TA.HoldsL Z h (l.map fun n=>TA.v (.int .i64 n)):=by
 induction l with
 | nil=>simp [TA.HoldsL]
 | cons x l ih=>simp only [List.map_cons,TA.HoldsL,TA.Holds];exact ⟨trivial,ih⟩
theorem ok_sorts {E : Env} {f : FuncId} (hne : ∀ (blk off cap : Nat) (zs : List Int) (w : World), Holds (Value.int .i64) w blk off zs.toArray → blk < w.heap.size → zs.length < 4611686018427387904 →
      Calls E.P f #[.slice (some ⟨blk, off, none⟩) zs.length cap] w fun e w' => e = .returned (.tuple #[]) ∧ ∃ n os, w' = grow (putRow (Value.int .i64) (Sort.ahead w n) blk off (zs.mergeSort fun x y => decide (x ≤ y)).toArray) os)
    (hnil : ∀ (p : Option Addr) (cap : Nat) (w : World), Calls E.P f #[.slice p 0 cap] w fun e w' => e = .returned (.tuple #[]) ∧ w' = w)
    (l : List Int) (hl : l.length < 4611686018427387904) : OkIO E f [.val (.sl true 1 (l.map fun n => T.v (.int .i64 n)))] [] [] [(0, .sl true 1 ((l.mergeSort fun x y => decide (x ≤ y)).map fun n => T.v (.int .i64 n)))] := by
  intro w Z as has hA hG
  obtain ⟨a, rfl⟩ : ∃ a, as = [a] := by
    cases as with
    | nil => simp at has
    | cons a t =>
      cases t with
      | nil => exact ⟨a, rfl⟩
      | cons b t => simp at has
  simp only [List.map_cons, List.map_nil, List.cons.injEq, and_true] at has
  have hHa := hA.holds a (by simp)
  cases a with
  | ptr b off cs => simp only [ArgA.er, reduceCtorEq] at has
  | val x =>
    simp only [ArgA.er, Arg.val.injEq] at has
    cases x with
    | v x => simp only [TA.er, reduceCtorEq] at has
    | agg x => simp only [TA.er, reduceCtorEq] at has
    | dead x => simp only [TA.er, reduceCtorEq] at has
    | clo f cs => simp only [TA.er, reduceCtorEq] at has
    | pt b off cs => simp only [TA.er, reduceCtorEq] at has
    | nl o s A =>
      simp only [TA.er, T.sl.injEq] at has
      obtain ⟨rfl, rfl, h3⟩ := has
      have hl0 : l = [] := by cases l <;> simp_all
      subst hl0
      refine (hnil A 0 w).mono fun e w' ⟨he, hw⟩ => ?_
      subst hw
      refine ⟨Z, [], [], [TA.nl true 1 A], he, rfl, rfl, by simp [TA.erL, TA.er], rfl, ?_⟩
      exact {
        holds := ⟨hHa, trivial⟩
        outs := trivial
        uniq := fun q => by simp [TA.cntL, TA.cnt, pcL, ArgA.pc]
        own := fun q hq => by simp [TA.cntL, TA.cnt] at hq
        zle := fun _ h => h
        zext := fun _ h => .inl h
        zlt := hA.zlt
        os := rfl
        tape := rfl
        output := rfl
        grown := Nat.le_refl _
        kept := fun q hq _ => rfl
        part := fun x hx => by simp [ptrs] at hx }
    | sl o s b off cap es =>
      simp only [TA.er, T.sl.injEq] at has
      obtain ⟨rfl, rfl, h3⟩ := has
      have hes := er_ints h3
      subst hes
      obtain ⟨⟨cs, ety, fr, m1, m2, m3⟩, hc, _, _, _⟩ := hHa
      obtain ⟨m4, rfl⟩ := m2 rfl
      rw [vals_ints] at m3
      rw [List.length_map] at hc
      have hb : b < w.heap.size := (Array.getElem?_eq_some_iff.1 m1).1
      have hHold : Sort.Holds (Value.int .i64) w b off l.toArray := by
        intro j hj
        have hj' : j < l.length := by simpa using hj
        have := m3 j (.int .i64 l[j]) (by rw [List.getElem?_map, List.getElem?_eq_getElem hj']; rfl)
        refine ⟨?_, by simp [World.frozen?, m1]⟩
        simp only [World.cell?, m1]
        simp [this, hj']
      have hval : (ArgA.val (TA.sl true 1 b off cap (l.map fun n => TA.v (.int .i64 n)))).value = .slice (some ⟨b, off, none⟩) l.length cap := by
        simp [ArgA.value, TA.val, TA.val1]
      show Calls E.P f #[(ArgA.val (TA.sl true 1 b off cap (l.map fun n => TA.v (.int .i64 n)))).value] w _
      rw [hval]
      refine (hne b off cap l w hHold hb hl).mono fun e w' ⟨he, n, os, hw⟩ => ?_
      generalize hso : (l.mergeSort fun x y => decide (x ≤ y)) = so at *
      have hsl : so.length = l.length := by rw [← hso]; exact List.length_mergeSort _
      have hheap : w'.heap[b]? = some (.cells (putCells (Value.int .i64) off so.toArray cs) ety (0, 0)) := by
        rw [hw, heap_grow_old _ _ (by simpa [putRow, mapBlock, Sort.ahead] using hb)]
        simp [putRow, mapBlock, Sort.ahead, Array.getElem?_modify, m1, onCells]
      have hgrown : w.heap.size ≤ w'.heap.size := by
        rw [hw]
        show w.heap.size ≤ ((putRow (Value.int .i64) (Sort.ahead w n) b off so.toArray).heap ++ os).size
        simp [putRow, mapBlock, Sort.ahead]
      refine ⟨Z, [], [], [TA.sl true 1 b off cap (so.map fun n => TA.v (.int .i64 n))], he, rfl, rfl, ?_, ?_, ?_⟩
      · simp only [TA.erL, TA.er, TA.erL_map, List.map_map, List.map_cons, List.map_nil]
        rfl
      · have hv2 : ([ArgA.val (TA.sl true 1 b off cap (l.map fun n => TA.v (.int .i64 n)))].map ArgA.value)[0]? = some (Value.slice (some ⟨b, off, none⟩) l.length cap) := by
          simp only [List.map_cons, List.map_nil, List.getElem?_cons_zero, hval]
        simp only [List.map_cons, List.map_nil, List.getElem?_cons_zero, Option.getD_some, hval]
        simp [TA.val, TA.val1, hsl]
      · have hinn : ∀ q, innL q [ArgA.val (TA.sl true 1 b off cap (l.map fun n => TA.v (.int .i64 n)))] = if b = q then 1 else 0 := by
          intro q
          simp only [innL, ArgA.inn, TA.cnt, cntL_ints]
          split <;> simp_all
        have hpc : ∀ q, pcL q [ArgA.val (TA.sl true 1 b off cap (l.map fun n => TA.v (.int .i64 n)))] = 0 := by
          intro q; simp [pcL, ArgA.pc]
        have hcnt : ∀ q, TA.cntL q ([] ++ [TA.sl true 1 b off cap (so.map fun n => TA.v (.int .i64 n))]) = if b = q then 1 else 0 := by
          intro q
          simp only [List.nil_append, TA.cntL, TA.cnt, cntL_ints]
          split <;> simp_all
        exact {
          holds := by
            simp only [List.nil_append, TA.HoldsL, TA.Holds, and_true]
            refine ⟨⟨_, ety, (0, 0), hheap, fun _ => ⟨by simpa [putCells] using m4, rfl⟩, fun j u hu => ?_⟩, by rw [List.length_map, hsl]; exact hc, by simp, holdsL_ints _ _ _, ?_⟩
            · rw [vals_ints] at hu
              have hju : j < so.length := by
                have := (List.getElem?_eq_some_iff.1 hu).1
                simpa using this
              have hlt : off + j < cs.size := by omega
              rw [List.getElem?_map, List.getElem?_eq_getElem hju] at hu
              simp only [Option.map_some, Option.some.injEq] at hu
              subst hu
              simp [putCells, hlt, hju]
            · intro e he
              obtain ⟨x, _, rfl⟩ := List.mem_map.1 he
              rfl
          outs := by simp [ptrs, pF]
          uniq := fun q => by
            rw [hcnt, hpc]
            simp only [List.flatten_nil, TA.cntL]
            split <;> omega
          own := fun q hq => by
            rw [hcnt] at hq
            simp only [List.flatten_nil, TA.cntL] at hq
            have h1 : 0 < innL q [ArgA.val (TA.sl true 1 b off cap (l.map fun n => TA.v (.int .i64 n)))] := by
              rw [hinn]; omega
            exact ⟨.inl h1, hA.notZ q (by omega)⟩
          zle := fun _ h => h
          zext := fun _ h => .inl h
          zlt := fun q hq => Nat.lt_of_lt_of_le (hA.zlt q hq) hgrown
          os := by rw [hw]; rfl
          tape := by rw [hw]; rfl
          output := by rw [hw]; rfl
          grown := hgrown
          kept := fun q hq h0 => by
            rw [hinn] at h0
            have hne' : ¬ b = q := by
              intro e
              rw [if_pos e] at h0
              omega
            rw [hw, heap_grow_old _ _ (by simpa [putRow, mapBlock, Sort.ahead] using hq)]
            simp [putRow, mapBlock, Sort.ahead, Array.getElem?_modify, hne']
          part := fun x hx => by simp [ptrs] at hx }
end Go.OM
