import Derived.Test.YtgcgpnhokjhghabGreatDoorOmB
import Derived.Sort.OwnSortedInts
set_option linter.unusedVariables false
set_option linter.unusedSimpArgs false
set_option linter.unusedVariables false
set_option linter.unusedSimpArgs false
namespace Go.OM
variable {C:Ctx} {E:Env} {σ σ':St} {Q:Exit→Act→World→Prop} {S:Exit→St→Prop} {a:Act} {w:World} {P:Program}
def aQm (E:Env) (C:Ctx) (σ:St) (l:List Oper) (ks:List Nat) (ds:List (List (Nat × AV))) (xs:List (List (Nat × List T))) (td:List (List Nat)) (i:Nat) (o:Oper):Prop :=
 ∀ D:Nat→Bool,D i=false→(∀ j ∈ td.getD i [],D j=true)→(∀ j,i ∈ td.getD j []→j < ds.length→D j=false)→(∀ j l,D j=true→j < ds.length→l ∈ td.getD j []→D l=true) →
  ∀ K:St→Prop,(∀ σ',σ'=⟨nP (bY D i) 0 ds (σ.tm ++ ks.map fun n=>(n,.u)),aQ (bY D i) 0 xs σ.bx⟩→K σ')→(⟨nP D 0 ds (σ.tm ++ ks.map fun n=>(n,.u)),aQ D 0 xs σ.bx⟩:St).wps E C.N l [o] K
theorem O.drawX2 {id:Nat} {ops:Array Oper} {l:List Oper} (hl:ops.toList=l) (hp:oX C.pin l=true) (ks:List Nat) (ds:List (List (Nat × AV))) (xs:List (List (Nat × List T))) (td:List (List Nat)) (hxl:xs.length=ds.length) (hm:ds.length ≤ l.length) (hord:aPt 0 l=true) (hlast:aJe td ds.length l.length=true) (htd:tdB td 0 l=true)
  (hstep:aC4 (aQm E C σ l ks ds xs td) 0 (l.take ds.length))
  (hend:∀ K:St→Prop,(∀ σ,S .normal σ→K σ)→(⟨nP (fun _=>true) 0 ds (σ.tm ++ ks.map fun n=>(n,.u)),aQ (fun _=>true) 0 xs σ.bx⟩:St).wps E C.N l (l.drop ds.length) K):O E C (.region id ops true) S σ:=fun a w H=>by
 subst hl;have hordI:∀ (i:Nat) (o:Oper),ops[i]? = some o→∀ e ∈ o.after.toList,Region.binds .any e=true→e.on < i:=by
  intro i o ho;have:=xM ops.toList 0 i o hord (by rw [Array.getElem?_toList];exact ho)
  simpa using this
 have key:∀ D:Nat→Bool,(∀ (j:Nat) (o':Oper),ops[j]? = some o'→D j=true→lN o' D)→∀ (i:Nat) (o:Oper),ops[i]? = some o→lN o D→∀ j ∈ td.getD i [],j < i∧D j=true:=by
  intro D hcl i;induction i using Nat.strongRecOn with
  | _ i ih =>
   intro o ho hdep j hj;have h1:=aAw ops.toList 0 i o htd (by rw [Array.getElem?_toList];exact ho)
   rw [Nat.zero_add] at h1;obtain ⟨e,he,hb,h2⟩:=h1 j hj;have hei:=hordI i o ho e he hb;rcases h2 with h2 | ⟨_,h2⟩
   ·subst h2;exact ⟨hei,hdep e he hb⟩
   have hlt:e.on < ops.size:=by have:=(Array.getElem?_eq_some_iff.1 ho).1;omega
   have hoe:ops[e.on]? = some ops[e.on]:=Array.getElem?_eq_getElem hlt;obtain ⟨h3,h4⟩:=ih e.on hei _ hoe (hcl e.on _ hoe (hdep e he hb)) j h2;exact ⟨by omega,h4⟩
 refine wp_region_any E.mixed ?_;refine aAu (C:=C) (E:=E) hp ds.length (by simpa using hm) (fun D=>⟨nP D 0 ds (σ.tm ++ ks.map fun n=>(n,.u)),aQ D 0 xs σ.bx⟩) hordI (fun i o hi ho=>?_) (fun i o hi ho D hD hcl hdep=>?_) (fun D hD a w H=>?_) ops.size _ (fun _=>false) a _ (by simp) (fun i d hi=>by simp [Array.getD,hi]) (fun _ _=>rfl) (fun _ _ _ h=>by cases h) ?_ ?_
 ·intro D hcl hdep j hj;have hlt:i < ops.size:=(Array.getElem?_eq_some_iff.1 ho).1;exact (key D hcl i o ho hdep j (wH hlast hi (by simpa using hlt) hj)).2
 ·have hget:(ops.toList.take ds.length)[i]? = some o:=by
   rw [List.getElem?_take,if_pos hi,Array.getElem?_toList];exact ho
  have hob:=rF _ 0 i o hstep hget;rw [Nat.zero_add] at hob;refine hob D hD (fun j hj=>(key D hcl i o ho hdep j hj).2) (fun j hj hjl=>?_) (fun j l2 hDj hjl hl2=>by
   have hlt:j < ops.size:=by simp only [Array.length_toList] at hm;omega
   have hoj:ops[j]? = some ops[j]:=Array.getElem?_eq_getElem hlt;exact (key D hcl j _ hoj (hcl j _ hoj hDj) l2 hl2).2) _ (fun σ' h=>h)
  cases hDj:D j with
  | false=>rfl
  | true =>
   exfalso;have hlt:j < ops.size:=by simp only [Array.length_toList] at hm;omega
   have hoj:ops[j]? = some ops[j]:=Array.getElem?_eq_getElem hlt;have:=(key D hcl j _ hoj (hcl j _ hoj hDj) i hj).2;rw [hD] at this;cases this
 ·have hall:nP D 0 ds (σ.tm ++ ks.map fun n=>(n,.u))=nP (fun _=>true) 0 ds (σ.tm ++ ks.map fun n=>(n,.u)):=xU 0 ds _ fun j _ h=>hD j (by omega)
  have h2:=hend (fun σ'=>S .normal σ') (fun _ h=>h);have hallX:aQ D 0 xs σ.bx=aQ (fun _=>true) 0 xs σ.bx:=uG 0 xs _ fun j _ h=>hD j (by omega)
  simp only [hall,hallX] at H;have hpd:oX C.pin (ops.toList.drop ds.length)=true:=List.all_eq_true.2 fun o ho=>List.all_eq_true.1 hp o (List.mem_of_mem_drop ho);exact sZ (E:=E) _ _ a w _ hpd h2 H (fun σ' a' w' hS H'=>⟨σ',hS,H'⟩)
 ·exact Nat.le_trans List.countP_le_length (by simp)
 have:=H.1.pad ks;simp only [aE2,wR];exact ⟨this.drew _,H.2⟩
end Go.OM
namespace Go.OM
variable {C:Ctx} {Z Z':Nat→Prop} {s:StA} {a:Act} {w w':World} {E:Env} {o:Oper} {σ σ':St} {S:Exit→St→Prop} {c d:Code}
def adr (b off:Nat):Value:=.pointer (some ⟨b,off,none⟩)
theorem SRel.act {a':Act} (H:SRel C Z s a w) (hd:a'.defers=[]) (hs:a'.tmps.size=C.N) (ht:∀ n x,look s.tm n=some x→a'.tmps.getD n undef=a.tmps.getD n undef):SRel C Z s a' w :=
  { defers:=hd
    size:=hs
    tm:=fun n x hx=>by rw [ht n x hx];exact H.tm n x hx
    bx:=H.bx
    uniq:=H.uniq
    notZ:=H.notZ
    lt:=H.lt
    zlt:=H.zlt
    own:=H.own
    z0:=H.z0
    zext:=H.zext
    os:=H.os
    tape:=H.tape
    output:=H.output
    grown:=H.grown
    kept:=H.kept
    part:=H.part
    pbx:=H.pbx
    pbo:=H.pbo
    pbi:=H.pbi
    hand:=H.hand
    pbh:=H.pbh
    pk:=H.pk }
theorem SOk.act {a':Act} (H:SOk C σ a w) (hd:a'.defers=[]) (hs:a'.tmps.size=C.N) (ht:∀ n x,look σ.tm n=some x→a'.tmps.getD n undef=a.tmps.getD n undef):SOk C σ a' w:=by
 obtain ⟨s,Z,h1,h2,h3⟩:=H;refine ⟨s,Z,h1,h2,h3.act hd hs fun n x hx=>ht n x.er ?_⟩;subst h1;rw [nF,hx];rfl
theorem aGd (a:Act) (n:Nat) (hn:n < a.tmps.size):a.put (some n) (a.tmps.getD n undef)=a:=by
 cases a with
 | mk tmps defers =>
  simp only [Act.put]
  congr 1
  apply Array.ext_getElem?;intro i;rw [Array.getElem?_setIfInBounds];split
  ·rename_i h;subst h;simp only at hn;simp [hn]
  rfl
theorem aPq (a:Act) (j:Nat) (x v:Value) (hj:j < a.tmps.size):((a.put (some j) x).put none v).put (some j) (a.tmps.getD j undef)=a:=by
 have h5:=aGd a j hj;have h6:((a.put (some j) x).put none v).put (some j) (a.tmps.getD j undef)=a.put (some j) (a.tmps.getD j undef):=by
  simp only [Act.put]
  congr 1
  apply Array.ext_getElem?;intro i;simp only [Array.getElem?_setIfInBounds,Array.size_setIfInBounds];split<;>rfl
 rw [h6,h5]
theorem SRel.ref_known {k b off n:Nat} (H:SRel C Z s a w) (hk:(k,b,off,n) ∈ C.PK):ValOk s Z w.heap (.ref (.box k) 0 []) (adr b off):=by
 obtain ⟨_,cs,h1,h2⟩:=H.pk _ hk;exact ⟨some (b,off),cs,(b,off),by simp only at h1;simp [StA.rootCells,h1],by simp [TA.addrP],rfl⟩
theorem SOk.unraw {n k b off len:Nat} (H:SOk C σ a w) (hk:(k,b,off,len) ∈ C.PK) (hx:σ.get n = .t (.v (adr b off))) (h:σ.put? C.N (some n) (.ref (.box k) 0 [])=some σ'):SOk C σ' a w:=by
 obtain ⟨s,Z,h1,h2,h3⟩:=H;have hn:n < C.N:=by
  unfold St.put? at h;simp only at h;split at h
  ·rename_i h9;exact h9.1
  cases h
 have hv:a.tmps.getD n undef=adr b off:=by
  obtain ⟨xA,e1,e2⟩:=opA h3 (.tmp n);subst h1;simp only [St.op] at e1;rw [hx] at e1;obtain ⟨zA,rfl,hz⟩:=aE3 e1;cases zA<;>simp only [TA.er,reduceCtorEq,T.v.injEq] at hz
  subst hz;exact e2.1
 have:=SOk.put0 (dst:=some n) h3 h1 h (xA:=.ref (.box k) 0 []) rfl (h3.ref_known hk) (fun _=>rfl);rw [← hv,aGd a n (by rw [h3.size];exact hn)] at this
 exact this
theorem SOk.raw {n k b off len:Nat} (H:SOk C σ a w) (hk:(k,b,off,len) ∈ C.PK) (hx:σ.get n = .ref (.box k) 0 []) (h:σ.put? C.N (some n) (.t (.v (adr b off)))=some σ'):SOk C σ' a w:=by
 obtain ⟨s,Z,h1,h2,h3⟩:=H;have hn:n < C.N:=by
  unfold St.put? at h;simp only at h;split at h
  ·rename_i h9;exact h9.1
  cases h
 have hv:a.tmps.getD n undef=adr b off:=by
  obtain ⟨xA,e1,e2⟩:=opA h3 (.tmp n);subst h1;simp only [St.op] at e1;rw [hx] at e1;rw [uH e1] at e2;obtain ⟨base,cs,ad,g1,g2,g3⟩:=e2;obtain ⟨base',cs',ad',g1',g2',g3'⟩:=h3.ref_known hk;rw [g1] at g1';simp only [Option.some.injEq,Prod.mk.injEq] at g1';obtain ⟨rfl,rfl⟩:=g1';rw [g2] at g2';injection g2' with g2'
  subst g2';have hev:a.eval (.tmp n)=a.tmps.getD n undef:=rfl;rw [← hev,g3,g3']
 have:=SOk.put0 (dst:=some n) (v:=adr b off) h3 h1 h (xA:=.t (.v (adr b off))) rfl ⟨rfl,by simp [TA.Holds,adr,TA.OneCell]⟩ (fun _=>rfl)
 rw [← hv,aGd a n (by rw [h3.size];exact hn)] at this
 exact this
def OkH (E:Env) (f:FuncId) (k:Nat) (hs:List Value) (args:List Arg) (res:List T) (outs:List (List T)):Prop :=
 ∀ (w:World) (Z:Nat→Prop) (as:List ArgA),as.map ArgA.er=args→(as.map ArgA.value).drop k=hs→ArgsOk Z w.heap as→E.GOk Z w.heap →
  Calls E.P f ((as.map ArgA.value).take k).toArray w fun e w'=>∃ Z' rs ls,e = .returned (aKh rs)∧TA.erL rs=res∧ls.map TA.erL=outs∧Back w Z as Z' rs ls w'
theorem aA4 {f:Nat→AV}:∀ (ks:List Nat) (n:Nat) (x:AV),look (ks.map fun n=>(n,f n)) n=some x→n ∈ ks
 | [],n,x,h=>by simp [look] at h
 | k :: ks,n,x,h=>by
  simp only [List.map_cons,look] at h;by_cases e:k=n
  ·subst e;exact List.mem_cons_self ..
  rw [if_neg e] at h;exact List.mem_cons_of_mem _ (aA4 ks n x h)
theorem jM {f:FuncId} {fn:Func} {c:Code} {vis:List Arg} {hc:List T} {res:List T} {outs:List (List T)} {k b off n:Nat} (ks kb:List Nat) (hf:E.P.funcs[f]? = some fn) (hb:fn.body=some c) (hN:(vis ++ [Arg.ptr hc]).length ≤ fn.ntmps) (hk:k=vis.length) (hks:ks=List.range k) (hn:n=hc.length)
  (hkeep:(aBn fn.ntmps (vis ++ [Arg.ptr hc])).keepOk fn.ntmps ks kb=true)
  (h:∀ C:Ctx,C.N=fn.ntmps→C.pin=[]→(fn.ntmps + k,b,off,n) ∈ C.PK→(∀ (i:Nat) (cs:List T),(vis ++ [Arg.ptr hc])[i]? = some (.ptr cs)→∃ b off,(fn.ntmps + i,b,off,cs.length) ∈ C.PK)→O E C c (fun e σ=>(e = .ret ∨ e = .normal)∧σ.leave E fn.ntmps fn.results.toList (vis ++ [Arg.ptr hc])=some (res,outs)) ((aBn fn.ntmps (vis ++ [Arg.ptr hc])).keep ks kb)):OkH E f k [adr b off] (vis ++ [Arg.ptr hc]) res outs:=by
 intro w Z as has hhs hA hG;have hlen:as.length=k + 1:=by
  have:=congrArg List.length has;simp only [List.length_map,List.length_append,List.length_cons,List.length_nil] at this;omega
 have hN':as.length ≤ fn.ntmps:=by
  have:=congrArg List.length has;rw [List.length_map] at this;omega
 refine calls_of_wp hf hb ?_;have hent:=aGt (pin:=[]) hA hN';have hsz:((as.map ArgA.value).take k).toArray.size=k:=by simp;omega
 rw [hsz];rw [has] at hent;have hent2:=SOk.keep hent (ks:=ks) (kb:=kb) hkeep;have hent3:SOk (aCe fn.ntmps w Z as []) ((aBn fn.ntmps (vis ++ [Arg.ptr hc])).keep ks kb) { tmps:=((as.map ArgA.value).take k).toArray ++ Array.replicate (fn.ntmps - k) undef,defers:=[] } w:=by
  refine hent2.act rfl (by simp [aCe];omega) fun m x hx=>?_
  have hm:m < k:=by
   have:=aA4 ks m x hx;rw [hks] at this;exact List.mem_range.1 this
  show Array.getD _ m undef=Array.getD _ m undef;rw [Array.getD_eq_getD_getElem?,Array.getD_eq_getD_getElem?,Array.getElem?_append_left (by simp;omega),Array.getElem?_append_left (by simp;omega)]
  simp [hm]
 have hlast:∃ cs,as[k]? = some (.ptr b off cs)∧cs.length=n:=by
  have h1:(as.map ArgA.er)[k]? = some (.ptr hc):=by rw [has,hk,List.getElem?_append_right (Nat.le_refl _)];simp
  rw [List.getElem?_map] at h1;obtain ⟨x,hx,hx2⟩:=Option.map_eq_some_iff.1 h1;cases x with
  | val t=>simp [ArgA.er] at hx2
  | ptr b2 off2 cs =>
   simp only [ArgA.er,Arg.ptr.injEq] at hx2;have h2:((as.map ArgA.value).drop k)[0]? = some (adr b off):=by rw [hhs];rfl
   rw [List.getElem?_drop,Nat.add_zero,List.getElem?_map,hx] at h2;simp only [Option.map_some,ArgA.value,adr,Option.some.injEq,Value.pointer.injEq,Addr.mk.injEq] at h2;obtain ⟨rfl,rfl,_⟩:=h2;refine ⟨cs,hx,?_⟩;rw [hn,← hx2,TA.erL_map,List.length_map]
 obtain ⟨csL,hl1,hl2⟩:=hlast;have hpk:(fn.ntmps + k,b,off,n) ∈ (aCe fn.ntmps w Z as []).PK:=by
  have:=aGv fn.ntmps as 0 k b off csL hl1;rw [hl2,Nat.add_zero] at this;exact this
 have hpin0:PinOk E (aCe fn.ntmps w Z as []) { tmps:=((as.map ArgA.value).take k).toArray ++ Array.replicate (fn.ntmps - k) undef,defers:=[] }:=by
  refine ⟨fun x hx=>(by cases hx),hG,fun b hb=>?_⟩
  show ¬ (0 < sH b.1 as + pcL b.1 as);intro h0;exact hA.notZ b.1 h0 (hG b hb).1
 refine Code.wp_mono (fun e a w' ⟨σ',⟨he,hl⟩,hS⟩=>?_) (h (aCe fn.ntmps w Z as []) rfl rfl hpk (fun i cs hi=>aIo fn.ntmps as i cs (by rw [has];exact hi)) _ w ⟨hent3,hpin0⟩)
 obtain ⟨⟨s,Z',q1,q2,q3⟩,hpin⟩:=hS;subst q1;unfold St.leave at hl;obtain ⟨⟨ys,σ1⟩,hr,hl⟩:=Option.bind_eq_some_iff.1 hl;obtain ⟨z,hz,hl⟩:=Option.map_eq_some_iff.1 hl;simp only [Prod.mk.injEq] at hl;obtain ⟨rfl,rfl⟩:=hl;obtain ⟨s',rsA,p1,p2,r3,r4,r5,p6⟩:=aGb (E:=E) _ _ _ _ q3 hr;subst p2;rw [← has] at hz;obtain ⟨ls,o1,o2,o3,keys,o4,o5,o6⟩:=zX r3 as 0 z (fun x hx=>(r3.pk x hx).2) hz;have hhd:∀ k,TA.cntL k s'.hd=TA.cntL k rsA:=by
  intro k;rw [r4,q2];simp [TA.cntL]
 have htot:∀ k,TA.cntL k rsA + TA.cntL k ls.flatten + pcL k as ≤ s'.cnt k:=by
  intro k;have h1:=aA6 (BoxA.cnt k) s'.bx keys o5;have h2:=o6 k;have h3:=hhd k;simp only [StA.cnt];omega
 have hptr:∀ k,0 < TA.cntL k rsA + TA.cntL k ls.flatten→pcL k as=0:=by
  intro k hk;have h1:=htot k;have h2:=r3.uniq k;omega
 have hB:Back w Z as Z' rsA ls w':={
  holds:=r5
  outs:=o2
  uniq:=fun k=>by have:=htot k;have:=r3.uniq k;omega
  own:=fun k hk=>by
   have h1:=htot k;refine ⟨?_,r3.notZ k (by omega)⟩
   rcases r3.own k (by omega) with h2 | h2
   ·left;have h2:0 < sH k as + pcL k as:=h2;have h3:=hptr k hk;omega
   exact .inr h2
  zle:=r3.z0
  zext:=fun k hk=>by
   rcases r3.zext k hk with h1 | h1 | ⟨h1,h2⟩
   ·exact .inl h1
   ·exact .inr (.inl h1)
   right;right;have h1:0 < sH k as + pcL k as:=h1;have:pcL k as=0:=by
    rcases Nat.eq_zero_or_pos (pcL k as) with h | h
    ·exact h
    exfalso;have h2:∀ x ∈ tD as,x.1 ≠ k:=h2;rw [oE] at h;generalize tD as=qs at h h2;induction qs with
    | nil=>simp at h
    | cons q qs ih =>
     simp only [List.map_cons,List.sum_cons] at h;rw [if_neg (h2 q (by simp))] at h
     exact ih (by omega) (fun x hx=>h2 x (by simp [hx]))
   omega
  zlt:=r3.zlt
  os:=r3.os
  tape:=r3.tape
  output:=r3.output
  grown:=r3.grown
  kept:=fun k hk h0=>r3.kept k hk (by show ¬ (0 < sH k as + pcL k as);omega)
  part:=r3.part }
 have hres:(results fn a.tmps).run E.P w' = .ok (aKh rsA) w':=by
  rw [aB8];have hml:fn.results.mapM (aKi a.tmps)=List.toArray <$> (fn.results.toList.mapM (aKi a.tmps)):=by
   conv=>lhs;rw [show fn.results=fn.results.toList.toArray by simp]
   rw [List.mapM_toArray]
  rw [hml];simp only [Sem.run_bind,Sem.run_map,p6,Result.andThen_ok]
  match rsA with
  | []=>rfl
  | [x]=>rfl
  | x :: y :: l=>simp [aKh]
 have hpost:∃ v,(results fn a.tmps).run E.P w' = .ok v w'∧∃ Z' rs ls,Ending.returned v = .returned (aKh rs)∧TA.erL rs=ys∧ls.map TA.erL=z∧Back w Z as Z' rs ls w':=⟨_,hres,Z',rsA,ls,rfl,p1,o1,hB⟩;rcases he with rfl | rfl
 ·exact ⟨r3.defers,hpost⟩
 exact ⟨r3.defers,hpost⟩
def gE (j:Nat):Operand→Bool
 | .tmp n=>n != j
 | _=>true
theorem aQ4 {j:Nat} {x:Operand} {v:Value} (h:gE j x=true):(a.put (some j) v).eval x=a.eval x:=by
 cases x<;>first | rfl | skip
 rename_i n;simp only [gE,bne_iff_ne,ne_eq] at h;show Array.getD _ n undef=Array.getD _ n undef;simp only [Act.put,Array.getD_eq_getD_getElem?,Array.getElem?_setIfInBounds,if_neg (fun e:j=n=>h e.symm)]
theorem aQc {f:FuncId} {ms:List (Mode × Operand)} {xs:List Operand} {args:List Arg} {res:List T} {outs:List (List T)} {pls:List Pl} {σ1 σ2 σ3:St} {dst:Option Nat} {j k b off n:Nat} (hg:GC E C) (hok:OkH E f ms.length [adr b off] args res outs) (hk:(k,b,off,n) ∈ C.PK)
  (hms:(ms.all (fun m=>m.1.real),ms.map Prod.snd)=(true,xs)) (hx:xs.all (gE j)=true) (hj:σ.put? C.N (some j) (.ref (.box k) 0 [])=some σ1) (hl:σ1.lend C.N (ms ++ [(Mode.ptr n,Operand.tmp j)])=some (args,pls,σ2))
  (hb:St.land C.N dst ((ms ++ [(Mode.ptr n,Operand.tmp j)]).any fun m=>m.1.isBor) pls res outs σ2=some σ3) (he:(dst=some j∧σ'=σ3) ∨ (dst=none∧σ3.put? C.N (some j) .u=some σ')) (H:SOk C σ a w) :
  Calls E.P f (xs.map a.eval).toArray w fun e w'=>∃ v,e = .returned v∧SOk C σ' (a.put dst v) w':=by
 obtain ⟨s,Z,h1,h2,h3⟩:=id H;have hjN:j < C.N:=by
  unfold St.put? at hj;simp only at hj;split at hj
  ·rename_i h9;exact h9.1
  cases hj
 have hjs:j < a.tmps.size:=by rw [h3.size];exact hjN
 have H1:SOk C σ1 (a.put (some j) (adr b off)) w:=SOk.put0 (dst:=some j) h3 h1 hj (xA:=.ref (.box k) 0 []) rfl (h3.ref_known hk) (fun _=>rfl);have hev:(a.put (some j) (adr b off)).eval (.tmp j)=adr b off:=by
  show Array.getD _ j undef=_;simp [Act.put,Array.getD_eq_getD_getElem?,hjs]
 simp only [Prod.mk.injEq] at hms;have hvis:ms.map (evm (a.put (some j) (adr b off)))=xs.map a.eval:=by
  rw [aAj _ ms hms.1,hms.2];exact List.map_congr_left fun x hx2=>aQ4 (List.all_eq_true.1 hx x hx2)
 have hmap:(ms ++ [(Mode.ptr n,Operand.tmp j)]).map (evm (a.put (some j) (adr b off)))=xs.map a.eval ++ [adr b off]:=by
  rw [List.map_append,hvis];simp only [List.map_cons,List.map_nil,evm,hev]
 have hlx:ms.length=(xs.map a.eval).length:=by rw [← hms.2];simp
 have:=aGx (E:=E) (run:=fun vs w Q=>Calls E.P f (vs.take ms.length).toArray w Q) (fun _ _ _ _ h1 h2=>h2.mono h1) (fun _ _ _ h=>hg.now h) (fun w Z as h1 h2 h3 h4=>hok w Z as h1 (by rw [h2,hmap,hlx,List.drop_left]) h3 h4) hl hb H1
 rw [hmap,hlx,List.take_left] at this;refine this.mono fun e w' ⟨v,e1,e2⟩=>⟨v,e1,?_⟩;rcases he with ⟨rfl,rfl⟩ | ⟨rfl,he⟩
 ·have:(a.put (some j) (adr b off)).put (some j) v=a.put (some j) v:=by
   simp only [Act.put]
   congr 1
   apply Array.ext_getElem?;intro i;simp only [Array.getElem?_setIfInBounds,Array.size_setIfInBounds];split<;>rfl
  rw [this] at e2;exact e2
 obtain ⟨s',Z',g1,g2,g3⟩:=e2;have:=SOk.put0 (dst:=some j) (v:=a.tmps.getD j undef) g3 g1 he (xA:=.u) rfl trivial (fun _=>rfl);have e:=aPq a j (adr b off) v hjs;rw [e] at this;exact this
variable {ops os:List Oper} {K:St→Prop}
theorem aT (h:K σ):VL E C ops [] K σ:=fun _ _ a w _ _ H hQ=>hQ σ a w h H
theorem aLh {σ1:St} (hc:∀ a w,SOk2 E C σ a w→SOk2 E C σ1 a w) (h:VL E C ops os K σ1):VL E C ops os K σ:=fun ps Q a w h1 h2 H hQ=>h ps Q a w h1 h2 (hc a w H) hQ
theorem sE (n k:Nat) {b off len:Nat} (hk:(k,b,off,len) ∈ C.PK) (h:∀ K':St→Prop,(∀ σ1,VL E C ops os K σ1→K' σ1)→σ.get n = .t (.v (adr b off))∧zB K' (σ.put? C.N (some n) (.ref (.box k) 0 []))):VL E C ops os K σ:=by
 obtain ⟨h1,h2⟩:=h _ fun _ h=>h;unfold zB at h2;split at h2
 case h_2=>exact h2.elim
 rename_i z hz;exact aLh (fun a w H=>⟨H.1.unraw hk h1 hz,H.2⟩) h2
theorem V_raw (n k:Nat) {b off len:Nat} (hk:(k,b,off,len) ∈ C.PK) (h:∀ K':St→Prop,(∀ σ1,VL E C ops os K σ1→K' σ1)→σ.get n = .ref (.box k) 0 []∧zB K' (σ.put? C.N (some n) (.t (.v (adr b off))))):VL E C ops os K σ:=by
 obtain ⟨h1,h2⟩:=h _ fun _ h=>h;unfold zB at h2;split at h2
 case h_2=>exact h2.elim
 rename_i z hz;exact aLh (fun a w H=>⟨H.1.raw hk h1 hz,H.2⟩) h2
theorem V_op' {K':St→Prop} {o:Oper} (h1:σ.wps E C.N ops [o] K') (h2:∀ σ1,K' σ1→VL E C ops os K σ1):VL E C ops (o :: os) K σ:=by
 intro ps Q a w hps hp H hQ;subst hps;simp only [oX,List.all_cons,Bool.and_eq_true] at hp;have hput:∀ b:Act,b.tmps=a.tmps→∀ v,PinOk E C (b.put o.dst v):=fun b hb v=>PinOk.put (a:=b) ⟨fun x hx=>by rw [hb];exact H.2.1 x hx,H.2.2⟩ hp.1
 have hos:oX C.pin os=true:=hp.2;have hone:oX C.pin [o]=true:=by simp only [oX,List.all_cons,List.all_nil,Bool.and_true];exact hp.1
 have h3:=sZ (E:=E) (ops:=ps) (Q:=fun e a' w'=>e = .normal∧∃ σ',K' σ'∧SOk2 E C σ' a' w') [o] σ a w K' hone h1 H (fun σ' a' w' q1 q2=>⟨rfl,σ',q1,q2⟩);unfold wpList at h3 ⊢;split at h3
 ·rename_i hw;rw [if_pos hw];rcases h3 with h3 | ⟨_,_,_,h3⟩
  ·left;unfold Oper.wp at h3 ⊢;generalize (execOp a.eval o).run E.P w=r at *;cases r with
   | ok n w' =>
    cases n<;>simp only [Oper.upon] at h3 ⊢ <;>
     first
      | (obtain ⟨_,σ',q1,q2⟩:=h3;exact h2 _ q1 ps Q _ _ rfl hos q2 hQ)
      | exact Calls.mono h3 (fun e w'' he=>by
        cases e<;>first
         | (obtain ⟨_,σ',q1,q2⟩:=he;exact h2 _ q1 ps Q _ _ rfl hos q2 hQ)
         | (obtain ⟨_,_,hh,_⟩:=he;cases hh)
         | (obtain ⟨hh,_⟩:=he;cases hh;done))
      | exact Rows.mono h3 (fun _ _ he=>by obtain ⟨_,σ',q1,q2⟩:=he;exact h2 _ q1 ps Q _ _ rfl hos q2 hQ)
      | cases h3.1
   | halt x w'=>cases x<;>simp only [Oper.upon] at h3 ⊢<;>first | exact h3 | cases h3.1
  cases h3.1
 rename_i hw;rw [if_neg hw];obtain ⟨_,σ',q1,q2⟩:=h3;exact h2 _ q1 ps Q _ _ rfl hos q2 hQ
theorem nQ {o:Oper} (h:∀ K':St→Prop,(∀ σ1,VL E C ops os K σ1→K' σ1)→σ.wps E C.N ops [o] K'):VL E C ops (o :: os) K σ :=
 V_op' (h _ fun _ h=>h) fun _ h=>h
theorem xC {o:Oper} (hc:fN o=none) (h:∀ K':St→Prop,(∀ σ1,VL E C ops os K σ1→K' σ1)→σ.stepK E C.N ops o K'):VL E C ops (o :: os) K σ :=
 nQ fun K' hK'=>wC hc fun K2 h2=>h K2 fun σ1 h1=>h2 σ1 (wN (hK' σ1 h1))
theorem aQf {o:Oper} {v:Value} (ho:o.op = .assign (.const v)) (hgd:o.guard=none) (h:∀ K':St→Prop,(∀ σ1,VL E C ops os K σ1→K' σ1)→zB K' (σ.put? C.N o.dst .u)):VL E C ops (o :: os) K σ:=by
 have h1:=h _ fun _ h=>h;unfold zB at h1;split at h1
 case h_2=>exact h1.elim
 rename_i σ1 hσ1;intro ps Q a w hps hp H hQ;subst hps;simp only [oX,List.all_cons,Bool.and_eq_true] at hp;have hput:∀ b:Act,b.tmps=a.tmps→∀ v,PinOk E C (b.put o.dst v):=fun b hb v=>PinOk.put (a:=b) ⟨fun x hx=>by rw [hb];exact H.2.1 x hx,H.2.2⟩ hp.1
 unfold wpList;rw [if_pos (by simp [Region.wanted,hgd])]
 left;obtain ⟨s,Z,q1,q2,q3⟩:=id H.1;refine aDi ?_ (aK6 hput (bP (E:=E) (K:=fun a' w'=>SOk C σ1 a' w') (v:=v) (w':=w) (by have hev:a.eval (.const v)=v:=rfl;simp [execOp,ho,hev]) (SOk.put0 q3 q1 hσ1 (xA:=.u) rfl trivial fun _=>rfl)))
 intro a' w' H';exact h1 ps Q a' w' rfl hp.2 H' hQ
theorem dE {o:Oper} {g:Operand} {xs:List Operand} {f:FuncId} (ms:List (Mode × Operand)) (j k:Nat) {b off n:Nat} {args:List Arg} {res:List T} {outs:List (List T)} (hc:fN o=some (g,xs)) (hgd:o.guard=none) (hms:(ms.all (fun m=>m.1.real),ms.map Prod.snd)=(true,xs)) (hx:xs.all (gE j)=true) (he:dR E.P f) (hk:(k,b,off,n) ∈ C.PK)
  (hd:o.dst=some j ∨ o.dst=none) (hok:OkH E f ms.length [adr b off] args res outs)
  (h:∀ K':St→Prop,(∀ σ1,VL E C ops os K σ1→K' σ1)→σ.fn g=some f∧zB (fun σ1=>vO args (fun pls σ2=>zB (fun σ3=>(o.dst=some j→K' σ3)∧(o.dst=none→zB K' (σ3.put? C.N (some j) .u))) (St.land C.N o.dst ((ms ++ [(Mode.ptr n,Operand.tmp j)]).any fun m=>m.1.isBor) pls res outs σ2)) (σ1.lend C.N (ms ++ [(Mode.ptr n,Operand.tmp j)]))) (σ.put? C.N (some j) (.ref (.box k) 0 []))):VL E C ops (o :: os) K σ:=by
 obtain ⟨hf,h1⟩:=h _ fun _ h=>h;unfold zB at h1;split at h1
 case h_2=>exact h1.elim
 rename_i σ1 hσ1;unfold vO at h1;split at h1
 case h_2=>exact h1.elim
 rename_i z hz;obtain ⟨h2,h3⟩:=h1;split at h3
 case h_2=>exact h3.elim
 rename_i σ3 hσ3;obtain ⟨h4,h5⟩:=h3;have hex:∃ σ4,VL E C ops os K σ4∧((o.dst=some j∧σ4=σ3) ∨ (o.dst=none∧σ3.put? C.N (some j) .u=some σ4)):=by
  rcases hd with hd | hd
  ·exact ⟨σ3,h4 hd,.inl ⟨hd,rfl⟩⟩
  have h6:=h5 hd;split at h6
  case h_2=>exact h6.elim
  rename_i σ4 hσ4;exact ⟨σ4,h6,.inr ⟨hd,hσ4⟩⟩
 obtain ⟨σ4,h6,h7⟩:=hex;intro ps Q a w hps hp H hQ;subst hps;simp only [oX,List.all_cons,Bool.and_eq_true] at hp;have hput:∀ b:Act,b.tmps=a.tmps→∀ v,PinOk E C (b.put o.dst v):=fun b hb v=>PinOk.put (a:=b) ⟨fun x hx=>by rw [hb];exact H.2.1 x hx,H.2.2⟩ hp.1
 unfold wpList;rw [if_pos (by simp [Region.wanted,hgd])]
 left;refine aDi ?_ (aK6 hput (xG (K:=fun a' w'=>SOk C σ4 a' w') hc hf he H.1 (aQc H.2.2 hok hk hms hx hσ1 (by rw [hz,← h2]) hσ3 h7 H.1) fun a' w' H'=>H'))
 intro a' w' H';exact h6 ps Q a' w' rfl hp.2 H' hQ
theorem O.regionV {id:Nat} {ops:Array Oper} (hp:oX C.pin ops.toList=true) (h:VL E C ops.toList ops.toList (S .normal) σ):O E C (.region id ops false) S σ :=
 fun a w H=>wp_region_list (h ops _ a w rfl hp H fun σ' a' w' hS H'=>⟨σ',hS,H'⟩)
theorem VL.mono {K':St→Prop} (h:VL E C ops os K σ) (hK:∀ σ,K σ→K' σ):VL E C ops os K' σ:=fun ps Q a w h1 h2 H hQ=>h ps Q a w h1 h2 H fun σ' a' w' h3 h4=>hQ σ' a' w' (hK _ h3) h4
theorem O.seqRV {id:Nat} {ops:Array Oper} {l:List Oper} (hl:ops.toList=l) (hp:oX C.pin l=true) (h:∀ K:St→Prop,(∀ σ',O E C d S σ'→K σ')→VL E C l l K σ):O E C (.seq (.region id ops false) d) S σ :=
 O.seq (O.regionV (by rw [hl];exact hp) (by rw [hl];exact h _ fun σ' h=>h))
theorem O.regV {id:Nat} {ops:Array Oper} {l:List Oper} (hl:ops.toList=l) (hp:oX C.pin l=true) (h:∀ K:St→Prop,(∀ σ',S .normal σ'→K σ')→VL E C l l K σ):O E C (.region id ops false) S σ :=
 O.regionV (by rw [hl];exact hp) (by rw [hl];exact h _ fun σ' h=>h)
theorem O.seqRCV {β:Type} {id:Nat} {ops:Array Oper} {l:List Oper} (hl:ops.toList=l) (hp:oX C.pin l=true) (ks kb:List Nat) (inv:β→St) (J:β→Prop) (hrest:∀ v,J v→O E C d S (inv v)) (h:∀ K:St→Prop,(∀ σ' v fz,J v→σ'.shed C.N fz ks kb=some (inv v)→K σ')→VL E C l l K σ):O E C (.seq (.region id ops false) d) S σ :=
 O.seqC ks kb inv J hrest fun K hK=>O.regionV (by rw [hl];exact hp) (by rw [hl];exact h _ hK)
def owedV (E:Env) (C:Ctx) (σ:St) (l:List Oper) (ks:List Nat) (ds:List (List (Nat × AV))) (xs:List (List (Nat × List T))) (td:List (List Nat)) (i:Nat) (o:Oper):Prop :=
 ∀ D:Nat→Bool,D i=false→(∀ j ∈ td.getD i [],D j=true)→(∀ j,i ∈ td.getD j []→j < ds.length→D j=false)→(∀ j l,D j=true→j < ds.length→l ∈ td.getD j []→D l=true) →
  ∀ K:St→Prop,(∀ σ',σ'=⟨nP (bY D i) 0 ds (σ.tm ++ ks.map fun n=>(n,.u)),aQ (bY D i) 0 xs σ.bx⟩→K σ')→VL E C l [o] K ⟨nP D 0 ds (σ.tm ++ ks.map fun n=>(n,.u)),aQ D 0 xs σ.bx⟩
theorem O.drawV {id:Nat} {ops:Array Oper} {l:List Oper} (hl:ops.toList=l) (hp:oX C.pin l=true) (ks:List Nat) (ds:List (List (Nat × AV))) (xs:List (List (Nat × List T))) (td:List (List Nat)) (hxl:xs.length=ds.length) (hm:ds.length ≤ l.length) (hord:aPt 0 l=true) (hlast:aJe td ds.length l.length=true) (htd:tdB td 0 l=true)
  (hstep:aC4 (owedV E C σ l ks ds xs td) 0 (l.take ds.length))
  (hend:∀ K:St→Prop,(∀ σ,S .normal σ→K σ)→VL E C l (l.drop ds.length) K ⟨nP (fun _=>true) 0 ds (σ.tm ++ ks.map fun n=>(n,.u)),aQ (fun _=>true) 0 xs σ.bx⟩):O E C (.region id ops true) S σ:=fun a w H=>by
 subst hl;have hordI:∀ (i:Nat) (o:Oper),ops[i]? = some o→∀ e ∈ o.after.toList,Region.binds .any e=true→e.on < i:=by
  intro i o ho;have:=xM ops.toList 0 i o hord (by rw [Array.getElem?_toList];exact ho)
  simpa using this
 have key:∀ D:Nat→Bool,(∀ (j:Nat) (o':Oper),ops[j]? = some o'→D j=true→lN o' D)→∀ (i:Nat) (o:Oper),ops[i]? = some o→lN o D→∀ j ∈ td.getD i [],j < i∧D j=true:=by
  intro D hcl i;induction i using Nat.strongRecOn with
  | _ i ih =>
   intro o ho hdep j hj;have h1:=aAw ops.toList 0 i o htd (by rw [Array.getElem?_toList];exact ho)
   rw [Nat.zero_add] at h1;obtain ⟨e,he,hb,h2⟩:=h1 j hj;have hei:=hordI i o ho e he hb;rcases h2 with h2 | ⟨_,h2⟩
   ·subst h2;exact ⟨hei,hdep e he hb⟩
   have hlt:e.on < ops.size:=by have:=(Array.getElem?_eq_some_iff.1 ho).1;omega
   have hoe:ops[e.on]? = some ops[e.on]:=Array.getElem?_eq_getElem hlt;obtain ⟨h3,h4⟩:=ih e.on hei _ hoe (hcl e.on _ hoe (hdep e he hb)) j h2;exact ⟨by omega,h4⟩
 refine wp_region_any E.mixed ?_;refine aAt (C:=C) (E:=E) hp ds.length (by simpa using hm) (fun D=>⟨nP D 0 ds (σ.tm ++ ks.map fun n=>(n,.u)),aQ D 0 xs σ.bx⟩) hordI (fun i o hi ho=>?_) (fun i o hi ho D hD hcl hdep=>?_) (fun D hD a w H=>?_) ops.size _ (fun _=>false) a _ (by simp) (fun i d hi=>by simp [Array.getD,hi]) (fun _ _=>rfl) (fun _ _ _ h=>by cases h) ?_ ?_
 ·intro D hcl hdep j hj;have hlt:i < ops.size:=(Array.getElem?_eq_some_iff.1 ho).1;exact (key D hcl i o ho hdep j (wH hlast hi (by simpa using hlt) hj)).2
 ·have hget:(ops.toList.take ds.length)[i]? = some o:=by
   rw [List.getElem?_take,if_pos hi,Array.getElem?_toList];exact ho
  have hob:=rF _ 0 i o hstep hget;rw [Nat.zero_add] at hob;refine hob D hD (fun j hj=>(key D hcl i o ho hdep j hj).2) (fun j hj hjl=>?_) (fun j l2 hDj hjl hl2=>by
   have hlt:j < ops.size:=by simp only [Array.length_toList] at hm;omega
   have hoj:ops[j]? = some ops[j]:=Array.getElem?_eq_getElem hlt;exact (key D hcl j _ hoj (hcl j _ hoj hDj) l2 hl2).2) _ (fun σ' h=>h)
  cases hDj:D j with
  | false=>rfl
  | true =>
   exfalso;have hlt:j < ops.size:=by simp only [Array.length_toList] at hm;omega
   have hoj:ops[j]? = some ops[j]:=Array.getElem?_eq_getElem hlt;have:=(key D hcl j _ hoj (hcl j _ hoj hDj) i hj).2;rw [hD] at this;cases this
 ·have hall:nP D 0 ds (σ.tm ++ ks.map fun n=>(n,.u))=nP (fun _=>true) 0 ds (σ.tm ++ ks.map fun n=>(n,.u)):=xU 0 ds _ fun j _ h=>hD j (by omega)
  have h2:=hend (fun σ'=>S .normal σ') (fun _ h=>h);have hallX:aQ D 0 xs σ.bx=aQ (fun _=>true) 0 xs σ.bx:=uG 0 xs _ fun j _ h=>hD j (by omega)
  simp only [hall,hallX] at H;have hpd:oX C.pin (ops.toList.drop ds.length)=true:=List.all_eq_true.2 fun o ho=>List.all_eq_true.1 hp o (List.mem_of_mem_drop ho);exact h2 ops _ a w rfl hpd H (fun σ' a' w' hS H'=>⟨σ',hS,H'⟩)
 ·exact Nat.le_trans List.countP_le_length (by simp)
 have:=H.1.pad ks;simp only [aE2,wR];exact ⟨this.drew _,H.2⟩
end Go.OM
namespace Go.OM
variable {C:Ctx} {E:Env} {σ σ':St} {S:Exit→St→Prop} {c d:Code} {ops os:List Oper} {K:St→Prop}
theorem V_q {n:Nat} {o:Oper} {τ:St} (q:C.N=n) (h:VL E C ops os K τ) (hc:fN o=none:=by rfl) (h1:σ.stepK E n ops o (fun s=>s=τ):=by simp;rfl):VL E C ops (o :: os) K σ:=by
 subst q;refine xC hc fun K' hK'=>?_;unfold St.stepK at h1 ⊢;split at h1<;>rename_i hw<;>try simp only [hw]
 ·obtain ⟨σ1,e,rfl⟩:=h1;exact ⟨σ1,e,hK' _ h⟩
 ·obtain ⟨σ1,e,rfl⟩:=h1;exact ⟨σ1,e,hK' _ h⟩
 exact h1
theorem O.zT {ks:List Nat} {id:Nat} {xs:Array Oper} {l:List Oper} (u:∀ l,yK ks l=true→oX C.pin l=true) (h:VL E C l l (fun σ'=>O E C d S σ') σ) (hl:xs.toList=l:=by rfl) (hp:yK ks l=true:=by rfl):O E C (.seq (.region id xs false) d) S σ :=
 O.seqRV hl (u _ hp) fun K hK ps Q a w h1 h2 H hQ=>h ps Q a w h1 h2 H fun σ' a' w' g1 g2=>hQ σ' a' w' (hK _ g1) g2
theorem O.zU {ks:List Nat} {id:Nat} {xs:Array Oper} {l:List Oper} (u:∀ l,yK ks l=true→oX C.pin l=true) (h:VL E C l l (fun σ'=>S .normal σ') σ) (hl:xs.toList=l:=by rfl) (hp:yK ks l=true:=by rfl):O E C (.region id xs false) S σ :=
 O.regV hl (u _ hp) fun K hK ps Q a w h1 h2 H hQ=>h ps Q a w h1 h2 H fun σ' a' w' g1 g2=>hQ σ' a' w' (hK _ g1) g2
end Go.OM
namespace Go.OM
def en:Nat→List AV→List (Nat × AV)
 | _,[]=>[]
 | a,v :: l=>(a,v) :: en (a + 1) l
@[simp] theorem en_nil (a:Nat):en a []=[]:=rfl
@[simp] theorem en_cons (a:Nat) (v:AV) (l:List AV):en a (v :: l)=(a,v) :: en (a + 1) l:=rfl
abbrev rf (b f:Nat):AV:=.ref (.box b) f []
end Go.OM
namespace Go.OM
variable {C:Ctx} {Z Z':Nat→Prop} {s:StA} {a:Act} {w w':World} {E:Env} {o:Oper} {σ σ':St} {S:Exit→St→Prop} {c d:Code} {ops os:List Oper} {K:St→Prop}
theorem aOi (k n b off:Nat) (cs:List TA):TA.cnt k (.sl true n b off 1 [.agg cs])=BoxA.cnt k ⟨b,off,cs⟩:=by
 simp only [TA.cnt,TA.cntL,BoxA.cnt];simp
theorem SRel.handBox {d n b off:Nat} {cs hd0:List TA} (H:SRel C Z s a w) (hdN:d < C.N) (hh:s.hd = .sl true n b off 1 [.agg cs] :: hd0) :
  SRel C Z ⟨(s.killAll (.box d)).tm,Go.OM.putB s.bx d ⟨b,off,cs⟩,hd0⟩ a w:=by
 have hH:=H.hand;rw [hh] at hH;simp only [TA.HoldsL] at hH;obtain ⟨hx,h0⟩:=hH;have hx':=hx;simp only [TA.Holds,TA.HoldsL] at hx;obtain ⟨hM,_,_,⟨hagg,_⟩,hlen⟩:=hx;have hln:cs.length=n:=hlen (.agg cs) (by simp)
 have hM':TA.Mem w.heap true b off cs.length (TA.vals cs):=by
  have:([TA.agg cs]:List TA).flatMap TA.cells=cs:=by simp [TA.cells]
  rw [this,Nat.one_mul,← hln] at hM;exact hM
 have hhd:∀ k,TA.cntL k s.hd=BoxA.cnt k ⟨b,off,cs⟩ + TA.cntL k hd0:=fun k=>by rw [hh];simp only [TA.cntL,aOi]
 have hcnt:∀ k,(StA.mk (s.killAll (.box d)).tm (Go.OM.putB s.bx d ⟨b,off,cs⟩) hd0).cnt k ≤ s.cnt k:=by
  intro k;have e1:=hhd k;have e2:=aCy (BoxA.cnt k) s.bx d ⟨b,off,cs⟩;have e4:tot (AVA.cnt k) (s.killAll (.box d)).tm=tot (AVA.cnt k) s.tm:=by
   simp only [StA.killAll];rw [uQ];exact congrArg (fun f=>tot f s.tm) (funext fun x=>AVA.cnt_killAll _ k x)
  simp only [StA.cnt];omega
 have hpos:∀ k,(StA.mk (s.killAll (.box d)).tm (Go.OM.putB s.bx d ⟨b,off,cs⟩) hd0).cnt k > 0→0 < s.cnt k:=fun k hk=>Nat.lt_of_lt_of_le hk (hcnt k);exact {
  defers:=H.defers
  size:=H.size
  tm:=fun n y hy=>by
   simp only [StA.killAll,bU] at hy;obtain ⟨z,hz,rfl⟩:=Option.map_eq_some_iff.1 hy;refine (H.tm n z hz).killAll d (fun r' hr=>?_);cases r' with
   | slot m=>exact tU s (.box d) (.slot m)
   | box m =>
    have hm:m ≠ d:=fun e=>hr (by rw [e])
    simp only [StA.rootCells,sS _ _ hm]
  bx:=fun n y hy=>by
   rw [qA] at hy;by_cases hn:n=d
   ·rw [if_pos hn] at hy;injection hy with hy
    subst hy;exact ⟨hM',hagg.1,hagg.2⟩
   rw [if_neg hn] at hy;exact H.bx n y hy
  uniq:=fun k=>Nat.le_trans (hcnt k) (H.uniq k)
  notZ:=fun k hk=>H.notZ k (hpos k hk)
  lt:=fun k hk=>H.lt k (hpos k hk)
  zlt:=H.zlt
  own:=fun k hk=>H.own k (hpos k hk)
  z0:=H.z0
  zext:=H.zext
  pk:=fun x hx=>by
   obtain ⟨q1,cs0,q2,q3⟩:=H.pk x hx;exact ⟨q1,cs0,by show look (Go.OM.putB s.bx d _) x.1=_;rw [sS _ _ (by omega)];exact q2,q3⟩
  os:=H.os
  tape:=H.tape
  output:=H.output
  grown:=H.grown
  kept:=H.kept
  part:=H.part
  pbx:=fun x hx n y hy hb=>by
   rw [qA] at hy;by_cases hn:n=d
   ·rw [if_pos hn] at hy;injection hy with hy
    subst hy;have h1:=H.pbh x hx;have h2:=hhd x.1;simp only at hb;simp only [BoxA.cnt,hb] at h2;simp at h2;omega
   rw [if_neg hn] at hy;exact H.pbx x hx n y hy hb
  pbo:=fun x hx n y hy=>by
   simp only [StA.killAll,bU] at hy;obtain ⟨z,hz,rfl⟩:=Option.map_eq_some_iff.1 hy;rw [AVA.cnt_killAll];exact H.pbo x hx n z hz
  pbi:=fun x hx n y hy=>by
   rw [qA] at hy;by_cases hn:n=d
   ·rw [if_pos hn] at hy;injection hy with hy
    subst hy;have h1:=H.pbh x hx;have h2:=hhd x.1;simp only [BoxA.cnt] at h2;show TA.cntL x.1 cs=0;omega
   rw [if_neg hn] at hy;exact H.pbi x hx n y hy
  hand:=h0
  pbh:=fun x hx=>by
   have h1:=H.pbh x hx;have h2:=hhd x.1;show TA.cntL x.1 hd0=0;omega }
def OkN (E:Env) (f:FuncId) (args:List Arg) (cells:List T):Prop :=
 ∀ (w:World) (Z:Nat→Prop) (as:List ArgA),as.map ArgA.er=args→ArgsOk Z w.heap as→E.GOk Z w.heap →
  Calls E.P f (as.map ArgA.value).toArray w fun e w'=>∃ Z' b off cs,e = .returned (adr b off)∧TA.erL cs=cells∧Back w Z as Z' [.sl true cs.length b off 1 [.agg cs]] [] w'
theorem aJb {f:FuncId} {fn:Func} {c:Code} {args:List Arg} {cells:List T} {t:Nat} (hf:E.P.funcs[f]? = some fn) (hb:fn.body=some c) (hN:args.length ≤ fn.ntmps) (hv:args.all Arg.isVal=true) (hr:fn.results.toList=[.tmp t])
  (h:∀ C:Ctx,C.N=fn.ntmps→C.pin=[]→O E C c (fun e σ=>(e = .ret ∨ e = .normal)∧∃ d,σ.get t = .ref (.box d) 0 []∧look σ.bx d=some cells) (aBn fn.ntmps args)):OkN E f args cells:=by
 intro w Z as has hA hG;subst has;rw [List.length_map] at hN;refine calls_of_wp hf hb ?_;have hent:=aGt (pin:=[]) hA hN;have hsz:(as.map ArgA.value).toArray.size=as.length:=by simp
 rw [hsz];have hpn:=aBc as hv;have hpc:∀ k,pcL k as=0:=fun k=>by rw [oE,hpn];rfl
 have hpin0:PinOk E (aCe fn.ntmps w Z as []) { tmps:=(as.map ArgA.value).toArray ++ Array.replicate (fn.ntmps - as.length) undef,defers:=[] }:=by
  refine ⟨fun x hx=>(by cases hx),hG,fun b hb=>?_⟩
  show ¬ (0 < sH b.1 as + pcL b.1 as);intro h0;exact hA.notZ b.1 h0 (hG b hb).1
 refine Code.wp_mono (fun e a w' ⟨σ',⟨he,d,hl1,hl2⟩,hS⟩=>?_) (h (aCe fn.ntmps w Z as []) rfl rfl _ w ⟨hent,hpin0⟩);obtain ⟨⟨s,Z',q1,q2,q3⟩,hpin⟩:=hS;subst q1;obtain ⟨xA,e1,e2⟩:=opA q3 (.tmp t);simp only [St.op] at e1;rw [hl1] at e1;rw [uH e1] at e2;obtain ⟨base,cs',ad,g1,g2,g3⟩:=e2;rw [lY] at hl2;obtain ⟨y,hy,hy2⟩:=Option.map_eq_some_iff.1 hl2;simp only [StA.rootCells,hy,Option.map_some,Option.some.injEq,Prod.mk.injEq] at g1;obtain ⟨rfl,rfl⟩:=g1;simp only [TA.addrP,Option.map_some,Option.some.injEq] at g2;have hval:a.tmps.getD t undef=adr y.b y.off:=by
  have hev:a.eval (.tmp t)=a.tmps.getD t undef:=rfl;rw [← hev,g3,← g2]
  rfl
 obtain ⟨m1,m2,m3⟩:=q3.bx d y hy;have hcl:∀ k,BoxA.cnt k y ≤ s.cnt k:=fun k=>wV hy k;have hcn:∀ k,TA.cntL k [TA.sl true y.cs.length y.b y.off 1 [.agg y.cs]]=BoxA.cnt k y:=fun k=>by simp only [TA.cntL,aOi,Nat.add_zero]
 have hres:(results fn a.tmps).run E.P w' = .ok (adr y.b y.off) w':=by
  rw [aB8];have hml:fn.results.mapM (aKi a.tmps)=List.toArray <$> (fn.results.toList.mapM (aKi a.tmps)):=by
   conv=>lhs;rw [show fn.results=fn.results.toList.toArray by simp]
   rw [List.mapM_toArray]
  rw [hml,hr];simp [aKi,← hval]
 have hB:Back w Z as Z' [.sl true y.cs.length y.b y.off 1 [.agg y.cs]] [] w':={
  holds:=by
   simp only [TA.HoldsL,TA.Holds,and_true];refine ⟨?_,by simp,(fun h=>nomatch h),⟨m2,m3⟩,by simp [TA.cells]⟩
   have:([TA.agg y.cs]:List TA).flatMap TA.cells=y.cs:=by simp [TA.cells]
   rw [this,Nat.one_mul];exact m1
  outs:=by rw [hpn];trivial
  uniq:=fun k=>by
   have h1:=hcn k;have h2:=hcl k;have h3:=q3.uniq k;have h4:=hpc k;rw [h1,h4];simp only [List.flatten_nil,TA.cntL];omega
  own:=fun k hk=>by
   have h1:=hcn k;have h2:=hcl k;simp only [List.flatten_nil,TA.cntL,Nat.add_zero] at hk;simp only [TA.cntL,Nat.add_zero] at h1;rw [h1] at hk;refine ⟨?_,q3.notZ k (by omega)⟩
   rcases q3.own k (by omega) with h3 | h3
   ·left;have h3:0 < sH k as + pcL k as:=h3;have:=hpc k;omega
   exact .inr h3
  zle:=q3.z0
  zext:=fun k hk=>by
   rcases q3.zext k hk with h1 | h1 | ⟨h1,h2⟩
   ·exact .inl h1
   ·exact .inr (.inl h1)
   right;right;have h1:0 < sH k as + pcL k as:=h1;have:=hpc k;omega
  zlt:=q3.zlt
  os:=q3.os
  tape:=q3.tape
  output:=q3.output
  grown:=q3.grown
  kept:=fun k hk h0=>q3.kept k hk (by show ¬ (0 < sH k as + pcL k as);omega)
  part:=q3.part }
 have hpost:∃ v,(results fn a.tmps).run E.P w' = .ok v w'∧∃ Z' b off cs,Ending.returned v = .returned (adr b off)∧TA.erL cs=cells∧Back w Z as Z' [.sl true cs.length b off 1 [.agg cs]] [] w':=⟨_,hres,Z',y.b,y.off,y.cs,rfl,hy2,hB⟩;rcases he with rfl | rfl
 ·exact ⟨q3.defers,hpost⟩
 exact ⟨q3.defers,hpost⟩
theorem er_sl1 {x:TA} {n:Nat} {cells:List T} (h:x.er = .sl true n [.agg cells]):∃ b off cap cs,x = .sl true n b off cap [.agg cs]∧TA.erL cs=cells:=by
 cases x<;>simp only [TA.er,reduceCtorEq,T.sl.injEq] at h
 ·obtain ⟨_,_,h⟩:=h;cases h
 rename_i o sz b off cap es;obtain ⟨rfl,rfl,h⟩:=h
 match es,h with
 | [y],h =>
  simp only [TA.erL,List.cons.injEq,and_true] at h;cases y<;>simp only [TA.er,reduceCtorEq,T.agg.injEq] at h
  exact ⟨b,off,cap,_,rfl,h⟩
 | _ :: _ :: _,h=>simp [TA.erL] at h
theorem SOk.toBox {d n b off:Nat} {cells:List T} {σ1:St} (H:SOk C σ a w) (hd:a.tmps.getD d undef = .slice (some ⟨b,off,none⟩) 1 1) (ht:σ.take C.N (.tmp d)=some (.sl true n [.agg cells],σ1)) (hp:σ1.newBox C.N (some d) cells=some σ'):SOk C σ' (a.put (some d) (adr b off)) w:=by
 obtain ⟨s,Z,h1,h2,h3⟩:=H;subst h1;obtain ⟨s',yA,t1,t2,t3,t4,t5,t6⟩:=vT h3 ht;subst t2;obtain ⟨b',off',cap,cs,rfl,hcs⟩:=er_sl1 t1;have hev:a.eval (.tmp d)=a.tmps.getD d undef:=rfl;rw [hev,hd] at t5;simp only [TA.val,TA.val1,Value.slice.injEq,Option.some.injEq,Addr.mk.injEq,List.length_cons,List.length_nil] at t5;obtain ⟨⟨rfl,rfl,_⟩,_,hcap⟩:=t5;have hcap':cap=1:=by omega
 subst hcap';rw [h2] at t3;unfold St.newBox at hp;simp only at hp;have hdN:=aKk hp;have hB:=t4.handBox hdN t3;have hlk:look (putB s'.bx d ⟨b,off,cs⟩) d=some ⟨b,off,cs⟩:=tE _ _ _;refine SOk.put0 (dst:=some d) hB (σ:=St.mk (s'.er.killAll (.box d)).tm (putB s'.er.bx d cells)) ?_ hp (xA:=.ref (.box d) 0 []) rfl ⟨some (b,off),cs,(b,off),by simp [StA.rootCells,hlk],by simp [TA.addrP],rfl⟩ (fun k=>rfl)
 rw [aE4,hcs]
theorem aQb {f:FuncId} {ms:List (Mode × Operand)} {xs:List Operand} {args:List Arg} {cells:List T} {pls:List Pl} {σ1 σ2 σ3:St} {d n:Nat} (hg:GC E C) (hok:OkN E f args cells) (hn:n=cells.length) (hms:(ms.all (fun m=>m.1.real),ms.map Prod.snd)=(true,xs)) (hl:σ.lend C.N ms=some (args,pls,σ1))
  (hb:St.land C.N (some d) (ms.any fun m=>m.1.isBor) pls [.sl true n [.agg cells]] [] σ1=some σ2) (ht:σ2.take C.N (.tmp d)=some (.sl true n [.agg cells],σ3)) (hp:σ3.newBox C.N (some d) cells=some σ') (H:SOk C σ a w) :
  Calls E.P f (xs.map a.eval).toArray w fun e w'=>∃ v,e = .returned v∧SOk C σ' (a.put (some d) v) w':=by
 obtain ⟨s,Z,h1,h2,h3⟩:=id H;have:=aGx (E:=E) (res:=[.sl true n [.agg cells]]) (outs:=[]) (run:=fun vs w Q=>Calls E.P f vs.toArray w fun e w'=>∃ b off,e = .returned (adr b off)∧Q (.returned (.slice (some ⟨b,off,none⟩) 1 1)) w') (fun _ _ _ _ h1 h2=>h2.mono fun e w' ⟨b,off,e1,e2⟩=>⟨b,off,e1,h1 _ _ e2⟩) (fun _ _ _ h=>hg.now h)
  (fun w Z as h1 _ h2 h3=>(hok w Z as h1 h2 h3).mono fun e w' ⟨Z',b,off,cs,e1,e2,e3⟩=>⟨b,off,e1,Z',_,[],rfl,by
   have:cs.length=n:=by rw [hn,← e2,TA.erL_map,List.length_map]
   simp only [TA.erL,TA.er,e2,this],rfl,e3⟩) hl hb H
 simp only [Prod.mk.injEq] at hms;rw [aAj a ms hms.1,hms.2] at this;refine this.mono fun e w' ⟨b,off,e1,v,e2,e3⟩=>⟨_,e1,?_⟩;injection e2 with e2
 subst e2;have hdN:d < C.N:=by
  unfold St.newBox at hp;exact aKk hp
 have hds:d < a.tmps.size:=by rw [h3.size];exact hdN
 have:=e3.toBox (b:=b) (off:=off) (by simp [Act.put,Array.getD_eq_getD_getElem?,hds]) ht hp
 have e:(a.put (some d) (.slice (some ⟨b,off,none⟩) 1 1)).put (some d) (adr b off)=a.put (some d) (adr b off):=by
  simp only [Act.put]
  congr 1
  apply Array.ext_getElem?;intro i;simp only [Array.getElem?_setIfInBounds,Array.size_setIfInBounds];split<;>rfl
 rw [e] at this;exact this
theorem aK2 {o:Oper} {g:Operand} {xs:List Operand} {f:FuncId} (ms:List (Mode × Operand)) (d n:Nat) {args:List Arg} {cells:List T} (hc:fN o=some (g,xs)) (hgd:o.guard=none) (hms:(ms.all (fun m=>m.1.real),ms.map Prod.snd)=(true,xs)) (he:dR E.P f) (hd:o.dst=some d) (hok:OkN E f args cells) (hn:n=cells.length)
  (h:∀ K':St→Prop,(∀ σ1,VL E C ops os K σ1→K' σ1)→σ.fn g=some f∧vO args (fun pls σ1=>zB (fun σ2=>zB K' ((σ2.take C.N (.tmp d)).bind fun y=>y.2.newBox C.N (some d) cells)∧(σ2.take C.N (.tmp d)).map Prod.fst=some (.sl true n [.agg cells])) (St.land C.N (some d) (ms.any fun m=>m.1.isBor) pls [.sl true n [.agg cells]] [] σ1)) (σ.lend C.N ms)):VL E C ops (o :: os) K σ:=by
 obtain ⟨hf,h1⟩:=h _ fun _ h=>h;unfold vO at h1;split at h1
 case h_2=>exact h1.elim
 rename_i z hz;obtain ⟨h2,h3⟩:=h1;unfold zB at h3;split at h3
 case h_2=>exact h3.elim
 rename_i σ2 hσ2;obtain ⟨h4,h5⟩:=h3;split at h4
 case h_2=>exact h4.elim
 rename_i σ4 hσ4;obtain ⟨y,hy,hy2⟩:=Option.bind_eq_some_iff.1 hσ4;rw [hy] at h5;simp only [Option.map_some,Option.some.injEq] at h5;intro ps Q a w hps hp H hQ;subst hps;simp only [oX,List.all_cons,Bool.and_eq_true] at hp;have hput:∀ b:Act,b.tmps=a.tmps→∀ v,PinOk E C (b.put o.dst v):=fun b hb v=>PinOk.put (a:=b) ⟨fun x hx=>by rw [hb];exact H.2.1 x hx,H.2.2⟩ hp.1
 unfold wpList;rw [if_pos (by simp [Region.wanted,hgd])]
 left;refine aDi ?_ (aK6 hput (xG (K:=fun a' w'=>SOk C σ4 a' w') hc hf he H.1 (by rw [hd];exact aQb H.2.2 hok hn hms (by rw [hz,← h2]) hσ2 (by rw [hy,← h5]) hy2 H.1) fun a' w' H'=>H'))
 intro a' w' H';exact h4 ps Q a' w' rfl hp.2 H' hQ
theorem sF (n i:Nat) (h:∀ K':Option St→Prop,(∀ σ',VL E C ops os K σ'→K' (some σ'))→K' (σ.freezeB n i)):VL E C ops os K σ:=by
 obtain ⟨σ',h1,h2⟩:=h (fun o=>∃ σ',o=some σ'∧VL E C ops os K σ') fun σ' h=>⟨σ',rfl,h⟩;exact aLh (fun a w H=>⟨H.1.freezeB h1,H.2⟩) h2
theorem aJ0 (n:Nat) (h:∀ K':Option St→Prop,(∀ σ',VL E C ops os K σ'→K' (some σ'))→K' (σ.freeze1 C.N n)):VL E C ops os K σ:=by
 obtain ⟨σ',h1,h2⟩:=h (fun o=>∃ σ',o=some σ'∧VL E C ops os K σ') fun σ' h=>⟨σ',rfl,h⟩;exact aLh (fun a w H=>⟨H.1.freeze1 h1,H.2⟩) h2
end Go.OM
namespace Go.OM
variable {C:Ctx} {Z Z':Nat→Prop} {s:StA} {a:Act} {w w':World} {E:Env} {o:Oper} {σ σ':St} {Q:Exit→Act→World→Prop} {S:Exit→St→Prop} {c d:Code} {l ops os:List Oper} {K:St→Prop} {P:Program}
theorem aGe {α:Type}:∀ (l:List (Nat × α)) (n:Nat) (x y:α),put (put l n x) n y=put l n y
 | [],n,x,y=>by simp [put]
 | (k,z) :: l,n,x,y=>by
  simp only [put];by_cases e:k=n
  ·simp [e,put]
  simp [e,put,aGe l n x y]
def jG (ks:List Nat):AV→Bool
 | .u=>true
 | .t (.v _)=>true
 | .ref (.box k) _ []=>ks.contains k
 | _=>false
def PKs (C:Ctx) (ks:List Nat):Prop:=∀ k ∈ ks,∃ b off len,(k,b,off,len) ∈ C.PK
def Pers (C:Ctx) (a:Act) (n:Nat):AV→Prop
 | .u=>True
 | .t (.v x)=>a.tmps.getD n undef=x∧TA.OneCell x
 | .ref (.box k) o []=>∃ b off len,(k,b,off,len) ∈ C.PK∧a.tmps.getD n undef = .pointer (some ⟨b,off + o,none⟩)
 | _=>False
theorem yS {ks:List Nat} {x:AV} (h:jG ks x=true):x = .u ∨ (∃ v,x = .t (.v v)) ∨ ∃ k o,k ∈ ks∧x = .ref (.box k) o []:=by
 unfold jG at h;split at h
 ·exact .inl rfl
 ·exact .inr (.inl ⟨_,rfl⟩)
 ·exact .inr (.inr ⟨_,_,List.contains_iff_mem.1 h,rfl⟩)
 cases h
theorem SOk.pers {ks:List Nat} (hk:PKs C ks) (H:SOk C σ a w) {n:Nat} {x:AV} (hx:look σ.tm n=some x) (hp:jG ks x=true):Pers C a n x:=by
 obtain ⟨s,Z,h1,h2,h3⟩:=H;subst h1;rw [nF] at hx;obtain ⟨xA,hxA,hx2⟩:=Option.map_eq_some_iff.1 hx;have hv:=h3.tm n _ hxA;rcases yS hp with rfl | ⟨v,rfl⟩ | ⟨k,o,hkm,rfl⟩
 ·trivial
 ·obtain ⟨zA,rfl,hz⟩:=aE3 hx2;cases zA<;>simp only [TA.er,reduceCtorEq,T.v.injEq] at hz
  subst hz;exact ⟨hv.1,by simpa [TA.Holds] using hv.2⟩
 rw [uH hx2] at hv;obtain ⟨b,off,len,hpk⟩:=hk k hkm;obtain ⟨_,cs,g1,g2⟩:=h3.pk _ hpk;obtain ⟨base,cs',ad,q1,q2,q3⟩:=hv;simp only at g1;simp only [StA.rootCells,g1,Option.map_some,Option.some.injEq,Prod.mk.injEq] at q1;obtain ⟨rfl,rfl⟩:=q1;simp only [TA.addrP,Option.map_some,Option.some.injEq] at q2;refine ⟨b,off,len,hpk,?_⟩;rw [q3,← q2]
def aCa:AV→AVA
 | .t (.v x)=>.t (.v x)
 | .ref r o p=>.ref r o p
 | _=>.u
theorem aKw {ks:List Nat} {x:AV} (h:jG ks x=true):(aCa x).er=x:=by
 rcases yS h with rfl | ⟨v,rfl⟩ | ⟨k,o,hkm,rfl⟩<;>rfl
theorem aI7 (k:Nat) (x:AV):(aCa x).cnt k=0:=by
 unfold aCa;split<;>rfl
theorem aFt {α:Type} {f:α→Nat}:∀ (l:List (Nat × α)),(∀ e ∈ l,f e.2=0)→tot f l=0
 | [],_=>rfl
 | e :: l,h=>by
  obtain ⟨n,x⟩:=e;have:=h (n,x) (by simp)
  simp only at this;simp only [tot,this,aFt l (fun e he=>h e (by simp [he]))]
theorem SOk.retm {ks:List Nat} {tm0 tm':List (Nat × AV)} {bx:List (Nat × List T)} (H:SOk C ⟨tm0,bx⟩ a w) (hs:∀ e ∈ tm',jG ks e.2=true) (h:∀ n x,look tm' n=some x→Pers C a n x):SOk C ⟨tm',bx⟩ a w:=by
 obtain ⟨s,Z,h1,h2,h3⟩:=H;have hbx:s.er.bx=bx:=by rw [h1]
 have hlk:∀ n y,look (tm'.map fun e=>(e.1,aCa e.2)) n=some y→∃ x,look tm' n=some x∧y=aCa x:=by
  intro n y hy;rw [bU] at hy;obtain ⟨x,hx,rfl⟩:=Option.map_eq_some_iff.1 hy;exact ⟨x,hx,rfl⟩
 have hcnt:∀ k,(StA.mk (tm'.map fun e=>(e.1,aCa e.2)) s.bx s.hd).cnt k ≤ s.cnt k:=by
  intro k;have:tot (AVA.cnt k) (tm'.map fun e=>(e.1,aCa e.2))=0:=aFt _ (by
   intro e he;obtain ⟨e0,_,rfl⟩:=List.mem_map.1 he;exact aI7 k _)
  simp only [StA.cnt,this];omega
 refine ⟨⟨tm'.map fun e=>(e.1,aCa e.2),s.bx,s.hd⟩,Z,?_,h2,?_⟩
 ·have e1:(tm'.map fun e=>(e.1,aCa e.2)).map (fun e=>(e.1,e.2.er))=tm':=by
   rw [List.map_map];refine (List.map_congr_left fun e he=>?_).trans (List.map_id _);simp only [Function.comp_apply,aKw (hs e he),id]
  have e2:StA.er ⟨tm'.map fun e=>(e.1,aCa e.2),s.bx,s.hd⟩=⟨(tm'.map fun e=>(e.1,aCa e.2)).map (fun e=>(e.1,e.2.er)),s.er.bx⟩:=rfl;rw [e2,e1,hbx]
 exact {
  defers:=h3.defers
  size:=h3.size
  tm:=fun n y hy=>by
   obtain ⟨x,hx,rfl⟩:=hlk n y hy;have hp:=h n x hx;cases x with
   | t y =>
    cases y with
    | v v=>exact ⟨hp.1,by simpa [TA.Holds] using hp.2⟩
    | _=>exact hp.elim
   | ref r o p =>
    cases r with
    | slot m=>exact hp.elim
    | box k =>
     cases p with
     | nil =>
      obtain ⟨b,off,len,hpk,hv⟩:=hp;obtain ⟨_,cs,g1,g2⟩:=h3.pk _ hpk;simp only at g1;exact ⟨some (b,off),cs,(b,off + o),by simp [StA.rootCells,g1],by simp [TA.addrP],hv⟩
     | cons i p=>exact hp.elim
   | u=>trivial
   | _=>exact hp.elim
  bx:=h3.bx
  uniq:=fun k=>Nat.le_trans (hcnt k) (h3.uniq k)
  notZ:=fun k hk=>h3.notZ k (Nat.lt_of_lt_of_le hk (hcnt k))
  lt:=fun k hk=>h3.lt k (Nat.lt_of_lt_of_le hk (hcnt k))
  zlt:=h3.zlt
  own:=fun k hk=>h3.own k (Nat.lt_of_lt_of_le hk (hcnt k))
  z0:=h3.z0
  zext:=h3.zext
  os:=h3.os
  tape:=h3.tape
  output:=h3.output
  grown:=h3.grown
  kept:=h3.kept
  part:=h3.part
  pbx:=h3.pbx
  pbo:=fun x hx n y hy=>by
   obtain ⟨z,hz,rfl⟩:=hlk n y hy;exact aI7 _ _
  pbi:=h3.pbi
  hand:=h3.hand
  pbh:=h3.pbh
  pk:=h3.pk }
theorem aQh {R:Act→Prop} {K:Act→World→Prop} (H:∀ b:Act,b.tmps=a.tmps→∀ v,R (b.put o.dst v)) (h:o.wp P a w K Q):o.wp P a w (fun a' w'=>K a' w'∧R a') Q:=by
 unfold Oper.wp at *;generalize (execOp a.eval o).run P w=r at *;cases r with
 | ok n w' =>
  cases n<;>simp only [Oper.upon] at h ⊢ <;>
   first
    | (refine ⟨h,?_⟩;first | exact H a rfl _ | exact H _ (by rfl) _)
    | (refine ⟨h,H (Act.mk _ _) ?_ _⟩;rfl)
    | exact Calls.mono h (fun e w'' he=>by cases e<;>first | exact ⟨he,H _ rfl _⟩ | exact he)
    | exact Rows.mono h (fun _ _ he=>⟨he,H _ rfl _⟩)
    | exact h
 | halt x w'=>cases x<;>simp only [Oper.upon] at h ⊢<;>exact h
theorem Pers.agree {a':Act} {n:Nat} {x:AV} (h:Pers C a n x) (e:a'.tmps.getD n undef=a.tmps.getD n undef):Pers C a' n x:=by
 unfold Pers at *;split<;>simp_all
theorem aDl {α:Type}:∀ (l:List (Nat × α)) (n:Nat) (x:α),look l n=some x→(n,x) ∈ l
 | [],n,x,h=>by simp [look] at h
 | (k,y) :: l,n,x,h=>by
  simp only [look] at h;by_cases e:k=n
  ·subst e;rw [if_pos rfl] at h;injection h with h
   subst h;exact List.mem_cons_self ..
  rw [if_neg e] at h;exact List.mem_cons_of_mem _ (aDl l n x h)
theorem sW {τ:St} {n:Nat} {ks:List Nat} {tm0 tm1:List (Nat × AV)} {bx1:List (Nat × List T)} {v:AV} (hk:PKs C ks) (hg:o.guard=none) (hd:o.dst=some n) (hτ:∀ e ∈ τ.tm,jG ks e.2=true) (hs0:∀ e ∈ tm0,jG ks e.2=true)
  (h0:∀ e ∈ tm0,look τ.tm e.1=some e.2) (hop:VL E C l [o] (fun σ'=>σ'=⟨tm1,bx1⟩) ⟨tm0,τ.bx⟩) (h1:look tm1 n=some v) (hv:jG ks v=true) (hput:∀ e ∈ put τ.tm n v,jG ks e.2=true) (hK:K ⟨put τ.tm n v,bx1⟩):VL E C l [o] K τ:=by
 intro ps Q a w hps hp H hQ;have P0:∀ m x,look τ.tm m=some x→Pers C a m x:=fun m x hx=>H.1.pers hk hx (hτ _ (aDl _ _ _ hx));have H0:SOk2 E C ⟨tm0,τ.bx⟩ a w:=⟨SOk.retm (tm0:=τ.tm) H.1 hs0 fun m x hx=>P0 m x (h0 _ (aDl _ _ _ hx)),H.2⟩;have h3:=hop ps (fun e a' w'=>e = .normal∧∃ σ',σ'=(⟨tm1,bx1⟩:St)∧SOk2 E C σ' a' w') a w hps hp H0 (fun σ' a' w' q1 q2=>⟨rfl,σ',q1,q2⟩);have fin:∀ a' w',SOk2 E C ⟨tm1,bx1⟩ a' w'→(∀ m,m ≠ n→a'.tmps.getD m undef=a.tmps.getD m undef)→Q .normal a' w':=by
  intro a' w' q1 q2;refine hQ _ a' w' hK ⟨SOk.retm q1.1 hput fun m x hx=>?_,q1.2⟩;rw [iC] at hx;by_cases e:m=n
  ·rw [if_pos e] at hx;injection hx with hx
   subst hx;subst e;exact q1.1.pers hk h1 hv
  rw [if_neg e] at hx;exact (P0 m x hx).agree (q2 m e)
 unfold wpList at h3 ⊢;rw [if_pos (by simp [Region.wanted,hg])] at h3 ⊢
 rcases h3 with h3 | ⟨_,_,_,h3⟩
 ·left;have h4:=aQh (R:=fun a'=>∀ m,m ≠ n→a'.tmps.getD m undef=a.tmps.getD m undef) (fun b hb u m hm=>by
   rw [hd];simp only [Act.put,hb,Array.getD_eq_getD_getElem?,Array.getElem?_setIfInBounds,if_neg (fun e:n=m=>hm e.symm)]) h3
  unfold Oper.wp at h4 ⊢;generalize (execOp a.eval o).run E.P w=r at *;cases r with
  | ok y w' =>
   cases y<;>simp only [Oper.upon] at h4 ⊢ <;>
    first
     | (obtain ⟨⟨_,σ',q1,q2⟩,q3⟩:=h4;subst q1;exact fin _ _ q2 q3)
     | exact Calls.mono h4 (fun e w'' he=>by
       cases e<;>first
        | (obtain ⟨⟨_,σ',q1,q2⟩,q3⟩:=he;subst q1;exact fin _ _ q2 q3)
        | (obtain ⟨hh,_⟩:=he;cases hh;done)
        | (obtain ⟨_,_,hh,_⟩:=he;cases hh;done))
     | exact Rows.mono h4 (fun _ _ he=>by obtain ⟨⟨_,σ',q1,q2⟩,q3⟩:=he;subst q1;exact fin _ _ q2 q3)
     | cases h4.1
  | halt x w'=>cases x<;>simp only [Oper.upon] at h4 ⊢<;>first | exact h4 | cases h4.1
 cases h3.1
theorem fL {ks:List Nat} {D:Nat→Bool} {base vs:List (Nat × AV)} (hb:base.all (fun e=>jG ks e.2)=true) (hv:((List.range vs.length).all fun j=>jG ks (bQ vs j).2)=true) {tm:List (Nat × AV)} (h:∀ e ∈ tm,Lies D base vs e):∀ e ∈ tm,jG ks e.2=true:=by
 intro e he;rcases h e he with h1 | h1 | ⟨j,h1,_,h3⟩
 ·rw [h1];rfl
 ·exact List.all_eq_true.1 hb e h1
 rw [h3];exact List.all_eq_true.1 hv j (List.mem_range.2 h1)
theorem qX {ks:List Nat} {n:Nat} {v:AV} (hv:jG ks v=true):∀ (tm:List (Nat × AV)),(∀ e ∈ tm,jG ks e.2=true)→∀ e ∈ put tm n v,jG ks e.2=true
 | [],_,e,he=>by
  simp only [put,List.mem_singleton] at he;subst he;exact hv
 | (k,y) :: tm,h,e,he=>by
  simp only [put] at he;split at he
  ·rcases List.mem_cons.1 he with rfl | he
   ·exact hv
   exact h e (by simp [he])
  rcases List.mem_cons.1 he with rfl | he
  ·exact h _ (by simp)
  exact qX hv tm (fun e he=>h e (by simp [he])) e he
def owedYV (E:Env) (C:Ctx) (σ:St) (l:List Oper) (vs:List (Nat × AV)) (xs:List (List (Nat × List T))) (td:List (List Nat)) (i:Nat) (o:Oper):Prop :=
 ∀ (τ:St) (D:Nat→Bool),τ.bx=aQ D 0 xs σ.bx→(∀ n,n ∉ vs.map Prod.fst→look τ.tm n=look σ.tm n)→(∀ j ∈ td.getD i [],look τ.tm (bQ vs j).1=some (bQ vs j).2)→look τ.tm (bQ vs i).1=some .u →
  D i=false→(∀ j ∈ td.getD i [],D j=true)→(∀ j,i ∈ td.getD j []→j < vs.length→D j=false)→(∀ e ∈ τ.tm,Lies D σ.tm vs e)→∀ K:St→Prop,(∀ σ',σ'=⟨put τ.tm (bQ vs i).1 (bQ vs i).2,aQ (bY D i) 0 xs σ.bx⟩→K σ')→VL E C l [o] K τ
theorem O.drawYV {id:Nat} {ops:Array Oper} {l:List Oper} (hl:ops.toList=l) (hp:oX C.pin l=true) (vs:List (Nat × AV)) (xs:List (List (Nat × List T))) (td:List (List Nat)) (hxl:xs.length=vs.length) (hm:vs.length ≤ l.length) (hdup:decide (vs.map Prod.fst).Nodup=true) (hfresh:∀ n ∈ vs.map Prod.fst,look σ.tm n=none) (hord:aPt 0 l=true) (hlast:aJe td vs.length l.length=true) (htd:tdB td 0 l=true)
  (hstep:aC4 (owedYV E C σ l vs xs td) 0 (l.take vs.length))
  (hend:∀ K:St→Prop,(∀ σ,S .normal σ→K σ)→VL E C l (l.drop vs.length) K ⟨σ.tm ++ vs,aQ (fun _=>true) 0 xs σ.bx⟩):O E C (.region id ops true) S σ:=fun a w H=>by
 subst hl;have hnd:(vs.map Prod.fst).Nodup:=of_decide_eq_true hdup;have hdis:∀ e ∈ vs,e.1 ∉ σ.tm.map Prod.fst:=by
  intro e he hm;have h1:=hfresh e.1 (List.mem_map.2 ⟨e,he,rfl⟩);obtain ⟨f,hf,hfe⟩:=List.mem_map.1 hm;have:∀ (l:List (Nat × AV)) (n:Nat),n ∈ l.map Prod.fst→look l n ≠ none:=by
   intro l;induction l with
   | nil=>intro n h;simp at h
   | cons x l ih =>
    intro n h;obtain ⟨k,y⟩:=x;simp only [look];by_cases e:k=n
    ·simp [e]
    rw [if_neg e];simp only [List.map_cons,List.mem_cons] at h;exact ih n (h.resolve_left fun h=>e h.symm)
  exact this σ.tm e.1 hm h1
 have hordI:∀ (i:Nat) (o:Oper),ops[i]? = some o→∀ e ∈ o.after.toList,Region.binds .any e=true→e.on < i:=by
  intro i o ho;have:=xM ops.toList 0 i o hord (by rw [Array.getElem?_toList];exact ho)
  simpa using this
 have key:∀ D:Nat→Bool,(∀ (j:Nat) (o':Oper),ops[j]? = some o'→D j=true→lN o' D)→∀ (i:Nat) (o:Oper),ops[i]? = some o→lN o D→∀ j ∈ td.getD i [],j < i∧D j=true:=by
  intro D hcl i;induction i using Nat.strongRecOn with
  | _ i ih =>
   intro o ho hdep j hj;have h1:=aAw ops.toList 0 i o htd (by rw [Array.getElem?_toList];exact ho)
   rw [Nat.zero_add] at h1;obtain ⟨e,he,hb,h2⟩:=h1 j hj;have hei:=hordI i o ho e he hb;rcases h2 with h2 | ⟨_,h2⟩
   ·subst h2;exact ⟨hei,hdep e he hb⟩
   have hlt:e.on < ops.size:=by have:=(Array.getElem?_eq_some_iff.1 ho).1;omega
   have hoe:ops[e.on]? = some ops[e.on]:=Array.getElem?_eq_getElem hlt;obtain ⟨h3,h4⟩:=ih e.on hei _ hoe (hcl e.on _ hoe (hdep e he hb)) j h2;exact ⟨by omega,h4⟩
 refine wp_region_any E.mixed ?_;refine aAt (C:=C) (E:=E) hp vs.length (by simpa using hm) (fun D=>⟨σ.tm ++ xT D 0 vs,aQ D 0 xs σ.bx⟩) hordI (fun i o hi ho=>?_) (fun i o hi ho D hD hcl hdep=>?_) (fun D hD a w H=>?_) ops.size _ (fun _=>false) a _ (by simp) (fun i d hi=>by simp [Array.getD,hi]) (fun _ _=>rfl) (fun _ _ _ h=>by cases h) ?_ ?_
 ·intro D hcl hdep j hj;have hlt:i < ops.size:=(Array.getElem?_eq_some_iff.1 ho).1;exact (key D hcl i o ho hdep j (wH hlast hi (by simpa using hlt) hj)).2
 ·have hget:(ops.toList.take vs.length)[i]? = some o:=by
   rw [List.getElem?_take,if_pos hi,Array.getElem?_toList];exact ho
  have hob:=rF _ 0 i o hstep hget;rw [Nat.zero_add] at hob;have hvi:vs[i]? = some (bQ vs i):=by
   unfold bQ;rw [List.getD_eq_getElem?_getD,List.getElem?_eq_getElem hi];rfl
  have hlk:∀ j,j < vs.length→look (σ.tm ++ xT D 0 vs) (bQ vs j).1=some (if D j=true then (bQ vs j).2 else .u):=by
   intro j hj;have hvj:vs[j]? = some (bQ vs j):=by
    unfold bQ;rw [List.getD_eq_getElem?_getD,List.getElem?_eq_getElem hj];rfl
   rw [pP,hfresh _ (List.mem_map.2 ⟨_,List.mem_of_getElem? hvj,rfl⟩)];have:=aCp D 0 vs j _ hnd hvj;rw [Nat.zero_add] at this;exact this
  refine hob ⟨σ.tm ++ xT D 0 vs,aQ D 0 xs σ.bx⟩ D rfl (fun n hn=>?_) ?_ ?_ hD (fun j hj=>(key D hcl i o ho hdep j hj).2) ?_ (fun e he=>?_) _ (fun σ' hσ'=>?_)
  ·show look (σ.tm ++ xT D 0 vs) n=_;rw [pP];cases h:look σ.tm n with
   | some x=>rfl
   | none=>exact wD (by rw [aAi];exact hn)
  ·-- what it leans on is done
   intro j hj;obtain ⟨h1,h2⟩:=key D hcl i o ho hdep j hj;have:=hlk j (by omega)
   rw [h2,if_pos rfl] at this;exact this
  ·have:=hlk i hi;rw [hD] at this;simpa using this
  ·intro j hj hjl;cases hDj:D j with
   | false=>rfl
   | true =>
    exfalso;have hlt:j < ops.size:=by simp only [Array.length_toList] at hm;omega
    have hoj:ops[j]? = some ops[j]:=Array.getElem?_eq_getElem hlt;have:=(key D hcl j _ hoj (hcl j _ hoj hDj) i hj).2;rw [hD] at this;cases this
  ·rcases List.mem_append.1 he with he | he
   ·exact .inr (.inl he)
   rcases aE1 D vs 0 e he with h1 | ⟨j,h1,h2,h3⟩
   ·exact .inl h1
   exact .inr (.inr ⟨j,h1,by simpa using h2,h3⟩)
  subst hσ';show (⟨_,_⟩:St)=⟨_,_⟩
  congr 1
  have hmem:bQ vs i ∈ vs:=List.mem_of_getElem? hvi;rw [aGf _ _ _ _ (hdis _ hmem)];have:=aCi D 0 vs i _ hnd hvi;rw [Nat.zero_add] at this;rw [this]
 ·have hall:xT D 0 vs=vs:=aCq D 0 vs (fun j _ hj=>hD j (by omega))
  have h2:=hend (fun σ'=>S .normal σ') (fun _ h=>h);have hallX:aQ D 0 xs σ.bx=aQ (fun _=>true) 0 xs σ.bx:=uG 0 xs _ fun j _ h=>hD j (by omega)
  simp only [hall,hallX] at H;have hpd:oX C.pin (ops.toList.drop vs.length)=true:=List.all_eq_true.2 fun o ho=>List.all_eq_true.1 hp o (List.mem_of_mem_drop ho);exact h2 ops _ a w rfl hpd H (fun σ' a' w' hS H'=>⟨σ',hS,H'⟩)
 ·exact Nat.le_trans List.countP_le_length (by simp)
 have:=H.1.pad (vs.map Prod.fst);rw [aAh,wR];rw [List.map_map] at this;exact ⟨this.drew _,H.2⟩
theorem O.keepK (ks kb:List Nat) (h:∀ K:Bool→St→Prop,(∀ σ',O E C c S σ'→K true σ')→K (σ.keepOk C.N ks kb) (σ.keep ks kb)):O E C c S σ:=by
 obtain ⟨h1,h2⟩:=h (fun b σ'=>b=true∧O E C c S σ') fun σ' h=>⟨rfl,h⟩;exact O.keep ks kb h1 h2
end Go.OM
namespace Go.OM
variable {C:Ctx} {Z Z':Nat→Prop} {s:StA} {a:Act} {w w':World} {E:Env} {o:Oper} {σ σ':St} {Q:Exit→Act→World→Prop} {S:Exit→St→Prop} {c d:Code} {l ops os:List Oper} {K:St→Prop} {P:Program}
def aC9 (xA:TA):AV→AVA
 | .t (.v x)=>.t (.v x)
 | .t _=>.t xA
 | .ref r o p=>.ref r o p
 | _=>.u
theorem aFa {ks:List Nat} {xA:TA} {x:AV} (h:jG ks x=true):aC9 xA x=aCa x:=by
 rcases yS h with rfl | ⟨v,rfl⟩ | ⟨k,o,hkm,rfl⟩<;>rfl
theorem SOk.retx {ks:List Nat} {tm0 tm':List (Nat × AV)} {bx:List (Nat × List T)} {p sz:Nat} {es:List T} (H:SOk C ⟨tm0,bx⟩ a w) (hno:T.hasOwn (.sl false sz es)=false) (hp0:look tm0 p=some (.t (.sl false sz es))) (hs:∀ e ∈ tm',jG ks e.2=true ∨ e=(p,.t (.sl false sz es))) (h:∀ n x,look tm' n=some x→jG ks x=true→Pers C a n x):SOk C ⟨tm',bx⟩ a w:=by
 obtain ⟨s,Z,h1,h2,h3⟩:=H;have hbx:s.er.bx=bx:=by rw [h1]
 have htm:s.er.tm=tm0:=by rw [h1]
 rw [← htm,nF] at hp0;obtain ⟨yA,hyA,hy2⟩:=Option.map_eq_some_iff.1 hp0;obtain ⟨xA,rfl,hxe⟩:=aE3 hy2;have hvx:=h3.tm p _ hyA;have hcx:∀ k,xA.cnt k=0:=fun k=>TA.cnt_of_noOwn k xA (by rw [hxe];exact hno)
 have hlift:∀ e ∈ tm',(aC9 xA e.2).er=e.2:=by
  intro e he;rcases hs e he with h | rfl
  ·rw [aFa h,aKw h]
  show AVA.er (.t xA)=_;rw [AVA.er,hxe]
 have hlk:∀ n y,look (tm'.map fun e=>(e.1,aC9 xA e.2)) n=some y→∃ x,look tm' n=some x∧y=aC9 xA x:=by
  intro n y hy;rw [bU] at hy;obtain ⟨x,hx,rfl⟩:=Option.map_eq_some_iff.1 hy;exact ⟨x,hx,rfl⟩
 have hl0:∀ k x,(aC9 xA x).cnt k=0:=by
  intro k x;unfold aC9;split
  ·rfl
  ·simpa [AVA.cnt] using hcx k
  ·rfl
  rfl
 have hcnt:∀ k,(StA.mk (tm'.map fun e=>(e.1,aC9 xA e.2)) s.bx s.hd).cnt k ≤ s.cnt k:=by
  intro k;have:tot (AVA.cnt k) (tm'.map fun e=>(e.1,aC9 xA e.2))=0:=aFt _ (by
   intro e he;obtain ⟨e0,_,rfl⟩:=List.mem_map.1 he;exact hl0 k _)
  simp only [StA.cnt,this];omega
 refine ⟨⟨tm'.map fun e=>(e.1,aC9 xA e.2),s.bx,s.hd⟩,Z,?_,h2,?_⟩
 ·have e1:(tm'.map fun e=>(e.1,aC9 xA e.2)).map (fun e=>(e.1,e.2.er))=tm':=by
   rw [List.map_map];refine (List.map_congr_left fun e he=>?_).trans (List.map_id _);simp only [Function.comp_apply,hlift e he,id]
  have e2:StA.er ⟨tm'.map fun e=>(e.1,aC9 xA e.2),s.bx,s.hd⟩=⟨(tm'.map fun e=>(e.1,aC9 xA e.2)).map (fun e=>(e.1,e.2.er)),s.er.bx⟩:=rfl;rw [e2,e1,hbx]
 exact {
  defers:=h3.defers
  size:=h3.size
  tm:=fun n y hy=>by
   obtain ⟨x,hx,rfl⟩:=hlk n y hy;rcases hs (n,x) (aDl _ _ _ hx) with hb | hb
   ·have hp:=h n x hx hb;rw [aFa hb];cases x with
    | t y =>
     cases y with
     | v v=>exact ⟨hp.1,by simpa [TA.Holds] using hp.2⟩
     | _=>exact hp.elim
    | ref r o p =>
     cases r with
     | slot m=>exact hp.elim
     | box k =>
      cases p with
      | nil =>
       obtain ⟨b,off,len,hpk,hv⟩:=hp;obtain ⟨_,cs,g1,g2⟩:=h3.pk _ hpk;simp only at g1;exact ⟨some (b,off),cs,(b,off + o),by simp [StA.rootCells,g1],by simp [TA.addrP],hv⟩
      | cons i p=>exact hp.elim
    | u=>trivial
    | _=>exact hp.elim
   injection hb with e1 e2
   subst e1;subst e2;exact hvx
  bx:=h3.bx
  uniq:=fun k=>Nat.le_trans (hcnt k) (h3.uniq k)
  notZ:=fun k hk=>h3.notZ k (Nat.lt_of_lt_of_le hk (hcnt k))
  lt:=fun k hk=>h3.lt k (Nat.lt_of_lt_of_le hk (hcnt k))
  zlt:=h3.zlt
  own:=fun k hk=>h3.own k (Nat.lt_of_lt_of_le hk (hcnt k))
  z0:=h3.z0
  zext:=h3.zext
  os:=h3.os
  tape:=h3.tape
  output:=h3.output
  grown:=h3.grown
  kept:=h3.kept
  part:=h3.part
  pbx:=h3.pbx
  pbo:=fun x hx n y hy=>by
   obtain ⟨z,hz,rfl⟩:=hlk n y hy;exact hl0 _ _
  pbi:=h3.pbi
  hand:=h3.hand
  pbh:=h3.pbh
  pk:=h3.pk }
theorem aRx {τ:St} {n:Nat} {ks:List Nat} {tm0 tm1:List (Nat × AV)} {bx1:List (Nat × List T)} {v:AV} {p sz:Nat} {es:List T} (hno:T.hasOwn (.sl false sz es)=false) (hk:PKs C ks) (hg:o.guard=none) (hd:o.dst=some n) (hτ:∀ e ∈ τ.tm,jG ks e.2=true ∨ e=(p,.t (.sl false sz es))) (hτp:look τ.tm p=some (.t (.sl false sz es))) (hs0:∀ e ∈ tm0,jG ks e.2=true ∨ e=(p,.t (.sl false sz es)))
  (h0:∀ e ∈ tm0,look τ.tm e.1=some e.2) (hop:VL E C l [o] (fun σ'=>σ'=⟨tm1,bx1⟩) ⟨tm0,τ.bx⟩) (h1:look tm1 n=some v) (h1p:look tm1 p=some (.t (.sl false sz es))) (hv:jG ks v=true) (hput:∀ e ∈ put τ.tm n v,jG ks e.2=true ∨ e=(p,.t (.sl false sz es))) (hK:K ⟨put τ.tm n v,bx1⟩):VL E C l [o] K τ:=by
 intro ps Q a w hps hp H hQ;have P0:∀ m x,look τ.tm m=some x→jG ks x=true→Pers C a m x:=fun m x hx hb=>H.1.pers hk hx hb;have H0:SOk2 E C ⟨tm0,τ.bx⟩ a w:=⟨SOk.retx (tm0:=τ.tm) H.1 hno hτp hs0 fun m x hx hb=>P0 m x (h0 _ (aDl _ _ _ hx)) hb,H.2⟩;have h3:=hop ps (fun e a' w'=>e = .normal∧∃ σ',σ'=(⟨tm1,bx1⟩:St)∧SOk2 E C σ' a' w') a w hps hp H0 (fun σ' a' w' q1 q2=>⟨rfl,σ',q1,q2⟩);have fin:∀ a' w',SOk2 E C ⟨tm1,bx1⟩ a' w'→(∀ m,m ≠ n→a'.tmps.getD m undef=a.tmps.getD m undef)→Q .normal a' w':=by
  intro a' w' q1 q2;refine hQ _ a' w' hK ⟨SOk.retx q1.1 hno h1p hput fun m x hx hb=>?_,q1.2⟩;rw [iC] at hx;by_cases e:m=n
  ·rw [if_pos e] at hx;injection hx with hx
   subst hx;subst e;exact q1.1.pers hk h1 hv
  rw [if_neg e] at hx;exact (P0 m x hx hb).agree (q2 m e)
 unfold wpList at h3 ⊢;rw [if_pos (by simp [Region.wanted,hg])] at h3 ⊢
 rcases h3 with h3 | ⟨_,_,_,h3⟩
 ·left;have h4:=aQh (R:=fun a'=>∀ m,m ≠ n→a'.tmps.getD m undef=a.tmps.getD m undef) (fun b hb u m hm=>by
   rw [hd];simp only [Act.put,hb,Array.getD_eq_getD_getElem?,Array.getElem?_setIfInBounds,if_neg (fun e:n=m=>hm e.symm)]) h3
  unfold Oper.wp at h4 ⊢;generalize (execOp a.eval o).run E.P w=r at *;cases r with
  | ok y w' =>
   cases y<;>simp only [Oper.upon] at h4 ⊢ <;>
    first
     | (obtain ⟨⟨_,σ',q1,q2⟩,q3⟩:=h4;subst q1;exact fin _ _ q2 q3)
     | exact Calls.mono h4 (fun e w'' he=>by
       cases e<;>first
        | (obtain ⟨⟨_,σ',q1,q2⟩,q3⟩:=he;subst q1;exact fin _ _ q2 q3)
        | (obtain ⟨hh,_⟩:=he;cases hh;done)
        | (obtain ⟨_,_,hh,_⟩:=he;cases hh;done))
     | exact Rows.mono h4 (fun _ _ he=>by obtain ⟨⟨_,σ',q1,q2⟩,q3⟩:=he;subst q1;exact fin _ _ q2 q3)
     | cases h4.1
  | halt x w'=>cases x<;>simp only [Oper.upon] at h4 ⊢<;>first | exact h4 | cases h4.1
 cases h3.1
theorem aFb {ks:List Nat} {D:Nat→Bool} {base vs:List (Nat × AV)} {p sz:Nat} {es:List T} (hb:base.all (fun e=>jG ks e.2)=true) (hv:∀ e ∈ vs,jG ks e.2=true ∨ e=(p,.t (.sl false sz es))) {tm:List (Nat × AV)} (h:∀ e ∈ tm,Lies D base vs e):∀ e ∈ tm,jG ks e.2=true ∨ e=(p,.t (.sl false sz es)):=by
 intro e he;rcases h e he with h1 | h1 | ⟨j,h1,_,h3⟩
 ·rw [h1];exact .inl rfl
 ·exact .inl (List.all_eq_true.1 hb e h1)
 refine hv e ?_;rw [h3,bQ,List.getD_eq_getElem?_getD,List.getElem?_eq_getElem h1];exact List.getElem_mem h1
theorem aHt {ks:List Nat} {n:Nat} {v:AV} {x:Nat × AV} (hv:jG ks v=true):∀ (tm:List (Nat × AV)),(∀ e ∈ tm,jG ks e.2=true ∨ e=x)→∀ e ∈ put tm n v,jG ks e.2=true ∨ e=x
 | [],_,e,he=>by
  simp only [put,List.mem_singleton] at he;subst he;exact .inl hv
 | (k,y) :: tm,h,e,he=>by
  simp only [put] at he;split at he
  ·rcases List.mem_cons.1 he with rfl | he
   ·exact .inl hv
   exact h e (by simp [he])
  rcases List.mem_cons.1 he with rfl | he
  ·exact h _ (by simp)
  exact aHt hv tm (fun e he=>h e (by simp [he])) e he
theorem aMb {D:Nat→Bool} {base vs:List (Nat × AV)} (r:Root) (hb:base.all (fun e=>aBe r e.2)=true) (hv:((List.range vs.length).all fun j=>aBe r (bQ vs j).2)=true) {tm:List (Nat × AV)} (h:∀ e ∈ tm,Lies D base vs e):∀ e ∈ tm,aBe r e.2=true:=by
 intro e he;rcases h e he with h1 | h1 | ⟨j,h1,_,h3⟩
 ·rw [h1];rfl
 ·exact List.all_eq_true.1 hb e h1
 rw [h3];exact List.all_eq_true.1 hv j (List.mem_range.2 h1)
theorem aDn {n:Nat} (y:T):∀ tm:List (Nat × AV),(∀ e ∈ tm,aBe (.slot n) e.2=true)→(put tm n (.t y)).map (fun e=>(e.1,e.2.kill (.slot n)))=put tm n (.t y)
 | [],_=>by simp [put,AV.kill]
 | (k,x) :: tm,h=>by
  have hx:x.kill (.slot n)=x:=by
   have:=h (k,x) (by simp)
   cases x<;>simp_all [aBe,AV.kill]
  have ht:∀ tm':List (Nat × AV),(∀ e ∈ tm',aBe (.slot n) e.2=true)→tm'.map (fun e=>(e.1,e.2.kill (.slot n)))=tm':=by
   intro tm' h';refine (List.map_congr_left fun e he=>?_).trans (List.map_id _);have:=h' e he;obtain ⟨e1,x⟩:=e;cases x<;>simp_all [aBe,AV.kill]
  simp only [put];split
  ·simp only [List.map_cons,AV.kill,List.cons.injEq,true_and];exact ht tm fun e he=>h e (by simp [he])
  simp only [List.map_cons,hx,List.cons.injEq,true_and];exact aDn y tm fun e he=>h e (by simp [he])
theorem aOt {n:Nat} {y:T} {tm:List (Nat × AV)} {bx:List (Nat × List T)} (hn:n < C.N) (hnt:∀ e ∈ tm,aBe (.slot n) e.2=true) (h:VL E C ops os K ⟨put tm n (.t y.ro),bx⟩):VL E C ops os K ⟨put tm n (.t y),bx⟩:=by
 refine aJ0 n fun K' hK'=>?_;have e:St.freeze1 C.N n ⟨put tm n (.t y),bx⟩=some ⟨put tm n (.t y.ro),bx⟩:=by
  simp only [St.freeze1,if_pos hn,St.get,iC,if_true,Option.getD_some,St.put?,AV.into,and_self];unfold St.set St.free St.kill;simp only [iC,if_true,AV.hasOwn];cases hy:y.hasOwn
  ·simp [hy,hn,iC,aGe,AV.hasOwn]
  have hk2:=aDn (n:=n) y tm hnt;simp only [Bool.not_true,Bool.false_eq_true,if_false,hk2,iC,if_true,AV.hasOwn,hn,and_self,aGe,Bool.not_false]
 rw [e];exact hK' _ h
end Go.OM
namespace Go.OM
variable {C:Ctx} {E:Env} {σ σ':St} {a:Act} {w:World} {P:Program}
def bV:List (Nat × AV)→Nat→Option AV→Option AV
 | [],_,r=>r
 | e :: d,n,r=>bV d n (if n=e.1 then some e.2 else r)
def bW (D:Nat→Bool):Nat→List (List (Nat × AV))→Nat→Option AV→Option AV
 | _,[],_,r=>r
 | i,d :: ds,n,r=>bW D (i + 1) ds n (if D i=true then bV d n r else r)
theorem aI5:∀ (d tm:List (Nat × AV)) (n:Nat),look (cN tm d) n=bV d n (look tm n)
 | [],tm,n=>rfl
 | e :: d,tm,n=>by
  simp only [cN,bV];rw [aI5 d _ n,iC]
theorem aI6 (D:Nat→Bool):∀ (i:Nat) (ds:List (List (Nat × AV))) (tm:List (Nat × AV)) (n:Nat),look (nP D i ds tm) n=bW D i ds n (look tm n)
 | _,[],tm,n=>rfl
 | i,d :: ds,tm,n=>by
  simp only [nP,bW];rw [aI6 D (i + 1) ds _ n];split
  ·rw [aI5]
  rfl
theorem aCh {α:Type}:∀ (l:List (Nat × α)) (n:Nat) (x:α),n ∈ l.map Prod.fst→(put l n x).map Prod.fst=l.map Prod.fst
 | [],n,x,h=>by simp at h
 | (k,y) :: l,n,x,h=>by
  simp only [put];by_cases e:k=n
  ·simp [e]
  rw [if_neg e];simp only [List.map_cons,List.cons.injEq,true_and];refine aCh l n x ?_;simp only [List.map_cons,List.mem_cons] at h;exact h.resolve_left fun h=>e h.symm
theorem aKl {α:Type}:∀ (l:List (Nat × α)) (n m:Nat) (x y:α),n ≠ m→n ∈ l.map Prod.fst→m ∈ l.map Prod.fst→put (put l n x) m y=put (put l m y) n x
 | [],n,m,x,y,_,h,_=>by simp at h
 | (k,z) :: l,n,m,x,y,hnm,h1,h2=>by
  by_cases e1:k=n
  ·subst e1;simp [put,hnm]
  by_cases e2:k=m
  ·subst e2;simp [put,e1]
  simp only [put,if_neg e1,if_neg e2,List.cons.injEq,true_and];simp only [List.map_cons,List.mem_cons] at h1 h2;exact aKl l n m x y hnm (h1.resolve_left fun h=>e1 h.symm) (h2.resolve_left fun h=>e2 h.symm)
def inK (tm d:List (Nat × AV)):Prop:=∀ e ∈ d,e.1 ∈ tm.map Prod.fst
theorem aDe:∀ (d tm:List (Nat × AV)),inK tm d→(cN tm d).map Prod.fst=tm.map Prod.fst
 | [],tm,_=>rfl
 | e :: d,tm,h=>by
  simp only [cN];have h1:=aCh tm e.1 e.2 (h e (by simp))
  rw [aDe d _ (fun e' he'=>by rw [h1];exact h e' (by simp [he'])),h1]
theorem aKj:∀ (d tm:List (Nat × AV)) (n:Nat) (x:AV),(∀ e ∈ d,e.1 ≠ n)→n ∈ tm.map Prod.fst→inK tm d→put (cN tm d) n x=cN (put tm n x) d
 | [],tm,n,x,_,_,_=>rfl
 | e :: d,tm,n,x,hd,hn,hk=>by
  simp only [cN];have h1:=aCh tm e.1 e.2 (hk e (by simp))
  rw [aKj d _ n x (fun e' he'=>hd e' (by simp [he'])) (by rw [h1];exact hn) (fun e' he'=>by rw [h1];exact hk e' (by simp [he'])),aKl tm e.1 n e.2 x (hd e (by simp)) (hk e (by simp)) hn]
theorem aHv:∀ (d d' tm:List (Nat × AV)),(∀ e ∈ d,∀ e' ∈ d',e'.1 ≠ e.1)→inK tm d→inK tm d'→cN (cN tm d') d=cN (cN tm d) d'
 | [],d',tm,_,_,_=>rfl
 | e :: d,d',tm,h,hk,hk'=>by
  simp only [cN];have h1:=aCh tm e.1 e.2 (hk e (by simp))
  rw [aKj d' tm e.1 e.2 (fun e' he'=>h e (by simp) e' he') (hk e (by simp)) hk']
  exact aHv d d' _ (fun e1 he1=>h e1 (by simp [he1])) (fun e' he'=>by rw [h1];exact hk e' (by simp [he'])) (fun e' he'=>by rw [h1];exact hk' e' he')
theorem aBb (D:Nat→Bool) (d:List (Nat × AV)):∀ (i:Nat) (ds:List (List (Nat × AV))) (tm:List (Nat × AV)),(∀ j d',ds[j]? = some d'→D (i + j)=true→∀ e ∈ d,∀ e' ∈ d',e'.1 ≠ e.1)→inK tm d→(∀ d' ∈ ds,inK tm d')→cN (nP D i ds tm) d=nP D i ds (cN tm d)
 | _,[],tm,_,_,_=>rfl
 | i,d' :: ds,tm,h,hk,hks=>by
  simp only [nP];have hr:∀ j d'',ds[j]? = some d''→D (i + 1 + j)=true→∀ e ∈ d,∀ e' ∈ d'',e'.1 ≠ e.1:=fun j d'' hj hD=>h (j + 1) d'' (by simpa using hj) (by rw [← hD];congr 1;omega)
  by_cases hD:D i=true
  ·simp only [hD,if_true];have hk':=hks d' (by simp)
   have h1:=aDe d' tm hk';have hkk:∀ x,inK tm x→inK (cN tm d') x:=fun x hx e he=>by rw [h1];exact hx e he
   rw [aBb D d (i + 1) ds _ hr (hkk d hk) (fun x hx=>hkk x (hks x (by simp [hx])))]
   rw [aHv d d' tm (h 0 d' (by simp) (by simpa using hD)) hk hk']
  rw [if_neg hD,if_neg hD];exact aBb D d (i + 1) ds tm hr hk fun x hx=>hks x (by simp [hx])
theorem aHu (D:Nat→Bool) (d:List (Nat × AV)):∀ (k i:Nat) (ds:List (List (Nat × AV))) (tm:List (Nat × AV)),ds[k]? = some d→D (i + k)=false→(∀ j d',k < j→ds[j]? = some d'→D (i + j)=true→∀ e ∈ d,∀ e' ∈ d',e'.1 ≠ e.1)→(∀ d' ∈ ds,inK tm d')→cN (nP D i ds tm) d=nP (bY D (i + k)) i ds tm
 | _,_,[],_,h,_,_,_=>by simp at h
 | 0,i,d0 :: ds,tm,h,hD,hd,hk=>by
  simp only [List.getElem?_cons_zero,Option.some.injEq] at h;subst h;simp only [Nat.add_zero] at hD ⊢;simp only [nP,hD,Bool.false_eq_true,if_false,bY,if_true];rw [aBb D d0 (i + 1) ds tm (fun j d' hj hDj=>hd (j + 1) d' (by omega) (by simpa using hj) (by rw [← hDj];congr 1;omega)) (hk d0 (by simp)) (fun x hx=>hk x (by simp [hx]))]
  refine xU (i + 1) ds _ fun j h1 h2=>?_;show D j=if j=i then true else D j;rw [if_neg (by omega)]
 | k + 1,i,d0 :: ds,tm,h,hD,hd,hk=>by
  simp only [List.getElem?_cons_succ] at h;have e1:i + (k + 1)=i + 1 + k:=by omega
  have hne:bY D (i + (k + 1)) i=D i:=by simp [bY]
  simp only [nP,hne];rw [e1] at hD ⊢;refine aHu D d k (i + 1) ds _ h hD (fun j d' h1 h2 h3=>hd (j + 1) d' (by omega) (by simpa using h2) (by rw [← h3];congr 1;omega)) fun x hx=>?_
  split
  ·have h1:=aDe d0 tm (hk d0 (by simp))
   intro e he;rw [h1];exact hk x (by simp [hx]) e he
  exact hk x (by simp [hx])
def disB (ds:List (List (Nat × AV))) (td:List (List Nat)) (i:Nat):Bool :=
 (List.range ds.length).all fun j=>!decide (i < j) || (td.getD j []).contains i || (ds.getD i []).all fun e=>(ds.getD j []).all fun e'=>!decide (e'.1=e.1)
def keysB (ds:List (List (Nat × AV))) (tm:List (Nat × AV)):Bool:=ds.all fun d=>d.all fun e=>(tm.map Prod.fst).contains e.1
def owedY2 (E:Env) (C:Ctx) (σ:St) (l:List Oper) (ks:List Nat) (ds:List (List (Nat × AV))) (xs:List (List (Nat × List T))) (td:List (List Nat)) (i:Nat) (o:Oper):Prop :=
 ∀ (τ:St) (D:Nat→Bool),τ.bx=aQ D 0 xs σ.bx→(∀ n,look τ.tm n=bW D 0 ds n (look (σ.tm ++ ks.map fun n=>(n,.u)) n))→D i=false→(∀ j ∈ td.getD i [],D j=true)→(∀ j,i ∈ td.getD j []→j < ds.length→D j=false) →
  ∀ K:St→Prop,(∀ σ',σ'=⟨cN τ.tm (ds.getD i []),aQ (bY D i) 0 xs σ.bx⟩→K σ')→τ.wps E C.N l [o] K
theorem aG {l:List Oper} {ks:List Nat} {ds:List (List (Nat × AV))} {xs:List (List (Nat × List T))} {td:List (List Nat)} {i:Nat} {o:Oper} (hi:decide (i < ds.length)=true) (hd:disB ds td i=true) (hk:keysB ds (σ.tm ++ ks.map fun n=>(n,.u))=true) (h:owedY2 E C σ l ks ds xs td i o):aQm E C σ l ks ds xs td i o:=by
 intro D d0 g1 g2 gc K hK;have hi:=of_decide_eq_true hi;refine h ⟨_,_⟩ D rfl (fun n=>aI6 D 0 ds _ n) d0 g1 g2 K fun σ' hσ=>hK σ' ?_;rw [hσ];have hdi:ds[i]? = some (ds.getD i []):=by rw [List.getD_eq_getElem?_getD,List.getElem?_eq_getElem hi];rfl
 have:=aHu D (ds.getD i []) i 0 ds (σ.tm ++ ks.map fun n=>(n,.u)) hdi (by simpa using d0) (fun j d' h1 h2 h3 e he e' he' heq=>by
  have hj:j < ds.length:=(List.getElem?_eq_some_iff.1 h2).1;have h4:=List.all_eq_true.1 hd j (List.mem_range.2 hj);simp only [Bool.or_eq_true,Bool.not_eq_true',decide_eq_false_iff_not,List.all_eq_true] at h4;rcases h4 with (h4 | h4) | h4
  ·exact h4 h1
  ·have:=g2 j (List.contains_iff_mem.1 h4) hj;rw [Nat.zero_add] at h3;rw [this] at h3;cases h3
  ·have h5:ds.getD j []=d':=by rw [List.getD_eq_getElem?_getD,h2];rfl
   rw [h5] at h4;exact h4 e he e' he' heq) (fun d' hd' e he=>by
  have h6:=List.all_eq_true.1 (List.all_eq_true.1 hk d' hd') e he;exact List.contains_iff_mem.1 h6)
 rw [Nat.zero_add] at this;rw [this]
end Go.OM
namespace Go.OM
def Hg {α:Type} (Φ:Prop) (X:Option α) (r:α) (P:Prop):Prop:=Φ→X=some r→P
def Cx (C:Ctx) (n:Nat) (ks:List Nat):Prop:=C.N=n∧∀ l,yK ks l=true→oX C.pin l=true
class Con (E:Env) (f:FuncId) (p:Prop) (args:outParam (List Arg)) (res:outParam (List T)) (outs:outParam (List (List T))):Prop where
 ok:p→Ok E f args res outs
class Ent (E:Env) (f:FuncId):Prop where
 ok:dR E.P f
section
variable {α β ρ:Type} {X:Option α} {r:α} {Φ P Q:Prop} {C:Ctx} {E:Env} {σ τ:St} {S:Exit→St→Prop} {c d:Code} {K:St→Prop} {ops os l:List Oper} {o:Oper} {n id id':Nat} {ks:List Nat} {xs:Array Oper}
theorem Hg.mp (h:P→Q) (k:Hg Φ X r P):Hg Φ X r Q:=fun f e=>h (k f e)
theorem h_sr (k:Hg Φ X r (σ.wps E C.N l l fun σ'=>O E C d S σ')) (cx:Cx C n ks:=by assumption) (hl:xs.toList=l:=by rfl) (hp:yK ks l=true:=by rfl):Hg Φ X r (O E C (.seq (.region id xs false) d) S σ):=fun f e=>O.zS cx.2 (k f e) hl hp
theorem h_rg (k:Hg Φ X r (σ.wps E C.N l l fun σ'=>S .normal σ')) (cx:Cx C n ks:=by assumption) (hl:xs.toList=l:=by rfl) (hp:yK ks l=true:=by rfl):Hg Φ X r (O E C (.region id xs false) S σ):=fun f e=>O.zH cx.2 (k f e) hl hp
theorem h_sq (k:Hg Φ X r (O E C c (aO (O E C d S) S) σ)):Hg Φ X r (O E C (.seq c d) S σ):=k.mp O.seq
theorem h_sk (k:Hg Φ X r (S .normal σ)):Hg Φ X r (O E C .skip S σ):=k.mp O.skip
theorem h_lb {l:Nat} (k:Hg Φ X r (S .normal σ)):Hg Φ X r (O E C (.label l) S σ):=k.mp O.label
theorem h_ex (k:Hg Φ X r (S (.exit id) σ)):Hg Φ X r (O E C (.exit id) S σ):=k.mp O.exit
theorem h_rt (k:Hg Φ X r (S .ret σ)):Hg Φ X r (O E C .ret S σ):=k.mp O.ret
theorem h_bk (k:Hg Φ X r (O E C c (iB id S) σ)):Hg Φ X r (O E C (.block id c) S σ):=k.mp O.block
theorem h_tn (k:Hg Φ X r (K σ)):Hg Φ X r (aO K S .normal σ):=k
theorem h_tr (k:Hg Φ X r (S .ret σ)):Hg Φ X r (aO K S .ret σ):=k
theorem h_te (k:Hg Φ X r (S (.exit id) σ)):Hg Φ X r (aO K S (.exit id) σ):=k
theorem h_bn (k:Hg Φ X r (S .normal σ)):Hg Φ X r (iB id S .normal σ):=k
theorem h_br (k:Hg Φ X r (S .ret σ)):Hg Φ X r (iB id S .ret σ):=k
theorem h_be (k:Hg Φ X r (S .normal σ)):Hg Φ X r (iB id S (.exit id) σ):=fun f e=>by simp only [iB,if_true];exact k f e
theorem h_bd (k:Hg Φ X r (S (.exit id') σ)) (h:id' ≠ id:=by decide):Hg Φ X r (iB id S (.exit id') σ):=fun f e=>by simp only [iB,if_neg h];exact k f e
theorem h_cd {x:Operand} {b:Bool} {p q:Option α} {B N:Prop} (k:(b=true→B→Hg Φ p r (O E C c S σ))∧(¬ b=true→N→Hg Φ q r (O E C d S σ))) (hx:Φ→σ.sc x=some (.bool b):=by intro f;first | (simp [f];done) | (simp [f, *];done) | (simp_all;done) | fail)
  (hB:b=true→B:=by first | (intro h;simp at h;exact h) | exact fun _=>trivial) (hN:¬ b=true→N:=by first | (intro h;simp at h;exact h) | exact fun _=>trivial):Hg Φ (if b=true then p else q) r (O E C (.cond x c d) S σ):=fun f e=>by
 by_cases hb:b=true
 ·rw [if_pos hb] at e;exact O.cT' (hx f) hb (k.1 hb (hB hb) f e)
 rw [if_neg hb] at e;exact O.cF' (hx f) hb (k.2 hb (hN hb) f e)
theorem h_ct {x:Operand} (k:Hg Φ X r (O E C c S σ)) (hx:Φ→σ.sc x=some (.bool true):=by intro f;simp [f]):Hg Φ X r (O E C (.cond x c d) S σ):=fun f e=>O.condT (hx f) (k f e)
theorem h_cf {x:Operand} (k:Hg Φ X r (O E C d S σ)) (hx:Φ→σ.sc x=some (.bool false):=by intro f;simp [f]):Hg Φ X r (O E C (.cond x c d) S σ):=fun f e=>O.condF (hx f) (k f e)
theorem h_nil (k:Φ→Hg True X r (K σ)):Hg Φ X r (σ.wps E C.N ops [] K):=fun f e=>wN (k f trivial e)
theorem h_q (k:Hg Φ X r (τ.wps E C.N ops os K)) (hc:fN o=none:=by rfl) (cx:Cx C n ks:=by assumption) (h1:Φ→σ.stepK E n ops o (fun s=>s=τ):=by intro f;simp [f];rfl):Hg Φ X r (σ.wps E C.N ops (o :: os) K):=fun f e=>aH cx.1 (k f e) hc (h1 f)
theorem h_qs (k:Hg Φ X r (τ.wps E C.N ops os K)) (hc:fN o=none:=by rfl) (cx:Cx C n ks:=by assumption) (h1:Φ→σ.stepK E n ops o (fun s=>s=τ):=by intro f;simp [f, *];rfl):Hg Φ X r (σ.wps E C.N ops (o :: os) K):=fun f e=>aH cx.1 (k f e) hc (h1 f)
theorem h_off (k:Hg Φ X r (τ.wps E C.N ops os K)) (hc:(fN o).isSome=true:=by rfl) (cx:Cx C n ks:=by assumption) (h1:Φ→σ.wants ops o=some false∧σ.put? n o.dst (.tup [])=some τ:=by first | (intro f;simp [f];rfl) | (intro f;simp [f, *];rfl)):Hg Φ X r (σ.wps E C.N ops (o :: os) K):=fun f e=>wO fun K' hK=>⟨(h1 f).1,τ,by rw [cx.1];exact (h1 f).2,hK _ (k f e)⟩
theorem h_lB {t:TypeId} {x:Operand} (k:Hg Φ X r (τ.wps E C.N ops os K)) (cx:Cx C n ks:=by assumption) (ho:o.op = .load t x:=by rfl) (h1:Φ→σ.wants ops o=some true∧aAy E n o.dst t x σ=some τ:=by first | (intro f;simp [f];rfl) | (intro f;simp [f, *];rfl)):Hg Φ X r (σ.wps E C.N ops (o :: os) K):=fun f e=>aMw ho fun K' hK=>⟨(h1 f).1,by rw [cx.1,(h1 f).2];exact hK _ (k f e)⟩
def T.own1:T→Bool
 | .sl o _ _=>o
 | .agg cs=>cs.any fun | .sl o _ _=>o | _=>false
 | _=>false
def pC (a:Arg) (v:AV):Mode:=match a with
 | .ptr cs=>.ptr cs.length
 | .val t=>if t.own1=true then .take else match v with
  | .t x=>if x.own1=true then .bor else .take
  | .al _ _ _ _=>.bor
  | _=>.take
def pI (σ:St):List Operand→List Arg→List (Mode × Operand)
 | x :: xs,a :: as=>(pC a (σ.op x),x) :: pI σ xs as
 | _,_=>[]
theorem aKr (σ:St):∀ (xs:List Operand) (as:List Arg),as.length=xs.length→((pI σ xs as).all (fun m=>m.1.real),(pI σ xs as).map Prod.snd)=(true,xs)
 | [],[],_=>rfl
 | [],_ :: _,h=>by simp at h
 | _ :: _,[],h=>by simp at h
 | x :: xs,a :: as,h=>by
  have ih:=aKr σ xs as (by simpa using h)
  simp only [Prod.mk.injEq] at ih;have hr:(pC a (σ.op x)).real=true:=by
   unfold pC;cases a with
   | ptr cs=>rfl
   | val t =>
    simp only;split
    ·rfl
    split
    ·split<;>rfl
    ·rfl
    rfl
  have hr':Mode.real (pC a (σ.op x))=true:=hr;simp only [pI,List.all_cons,List.map_cons,ih.1,ih.2,hr',Bool.and_true]
theorem aJl {g:Operand} {ys:List Operand} {f:FuncId} {args:List Arg} {res:List T} {outs:List (List T)} {ms:List (Mode × Operand)} {p:Prop} [con:Con E f p args res outs] [en:Ent E f] (hp:p) (cx:Cx C n ks) (hc:fN o=some (g,ys)) (hl:args.length=ys.length) (hm:pI σ ys args=ms)
  (h1:σ.wants ops o=some true∧σ.fn g=some f∧vO args (fun pls σ2=>zB (fun s=>s=τ) (St.land n o.dst (ms.any fun m=>m.1.isBor) pls res outs σ2)) (σ.lend n ms)) (k:τ.wps E C.N ops os K):σ.wps E C.N ops (o :: os) K :=
 fP ms cx.1 en.ok (con.ok hp) k hc (by rw [← hm];exact aKr σ ys args hl) h1
variable {g:Operand} {ys:List Operand} {f:FuncId} {args:List Arg} {ms:List (Mode × Operand)} {α1 α2 α3 α4:Type}
theorem h_c1 {e:Option β} {x:β→Option α} {res:β→List T} {outs:β→List (List T)} {τ:β→St} (k:∀ y,Hg Φ (x y) r ((τ y).wps E C.N ops os K)) (cx:Cx C n ks:=by assumption) (hc:fN o=some (g,ys):=by rfl) (hf:σ.fn g=some f:=by first | rfl | (simp;done) | (simp;rfl)) (con:∀ y,Con E f (e=some y) args (res y) (outs y):=by infer_instance) (en:Ent E f:=by infer_instance)
  (hl:args.length=ys.length:=by rfl) (hm:Φ→pI σ ys args=ms:=by first | (intro f;simp [pI,pC,T.own1,f];done) | (intro f;simp [pI,pC,T.own1,f];rfl))
  (h1:Φ→∀ y,σ.wants ops o=some true∧vO args (fun pls σ2=>zB (fun s=>s=τ y) (St.land n o.dst (ms.any fun m=>m.1.isBor) pls (res y) (outs y) σ2)) (σ.lend n ms):=by first | (intro f y;simp [f];rfl) | (intro f y;simp [f, *];rfl)):Hg Φ (e.bind x) r (σ.wps E C.N ops (o :: os) K):=fun f e'=>by
 obtain ⟨y,he,hx⟩:=bS e';have hk:=k y f hx;have h2:=h1 f y;exact @aJl C E σ (τ y) K ops os o n ks g ys _ args (res y) (outs y) ms _ (con y) en he cx hc hl (hm f) ⟨h2.1,hf,h2.2⟩ hk
end
end Go.OM
namespace Go.OM
open Go.Sort
theorem aOb:∀ {es:List TA} {l:List Int},TA.erL es=(l.map fun n=>T.v (.int .i64 n))→es=l.map fun n=>TA.v (.int .i64 n)
 | [],[],_=>rfl
 | [],x :: xs,h=>by simp [TA.erL] at h
 | a :: as,[],h=>by simp [TA.erL] at h
 | a :: as,x :: xs,h=>by
  simp only [TA.erL,List.map_cons,List.cons.injEq] at h ⊢;refine ⟨?_,aOb h.2⟩;have h1:=h.1;cases a<;>simp only [TA.er,T.v.injEq,reduceCtorEq] at h1
  rw [h1]
theorem aHa (l:List Int):TA.vals ((l.map fun n=>TA.v (.int .i64 n)).flatMap TA.cells)=l.map (Value.int .i64):=by
 induction l with
 | nil=>rfl
 | cons x l ih =>
  simp only [List.map_cons,List.flatMap_cons,TA.cells,TA.vals,List.map_append,List.map_nil,TA.val1,List.singleton_append];simp only [TA.vals] at ih;rw [ih]
theorem aIt (q:Nat) (l:List Int):TA.cntL q (l.map fun n=>TA.v (.int .i64 n))=0:=by
 induction l with
 | nil=>rfl
 | cons x l ih=>simp only [List.map_cons,TA.cntL,TA.cnt,ih]
theorem aJh (Z:Nat→Prop) (h:Array Obj) (l:List Int):TA.HoldsL Z h (l.map fun n=>TA.v (.int .i64 n)):=by
 induction l with
 | nil=>simp [TA.HoldsL]
 | cons x l ih=>simp only [List.map_cons,TA.HoldsL,TA.Holds];exact ⟨trivial,ih⟩
theorem aPu {E : Env} {f : FuncId} (hne : ∀ (blk off cap : Nat) (zs : List Int) (w : World), Holds (Value.int .i64) w blk off zs.toArray → blk < w.heap.size → zs.length < 4611686018427387904 →
      Calls E.P f #[.slice (some ⟨blk, off, none⟩) zs.length cap] w fun e w' => e = .returned (.tuple #[]) ∧ ∃ n os, w' = grow (putRow (Value.int .i64) (Sort.ahead w n) blk off (zs.mergeSort fun x y => decide (x ≤ y)).toArray) os)
    (hnil : ∀ (p : Option Addr) (cap : Nat) (w : World), Calls E.P f #[.slice p 0 cap] w fun e w' => e = .returned (.tuple #[]) ∧ w' = w)
    (l : List Int) (hl : l.length < 4611686018427387904) : OkIO E f [.val (.sl true 1 (l.map fun n => T.v (.int .i64 n)))] [] [] [(0, .sl true 1 ((l.mergeSort fun x y => decide (x ≤ y)).map fun n => T.v (.int .i64 n)))] := by
  intro w Z as has hA hG;obtain ⟨a, rfl⟩ : ∃ a, as = [a] := by
    cases as with
    | nil => simp at has
    | cons a t =>
      cases t with
      | nil => exact ⟨a, rfl⟩
      | cons b t => simp at has
  simp only [List.map_cons, List.map_nil, List.cons.injEq, and_true] at has;have hHa := hA.holds a (by simp)
  cases a with
  | ptr b off cs => simp only [ArgA.er, reduceCtorEq] at has
  | val x =>
    simp only [ArgA.er, Arg.val.injEq] at has;cases x with
    | v x => simp only [TA.er, reduceCtorEq] at has
    | agg x => simp only [TA.er, reduceCtorEq] at has
    | dead x => simp only [TA.er, reduceCtorEq] at has
    | clo f cs => simp only [TA.er, reduceCtorEq] at has
    | pt b off cs => simp only [TA.er, reduceCtorEq] at has
    | nl o s A =>
      simp only [TA.er, T.sl.injEq] at has;obtain ⟨rfl, rfl, h3⟩ := has;have hl0 : l = [] := by cases l <;> simp_all
      subst hl0;refine (hnil A 0 w).mono fun e w' ⟨he, hw⟩ => ?_;subst hw;refine ⟨Z, [], [], [TA.nl true 1 A], he, rfl, rfl, by simp [TA.erL, TA.er], rfl, ?_⟩
      exact {
        holds := ⟨hHa, trivial⟩
        outs := trivial
        uniq := fun q => by simp [TA.cntL, TA.cnt, pcL, ArgA.pc]
        own := fun q hq => by simp [TA.cntL, TA.cnt] at hq
        zle := fun _ h => h
        zext := fun _ h => .inl h
        zlt := hA.zlt
        os := rfl
        tape := rfl
        output := rfl
        grown := Nat.le_refl _
        kept := fun q hq _ => rfl
        part := fun x hx => by simp [tD] at hx }
    | sl o s b off cap es =>
      simp only [TA.er, T.sl.injEq] at has;obtain ⟨rfl, rfl, h3⟩ := has;have hes := aOb h3;subst hes;obtain ⟨⟨cs, ety, fr, m1, m2, m3⟩, hc, _, _, _⟩ := hHa;obtain ⟨m4, rfl⟩ := m2 rfl;rw [aHa] at m3;rw [List.length_map] at hc;have hb : b < w.heap.size := (Array.getElem?_eq_some_iff.1 m1).1;have hHold : Sort.Holds (Value.int .i64) w b off l.toArray := by
        intro j hj;have hj' : j < l.length := by simpa using hj
        have := m3 j (.int .i64 l[j]) (by rw [List.getElem?_map, List.getElem?_eq_getElem hj']; rfl)
        refine ⟨?_, by simp [World.frozen?, m1]⟩
        simp only [World.cell?, m1];simp [this, hj']
      have hval : (ArgA.val (TA.sl true 1 b off cap (l.map fun n => TA.v (.int .i64 n)))).value = .slice (some ⟨b, off, none⟩) l.length cap := by
        simp [ArgA.value, TA.val, TA.val1]
      show Calls E.P f #[(ArgA.val (TA.sl true 1 b off cap (l.map fun n => TA.v (.int .i64 n)))).value] w _;rw [hval];refine (hne b off cap l w hHold hb hl).mono fun e w' ⟨he, n, os, hw⟩ => ?_;generalize hso : (l.mergeSort fun x y => decide (x ≤ y)) = so at *;have hsl : so.length = l.length := by rw [← hso]; exact List.length_mergeSort _
      have hheap : w'.heap[b]? = some (.cells (putCells (Value.int .i64) off so.toArray cs) ety (0, 0)) := by
        rw [hw, heap_grow_old _ _ (by simpa [putRow, mapBlock, Sort.ahead] using hb)]
        simp [putRow, mapBlock, Sort.ahead, Array.getElem?_modify, m1, onCells]
      have hgrown : w.heap.size ≤ w'.heap.size := by
        rw [hw];show w.heap.size ≤ ((putRow (Value.int .i64) (Sort.ahead w n) b off so.toArray).heap ++ os).size;simp [putRow, mapBlock, Sort.ahead]
      refine ⟨Z, [], [], [TA.sl true 1 b off cap (so.map fun n => TA.v (.int .i64 n))], he, rfl, rfl, ?_, ?_, ?_⟩
      · simp only [TA.erL, TA.er, TA.erL_map, List.map_map, List.map_cons, List.map_nil]
        rfl
      · have hv2 : ([ArgA.val (TA.sl true 1 b off cap (l.map fun n => TA.v (.int .i64 n)))].map ArgA.value)[0]? = some (Value.slice (some ⟨b, off, none⟩) l.length cap) := by
          simp only [List.map_cons, List.map_nil, List.getElem?_cons_zero, hval]
        simp only [List.map_cons, List.map_nil, List.getElem?_cons_zero, Option.getD_some, hval];simp [TA.val, TA.val1, hsl]
      have hinn : ∀ q, sH q [ArgA.val (TA.sl true 1 b off cap (l.map fun n => TA.v (.int .i64 n)))] = if b = q then 1 else 0 := by
        intro q;simp only [sH, ArgA.inn, TA.cnt, aIt];split <;> simp_all
      have hpc : ∀ q, pcL q [ArgA.val (TA.sl true 1 b off cap (l.map fun n => TA.v (.int .i64 n)))] = 0 := by
        intro q; simp [pcL, ArgA.pc]
      have hcnt : ∀ q, TA.cntL q ([] ++ [TA.sl true 1 b off cap (so.map fun n => TA.v (.int .i64 n))]) = if b = q then 1 else 0 := by
        intro q;simp only [List.nil_append, TA.cntL, TA.cnt, aIt];split <;> simp_all
      exact {
        holds := by
          simp only [List.nil_append, TA.HoldsL, TA.Holds, and_true];refine ⟨⟨_, ety, (0, 0), hheap, fun _ => ⟨by simpa [putCells] using m4, rfl⟩, fun j u hu => ?_⟩, by rw [List.length_map, hsl]; exact hc, by simp, aJh _ _ _, ?_⟩
          · rw [aHa] at hu;have hju : j < so.length := by
              have := (List.getElem?_eq_some_iff.1 hu).1;simpa using this
            have hlt : off + j < cs.size := by omega
            rw [List.getElem?_map, List.getElem?_eq_getElem hju] at hu;simp only [Option.map_some, Option.some.injEq] at hu;subst hu;simp [putCells, hlt, hju]
          intro e he;obtain ⟨x, _, rfl⟩ := List.mem_map.1 he
          rfl
        outs := by simp [tD, yL]
        uniq := fun q => by
          rw [hcnt, hpc];simp only [List.flatten_nil, TA.cntL];split <;> omega
        own := fun q hq => by
          rw [hcnt] at hq;simp only [List.flatten_nil, TA.cntL] at hq;have h1 : 0 < sH q [ArgA.val (TA.sl true 1 b off cap (l.map fun n => TA.v (.int .i64 n)))] := by
            rw [hinn]; omega
          exact ⟨.inl h1, hA.notZ q (by omega)⟩
        zle := fun _ h => h
        zext := fun _ h => .inl h
        zlt := fun q hq => Nat.lt_of_lt_of_le (hA.zlt q hq) hgrown
        os := by rw [hw]; rfl
        tape := by rw [hw]; rfl
        output := by rw [hw]; rfl
        grown := hgrown
        kept := fun q hq h0 => by
          rw [hinn] at h0;have hne' : ¬ b = q := by
            intro e;rw [if_pos e] at h0;omega
          rw [hw, heap_grow_old _ _ (by simpa [putRow, mapBlock, Sort.ahead] using hq)]
          simp [putRow, mapBlock, Sort.ahead, Array.getElem?_modify, hne']
        part := fun x hx => by simp [tD] at hx }
end Go.OM
