import Derived.Test.YtaikgmffaohobaaGreatDoorTC
set_option linter.unusedVariables false
set_option linter.unusedSimpArgs false
set_option linter.unusedVariables false
set_option linter.unusedSimpArgs false
namespace Go.OM
def paramB (x:GParam):Bool:=oX x.Name && inB x.Typ 1 4
def bodyB (p:GProgram) (f:GFn):Bool:=inB f.Body 0 ((p.Nodes.length:Int) - 1) && (match p.Nodes[f.Body.toNat]? with | some x=>x.Kind == 20 | none=>false)
def retB (p:GProgram) (f:GFn):Bool:=if f.Res=0 then f.Ret == -1 else inB f.Ret 0 ((p.Nodes.length:Int) - 1) && (match p.Nodes[f.Ret.toNat]? with | some x=>valueB x.Kind | none=>false)
def fnB (p:GProgram) (f:GFn):Bool:=oX f.Name && (!decide ((f.Params.length:Int) > 3) && (inB f.Res 0 2 && (f.Params.all paramB && (bodyB p f && retB p f))))
theorem bodyB_iff {p:GProgram} {f:GFn}:bodyB p f=true ↔ 0 ≤ f.Body∧f.Body < p.Nodes.length∧∃ x,p.Nodes[f.Body.toNat]? = some x∧x.Kind=20:=by
 unfold bodyB
 rw [Bool.and_eq_true,inB_iff]
 constructor
 ·rintro ⟨⟨h1,h2⟩,h3⟩
  refine ⟨h1,by omega,?_⟩
  split at h3
  ·rename_i x hx;exact ⟨x,hx,by simpa using h3⟩
  ·cases h3
 ·rintro ⟨h1,h2,x,hx,hk⟩
  refine ⟨⟨h1,by omega⟩,?_⟩
  rw [hx];simpa using hk
theorem body_step (p:GProgram) (f:GFn) (hn:p.Nodes.length ≤ 1048576) (g:Bool→Option Bool):(Option.bind (if (!(inB f.Body 0 ((p.Nodes.length:Int) - 1)))=true then some true else (getI p.Nodes f.Body).bind fun e=>some (e.Kind != 20)) fun v=>g v)=g (!(bodyB p f)):=by
 unfold bodyB
 cases h:inB f.Body 0 ((p.Nodes.length:Int) - 1) with
 | false=>rfl
 | true =>
  have h':=inB_iff.1 h
  have hlt:f.Body.toNat < p.Nodes.length:=by omega
  rw [eJ h'.1 (by omega),List.getElem?_eq_getElem hlt]
  rfl
theorem ret_step (p:GProgram) (f:GFn) (hn:p.Nodes.length ≤ 1048576):(if (f.Res == 0)=true then some (f.Ret == (-1)) else Option.bind (if inB f.Ret 0 ((p.Nodes.length:Int) - 1)=true then (getI p.Nodes f.Ret).bind fun e=>some (valueB e.Kind) else some false) fun v=>some v)=some (retB p f):=by
 unfold retB
 by_cases h0:f.Res=0
 ·rw [if_pos (by simpa using h0),if_pos h0]
 ·rw [if_neg (by simpa using h0),if_neg h0]
  cases h:inB f.Ret 0 ((p.Nodes.length:Int) - 1) with
  | false=>rfl
  | true =>
   have h':=inB_iff.1 h
   have hlt:f.Ret.toNat < p.Nodes.length:=by omega
   rw [eJ h'.1 (by omega),List.getElem?_eq_getElem hlt]
   rfl
theorem impl_fnOk_eq (p:GProgram) (f:GFn) (hn:p.Nodes.length ≤ 1048576):oD p f=some (fnB p f):=by
 unfold oD fnB
 simp only [lO,cN,oC,Option.bind_some,dQ hn]
 cases hnm:oX f.Name with
 | false=>rfl
 | true =>
  simp only [Bool.not_true,Bool.false_eq_true,if_false,Bool.true_and]
  by_cases hp3:(f.Params.length:Int) > 3
  ·rw [if_pos (by simpa using hp3),decide_eq_true hp3];rfl
  ·rw [if_neg (by simpa using hp3),decide_eq_false hp3]
   simp only [Bool.not_false,Bool.true_and]
   have hres:(if (f.Res != 0)=true then if (f.Res != 1)=true then some (f.Res != 2) else some false else some false)=some (!(inB f.Res 0 2)):=by
    by_cases h0:f.Res=0
    ·rw [h0];rfl
    ·by_cases h1:f.Res=1
     ·rw [h1];rfl
     ·by_cases h2:f.Res=2
      ·rw [h2];rfl
      ·have:inB f.Res 0 2=false:=inB_false.2 (by omega)
       simp [this,h0,h1,h2]
   rw [hres]
   cases hin:inB f.Res 0 2 with
   | false=>rfl
   | true =>
    simp only [Option.bind_some,Bool.not_true,Bool.false_eq_true,if_false,Bool.true_and]
    rw [nS f.Params paramB (gQ f) (fun k hk=>by
     simp only [gQ,aB hk,if_true,aD hk,Option.bind_some,lO,cN,aO hk (by omega)]
     unfold paramB
     cases oX f.Params[k].Name
     ·rfl
     ·cases inB f.Params[k].Typ 1 4<;>rfl) (by simp [gQ])]
    cases f.Params.all paramB with
    | false=>rfl
    | true =>
     simp only [if_true,Option.bind_some,Bool.true_and]
     rw [body_step p f hn]
     cases bodyB p f with
     | false=>rfl
     | true =>
      simp only [Bool.not_true,Bool.false_eq_true,if_false,Bool.true_and]
      exact ret_step p f hn
def fnAtQ (p:GProgram) (nm:ByteArray) (k:Nat):Option Int:=match p.Fns[k]? with
 | some f=>if sEq f.Name nm=true then some (k:Int) else none
 | none=>none
def jH (p:GProgram) (nm:ByteArray):Int:=((List.range p.Fns.length).findSome? (fnAtQ p nm)).getD (-1)
theorem oE (p:GProgram) (nm:ByteArray) (hp:p.Fns.length ≤ 1048576):mH p nm=some (jH p nm):=by
 unfold mH jH
 rw [find_range p.Fns.length (fnAtQ p nm) (gR p nm) (fun k hk=>by
  simp only [gR,aB hk,if_true,aD hk,Option.bind_some,aO hk hp]
  unfold fnAtQ
  rw [List.getElem?_eq_getElem hk]
  cases h:sEq p.Fns[k].Name nm<;>simp [h]) (by simp [gR])]
 cases (List.range p.Fns.length).findSome? (fnAtQ p nm)<;>rfl
theorem spec_FnAt_eq (p:GProgram) (nm:ByteArray) (hp:p.Fns.length ≤ 1048576):nM p nm=some (jH p nm):=oE p nm hp
theorem spec_l04Fn_eq (p:GProgram) (i:Nat) (hi:i < p.Fns.length) (hn:p.Nodes.length ≤ 1048576) (hp:p.Fns.length ≤ 1048576):lR p i=some (fnB p p.Fns[i] && jH p p.Fns[i].Name == i):=by
 unfold lR fnB
 simp only [aD hi,lK,cI,mX,spec_FnAt_eq p _ hp,Option.bind_some,dQ hn]
 generalize p.Fns[i]=f
 cases hnm:oX f.Name with
 | false=>rfl
 | true =>
  simp only [Bool.not_true,Bool.false_eq_true,if_false,Bool.true_and]
  cases hat:jH p f.Name == i with
  | false =>
   have:(jH p f.Name != i)=true:=by simp only [bne,hat,Bool.not_false]
   rw [this,Bool.and_false];rfl
  | true =>
   have:(jH p f.Name != i)=false:=by simp only [bne,hat,Bool.not_true]
   rw [this,Bool.and_true]
   simp only [Bool.false_eq_true,if_false]
   by_cases hp3:(f.Params.length:Int) > 3
   ·rw [if_pos (by simpa using hp3),decide_eq_true hp3];rfl
   ·rw [if_neg (by simpa using hp3),decide_eq_false hp3]
    simp only [Bool.not_false,Bool.true_and]
    cases hin:inB f.Res 0 2 with
    | false=>rfl
    | true =>
     simp only [Option.bind_some,Bool.not_true,Bool.false_eq_true,if_false,Bool.true_and]
     rw [nS f.Params paramB (fF f) (fun k hk=>by
      simp only [fF,aB hk,if_true,aD hk,Option.bind_some,lK,cI,aO hk (by omega)]
      unfold paramB
      cases oX f.Params[k].Name
      ·rfl
      ·cases inB f.Params[k].Typ 1 4<;>rfl) (by simp [fF])]
     cases f.Params.all paramB with
     | false=>rfl
     | true =>
      simp only [if_true,Option.bind_some,Bool.true_and]
      rw [body_step p f hn]
      cases bodyB p f with
      | false=>rfl
      | true =>
       simp only [Bool.not_true,Bool.false_eq_true,if_false,Bool.true_and]
       exact ret_step p f hn
def incs (d:Int) (l:List Int) (m:List Int):List Int:=l.foldl (fun m e=>m.set e.toNat (m.getD e.toNat 0 + d)) m
theorem incs_len (d:Int):∀ (l m:List Int),(incs d l m).length=m.length
 | [],m=>rfl
 | e :: l,m=>by
  show (incs d l (m.set e.toNat (m.getD e.toNat 0 + d))).length=_
  rw [incs_len d l];simp
theorem incs_append (d:Int) (a b m:List Int):incs d (a ++ b) m=incs d b (incs d a m):=by unfold incs;rw [List.foldl_append]
theorem incs_get (d:Int) (k:Nat):∀ (l m:List Int),(∀ e ∈ l,0 ≤ e∧e < m.length)→(incs d l m).getD k 0=m.getD k 0 + d * (l.count (k:Int):Nat)
 | [],m,_=>by simp [incs]
 | e :: l,m,h=>by
  have he:=h e (by simp)
  have ih:=incs_get d k l (m.set e.toNat (m.getD e.toNat 0 + d)) (fun x hx=>by rw [List.length_set];exact h x (by simp [hx]))
  show (incs d l (m.set e.toNat (m.getD e.toNat 0 + d))).getD k 0=_
  rw [ih,List.count_cons]
  by_cases hk:e.toNat=k
  ·have:(e == (k:Int))=true:=by simp only [beq_iff_eq];omega
   rw [if_pos this]
   have hg:(m.set e.toNat (m.getD e.toNat 0 + d)).getD k 0=m.getD k 0 + d:=by
    rw [List.getD_eq_getElem?_getD,List.getElem?_set,if_pos hk,if_pos (by omega),hk];rfl
   rw [hg,Int.natCast_add,Int.mul_add]
   simp only [Int.natCast_one,Int.mul_one]
   omega
  ·have:¬ (e == (k:Int))=true:=by simp only [beq_iff_eq];omega
   rw [if_neg this]
   have hg:(m.set e.toNat (m.getD e.toNat 0 + d)).getD k 0=m.getD k 0:=by
    rw [List.getD_eq_getElem?_getD,List.getElem?_set,if_neg hk,← List.getD_eq_getElem?_getD]
   rw [hg];rfl
structure Bd (n:Nat) (C:Int) (m:List Int):Prop where
 len:m.length=n
 bnd:∀ v ∈ m,0 ≤ v∧v ≤ C
theorem Bd.mono {n:Nat} {C C':Int} {m:List Int} (h:Bd n C m) (hc:C ≤ C'):Bd n C' m:=⟨h.len,fun v hv=>by have:=h.bnd v hv;omega⟩
theorem Bd.getD {n:Nat} {C:Int} {m:List Int} (h:Bd n C m) (hC:0 ≤ C) (k:Nat):0 ≤ m.getD k 0∧m.getD k 0 ≤ C:=by
 rw [List.getD_eq_getElem?_getD]
 cases hk:m[k]? with
 | none=>exact ⟨Int.le_refl 0,hC⟩
 | some v=>exact h.bnd v (List.mem_of_getElem? hk)
theorem Bd.set {n:Nat} {C d:Int} {m:List Int} (h:Bd n C m) (hC:0 ≤ C) (hd:0 ≤ d) (k:Nat):Bd n (C + d) (m.set k (m.getD k 0 + d)):=⟨by rw [List.length_set];exact h.len,fun v hv=>by
 rcases List.mem_or_eq_of_mem_set hv with h1 | h1
 ·have:=h.bnd v h1;omega
 ·have:=h.getD hC k;omega⟩
theorem Bd.incs {n:Nat} {d:Int} (hd:0 ≤ d):∀ (l:List Int) {C:Int} {m:List Int},0 ≤ C→Bd n C m→Bd n (C + d * l.length) (Go.OM.incs d l m)
 | [],C,m,hC,h=>by simpa [Go.OM.incs] using h
 | e :: l,C,m,hC,h=>by
  have:=Bd.incs hd l (C:=C + d) (by omega) (h.set hC hd e.toNat)
  refine this.mono ?_
  rw [List.length_cons,Int.natCast_add,Int.mul_add]
  simp only [Int.natCast_one,Int.mul_one]
  omega
theorem inc_loop {ρ:Type} (n:Nat) (kids:List Int) (hk:∀ e ∈ kids,0 ≤ e∧e < n) (C:Int) (hC:0 ≤ C) (f:List Int × Int→Option ((List Int × Int) ⊕ ρ)) (fin:List Int→ρ)
  (hf:∀ (m:List Int) (j:Nat) (hj:j < kids.length),Bd n (C + kids.length) m→f (m,j)=some (.inl (m.set kids[j].toNat (m.getD kids[j].toNat 0 + 1),((j + 1:Nat):Int))))
  (he:∀ m:List Int,f (m,kids.length)=some (.inr (fin m))) (m:List Int) (hm:Bd n C m):aG f (m,0)=some (fin (incs 1 kids m)):=by
 have:=fJ kids (fun (m:List Int) j=>(m,(j:Int))) (fun j m=>Bd n (C + j) m) (fun m e=>.inl (m.set e.toNat (m.getD e.toNat 0 + 1))) fin f (fun m j hj hI=>by
  left
  refine ⟨_,rfl,hf m j hj (hI.mono (by omega)),?_⟩
  have:=hI.set (by omega) (show (0:Int) ≤ 1 by omega) kids[j].toNat
  exact this.mono (by omega)) (fun m _=>he m) m (by simpa using hm)
 rw [gF] at this
 exact this
def kidAll (nodes:List GNode):List Int:=nodes.flatMap (·.Kids)
def kc (nodes:List GNode) (k:Nat):Nat:=(kidAll nodes).count (k:Int)
theorem qG {nodes:List GNode} (h:okU nodes nodes.length=true) {x:GNode} (hx:x ∈ nodes):x.Kids.length ≤ 12∧(∀ e ∈ x.Kids,0 ≤ e∧e < nodes.length)∧x.Kids.Nodup:=by
 obtain ⟨i,hi,rfl⟩:=List.mem_iff_getElem.1 hx
 have hn:=(pG h hi).1
 have hg:nodes[i]? = some nodes[i]:=List.getElem?_eq_getElem hi
 refine ⟨lD hn hg,fun e he=>?_,?_⟩
 ·have:=lX hn hg e he;omega
 ·obtain ⟨_,_,_,h3,_⟩:=nP hn
  rw [List.nodup_iff_pairwise_ne,List.pairwise_iff_getElem]
  intro a b ha hb hab e
  refine (h3 b hb).2.1 ?_
  rw [← e]
  refine List.mem_iff_getElem.2 ⟨a,by simp only [List.length_take];omega,?_⟩
  rw [List.getElem_take]
theorem kc_le {nodes:List GNode} (h:okU nodes nodes.length=true) (k:Nat):kc nodes k ≤ nodes.length:=by
 have key:∀ l:List GNode,(∀ x ∈ l,x.Kids.Nodup)→(l.flatMap (·.Kids)).count (k:Int) ≤ l.length:=by
  intro l
  induction l with
  | nil=>intro _;simp
  | cons x l ih =>
   intro hl
   rw [List.flatMap_cons,List.count_append,List.length_cons]
   have h1:=ih fun y hy=>hl y (by simp [hy])
   have h2:=List.nodup_iff_count.1 (hl x (by simp)) (k:Int)
   omega
 exact key nodes fun x hx=>(qG h hx).2.2
theorem kids_loop (nodes:List GNode) (hok:okU nodes nodes.length=true) (hn:nodes.length ≤ 300) (f:List Int × Int→Option ((List Int × Int) ⊕ List Int))
  (hf:∀ (m:List Int) (i:Nat) (hi:i < nodes.length),Bd nodes.length (12 * i) m→f (m,i)=some (.inl (incs 1 nodes[i].Kids m,((i + 1:Nat):Int))))
  (he:∀ m:List Int,f (m,nodes.length)=some (.inr m)):aG f (List.replicate nodes.length 0,0)=some (incs 1 (kidAll nodes) (List.replicate nodes.length 0)):=by
 have:=fJ nodes (fun (m:List Int) j=>(m,(j:Int))) (fun j m=>Bd nodes.length (12 * j) m) (fun m x=>.inl (incs 1 x.Kids m)) id f (fun m j hj hI=>by
  left
  refine ⟨_,rfl,hf m j hj hI,?_⟩
  have h12:=(qG hok (List.getElem_mem hj)).1
  have:=Bd.incs (show (0:Int) ≤ 1 by omega) nodes[j].Kids (by omega) hI
  exact this.mono (by omega)) (fun m _=>he m) (List.replicate nodes.length 0) ⟨by simp,fun v hv=>by
   have:=(List.mem_replicate.1 hv).2
   omega⟩
 rw [gF] at this
 have e:∀ (l:List GNode) (m:List Int),l.foldl (fun m x=>incs 1 x.Kids m) m=incs 1 (l.flatMap (·.Kids)) m:=by
  intro l
  induction l with
  | nil=>intro m;rfl
  | cons x l ih=>intro m;rw [List.foldl_cons,List.flatMap_cons,incs_append,ih]
 rw [e] at this
 exact this
def met0 (nodes:List GNode):List Int:=incs 1 (kidAll nodes) (List.replicate nodes.length 0)
theorem qI (nodes:List GNode):(met0 nodes).length=nodes.length:=by unfold met0;rw [incs_len];simp
theorem oN {nodes:List GNode} (h:okU nodes nodes.length=true) (k:Nat):(met0 nodes).getD k 0=(kc nodes k:Nat):=by
 unfold met0
 rw [incs_get 1 k _ _ (fun e he=>by
  obtain ⟨x,hx,hm⟩:=List.mem_flatMap.1 he
  rw [List.length_replicate]
  exact (qG h hx).2.1 e hm)]
 have:(List.replicate nodes.length (0:Int)).getD k 0=0:=by
  rw [List.getD_eq_getElem?_getD,List.getElem?_replicate];split<;>rfl
 rw [this]
 unfold kc
 omega
theorem impl_met (p:GProgram) (hok:okU p.Nodes p.Nodes.length=true) (hn:p.Nodes.length ≤ 300):aG (cR p) (List.replicate p.Nodes.length 0,0)=some (met0 p.Nodes):=by
 refine kids_loop p.Nodes hok hn _ (fun m i hi hI=>?_) (fun m=>by simp [cR])
 obtain ⟨h12,hb,_⟩:=qG hok (List.getElem_mem hi)
 simp only [cR,aB hi,if_true,aD hi,Option.bind_some]
 rw [inc_loop p.Nodes.length p.Nodes[i].Kids hb (12 * i) (by omega) (cQ p.Nodes[i]) id (fun m j hj hm=>by
  have hbe:=hb _ (List.getElem_mem hj)
  have hg:=hm.getD (by omega) p.Nodes[i].Kids[j].toNat
  simp only [cQ,aB hj,if_true,aD hj,Option.bind_some]
  rw [eJ hbe.1 (by rw [hm.len];exact hbe.2)]
  have hlt:p.Nodes[i].Kids[j].toNat < m.length:=by rw [hm.len];omega
  have e:m[p.Nodes[i].Kids[j].toNat]=m.getD p.Nodes[i].Kids[j].toNat 0:=by rw [List.getD_eq_getElem?_getD,List.getElem?_eq_getElem hlt];rfl
  rw [e]
  simp only [Option.bind_some,bP,w64 (n:=m.getD p.Nodes[i].Kids[j].toNat 0 + 1) (by omega) (by omega),aO hj (show p.Nodes[i].Kids.length ≤ 1048576 by omega)]) (fun m=>by simp [cQ]) m hI]
 simp only [Option.bind_some,id,aO hi (show p.Nodes.length ≤ 1048576 by omega)]
theorem spec_met (nodes:List GNode) (hok:okU nodes nodes.length=true) (hn:nodes.length ≤ 300):iO nodes=some (met0 nodes):=by
 unfold iO
 rw [nQ _ _ _ (by omega) (by omega)]
 simp only [Option.bind_some]
 rw [kids_loop nodes hok hn (dU nodes) (fun m i hi hI=>by
  obtain ⟨h12,hb,_⟩:=qG hok (List.getElem_mem hi)
  simp only [dU,aB hi,if_true]
  rw [inc_loop nodes.length nodes[i].Kids hb (12 * i) (by omega) (dS nodes i) id (fun m j hj hm=>by
   have hbe:=hb _ (List.getElem_mem hj)
   have hg:=hm.getD (by omega) nodes[i].Kids[j].toNat
   simp only [dS,aD hi,aB hj,if_true,aD hj,Option.bind_some]
   rw [eJ hbe.1 (by rw [hm.len];exact hbe.2)]
   have hlt:nodes[i].Kids[j].toNat < m.length:=by rw [hm.len];omega
   have e:m[nodes[i].Kids[j].toNat]=m.getD nodes[i].Kids[j].toNat 0:=by rw [List.getD_eq_getElem?_getD,List.getElem?_eq_getElem hlt];rfl
   rw [e]
   simp only [Option.bind_some,bP,w64 (n:=m.getD nodes[i].Kids[j].toNat 0 + 1) (by omega) (by omega),aO hj (show nodes[i].Kids.length ≤ 1048576 by omega)]) (fun m=>by simp [dS,aD hi]) m hI]
  simp only [Option.bind_some,id,aO hi (show nodes.length ≤ 1048576 by omega)]) (fun m=>by simp [dU])]
 rfl
def jP (f:GFn):List Int:=if f.Ret < 0 then [f.Body] else [f.Body,f.Ret]
def pC (p:GProgram) (n:Nat):List Int:=(p.Fns.take n).flatMap jP
def jL (p:GProgram):List Int:=p.Fns.flatMap jP
theorem rootsT_all (p:GProgram):pC p p.Fns.length=jL p:=by unfold pC jL;rw [List.take_length]
theorem rootsT_succ (p:GProgram) {n:Nat} (h:n < p.Fns.length):pC p (n + 1)=pC p n ++ jP p.Fns[n]:=by
 unfold pC
 rw [List.take_add_one,List.getElem?_eq_getElem h,List.flatMap_append];simp
def lP (p:GProgram) (i:Nat):Bool:=match p.Fns[i]? with
 | some f=>fnB p f && jH p f.Name == i
 | none=>false
theorem goodF_at {p:GProgram} {i:Nat} (h:i < p.Fns.length):lP p i=(fnB p p.Fns[i] && jH p p.Fns[i].Name == i):=by unfold lP;rw [List.getElem?_eq_getElem h]
theorem fnB_roots {p:GProgram} {f:GFn} (h:fnB p f=true):(∀ e ∈ jP f,0 ≤ e∧e < p.Nodes.length)∧0 ≤ f.Body∧f.Body < p.Nodes.length∧f.Ret < p.Nodes.length:=by
 unfold fnB at h
 simp only [Bool.and_eq_true] at h
 obtain ⟨_,_,_,_,h5,h6⟩:=h
 obtain ⟨b1,b2,_⟩:=bodyB_iff.1 h5
 have hr:f.Ret < p.Nodes.length:=by
  unfold retB at h6
  split at h6
  ·simp only [beq_iff_eq] at h6;omega
  ·rw [Bool.and_eq_true,inB_iff] at h6;omega
 refine ⟨?_,b1,b2,hr⟩
 intro e he
 unfold jP at he
 split at he
 ·simp only [List.mem_singleton] at he;subst he;exact ⟨b1,b2⟩
 ·simp only [List.mem_cons,List.not_mem_nil,or_false] at he
  rcases he with rfl | rfl
  ·exact ⟨b1,b2⟩
  ·exact ⟨by omega,hr⟩
def kY:List Int→List Int→Option (List Int)
 | [],m=>some m
 | r :: rs,m=>if m.getD r.toNat 0=0 then kY rs (m.set r.toNat (-1)) else none
theorem nR:∀ (a b m:List Int),kY (a ++ b) m=(kY a m).bind (kY b)
 | [],b,m=>rfl
 | r :: a,b,m=>by
  simp only [List.cons_append,kY]
  split
  ·exact nR a b _
  ·rfl
theorem markR_spec (n:Nat):∀ (rs m:List Int),m.length=n→(∀ r ∈ rs,0 ≤ r∧r < n) →
  (match kY rs m with
   | some m'=>(rs.Nodup∧∀ r ∈ rs,m.getD r.toNat 0=0)∧m'.length=n∧∀ k:Nat,m'.getD k 0=if (k:Int) ∈ rs then -1 else m.getD k 0
   | none=>¬ (rs.Nodup∧∀ r ∈ rs,m.getD r.toNat 0=0))
 | [],m,hm,_=>by simp [kY,hm]
 | r :: rs,m,hm,h=>by
  have hr:=h r (by simp)
  simp only [kY]
  by_cases h0:m.getD r.toNat 0=0
  ·rw [if_pos h0]
   have ih:=markR_spec n rs (m.set r.toNat (-1)) (by rw [List.length_set];exact hm) (fun x hx=>h x (by simp [hx]))
   have hget:∀ k:Nat,(m.set r.toNat (-1)).getD k 0=if (k:Int)=r then -1 else m.getD k 0:=by
    intro k
    rw [List.getD_eq_getElem?_getD,List.getElem?_set]
    by_cases hk:r.toNat=k
    ·rw [if_pos hk,if_pos (by omega),if_pos (by omega)];rfl
    ·rw [if_neg hk,if_neg (by omega),← List.getD_eq_getElem?_getD]
   have hre:∀ x ∈ rs,((x.toNat:Nat):Int)=x:=fun x hx=>by have:=h x (by simp [hx]);omega
   split at ih
   ·rename_i m' hm'
    try rw [hm']
    obtain ⟨⟨i1,i2⟩,i3,i4⟩:=ih
    have hnr:r ∉ rs:=fun hm=>by
     have:=i2 r hm
     rw [hget,hre r hm,if_pos rfl] at this
     omega
    refine ⟨⟨List.nodup_cons.2 ⟨hnr,i1⟩,fun x hx=>?_⟩,i3,fun k=>?_⟩
    ·rcases List.mem_cons.1 hx with rfl | hx
     ·exact h0
     ·have:=i2 x hx
      rw [hget,hre x hx] at this
      split at this
      ·omega
      ·exact this
    ·rw [i4,hget]
     by_cases h1:(k:Int) ∈ rs
     ·rw [if_pos h1,if_pos (by simp [h1])]
     ·rw [if_neg h1]
      by_cases h2:(k:Int)=r
      ·rw [if_pos h2,if_pos (by simp [h2])]
      ·rw [if_neg h2,if_neg (by simp [h1,h2])]
   ·rename_i hm'
    try rw [hm']
    rintro ⟨j1,j2⟩
    rw [List.nodup_cons] at j1
    refine ih ⟨j1.2,fun x hx=>?_⟩
    rw [hget,hre x hx]
    have:¬ x=r:=fun e=>j1.1 (e ▸ hx)
    rw [if_neg this]
    exact j2 x (by simp [hx])
  ·rw [if_neg h0]
   rintro ⟨_,j2⟩
   exact h0 (j2 r (by simp))
def usedB (n:Nat):Bool:=n == 1 || n == 1000
def progB (p:GProgram):Bool:=inB p.Nodes.length 1 300 && (inB p.Fns.length 1 8 && (okU p.Nodes p.Nodes.length && ((List.range p.Fns.length).all (lP p) && (List.range p.Nodes.length).all fun k=>usedB (kc p.Nodes k + 1000 * (jL p).count (k:Int)))))
theorem deepB_last {nodes:List GNode} (h:1 ≤ nodes.length):(deepB nodes ((nodes.length:Int) - 1) == 0) = !(okU nodes nodes.length):=by
 unfold deepB
 have e:((nodes.length:Int) - 1).toNat=nodes.length - 1:=by omega
 rw [e,show nodes.length - 1 + 1=nodes.length by omega]
 cases hok:okU nodes nodes.length with
 | true =>
  rw [if_pos ⟨by omega,by omega,rfl⟩]
  have:=oT nodes (nodes.length - 1)
  have hne:¬ dval nodes (nodes.length - 1)=0:=by omega
  simp [hne]
 | false=>rw [if_neg (fun h=>by cases h.2.2)];rfl
theorem impl_l4_eq (p:GProgram) (f:GFn) (hf:fnB p f=true) (m:List Int) (hm:m.length=p.Nodes.length):aG (aI f) (m,0)=some (match kY (jP f) m with | some m'=>.inl m' | none=>.inr (.inr (.inr false))):=by
 obtain ⟨_,b0,b1,r1⟩:=fnB_roots hf
 have hl:(([f.Body,f.Ret]:List Int).length:Int)=2:=rfl
 have g0:getI [f.Body,f.Ret] 0=some f.Body:=rfl
 have g1:getI [f.Body,f.Ret] 1=some f.Ret:=rfl
 have d0:decide ((0:Int) < 2)=true:=rfl
 have d1:decide ((1:Int) < 2)=true:=rfl
 have d2:decide ((2:Int) < 2)=false:=rfl
 have w0:IntKind.wrap .i64 ((0:Int) + 1)=1:=rfl
 have w1:IntKind.wrap .i64 ((1:Int) + 1)=2:=rfl
 have hgd:∀ (m:List Int) (v:Int),m.length=p.Nodes.length→0 ≤ v→v < p.Nodes.length→getI m v=some (m.getD v.toNat 0):=fun m v hm h0 h1=>by
  have hlt:v.toNat < m.length:=by omega
  rw [eJ h0 (by omega),List.getD_eq_getElem?_getD,List.getElem?_eq_getElem hlt];rfl
 have step1:∀ m:List Int,m.length=p.Nodes.length→aG (aI f) (m,1)=some (match kY (if f.Ret < 0 then [] else [f.Ret]) m with | some m'=>.inl m' | none=>.inr (.inr (.inr false))):=by
  intro m hm
  by_cases hr:f.Ret < 0
  ·have:aI f (m,1)=some (.inl (m,2)):=by
    simp only [aI,hl,d1,if_true,g1,Option.bind_some,w1]
    rw [if_pos (by simpa using hr)]
   rw [lY this,if_pos hr,fZ (r:=.inl m) (by simp only [aI,hl,d2,Bool.false_eq_true,if_false])]
   rfl
  ·rw [if_neg hr]
   simp only [kY]
   by_cases hz:m.getD f.Ret.toNat 0=0
   ·have:aI f (m,1)=some (.inl (m.set f.Ret.toNat (-1),2)):=by
     simp only [aI,hl,d1,if_true,g1,Option.bind_some,w1]
     rw [if_neg (by simpa using hr),hgd m f.Ret hm (by omega) r1]
     simp only [Option.bind_some,hz,bP]
     rfl
    rw [lY this,if_pos hz,fZ (r:=.inl (m.set f.Ret.toNat (-1))) (by simp only [aI,hl,d2,Bool.false_eq_true,if_false])]
   ·have:aI f (m,1)=some (.inr (.inr (.inr (.inr false)))):=by
     simp only [aI,hl,d1,if_true,g1,Option.bind_some,w1]
     rw [if_neg (by simpa using hr),hgd m f.Ret hm (by omega) r1]
     simp only [Option.bind_some]
     rw [if_pos (by simpa using hz)]
    rw [fZ this,if_neg hz]
 have hsplit:jP f=f.Body :: (if f.Ret < 0 then [] else [f.Ret]):=by unfold jP;split<;>rfl
 rw [hsplit]
 simp only [kY]
 have hb:¬ f.Body < 0:=by omega
 by_cases hz:m.getD f.Body.toNat 0=0
 ·have:aI f (m,0)=some (.inl (m.set f.Body.toNat (-1),1)):=by
   simp only [aI,hl,d0,if_true,g0,Option.bind_some,w0]
   rw [if_neg (by simpa using hb),hgd m f.Body hm b0 b1]
   simp only [Option.bind_some,hz,bP]
   rfl
  rw [lY this,if_pos hz,step1 _ (by rw [List.length_set];exact hm)]
 ·have:aI f (m,0)=some (.inr (.inr (.inr (.inr false)))):=by
   simp only [aI,hl,d0,if_true,g0,Option.bind_some,w0]
   rw [if_neg (by simpa using hb),hgd m f.Body hm b0 b1]
   simp only [Option.bind_some]
   rw [if_pos (by simpa using hz)]
  rw [fZ this,if_neg hz]
theorem markR_len:∀ (rs m:List Int) {m':List Int},kY rs m=some m'→m'.length=m.length
 | [],m,m',h=>by cases h;rfl
 | r :: rs,m,m',h=>by
  simp only [kY] at h
  split at h
  ·rw [markR_len rs _ h];simp
  ·cases h
theorem impl_l3_eq (p:GProgram) (hn:p.Nodes.length ≤ 300) (hp:p.Fns.length ≤ 8) (m0:List Int) (hm0:m0.length=p.Nodes.length):aG (bM p) (m0,0)=some (if (List.range p.Fns.length).all (lP p)=true then (match kY (jL p) m0 with | some m=>.inl m | none=>.inr false) else .inr false):=by
 obtain ⟨r,h1,h2⟩:=bC (f:=bM p) (fun s:List Int × Int=>∃ i:Nat,s.2=i∧i ≤ p.Fns.length∧(∀ j,j < i→lP p j=true)∧kY (pC p i) m0=some s.1) (fun s=>p.Fns.length - s.2.toNat) (fun r=>r=if (List.range p.Fns.length).all (lP p)=true then (match kY (jL p) m0 with | some m=>.inl m | none=>.inr false) else .inr false) (by
  rintro ⟨m,i⟩ ⟨i,rfl,hi,hg,hm⟩
  simp only at hm hi
  have hml:m.length=p.Nodes.length:=by rw [markR_len _ _ hm];exact hm0
  by_cases hlt:i < p.Fns.length
  ·have hbad:(lP p i=false)→(List.range p.Fns.length).all (lP p)=false:=by
    intro hb
    rw [Bool.eq_false_iff]
    intro h
    rw [List.all_eq_true.1 h i (List.mem_range.2 hlt)] at hb
    cases hb
   have hgi:=goodF_at hlt
   have hcond:(Option.bind (if (!(fnB p p.Fns[i]))=true then some true else some (jH p p.Fns[i].Name != (i:Int))) fun v:Bool=>some v)=some (!(lP p i)):=by
    rw [hgi];cases fnB p p.Fns[i]<;>rfl
   have hcond2:(if (!(fnB p p.Fns[i]))=true then some true else some (jH p p.Fns[i].Name != (i:Int)))=some (!(lP p i)):=by
    rw [hgi];cases fnB p p.Fns[i]<;>rfl
   simp only [bM,aB hlt,if_true,aD hlt,Option.bind_some,impl_fnOk_eq p _ (show p.Nodes.length ≤ 1048576 by omega),oE p _ (show p.Fns.length ≤ 1048576 by omega),hcond2]
   cases hgb:lP p i with
   | false =>
    right
    refine ⟨.inr false,rfl,?_⟩
    rw [hbad hgb];rfl
   | true =>
    simp only [Bool.not_true,Bool.false_eq_true,if_false]
    have hfb:fnB p p.Fns[i]=true:=by rw [hgi,Bool.and_eq_true] at hgb;exact hgb.1
    rw [impl_l4_eq p _ hfb m hml]
    simp only [Option.bind_some]
    have hsucc:kY (pC p (i + 1)) m0=kY (jP p.Fns[i]) m:=by
     rw [rootsT_succ p hlt,nR,hm];rfl
    cases hmr:kY (jP p.Fns[i]) m with
    | some m' =>
     left
     refine ⟨(m',((i + 1:Nat):Int)),by simp only [aO hlt (show p.Fns.length ≤ 1048576 by omega)],⟨i + 1,rfl,by omega,fun j hj=>?_,by rw [hsucc];exact hmr⟩,by simp only [Int.toNat_natCast];omega⟩
     by_cases e:j=i
     ·subst e;exact hgb
     ·exact hg j (by omega)
    | none =>
     right
     refine ⟨.inr false,rfl,?_⟩
     have:kY (jL p) m0=none:=by
      have hsp:jL p=pC p (i + 1) ++ (p.Fns.drop (i + 1)).flatMap jP:=by
       unfold jL pC
       rw [← List.flatMap_append,List.take_append_drop]
      rw [hsp,nR,hsucc,hmr];rfl
     rw [this];split<;>rfl
  ·right
   have:i=p.Fns.length:=by omega
   subst this
   refine ⟨.inl m,by simp [bM],?_⟩
   rw [if_pos (List.all_eq_true.2 fun j hj=>hg j (List.mem_range.1 hj)),← rootsT_all,hm]) (m0,0) ⟨0,rfl,by omega,fun j hj=>by omega,rfl⟩
 rw [h1,h2]
theorem range_count (n:Nat) (m:List Int) (q:Int→Bool) (hm:m.length=n):m.all q=(List.range n).all fun k=>q (m.getD k 0):=by
 rw [Bool.eq_iff_iff,List.all_eq_true,List.all_eq_true]
 constructor
 ·intro h k hk
  have hk':k < m.length:=by rw [hm];exact List.mem_range.1 hk
  rw [List.getD_eq_getElem?_getD,List.getElem?_eq_getElem hk']
  exact h _ (List.getElem_mem hk')
 ·intro h v hv
  obtain ⟨k,hk,rfl⟩:=List.mem_iff_getElem.1 hv
  have:=h k (List.mem_range.2 (by omega))
  rw [List.getD_eq_getElem?_getD,List.getElem?_eq_getElem hk] at this
  exact this
theorem roots_bnd {p:GProgram} (h:(List.range p.Fns.length).all (lP p)=true):∀ e ∈ jL p,0 ≤ e∧e < p.Nodes.length:=by
 intro e he
 obtain ⟨f,hf,hm⟩:=List.mem_flatMap.1 he
 obtain ⟨i,hi,rfl⟩:=List.mem_iff_getElem.1 hf
 have:=List.all_eq_true.1 h i (List.mem_range.2 hi)
 rw [goodF_at hi,Bool.and_eq_true] at this
 exact (fnB_roots this.1).1 e hm
theorem impl_ProgramOk_eq (p:GProgram) (hn:p.Nodes.length ≤ 1048576) (hp:p.Fns.length ≤ 1048576):gE p=some (progB p):=by
 unfold gE progB
 simp only [cN,Option.bind_some,dQ hn,pI p.Nodes hn]
 cases h1:inB p.Nodes.length 1 300 with
 | false=>rfl
 | true =>
  have h1':=inB_iff.1 h1
  cases h2:inB p.Fns.length 1 8 with
  | false=>rfl
  | true =>
   have h2':=inB_iff.1 h2
   simp only [Bool.not_true,Bool.false_eq_true,if_false,Bool.true_and,Option.bind_some,deepB_last (show 1 ≤ p.Nodes.length by omega)]
   cases h3:okU p.Nodes p.Nodes.length with
   | false=>rfl
   | true =>
    simp only [Bool.not_true,Bool.false_eq_true,if_false,Bool.true_and]
    rw [nQ _ _ _ (by omega) (by omega)]
    simp only [Option.bind_some]
    rw [impl_met p h3 (by omega)]
    simp only [Option.bind_some]
    rw [impl_l3_eq p (by omega) (by omega) _ (qI _)]
    cases h4:(List.range p.Fns.length).all (lP p) with
    | false=>rfl
    | true =>
     simp only [if_true,Option.bind_some,Bool.true_and]
     have hb:=roots_bnd h4
     have hsp:=markR_spec p.Nodes.length (jL p) (met0 p.Nodes) (qI _) hb
     have hmet:∀ r ∈ jL p,(met0 p.Nodes).getD r.toNat 0=(kc p.Nodes r.toNat:Nat):=fun r _=>oN h3 _
     cases hmr:kY (jL p) (met0 p.Nodes) with
     | none =>
      rw [hmr] at hsp
      simp only at hsp ⊢
      congr 1
      rw [eq_comm,Bool.eq_false_iff]
      intro hall
      rw [List.all_eq_true] at hall
      refine hsp ⟨List.nodup_iff_count.2 fun a=>?_,fun r hr=>?_⟩
      ·by_cases ha:a ∈ jL p
       ·have hab:=hb a ha
        have:=hall a.toNat (List.mem_range.2 (by omega))
        rw [show ((a.toNat:Nat):Int)=a by omega] at this
        simp only [usedB,Bool.or_eq_true,beq_iff_eq] at this
        omega
       ·rw [List.count_eq_zero.2 ha];omega
      ·have hrb:=hb r hr
       have:=hall r.toNat (List.mem_range.2 (by omega))
       rw [show ((r.toNat:Nat):Int)=r by omega] at this
       simp only [usedB,Bool.or_eq_true,beq_iff_eq] at this
       have hc:=List.count_pos_iff.2 hr
       rw [oN h3]
       omega
     | some m =>
      rw [hmr] at hsp
      obtain ⟨⟨s1,s2⟩,s3,s4⟩:=hsp
      simp only
      rw [nS m (fun v=>v == 1 || v == -1) (cP m) (fun k hk=>by
       simp only [cP,aB hk,if_true,aD hk,Option.bind_some,aO hk (show m.length ≤ 1048576 by omega)]
       by_cases e1:m[k]=1
       ·simp [e1]
       ·by_cases e2:m[k] = -1<;>simp [e1,e2]) (by simp [cP])]
      have hfin:m.all (fun v=>v == 1 || v == -1)=(List.range p.Nodes.length).all fun k=>usedB (kc p.Nodes k + 1000 * (jL p).count (k:Int)):=by
       rw [range_count p.Nodes.length m _ s3,Bool.eq_iff_iff,List.all_eq_true,List.all_eq_true]
       have each:∀ k,k < p.Nodes.length→((m.getD k 0 == 1 || m.getD k 0 == -1)=true ↔ usedB (kc p.Nodes k + 1000 * (jL p).count (k:Int))=true):=by
        intro k hk
        have hkc:=kc_le h3 k
        rw [s4,oN h3]
        simp only [usedB,Bool.or_eq_true,beq_iff_eq]
        by_cases hm:(k:Int) ∈ jL p
        ·rw [if_pos hm]
         have hc:=List.count_pos_iff.2 hm
         have hc1:=List.nodup_iff_count.1 s1 (k:Int)
         have:=s2 _ hm
         rw [Int.toNat_natCast,oN h3] at this
         omega
        ·rw [if_neg hm,List.count_eq_zero.2 hm]
         omega
       constructor
       ·intro h k hk;exact (each k (List.mem_range.1 hk)).1 (h k hk)
       ·intro h k hk;exact (each k (List.mem_range.1 hk)).2 (h k hk)
      rw [hfin]
      cases (List.range p.Nodes.length).all fun k=>usedB (kc p.Nodes k + 1000 * (jL p).count (k:Int))<;>rfl
theorem spec_l1_step (p:GProgram) (hn:p.Nodes.length ≤ 300) (hp:p.Fns.length ≤ 8) (C:Int) (hC:0 ≤ C) (hC2:C ≤ 1000000) (m:List Int) (hm:Bd p.Nodes.length C m) (i:Nat) (hi:i < p.Fns.length):bB p (m,i)=some (if lP p i=true then .inl (incs 1000 (jP p.Fns[i]) m,((i + 1:Nat):Int)) else .inr (.inr false)):=by
 simp only [bB,aB hi,if_true,spec_l04Fn_eq p i hi (show p.Nodes.length ≤ 1048576 by omega) (show p.Fns.length ≤ 1048576 by omega),Option.bind_some,aD hi]
 rw [← goodF_at hi]
 cases hg:lP p i with
 | false=>rfl
 | true =>
  simp only [Bool.not_true,Bool.false_eq_true,if_false,if_true]
  have hfb:fnB p p.Fns[i]=true:=by rw [goodF_at hi,Bool.and_eq_true] at hg;exact hg.1
  obtain ⟨_,b0,b1,r1⟩:=fnB_roots hfb
  generalize p.Fns[i]=f at *
  have hgd:∀ (m:List Int) (v:Int),m.length=p.Nodes.length→0 ≤ v→v < p.Nodes.length→getI m v=some (m.getD v.toNat 0):=fun m v hm h0 h1=>by
   have hlt:v.toNat < m.length:=by omega
   rw [eJ h0 (by omega),List.getD_eq_getElem?_getD,List.getElem?_eq_getElem hlt];rfl
  have g0:=hm.getD hC f.Body.toNat
  have hm1:=hm.set hC (show (0:Int) ≤ 1000 by omega) f.Body.toNat
  have g1:=hm1.getD (by omega) f.Ret.toNat
  rw [hgd m f.Body hm.len b0 b1]
  simp only [Option.bind_some,bP,w64 (n:=m.getD f.Body.toNat 0 + 1000) (by omega) (by omega),aO hi (show p.Fns.length ≤ 1048576 by omega)]
  unfold jP
  by_cases hr:f.Ret < 0
  ·have hr':¬ f.Ret ≥ 0:=by omega
   rw [if_neg (by simpa using hr'),if_pos hr]
   rfl
  ·have hr':f.Ret ≥ 0:=by omega
   rw [if_pos (by simpa using hr'),if_neg hr,hgd _ f.Ret hm1.len (by omega) r1]
   simp only [Option.bind_some,bP]
   rw [w64 (by omega) (by omega)]
   rfl
theorem spec_l1_eq (p:GProgram) (hn:p.Nodes.length ≤ 300) (hp:p.Fns.length ≤ 8) (m0:List Int) (C:Int) (hC:0 ≤ C) (hC2:C ≤ 10000) (hm0:Bd p.Nodes.length C m0):aG (bB p) (m0,0)=some (if (List.range p.Fns.length).all (lP p)=true then .inl (incs 1000 (jL p) m0) else .inr false):=by
 obtain ⟨r,h1,h2⟩:=bC (f:=bB p) (fun s:List Int × Int=>∃ i:Nat,s.2=i∧i ≤ p.Fns.length∧(∀ j,j < i→lP p j=true)∧s.1=incs 1000 (pC p i) m0∧Bd p.Nodes.length (C + 2000 * i) s.1) (fun s=>p.Fns.length - s.2.toNat) (fun r=>r=if (List.range p.Fns.length).all (lP p)=true then .inl (incs 1000 (jL p) m0) else .inr false) (by
  rintro ⟨m,i⟩ ⟨i,rfl,hi,hg,hm,hb⟩
  simp only at hm hi hb
  by_cases hlt:i < p.Fns.length
  ·have hst:=spec_l1_step p hn hp (C + 2000 * i) (by omega) (by omega) m hb i hlt
   cases hgb:lP p i with
   | false =>
    right
    refine ⟨.inr false,by rw [hst,hgb];rfl,?_⟩
    have:(List.range p.Fns.length).all (lP p)=false:=by
     rw [Bool.eq_false_iff]
     intro h
     rw [List.all_eq_true.1 h i (List.mem_range.2 hlt)] at hgb
     cases hgb
    rw [this];rfl
   | true =>
    left
    refine ⟨_,by rw [hst,hgb,if_pos rfl],⟨i + 1,rfl,by omega,fun j hj=>?_,?_,?_⟩,by simp only [Int.toNat_natCast];omega⟩
    ·by_cases e:j=i
     ·subst e;exact hgb
     ·exact hg j (by omega)
    ·simp only
     rw [rootsT_succ p hlt,incs_append,← hm]
    ·have:=Bd.incs (show (0:Int) ≤ 1000 by omega) (jP p.Fns[i]) (by omega) hb
     refine this.mono ?_
     have:(jP p.Fns[i]).length ≤ 2:=by unfold jP;split<;>simp
     omega
  ·right
   have:i=p.Fns.length:=by omega
   subst this
   refine ⟨.inl m,by simp [bB],?_⟩
   rw [if_pos (List.all_eq_true.2 fun j hj=>hg j (List.mem_range.1 hj)),← rootsT_all,hm]) (m0,0) ⟨0,rfl,by omega,fun j hj=>by omega,rfl,hm0.mono (by omega)⟩
 rw [h1,h2]
theorem spec_ProgramOk_eq (p:GProgram) (hn:p.Nodes.length ≤ 1048576) (hp:p.Fns.length ≤ 1048576):fW p=some (progB p):=by
 unfold fW progB
 simp only [cI,Option.bind_some,dQ hn]
 cases h1:inB p.Nodes.length 1 300 with
 | false=>rfl
 | true =>
  have h1':=inB_iff.1 h1
  cases h2:inB p.Fns.length 1 8 with
  | false=>rfl
  | true =>
   have h2':=inB_iff.1 h2
   have hc:((p.Nodes.length:Int) - 1)=((p.Nodes.length - 1:Nat):Int):=by omega
   simp only [Bool.not_true,Bool.false_eq_true,if_false,Bool.true_and,Option.bind_some]
   rw [hc,pZ p.Nodes hn _ (by omega)]
   simp only [Option.bind_some,sdeeps_len]
   rw [show p.Nodes.length - 1 + 1=p.Nodes.length by omega,dQ hn,hc,getI_nat,oL p.Nodes (show p.Nodes.length - 1 < p.Nodes.length by omega),show p.Nodes.length - 1 + 1=p.Nodes.length by omega]
   simp only [Option.bind_some]
   cases h3:okU p.Nodes p.Nodes.length with
   | false=>rfl
   | true =>
    have hpos:=oT p.Nodes (p.Nodes.length - 1)
    have hne:¬ dval p.Nodes (p.Nodes.length - 1)=0:=by omega
    simp only [if_true,Bool.true_and]
    rw [if_neg (by simpa using hne),spec_met p.Nodes h3 (by omega)]
    simp only [Option.bind_some]
    have hB:Bd p.Nodes.length 300 (met0 p.Nodes):=⟨qI _,fun v hv=>by
     obtain ⟨k,hk,rfl⟩:=List.mem_iff_getElem.1 hv
     have h:=oN h3 k
     rw [List.getD_eq_getElem?_getD,List.getElem?_eq_getElem hk,Option.getD_some] at h
     have:=kc_le h3 k
     omega⟩
    rw [spec_l1_eq p (by omega) (by omega) _ 300 (by omega) (by omega) hB]
    cases h4:(List.range p.Fns.length).all (lP p) with
    | false=>rfl
    | true =>
     simp only [if_true,Option.bind_some,Bool.true_and]
     have hb:=roots_bnd h4
     have hl:(incs 1000 (jL p) (met0 p.Nodes)).length=p.Nodes.length:=by rw [incs_len,qI]
     have hval:∀ k,(incs 1000 (jL p) (met0 p.Nodes)).getD k 0=((kc p.Nodes k + 1000 * (jL p).count (k:Int):Nat):Int):=by
      intro k
      rw [incs_get 1000 k _ _ (fun e he=>by rw [qI];exact hb e he),oN h3]
      omega
     generalize hmm:incs 1000 (jL p) (met0 p.Nodes)=m at *
     rw [nS m (fun v=>v == 1 || v == 1000) (cJ m) (fun k hk=>by
      simp only [cJ,aB hk,if_true,aD hk,Option.bind_some,aO hk (show m.length ≤ 1048576 by omega)]
      by_cases e1:m[k]=1
      ·simp [e1]
      ·by_cases e2:m[k]=1000<;>simp [e1,e2]) (by simp [cJ])]
     have hfin:m.all (fun v=>v == 1 || v == 1000)=(List.range p.Nodes.length).all fun k=>usedB (kc p.Nodes k + 1000 * (jL p).count (k:Int)):=by
      rw [range_count p.Nodes.length m _ hl]
      congr 1
      funext k
      rw [hval,Bool.eq_iff_iff]
      simp only [usedB,Bool.or_eq_true,beq_iff_eq]
      omega
     rw [hfin]
     cases (List.range p.Nodes.length).all fun k=>usedB (kc p.Nodes k + 1000 * (jL p).count (k:Int))<;>rfl
end Go.OM
namespace Go.OM
def pkL (rc:List GNode→Int→Option (Int × List GNode)):List Int→List Int × List GNode→Option (List Int × List GNode)
 | [],s=>some s
 | x :: xs,s=>match rc s.2 x with
  | none=>none
  | some r=>pkL rc xs (s.1 ++ [r.1],r.2)
def pkI (nodes:List GNode):Nat→Int→List GNode→Int→Option (Int × List GNode)
 | 0=>fun _ _ _=>none
 | f + 1=>fun d tq k=>if inB k 0 ((nodes.length:Int) - 1)=true∧d ≤ 10∧tq.length < 300 then (match nodes[k.toNat]? with
  | none=>none
  | some e=>match pkL (pkI nodes f (d + 1)) e.Kids ([],tq) with
   | none=>none
   | some s=>if s.2.length < 300 then some ((s.2.length:Int),s.2 ++ [⟨e.Kind,e.Num,e.Name,s.1⟩]) else none) else none
theorem pkI_len {nodes:List GNode}:∀ {f:Nat} {d:Int} {tq:List GNode} {k:Int} {r:Int × List GNode},pkI nodes f d tq k=some r→r.2.length ≤ 300
 | 0,d,tq,k,r,h=>by cases h
 | f + 1,d,tq,k,r,h=>by
  simp only [pkI] at h
  split at h
  ·split at h
   ·cases h
   ·split at h
    ·cases h
    ·split at h
     ·have:=Option.some.inj h
      subst this
      simp only [List.length_append,List.length_cons,List.length_nil];omega
     ·cases h
  ·cases h
theorem pkL_len {rc:List GNode→Int→Option (Int × List GNode)} (hr:∀ tq k r,rc tq k=some r→r.2.length ≤ 300):∀ (l:List Int) (s s':List Int × List GNode),s.2.length ≤ 300→pkL rc l s=some s'→s'.2.length ≤ 300
 | [],s,s',hs,h=>by cases h;exact hs
 | x :: l,s,s',hs,h=>by
  simp only [pkL] at h
  split at h
  ·cases h
  ·rename_i r hx
   exact pkL_len hr l _ s' (hr _ _ _ hx) h
theorem app56 {l:List GNode} (h:l.length ≤ 1000000) (x:GNode):appI 56 l [x]=some (l ++ [x]):=app1g (by omega) (by omega)
theorem qP (nodes:List GNode) (hn:nodes.length ≤ 1048576) (hk:∀ x ∈ nodes,x.Kids.length ≤ 1048576):∀ (f:Nat) (d:Int) (tq:List GNode) (k:Int),1 ≤ d→d ≤ 11→12 ≤ d + f→tq.length ≤ 300 →
  (∀ r,pkI nodes f d tq k=some r→aN f ⟨nodes,tq,false⟩ k d=some (r.1,⟨nodes,r.2,false⟩))∧(pkI nodes f d tq k=none→∃ X,aN f ⟨nodes,tq,false⟩ k d=some (-1,⟨nodes,X,true⟩))
 | 0,d,tq,k,h1,h2,h3,_=>by omega
 | f + 1,d,tq,k,h1,h2,h3,h4=>by
  show (∀ r,pkI nodes (f + 1) d tq k=some r→cM (aN f) ⟨nodes,tq,false⟩ k d=some (r.1,⟨nodes,r.2,false⟩))∧(pkI nodes (f + 1) d tq k=none→∃ X,cM (aN f) ⟨nodes,tq,false⟩ k d=some (-1,⟨nodes,X,true⟩))
  unfold cM
  simp only [pkI,cN,Option.bind_some,dQ hn,Bool.false_eq_true,if_false]
  have hcond:(if (!(inB k 0 ((nodes.length:Int) - 1)))=true then some true else if decide (d > 10)=true then some true else some (decide ((tq.length:Int) ≥ 300)))=some (decide (¬ (inB k 0 ((nodes.length:Int) - 1)=true∧d ≤ 10∧tq.length < 300))):=by
   cases hi:inB k 0 ((nodes.length:Int) - 1) with
   | false=>simp
   | true =>
    by_cases hd:d > 10
    ·have:¬ d ≤ 10:=by omega
     simp [hd,this]
    ·have hd':d ≤ 10:=by omega
     simp only [Bool.not_true,Bool.false_eq_true,if_false,decide_eq_true_eq,if_neg hd]
     congr 1
     rw [decide_eq_decide]
     constructor
     ·rintro h ⟨_,_,h3⟩;omega
     ·intro h
      rcases Nat.lt_or_ge tq.length 300 with h' | h'
      ·exact absurd ⟨trivial,hd',h'⟩ h
      ·omega
  rw [hcond]
  simp only [Option.bind_some,decide_eq_true_eq]
  by_cases hc:inB k 0 ((nodes.length:Int) - 1)=true∧d ≤ 10∧tq.length < 300
  ·rw [if_pos hc,if_neg (fun h=>h hc)]
   obtain ⟨hi,hd,hl⟩:=hc
   have hi':=inB_iff.1 hi
   have hlt:k.toNat < nodes.length:=by omega
   have hmem:=List.getElem_mem hlt
   have hkl:=hk _ hmem
   rw [eJ hi'.1 (by omega),List.getElem?_eq_getElem hlt]
   simp only [Option.bind_some]
   generalize nodes[k.toNat]=e at *
   have hw:IntKind.wrap .i64 (d + 1)=d + 1:=w64 (by omega) (by omega)
   obtain ⟨r,g1,g2⟩:=bC (f:=bF (aN f) d e) (fun s:List Int × Int × Gpacker=>∃ (i:Nat) (t:List GNode),s.2.1=i∧i ≤ e.Kids.length∧s.1.length=i∧s.2.2=⟨nodes,t,false⟩∧t.length ≤ 300∧pkL (pkI nodes f (d + 1)) e.Kids ([],tq)=pkL (pkI nodes f (d + 1)) (e.Kids.drop i) (s.1,t)) (fun s=>e.Kids.length - s.2.1.toNat)
     (fun r=>(∀ s,pkL (pkI nodes f (d + 1)) e.Kids ([],tq)=some s→r = .inl (s.1,⟨nodes,s.2,false⟩))∧(pkL (pkI nodes f (d + 1)) e.Kids ([],tq)=none→∃ X,r = .inr (-1,⟨nodes,X,true⟩))) (by
    rintro ⟨ks,i,pk⟩ ⟨i,t,rfl,hi,hkl',rfl,ht,hp⟩
    simp only at hi hkl' ht hp
    by_cases hil:i < e.Kids.length
    ·rw [List.drop_eq_getElem_cons hil] at hp
     simp only [pkL] at hp
     obtain ⟨m1,m2⟩:=qP nodes hn hk f (d + 1) t e.Kids[i] (by omega) (by omega) (by omega) ht
     cases hx:pkI nodes f (d + 1) t e.Kids[i] with
     | none =>
      right
      obtain ⟨X,hX⟩:=m2 hx
      rw [hx] at hp
      simp only at hp
      refine ⟨.inr (-1,⟨nodes,X,true⟩),?_,fun s hs=>?_,fun _=>⟨X,rfl⟩⟩
      ·simp only [bF,aB hil,if_true,aD hil,Option.bind_some,hw,hX]
      ·rw [hp] at hs;cases hs
     | some q =>
      left
      have hq:=m1 q hx
      rw [hx] at hp
      simp only at hp
      refine ⟨(ks ++ [q.1],((i + 1:Nat):Int),⟨nodes,q.2,false⟩),?_,⟨i + 1,q.2,rfl,by omega,by simp only [List.length_append,List.length_cons,List.length_nil];omega,rfl,pkI_len hx,hp⟩,by simp only [Int.toNat_natCast];omega⟩
      have happ:appI 8 ks [q.1]=some (ks ++ [q.1]):=app1 (by omega) (by omega)
      simp only [bF,aB hil,if_true,aD hil,Option.bind_some,hw,hq,Bool.false_eq_true,if_false,happ,aO hil hkl]
    ·right
     have:i=e.Kids.length:=by omega
     subst this
     rw [List.drop_length] at hp
     simp only [pkL] at hp
     refine ⟨.inl (ks,⟨nodes,t,false⟩),by simp [bF],fun s hs=>?_,fun h=>?_⟩
     ·rw [hp] at hs
      have:=Option.some.inj hs
      subst this;rfl
     ·rw [hp] at h;cases h) ([],0,⟨nodes,tq,false⟩) ⟨0,tq,rfl,by omega,rfl,rfl,h4,by simp⟩
   rw [g1]
   simp only [Option.bind_some]
   cases hp:pkL (pkI nodes f (d + 1)) e.Kids ([],tq) with
   | none =>
    obtain ⟨X,hX⟩:=g2.2 hp
    subst hX
    exact ⟨fun r h=>(by simp only at h;cases h),fun _=>⟨X,rfl⟩⟩
   | some s =>
    have hr:=g2.1 s hp
    subst hr
    have hsl:=pkL_len (fun _ _ _ h=>pkI_len h) _ _ _ h4 hp
    simp only
    by_cases hs:s.2.length < 300
    ·rw [if_pos hs,if_neg (show ¬ ((s.2.length:Int) ≥ 300) by omega),app56 (by omega)]
     refine ⟨fun r h=>?_,fun h=>(by cases h)⟩
     have:=Option.some.inj h
     subst this
     simp only [Option.bind_some,List.length_append,List.length_cons,List.length_nil]
     rw [w64 (by omega) (by omega)]
     congr 2
     omega
    ·rw [if_neg hs,if_pos (show (s.2.length:Int) ≥ 300 by omega)]
     exact ⟨fun r h=>(by cases h),fun _=>⟨_,rfl⟩⟩
  ·rw [if_neg hc,if_pos hc]
   exact ⟨fun r h=>(by cases h),fun _=>⟨_,rfl⟩⟩
theorem pV (nodes:List GNode) (hn:nodes.length ≤ 1048576) (f:Nat) (X:List GNode) (b:Bool) (hb:b=true ∨ X.length > 300) (k d:Int):aH (f + 1) ⟨nodes,X,b⟩ k d=some (-1,⟨nodes,X,true⟩):=by
 show aZ (aH f) ⟨nodes,X,b⟩ k d=_
 unfold aZ
 simp only [cI,Option.bind_some,dQ hn]
 cases hbb:b with
 | true=>rfl
 | false =>
  have hx:X.length > 300:=by
   rcases hb with h | h
   ·rw [hbb] at h;cases h
   ·exact h
  have hd:decide ((X.length:Int) > 300)=true:=by simp only [decide_eq_true_eq];omega
  simp only [Bool.false_eq_true,if_false,hd]
  by_cases h10:decide (d > 10)=true
  ·rw [if_pos h10];rfl
  ·rw [if_neg h10]
   cases inB k 0 ((nodes.length:Int) - 1)<;>rfl
theorem pU (nodes:List GNode) (hn:nodes.length ≤ 1048576) (hk:∀ x ∈ nodes,x.Kids.length ≤ 1048576):∀ (f:Nat) (d:Int) (tq:List GNode) (k:Int),1 ≤ d→d ≤ 11→12 ≤ d + f→tq.length ≤ 300 →
  (∀ r,pkI nodes f d tq k=some r→aH f ⟨nodes,tq,false⟩ k d=some (r.1,⟨nodes,r.2,false⟩))∧(pkI nodes f d tq k=none→∃ (q:Int) (X:List GNode) (b:Bool),aH f ⟨nodes,tq,false⟩ k d=some (q,⟨nodes,X,b⟩)∧(b=true ∨ X.length > 300)∧(X.length:Int) ≤ 300 + (11 - d))
 | 0,d,tq,k,h1,h2,h3,_=>by omega
 | f + 1,d,tq,k,h1,h2,h3,h4=>by
  show (∀ r,pkI nodes (f + 1) d tq k=some r→aZ (aH f) ⟨nodes,tq,false⟩ k d=some (r.1,⟨nodes,r.2,false⟩))∧(pkI nodes (f + 1) d tq k=none→∃ (q:Int) (X:List GNode) (b:Bool),aZ (aH f) ⟨nodes,tq,false⟩ k d=some (q,⟨nodes,X,b⟩)∧(b=true ∨ X.length > 300)∧(X.length:Int) ≤ 300 + (11 - d))
  unfold aZ
  simp only [pkI,cI,Option.bind_some,dQ hn,Bool.false_eq_true,if_false]
  have hcond:(if decide (d > 10)=true then some true else if (!(inB k 0 ((nodes.length:Int) - 1)))=true then some true else some (decide ((tq.length:Int) > 300)))=some (decide (¬ (inB k 0 ((nodes.length:Int) - 1)=true∧d ≤ 10))):=by
   have hto:decide ((tq.length:Int) > 300)=false:=by simp only [decide_eq_false_iff_not];omega
   rw [hto]
   by_cases hd:d > 10
   ·have:¬ d ≤ 10:=by omega
    simp [hd,this]
   ·have hd':d ≤ 10:=by omega
    simp only [decide_eq_true_eq,if_neg hd]
    cases hi:inB k 0 ((nodes.length:Int) - 1)<;>simp [hd']
  rw [hcond]
  simp only [Option.bind_some,decide_eq_true_eq]
  by_cases hc:inB k 0 ((nodes.length:Int) - 1)=true∧d ≤ 10
  ·rw [if_neg (show ¬ ¬ (inB k 0 ((nodes.length:Int) - 1)=true∧d ≤ 10) from fun h=>h hc)]
   obtain ⟨hi,hd⟩:=hc
   have hi':=inB_iff.1 hi
   have hlt:k.toNat < nodes.length:=by omega
   have hmem:=List.getElem_mem hlt
   have hkl:=hk _ hmem
   have hge:getI nodes k=some nodes[k.toNat]:=eJ hi'.1 (by omega)
   rw [List.getElem?_eq_getElem hlt,hge]
   simp only [Option.bind_some]
   generalize nodes[k.toNat]=e at *
   have hw:IntKind.wrap .i64 (d + 1)=d + 1:=w64 (by omega) (by omega)
   -- is there room at all?
   generalize hpk:(if inB k 0 ((nodes.length:Int) - 1)=true∧d ≤ 10∧tq.length < 300 then (match pkL (pkI nodes f (d + 1)) e.Kids ([],tq) with | none=>none | some s=>if s.2.length < 300 then some ((s.2.length:Int),s.2 ++ [(⟨e.Kind,e.Num,e.Name,s.1⟩:GNode)]) else none) else none)=P
   have hf:∃ f',f=f' + 1:=by
    cases f with
    | zero=>omega
    | succ f'=>exact ⟨f',rfl⟩
   obtain ⟨r,g1,⟨ks,X,b,g2,g3⟩⟩:=bC (f:=aV (aH f) k d) (fun s:Int × GNode × Gl04Pack=>∃ (i:Nat) (ks:List Int) (t:List GNode) (b:Bool),s.1=i∧i ≤ e.Kids.length∧ks.length ≤ i∧s.2.1=⟨e.Kind,e.Num,e.Name,ks⟩∧s.2.2=⟨nodes,t,b⟩ ∧
     ((b=false∧t.length ≤ 300∧pkL (pkI nodes f (d + 1)) e.Kids ([],tq)=pkL (pkI nodes f (d + 1)) (e.Kids.drop i) (ks,t)) ∨ (pkL (pkI nodes f (d + 1)) e.Kids ([],tq)=none∧(b=true ∨ t.length > 300)∧(t.length:Int) ≤ 300 + (10 - d)))) (fun s=>e.Kids.length - s.1.toNat)
     (fun r=>∃ (ks:List Int) (X:List GNode) (b:Bool),r=((⟨e.Kind,e.Num,e.Name,ks⟩:GNode),(⟨nodes,X,b⟩:Gl04Pack))∧((b=false∧X.length ≤ 300∧pkL (pkI nodes f (d + 1)) e.Kids ([],tq)=some (ks,X)) ∨ (pkL (pkI nodes f (d + 1)) e.Kids ([],tq)=none∧(b=true ∨ X.length > 300)∧(X.length:Int) ≤ 300 + (10 - d)))) (by
    rintro ⟨i,nd,pk⟩ ⟨i,ks,t,b,rfl,hi,hkl',rfl,rfl,hcase⟩
    try simp only at hi hkl' hcase
    by_cases hil:i < e.Kids.length
    ·have hcnd:(if decide ((i:Int) < (e.Kids.length:Int))=true then some (!b) else some false)=some (!b):=by rw [aB hil];rfl
     cases hbb:b with
     | true =>
      right
      refine ⟨(⟨e.Kind,e.Num,e.Name,ks⟩,⟨nodes,t,true⟩),?_,ks,t,true,rfl,?_⟩
      ·simp only [aV,hge,Option.bind_some,aB hil,if_true,Bool.not_true,Bool.false_eq_true,if_false]
      ·rcases hcase with ⟨h,_⟩ | ⟨h1',_,h3'⟩
       ·rw [hbb] at h;cases h
       ·exact .inr ⟨h1',.inl rfl,h3'⟩
     | false =>
      left
      have hstp:∀ (q:Int) (X:List GNode) (b':Bool),aH f ⟨nodes,t,false⟩ e.Kids[i] (d + 1)=some (q,⟨nodes,X,b'⟩)→aV (aH f) k d ((i:Int),⟨e.Kind,e.Num,e.Name,ks⟩,⟨nodes,t,false⟩)=some (.inl (((i + 1:Nat):Int),⟨e.Kind,e.Num,e.Name,ks ++ [q]⟩,⟨nodes,X,b'⟩)):=by
       intro q X b' hq
       have happ:appI 8 ks [q]=some (ks ++ [q]):=app1 (by omega) (by omega)
       simp only [aV,hge,Option.bind_some,aB hil,if_true,Bool.not_false,aD hil,hw,hq,happ,aO hil hkl]
      by_cases hdoom:pkL (pkI nodes f (d + 1)) e.Kids ([],tq)=none∧(t.length > 300)∧(t.length:Int) ≤ 300 + (10 - d)
      ·obtain ⟨f',rfl⟩:=hf
       have hq:=pV nodes hn f' t false (.inr hdoom.2.1) e.Kids[i] (d + 1)
       exact ⟨_,hstp _ _ _ hq,⟨i + 1,ks ++ [-1],t,true,rfl,by omega,by simp only [List.length_append,List.length_cons,List.length_nil];omega,rfl,rfl,.inr ⟨hdoom.1,.inl rfl,hdoom.2.2⟩⟩,by simp only [Int.toNat_natCast];omega⟩
      ·have hgood:t.length ≤ 300∧pkL (pkI nodes f (d + 1)) e.Kids ([],tq)=pkL (pkI nodes f (d + 1)) (e.Kids.drop i) (ks,t):=by
        rcases hcase with ⟨_,h5,h6⟩ | ⟨h5,h6,h7⟩
        ·exact ⟨h5,h6⟩
        ·rcases h6 with h6 | h6
         ·rw [hbb] at h6;cases h6
         ·exact absurd ⟨h5,h6,h7⟩ hdoom
       obtain ⟨ht,hp⟩:=hgood
       rw [List.drop_eq_getElem_cons hil] at hp
       simp only [pkL] at hp
       obtain ⟨m1,m2⟩:=pU nodes hn hk f (d + 1) t e.Kids[i] (by omega) (by omega) (by omega) ht
       cases hx:pkI nodes f (d + 1) t e.Kids[i] with
       | none =>
        obtain ⟨q,X,b',n1,n2,n3⟩:=m2 hx
        rw [hx] at hp
        simp only at hp
        exact ⟨_,hstp _ _ _ n1,⟨i + 1,ks ++ [q],X,b',rfl,by omega,by simp only [List.length_append,List.length_cons,List.length_nil];omega,rfl,rfl,.inr ⟨hp,n2,by omega⟩⟩,by simp only [Int.toNat_natCast];omega⟩
       | some q =>
        have hq:=m1 q hx
        rw [hx] at hp
        simp only at hp
        exact ⟨_,hstp _ _ _ hq,⟨i + 1,ks ++ [q.1],q.2,false,rfl,by omega,by simp only [List.length_append,List.length_cons,List.length_nil];omega,rfl,rfl,.inl ⟨rfl,pkI_len hx,hp⟩⟩,by simp only [Int.toNat_natCast];omega⟩
    ·right
     have:i=e.Kids.length:=by omega
     subst this
     refine ⟨(⟨e.Kind,e.Num,e.Name,ks⟩,⟨nodes,t,b⟩),?_,ks,t,b,rfl,?_⟩
     ·simp only [aV,hge,Option.bind_some,len_not_lt,Bool.false_eq_true,if_false]
     ·rcases hcase with ⟨h5,h6,h7⟩ | h5
      ·rw [List.drop_length] at h7
       exact .inl ⟨h5,h6,h7⟩
      ·exact .inr h5) (0,⟨e.Kind,e.Num,e.Name,[]⟩,⟨nodes,tq,false⟩) ⟨0,[],tq,false,rfl,by omega,by simp,rfl,rfl,.inl ⟨rfl,h4,by simp⟩⟩
   subst g2
   rw [g1]
   simp only [Option.bind_some]
   have hXl:X.length ≤ 1000000:=by
    rcases g3 with ⟨_,h,_⟩ | ⟨_,_,h⟩<;>omega
   rw [app56 hXl]
   simp only [Option.bind_some,List.length_append,List.length_cons,List.length_nil]
   have hw2:IntKind.wrap .i64 (((X.length + (0 + 1):Nat):Int) - 1)=(X.length:Int):=by rw [w64 (by omega) (by omega)];omega
   rw [hw2]
   have hgoodP:∀ r,P=some r→b=false∧r=((X.length:Int),X ++ [(⟨e.Kind,e.Num,e.Name,ks⟩:GNode)]):=by
    intro r hr
    rw [← hpk] at hr
    split at hr
    ·rcases g3 with ⟨h5,h6,h7⟩ | ⟨h5,_⟩
     ·rw [h7] at hr
      simp only at hr
      split at hr
      ·exact ⟨h5,(Option.some.inj hr).symm⟩
      ·cases hr
     ·rw [h5] at hr;cases hr
    ·cases hr
   have hbadP:P=none→(b=true ∨ X.length ≥ 300):=by
    intro hr
    rw [← hpk] at hr
    rcases g3 with ⟨h5,h6,h7⟩ | ⟨_,h6,_⟩
    ·right
     split at hr
     ·rw [h7] at hr
      simp only at hr
      split at hr
      ·cases hr
      ·omega
     ·rename_i hno
      have hge300:¬ tq.length < 300:=fun h=>hno ⟨hi,hd,h⟩
      -- nothing is taken away
      have mono:∀ (l:List Int) (s s':List Int × List GNode),pkL (pkI nodes f (d + 1)) l s=some s'→s.2.length ≤ s'.2.length:=by
       intro l
       induction l with
       | nil=>intro s s' h;cases h;exact Nat.le_refl _
       | cons x l ih =>
        intro s s' h
        simp only [pkL] at h
        split at h
        ·cases h
        ·rename_i q hq
         have h8:=ih _ _ h
         have h9:s.2.length ≤ q.2.length:=by
          have:∀ (f:Nat) (d:Int) (tq:List GNode) (k:Int) (q:Int × List GNode),pkI nodes f d tq k=some q→tq.length < 300:=by
           intro f d tq k q h
           cases f with
           | zero=>cases h
           | succ f =>
            simp only [pkI] at h
            split at h
            ·rename_i hh;exact hh.2.2
            ·cases h
          have hlt:=this _ _ _ _ _ hq
          have hgr:∀ (f:Nat) (d:Int) (tq:List GNode) (k:Int) (q:Int × List GNode),pkI nodes f d tq k=some q→tq.length ≤ q.2.length:=by
           intro f
           induction f with
           | zero=>intro d tq k q h;cases h
           | succ f ihf =>
            intro d tq k q h
            simp only [pkI] at h
            split at h
            ·split at h
             ·cases h
             ·split at h
              ·cases h
              ·rename_i s'' hs''
               have hm:∀ (l:List Int) (s s':List Int × List GNode),pkL (pkI nodes f (d + 1)) l s=some s'→s.2.length ≤ s'.2.length:=by
                intro l
                induction l with
                | nil=>intro s s' h;cases h;exact Nat.le_refl _
                | cons x l ihl =>
                 intro s s' h
                 simp only [pkL] at h
                 split at h
                 ·cases h
                 ·rename_i q' hq'
                  exact Nat.le_trans (ihf _ _ _ _ hq') (ihl _ _ h)
               have h10:=hm _ _ _ hs''
               split at h
               ·have:=Option.some.inj h
                subst this
                simp only [List.length_append] at h10 ⊢;omega
               ·cases h
            ·cases h
          exact hgr _ _ _ _ _ hq
         exact Nat.le_trans h9 h8
      have:=mono _ _ _ h7
      simp only at this
      omega
    ·rcases h6 with h6 | h6
     ·exact .inl h6
     ·exact .inr (by omega)
   refine ⟨fun r hr=>?_,fun hr=>?_⟩
   ·obtain ⟨h5,h6⟩:=hgoodP r hr
    subst h5 h6;rfl
   ·refine ⟨_,_,b,rfl,?_,?_⟩
    ·rcases hbadP hr with h | h
     ·exact .inl h
     ·right
      simp only [List.length_append,List.length_cons,List.length_nil];omega
    ·simp only [List.length_append,List.length_cons,List.length_nil]
     rcases g3 with ⟨_,h,_⟩ | ⟨_,_,h⟩<;>omega
  ·rw [if_pos hc,if_neg (fun h=>hc ⟨h.1,h.2.1⟩)]
   exact ⟨fun r h=>(by cases h),fun _=>⟨_,_,true,rfl,.inl rfl,by first | omega | (simp only;omega)⟩⟩
end Go.OM
namespace Go.OM
theorem qX {α:Type} {n:Nat} {l:List α} (h:l.length ≤ 1048576) (hn:n ≤ 64):appI n [] l=some l:=app_nil h hn
def NL (l:List GNode):Prop:=∀ x ∈ l,GNode.le 1048576 x
theorem copyFn_eq (f:GFn) (h:f.Params.length ≤ 1048576):gJ f=some f:=by
 unfold gJ
 rw [qX h (by omega)]
 rfl
theorem copy_loop {α ρ:Type} (l:List α) (hl:l.length ≤ 1048576) (f:List α × Int→Option ((List α × Int) ⊕ ρ)) (fin:List α→ρ)
  (hf:∀ (o:List α) (k:Nat) (hk:k < l.length),o.length=k→f (o,k)=some (.inl (o ++ [l[k]],((k + 1:Nat):Int)))) (he:∀ o:List α,f (o,l.length)=some (.inr (fin o))):aG f ([],0)=some (fin l):=by
 obtain ⟨r,h1,h2⟩:=bC (f:=f) (fun s:List α × Int=>∃ k:Nat,s.2=k∧k ≤ l.length∧s.1=l.take k) (fun s=>l.length - s.2.toNat) (fun r=>r=fin l) (by
  rintro ⟨o,i⟩ ⟨k,rfl,hk,ho⟩
  simp only at ho hk
  by_cases hlt:k < l.length
  ·left
   refine ⟨_,hf o k hlt (by rw [ho,List.length_take];omega),⟨k + 1,rfl,by omega,?_⟩,by simp only [Int.toNat_natCast];omega⟩
   simp only
   rw [ho,List.take_add_one,List.getElem?_eq_getElem hlt];rfl
  ·right
   have:k=l.length:=by omega
   subst this
   rw [List.take_length] at ho
   exact ⟨_,he o,by rw [ho]⟩) ([],0) ⟨0,rfl,by omega,by simp⟩
 rw [h1,h2]
theorem copyNodes_eq (l:List GNode) (hl:l.length ≤ 1048576) (hN:NL l):gD l=some l:=by
 unfold gD
 rw [copy_loop l hl (cO l) (fun o=>o) (fun o k hk ho=>by
  have hk2:=(hN _ (List.getElem_mem hk)).2
  have hc:iF (l[k]).Kids=some (l[k]).Kids:=by unfold iF;rw [qX hk2 (by omega)];rfl
  simp only [cO,aB hk,if_true,aD hk,Option.bind_some,hc,app1g (show o.length ≤ 1048576 by omega) (show 56 ≤ 64 by omega),aO hk hl]) (fun o=>by simp [cO])]
 rfl
theorem specNodes_eq (l:List GNode) (hl:l.length ≤ 1048576) (hN:NL l):gW l=some l:=by
 unfold gW
 rw [copy_loop l hl (cY l) (fun o=>o) (fun o k hk ho=>by
  have hk2:=(hN _ (List.getElem_mem hk)).2
  simp only [cY,aB hk,if_true,aD hk,Option.bind_some,qX hk2 (show 8 ≤ 64 by omega),app1g (show o.length ≤ 1048576 by omega) (show 56 ≤ 64 by omega),aO hk hl]) (fun o=>by simp [cY])]
 rfl
theorem copyProgram_eq (p:GProgram) (h:GProgram.le 1048576 p):cB p=some p∧gN p=some p:=by
 obtain ⟨⟨hn,hN⟩,hF,hFl⟩:=h
 constructor
 ·unfold cB
  rw [copyNodes_eq _ hn hN]
  simp only [Option.bind_some]
  obtain ⟨r,h1,h2⟩:=bC (f:=bL p) (fun s:Int × GProgram=>∃ k:Nat,s.1=k∧k ≤ p.Fns.length∧s.2=⟨p.Nodes,p.Fns.take k⟩) (fun s=>p.Fns.length - s.1.toNat) (fun r=>r=p) (by
   rintro ⟨i,v⟩ ⟨k,rfl,hk,rfl⟩
   try simp only at hk
   by_cases hlt:k < p.Fns.length
   ·left
    have hpar:=(hFl _ (List.getElem_mem hlt)).2.1
    refine ⟨(((k + 1:Nat):Int),⟨p.Nodes,p.Fns.take (k + 1)⟩),?_,⟨k + 1,rfl,by omega,rfl⟩,by simp only [Int.toNat_natCast];omega⟩
    simp only [bL,aB hlt,if_true,aD hlt,Option.bind_some,copyFn_eq _ hpar,app1g (show (p.Fns.take k).length ≤ 1048576 by rw [List.length_take];omega) (show 64 ≤ 64 by omega),aO hlt hF]
    rw [List.take_add_one,List.getElem?_eq_getElem hlt];rfl
   ·right
    have:k=p.Fns.length:=by omega
    subst this
    refine ⟨⟨p.Nodes,p.Fns.take p.Fns.length⟩,by simp [bL],?_⟩
    rw [List.take_length]) (0,⟨p.Nodes,[]⟩) ⟨0,rfl,by omega,by simp⟩
  rw [h1,h2];rfl
 ·unfold gN
  rw [specNodes_eq _ hn hN]
  simp only [Option.bind_some]
  obtain ⟨r,h1,h2⟩:=bC (f:=dX p) (fun s:Int × GProgram=>∃ k:Nat,s.1=k∧k ≤ p.Fns.length∧s.2=⟨p.Nodes,p.Fns.take k⟩) (fun s=>p.Fns.length - s.1.toNat) (fun r=>r=p) (by
   rintro ⟨i,v⟩ ⟨k,rfl,hk,rfl⟩
   try simp only at hk
   by_cases hlt:k < p.Fns.length
   ·left
    have hpar:=(hFl _ (List.getElem_mem hlt)).2.1
    refine ⟨(((k + 1:Nat):Int),⟨p.Nodes,p.Fns.take (k + 1)⟩),?_,⟨k + 1,rfl,by omega,rfl⟩,by simp only [Int.toNat_natCast];omega⟩
    simp only [dX,aB hlt,if_true,aD hlt,Option.bind_some,qX hpar (show 24 ≤ 64 by omega),app1g (show (p.Fns.take k).length ≤ 1048576 by rw [List.length_take];omega) (show 64 ≤ 64 by omega),aO hlt hF]
    rw [List.take_add_one,List.getElem?_eq_getElem hlt];rfl
   ·right
    have:k=p.Fns.length:=by omega
    subst this
    refine ⟨⟨p.Nodes,p.Fns.take p.Fns.length⟩,by simp [dX],?_⟩
    rw [List.take_length]) (0,⟨p.Nodes,[]⟩) ⟨0,rfl,by omega,by simp⟩
  rw [h1,h2];rfl
end Go.OM
namespace Go.OM
theorem pkL_kids {rc:List GNode→Int→Option (Int × List GNode)}:∀ (l:List Int) (s s':List Int × List GNode),pkL rc l s=some s'→s'.1.length=s.1.length + l.length
 | [],s,s',h=>by cases h;rfl
 | x :: l,s,s',h=>by
  simp only [pkL] at h
  split at h
  ·cases h
  ·rename_i r hx
   have:=pkL_kids l _ s' h
   rw [this]
   simp only [List.length_append,List.length_cons,List.length_nil];omega
theorem pkL_nl {rc:List GNode→Int→Option (Int × List GNode)} (hr:∀ tq k r,NL tq→rc tq k=some r→NL r.2):∀ (l:List Int) (s s':List Int × List GNode),NL s.2→pkL rc l s=some s'→NL s'.2
 | [],s,s',hs,h=>by cases h;exact hs
 | x :: l,s,s',hs,h=>by
  simp only [pkL] at h
  split at h
  ·cases h
  ·rename_i r hx
   exact pkL_nl hr l _ s' (hr _ _ _ hs hx) h
theorem pkI_nl {nodes:List GNode} (hN:NL nodes):∀ (f:Nat) (d:Int) (tq:List GNode) (k:Int) (r:Int × List GNode),NL tq→pkI nodes f d tq k=some r→NL r.2
 | 0,d,tq,k,r,_,h=>by cases h
 | f + 1,d,tq,k,r,ht,h=>by
  simp only [pkI] at h
  split at h
  ·split at h
   ·cases h
   ·rename_i e he
    split at h
    ·cases h
    ·rename_i s hs
     split at h
     ·have hr:=Option.some.inj h
      subst hr
      have h1:=pkL_nl (fun tq k r=>pkI_nl hN f (d + 1) tq k r) _ _ _ ht hs
      have h2:=pkL_kids _ _ _ hs
      have h3:=hN e (List.mem_of_getElem? he)
      intro x hx
      simp only [List.mem_append,List.mem_singleton] at hx
      rcases hx with hx | hx
      ·exact h1 x hx
      ·subst hx
       refine ⟨h3.1,?_⟩
       simp only [List.length_nil,Nat.zero_add] at h2
       simp only
       rw [h2]
       exact h3.2
     ·cases h
  ·cases h
theorem impl_put_bad (nodes:List GNode):∀ (f:Nat),1 ≤ f→∀ (X:List GNode) (k d:Int),aN f ⟨nodes,X,true⟩ k d=some (-1,⟨nodes,X,true⟩)
 | 0,h,_,_,_=>by omega
 | f + 1,_,X,k,d=>rfl
theorem spec_put_bad (nodes:List GNode) (hn:nodes.length ≤ 1048576):∀ (f:Nat),1 ≤ f→∀ (X:List GNode) (b:Bool),(b=true ∨ X.length > 300)→∀ (k d:Int),aH f ⟨nodes,X,b⟩ k d=some (-1,⟨nodes,X,true⟩)
 | 0,h,_,_,_,_,_=>by omega
 | f + 1,_,X,b,hb,k,d=>pV nodes hn f X b hb k d
def RelP (p:GProgram) (i:Nat) (pk:Gpacker) (pr:GProgram) (pr':GProgram) (pk':Gl04Pack):Prop :=
 (∃ (t:List GNode) (fs:List GFn),pk=⟨p.Nodes,t,false⟩∧pk'=⟨p.Nodes,t,false⟩∧t.length ≤ 300∧NL t∧pr=⟨[],fs⟩∧pr'=⟨[],fs⟩∧fs.length=i∧∀ f ∈ fs,GFn.le 1048576 f) ∨
 (∃ (X X':List GNode) (b':Bool) (fs fs':List GFn),pk=⟨p.Nodes,X,true⟩∧pk'=⟨p.Nodes,X',b'⟩∧(b'=true ∨ X'.length > 300)∧X'.length ≤ 1000∧pr=⟨[],fs⟩∧pr'=⟨[],fs'⟩∧fs.length=i∧fs'.length=i)
theorem Packed_main (p:GProgram) (h:GProgram.le 1048576 p):∃ (q:GProgram) (b:Bool),kT p=some (q,b)∧kE p=some (q,b)∧(b=true→GProgram.le 1048576 q):=by
 obtain ⟨⟨hn,hN⟩,hF,hFl⟩:=h
 have hk:∀ x ∈ p.Nodes,x.Kids.length ≤ 1048576:=fun x hx=>(hN x hx).2
 have h1f:1 ≤ dN:=by rw [recFuel_eq];omega
 have h12:12 ≤ (1:Int) + (dN:Nat):=by rw [recFuel_eq];omega
 have ip:∀ (t:List GNode) (k:Int),t.length ≤ 300→(∀ r,pkI p.Nodes dN 1 t k=some r→eC ⟨p.Nodes,t,false⟩ k 1=some (r.1,⟨p.Nodes,r.2,false⟩))∧(pkI p.Nodes dN 1 t k=none→∃ X,eC ⟨p.Nodes,t,false⟩ k 1=some (-1,⟨p.Nodes,X,true⟩)):=fun t k ht=>qP p.Nodes hn hk dN 1 t k (by omega) (by omega) h12 ht
 have sp:∀ (t:List GNode) (k:Int),t.length ≤ 300→(∀ r,pkI p.Nodes dN 1 t k=some r→cX ⟨p.Nodes,t,false⟩ k 1=some (r.1,⟨p.Nodes,r.2,false⟩))∧(pkI p.Nodes dN 1 t k=none→∃ (q:Int) (X:List GNode) (b:Bool),cX ⟨p.Nodes,t,false⟩ k 1=some (q,⟨p.Nodes,X,b⟩)∧(b=true ∨ X.length > 300)∧(X.length:Int) ≤ 300 + (11 - 1)):=fun t k ht=>pU p.Nodes hn hk dN 1 t k (by omega) (by omega) h12 ht
 have ib:∀ (X:List GNode) (k:Int),eC ⟨p.Nodes,X,true⟩ k 1=some (-1,⟨p.Nodes,X,true⟩):=fun X k=>impl_put_bad p.Nodes dN h1f X k 1
 have sb:∀ (X:List GNode) (b:Bool) (k:Int),(b=true ∨ X.length > 300)→cX ⟨p.Nodes,X,b⟩ k 1=some (-1,⟨p.Nodes,X,true⟩):=fun X b k hb=>spec_put_bad p.Nodes hn dN h1f X b hb k 1
 obtain ⟨r,r',g1,g2,pk,pr,pr',pk',e1,e2,g3⟩:=loopP_sim (f:=aY p) (g:=aX p) (fun (a:Int × Gpacker × GProgram) (b:Int × GProgram × Gl04Pack)=>∃ i:Nat,a.1=i∧b.1=i∧i ≤ p.Fns.length∧RelP p i a.2.1 a.2.2 b.2.1 b.2.2) (fun a=>p.Fns.length - a.1.toNat)
  (fun r r'=>∃ pk pr pr' pk',r=(pk,pr)∧r'=(pr',pk')∧RelP p p.Fns.length pk pr pr' pk') (by
  rintro ⟨i,pk,pr⟩ ⟨i',pr',pk'⟩ ⟨i,rfl,rfl,hi,hrel⟩
  simp only at hi hrel
  by_cases hlt:i < p.Fns.length
  ·left
   have hfm:=List.getElem_mem hlt
   have hfl:=hFl _ hfm
   have hpar:(p.Fns[i]).Params.length ≤ 1048576:=hfl.2.1
   have hcp:=copyFn_eq p.Fns[i] hpar
   have hap:=qX (n:=24) hpar (by omega)
   have hgi:getI p.Fns (i:Int)=some p.Fns[i]:=aD hlt
   generalize p.Fns[i]=f at *
   have hwi:=aO hlt hF
   have appF:∀ (fs:List GFn) (x:GFn),fs.length=i→appI 64 fs [x]=some (fs ++ [x]):=fun fs x hfs=>app1g (by omega) (by omega)
   -- both go wrong
   have wrong:∀ (X X':List GNode) (b':Bool) (z z':GFn) (fs fs':List GFn),(b'=true ∨ X'.length > 300)→X'.length ≤ 1000→fs.length=i→fs'.length=i→RelP p (i + 1) ⟨p.Nodes,X,true⟩ ⟨[],fs ++ [z]⟩ ⟨[],fs' ++ [z']⟩ ⟨p.Nodes,X',b'⟩:=fun X X' b' z z' fs fs' a1 a2 a3 a4=>.inr ⟨X,X',b',_,_,rfl,rfl,a1,a2,rfl,rfl,by simp [a3],by simp [a4]⟩
   by_cases hret:f.Ret ≥ 0
   ·have hrd:decide (f.Ret ≥ 0)=true:=by simpa using hret
    rcases hrel with ⟨t,fs,rfl,rfl,ht,hnl,rfl,rfl,hfs,hfle⟩ | ⟨X,X',b',fs,fs',rfl,rfl,hb,hXl,rfl,rfl,hfs,hfs'⟩
    ·obtain ⟨i1,i2⟩:=ip t f.Body ht
     obtain ⟨s1,s2⟩:=sp t f.Body ht
     cases hx:pkI p.Nodes dN 1 t f.Body with
     | none =>
      obtain ⟨X,hX⟩:=i2 hx
      obtain ⟨q,X',b',n1,n2,n3⟩:=s2 hx
      refine ⟨(((i + 1:Nat):Int),⟨p.Nodes,X,true⟩,⟨[],fs ++ [⟨f.Name,f.Params,f.Res,-1,-1⟩]⟩),(((i + 1:Nat):Int),⟨[],fs ++ [⟨f.Name,f.Params,f.Res,q,-1⟩]⟩,⟨p.Nodes,X',true⟩),?_,?_,⟨i + 1,rfl,rfl,by omega,wrong X X' true _ _ fs fs (.inl rfl) (by omega) hfs hfs⟩,by simp only [Int.toNat_natCast];omega⟩
      ·simp only [aY,aB hlt,if_true,hgi,Option.bind_some,hcp,hX,hrd,ib,appF _ _ hfs,hwi]
      ·simp only [aX,aB hlt,if_true,hgi,Option.bind_some,hap,n1,hrd,sb X' b' _ n2,appF _ _ hfs,hwi]
     | some r1 =>
      have hl1:=pkI_len hx
      have hnl1:=pkI_nl hN _ _ _ _ _ hnl hx
      obtain ⟨j1,j2⟩:=ip r1.2 f.Ret hl1
      obtain ⟨u1,u2⟩:=sp r1.2 f.Ret hl1
      cases hy:pkI p.Nodes dN 1 r1.2 f.Ret with
      | none =>
       obtain ⟨X,hX⟩:=j2 hy
       obtain ⟨q,X',b',n1,n2,n3⟩:=u2 hy
       refine ⟨(((i + 1:Nat):Int),⟨p.Nodes,X,true⟩,⟨[],fs ++ [⟨f.Name,f.Params,f.Res,r1.1,-1⟩]⟩),(((i + 1:Nat):Int),⟨[],fs ++ [⟨f.Name,f.Params,f.Res,r1.1,q⟩]⟩,⟨p.Nodes,X',b'⟩),?_,?_,⟨i + 1,rfl,rfl,by omega,wrong X X' b' _ _ fs fs n2 (by omega) hfs hfs⟩,by simp only [Int.toNat_natCast];omega⟩
       ·simp only [aY,aB hlt,if_true,hgi,Option.bind_some,hcp,i1 r1 hx,hrd,hX,appF _ _ hfs,hwi]
       ·simp only [aX,aB hlt,if_true,hgi,Option.bind_some,hap,s1 r1 hx,hrd,n1,appF _ _ hfs,hwi]
      | some r2 =>
       refine ⟨(((i + 1:Nat):Int),⟨p.Nodes,r2.2,false⟩,⟨[],fs ++ [⟨f.Name,f.Params,f.Res,r1.1,r2.1⟩]⟩),(((i + 1:Nat):Int),⟨[],fs ++ [⟨f.Name,f.Params,f.Res,r1.1,r2.1⟩]⟩,⟨p.Nodes,r2.2,false⟩),?_,?_,⟨i + 1,rfl,rfl,by omega,.inl ⟨r2.2,_,rfl,rfl,pkI_len hy,pkI_nl hN _ _ _ _ _ hnl1 hy,rfl,rfl,by simp [hfs],fun x hx=>?_⟩⟩,by simp only [Int.toNat_natCast];omega⟩
       ·simp only [aY,aB hlt,if_true,hgi,Option.bind_some,hcp,i1 r1 hx,hrd,j1 r2 hy,appF _ _ hfs,hwi]
       ·simp only [aX,aB hlt,if_true,hgi,Option.bind_some,hap,s1 r1 hx,hrd,u1 r2 hy,appF _ _ hfs,hwi]
       ·simp only [List.mem_append,List.mem_singleton] at hx
        rcases hx with hx | hx
        ·exact hfle x hx
        ·subst hx;exact hfl
    ·refine ⟨(((i + 1:Nat):Int),⟨p.Nodes,X,true⟩,⟨[],fs ++ [⟨f.Name,f.Params,f.Res,-1,-1⟩]⟩),(((i + 1:Nat):Int),⟨[],fs' ++ [⟨f.Name,f.Params,f.Res,-1,-1⟩]⟩,⟨p.Nodes,X',true⟩),?_,?_,⟨i + 1,rfl,rfl,by omega,wrong X X' true _ _ fs fs' (.inl rfl) hXl hfs hfs'⟩,by simp only [Int.toNat_natCast];omega⟩
     ·simp only [aY,aB hlt,if_true,hgi,Option.bind_some,hcp,hrd,ib,appF _ _ hfs,hwi]
     ·simp only [aX,aB hlt,if_true,hgi,Option.bind_some,hap,hrd,sb X' b' _ hb,sb X' true _ (.inl rfl),appF _ _ hfs',hwi]
   ·have hrd:decide (f.Ret ≥ 0)=false:=by simpa using hret
    rcases hrel with ⟨t,fs,rfl,rfl,ht,hnl,rfl,rfl,hfs,hfle⟩ | ⟨X,X',b',fs,fs',rfl,rfl,hb,hXl,rfl,rfl,hfs,hfs'⟩
    ·obtain ⟨i1,i2⟩:=ip t f.Body ht
     obtain ⟨s1,s2⟩:=sp t f.Body ht
     cases hx:pkI p.Nodes dN 1 t f.Body with
     | none =>
      obtain ⟨X,hX⟩:=i2 hx
      obtain ⟨q,X',b',n1,n2,n3⟩:=s2 hx
      refine ⟨(((i + 1:Nat):Int),⟨p.Nodes,X,true⟩,⟨[],fs ++ [⟨f.Name,f.Params,f.Res,-1,f.Ret⟩]⟩),(((i + 1:Nat):Int),⟨[],fs ++ [⟨f.Name,f.Params,f.Res,q,f.Ret⟩]⟩,⟨p.Nodes,X',b'⟩),?_,?_,⟨i + 1,rfl,rfl,by omega,wrong X X' b' _ _ fs fs n2 (by omega) hfs hfs⟩,by simp only [Int.toNat_natCast];omega⟩
      ·simp only [aY,aB hlt,if_true,hgi,Option.bind_some,hcp,hX,hrd,Bool.false_eq_true,if_false,appF _ _ hfs,hwi]
      ·simp only [aX,aB hlt,if_true,hgi,Option.bind_some,hap,n1,hrd,Bool.false_eq_true,if_false,appF _ _ hfs,hwi]
     | some r1 =>
      refine ⟨(((i + 1:Nat):Int),⟨p.Nodes,r1.2,false⟩,⟨[],fs ++ [⟨f.Name,f.Params,f.Res,r1.1,f.Ret⟩]⟩),(((i + 1:Nat):Int),⟨[],fs ++ [⟨f.Name,f.Params,f.Res,r1.1,f.Ret⟩]⟩,⟨p.Nodes,r1.2,false⟩),?_,?_,⟨i + 1,rfl,rfl,by omega,.inl ⟨r1.2,_,rfl,rfl,pkI_len hx,pkI_nl hN _ _ _ _ _ hnl hx,rfl,rfl,by simp [hfs],fun x hx=>?_⟩⟩,by simp only [Int.toNat_natCast];omega⟩
      ·simp only [aY,aB hlt,if_true,hgi,Option.bind_some,hcp,i1 r1 hx,hrd,Bool.false_eq_true,if_false,appF _ _ hfs,hwi]
      ·simp only [aX,aB hlt,if_true,hgi,Option.bind_some,hap,s1 r1 hx,hrd,Bool.false_eq_true,if_false,appF _ _ hfs,hwi]
      ·simp only [List.mem_append,List.mem_singleton] at hx
       rcases hx with hx | hx
       ·exact hfle x hx
       ·subst hx;exact hfl
    ·refine ⟨(((i + 1:Nat):Int),⟨p.Nodes,X,true⟩,⟨[],fs ++ [⟨f.Name,f.Params,f.Res,-1,f.Ret⟩]⟩),(((i + 1:Nat):Int),⟨[],fs' ++ [⟨f.Name,f.Params,f.Res,-1,f.Ret⟩]⟩,⟨p.Nodes,X',true⟩),?_,?_,⟨i + 1,rfl,rfl,by omega,wrong X X' true _ _ fs fs' (.inl rfl) hXl hfs hfs'⟩,by simp only [Int.toNat_natCast];omega⟩
     ·simp only [aY,aB hlt,if_true,hgi,Option.bind_some,hcp,hrd,ib,Bool.false_eq_true,if_false,appF _ _ hfs,hwi]
     ·simp only [aX,aB hlt,if_true,hgi,Option.bind_some,hap,hrd,sb X' b' _ hb,Bool.false_eq_true,if_false,appF _ _ hfs',hwi]
  ·right
   have:i=p.Fns.length:=by omega
   subst this
   exact ⟨(pk,pr),(pr',pk'),by simp [aY],by simp [aX],pk,pr,pr',pk',rfl,rfl,hrel⟩) (0,⟨p.Nodes,[],false⟩,⟨[],[]⟩) (0,⟨[],[]⟩,⟨p.Nodes,[],false⟩) ⟨0,rfl,rfl,by omega,.inl ⟨[],[],rfl,rfl,by simp,fun x hx=>(by cases hx),rfl,rfl,rfl,fun x hx=>(by cases hx)⟩⟩
 subst e1 e2
 unfold kT kE
 rw [g1,g2]
 simp only [Option.bind_some]
 rcases g3 with ⟨t,fs,rfl,rfl,ht,hnl,rfl,rfl,hfs,hfle⟩ | ⟨X,X',b',fs,fs',rfl,rfl,hb,hXl,rfl,rfl,hfs,hfs'⟩
 ·have hd:decide ((t.length:Int) > 300)=false:=by simp only [decide_eq_false_iff_not];omega
  refine ⟨⟨t,fs⟩,true,by simp,by simp only [Bool.false_eq_true,if_false,hd,Option.bind_some],fun _=>⟨⟨by simp only;omega,hnl⟩,by simp only;omega,hfle⟩⟩
 ·refine ⟨⟨[],[]⟩,false,by simp,?_,fun h=>by cases h⟩
  have:(if b'=true then some true else some (decide ((X'.length:Int) > 300)))=some true:=by
   rcases hb with h | h
   ·rw [h];rfl
   ·have hd:decide ((X'.length:Int) > 300)=true:=by simp only [decide_eq_true_eq];omega
    rw [hd];split<;>rfl
  simp only [this,Option.bind_some,if_true]
end Go.OM
namespace Go.OM
end Go.OM
namespace Go.OM
end Go.OM
namespace Go.OM
open Classical in
noncomputable def setL (n:Nat) (P:Nat→Prop):List Int:=((List.range n).filter fun j=>decide (P j)).map fun k:Nat=>(k:Int)
theorem mem_setL {n:Nat} {P:Nat→Prop} {x:Int}:x ∈ setL n P ↔ 0 ≤ x∧x < n∧P x.toNat:=by
 unfold setL
 rw [List.mem_map]
 constructor
 ·rintro ⟨j,hj,rfl⟩
  obtain ⟨h1,h2⟩:=List.mem_filter.1 hj
  have:=List.mem_range.1 h1
  exact ⟨by omega,by omega,by simpa using h2⟩
 ·rintro ⟨h1,h2,h3⟩
  refine ⟨x.toNat,List.mem_filter.2 ⟨List.mem_range.2 (by omega),by simpa using h3⟩,by omega⟩
theorem setL_lt (n:Nat) (P:Nat→Prop):(setL n P).Pairwise (· < ·):=by
 unfold setL
 refine List.Pairwise.map _ (fun a b h=>?_) (List.Pairwise.filter _ List.pairwise_lt_range)
 omega
theorem setL_len (n:Nat) (P:Nat→Prop):(setL n P).length ≤ n:=by
 unfold setL
 rw [List.length_map]
 have:=List.length_filter_le (fun j=>@decide (P j) (Classical.propDecidable _)) (List.range n)
 rw [List.length_range] at this
 exact this
theorem oO {l:List Int} (h:l.Pairwise (· < ·)):l.Nodup:=by
 rw [List.nodup_iff_pairwise_ne]
 exact h.imp fun h=>by omega
theorem lt_unique {a b:List Int} (ha:a.Pairwise (· < ·)) (hb:b.Pairwise (· < ·)) (h:∀ x,x ∈ a ↔ x ∈ b):a=b:=by
 refine List.Perm.eq_of_pairwise (le:=fun x y:Int=>x < y) (fun x y _ _ h1 h2=>by omega) ha hb ?_
 exact (List.perm_ext_iff_of_nodup (oO ha) (oO hb)).2 h
theorem setL_congr {n:Nat} {P Q:Nat→Prop} (h:∀ j,j < n→(P j ↔ Q j)):setL n P=setL n Q:=by
 refine lt_unique (setL_lt _ _) (setL_lt _ _) fun x=>?_
 rw [mem_setL,mem_setL]
 constructor
 ·rintro ⟨h1,h2,h3⟩;exact ⟨h1,h2,(h _ (by omega)).1 h3⟩
 ·rintro ⟨h1,h2,h3⟩;exact ⟨h1,h2,(h _ (by omega)).2 h3⟩
theorem setL_eq {n:Nat} {P:Nat→Prop} {l:List Int} (hl:l.Pairwise (· < ·)) (h:∀ x,x ∈ l ↔ 0 ≤ x∧x < n∧P x.toNat):l=setL n P:=lt_unique hl (setL_lt _ _) fun x=>by rw [h,mem_setL]
theorem sort_setL {n:Nat} {P:Nat→Prop} {l:List Int} (hl:l.Nodup) (h:∀ x,x ∈ l ↔ 0 ≤ x∧x < n∧P x.toNat):(l.mergeSort fun x y=>decide (x ≤ y))=setL n P:=by
 have hp:=List.mergeSort_perm l (fun x y=>decide (x ≤ y))
 have hs:=List.pairwise_mergeSort (le:=fun x y:Int=>decide (x ≤ y)) (fun a b c h1 h2=>by simp only [decide_eq_true_eq] at *;omega) (fun a b=>by simp only [Bool.or_eq_true,decide_eq_true_eq];omega) l
 have hn:(l.mergeSort fun x y=>decide (x ≤ y)).Nodup:=hp.nodup_iff.2 hl
 refine setL_eq ?_ fun x=>by rw [← h];exact hp.mem_iff
 rw [List.nodup_iff_pairwise_ne] at hn
 exact (hs.and hn).imp fun ⟨h1,h2⟩=>by simp only [decide_eq_true_eq] at h1;omega
theorem dJ {n:Nat} {l:List Int} (hl:l.Nodup) (hb:∀ x ∈ l,0 ≤ x∧x < n):l.length ≤ n:=by
 have:=hl.length_le_of_subset (l₂:=(List.range n).map fun k:Nat=>(k:Int)) fun x hx=>by
  have:=hb x hx
  exact List.mem_map.2 ⟨x.toNat,List.mem_range.2 (by omega),by omega⟩
 simpa using this
theorem sort_some {l:List Int} (h:l.length ≤ 1048576):sort_Ints l=some (l.mergeSort fun x y=>decide (x ≤ y)):=by
 unfold sort_Ints;rw [if_pos (by omega)]
theorem addL_nodup {s:List Int} (h:s.Nodup) (x:Int):(addL s x).Nodup:=by
 unfold addL
 split
 ·exact h
 ·rename_i hc
  rw [List.nodup_append]
  refine ⟨h,by simp,fun a ha b hb=>?_⟩
  simp only [List.mem_singleton] at hb
  subst hb
  rintro rfl
  exact hc (by simpa using ha)
theorem jT:∀ (l:List Int) {s:List Int},s.Nodup→(l.foldl addL s).Nodup
 | [],s,h=>h
 | x :: l,s,h=>jT l (addL_nodup h x)
theorem addL_pre (s:List Int) (x:Int):∃ t,addL s x=s ++ t:=by
 unfold addL
 split
 ·exact ⟨[],by simp⟩
 ·exact ⟨[x],rfl⟩
theorem pQ:∀ (l:List Int) (s:List Int),∃ t,l.foldl addL s=s ++ t
 | [],s=>⟨[],by simp⟩
 | x :: l,s=>by
  obtain ⟨t,ht⟩:=addL_pre s x
  obtain ⟨t',ht'⟩:=pQ l (addL s x)
  exact ⟨t ++ t',by rw [List.foldl_cons,ht',ht,List.append_assoc]⟩
theorem foldAdd_bnd {n:Nat} {l s:List Int} (hs:∀ x ∈ s,0 ≤ x∧x < (n:Int)) (hl:∀ x ∈ l,0 ≤ x∧x < (n:Int)):∀ x ∈ l.foldl addL s,0 ≤ x∧x < (n:Int):=fun x hx=>by
 rcases (eR x l s).1 hx with h | h
 ·exact hs x h
 ·exact hl x h
theorem add_loop {ρ:Type} (n:Nat) (l:List Int) (hl:∀ x ∈ l,0 ≤ x∧x < (n:Int)) (f:List Int × Int→Option ((List Int × Int) ⊕ ρ)) (fin:List Int→ρ)
  (hf:∀ (o:List Int) (k:Nat) (hk:k < l.length),o.length ≤ n→f (o,k)=some (.inl (addL o l[k],((k + 1:Nat):Int))))
  (he:∀ o,f (o,l.length)=some (.inr (fin o))) (o:List Int) (ho:o.Nodup) (hb:∀ x ∈ o,0 ≤ x∧x < (n:Int)):aG f (o,0)=some (fin (l.foldl addL o)):=by
 have:=fJ l (fun (s:List Int) k=>(s,(k:Int))) (fun k s=>s.Nodup∧∀ x ∈ s,0 ≤ x∧x < (n:Int)) (fun s e=>.inl (addL s e)) fin f (fun s k hk hI=>by
  left
  refine ⟨_,rfl,hf s k hk (dJ hI.1 hI.2),addL_nodup hI.1 _,fun x hx=>?_⟩
  rcases mem_addL.1 hx with h | h
  ·exact hI.2 x h
  ·subst h;exact hl _ (List.getElem_mem hk)) (fun s _=>he s) o ⟨ho,hb⟩
 rw [gF] at this
 exact this
theorem bfs_loop {ρ:Type} (n:Nat) (root:Nat) (hroot:root < n) (next:Nat→List Int) (hnx:∀ i,Reach next root i→∀ m ∈ next i,0 ≤ m∧m < (n:Int)) (f:List Int × Int→Option ((List Int × Int) ⊕ ρ)) (fin:List Int→ρ)
  (hf:∀ (o:List Int) (k:Nat) (hk:k < o.length),o.Nodup→(∀ x ∈ o,0 ≤ x∧x < (n:Int))→Reach next root o[k].toNat→f (o,k)=some (.inl ((next o[k].toNat).foldl addL o,((k + 1:Nat):Int))))
  (he:∀ o:List Int,o.length ≤ n→f (o,o.length)=some (.inr (fin o))):∃ o:List Int,aG f ([(root:Int)],0)=some (fin o)∧o.Nodup∧∀ x,x ∈ o ↔ 0 ≤ x∧x < (n:Int)∧Reach next root x.toNat:=by
 obtain ⟨r,h1,o,h2,h3⟩:=bC (f:=f) (fun s:List Int × Int=>∃ i:Nat,s.2=i∧i ≤ s.1.length∧s.1.Nodup∧(root:Int) ∈ s.1∧(∀ x ∈ s.1,0 ≤ x∧x < (n:Int)∧Reach next root x.toNat)∧∀ (j:Nat) (hj:j < s.1.length),j < i→∀ m ∈ next s.1[j].toNat,m ∈ s.1) (fun s=>n - s.2.toNat) (fun r=>∃ o,r=fin o∧o.Nodup∧∀ x,x ∈ o ↔ 0 ≤ x∧x < (n:Int)∧Reach next root x.toNat) (by
  rintro ⟨o,i⟩ ⟨i,rfl,hi,hn,hr,hb,hc⟩
  simp only at hi hn hr hb hc
  have hb2:∀ x ∈ o,0 ≤ x∧x < (n:Int):=fun x hx=>⟨(hb x hx).1,(hb x hx).2.1⟩
  have hlen:=dJ hn hb2
  by_cases hlt:i < o.length
  ·left
   have hbi:=hb _ (List.getElem_mem hlt)
   have hnb:=hnx _ hbi.2.2
   refine ⟨_,hf o i hlt hn hb2 hbi.2.2,⟨i + 1,rfl,?_,jT _ hn,?_,?_,?_⟩,by simp only [Int.toNat_natCast];omega⟩
   ·obtain ⟨t,ht⟩:=pQ (next o[i].toNat) o
    simp only [ht,List.length_append];omega
   ·exact (eR _ _ _).2 (.inl hr)
   ·intro x hx
    rcases (eR _ _ _).1 hx with h | h
    ·exact hb x h
    ·exact ⟨(hnb x h).1,(hnb x h).2,.step hbi.2.2 h⟩
   ·intro j hj hji m hm
    obtain ⟨t,ht⟩:=pQ (next o[i].toNat) o
    simp only at hj hm ⊢
    have hjo:j < o.length:=by omega
    have hg:((next o[i].toNat).foldl addL o)[j]=o[j]:=by
     simp only [ht]
     exact List.getElem_append_left hjo
    rw [hg] at hm
    rw [eR]
    by_cases e:j=i
    ·subst e;exact .inr hm
    ·exact .inl (hc j hjo (by omega) m hm)
  ·right
   have:i=o.length:=by omega
   subst this
   refine ⟨fin o,he o hlen,o,rfl,hn,fun x=>⟨hb x,fun ⟨h1,h2,h3⟩=>?_⟩⟩
   have key:∀ k,Reach next root k→(k:Int) ∈ o:=by
    intro k hk
    induction hk with
    | base=>exact hr
    | step hk' hm ih =>
     obtain ⟨j,hj,he⟩:=List.mem_iff_getElem.1 ih
     rename_i a m
     have hm2:m ∈ next o[j].toNat:=by rw [he,Int.toNat_natCast];exact hm
     have:=hc j hj hj m hm2
     have hmb:=hb m this
     rw [show ((m.toNat:Nat):Int)=m by omega]
     exact this
   have:=key _ h3
   rwa [show ((x.toNat:Nat):Int)=x by omega] at this) ([(root:Int)],0) ⟨0,rfl,by simp,by simp,by simp,fun x hx=>by
  simp only [List.mem_singleton] at hx
  subst hx
  exact ⟨by omega,by omega,by rw [Int.toNat_natCast];exact .base⟩,fun j hj h=>by omega⟩
 exact ⟨o,by rw [h1,h2],h3⟩
theorem scan_loop {ρ:Type} (n:Nat) (hn:n ≤ 1048576) (p:Nat→Bool) (f:List Int × Int→Option ((List Int × Int) ⊕ ρ)) (fin:List Int→ρ)
  (hf:∀ (o:List Int) (k:Nat),o.length ≤ 1048576→k < n→f (o,k)=some (.inl ((if p k=true then o ++ [(k:Int)] else o),((k + 1:Nat):Int))))
  (he:∀ o:List Int,f (o,n)=some (.inr (fin o))):aG f ([],0)=some (fin (setL n fun k=>p k=true)):=by
 obtain ⟨r,h1,h2⟩:=bC (f:=f) (fun s:List Int × Int=>∃ k:Nat,s.2=k∧k ≤ n∧s.1=((List.range k).filter p).map fun k:Nat=>(k:Int)) (fun s=>n - s.2.toNat) (fun r=>r=fin (((List.range n).filter p).map fun k:Nat=>(k:Int))) (by
  rintro ⟨o,i⟩ ⟨k,rfl,hk,ho⟩
  simp only at ho hk
  by_cases hlt:k < n
  ·left
   have hol:o.length ≤ 1048576:=by
    rw [ho,List.length_map]
    have:=List.length_filter_le p (List.range k)
    rw [List.length_range] at this
    omega
   refine ⟨_,hf o k hol hlt,⟨k + 1,rfl,by omega,?_⟩,by simp only [Int.toNat_natCast];omega⟩
   simp only
   rw [List.range_succ,List.filter_append,List.map_append,← ho]
   cases hp:p k<;>simp [hp]
  ·right
   have:k=n:=by omega
   subst this
   exact ⟨_,he o,by rw [ho]⟩) ([],0) ⟨0,rfl,by omega,rfl⟩
 rw [h1,h2]
 have:((List.range n).filter p).map (fun k:Nat=>(k:Int))=setL n fun k=>p k=true:=by
  unfold setL
  congr 1
  refine List.filter_congr fun x _=>?_
  simp
 rw [this]
def nZ (nodes:List GNode) (i:Nat):List Int:=match nodes[i]? with
 | some x=>x.Kids
 | none=>[]
theorem kidsN_at {nodes:List GNode} {i:Nat} (h:i < nodes.length):nZ nodes i=nodes[i].Kids:=by unfold nZ;rw [List.getElem?_eq_getElem h]
theorem kidsN_bnd {nodes:List GNode} {i:Nat} (h:kX nodes i=true):(nZ nodes i).length ≤ 12∧∀ m ∈ nZ nodes i,0 ≤ m∧m < i:=by
 have hi:i < nodes.length:=(nP h).1
 have hg:nodes[i]? = some nodes[i]:=List.getElem?_eq_getElem hi
 rw [kidsN_at hi]
 exact ⟨lD h hg,lX h hg⟩
theorem under_le {nodes:List GNode} {k:Nat} (h:okU nodes (k + 1)=true) {j:Nat} (r:Reach (nZ nodes) k j):j ≤ k:=by
 induction r with
 | base=>exact Nat.le_refl _
 | step _ hm ih =>
  have:=(kidsN_bnd (pG h (by omega)).1).2 _ hm
  omega
noncomputable def fT (nodes:List GNode) (k:Int):List Int:=if deepB nodes k=0 then [] else setL nodes.length (Reach (nZ nodes) k.toNat)
theorem jV {nodes:List GNode} {k x:Int} (h:x ∈ fT nodes k):0 ≤ x∧x < nodes.length:=by
 unfold fT at h
 split at h
 ·cases h
 ·have:=mem_setL.1 h;exact ⟨this.1,this.2.1⟩
theorem underB_lt (nodes:List GNode) (k:Int):(fT nodes k).Pairwise (· < ·):=by
 unfold fT
 split
 ·simp
 ·exact setL_lt _ _
theorem impl_under_eq (nodes:List GNode) (hn:nodes.length ≤ 1048576) (k:Nat) (hk:k < nodes.length) (hok:okU nodes (k + 1)=true):mD nodes k=some (setL nodes.length (Reach (nZ nodes) k)):=by
 unfold mD
 have hnx:∀ i,Reach (nZ nodes) k i→(nZ nodes i).length ≤ 12∧∀ m ∈ nZ nodes i,0 ≤ m∧m < (i:Int):=fun i hr=>kidsN_bnd (pG hok (by have:=under_le hok hr;omega)).1
 obtain ⟨o,g1,g2,g3⟩:=bfs_loop nodes.length k hk (nZ nodes) (fun i hr m hm=>by
  have:=(hnx i hr).2 m hm
  have:=under_le hok hr
  omega) (fP nodes) (fun o=>o) (fun o i hi hnd hb hr=>by
   have hbi:=hb _ (List.getElem_mem hi)
   have hlt:o[i].toNat < nodes.length:=by omega
   have hge:getI nodes o[i]=some nodes[o[i].toNat]:=eJ hbi.1 hbi.2
   have hol:=dJ hnd hb
   obtain ⟨hkl,hkb⟩:=hnx _ hr
   have hle:=under_le hok hr
   have hkn:=kidsN_at hlt
   simp only [fP,aB hi,if_true,aD hi,Option.bind_some,hge]
   rw [hkn] at hkl hkb ⊢
   generalize nodes[o[i].toNat]=x at *
   rw [add_loop nodes.length x.Kids (fun m hm=>by have:=hkb m hm;omega) (fO x) (fun o=>o) (fun o k hk ho=>by
    have happ:appI 8 o [x.Kids[k]]=some (o ++ [x.Kids[k]]):=app1 (by omega) (by omega)
    simp only [fO,aB hk,if_true,aD hk,Option.bind_some,oF o _ (by omega),aO hk (show x.Kids.length ≤ 1048576 by omega),happ]
    unfold addL
    cases o.contains x.Kids[k]<;>rfl) (fun o=>by simp [fO]) o hnd hb]
   simp only [Option.bind_some,aO hi (show o.length ≤ 1048576 by omega)]) (fun o ho=>by simp [fP])
 rw [g1]
 simp only [Option.bind_some]
 have hol:o.length ≤ 1048576:=by
  have:=dJ (n:=nodes.length) g2 fun x hx=>⟨((g3 x).1 hx).1,((g3 x).1 hx).2.1⟩
  omega
 rw [sort_some hol]
 simp only [Option.bind_some]
 rw [sort_setL g2 g3]
theorem impl_Under_eq (p:GProgram) (hn:p.Nodes.length ≤ 1048576) (k:Int):mG p k=some (fT p.Nodes k):=by
 unfold mG fT
 rw [pI _ hn]
 simp only [Option.bind_some]
 by_cases hz:deepB p.Nodes k=0
 ·rw [if_pos (by simpa using hz),if_pos hz]
 ·rw [if_neg (by simpa using hz),if_neg hz]
  obtain ⟨h0,h1,h2⟩:=deepB_zero hz
  have:=impl_under_eq p.Nodes hn k.toNat (by omega) h2
  rw [show ((k.toNat:Nat):Int)=k by omega] at this
  rw [this];rfl
structure MarkR (nodes:List GNode) (k:Nat) (s s':List Bool):Prop where
 len:s'.length=s.length
 mono:∀ j:Nat,s[j]? = some true→s'[j]? = some true
 self:s'[k]? = some true
 sound:∀ j:Nat,s'[j]? = some true→s[j]? = some true ∨ Reach (nZ nodes) k j
 closed:∀ j:Nat,s'[j]? = some true→s[j]? = some true ∨ ∀ m ∈ nZ nodes j,s'[m.toNat]? = some true
theorem reach_kid {next:Nat→List Int} {k:Nat} {m:Int} (hm:m ∈ next k) {j:Nat} (r:Reach next m.toNat j):Reach next k j:=by
 induction r with
 | base=>exact .step .base hm
 | step _ hm' ih=>exact .step ih hm'
theorem mark_main (nodes:List GNode) (hn:nodes.length ≤ 1048576):∀ (f k:Nat) (s:List Bool),okU nodes (k + 1)=true→dval nodes k ≤ f→s.length=nodes.length→∃ s',bW f nodes k s=some s'∧MarkR nodes k s s'
 | 0,k,s,hok,hd,hs=>by have:=oT nodes k;omega
 | f + 1,k,s,hok,hd,hs=>by
  obtain ⟨hnb,_⟩:=pG hok (Nat.lt_succ_self k)
  have hk:k < nodes.length:=(nP hnb).1
  have hx:nodes[k]? = some nodes[k]:=List.getElem?_eq_getElem hk
  have hge:getI nodes (k:Int)=some nodes[k]:=aD hk
  obtain ⟨hkl,hkb⟩:=kidsN_bnd hnb
  have hkn:=kidsN_at hk
  have hks:k < s.length:=by omega
  have hkid:=fun kid hm=>dval_kid (kid:=kid) hnb hx hm
  rw [hkn] at hkl hkb
  generalize hxe:nodes[k]=x at *
  show ∃ s',fU (bW f) nodes k s=some s'∧MarkR nodes k s s'
  unfold fU
  rw [aD hks]
  simp only [Option.bind_some]
  by_cases hsk:s[k]=true
  ·rw [if_pos hsk]
   have hsk':s[k]? = some true:=by rw [List.getElem?_eq_getElem hks,hsk]
   exact ⟨s,rfl,rfl,fun _ h=>h,hsk',fun _ h=>.inl h,fun _ h=>.inl h⟩
  ·rw [if_neg hsk]
   simp only [bP,Int.toNat_natCast]
   have hs0:(s.set k true).length=nodes.length:=by rw [List.length_set];exact hs
   have hs0k:(s.set k true)[k]? = some true:=by rw [List.getElem?_set,if_pos rfl,if_pos hks]
   have hs0j:∀ j:Nat,(s.set k true)[j]? = some true→s[j]? = some true ∨ j=k:=by
    intro j h
    rw [List.getElem?_set] at h
    split at h
    ·rename_i e;exact .inr e.symm
    ·exact .inl h
   have hs0m:∀ j:Nat,s[j]? = some true→(s.set k true)[j]? = some true:=by
    intro j h
    rw [List.getElem?_set]
    by_cases e:k=j
    ·subst e;rw [if_pos rfl,if_pos hks]
    ·rw [if_neg e];exact h
   obtain ⟨r,g1,g2⟩:=bC (f:=dW (bW f) nodes k) (fun t:List Bool × Int=>∃ i:Nat,t.2=i∧i ≤ x.Kids.length∧t.1.length=nodes.length∧(∀ j:Nat,(s.set k true)[j]? = some true→t.1[j]? = some true)∧(∀ j:Nat,t.1[j]? = some true→(s.set k true)[j]? = some true ∨ Reach (nZ nodes) k j) ∧
     (∀ j:Nat,t.1[j]? = some true→(s.set k true)[j]? = some true ∨ ∀ m ∈ nZ nodes j,t.1[m.toNat]? = some true)∧∀ (q:Nat) (hq:q < x.Kids.length),q < i→t.1[(x.Kids[q]).toNat]? = some true) (fun t=>x.Kids.length - t.2.toNat) (fun r=>MarkR nodes k s r) (by
    rintro ⟨t,i⟩ ⟨i,rfl,hi,hl,hm,hso,hcl,hd'⟩
    simp only at hi hl hm hso hcl hd'
    by_cases hlt:i < x.Kids.length
    ·left
     have hmem:=List.getElem_mem hlt
     have hb:=hkb _ hmem
     obtain ⟨s',r1,r2⟩:=mark_main nodes hn f (x.Kids[i]).toNat t (okU_mono (by omega) hok) (by have:=hkid _ hmem;omega) hl
     rw [show (((x.Kids[i]).toNat:Nat):Int)=x.Kids[i] by omega] at r1
     have hmk:x.Kids[i] ∈ nZ nodes k:=by rw [hkn];exact hmem
     refine ⟨(s',((i + 1:Nat):Int)),?_,⟨i + 1,rfl,by omega,r2.len.trans hl,fun j h=>r2.mono j (hm j h),fun j h=>?_,fun j h=>?_,fun q hq hqi=>?_⟩,by simp only [Int.toNat_natCast];omega⟩
     ·simp only [dW,hge,Option.bind_some,aB hlt,if_true,aD hlt,r1,aO hlt (show x.Kids.length ≤ 1048576 by omega)]
     ·rcases r2.sound j h with h | h
      ·exact hso j h
      ·exact .inr (reach_kid hmk h)
     ·rcases r2.closed j h with h | h
      ·rcases hcl j h with h | h
       ·exact .inl h
       ·exact .inr fun m hm=>r2.mono _ (h m hm)
      ·exact .inr h
     ·by_cases e:q=i
      ·subst e;exact r2.self
      ·exact r2.mono _ (hd' q hq (by omega))
    ·right
     have:i=x.Kids.length:=by omega
     subst this
     refine ⟨t,by simp [dW,hge],hl.trans hs.symm,fun j h=>hm j (hs0m j h),hm k hs0k,fun j h=>?_,fun j h=>?_⟩
     ·rcases hso j h with h | h
      ·rcases hs0j j h with h | h
       ·exact .inl h
       ·subst h;exact .inr .base
      ·exact .inr h
     ·rcases hcl j h with h | h
      ·rcases hs0j j h with h | h
       ·exact .inl h
       ·subst h
        right
        intro m hm'
        rw [hkn] at hm'
        obtain ⟨q,hq,rfl⟩:=List.mem_iff_getElem.1 hm'
        exact hd' q hq hq
      ·exact .inr h) (s.set k true,0) ⟨0,rfl,by omega,hs0,fun _ h=>h,fun _ h=>.inl h,fun _ h=>.inl h,fun q _ h=>by omega⟩
   exact ⟨r,g1,g2⟩
theorem spec_Under_eq (p:GProgram) (hn:p.Nodes.length ≤ 1048576) (k:Int):jW p k=some (fT p.Nodes k):=by
 unfold jW fT
 rw [spec_DeepOf_eq _ hn]
 simp only [Option.bind_some]
 by_cases hz:deepB p.Nodes k=0
 ·rw [if_pos (by simpa using hz),if_pos hz]
 ·rw [if_neg (by simpa using hz),if_neg hz]
  obtain ⟨h0,h1,h2⟩:=deepB_zero hz
  rw [nQ _ _ _ (by omega) (by omega)]
  simp only [Option.bind_some]
  obtain ⟨s',r1,r2⟩:=mark_main p.Nodes hn dN k.toNat (List.replicate p.Nodes.length false) h2 (by
   have:=(pG h2 (Nat.lt_succ_self _)).2
   rw [recFuel_eq];omega) (by simp)
  rw [show ((k.toNat:Nat):Int)=k by omega] at r1
  have r1':nJ p.Nodes k (List.replicate p.Nodes.length false)=some s':=r1
  rw [r1']
  simp only [Option.bind_some]
  have hl:s'.length=p.Nodes.length:=by rw [r2.len];simp
  have hrep:∀ j:Nat,¬ (List.replicate p.Nodes.length false)[j]? = some true:=by
   intro j h
   rw [List.getElem?_replicate] at h
   split at h<;>simp at h
  have hiff:∀ j,s'[j]? = some true ↔ Reach (nZ p.Nodes) k.toNat j:=by
   intro j
   constructor
   ·intro h
    rcases r2.sound j h with h | h
    ·exact absurd h (hrep j)
    ·exact h
   ·intro h
    induction h with
    | base=>exact r2.self
    | step _ hm ih =>
     rcases r2.closed _ ih with h | h
     ·exact absurd h (hrep _)
     ·exact h _ hm
  rw [scan_loop p.Nodes.length hn (fun j=>s'.getD j false) (fH s') (fun o=>o) (fun o j ho hj=>by
   have hjs:j < s'.length:=by omega
   have happ:appI 8 o [(j:Int)]=some (o ++ [(j:Int)]):=app1 ho (by omega)
   simp only [fH,hl,aB hj,if_true,aD hjs,Option.bind_some,happ,aO hj hn]
   rw [List.getD_eq_getElem?_getD,List.getElem?_eq_getElem hjs]
   simp only [Option.getD_some]
   cases s'[j]<;>rfl) (fun o=>by simp [fH,hl])]
  simp only [Option.bind_some]
  congr 1
  refine setL_congr fun j hj=>?_
  rw [← hiff]
  have hjs:j < s'.length:=by omega
  rw [List.getD_eq_getElem?_getD,List.getElem?_eq_getElem hjs]
  simp
end Go.OM
namespace Go.OM
theorem drop_ge {L:List Int} (h:L.Pairwise (· < ·)) {i:Nat} (hi:i < L.length) {y:Int} (hy:y ∈ L.drop i):L[i] ≤ y:=by
 obtain ⟨j,hj,rfl⟩:=List.mem_iff_getElem.1 hy
 rw [List.length_drop] at hj
 rw [List.getElem_drop]
 rcases Nat.eq_zero_or_pos j with e | e
 ·subst e;simp
 ·have:=(List.pairwise_iff_getElem.1 h) i (i + j) hi (by omega) (by omega)
  omega
theorem drop_gt {L:List Int} (h:L.Pairwise (· < ·)) {i:Nat} (hi:i < L.length) {y:Int} (hy:y ∈ L.drop (i + 1)):L[i] < y:=by
 obtain ⟨j,hj,rfl⟩:=List.mem_iff_getElem.1 hy
 rw [List.length_drop] at hj
 rw [List.getElem_drop]
 exact (List.pairwise_iff_getElem.1 h) i (i + 1 + j) hi (by omega) (by omega)
theorem gU {L:List Int} {i:Nat} (hi:i < L.length) {x:Int}:x ∈ L.take (i + 1) ↔ x ∈ L.take i ∨ x=L[i]:=by
 rw [List.take_add_one,List.getElem?_eq_getElem hi,List.mem_append]
 simp
theorem iH {L:List Int} {i:Nat} {x:Int} (h:x ∈ L.drop (i + 1)):x ∈ L.drop i:=by
 obtain ⟨j,hj,rfl⟩:=List.mem_iff_getElem.1 h
 rw [List.length_drop] at hj
 rw [List.getElem_drop]
 exact List.mem_iff_getElem.2 ⟨1 + j,by rw [List.length_drop];omega,by rw [List.getElem_drop];congr 1;omega⟩
theorem qW {L:List Int} {i:Nat} (hi:i < L.length):L[i] ∈ L.drop i:=by
 rw [List.drop_eq_getElem_cons hi];exact List.mem_cons_self
theorem snoc_lt {o:List Int} {a:Int} (h:o.Pairwise (· < ·)) (hb:∀ x ∈ o,x < a):(o ++ [a]).Pairwise (· < ·):=by
 rw [List.pairwise_append]
 exact ⟨h,by simp,fun x hx y hy=>by simp only [List.mem_singleton] at hy;subst hy;exact hb x hx⟩
theorem merge_loop (n:Nat) (hn:n ≤ 1048576) (A B:List Int) (hA:A.Pairwise (· < ·)) (hB:B.Pairwise (· < ·)) (hbA:∀ x ∈ A,0 ≤ x∧x < (n:Int)) (hbB:∀ x ∈ B,0 ≤ x∧x < (n:Int)) :
  aG (aW A B) ([],0,0)=some (setL n fun j=>(j:Int) ∈ A ∨ (j:Int) ∈ B):=by
 have lA:=dJ (oO hA) hbA
 have lB:=dJ (oO hB) hbB
 obtain ⟨r,h1,h2⟩:=bC (f:=aW A B) (fun s:List Int × Int × Int=>∃ i k:Nat,s.2=((i:Int),(k:Int))∧i ≤ A.length∧k ≤ B.length∧s.1.Pairwise (· < ·)∧(∀ x,x ∈ s.1 ↔ x ∈ A.take i ∨ x ∈ B.take k)∧(∀ x ∈ s.1,∀ y ∈ A.drop i,x < y)∧∀ x ∈ s.1,∀ y ∈ B.drop k,x < y) (fun s=>(A.length - s.2.1.toNat) + (B.length - s.2.2.toNat)) (fun r=>r=setL n fun j=>(j:Int) ∈ A ∨ (j:Int) ∈ B) (by
  rintro ⟨o,p⟩ ⟨i,k,rfl,hi,hk,ho,hm,h3,h4⟩
  simp only at ho hm h3 h4
  have hob:∀ x ∈ o,0 ≤ x∧x < (n:Int):=fun x hx=>by
   rcases (hm x).1 hx with h | h
   ·exact hbA x (List.mem_of_mem_take h)
   ·exact hbB x (List.mem_of_mem_take h)
  have hol:=dJ (oO ho) hob
  have happ:∀ a:Int,appI 8 o [a]=some (o ++ [a]):=fun a=>app1 (by omega) (by omega)
  have di:decide ((i:Int) < (A.length:Int))=decide (i < A.length):=decide_eq_decide.2 (by omega)
  have dk:decide ((k:Int) < (B.length:Int))=decide (k < B.length):=decide_eq_decide.2 (by omega)
  have dk2:decide ((k:Int) ≥ (B.length:Int))=decide (¬ k < B.length):=decide_eq_decide.2 (by omega)
  have wi:IntKind.wrap .i64 ((i:Int) + 1)=((i + 1:Nat):Int):=by rw [w64 (by omega) (by omega)];omega
  have wk:IntKind.wrap .i64 ((k:Int) + 1)=((k + 1:Nat):Int):=by rw [w64 (by omega) (by omega)];omega
  -- what the step takes
  have takeA:∀ (hia:i < A.length),(∀ hkb:k < B.length,A[i] < B[k])→∃ b,aW A B (o,(i:Int),(k:Int))=some (.inl b)∧(∃ i' k':Nat,b.2=((i':Int),(k':Int))∧i' ≤ A.length∧k' ≤ B.length∧b.1.Pairwise (· < ·)∧(∀ x,x ∈ b.1 ↔ x ∈ A.take i' ∨ x ∈ B.take k')∧(∀ x ∈ b.1,∀ y ∈ A.drop i',x < y)∧∀ x ∈ b.1,∀ y ∈ B.drop k',x < y)∧(A.length - b.2.1.toNat) + (B.length - b.2.2.toNat) < (A.length - i) + (B.length - k):=by
   intro hia hab
   refine ⟨(o ++ [A[i]],((i + 1:Nat):Int),(k:Int)),?_,⟨i + 1,k,rfl,by omega,hk,snoc_lt ho fun x hx=>h3 x hx _ (qW hia),fun x=>?_,fun x hx y hy=>?_,fun x hx y hy=>?_⟩,by simp only [Int.toNat_natCast];omega⟩
   ·by_cases hkb:k < B.length
    ·have:=hab hkb
     simp [aW,di,dk,dk2,hia,hkb,aD hia,aD hkb,happ,wi,this,show ¬ B.length ≤ k by omega]
    ·simp [aW,di,dk,dk2,hia,hkb,aD hia,happ,wi,show B.length ≤ k by omega]
   ·simp only [List.mem_append,List.mem_singleton,hm,gU hia]
    constructor
    ·rintro ((h | h) | h)
     ·exact .inl (.inl h)
     ·exact .inr h
     ·exact .inl (.inr h)
    ·rintro ((h | h) | h)
     ·exact .inl (.inl h)
     ·exact .inr h
     ·exact .inl (.inr h)
   ·rcases List.mem_append.1 hx with h | h
    ·exact h3 x h y (iH hy)
    ·simp only [List.mem_singleton] at h;subst h;exact drop_gt hA hia hy
   ·rcases List.mem_append.1 hx with h | h
    ·exact h4 x h y hy
    ·simp only [List.mem_singleton] at h;subst h
     have hkb:k < B.length:=by
      rcases Nat.lt_or_ge k B.length with h | h
      ·exact h
      ·rw [List.drop_eq_nil_of_le h] at hy;cases hy
     have:=hab hkb
     have:=drop_ge hB hkb hy
     omega
  by_cases hend:i < A.length ∨ k < B.length
  ·left
   by_cases hkb:k < B.length
   ·by_cases hia:i < A.length
    ·by_cases hlt:A[i] < B[k]
     ·exact takeA hia fun _=>hlt
     ·by_cases heq:A[i]=B[k]
      ·refine ⟨(o ++ [B[k]],((i + 1:Nat):Int),((k + 1:Nat):Int)),?_,⟨i + 1,k + 1,rfl,by omega,by omega,snoc_lt ho fun x hx=>h4 x hx _ (qW hkb),fun x=>?_,fun x hx y hy=>?_,fun x hx y hy=>?_⟩,by simp only [Int.toNat_natCast];omega⟩
       ·simp [aW,di,dk,dk2,hia,hkb,aD hia,aD hkb,happ,wi,wk,heq,show ¬ B.length ≤ k by omega]
       ·simp only [List.mem_append,List.mem_singleton,hm,gU hia,gU hkb,heq]
        constructor
        ·rintro ((h | h) | h)
         ·exact .inl (.inl h)
         ·exact .inr (.inl h)
         ·exact .inr (.inr h)
        ·rintro ((h | h) | (h | h))
         ·exact .inl (.inl h)
         ·exact .inr h
         ·exact .inl (.inr h)
         ·exact .inr h
       ·rcases List.mem_append.1 hx with h | h
        ·exact h3 x h y (iH hy)
        ·simp only [List.mem_singleton] at h;subst h;rw [← heq];exact drop_gt hA hia hy
       ·rcases List.mem_append.1 hx with h | h
        ·exact h4 x h y (iH hy)
        ·simp only [List.mem_singleton] at h;subst h;exact drop_gt hB hkb hy
      ·refine ⟨(o ++ [B[k]],(i:Int),((k + 1:Nat):Int)),?_,⟨i,k + 1,rfl,hi,by omega,snoc_lt ho fun x hx=>h4 x hx _ (qW hkb),fun x=>?_,fun x hx y hy=>?_,fun x hx y hy=>?_⟩,by simp only [Int.toNat_natCast];omega⟩
       ·simp [aW,di,dk,dk2,hia,hkb,aD hia,aD hkb,happ,wi,wk,heq,hlt,show ¬ B.length ≤ k by omega]
       ·simp only [List.mem_append,List.mem_singleton,hm,gU hkb,or_assoc]
       ·rcases List.mem_append.1 hx with h | h
        ·exact h3 x h y hy
        ·simp only [List.mem_singleton] at h;subst h
         have:=drop_ge hA hia hy
         omega
       ·rcases List.mem_append.1 hx with h | h
        ·exact h4 x h y (iH hy)
        ·simp only [List.mem_singleton] at h;subst h;exact drop_gt hB hkb hy
    ·refine ⟨(o ++ [B[k]],(i:Int),((k + 1:Nat):Int)),?_,⟨i,k + 1,rfl,hi,by omega,snoc_lt ho fun x hx=>h4 x hx _ (qW hkb),fun x=>?_,fun x hx y hy=>?_,fun x hx y hy=>?_⟩,by simp only [Int.toNat_natCast];omega⟩
     ·simp [aW,di,dk,dk2,hia,hkb,aD hkb,happ,wi,wk,show ¬ B.length ≤ k by omega]
     ·simp only [List.mem_append,List.mem_singleton,hm,gU hkb,or_assoc]
     ·rw [List.drop_eq_nil_of_le (by omega)] at hy;cases hy
     ·rcases List.mem_append.1 hx with h | h
      ·exact h4 x h y (iH hy)
      ·simp only [List.mem_singleton] at h;subst h;exact drop_gt hB hkb hy
   ·exact takeA (by omega) fun h=>absurd h hkb
  ·right
   have hi':i=A.length:=by omega
   have hk':k=B.length:=by omega
   refine ⟨o,by simp [aW,hi',hk'],?_⟩
   refine setL_eq ho fun x=>?_
   rw [hm,hi',hk',List.take_length,List.take_length]
   constructor
   ·intro h
    have hb:0 ≤ x∧x < (n:Int):=h.elim (hbA x) (hbB x)
    refine ⟨hb.1,hb.2,?_⟩
    rwa [show ((x.toNat:Nat):Int)=x by omega]
   ·rintro ⟨a1,_,a3⟩
    rwa [show ((x.toNat:Nat):Int)=x by omega] at a3) ([],0,0) ⟨0,0,rfl,by omega,by omega,by simp,fun x=>by simp,fun x hx=>by simp at hx,fun x hx=>by simp at hx⟩
 rw [h1,h2]
def jQ (p:GProgram) (fn:Int):List Int:=if inB fn 0 ((p.Fns.length:Int) - 1)=true then (match p.Fns[fn.toNat]? with | some f=>if f.Ret = -1 then [f.Body] else [f.Body,f.Ret] | none=>[]) else []
noncomputable def fX (p:GProgram) (fn:Int):List Int:=setL p.Nodes.length fun j=>∃ r ∈ jQ p fn,(j:Int) ∈ fT p.Nodes r
theorem nodesB_bnd {p:GProgram} {fn x:Int} (h:x ∈ fX p fn):0 ≤ x∧x < p.Nodes.length:=⟨(mem_setL.1 h).1,(mem_setL.1 h).2.1⟩
theorem impl_roots_eq (p:GProgram) (hp:p.Fns.length ≤ 1048576) (fn:Int):mF p fn=some (jQ p fn):=by
 unfold mF jQ
 simp only [cN,Option.bind_some,dQ hp]
 cases hi:inB fn 0 ((p.Fns.length:Int) - 1) with
 | false=>rfl
 | true =>
  have hi':=inB_iff.1 hi
  have hlt:fn.toNat < p.Fns.length:=by omega
  simp only [Bool.not_true,Bool.false_eq_true,if_false,if_true]
  rw [eJ hi'.1 (by omega),List.getElem?_eq_getElem hlt]
  simp only [Option.bind_some]
  by_cases hr:p.Fns[fn.toNat].Ret = -1
  ·simp [hr]
  ·have happ:appI 8 [p.Fns[fn.toNat].Body] [p.Fns[fn.toNat].Ret]=some ([p.Fns[fn.toNat].Body] ++ [p.Fns[fn.toNat].Ret]):=app1 (by simp) (by omega)
   simp [hr,happ]
theorem mem_foldU (nodes:List GNode) (x:Int):∀ (rs s:List Int),x ∈ rs.foldl (fun o r=>(fT nodes r).foldl addL o) s ↔ x ∈ s ∨ ∃ r ∈ rs,x ∈ fT nodes r
 | [],s=>by simp
 | r :: rs,s=>by
  rw [List.foldl_cons,mem_foldU nodes x rs,eR]
  simp only [List.mem_cons,exists_eq_or_imp,or_assoc]
theorem rootsB_len (p:GProgram) (fn:Int):(jQ p fn).length ≤ 2:=by
 unfold jQ
 split
 ·split
  ·split<;>simp
  ·simp
 ·simp
theorem impl_fnNodes_eq (p:GProgram) (hn:p.Nodes.length ≤ 1048576) (hp:p.Fns.length ≤ 1048576) (fn:Int):jE p fn=some (fX p fn):=by
 unfold jE
 rw [impl_roots_eq p hp]
 simp only [Option.bind_some]
 have hrl:=rootsB_len p fn
 have:=fJ (jQ p fn) (fun (o:List Int) k=>(o,(k:Int))) (fun k o=>o.Nodup∧∀ x ∈ o,0 ≤ x∧x < (p.Nodes.length:Int)) (fun o r=>.inl ((fT p.Nodes r).foldl addL o)) id (cW p (jQ p fn)) (fun o k hk hI=>by
  left
  refine ⟨_,rfl,?_,jT _ hI.1,foldAdd_bnd hI.2 fun x hx=>jV hx⟩
  have hul:=dJ (n:=p.Nodes.length) (oO (underB_lt p.Nodes (jQ p fn)[k])) fun x hx=>jV hx
  simp only [cW,aB hk,if_true,aD hk,Option.bind_some,impl_Under_eq p hn]
  generalize hu:fT p.Nodes (jQ p fn)[k]=U at *
  rw [add_loop p.Nodes.length U (fun m hm=>by rw [← hu] at hm;exact jV hm) (eD U) (fun o=>o) (fun o j hj ho=>by
   have happ:appI 8 o [U[j]]=some (o ++ [U[j]]):=app1 (by omega) (by omega)
   simp only [eD,aB hj,if_true,aD hj,Option.bind_some,oF o _ (by omega),aO hj (show U.length ≤ 1048576 by omega),happ]
   unfold addL
   cases o.contains U[j]<;>rfl) (fun o=>by simp [eD]) o hI.1 hI.2]
  simp only [Option.bind_some,aO hk (show (jQ p fn).length ≤ 1048576 by omega)]) (fun o _=>by simp [cW]) [] ⟨by simp,fun x hx=>by simp at hx⟩
 rw [gF] at this
 have h2:aG (cW p (jQ p fn)) ([],0)=some ((jQ p fn).foldl (fun o r=>(fT p.Nodes r).foldl addL o) []):=this
 rw [h2]
 simp only [Option.bind_some]
 generalize ho:(jQ p fn).foldl (fun o r=>(fT p.Nodes r).foldl addL o) []=o
 have hnd:o.Nodup:=by
  rw [← ho]
  have key:∀ (rs s:List Int),s.Nodup→(rs.foldl (fun o r=>(fT p.Nodes r).foldl addL o) s).Nodup:=by
   intro rs
   induction rs with
   | nil=>intro s h;exact h
   | cons r rs ih=>intro s h;rw [List.foldl_cons];exact ih _ (jT _ h)
  exact key _ _ (by simp)
 have hmem:∀ x,x ∈ o ↔ 0 ≤ x∧x < (p.Nodes.length:Int)∧∃ r ∈ jQ p fn,((x.toNat:Nat):Int) ∈ fT p.Nodes r:=by
  intro x
  rw [← ho,mem_foldU]
  constructor
  ·rintro (h | ⟨r,h1,h2⟩)
   ·simp at h
   ·have:=jV h2
    exact ⟨this.1,this.2,r,h1,by rwa [show ((x.toNat:Nat):Int)=x by omega]⟩
  ·rintro ⟨h1,_,r,h3,h4⟩
   exact .inr ⟨r,h3,by rwa [show ((x.toNat:Nat):Int)=x by omega] at h4⟩
 have hol:o.length ≤ p.Nodes.length:=dJ hnd fun x hx=>⟨((hmem x).1 hx).1,((hmem x).1 hx).2.1⟩
 rw [sort_some (by omega)]
 simp only [Option.bind_some]
 rw [sort_setL (n:=p.Nodes.length) (P:=fun j=>∃ r ∈ jQ p fn,(j:Int) ∈ fT p.Nodes r) hnd hmem]
 rfl
theorem spec_l07All_eq (p:GProgram) (hn:p.Nodes.length ≤ 1048576) (hp:p.Fns.length ≤ 1048576) (fn:Int):kB p fn=some (fX p fn):=by
 unfold kB fX jQ
 simp only [cI,Option.bind_some,dQ hp]
 cases hi:inB fn 0 ((p.Fns.length:Int) - 1) with
 | false =>
  simp only [Bool.not_false,if_true,Bool.false_eq_true,if_false]
  congr 1
  have:∀ x,x ∉ setL p.Nodes.length fun j=>∃ r ∈ ([]:List Int),(j:Int) ∈ fT p.Nodes r:=by
   intro x hx
   obtain ⟨_,_,r,hr,_⟩:=mem_setL.1 hx
   cases hr
  exact (List.eq_nil_iff_forall_not_mem.2 this).symm
 | true =>
  have hi':=inB_iff.1 hi
  have hlt:fn.toNat < p.Fns.length:=by omega
  simp only [Bool.not_true,Bool.false_eq_true,if_false,if_true]
  rw [eJ hi'.1 (by omega),List.getElem?_eq_getElem hlt]
  simp only [Option.bind_some,spec_Under_eq p hn]
  generalize p.Fns[fn.toNat]=f
  rw [merge_loop p.Nodes.length hn _ _ (underB_lt _ _) (underB_lt _ _) (fun x hx=>jV hx) (fun x hx=>jV hx)]
  simp only [Option.bind_some]
  congr 1
  refine setL_congr fun j hj=>?_
  by_cases hr:f.Ret = -1
  ·have h0:fT p.Nodes f.Ret=[]:=by
    have hd:deepB p.Nodes f.Ret=0:=by
     unfold deepB
     rw [hr,if_neg (by omega)]
    unfold fT
    rw [if_pos hd]
   rw [if_pos hr,h0]
   simp
  ·rw [if_neg hr]
   simp
end Go.OM
namespace Go.OM
theorem fnAtB_bnd (p:GProgram) (nm:ByteArray):jH p nm = -1 ∨ (0 ≤ jH p nm∧jH p nm < p.Fns.length):=by
 unfold jH
 cases h:(List.range p.Fns.length).findSome? (fnAtQ p nm) with
 | none=>exact .inl rfl
 | some r =>
  right
  obtain ⟨k,hk,hr⟩:=List.exists_of_findSome?_eq_some h
  have:=List.mem_range.1 hk
  unfold fnAtQ at hr
  split at hr
  ·split at hr
   ·have:=Option.some.inj hr
    simp only [Option.getD_some]
    omega
   ·cases hr
  ·cases hr
def lH (p:GProgram) (o:List Int) (e:Int):List Int:=match p.Nodes[e.toNat]? with
 | some x=>if x.Kind=12 then (if 0 ≤ jH p x.Name then addL o (jH p x.Name) else o) else o
 | none=>o
noncomputable def gT (p:GProgram) (fn:Int):List Int:=(fX p fn).foldl (lH p) []
structure CInv (p:GProgram) (o:List Int):Prop where
 nd:o.Nodup
 bnd:∀ x ∈ o,0 ≤ x∧x < (p.Fns.length:Int)
theorem CInv.step {p:GProgram} {o:List Int} (h:CInv p o) (e:Int):CInv p (lH p o e):=by
 unfold lH
 split
 ·split
  ·split
   ·rename_i x _ _ hge
    refine ⟨addL_nodup h.nd _,fun y hy=>?_⟩
    rcases mem_addL.1 hy with hy | hy
    ·exact h.bnd y hy
    ·subst hy
     rcases fnAtB_bnd p x.Name with hb | hb
     ·omega
     ·exact hb
   ·exact h
  ·exact h
 ·exact h
theorem oU (p:GProgram) (fn:Int):CInv p (gT p fn):=by
 unfold gT
 have key:∀ (l o:List Int),CInv p o→CInv p (l.foldl (lH p) o):=by
  intro l
  induction l with
  | nil=>intro o h;exact h
  | cons e l ih=>intro o h;exact ih _ (h.step e)
 exact key _ _ ⟨by simp,fun x hx=>by simp at hx⟩
theorem call_loop {ρ:Type} (p:GProgram) (fn:Int) (f:List Int × Int→Option ((List Int × Int) ⊕ ρ)) (fin:List Int→ρ)
  (hf:∀ (o:List Int) (k:Nat) (hk:k < (fX p fn).length),o.length ≤ p.Fns.length→f (o,k)=some (.inl (lH p o (fX p fn)[k],((k + 1:Nat):Int))))
  (he:∀ o,f (o,(fX p fn).length)=some (.inr (fin o))):aG f ([],0)=some (fin (gT p fn)):=by
 have:=fJ (fX p fn) (fun (o:List Int) k=>(o,(k:Int))) (fun k o=>CInv p o) (fun o e=>.inl (lH p o e)) fin f (fun o k hk hI=>by
  left
  exact ⟨_,rfl,hf o k hk (dJ hI.nd hI.bnd),hI.step _⟩) (fun o _=>he o) [] ⟨by simp,fun x hx=>by simp at hx⟩
 rw [gF] at this
 exact this
theorem impl_CallsOf_eq (p:GProgram) (hn:p.Nodes.length ≤ 1048576) (hp:p.Fns.length ≤ 1048576) (fn:Int):jG p fn=some (gT p fn):=by
 unfold jG
 rw [impl_fnNodes_eq p hn hp]
 simp only [Option.bind_some]
 have hnl:(fX p fn).length ≤ 1048576:=Nat.le_trans (setL_len _ _) hn
 rw [call_loop p fn (eE p (fX p fn)) (fun o=>o) (fun o k hk ho=>by
  have hb:=nodesB_bnd (List.getElem_mem hk)
  have hlt:(fX p fn)[k].toNat < p.Nodes.length:=by omega
  have hge:getI p.Nodes (fX p fn)[k]=some p.Nodes[(fX p fn)[k].toNat]:=eJ hb.1 hb.2
  simp only [eE,aB hk,if_true,aD hk,Option.bind_some,hge,oE p _ hp,aO hk hnl]
  unfold lH
  rw [List.getElem?_eq_getElem hlt]
  generalize p.Nodes[(fX p fn)[k].toNat]=x
  have happ:appI 8 o [jH p x.Name]=some (o ++ [jH p x.Name]):=app1 (by omega) (by omega)
  simp only [oF o _ (by omega),Option.bind_some,happ]
  by_cases h12:x.Kind=12
  ·rw [if_pos (by simpa using h12),if_pos h12]
   by_cases h0:0 ≤ jH p x.Name
   ·have d:decide (jH p x.Name ≥ 0)=true:=by simpa using h0
    rw [d,if_pos h0]
    unfold addL
    cases o.contains (jH p x.Name)<;>rfl
   ·have d:decide (jH p x.Name ≥ 0)=false:=by simpa using h0
    rw [d,if_neg h0];rfl
  ·rw [if_neg (by simpa using h12),if_neg h12]) (fun o=>by simp [eE])]
 rfl
theorem spec_CallsOf_eq (p:GProgram) (hn:p.Nodes.length ≤ 1048576) (hp:p.Fns.length ≤ 1048576) (fn:Int):iS p fn=some (gT p fn):=by
 unfold iS
 rw [spec_l07All_eq p hn hp]
 simp only [Option.bind_some]
 have hnl:(fX p fn).length ≤ 1048576:=Nat.le_trans (setL_len _ _) hn
 rw [call_loop p fn (dY p (fX p fn)) (fun o=>o) (fun o k hk ho=>by
  have hb:=nodesB_bnd (List.getElem_mem hk)
  have hlt:(fX p fn)[k].toNat < p.Nodes.length:=by omega
  have hge:getI p.Nodes (fX p fn)[k]=some p.Nodes[(fX p fn)[k].toNat]:=eJ hb.1 hb.2
  simp only [dY,aB hk,if_true,aD hk,Option.bind_some,hge,spec_FnAt_eq p _ hp,aO hk hnl]
  unfold lH
  rw [List.getElem?_eq_getElem hlt]
  generalize p.Nodes[(fX p fn)[k].toNat]=x
  simp only [spec_l11Add_eq o _ (show o.length ≤ 1048576 by omega),Option.bind_some]
  by_cases h12:x.Kind=12
  ·rw [if_neg (by simpa using h12),if_pos h12]
   by_cases h0:0 ≤ jH p x.Name
   ·have d:decide (jH p x.Name ≥ 0)=true:=by simpa using h0
    rw [d,if_pos h0];rfl
   ·have d:decide (jH p x.Name ≥ 0)=false:=by simpa using h0
    rw [d,if_neg h0];rfl
  ·rw [if_pos (by simpa using h12),if_neg h12]) (fun o=>by simp [dY])]
 rfl
noncomputable def iT (p:GProgram) (fn:Int):List Int:=if inB fn 0 ((p.Fns.length:Int) - 1)=true then setL p.Fns.length (Reach (fun i=>gT p (i:Int)) fn.toNat) else []
theorem winv_startR {W:Nat} {next:Nat→List Int} {root:Nat} (hW:root < W):WInv W root next ((List.replicate W false).set root true,[(root:Int)]):=by
 have hc:((List.replicate W false).set root true).count true=1:=by
  rw [count_set (by simpa using hW) (by simp [hW])]
  simp [List.count_replicate]
 refine ⟨by simp,by rw [hc];simp,by simp;omega,by simp [hW],fun n h=>?_,fun n h=>?_,by simp [hW]⟩
 ·simp only [List.getElem?_set,List.length_replicate] at h
  split at h
  ·rename_i e;subst e;exact .base
  ·simp [List.getElem?_replicate] at h
 ·simp only [List.getElem?_set,List.length_replicate] at h
  split at h
  ·rename_i e;subst e;exact .inl (by simp)
  ·simp [List.getElem?_replicate] at h
theorem qR (p:GProgram) (hn:p.Nodes.length ≤ 1048576) (hp:p.Fns.length ≤ 1048576) (fn:Int):fE p fn=some (iT p fn):=by
 unfold fE iT
 simp only [cN,Option.bind_some,dQ hp]
 cases hi:inB fn 0 ((p.Fns.length:Int) - 1) with
 | false=>rfl
 | true =>
  have hi':=inB_iff.1 hi
  have hff:fn=((fn.toNat:Nat):Int):=by omega
  have hlt:fn.toNat < p.Fns.length:=by omega
  generalize fn.toNat=r at *
  subst hff
  simp only [Bool.not_true,Bool.false_eq_true,if_false,if_true]
  obtain ⟨o,g1,g2,g3⟩:=bfs_loop p.Fns.length r hlt (fun i=>gT p (i:Int)) (fun i _ m hm=>(oU p _).bnd m hm) (bV p) (fun o=>o) (fun o i hi hnd hb hr=>by
   have hbi:=hb _ (List.getElem_mem hi)
   have hol:=dJ hnd hb
   have hc:=oU p o[i]
   have hcl:=dJ hc.nd hc.bnd
   have hcast:((o[i].toNat:Nat):Int)=o[i]:=by omega
   simp only [bV,aB hi,if_true,aD hi,Option.bind_some,impl_CallsOf_eq p hn hp,hcast]
   generalize gT p o[i]=L at *
   rw [add_loop p.Fns.length L hc.bnd (bU L) (fun o=>o) (fun o k hk ho=>by
    have happ:appI 8 o [L[k]]=some (o ++ [L[k]]):=app1 (by omega) (by omega)
    simp only [bU,aB hk,if_true,aD hk,Option.bind_some,oF o _ (by omega),aO hk (show L.length ≤ 1048576 by omega),happ]
    unfold addL
    cases o.contains L[k]<;>rfl) (fun o=>by simp [bU]) o hnd hb]
   simp only [Option.bind_some,aO hi (show o.length ≤ 1048576 by omega)]) (fun o ho=>by simp [bV])
  rw [g1]
  simp only [Option.bind_some]
  have hol:=dJ (n:=p.Fns.length) g2 fun x hx=>⟨((g3 x).1 hx).1,((g3 x).1 hx).2.1⟩
  rw [sort_some (by omega)]
  simp only [Option.bind_some]
  rw [sort_setL g2 g3]
theorem vis_loop2 {ρ:Type} (r:List Int) (W:Nat) (hW:W ≤ 1048576) (hr:∀ m ∈ r,0 ≤ m∧m < W) (f:List Bool × List Int × Int→Option ((List Bool × List Int × Int) ⊕ ρ)) (fin:List Bool × List Int→ρ)
  (hf:∀ (o:List Bool) (t:List Int) (k:Nat) (hk:k < r.length),o.length=W→t.length ≤ 1048576→f (o,t,k)=some (.inl ((vis (o,t) r[k]).1,(vis (o,t) r[k]).2,((k + 1:Nat):Int))))
  (he:∀ o t,f (o,t,r.length)=some (.inr (fin (o,t)))) (o:List Bool) (t:List Int) (ho:o.length=W) (ht:t.length ≤ o.count true):aG f (o,t,0)=some (fin (r.foldl vis (o,t))):=by
 have:=fJ r (fun (s:List Bool × List Int) k=>(s.1,s.2,(k:Int))) (fun k s=>s.1.length=W∧s.2.length ≤ s.1.count true) (fun s e=>.inl (vis s e)) fin f (fun s k hk hI=>by
  left
  obtain ⟨h1,h2⟩:=hI
  have hcw:=List.count_le_length (a:=true) (l:=s.1)
  have hb:=hr _ (List.getElem_mem hk)
  refine ⟨_,rfl,hf s.1 s.2 k hk h1 (by omega),by rw [vis_len];exact h1,?_⟩
  have:=vis_count (s:=s) (m:=r[k]) (by omega)
  omega) (fun s _=>he s.1 s.2) (o,t) ⟨ho,ht⟩
 rw [gF] at this
 exact this
theorem pY (p:GProgram) (hn:p.Nodes.length ≤ 1048576) (hp:p.Fns.length ≤ 1048576) (fn:Int):fA p fn=some (iT p fn):=by
 unfold fA iT
 simp only [cI,Option.bind_some,dQ (show p.Fns.length ≤ 1048576 by omega)]
 cases hi:inB fn 0 ((p.Fns.length:Int) - 1) with
 | false=>rfl
 | true =>
  have hi':=inB_iff.1 hi
  have hff:fn=((fn.toNat:Nat):Int):=by omega
  have hlt:fn.toNat < p.Fns.length:=by omega
  generalize fn.toNat=r at *
  subst hff
  simp only [Bool.not_true,Bool.false_eq_true,if_false,if_true]
  rw [nQ _ _ _ (by omega) (by omega)]
  have h0:getI (List.replicate p.Fns.length false) (r:Int)=some false:=by
   rw [getI_nat,List.getElem?_replicate,if_pos hlt]
  simp only [Option.bind_some,h0,bP,Int.toNat_natCast]
  have hnx:∀ (i:Nat),i < p.Fns.length→∀ m ∈ gT p (i:Int),0 ≤ m∧m < (p.Fns.length:Int):=fun i _ m hm=>(oU p _).bnd m hm
  obtain ⟨t',g1,g2,g3⟩:=wl_loop (bT p) (fun t=>(t.1,t.2.1.drop t.2.2.toNat)) (fun t=>∃ i:Nat,t.2.2=i∧i ≤ t.2.1.length∧t.2.1.length ≤ t.1.count true) p.Fns.length r (fun i=>gT p (i:Int)) (fun t=>t.1) hnx (fun t hO hI hne=>by
   obtain ⟨o,l,i⟩:=t
   obtain ⟨i,rfl,hi,hlc⟩:=hO
   simp only [Int.toNat_natCast] at hI hne hi hlc ⊢
   have hil:i < l.length:=by
    rcases Nat.lt_or_ge i l.length with h | h
    ·exact h
    ·exact absurd (List.drop_eq_nil_of_le h) hne
   have hdr:=List.drop_eq_getElem_cons hil
   have hmem:l[i] ∈ l.drop i:=by rw [hdr];exact List.mem_cons_self
   have hcov:∀ x ∈ l.drop i,x=l[i] ∨ x ∈ l.drop (i + 1):=by rw [hdr];intro x hx;exact List.mem_cons.1 hx
   have hsubs:∀ x ∈ l.drop (i + 1),x ∈ l.drop i:=by rw [hdr];intro x hx;exact List.mem_cons_of_mem _ hx
   have hdl:(l.drop (i + 1)).length + 1=(l.drop i).length:=by rw [List.length_drop,List.length_drop];omega
   have heb:=hI.bnd l[i] hmem
   have hlen:=hI.len
   have hcw:=List.count_le_length (a:=true) (l:=o)
   simp only at hlen
   have hcast:((l[i].toNat:Nat):Int)=l[i]:=by omega
   have hc:=oU p l[i]
   have hcl:=dJ hc.nd hc.bnd
   have hnn:(fun i:Nat=>gT p (i:Int)) l[i].toNat=gT p l[i]:=by simp only [hcast]
   have V:=visL (gT p l[i]) (o,l) (fun m hmm=>by have:=hc.bnd m hmm;simp only;omega)
   have hfa:=qU (gT p l[i]) (l.take (i + 1)) o (l.drop (i + 1))
   rw [List.take_append_drop] at hfa
   have hcalls:=spec_CallsOf_eq p hn (show p.Fns.length ≤ 1048576 by omega) l[i]
   generalize hL:gT p l[i]=L at *
   refine ⟨((L.foldl vis (o,l)).1,(L.foldl vis (o,l)).2,((i + 1:Nat):Int)),l[i],l.drop (i + 1),L,?_,⟨i + 1,rfl,?_,?_⟩,hmem,hcov,hsubs,hdl,fun m=>by rw [hcast,hL],?_⟩
   ·simp only [bT,aB hil,if_true,aD hil,Option.bind_some,hcalls]
    rw [vis_loop2 L p.Fns.length (by omega) hc.bnd (bR L) (fun s=>s) (fun o t k hk ho ht=>by
     have hb:=hc.bnd _ (List.getElem_mem hk)
     simp only [bR,aB hk,if_true,aD hk,Option.bind_some,vis_get hb.1 (show L[k] < (o.length:Int) by rw [ho];exact hb.2),bP,aO hk (show L.length ≤ 1048576 by omega),app1 (n:=8) (show t.length ≤ 1048576 by omega) (by omega)]
     rw [vis_eq (show (L[k]).toNat < o.length by omega)]
     cases o[(L[k]).toNat]<;>rfl) (fun o t=>by simp [bR]) o l hI.len hlc]
    simp only [Option.bind_some,aO hil (show l.length ≤ 1048576 by omega)]
   ·rw [hfa];simp;omega
   ·have q1:=V.count
    have q2:=V.cle
    simp only at q1 q2 ⊢
    omega
   ·simp only [Int.toNat_natCast]
    rw [hfa]
    simp only
    congr 1
    rw [List.drop_append_of_le_length (by simp;omega),List.drop_of_length_le (by simp;omega)];simp) (fun t hO he=>by
   obtain ⟨o,l,i⟩:=t
   obtain ⟨i,rfl,hi,hlc⟩:=hO
   simp only [Int.toNat_natCast] at he hi
   have hil:i=l.length:=by
    have:=congrArg List.length he
    simp at this;omega
   subst hil
   simp [bT]) ((List.replicate p.Fns.length false).set r true,[(r:Int)],0) ⟨0,rfl,by simp,by
    have:=(winv_startR (W:=p.Fns.length) (next:=fun i=>gT p (i:Int)) hlt).cnt
    exact this⟩ (winv_startR hlt)
  rw [g1]
  simp only [Option.bind_some]
  simp only at g3
  rw [g3]
  have hRl:(qD p.Fns.length r fun i=>gT p (i:Int)).length=p.Fns.length:=by unfold qD;simp
  have hRg:∀ j,j < p.Fns.length→((qD p.Fns.length r fun i=>gT p (i:Int))[j]? = some true ↔ Reach (fun i=>gT p (i:Int)) r j):=fun j hj=>by
   unfold qD
   rw [List.getElem?_map,List.getElem?_range hj]
   simp
  generalize hRR:(qD p.Fns.length r fun i=>gT p (i:Int))=R at *
  rw [scan_loop p.Fns.length (by omega) (fun j=>R.getD j false) (bQ R) (fun o=>o) (fun o j ho hj=>by
   have hjs:j < R.length:=by omega
   have happ:appI 8 o [(j:Int)]=some (o ++ [(j:Int)]):=app1 ho (by omega)
   simp only [bQ,hRl,aB hj,if_true,aD hjs,Option.bind_some,happ,aO hj (show p.Fns.length ≤ 1048576 by omega)]
   rw [List.getD_eq_getElem?_getD,List.getElem?_eq_getElem hjs]
   simp only [Option.getD_some]
   cases R[j]<;>rfl) (fun o=>by simp [bQ,hRl])]
  simp only [Option.bind_some]
  congr 1
  refine setL_congr fun j hj=>?_
  rw [← hRg j hj]
  have hjs:j < R.length:=by omega
  rw [List.getD_eq_getElem?_getD,List.getElem?_eq_getElem hjs]
  simp
theorem reachF_len (p:GProgram) (fn:Int):(iT p fn).length ≤ p.Fns.length:=by
 unfold iT
 split
 ·exact setL_len _ _
 ·simp
theorem reachF_bnd {p:GProgram} {fn x:Int} (h:x ∈ iT p fn):0 ≤ x∧x < p.Fns.length:=by
 unfold iT at h
 split at h
 ·have:=mem_setL.1 h;exact ⟨this.1,this.2.1⟩
 ·cases h
end Go.OM
namespace Go.OM
def addF (p:GProgram) (s:List GFn) (i:Int):List GFn:=match p.Fns[i.toNat]? with
 | some f=>s ++ [f]
 | none=>s
theorem strip_loop (p:GProgram) (r:List Int) (hr:r.length ≤ 1048576) (hb:∀ i ∈ r,0 ≤ i∧i < p.Fns.length) (f:Int × GProgram→Option ((Int × GProgram) ⊕ GProgram))
  (hf:∀ (s:List GFn) (k:Nat) (hk:k < r.length) (g:GFn),s.length ≤ k→p.Fns[(r[k]).toNat]? = some g→getI p.Fns r[k]=some g→f ((k:Int),⟨p.Nodes,s⟩)=some (.inl (((k + 1:Nat):Int),⟨p.Nodes,s ++ [g]⟩)))
  (he:∀ s,f ((r.length:Int),⟨p.Nodes,s⟩)=some (.inr ⟨p.Nodes,s⟩)):aG f (0,⟨p.Nodes,[]⟩)=some ⟨p.Nodes,r.foldl (addF p) []⟩:=by
 have:=fJ r (fun (s:List GFn) k=>((k:Int),(⟨p.Nodes,s⟩:GProgram))) (fun k s=>s.length ≤ k) (fun s i=>.inl (addF p s i)) (fun s=>(⟨p.Nodes,s⟩:GProgram)) f (fun s k hk hI=>by
  left
  obtain ⟨b0,b1⟩:=hb _ (List.getElem_mem hk)
  have hlt:(r[k]).toNat < p.Fns.length:=by omega
  have hg:p.Fns[(r[k]).toNat]? = some p.Fns[(r[k]).toNat]:=List.getElem?_eq_getElem hlt
  refine ⟨addF p s r[k],rfl,?_,?_⟩
  ·rw [hf s k hk _ hI hg (eJ b0 b1)]
   simp only [addF,hg]
  ·simp only [addF,hg,List.length_append,List.length_cons,List.length_nil];omega) (fun s _=>he s) [] (by simp)
 rw [gF] at this
 exact this
theorem addF_mem (p:GProgram):∀ (r:List Int) (s:List GFn),(∀ f ∈ s,f ∈ p.Fns)→(∀ f ∈ r.foldl (addF p) s,f ∈ p.Fns)∧(r.foldl (addF p) s).length ≤ s.length + r.length
 | [],s,h=>⟨h,by simp⟩
 | i :: r,s,h=>by
  rw [List.foldl_cons]
  have h1:(∀ f ∈ addF p s i,f ∈ p.Fns)∧(addF p s i).length ≤ s.length + 1:=by
   unfold addF
   split
   ·rename_i g hg
    refine ⟨fun f hf=>?_,by simp⟩
    rcases List.mem_append.1 hf with h2 | h2
    ·exact h f h2
    ·rw [List.mem_singleton] at h2
     rw [h2];exact List.mem_of_getElem? hg
   ·exact ⟨h,by omega⟩
  obtain ⟨h2,h3⟩:=addF_mem p r (addF p s i) h1.1
  exact ⟨h2,by simp only [List.length_cons];have:=h1.2;omega⟩
theorem Stripped_main (p:GProgram) (h:GProgram.le 1048576 p):∃ (q:GProgram) (b:Bool),fR p=some (q,b)∧gY p=some (q,b)∧GProgram.le 1048576 q:=by
 have hle:=h
 obtain ⟨c1,c2⟩:=copyProgram_eq p h
 obtain ⟨⟨hn,hN⟩,hF,hFl⟩:=h
 unfold fR gY
 rw [impl_ProgramOk_eq p hn hF,spec_ProgramOk_eq p hn hF,c1,c2]
 simp only [Option.bind_some]
 cases hok:progB p with
 | false=>exact ⟨p,false,rfl,rfl,hle⟩
 | true =>
  simp only [Bool.not_true,Bool.false_eq_true,if_false]
  rw [qR p hn hF,pY p hn hF]
  simp only [Option.bind_some]
  generalize hfn:IntKind.wrap .i64 ((p.Fns.length:Int) - 1)=fn
  have hrl:=reachF_len p fn
  have hrb:∀ i ∈ iT p fn,0 ≤ i∧i < p.Fns.length:=fun i hi=>reachF_bnd hi
  have e1:=strip_loop p (iT p fn) (by omega) hrb (dI p (iT p fn)) (fun s k hk g hs hg hgi=>by
   have hgl:=hFl g (List.mem_of_getElem? hg)
   simp only [dI,aB hk,if_true,aD hk,hgi,Option.bind_some,copyFn_eq g hgl.2.1,app1g (show s.length ≤ 1048576 by omega) (show 64 ≤ 64 by omega),aO hk (show (iT p fn).length ≤ 1048576 by omega)]) (fun s=>by simp [dI])
  have e2:=strip_loop p (iT p fn) (by omega) hrb (dA p (iT p fn)) (fun s k hk g hs hg hgi=>by
   simp only [dA,aB hk,if_true,aD hk,hgi,Option.bind_some,app1g (show s.length ≤ 1048576 by omega) (show 64 ≤ 64 by omega),aO hk (show (iT p fn).length ≤ 1048576 by omega)]) (fun s=>by simp [dA])
  rw [e1,e2]
  simp only [Option.bind_some]
  obtain ⟨m1,m2⟩:=addF_mem p (iT p fn) [] (by simp)
  obtain ⟨q,b,g1,g2,g3⟩:=Packed_main ⟨p.Nodes,(iT p fn).foldl (addF p) []⟩ ⟨⟨hn,hN⟩,by simp only [List.length_nil] at m2;simp only;omega,fun f hf=>hFl f (m1 f hf)⟩
  rw [g1,g2]
  simp only [Option.bind_some]
  cases hb:b with
  | false=>exact ⟨p,false,rfl,rfl,hle⟩
  | true=>exact ⟨q,true,rfl,rfl,g3 hb⟩
theorem law_Stripped (p:GProgram) (hw:GProgram.le maxLen p):dR p=some true:=by
 unfold dR
 obtain ⟨r,h1,h2,h3⟩:=laws_szProgram_p p hw 1048576 (by omega) (by omega)
 rw [h1]
 simp only [Option.bind_some]
 by_cases hr:r < 0
 ·simp [hr]
 ·have hp:=h3 (by omega)
  obtain ⟨q,b,v1,v2,hok⟩:=Stripped_main p hp
  obtain ⟨k1,c1,m1,m2,m3⟩:=lE p hp 1 (by omega) (by omega)
  obtain ⟨k2,w2,n1,n2,n3,n4⟩:=lE q hok 1 (by omega) (by omega)
  simp [hr,laws_toProgram_p p hp,v1,v2,nA q q hok hok,nA p p hp hp,m1,n1,n4,show ¬ k1 < 0 by omega,show ¬ k2 < 0 by omega]
end Go.OM
