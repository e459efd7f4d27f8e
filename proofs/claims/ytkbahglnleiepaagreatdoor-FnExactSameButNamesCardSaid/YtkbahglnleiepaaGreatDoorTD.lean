import Derived.Test.YtkbahglnleiepaaGreatDoorTC
import Derived.Lib.ItoaNum
set_option linter.unusedVariables false
set_option linter.unusedSimpArgs false
set_option linter.unusedVariables false
set_option linter.unusedSimpArgs false
namespace Go.OM
def zO (x:GParam):Bool:=sK x.Name && inB x.Typ 1 4
def aHd (p:GProgram) (f:GFn):Bool:=inB f.Body 0 ((p.Nodes.length:Int) - 1) && (match p.Nodes[f.Body.toNat]? with | some x=>x.Kind == 20 | none=>false)
def retB (p:GProgram) (f:GFn):Bool:=if f.Res=0 then f.Ret == -1 else inB f.Ret 0 ((p.Nodes.length:Int) - 1) && (match p.Nodes[f.Ret.toNat]? with | some x=>qL x.Kind | none=>false)
def fnB (p:GProgram) (f:GFn):Bool:=sK f.Name && (!decide ((f.Params.length:Int) > 3) && (inB f.Res 0 2 && (f.Params.all zO && (aHd p f && retB p f))))
theorem bodyB_iff {p:GProgram} {f:GFn}:aHd p f=true ↔ 0 ≤ f.Body∧f.Body < p.Nodes.length∧∃ x,p.Nodes[f.Body.toNat]? = some x∧x.Kind=20:=by
 unfold aHd
 rw [Bool.and_eq_true,inB_iff]
 constructor
 ·rintro ⟨⟨h1,h2⟩,h3⟩
  refine ⟨h1,by omega,?_⟩
  split at h3
  ·rename_i x hx;exact ⟨x,hx,by simpa using h3⟩
  cases h3
 rintro ⟨h1,h2,x,hx,hk⟩
 refine ⟨⟨h1,by omega⟩,?_⟩
 rw [hx];simpa using hk
theorem aG9 (p:GProgram) (f:GFn) (hn:p.Nodes.length ≤ 1048576) (g:Bool→Option Bool):(Option.bind (if (!(inB f.Body 0 ((p.Nodes.length:Int) - 1)))=true then some true else (aM p.Nodes f.Body).bind fun e=>some (e.Kind != 20)) fun v=>g v)=g (!(aHd p f)):=by
 unfold aHd
 cases h:inB f.Body 0 ((p.Nodes.length:Int) - 1) with
 | false=>rfl
 | true =>
  have h':=inB_iff.1 h
  have hlt:f.Body.toNat < p.Nodes.length:=by omega
  rw [cK h'.1 (by omega),List.getElem?_eq_getElem hlt]
  rfl
theorem aHs (p:GProgram) (f:GFn) (hn:p.Nodes.length ≤ 1048576):(if (f.Res == 0)=true then some (f.Ret == (-1)) else Option.bind (if inB f.Ret 0 ((p.Nodes.length:Int) - 1)=true then (aM p.Nodes f.Ret).bind fun e=>some (qL e.Kind) else some false) fun v=>some v)=some (retB p f):=by
 unfold retB
 by_cases h0:f.Res=0
 ·rw [if_pos (by simpa using h0),if_pos h0]
 rw [if_neg (by simpa using h0),if_neg h0]
 cases h:inB f.Ret 0 ((p.Nodes.length:Int) - 1) with
 | false=>rfl
 | true =>
  have h':=inB_iff.1 h
  have hlt:f.Ret.toNat < p.Nodes.length:=by omega
  rw [cK h'.1 (by omega),List.getElem?_eq_getElem hlt]
  rfl
theorem aFq (p:GProgram) (f:GFn) (hn:p.Nodes.length ≤ 1048576):rM p f=some (fnB p f):=by
 unfold rM fnB
 simp only [oA,cF,rK,Option.bind_some,jI hn]
 cases hnm:sK f.Name with
 | false=>rfl
 | true =>
  simp only [Bool.not_true,Bool.false_eq_true,if_false,Bool.true_and]
  by_cases hp3:(f.Params.length:Int) > 3
  ·rw [if_pos (by simpa using hp3),decide_eq_true hp3];rfl
  rw [if_neg (by simpa using hp3),decide_eq_false hp3]
  simp only [Bool.not_false,Bool.true_and]
  have hres:(if (f.Res != 0)=true then if (f.Res != 1)=true then some (f.Res != 2) else some false else some false)=some (!(inB f.Res 0 2)):=by
   by_cases h0:f.Res=0
   ·rw [h0];rfl
   by_cases h1:f.Res=1
   ·rw [h1];rfl
   by_cases h2:f.Res=2
   ·rw [h2];rfl
   have:inB f.Res 0 2=false:=inB_false.2 (by omega)
   simp [this,h0,h1,h2]
  rw [hres]
  cases hin:inB f.Res 0 2 with
  | false=>rfl
  | true =>
   simp only [Option.bind_some,Bool.not_true,Bool.false_eq_true,if_false,Bool.true_and]
   rw [rA f.Params zO (jF f) (fun k hk=>by
    simp only [jF,aB hk,if_true,aD hk,Option.bind_some,oA,cF,aJ hk (by omega)]
    unfold zO
    cases sK f.Params[k].Name
    ·rfl
    cases inB f.Params[k].Typ 1 4<;>rfl) (by simp [jF])]
   cases f.Params.all zO with
   | false=>rfl
   | true =>
    simp only [if_true,Option.bind_some,Bool.true_and]
    rw [aG9 p f hn]
    cases aHd p f with
    | false=>rfl
    | true =>
     simp only [Bool.not_true,Bool.false_eq_true,if_false,Bool.true_and]
     exact aHs p f hn
def aJz (p:GProgram) (nm:ByteArray) (k:Nat):Option Int:=match p.Fns[k]? with
 | some f=>if sEq f.Name nm=true then some (k:Int) else none
 | none=>none
def fK (p:GProgram) (nm:ByteArray):Int:=((List.range p.Fns.length).findSome? (aJz p nm)).getD (-1)
theorem nP (p:GProgram) (nm:ByteArray) (hp:p.Fns.length ≤ 1048576):lR p nm=some (fK p nm):=by
 unfold lR fK
 rw [wG p.Fns.length (aJz p nm) (jG p nm) (fun k hk=>by
  simp only [jG,aB hk,if_true,aD hk,Option.bind_some,aJ hk hp]
  unfold aJz
  rw [List.getElem?_eq_getElem hk]
  cases h:sEq p.Fns[k].Name nm<;>simp [h]) (by simp [jG])]
 cases (List.range p.Fns.length).findSome? (aJz p nm)<;>rfl
theorem qW (p:GProgram) (nm:ByteArray) (hp:p.Fns.length ≤ 1048576):oM p nm=some (fK p nm):=nP p nm hp
theorem aD4 (p:GProgram) (i:Nat) (hi:i < p.Fns.length) (hn:p.Nodes.length ≤ 1048576) (hp:p.Fns.length ≤ 1048576):oH p i=some (fnB p p.Fns[i] && fK p p.Fns[i].Name == i):=by
 unfold oH fnB
 simp only [aD hi,nT,eU,pV,qW p _ hp,Option.bind_some,jI hn]
 generalize p.Fns[i]=f
 cases hnm:sK f.Name with
 | false=>rfl
 | true =>
  simp only [Bool.not_true,Bool.false_eq_true,if_false,Bool.true_and]
  cases hat:fK p f.Name == i with
  | false =>
   have:(fK p f.Name != i)=true:=by simp only [bne,hat,Bool.not_false]
   rw [this,Bool.and_false];rfl
  | true =>
   have:(fK p f.Name != i)=false:=by simp only [bne,hat,Bool.not_true]
   rw [this,Bool.and_true]
   simp only [Bool.false_eq_true,if_false]
   by_cases hp3:(f.Params.length:Int) > 3
   ·rw [if_pos (by simpa using hp3),decide_eq_true hp3];rfl
   rw [if_neg (by simpa using hp3),decide_eq_false hp3]
   simp only [Bool.not_false,Bool.true_and]
   cases hin:inB f.Res 0 2 with
   | false=>rfl
   | true =>
    simp only [Option.bind_some,Bool.not_true,Bool.false_eq_true,if_false,Bool.true_and]
    rw [rA f.Params zO (gW f) (fun k hk=>by
     simp only [gW,aB hk,if_true,aD hk,Option.bind_some,nT,eU,aJ hk (by omega)]
     unfold zO
     cases sK f.Params[k].Name
     ·rfl
     cases inB f.Params[k].Typ 1 4<;>rfl) (by simp [gW])]
    cases f.Params.all zO with
    | false=>rfl
    | true =>
     simp only [if_true,Option.bind_some,Bool.true_and]
     rw [aG9 p f hn]
     cases aHd p f with
     | false=>rfl
     | true =>
      simp only [Bool.not_true,Bool.false_eq_true,if_false,Bool.true_and]
      exact aHs p f hn
def incs (d:Int) (l:List Int) (m:List Int):List Int:=l.foldl (fun m e=>m.set e.toNat (m.getD e.toNat 0 + d)) m
theorem aDr (d:Int):∀ (l m:List Int),(incs d l m).length=m.length
 | [],m=>rfl
 | e :: l,m=>by
  show (incs d l (m.set e.toNat (m.getD e.toNat 0 + d))).length=_
  rw [aDr d l];simp
theorem aA9 (d:Int) (a b m:List Int):incs d (a ++ b) m=incs d b (incs d a m):=by unfold incs;rw [List.foldl_append]
theorem aDs (d:Int) (k:Nat):∀ (l m:List Int),(∀ e ∈ l,0 ≤ e∧e < m.length)→(incs d l m).getD k 0=m.getD k 0 + d * (l.count (k:Int):Nat)
 | [],m,_=>by simp [incs]
 | e :: l,m,h=>by
  have he:=h e (by simp)
  have ih:=aDs d k l (m.set e.toNat (m.getD e.toNat 0 + d)) (fun x hx=>by rw [List.length_set];exact h x (by simp [hx]))
  show (incs d l (m.set e.toNat (m.getD e.toNat 0 + d))).getD k 0=_
  rw [ih,List.count_cons]
  by_cases hk:e.toNat=k
  ·have:(e == (k:Int))=true:=by simp only [beq_iff_eq];omega
   rw [if_pos this]
   have hg:(m.set e.toNat (m.getD e.toNat 0 + d)).getD k 0=m.getD k 0 + d:=by
    rw [List.getD_eq_getElem?_getD,List.getElem?_set,if_pos hk,if_pos (by omega),hk];rfl
   rw [hg,Int.natCast_add,Int.mul_add]
   simp only [Int.natCast_one,Int.mul_one]
   omega
  have:¬ (e == (k:Int))=true:=by simp only [beq_iff_eq];omega
  rw [if_neg this]
  have hg:(m.set e.toNat (m.getD e.toNat 0 + d)).getD k 0=m.getD k 0:=by
   rw [List.getD_eq_getElem?_getD,List.getElem?_set,if_neg hk,← List.getD_eq_getElem?_getD]
  rw [hg];rfl
structure Bd (n:Nat) (C:Int) (m:List Int):Prop where
 len:m.length=n
 bnd:∀ v ∈ m,0 ≤ v∧v ≤ C
theorem Bd.mono {n:Nat} {C C':Int} {m:List Int} (h:Bd n C m) (hc:C ≤ C'):Bd n C' m:=⟨h.len,fun v hv=>by have:=h.bnd v hv;omega⟩
theorem Bd.getD {n:Nat} {C:Int} {m:List Int} (h:Bd n C m) (hC:0 ≤ C) (k:Nat):0 ≤ m.getD k 0∧m.getD k 0 ≤ C:=by
 rw [List.getD_eq_getElem?_getD]
 cases hk:m[k]? with
 | none=>exact ⟨Int.le_refl 0,hC⟩
 | some v=>exact h.bnd v (List.mem_of_getElem? hk)
theorem Bd.set {n:Nat} {C d:Int} {m:List Int} (h:Bd n C m) (hC:0 ≤ C) (hd:0 ≤ d) (k:Nat):Bd n (C + d) (m.set k (m.getD k 0 + d)):=⟨by rw [List.length_set];exact h.len,fun v hv=>by
 rcases List.mem_or_eq_of_mem_set hv with h1 | h1
 ·have:=h.bnd v h1;omega
 have:=h.getD hC k;omega⟩
theorem Bd.incs {n:Nat} {d:Int} (hd:0 ≤ d):∀ (l:List Int) {C:Int} {m:List Int},0 ≤ C→Bd n C m→Bd n (C + d * l.length) (Go.OM.incs d l m)
 | [],C,m,hC,h=>by simpa [Go.OM.incs] using h
 | e :: l,C,m,hC,h=>by
  have:=Bd.incs hd l (C:=C + d) (by omega) (h.set hC hd e.toNat)
  refine this.mono ?_
  rw [List.length_cons,Int.natCast_add,Int.mul_add]
  simp only [Int.natCast_one,Int.mul_one]
  omega
theorem aIa {ρ:Type} (n:Nat) (kids:List Int) (hk:∀ e ∈ kids,0 ≤ e∧e < n) (C:Int) (hC:0 ≤ C) (f:List Int × Int→Option ((List Int × Int) ⊕ ρ)) (fin:List Int→ρ)
  (hf:∀ (m:List Int) (j:Nat) (hj:j < kids.length),Bd n (C + kids.length) m→f (m,j)=some (.inl (m.set kids[j].toNat (m.getD kids[j].toNat 0 + 1),((j + 1:Nat):Int))))
  (he:∀ m:List Int,f (m,kids.length)=some (.inr (fin m))) (m:List Int) (hm:Bd n C m):aG f (m,0)=some (fin (incs 1 kids m)):=by
 have:=aT kids (fun (m:List Int) j=>(m,(j:Int))) (fun j m=>Bd n (C + j) m) (fun m e=>.inl (m.set e.toNat (m.getD e.toNat 0 + 1))) fin f (fun m j hj hI=>by
  left
  refine ⟨_,rfl,hf m j hj (hI.mono (by omega)),?_⟩
  have:=hI.set (by omega) (show (0:Int) ≤ 1 by omega) kids[j].toNat
  exact this.mono (by omega)) (fun m _=>he m) m (by simpa using hm)
 rw [bB] at this
 exact this
def aFk (nodes:List GNode):List Int:=nodes.flatMap (·.Kids)
def kc (nodes:List GNode) (k:Nat):Nat:=(aFk nodes).count (k:Int)
theorem uE {nodes:List GNode} (h:okU nodes nodes.length=true) {x:GNode} (hx:x ∈ nodes):x.Kids.length ≤ 12∧(∀ e ∈ x.Kids,0 ≤ e∧e < nodes.length)∧x.Kids.Nodup:=by
 obtain ⟨i,hi,rfl⟩:=List.mem_iff_getElem.1 hx
 have hn:=(gP h hi).1
 have hg:nodes[i]? = some nodes[i]:=List.getElem?_eq_getElem hi
 refine ⟨dC hn hg,fun e he=>?_,?_⟩
 ·have:=eB hn hg e he;omega
 obtain ⟨_,_,_,h3,_⟩:=mO hn
 rw [List.nodup_iff_pairwise_ne,List.pairwise_iff_getElem]
 intro a b ha hb hab e
 refine (h3 b hb).2.1 ?_
 rw [← e]
 refine List.mem_iff_getElem.2 ⟨a,by simp only [List.length_take];omega,?_⟩
 rw [List.getElem_take]
theorem kc_le {nodes:List GNode} (h:okU nodes nodes.length=true) (k:Nat):kc nodes k ≤ nodes.length:=by
 have key:∀ l:List GNode,(∀ x ∈ l,x.Kids.Nodup)→(l.flatMap (·.Kids)).count (k:Int) ≤ l.length:=by
  intro l
  induction l with
  | nil=>intro _;simp
  | cons x l ih =>
   intro hl
   rw [List.flatMap_cons,List.count_append,List.length_cons]
   have h1:=ih fun y hy=>hl y (by simp [hy])
   have h2:=List.nodup_iff_count.1 (hl x (by simp)) (k:Int)
   omega
 exact key nodes fun x hx=>(uE h hx).2.2
theorem aFi (nodes:List GNode) (hok:okU nodes nodes.length=true) (hn:nodes.length ≤ 300) (f:List Int × Int→Option ((List Int × Int) ⊕ List Int))
  (hf:∀ (m:List Int) (i:Nat) (hi:i < nodes.length),Bd nodes.length (12 * i) m→f (m,i)=some (.inl (incs 1 nodes[i].Kids m,((i + 1:Nat):Int))))
  (he:∀ m:List Int,f (m,nodes.length)=some (.inr m)):aG f (List.replicate nodes.length 0,0)=some (incs 1 (aFk nodes) (List.replicate nodes.length 0)):=by
 have:=aT nodes (fun (m:List Int) j=>(m,(j:Int))) (fun j m=>Bd nodes.length (12 * j) m) (fun m x=>.inl (incs 1 x.Kids m)) id f (fun m j hj hI=>by
  left
  refine ⟨_,rfl,hf m j hj hI,?_⟩
  have h12:=(uE hok (List.getElem_mem hj)).1
  have:=Bd.incs (show (0:Int) ≤ 1 by omega) nodes[j].Kids (by omega) hI
  exact this.mono (by omega)) (fun m _=>he m) (List.replicate nodes.length 0) ⟨by simp,fun v hv=>by
   have:=(List.mem_replicate.1 hv).2
   omega⟩
 rw [bB] at this
 have e:∀ (l:List GNode) (m:List Int),l.foldl (fun m x=>incs 1 x.Kids m) m=incs 1 (l.flatMap (·.Kids)) m:=by
  intro l
  induction l with
  | nil=>intro m;rfl
  | cons x l ih=>intro m;rw [List.foldl_cons,List.flatMap_cons,aA9,ih]
 rw [e] at this
 exact this
def aJo (nodes:List GNode):List Int:=incs 1 (aFk nodes) (List.replicate nodes.length 0)
theorem uI (nodes:List GNode):(aJo nodes).length=nodes.length:=by unfold aJo;rw [aDr];simp
theorem rZ {nodes:List GNode} (h:okU nodes nodes.length=true) (k:Nat):(aJo nodes).getD k 0=(kc nodes k:Nat):=by
 unfold aJo
 rw [aDs 1 k _ _ (fun e he=>by
  obtain ⟨x,hx,hm⟩:=List.mem_flatMap.1 he
  rw [List.length_replicate]
  exact (uE h hx).2.1 e hm)]
 have:(List.replicate nodes.length (0:Int)).getD k 0=0:=by
  rw [List.getD_eq_getElem?_getD,List.getElem?_replicate];split<;>rfl
 rw [this]
 unfold kc
 omega
theorem aNj (p:GProgram) (hok:okU p.Nodes p.Nodes.length=true) (hn:p.Nodes.length ≤ 300):aG (dM p) (List.replicate p.Nodes.length 0,0)=some (aJo p.Nodes):=by
 refine aFi p.Nodes hok hn _ (fun m i hi hI=>?_) (fun m=>by simp [dM])
 obtain ⟨h12,hb,_⟩:=uE hok (List.getElem_mem hi)
 simp only [dM,aB hi,if_true,aD hi,Option.bind_some]
 rw [aIa p.Nodes.length p.Nodes[i].Kids hb (12 * i) (by omega) (dL p.Nodes[i]) id (fun m j hj hm=>by
  have hbe:=hb _ (List.getElem_mem hj)
  have hg:=hm.getD (by omega) p.Nodes[i].Kids[j].toNat
  simp only [dL,aB hj,if_true,aD hj,Option.bind_some]
  rw [cK hbe.1 (by rw [hm.len];exact hbe.2)]
  have hlt:p.Nodes[i].Kids[j].toNat < m.length:=by rw [hm.len];omega
  have e:m[p.Nodes[i].Kids[j].toNat]=m.getD p.Nodes[i].Kids[j].toNat 0:=by rw [List.getD_eq_getElem?_getD,List.getElem?_eq_getElem hlt];rfl
  rw [e]
  simp only [Option.bind_some,bV,w64 (n:=m.getD p.Nodes[i].Kids[j].toNat 0 + 1) (by omega) (by omega),aJ hj (show p.Nodes[i].Kids.length ≤ 1048576 by omega)]) (fun m=>by simp [dL]) m hI]
 simp only [Option.bind_some,id,aJ hi (show p.Nodes.length ≤ 1048576 by omega)]
theorem aMy (nodes:List GNode) (hok:okU nodes nodes.length=true) (hn:nodes.length ≤ 300):kT nodes=some (aJo nodes):=by
 unfold kT
 rw [tK _ _ _ (by omega) (by omega)]
 simp only [Option.bind_some]
 rw [aFi nodes hok hn (eQ nodes) (fun m i hi hI=>by
  obtain ⟨h12,hb,_⟩:=uE hok (List.getElem_mem hi)
  simp only [eQ,aB hi,if_true]
  rw [aIa nodes.length nodes[i].Kids hb (12 * i) (by omega) (eP nodes i) id (fun m j hj hm=>by
   have hbe:=hb _ (List.getElem_mem hj)
   have hg:=hm.getD (by omega) nodes[i].Kids[j].toNat
   simp only [eP,aD hi,aB hj,if_true,aD hj,Option.bind_some]
   rw [cK hbe.1 (by rw [hm.len];exact hbe.2)]
   have hlt:nodes[i].Kids[j].toNat < m.length:=by rw [hm.len];omega
   have e:m[nodes[i].Kids[j].toNat]=m.getD nodes[i].Kids[j].toNat 0:=by rw [List.getD_eq_getElem?_getD,List.getElem?_eq_getElem hlt];rfl
   rw [e]
   simp only [Option.bind_some,bV,w64 (n:=m.getD nodes[i].Kids[j].toNat 0 + 1) (by omega) (by omega),aJ hj (show nodes[i].Kids.length ≤ 1048576 by omega)]) (fun m=>by simp [eP,aD hi]) m hI]
  simp only [Option.bind_some,id,aJ hi (show nodes.length ≤ 1048576 by omega)]) (fun m=>by simp [eQ])]
 rfl
def kZ (f:GFn):List Int:=if f.Ret < 0 then [f.Body] else [f.Body,f.Ret]
def sT (p:GProgram) (n:Nat):List Int:=(p.Fns.take n).flatMap kZ
def kD (p:GProgram):List Int:=p.Fns.flatMap kZ
theorem aC3 (p:GProgram):sT p p.Fns.length=kD p:=by unfold sT kD;rw [List.take_length]
theorem zK (p:GProgram) {n:Nat} (h:n < p.Fns.length):sT p (n + 1)=sT p n ++ kZ p.Fns[n]:=by
 unfold sT
 rw [List.take_add_one,List.getElem?_eq_getElem h,List.flatMap_append];simp
def nK (p:GProgram) (i:Nat):Bool:=match p.Fns[i]? with
 | some f=>fnB p f && fK p f.Name == i
 | none=>false
theorem sD {p:GProgram} {i:Nat} (h:i < p.Fns.length):nK p i=(fnB p p.Fns[i] && fK p p.Fns[i].Name == i):=by unfold nK;rw [List.getElem?_eq_getElem h]
theorem uX {p:GProgram} {f:GFn} (h:fnB p f=true):(∀ e ∈ kZ f,0 ≤ e∧e < p.Nodes.length)∧0 ≤ f.Body∧f.Body < p.Nodes.length∧f.Ret < p.Nodes.length:=by
 unfold fnB at h
 simp only [Bool.and_eq_true] at h
 obtain ⟨_,_,_,_,h5,h6⟩:=h
 obtain ⟨b1,b2,_⟩:=bodyB_iff.1 h5
 have hr:f.Ret < p.Nodes.length:=by
  unfold retB at h6
  split at h6
  ·simp only [beq_iff_eq] at h6;omega
  rw [Bool.and_eq_true,inB_iff] at h6;omega
 refine ⟨?_,b1,b2,hr⟩
 intro e he
 unfold kZ at he
 split at he
 ·simp only [List.mem_singleton] at he;subst he;exact ⟨b1,b2⟩
 simp only [List.mem_cons,List.not_mem_nil,or_false] at he
 rcases he with rfl | rfl
 ·exact ⟨b1,b2⟩
 exact ⟨by omega,hr⟩
def nJ:List Int→List Int→Option (List Int)
 | [],m=>some m
 | r :: rs,m=>if m.getD r.toNat 0=0 then nJ rs (m.set r.toNat (-1)) else none
theorem qY:∀ (a b m:List Int),nJ (a ++ b) m=(nJ a m).bind (nJ b)
 | [],b,m=>rfl
 | r :: a,b,m=>by
  simp only [List.cons_append,nJ]
  split
  ·exact qY a b _
  rfl
theorem aCd (n:Nat):∀ (rs m:List Int),m.length=n→(∀ r ∈ rs,0 ≤ r∧r < n) →
  (match nJ rs m with
   | some m'=>(rs.Nodup∧∀ r ∈ rs,m.getD r.toNat 0=0)∧m'.length=n∧∀ k:Nat,m'.getD k 0=if (k:Int) ∈ rs then -1 else m.getD k 0
   | none=>¬ (rs.Nodup∧∀ r ∈ rs,m.getD r.toNat 0=0))
 | [],m,hm,_=>by simp [nJ,hm]
 | r :: rs,m,hm,h=>by
  have hr:=h r (by simp)
  simp only [nJ]
  by_cases h0:m.getD r.toNat 0=0
  ·rw [if_pos h0]
   have ih:=aCd n rs (m.set r.toNat (-1)) (by rw [List.length_set];exact hm) (fun x hx=>h x (by simp [hx]))
   have hget:∀ k:Nat,(m.set r.toNat (-1)).getD k 0=if (k:Int)=r then -1 else m.getD k 0:=by
    intro k
    rw [List.getD_eq_getElem?_getD,List.getElem?_set]
    by_cases hk:r.toNat=k
    ·rw [if_pos hk,if_pos (by omega),if_pos (by omega)];rfl
    rw [if_neg hk,if_neg (by omega),← List.getD_eq_getElem?_getD]
   have hre:∀ x ∈ rs,((x.toNat:Nat):Int)=x:=fun x hx=>by have:=h x (by simp [hx]);omega
   split at ih
   ·rename_i m' hm'
    try rw [hm']
    obtain ⟨⟨i1,i2⟩,i3,i4⟩:=ih
    have hnr:r ∉ rs:=fun hm=>by
     have:=i2 r hm
     rw [hget,hre r hm,if_pos rfl] at this
     omega
    refine ⟨⟨List.nodup_cons.2 ⟨hnr,i1⟩,fun x hx=>?_⟩,i3,fun k=>?_⟩
    ·rcases List.mem_cons.1 hx with rfl | hx
     ·exact h0
     have:=i2 x hx
     rw [hget,hre x hx] at this
     split at this
     ·omega
     exact this
    rw [i4,hget]
    by_cases h1:(k:Int) ∈ rs
    ·rw [if_pos h1,if_pos (by simp [h1])]
    rw [if_neg h1]
    by_cases h2:(k:Int)=r
    ·rw [if_pos h2,if_pos (by simp [h2])]
    rw [if_neg h2,if_neg (by simp [h1,h2])]
   rename_i hm'
   try rw [hm']
   rintro ⟨j1,j2⟩
   rw [List.nodup_cons] at j1
   refine ih ⟨j1.2,fun x hx=>?_⟩
   rw [hget,hre x hx]
   have:¬ x=r:=fun e=>j1.1 (e ▸ hx)
   rw [if_neg this]
   exact j2 x (by simp [hx])
  rw [if_neg h0]
  rintro ⟨_,j2⟩
  exact h0 (j2 r (by simp))
def yL (n:Nat):Bool:=n == 1 || n == 1000
def sJ (p:GProgram):Bool:=inB p.Nodes.length 1 300 && (inB p.Fns.length 1 8 && (okU p.Nodes p.Nodes.length && ((List.range p.Fns.length).all (nK p) && (List.range p.Nodes.length).all fun k=>yL (kc p.Nodes k + 1000 * (kD p).count (k:Int)))))
theorem aK6 {nodes:List GNode} (h:1 ≤ nodes.length):(oD nodes ((nodes.length:Int) - 1) == 0) = !(okU nodes nodes.length):=by
 unfold oD
 have e:((nodes.length:Int) - 1).toNat=nodes.length - 1:=by omega
 rw [e,show nodes.length - 1 + 1=nodes.length by omega]
 cases hok:okU nodes nodes.length with
 | true =>
  rw [if_pos ⟨by omega,by omega,rfl⟩]
  have:=fL nodes (nodes.length - 1)
  have hne:¬ nL nodes (nodes.length - 1)=0:=by omega
  simp [hne]
 | false=>rw [if_neg (fun h=>by cases h.2.2)];rfl
theorem aJu (p:GProgram) (f:GFn) (hf:fnB p f=true) (m:List Int) (hm:m.length=p.Nodes.length):aG (aI f) (m,0)=some (match nJ (kZ f) m with | some m'=>.inl m' | none=>.inr (.inr (.inr false))):=by
 obtain ⟨_,b0,b1,r1⟩:=uX hf
 have hl:(([f.Body,f.Ret]:List Int).length:Int)=2:=rfl
 have g0:aM [f.Body,f.Ret] 0=some f.Body:=rfl
 have g1:aM [f.Body,f.Ret] 1=some f.Ret:=rfl
 have d0:decide ((0:Int) < 2)=true:=rfl
 have d1:decide ((1:Int) < 2)=true:=rfl
 have d2:decide ((2:Int) < 2)=false:=rfl
 have w0:IntKind.wrap .i64 ((0:Int) + 1)=1:=rfl
 have w1:IntKind.wrap .i64 ((1:Int) + 1)=2:=rfl
 have hgd:∀ (m:List Int) (v:Int),m.length=p.Nodes.length→0 ≤ v→v < p.Nodes.length→aM m v=some (m.getD v.toNat 0):=fun m v hm h0 h1=>by
  have hlt:v.toNat < m.length:=by omega
  rw [cK h0 (by omega),List.getD_eq_getElem?_getD,List.getElem?_eq_getElem hlt];rfl
 have step1:∀ m:List Int,m.length=p.Nodes.length→aG (aI f) (m,1)=some (match nJ (if f.Ret < 0 then [] else [f.Ret]) m with | some m'=>.inl m' | none=>.inr (.inr (.inr false))):=by
  intro m hm
  by_cases hr:f.Ret < 0
  ·have:aI f (m,1)=some (.inl (m,2)):=by
    simp only [aI,hl,d1,if_true,g1,Option.bind_some,w1]
    rw [if_pos (by simpa using hr)]
   rw [qZ this,if_pos hr,jR (r:=.inl m) (by simp only [aI,hl,d2,Bool.false_eq_true,if_false])]
   rfl
  rw [if_neg hr]
  simp only [nJ]
  by_cases hz:m.getD f.Ret.toNat 0=0
  ·have:aI f (m,1)=some (.inl (m.set f.Ret.toNat (-1),2)):=by
    simp only [aI,hl,d1,if_true,g1,Option.bind_some,w1]
    rw [if_neg (by simpa using hr),hgd m f.Ret hm (by omega) r1]
    simp only [Option.bind_some,hz,bV]
    rfl
   rw [qZ this,if_pos hz,jR (r:=.inl (m.set f.Ret.toNat (-1))) (by simp only [aI,hl,d2,Bool.false_eq_true,if_false])]
  have:aI f (m,1)=some (.inr (.inr (.inr (.inr false)))):=by
   simp only [aI,hl,d1,if_true,g1,Option.bind_some,w1]
   rw [if_neg (by simpa using hr),hgd m f.Ret hm (by omega) r1]
   simp only [Option.bind_some]
   rw [if_pos (by simpa using hz)]
  rw [jR this,if_neg hz]
 have hsplit:kZ f=f.Body :: (if f.Ret < 0 then [] else [f.Ret]):=by unfold kZ;split<;>rfl
 rw [hsplit]
 simp only [nJ]
 have hb:¬ f.Body < 0:=by omega
 by_cases hz:m.getD f.Body.toNat 0=0
 ·have:aI f (m,0)=some (.inl (m.set f.Body.toNat (-1),1)):=by
   simp only [aI,hl,d0,if_true,g0,Option.bind_some,w0]
   rw [if_neg (by simpa using hb),hgd m f.Body hm b0 b1]
   simp only [Option.bind_some,hz,bV]
   rfl
  rw [qZ this,if_pos hz,step1 _ (by rw [List.length_set];exact hm)]
 have:aI f (m,0)=some (.inr (.inr (.inr (.inr false)))):=by
  simp only [aI,hl,d0,if_true,g0,Option.bind_some,w0]
  rw [if_neg (by simpa using hb),hgd m f.Body hm b0 b1]
  simp only [Option.bind_some]
  rw [if_pos (by simpa using hz)]
 rw [jR this,if_neg hz]
theorem aF6:∀ (rs m:List Int) {m':List Int},nJ rs m=some m'→m'.length=m.length
 | [],m,m',h=>by cases h;rfl
 | r :: rs,m,m',h=>by
  simp only [nJ] at h
  split at h
  ·rw [aF6 rs _ h];simp
  cases h
theorem aJv (p:GProgram) (hn:p.Nodes.length ≤ 300) (hp:p.Fns.length ≤ 8) (m0:List Int) (hm0:m0.length=p.Nodes.length):aG (cI p) (m0,0)=some (if (List.range p.Fns.length).all (nK p)=true then (match nJ (kD p) m0 with | some m=>.inl m | none=>.inr false) else .inr false):=by
 obtain ⟨r,h1,h2⟩:=dQ (f:=cI p) (fun s:List Int × Int=>∃ i:Nat,s.2=i∧i ≤ p.Fns.length∧(∀ j,j < i→nK p j=true)∧nJ (sT p i) m0=some s.1) (fun s=>p.Fns.length - s.2.toNat) (fun r=>r=if (List.range p.Fns.length).all (nK p)=true then (match nJ (kD p) m0 with | some m=>.inl m | none=>.inr false) else .inr false) (by
  rintro ⟨m,i⟩ ⟨i,rfl,hi,hg,hm⟩
  simp only at hm hi
  have hml:m.length=p.Nodes.length:=by rw [aF6 _ _ hm];exact hm0
  by_cases hlt:i < p.Fns.length
  ·have hbad:(nK p i=false)→(List.range p.Fns.length).all (nK p)=false:=by
    intro hb
    rw [Bool.eq_false_iff]
    intro h
    rw [List.all_eq_true.1 h i (List.mem_range.2 hlt)] at hb
    cases hb
   have hgi:=sD hlt
   have hcond:(Option.bind (if (!(fnB p p.Fns[i]))=true then some true else some (fK p p.Fns[i].Name != (i:Int))) fun v:Bool=>some v)=some (!(nK p i)):=by
    rw [hgi];cases fnB p p.Fns[i]<;>rfl
   have hcond2:(if (!(fnB p p.Fns[i]))=true then some true else some (fK p p.Fns[i].Name != (i:Int)))=some (!(nK p i)):=by
    rw [hgi];cases fnB p p.Fns[i]<;>rfl
   simp only [cI,aB hlt,if_true,aD hlt,Option.bind_some,aFq p _ (show p.Nodes.length ≤ 1048576 by omega),nP p _ (show p.Fns.length ≤ 1048576 by omega),hcond2]
   cases hgb:nK p i with
   | false =>
    right
    refine ⟨.inr false,rfl,?_⟩
    rw [hbad hgb];rfl
   | true =>
    simp only [Bool.not_true,Bool.false_eq_true,if_false]
    have hfb:fnB p p.Fns[i]=true:=by rw [hgi,Bool.and_eq_true] at hgb;exact hgb.1
    rw [aJu p _ hfb m hml]
    simp only [Option.bind_some]
    have hsucc:nJ (sT p (i + 1)) m0=nJ (kZ p.Fns[i]) m:=by
     rw [zK p hlt,qY,hm];rfl
    cases hmr:nJ (kZ p.Fns[i]) m with
    | some m' =>
     left
     refine ⟨(m',((i + 1:Nat):Int)),by simp only [aJ hlt (show p.Fns.length ≤ 1048576 by omega)],⟨i + 1,rfl,by omega,fun j hj=>?_,by rw [hsucc];exact hmr⟩,by simp only [Int.toNat_natCast];omega⟩
     by_cases e:j=i
     ·subst e;exact hgb
     exact hg j (by omega)
    | none =>
     right
     refine ⟨.inr false,rfl,?_⟩
     have:nJ (kD p) m0=none:=by
      have hsp:kD p=sT p (i + 1) ++ (p.Fns.drop (i + 1)).flatMap kZ:=by
       unfold kD sT
       rw [← List.flatMap_append,List.take_append_drop]
      rw [hsp,qY,hsucc,hmr];rfl
     rw [this];split<;>rfl
  right
  have:i=p.Fns.length:=by omega
  subst this
  refine ⟨.inl m,by simp [cI],?_⟩
  rw [if_pos (List.all_eq_true.2 fun j hj=>hg j (List.mem_range.1 hj)),← aC3,hm]) (m0,0) ⟨0,rfl,by omega,fun j hj=>by omega,rfl⟩
 rw [h1,h2]
theorem zM (n:Nat) (m:List Int) (q:Int→Bool) (hm:m.length=n):m.all q=(List.range n).all fun k=>q (m.getD k 0):=by
 rw [Bool.eq_iff_iff,List.all_eq_true,List.all_eq_true]
 constructor
 ·intro h k hk
  have hk':k < m.length:=by rw [hm];exact List.mem_range.1 hk
  rw [List.getD_eq_getElem?_getD,List.getElem?_eq_getElem hk']
  exact h _ (List.getElem_mem hk')
 intro h v hv
 obtain ⟨k,hk,rfl⟩:=List.mem_iff_getElem.1 hv
 have:=h k (List.mem_range.2 (by omega))
 rw [List.getD_eq_getElem?_getD,List.getElem?_eq_getElem hk] at this
 exact this
theorem aEr {p:GProgram} (h:(List.range p.Fns.length).all (nK p)=true):∀ e ∈ kD p,0 ≤ e∧e < p.Nodes.length:=by
 intro e he
 obtain ⟨f,hf,hm⟩:=List.mem_flatMap.1 he
 obtain ⟨i,hi,rfl⟩:=List.mem_iff_getElem.1 hf
 have:=List.all_eq_true.1 h i (List.mem_range.2 hi)
 rw [sD hi,Bool.and_eq_true] at this
 exact (uX this.1).1 e hm
theorem wF (p:GProgram) (hn:p.Nodes.length ≤ 1048576) (hp:p.Fns.length ≤ 1048576):iQ p=some (sJ p):=by
 unfold iQ sJ
 simp only [cF,Option.bind_some,jI hn,kR p.Nodes hn]
 cases h1:inB p.Nodes.length 1 300 with
 | false=>rfl
 | true =>
  have h1':=inB_iff.1 h1
  cases h2:inB p.Fns.length 1 8 with
  | false=>rfl
  | true =>
   have h2':=inB_iff.1 h2
   simp only [Bool.not_true,Bool.false_eq_true,if_false,Bool.true_and,Option.bind_some,aK6 (show 1 ≤ p.Nodes.length by omega)]
   cases h3:okU p.Nodes p.Nodes.length with
   | false=>rfl
   | true =>
    simp only [Bool.not_true,Bool.false_eq_true,if_false,Bool.true_and]
    rw [tK _ _ _ (by omega) (by omega)]
    simp only [Option.bind_some]
    rw [aNj p h3 (by omega)]
    simp only [Option.bind_some]
    rw [aJv p (by omega) (by omega) _ (uI _)]
    cases h4:(List.range p.Fns.length).all (nK p) with
    | false=>rfl
    | true =>
     simp only [if_true,Option.bind_some,Bool.true_and]
     have hb:=aEr h4
     have hsp:=aCd p.Nodes.length (kD p) (aJo p.Nodes) (uI _) hb
     have hmet:∀ r ∈ kD p,(aJo p.Nodes).getD r.toNat 0=(kc p.Nodes r.toNat:Nat):=fun r _=>rZ h3 _
     cases hmr:nJ (kD p) (aJo p.Nodes) with
     | none =>
      rw [hmr] at hsp
      simp only at hsp ⊢
      congr 1
      rw [eq_comm,Bool.eq_false_iff]
      intro hall
      rw [List.all_eq_true] at hall
      refine hsp ⟨List.nodup_iff_count.2 fun a=>?_,fun r hr=>?_⟩
      ·by_cases ha:a ∈ kD p
       ·have hab:=hb a ha
        have:=hall a.toNat (List.mem_range.2 (by omega))
        rw [show ((a.toNat:Nat):Int)=a by omega] at this
        simp only [yL,Bool.or_eq_true,beq_iff_eq] at this
        omega
       rw [List.count_eq_zero.2 ha];omega
      have hrb:=hb r hr
      have:=hall r.toNat (List.mem_range.2 (by omega))
      rw [show ((r.toNat:Nat):Int)=r by omega] at this
      simp only [yL,Bool.or_eq_true,beq_iff_eq] at this
      have hc:=List.count_pos_iff.2 hr
      rw [rZ h3]
      omega
     | some m =>
      rw [hmr] at hsp
      obtain ⟨⟨s1,s2⟩,s3,s4⟩:=hsp
      simp only
      rw [rA m (fun v=>v == 1 || v == -1) (dK m) (fun k hk=>by
       simp only [dK,aB hk,if_true,aD hk,Option.bind_some,aJ hk (show m.length ≤ 1048576 by omega)]
       by_cases e1:m[k]=1
       ·simp [e1]
       by_cases e2:m[k] = -1<;>simp [e1,e2]) (by simp [dK])]
      have hfin:m.all (fun v=>v == 1 || v == -1)=(List.range p.Nodes.length).all fun k=>yL (kc p.Nodes k + 1000 * (kD p).count (k:Int)):=by
       rw [zM p.Nodes.length m _ s3,Bool.eq_iff_iff,List.all_eq_true,List.all_eq_true]
       have each:∀ k,k < p.Nodes.length→((m.getD k 0 == 1 || m.getD k 0 == -1)=true ↔ yL (kc p.Nodes k + 1000 * (kD p).count (k:Int))=true):=by
        intro k hk
        have hkc:=kc_le h3 k
        rw [s4,rZ h3]
        simp only [yL,Bool.or_eq_true,beq_iff_eq]
        by_cases hm:(k:Int) ∈ kD p
        ·rw [if_pos hm]
         have hc:=List.count_pos_iff.2 hm
         have hc1:=List.nodup_iff_count.1 s1 (k:Int)
         have:=s2 _ hm
         rw [Int.toNat_natCast,rZ h3] at this
         omega
        rw [if_neg hm,List.count_eq_zero.2 hm]
        omega
       constructor
       ·intro h k hk;exact (each k (List.mem_range.1 hk)).1 (h k hk)
       intro h k hk;exact (each k (List.mem_range.1 hk)).2 (h k hk)
      rw [hfin]
      cases (List.range p.Nodes.length).all fun k=>yL (kc p.Nodes k + 1000 * (kD p).count (k:Int))<;>rfl
theorem aEl (p:GProgram) (hn:p.Nodes.length ≤ 300) (hp:p.Fns.length ≤ 8) (C:Int) (hC:0 ≤ C) (hC2:C ≤ 1000000) (m:List Int) (hm:Bd p.Nodes.length C m) (i:Nat) (hi:i < p.Fns.length):bL p (m,i)=some (if nK p i=true then .inl (incs 1000 (kZ p.Fns[i]) m,((i + 1:Nat):Int)) else .inr (.inr false)):=by
 simp only [bL,aB hi,if_true,aD4 p i hi (show p.Nodes.length ≤ 1048576 by omega) (show p.Fns.length ≤ 1048576 by omega),Option.bind_some,aD hi]
 rw [← sD hi]
 cases hg:nK p i with
 | false=>rfl
 | true =>
  simp only [Bool.not_true,Bool.false_eq_true,if_false,if_true]
  have hfb:fnB p p.Fns[i]=true:=by rw [sD hi,Bool.and_eq_true] at hg;exact hg.1
  obtain ⟨_,b0,b1,r1⟩:=uX hfb
  generalize p.Fns[i]=f at *
  have hgd:∀ (m:List Int) (v:Int),m.length=p.Nodes.length→0 ≤ v→v < p.Nodes.length→aM m v=some (m.getD v.toNat 0):=fun m v hm h0 h1=>by
   have hlt:v.toNat < m.length:=by omega
   rw [cK h0 (by omega),List.getD_eq_getElem?_getD,List.getElem?_eq_getElem hlt];rfl
  have g0:=hm.getD hC f.Body.toNat
  have hm1:=hm.set hC (show (0:Int) ≤ 1000 by omega) f.Body.toNat
  have g1:=hm1.getD (by omega) f.Ret.toNat
  rw [hgd m f.Body hm.len b0 b1]
  simp only [Option.bind_some,bV,w64 (n:=m.getD f.Body.toNat 0 + 1000) (by omega) (by omega),aJ hi (show p.Fns.length ≤ 1048576 by omega)]
  unfold kZ
  by_cases hr:f.Ret < 0
  ·have hr':¬ f.Ret ≥ 0:=by omega
   rw [if_neg (by simpa using hr'),if_pos hr]
   rfl
  have hr':f.Ret ≥ 0:=by omega
  rw [if_pos (by simpa using hr'),if_neg hr,hgd _ f.Ret hm1.len (by omega) r1]
  simp only [Option.bind_some,bV]
  rw [w64 (by omega) (by omega)]
  rfl
theorem aJ6 (p:GProgram) (hn:p.Nodes.length ≤ 300) (hp:p.Fns.length ≤ 8) (m0:List Int) (C:Int) (hC:0 ≤ C) (hC2:C ≤ 10000) (hm0:Bd p.Nodes.length C m0):aG (bL p) (m0,0)=some (if (List.range p.Fns.length).all (nK p)=true then .inl (incs 1000 (kD p) m0) else .inr false):=by
 obtain ⟨r,h1,h2⟩:=dQ (f:=bL p) (fun s:List Int × Int=>∃ i:Nat,s.2=i∧i ≤ p.Fns.length∧(∀ j,j < i→nK p j=true)∧s.1=incs 1000 (sT p i) m0∧Bd p.Nodes.length (C + 2000 * i) s.1) (fun s=>p.Fns.length - s.2.toNat) (fun r=>r=if (List.range p.Fns.length).all (nK p)=true then .inl (incs 1000 (kD p) m0) else .inr false) (by
  rintro ⟨m,i⟩ ⟨i,rfl,hi,hg,hm,hb⟩
  simp only at hm hi hb
  by_cases hlt:i < p.Fns.length
  ·have hst:=aEl p hn hp (C + 2000 * i) (by omega) (by omega) m hb i hlt
   cases hgb:nK p i with
   | false =>
    right
    refine ⟨.inr false,by rw [hst,hgb];rfl,?_⟩
    have:(List.range p.Fns.length).all (nK p)=false:=by
     rw [Bool.eq_false_iff]
     intro h
     rw [List.all_eq_true.1 h i (List.mem_range.2 hlt)] at hgb
     cases hgb
    rw [this];rfl
   | true =>
    left
    refine ⟨_,by rw [hst,hgb,if_pos rfl],⟨i + 1,rfl,by omega,fun j hj=>?_,?_,?_⟩,by simp only [Int.toNat_natCast];omega⟩
    ·by_cases e:j=i
     ·subst e;exact hgb
     exact hg j (by omega)
    ·simp only
     rw [zK p hlt,aA9,← hm]
    have:=Bd.incs (show (0:Int) ≤ 1000 by omega) (kZ p.Fns[i]) (by omega) hb
    refine this.mono ?_
    have:(kZ p.Fns[i]).length ≤ 2:=by unfold kZ;split<;>simp
    omega
  right
  have:i=p.Fns.length:=by omega
  subst this
  refine ⟨.inl m,by simp [bL],?_⟩
  rw [if_pos (List.all_eq_true.2 fun j hj=>hg j (List.mem_range.1 hj)),← aC3,hm]) (m0,0) ⟨0,rfl,by omega,fun j hj=>by omega,rfl,hm0.mono (by omega)⟩
 rw [h1,h2]
theorem vO (p:GProgram) (hn:p.Nodes.length ≤ 1048576) (hp:p.Fns.length ≤ 1048576):iM p=some (sJ p):=by
 unfold iM sJ
 simp only [eU,Option.bind_some,jI hn]
 cases h1:inB p.Nodes.length 1 300 with
 | false=>rfl
 | true =>
  have h1':=inB_iff.1 h1
  cases h2:inB p.Fns.length 1 8 with
  | false=>rfl
  | true =>
   have h2':=inB_iff.1 h2
   have hc:((p.Nodes.length:Int) - 1)=((p.Nodes.length - 1:Nat):Int):=by omega
   simp only [Bool.not_true,Bool.false_eq_true,if_false,Bool.true_and,Option.bind_some]
   rw [hc,tZ p.Nodes hn _ (by omega)]
   simp only [Option.bind_some,vP]
   rw [show p.Nodes.length - 1 + 1=p.Nodes.length by omega,jI hn,hc,aE1,rW p.Nodes (show p.Nodes.length - 1 < p.Nodes.length by omega),show p.Nodes.length - 1 + 1=p.Nodes.length by omega]
   simp only [Option.bind_some]
   cases h3:okU p.Nodes p.Nodes.length with
   | false=>rfl
   | true =>
    have hpos:=fL p.Nodes (p.Nodes.length - 1)
    have hne:¬ nL p.Nodes (p.Nodes.length - 1)=0:=by omega
    simp only [if_true,Bool.true_and]
    rw [if_neg (by simpa using hne),aMy p.Nodes h3 (by omega)]
    simp only [Option.bind_some]
    have hB:Bd p.Nodes.length 300 (aJo p.Nodes):=⟨uI _,fun v hv=>by
     obtain ⟨k,hk,rfl⟩:=List.mem_iff_getElem.1 hv
     have h:=rZ h3 k
     rw [List.getD_eq_getElem?_getD,List.getElem?_eq_getElem hk,Option.getD_some] at h
     have:=kc_le h3 k
     omega⟩
    rw [aJ6 p (by omega) (by omega) _ 300 (by omega) (by omega) hB]
    cases h4:(List.range p.Fns.length).all (nK p) with
    | false=>rfl
    | true =>
     simp only [if_true,Option.bind_some,Bool.true_and]
     have hb:=aEr h4
     have hl:(incs 1000 (kD p) (aJo p.Nodes)).length=p.Nodes.length:=by rw [aDr,uI]
     have hval:∀ k,(incs 1000 (kD p) (aJo p.Nodes)).getD k 0=((kc p.Nodes k + 1000 * (kD p).count (k:Int):Nat):Int):=by
      intro k
      rw [aDs 1000 k _ _ (fun e he=>by rw [uI];exact hb e he),rZ h3]
      omega
     generalize hmm:incs 1000 (kD p) (aJo p.Nodes)=m at *
     rw [rA m (fun v=>v == 1 || v == 1000) (dF m) (fun k hk=>by
      simp only [dF,aB hk,if_true,aD hk,Option.bind_some,aJ hk (show m.length ≤ 1048576 by omega)]
      by_cases e1:m[k]=1
      ·simp [e1]
      by_cases e2:m[k]=1000<;>simp [e1,e2]) (by simp [dF])]
     have hfin:m.all (fun v=>v == 1 || v == 1000)=(List.range p.Nodes.length).all fun k=>yL (kc p.Nodes k + 1000 * (kD p).count (k:Int)):=by
      rw [zM p.Nodes.length m _ hl]
      congr 1
      funext k
      rw [hval,Bool.eq_iff_iff]
      simp only [yL,Bool.or_eq_true,beq_iff_eq]
      omega
     rw [hfin]
     cases (List.range p.Nodes.length).all fun k=>yL (kc p.Nodes k + 1000 * (kD p).count (k:Int))<;>rfl
end Go.OM
namespace Go.OM
theorem yF {α:Type} {n:Nat} {l:List α} (h:l.length ≤ 1048576) (hn:n ≤ 64):mH n [] l=some l:=aHf h hn
def NL (l:List GNode):Prop:=∀ x ∈ l,GNode.le 1048576 x
theorem aLz (f:GFn) (h:f.Params.length ≤ 1048576):nB f=some f:=by
 unfold nB
 rw [yF h (by omega)]
 rfl
theorem aG2 {α ρ:Type} (l:List α) (hl:l.length ≤ 1048576) (f:List α × Int→Option ((List α × Int) ⊕ ρ)) (fin:List α→ρ)
  (hf:∀ (o:List α) (k:Nat) (hk:k < l.length),o.length=k→f (o,k)=some (.inl (o ++ [l[k]],((k + 1:Nat):Int)))) (he:∀ o:List α,f (o,l.length)=some (.inr (fin o))):aG f ([],0)=some (fin l):=by
 obtain ⟨r,h1,h2⟩:=dQ (f:=f) (fun s:List α × Int=>∃ k:Nat,s.2=k∧k ≤ l.length∧s.1=l.take k) (fun s=>l.length - s.2.toNat) (fun r=>r=fin l) (by
  rintro ⟨o,i⟩ ⟨k,rfl,hk,ho⟩
  simp only at ho hk
  by_cases hlt:k < l.length
  ·left
   refine ⟨_,hf o k hlt (by rw [ho,List.length_take];omega),⟨k + 1,rfl,by omega,?_⟩,by simp only [Int.toNat_natCast];omega⟩
   simp only
   rw [ho,List.take_add_one,List.getElem?_eq_getElem hlt];rfl
  right
  have:k=l.length:=by omega
  subst this
  rw [List.take_length] at ho
  exact ⟨_,he o,by rw [ho]⟩) ([],0) ⟨0,rfl,by omega,by simp⟩
 rw [h1,h2]
theorem aG3 (l:List GNode) (hl:l.length ≤ 1048576) (hN:NL l):iP l=some l:=by
 unfold iP
 rw [aG2 l hl (dJ l) (fun o=>o) (fun o k hk ho=>by
  have hk2:=(hN _ (List.getElem_mem hk)).2
  have hc:jY (l[k]).Kids=some (l[k]).Kids:=by unfold jY;rw [yF hk2 (by omega)];rfl
  simp only [dJ,aB hk,if_true,aD hk,Option.bind_some,hc,aHg (show o.length ≤ 1048576 by omega) (show 56 ≤ 64 by omega),aJ hk hl]) (fun o=>by simp [dJ])]
 rfl
theorem aEm (l:List GNode) (hl:l.length ≤ 1048576) (hN:NL l):jL l=some l:=by
 unfold jL
 rw [aG2 l hl (dX l) (fun o=>o) (fun o k hk ho=>by
  have hk2:=(hN _ (List.getElem_mem hk)).2
  simp only [dX,aB hk,if_true,aD hk,Option.bind_some,yF hk2 (show 8 ≤ 64 by omega),aHg (show o.length ≤ 1048576 by omega) (show 56 ≤ 64 by omega),aJ hk hl]) (fun o=>by simp [dX])]
 rfl
theorem iS (p:GProgram) (h:GProgram.le 1048576 p):bY p=some p∧kW p=some p:=by
 obtain ⟨⟨hn,hN⟩,hF,hFl⟩:=h
 constructor
 ·unfold bY
  rw [aG3 _ hn hN]
  simp only [Option.bind_some]
  obtain ⟨r,h1,h2⟩:=dQ (f:=cG p) (fun s:Int × GProgram=>∃ k:Nat,s.1=k∧k ≤ p.Fns.length∧s.2=⟨p.Nodes,p.Fns.take k⟩) (fun s=>p.Fns.length - s.1.toNat) (fun r=>r=p) (by
   rintro ⟨i,v⟩ ⟨k,rfl,hk,rfl⟩
   try simp only at hk
   by_cases hlt:k < p.Fns.length
   ·left
    have hpar:=(hFl _ (List.getElem_mem hlt)).2.1
    refine ⟨(((k + 1:Nat):Int),⟨p.Nodes,p.Fns.take (k + 1)⟩),?_,⟨k + 1,rfl,by omega,rfl⟩,by simp only [Int.toNat_natCast];omega⟩
    simp only [cG,aB hlt,if_true,aD hlt,Option.bind_some,aLz _ hpar,aHg (show (p.Fns.take k).length ≤ 1048576 by rw [List.length_take];omega) (show 64 ≤ 64 by omega),aJ hlt hF]
    rw [List.take_add_one,List.getElem?_eq_getElem hlt];rfl
   right
   have:k=p.Fns.length:=by omega
   subst this
   refine ⟨⟨p.Nodes,p.Fns.take p.Fns.length⟩,by simp [cG],?_⟩
   rw [List.take_length]) (0,⟨p.Nodes,[]⟩) ⟨0,rfl,by omega,by simp⟩
  rw [h1,h2];rfl
 unfold kW
 rw [aEm _ hn hN]
 simp only [Option.bind_some]
 obtain ⟨r,h1,h2⟩:=dQ (f:=eT p) (fun s:Int × GProgram=>∃ k:Nat,s.1=k∧k ≤ p.Fns.length∧s.2=⟨p.Nodes,p.Fns.take k⟩) (fun s=>p.Fns.length - s.1.toNat) (fun r=>r=p) (by
  rintro ⟨i,v⟩ ⟨k,rfl,hk,rfl⟩
  try simp only at hk
  by_cases hlt:k < p.Fns.length
  ·left
   have hpar:=(hFl _ (List.getElem_mem hlt)).2.1
   refine ⟨(((k + 1:Nat):Int),⟨p.Nodes,p.Fns.take (k + 1)⟩),?_,⟨k + 1,rfl,by omega,rfl⟩,by simp only [Int.toNat_natCast];omega⟩
   simp only [eT,aB hlt,if_true,aD hlt,Option.bind_some,yF hpar (show 24 ≤ 64 by omega),aHg (show (p.Fns.take k).length ≤ 1048576 by rw [List.length_take];omega) (show 64 ≤ 64 by omega),aJ hlt hF]
   rw [List.take_add_one,List.getElem?_eq_getElem hlt];rfl
  right
  have:k=p.Fns.length:=by omega
  subst this
  refine ⟨⟨p.Nodes,p.Fns.take p.Fns.length⟩,by simp [eT],?_⟩
  rw [List.take_length]) (0,⟨p.Nodes,[]⟩) ⟨0,rfl,by omega,by simp⟩
 rw [h1,h2];rfl
end Go.OM
namespace Go.OM
open Classical in
noncomputable def aC1 (n:Nat) (P:Nat→Prop):List Int:=((List.range n).filter fun j=>decide (P j)).map fun k:Nat=>(k:Int)
theorem mem_setL {n:Nat} {P:Nat→Prop} {x:Int}:x ∈ aC1 n P ↔ 0 ≤ x∧x < n∧P x.toNat:=by
 unfold aC1
 rw [List.mem_map]
 constructor
 ·rintro ⟨j,hj,rfl⟩
  obtain ⟨h1,h2⟩:=List.mem_filter.1 hj
  have:=List.mem_range.1 h1
  exact ⟨by omega,by omega,by simpa using h2⟩
 rintro ⟨h1,h2,h3⟩
 refine ⟨x.toNat,List.mem_filter.2 ⟨List.mem_range.2 (by omega),by simpa using h3⟩,by omega⟩
theorem aDb (n:Nat) (P:Nat→Prop):(aC1 n P).Pairwise (· < ·):=by
 unfold aC1
 refine List.Pairwise.map _ (fun a b h=>?_) (List.Pairwise.filter _ List.pairwise_lt_range)
 omega
theorem aN0 (n:Nat) (P:Nat→Prop):(aC1 n P).length ≤ n:=by
 unfold aC1
 rw [List.length_map]
 have:=List.length_filter_le (fun j=>@decide (P j) (Classical.propDecidable _)) (List.range n)
 rw [List.length_range] at this
 exact this
theorem sA {l:List Int} (h:l.Pairwise (· < ·)):l.Nodup:=by
 rw [List.nodup_iff_pairwise_ne]
 exact h.imp fun h=>by omega
theorem aF9 {a b:List Int} (ha:a.Pairwise (· < ·)) (hb:b.Pairwise (· < ·)) (h:∀ x,x ∈ a ↔ x ∈ b):a=b:=by
 refine List.Perm.eq_of_pairwise (le:=fun x y:Int=>x < y) (fun x y _ _ h1 h2=>by omega) ha hb ?_
 exact (List.perm_ext_iff_of_nodup (sA ha) (sA hb)).2 h
theorem aC0 {n:Nat} {P Q:Nat→Prop} (h:∀ j,j < n→(P j ↔ Q j)):aC1 n P=aC1 n Q:=by
 refine aF9 (aDb _ _) (aDb _ _) fun x=>?_
 rw [mem_setL,mem_setL]
 constructor
 ·rintro ⟨h1,h2,h3⟩;exact ⟨h1,h2,(h _ (by omega)).1 h3⟩
 rintro ⟨h1,h2,h3⟩;exact ⟨h1,h2,(h _ (by omega)).2 h3⟩
theorem aKo {n:Nat} {P:Nat→Prop} {l:List Int} (hl:l.Pairwise (· < ·)) (h:∀ x,x ∈ l ↔ 0 ≤ x∧x < n∧P x.toNat):l=aC1 n P:=aF9 hl (aDb _ _) fun x=>by rw [h,mem_setL]
theorem aEo {n:Nat} {P:Nat→Prop} {l:List Int} (hl:l.Nodup) (h:∀ x,x ∈ l ↔ 0 ≤ x∧x < n∧P x.toNat):(l.mergeSort fun x y=>decide (x ≤ y))=aC1 n P:=by
 have hp:=List.mergeSort_perm l (fun x y=>decide (x ≤ y))
 have hs:=List.pairwise_mergeSort (le:=fun x y:Int=>decide (x ≤ y)) (fun a b c h1 h2=>by simp only [decide_eq_true_eq] at *;omega) (fun a b=>by simp only [Bool.or_eq_true,decide_eq_true_eq];omega) l
 have hn:(l.mergeSort fun x y=>decide (x ≤ y)).Nodup:=hp.nodup_iff.2 hl
 refine aKo ?_ fun x=>by rw [← h];exact hp.mem_iff
 rw [List.nodup_iff_pairwise_ne] at hn
 exact (hs.and hn).imp fun ⟨h1,h2⟩=>by simp only [decide_eq_true_eq] at h1;omega
theorem jP {n:Nat} {l:List Int} (hl:l.Nodup) (hb:∀ x ∈ l,0 ≤ x∧x < n):l.length ≤ n:=by
 have:=hl.length_le_of_subset (l₂:=(List.range n).map fun k:Nat=>(k:Int)) fun x hx=>by
  have:=hb x hx
  exact List.mem_map.2 ⟨x.toNat,List.mem_range.2 (by omega),by omega⟩
 simpa using this
theorem aEn {l:List Int} (h:l.length ≤ 1048576):sort_Ints l=some (l.mergeSort fun x y=>decide (x ≤ y)):=by
 unfold sort_Ints;rw [if_pos (by omega)]
theorem wP {s:List Int} (h:s.Nodup) (x:Int):(yG s x).Nodup:=by
 unfold yG
 split
 ·exact h
 rename_i hc
 rw [List.nodup_append]
 refine ⟨h,by simp,fun a ha b hb=>?_⟩
 simp only [List.mem_singleton] at hb
 subst hb
 rintro rfl
 exact hc (by simpa using ha)
theorem mC:∀ (l:List Int) {s:List Int},s.Nodup→(l.foldl yG s).Nodup
 | [],s,h=>h
 | x :: l,s,h=>mC l (wP h x)
theorem aO3 (s:List Int) (x:Int):∃ t,yG s x=s ++ t:=by
 unfold yG
 split
 ·exact ⟨[],by simp⟩
 exact ⟨[x],rfl⟩
theorem tO:∀ (l:List Int) (s:List Int),∃ t,l.foldl yG s=s ++ t
 | [],s=>⟨[],by simp⟩
 | x :: l,s=>by
  obtain ⟨t,ht⟩:=aO3 s x
  obtain ⟨t',ht'⟩:=tO l (yG s x)
  exact ⟨t ++ t',by rw [List.foldl_cons,ht',ht,List.append_assoc]⟩
theorem aH3 {n:Nat} {l s:List Int} (hs:∀ x ∈ s,0 ≤ x∧x < (n:Int)) (hl:∀ x ∈ l,0 ≤ x∧x < (n:Int)):∀ x ∈ l.foldl yG s,0 ≤ x∧x < (n:Int):=fun x hx=>by
 rcases (fZ x l s).1 hx with h | h
 ·exact hs x h
 exact hl x h
theorem aIt {ρ:Type} (n:Nat) (l:List Int) (hl:∀ x ∈ l,0 ≤ x∧x < (n:Int)) (f:List Int × Int→Option ((List Int × Int) ⊕ ρ)) (fin:List Int→ρ)
  (hf:∀ (o:List Int) (k:Nat) (hk:k < l.length),o.length ≤ n→f (o,k)=some (.inl (yG o l[k],((k + 1:Nat):Int))))
  (he:∀ o,f (o,l.length)=some (.inr (fin o))) (o:List Int) (ho:o.Nodup) (hb:∀ x ∈ o,0 ≤ x∧x < (n:Int)):aG f (o,0)=some (fin (l.foldl yG o)):=by
 have:=aT l (fun (s:List Int) k=>(s,(k:Int))) (fun k s=>s.Nodup∧∀ x ∈ s,0 ≤ x∧x < (n:Int)) (fun s e=>.inl (yG s e)) fin f (fun s k hk hI=>by
  left
  refine ⟨_,rfl,hf s k hk (jP hI.1 hI.2),wP hI.1 _,fun x hx=>?_⟩
  rcases mem_addL.1 hx with h | h
  ·exact hI.2 x h
  subst h;exact hl _ (List.getElem_mem hk)) (fun s _=>he s) o ⟨ho,hb⟩
 rw [bB] at this
 exact this
theorem aO1 {ρ:Type} (n:Nat) (root:Nat) (hroot:root < n) (next:Nat→List Int) (hnx:∀ i,Reach next root i→∀ m ∈ next i,0 ≤ m∧m < (n:Int)) (f:List Int × Int→Option ((List Int × Int) ⊕ ρ)) (fin:List Int→ρ)
  (hf:∀ (o:List Int) (k:Nat) (hk:k < o.length),o.Nodup→(∀ x ∈ o,0 ≤ x∧x < (n:Int))→Reach next root o[k].toNat→f (o,k)=some (.inl ((next o[k].toNat).foldl yG o,((k + 1:Nat):Int))))
  (he:∀ o:List Int,o.length ≤ n→f (o,o.length)=some (.inr (fin o))):∃ o:List Int,aG f ([(root:Int)],0)=some (fin o)∧o.Nodup∧∀ x,x ∈ o ↔ 0 ≤ x∧x < (n:Int)∧Reach next root x.toNat:=by
 obtain ⟨r,h1,o,h2,h3⟩:=dQ (f:=f) (fun s:List Int × Int=>∃ i:Nat,s.2=i∧i ≤ s.1.length∧s.1.Nodup∧(root:Int) ∈ s.1∧(∀ x ∈ s.1,0 ≤ x∧x < (n:Int)∧Reach next root x.toNat)∧∀ (j:Nat) (hj:j < s.1.length),j < i→∀ m ∈ next s.1[j].toNat,m ∈ s.1) (fun s=>n - s.2.toNat) (fun r=>∃ o,r=fin o∧o.Nodup∧∀ x,x ∈ o ↔ 0 ≤ x∧x < (n:Int)∧Reach next root x.toNat) (by
  rintro ⟨o,i⟩ ⟨i,rfl,hi,hn,hr,hb,hc⟩
  simp only at hi hn hr hb hc
  have hb2:∀ x ∈ o,0 ≤ x∧x < (n:Int):=fun x hx=>⟨(hb x hx).1,(hb x hx).2.1⟩
  have hlen:=jP hn hb2
  by_cases hlt:i < o.length
  ·left
   have hbi:=hb _ (List.getElem_mem hlt)
   have hnb:=hnx _ hbi.2.2
   refine ⟨_,hf o i hlt hn hb2 hbi.2.2,⟨i + 1,rfl,?_,mC _ hn,?_,?_,?_⟩,by simp only [Int.toNat_natCast];omega⟩
   ·obtain ⟨t,ht⟩:=tO (next o[i].toNat) o
    simp only [ht,List.length_append];omega
   ·exact (fZ _ _ _).2 (.inl hr)
   ·intro x hx
    rcases (fZ _ _ _).1 hx with h | h
    ·exact hb x h
    exact ⟨(hnb x h).1,(hnb x h).2,.step hbi.2.2 h⟩
   intro j hj hji m hm
   obtain ⟨t,ht⟩:=tO (next o[i].toNat) o
   simp only at hj hm ⊢
   have hjo:j < o.length:=by omega
   have hg:((next o[i].toNat).foldl yG o)[j]=o[j]:=by
    simp only [ht]
    exact List.getElem_append_left hjo
   rw [hg] at hm
   rw [fZ]
   by_cases e:j=i
   ·subst e;exact .inr hm
   exact .inl (hc j hjo (by omega) m hm)
  ·right
   have:i=o.length:=by omega
   subst this
   refine ⟨fin o,he o hlen,o,rfl,hn,fun x=>⟨hb x,fun ⟨h1,h2,h3⟩=>?_⟩⟩
   have key:∀ k,Reach next root k→(k:Int) ∈ o:=by
    intro k hk
    induction hk with
    | base=>exact hr
    | step hk' hm ih =>
     obtain ⟨j,hj,he⟩:=List.mem_iff_getElem.1 ih
     rename_i a m
     have hm2:m ∈ next o[j].toNat:=by rw [he,Int.toNat_natCast];exact hm
     have:=hc j hj hj m hm2
     have hmb:=hb m this
     rw [show ((m.toNat:Nat):Int)=m by omega]
     exact this
   have:=key _ h3
   rwa [show ((x.toNat:Nat):Int)=x by omega] at this) ([(root:Int)],0) ⟨0,rfl,by simp,by simp,by simp,fun x hx=>by
  simp only [List.mem_singleton] at hx
  subst hx
  exact ⟨by omega,by omega,by rw [Int.toNat_natCast];exact .base⟩,fun j hj h=>by omega⟩
 exact ⟨o,by rw [h1,h2],h3⟩
theorem aKp {ρ:Type} (n:Nat) (hn:n ≤ 1048576) (p:Nat→Bool) (f:List Int × Int→Option ((List Int × Int) ⊕ ρ)) (fin:List Int→ρ)
  (hf:∀ (o:List Int) (k:Nat),o.length ≤ 1048576→k < n→f (o,k)=some (.inl ((if p k=true then o ++ [(k:Int)] else o),((k + 1:Nat):Int))))
  (he:∀ o:List Int,f (o,n)=some (.inr (fin o))):aG f ([],0)=some (fin (aC1 n fun k=>p k=true)):=by
 obtain ⟨r,h1,h2⟩:=dQ (f:=f) (fun s:List Int × Int=>∃ k:Nat,s.2=k∧k ≤ n∧s.1=((List.range k).filter p).map fun k:Nat=>(k:Int)) (fun s=>n - s.2.toNat) (fun r=>r=fin (((List.range n).filter p).map fun k:Nat=>(k:Int))) (by
  rintro ⟨o,i⟩ ⟨k,rfl,hk,ho⟩
  simp only at ho hk
  by_cases hlt:k < n
  ·left
   have hol:o.length ≤ 1048576:=by
    rw [ho,List.length_map]
    have:=List.length_filter_le p (List.range k)
    rw [List.length_range] at this
    omega
   refine ⟨_,hf o k hol hlt,⟨k + 1,rfl,by omega,?_⟩,by simp only [Int.toNat_natCast];omega⟩
   simp only
   rw [List.range_succ,List.filter_append,List.map_append,← ho]
   cases hp:p k<;>simp [hp]
  right
  have:k=n:=by omega
  subst this
  exact ⟨_,he o,by rw [ho]⟩) ([],0) ⟨0,rfl,by omega,rfl⟩
 rw [h1,h2]
 have:((List.range n).filter p).map (fun k:Nat=>(k:Int))=aC1 n fun k=>p k=true:=by
  unfold aC1
  congr 1
  refine List.filter_congr fun x _=>?_
  simp
 rw [this]
def pM (nodes:List GNode) (i:Nat):List Int:=match nodes[i]? with
 | some x=>x.Kids
 | none=>[]
theorem uO {nodes:List GNode} {i:Nat} (h:i < nodes.length):pM nodes i=nodes[i].Kids:=by unfold pM;rw [List.getElem?_eq_getElem h]
theorem aA7 {nodes:List GNode} {i:Nat} (h:nI nodes i=true):(pM nodes i).length ≤ 12∧∀ m ∈ pM nodes i,0 ≤ m∧m < i:=by
 have hi:i < nodes.length:=(mO h).1
 have hg:nodes[i]? = some nodes[i]:=List.getElem?_eq_getElem hi
 rw [uO hi]
 exact ⟨dC h hg,eB h hg⟩
theorem aCs {nodes:List GNode} {k:Nat} (h:okU nodes (k + 1)=true) {j:Nat} (r:Reach (pM nodes) k j):j ≤ k:=by
 induction r with
 | base=>exact Nat.le_refl _
 | step _ hm ih =>
  have:=(aA7 (gP h (by omega)).1).2 _ hm
  omega
noncomputable def dA (nodes:List GNode) (k:Int):List Int:=if oD nodes k=0 then [] else aC1 nodes.length (Reach (pM nodes) k.toNat)
theorem kG {nodes:List GNode} {k x:Int} (h:x ∈ dA nodes k):0 ≤ x∧x < nodes.length:=by
 unfold dA at h
 split at h
 ·cases h
 have:=mem_setL.1 h;exact ⟨this.1,this.2.1⟩
theorem yM (nodes:List GNode) (k:Int):(dA nodes k).Pairwise (· < ·):=by
 unfold dA
 split
 ·simp
 exact aDb _ _
theorem aDu (nodes:List GNode) (hn:nodes.length ≤ 1048576) (k:Nat) (hk:k < nodes.length) (hok:okU nodes (k + 1)=true):oV nodes k=some (aC1 nodes.length (Reach (pM nodes) k)):=by
 unfold oV
 have hnx:∀ i,Reach (pM nodes) k i→(pM nodes i).length ≤ 12∧∀ m ∈ pM nodes i,0 ≤ m∧m < (i:Int):=fun i hr=>aA7 (gP hok (by have:=aCs hok hr;omega)).1
 obtain ⟨o,g1,g2,g3⟩:=aO1 nodes.length k hk (pM nodes) (fun i hr m hm=>by
  have:=(hnx i hr).2 m hm
  have:=aCs hok hr
  omega) (iC nodes) (fun o=>o) (fun o i hi hnd hb hr=>by
   have hbi:=hb _ (List.getElem_mem hi)
   have hlt:o[i].toNat < nodes.length:=by omega
   have hge:aM nodes o[i]=some nodes[o[i].toNat]:=cK hbi.1 hbi.2
   have hol:=jP hnd hb
   obtain ⟨hkl,hkb⟩:=hnx _ hr
   have hle:=aCs hok hr
   have hkn:=uO hlt
   simp only [iC,aB hi,if_true,aD hi,Option.bind_some,hge]
   rw [hkn] at hkl hkb ⊢
   generalize nodes[o[i].toNat]=x at *
   rw [aIt nodes.length x.Kids (fun m hm=>by have:=hkb m hm;omega) (iA x) (fun o=>o) (fun o k hk ho=>by
    have happ:mH 8 o [x.Kids[k]]=some (o ++ [x.Kids[k]]):=aPs (by omega) (by omega)
    simp only [iA,aB hk,if_true,aD hk,Option.bind_some,aAn o _ (by omega),aJ hk (show x.Kids.length ≤ 1048576 by omega),happ]
    unfold yG
    cases o.contains x.Kids[k]<;>rfl) (fun o=>by simp [iA]) o hnd hb]
   simp only [Option.bind_some,aJ hi (show o.length ≤ 1048576 by omega)]) (fun o ho=>by simp [iC])
 rw [g1]
 simp only [Option.bind_some]
 have hol:o.length ≤ 1048576:=by
  have:=jP (n:=nodes.length) g2 fun x hx=>⟨((g3 x).1 hx).1,((g3 x).1 hx).2.1⟩
  omega
 rw [aEn hol]
 simp only [Option.bind_some]
 rw [aEo g2 g3]
theorem uV (p:GProgram) (hn:p.Nodes.length ≤ 1048576) (k:Int):mF p k=some (dA p.Nodes k):=by
 unfold mF dA
 rw [kR _ hn]
 simp only [Option.bind_some]
 by_cases hz:oD p.Nodes k=0
 ·rw [if_pos (by simpa using hz),if_pos hz]
 rw [if_neg (by simpa using hz),if_neg hz]
 obtain ⟨h0,h1,h2⟩:=aCm hz
 have:=aDu p.Nodes hn k.toNat (by omega) h2
 rw [show ((k.toNat:Nat):Int)=k by omega] at this
 rw [this];rfl
structure MarkR (nodes:List GNode) (k:Nat) (s s':List Bool):Prop where
 len:s'.length=s.length
 mono:∀ j:Nat,s[j]? = some true→s'[j]? = some true
 self:s'[k]? = some true
 sound:∀ j:Nat,s'[j]? = some true→s[j]? = some true ∨ Reach (pM nodes) k j
 closed:∀ j:Nat,s'[j]? = some true→s[j]? = some true ∨ ∀ m ∈ pM nodes j,s'[m.toNat]? = some true
theorem aL7 {next:Nat→List Int} {k:Nat} {m:Int} (hm:m ∈ next k) {j:Nat} (r:Reach next m.toNat j):Reach next k j:=by
 induction r with
 | base=>exact .step .base hm
 | step _ hm' ih=>exact .step ih hm'
theorem aF5 (nodes:List GNode) (hn:nodes.length ≤ 1048576):∀ (f k:Nat) (s:List Bool),okU nodes (k + 1)=true→nL nodes k ≤ f→s.length=nodes.length→∃ s',cT f nodes k s=some s'∧MarkR nodes k s s'
 | 0,k,s,hok,hd,hs=>by have:=fL nodes k;omega
 | f + 1,k,s,hok,hd,hs=>by
  obtain ⟨hnb,_⟩:=gP hok (Nat.lt_succ_self k)
  have hk:k < nodes.length:=(mO hnb).1
  have hx:nodes[k]? = some nodes[k]:=List.getElem?_eq_getElem hk
  have hge:aM nodes (k:Int)=some nodes[k]:=aD hk
  obtain ⟨hkl,hkb⟩:=aA7 hnb
  have hkn:=uO hk
  have hks:k < s.length:=by omega
  have hkid:=fun kid hm=>sF (kid:=kid) hnb hx hm
  rw [hkn] at hkl hkb
  generalize hxe:nodes[k]=x at *
  show ∃ s',iK (cT f) nodes k s=some s'∧MarkR nodes k s s'
  unfold iK
  rw [aD hks]
  simp only [Option.bind_some]
  by_cases hsk:s[k]=true
  ·rw [if_pos hsk]
   have hsk':s[k]? = some true:=by rw [List.getElem?_eq_getElem hks,hsk]
   exact ⟨s,rfl,rfl,fun _ h=>h,hsk',fun _ h=>.inl h,fun _ h=>.inl h⟩
  rw [if_neg hsk]
  simp only [bV,Int.toNat_natCast]
  have hs0:(s.set k true).length=nodes.length:=by rw [List.length_set];exact hs
  have hs0k:(s.set k true)[k]? = some true:=by rw [List.getElem?_set,if_pos rfl,if_pos hks]
  have hs0j:∀ j:Nat,(s.set k true)[j]? = some true→s[j]? = some true ∨ j=k:=by
   intro j h
   rw [List.getElem?_set] at h
   split at h
   ·rename_i e;exact .inr e.symm
   exact .inl h
  have hs0m:∀ j:Nat,s[j]? = some true→(s.set k true)[j]? = some true:=by
   intro j h
   rw [List.getElem?_set]
   by_cases e:k=j
   ·subst e;rw [if_pos rfl,if_pos hks]
   rw [if_neg e];exact h
  obtain ⟨r,g1,g2⟩:=dQ (f:=eS (cT f) nodes k) (fun t:List Bool × Int=>∃ i:Nat,t.2=i∧i ≤ x.Kids.length∧t.1.length=nodes.length∧(∀ j:Nat,(s.set k true)[j]? = some true→t.1[j]? = some true)∧(∀ j:Nat,t.1[j]? = some true→(s.set k true)[j]? = some true ∨ Reach (pM nodes) k j) ∧
    (∀ j:Nat,t.1[j]? = some true→(s.set k true)[j]? = some true ∨ ∀ m ∈ pM nodes j,t.1[m.toNat]? = some true)∧∀ (q:Nat) (hq:q < x.Kids.length),q < i→t.1[(x.Kids[q]).toNat]? = some true) (fun t=>x.Kids.length - t.2.toNat) (fun r=>MarkR nodes k s r) (by
   rintro ⟨t,i⟩ ⟨i,rfl,hi,hl,hm,hso,hcl,hd'⟩
   simp only at hi hl hm hso hcl hd'
   by_cases hlt:i < x.Kids.length
   ·left
    have hmem:=List.getElem_mem hlt
    have hb:=hkb _ hmem
    obtain ⟨s',r1,r2⟩:=aF5 nodes hn f (x.Kids[i]).toNat t (rY (by omega) hok) (by have:=hkid _ hmem;omega) hl
    rw [show (((x.Kids[i]).toNat:Nat):Int)=x.Kids[i] by omega] at r1
    have hmk:x.Kids[i] ∈ pM nodes k:=by rw [hkn];exact hmem
    refine ⟨(s',((i + 1:Nat):Int)),?_,⟨i + 1,rfl,by omega,r2.len.trans hl,fun j h=>r2.mono j (hm j h),fun j h=>?_,fun j h=>?_,fun q hq hqi=>?_⟩,by simp only [Int.toNat_natCast];omega⟩
    ·simp only [eS,hge,Option.bind_some,aB hlt,if_true,aD hlt,r1,aJ hlt (show x.Kids.length ≤ 1048576 by omega)]
    ·rcases r2.sound j h with h | h
     ·exact hso j h
     exact .inr (aL7 hmk h)
    ·rcases r2.closed j h with h | h
     ·rcases hcl j h with h | h
      ·exact .inl h
      exact .inr fun m hm=>r2.mono _ (h m hm)
     exact .inr h
    by_cases e:q=i
    ·subst e;exact r2.self
    exact r2.mono _ (hd' q hq (by omega))
   right
   have:i=x.Kids.length:=by omega
   subst this
   refine ⟨t,by simp [eS,hge],hl.trans hs.symm,fun j h=>hm j (hs0m j h),hm k hs0k,fun j h=>?_,fun j h=>?_⟩
   ·rcases hso j h with h | h
    ·rcases hs0j j h with h | h
     ·exact .inl h
     subst h;exact .inr .base
    exact .inr h
   rcases hcl j h with h | h
   ·rcases hs0j j h with h | h
    ·exact .inl h
    subst h
    right
    intro m hm'
    rw [hkn] at hm'
    obtain ⟨q,hq,rfl⟩:=List.mem_iff_getElem.1 hm'
    exact hd' q hq hq
   exact .inr h) (s.set k true,0) ⟨0,rfl,by omega,hs0,fun _ h=>h,fun _ h=>.inl h,fun _ h=>.inl h,fun q _ h=>by omega⟩
  exact ⟨r,g1,g2⟩
theorem tY (p:GProgram) (hn:p.Nodes.length ≤ 1048576) (k:Int):kJ p k=some (dA p.Nodes k):=by
 unfold kJ dA
 rw [nV _ hn]
 simp only [Option.bind_some]
 by_cases hz:oD p.Nodes k=0
 ·rw [if_pos (by simpa using hz),if_pos hz]
 rw [if_neg (by simpa using hz),if_neg hz]
 obtain ⟨h0,h1,h2⟩:=aCm hz
 rw [tK _ _ _ (by omega) (by omega)]
 simp only [Option.bind_some]
 obtain ⟨s',r1,r2⟩:=aF5 p.Nodes hn eK k.toNat (List.replicate p.Nodes.length false) h2 (by
  have:=(gP h2 (Nat.lt_succ_self _)).2
  rw [aC8];omega) (by simp)
 rw [show ((k.toNat:Nat):Int)=k by omega] at r1
 have r1':qT p.Nodes k (List.replicate p.Nodes.length false)=some s':=r1
 rw [r1']
 simp only [Option.bind_some]
 have hl:s'.length=p.Nodes.length:=by rw [r2.len];simp
 have hrep:∀ j:Nat,¬ (List.replicate p.Nodes.length false)[j]? = some true:=by
  intro j h
  rw [List.getElem?_replicate] at h
  split at h<;>simp at h
 have hiff:∀ j,s'[j]? = some true ↔ Reach (pM p.Nodes) k.toNat j:=by
  intro j
  constructor
  ·intro h
   rcases r2.sound j h with h | h
   ·exact absurd h (hrep j)
   exact h
  intro h
  induction h with
  | base=>exact r2.self
  | step _ hm ih =>
   rcases r2.closed _ ih with h | h
   ·exact absurd h (hrep _)
   exact h _ hm
 rw [aKp p.Nodes.length hn (fun j=>s'.getD j false) (gY s') (fun o=>o) (fun o j ho hj=>by
  have hjs:j < s'.length:=by omega
  have happ:mH 8 o [(j:Int)]=some (o ++ [(j:Int)]):=aPs ho (by omega)
  simp only [gY,hl,aB hj,if_true,aD hjs,Option.bind_some,happ,aJ hj hn]
  rw [List.getD_eq_getElem?_getD,List.getElem?_eq_getElem hjs]
  simp only [Option.getD_some]
  cases s'[j]<;>rfl) (fun o=>by simp [gY,hl])]
 simp only [Option.bind_some]
 congr 1
 refine aC0 fun j hj=>?_
 rw [← hiff]
 have hjs:j < s'.length:=by omega
 rw [List.getD_eq_getElem?_getD,List.getElem?_eq_getElem hjs]
 simp
end Go.OM
namespace Go.OM
theorem aLw {L:List Int} (h:L.Pairwise (· < ·)) {i:Nat} (hi:i < L.length) {y:Int} (hy:y ∈ L.drop i):L[i] ≤ y:=by
 obtain ⟨j,hj,rfl⟩:=List.mem_iff_getElem.1 hy
 rw [List.length_drop] at hj
 rw [List.getElem_drop]
 rcases Nat.eq_zero_or_pos j with e | e
 ·subst e;simp
 have:=(List.pairwise_iff_getElem.1 h) i (i + j) hi (by omega) (by omega)
 omega
theorem aAw {L:List Int} (h:L.Pairwise (· < ·)) {i:Nat} (hi:i < L.length) {y:Int} (hy:y ∈ L.drop (i + 1)):L[i] < y:=by
 obtain ⟨j,hj,rfl⟩:=List.mem_iff_getElem.1 hy
 rw [List.length_drop] at hj
 rw [List.getElem_drop]
 exact (List.pairwise_iff_getElem.1 h) i (i + 1 + j) hi (by omega) (by omega)
theorem jJ {L:List Int} {i:Nat} (hi:i < L.length) {x:Int}:x ∈ L.take (i + 1) ↔ x ∈ L.take i ∨ x=L[i]:=by
 rw [List.take_add_one,List.getElem?_eq_getElem hi,List.mem_append]
 simp
theorem kA {L:List Int} {i:Nat} {x:Int} (h:x ∈ L.drop (i + 1)):x ∈ L.drop i:=by
 obtain ⟨j,hj,rfl⟩:=List.mem_iff_getElem.1 h
 rw [List.length_drop] at hj
 rw [List.getElem_drop]
 exact List.mem_iff_getElem.2 ⟨1 + j,by rw [List.length_drop];omega,by rw [List.getElem_drop];congr 1;omega⟩
theorem vB {L:List Int} {i:Nat} (hi:i < L.length):L[i] ∈ L.drop i:=by
 rw [List.drop_eq_getElem_cons hi];exact List.mem_cons_self
theorem aD5 {o:List Int} {a:Int} (h:o.Pairwise (· < ·)) (hb:∀ x ∈ o,x < a):(o ++ [a]).Pairwise (· < ·):=by
 rw [List.pairwise_append]
 exact ⟨h,by simp,fun x hx y hy=>by simp only [List.mem_singleton] at hy;subst hy;exact hb x hx⟩
theorem aJp (n:Nat) (hn:n ≤ 1048576) (A B:List Int) (hA:A.Pairwise (· < ·)) (hB:B.Pairwise (· < ·)) (hbA:∀ x ∈ A,0 ≤ x∧x < (n:Int)) (hbB:∀ x ∈ B,0 ≤ x∧x < (n:Int)) :
  aG (bD A B) ([],0,0)=some (aC1 n fun j=>(j:Int) ∈ A ∨ (j:Int) ∈ B):=by
 have lA:=jP (sA hA) hbA
 have lB:=jP (sA hB) hbB
 obtain ⟨r,h1,h2⟩:=dQ (f:=bD A B) (fun s:List Int × Int × Int=>∃ i k:Nat,s.2=((i:Int),(k:Int))∧i ≤ A.length∧k ≤ B.length∧s.1.Pairwise (· < ·)∧(∀ x,x ∈ s.1 ↔ x ∈ A.take i ∨ x ∈ B.take k)∧(∀ x ∈ s.1,∀ y ∈ A.drop i,x < y)∧∀ x ∈ s.1,∀ y ∈ B.drop k,x < y) (fun s=>(A.length - s.2.1.toNat) + (B.length - s.2.2.toNat)) (fun r=>r=aC1 n fun j=>(j:Int) ∈ A ∨ (j:Int) ∈ B) (by
  rintro ⟨o,p⟩ ⟨i,k,rfl,hi,hk,ho,hm,h3,h4⟩
  simp only at ho hm h3 h4
  have hob:∀ x ∈ o,0 ≤ x∧x < (n:Int):=fun x hx=>by
   rcases (hm x).1 hx with h | h
   ·exact hbA x (List.mem_of_mem_take h)
   exact hbB x (List.mem_of_mem_take h)
  have hol:=jP (sA ho) hob
  have happ:∀ a:Int,mH 8 o [a]=some (o ++ [a]):=fun a=>aPs (by omega) (by omega)
  have di:decide ((i:Int) < (A.length:Int))=decide (i < A.length):=decide_eq_decide.2 (by omega)
  have dk:decide ((k:Int) < (B.length:Int))=decide (k < B.length):=decide_eq_decide.2 (by omega)
  have dk2:decide ((k:Int) ≥ (B.length:Int))=decide (¬ k < B.length):=decide_eq_decide.2 (by omega)
  have wi:IntKind.wrap .i64 ((i:Int) + 1)=((i + 1:Nat):Int):=by rw [w64 (by omega) (by omega)];omega
  have wk:IntKind.wrap .i64 ((k:Int) + 1)=((k + 1:Nat):Int):=by rw [w64 (by omega) (by omega)];omega
  -- what the step takes
  have takeA:∀ (hia:i < A.length),(∀ hkb:k < B.length,A[i] < B[k])→∃ b,bD A B (o,(i:Int),(k:Int))=some (.inl b)∧(∃ i' k':Nat,b.2=((i':Int),(k':Int))∧i' ≤ A.length∧k' ≤ B.length∧b.1.Pairwise (· < ·)∧(∀ x,x ∈ b.1 ↔ x ∈ A.take i' ∨ x ∈ B.take k')∧(∀ x ∈ b.1,∀ y ∈ A.drop i',x < y)∧∀ x ∈ b.1,∀ y ∈ B.drop k',x < y)∧(A.length - b.2.1.toNat) + (B.length - b.2.2.toNat) < (A.length - i) + (B.length - k):=by
   intro hia hab
   refine ⟨(o ++ [A[i]],((i + 1:Nat):Int),(k:Int)),?_,⟨i + 1,k,rfl,by omega,hk,aD5 ho fun x hx=>h3 x hx _ (vB hia),fun x=>?_,fun x hx y hy=>?_,fun x hx y hy=>?_⟩,by simp only [Int.toNat_natCast];omega⟩
   ·by_cases hkb:k < B.length
    ·have:=hab hkb
     simp [bD,di,dk,dk2,hia,hkb,aD hia,aD hkb,happ,wi,this,show ¬ B.length ≤ k by omega]
    simp [bD,di,dk,dk2,hia,hkb,aD hia,happ,wi,show B.length ≤ k by omega]
   ·simp only [List.mem_append,List.mem_singleton,hm,jJ hia]
    constructor
    ·rintro ((h | h) | h)
     ·exact .inl (.inl h)
     ·exact .inr h
     exact .inl (.inr h)
    rintro ((h | h) | h)
    ·exact .inl (.inl h)
    ·exact .inr h
    exact .inl (.inr h)
   ·rcases List.mem_append.1 hx with h | h
    ·exact h3 x h y (kA hy)
    simp only [List.mem_singleton] at h;subst h;exact aAw hA hia hy
   rcases List.mem_append.1 hx with h | h
   ·exact h4 x h y hy
   simp only [List.mem_singleton] at h;subst h
   have hkb:k < B.length:=by
    rcases Nat.lt_or_ge k B.length with h | h
    ·exact h
    rw [List.drop_eq_nil_of_le h] at hy;cases hy
   have:=hab hkb
   have:=aLw hB hkb hy
   omega
  by_cases hend:i < A.length ∨ k < B.length
  ·left
   by_cases hkb:k < B.length
   ·by_cases hia:i < A.length
    ·by_cases hlt:A[i] < B[k]
     ·exact takeA hia fun _=>hlt
     by_cases heq:A[i]=B[k]
     ·refine ⟨(o ++ [B[k]],((i + 1:Nat):Int),((k + 1:Nat):Int)),?_,⟨i + 1,k + 1,rfl,by omega,by omega,aD5 ho fun x hx=>h4 x hx _ (vB hkb),fun x=>?_,fun x hx y hy=>?_,fun x hx y hy=>?_⟩,by simp only [Int.toNat_natCast];omega⟩
      ·simp [bD,di,dk,dk2,hia,hkb,aD hia,aD hkb,happ,wi,wk,heq,show ¬ B.length ≤ k by omega]
      ·simp only [List.mem_append,List.mem_singleton,hm,jJ hia,jJ hkb,heq]
       constructor
       ·rintro ((h | h) | h)
        ·exact .inl (.inl h)
        ·exact .inr (.inl h)
        exact .inr (.inr h)
       rintro ((h | h) | (h | h))
       ·exact .inl (.inl h)
       ·exact .inr h
       ·exact .inl (.inr h)
       exact .inr h
      ·rcases List.mem_append.1 hx with h | h
       ·exact h3 x h y (kA hy)
       simp only [List.mem_singleton] at h;subst h;rw [← heq];exact aAw hA hia hy
      rcases List.mem_append.1 hx with h | h
      ·exact h4 x h y (kA hy)
      simp only [List.mem_singleton] at h;subst h;exact aAw hB hkb hy
     refine ⟨(o ++ [B[k]],(i:Int),((k + 1:Nat):Int)),?_,⟨i,k + 1,rfl,hi,by omega,aD5 ho fun x hx=>h4 x hx _ (vB hkb),fun x=>?_,fun x hx y hy=>?_,fun x hx y hy=>?_⟩,by simp only [Int.toNat_natCast];omega⟩
     ·simp [bD,di,dk,dk2,hia,hkb,aD hia,aD hkb,happ,wi,wk,heq,hlt,show ¬ B.length ≤ k by omega]
     ·simp only [List.mem_append,List.mem_singleton,hm,jJ hkb,or_assoc]
     ·rcases List.mem_append.1 hx with h | h
      ·exact h3 x h y hy
      simp only [List.mem_singleton] at h;subst h
      have:=aLw hA hia hy
      omega
     rcases List.mem_append.1 hx with h | h
     ·exact h4 x h y (kA hy)
     simp only [List.mem_singleton] at h;subst h;exact aAw hB hkb hy
    refine ⟨(o ++ [B[k]],(i:Int),((k + 1:Nat):Int)),?_,⟨i,k + 1,rfl,hi,by omega,aD5 ho fun x hx=>h4 x hx _ (vB hkb),fun x=>?_,fun x hx y hy=>?_,fun x hx y hy=>?_⟩,by simp only [Int.toNat_natCast];omega⟩
    ·simp [bD,di,dk,dk2,hia,hkb,aD hkb,happ,wi,wk,show ¬ B.length ≤ k by omega]
    ·simp only [List.mem_append,List.mem_singleton,hm,jJ hkb,or_assoc]
    ·rw [List.drop_eq_nil_of_le (by omega)] at hy;cases hy
    rcases List.mem_append.1 hx with h | h
    ·exact h4 x h y (kA hy)
    simp only [List.mem_singleton] at h;subst h;exact aAw hB hkb hy
   exact takeA (by omega) fun h=>absurd h hkb
  right
  have hi':i=A.length:=by omega
  have hk':k=B.length:=by omega
  refine ⟨o,by simp [bD,hi',hk'],?_⟩
  refine aKo ho fun x=>?_
  rw [hm,hi',hk',List.take_length,List.take_length]
  constructor
  ·intro h
   have hb:0 ≤ x∧x < (n:Int):=h.elim (hbA x) (hbB x)
   refine ⟨hb.1,hb.2,?_⟩
   rwa [show ((x.toNat:Nat):Int)=x by omega]
  rintro ⟨a1,_,a3⟩
  rwa [show ((x.toNat:Nat):Int)=x by omega] at a3) ([],0,0) ⟨0,0,rfl,by omega,by omega,by simp,fun x=>by simp,fun x hx=>by simp at hx,fun x hx=>by simp at hx⟩
 rw [h1,h2]
def lC (p:GProgram) (fn:Int):List Int:=if inB fn 0 ((p.Fns.length:Int) - 1)=true then (match p.Fns[fn.toNat]? with | some f=>if f.Ret = -1 then [f.Body] else [f.Body,f.Ret] | none=>[]) else []
noncomputable def nN (p:GProgram) (fn:Int):List Int:=aC1 p.Nodes.length fun j=>∃ r ∈ lC p fn,(j:Int) ∈ dA p.Nodes r
theorem aJe {p:GProgram} {fn x:Int} (h:x ∈ nN p fn):0 ≤ x∧x < p.Nodes.length:=⟨(mem_setL.1 h).1,(mem_setL.1 h).2.1⟩
theorem aDy (p:GProgram) (hp:p.Fns.length ≤ 1048576) (fn:Int):oX p fn=some (lC p fn):=by
 unfold oX lC
 simp only [cF,Option.bind_some,jI hp]
 cases hi:inB fn 0 ((p.Fns.length:Int) - 1) with
 | false=>rfl
 | true =>
  have hi':=inB_iff.1 hi
  have hlt:fn.toNat < p.Fns.length:=by omega
  simp only [Bool.not_true,Bool.false_eq_true,if_false,if_true]
  rw [cK hi'.1 (by omega),List.getElem?_eq_getElem hlt]
  simp only [Option.bind_some]
  by_cases hr:p.Fns[fn.toNat].Ret = -1
  ·simp [hr]
  have happ:mH 8 [p.Fns[fn.toNat].Body] [p.Fns[fn.toNat].Ret]=some ([p.Fns[fn.toNat].Body] ++ [p.Fns[fn.toNat].Ret]):=aPs (by simp) (by omega)
  simp [hr,happ]
theorem aF4 (nodes:List GNode) (x:Int):∀ (rs s:List Int),x ∈ rs.foldl (fun o r=>(dA nodes r).foldl yG o) s ↔ x ∈ s ∨ ∃ r ∈ rs,x ∈ dA nodes r
 | [],s=>by simp
 | r :: rs,s=>by
  rw [List.foldl_cons,aF4 nodes x rs,fZ]
  simp only [List.mem_cons,exists_eq_or_imp,or_assoc]
theorem aJb (p:GProgram) (fn:Int):(lC p fn).length ≤ 2:=by
 unfold lC
 split
 ·split
  ·split<;>simp
  simp
 simp
theorem aAk (p:GProgram) (hn:p.Nodes.length ≤ 1048576) (hp:p.Fns.length ≤ 1048576) (fn:Int):lP p fn=some (nN p fn):=by
 unfold lP
 rw [aDy p hp]
 simp only [Option.bind_some]
 have hrl:=aJb p fn
 have:=aT (lC p fn) (fun (o:List Int) k=>(o,(k:Int))) (fun k o=>o.Nodup∧∀ x ∈ o,0 ≤ x∧x < (p.Nodes.length:Int)) (fun o r=>.inl ((dA p.Nodes r).foldl yG o)) id (dU p (lC p fn)) (fun o k hk hI=>by
  left
  refine ⟨_,rfl,?_,mC _ hI.1,aH3 hI.2 fun x hx=>kG hx⟩
  have hul:=jP (n:=p.Nodes.length) (sA (yM p.Nodes (lC p fn)[k])) fun x hx=>kG hx
  simp only [dU,aB hk,if_true,aD hk,Option.bind_some,uV p hn]
  generalize hu:dA p.Nodes (lC p fn)[k]=U at *
  rw [aIt p.Nodes.length U (fun m hm=>by rw [← hu] at hm;exact kG hm) (fC U) (fun o=>o) (fun o j hj ho=>by
   have happ:mH 8 o [U[j]]=some (o ++ [U[j]]):=aPs (by omega) (by omega)
   simp only [fC,aB hj,if_true,aD hj,Option.bind_some,aAn o _ (by omega),aJ hj (show U.length ≤ 1048576 by omega),happ]
   unfold yG
   cases o.contains U[j]<;>rfl) (fun o=>by simp [fC]) o hI.1 hI.2]
  simp only [Option.bind_some,aJ hk (show (lC p fn).length ≤ 1048576 by omega)]) (fun o _=>by simp [dU]) [] ⟨by simp,fun x hx=>by simp at hx⟩
 rw [bB] at this
 have h2:aG (dU p (lC p fn)) ([],0)=some ((lC p fn).foldl (fun o r=>(dA p.Nodes r).foldl yG o) []):=this
 rw [h2]
 simp only [Option.bind_some]
 generalize ho:(lC p fn).foldl (fun o r=>(dA p.Nodes r).foldl yG o) []=o
 have hnd:o.Nodup:=by
  rw [← ho]
  have key:∀ (rs s:List Int),s.Nodup→(rs.foldl (fun o r=>(dA p.Nodes r).foldl yG o) s).Nodup:=by
   intro rs
   induction rs with
   | nil=>intro s h;exact h
   | cons r rs ih=>intro s h;rw [List.foldl_cons];exact ih _ (mC _ h)
  exact key _ _ (by simp)
 have hmem:∀ x,x ∈ o ↔ 0 ≤ x∧x < (p.Nodes.length:Int)∧∃ r ∈ lC p fn,((x.toNat:Nat):Int) ∈ dA p.Nodes r:=by
  intro x
  rw [← ho,aF4]
  constructor
  ·rintro (h | ⟨r,h1,h2⟩)
   ·simp at h
   have:=kG h2
   exact ⟨this.1,this.2,r,h1,by rwa [show ((x.toNat:Nat):Int)=x by omega]⟩
  rintro ⟨h1,_,r,h3,h4⟩
  exact .inr ⟨r,h3,by rwa [show ((x.toNat:Nat):Int)=x by omega] at h4⟩
 have hol:o.length ≤ p.Nodes.length:=jP hnd fun x hx=>⟨((hmem x).1 hx).1,((hmem x).1 hx).2.1⟩
 rw [aEn (by omega)]
 simp only [Option.bind_some]
 rw [aEo (n:=p.Nodes.length) (P:=fun j=>∃ r ∈ lC p fn,(j:Int) ∈ dA p.Nodes r) hnd hmem]
 rfl
theorem aB2 (p:GProgram) (hn:p.Nodes.length ≤ 1048576) (hp:p.Fns.length ≤ 1048576) (fn:Int):mK p fn=some (nN p fn):=by
 unfold mK nN lC
 simp only [eU,Option.bind_some,jI hp]
 cases hi:inB fn 0 ((p.Fns.length:Int) - 1) with
 | false =>
  simp only [Bool.not_false,if_true,Bool.false_eq_true,if_false]
  congr 1
  have:∀ x,x ∉ aC1 p.Nodes.length fun j=>∃ r ∈ ([]:List Int),(j:Int) ∈ dA p.Nodes r:=by
   intro x hx
   obtain ⟨_,_,r,hr,_⟩:=mem_setL.1 hx
   cases hr
  exact (List.eq_nil_iff_forall_not_mem.2 this).symm
 | true =>
  have hi':=inB_iff.1 hi
  have hlt:fn.toNat < p.Fns.length:=by omega
  simp only [Bool.not_true,Bool.false_eq_true,if_false,if_true]
  rw [cK hi'.1 (by omega),List.getElem?_eq_getElem hlt]
  simp only [Option.bind_some,tY p hn]
  generalize p.Fns[fn.toNat]=f
  rw [aJp p.Nodes.length hn _ _ (yM _ _) (yM _ _) (fun x hx=>kG hx) (fun x hx=>kG hx)]
  simp only [Option.bind_some]
  congr 1
  refine aC0 fun j hj=>?_
  by_cases hr:f.Ret = -1
  ·have h0:dA p.Nodes f.Ret=[]:=by
    have hd:oD p.Nodes f.Ret=0:=by
     unfold oD
     rw [hr,if_neg (by omega)]
    unfold dA
    rw [if_pos hd]
   rw [if_pos hr,h0]
   simp
  rw [if_neg hr]
  simp
end Go.OM
namespace Go.OM
theorem rQ (p:GProgram) (nm:ByteArray):fK p nm = -1 ∨ (0 ≤ fK p nm∧fK p nm < p.Fns.length):=by
 unfold fK
 cases h:(List.range p.Fns.length).findSome? (aJz p nm) with
 | none=>exact .inl rfl
 | some r =>
  right
  obtain ⟨k,hk,hr⟩:=List.exists_of_findSome?_eq_some h
  have:=List.mem_range.1 hk
  unfold aJz at hr
  split at hr
  ·split at hr
   ·have:=Option.some.inj hr
    simp only [Option.getD_some]
    omega
   cases hr
  cases hr
def aIr (p:GProgram) (o:List Int) (e:Int):List Int:=match p.Nodes[e.toNat]? with
 | some x=>if x.Kind=12 then (if 0 ≤ fK p x.Name then yG o (fK p x.Name) else o) else o
 | none=>o
structure CInv (p:GProgram) (o:List Int):Prop where
 nd:o.Nodup
 bnd:∀ x ∈ o,0 ≤ x∧x < (p.Fns.length:Int)
theorem CInv.step {p:GProgram} {o:List Int} (h:CInv p o) (e:Int):CInv p (aIr p o e):=by
 unfold aIr
 split
 ·split
  ·split
   ·rename_i x _ _ hge
    refine ⟨wP h.nd _,fun y hy=>?_⟩
    rcases mem_addL.1 hy with hy | hy
    ·exact h.bnd y hy
    subst hy
    rcases rQ p x.Name with hb | hb
    ·omega
    exact hb
   exact h
  exact h
 exact h
end Go.OM
namespace Go.OM
theorem lE {p:GProgram} (h:sJ p=true):1 ≤ p.Nodes.length∧p.Nodes.length ≤ 300∧1 ≤ p.Fns.length∧p.Fns.length ≤ 8∧okU p.Nodes p.Nodes.length=true:=by
 unfold sJ at h
 simp only [Bool.and_eq_true,inB_iff] at h
 obtain ⟨h1,h2,h3,_⟩:=h
 exact ⟨by omega,by omega,by omega,by omega,h3⟩
end Go.OM
namespace Go.OM
def aLk (names:List ByteArray) (s:ByteArray):Bool:=names.any fun e=>sEq e s
theorem aAh (l:List ByteArray) (s:ByteArray) (hl:l.length ≤ 1048576):lO l s=some (aLk l s):=by
 unfold lO aLk
 rw [uJ l (fun e=>sEq e s) (fB l s) (fun k h=>by
  simp only [fB,aB h,if_true,aD h,Option.bind_some,aJ h hl]
  cases sEq l[k] s<;>rfl) (by simp [fB])]
 cases l.any fun e=>sEq e s<;>rfl
theorem sN (l:List ByteArray) (s:ByteArray) (hl:l.length ≤ 1048576):kH l s=some (aLk l s):=by
 unfold kH aLk
 rw [uJ l (fun e=>sEq e s) (fS l s) (fun k h=>by
  simp only [fS,aB h,if_true,aD h,Option.bind_some,aJ h hl]
  cases sEq l[k] s<;>rfl) (by simp [fS])]
 cases l.any fun e=>sEq e s<;>rfl
def qG (k:Int):Bool:=inB k 2 6 || (k == 14 || k == 15)
theorem aFo (k:Int):rH k=some (qG k):=by
 unfold rH qG
 simp only [cF,Option.bind_some]
 cases inB k 2 6 with
 | true=>rfl
 | false =>
  by_cases h:k=14
  ·subst h;rfl
  simp [h]
def aCn (p:GProgram) (fn:Int) (x:GNode):Bool:=inB (fK p x.Name) 0 (fn - 1) && (match p.Fns[(fK p x.Name).toNat]? with | some f=>(f.Params.length:Int) == (x.Kids.length:Int) | none=>false)
def aBt (p:GProgram) (fn:Int) (x:GNode) (names:List ByteArray):Bool:=(!(qG x.Kind) || aLk names x.Name) && (!(x.Kind == 12) || aCn p fn x)
def nX (p:GProgram) (blk:Bool) (kid:Int) (inner:List ByteArray):List ByteArray:=if blk=true then (match p.Nodes[kid.toNat]? with | some y=>if y.Kind=13 then inner ++ [y.Name] else inner | none=>inner) else inner
def lV (p:GProgram) (rc:Int→List ByteArray→Bool) (blk:Bool):List Int→List ByteArray→Bool
 | [],_=>true
 | kid :: l,inner=>rc kid inner && lV p rc blk l (nX p blk kid inner)
def eX (p:GProgram) (fn:Int):Nat→Int→List ByteArray→Bool
 | 0,_,_=>true
 | f + 1,k,names=>match p.Nodes[k.toNat]? with
  | none=>true
  | some x=>aBt p fn x names && lV p (eX p fn f) (x.Kind == 20) x.Kids names
theorem uK (p:GProgram) (blk:Bool) (kid:Int) (inner:List ByteArray):(nX p blk kid inner).length ≤ inner.length + 1:=by
 unfold nX
 split
 ·split
  ·split
   ·simp
   omega
  omega
 omega
theorem aCg (p:GProgram) (rc:Int→List ByteArray→Bool) (blk:Bool):∀ (l:List Int) (s:List ByteArray),
  aBv (fun s kid=>if rc kid s=true then (.inl (nX p blk kid s):List ByteArray ⊕ (Unit ⊕ Bool)) else .inr (.inr false)) (fun _=>.inl ()) l s=if lV p rc blk l s=true then .inl () else .inr false
 | [],s=>rfl
 | kid :: l,s=>by
  have ih:=aCg p rc blk l (nX p blk kid s)
  by_cases h:rc kid s=true
  ·simp only [aBv,lV,h,if_true,Bool.true_and];exact ih
  simp only [aBv,lV,Bool.eq_false_iff.2 h,Bool.false_eq_true,if_false,Bool.false_and]
theorem aM8 {l:List ByteArray} (h:l.length ≤ 100000) (x:ByteArray):mH 16 l [x]=some (l ++ [x]):=aHg (by omega) (by omega)
theorem nY (p:GProgram) (hF:p.Fns.length ≤ 1048576) (hu:okU p.Nodes p.Nodes.length=true) (fn:Nat) (hfn:fn < p.Fns.length) :
  ∀ (f D:Nat) (k:Int) (names:List ByteArray),0 ≤ k→k < p.Nodes.length→nL p.Nodes k.toNat ≤ D→D ≤ f→names.length + 12 * D ≤ 1000→eH f p fn k names=some (eX p fn D k names)
 | 0,D,k,names,h0,h1,h2,h3,h4=>by
  have:=fL p.Nodes k.toNat
  omega
 | f + 1,D,k,names,h0,h1,h2,h3,h4=>by
  have hp:=fL p.Nodes k.toNat
  cases D with
  | zero=>omega
  | succ D =>
  have hk:k.toNat < p.Nodes.length:=by omega
  have hx:p.Nodes[k.toNat]? = some p.Nodes[k.toNat]:=List.getElem?_eq_getElem hk
  have hnb:=(gP hu hk).1
  have hge:aM p.Nodes k=some p.Nodes[k.toNat]:=cK h0 (by omega)
  have hkl:=dC hnb hx
  have hkb:=eB hnb hx
  have hdk:∀ kid ∈ p.Nodes[k.toNat].Kids,nL p.Nodes kid.toNat ≤ D:=fun kid hm=>by
   have:=sF hnb hx hm
   omega
  show mY (eH f) p fn k names=_
  unfold mY
  simp only [eX,hx,hge,Option.bind_some,aFo,aAh names _ (show names.length ≤ 1048576 by omega)]
  generalize hgx:p.Nodes[k.toNat]=x at *
  have hw:IntKind.wrap .i64 ((fn:Int) - 1)=(fn:Int) - 1:=w64 (by omega) (by omega)
  have hkids:aG (gQ (eH f) p fn x) (names,0)=some (if lV p (eX p fn D) (x.Kind == 20) x.Kids names=true then .inl () else .inr false):=by
   rw [← aCg]
   refine aT x.Kids (fun (s:List ByteArray) k=>(s,(k:Int))) (fun j s=>s.length ≤ names.length + j) _ _ (gQ (eH f) p fn x) (fun s j hj hI=>?_) (fun s _=>by simp [gQ]) names (by simp)
   have hm:=List.getElem_mem hj
   have hb:=hkb _ hm
   have hrc:=nY p hF hu fn hfn f D x.Kids[j] s hb.1 (by omega) (hdk _ hm) (by omega) (by omega)
   simp only [gQ,aB hj,if_true,aD hj,Option.bind_some,hrc]
   cases hs:eX p fn D x.Kids[j] s with
   | false =>
    right
    exact ⟨.inr false,by simp,by simp⟩
   | true =>
    left
    have hlt:(x.Kids[j]).toNat < p.Nodes.length:=by omega
    have hgk:aM p.Nodes x.Kids[j]=some p.Nodes[(x.Kids[j]).toNat]:=cK hb.1 (by omega)
    have hgo:p.Nodes[(x.Kids[j]).toNat]? = some p.Nodes[(x.Kids[j]).toNat]:=List.getElem?_eq_getElem hlt
    refine ⟨nX p (x.Kind == 20) x.Kids[j] s,by simp,?_,?_⟩
    ·simp only [Bool.not_true,Bool.false_eq_true,if_false,hgk,Option.bind_some]
     unfold nX
     rw [hgo]
     cases hb20:(x.Kind == 20) with
     | false=>simp [aJ hj (show x.Kids.length ≤ 1048576 by omega)]
     | true =>
      by_cases h13:(p.Nodes[(x.Kids[j]).toNat]).Kind=13
      ·simp [h13,aM8 (show s.length ≤ 100000 by omega),aJ hj (show x.Kids.length ≤ 1048576 by omega)]
      simp [h13,aJ hj (show x.Kids.length ≤ 1048576 by omega)]
    have:=uK p (x.Kind == 20) x.Kids[j] s
    omega
  rw [hkids]
  have happ:mH 16 [] names=some names:=aHf (by omega) (by omega)
  rw [happ]
  simp only [Option.bind_some]
  have hfin:(match (if lV p (eX p fn D) (x.Kind == 20) x.Kids names=true then (Sum.inl ():Unit ⊕ Bool) else Sum.inr false) with | Sum.inr z=>some z | Sum.inl ()=>some true)=some (lV p (eX p fn D) (x.Kind == 20) x.Kids names):=by
   cases lV p (eX p fn D) (x.Kind == 20) x.Kids names<;>rfl
  have hu1:(if qG x.Kind=true then some (!(aLk names x.Name)) else some false)=some (!(!(qG x.Kind) || aLk names x.Name)):=by
   cases qG x.Kind<;>simp
  rw [hu1]
  simp only [Option.bind_some]
  unfold aBt
  cases hq:(!(qG x.Kind) || aLk names x.Name) with
  | false=>simp
  | true =>
   simp only [Bool.not_true,Bool.false_eq_true,if_false,Bool.true_and]
   have hcall:((if (x.Kind == 12)=true then (lR p x.Name).bind fun r22=>Option.bind ((cV r22 0 (IntKind.wrap .i64 ((fn:Int) - 1))).bind fun r26=>if (!r26)=true then some true else (aM p.Fns r22).bind fun e30=>some ((e30.Params.length:Int) != (x.Kids.length:Int))) fun v31=>if v31=true then some (Sum.inr false) else some (Sum.inl ()) else some (Sum.inl ())):Option (Unit ⊕ Bool))=some (if (!(x.Kind == 12) || aCn p fn x)=true then .inl () else .inr false):=by
    cases h12:(x.Kind == 12) with
    | false=>simp
    | true =>
     simp only [if_true,nP p _ hF,cF,Option.bind_some,hw]
     unfold aCn
     cases hi:inB (fK p x.Name) 0 ((fn:Int) - 1) with
     | false=>simp
     | true =>
      have hi':=inB_iff.1 hi
      have hlt:(fK p x.Name).toNat < p.Fns.length:=by omega
      rw [cK hi'.1 (by omega),List.getElem?_eq_getElem hlt]
      by_cases he:((p.Fns[(fK p x.Name).toNat]).Params.length:Int)=(x.Kids.length:Int)
      ·simp [he]
      simp [he]
   rw [hcall]
   simp only [Option.bind_some]
   cases (!(x.Kind == 12) || aCn p fn x) with
   | false=>simp
   | true=>simp only [if_true,Bool.true_and];exact hfin
end Go.OM
namespace Go.OM
theorem aAo (p:GProgram) (rc:Int→List ByteArray→Bool):∀ (l:List Int) (th:List ByteArray) (b:Bool),l.foldl (fun b kid=>b || !(rc kid th)) b=(b || !(lV p rc false l th))
 | [],th,b=>by simp [lV]
 | kid :: l,th,b=>by
  rw [List.foldl_cons,aAo p rc l th]
  have:nX p false kid th=th:=by simp [nX]
  simp only [lV,this]
  cases b<;>cases rc kid th<;>simp
theorem mJ (p:GProgram) (hF:p.Fns.length ≤ 1048576) (hu:okU p.Nodes p.Nodes.length=true) (fn:Nat) (hfn:fn < p.Fns.length) :
  ∀ (f D:Nat) (k:Int) (th:List ByteArray) (b:Bool),0 ≤ k→k < p.Nodes.length→(∀ x,p.Nodes[k.toNat]? = some x→qL x.Kind=true)→nL p.Nodes k.toNat ≤ D→D ≤ f→th.length ≤ 1000 →
   aV f ⟨p,fn,th,b⟩ k=some ⟨p,fn,th,b || !(eX p fn D k th)⟩
 | 0,D,k,th,b,h0,h1,hv,h2,h3,h4=>by
  have:=fL p.Nodes k.toNat
  omega
 | f + 1,D,k,th,b,h0,h1,hv,h2,h3,h4=>by
  have hp:=fL p.Nodes k.toNat
  cases D with
  | zero=>omega
  | succ D =>
  have hk:k.toNat < p.Nodes.length:=by omega
  have hx:p.Nodes[k.toNat]? = some p.Nodes[k.toNat]:=List.getElem?_eq_getElem hk
  have hnb:=(gP hu hk).1
  have hge:aM p.Nodes k=some p.Nodes[k.toNat]:=cK h0 (by omega)
  have hkl:=dC hnb hx
  have hkb:=eB hnb hx
  have hdk:∀ kid ∈ p.Nodes[k.toNat].Kids,nL p.Nodes kid.toNat ≤ D:=fun kid hm=>by
   have:=sF hnb hx hm
   omega
  have hvk:=hv _ hx
  have hkv:∀ kid ∈ p.Nodes[k.toNat].Kids,∀ y,p.Nodes[kid.toNat]? = some y→qL y.Kind=true:=by
   intro kid hm y hy
   obtain ⟨i,hi,rfl⟩:=List.mem_iff_getElem.1 hm
   obtain ⟨_,_,_,g3,_⟩:=mO hnb
   obtain ⟨_,_,z,hz,hfit⟩:=g3 i hi
   rw [hy] at hz
   injection hz with hz
   subst hz
   have hv1:=inB_iff.1 hvk
   unfold uY at hfit
   rw [if_neg (by omega),if_neg (by omega),if_neg (by omega)] at hfit
   exact hfit
  show cX (aV f) ⟨p,fn,th,b⟩ k=_
  unfold cX
  simp only [eX,hx,hge,Option.bind_some]
  generalize hgx:p.Nodes[k.toNat]=x at *
  have hv1:=inB_iff.1 hvk
  have hloop:aG (bC (aV f) x) (0,(⟨p,fn,th,b⟩:Gl07Seen))=some ⟨p,fn,th,b || !(lV p (eX p fn D) false x.Kids th)⟩:=by
   have:=aT x.Kids (fun (b:Bool) j=>((j:Int),(⟨p,fn,th,b⟩:Gl07Seen))) (fun _ _=>True) (fun b kid=>.inl (b || !(eX p fn D kid th))) (fun b=>(⟨p,fn,th,b⟩:Gl07Seen)) (bC (aV f) x) (fun b j hj _=>by
    left
    have hm:=List.getElem_mem hj
    have hb:=hkb _ hm
    refine ⟨_,rfl,?_,trivial⟩
    simp only [bC,aB hj,if_true,aD hj,Option.bind_some,mJ p hF hu fn hfn f D x.Kids[j] th b hb.1 (by omega) (hkv _ hm) (hdk _ hm) (by omega) h4,aJ hj (show x.Kids.length ≤ 1048576 by omega)]) (fun b _=>by simp [bC]) b trivial
   rw [bB,aAo p] at this
   exact this
  rw [hloop]
  have h20:(x.Kind == 20)=false:=by simp;omega
  rw [h20]
  simp only [Option.bind_some]
  generalize hB:lV p (eX p fn D) false x.Kids th=B
  have hhas:=sN th x.Name (show th.length ≤ 1048576 by omega)
  by_cases h26:2 ≤ x.Kind∧x.Kind ≤ 6
  ·have hcond:(if (x.Kind == 2)=true then some (x.Kind == 2) else if (x.Kind == 3)=true then some (x.Kind == 3) else if (x.Kind == 4)=true then some (x.Kind == 4) else if (x.Kind == 5)=true then some (x.Kind == 5) else some (x.Kind == 6))=some true:=by
    have:x.Kind=2 ∨ x.Kind=3 ∨ x.Kind=4 ∨ x.Kind=5 ∨ x.Kind=6:=by omega
    rcases this with e | e | e | e | e<;>simp [e]
   rw [hcond]
   have hu1:qG x.Kind=true:=by
    unfold qG
    rw [inB_iff.2 h26];rfl
   have h12:(x.Kind == 12)=false:=by simp;omega
   simp only [Option.bind_some,if_true,hhas,aBt,hu1,h12,Bool.not_true,Bool.false_or,Bool.not_false,Bool.true_or,Bool.and_true]
   cases b<;>cases B<;>cases aLk th x.Name<;>simp
  have hcond:(if (x.Kind == 2)=true then some (x.Kind == 2) else if (x.Kind == 3)=true then some (x.Kind == 3) else if (x.Kind == 4)=true then some (x.Kind == 4) else if (x.Kind == 5)=true then some (x.Kind == 5) else some (x.Kind == 6))=some false:=by
   have n2:¬ x.Kind=2:=by omega
   have n3:¬ x.Kind=3:=by omega
   have n4:¬ x.Kind=4:=by omega
   have n5:¬ x.Kind=5:=by omega
   have n6:¬ x.Kind=6:=by omega
   simp [n2,n3,n4,n5,n6]
  rw [hcond]
  have hu1:qG x.Kind=false:=by
   unfold qG
   have e1:inB x.Kind 2 6=false:=by
    rw [Bool.eq_false_iff];intro h;exact h26 (inB_iff.1 h)
   have e2:(x.Kind == 14)=false:=by simp;omega
   have e3:(x.Kind == 15)=false:=by simp;omega
   rw [e1,e2,e3];rfl
  simp only [Option.bind_some,Bool.false_eq_true,if_false,aBt,hu1,Bool.not_false,Bool.true_or,Bool.true_and]
  by_cases h12:x.Kind=12
  ·have e12:(x.Kind == 12)=true:=by simpa using h12
   simp only [e12,if_true,qW p _ hF,Option.bind_some,Bool.not_true,Bool.false_or]
   unfold aCn
   rcases rQ p x.Name with hm1 | ⟨g0,g1⟩
   ·have hi:inB (fK p x.Name) 0 ((fn:Int) - 1)=false:=by
     rw [Bool.eq_false_iff];intro h;have:=inB_iff.1 h;omega
    rw [hi]
    have hlt:decide (fK p x.Name < 0)=true:=by simp [hm1]
    rw [hlt]
    cases b<;>cases B<;>simp
   have hlt:decide (fK p x.Name < 0)=false:=by simp only [decide_eq_false_iff_not];omega
   rw [hlt]
   by_cases hge2:fK p x.Name ≥ fn
   ·have hi:inB (fK p x.Name) 0 ((fn:Int) - 1)=false:=by
     rw [Bool.eq_false_iff];intro h;have:=inB_iff.1 h;omega
    rw [hi,decide_eq_true hge2]
    cases b<;>cases B<;>simp
   have hi:inB (fK p x.Name) 0 ((fn:Int) - 1)=true:=inB_iff.2 (by omega)
   have hlt2:(fK p x.Name).toNat < p.Fns.length:=by omega
   rw [hi,decide_eq_false hge2,cK g0 (by omega),List.getElem?_eq_getElem hlt2]
   cases b<;>cases B<;>simp<;>rfl
  have e12:(x.Kind == 12)=false:=by simpa using h12
  simp only [e12,Bool.false_eq_true,if_false,Bool.not_false,Bool.true_or,Bool.true_and]
end Go.OM
namespace Go.OM
def lF (p:GProgram) (kids:List Int) (th:List ByteArray):List ByteArray:=kids.foldl (fun th kid=>nX p true kid th) th
theorem aIf (p:GProgram) (rc:Int→List ByteArray→Bool):∀ (l:List Int) (th:List ByteArray) (b:Bool),l.foldl (fun (s:List ByteArray × Bool) kid=>(nX p true kid s.1,s.2 || !(rc kid s.1))) (th,b)=(lF p l th,b || !(lV p rc true l th))
 | [],th,b=>by simp [lF,lV]
 | kid :: l,th,b=>by
  rw [List.foldl_cons]
  have:=aIf p rc l (nX p true kid th) (b || !(rc kid th))
  rw [this]
  simp only [lF,List.foldl_cons,lV]
  cases b<;>cases rc kid th<;>simp
theorem vY (p:GProgram):∀ (l:List Int) (th:List ByteArray),(lF p l th).length ≤ th.length + l.length
 | [],th=>by simp [lF]
 | kid :: l,th=>by
  have h1:=vY p l (nX p true kid th)
  have h2:=uK p true kid th
  simp only [lF,List.foldl_cons,List.length_cons] at h1 ⊢
  omega
theorem aGz (p:GProgram) (fn:Int) (x:GNode) (th:List ByteArray) (h:x.Kind=13 ∨ 16 ≤ x.Kind):aBt p fn x th=true:=by
 unfold aBt qG
 have e1:inB x.Kind 2 6=false:=by
  rw [Bool.eq_false_iff];intro hh;have:=inB_iff.1 hh;omega
 have e2:(x.Kind == 14)=false:=by simp;omega
 have e3:(x.Kind == 15)=false:=by simp;omega
 have e4:(x.Kind == 12)=false:=by simp;omega
 rw [e1,e2,e3,e4];rfl
theorem aNk (p:GProgram) (fn:Int) (x:GNode) (th:List ByteArray) (h:x.Kind=14 ∨ x.Kind=15):aBt p fn x th=aLk th x.Name:=by
 unfold aBt qG
 have e4:(x.Kind == 12)=false:=by simp;omega
 have e5:(inB x.Kind 2 6 || (x.Kind == 14 || x.Kind == 15))=true:=by
  rcases h with e | e<;>simp [e]
 rw [e5,e4];simp
theorem wS (p:GProgram) (hF:p.Fns.length ≤ 1048576) (hu:okU p.Nodes p.Nodes.length=true) (fn:Nat) (hfn:fn < p.Fns.length):∀ (f D:Nat),
  (∀ (k:Int) (x:GNode) (th:List ByteArray) (b:Bool),0 ≤ k→p.Nodes[k.toNat]? = some x→x.Kind=20→nL p.Nodes k.toNat ≤ D→D ≤ f→th.length + 12 * D ≤ 1000→(aF f).1 ⟨p,fn,th,b⟩ k=some ⟨p,fn,lF p x.Kids th,b || !(eX p fn D k th)⟩) ∧
  (∀ (k:Int) (x:GNode) (th:List ByteArray) (b:Bool),0 ≤ k→p.Nodes[k.toNat]? = some x→yQ x.Kind=true→nL p.Nodes k.toNat ≤ D→D ≤ f→th.length + 12 * D ≤ 1000→(aF f).2 ⟨p,fn,th,b⟩ k=some ⟨p,fn,nX p true k th,b || !(eX p fn D k th)⟩)
 | 0,D=>by
  refine ⟨fun k x th b h0 hx hk h2 h3 h4=>?_,fun k x th b h0 hx hk h2 h3 h4=>?_⟩ <;>
  ·have:=fL p.Nodes k.toNat
   omega
 | f + 1,0=>by
  refine ⟨fun k x th b h0 hx hk h2 h3 h4=>?_,fun k x th b h0 hx hk h2 h3 h4=>?_⟩ <;>
  ·have:=fL p.Nodes k.toNat
   omega
 | f + 1,D + 1=>by
  obtain ⟨ihB,ihS⟩:=wS p hF hu fn hfn f D
  have facts:∀ (k:Int) (x:GNode),0 ≤ k→p.Nodes[k.toNat]? = some x→nL p.Nodes k.toNat ≤ ((D + 1:Nat):Int)→k < p.Nodes.length∧aM p.Nodes k=some x∧x.Kids.length ≤ 12∧inB x.Kids.length (jB x.Kind).1 (jB x.Kind).2=true ∧
    ∀ (i:Nat) (hi:i < x.Kids.length),0 ≤ x.Kids[i]∧nL p.Nodes (x.Kids[i]).toNat ≤ D∧∃ y,p.Nodes[(x.Kids[i]).toNat]? = some y∧uY x.Kind i y.Kind=true:=by
   intro k x h0 hx hd
   obtain ⟨hlt,hxe⟩:=List.getElem?_eq_some_iff.1 hx
   have hnb:=(gP hu hlt).1
   obtain ⟨_,_,g2,g3,_⟩:=mO hnb
   refine ⟨by omega,?_,dC hnb hx,by rw [← hxe];exact g2,fun i hi=>?_⟩
   ·rw [cK h0 (by omega),hxe]
   subst hxe
   obtain ⟨q1,_,q3⟩:=g3 i hi
   have:=sF hnb hx (List.getElem_mem hi)
   exact ⟨q1.1,by omega,q3⟩
  constructor
  ·intro k x th b h0 hx hk h2 h3 h4
   obtain ⟨hkn,hge,hkl,hsh,hkid⟩:=facts k x h0 hx h2
   show cY (aF f).1 (aF f).2 ⟨p,fn,th,b⟩ k=_
   unfold cY
   have h20:(x.Kind == 20)=true:=by simpa using hk
   have hs:eX p fn (D + 1) k th=lV p (eX p fn D) true x.Kids th:=by
    simp only [eX,hx,aGz p fn x th (by omega),h20,Bool.true_and]
   rw [hs]
   have:=aT x.Kids (fun (s:List ByteArray × Bool) j=>((j:Int),(⟨p,fn,s.1,s.2⟩:Gl07Seen))) (fun j s=>s.1.length ≤ th.length + j) (fun s kid=>.inl (nX p true kid s.1,s.2 || !(eX p fn D kid s.1))) (fun s=>(⟨p,fn,s.1,s.2⟩:Gl07Seen)) (bK (aF f).2 k) (fun s j hj hI=>by
    left
    obtain ⟨q0,q1,y,hy,hfit⟩:=hkid j hj
    have hst:yQ y.Kind=true:=by
     unfold uY at hfit
     rwa [if_pos hk] at hfit
    refine ⟨_,rfl,?_,?_⟩
    ·simp only [bK,hge,Option.bind_some,aB hj,if_true,aD hj,ihS x.Kids[j] y s.1 s.2 q0 hy hst q1 (by omega) (by omega),aJ hj (show x.Kids.length ≤ 1048576 by omega)]
    have:=uK p true x.Kids[j] s.1
    simp only;omega) (fun s _=>by simp [bK,hge]) (th,b) (by simp)
   rw [bB,aIf] at this
   exact this
  intro k x th b h0 hx hk h2 h3 h4
  obtain ⟨hkn,hge,hkl,hsh,hkid⟩:=facts k x h0 hx h2
  have hk':=inB_iff.1 hk
  have hsh':=inB_iff.1 hsh
  show dO (aF f).1 (aF f).2 ⟨p,fn,th,b⟩ k=_
  unfold dO
  have h20:(x.Kind == 20)=false:=by simp;omega
  have hs:eX p fn (D + 1) k th=(aBt p fn x th && lV p (eX p fn D) false x.Kids th):=by
   simp only [eX,hx,h20]
  rw [hs]
  have hpos:1 ≤ x.Kids.length:=by
   have:1 ≤ (jB x.Kind).1:=by
    unfold jB
    split
    ·simp
    split
    ·simp
    split
    ·simp
    omega
   omega
  obtain ⟨k0,rest,hks⟩:∃ k0 rest,x.Kids=k0 :: rest:=by
   match h:x.Kids with
   | []=>rw [h] at hpos;simp at hpos
   | k0 :: rest=>exact ⟨k0,rest,rfl⟩
  obtain ⟨q0,q1,y,hy,hfit⟩:=hkid 0 (by omega)
  have hk00:x.Kids[0]=k0:=by simp [hks]
  rw [hk00] at q0 q1 hy
  have hvy:qL y.Kind=true:=by
   unfold uY at hfit
   rw [if_neg (by omega),if_neg (by simp)] at hfit
   split at hfit
   ·have:y.Kind=12:=by simpa using hfit
    rw [this];rfl
   exact hfit
  have hg0:aM x.Kids 0=some k0:=by rw [aLl,hks];rfl
  have hyl:k0 < p.Nodes.length:=by
   have:=(List.getElem?_eq_some_iff.1 hy).1
   omega
  have hval:eF ⟨p,fn,th,b⟩ k0=some ⟨p,fn,th,b || !(eX p fn D k0 th)⟩:=mJ p hF hu fn hfn eK D k0 th b q0 hyl (fun z hz=>by rw [hy] at hz;injection hz with hz;rw [← hz];exact hvy) q1 (show D ≤ 1048576 by omega) (by omega)
  simp only [hge,hg0,hval,Option.bind_some]
  have hlet:nX p true k th=if x.Kind=13 then th ++ [x.Name] else th:=by
   unfold nX;simp only [if_true,hx]
  have hl0:nX p false k0 th=th:=by simp [nX]
  rw [hlet,hks]
  simp only [lV,hl0]
  have hone:(x.Kind=13 ∨ x.Kind=14 ∨ x.Kind=15 ∨ x.Kind=18 ∨ x.Kind=19)→rest=[]:=by
   intro hc
   have h1:(jB x.Kind).2=1:=by
    unfold jB
    rw [if_pos (by omega)]
   rw [h1,hks] at hsh'
   simp only [List.length_cons] at hsh'
   exact List.length_eq_zero_iff.1 (by omega)
  generalize hB:eX p fn D k0 th=B
  by_cases h13:x.Kind=13
  ·have e13:(x.Kind == 13)=true:=by simpa using h13
   have happ1:mH 16 [] th=some th:=aHf (by omega) (by omega)
   simp only [e13,if_true,happ1,Option.bind_some,aM8 (show th.length ≤ 100000 by omega),if_pos h13,aGz p fn x th (.inl h13),Bool.true_and,hone (.inl h13),lV,Bool.and_true]
  have e13:(x.Kind == 13)=false:=by simpa using h13
  simp only [e13,Bool.false_eq_true,if_false,if_neg h13]
  by_cases h1415:x.Kind=14 ∨ x.Kind=15
  ·have hcond:(if (x.Kind == 14)=true then some (x.Kind == 14) else some (x.Kind == 15))=some true:=by
    rcases h1415 with e | e<;>simp [e]
   rw [hcond]
   simp only [Option.bind_some,if_true,sN th x.Name (show th.length ≤ 1048576 by omega),aNk p fn x th h1415,hone (by omega),lV,Bool.and_true]
   cases b<;>cases B<;>cases aLk th x.Name<;>simp
  have hcond:(if (x.Kind == 14)=true then some (x.Kind == 14) else some (x.Kind == 15))=some false:=by
   rw [not_or] at h1415
   simp [h1415.1,h1415.2]
  rw [hcond]
  simp only [Option.bind_some,Bool.false_eq_true,if_false,aGz p fn x th (.inr (by omega)),Bool.true_and]
  by_cases h1617:x.Kind=16 ∨ x.Kind=17
  ·have hcond2:(if (x.Kind == 16)=true then some (x.Kind == 16) else some (x.Kind == 17))=some true:=by
    rcases h1617 with e | e<;>simp [e]
   rw [hcond2]
   simp only [Option.bind_some,if_true]
   have hlen:x.Kids.length=rest.length + 1:=by rw [hks];simp
   have:=aT rest (fun (s:Bool) j=>(((j + 1:Nat):Int),(⟨p,fn,th,s⟩:Gl07Seen))) (fun _ _=>True) (fun s kid=>.inl (s || !(eX p fn D kid th))) (fun s=>(⟨p,fn,th,s⟩:Gl07Seen)) (bW (aF f).1 x) (fun s j hj _=>by
    left
    have hj1:j + 1 < x.Kids.length:=by omega
    obtain ⟨r0,r1,z,hz,hfz⟩:=hkid (j + 1) hj1
    have hkj:x.Kids[j + 1]=rest[j]:=by simp [hks]
    rw [hkj] at r0 r1 hz
    have hz20:z.Kind=20:=by
     unfold uY at hfz
     rw [if_neg (by omega),if_pos ⟨h1617,by omega⟩] at hfz
     simpa using hfz
    have hgj:aM x.Kids ((j + 1:Nat):Int)=some rest[j]:=by rw [aD hj1,hkj]
    refine ⟨_,rfl,?_,trivial⟩
    simp only [bW,aB hj1,if_true,hgj,Option.bind_some,ihB rest[j] z th s r0 hz hz20 r1 (by omega) (by omega),aJ hj1 (show x.Kids.length ≤ 1048576 by omega)]) (fun s _=>by
     have:¬ (((rest.length + 1:Nat):Int) < (x.Kids.length:Int)):=by omega
     simp only [bW,decide_eq_false this,Bool.false_eq_true,if_false]) (b || !B) trivial
   rw [bB,aAo p] at this
   rw [show (((0 + 1:Nat):Int))=1 from rfl] at this
   rw [this]
   cases b<;>cases B<;>simp
  have hcond2:(if (x.Kind == 16)=true then some (x.Kind == 16) else some (x.Kind == 17))=some false:=by
   rw [not_or] at h1617
   simp [h1617.1,h1617.2]
  rw [hcond2]
  simp only [Option.bind_some,Bool.false_eq_true,if_false,hone (by omega),lV,Bool.and_true]
end Go.OM
namespace Go.OM
def fE (l:List GVar) (nm:ByteArray):Int:=((List.range l.length).findSome? fun k=>match l[k]? with
 | some v=>if sEq v.Name nm=true then some (k:Int) else none
 | none=>none).getD (-1)
theorem pQ (l:List GVar) (nm:ByteArray) (hl:l.length ≤ 1048576):mE l nm=some (fE l nm):=by
 unfold mE fE
 rw [wG l.length (fun k=>match l[k]? with
  | some v=>if sEq v.Name nm=true then some (k:Int) else none
  | none=>none) (iF l nm) (fun k h=>by
   simp only [iF,aB h,if_true,aD h,Option.bind_some,List.getElem?_eq_getElem h,aJ h hl]
   cases sEq l[k].Name nm<;>rfl) (by simp [iF])]
 cases (List.range l.length).findSome? fun k=>match l[k]? with
  | some v=>if sEq v.Name nm=true then some (k:Int) else none
  | none=>none<;>rfl
theorem tX (l:List GVar) (nm:ByteArray) (hl:l.length ≤ 1048576):oK l nm=some (fE l nm):=pQ l nm hl
def sX (l:List GVar):Bool:=(List.range l.length).all fun k=>match l[k]? with
 | some v=>fE l v.Name == k
 | none=>true
theorem aCb {ρ:Type} (l:List GVar) (hl:l.length ≤ 1048576) (b:ρ) (f:Int→Option (Int ⊕ (Unit ⊕ ρ)))
  (hf:∀ (k:Nat) (h:k < l.length),f k=some (if (fE l l[k].Name != (k:Int))=true then .inr (.inr b) else .inl (IntKind.wrap .i64 ((k:Int) + 1)))) (he:f l.length=some (.inr (.inl ()))):aG f 0=some (if sX l=true then .inl () else .inr b):=by
 unfold sX
 refine iN l.length hl _ b f (fun k hk=>?_) he
 rw [hf k hk,List.getElem?_eq_getElem hk]
 by_cases e:fE l l[k].Name=k
 ·simp [e]
 simp [e]
theorem pS {α β:Type} (h:α→β):∀ (l:List α) (s:List β),l.foldl (fun s x=>s ++ [h x]) s=s ++ l.map h
 | [],s=>by simp
 | x :: l,s=>by rw [List.foldl_cons,pS h l];simp
def yP (p:GProgram) (s:List GVar) (e:Int):List GVar:=match p.Nodes[e.toNat]? with
 | some y=>if y.Kind=13 then s ++ [⟨y.Name,0,e⟩] else s
 | none=>s
noncomputable def gV (p:GProgram) (f:GFn):List GVar:=(dA p.Nodes f.Body).foldl (yP p) (f.Params.map fun x=>(⟨x.Name,x.Typ,-1⟩:GVar))
theorem aEe (nodes:List GNode) (k:Int):(dA nodes k).length ≤ nodes.length:=by
 unfold dA
 split
 ·simp
 unfold aC1
 rw [List.length_map]
 refine Nat.le_trans (List.length_filter_le _ _) ?_
 rw [List.length_range]
 exact Nat.le_refl _
theorem aEh (p:GProgram) (s:List GVar) (e:Int):(yP p s e).length ≤ s.length + 1:=by
 unfold yP
 split
 ·split
  ·simp
  omega
 omega
theorem aFu (p:GProgram):∀ (l:List Int) (s:List GVar),(l.foldl (yP p) s).length ≤ s.length + l.length
 | [],s=>by simp
 | e :: l,s=>by
  rw [List.foldl_cons]
  have h1:=aFu p l (yP p s e)
  have h2:=aEh p s e
  simp only [List.length_cons];omega
theorem tR (p:GProgram) (f:GFn) (hp:f.Params.length ≤ 3):(gV p f).length ≤ p.Nodes.length + 3:=by
 unfold gV
 have h1:=aFu p (dA p.Nodes f.Body) (f.Params.map fun x=>(⟨x.Name,x.Typ,-1⟩:GVar))
 have h2:=aEe p.Nodes f.Body
 rw [List.length_map] at h1
 omega
theorem tI {ρ β:Type} (f:GFn) (hp:f.Params.length ≤ 1000) (h:GParam→β) (g:List β × Int→Option ((List β × Int) ⊕ List β))
  (hf:∀ (s:List β) (k:Nat) (hk:k < f.Params.length),s.length ≤ k→g (s,(k:Int))=some (.inl (s ++ [h f.Params[k]],((k + 1:Nat):Int)))) (he:∀ s,g (s,(f.Params.length:Int))=some (.inr s)):aG g ([],0)=some (f.Params.map h):=by
 have:=aT f.Params (fun (s:List β) k=>(s,(k:Int))) (fun k s=>s.length ≤ k) (fun s x=>.inl (s ++ [h x])) id g (fun s k hk hI=>.inl ⟨_,rfl,hf s k hk hI,by simp only [List.length_append,List.length_cons,List.length_nil];omega⟩) (fun s _=>he s) [] (by simp)
 rw [bB,pS] at this
 simpa using this
theorem aEc (p:GProgram) (r:List Int) (hr:∀ e ∈ r,0 ≤ e∧e < p.Nodes.length) (hn:p.Nodes.length ≤ 1000) (hrl:r.length ≤ 1000) (s0:List GVar) (h0:s0.length ≤ 1000) (g:List GVar × Int→Option ((List GVar × Int) ⊕ List GVar))
  (hf:∀ (s:List GVar) (k:Nat) (hk:k < r.length) (y:GNode),s.length ≤ 100000→aM p.Nodes r[k]=some y→g (s,(k:Int))=some (.inl (if (y.Kind == 13)=true then s ++ [⟨y.Name,0,r[k]⟩] else s,((k + 1:Nat):Int)))) (he:∀ s,g (s,(r.length:Int))=some (.inr s)):aG g (s0,0)=some (r.foldl (yP p) s0):=by
 have:=aT r (fun (s:List GVar) k=>(s,(k:Int))) (fun k s=>s.length ≤ s0.length + k) (fun s e=>.inl (yP p s e)) id g (fun s k hk hI=>by
  left
  obtain ⟨b0,b1⟩:=hr _ (List.getElem_mem hk)
  have hlt:(r[k]).toNat < p.Nodes.length:=by omega
  refine ⟨_,rfl,?_,by have:=aEh p s r[k];omega⟩
  rw [hf s k hk _ (by omega) (cK b0 b1)]
  unfold yP
  rw [List.getElem?_eq_getElem hlt]
  by_cases e:(p.Nodes[(r[k]).toNat]).Kind=13<;>simp [e]) (fun s _=>he s) s0 (by simp)
 rw [bB] at this
 exact this
theorem aO2 {l:List GVar} (h:l.length ≤ 100000) (x:GVar):mH 32 l [x]=some (l ++ [x]):=aHg (by omega) (by omega)
theorem yJ (p:GProgram) (hn:p.Nodes.length ≤ 300) (hF:p.Fns.length ≤ 1000) (i:Nat) (hi:i < p.Fns.length) (hp:p.Fns[i].Params.length ≤ 3):kM p i=some (gV p p.Fns[i])∧kI p i=some (gV p p.Fns[i]):=by
 have hw:IntKind.wrap .i64 ((p.Fns.length:Int) - 1)=(p.Fns.length:Int) - 1:=w64 (by omega) (by omega)
 have hin:inB (i:Int) 0 ((p.Fns.length:Int) - 1)=true:=inB_iff.2 (by omega)
 have hul:=aEe p.Nodes p.Fns[i].Body
 have hub:∀ e ∈ dA p.Nodes p.Fns[i].Body,0 ≤ e∧e < p.Nodes.length:=fun e he=>kG he
 constructor
 ·unfold kM
  simp only [cF,Option.bind_some,hw,hin,Bool.not_true,Bool.false_eq_true,if_false,aD hi]
  rw [tI (ρ:=Unit) p.Fns[i] (by omega) (fun x=>(⟨x.Name,x.Typ,-1⟩:GVar)) (gH p.Fns[i]) (fun s k hk hs=>by
   simp only [gH,aB hk,if_true,aD hk,Option.bind_some,aO2 (show s.length ≤ 100000 by omega),aJ hk (show p.Fns[i].Params.length ≤ 1048576 by omega)]) (fun s=>by simp [gH])]
  simp only [Option.bind_some,uV p (show p.Nodes.length ≤ 1048576 by omega)]
  rw [aEc p _ hub (by omega) (by omega) _ (by rw [List.length_map];omega) (gG p (dA p.Nodes p.Fns[i].Body)) (fun s k hk y hs hy=>by
   simp only [gG,aB hk,if_true,aD hk,hy,Option.bind_some,aO2 hs,aJ hk (show (dA p.Nodes p.Fns[i].Body).length ≤ 1048576 by omega)]
   cases (y.Kind == 13)<;>simp) (fun s=>by simp [gG])]
  rfl
 unfold kI
 simp only [eU,Option.bind_some,hw,hin,Bool.not_true,Bool.false_eq_true,if_false,aD hi]
 rw [tI (ρ:=Unit) p.Fns[i] (by omega) (fun x=>(⟨x.Name,x.Typ,-1⟩:GVar)) (fV p.Fns[i]) (fun s k hk hs=>by
  simp only [fV,aB hk,if_true,aD hk,Option.bind_some,aO2 (show s.length ≤ 100000 by omega),aJ hk (show p.Fns[i].Params.length ≤ 1048576 by omega)]) (fun s=>by simp [fV])]
 simp only [Option.bind_some,tY p (show p.Nodes.length ≤ 1048576 by omega)]
 rw [aEc p _ hub (by omega) (by omega) _ (by rw [List.length_map];omega) (fU p (dA p.Nodes p.Fns[i].Body)) (fun s k hk y hs hy=>by
  simp only [fU,aB hk,if_true,aD hk,hy,Option.bind_some,aO2 hs,aJ hk (show (dA p.Nodes p.Fns[i].Body).length ≤ 1048576 by omega)]
  cases (y.Kind == 13)<;>simp) (fun s=>by simp [fU])]
 rfl
end Go.OM
namespace Go.OM
def pnB (f:GFn):List ByteArray:=f.Params.map fun x=>x.Name
def aFj (p:GProgram) (k:Int):List Int:=match p.Nodes[k.toNat]? with
 | some x=>x.Kids
 | none=>[]
noncomputable def oC (p:GProgram) (i:Nat):Bool:=match p.Fns[i]? with
 | none=>true
 | some f=>sX (gV p f) && (eX p i 10 f.Body (pnB f) && (if f.Ret ≥ 0 then eX p i 10 f.Ret (lF p (aFj p f.Body) (pnB f)) else true))
noncomputable def kF (p:GProgram):Bool:=sJ p && (List.range p.Fns.length).all (oC p)
structure FnFacts (p:GProgram) (f:GFn):Prop where
 par:f.Params.length ≤ 3
 b0:0 ≤ f.Body
 b1:f.Body < p.Nodes.length
 bk:∃ x,p.Nodes[f.Body.toNat]? = some x∧x.Kind=20
 r1:f.Ret < p.Nodes.length
 rv:0 ≤ f.Ret→∃ x,p.Nodes[f.Ret.toNat]? = some x∧qL x.Kind=true
theorem aE3 {p:GProgram} (h:sJ p=true) {i:Nat} (hi:i < p.Fns.length):FnFacts p p.Fns[i]:=by
 have hg:nK p i=true:=by
  unfold sJ at h
  simp only [Bool.and_eq_true] at h
  exact List.all_eq_true.1 h.2.2.2.1 i (List.mem_range.2 hi)
 rw [sD hi,Bool.and_eq_true] at hg
 have hf:=hg.1
 obtain ⟨_,_,_,hr⟩:=uX hf
 unfold fnB at hf
 simp only [Bool.and_eq_true,Bool.not_eq_true',decide_eq_false_iff_not] at hf
 obtain ⟨_,h2,_,_,h5,h6⟩:=hf
 obtain ⟨b1,b2,b3⟩:=bodyB_iff.1 h5
 refine ⟨by omega,b1,b2,b3,hr,fun h0=>?_⟩
 unfold retB at h6
 split at h6
 ·simp only [beq_iff_eq] at h6;omega
 rw [Bool.and_eq_true] at h6
 have h7:=h6.2
 split at h7
 ·rename_i x hx;exact ⟨x,hx,h7⟩
 cases h7
theorem aLd (p:GProgram) (x:GNode) (hb:∀ kid ∈ x.Kids,0 ≤ kid∧kid < p.Nodes.length) (hl:x.Kids.length ≤ 12) (th:List ByteArray) (ht:th.length ≤ 1000):aG (bT p x) (th,0)=some (lF p x.Kids th):=by
 have:=aT x.Kids (fun (s:List ByteArray) k=>(s,(k:Int))) (fun k s=>s.length ≤ th.length + k) (fun s kid=>.inl (nX p true kid s)) id (bT p x) (fun s k hk hI=>by
  left
  obtain ⟨b0,b1⟩:=hb _ (List.getElem_mem hk)
  have hlt:(x.Kids[k]).toNat < p.Nodes.length:=by omega
  refine ⟨_,rfl,?_,by have:=uK p true x.Kids[k] s;omega⟩
  simp only [bT,aB hk,if_true,aD hk,cK b0 b1,Option.bind_some,aM8 (show s.length ≤ 100000 by omega),aJ hk (show x.Kids.length ≤ 1048576 by omega)]
  unfold nX
  rw [if_pos rfl,List.getElem?_eq_getElem hlt]
  by_cases e:(p.Nodes[(x.Kids[k]).toNat]).Kind=13<;>simp [e]) (fun s _=>by simp [bT]) th (by simp)
 rw [bB] at this
 exact this
theorem gN (p:GProgram) (hn:p.Nodes.length ≤ 1048576) (hF:p.Fns.length ≤ 1048576):dV p=some (kF p):=by
 unfold dV kF
 rw [wF p hn hF]
 simp only [Option.bind_some]
 cases hok:sJ p with
 | false=>rfl
 | true =>
  obtain ⟨b1,b2,b3,b4,hu⟩:=lE hok
  simp only [Bool.not_true,Bool.false_eq_true,if_false,Bool.true_and]
  rw [iN p.Fns.length hF (oC p) false (cS p) (fun i hi=>by
   obtain ⟨f1,f2,f3,⟨x,hx,hxk⟩,f5,f6⟩:=aE3 hok hi
   have hdb:=(gP hu (show p.Fns[i].Body.toNat < p.Nodes.length by omega))
   have hvl:=tR p p.Fns[i] f1
   have hnd:lM p i=some (sX (gV p p.Fns[i])):=by
    unfold lM
    rw [(yJ p (by omega) (by omega) i hi f1).1]
    simp only [Option.bind_some]
    rw [aCb (gV p p.Fns[i]) (by omega) false (fA (gV p p.Fns[i])) (fun k hk=>by
     simp only [fA,aB hk,if_true,aD hk,Option.bind_some,pQ _ _ (show (gV p p.Fns[i]).length ≤ 1048576 by omega)]
     cases (fE (gV p p.Fns[i]) (gV p p.Fns[i])[k].Name != (k:Int))<;>rfl) (by simp [fA])]
    cases sX (gV p p.Fns[i])<;>rfl
   have hpn:aG (bU p.Fns[i]) ([],0)=some (pnB p.Fns[i]):=tI (ρ:=Unit) p.Fns[i] (by omega) (fun x=>x.Name) (bU p.Fns[i]) (fun s k hk hs=>by
    simp only [bU,aB hk,if_true,aD hk,Option.bind_some,aM8 (show s.length ≤ 100000 by omega),aJ hk (show p.Fns[i].Params.length ≤ 1048576 by omega)]) (fun s=>by simp [bU])
   have hpl:(pnB p.Fns[i]).length ≤ 3:=by unfold pnB;rw [List.length_map];exact f1
   have hsb:rI p i p.Fns[i].Body (pnB p.Fns[i])=some (eX p i 10 p.Fns[i].Body (pnB p.Fns[i])):=nY p hF hu i hi eK 10 _ _ f2 f3 hdb.2 (show 10 ≤ 1048576 by omega) (by omega)
   have hkb:∀ kid ∈ x.Kids,0 ≤ kid∧kid < (p.Nodes.length:Int):=fun kid hm=>by
    have:=eB hdb.1 hx kid hm
    omega
   have hkl:=dC hdb.1 hx
   have hka:aFj p p.Fns[i].Body=x.Kids:=by unfold aFj;rw [hx]
   have hgb:aM p.Nodes p.Fns[i].Body=some x:=by
    obtain ⟨hlt,he⟩:=List.getElem?_eq_some_iff.1 hx
    rw [cK f2 f3,he]
   have hlets:=aLd p x hkb hkl (pnB p.Fns[i]) (by omega)
   have hll:=vY p x.Kids (pnB p.Fns[i])
   unfold oC
   simp only [cS,aB hi,if_true,aD hi,List.getElem?_eq_getElem hi,hnd,hpn,hsb,hgb,hlets,Option.bind_some,hka]
   cases sX (gV p p.Fns[i]) with
   | false=>rfl
   | true =>
    simp only [Bool.not_true,Bool.false_eq_true,if_false,Bool.true_and]
    cases eX p i 10 p.Fns[i].Body (pnB p.Fns[i]) with
    | false=>rfl
    | true =>
     simp only [Bool.not_true,Bool.false_eq_true,if_false,Bool.true_and,decide_eq_true_eq]
     by_cases hr:p.Fns[i].Ret ≥ 0
     ·have hdr:=(gP hu (show p.Fns[i].Ret.toNat < p.Nodes.length by omega))
      have hsr:rI p i p.Fns[i].Ret (lF p x.Kids (pnB p.Fns[i]))=some (eX p i 10 p.Fns[i].Ret (lF p x.Kids (pnB p.Fns[i]))):=nY p hF hu i hi eK 10 _ _ hr f5 hdr.2 (show 10 ≤ 1048576 by omega) (by omega)
      simp only [if_pos hr,hsr,Option.bind_some]
      cases eX p i 10 p.Fns[i].Ret (lF p x.Kids (pnB p.Fns[i]))<;>rfl
     simp only [if_neg hr,Option.bind_some]
     rfl) (by simp [cS])]
  cases (List.range p.Fns.length).all (oC p)<;>rfl
theorem gM (p:GProgram) (hn:p.Nodes.length ≤ 1048576) (hF:p.Fns.length ≤ 1048576):dP p=some (kF p):=by
 unfold dP kF
 rw [vO p hn hF]
 simp only [Option.bind_some]
 cases hok:sJ p with
 | false=>rfl
 | true =>
  obtain ⟨b1,b2,b3,b4,hu⟩:=lE hok
  simp only [Bool.not_true,Bool.false_eq_true,if_false,Bool.true_and]
  rw [iN p.Fns.length hF (oC p) false (cP p) (fun i hi=>by
   obtain ⟨f1,f2,f3,⟨x,hx,hxk⟩,f5,f6⟩:=aE3 hok hi
   have hdb:=(gP hu (show p.Fns[i].Body.toNat < p.Nodes.length by omega))
   have hvl:=tR p p.Fns[i] f1
   have hnd:aG (bP (gV p p.Fns[i])) 0=some (if sX (gV p p.Fns[i])=true then .inl () else .inr (.inr (.inr (.inr false)))) :=
    aCb (gV p p.Fns[i]) (by omega) _ (bP (gV p p.Fns[i])) (fun k hk=>by
     simp only [bP,aB hk,if_true,aD hk,Option.bind_some,tX _ _ (show (gV p p.Fns[i]).length ≤ 1048576 by omega)]
     cases (fE (gV p p.Fns[i]) (gV p p.Fns[i])[k].Name != (k:Int))<;>rfl) (by simp [bP])
   have hpn:aG (bO p i) (0,(⟨p,i,[],false⟩:Gl07Seen))=some ⟨p,i,pnB p.Fns[i],false⟩:=by
    have:=aT p.Fns[i].Params (fun (s:List ByteArray) k=>((k:Int),(⟨p,i,s,false⟩:Gl07Seen))) (fun k s=>s.length ≤ k) (fun s x=>.inl (s ++ [x.Name])) (fun s=>(⟨p,i,s,false⟩:Gl07Seen)) (bO p i) (fun s k hk hI=>.inl ⟨_,rfl,by
     simp only [bO,aD hi,aB hk,if_true,aD hk,Option.bind_some,aM8 (show s.length ≤ 100000 by omega),aJ hk (show p.Fns[i].Params.length ≤ 1048576 by omega)],by simp only [List.length_append,List.length_cons,List.length_nil];omega⟩) (fun s _=>by simp [bO,aD hi]) [] (by simp)
    rw [bB,pS] at this
    simpa [pnB] using this
   have hpl:(pnB p.Fns[i]).length ≤ 3:=by unfold pnB;rw [List.length_map];exact f1
   have hsb:jK ⟨p,i,pnB p.Fns[i],false⟩ p.Fns[i].Body=some ⟨p,i,lF p x.Kids (pnB p.Fns[i]),false || !(eX p i 10 p.Fns[i].Body (pnB p.Fns[i]))⟩:=(wS p hF hu i hi eK 10).1 _ x _ _ f2 hx hxk hdb.2 (show 10 ≤ 1048576 by omega) (by omega)
   have hkl:=dC hdb.1 hx
   have hka:aFj p p.Fns[i].Body=x.Kids:=by unfold aFj;rw [hx]
   have hll:=vY p x.Kids (pnB p.Fns[i])
   unfold oC
   simp only [cP,aB hi,if_true,(yJ p (by omega) (by omega) i hi f1).2,hnd,Option.bind_some,List.getElem?_eq_getElem hi,hka]
   cases sX (gV p p.Fns[i]) with
   | false=>rfl
   | true =>
    simp only [if_true,hpn,Option.bind_some,aD hi,hsb,Bool.true_and,Bool.false_or]
    by_cases hr:p.Fns[i].Ret ≥ 0
    ·have hdr:=(gP hu (show p.Fns[i].Ret.toNat < p.Nodes.length by omega))
     obtain ⟨y,hy,hyv⟩:=f6 hr
     have hsr:∀ b,eF ⟨p,i,lF p x.Kids (pnB p.Fns[i]),b⟩ p.Fns[i].Ret=some ⟨p,i,lF p x.Kids (pnB p.Fns[i]),b || !(eX p i 10 p.Fns[i].Ret (lF p x.Kids (pnB p.Fns[i])))⟩:=fun b=>mJ p hF hu i hi eK 10 _ _ b hr f5 (fun z hz=>by rw [hy] at hz;injection hz with hz;rw [← hz];exact hyv) hdr.2 (show 10 ≤ 1048576 by omega) (by omega)
     simp only [decide_eq_true hr,if_true,hsr,Option.bind_some,if_pos hr]
     cases eX p i 10 p.Fns[i].Body (pnB p.Fns[i])<;>cases eX p i 10 p.Fns[i].Ret (lF p x.Kids (pnB p.Fns[i]))<;>rfl
    simp only [decide_eq_false hr,Bool.false_eq_true,if_false,Option.bind_some,if_neg hr]
    cases eX p i 10 p.Fns[i].Body (pnB p.Fns[i])<;>rfl) (by simp [cP])]
  cases (List.range p.Fns.length).all (oC p)<;>rfl
end Go.OM
namespace Go.OM
theorem aEp (p:GProgram) (rc:Int→List ByteArray→Bool) (blk:Bool):∀ (l:List Int) (s:List ByteArray),lV p rc blk l s=true→∀ kid ∈ l,∃ s',rc kid s'=true
 | [],s,h,kid,hk=>by cases hk
 | k0 :: l,s,h,kid,hk=>by
  simp only [lV,Bool.and_eq_true] at h
  rcases List.mem_cons.1 hk with e | hk
  ·exact ⟨s,by rw [e];exact h.1⟩
  exact aEp p rc blk l _ h.2 kid hk
theorem aJ8 (p:GProgram) (fn:Int) (hu:okU p.Nodes p.Nodes.length=true) (k:Nat) (hk:k < p.Nodes.length) (D:Nat) (names:List ByteArray) (hd:nL p.Nodes k ≤ D) (hs:eX p fn D (k:Int) names=true) {e:Nat} (r:Reach (pM p.Nodes) k e) :
  e < p.Nodes.length∧∃ (D':Nat) (nm:List ByteArray),nL p.Nodes e ≤ D'∧eX p fn D' (e:Int) nm=true:=by
 induction r with
 | base=>exact ⟨hk,D,names,hd,hs⟩
 | step r hm ih =>
  rename_i i m
  obtain ⟨hi,D',nm,h1,h2⟩:=ih
  have hnb:=(gP hu hi).1
  have hx:p.Nodes[i]? = some p.Nodes[i]:=List.getElem?_eq_getElem hi
  rw [uO hi] at hm
  have hb:=eB hnb hx m hm
  have hdk:=sF hnb hx hm
  have hp:=fL p.Nodes m.toNat
  cases D' with
  | zero=>omega
  | succ D' =>
   simp only [eX,Int.toNat_natCast,hx,Bool.and_eq_true] at h2
   obtain ⟨s',hs'⟩:=aEp p _ _ _ _ h2.2 m hm
   refine ⟨by omega,D',s',by omega,?_⟩
   rw [show ((m.toNat:Nat):Int)=m by omega]
   exact hs'
end Go.OM
namespace Go.OM
theorem aOo {n:Int} (h:0 ≤ n) (h2:n < 256):IntKind.wrap .u8 n=n:=by
 simp [IntKind.wrap,IntKind.bits,IntKind.signed];omega
theorem aKq {x y:ByteArray} (h:x.size + y.size ≤ 9223372036854775807):aJ9 x y=some (x ++ y):=by unfold aJ9;rw [if_pos h]
theorem ba_ext {x y:ByteArray} (h:x.data.toList=y.data.toList):x=y:=by
 cases x;cases y
 simp only [ByteArray.mk.injEq]
 exact Array.toList_inj.1 h
theorem aCc:∀ (k u:Nat),u < 10 ^ (k + 1)→Lib.nDigits u ≤ k + 1
 | 0,u,h=>by rw [Lib.nDigits_small (by simpa using h)];omega
 | k + 1,u,h=>by
  by_cases h10:u < 10
  ·rw [Lib.nDigits_small h10];omega
  rw [Lib.nDigits_big h10]
  have:=aCc k (u / 10) (by rw [Nat.pow_succ] at h;omega)
  omega
theorem vC {n:Nat} (h:n ≤ 9223372036854775807):(Lib.decDigits n).length ≤ 19:=by
 rw [Lib.decDigits_length]
 exact aCc 18 n (by omega)
def digs (m:Nat):List UInt8:=if m=0 then [] else Lib.decDigits m
theorem aLx {m:Nat} (h:m ≠ 0):digs m=digs (m / 10) ++ [UInt8.ofNat (48 + m % 10)]:=by
 unfold digs
 rw [if_neg h]
 by_cases h10:m < 10
 ·rw [if_pos (by omega),Lib.decDigits_one h10,Nat.mod_eq_of_lt h10];rfl
 rw [if_neg (by omega)]
 conv=>lhs;rw [Lib.decDigits,dif_neg h10]
theorem aK7 (n:Nat) (h:n ≤ 9223372036854775807):eG n=some ⟨(Lib.decDigits n).toArray⟩:=by
 unfold eG
 by_cases h0:n=0
 ·subst h0
  rw [Lib.decDigits_one (by omega)];rfl
 have hne:((n:Int) == 0)=false:=by simp;omega
 have hneg:decide ((n:Int) < 0)=false:=by simp
 obtain ⟨r,h1,h2⟩:=dQ (f:=eW) (fun s:Int × ByteArray=>∃ m:Nat,s.1=m∧m ≤ n∧digs m ++ s.2.data.toList=Lib.decDigits n) (fun s=>s.1.toNat) (fun r=>r=⟨(Lib.decDigits n).toArray⟩) (by
  rintro ⟨i,s⟩ ⟨m,hi,hm,hs⟩
  simp only at hi hs
  subst hi
  by_cases hz:m=0
  ·right
   subst hz
   refine ⟨s,by simp [eW],?_⟩
   apply ba_ext
   rw [← hs];simp [digs]
  left
  have hb:((m:Int) != 0)=true:=by simp;omega
  have ht:Int.tmod (m:Int) 10=((m % 10:Nat):Int):=by rw [Int.tmod_eq_emod_of_nonneg (by omega)];omega
  have hd:Int.tdiv (m:Int) 10=((m / 10:Nat):Int):=by rw [Int.tdiv_eq_ediv_of_nonneg (by omega)];omega
  have hn0:decide (((m % 10:Nat):Int) < 0)=false:=by simp;omega
  have hlt:decide (((m % 10:Nat):Int) < 10)=true:=by simp;omega
  have hw:IntKind.wrap .u8 (IntKind.wrap .i64 (48 + ((m % 10:Nat):Int)))=((48 + m % 10:Nat):Int):=by
   rw [w64 (by omega) (by omega),aOo (by omega) (by omega)];omega
  have hsz:s.size ≤ 19:=by
   have e1:=congrArg List.length hs
   have e2:=vC h
   have e3:s.data.toList.length=s.size:=Array.length_toList
   simp only [List.length_append] at e1
   omega
  have hsz2:(oE [((48 + m % 10:Nat):Int)]).size=1:=rfl
  refine ⟨(((m / 10:Nat):Int),oE [((48 + m % 10:Nat):Int)] ++ s),?_,⟨m / 10,rfl,by omega,?_⟩,by simp only [Int.toNat_natCast];omega⟩
  ·simp only [eW,kN,hb,if_true,ht,hn0,Bool.false_eq_true,if_false,Option.bind_some,hlt,hw,hd]
   rw [aKq (by omega),w64 (by omega) (by omega)]
   rfl
  have hb2:(oE [((48 + m % 10:Nat):Int)]).data.toList=[UInt8.ofNat (48 + m % 10)]:=by
   simp only [oE,List.map_cons,List.map_nil,Int.toNat_natCast]
  rw [← hs,aLx hz]
  simp only
  rw [ByteArray.data_append,Array.toList_append,hb2,List.append_assoc]) ((n:Int),⟨#[]⟩) ⟨n,rfl,Nat.le_refl _,by simp [digs,h0]⟩
 rw [hne]
 simp only [Bool.false_eq_true,if_false]
 rw [h1,h2]
 simp only [Option.bind_some,hneg,Bool.false_eq_true,if_false]
def decB (n:Nat):ByteArray:=⟨(Lib.decDigits n).toArray⟩
theorem aG1 {n:Nat} (h:n ≤ 1048576):(decB n).size ≤ 19:=by
 show (Lib.decDigits n).toArray.size ≤ 19
 rw [List.size_toArray]
 exact vC (by omega)
theorem xW {n:Nat} (h:n ≤ 1048576):eG (n:Int)=some (decB n):=aK7 n (by omega)
theorem aIb {n:Nat} (h:n ≤ 1048576):jH (n:Int)=some (decB n):=by
 unfold jH strconv_Itoa
 rw [if_pos ⟨by omega,by omega⟩]
 simp only [Option.bind_some]
 unfold Lib.itoa decB
 rw [if_neg (by omega),Int.toNat_natCast]
def aFa (c:UInt8) (n:Nat):ByteArray:=⟨#[c]⟩ ++ decB n
theorem wK (c:UInt8) {n:Nat} (h:n ≤ 1048576):aJ9 (⟨#[c]⟩:ByteArray) (decB n)=some (aFa c n):=aKq (by
 have:=aG1 h
 have e:(ByteArray.mk #[c]).size=1:=rfl
 omega)
theorem uL (c:UInt8) {n:Nat} (h:n ≤ 1048576):(aFa c n).size ≤ 20:=by
 unfold aFa
 rw [ByteArray.size_append]
 have:=aG1 h
 have e:(ByteArray.mk #[c]).size=1:=rfl
 omega
end Go.OM
namespace Go.OM
def tJ (c:UInt8) (k:Int) (nm:ByteArray):ByteArray:=if k < 0 then nm else aFa c k.toNat
def aF2 (k:Int):Bool:=qG k || k == 13
theorem aJk (k:Int):(fF k).bind (fun r=>if r=true then some (k != 12) else some false)=some (aF2 k):=by
 unfold fF aF2 qG
 simp only [cF,Option.bind_some]
 by_cases h1:inB k 2 6=true
 ·have:=inB_iff.1 h1
  simp only [h1,if_true,Option.bind_some,Bool.true_or]
  have:(k != 12)=true:=by simp;omega
  rw [this]
 have h1':inB k 2 6=false:=by simpa using h1
 simp only [h1',Bool.false_eq_true,if_false,Option.bind_some,Bool.false_or]
 by_cases h2:inB k 12 15=true
 ·have:=inB_iff.1 h2
  rw [h2,if_pos rfl]
  have:k=12 ∨ k=13 ∨ k=14 ∨ k=15:=by omega
  rcases this with rfl | rfl | rfl | rfl<;>rfl
 have hn:¬ (12 ≤ k∧k ≤ 15):=fun h=>h2 (inB_iff.2 h)
 have h2':inB k 12 15=false:=by simpa using h2
 rw [h2']
 have e1:(k == 14)=false:=by simp;omega
 have e2:(k == 15)=false:=by simp;omega
 have e3:(k == 13)=false:=by simp;omega
 simp [e1,e2,e3]
theorem aJj (k:Int):(jA k).bind (fun r=>if r=true then some true else some (k == 13))=some (aF2 k):=by
 have hu:jA k=some (qG k):=by
  unfold jA qG
  by_cases h:k=2 ∨ k=3 ∨ k=4 ∨ k=5 ∨ k=6 ∨ k=14 ∨ k=15
  ·rcases h with rfl | rfl | rfl | rfl | rfl | rfl | rfl<;>rfl
  have e2:(k == 2)=false:=by simp;omega
  have e3:(k == 3)=false:=by simp;omega
  have e4:(k == 4)=false:=by simp;omega
  have e5:(k == 5)=false:=by simp;omega
  have e6:(k == 6)=false:=by simp;omega
  have e14:(k == 14)=false:=by simp;omega
  have e15:(k == 15)=false:=by simp;omega
  have hi:inB k 2 6=false:=by
   cases hh:inB k 2 6 with
   | false=>rfl
   | true=>have:=inB_iff.1 hh;omega
  rw [e2,e3,e4,e5,e6,e14,e15,hi]
  rfl
 rw [hu]
 unfold aF2
 cases qG k<;>rfl
theorem vF (l:List GVar) (nm:ByteArray) : -1 ≤ fE l nm∧fE l nm < l.length:=by
 unfold fE
 cases h:(List.range l.length).findSome? fun k=>match l[k]? with
  | some v=>if sEq v.Name nm=true then some (k:Int) else none
  | none=>none with
 | none=>simp only [Option.getD_none];omega
 | some z =>
  simp only [Option.getD_some]
  obtain ⟨k,hk,hz⟩:=List.exists_of_findSome?_eq_some h
  have:=List.mem_range.1 hk
  split at hz
  ·split at hz
   ·injection hz with hz;omega
   cases hz
  cases hz
theorem aHx (vars:List GVar) (hv:vars.length ≤ 1000) (nm:ByteArray):bF nm vars=some (tJ 118 (fE vars nm) nm):=by
 unfold bF tJ
 rw [pQ vars nm (by omega)]
 simp only [Option.bind_some]
 have hb:=vF vars nm
 by_cases h:fE vars nm < 0
 ·simp [h]
 rw [if_neg h]
 obtain ⟨n,hn⟩:=Int.eq_ofNat_of_zero_le (show 0 ≤ fE vars nm by omega)
 rw [hn] at hb ⊢
 have hd:decide (((n:Nat):Int) < 0)=false:=by simp
 simp only [hd,Bool.false_eq_true,if_false,aIb (show n ≤ 1048576 by omega),Option.bind_some,wK 118 (show n ≤ 1048576 by omega),Int.toNat_natCast]
def kC (vars:List GVar) (ns:List GNode) (e:Int):List GNode:=match ns[e.toNat]? with
 | some x=>if aF2 x.Kind=true then ns.set e.toNat ⟨x.Kind,x.Num,tJ 118 (fE vars x.Name) x.Name,x.Kids⟩ else ns
 | none=>ns
theorem tU (vars:List GVar) (ns:List GNode) (e:Int):(kC vars ns e).length=ns.length:=by
 unfold kC
 split
 ·split<;>simp
 rfl
theorem rP (vars:List GVar):∀ (r:List Int) (ns:List GNode),(r.foldl (kC vars) ns).length=ns.length
 | [],ns=>rfl
 | e :: r,ns=>by rw [List.foldl_cons,rP vars r,tU]
theorem aD9 {α:Type} {l:List α} {i:Nat} {x:α} (h:l[i]? = some x):l.set i x=l:=by
 obtain ⟨hlt,rfl⟩:=List.getElem?_eq_some_iff.1 h
 exact List.set_getElem_self hlt
theorem aAc (vars:List GVar) (hv:vars.length ≤ 1000) (Fs:List GFn) (n:Nat) (r:List Int) (hr:∀ e ∈ r,0 ≤ e∧e < n) (hrl:r.length ≤ 1048576) (ns:List GNode) (hn:ns.length=n) :
  aG (cN (fun a0=>bF a0 vars) r) (0,⟨ns,Fs⟩)=some ⟨r.foldl (kC vars) ns,Fs⟩:=by
 have:=aT r (fun (s:List GNode) k=>((k:Int),(⟨s,Fs⟩:GProgram))) (fun k s=>s.length=n) (fun s e=>.inl (kC vars s e)) (fun s=>(⟨s,Fs⟩:GProgram)) (cN (fun a0=>bF a0 vars) r) (fun s k hk hI=>by
  left
  obtain ⟨b0,b1⟩:=hr _ (List.getElem_mem hk)
  have hlt:(r[k]).toNat < s.length:=by omega
  refine ⟨_,rfl,?_,by rw [tU];exact hI⟩
  simp only [cN,aB hk,if_true,aD hk,cK b0 (show r[k] < s.length by omega),Option.bind_some,aJ hk hrl]
  have h1:=aJk (s[(r[k]).toNat]).Kind
  rw [h1]
  unfold kC
  rw [List.getElem?_eq_getElem hlt]
  simp only [Option.bind_some]
  cases aF2 (s[(r[k]).toNat]).Kind with
  | false=>rfl
  | true=>simp only [if_true,aHx vars hv,Option.bind_some,bV]) (fun s _=>by simp [cN]) ns hn
 rw [bB] at this
 exact this
theorem yS (vars:List GVar) (hv:vars.length ≤ 1000) (Fs:List GFn) (n:Nat) (r:List Int) (hr:∀ e ∈ r,0 ≤ e∧e < n) (hrl:r.length ≤ 1048576) (ns:List GNode) (hn:ns.length=n) :
  aG (cL vars r) (0,⟨ns,Fs⟩)=some ⟨r.foldl (kC vars) ns,Fs⟩:=by
 have:=aT r (fun (s:List GNode) k=>((k:Int),(⟨s,Fs⟩:GProgram))) (fun k s=>s.length=n) (fun s e=>.inl (kC vars s e)) (fun s=>(⟨s,Fs⟩:GProgram)) (cL vars r) (fun s k hk hI=>by
  left
  obtain ⟨b0,b1⟩:=hr _ (List.getElem_mem hk)
  have hlt:(r[k]).toNat < s.length:=by omega
  refine ⟨_,rfl,?_,by rw [tU];exact hI⟩
  simp only [cL,aB hk,if_true,aD hk,cK b0 (show r[k] < s.length by omega),Option.bind_some,aJ hk hrl]
  have h1:=aJj (s[(r[k]).toNat]).Kind
  rw [h1]
  unfold kC
  have hg:s[(r[k]).toNat]? = some s[(r[k]).toNat]:=List.getElem?_eq_getElem hlt
  rw [hg]
  simp only [Option.bind_some]
  cases aF2 (s[(r[k]).toNat]).Kind with
  | false=>rfl
  | true =>
   simp only [if_true,tX _ _ (show vars.length ≤ 1048576 by omega),Option.bind_some]
   have hb:=vF vars (s[(r[k]).toNat]).Name
   unfold tJ
   by_cases h:fE vars (s[(r[k]).toNat]).Name < 0
   ·have hd:decide (fE vars (s[(r[k]).toNat]).Name ≥ 0)=false:=by simp;omega
    simp only [hd,Bool.false_eq_true,if_false,if_pos h]
    rw [show (⟨(s[(r[k]).toNat]).Kind,(s[(r[k]).toNat]).Num,(s[(r[k]).toNat]).Name,(s[(r[k]).toNat]).Kids⟩:GNode)=s[(r[k]).toNat] from rfl,aD9 hg]
   have hd:decide (fE vars (s[(r[k]).toNat]).Name ≥ 0)=true:=by simp;omega
   rw [if_neg h]
   obtain ⟨m,hm⟩:=Int.eq_ofNat_of_zero_le (show 0 ≤ fE vars (s[(r[k]).toNat]).Name by omega)
   rw [hm] at hb ⊢
   have hd:decide (((m:Nat):Int) ≥ 0)=true:=by simp
   simp only [hd,if_true,xW (show m ≤ 1048576 by omega),Option.bind_some,wK 118 (show m ≤ 1048576 by omega),Int.toNat_natCast,bV]) (fun s _=>by simp [cL]) ns hn
 rw [bB] at this
 exact this
end Go.OM
namespace Go.OM
theorem yK {l:List GVar} {nm:ByteArray} {j:Nat} (hj:j < l.length) (he:sEq l[j].Name nm=true) (hno:∀ (i:Nat) (hi:i < j),sEq (l[i]'(by omega)).Name nm=false):fE l nm=j:=by
 unfold fE
 have key:∀ (g:Nat→Option Int),(∀ i,i < j→g i=none)→g j=some (j:Int)→((List.range l.length).findSome? g).getD (-1)=j:=by
  intro g h1 h2
  have:(List.range l.length).findSome? g=some (j:Int):=by
   rw [List.findSome?_eq_some_iff]
   refine ⟨List.range j,j,(List.range (l.length - j - 1)).map (fun i=>j + 1 + i),?_,h2,fun k hk=>h1 k (List.mem_range.1 hk)⟩
   have e:l.length=(j + 1) + (l.length - j - 1):=by omega
   rw [e,List.range_add,List.range_succ]
   simp only [List.append_assoc,List.cons_append,List.nil_append]
   congr 4
   omega
  rw [this]
  rfl
 exact key _ (fun i hi=>by simp [List.getElem?_eq_getElem (show i < l.length by omega),hno i hi]) (by simp [List.getElem?_eq_getElem hj,he])
theorem aMe {l:List GVar} {nm:ByteArray} {j:Nat} (h:fE l nm=j) {i:Nat} (hi:i < j) (hl:i < l.length):sEq l[i].Name nm=false:=by
 cases he:sEq l[i].Name nm with
 | false=>rfl
 | true =>
  exfalso
  -- the first that is alike stands no later than i
  have key:∀ (n:Nat) (hn:n < l.length),sEq l[n].Name nm=true→fE l nm ≤ n:=by
   intro n
   induction n using Nat.strongRecOn with
   | _ n ih =>
    intro hn hen
    by_cases hex:∃ m,∃ hm:m < n,sEq (l[m]'(by omega)).Name nm=true
    ·obtain ⟨m,hm,hme⟩:=hex
     have:=ih m hm (by omega) hme
     omega
    have:=yK hn hen (fun i hi=>by
     cases hc:sEq (l[i]'(by omega)).Name nm with
     | false=>rfl
     | true=>exact (hex ⟨i,hi,hc⟩).elim)
    omega
  have:=key i hl he
  omega
theorem aN2 (x:ByteArray):sEq x x=true:=by unfold sEq;simp
def PD (l:List GParam):Prop:=∀ (i j:Nat) (hi:i < j) (hj:j < l.length),sEq (l[i]'(by omega)).Name l[j].Name=false
theorem aFt (p:GProgram):∀ (l:List Int) (s:List GVar),∃ t,l.foldl (yP p) s=s ++ t
 | [],s=>⟨[],by simp⟩
 | e :: l,s=>by
  have h1:∃ t,yP p s e=s ++ t:=by
   unfold yP
   split
   ·split
    ·exact ⟨_,rfl⟩
    exact ⟨[],by simp⟩
   exact ⟨[],by simp⟩
  obtain ⟨t,ht⟩:=h1
  obtain ⟨u,hu⟩:=aFt p l (s ++ t)
  exact ⟨t ++ u,by rw [List.foldl_cons,ht,hu,List.append_assoc]⟩
theorem tS (p:GProgram) (f:GFn) {i:Nat} (hi:i < f.Params.length):∃ h:i < (gV p f).length,(gV p f)[i].Name=f.Params[i].Name:=by
 unfold gV
 obtain ⟨t,ht⟩:=aFt p (dA p.Nodes f.Body) (f.Params.map fun x=>(⟨x.Name,x.Typ,-1⟩:GVar))
 simp only [ht]
 refine ⟨by simp only [List.length_append,List.length_map];omega,?_⟩
 rw [List.getElem_append_left (by rw [List.length_map];exact hi)]
 simp
theorem aGe (p:GProgram) (f:GFn) (hpd:PD f.Params) {i:Nat} (hi:i < f.Params.length):fE (gV p f) f.Params[i].Name=i:=by
 obtain ⟨h1,h2⟩:=tS p f hi
 refine yK h1 (by rw [h2];exact aN2 _) fun j hj=>?_
 obtain ⟨h3,h4⟩:=tS p f (show j < f.Params.length by omega)
 rw [h4]
 exact hpd j i hj hi
theorem pd_of (p:GProgram) (f:GFn) (h:sX (gV p f)=true):PD f.Params:=by
 intro i j hij hj
 obtain ⟨h1,h2⟩:=tS p f hj
 obtain ⟨h3,h4⟩:=tS p f (show i < f.Params.length by omega)
 unfold sX at h
 have:=List.all_eq_true.1 h j (List.mem_range.2 h1)
 rw [List.getElem?_eq_getElem h1] at this
 simp only [beq_iff_eq] at this
 have:=aMe this hij h3
 rw [h2,h4] at this
 exact this
def xG (l:List GParam) (k:Nat):List GParam:=(List.range k).map fun i=>(⟨aFa 118 i,match l[i]? with | some x=>x.Typ | none=>0⟩:GParam)
theorem yB (l:List GParam) (k:Nat):(xG l k).length=k:=by simp [xG]
theorem aEy {l:List GParam} {k:Nat} (h:k < l.length):xG l (k + 1)=xG l k ++ [⟨aFa 118 k,l[k].Typ⟩]:=by
 unfold xG
 rw [List.range_succ,List.map_append]
 simp [List.getElem?_eq_getElem h]
def wZ (f:GFn) (ps:List GParam):GFn:=⟨f.Name,ps,f.Res,f.Body,f.Ret⟩
theorem aDa {α:Type} {a b:List α} {k:Nat} {y:α} (ha:a.length=k) (hb:k < b.length):(a ++ b.drop k).set k y=a ++ [y] ++ b.drop (k + 1):=by
 rw [List.set_append_right _ _ (by omega),ha,Nat.sub_self,List.append_assoc]
 congr 1
 rw [List.drop_eq_getElem_cons hb]
 rfl
theorem aE0 {α:Type} {a b:List α} {k:Nat} (ha:a.length=k) (hb:k < b.length):∃ h:k < (a ++ b.drop k).length,(a ++ b.drop k)[k]=b[k]:=by
 refine ⟨by simp only [List.length_append,List.length_drop];omega,?_⟩
 rw [List.getElem_append_right (by omega)]
 simp [ha]
theorem xN (vars:List GVar) (hv:vars.length ≤ 1000) (ns:List GNode) (Fs:List GFn) (fn:Nat) (hfn:fn < Fs.length) (hpl:Fs[fn].Params.length ≤ 1000)
  (hva:∀ (i:Nat) (hi:i < Fs[fn].Params.length),fE vars Fs[fn].Params[i].Name=i) :
  aG (dS fn (fun a0=>bF a0 vars) Fs[fn]) (0,⟨ns,Fs⟩)=some ⟨ns,Fs.set fn (wZ Fs[fn] (xG Fs[fn].Params Fs[fn].Params.length))⟩:=by
 have:=aT Fs[fn].Params (fun (s:Unit) k=>((k:Int),(⟨ns,Fs.set fn (wZ Fs[fn] (xG Fs[fn].Params k ++ Fs[fn].Params.drop k))⟩:GProgram))) (fun k s=>True) (fun s e=>.inl ()) (fun s=>(⟨ns,Fs.set fn (wZ Fs[fn] (xG Fs[fn].Params Fs[fn].Params.length ++ Fs[fn].Params.drop Fs[fn].Params.length))⟩:GProgram)) (dS fn (fun a0=>bF a0 vars) Fs[fn]) (fun s k hk hI=>by
  left
  refine ⟨(),rfl,?_,trivial⟩
  have hl:fn < (Fs.set fn (wZ Fs[fn] (xG Fs[fn].Params k ++ Fs[fn].Params.drop k))).length:=by rw [List.length_set];exact hfn
  obtain ⟨g1,g2⟩:=aE0 (a:=xG Fs[fn].Params k) (b:=Fs[fn].Params) (yB _ k) hk
  have hgi:aM (xG Fs[fn].Params k ++ Fs[fn].Params.drop k) (k:Int)=some Fs[fn].Params[k]:=by rw [aD g1,g2]
  have hne:tJ 118 (k:Int) Fs[fn].Params[k].Name=aFa 118 k:=by unfold tJ;rw [if_neg (by omega),Int.toNat_natCast]
  have hgf:aM (Fs.set fn (wZ Fs[fn] (xG Fs[fn].Params k ++ Fs[fn].Params.drop k))) (fn:Int)=some (wZ Fs[fn] (xG Fs[fn].Params k ++ Fs[fn].Params.drop k)):=by rw [aD hl,List.getElem_set_self]
  have hwp:∀ ps,(wZ Fs[fn] ps).Params=ps:=fun _=>rfl
  simp only [dS,aB hk,if_true,hgf,hwp,hgi,Option.bind_some,aHx vars hv,hva k hk,hne,bV,Int.toNat_natCast,List.set_set,aDa (yB Fs[fn].Params k) hk,← aEy hk,aJ hk (show Fs[fn].Params.length ≤ 1048576 by omega)]
  rfl) (fun s _=>by simp [dS]) () trivial
 rw [bB] at this
 have h0:Fs.set fn (wZ Fs[fn] (xG Fs[fn].Params 0 ++ Fs[fn].Params.drop 0))=Fs:=by
  have:wZ Fs[fn] (xG Fs[fn].Params 0 ++ Fs[fn].Params.drop 0)=Fs[fn]:=by simp [wZ,xG]
  rw [this,List.set_getElem_self]
 simp only [h0,List.drop_length,List.append_nil] at this
 exact this
theorem xC (ns:List GNode) (Fs:List GFn) (fn:Nat) (hfn:fn < Fs.length) (hpl:Fs[fn].Params.length ≤ 1000) :
  aG (dN fn ⟨ns,Fs⟩) ([],0)=some (xG Fs[fn].Params Fs[fn].Params.length):=by
 have:=aT Fs[fn].Params (fun (s:Unit) k=>(xG Fs[fn].Params k,(k:Int))) (fun k s=>True) (fun s e=>.inl ()) (fun s=>xG Fs[fn].Params Fs[fn].Params.length) (dN fn ⟨ns,Fs⟩) (fun s k hk hI=>by
  left
  refine ⟨(),rfl,?_,trivial⟩
  have hk1:k ≤ 1048576:=by omega
  simp only [dN,aD hfn,Option.bind_some,aB hk,if_true,aD hk,xW hk1,wK 118 hk1,aHg (show (xG Fs[fn].Params k).length ≤ 1048576 by rw [yB];omega) (show 24 ≤ 64 by omega),← aEy hk,aJ hk (show Fs[fn].Params.length ≤ 1048576 by omega)]) (fun s _=>by simp [dN,aD hfn]) () trivial
 rw [bB] at this
 exact this
noncomputable def zT (p:GProgram) (fn:Nat):GProgram:=match p.Fns[fn]? with
 | some f=>⟨(nN p fn).foldl (kC (gV p f)) p.Nodes,p.Fns.set fn (wZ f (xG f.Params f.Params.length))⟩
 | none=>p
theorem aJf (p:GProgram) (h:GProgram.le 1048576 p) (hn:p.Nodes.length ≤ 300) (hF:p.Fns.length ≤ 1000) (fn:Nat) (hfn:fn < p.Fns.length) (hp:p.Fns[fn].Params.length ≤ 3) (hpd:PD p.Fns[fn].Params) :
  iD p fn=some (zT p fn)∧iZ p fn=some (zT p fn):=by
 obtain ⟨v1,v2⟩:=yJ p hn hF fn hfn hp
 have hvl:=tR p p.Fns[fn] hp
 have hnl:(nN p fn).length ≤ 1048576:=by have:=aN0 p.Nodes.length (fun j=>∃ r ∈ lC p fn,(j:Int) ∈ dA p.Nodes r);unfold nN;omega
 have hnb:∀ e ∈ nN p fn,0 ≤ e∧e < (p.Nodes.length:Int):=fun e he=>aJe he
 have hva:=fun (i:Nat) (hi:i < p.Fns[fn].Params.length)=>aGe p p.Fns[fn] hpd hi
 unfold zT
 rw [List.getElem?_eq_getElem hfn]
 constructor
 ·unfold iD nO
  rw [v1]
  simp only [Option.bind_some,(iS p h).1,aAk p (by omega) (by omega)]
  rw [show aG (cN (fun a0=>bF a0 (gV p p.Fns[fn])) (nN p fn)) (0,p)=_ from aAc (gV p p.Fns[fn]) (by omega) p.Fns p.Nodes.length (nN p fn) hnb hnl p.Nodes rfl]
  simp only [Option.bind_some,aD hfn]
  rw [xN (gV p p.Fns[fn]) (by omega) _ p.Fns fn hfn (by omega) hva]
  rfl
 unfold iZ
 rw [v2]
 simp only [Option.bind_some,aB2 p (show p.Nodes.length ≤ 1048576 by omega) (show p.Fns.length ≤ 1048576 by omega)]
 rw [show aG (cL (gV p p.Fns[fn]) (nN p fn)) (0,p)=_ from yS (gV p p.Fns[fn]) (by omega) p.Fns p.Nodes.length (nN p fn) hnb hnl p.Nodes rfl]
 simp only [Option.bind_some]
 rw [xC _ p.Fns fn hfn (by omega)]
 simp only [Option.bind_some,aD hfn,bV,Int.toNat_natCast]
 rfl
end Go.OM
namespace Go.OM
theorem aJh {c:UInt8} {k:Int} {nm:ByteArray} (hk:k ≤ 1048576) (h:nm.size ≤ 1048576):(tJ c k nm).size ≤ 1048576:=by
 unfold tJ
 split
 ·exact h
 have:=uL c (n:=k.toNat) (by omega)
 omega
theorem aMh (vars:List GVar) (hv:vars.length ≤ 1000) (ns:List GNode) (h:NL ns) (e:Int):NL (kC vars ns e):=by
 unfold kC
 split
 ·rename_i x hx
  split
  ·intro y hy
   rcases List.mem_or_eq_of_mem_set hy with hy | rfl
   ·exact h y hy
   have hx2:=h x (List.mem_of_getElem? hx)
   have hb:=vF vars x.Name
   exact ⟨aJh (by omega) hx2.1,hx2.2⟩
  exact h
 exact h
theorem aIh (vars:List GVar) (hv:vars.length ≤ 1000):∀ (r:List Int) (ns:List GNode),NL ns→NL (r.foldl (kC vars) ns)
 | [],ns,h=>h
 | e :: r,ns,h=>by rw [List.foldl_cons];exact aIh vars hv r _ (aMh vars hv ns h e)
theorem aNf (p:GProgram) (h:GProgram.le 1048576 p) (hn:p.Nodes.length ≤ 300) (fn:Nat) (hfn:fn < p.Fns.length) (hp:p.Fns[fn].Params.length ≤ 3):GProgram.le 1048576 (zT p fn):=by
 obtain ⟨⟨h1,h2⟩,h3,h4⟩:=h
 have hvl:=tR p p.Fns[fn] hp
 unfold zT
 rw [List.getElem?_eq_getElem hfn]
 refine ⟨⟨by simp only [rP];exact h1,aIh _ (by omega) _ _ h2⟩,by simp only [List.length_set];exact h3,fun f hf=>?_⟩
 simp only at hf
 rcases List.mem_or_eq_of_mem_set hf with hf | rfl
 ·exact h4 f hf
 refine ⟨(h4 _ (List.getElem_mem hfn)).1,by show (xG _ _).length ≤ _;rw [yB];omega,fun x hx=>?_⟩
 change x ∈ xG _ _ at hx
 unfold xG at hx
 obtain ⟨i,hi,rfl⟩:=List.mem_map.1 hx
 have:=List.mem_range.1 hi
 have:=uL 118 (n:=i) (by omega)
 show (aFa 118 i).size ≤ _
 omega
theorem aNh {p:GProgram} (h:kF p=true) {i:Nat} (hi:i < p.Fns.length):PD p.Fns[i].Params:=by
 unfold kF at h
 rw [Bool.and_eq_true] at h
 have hf:=List.all_eq_true.1 h.2 i (List.mem_range.2 hi)
 unfold oC at hf
 rw [List.getElem?_eq_getElem hi] at hf
 simp only [Bool.and_eq_true] at hf
 exact pd_of p _ hf.1
theorem kL {p:GProgram} (h:kF p=true):sJ p=true:=by
 unfold kF at h
 rw [Bool.and_eq_true] at h
 exact h.1
end Go.OM
namespace Go.OM
def rootOf (f:GFn) (r:Int):Prop:=r=f.Body ∨ (r=f.Ret∧0 ≤ f.Ret)
theorem cover (p:GProgram) (h:sJ p=true):∀ (d k:Nat),k < p.Nodes.length→p.Nodes.length - k ≤ d→∃ (fn:Nat) (hfn:fn < p.Fns.length) (r:Int),rootOf p.Fns[fn] r∧0 ≤ r∧r < p.Nodes.length∧Reach (pM p.Nodes) r.toNat k:=by
 obtain ⟨b1,b2,b3,b4,hu⟩:=lE h
 intro d
 induction d with
 | zero=>intro k hk hd;omega
 | succ d ih =>
  intro k hk hd
  have h2:=h
  unfold sJ at h2
  simp only [Bool.and_eq_true] at h2
  have hused:=List.all_eq_true.1 h2.2.2.2.2 k (List.mem_range.2 hk)
  by_cases hc:(kD p).count (k:Int)=0
  ·rw [hc] at hused
   have hkc:0 < kc p.Nodes k:=by
    unfold yL at hused
    simp only [Bool.or_eq_true,beq_iff_eq] at hused
    omega
   unfold kc at hkc
   have hm:(k:Int) ∈ aFk p.Nodes:=List.count_pos_iff.1 hkc
   unfold aFk at hm
   obtain ⟨x,hx,hkx⟩:=List.mem_flatMap.1 hm
   obtain ⟨m,hml,rfl⟩:=List.mem_iff_getElem.1 hx
   have hb:=eB (gP hu hml).1 (List.getElem?_eq_getElem hml) _ hkx
   obtain ⟨fn,hfn,r,hr,r0,r1,hre⟩:=ih m hml (by omega)
   refine ⟨fn,hfn,r,hr,r0,r1,?_⟩
   have:=Reach.step hre (m:=(k:Int)) (by rw [uO hml];exact hkx)
   simpa using this
  have hm:(k:Int) ∈ kD p:=List.count_pos_iff.1 (by omega)
  unfold kD at hm
  obtain ⟨f,hf,hkf⟩:=List.mem_flatMap.1 hm
  obtain ⟨fn,hfn,rfl⟩:=List.mem_iff_getElem.1 hf
  refine ⟨fn,hfn,(k:Int),?_,by omega,by omega,by rw [Int.toNat_natCast];exact Reach.base⟩
  unfold kZ at hkf
  split at hkf
  ·simp only [List.mem_singleton] at hkf;exact .inl hkf
  simp only [List.mem_cons,List.not_mem_nil,or_false] at hkf
  rcases hkf with e | e
  ·exact .inl e
  exact .inr ⟨e,by omega⟩
theorem aIq (p:GProgram) (h:kF p=true) {k:Nat} {x:GNode} (hx:p.Nodes[k]? = some x) (h12:x.Kind=12):0 ≤ fK p x.Name:=by
 have hpr:=kL h
 obtain ⟨b1,b2,b3,b4,hu⟩:=lE hpr
 obtain ⟨hk,hxe⟩:=List.getElem?_eq_some_iff.1 hx
 obtain ⟨fn,hfn,r,hr,r0,r1,hre⟩:=cover p hpr _ k hk (Nat.le_refl _)
 have hf:oC p fn=true:=by
  unfold kF at h
  rw [Bool.and_eq_true] at h
  exact List.all_eq_true.1 h.2 fn (List.mem_range.2 hfn)
 unfold oC at hf
 rw [List.getElem?_eq_getElem hfn] at hf
 simp only [Bool.and_eq_true] at hf
 obtain ⟨_,hsb,hsr⟩:=hf
 have hs:∃ nm,eX p fn 10 r nm=true:=by
  rcases hr with rfl | ⟨rfl,h0⟩
  ·exact ⟨_,hsb⟩
  rw [if_pos h0] at hsr;exact ⟨_,hsr⟩
 obtain ⟨nm0,hs⟩:=hs
 have hd:=(gP hu (show r.toNat < p.Nodes.length by omega)).2
 rw [show r=((r.toNat:Nat):Int) by omega] at hs
 obtain ⟨g1,D',nm,g2,g3⟩:=aJ8 p fn hu r.toNat (by omega) 10 nm0 hd hs hre
 have hp:=fL p.Nodes k
 cases D' with
 | zero=>omega
 | succ D' =>
  simp only [eX,Int.toNat_natCast,hx,Bool.and_eq_true] at g3
  have hh:=g3.1
  unfold aBt at hh
  rw [Bool.and_eq_true] at hh
  have hc:=hh.2
  have e12:(x.Kind == 12)=true:=by simpa using h12
  rw [e12] at hc
  simp only [Bool.not_true,Bool.false_or] at hc
  unfold aCn at hc
  rw [Bool.and_eq_true] at hc
  exact (inB_iff.1 hc.1).1
end Go.OM
namespace Go.OM
noncomputable def aR (p:GProgram):Nat→GProgram
 | 0=>p
 | k + 1=>zT (aR p k) k
structure NInv (p q:GProgram) (k:Nat):Prop where
 le:GProgram.le 1048576 q
 nl:q.Nodes.length=p.Nodes.length
 fl:q.Fns.length=p.Fns.length
 same:∀ j,k ≤ j→q.Fns[j]? = p.Fns[j]?
 nm:∀ j (h:j < q.Fns.length) (h2:j < p.Fns.length),q.Fns[j].Name=p.Fns[j].Name
 nd:∀ j (h:j < q.Nodes.length) (h2:j < p.Nodes.length),q.Nodes[j].Kind=p.Nodes[j].Kind∧(p.Nodes[j].Kind=12→q.Nodes[j].Name=p.Nodes[j].Name)
theorem aMg (vars:List GVar) (ns:List GNode) (e:Int) (j:Nat) (h:j < ns.length) (h2:j < (kC vars ns e).length):(kC vars ns e)[j].Kind=ns[j].Kind∧(ns[j].Kind=12→(kC vars ns e)[j].Name=ns[j].Name):=by
 have hcase:kC vars ns e=ns ∨ ∃ x:GNode,ns[e.toNat]? = some x∧aF2 x.Kind=true∧kC vars ns e=ns.set e.toNat ⟨x.Kind,x.Num,tJ 118 (fE vars x.Name) x.Name,x.Kids⟩:=by
  unfold kC
  split
  ·rename_i x hx
   split
   ·rename_i hk;exact .inr ⟨x,hx,hk,rfl⟩
   exact .inl rfl
  exact .inl rfl
 generalize kC vars ns e=m at h2 hcase ⊢
 rcases hcase with rfl | ⟨x,hx,hk,rfl⟩
 ·exact ⟨rfl,fun _=>rfl⟩
 obtain ⟨hl,rfl⟩:=List.getElem?_eq_some_iff.1 hx
 by_cases he:e.toNat=j
 ·subst he
  refine ⟨by simp,fun h12=>?_⟩
  rw [h12] at hk
  cases hk
 exact ⟨by simp [List.getElem_set_ne he],fun _=>by simp [List.getElem_set_ne he]⟩
theorem aIg (vars:List GVar):∀ (r:List Int) (ns:List GNode) (j:Nat) (h:j < ns.length) (h2:j < (r.foldl (kC vars) ns).length),(r.foldl (kC vars) ns)[j].Kind=ns[j].Kind∧(ns[j].Kind=12→(r.foldl (kC vars) ns)[j].Name=ns[j].Name)
 | [],ns,j,h,h2=>⟨rfl,fun _=>rfl⟩
 | e :: r,ns,j,h,h2=>by
  have h3:j < (kC vars ns e).length:=by rw [tU];exact h
  obtain ⟨a1,a2⟩:=aMg vars ns e j h h3
  have h4:j < (r.foldl (kC vars) (kC vars ns e)).length:=by rw [rP];exact h3
  obtain ⟨b1,b2⟩:=aIg vars r (kC vars ns e) j h3 h4
  simp only [List.foldl_cons]
  exact ⟨b1.trans a1,fun h12=>(b2 (by rw [a1];exact h12)).trans (a2 h12)⟩
theorem zS (p q:GProgram) (h:kF p=true) {k:Nat} (hk:k < p.Fns.length) (H:NInv p q k):NInv p (zT q k) (k + 1)∧iD q k=some (zT q k)∧iZ q k=some (zT q k):=by
 obtain ⟨b1,b2,b3,b4,hu⟩:=lE (kL h)
 have hkq:k < q.Fns.length:=by rw [H.fl];exact hk
 have he:q.Fns[k]=p.Fns[k]:=by
  have:=H.same k (Nat.le_refl _)
  rw [List.getElem?_eq_getElem hkq,List.getElem?_eq_getElem hk] at this
  injection this
 obtain ⟨f1,f2,f3,f4,f5,f6⟩:=aE3 (kL h) hk
 have hp:q.Fns[k].Params.length ≤ 3:=by rw [he];exact f1
 have hpd:PD q.Fns[k].Params:=by rw [he];exact aNh h hk
 obtain ⟨e1,e2⟩:=aJf q H.le (by rw [H.nl];omega) (by rw [H.fl];omega) k hkq hp hpd
 refine ⟨?_,e1,e2⟩
 have hle:=aNf q H.le (by rw [H.nl];omega) k hkq hp
 have hv:zT q k=⟨(nN q k).foldl (kC (gV q q.Fns[k])) q.Nodes,q.Fns.set k (wZ q.Fns[k] (xG q.Fns[k].Params q.Fns[k].Params.length))⟩:=by
  unfold zT;rw [List.getElem?_eq_getElem hkq]
 refine ⟨hle,by rw [hv];simp only [rP];exact H.nl,by rw [hv];simp only [List.length_set];exact H.fl,fun j hj=>?_,fun j hj hj2=>?_,fun j hj hj2=>?_⟩
 ·rw [hv]
  simp only
  rw [List.getElem?_set_ne (by omega)]
  exact H.same j (by omega)
 ·simp only [hv] at hj ⊢
  by_cases e:k=j
  ·subst e
   rw [List.getElem_set_self]
   exact H.nm k hkq hk
  rw [List.getElem_set_ne e]
  exact H.nm j (by rw [List.length_set] at hj;exact hj) hj2
 simp only [hv] at hj ⊢
 have h3:j < q.Nodes.length:=by rw [rP] at hj;exact hj
 obtain ⟨a1,a2⟩:=aIg (gV q q.Fns[k]) (nN q k) q.Nodes j h3 hj
 obtain ⟨c1,c2⟩:=H.nd j h3 hj2
 exact ⟨a1.trans c1,fun h12=>(a2 (by rw [c1];exact h12)).trans (c2 h12)⟩
theorem ninv (p:GProgram) (hle:GProgram.le 1048576 p) (h:kF p=true):∀ k,k ≤ p.Fns.length→NInv p (aR p k) k
 | 0,_=>⟨hle,rfl,rfl,fun _ _=>rfl,fun _ _ _=>rfl,fun _ _ _=>⟨rfl,fun _=>rfl⟩⟩
 | k + 1,hk=>(zS p _ h (by omega) (ninv p hle h k (by omega))).1
def nF (p:GProgram) (x:GNode):GNode:=if (x.Kind == 12)=true then ⟨x.Kind,x.Num,aFa 102 (fK p x.Name).toNat,x.Kids⟩ else x
def zU {α:Type} (g:α→α) (l:List α) (k:Nat):List α:=(l.take k).map g ++ l.drop k
theorem aI3 {α:Type} (g:α→α) (l:List α) {k:Nat} (h:k < l.length):∃ h2:k < (zU g l k).length,(zU g l k)[k]=l[k]:=aE0 (a:=(l.take k).map g) (b:=l) (by simp;omega) h
theorem aI2 {α:Type} (g:α→α) (l:List α) {k:Nat} (h:k < l.length):(zU g l k).set k (g l[k])=zU g l (k + 1):=by
 unfold zU
 rw [aDa (by simp;omega) h,List.take_add_one,List.getElem?_eq_getElem h,List.map_append]
 rfl
theorem aI4 {α:Type} (g:α→α) (l:List α):zU g l l.length=l.map g:=by simp [zU]
theorem aF7 {α:Type} (g:α→α) (l:List α):zU g l 0=l:=by simp [zU]
def aE2 (l:List GFn) (k:Nat):List GFn:=((List.range k).map fun i=>match l[i]? with | some f=>(⟨aFa 102 i,f.Params,f.Res,f.Body,f.Ret⟩:GFn) | none=>⟨ByteArray.empty,[],0,0,0⟩) ++ l.drop k
theorem aNn (l:List GFn) {k:Nat} (h:k ≤ l.length):(aE2 l k).length=l.length:=by unfold aE2;simp;omega
theorem aIj (l:List GFn) {k:Nat} (h:k < l.length):∃ h2:k < (aE2 l k).length,(aE2 l k)[k]=l[k]:=aE0 (by simp) h
theorem aIi (l:List GFn) {k:Nat} (h:k < l.length):(aE2 l k).set k ⟨aFa 102 k,l[k].Params,l[k].Res,l[k].Body,l[k].Ret⟩=aE2 l (k + 1):=by
 unfold aE2
 rw [aDa (by simp) h,List.range_succ,List.map_append]
 simp [List.getElem?_eq_getElem h]
theorem aCh (p:GProgram) (hF:p.Fns.length ≤ 1000) (nm:ByteArray):bH nm p=some (tJ 102 (fK p nm) nm):=by
 unfold bH tJ
 rw [nP p nm (by omega)]
 simp only [Option.bind_some]
 rcases rQ p nm with h | ⟨h,h2⟩
 ·rw [h];rfl
 obtain ⟨n,hn⟩:=Int.eq_ofNat_of_zero_le h
 rw [hn] at h2 ⊢
 have hd:decide (((n:Nat):Int) < 0)=false:=by simp
 simp only [hd,Bool.false_eq_true,if_false,aIb (show n ≤ 1048576 by omega),Option.bind_some,wK 102 (show n ≤ 1048576 by omega),Int.toNat_natCast]
 rw [if_neg (by omega)]
noncomputable def aJg (p:GProgram):GProgram:=⟨(aR p p.Fns.length).Nodes.map (nF p),aE2 (aR p p.Fns.length).Fns p.Fns.length⟩
theorem aB5 (p:GProgram) (hle:GProgram.le 1048576 p) (h:kF p=true):dB p=some (aJg p):=by
 obtain ⟨b1,b2,b3,b4,hu⟩:=lE (kL h)
 obtain ⟨c1,c2⟩:=iS p hle
 unfold dB
 rw [gM p (by omega) (by omega),c2]
 simp only [Option.bind_some,h,Bool.not_true,Bool.false_eq_true,if_false]
 have l1:=aT p.Fns (fun (s:Unit) k=>((k:Int),aR p k)) (fun k s=>True) (fun s e=>.inl ()) (fun s=>aR p p.Fns.length) (cE p) (fun s k hk hI=>by
  left
  refine ⟨(),rfl,?_,trivial⟩
  obtain ⟨_,_,e2⟩:=zS p _ h hk (ninv p hle h k (by omega))
  simp only [cE,aB hk,if_true,e2,Option.bind_some,aJ hk (show p.Fns.length ≤ 1048576 by omega)]
  rfl) (fun s _=>by simp [cE]) () trivial
 rw [bB] at l1
 rw [show aG (cE p) (0,p)=_ from l1]
 simp only [Option.bind_some]
 have H:=ninv p hle h p.Fns.length (Nat.le_refl _)
 have l2:=aT p.Nodes (fun (s:Unit) k=>((k:Int),(⟨zU (nF p) (aR p p.Fns.length).Nodes k,(aR p p.Fns.length).Fns⟩:GProgram))) (fun k s=>True) (fun s e=>.inl ()) (fun s=>(⟨zU (nF p) (aR p p.Fns.length).Nodes p.Nodes.length,(aR p p.Fns.length).Fns⟩:GProgram)) (cD p) (fun s k hk hI=>by
  left
  refine ⟨(),rfl,?_,trivial⟩
  have hkq:k < (aR p p.Fns.length).Nodes.length:=by rw [H.nl];exact hk
  obtain ⟨d1,d2⟩:=H.nd k hkq hk
  obtain ⟨g1,g2⟩:=aI3 (nF p) (aR p p.Fns.length).Nodes hkq
  have hg:aM (zU (nF p) (aR p p.Fns.length).Nodes k) (k:Int)=some (aR p p.Fns.length).Nodes[k]:=by rw [aD g1,g2]
  have hs:=aI2 (nF p) (aR p p.Fns.length).Nodes hkq
  have hc:nF p (aR p p.Fns.length).Nodes[k]=if ((aR p p.Fns.length).Nodes[k].Kind == 12)=true then ⟨(aR p p.Fns.length).Nodes[k].Kind,(aR p p.Fns.length).Nodes[k].Num,aFa 102 (fK p (aR p p.Fns.length).Nodes[k].Name).toNat,(aR p p.Fns.length).Nodes[k].Kids⟩ else (aR p p.Fns.length).Nodes[k]:=rfl
  rw [hc] at hs
  simp only [cD,aB hk,if_true,aD hk,Option.bind_some,aJ hk (show p.Nodes.length ≤ 1048576 by omega)]
  cases e12:(p.Nodes[k].Kind == 12) with
  | true =>
   have e:=d2 (by simpa using e12)
   rw [d1,e12] at hs
   simp only [if_true] at hs
   have hge:=aIq p h (List.getElem?_eq_getElem hk) (by simpa using e12)
   rw [e] at hs
   rcases rQ p p.Nodes[k].Name with hb | ⟨_,hb⟩
   ·omega
   obtain ⟨n,hn⟩:=Int.eq_ofNat_of_zero_le hge
   rw [hn,Int.toNat_natCast] at hs
   rw [hn] at hb
   simp only [if_true,qW p _ (show p.Fns.length ≤ 1048576 by omega),hn,Option.bind_some,xW (show n ≤ 1048576 by omega),wK 102 (show n ≤ 1048576 by omega),hg,bV,Int.toNat_natCast]
   rw [d1,hs]
  | false =>
   rw [d1,e12] at hs
   simp only [Bool.false_eq_true,if_false] at hs ⊢
   rw [← hs,aD9 (by rw [List.getElem?_eq_getElem g1,g2])]) (fun s _=>by simp [cD]) () trivial
 rw [bB] at l2
 rw [show aG (cD p) (0,aR p p.Fns.length)=_ from by simp only [aF7] at l2;exact l2]
 simp only [Option.bind_some]
 have l3:=aT p.Fns (fun (s:Unit) k=>((k:Int),(⟨zU (nF p) (aR p p.Fns.length).Nodes p.Nodes.length,aE2 (aR p p.Fns.length).Fns k⟩:GProgram))) (fun k s=>True) (fun s e=>.inl ()) (fun s=>(⟨zU (nF p) (aR p p.Fns.length).Nodes p.Nodes.length,aE2 (aR p p.Fns.length).Fns p.Fns.length⟩:GProgram)) (cC p) (fun s k hk hI=>by
  left
  refine ⟨(),rfl,?_,trivial⟩
  have hkq:k < (aR p p.Fns.length).Fns.length:=by rw [H.fl];exact hk
  obtain ⟨g1,g2⟩:=aIj (aR p p.Fns.length).Fns hkq
  have hg:aM (aE2 (aR p p.Fns.length).Fns k) (k:Int)=some (aR p p.Fns.length).Fns[k]:=by rw [aD g1,g2]
  simp only [cC,aB hk,if_true,xW (show k ≤ 1048576 by omega),wK 102 (show k ≤ 1048576 by omega),hg,Option.bind_some,bV,Int.toNat_natCast,aIi (aR p p.Fns.length).Fns hkq,aJ hk (show p.Fns.length ≤ 1048576 by omega)]) (fun s _=>by simp [cC]) () trivial
 rw [bB] at l3
 have z0:aE2 (aR p p.Fns.length).Fns 0=(aR p p.Fns.length).Fns:=by simp [aE2]
 rw [show aG (cC p) (0,⟨zU (nF p) (aR p p.Fns.length).Nodes p.Nodes.length,(aR p p.Fns.length).Fns⟩)=_ from by simp only [z0] at l3;exact l3]
 simp only [Option.bind_some]
 unfold aJg
 rw [← aI4,H.nl]
end Go.OM
namespace Go.OM
theorem aO0 (p:GProgram) (x:GNode) (h:GNode.le 1048576 x) (hF:p.Fns.length ≤ 1000):GNode.le 1048576 (nF p x):=by
 unfold nF
 split
 ·refine ⟨?_,h.2⟩
  have hb:=rQ p x.Name
  have:=uL 102 (n:=(fK p x.Name).toNat) (by omega)
  show (aFa 102 _).size ≤ _
  omega
 exact h
theorem aNm {p:GProgram} (h:sJ p=true) {i:Nat} (hi:i < p.Fns.length):fK p p.Fns[i].Name=i:=by
 unfold sJ at h
 simp only [Bool.and_eq_true] at h
 have hg:=List.all_eq_true.1 h.2.2.2.1 i (List.mem_range.2 hi)
 rw [sD hi,Bool.and_eq_true] at hg
 simpa using hg.2
theorem aNg (p:GProgram) (hle:GProgram.le 1048576 p) (h:kF p=true):GProgram.le 1048576 (aJg p):=by
 obtain ⟨b1,b2,b3,b4,hu⟩:=lE (kL h)
 have H:=ninv p hle h p.Fns.length (Nat.le_refl _)
 obtain ⟨⟨h1,h2⟩,h3,h4⟩:=H.le
 unfold aJg
 refine ⟨⟨by simp only [List.length_map];exact h1,fun x hx=>?_⟩,by simp only;rw [aNn _ (by rw [H.fl];exact Nat.le_refl _)];exact h3,fun f hf=>?_⟩
 ·obtain ⟨y,hy,rfl⟩:=List.mem_map.1 hx
  exact aO0 p y (h2 y hy) (by omega)
 simp only at hf
 unfold aE2 at hf
 rw [List.mem_append] at hf
 rcases hf with hf | hf
 ·obtain ⟨i,hi,rfl⟩:=List.mem_map.1 hf
  have hi:=List.mem_range.1 hi
  rw [List.getElem?_eq_getElem (show i < (aR p p.Fns.length).Fns.length by rw [H.fl];exact hi)]
  have:=uL 102 (n:=i) (by omega)
  refine ⟨by show (aFa 102 i).size ≤ _;omega,(h4 _ (List.getElem_mem _)).2⟩
 exact h4 f (List.mem_of_mem_drop hf)
theorem aBs (p:GProgram) (hle:GProgram.le 1048576 p) (h:kF p=true):dD p=some (aJg p):=by
 obtain ⟨b1,b2,b3,b4,hu⟩:=lE (kL h)
 obtain ⟨c1,c2⟩:=iS p hle
 unfold dD
 rw [gN p (by omega) (by omega),c1]
 simp only [Option.bind_some,h,Bool.not_true,Bool.false_eq_true,if_false]
 have l1:=aT p.Fns (fun (s:Unit) k=>((k:Int),aR p k)) (fun k s=>True) (fun s e=>.inl ()) (fun s=>aR p p.Fns.length) (cJ p) (fun s k hk hI=>by
  left
  refine ⟨(),rfl,?_,trivial⟩
  obtain ⟨_,e1,_⟩:=zS p _ h hk (ninv p hle h k (by omega))
  simp only [cJ,aB hk,if_true,e1,Option.bind_some,aJ hk (show p.Fns.length ≤ 1048576 by omega)]
  rfl) (fun s _=>by simp [cJ]) () trivial
 rw [bB] at l1
 rw [show aG (cJ p) (0,p)=_ from l1]
 simp only [Option.bind_some]
 have H:=ninv p hle h p.Fns.length (Nat.le_refl _)
 unfold jV
 rw [(iS _ H.le).1]
 simp only [Option.bind_some]
 have l2:=aT (aR p p.Fns.length).Nodes (fun (s:Unit) k=>((k:Int),(⟨zU (nF p) (aR p p.Fns.length).Nodes k,(aR p p.Fns.length).Fns⟩:GProgram))) (fun k s=>True) (fun s e=>.inl ()) (fun s=>(⟨zU (nF p) (aR p p.Fns.length).Nodes (aR p p.Fns.length).Nodes.length,(aR p p.Fns.length).Fns⟩:GProgram)) (bR (fun a0=>bH a0 p) (aR p p.Fns.length)) (fun s k hk hI=>by
  left
  refine ⟨(),rfl,?_,trivial⟩
  have hkp:k < p.Nodes.length:=by rw [← H.nl];exact hk
  obtain ⟨d1,d2⟩:=H.nd k hk hkp
  obtain ⟨g1,g2⟩:=aI3 (nF p) (aR p p.Fns.length).Nodes hk
  have hg:aM (zU (nF p) (aR p p.Fns.length).Nodes k) (k:Int)=some (aR p p.Fns.length).Nodes[k]:=by rw [aD g1,g2]
  have hs:=aI2 (nF p) (aR p p.Fns.length).Nodes hk
  have hc:nF p (aR p p.Fns.length).Nodes[k]=if ((aR p p.Fns.length).Nodes[k].Kind == 12)=true then ⟨(aR p p.Fns.length).Nodes[k].Kind,(aR p p.Fns.length).Nodes[k].Num,aFa 102 (fK p (aR p p.Fns.length).Nodes[k].Name).toNat,(aR p p.Fns.length).Nodes[k].Kids⟩ else (aR p p.Fns.length).Nodes[k]:=rfl
  rw [hc] at hs
  simp only [bR,aB hk,if_true,hg,Option.bind_some,aJ hk (show (aR p p.Fns.length).Nodes.length ≤ 1048576 by rw [H.nl];omega)]
  cases e12:((aR p p.Fns.length).Nodes[k].Kind == 12) with
  | true =>
   have e:=d2 (by rw [← d1];simpa using e12)
   have hge:=aIq p h (List.getElem?_eq_getElem hkp) (by rw [← d1];simpa using e12)
   have hne:tJ 102 (fK p (aR p p.Fns.length).Nodes[k].Name) (aR p p.Fns.length).Nodes[k].Name=aFa 102 (fK p (aR p p.Fns.length).Nodes[k].Name).toNat:=by
    unfold tJ
    rw [if_neg (by rw [e];omega)]
   rw [e12] at hs
   simp only [if_true] at hs ⊢
   simp only [aCh p (show p.Fns.length ≤ 1000 by omega),hne,Option.bind_some,bV,Int.toNat_natCast,hs]
  | false =>
   rw [e12] at hs
   simp only [Bool.false_eq_true,if_false] at hs ⊢
   rw [← hs,aD9 (by rw [List.getElem?_eq_getElem g1,g2])]) (fun s _=>by simp [bR]) () trivial
 rw [bB] at l2
 rw [show aG (bR (fun a0=>bH a0 p) (aR p p.Fns.length)) (0,aR p p.Fns.length)=_ from by simp only [aF7] at l2;exact l2]
 simp only [Option.bind_some]
 have l3:=aT (aR p p.Fns.length).Fns (fun (s:Unit) k=>((k:Int),(⟨zU (nF p) (aR p p.Fns.length).Nodes (aR p p.Fns.length).Nodes.length,aE2 (aR p p.Fns.length).Fns k⟩:GProgram))) (fun k s=>True) (fun s e=>.inl ()) (fun s=>(⟨zU (nF p) (aR p p.Fns.length).Nodes (aR p p.Fns.length).Nodes.length,aE2 (aR p p.Fns.length).Fns (aR p p.Fns.length).Fns.length⟩:GProgram)) (bQ (fun a0=>bH a0 p) ⟨zU (nF p) (aR p p.Fns.length).Nodes (aR p p.Fns.length).Nodes.length,(aR p p.Fns.length).Fns⟩) (fun s k hk hI=>by
  left
  refine ⟨(),rfl,?_,trivial⟩
  have hkp:k < p.Fns.length:=by rw [← H.fl];exact hk
  obtain ⟨g1,g2⟩:=aIj (aR p p.Fns.length).Fns hk
  have hg:aM (aE2 (aR p p.Fns.length).Fns k) (k:Int)=some (aR p p.Fns.length).Fns[k]:=by rw [aD g1,g2]
  have hnm:tJ 102 (fK p (aR p p.Fns.length).Fns[k].Name) (aR p p.Fns.length).Fns[k].Name=aFa 102 k:=by
   rw [H.nm k hk hkp,aNm (kL h) hkp]
   unfold tJ
   rw [if_neg (by omega),Int.toNat_natCast]
  simp only [bQ,aB hk,if_true,hg,aCh p (show p.Fns.length ≤ 1000 by omega),hnm,Option.bind_some,bV,Int.toNat_natCast,aIi (aR p p.Fns.length).Fns hk,aJ hk (show (aR p p.Fns.length).Fns.length ≤ 1048576 by rw [H.fl];omega)]) (fun s _=>by simp [bQ]) () trivial
 rw [bB] at l3
 have z0:aE2 (aR p p.Fns.length).Fns 0=(aR p p.Fns.length).Fns:=by simp [aE2]
 rw [show aG (bQ (fun a0=>bH a0 p) ⟨zU (nF p) (aR p p.Fns.length).Nodes (aR p p.Fns.length).Nodes.length,(aR p p.Fns.length).Fns⟩) (0,⟨zU (nF p) (aR p p.Fns.length).Nodes (aR p p.Fns.length).Nodes.length,(aR p p.Fns.length).Fns⟩)=_ from by simp only [z0] at l3;exact l3]
 simp only [Option.bind_some]
 unfold aJg
 rw [aI4,H.fl]
theorem tB (p:GProgram) (hle:GProgram.le 1048576 p):∃ q:GProgram,dD p=some q∧dB p=some q∧GProgram.le 1048576 q:=by
 cases hok:kF p with
 | true=>exact ⟨_,aBs p hle hok,aB5 p hle hok,aNg p hle hok⟩
 | false =>
  obtain ⟨c1,c2⟩:=iS p hle
  have h:=hle
  obtain ⟨⟨hn,hN⟩,hF,hFl⟩:=h
  refine ⟨p,?_,?_,hle⟩
  ·unfold dD
   rw [gN p hn hF,hok,c1]
   rfl
  unfold dB
  rw [gM p hn hF,hok,c2]
  rfl
end Go.OM
namespace Go.OM
theorem aPf (a b:Bool):(if a=true then some true else some b)=some (a || b):=by cases a<;>cases b<;>rfl
theorem aPe (a b c d:Bool):(if a=true then some true else if b=true then some true else if c=true then some true else some d)=some (a || (b || (c || d))):=by cases a<;>cases b<;>cases c<;>rfl
theorem aN1 (N M:List GNode):∀ (f:Nat) (a b:Int),0 ≤ a→a < N.length→okU N (a.toNat + 1)=true→0 ≤ b→b < M.length→okU M (b.toNat + 1)=true→nL N a.toNat ≤ f→∃ r,aX f N a M b=some r:=by
 intro f
 induction f with
 | zero=>intro a b _ _ _ _ _ _ hd;have:=fL N a.toNat;omega
 | succ f ih =>
  intro a b a0 a1 hu b0 b1 hv hd
  show ∃ r,eJ (aX f) N a M b=some r
  unfold eJ
  have hla:a.toNat < N.length:=by omega
  have hlb:b.toNat < M.length:=by omega
  have hna:=(gP hu (show a.toNat < a.toNat + 1 by omega)).1
  have hnb:=(gP hv (show b.toNat < b.toNat + 1 by omega)).1
  have hxa:N[a.toNat]? = some N[a.toNat]:=List.getElem?_eq_getElem hla
  have hxb:M[b.toNat]? = some M[b.toNat]:=List.getElem?_eq_getElem hlb
  rw [cK a0 a1,cK b0 b1]
  simp only [Option.bind_some,aPe]
  cases hc:((N[a.toNat].Kind != M[b.toNat].Kind) || ((N[a.toNat].Num != M[b.toNat].Num) || (!(sEq N[a.toNat].Name M[b.toNat].Name) || ((N[a.toNat].Kids.length:Int) != (M[b.toNat].Kids.length:Int))))) with
  | true=>exact ⟨false,rfl⟩
  | false =>
   simp only [Bool.or_eq_false_iff,bne_eq_false_iff_eq] at hc
   have hl:N[a.toNat].Kids.length=M[b.toNat].Kids.length:=by omega
   have hkl:=dC hna hxa
   simp only [Bool.false_eq_true,if_false]
   rw [iN N[a.toNat].Kids.length (by omega) (fun k=>match N[a.toNat].Kids[k]?,M[b.toNat].Kids[k]? with
    | some x,some y=>aX f N x M y == some true
    | _,_=>false) false (cM (aX f) N M N[a.toNat] M[b.toNat]) (fun k hk=>by
     have hk2:k < M[b.toNat].Kids.length:=by omega
     obtain ⟨x0,x1⟩:=eB hna hxa _ (List.getElem_mem hk)
     obtain ⟨y0,y1⟩:=eB hnb hxb _ (List.getElem_mem hk2)
     have hdk:=sF hna hxa (List.getElem_mem hk)
     obtain ⟨r,hr⟩:=ih N[a.toNat].Kids[k] M[b.toNat].Kids[k] x0 (by omega) (rY (by omega) hu) y0 (by omega) (rY (by omega) hv) (by omega)
     simp only [cM,aB hk,if_true,aD hk,aD hk2,Option.bind_some,hr,List.getElem?_eq_getElem hk,List.getElem?_eq_getElem hk2]
     cases r<;>rfl) (by simp [cM])]
   simp only [Option.bind_some]
   split
   ·exact ⟨_,rfl⟩
   exact ⟨_,rfl⟩
theorem zI:∀ (n:Nat) (p:GProgram) (a:Int) (q:GProgram) (b:Int),bM n p a q b=aX n p.Nodes a q.Nodes b
 | 0,_,_,_,_=>rfl
 | n + 1,p,a,q,b=>by
  show gR (bM n) p a q b=eJ (aX n) p.Nodes a q.Nodes b
  have hl:∀ e5 e6,fO (bM n) p q e5 e6=cM (aX n) p.Nodes q.Nodes e5 e6:=by
   intro e5 e6
   funext v
   simp only [fO,cM,zI n]
  unfold gR eJ
  simp only [hl]
theorem vE (p q:GProgram) (hn:p.Nodes.length ≤ 1048576) (hm:q.Nodes.length ≤ 1048576) (a b:Int):∃ r,iG p a q b=some r∧gZ p a q b=some r:=by
 unfold iG gZ
 rw [kR _ hn,nV _ hn,kR _ hm,nV _ hm]
 simp only [Option.bind_some]
 by_cases h1:oD p.Nodes a > 0
 ·by_cases h2:oD q.Nodes b > 0
  ·have hd1:decide (oD p.Nodes a > 0)=true:=by simpa using h1
   have hd2:decide (oD q.Nodes b > 0)=true:=by simpa using h2
   unfold oD at h1 h2
   split at h1
   case isFalse=>omega
   rename_i g1
   split at h2
   case isFalse=>omega
   rename_i g2
   have hdv:=(gP g1.2.2 (show a.toNat < a.toNat + 1 by omega)).2
   obtain ⟨r,hr⟩:=aN1 p.Nodes q.Nodes eK a b g1.1 g1.2.1 g1.2.2 g2.1 g2.2.1 g2.2.2 (by rw [aC8];omega)
   have hi:pP p a q b=some r:=by
    show bM eK p a q b=some r
    rw [zI];exact hr
   have hs:qS p.Nodes a q.Nodes b=some r:=hr
   simp only [hd1,hd2,if_true,hi,hs,Option.bind_some]
   exact ⟨r,rfl,rfl⟩
  have hd2:decide (oD q.Nodes b > 0)=false:=by simpa using h2
  simp only [hd2,Bool.false_eq_true,if_false]
  cases decide (oD p.Nodes a > 0)<;>exact ⟨false,rfl,rfl⟩
 have hd1:decide (oD p.Nodes a > 0)=false:=by simpa using h1
 simp only [hd1,Bool.false_eq_true,if_false]
 exact ⟨false,rfl,rfl⟩
def aP8 (f g:GFn):Bool:=(List.range f.Params.length).all fun k=>match f.Params[k]?,g.Params[k]? with
 | some x,some y=>sEq x.Name y.Name && x.Typ == y.Typ
 | _,_=>false
theorem aEx {ρ:Type} (f g:GFn) (hf:f.Params.length ≤ 1048576) (hl:f.Params.length=g.Params.length) (b:ρ) (F:Int→Option (Int ⊕ (Unit ⊕ ρ)))
  (hF:∀ (k:Nat) (h:k < f.Params.length) (h2:k < g.Params.length),F k=if (!(sEq f.Params[k].Name g.Params[k].Name) || (f.Params[k].Typ != g.Params[k].Typ))=true then some (.inr (.inr b)) else some (.inl (IntKind.wrap .i64 ((k:Int) + 1)))) (he:F f.Params.length=some (.inr (.inl ()))):aG F 0=some (if aP8 f g=true then .inl () else .inr b):=by
 unfold aP8
 refine iN f.Params.length hf _ b F (fun k hk=>?_) he
 have hk2:k < g.Params.length:=by omega
 rw [hF k hk hk2]
 simp only [List.getElem?_eq_getElem hk,List.getElem?_eq_getElem hk2]
 cases sEq f.Params[k].Name g.Params[k].Name with
 | false=>rfl
 | true =>
  by_cases e:f.Params[k].Typ=g.Params[k].Typ
  ·simp [e]
  simp [e]
theorem xT (p q:GProgram) (hp:GProgram.le 1048576 p) (hq:GProgram.le 1048576 q):∃ r,fP p q=some r∧fM p q=some r:=by
 obtain ⟨⟨hn,_⟩,hF,hFl⟩:=hp
 obtain ⟨⟨hm,_⟩,hG,hGl⟩:=hq
 unfold fP fM
 cases hc:((p.Fns.length:Int) != (q.Fns.length:Int)) with
 | true=>exact ⟨false,rfl,rfl⟩
 | false =>
  simp only [bne_eq_false_iff_eq] at hc
  have hl:p.Fns.length=q.Fns.length:=by omega
  simp only [Bool.false_eq_true,if_false]
  have hfn:∀ (k:Nat) (hk:k < p.Fns.length) (hk2:k < q.Fns.length),∃ r,gT p p.Fns[k] q q.Fns[k]=some r∧bJ p q k=some (if r=true then .inl (IntKind.wrap .i64 ((k:Int) + 1)) else .inr (.inr false)):=by
   intro k hk hk2
   obtain ⟨t1,i1,s1⟩:=vE p q hn hm p.Fns[k].Body q.Fns[k].Body
   obtain ⟨t2,i2,s2⟩:=vE p q hn hm p.Fns[k].Ret q.Fns[k].Ret
   have hpl:=(hFl _ (List.getElem_mem hk)).2.1
   simp only [bJ,aB hk,if_true,aD hk,aD hk2,Option.bind_some]
   generalize p.Fns[k]=f at *
   generalize q.Fns[k]=g at *
   unfold gT mB
   simp only [aPf,Option.bind_some]
   cases h3:((f.Params.length:Int) != (g.Params.length:Int)) with
   | true =>
    have e1:((!(sEq f.Name g.Name)) || ((f.Res != g.Res) || true))=true:=by simp
    have e2:((!(sEq f.Name g.Name)) || ((f.Res != g.Res) || (true || (!((decide (f.Ret < 0)) == (decide (g.Ret < 0)))))))=true:=by simp
    simp only [e1,e2,if_true,Option.bind_some,Bool.not_false]
    exact ⟨false,rfl,rfl⟩
   | false =>
    simp only [bne_eq_false_iff_eq] at h3
    have hll:f.Params.length=g.Params.length:=by omega
    have hh:=aEx f g hpl hll false (eE f g) (fun j hj hj2=>by
     simp only [eE,aB hj,if_true,aD hj,aD hj2,Option.bind_some]) (by simp [eE])
    have hs:=aEx (ρ:=Unit ⊕ (Int ⊕ (Unit ⊕ Bool))) f g hpl hll (.inr (.inr (.inr false))) (cB f g) (fun j hj hj2=>by
     simp only [cB,aB hj,if_true,aD hj,aD hj2,Option.bind_some]) (by simp [cB])
    rw [hh,hs]
    simp only [i1,i2,s1,s2,Option.bind_some]
    have hge:decide (f.Ret ≥ 0) = !(decide (f.Ret < 0)):=by
     by_cases h:f.Ret < 0
     ·simp [h]
     simp [h];omega
    rw [hge]
    generalize sEq f.Name g.Name=c1
    generalize (f.Res != g.Res)=c2
    generalize aP8 f g=c3
    generalize decide (f.Ret < 0)=c4
    generalize decide (g.Ret < 0)=c5
    cases c1<;>cases c2<;>cases c3<;>cases c4<;>cases c5<;>cases t1<;>cases t2<;>first | exact ⟨true,rfl,rfl⟩ | exact ⟨false,rfl,rfl⟩
  have e1:=iN p.Fns.length hF (fun k=>match p.Fns[k]?,q.Fns[k]? with
   | some f,some g=>gT p f q g == some true
   | _,_=>false) false (cH p q) (fun k hk=>by
    have hk2:k < q.Fns.length:=by omega
    obtain ⟨r,r1,r2⟩:=hfn k hk hk2
    simp only [cH,aB hk,if_true,aD hk,aD hk2,Option.bind_some,r1,List.getElem?_eq_getElem hk,List.getElem?_eq_getElem hk2]
    cases r<;>rfl) (by simp [cH])
  have e2:=iN p.Fns.length hF (fun k=>match p.Fns[k]?,q.Fns[k]? with
   | some f,some g=>gT p f q g == some true
   | _,_=>false) false (bJ p q) (fun k hk=>by
    have hk2:k < q.Fns.length:=by omega
    obtain ⟨r,r1,r2⟩:=hfn k hk hk2
    rw [r2]
    simp only [List.getElem?_eq_getElem hk,List.getElem?_eq_getElem hk2,r1]
    cases r<;>rfl) (by simp [bJ])
  rw [e1,e2]
  simp only [Option.bind_some]
  split
  ·exact ⟨_,rfl,rfl⟩
  exact ⟨_,rfl,rfl⟩
theorem wQq (p q:GProgram) (hp:GProgram.le 1048576 p) (hq:GProgram.le 1048576 q):∃ r,fD p q=some r∧eV p q=some r:=by
 obtain ⟨p',a1,a2,a3⟩:=tB p hp
 obtain ⟨q',b1,b2,b3⟩:=tB q hq
 obtain ⟨r,c1,c2⟩:=xT p' q' a3 b3
 unfold fD eV
 rw [gN p hp.1.1 hp.2.1,gM p hp.1.1 hp.2.1,gN q hq.1.1 hq.2.1,gM q hq.1.1 hq.2.1,a1,a2,b1,b2]
 simp only [Option.bind_some,c1,c2]
 cases kF p<;>cases kF q
 ·exact ⟨false,rfl,rfl⟩
 ·exact ⟨false,rfl,rfl⟩
 ·exact ⟨false,rfl,rfl⟩
 exact ⟨r,rfl,rfl⟩
theorem xK (p q:GProgram) (hw:GProgram.le maxLen p) (hw2:GProgram.le maxLen q):cQ p q=some true:=by
 unfold cQ
 obtain ⟨r,h1,h2,h3⟩:=qA p hw 1048576 (by omega) (by omega)
 rw [h1]
 simp only [Option.bind_some]
 by_cases hr:r < 0
 ·simp [hr]
 have hp:=h3 (by omega)
 obtain ⟨r',g1,g2,g3⟩:=qA q hw2 r (by omega) (by omega)
 rw [g1]
 simp only [Option.bind_some]
 by_cases hr':r' < 0
 ·simp [hr,hr']
 have hq:=g3 (by omega)
 obtain ⟨b,v1,v2⟩:=wQq p q hp hq
 simp [hr,hr',pZ p hp,pZ q hq,v1,v2,qB p p hp hp,qB q q hq hq]
end Go.OM
