import Derived.Test.YtkbahglnleiepaaGreatDoorTC
import Derived.Lib.ItoaNum
set_option linter.unusedVariables false
set_option linter.unusedSimpArgs false
set_option linter.unusedVariables false
set_option linter.unusedSimpArgs false
namespace Go.OM
theorem aL2 {L:List Int} (h:L.Pairwise (· < ·)) {i:Nat} (hi:i < L.length) {y:Int} (hy:y ∈ L.drop i):L[i] ≤ y:=by
 obtain ⟨j,hj,rfl⟩:=List.mem_iff_getElem.1 hy
 rw [List.length_drop] at hj
 rw [List.getElem_drop]
 rcases Nat.eq_zero_or_pos j with e | e
 ·subst e;simp
 ·have:=(List.pairwise_iff_getElem.1 h) i (i + j) hi (by omega) (by omega)
  omega
theorem aA5 {L:List Int} (h:L.Pairwise (· < ·)) {i:Nat} (hi:i < L.length) {y:Int} (hy:y ∈ L.drop (i + 1)):L[i] < y:=by
 obtain ⟨j,hj,rfl⟩:=List.mem_iff_getElem.1 hy
 rw [List.length_drop] at hj
 rw [List.getElem_drop]
 exact (List.pairwise_iff_getElem.1 h) i (i + 1 + j) hi (by omega) (by omega)
theorem iP {L:List Int} {i:Nat} (hi:i < L.length) {x:Int}:x ∈ L.take (i + 1) ↔ x ∈ L.take i ∨ x=L[i]:=by
 rw [List.take_add_one,List.getElem?_eq_getElem hi,List.mem_append]
 simp
theorem jH {L:List Int} {i:Nat} {x:Int} (h:x ∈ L.drop (i + 1)):x ∈ L.drop i:=by
 obtain ⟨j,hj,rfl⟩:=List.mem_iff_getElem.1 h
 rw [List.length_drop] at hj
 rw [List.getElem_drop]
 exact List.mem_iff_getElem.2 ⟨1 + j,by rw [List.length_drop];omega,by rw [List.getElem_drop];congr 1;omega⟩
theorem tT {L:List Int} {i:Nat} (hi:i < L.length):L[i] ∈ L.drop i:=by
 rw [List.drop_eq_getElem_cons hi];exact List.mem_cons_self
theorem aCb {o:List Int} {a:Int} (h:o.Pairwise (· < ·)) (hb:∀ x ∈ o,x < a):(o ++ [a]).Pairwise (· < ·):=by
 rw [List.pairwise_append]
 exact ⟨h,by simp,fun x hx y hy=>by simp only [List.mem_singleton] at hy;subst hy;exact hb x hx⟩
theorem aIv (n:Nat) (hn:n ≤ 1048576) (A B:List Int) (hA:A.Pairwise (· < ·)) (hB:B.Pairwise (· < ·)) (hbA:∀ x ∈ A,0 ≤ x∧x < (n:Int)) (hbB:∀ x ∈ B,0 ≤ x∧x < (n:Int)) :
  aG (bA A B) ([],0,0)=some (aB9 n fun j=>(j:Int) ∈ A ∨ (j:Int) ∈ B):=by
 have lA:=iV (qU hA) hbA
 have lB:=iV (qU hB) hbB
 obtain ⟨r,h1,h2⟩:=cC (f:=bA A B) (fun s:List Int × Int × Int=>∃ i k:Nat,s.2=((i:Int),(k:Int))∧i ≤ A.length∧k ≤ B.length∧s.1.Pairwise (· < ·)∧(∀ x,x ∈ s.1 ↔ x ∈ A.take i ∨ x ∈ B.take k)∧(∀ x ∈ s.1,∀ y ∈ A.drop i,x < y)∧∀ x ∈ s.1,∀ y ∈ B.drop k,x < y) (fun s=>(A.length - s.2.1.toNat) + (B.length - s.2.2.toNat)) (fun r=>r=aB9 n fun j=>(j:Int) ∈ A ∨ (j:Int) ∈ B) (by
  rintro ⟨o,p⟩ ⟨i,k,rfl,hi,hk,ho,hm,h3,h4⟩
  simp only at ho hm h3 h4
  have hob:∀ x ∈ o,0 ≤ x∧x < (n:Int):=fun x hx=>by
   rcases (hm x).1 hx with h | h
   ·exact hbA x (List.mem_of_mem_take h)
   ·exact hbB x (List.mem_of_mem_take h)
  have hol:=iV (qU ho) hob
  have happ:∀ a:Int,lM 8 o [a]=some (o ++ [a]):=fun a=>aOr (by omega) (by omega)
  have di:decide ((i:Int) < (A.length:Int))=decide (i < A.length):=decide_eq_decide.2 (by omega)
  have dk:decide ((k:Int) < (B.length:Int))=decide (k < B.length):=decide_eq_decide.2 (by omega)
  have dk2:decide ((k:Int) ≥ (B.length:Int))=decide (¬ k < B.length):=decide_eq_decide.2 (by omega)
  have wi:IntKind.wrap .i64 ((i:Int) + 1)=((i + 1:Nat):Int):=by rw [w64 (by omega) (by omega)];omega
  have wk:IntKind.wrap .i64 ((k:Int) + 1)=((k + 1:Nat):Int):=by rw [w64 (by omega) (by omega)];omega
  -- what the step takes
  have takeA:∀ (hia:i < A.length),(∀ hkb:k < B.length,A[i] < B[k])→∃ b,bA A B (o,(i:Int),(k:Int))=some (.inl b)∧(∃ i' k':Nat,b.2=((i':Int),(k':Int))∧i' ≤ A.length∧k' ≤ B.length∧b.1.Pairwise (· < ·)∧(∀ x,x ∈ b.1 ↔ x ∈ A.take i' ∨ x ∈ B.take k')∧(∀ x ∈ b.1,∀ y ∈ A.drop i',x < y)∧∀ x ∈ b.1,∀ y ∈ B.drop k',x < y)∧(A.length - b.2.1.toNat) + (B.length - b.2.2.toNat) < (A.length - i) + (B.length - k):=by
   intro hia hab
   refine ⟨(o ++ [A[i]],((i + 1:Nat):Int),(k:Int)),?_,⟨i + 1,k,rfl,by omega,hk,aCb ho fun x hx=>h3 x hx _ (tT hia),fun x=>?_,fun x hx y hy=>?_,fun x hx y hy=>?_⟩,by simp only [Int.toNat_natCast];omega⟩
   ·by_cases hkb:k < B.length
    ·have:=hab hkb
     simp [bA,di,dk,dk2,hia,hkb,aD hia,aD hkb,happ,wi,this,show ¬ B.length ≤ k by omega]
    ·simp [bA,di,dk,dk2,hia,hkb,aD hia,happ,wi,show B.length ≤ k by omega]
   ·simp only [List.mem_append,List.mem_singleton,hm,iP hia]
    constructor
    ·rintro ((h | h) | h)
     ·exact .inl (.inl h)
     ·exact .inr h
     ·exact .inl (.inr h)
    ·rintro ((h | h) | h)
     ·exact .inl (.inl h)
     ·exact .inr h
     ·exact .inl (.inr h)
   ·rcases List.mem_append.1 hx with h | h
    ·exact h3 x h y (jH hy)
    ·simp only [List.mem_singleton] at h;subst h;exact aA5 hA hia hy
   ·rcases List.mem_append.1 hx with h | h
    ·exact h4 x h y hy
    ·simp only [List.mem_singleton] at h;subst h
     have hkb:k < B.length:=by
      rcases Nat.lt_or_ge k B.length with h | h
      ·exact h
      ·rw [List.drop_eq_nil_of_le h] at hy;cases hy
     have:=hab hkb
     have:=aL2 hB hkb hy
     omega
  by_cases hend:i < A.length ∨ k < B.length
  ·left
   by_cases hkb:k < B.length
   ·by_cases hia:i < A.length
    ·by_cases hlt:A[i] < B[k]
     ·exact takeA hia fun _=>hlt
     ·by_cases heq:A[i]=B[k]
      ·refine ⟨(o ++ [B[k]],((i + 1:Nat):Int),((k + 1:Nat):Int)),?_,⟨i + 1,k + 1,rfl,by omega,by omega,aCb ho fun x hx=>h4 x hx _ (tT hkb),fun x=>?_,fun x hx y hy=>?_,fun x hx y hy=>?_⟩,by simp only [Int.toNat_natCast];omega⟩
       ·simp [bA,di,dk,dk2,hia,hkb,aD hia,aD hkb,happ,wi,wk,heq,show ¬ B.length ≤ k by omega]
       ·simp only [List.mem_append,List.mem_singleton,hm,iP hia,iP hkb,heq]
        constructor
        ·rintro ((h | h) | h)
         ·exact .inl (.inl h)
         ·exact .inr (.inl h)
         ·exact .inr (.inr h)
        ·rintro ((h | h) | (h | h))
         ·exact .inl (.inl h)
         ·exact .inr h
         ·exact .inl (.inr h)
         ·exact .inr h
       ·rcases List.mem_append.1 hx with h | h
        ·exact h3 x h y (jH hy)
        ·simp only [List.mem_singleton] at h;subst h;rw [← heq];exact aA5 hA hia hy
       ·rcases List.mem_append.1 hx with h | h
        ·exact h4 x h y (jH hy)
        ·simp only [List.mem_singleton] at h;subst h;exact aA5 hB hkb hy
      ·refine ⟨(o ++ [B[k]],(i:Int),((k + 1:Nat):Int)),?_,⟨i,k + 1,rfl,hi,by omega,aCb ho fun x hx=>h4 x hx _ (tT hkb),fun x=>?_,fun x hx y hy=>?_,fun x hx y hy=>?_⟩,by simp only [Int.toNat_natCast];omega⟩
       ·simp [bA,di,dk,dk2,hia,hkb,aD hia,aD hkb,happ,wi,wk,heq,hlt,show ¬ B.length ≤ k by omega]
       ·simp only [List.mem_append,List.mem_singleton,hm,iP hkb,or_assoc]
       ·rcases List.mem_append.1 hx with h | h
        ·exact h3 x h y hy
        ·simp only [List.mem_singleton] at h;subst h
         have:=aL2 hA hia hy
         omega
       ·rcases List.mem_append.1 hx with h | h
        ·exact h4 x h y (jH hy)
        ·simp only [List.mem_singleton] at h;subst h;exact aA5 hB hkb hy
    ·refine ⟨(o ++ [B[k]],(i:Int),((k + 1:Nat):Int)),?_,⟨i,k + 1,rfl,hi,by omega,aCb ho fun x hx=>h4 x hx _ (tT hkb),fun x=>?_,fun x hx y hy=>?_,fun x hx y hy=>?_⟩,by simp only [Int.toNat_natCast];omega⟩
     ·simp [bA,di,dk,dk2,hia,hkb,aD hkb,happ,wi,wk,show ¬ B.length ≤ k by omega]
     ·simp only [List.mem_append,List.mem_singleton,hm,iP hkb,or_assoc]
     ·rw [List.drop_eq_nil_of_le (by omega)] at hy;cases hy
     ·rcases List.mem_append.1 hx with h | h
      ·exact h4 x h y (jH hy)
      ·simp only [List.mem_singleton] at h;subst h;exact aA5 hB hkb hy
   ·exact takeA (by omega) fun h=>absurd h hkb
  ·right
   have hi':i=A.length:=by omega
   have hk':k=B.length:=by omega
   refine ⟨o,by simp [bA,hi',hk'],?_⟩
   refine aJu ho fun x=>?_
   rw [hm,hi',hk',List.take_length,List.take_length]
   constructor
   ·intro h
    have hb:0 ≤ x∧x < (n:Int):=h.elim (hbA x) (hbB x)
    refine ⟨hb.1,hb.2,?_⟩
    rwa [show ((x.toNat:Nat):Int)=x by omega]
   ·rintro ⟨a1,_,a3⟩
    rwa [show ((x.toNat:Nat):Int)=x by omega] at a3) ([],0,0) ⟨0,0,rfl,by omega,by omega,by simp,fun x=>by simp,fun x hx=>by simp at hx,fun x hx=>by simp at hx⟩
 rw [h1,h2]
def kE (p:GProgram) (fn:Int):List Int:=if inB fn 0 ((p.Fns.length:Int) - 1)=true then (match p.Fns[fn.toNat]? with | some f=>if f.Ret = -1 then [f.Body] else [f.Body,f.Ret] | none=>[]) else []
noncomputable def oZ (p:GProgram) (fn:Int):List Int:=aB9 p.Nodes.length fun j=>∃ r ∈ kE p fn,(j:Int) ∈ cR p.Nodes r
theorem aIk {p:GProgram} {fn x:Int} (h:x ∈ oZ p fn):0 ≤ x∧x < p.Nodes.length:=⟨(mem_setL.1 h).1,(mem_setL.1 h).2.1⟩
theorem aD3 (p:GProgram) (hp:p.Fns.length ≤ 1048576) (fn:Int):nY p fn=some (kE p fn):=by
 unfold nY kE
 simp only [bQ,Option.bind_some,iO hp]
 cases hi:inB fn 0 ((p.Fns.length:Int) - 1) with
 | false=>rfl
 | true =>
  have hi':=inB_iff.1 hi
  have hlt:fn.toNat < p.Fns.length:=by omega
  simp only [Bool.not_true,Bool.false_eq_true,if_false,if_true]
  rw [cN hi'.1 (by omega),List.getElem?_eq_getElem hlt]
  simp only [Option.bind_some]
  by_cases hr:p.Fns[fn.toNat].Ret = -1
  ·simp [hr]
  ·have happ:lM 8 [p.Fns[fn.toNat].Body] [p.Fns[fn.toNat].Ret]=some ([p.Fns[fn.toNat].Body] ++ [p.Fns[fn.toNat].Ret]):=aOr (by simp) (by omega)
   simp [hr,happ]
theorem aE9 (nodes:List GNode) (x:Int):∀ (rs s:List Int),x ∈ rs.foldl (fun o r=>(cR nodes r).foldl xF o) s ↔ x ∈ s ∨ ∃ r ∈ rs,x ∈ cR nodes r
 | [],s=>by simp
 | r :: rs,s=>by
  rw [List.foldl_cons,aE9 nodes x rs,fE]
  simp only [List.mem_cons,exists_eq_or_imp,or_assoc]
theorem aIf (p:GProgram) (fn:Int):(kE p fn).length ≤ 2:=by
 unfold kE
 split
 ·split
  ·split<;>simp
  ·simp
 ·simp
theorem zS (p:GProgram) (hn:p.Nodes.length ≤ 1048576) (hp:p.Fns.length ≤ 1048576) (fn:Int):kS p fn=some (oZ p fn):=by
 unfold kS
 rw [aD3 p hp]
 simp only [Option.bind_some]
 have hrl:=aIf p fn
 have:=bB (kE p fn) (fun (o:List Int) k=>(o,(k:Int))) (fun k o=>o.Nodup∧∀ x ∈ o,0 ≤ x∧x < (p.Nodes.length:Int)) (fun o r=>.inl ((cR p.Nodes r).foldl xF o)) id (dI p (kE p fn)) (fun o k hk hI=>by
  left
  refine ⟨_,rfl,?_,lF _ hI.1,aGe hI.2 fun x hx=>jL hx⟩
  have hul:=iV (n:=p.Nodes.length) (qU (xL p.Nodes (kE p fn)[k])) fun x hx=>jL hx
  simp only [dI,aB hk,if_true,aD hk,Option.bind_some,tJ p hn]
  generalize hu:cR p.Nodes (kE p fn)[k]=U at *
  rw [aHz p.Nodes.length U (fun m hm=>by rw [← hu] at hm;exact jL hm) (eQ U) (fun o=>o) (fun o j hj ho=>by
   have happ:lM 8 o [U[j]]=some (o ++ [U[j]]):=aOr (by omega) (by omega)
   simp only [eQ,aB hj,if_true,aD hj,Option.bind_some,zW o _ (by omega),aQ hj (show U.length ≤ 1048576 by omega),happ]
   unfold xF
   cases o.contains U[j]<;>rfl) (fun o=>by simp [eQ]) o hI.1 hI.2]
  simp only [Option.bind_some,aQ hk (show (kE p fn).length ≤ 1048576 by omega)]) (fun o _=>by simp [dI]) [] ⟨by simp,fun x hx=>by simp at hx⟩
 rw [bT] at this
 have h2:aG (dI p (kE p fn)) ([],0)=some ((kE p fn).foldl (fun o r=>(cR p.Nodes r).foldl xF o) []):=this
 rw [h2]
 simp only [Option.bind_some]
 generalize ho:(kE p fn).foldl (fun o r=>(cR p.Nodes r).foldl xF o) []=o
 have hnd:o.Nodup:=by
  rw [← ho]
  have key:∀ (rs s:List Int),s.Nodup→(rs.foldl (fun o r=>(cR p.Nodes r).foldl xF o) s).Nodup:=by
   intro rs
   induction rs with
   | nil=>intro s h;exact h
   | cons r rs ih=>intro s h;rw [List.foldl_cons];exact ih _ (lF _ h)
  exact key _ _ (by simp)
 have hmem:∀ x,x ∈ o ↔ 0 ≤ x∧x < (p.Nodes.length:Int)∧∃ r ∈ kE p fn,((x.toNat:Nat):Int) ∈ cR p.Nodes r:=by
  intro x
  rw [← ho,aE9]
  constructor
  ·rintro (h | ⟨r,h1,h2⟩)
   ·simp at h
   ·have:=jL h2
    exact ⟨this.1,this.2,r,h1,by rwa [show ((x.toNat:Nat):Int)=x by omega]⟩
  ·rintro ⟨h1,_,r,h3,h4⟩
   exact .inr ⟨r,h3,by rwa [show ((x.toNat:Nat):Int)=x by omega] at h4⟩
 have hol:o.length ≤ p.Nodes.length:=iV hnd fun x hx=>⟨((hmem x).1 hx).1,((hmem x).1 hx).2.1⟩
 rw [aDu (by omega)]
 simp only [Option.bind_some]
 rw [aDv (n:=p.Nodes.length) (P:=fun j=>∃ r ∈ kE p fn,(j:Int) ∈ cR p.Nodes r) hnd hmem]
 rfl
theorem aAc (p:GProgram) (hn:p.Nodes.length ≤ 1048576) (hp:p.Fns.length ≤ 1048576) (fn:Int):lP p fn=some (oZ p fn):=by
 unfold lP oZ kE
 simp only [dM,Option.bind_some,iO hp]
 cases hi:inB fn 0 ((p.Fns.length:Int) - 1) with
 | false =>
  simp only [Bool.not_false,if_true,Bool.false_eq_true,if_false]
  congr 1
  have:∀ x,x ∉ aB9 p.Nodes.length fun j=>∃ r ∈ ([]:List Int),(j:Int) ∈ cR p.Nodes r:=by
   intro x hx
   obtain ⟨_,_,r,hr,_⟩:=mem_setL.1 hx
   cases hr
  exact (List.eq_nil_iff_forall_not_mem.2 this).symm
 | true =>
  have hi':=inB_iff.1 hi
  have hlt:fn.toNat < p.Fns.length:=by omega
  simp only [Bool.not_true,Bool.false_eq_true,if_false,if_true]
  rw [cN hi'.1 (by omega),List.getElem?_eq_getElem hlt]
  simp only [Option.bind_some,sH p hn]
  generalize p.Fns[fn.toNat]=f
  rw [aIv p.Nodes.length hn _ _ (xL _ _) (xL _ _) (fun x hx=>jL hx) (fun x hx=>jL hx)]
  simp only [Option.bind_some]
  congr 1
  refine aB8 fun j hj=>?_
  by_cases hr:f.Ret = -1
  ·have h0:cR p.Nodes f.Ret=[]:=by
    have hd:vD p.Nodes f.Ret=0:=by
     unfold vD
     rw [hr,if_neg (by omega)]
    unfold cR
    rw [if_pos hd]
   rw [if_pos hr,h0]
   simp
  ·rw [if_neg hr]
   simp
end Go.OM
namespace Go.OM
theorem aF0 (p:GProgram) (nm:ByteArray):jF p nm = -1 ∨ (0 ≤ jF p nm∧jF p nm < p.Fns.length):=by
 unfold jF
 cases h:(List.range p.Fns.length).findSome? (aJ5 p nm) with
 | none=>exact .inl rfl
 | some r =>
  right
  obtain ⟨k,hk,hr⟩:=List.exists_of_findSome?_eq_some h
  have:=List.mem_range.1 hk
  unfold aJ5 at hr
  split at hr
  ·split at hr
   ·have:=Option.some.inj hr
    simp only [Option.getD_some]
    omega
   ·cases hr
  ·cases hr
def aHx (p:GProgram) (o:List Int) (e:Int):List Int:=match p.Nodes[e.toNat]? with
 | some x=>if x.Kind=12 then (if 0 ≤ jF p x.Name then xF o (jF p x.Name) else o) else o
 | none=>o
structure CInv (p:GProgram) (o:List Int):Prop where
 nd:o.Nodup
 bnd:∀ x ∈ o,0 ≤ x∧x < (p.Fns.length:Int)
theorem CInv.step {p:GProgram} {o:List Int} (h:CInv p o) (e:Int):CInv p (aHx p o e):=by
 unfold aHx
 split
 ·split
  ·split
   ·rename_i x _ _ hge
    refine ⟨vG h.nd _,fun y hy=>?_⟩
    rcases mem_addL.1 hy with hy | hy
    ·exact h.bnd y hy
    ·subst hy
     rcases aF0 p x.Name with hb | hb
     ·omega
     ·exact hb
   ·exact h
  ·exact h
 ·exact h
end Go.OM
namespace Go.OM
theorem yK {p:GProgram} (h:vX p=true):1 ≤ p.Nodes.length∧p.Nodes.length ≤ 300∧1 ≤ p.Fns.length∧p.Fns.length ≤ 8∧okU p.Nodes p.Nodes.length=true:=by
 unfold vX at h
 simp only [Bool.and_eq_true,inB_iff] at h
 obtain ⟨h1,h2,h3,_⟩:=h
 exact ⟨by omega,by omega,by omega,by omega,h3⟩
end Go.OM
namespace Go.OM
def aKq (names:List ByteArray) (s:ByteArray):Bool:=names.any fun e=>sEq e s
theorem zO (l:List ByteArray) (s:ByteArray) (hl:l.length ≤ 1048576):kR l s=some (aKq l s):=by
 unfold kR aKq
 rw [sY l (fun e=>sEq e s) (eP l s) (fun k h=>by
  simp only [eP,aB h,if_true,aD h,Option.bind_some,aQ h hl]
  cases sEq l[k] s<;>rfl) (by simp [eP])]
 cases l.any fun e=>sEq e s<;>rfl
theorem rC (l:List ByteArray) (s:ByteArray) (hl:l.length ≤ 1048576):jM l s=some (aKq l s):=by
 unfold jM aKq
 rw [sY l (fun e=>sEq e s) (eX l s) (fun k h=>by
  simp only [eX,aB h,if_true,aD h,Option.bind_some,aQ h hl]
  cases sEq l[k] s<;>rfl) (by simp [eX])]
 cases l.any fun e=>sEq e s<;>rfl
def pG (k:Int):Bool:=inB k 2 6 || (k == 14 || k == 15)
theorem aEs (k:Int):qE k=some (pG k):=by
 unfold qE pG
 simp only [bQ,Option.bind_some]
 cases inB k 2 6 with
 | true=>rfl
 | false =>
  by_cases h:k=14
  ·subst h;rfl
  ·simp [h]
def aFe (p:GProgram) (fn:Int) (x:GNode):Bool:=inB (jF p x.Name) 0 (fn - 1) && (match p.Fns[(jF p x.Name).toNat]? with | some f=>(f.Params.length:Int) == (x.Kids.length:Int) | none=>false)
def aD5 (p:GProgram) (fn:Int) (x:GNode) (names:List ByteArray):Bool:=(!(pG x.Kind) || aKq names x.Name) && (!(x.Kind == 12) || aFe p fn x)
def nD (p:GProgram) (blk:Bool) (kid:Int) (inner:List ByteArray):List ByteArray:=if blk=true then (match p.Nodes[kid.toNat]? with | some y=>if y.Kind=13 then inner ++ [y.Name] else inner | none=>inner) else inner
def lU (p:GProgram) (rc:Int→List ByteArray→Bool) (blk:Bool):List Int→List ByteArray→Bool
 | [],_=>true
 | kid :: l,inner=>rc kid inner && lU p rc blk l (nD p blk kid inner)
def fP (p:GProgram) (fn:Int):Nat→Int→List ByteArray→Bool
 | 0,_,_=>true
 | f + 1,k,names=>match p.Nodes[k.toNat]? with
  | none=>true
  | some x=>aD5 p fn x names && lU p (fP p fn f) (x.Kind == 20) x.Kids names
theorem sZ (p:GProgram) (blk:Bool) (kid:Int) (inner:List ByteArray):(nD p blk kid inner).length ≤ inner.length + 1:=by
 unfold nD
 split
 ·split
  ·split
   ·simp
   ·omega
  ·omega
 ·omega
theorem aBo (p:GProgram) (rc:Int→List ByteArray→Bool) (blk:Bool):∀ (l:List Int) (s:List ByteArray),
  aB4 (fun s kid=>if rc kid s=true then (.inl (nD p blk kid s):List ByteArray ⊕ (Unit ⊕ Bool)) else .inr (.inr false)) (fun _=>.inl ()) l s=if lU p rc blk l s=true then .inl () else .inr false
 | [],s=>rfl
 | kid :: l,s=>by
  have ih:=aBo p rc blk l (nD p blk kid s)
  by_cases h:rc kid s=true
  ·simp only [aB4,lU,h,if_true,Bool.true_and];exact ih
  ·simp only [aB4,lU,Bool.eq_false_iff.2 h,Bool.false_eq_true,if_false,Bool.false_and]
theorem aLe {l:List ByteArray} (h:l.length ≤ 100000) (x:ByteArray):lM 16 l [x]=some (l ++ [x]):=aGs (by omega) (by omega)
theorem nE (p:GProgram) (hF:p.Fns.length ≤ 1048576) (hu:okU p.Nodes p.Nodes.length=true) (fn:Nat) (hfn:fn < p.Fns.length) :
  ∀ (f D:Nat) (k:Int) (names:List ByteArray),0 ≤ k→k < p.Nodes.length→nI p.Nodes k.toNat ≤ D→D ≤ f→names.length + 12 * D ≤ 1000→dZ f p fn k names=some (fP p fn D k names)
 | 0,D,k,names,h0,h1,h2,h3,h4=>by
  have:=hE p.Nodes k.toNat
  omega
 | f + 1,D,k,names,h0,h1,h2,h3,h4=>by
  have hp:=hE p.Nodes k.toNat
  cases D with
  | zero=>omega
  | succ D =>
  have hk:k.toNat < p.Nodes.length:=by omega
  have hx:p.Nodes[k.toNat]? = some p.Nodes[k.toNat]:=List.getElem?_eq_getElem hk
  have hnb:=(kF hu hk).1
  have hge:aK p.Nodes k=some p.Nodes[k.toNat]:=cN h0 (by omega)
  have hkl:=dX hnb hx
  have hkb:=iJ hnb hx
  have hdk:∀ kid ∈ p.Nodes[k.toNat].Kids,nI p.Nodes kid.toNat ≤ D:=fun kid hm=>by
   have:=xD hnb hx hm
   omega
  show mH (dZ f) p fn k names=_
  unfold mH
  simp only [fP,hx,hge,Option.bind_some,aEs,zO names _ (show names.length ≤ 1048576 by omega)]
  generalize hgx:p.Nodes[k.toNat]=x at *
  have hw:IntKind.wrap .i64 ((fn:Int) - 1)=(fn:Int) - 1:=w64 (by omega) (by omega)
  have hkids:aG (fW (dZ f) p fn x) (names,0)=some (if lU p (fP p fn D) (x.Kind == 20) x.Kids names=true then .inl () else .inr false):=by
   rw [← aBo]
   refine bB x.Kids (fun (s:List ByteArray) k=>(s,(k:Int))) (fun j s=>s.length ≤ names.length + j) _ _ (fW (dZ f) p fn x) (fun s j hj hI=>?_) (fun s _=>by simp [fW]) names (by simp)
   have hm:=List.getElem_mem hj
   have hb:=hkb _ hm
   have hrc:=nE p hF hu fn hfn f D x.Kids[j] s hb.1 (by omega) (hdk _ hm) (by omega) (by omega)
   simp only [fW,aB hj,if_true,aD hj,Option.bind_some,hrc]
   cases hs:fP p fn D x.Kids[j] s with
   | false =>
    right
    exact ⟨.inr false,by simp,by simp⟩
   | true =>
    left
    have hlt:(x.Kids[j]).toNat < p.Nodes.length:=by omega
    have hgk:aK p.Nodes x.Kids[j]=some p.Nodes[(x.Kids[j]).toNat]:=cN hb.1 (by omega)
    have hgo:p.Nodes[(x.Kids[j]).toNat]? = some p.Nodes[(x.Kids[j]).toNat]:=List.getElem?_eq_getElem hlt
    refine ⟨nD p (x.Kind == 20) x.Kids[j] s,by simp,?_,?_⟩
    ·simp only [Bool.not_true,Bool.false_eq_true,if_false,hgk,Option.bind_some]
     unfold nD
     rw [hgo]
     cases hb20:(x.Kind == 20) with
     | false=>simp [aQ hj (show x.Kids.length ≤ 1048576 by omega)]
     | true =>
      by_cases h13:(p.Nodes[(x.Kids[j]).toNat]).Kind=13
      ·simp [h13,aLe (show s.length ≤ 100000 by omega),aQ hj (show x.Kids.length ≤ 1048576 by omega)]
      ·simp [h13,aQ hj (show x.Kids.length ≤ 1048576 by omega)]
    ·have:=sZ p (x.Kind == 20) x.Kids[j] s
     omega
  rw [hkids]
  have happ:lM 16 [] names=some names:=aGr (by omega) (by omega)
  rw [happ]
  simp only [Option.bind_some]
  have hfin:(match (if lU p (fP p fn D) (x.Kind == 20) x.Kids names=true then (Sum.inl ():Unit ⊕ Bool) else Sum.inr false) with | Sum.inr z=>some z | Sum.inl ()=>some true)=some (lU p (fP p fn D) (x.Kind == 20) x.Kids names):=by
   cases lU p (fP p fn D) (x.Kind == 20) x.Kids names<;>rfl
  have hu1:(if pG x.Kind=true then some (!(aKq names x.Name)) else some false)=some (!(!(pG x.Kind) || aKq names x.Name)):=by
   cases pG x.Kind<;>simp
  rw [hu1]
  simp only [Option.bind_some]
  unfold aD5
  cases hq:(!(pG x.Kind) || aKq names x.Name) with
  | false=>simp
  | true =>
   simp only [Bool.not_true,Bool.false_eq_true,if_false,Bool.true_and]
   have hcall:((if (x.Kind == 12)=true then (mN p x.Name).bind fun r22=>Option.bind ((cF r22 0 (IntKind.wrap .i64 ((fn:Int) - 1))).bind fun r26=>if (!r26)=true then some true else (aK p.Fns r22).bind fun e30=>some ((e30.Params.length:Int) != (x.Kids.length:Int))) fun v31=>if v31=true then some (Sum.inr false) else some (Sum.inl ()) else some (Sum.inl ())):Option (Unit ⊕ Bool))=some (if (!(x.Kind == 12) || aFe p fn x)=true then .inl () else .inr false):=by
    cases h12:(x.Kind == 12) with
    | false=>simp
    | true =>
     simp only [if_true,qK p _ hF,bQ,Option.bind_some,hw]
     unfold aFe
     cases hi:inB (jF p x.Name) 0 ((fn:Int) - 1) with
     | false=>simp
     | true =>
      have hi':=inB_iff.1 hi
      have hlt:(jF p x.Name).toNat < p.Fns.length:=by omega
      rw [cN hi'.1 (by omega),List.getElem?_eq_getElem hlt]
      by_cases he:((p.Fns[(jF p x.Name).toNat]).Params.length:Int)=(x.Kids.length:Int)
      ·simp [he]
      ·simp [he]
   rw [hcall]
   simp only [Option.bind_some]
   cases (!(x.Kind == 12) || aFe p fn x) with
   | false=>simp
   | true=>simp only [if_true,Bool.true_and];exact hfin
end Go.OM
namespace Go.OM
theorem zX (p:GProgram) (rc:Int→List ByteArray→Bool):∀ (l:List Int) (th:List ByteArray) (b:Bool),l.foldl (fun b kid=>b || !(rc kid th)) b=(b || !(lU p rc false l th))
 | [],th,b=>by simp [lU]
 | kid :: l,th,b=>by
  rw [List.foldl_cons,zX p rc l th]
  have:nD p false kid th=th:=by simp [nD]
  simp only [lU,this]
  cases b<;>cases rc kid th<;>simp
theorem lO (p:GProgram) (hF:p.Fns.length ≤ 1048576) (hu:okU p.Nodes p.Nodes.length=true) (fn:Nat) (hfn:fn < p.Fns.length) :
  ∀ (f D:Nat) (k:Int) (th:List ByteArray) (b:Bool),0 ≤ k→k < p.Nodes.length→(∀ x,p.Nodes[k.toNat]? = some x→pJ x.Kind=true)→nI p.Nodes k.toNat ≤ D→D ≤ f→th.length ≤ 1000 →
   aV f ⟨p,fn,th,b⟩ k=some ⟨p,fn,th,b || !(fP p fn D k th)⟩
 | 0,D,k,th,b,h0,h1,hv,h2,h3,h4=>by
  have:=hE p.Nodes k.toNat
  omega
 | f + 1,D,k,th,b,h0,h1,hv,h2,h3,h4=>by
  have hp:=hE p.Nodes k.toNat
  cases D with
  | zero=>omega
  | succ D =>
  have hk:k.toNat < p.Nodes.length:=by omega
  have hx:p.Nodes[k.toNat]? = some p.Nodes[k.toNat]:=List.getElem?_eq_getElem hk
  have hnb:=(kF hu hk).1
  have hge:aK p.Nodes k=some p.Nodes[k.toNat]:=cN h0 (by omega)
  have hkl:=dX hnb hx
  have hkb:=iJ hnb hx
  have hdk:∀ kid ∈ p.Nodes[k.toNat].Kids,nI p.Nodes kid.toNat ≤ D:=fun kid hm=>by
   have:=xD hnb hx hm
   omega
  have hvk:=hv _ hx
  have hkv:∀ kid ∈ p.Nodes[k.toNat].Kids,∀ y,p.Nodes[kid.toNat]? = some y→pJ y.Kind=true:=by
   intro kid hm y hy
   obtain ⟨i,hi,rfl⟩:=List.mem_iff_getElem.1 hm
   obtain ⟨_,_,_,g3,_⟩:=lW hnb
   obtain ⟨_,_,z,hz,hfit⟩:=g3 i hi
   rw [hy] at hz
   injection hz with hz
   subst hz
   have hv1:=inB_iff.1 hvk
   unfold tQ at hfit
   rw [if_neg (by omega),if_neg (by omega),if_neg (by omega)] at hfit
   exact hfit
  show cO (aV f) ⟨p,fn,th,b⟩ k=_
  unfold cO
  simp only [fP,hx,hge,Option.bind_some]
  generalize hgx:p.Nodes[k.toNat]=x at *
  have hv1:=inB_iff.1 hvk
  have hloop:aG (aZ (aV f) x) (0,(⟨p,fn,th,b⟩:Gl07Seen))=some ⟨p,fn,th,b || !(lU p (fP p fn D) false x.Kids th)⟩:=by
   have:=bB x.Kids (fun (b:Bool) j=>((j:Int),(⟨p,fn,th,b⟩:Gl07Seen))) (fun _ _=>True) (fun b kid=>.inl (b || !(fP p fn D kid th))) (fun b=>(⟨p,fn,th,b⟩:Gl07Seen)) (aZ (aV f) x) (fun b j hj _=>by
    left
    have hm:=List.getElem_mem hj
    have hb:=hkb _ hm
    refine ⟨_,rfl,?_,trivial⟩
    simp only [aZ,aB hj,if_true,aD hj,Option.bind_some,lO p hF hu fn hfn f D x.Kids[j] th b hb.1 (by omega) (hkv _ hm) (hdk _ hm) (by omega) h4,aQ hj (show x.Kids.length ≤ 1048576 by omega)]) (fun b _=>by simp [aZ]) b trivial
   rw [bT,zX p] at this
   exact this
  rw [hloop]
  have h20:(x.Kind == 20)=false:=by simp;omega
  rw [h20]
  simp only [Option.bind_some]
  generalize hB:lU p (fP p fn D) false x.Kids th=B
  have hhas:=rC th x.Name (show th.length ≤ 1048576 by omega)
  by_cases h26:2 ≤ x.Kind∧x.Kind ≤ 6
  ·have hcond:(if (x.Kind == 2)=true then some (x.Kind == 2) else if (x.Kind == 3)=true then some (x.Kind == 3) else if (x.Kind == 4)=true then some (x.Kind == 4) else if (x.Kind == 5)=true then some (x.Kind == 5) else some (x.Kind == 6))=some true:=by
    have:x.Kind=2 ∨ x.Kind=3 ∨ x.Kind=4 ∨ x.Kind=5 ∨ x.Kind=6:=by omega
    rcases this with e | e | e | e | e<;>simp [e]
   rw [hcond]
   have hu1:pG x.Kind=true:=by
    unfold pG
    rw [inB_iff.2 h26];rfl
   have h12:(x.Kind == 12)=false:=by simp;omega
   simp only [Option.bind_some,if_true,hhas,aD5,hu1,h12,Bool.not_true,Bool.false_or,Bool.not_false,Bool.true_or,Bool.and_true]
   cases b<;>cases B<;>cases aKq th x.Name<;>simp
  ·have hcond:(if (x.Kind == 2)=true then some (x.Kind == 2) else if (x.Kind == 3)=true then some (x.Kind == 3) else if (x.Kind == 4)=true then some (x.Kind == 4) else if (x.Kind == 5)=true then some (x.Kind == 5) else some (x.Kind == 6))=some false:=by
    have n2:¬ x.Kind=2:=by omega
    have n3:¬ x.Kind=3:=by omega
    have n4:¬ x.Kind=4:=by omega
    have n5:¬ x.Kind=5:=by omega
    have n6:¬ x.Kind=6:=by omega
    simp [n2,n3,n4,n5,n6]
   rw [hcond]
   have hu1:pG x.Kind=false:=by
    unfold pG
    have e1:inB x.Kind 2 6=false:=by
     rw [Bool.eq_false_iff];intro h;exact h26 (inB_iff.1 h)
    have e2:(x.Kind == 14)=false:=by simp;omega
    have e3:(x.Kind == 15)=false:=by simp;omega
    rw [e1,e2,e3];rfl
   simp only [Option.bind_some,Bool.false_eq_true,if_false,aD5,hu1,Bool.not_false,Bool.true_or,Bool.true_and]
   by_cases h12:x.Kind=12
   ·have e12:(x.Kind == 12)=true:=by simpa using h12
    simp only [e12,if_true,vK p _ hF,Option.bind_some,Bool.not_true,Bool.false_or]
    unfold aFe
    rcases aF0 p x.Name with hm1 | ⟨g0,g1⟩
    ·have hi:inB (jF p x.Name) 0 ((fn:Int) - 1)=false:=by
      rw [Bool.eq_false_iff];intro h;have:=inB_iff.1 h;omega
     rw [hi]
     have hlt:decide (jF p x.Name < 0)=true:=by simp [hm1]
     rw [hlt]
     cases b<;>cases B<;>simp
    ·have hlt:decide (jF p x.Name < 0)=false:=by simp only [decide_eq_false_iff_not];omega
     rw [hlt]
     by_cases hge2:jF p x.Name ≥ fn
     ·have hi:inB (jF p x.Name) 0 ((fn:Int) - 1)=false:=by
       rw [Bool.eq_false_iff];intro h;have:=inB_iff.1 h;omega
      rw [hi,decide_eq_true hge2]
      cases b<;>cases B<;>simp
     ·have hi:inB (jF p x.Name) 0 ((fn:Int) - 1)=true:=inB_iff.2 (by omega)
      have hlt2:(jF p x.Name).toNat < p.Fns.length:=by omega
      rw [hi,decide_eq_false hge2,cN g0 (by omega),List.getElem?_eq_getElem hlt2]
      cases b<;>cases B<;>simp<;>rfl
   ·have e12:(x.Kind == 12)=false:=by simpa using h12
    simp only [e12,Bool.false_eq_true,if_false,Bool.not_false,Bool.true_or,Bool.true_and]
end Go.OM
namespace Go.OM
def kG (p:GProgram) (kids:List Int) (th:List ByteArray):List ByteArray:=kids.foldl (fun th kid=>nD p true kid th) th
theorem aHp (p:GProgram) (rc:Int→List ByteArray→Bool):∀ (l:List Int) (th:List ByteArray) (b:Bool),l.foldl (fun (s:List ByteArray × Bool) kid=>(nD p true kid s.1,s.2 || !(rc kid s.1))) (th,b)=(kG p l th,b || !(lU p rc true l th))
 | [],th,b=>by simp [kG,lU]
 | kid :: l,th,b=>by
  rw [List.foldl_cons]
  have:=aHp p rc l (nD p true kid th) (b || !(rc kid th))
  rw [this]
  simp only [kG,List.foldl_cons,lU]
  cases b<;>cases rc kid th<;>simp
theorem uP (p:GProgram):∀ (l:List Int) (th:List ByteArray),(kG p l th).length ≤ th.length + l.length
 | [],th=>by simp [kG]
 | kid :: l,th=>by
  have h1:=uP p l (nD p true kid th)
  have h2:=sZ p true kid th
  simp only [kG,List.foldl_cons,List.length_cons] at h1 ⊢
  omega
theorem aGa (p:GProgram) (fn:Int) (x:GNode) (th:List ByteArray) (h:x.Kind=13 ∨ 16 ≤ x.Kind):aD5 p fn x th=true:=by
 unfold aD5 pG
 have e1:inB x.Kind 2 6=false:=by
  rw [Bool.eq_false_iff];intro hh;have:=inB_iff.1 hh;omega
 have e2:(x.Kind == 14)=false:=by simp;omega
 have e3:(x.Kind == 15)=false:=by simp;omega
 have e4:(x.Kind == 12)=false:=by simp;omega
 rw [e1,e2,e3,e4];rfl
theorem aMq (p:GProgram) (fn:Int) (x:GNode) (th:List ByteArray) (h:x.Kind=14 ∨ x.Kind=15):aD5 p fn x th=aKq th x.Name:=by
 unfold aD5 pG
 have e4:(x.Kind == 12)=false:=by simp;omega
 have e5:(inB x.Kind 2 6 || (x.Kind == 14 || x.Kind == 15))=true:=by
  rcases h with e | e<;>simp [e]
 rw [e5,e4];simp
theorem vI (p:GProgram) (hF:p.Fns.length ≤ 1048576) (hu:okU p.Nodes p.Nodes.length=true) (fn:Nat) (hfn:fn < p.Fns.length):∀ (f D:Nat),
  (∀ (k:Int) (x:GNode) (th:List ByteArray) (b:Bool),0 ≤ k→p.Nodes[k.toNat]? = some x→x.Kind=20→nI p.Nodes k.toNat ≤ D→D ≤ f→th.length + 12 * D ≤ 1000→(aE f).1 ⟨p,fn,th,b⟩ k=some ⟨p,fn,kG p x.Kids th,b || !(fP p fn D k th)⟩) ∧
  (∀ (k:Int) (x:GNode) (th:List ByteArray) (b:Bool),0 ≤ k→p.Nodes[k.toNat]? = some x→xQ x.Kind=true→nI p.Nodes k.toNat ≤ D→D ≤ f→th.length + 12 * D ≤ 1000→(aE f).2 ⟨p,fn,th,b⟩ k=some ⟨p,fn,nD p true k th,b || !(fP p fn D k th)⟩)
 | 0,D=>by
  refine ⟨fun k x th b h0 hx hk h2 h3 h4=>?_,fun k x th b h0 hx hk h2 h3 h4=>?_⟩ <;>
  ·have:=hE p.Nodes k.toNat
   omega
 | f + 1,0=>by
  refine ⟨fun k x th b h0 hx hk h2 h3 h4=>?_,fun k x th b h0 hx hk h2 h3 h4=>?_⟩ <;>
  ·have:=hE p.Nodes k.toNat
   omega
 | f + 1,D + 1=>by
  obtain ⟨ihB,ihS⟩:=vI p hF hu fn hfn f D
  have facts:∀ (k:Int) (x:GNode),0 ≤ k→p.Nodes[k.toNat]? = some x→nI p.Nodes k.toNat ≤ ((D + 1:Nat):Int)→k < p.Nodes.length∧aK p.Nodes k=some x∧x.Kids.length ≤ 12∧inB x.Kids.length (iH x.Kind).1 (iH x.Kind).2=true ∧
    ∀ (i:Nat) (hi:i < x.Kids.length),0 ≤ x.Kids[i]∧nI p.Nodes (x.Kids[i]).toNat ≤ D∧∃ y,p.Nodes[(x.Kids[i]).toNat]? = some y∧tQ x.Kind i y.Kind=true:=by
   intro k x h0 hx hd
   obtain ⟨hlt,hxe⟩:=List.getElem?_eq_some_iff.1 hx
   have hnb:=(kF hu hlt).1
   obtain ⟨_,_,g2,g3,_⟩:=lW hnb
   refine ⟨by omega,?_,dX hnb hx,by rw [← hxe];exact g2,fun i hi=>?_⟩
   ·rw [cN h0 (by omega),hxe]
   ·subst hxe
    obtain ⟨q1,_,q3⟩:=g3 i hi
    have:=xD hnb hx (List.getElem_mem hi)
    exact ⟨q1.1,by omega,q3⟩
  constructor
  ·intro k x th b h0 hx hk h2 h3 h4
   obtain ⟨hkn,hge,hkl,hsh,hkid⟩:=facts k x h0 hx h2
   show cP (aE f).1 (aE f).2 ⟨p,fn,th,b⟩ k=_
   unfold cP
   have h20:(x.Kind == 20)=true:=by simpa using hk
   have hs:fP p fn (D + 1) k th=lU p (fP p fn D) true x.Kids th:=by
    simp only [fP,hx,aGa p fn x th (by omega),h20,Bool.true_and]
   rw [hs]
   have:=bB x.Kids (fun (s:List ByteArray × Bool) j=>((j:Int),(⟨p,fn,s.1,s.2⟩:Gl07Seen))) (fun j s=>s.1.length ≤ th.length + j) (fun s kid=>.inl (nD p true kid s.1,s.2 || !(fP p fn D kid s.1))) (fun s=>(⟨p,fn,s.1,s.2⟩:Gl07Seen)) (bF (aE f).2 k) (fun s j hj hI=>by
    left
    obtain ⟨q0,q1,y,hy,hfit⟩:=hkid j hj
    have hst:xQ y.Kind=true:=by
     unfold tQ at hfit
     rwa [if_pos hk] at hfit
    refine ⟨_,rfl,?_,?_⟩
    ·simp only [bF,hge,Option.bind_some,aB hj,if_true,aD hj,ihS x.Kids[j] y s.1 s.2 q0 hy hst q1 (by omega) (by omega),aQ hj (show x.Kids.length ≤ 1048576 by omega)]
    ·have:=sZ p true x.Kids[j] s.1
     simp only;omega) (fun s _=>by simp [bF,hge]) (th,b) (by simp)
   rw [bT,aHp] at this
   exact this
  ·intro k x th b h0 hx hk h2 h3 h4
   obtain ⟨hkn,hge,hkl,hsh,hkid⟩:=facts k x h0 hx h2
   have hk':=inB_iff.1 hk
   have hsh':=inB_iff.1 hsh
   show dD (aE f).1 (aE f).2 ⟨p,fn,th,b⟩ k=_
   unfold dD
   have h20:(x.Kind == 20)=false:=by simp;omega
   have hs:fP p fn (D + 1) k th=(aD5 p fn x th && lU p (fP p fn D) false x.Kids th):=by
    simp only [fP,hx,h20]
   rw [hs]
   have hpos:1 ≤ x.Kids.length:=by
    have:1 ≤ (iH x.Kind).1:=by
     unfold iH
     split
     ·simp
     ·split
      ·simp
      ·split
       ·simp
       ·omega
    omega
   obtain ⟨k0,rest,hks⟩:∃ k0 rest,x.Kids=k0 :: rest:=by
    match h:x.Kids with
    | []=>rw [h] at hpos;simp at hpos
    | k0 :: rest=>exact ⟨k0,rest,rfl⟩
   obtain ⟨q0,q1,y,hy,hfit⟩:=hkid 0 (by omega)
   have hk00:x.Kids[0]=k0:=by simp [hks]
   rw [hk00] at q0 q1 hy
   have hvy:pJ y.Kind=true:=by
    unfold tQ at hfit
    rw [if_neg (by omega),if_neg (by simp)] at hfit
    split at hfit
    ·have:y.Kind=12:=by simpa using hfit
     rw [this];rfl
    ·exact hfit
   have hg0:aK x.Kids 0=some k0:=by rw [aKr,hks];rfl
   have hyl:k0 < p.Nodes.length:=by
    have:=(List.getElem?_eq_some_iff.1 hy).1
    omega
   have hval:dW ⟨p,fn,th,b⟩ k0=some ⟨p,fn,th,b || !(fP p fn D k0 th)⟩:=lO p hF hu fn hfn iA D k0 th b q0 hyl (fun z hz=>by rw [hy] at hz;injection hz with hz;rw [← hz];exact hvy) q1 (show D ≤ 1048576 by omega) (by omega)
   simp only [hge,hg0,hval,Option.bind_some]
   have hlet:nD p true k th=if x.Kind=13 then th ++ [x.Name] else th:=by
    unfold nD;simp only [if_true,hx]
   have hl0:nD p false k0 th=th:=by simp [nD]
   rw [hlet,hks]
   simp only [lU,hl0]
   have hone:(x.Kind=13 ∨ x.Kind=14 ∨ x.Kind=15 ∨ x.Kind=18 ∨ x.Kind=19)→rest=[]:=by
    intro hc
    have h1:(iH x.Kind).2=1:=by
     unfold iH
     rw [if_pos (by omega)]
    rw [h1,hks] at hsh'
    simp only [List.length_cons] at hsh'
    exact List.length_eq_zero_iff.1 (by omega)
   generalize hB:fP p fn D k0 th=B
   by_cases h13:x.Kind=13
   ·have e13:(x.Kind == 13)=true:=by simpa using h13
    have happ1:lM 16 [] th=some th:=aGr (by omega) (by omega)
    simp only [e13,if_true,happ1,Option.bind_some,aLe (show th.length ≤ 100000 by omega),if_pos h13,aGa p fn x th (.inl h13),Bool.true_and,hone (.inl h13),lU,Bool.and_true]
   ·have e13:(x.Kind == 13)=false:=by simpa using h13
    simp only [e13,Bool.false_eq_true,if_false,if_neg h13]
    by_cases h1415:x.Kind=14 ∨ x.Kind=15
    ·have hcond:(if (x.Kind == 14)=true then some (x.Kind == 14) else some (x.Kind == 15))=some true:=by
      rcases h1415 with e | e<;>simp [e]
     rw [hcond]
     simp only [Option.bind_some,if_true,rC th x.Name (show th.length ≤ 1048576 by omega),aMq p fn x th h1415,hone (by omega),lU,Bool.and_true]
     cases b<;>cases B<;>cases aKq th x.Name<;>simp
    ·have hcond:(if (x.Kind == 14)=true then some (x.Kind == 14) else some (x.Kind == 15))=some false:=by
      rw [not_or] at h1415
      simp [h1415.1,h1415.2]
     rw [hcond]
     simp only [Option.bind_some,Bool.false_eq_true,if_false,aGa p fn x th (.inr (by omega)),Bool.true_and]
     by_cases h1617:x.Kind=16 ∨ x.Kind=17
     ·have hcond2:(if (x.Kind == 16)=true then some (x.Kind == 16) else some (x.Kind == 17))=some true:=by
       rcases h1617 with e | e<;>simp [e]
      rw [hcond2]
      simp only [Option.bind_some,if_true]
      have hlen:x.Kids.length=rest.length + 1:=by rw [hks];simp
      have:=bB rest (fun (s:Bool) j=>(((j + 1:Nat):Int),(⟨p,fn,th,s⟩:Gl07Seen))) (fun _ _=>True) (fun s kid=>.inl (s || !(fP p fn D kid th))) (fun s=>(⟨p,fn,th,s⟩:Gl07Seen)) (bP (aE f).1 x) (fun s j hj _=>by
       left
       have hj1:j + 1 < x.Kids.length:=by omega
       obtain ⟨r0,r1,z,hz,hfz⟩:=hkid (j + 1) hj1
       have hkj:x.Kids[j + 1]=rest[j]:=by simp [hks]
       rw [hkj] at r0 r1 hz
       have hz20:z.Kind=20:=by
        unfold tQ at hfz
        rw [if_neg (by omega),if_pos ⟨h1617,by omega⟩] at hfz
        simpa using hfz
       have hgj:aK x.Kids ((j + 1:Nat):Int)=some rest[j]:=by rw [aD hj1,hkj]
       refine ⟨_,rfl,?_,trivial⟩
       simp only [bP,aB hj1,if_true,hgj,Option.bind_some,ihB rest[j] z th s r0 hz hz20 r1 (by omega) (by omega),aQ hj1 (show x.Kids.length ≤ 1048576 by omega)]) (fun s _=>by
        have:¬ (((rest.length + 1:Nat):Int) < (x.Kids.length:Int)):=by omega
        simp only [bP,decide_eq_false this,Bool.false_eq_true,if_false]) (b || !B) trivial
      rw [bT,zX p] at this
      rw [show (((0 + 1:Nat):Int))=1 from rfl] at this
      rw [this]
      cases b<;>cases B<;>simp
     ·have hcond2:(if (x.Kind == 16)=true then some (x.Kind == 16) else some (x.Kind == 17))=some false:=by
       rw [not_or] at h1617
       simp [h1617.1,h1617.2]
      rw [hcond2]
      simp only [Option.bind_some,Bool.false_eq_true,if_false,hone (by omega),lU,Bool.and_true]
end Go.OM
namespace Go.OM
def eU (l:List GVar) (nm:ByteArray):Int:=((List.range l.length).findSome? fun k=>match l[k]? with
 | some v=>if sEq v.Name nm=true then some (k:Int) else none
 | none=>none).getD (-1)
theorem oR (l:List GVar) (nm:ByteArray) (hl:l.length ≤ 1048576):lJ l nm=some (eU l nm):=by
 unfold lJ eU
 rw [vA l.length (fun k=>match l[k]? with
  | some v=>if sEq v.Name nm=true then some (k:Int) else none
  | none=>none) (gI l nm) (fun k h=>by
   simp only [gI,aB h,if_true,aD h,Option.bind_some,List.getElem?_eq_getElem h,aQ h hl]
   cases sEq l[k].Name nm<;>rfl) (by simp [gI])]
 cases (List.range l.length).findSome? fun k=>match l[k]? with
  | some v=>if sEq v.Name nm=true then some (k:Int) else none
  | none=>none<;>rfl
theorem sG (l:List GVar) (nm:ByteArray) (hl:l.length ≤ 1048576):nM l nm=some (eU l nm):=oR l nm hl
def rL (l:List GVar):Bool:=(List.range l.length).all fun k=>match l[k]? with
 | some v=>eU l v.Name == k
 | none=>true
theorem aBi {ρ:Type} (l:List GVar) (hl:l.length ≤ 1048576) (b:ρ) (f:Int→Option (Int ⊕ (Unit ⊕ ρ)))
  (hf:∀ (k:Nat) (h:k < l.length),f k=some (if (eU l l[k].Name != (k:Int))=true then .inr (.inr b) else .inl (IntKind.wrap .i64 ((k:Int) + 1)))) (he:f l.length=some (.inr (.inl ()))):aG f 0=some (if rL l=true then .inl () else .inr b):=by
 unfold rL
 refine nO l.length hl _ b f (fun k hk=>?_) he
 rw [hf k hk,List.getElem?_eq_getElem hk]
 by_cases e:eU l l[k].Name=k
 ·simp [e]
 ·simp [e]
theorem oT {α β:Type} (h:α→β):∀ (l:List α) (s:List β),l.foldl (fun s x=>s ++ [h x]) s=s ++ l.map h
 | [],s=>by simp
 | x :: l,s=>by rw [List.foldl_cons,oT h l];simp
def xO (p:GProgram) (s:List GVar) (e:Int):List GVar:=match p.Nodes[e.toNat]? with
 | some y=>if y.Kind=13 then s ++ [⟨y.Name,0,e⟩] else s
 | none=>s
noncomputable def gM (p:GProgram) (f:GFn):List GVar:=(cR p.Nodes f.Body).foldl (xO p) (f.Params.map fun x=>(⟨x.Name,x.Typ,-1⟩:GVar))
theorem aDl (nodes:List GNode) (k:Int):(cR nodes k).length ≤ nodes.length:=by
 unfold cR
 split
 ·simp
 ·unfold aB9
  rw [List.length_map]
  refine Nat.le_trans (List.length_filter_le _ _) ?_
  rw [List.length_range]
  exact Nat.le_refl _
theorem aDo (p:GProgram) (s:List GVar) (e:Int):(xO p s e).length ≤ s.length + 1:=by
 unfold xO
 split
 ·split
  ·simp
  ·omega
 ·omega
theorem aEy (p:GProgram):∀ (l:List Int) (s:List GVar),(l.foldl (xO p) s).length ≤ s.length + l.length
 | [],s=>by simp
 | e :: l,s=>by
  rw [List.foldl_cons]
  have h1:=aEy p l (xO p s e)
  have h2:=aDo p s e
  simp only [List.length_cons];omega
theorem sB (p:GProgram) (f:GFn) (hp:f.Params.length ≤ 3):(gM p f).length ≤ p.Nodes.length + 3:=by
 unfold gM
 have h1:=aEy p (cR p.Nodes f.Body) (f.Params.map fun x=>(⟨x.Name,x.Typ,-1⟩:GVar))
 have h2:=aDl p.Nodes f.Body
 rw [List.length_map] at h1
 omega
theorem rW {ρ β:Type} (f:GFn) (hp:f.Params.length ≤ 1000) (h:GParam→β) (g:List β × Int→Option ((List β × Int) ⊕ List β))
  (hf:∀ (s:List β) (k:Nat) (hk:k < f.Params.length),s.length ≤ k→g (s,(k:Int))=some (.inl (s ++ [h f.Params[k]],((k + 1:Nat):Int)))) (he:∀ s,g (s,(f.Params.length:Int))=some (.inr s)):aG g ([],0)=some (f.Params.map h):=by
 have:=bB f.Params (fun (s:List β) k=>(s,(k:Int))) (fun k s=>s.length ≤ k) (fun s x=>.inl (s ++ [h x])) id g (fun s k hk hI=>.inl ⟨_,rfl,hf s k hk hI,by simp only [List.length_append,List.length_cons,List.length_nil];omega⟩) (fun s _=>he s) [] (by simp)
 rw [bT,oT] at this
 simpa using this
theorem aDj (p:GProgram) (r:List Int) (hr:∀ e ∈ r,0 ≤ e∧e < p.Nodes.length) (hn:p.Nodes.length ≤ 1000) (hrl:r.length ≤ 1000) (s0:List GVar) (h0:s0.length ≤ 1000) (g:List GVar × Int→Option ((List GVar × Int) ⊕ List GVar))
  (hf:∀ (s:List GVar) (k:Nat) (hk:k < r.length) (y:GNode),s.length ≤ 100000→aK p.Nodes r[k]=some y→g (s,(k:Int))=some (.inl (if (y.Kind == 13)=true then s ++ [⟨y.Name,0,r[k]⟩] else s,((k + 1:Nat):Int)))) (he:∀ s,g (s,(r.length:Int))=some (.inr s)):aG g (s0,0)=some (r.foldl (xO p) s0):=by
 have:=bB r (fun (s:List GVar) k=>(s,(k:Int))) (fun k s=>s.length ≤ s0.length + k) (fun s e=>.inl (xO p s e)) id g (fun s k hk hI=>by
  left
  obtain ⟨b0,b1⟩:=hr _ (List.getElem_mem hk)
  have hlt:(r[k]).toNat < p.Nodes.length:=by omega
  refine ⟨_,rfl,?_,by have:=aDo p s r[k];omega⟩
  rw [hf s k hk _ (by omega) (cN b0 b1)]
  unfold xO
  rw [List.getElem?_eq_getElem hlt]
  by_cases e:(p.Nodes[(r[k]).toNat]).Kind=13<;>simp [e]) (fun s _=>he s) s0 (by simp)
 rw [bT] at this
 exact this
theorem aN4 {l:List GVar} (h:l.length ≤ 100000) (x:GVar):lM 32 l [x]=some (l ++ [x]):=aGs (by omega) (by omega)
theorem xJ (p:GProgram) (hn:p.Nodes.length ≤ 300) (hF:p.Fns.length ≤ 1000) (i:Nat) (hi:i < p.Fns.length) (hp:p.Fns[i].Params.length ≤ 3):jR p i=some (gM p p.Fns[i])∧jN p i=some (gM p p.Fns[i]):=by
 have hw:IntKind.wrap .i64 ((p.Fns.length:Int) - 1)=(p.Fns.length:Int) - 1:=w64 (by omega) (by omega)
 have hin:inB (i:Int) 0 ((p.Fns.length:Int) - 1)=true:=inB_iff.2 (by omega)
 have hul:=aDl p.Nodes p.Fns[i].Body
 have hub:∀ e ∈ cR p.Nodes p.Fns[i].Body,0 ≤ e∧e < p.Nodes.length:=fun e he=>jL he
 constructor
 ·unfold jR
  simp only [bQ,Option.bind_some,hw,hin,Bool.not_true,Bool.false_eq_true,if_false,aD hi]
  rw [rW (ρ:=Unit) p.Fns[i] (by omega) (fun x=>(⟨x.Name,x.Typ,-1⟩:GVar)) (fK p.Fns[i]) (fun s k hk hs=>by
   simp only [fK,aB hk,if_true,aD hk,Option.bind_some,aN4 (show s.length ≤ 100000 by omega),aQ hk (show p.Fns[i].Params.length ≤ 1048576 by omega)]) (fun s=>by simp [fK])]
  simp only [Option.bind_some,tJ p (show p.Nodes.length ≤ 1048576 by omega)]
  rw [aDj p _ hub (by omega) (by omega) _ (by rw [List.length_map];omega) (fJ p (cR p.Nodes p.Fns[i].Body)) (fun s k hk y hs hy=>by
   simp only [fJ,aB hk,if_true,aD hk,hy,Option.bind_some,aN4 hs,aQ hk (show (cR p.Nodes p.Fns[i].Body).length ≤ 1048576 by omega)]
   cases (y.Kind == 13)<;>simp) (fun s=>by simp [fJ])]
  rfl
 ·unfold jN
  simp only [dM,Option.bind_some,hw,hin,Bool.not_true,Bool.false_eq_true,if_false,aD hi]
  rw [rW (ρ:=Unit) p.Fns[i] (by omega) (fun x=>(⟨x.Name,x.Typ,-1⟩:GVar)) (fA p.Fns[i]) (fun s k hk hs=>by
   simp only [fA,aB hk,if_true,aD hk,Option.bind_some,aN4 (show s.length ≤ 100000 by omega),aQ hk (show p.Fns[i].Params.length ≤ 1048576 by omega)]) (fun s=>by simp [fA])]
  simp only [Option.bind_some,sH p (show p.Nodes.length ≤ 1048576 by omega)]
  rw [aDj p _ hub (by omega) (by omega) _ (by rw [List.length_map];omega) (eZ p (cR p.Nodes p.Fns[i].Body)) (fun s k hk y hs hy=>by
   simp only [eZ,aB hk,if_true,aD hk,hy,Option.bind_some,aN4 hs,aQ hk (show (cR p.Nodes p.Fns[i].Body).length ≤ 1048576 by omega)]
   cases (y.Kind == 13)<;>simp) (fun s=>by simp [eZ])]
  rfl
end Go.OM
namespace Go.OM
def pnB (f:GFn):List ByteArray:=f.Params.map fun x=>x.Name
def aEo (p:GProgram) (k:Int):List Int:=match p.Nodes[k.toNat]? with
 | some x=>x.Kids
 | none=>[]
noncomputable def qL (p:GProgram) (i:Nat):Bool:=match p.Fns[i]? with
 | none=>true
 | some f=>rL (gM p f) && (fP p i 10 f.Body (pnB f) && (if f.Ret ≥ 0 then fP p i 10 f.Ret (kG p (aEo p f.Body) (pnB f)) else true))
noncomputable def sU (p:GProgram):Bool:=vX p && (List.range p.Fns.length).all (qL p)
structure FnFacts (p:GProgram) (f:GFn):Prop where
 par:f.Params.length ≤ 3
 b0:0 ≤ f.Body
 b1:f.Body < p.Nodes.length
 bk:∃ x,p.Nodes[f.Body.toNat]? = some x∧x.Kind=20
 r1:f.Ret < p.Nodes.length
 rv:0 ≤ f.Ret→∃ x,p.Nodes[f.Ret.toNat]? = some x∧pJ x.Kind=true
theorem aD7 {p:GProgram} (h:vX p=true) {i:Nat} (hi:i < p.Fns.length):FnFacts p p.Fns[i]:=by
 have hg:mU p i=true:=by
  unfold vX at h
  simp only [Bool.and_eq_true] at h
  exact List.all_eq_true.1 h.2.2.2.1 i (List.mem_range.2 hi)
 rw [tN hi,Bool.and_eq_true] at hg
 have hf:=hg.1
 obtain ⟨_,_,_,hr⟩:=tP hf
 unfold fnB at hf
 simp only [Bool.and_eq_true,Bool.not_eq_true',decide_eq_false_iff_not] at hf
 obtain ⟨_,h2,_,_,h5,h6⟩:=hf
 obtain ⟨b1,b2,b3⟩:=bodyB_iff.1 h5
 refine ⟨by omega,b1,b2,b3,hr,fun h0=>?_⟩
 unfold retB at h6
 split at h6
 ·simp only [beq_iff_eq] at h6;omega
 ·rw [Bool.and_eq_true] at h6
  have h7:=h6.2
  split at h7
  ·rename_i x hx;exact ⟨x,hx,h7⟩
  ·cases h7
theorem aKi (p:GProgram) (x:GNode) (hb:∀ kid ∈ x.Kids,0 ≤ kid∧kid < p.Nodes.length) (hl:x.Kids.length ≤ 12) (th:List ByteArray) (ht:th.length ≤ 1000):aG (bM p x) (th,0)=some (kG p x.Kids th):=by
 have:=bB x.Kids (fun (s:List ByteArray) k=>(s,(k:Int))) (fun k s=>s.length ≤ th.length + k) (fun s kid=>.inl (nD p true kid s)) id (bM p x) (fun s k hk hI=>by
  left
  obtain ⟨b0,b1⟩:=hb _ (List.getElem_mem hk)
  have hlt:(x.Kids[k]).toNat < p.Nodes.length:=by omega
  refine ⟨_,rfl,?_,by have:=sZ p true x.Kids[k] s;omega⟩
  simp only [bM,aB hk,if_true,aD hk,cN b0 b1,Option.bind_some,aLe (show s.length ≤ 100000 by omega),aQ hk (show x.Kids.length ≤ 1048576 by omega)]
  unfold nD
  rw [if_pos rfl,List.getElem?_eq_getElem hlt]
  by_cases e:(p.Nodes[(x.Kids[k]).toNat]).Kind=13<;>simp [e]) (fun s _=>by simp [bM]) th (by simp)
 rw [bT] at this
 exact this
theorem tL (p:GProgram) (hn:p.Nodes.length ≤ 1048576) (hF:p.Fns.length ≤ 1048576):fX p=some (sU p):=by
 unfold fX sU
 rw [uZ p hn hF]
 simp only [Option.bind_some]
 cases hok:vX p with
 | false=>rfl
 | true =>
  obtain ⟨b1,b2,b3,b4,hu⟩:=yK hok
  simp only [Bool.not_true,Bool.false_eq_true,if_false,Bool.true_and]
  rw [nO p.Fns.length hF (qL p) false (cH p) (fun i hi=>by
   obtain ⟨f1,f2,f3,⟨x,hx,hxk⟩,f5,f6⟩:=aD7 hok hi
   have hdb:=(kF hu (show p.Fns[i].Body.toNat < p.Nodes.length by omega))
   have hvl:=sB p p.Fns[i] f1
   have hnd:kP p i=some (rL (gM p p.Fns[i])):=by
    unfold kP
    rw [(xJ p (by omega) (by omega) i hi f1).1]
    simp only [Option.bind_some]
    rw [aBi (gM p p.Fns[i]) (by omega) false (eN (gM p p.Fns[i])) (fun k hk=>by
     simp only [eN,aB hk,if_true,aD hk,Option.bind_some,oR _ _ (show (gM p p.Fns[i]).length ≤ 1048576 by omega)]
     cases (eU (gM p p.Fns[i]) (gM p p.Fns[i])[k].Name != (k:Int))<;>rfl) (by simp [eN])]
    cases rL (gM p p.Fns[i])<;>rfl
   have hpn:aG (bN p.Fns[i]) ([],0)=some (pnB p.Fns[i]):=rW (ρ:=Unit) p.Fns[i] (by omega) (fun x=>x.Name) (bN p.Fns[i]) (fun s k hk hs=>by
    simp only [bN,aB hk,if_true,aD hk,Option.bind_some,aLe (show s.length ≤ 100000 by omega),aQ hk (show p.Fns[i].Params.length ≤ 1048576 by omega)]) (fun s=>by simp [bN])
   have hpl:(pnB p.Fns[i]).length ≤ 3:=by unfold pnB;rw [List.length_map];exact f1
   have hsb:qF p i p.Fns[i].Body (pnB p.Fns[i])=some (fP p i 10 p.Fns[i].Body (pnB p.Fns[i])):=nE p hF hu i hi iA 10 _ _ f2 f3 hdb.2 (show 10 ≤ 1048576 by omega) (by omega)
   have hkb:∀ kid ∈ x.Kids,0 ≤ kid∧kid < (p.Nodes.length:Int):=fun kid hm=>by
    have:=iJ hdb.1 hx kid hm
    omega
   have hkl:=dX hdb.1 hx
   have hka:aEo p p.Fns[i].Body=x.Kids:=by unfold aEo;rw [hx]
   have hgb:aK p.Nodes p.Fns[i].Body=some x:=by
    obtain ⟨hlt,he⟩:=List.getElem?_eq_some_iff.1 hx
    rw [cN f2 f3,he]
   have hlets:=aKi p x hkb hkl (pnB p.Fns[i]) (by omega)
   have hll:=uP p x.Kids (pnB p.Fns[i])
   unfold qL
   simp only [cH,aB hi,if_true,aD hi,List.getElem?_eq_getElem hi,hnd,hpn,hsb,hgb,hlets,Option.bind_some,hka]
   cases rL (gM p p.Fns[i]) with
   | false=>rfl
   | true =>
    simp only [Bool.not_true,Bool.false_eq_true,if_false,Bool.true_and]
    cases fP p i 10 p.Fns[i].Body (pnB p.Fns[i]) with
    | false=>rfl
    | true =>
     simp only [Bool.not_true,Bool.false_eq_true,if_false,Bool.true_and,decide_eq_true_eq]
     by_cases hr:p.Fns[i].Ret ≥ 0
     ·have hdr:=(kF hu (show p.Fns[i].Ret.toNat < p.Nodes.length by omega))
      have hsr:qF p i p.Fns[i].Ret (kG p x.Kids (pnB p.Fns[i]))=some (fP p i 10 p.Fns[i].Ret (kG p x.Kids (pnB p.Fns[i]))):=nE p hF hu i hi iA 10 _ _ hr f5 hdr.2 (show 10 ≤ 1048576 by omega) (by omega)
      simp only [if_pos hr,hsr,Option.bind_some]
      cases fP p i 10 p.Fns[i].Ret (kG p x.Kids (pnB p.Fns[i]))<;>rfl
     ·simp only [if_neg hr,Option.bind_some]
      rfl) (by simp [cH])]
  cases (List.range p.Fns.length).all (qL p)<;>rfl
theorem sJ (p:GProgram) (hn:p.Nodes.length ≤ 1048576) (hF:p.Fns.length ≤ 1048576):fR p=some (sU p):=by
 unfold fR sU
 rw [uF p hn hF]
 simp only [Option.bind_some]
 cases hok:vX p with
 | false=>rfl
 | true =>
  obtain ⟨b1,b2,b3,b4,hu⟩:=yK hok
  simp only [Bool.not_true,Bool.false_eq_true,if_false,Bool.true_and]
  rw [nO p.Fns.length hF (qL p) false (cG p) (fun i hi=>by
   obtain ⟨f1,f2,f3,⟨x,hx,hxk⟩,f5,f6⟩:=aD7 hok hi
   have hdb:=(kF hu (show p.Fns[i].Body.toNat < p.Nodes.length by omega))
   have hvl:=sB p p.Fns[i] f1
   have hnd:aG (bJ (gM p p.Fns[i])) 0=some (if rL (gM p p.Fns[i])=true then .inl () else .inr (.inr (.inr (.inr false)))) :=
    aBi (gM p p.Fns[i]) (by omega) _ (bJ (gM p p.Fns[i])) (fun k hk=>by
     simp only [bJ,aB hk,if_true,aD hk,Option.bind_some,sG _ _ (show (gM p p.Fns[i]).length ≤ 1048576 by omega)]
     cases (eU (gM p p.Fns[i]) (gM p p.Fns[i])[k].Name != (k:Int))<;>rfl) (by simp [bJ])
   have hpn:aG (bH p i) (0,(⟨p,i,[],false⟩:Gl07Seen))=some ⟨p,i,pnB p.Fns[i],false⟩:=by
    have:=bB p.Fns[i].Params (fun (s:List ByteArray) k=>((k:Int),(⟨p,i,s,false⟩:Gl07Seen))) (fun k s=>s.length ≤ k) (fun s x=>.inl (s ++ [x.Name])) (fun s=>(⟨p,i,s,false⟩:Gl07Seen)) (bH p i) (fun s k hk hI=>.inl ⟨_,rfl,by
     simp only [bH,aD hi,aB hk,if_true,aD hk,Option.bind_some,aLe (show s.length ≤ 100000 by omega),aQ hk (show p.Fns[i].Params.length ≤ 1048576 by omega)],by simp only [List.length_append,List.length_cons,List.length_nil];omega⟩) (fun s _=>by simp [bH,aD hi]) [] (by simp)
    rw [bT,oT] at this
    simpa [pnB] using this
   have hpl:(pnB p.Fns[i]).length ≤ 3:=by unfold pnB;rw [List.length_map];exact f1
   have hsb:iQ ⟨p,i,pnB p.Fns[i],false⟩ p.Fns[i].Body=some ⟨p,i,kG p x.Kids (pnB p.Fns[i]),false || !(fP p i 10 p.Fns[i].Body (pnB p.Fns[i]))⟩:=(vI p hF hu i hi iA 10).1 _ x _ _ f2 hx hxk hdb.2 (show 10 ≤ 1048576 by omega) (by omega)
   have hkl:=dX hdb.1 hx
   have hka:aEo p p.Fns[i].Body=x.Kids:=by unfold aEo;rw [hx]
   have hll:=uP p x.Kids (pnB p.Fns[i])
   unfold qL
   simp only [cG,aB hi,if_true,(xJ p (by omega) (by omega) i hi f1).2,hnd,Option.bind_some,List.getElem?_eq_getElem hi,hka]
   cases rL (gM p p.Fns[i]) with
   | false=>rfl
   | true =>
    simp only [if_true,hpn,Option.bind_some,aD hi,hsb,Bool.true_and,Bool.false_or]
    by_cases hr:p.Fns[i].Ret ≥ 0
    ·have hdr:=(kF hu (show p.Fns[i].Ret.toNat < p.Nodes.length by omega))
     obtain ⟨y,hy,hyv⟩:=f6 hr
     have hsr:∀ b,dW ⟨p,i,kG p x.Kids (pnB p.Fns[i]),b⟩ p.Fns[i].Ret=some ⟨p,i,kG p x.Kids (pnB p.Fns[i]),b || !(fP p i 10 p.Fns[i].Ret (kG p x.Kids (pnB p.Fns[i])))⟩:=fun b=>lO p hF hu i hi iA 10 _ _ b hr f5 (fun z hz=>by rw [hy] at hz;injection hz with hz;rw [← hz];exact hyv) hdr.2 (show 10 ≤ 1048576 by omega) (by omega)
     simp only [decide_eq_true hr,if_true,hsr,Option.bind_some,if_pos hr]
     cases fP p i 10 p.Fns[i].Body (pnB p.Fns[i])<;>cases fP p i 10 p.Fns[i].Ret (kG p x.Kids (pnB p.Fns[i]))<;>rfl
    ·simp only [decide_eq_false hr,Bool.false_eq_true,if_false,Option.bind_some,if_neg hr]
     cases fP p i 10 p.Fns[i].Body (pnB p.Fns[i])<;>rfl) (by simp [cG])]
  cases (List.range p.Fns.length).all (qL p)<;>rfl
end Go.OM
namespace Go.OM
end Go.OM
namespace Go.OM
theorem aNt {n:Int} (h:0 ≤ n) (h2:n < 256):IntKind.wrap .u8 n=n:=by
 simp [IntKind.wrap,IntKind.bits,IntKind.signed];omega
theorem aJw {x y:ByteArray} (h:x.size + y.size ≤ 9223372036854775807):aFs x y=some (x ++ y):=by unfold aFs;rw [if_pos h]
theorem ba_ext {x y:ByteArray} (h:x.data.toList=y.data.toList):x=y:=by
 cases x;cases y
 simp only [ByteArray.mk.injEq]
 exact Array.toList_inj.1 h
theorem aBk:∀ (k u:Nat),u < 10 ^ (k + 1)→Lib.nDigits u ≤ k + 1
 | 0,u,h=>by rw [Lib.nDigits_small (by simpa using h)];omega
 | k + 1,u,h=>by
  by_cases h10:u < 10
  ·rw [Lib.nDigits_small h10];omega
  ·rw [Lib.nDigits_big h10]
   have:=aBk k (u / 10) (by rw [Nat.pow_succ] at h;omega)
   omega
theorem tU {n:Nat} (h:n ≤ 9223372036854775807):(Lib.decDigits n).length ≤ 19:=by
 rw [Lib.decDigits_length]
 exact aBk 18 n (by omega)
def digs (m:Nat):List UInt8:=if m=0 then [] else Lib.decDigits m
theorem aL3 {m:Nat} (h:m ≠ 0):digs m=digs (m / 10) ++ [UInt8.ofNat (48 + m % 10)]:=by
 unfold digs
 rw [if_neg h]
 by_cases h10:m < 10
 ·rw [if_pos (by omega),Lib.decDigits_one h10,Nat.mod_eq_of_lt h10];rfl
 ·rw [if_neg (by omega)]
  conv=>lhs;rw [Lib.decDigits,dif_neg h10]
theorem aJc (n:Nat) (h:n ≤ 9223372036854775807):fT n=some ⟨(Lib.decDigits n).toArray⟩:=by
 unfold fT
 by_cases h0:n=0
 ·subst h0
  rw [Lib.decDigits_one (by omega)];rfl
 ·have hne:((n:Int) == 0)=false:=by simp;omega
  have hneg:decide ((n:Int) < 0)=false:=by simp
  obtain ⟨r,h1,h2⟩:=cC (f:=eK) (fun s:Int × ByteArray=>∃ m:Nat,s.1=m∧m ≤ n∧digs m ++ s.2.data.toList=Lib.decDigits n) (fun s=>s.1.toNat) (fun r=>r=⟨(Lib.decDigits n).toArray⟩) (by
   rintro ⟨i,s⟩ ⟨m,hi,hm,hs⟩
   simp only at hi hs
   subst hi
   by_cases hz:m=0
   ·right
    subst hz
    refine ⟨s,by simp [eK],?_⟩
    apply ba_ext
    rw [← hs];simp [digs]
   ·left
    have hb:((m:Int) != 0)=true:=by simp;omega
    have ht:Int.tmod (m:Int) 10=((m % 10:Nat):Int):=by rw [Int.tmod_eq_emod_of_nonneg (by omega)];omega
    have hd:Int.tdiv (m:Int) 10=((m / 10:Nat):Int):=by rw [Int.tdiv_eq_ediv_of_nonneg (by omega)];omega
    have hn0:decide (((m % 10:Nat):Int) < 0)=false:=by simp;omega
    have hlt:decide (((m % 10:Nat):Int) < 10)=true:=by simp;omega
    have hw:IntKind.wrap .u8 (IntKind.wrap .i64 (48 + ((m % 10:Nat):Int)))=((48 + m % 10:Nat):Int):=by
     rw [w64 (by omega) (by omega),aNt (by omega) (by omega)];omega
    have hsz:s.size ≤ 19:=by
     have e1:=congrArg List.length hs
     have e2:=tU h
     have e3:s.data.toList.length=s.size:=Array.length_toList
     simp only [List.length_append] at e1
     omega
    have hsz2:(gL [((48 + m % 10:Nat):Int)]).size=1:=rfl
    refine ⟨(((m / 10:Nat):Int),gL [((48 + m % 10:Nat):Int)] ++ s),?_,⟨m / 10,rfl,by omega,?_⟩,by simp only [Int.toNat_natCast];omega⟩
    ·simp only [eK,jU,hb,if_true,ht,hn0,Bool.false_eq_true,if_false,Option.bind_some,hlt,hw,hd]
     rw [aJw (by omega),w64 (by omega) (by omega)]
     rfl
    ·have hb2:(gL [((48 + m % 10:Nat):Int)]).data.toList=[UInt8.ofNat (48 + m % 10)]:=by
      simp only [gL,List.map_cons,List.map_nil,Int.toNat_natCast]
     rw [← hs,aL3 hz]
     simp only
     rw [ByteArray.data_append,Array.toList_append,hb2,List.append_assoc]) ((n:Int),⟨#[]⟩) ⟨n,rfl,Nat.le_refl _,by simp [digs,h0]⟩
  rw [hne]
  simp only [Bool.false_eq_true,if_false]
  rw [h1,h2]
  simp only [Option.bind_some,hneg,Bool.false_eq_true,if_false]
def decB (n:Nat):ByteArray:=⟨(Lib.decDigits n).toArray⟩
theorem aF7 {n:Nat} (h:n ≤ 1048576):(decB n).size ≤ 19:=by
 show (Lib.decDigits n).toArray.size ≤ 19
 rw [List.size_toArray]
 exact tU (by omega)
theorem aH1 {n:Nat} (h:n ≤ 1048576):fT (n:Int)=some (decB n):=aJc n (by omega)
theorem aMp {n:Nat} (h:n ≤ 1048576):kU (n:Int)=some (decB n):=by
 unfold kU strconv_Itoa
 rw [if_pos ⟨by omega,by omega⟩]
 simp only [Option.bind_some]
 unfold Lib.itoa decB
 rw [if_neg (by omega),Int.toNat_natCast]
def aNh (c:UInt8) (n:Nat):ByteArray:=⟨#[c]⟩ ++ decB n
theorem aGm (c:UInt8) {n:Nat} (h:n ≤ 1048576):aFs (⟨#[c]⟩:ByteArray) (decB n)=some (aNh c n):=aJw (by
 have:=aF7 h
 have e:(ByteArray.mk #[c]).size=1:=rfl
 omega)
theorem aEe (c:UInt8) {n:Nat} (h:n ≤ 1048576):(aNh c n).size ≤ 20:=by
 unfold aNh
 rw [ByteArray.size_append]
 have:=aF7 h
 have e:(ByteArray.mk #[c]).size=1:=rfl
 omega
end Go.OM
namespace Go.OM
def aE6 (c:UInt8) (k:Int) (nm:ByteArray):ByteArray:=if k < 0 then nm else aNh c k.toNat
def aG1 (k:Int):Bool:=pG k || k == 13
theorem aIq (k:Int):(eR k).bind (fun r=>if r=true then some (k != 12) else some false)=some (aG1 k):=by
 unfold eR aG1 pG
 simp only [bQ,Option.bind_some]
 by_cases h1:inB k 2 6=true
 ·have:=inB_iff.1 h1
  simp only [h1,if_true,Option.bind_some,Bool.true_or]
  have:(k != 12)=true:=by simp;omega
  rw [this]
 ·have h1':inB k 2 6=false:=by simpa using h1
  simp only [h1',Bool.false_eq_true,if_false,Option.bind_some,Bool.false_or]
  by_cases h2:inB k 12 15=true
  ·have:=inB_iff.1 h2
   rw [h2,if_pos rfl]
   have:k=12 ∨ k=13 ∨ k=14 ∨ k=15:=by omega
   rcases this with rfl | rfl | rfl | rfl<;>rfl
  ·have hn:¬ (12 ≤ k∧k ≤ 15):=fun h=>h2 (inB_iff.2 h)
   have h2':inB k 12 15=false:=by simpa using h2
   rw [h2']
   have e1:(k == 14)=false:=by simp;omega
   have e2:(k == 15)=false:=by simp;omega
   have e3:(k == 13)=false:=by simp;omega
   simp [e1,e2,e3]
theorem aIp (k:Int):(iG k).bind (fun r=>if r=true then some true else some (k == 13))=some (aG1 k):=by
 have hu:iG k=some (pG k):=by
  unfold iG pG
  by_cases h:k=2 ∨ k=3 ∨ k=4 ∨ k=5 ∨ k=6 ∨ k=14 ∨ k=15
  ·rcases h with rfl | rfl | rfl | rfl | rfl | rfl | rfl<;>rfl
  ·have e2:(k == 2)=false:=by simp;omega
   have e3:(k == 3)=false:=by simp;omega
   have e4:(k == 4)=false:=by simp;omega
   have e5:(k == 5)=false:=by simp;omega
   have e6:(k == 6)=false:=by simp;omega
   have e14:(k == 14)=false:=by simp;omega
   have e15:(k == 15)=false:=by simp;omega
   have hi:inB k 2 6=false:=by
    cases hh:inB k 2 6 with
    | false=>rfl
    | true=>have:=inB_iff.1 hh;omega
   rw [e2,e3,e4,e5,e6,e14,e15,hi]
   rfl
 rw [hu]
 unfold aG1
 cases pG k<;>rfl
theorem tW (l:List GVar) (nm:ByteArray) : -1 ≤ eU l nm∧eU l nm < l.length:=by
 unfold eU
 cases h:(List.range l.length).findSome? fun k=>match l[k]? with
  | some v=>if sEq v.Name nm=true then some (k:Int) else none
  | none=>none with
 | none=>simp only [Option.getD_none];omega
 | some z =>
  simp only [Option.getD_some]
  obtain ⟨k,hk,hz⟩:=List.exists_of_findSome?_eq_some h
  have:=List.mem_range.1 hk
  split at hz
  ·split at hz
   ·injection hz with hz;omega
   ·cases hz
  ·cases hz
theorem aHb (vars:List GVar) (hv:vars.length ≤ 1000) (nm:ByteArray):bD nm vars=some (aE6 118 (eU vars nm) nm):=by
 unfold bD aE6
 rw [oR vars nm (by omega)]
 simp only [Option.bind_some]
 have hb:=tW vars nm
 by_cases h:eU vars nm < 0
 ·simp [h]
 ·rw [if_neg h]
  obtain ⟨n,hn⟩:=Int.eq_ofNat_of_zero_le (show 0 ≤ eU vars nm by omega)
  rw [hn] at hb ⊢
  have hd:decide (((n:Nat):Int) < 0)=false:=by simp
  simp only [hd,Bool.false_eq_true,if_false,aMp (show n ≤ 1048576 by omega),Option.bind_some,aGm 118 (show n ≤ 1048576 by omega),Int.toNat_natCast]
def tY (vars:List GVar) (ns:List GNode) (e:Int):List GNode:=match ns[e.toNat]? with
 | some x=>if aG1 x.Kind=true then ns.set e.toNat ⟨x.Kind,x.Num,aE6 118 (eU vars x.Name) x.Name,x.Kids⟩ else ns
 | none=>ns
theorem xP (vars:List GVar) (ns:List GNode) (e:Int):(tY vars ns e).length=ns.length:=by
 unfold tY
 split
 ·split<;>simp
 ·rfl
theorem aEz (vars:List GVar):∀ (r:List Int) (ns:List GNode),(r.foldl (tY vars) ns).length=ns.length
 | [],ns=>rfl
 | e :: r,ns=>by rw [List.foldl_cons,aEz vars r,xP]
theorem aM5 {α:Type} {l:List α} {i:Nat} {x:α} (h:l[i]? = some x):l.set i x=l:=by
 obtain ⟨hlt,rfl⟩:=List.getElem?_eq_some_iff.1 h
 exact List.set_getElem_self hlt
theorem zJ (vars:List GVar) (hv:vars.length ≤ 1000) (Fs:List GFn) (n:Nat) (r:List Int) (hr:∀ e ∈ r,0 ≤ e∧e < n) (hrl:r.length ≤ 1048576) (ns:List GNode) (hn:ns.length=n) :
  aG (cE (fun a0=>bD a0 vars) r) (0,⟨ns,Fs⟩)=some ⟨r.foldl (tY vars) ns,Fs⟩:=by
 have:=bB r (fun (s:List GNode) k=>((k:Int),(⟨s,Fs⟩:GProgram))) (fun k s=>s.length=n) (fun s e=>.inl (tY vars s e)) (fun s=>(⟨s,Fs⟩:GProgram)) (cE (fun a0=>bD a0 vars) r) (fun s k hk hI=>by
  left
  obtain ⟨b0,b1⟩:=hr _ (List.getElem_mem hk)
  have hlt:(r[k]).toNat < s.length:=by omega
  refine ⟨_,rfl,?_,by rw [xP];exact hI⟩
  simp only [cE,aB hk,if_true,aD hk,cN b0 (show r[k] < s.length by omega),Option.bind_some,aQ hk hrl]
  have h1:=aIq (s[(r[k]).toNat]).Kind
  rw [h1]
  unfold tY
  rw [List.getElem?_eq_getElem hlt]
  simp only [Option.bind_some]
  cases aG1 (s[(r[k]).toNat]).Kind with
  | false=>rfl
  | true=>simp only [if_true,aHb vars hv,Option.bind_some,bO]) (fun s _=>by simp [cE]) ns hn
 rw [bT] at this
 exact this
theorem xS (vars:List GVar) (hv:vars.length ≤ 1000) (Fs:List GFn) (n:Nat) (r:List Int) (hr:∀ e ∈ r,0 ≤ e∧e < n) (hrl:r.length ≤ 1048576) (ns:List GNode) (hn:ns.length=n) :
  aG (cB vars r) (0,⟨ns,Fs⟩)=some ⟨r.foldl (tY vars) ns,Fs⟩:=by
 have:=bB r (fun (s:List GNode) k=>((k:Int),(⟨s,Fs⟩:GProgram))) (fun k s=>s.length=n) (fun s e=>.inl (tY vars s e)) (fun s=>(⟨s,Fs⟩:GProgram)) (cB vars r) (fun s k hk hI=>by
  left
  obtain ⟨b0,b1⟩:=hr _ (List.getElem_mem hk)
  have hlt:(r[k]).toNat < s.length:=by omega
  refine ⟨_,rfl,?_,by rw [xP];exact hI⟩
  simp only [cB,aB hk,if_true,aD hk,cN b0 (show r[k] < s.length by omega),Option.bind_some,aQ hk hrl]
  have h1:=aIp (s[(r[k]).toNat]).Kind
  rw [h1]
  unfold tY
  have hg:s[(r[k]).toNat]? = some s[(r[k]).toNat]:=List.getElem?_eq_getElem hlt
  rw [hg]
  simp only [Option.bind_some]
  cases aG1 (s[(r[k]).toNat]).Kind with
  | false=>rfl
  | true =>
   simp only [if_true,sG _ _ (show vars.length ≤ 1048576 by omega),Option.bind_some]
   have hb:=tW vars (s[(r[k]).toNat]).Name
   unfold aE6
   by_cases h:eU vars (s[(r[k]).toNat]).Name < 0
   ·have hd:decide (eU vars (s[(r[k]).toNat]).Name ≥ 0)=false:=by simp;omega
    simp only [hd,Bool.false_eq_true,if_false,if_pos h]
    rw [show (⟨(s[(r[k]).toNat]).Kind,(s[(r[k]).toNat]).Num,(s[(r[k]).toNat]).Name,(s[(r[k]).toNat]).Kids⟩:GNode)=s[(r[k]).toNat] from rfl,aM5 hg]
   ·have hd:decide (eU vars (s[(r[k]).toNat]).Name ≥ 0)=true:=by simp;omega
    rw [if_neg h]
    obtain ⟨m,hm⟩:=Int.eq_ofNat_of_zero_le (show 0 ≤ eU vars (s[(r[k]).toNat]).Name by omega)
    rw [hm] at hb ⊢
    have hd:decide (((m:Nat):Int) ≥ 0)=true:=by simp
    simp only [hd,if_true,aH1 (show m ≤ 1048576 by omega),Option.bind_some,aGm 118 (show m ≤ 1048576 by omega),Int.toNat_natCast,bO]) (fun s _=>by simp [cB]) ns hn
 rw [bT] at this
 exact this
end Go.OM
namespace Go.OM
theorem xK {l:List GVar} {nm:ByteArray} {j:Nat} (hj:j < l.length) (he:sEq l[j].Name nm=true) (hno:∀ (i:Nat) (hi:i < j),sEq (l[i]'(by omega)).Name nm=false):eU l nm=j:=by
 unfold eU
 have key:∀ (g:Nat→Option Int),(∀ i,i < j→g i=none)→g j=some (j:Int)→((List.range l.length).findSome? g).getD (-1)=j:=by
  intro g h1 h2
  have:(List.range l.length).findSome? g=some (j:Int):=by
   rw [List.findSome?_eq_some_iff]
   refine ⟨List.range j,j,(List.range (l.length - j - 1)).map (fun i=>j + 1 + i),?_,h2,fun k hk=>h1 k (List.mem_range.1 hk)⟩
   have e:l.length=(j + 1) + (l.length - j - 1):=by omega
   rw [e,List.range_add,List.range_succ]
   simp only [List.append_assoc,List.cons_append,List.nil_append]
   congr 4
   omega
  rw [this]
  rfl
 exact key _ (fun i hi=>by simp [List.getElem?_eq_getElem (show i < l.length by omega),hno i hi]) (by simp [List.getElem?_eq_getElem hj,he])
theorem aLk {l:List GVar} {nm:ByteArray} {j:Nat} (h:eU l nm=j) {i:Nat} (hi:i < j) (hl:i < l.length):sEq l[i].Name nm=false:=by
 cases he:sEq l[i].Name nm with
 | false=>rfl
 | true =>
  exfalso
  -- the first that is alike stands no later than i
  have key:∀ (n:Nat) (hn:n < l.length),sEq l[n].Name nm=true→eU l nm ≤ n:=by
   intro n
   induction n using Nat.strongRecOn with
   | _ n ih =>
    intro hn hen
    by_cases hex:∃ m,∃ hm:m < n,sEq (l[m]'(by omega)).Name nm=true
    ·obtain ⟨m,hm,hme⟩:=hex
     have:=ih m hm (by omega) hme
     omega
    ·have:=xK hn hen (fun i hi=>by
      cases hc:sEq (l[i]'(by omega)).Name nm with
      | false=>rfl
      | true=>exact (hex ⟨i,hi,hc⟩).elim)
     omega
  have:=key i hl he
  omega
theorem aM8 (x:ByteArray):sEq x x=true:=by unfold sEq;simp
def PD (l:List GParam):Prop:=∀ (i j:Nat) (hi:i < j) (hj:j < l.length),sEq (l[i]'(by omega)).Name l[j].Name=false
theorem aEx (p:GProgram):∀ (l:List Int) (s:List GVar),∃ t,l.foldl (xO p) s=s ++ t
 | [],s=>⟨[],by simp⟩
 | e :: l,s=>by
  have h1:∃ t,xO p s e=s ++ t:=by
   unfold xO
   split
   ·split
    ·exact ⟨_,rfl⟩
    ·exact ⟨[],by simp⟩
   ·exact ⟨[],by simp⟩
  obtain ⟨t,ht⟩:=h1
  obtain ⟨u,hu⟩:=aEx p l (s ++ t)
  exact ⟨t ++ u,by rw [List.foldl_cons,ht,hu,List.append_assoc]⟩
theorem sC (p:GProgram) (f:GFn) {i:Nat} (hi:i < f.Params.length):∃ h:i < (gM p f).length,(gM p f)[i].Name=f.Params[i].Name:=by
 unfold gM
 obtain ⟨t,ht⟩:=aEx p (cR p.Nodes f.Body) (f.Params.map fun x=>(⟨x.Name,x.Typ,-1⟩:GVar))
 simp only [ht]
 refine ⟨by simp only [List.length_append,List.length_map];omega,?_⟩
 rw [List.getElem_append_left (by rw [List.length_map];exact hi)]
 simp
theorem aFm (p:GProgram) (f:GFn) (hpd:PD f.Params) {i:Nat} (hi:i < f.Params.length):eU (gM p f) f.Params[i].Name=i:=by
 obtain ⟨h1,h2⟩:=sC p f hi
 refine xK h1 (by rw [h2];exact aM8 _) fun j hj=>?_
 obtain ⟨h3,h4⟩:=sC p f (show j < f.Params.length by omega)
 rw [h4]
 exact hpd j i hj hi
theorem pd_of (p:GProgram) (f:GFn) (h:rL (gM p f)=true):PD f.Params:=by
 intro i j hij hj
 obtain ⟨h1,h2⟩:=sC p f hj
 obtain ⟨h3,h4⟩:=sC p f (show i < f.Params.length by omega)
 unfold rL at h
 have:=List.all_eq_true.1 h j (List.mem_range.2 h1)
 rw [List.getElem?_eq_getElem h1] at this
 simp only [beq_iff_eq] at this
 have:=aLk this hij h3
 rw [h2,h4] at this
 exact this
def wW (l:List GParam) (k:Nat):List GParam:=(List.range k).map fun i=>(⟨aNh 118 i,match l[i]? with | some x=>x.Typ | none=>0⟩:GParam)
theorem wV (l:List GParam) (k:Nat):(wW l k).length=k:=by simp [wW]
theorem aE3 {l:List GParam} {k:Nat} (h:k < l.length):wW l (k + 1)=wW l k ++ [⟨aNh 118 k,l[k].Typ⟩]:=by
 unfold wW
 rw [List.range_succ,List.map_append]
 simp [List.getElem?_eq_getElem h]
def xI (f:GFn) (ps:List GParam):GFn:=⟨f.Name,ps,f.Res,f.Body,f.Ret⟩
theorem aM6 {α:Type} {a b:List α} {k:Nat} {y:α} (ha:a.length=k) (hb:k < b.length):(a ++ b.drop k).set k y=a ++ [y] ++ b.drop (k + 1):=by
 rw [List.set_append_right _ _ (by omega),ha,Nat.sub_self,List.append_assoc]
 congr 1
 rw [List.drop_eq_getElem_cons hb]
 rfl
theorem aMs {α:Type} {a b:List α} {k:Nat} (ha:a.length=k) (hb:k < b.length):∃ h:k < (a ++ b.drop k).length,(a ++ b.drop k)[k]=b[k]:=by
 refine ⟨by simp only [List.length_append,List.length_drop];omega,?_⟩
 rw [List.getElem_append_right (by omega)]
 simp [ha]
theorem wH (vars:List GVar) (hv:vars.length ≤ 1000) (ns:List GNode) (Fs:List GFn) (fn:Nat) (hfn:fn < Fs.length) (hpl:Fs[fn].Params.length ≤ 1000)
  (hva:∀ (i:Nat) (hi:i < Fs[fn].Params.length),eU vars Fs[fn].Params[i].Name=i) :
  aG (dH fn (fun a0=>bD a0 vars) Fs[fn]) (0,⟨ns,Fs⟩)=some ⟨ns,Fs.set fn (xI Fs[fn] (wW Fs[fn].Params Fs[fn].Params.length))⟩:=by
 have:=bB Fs[fn].Params (fun (s:Unit) k=>((k:Int),(⟨ns,Fs.set fn (xI Fs[fn] (wW Fs[fn].Params k ++ Fs[fn].Params.drop k))⟩:GProgram))) (fun k s=>True) (fun s e=>.inl ()) (fun s=>(⟨ns,Fs.set fn (xI Fs[fn] (wW Fs[fn].Params Fs[fn].Params.length ++ Fs[fn].Params.drop Fs[fn].Params.length))⟩:GProgram)) (dH fn (fun a0=>bD a0 vars) Fs[fn]) (fun s k hk hI=>by
  left
  refine ⟨(),rfl,?_,trivial⟩
  have hl:fn < (Fs.set fn (xI Fs[fn] (wW Fs[fn].Params k ++ Fs[fn].Params.drop k))).length:=by rw [List.length_set];exact hfn
  obtain ⟨g1,g2⟩:=aMs (a:=wW Fs[fn].Params k) (b:=Fs[fn].Params) (wV _ k) hk
  have hgi:aK (wW Fs[fn].Params k ++ Fs[fn].Params.drop k) (k:Int)=some Fs[fn].Params[k]:=by rw [aD g1,g2]
  have hne:aE6 118 (k:Int) Fs[fn].Params[k].Name=aNh 118 k:=by unfold aE6;rw [if_neg (by omega),Int.toNat_natCast]
  have hgf:aK (Fs.set fn (xI Fs[fn] (wW Fs[fn].Params k ++ Fs[fn].Params.drop k))) (fn:Int)=some (xI Fs[fn] (wW Fs[fn].Params k ++ Fs[fn].Params.drop k)):=by rw [aD hl,List.getElem_set_self]
  have hwp:∀ ps,(xI Fs[fn] ps).Params=ps:=fun _=>rfl
  simp only [dH,aB hk,if_true,hgf,hwp,hgi,Option.bind_some,aHb vars hv,hva k hk,hne,bO,Int.toNat_natCast,List.set_set,aM6 (wV Fs[fn].Params k) hk,← aE3 hk,aQ hk (show Fs[fn].Params.length ≤ 1048576 by omega)]
  rfl) (fun s _=>by simp [dH]) () trivial
 rw [bT] at this
 have h0:Fs.set fn (xI Fs[fn] (wW Fs[fn].Params 0 ++ Fs[fn].Params.drop 0))=Fs:=by
  have:xI Fs[fn] (wW Fs[fn].Params 0 ++ Fs[fn].Params.drop 0)=Fs[fn]:=by simp [xI,wW]
  rw [this,List.set_getElem_self]
 simp only [h0,List.drop_length,List.append_nil] at this
 exact this
theorem vS (ns:List GNode) (Fs:List GFn) (fn:Nat) (hfn:fn < Fs.length) (hpl:Fs[fn].Params.length ≤ 1000) :
  aG (dC fn ⟨ns,Fs⟩) ([],0)=some (wW Fs[fn].Params Fs[fn].Params.length):=by
 have:=bB Fs[fn].Params (fun (s:Unit) k=>(wW Fs[fn].Params k,(k:Int))) (fun k s=>True) (fun s e=>.inl ()) (fun s=>wW Fs[fn].Params Fs[fn].Params.length) (dC fn ⟨ns,Fs⟩) (fun s k hk hI=>by
  left
  refine ⟨(),rfl,?_,trivial⟩
  have hk1:k ≤ 1048576:=by omega
  simp only [dC,aD hfn,Option.bind_some,aB hk,if_true,aD hk,aH1 hk1,aGm 118 hk1,aGs (show (wW Fs[fn].Params k).length ≤ 1048576 by rw [wV];omega) (show 24 ≤ 64 by omega),← aE3 hk,aQ hk (show Fs[fn].Params.length ≤ 1048576 by omega)]) (fun s _=>by simp [dC,aD hfn]) () trivial
 rw [bT] at this
 exact this
noncomputable def aIm (p:GProgram) (fn:Nat):GProgram:=match p.Fns[fn]? with
 | some f=>⟨(oZ p fn).foldl (tY (gM p f)) p.Nodes,p.Fns.set fn (xI f (wW f.Params f.Params.length))⟩
 | none=>p
theorem aIl (p:GProgram) (h:GProgram.le 1048576 p) (hn:p.Nodes.length ≤ 300) (hF:p.Fns.length ≤ 1000) (fn:Nat) (hfn:fn < p.Fns.length) (hp:p.Fns[fn].Params.length ≤ 3) (hpd:PD p.Fns[fn].Params) :
  jC p fn=some (aIm p fn)∧jX p fn=some (aIm p fn):=by
 obtain ⟨v1,v2⟩:=xJ p hn hF fn hfn hp
 have hvl:=sB p p.Fns[fn] hp
 have hnl:(oZ p fn).length ≤ 1048576:=by have:=aM7 p.Nodes.length (fun j=>∃ r ∈ kE p fn,(j:Int) ∈ cR p.Nodes r);unfold oZ;omega
 have hnb:∀ e ∈ oZ p fn,0 ≤ e∧e < (p.Nodes.length:Int):=fun e he=>aIk he
 have hva:=fun (i:Nat) (hi:i < p.Fns[fn].Params.length)=>aFm p p.Fns[fn] hpd hi
 unfold aIm
 rw [List.getElem?_eq_getElem hfn]
 constructor
 ·unfold jC mX
  rw [v1]
  simp only [Option.bind_some,(rQ p h).1,zS p (by omega) (by omega)]
  rw [show aG (cE (fun a0=>bD a0 (gM p p.Fns[fn])) (oZ p fn)) (0,p)=_ from zJ (gM p p.Fns[fn]) (by omega) p.Fns p.Nodes.length (oZ p fn) hnb hnl p.Nodes rfl]
  simp only [Option.bind_some,aD hfn]
  rw [wH (gM p p.Fns[fn]) (by omega) _ p.Fns fn hfn (by omega) hva]
  rfl
 ·unfold jX
  rw [v2]
  simp only [Option.bind_some,aAc p (show p.Nodes.length ≤ 1048576 by omega) (show p.Fns.length ≤ 1048576 by omega)]
  rw [show aG (cB (gM p p.Fns[fn]) (oZ p fn)) (0,p)=_ from xS (gM p p.Fns[fn]) (by omega) p.Fns p.Nodes.length (oZ p fn) hnb hnl p.Nodes rfl]
  simp only [Option.bind_some]
  rw [vS _ p.Fns fn hfn (by omega)]
  simp only [Option.bind_some,aD hfn,bO,Int.toNat_natCast]
  rfl
end Go.OM
namespace Go.OM
theorem aIn {c:UInt8} {k:Int} {nm:ByteArray} (hk:k ≤ 1048576) (h:nm.size ≤ 1048576):(aE6 c k nm).size ≤ 1048576:=by
 unfold aE6
 split
 ·exact h
 ·have:=aEe c (n:=k.toNat) (by omega)
  omega
theorem aLm (vars:List GVar) (hv:vars.length ≤ 1000) (ns:List GNode) (h:NL ns) (e:Int):NL (tY vars ns e):=by
 unfold tY
 split
 ·rename_i x hx
  split
  ·intro y hy
   rcases List.mem_or_eq_of_mem_set hy with hy | rfl
   ·exact h y hy
   ·have hx2:=h x (List.mem_of_getElem? hx)
    have hb:=tW vars x.Name
    exact ⟨aIn (by omega) hx2.1,hx2.2⟩
  ·exact h
 ·exact h
theorem aHq (vars:List GVar) (hv:vars.length ≤ 1000):∀ (r:List Int) (ns:List GNode),NL ns→NL (r.foldl (tY vars) ns)
 | [],ns,h=>h
 | e :: r,ns,h=>by rw [List.foldl_cons];exact aHq vars hv r _ (aLm vars hv ns h e)
theorem aMl (p:GProgram) (h:GProgram.le 1048576 p) (hn:p.Nodes.length ≤ 300) (fn:Nat) (hfn:fn < p.Fns.length) (hp:p.Fns[fn].Params.length ≤ 3):GProgram.le 1048576 (aIm p fn):=by
 obtain ⟨⟨h1,h2⟩,h3,h4⟩:=h
 have hvl:=sB p p.Fns[fn] hp
 unfold aIm
 rw [List.getElem?_eq_getElem hfn]
 refine ⟨⟨by simp only [aEz];exact h1,aHq _ (by omega) _ _ h2⟩,by simp only [List.length_set];exact h3,fun f hf=>?_⟩
 simp only at hf
 rcases List.mem_or_eq_of_mem_set hf with hf | rfl
 ·exact h4 f hf
 ·refine ⟨(h4 _ (List.getElem_mem hfn)).1,by show (wW _ _).length ≤ _;rw [wV];omega,fun x hx=>?_⟩
  change x ∈ wW _ _ at hx
  unfold wW at hx
  obtain ⟨i,hi,rfl⟩:=List.mem_map.1 hx
  have:=List.mem_range.1 hi
  have:=aEe 118 (n:=i) (by omega)
  show (aNh 118 i).size ≤ _
  omega
theorem aMm {p:GProgram} (h:sU p=true) {i:Nat} (hi:i < p.Fns.length):PD p.Fns[i].Params:=by
 unfold sU at h
 rw [Bool.and_eq_true] at h
 have hf:=List.all_eq_true.1 h.2 i (List.mem_range.2 hi)
 unfold qL at hf
 rw [List.getElem?_eq_getElem hi] at hf
 simp only [Bool.and_eq_true] at hf
 exact pd_of p _ hf.1
theorem aBj {p:GProgram} (h:sU p=true):vX p=true:=by
 unfold sU at h
 rw [Bool.and_eq_true] at h
 exact h.1
theorem aDg (p:GProgram) (h:GProgram.le 1048576 p) (fn:Int):∃ q:GProgram,gJ p fn=some q∧iT p fn=some q∧GProgram.le 1048576 q:=by
 obtain ⟨c1,c2⟩:=rQ p h
 have hle:=h
 obtain ⟨⟨hn,hN⟩,hF,hFl⟩:=h
 unfold gJ iT
 rw [tL p hn hF,sJ p hn hF,c1,c2]
 simp only [Option.bind_some]
 cases hok:sU p with
 | false=>exact ⟨p,rfl,rfl,hle⟩
 | true =>
  obtain ⟨b1,b2,b3,b4,hu⟩:=yK (aBj hok)
  have hw:IntKind.wrap .i64 ((p.Fns.length:Int) - 1)=(p.Fns.length:Int) - 1:=w64 (by omega) (by omega)
  simp only [Bool.not_true,Bool.false_eq_true,if_false,hw,bQ,dM,Option.bind_some]
  by_cases hin:inB fn 0 ((p.Fns.length:Int) - 1)=true
  ·have:=inB_iff.1 hin
   obtain ⟨i,rfl⟩:=Int.eq_ofNat_of_zero_le (show 0 ≤ fn by omega)
   have hi:i < p.Fns.length:=by omega
   obtain ⟨f1,f2,f3,f4,f5,f6⟩:=aD7 (aBj hok) hi
   obtain ⟨e1,e2⟩:=aIl p hle (by omega) (by omega) i hi f1 (aMm hok hi)
   refine ⟨aIm p i,?_,?_,aMl p hle (by omega) i hi f1⟩
   ·rw [hin];simp only [Bool.not_true,Bool.false_eq_true,if_false,e1,Option.bind_some]
   ·rw [hin];simp only [Bool.not_true,Bool.false_eq_true,if_false,e2,Option.bind_some]
  ·have hin':inB fn 0 ((p.Fns.length:Int) - 1)=false:=by simpa using hin
   rw [hin']
   exact ⟨p,rfl,rfl,hle⟩
theorem aEm (p:GProgram) (fn:Int) (hw:GProgram.le maxLen p):eE p fn=some true:=by
 unfold eE
 obtain ⟨r,h1,h2,h3⟩:=wA p hw 1048576 (by omega) (by omega)
 rw [h1]
 simp only [Option.bind_some]
 by_cases hr:r < 0
 ·simp [hr]
 ·have hp:=h3 (by omega)
  obtain ⟨q,v1,v2,hok⟩:=aDg p hp fn
  obtain ⟨k1,c1,m1,m2,m3⟩:=mW p hp 1 (by omega) (by omega)
  obtain ⟨k2,w2,n1,n2,n3,n4⟩:=mW q hok 1 (by omega) (by omega)
  simp [hr,vY p hp,v1,v2,pB q q hok hok,pB p p hp hp,m1,n1,n4,show ¬ k1 < 0 by omega,show ¬ k2 < 0 by omega]
end Go.OM
