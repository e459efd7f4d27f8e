import Derived.Test.YtkbahglnleiepaaGreatDoorTC
import Derived.Lib.ItoaNum
set_option linter.unusedVariables false
set_option linter.unusedSimpArgs false
set_option linter.unusedVariables false
set_option linter.unusedSimpArgs false
namespace Go.OM
open Classical in
noncomputable def aC2 (n:Nat) (P:Nat→Prop):List Int:=((List.range n).filter fun j=>decide (P j)).map fun k:Nat=>(k:Int)
theorem mem_setL {n:Nat} {P:Nat→Prop} {x:Int}:x ∈ aC2 n P ↔ 0 ≤ x∧x < n∧P x.toNat:=by
 unfold aC2
 rw [List.mem_map]
 constructor
 ·rintro ⟨j,hj,rfl⟩
  obtain ⟨h1,h2⟩:=List.mem_filter.1 hj
  have:=List.mem_range.1 h1
  exact ⟨by omega,by omega,by simpa using h2⟩
 ·rintro ⟨h1,h2,h3⟩
  refine ⟨x.toNat,List.mem_filter.2 ⟨List.mem_range.2 (by omega),by simpa using h3⟩,by omega⟩
theorem aDb (n:Nat) (P:Nat→Prop):(aC2 n P).Pairwise (· < ·):=by
 unfold aC2
 refine List.Pairwise.map _ (fun a b h=>?_) (List.Pairwise.filter _ List.pairwise_lt_range)
 omega
theorem aN4 (n:Nat) (P:Nat→Prop):(aC2 n P).length ≤ n:=by
 unfold aC2
 rw [List.length_map]
 have:=List.length_filter_le (fun j=>@decide (P j) (Classical.propDecidable _)) (List.range n)
 rw [List.length_range] at this
 exact this
theorem rR {l:List Int} (h:l.Pairwise (· < ·)):l.Nodup:=by
 rw [List.nodup_iff_pairwise_ne]
 exact h.imp fun h=>by omega
theorem aFb {a b:List Int} (ha:a.Pairwise (· < ·)) (hb:b.Pairwise (· < ·)) (h:∀ x,x ∈ a ↔ x ∈ b):a=b:=by
 refine List.Perm.eq_of_pairwise (le:=fun x y:Int=>x < y) (fun x y _ _ h1 h2=>by omega) ha hb ?_
 exact (List.perm_ext_iff_of_nodup (rR ha) (rR hb)).2 h
theorem aC1 {n:Nat} {P Q:Nat→Prop} (h:∀ j,j < n→(P j ↔ Q j)):aC2 n P=aC2 n Q:=by
 refine aFb (aDb _ _) (aDb _ _) fun x=>?_
 rw [mem_setL,mem_setL]
 constructor
 ·rintro ⟨h1,h2,h3⟩;exact ⟨h1,h2,(h _ (by omega)).1 h3⟩
 ·rintro ⟨h1,h2,h3⟩;exact ⟨h1,h2,(h _ (by omega)).2 h3⟩
theorem aKt {n:Nat} {P:Nat→Prop} {l:List Int} (hl:l.Pairwise (· < ·)) (h:∀ x,x ∈ l ↔ 0 ≤ x∧x < n∧P x.toNat):l=aC2 n P:=aFb hl (aDb _ _) fun x=>by rw [h,mem_setL]
theorem aEr {n:Nat} {P:Nat→Prop} {l:List Int} (hl:l.Nodup) (h:∀ x,x ∈ l ↔ 0 ≤ x∧x < n∧P x.toNat):(l.mergeSort fun x y=>decide (x ≤ y))=aC2 n P:=by
 have hp:=List.mergeSort_perm l (fun x y=>decide (x ≤ y))
 have hs:=List.pairwise_mergeSort (le:=fun x y:Int=>decide (x ≤ y)) (fun a b c h1 h2=>by simp only [decide_eq_true_eq] at *;omega) (fun a b=>by simp only [Bool.or_eq_true,decide_eq_true_eq];omega) l
 have hn:(l.mergeSort fun x y=>decide (x ≤ y)).Nodup:=hp.nodup_iff.2 hl
 refine aKt ?_ fun x=>by rw [← h];exact hp.mem_iff
 rw [List.nodup_iff_pairwise_ne] at hn
 exact (hs.and hn).imp fun ⟨h1,h2⟩=>by simp only [decide_eq_true_eq] at h1;omega
theorem jN {n:Nat} {l:List Int} (hl:l.Nodup) (hb:∀ x ∈ l,0 ≤ x∧x < n):l.length ≤ n:=by
 have:=hl.length_le_of_subset (l₂:=(List.range n).map fun k:Nat=>(k:Int)) fun x hx=>by
  have:=hb x hx
  exact List.mem_map.2 ⟨x.toNat,List.mem_range.2 (by omega),by omega⟩
 simpa using this
theorem aEq {l:List Int} (h:l.length ≤ 1048576):sort_Ints l=some (l.mergeSort fun x y=>decide (x ≤ y)):=by
 unfold sort_Ints;rw [if_pos (by omega)]
theorem wK {s:List Int} (h:s.Nodup) (x:Int):(yF s x).Nodup:=by
 unfold yF
 split
 ·exact h
 ·rename_i hc
  rw [List.nodup_append]
  refine ⟨h,by simp,fun a ha b hb=>?_⟩
  simp only [List.mem_singleton] at hb
  subst hb
  rintro rfl
  exact hc (by simpa using ha)
theorem lZ:∀ (l:List Int) {s:List Int},s.Nodup→(l.foldl yF s).Nodup
 | [],s,h=>h
 | x :: l,s,h=>lZ l (wK h x)
theorem aO6 (s:List Int) (x:Int):∃ t,yF s x=s ++ t:=by
 unfold yF
 split
 ·exact ⟨[],by simp⟩
 ·exact ⟨[x],rfl⟩
theorem tB:∀ (l:List Int) (s:List Int),∃ t,l.foldl yF s=s ++ t
 | [],s=>⟨[],by simp⟩
 | x :: l,s=>by
  obtain ⟨t,ht⟩:=aO6 s x
  obtain ⟨t',ht'⟩:=tB l (yF s x)
  exact ⟨t ++ t',by rw [List.foldl_cons,ht',ht,List.append_assoc]⟩
theorem aH5 {n:Nat} {l s:List Int} (hs:∀ x ∈ s,0 ≤ x∧x < (n:Int)) (hl:∀ x ∈ l,0 ≤ x∧x < (n:Int)):∀ x ∈ l.foldl yF s,0 ≤ x∧x < (n:Int):=fun x hx=>by
 rcases (fT x l s).1 hx with h | h
 ·exact hs x h
 ·exact hl x h
theorem aIx {ρ:Type} (n:Nat) (l:List Int) (hl:∀ x ∈ l,0 ≤ x∧x < (n:Int)) (f:List Int × Int→Option ((List Int × Int) ⊕ ρ)) (fin:List Int→ρ)
  (hf:∀ (o:List Int) (k:Nat) (hk:k < l.length),o.length ≤ n→f (o,k)=some (.inl (yF o l[k],((k + 1:Nat):Int))))
  (he:∀ o,f (o,l.length)=some (.inr (fin o))) (o:List Int) (ho:o.Nodup) (hb:∀ x ∈ o,0 ≤ x∧x < (n:Int)):aG f (o,0)=some (fin (l.foldl yF o)):=by
 have:=aU l (fun (s:List Int) k=>(s,(k:Int))) (fun k s=>s.Nodup∧∀ x ∈ s,0 ≤ x∧x < (n:Int)) (fun s e=>.inl (yF s e)) fin f (fun s k hk hI=>by
  left
  refine ⟨_,rfl,hf s k hk (jN hI.1 hI.2),wK hI.1 _,fun x hx=>?_⟩
  rcases mem_addL.1 hx with h | h
  ·exact hI.2 x h
  ·subst h;exact hl _ (List.getElem_mem hk)) (fun s _=>he s) o ⟨ho,hb⟩
 rw [bB] at this
 exact this
theorem aO4 {ρ:Type} (n:Nat) (root:Nat) (hroot:root < n) (next:Nat→List Int) (hnx:∀ i,Reach next root i→∀ m ∈ next i,0 ≤ m∧m < (n:Int)) (f:List Int × Int→Option ((List Int × Int) ⊕ ρ)) (fin:List Int→ρ)
  (hf:∀ (o:List Int) (k:Nat) (hk:k < o.length),o.Nodup→(∀ x ∈ o,0 ≤ x∧x < (n:Int))→Reach next root o[k].toNat→f (o,k)=some (.inl ((next o[k].toNat).foldl yF o,((k + 1:Nat):Int))))
  (he:∀ o:List Int,o.length ≤ n→f (o,o.length)=some (.inr (fin o))):∃ o:List Int,aG f ([(root:Int)],0)=some (fin o)∧o.Nodup∧∀ x,x ∈ o ↔ 0 ≤ x∧x < (n:Int)∧Reach next root x.toNat:=by
 obtain ⟨r,h1,o,h2,h3⟩:=cL (f:=f) (fun s:List Int × Int=>∃ i:Nat,s.2=i∧i ≤ s.1.length∧s.1.Nodup∧(root:Int) ∈ s.1∧(∀ x ∈ s.1,0 ≤ x∧x < (n:Int)∧Reach next root x.toNat)∧∀ (j:Nat) (hj:j < s.1.length),j < i→∀ m ∈ next s.1[j].toNat,m ∈ s.1) (fun s=>n - s.2.toNat) (fun r=>∃ o,r=fin o∧o.Nodup∧∀ x,x ∈ o ↔ 0 ≤ x∧x < (n:Int)∧Reach next root x.toNat) (by
  rintro ⟨o,i⟩ ⟨i,rfl,hi,hn,hr,hb,hc⟩
  simp only at hi hn hr hb hc
  have hb2:∀ x ∈ o,0 ≤ x∧x < (n:Int):=fun x hx=>⟨(hb x hx).1,(hb x hx).2.1⟩
  have hlen:=jN hn hb2
  by_cases hlt:i < o.length
  ·left
   have hbi:=hb _ (List.getElem_mem hlt)
   have hnb:=hnx _ hbi.2.2
   refine ⟨_,hf o i hlt hn hb2 hbi.2.2,⟨i + 1,rfl,?_,lZ _ hn,?_,?_,?_⟩,by simp only [Int.toNat_natCast];omega⟩
   ·obtain ⟨t,ht⟩:=tB (next o[i].toNat) o
    simp only [ht,List.length_append];omega
   ·exact (fT _ _ _).2 (.inl hr)
   ·intro x hx
    rcases (fT _ _ _).1 hx with h | h
    ·exact hb x h
    ·exact ⟨(hnb x h).1,(hnb x h).2,.step hbi.2.2 h⟩
   ·intro j hj hji m hm
    obtain ⟨t,ht⟩:=tB (next o[i].toNat) o
    simp only at hj hm ⊢
    have hjo:j < o.length:=by omega
    have hg:((next o[i].toNat).foldl yF o)[j]=o[j]:=by
     simp only [ht]
     exact List.getElem_append_left hjo
    rw [hg] at hm
    rw [fT]
    by_cases e:j=i
    ·subst e;exact .inr hm
    ·exact .inl (hc j hjo (by omega) m hm)
  ·right
   have:i=o.length:=by omega
   subst this
   refine ⟨fin o,he o hlen,o,rfl,hn,fun x=>⟨hb x,fun ⟨h1,h2,h3⟩=>?_⟩⟩
   have key:∀ k,Reach next root k→(k:Int) ∈ o:=by
    intro k hk
    induction hk with
    | base=>exact hr
    | step hk' hm ih =>
     obtain ⟨j,hj,he⟩:=List.mem_iff_getElem.1 ih
     rename_i a m
     have hm2:m ∈ next o[j].toNat:=by rw [he,Int.toNat_natCast];exact hm
     have:=hc j hj hj m hm2
     have hmb:=hb m this
     rw [show ((m.toNat:Nat):Int)=m by omega]
     exact this
   have:=key _ h3
   rwa [show ((x.toNat:Nat):Int)=x by omega] at this) ([(root:Int)],0) ⟨0,rfl,by simp,by simp,by simp,fun x hx=>by
  simp only [List.mem_singleton] at hx
  subst hx
  exact ⟨by omega,by omega,by rw [Int.toNat_natCast];exact .base⟩,fun j hj h=>by omega⟩
 exact ⟨o,by rw [h1,h2],h3⟩
theorem aKu {ρ:Type} (n:Nat) (hn:n ≤ 1048576) (p:Nat→Bool) (f:List Int × Int→Option ((List Int × Int) ⊕ ρ)) (fin:List Int→ρ)
  (hf:∀ (o:List Int) (k:Nat),o.length ≤ 1048576→k < n→f (o,k)=some (.inl ((if p k=true then o ++ [(k:Int)] else o),((k + 1:Nat):Int))))
  (he:∀ o:List Int,f (o,n)=some (.inr (fin o))):aG f ([],0)=some (fin (aC2 n fun k=>p k=true)):=by
 obtain ⟨r,h1,h2⟩:=cL (f:=f) (fun s:List Int × Int=>∃ k:Nat,s.2=k∧k ≤ n∧s.1=((List.range k).filter p).map fun k:Nat=>(k:Int)) (fun s=>n - s.2.toNat) (fun r=>r=fin (((List.range n).filter p).map fun k:Nat=>(k:Int))) (by
  rintro ⟨o,i⟩ ⟨k,rfl,hk,ho⟩
  simp only at ho hk
  by_cases hlt:k < n
  ·left
   have hol:o.length ≤ 1048576:=by
    rw [ho,List.length_map]
    have:=List.length_filter_le p (List.range k)
    rw [List.length_range] at this
    omega
   refine ⟨_,hf o k hol hlt,⟨k + 1,rfl,by omega,?_⟩,by simp only [Int.toNat_natCast];omega⟩
   simp only
   rw [List.range_succ,List.filter_append,List.map_append,← ho]
   cases hp:p k<;>simp [hp]
  ·right
   have:k=n:=by omega
   subst this
   exact ⟨_,he o,by rw [ho]⟩) ([],0) ⟨0,rfl,by omega,rfl⟩
 rw [h1,h2]
 have:((List.range n).filter p).map (fun k:Nat=>(k:Int))=aC2 n fun k=>p k=true:=by
  unfold aC2
  congr 1
  refine List.filter_congr fun x _=>?_
  simp
 rw [this]
def pN (nodes:List GNode) (i:Nat):List Int:=match nodes[i]? with
 | some x=>x.Kids
 | none=>[]
theorem uG {nodes:List GNode} {i:Nat} (h:i < nodes.length):pN nodes i=nodes[i].Kids:=by unfold pN;rw [List.getElem?_eq_getElem h]
theorem aA6 {nodes:List GNode} {i:Nat} (h:nI nodes i=true):(pN nodes i).length ≤ 12∧∀ m ∈ pN nodes i,0 ≤ m∧m < i:=by
 have hi:i < nodes.length:=(mM h).1
 have hg:nodes[i]? = some nodes[i]:=List.getElem?_eq_getElem hi
 rw [uG hi]
 exact ⟨eH h hg,fS h hg⟩
theorem aCs {nodes:List GNode} {k:Nat} (h:okU nodes (k + 1)=true) {j:Nat} (r:Reach (pN nodes) k j):j ≤ k:=by
 induction r with
 | base=>exact Nat.le_refl _
 | step _ hm ih =>
  have:=(aA6 (jA h (by omega)).1).2 _ hm
  omega
noncomputable def dA (nodes:List GNode) (k:Int):List Int:=if wG nodes k=0 then [] else aC2 nodes.length (Reach (pN nodes) k.toNat)
theorem kD {nodes:List GNode} {k x:Int} (h:x ∈ dA nodes k):0 ≤ x∧x < nodes.length:=by
 unfold dA at h
 split at h
 ·cases h
 ·have:=mem_setL.1 h;exact ⟨this.1,this.2.1⟩
theorem yL (nodes:List GNode) (k:Int):(dA nodes k).Pairwise (· < ·):=by
 unfold dA
 split
 ·simp
 ·exact aDb _ _
theorem aDv (nodes:List GNode) (hn:nodes.length ≤ 1048576) (k:Nat) (hk:k < nodes.length) (hok:okU nodes (k + 1)=true):oU nodes k=some (aC2 nodes.length (Reach (pN nodes) k)):=by
 unfold oU
 have hnx:∀ i,Reach (pN nodes) k i→(pN nodes i).length ≤ 12∧∀ m ∈ pN nodes i,0 ≤ m∧m < (i:Int):=fun i hr=>aA6 (jA hok (by have:=aCs hok hr;omega)).1
 obtain ⟨o,g1,g2,g3⟩:=aO4 nodes.length k hk (pN nodes) (fun i hr m hm=>by
  have:=(hnx i hr).2 m hm
  have:=aCs hok hr
  omega) (gW nodes) (fun o=>o) (fun o i hi hnd hb hr=>by
   have hbi:=hb _ (List.getElem_mem hi)
   have hlt:o[i].toNat < nodes.length:=by omega
   have hge:aJ nodes o[i]=some nodes[o[i].toNat]:=cW hbi.1 hbi.2
   have hol:=jN hnd hb
   obtain ⟨hkl,hkb⟩:=hnx _ hr
   have hle:=aCs hok hr
   have hkn:=uG hlt
   simp only [gW,aB hi,if_true,aD hi,Option.bind_some,hge]
   rw [hkn] at hkl hkb ⊢
   generalize nodes[o[i].toNat]=x at *
   rw [aIx nodes.length x.Kids (fun m hm=>by have:=hkb m hm;omega) (gV x) (fun o=>o) (fun o k hk ho=>by
    have happ:mF 8 o [x.Kids[k]]=some (o ++ [x.Kids[k]]):=aPt (by omega) (by omega)
    simp only [gV,aB hk,if_true,aD hk,Option.bind_some,aAl o _ (by omega),aK hk (show x.Kids.length ≤ 1048576 by omega),happ]
    unfold yF
    cases o.contains x.Kids[k]<;>rfl) (fun o=>by simp [gV]) o hnd hb]
   simp only [Option.bind_some,aK hi (show o.length ≤ 1048576 by omega)]) (fun o ho=>by simp [gW])
 rw [g1]
 simp only [Option.bind_some]
 have hol:o.length ≤ 1048576:=by
  have:=jN (n:=nodes.length) g2 fun x hx=>⟨((g3 x).1 hx).1,((g3 x).1 hx).2.1⟩
  omega
 rw [aEq hol]
 simp only [Option.bind_some]
 rw [aEr g2 g3]
theorem uM (p:GProgram) (hn:p.Nodes.length ≤ 1048576) (k:Int):mD p k=some (dA p.Nodes k):=by
 unfold mD dA
 rw [sN _ hn]
 simp only [Option.bind_some]
 by_cases hz:wG p.Nodes k=0
 ·rw [if_pos (by simpa using hz),if_pos hz]
 ·rw [if_neg (by simpa using hz),if_neg hz]
  obtain ⟨h0,h1,h2⟩:=aCm hz
  have:=aDv p.Nodes hn k.toNat (by omega) h2
  rw [show ((k.toNat:Nat):Int)=k by omega] at this
  rw [this];rfl
structure MarkR (nodes:List GNode) (k:Nat) (s s':List Bool):Prop where
 len:s'.length=s.length
 mono:∀ j:Nat,s[j]? = some true→s'[j]? = some true
 self:s'[k]? = some true
 sound:∀ j:Nat,s'[j]? = some true→s[j]? = some true ∨ Reach (pN nodes) k j
 closed:∀ j:Nat,s'[j]? = some true→s[j]? = some true ∨ ∀ m ∈ pN nodes j,s'[m.toNat]? = some true
theorem aLb {next:Nat→List Int} {k:Nat} {m:Int} (hm:m ∈ next k) {j:Nat} (r:Reach next m.toNat j):Reach next k j:=by
 induction r with
 | base=>exact .step .base hm
 | step _ hm' ih=>exact .step ih hm'
theorem aF7 (nodes:List GNode) (hn:nodes.length ≤ 1048576):∀ (f k:Nat) (s:List Bool),okU nodes (k + 1)=true→nT nodes k ≤ f→s.length=nodes.length→∃ s',cQ f nodes k s=some s'∧MarkR nodes k s s'
 | 0,k,s,hok,hd,hs=>by have:=gE nodes k;omega
 | f + 1,k,s,hok,hd,hs=>by
  obtain ⟨hnb,_⟩:=jA hok (Nat.lt_succ_self k)
  have hk:k < nodes.length:=(mM hnb).1
  have hx:nodes[k]? = some nodes[k]:=List.getElem?_eq_getElem hk
  have hge:aJ nodes (k:Int)=some nodes[k]:=aD hk
  obtain ⟨hkl,hkb⟩:=aA6 hnb
  have hkn:=uG hk
  have hks:k < s.length:=by omega
  have hkid:=fun kid hm=>uU (kid:=kid) hnb hx hm
  rw [hkn] at hkl hkb
  generalize hxe:nodes[k]=x at *
  show ∃ s',iC (cQ f) nodes k s=some s'∧MarkR nodes k s s'
  unfold iC
  rw [aD hks]
  simp only [Option.bind_some]
  by_cases hsk:s[k]=true
  ·rw [if_pos hsk]
   have hsk':s[k]? = some true:=by rw [List.getElem?_eq_getElem hks,hsk]
   exact ⟨s,rfl,rfl,fun _ h=>h,hsk',fun _ h=>.inl h,fun _ h=>.inl h⟩
  ·rw [if_neg hsk]
   simp only [bD,Int.toNat_natCast]
   have hs0:(s.set k true).length=nodes.length:=by rw [List.length_set];exact hs
   have hs0k:(s.set k true)[k]? = some true:=by rw [List.getElem?_set,if_pos rfl,if_pos hks]
   have hs0j:∀ j:Nat,(s.set k true)[j]? = some true→s[j]? = some true ∨ j=k:=by
    intro j h
    rw [List.getElem?_set] at h
    split at h
    ·rename_i e;exact .inr e.symm
    ·exact .inl h
   have hs0m:∀ j:Nat,s[j]? = some true→(s.set k true)[j]? = some true:=by
    intro j h
    rw [List.getElem?_set]
    by_cases e:k=j
    ·subst e;rw [if_pos rfl,if_pos hks]
    ·rw [if_neg e];exact h
   obtain ⟨r,g1,g2⟩:=cL (f:=eT (cQ f) nodes k) (fun t:List Bool × Int=>∃ i:Nat,t.2=i∧i ≤ x.Kids.length∧t.1.length=nodes.length∧(∀ j:Nat,(s.set k true)[j]? = some true→t.1[j]? = some true)∧(∀ j:Nat,t.1[j]? = some true→(s.set k true)[j]? = some true ∨ Reach (pN nodes) k j) ∧
     (∀ j:Nat,t.1[j]? = some true→(s.set k true)[j]? = some true ∨ ∀ m ∈ pN nodes j,t.1[m.toNat]? = some true)∧∀ (q:Nat) (hq:q < x.Kids.length),q < i→t.1[(x.Kids[q]).toNat]? = some true) (fun t=>x.Kids.length - t.2.toNat) (fun r=>MarkR nodes k s r) (by
    rintro ⟨t,i⟩ ⟨i,rfl,hi,hl,hm,hso,hcl,hd'⟩
    simp only at hi hl hm hso hcl hd'
    by_cases hlt:i < x.Kids.length
    ·left
     have hmem:=List.getElem_mem hlt
     have hb:=hkb _ hmem
     obtain ⟨s',r1,r2⟩:=aF7 nodes hn f (x.Kids[i]).toNat t (xY (by omega) hok) (by have:=hkid _ hmem;omega) hl
     rw [show (((x.Kids[i]).toNat:Nat):Int)=x.Kids[i] by omega] at r1
     have hmk:x.Kids[i] ∈ pN nodes k:=by rw [hkn];exact hmem
     refine ⟨(s',((i + 1:Nat):Int)),?_,⟨i + 1,rfl,by omega,r2.len.trans hl,fun j h=>r2.mono j (hm j h),fun j h=>?_,fun j h=>?_,fun q hq hqi=>?_⟩,by simp only [Int.toNat_natCast];omega⟩
     ·simp only [eT,hge,Option.bind_some,aB hlt,if_true,aD hlt,r1,aK hlt (show x.Kids.length ≤ 1048576 by omega)]
     ·rcases r2.sound j h with h | h
      ·exact hso j h
      ·exact .inr (aLb hmk h)
     ·rcases r2.closed j h with h | h
      ·rcases hcl j h with h | h
       ·exact .inl h
       ·exact .inr fun m hm=>r2.mono _ (h m hm)
      ·exact .inr h
     ·by_cases e:q=i
      ·subst e;exact r2.self
      ·exact r2.mono _ (hd' q hq (by omega))
    ·right
     have:i=x.Kids.length:=by omega
     subst this
     refine ⟨t,by simp [eT,hge],hl.trans hs.symm,fun j h=>hm j (hs0m j h),hm k hs0k,fun j h=>?_,fun j h=>?_⟩
     ·rcases hso j h with h | h
      ·rcases hs0j j h with h | h
       ·exact .inl h
       ·subst h;exact .inr .base
      ·exact .inr h
     ·rcases hcl j h with h | h
      ·rcases hs0j j h with h | h
       ·exact .inl h
       ·subst h
        right
        intro m hm'
        rw [hkn] at hm'
        obtain ⟨q,hq,rfl⟩:=List.mem_iff_getElem.1 hm'
        exact hd' q hq hq
      ·exact .inr h) (s.set k true,0) ⟨0,rfl,by omega,hs0,fun _ h=>h,fun _ h=>.inl h,fun _ h=>.inl h,fun q _ h=>by omega⟩
   exact ⟨r,g1,g2⟩
theorem tL (p:GProgram) (hn:p.Nodes.length ≤ 1048576) (k:Int):kG p k=some (dA p.Nodes k):=by
 unfold kG dA
 rw [aB5 _ hn]
 simp only [Option.bind_some]
 by_cases hz:wG p.Nodes k=0
 ·rw [if_pos (by simpa using hz),if_pos hz]
 ·rw [if_neg (by simpa using hz),if_neg hz]
  obtain ⟨h0,h1,h2⟩:=aCm hz
  rw [sX _ _ _ (by omega) (by omega)]
  simp only [Option.bind_some]
  obtain ⟨s',r1,r2⟩:=aF7 p.Nodes hn iR k.toNat (List.replicate p.Nodes.length false) h2 (by
   have:=(jA h2 (Nat.lt_succ_self _)).2
   rw [aJi];omega) (by simp)
  rw [show ((k.toNat:Nat):Int)=k by omega] at r1
  have r1':qN p.Nodes k (List.replicate p.Nodes.length false)=some s':=r1
  rw [r1']
  simp only [Option.bind_some]
  have hl:s'.length=p.Nodes.length:=by rw [r2.len];simp
  have hrep:∀ j:Nat,¬ (List.replicate p.Nodes.length false)[j]? = some true:=by
   intro j h
   rw [List.getElem?_replicate] at h
   split at h<;>simp at h
  have hiff:∀ j,s'[j]? = some true ↔ Reach (pN p.Nodes) k.toNat j:=by
   intro j
   constructor
   ·intro h
    rcases r2.sound j h with h | h
    ·exact absurd h (hrep j)
    ·exact h
   ·intro h
    induction h with
    | base=>exact r2.self
    | step _ hm ih =>
     rcases r2.closed _ ih with h | h
     ·exact absurd h (hrep _)
     ·exact h _ hm
  rw [aKu p.Nodes.length hn (fun j=>s'.getD j false) (gP s') (fun o=>o) (fun o j ho hj=>by
   have hjs:j < s'.length:=by omega
   have happ:mF 8 o [(j:Int)]=some (o ++ [(j:Int)]):=aPt ho (by omega)
   simp only [gP,hl,aB hj,if_true,aD hjs,Option.bind_some,happ,aK hj hn]
   rw [List.getD_eq_getElem?_getD,List.getElem?_eq_getElem hjs]
   simp only [Option.getD_some]
   cases s'[j]<;>rfl) (fun o=>by simp [gP,hl])]
  simp only [Option.bind_some]
  congr 1
  refine aC1 fun j hj=>?_
  rw [← hiff]
  have hjs:j < s'.length:=by omega
  rw [List.getD_eq_getElem?_getD,List.getElem?_eq_getElem hjs]
  simp
end Go.OM
namespace Go.OM
theorem aM0 {L:List Int} (h:L.Pairwise (· < ·)) {i:Nat} (hi:i < L.length) {y:Int} (hy:y ∈ L.drop i):L[i] ≤ y:=by
 obtain ⟨j,hj,rfl⟩:=List.mem_iff_getElem.1 hy
 rw [List.length_drop] at hj
 rw [List.getElem_drop]
 rcases Nat.eq_zero_or_pos j with e | e
 ·subst e;simp
 ·have:=(List.pairwise_iff_getElem.1 h) i (i + j) hi (by omega) (by omega)
  omega
theorem aAu {L:List Int} (h:L.Pairwise (· < ·)) {i:Nat} (hi:i < L.length) {y:Int} (hy:y ∈ L.drop (i + 1)):L[i] < y:=by
 obtain ⟨j,hj,rfl⟩:=List.mem_iff_getElem.1 hy
 rw [List.length_drop] at hj
 rw [List.getElem_drop]
 exact (List.pairwise_iff_getElem.1 h) i (i + 1 + j) hi (by omega) (by omega)
theorem jH {L:List Int} {i:Nat} (hi:i < L.length) {x:Int}:x ∈ L.take (i + 1) ↔ x ∈ L.take i ∨ x=L[i]:=by
 rw [List.take_add_one,List.getElem?_eq_getElem hi,List.mem_append]
 simp
theorem jY {L:List Int} {i:Nat} {x:Int} (h:x ∈ L.drop (i + 1)):x ∈ L.drop i:=by
 obtain ⟨j,hj,rfl⟩:=List.mem_iff_getElem.1 h
 rw [List.length_drop] at hj
 rw [List.getElem_drop]
 exact List.mem_iff_getElem.2 ⟨1 + j,by rw [List.length_drop];omega,by rw [List.getElem_drop];congr 1;omega⟩
theorem uV {L:List Int} {i:Nat} (hi:i < L.length):L[i] ∈ L.drop i:=by
 rw [List.drop_eq_getElem_cons hi];exact List.mem_cons_self
theorem aD5 {o:List Int} {a:Int} (h:o.Pairwise (· < ·)) (hb:∀ x ∈ o,x < a):(o ++ [a]).Pairwise (· < ·):=by
 rw [List.pairwise_append]
 exact ⟨h,by simp,fun x hx y hy=>by simp only [List.mem_singleton] at hy;subst hy;exact hb x hx⟩
theorem aJu (n:Nat) (hn:n ≤ 1048576) (A B:List Int) (hA:A.Pairwise (· < ·)) (hB:B.Pairwise (· < ·)) (hbA:∀ x ∈ A,0 ≤ x∧x < (n:Int)) (hbB:∀ x ∈ B,0 ≤ x∧x < (n:Int)) :
  aG (bE A B) ([],0,0)=some (aC2 n fun j=>(j:Int) ∈ A ∨ (j:Int) ∈ B):=by
 have lA:=jN (rR hA) hbA
 have lB:=jN (rR hB) hbB
 obtain ⟨r,h1,h2⟩:=cL (f:=bE A B) (fun s:List Int × Int × Int=>∃ i k:Nat,s.2=((i:Int),(k:Int))∧i ≤ A.length∧k ≤ B.length∧s.1.Pairwise (· < ·)∧(∀ x,x ∈ s.1 ↔ x ∈ A.take i ∨ x ∈ B.take k)∧(∀ x ∈ s.1,∀ y ∈ A.drop i,x < y)∧∀ x ∈ s.1,∀ y ∈ B.drop k,x < y) (fun s=>(A.length - s.2.1.toNat) + (B.length - s.2.2.toNat)) (fun r=>r=aC2 n fun j=>(j:Int) ∈ A ∨ (j:Int) ∈ B) (by
  rintro ⟨o,p⟩ ⟨i,k,rfl,hi,hk,ho,hm,h3,h4⟩
  simp only at ho hm h3 h4
  have hob:∀ x ∈ o,0 ≤ x∧x < (n:Int):=fun x hx=>by
   rcases (hm x).1 hx with h | h
   ·exact hbA x (List.mem_of_mem_take h)
   ·exact hbB x (List.mem_of_mem_take h)
  have hol:=jN (rR ho) hob
  have happ:∀ a:Int,mF 8 o [a]=some (o ++ [a]):=fun a=>aPt (by omega) (by omega)
  have di:decide ((i:Int) < (A.length:Int))=decide (i < A.length):=decide_eq_decide.2 (by omega)
  have dk:decide ((k:Int) < (B.length:Int))=decide (k < B.length):=decide_eq_decide.2 (by omega)
  have dk2:decide ((k:Int) ≥ (B.length:Int))=decide (¬ k < B.length):=decide_eq_decide.2 (by omega)
  have wi:IntKind.wrap .i64 ((i:Int) + 1)=((i + 1:Nat):Int):=by rw [w64 (by omega) (by omega)];omega
  have wk:IntKind.wrap .i64 ((k:Int) + 1)=((k + 1:Nat):Int):=by rw [w64 (by omega) (by omega)];omega
  -- what the step takes
  have takeA:∀ (hia:i < A.length),(∀ hkb:k < B.length,A[i] < B[k])→∃ b,bE A B (o,(i:Int),(k:Int))=some (.inl b)∧(∃ i' k':Nat,b.2=((i':Int),(k':Int))∧i' ≤ A.length∧k' ≤ B.length∧b.1.Pairwise (· < ·)∧(∀ x,x ∈ b.1 ↔ x ∈ A.take i' ∨ x ∈ B.take k')∧(∀ x ∈ b.1,∀ y ∈ A.drop i',x < y)∧∀ x ∈ b.1,∀ y ∈ B.drop k',x < y)∧(A.length - b.2.1.toNat) + (B.length - b.2.2.toNat) < (A.length - i) + (B.length - k):=by
   intro hia hab
   refine ⟨(o ++ [A[i]],((i + 1:Nat):Int),(k:Int)),?_,⟨i + 1,k,rfl,by omega,hk,aD5 ho fun x hx=>h3 x hx _ (uV hia),fun x=>?_,fun x hx y hy=>?_,fun x hx y hy=>?_⟩,by simp only [Int.toNat_natCast];omega⟩
   ·by_cases hkb:k < B.length
    ·have:=hab hkb
     simp [bE,di,dk,dk2,hia,hkb,aD hia,aD hkb,happ,wi,this,show ¬ B.length ≤ k by omega]
    ·simp [bE,di,dk,dk2,hia,hkb,aD hia,happ,wi,show B.length ≤ k by omega]
   ·simp only [List.mem_append,List.mem_singleton,hm,jH hia]
    constructor
    ·rintro ((h | h) | h)
     ·exact .inl (.inl h)
     ·exact .inr h
     ·exact .inl (.inr h)
    ·rintro ((h | h) | h)
     ·exact .inl (.inl h)
     ·exact .inr h
     ·exact .inl (.inr h)
   ·rcases List.mem_append.1 hx with h | h
    ·exact h3 x h y (jY hy)
    ·simp only [List.mem_singleton] at h;subst h;exact aAu hA hia hy
   ·rcases List.mem_append.1 hx with h | h
    ·exact h4 x h y hy
    ·simp only [List.mem_singleton] at h;subst h
     have hkb:k < B.length:=by
      rcases Nat.lt_or_ge k B.length with h | h
      ·exact h
      ·rw [List.drop_eq_nil_of_le h] at hy;cases hy
     have:=hab hkb
     have:=aM0 hB hkb hy
     omega
  by_cases hend:i < A.length ∨ k < B.length
  ·left
   by_cases hkb:k < B.length
   ·by_cases hia:i < A.length
    ·by_cases hlt:A[i] < B[k]
     ·exact takeA hia fun _=>hlt
     ·by_cases heq:A[i]=B[k]
      ·refine ⟨(o ++ [B[k]],((i + 1:Nat):Int),((k + 1:Nat):Int)),?_,⟨i + 1,k + 1,rfl,by omega,by omega,aD5 ho fun x hx=>h4 x hx _ (uV hkb),fun x=>?_,fun x hx y hy=>?_,fun x hx y hy=>?_⟩,by simp only [Int.toNat_natCast];omega⟩
       ·simp [bE,di,dk,dk2,hia,hkb,aD hia,aD hkb,happ,wi,wk,heq,show ¬ B.length ≤ k by omega]
       ·simp only [List.mem_append,List.mem_singleton,hm,jH hia,jH hkb,heq]
        constructor
        ·rintro ((h | h) | h)
         ·exact .inl (.inl h)
         ·exact .inr (.inl h)
         ·exact .inr (.inr h)
        ·rintro ((h | h) | (h | h))
         ·exact .inl (.inl h)
         ·exact .inr h
         ·exact .inl (.inr h)
         ·exact .inr h
       ·rcases List.mem_append.1 hx with h | h
        ·exact h3 x h y (jY hy)
        ·simp only [List.mem_singleton] at h;subst h;rw [← heq];exact aAu hA hia hy
       ·rcases List.mem_append.1 hx with h | h
        ·exact h4 x h y (jY hy)
        ·simp only [List.mem_singleton] at h;subst h;exact aAu hB hkb hy
      ·refine ⟨(o ++ [B[k]],(i:Int),((k + 1:Nat):Int)),?_,⟨i,k + 1,rfl,hi,by omega,aD5 ho fun x hx=>h4 x hx _ (uV hkb),fun x=>?_,fun x hx y hy=>?_,fun x hx y hy=>?_⟩,by simp only [Int.toNat_natCast];omega⟩
       ·simp [bE,di,dk,dk2,hia,hkb,aD hia,aD hkb,happ,wi,wk,heq,hlt,show ¬ B.length ≤ k by omega]
       ·simp only [List.mem_append,List.mem_singleton,hm,jH hkb,or_assoc]
       ·rcases List.mem_append.1 hx with h | h
        ·exact h3 x h y hy
        ·simp only [List.mem_singleton] at h;subst h
         have:=aM0 hA hia hy
         omega
       ·rcases List.mem_append.1 hx with h | h
        ·exact h4 x h y (jY hy)
        ·simp only [List.mem_singleton] at h;subst h;exact aAu hB hkb hy
    ·refine ⟨(o ++ [B[k]],(i:Int),((k + 1:Nat):Int)),?_,⟨i,k + 1,rfl,hi,by omega,aD5 ho fun x hx=>h4 x hx _ (uV hkb),fun x=>?_,fun x hx y hy=>?_,fun x hx y hy=>?_⟩,by simp only [Int.toNat_natCast];omega⟩
     ·simp [bE,di,dk,dk2,hia,hkb,aD hkb,happ,wi,wk,show ¬ B.length ≤ k by omega]
     ·simp only [List.mem_append,List.mem_singleton,hm,jH hkb,or_assoc]
     ·rw [List.drop_eq_nil_of_le (by omega)] at hy;cases hy
     ·rcases List.mem_append.1 hx with h | h
      ·exact h4 x h y (jY hy)
      ·simp only [List.mem_singleton] at h;subst h;exact aAu hB hkb hy
   ·exact takeA (by omega) fun h=>absurd h hkb
  ·right
   have hi':i=A.length:=by omega
   have hk':k=B.length:=by omega
   refine ⟨o,by simp [bE,hi',hk'],?_⟩
   refine aKt ho fun x=>?_
   rw [hm,hi',hk',List.take_length,List.take_length]
   constructor
   ·intro h
    have hb:0 ≤ x∧x < (n:Int):=h.elim (hbA x) (hbB x)
    refine ⟨hb.1,hb.2,?_⟩
    rwa [show ((x.toNat:Nat):Int)=x by omega]
   ·rintro ⟨a1,_,a3⟩
    rwa [show ((x.toNat:Nat):Int)=x by omega] at a3) ([],0,0) ⟨0,0,rfl,by omega,by omega,by simp,fun x=>by simp,fun x hx=>by simp at hx,fun x hx=>by simp at hx⟩
 rw [h1,h2]
def kX (p:GProgram) (fn:Int):List Int:=if inB fn 0 ((p.Fns.length:Int) - 1)=true then (match p.Fns[fn.toNat]? with | some f=>if f.Ret = -1 then [f.Body] else [f.Body,f.Ret] | none=>[]) else []
noncomputable def nN (p:GProgram) (fn:Int):List Int:=aC2 p.Nodes.length fun j=>∃ r ∈ kX p fn,(j:Int) ∈ dA p.Nodes r
theorem aJj {p:GProgram} {fn x:Int} (h:x ∈ nN p fn):0 ≤ x∧x < p.Nodes.length:=⟨(mem_setL.1 h).1,(mem_setL.1 h).2.1⟩
theorem aDz (p:GProgram) (hp:p.Fns.length ≤ 1048576) (fn:Int):oW p fn=some (kX p fn):=by
 unfold oW kX
 simp only [cG,Option.bind_some,jG hp]
 cases hi:inB fn 0 ((p.Fns.length:Int) - 1) with
 | false=>rfl
 | true =>
  have hi':=inB_iff.1 hi
  have hlt:fn.toNat < p.Fns.length:=by omega
  simp only [Bool.not_true,Bool.false_eq_true,if_false,if_true]
  rw [cW hi'.1 (by omega),List.getElem?_eq_getElem hlt]
  simp only [Option.bind_some]
  by_cases hr:p.Fns[fn.toNat].Ret = -1
  ·simp [hr]
  ·have happ:mF 8 [p.Fns[fn.toNat].Body] [p.Fns[fn.toNat].Ret]=some ([p.Fns[fn.toNat].Body] ++ [p.Fns[fn.toNat].Ret]):=aPt (by simp) (by omega)
   simp [hr,happ]
theorem aF6 (nodes:List GNode) (x:Int):∀ (rs s:List Int),x ∈ rs.foldl (fun o r=>(dA nodes r).foldl yF o) s ↔ x ∈ s ∨ ∃ r ∈ rs,x ∈ dA nodes r
 | [],s=>by simp
 | r :: rs,s=>by
  rw [List.foldl_cons,aF6 nodes x rs,fT]
  simp only [List.mem_cons,exists_eq_or_imp,or_assoc]
theorem aJe (p:GProgram) (fn:Int):(kX p fn).length ≤ 2:=by
 unfold kX
 split
 ·split
  ·split<;>simp
  ·simp
 ·simp
theorem aAi (p:GProgram) (hn:p.Nodes.length ≤ 1048576) (hp:p.Fns.length ≤ 1048576) (fn:Int):lN p fn=some (nN p fn):=by
 unfold lN
 rw [aDz p hp]
 simp only [Option.bind_some]
 have hrl:=aJe p fn
 have:=aU (kX p fn) (fun (o:List Int) k=>(o,(k:Int))) (fun k o=>o.Nodup∧∀ x ∈ o,0 ≤ x∧x < (p.Nodes.length:Int)) (fun o r=>.inl ((dA p.Nodes r).foldl yF o)) id (dS p (kX p fn)) (fun o k hk hI=>by
  left
  refine ⟨_,rfl,?_,lZ _ hI.1,aH5 hI.2 fun x hx=>kD hx⟩
  have hul:=jN (n:=p.Nodes.length) (rR (yL p.Nodes (kX p fn)[k])) fun x hx=>kD hx
  simp only [dS,aB hk,if_true,aD hk,Option.bind_some,uM p hn]
  generalize hu:dA p.Nodes (kX p fn)[k]=U at *
  rw [aIx p.Nodes.length U (fun m hm=>by rw [← hu] at hm;exact kD hm) (fC U) (fun o=>o) (fun o j hj ho=>by
   have happ:mF 8 o [U[j]]=some (o ++ [U[j]]):=aPt (by omega) (by omega)
   simp only [fC,aB hj,if_true,aD hj,Option.bind_some,aAl o _ (by omega),aK hj (show U.length ≤ 1048576 by omega),happ]
   unfold yF
   cases o.contains U[j]<;>rfl) (fun o=>by simp [fC]) o hI.1 hI.2]
  simp only [Option.bind_some,aK hk (show (kX p fn).length ≤ 1048576 by omega)]) (fun o _=>by simp [dS]) [] ⟨by simp,fun x hx=>by simp at hx⟩
 rw [bB] at this
 have h2:aG (dS p (kX p fn)) ([],0)=some ((kX p fn).foldl (fun o r=>(dA p.Nodes r).foldl yF o) []):=this
 rw [h2]
 simp only [Option.bind_some]
 generalize ho:(kX p fn).foldl (fun o r=>(dA p.Nodes r).foldl yF o) []=o
 have hnd:o.Nodup:=by
  rw [← ho]
  have key:∀ (rs s:List Int),s.Nodup→(rs.foldl (fun o r=>(dA p.Nodes r).foldl yF o) s).Nodup:=by
   intro rs
   induction rs with
   | nil=>intro s h;exact h
   | cons r rs ih=>intro s h;rw [List.foldl_cons];exact ih _ (lZ _ h)
  exact key _ _ (by simp)
 have hmem:∀ x,x ∈ o ↔ 0 ≤ x∧x < (p.Nodes.length:Int)∧∃ r ∈ kX p fn,((x.toNat:Nat):Int) ∈ dA p.Nodes r:=by
  intro x
  rw [← ho,aF6]
  constructor
  ·rintro (h | ⟨r,h1,h2⟩)
   ·simp at h
   ·have:=kD h2
    exact ⟨this.1,this.2,r,h1,by rwa [show ((x.toNat:Nat):Int)=x by omega]⟩
  ·rintro ⟨h1,_,r,h3,h4⟩
   exact .inr ⟨r,h3,by rwa [show ((x.toNat:Nat):Int)=x by omega] at h4⟩
 have hol:o.length ≤ p.Nodes.length:=jN hnd fun x hx=>⟨((hmem x).1 hx).1,((hmem x).1 hx).2.1⟩
 rw [aEq (by omega)]
 simp only [Option.bind_some]
 rw [aEr (n:=p.Nodes.length) (P:=fun j=>∃ r ∈ kX p fn,(j:Int) ∈ dA p.Nodes r) hnd hmem]
 rfl
theorem aB0 (p:GProgram) (hn:p.Nodes.length ≤ 1048576) (hp:p.Fns.length ≤ 1048576) (fn:Int):mI p fn=some (nN p fn):=by
 unfold mI nN kX
 simp only [eV,Option.bind_some,jG hp]
 cases hi:inB fn 0 ((p.Fns.length:Int) - 1) with
 | false =>
  simp only [Bool.not_false,if_true,Bool.false_eq_true,if_false]
  congr 1
  have:∀ x,x ∉ aC2 p.Nodes.length fun j=>∃ r ∈ ([]:List Int),(j:Int) ∈ dA p.Nodes r:=by
   intro x hx
   obtain ⟨_,_,r,hr,_⟩:=mem_setL.1 hx
   cases hr
  exact (List.eq_nil_iff_forall_not_mem.2 this).symm
 | true =>
  have hi':=inB_iff.1 hi
  have hlt:fn.toNat < p.Fns.length:=by omega
  simp only [Bool.not_true,Bool.false_eq_true,if_false,if_true]
  rw [cW hi'.1 (by omega),List.getElem?_eq_getElem hlt]
  simp only [Option.bind_some,tL p hn]
  generalize p.Fns[fn.toNat]=f
  rw [aJu p.Nodes.length hn _ _ (yL _ _) (yL _ _) (fun x hx=>kD hx) (fun x hx=>kD hx)]
  simp only [Option.bind_some]
  congr 1
  refine aC1 fun j hj=>?_
  by_cases hr:f.Ret = -1
  ·have h0:dA p.Nodes f.Ret=[]:=by
    have hd:wG p.Nodes f.Ret=0:=by
     unfold wG
     rw [hr,if_neg (by omega)]
    unfold dA
    rw [if_pos hd]
   rw [if_pos hr,h0]
   simp
  ·rw [if_neg hr]
   simp
end Go.OM
namespace Go.OM
theorem rI (p:GProgram) (nm:ByteArray):fI p nm = -1 ∨ (0 ≤ fI p nm∧fI p nm < p.Fns.length):=by
 unfold fI
 cases h:(List.range p.Fns.length).findSome? (aK4 p nm) with
 | none=>exact .inl rfl
 | some r =>
  right
  obtain ⟨k,hk,hr⟩:=List.exists_of_findSome?_eq_some h
  have:=List.mem_range.1 hk
  unfold aK4 at hr
  split at hr
  ·split at hr
   ·have:=Option.some.inj hr
    simp only [Option.getD_some]
    omega
   ·cases hr
  ·cases hr
def aIv (p:GProgram) (o:List Int) (e:Int):List Int:=match p.Nodes[e.toNat]? with
 | some x=>if x.Kind=12 then (if 0 ≤ fI p x.Name then yF o (fI p x.Name) else o) else o
 | none=>o
structure CInv (p:GProgram) (o:List Int):Prop where
 nd:o.Nodup
 bnd:∀ x ∈ o,0 ≤ x∧x < (p.Fns.length:Int)
theorem CInv.step {p:GProgram} {o:List Int} (h:CInv p o) (e:Int):CInv p (aIv p o e):=by
 unfold aIv
 split
 ·split
  ·split
   ·rename_i x _ _ hge
    refine ⟨wK h.nd _,fun y hy=>?_⟩
    rcases mem_addL.1 hy with hy | hy
    ·exact h.bnd y hy
    ·subst hy
     rcases rI p x.Name with hb | hb
     ·omega
     ·exact hb
   ·exact h
  ·exact h
 ·exact h
end Go.OM
namespace Go.OM
theorem kY {p:GProgram} (h:rY p=true):1 ≤ p.Nodes.length∧p.Nodes.length ≤ 300∧1 ≤ p.Fns.length∧p.Fns.length ≤ 8∧okU p.Nodes p.Nodes.length=true:=by
 unfold rY at h
 simp only [Bool.and_eq_true,inB_iff] at h
 obtain ⟨h1,h2,h3,_⟩:=h
 exact ⟨by omega,by omega,by omega,by omega,h3⟩
end Go.OM
namespace Go.OM
def aLo (names:List ByteArray) (s:ByteArray):Bool:=names.any fun e=>sEq e s
theorem aAf (l:List ByteArray) (s:ByteArray) (hl:l.length ≤ 1048576):lM l s=some (aLo l s):=by
 unfold lM aLo
 rw [tZ l (fun e=>sEq e s) (fB l s) (fun k h=>by
  simp only [fB,aB h,if_true,aD h,Option.bind_some,aK h hl]
  cases sEq l[k] s<;>rfl) (by simp [fB])]
 cases l.any fun e=>sEq e s<;>rfl
theorem sB (l:List ByteArray) (s:ByteArray) (hl:l.length ≤ 1048576):kE l s=some (aLo l s):=by
 unfold kE aLo
 rw [tZ l (fun e=>sEq e s) (fL l s) (fun k h=>by
  simp only [fL,aB h,if_true,aD h,Option.bind_some,aK h hl]
  cases sEq l[k] s<;>rfl) (by simp [fL])]
 cases l.any fun e=>sEq e s<;>rfl
def qC (k:Int):Bool:=inB k 2 6 || (k == 14 || k == 15)
theorem aFq (k:Int):qZ k=some (qC k):=by
 unfold qZ qC
 simp only [cG,Option.bind_some]
 cases inB k 2 6 with
 | true=>rfl
 | false =>
  by_cases h:k=14
  ·subst h;rfl
  ·simp [h]
def aCn (p:GProgram) (fn:Int) (x:GNode):Bool:=inB (fI p x.Name) 0 (fn - 1) && (match p.Fns[(fI p x.Name).toNat]? with | some f=>(f.Params.length:Int) == (x.Kids.length:Int) | none=>false)
def aBu (p:GProgram) (fn:Int) (x:GNode) (names:List ByteArray):Bool:=(!(qC x.Kind) || aLo names x.Name) && (!(x.Kind == 12) || aCn p fn x)
def nY (p:GProgram) (blk:Bool) (kid:Int) (inner:List ByteArray):List ByteArray:=if blk=true then (match p.Nodes[kid.toNat]? with | some y=>if y.Kind=13 then inner ++ [y.Name] else inner | none=>inner) else inner
def lS (p:GProgram) (rc:Int→List ByteArray→Bool) (blk:Bool):List Int→List ByteArray→Bool
 | [],_=>true
 | kid :: l,inner=>rc kid inner && lS p rc blk l (nY p blk kid inner)
def eX (p:GProgram) (fn:Int):Nat→Int→List ByteArray→Bool
 | 0,_,_=>true
 | f + 1,k,names=>match p.Nodes[k.toNat]? with
  | none=>true
  | some x=>aBu p fn x names && lS p (eX p fn f) (x.Kind == 20) x.Kids names
theorem uA (p:GProgram) (blk:Bool) (kid:Int) (inner:List ByteArray):(nY p blk kid inner).length ≤ inner.length + 1:=by
 unfold nY
 split
 ·split
  ·split
   ·simp
   ·omega
  ·omega
 ·omega
theorem aCg (p:GProgram) (rc:Int→List ByteArray→Bool) (blk:Bool):∀ (l:List Int) (s:List ByteArray),
  aBw (fun s kid=>if rc kid s=true then (.inl (nY p blk kid s):List ByteArray ⊕ (Unit ⊕ Bool)) else .inr (.inr false)) (fun _=>.inl ()) l s=if lS p rc blk l s=true then .inl () else .inr false
 | [],s=>rfl
 | kid :: l,s=>by
  have ih:=aCg p rc blk l (nY p blk kid s)
  by_cases h:rc kid s=true
  ·simp only [aBw,lS,h,if_true,Bool.true_and];exact ih
  ·simp only [aBw,lS,Bool.eq_false_iff.2 h,Bool.false_eq_true,if_false,Bool.false_and]
theorem aMc {l:List ByteArray} (h:l.length ≤ 100000) (x:ByteArray):mF 16 l [x]=some (l ++ [x]):=aHj (by omega) (by omega)
theorem nZ (p:GProgram) (hF:p.Fns.length ≤ 1048576) (hu:okU p.Nodes p.Nodes.length=true) (fn:Nat) (hfn:fn < p.Fns.length) :
  ∀ (f D:Nat) (k:Int) (names:List ByteArray),0 ≤ k→k < p.Nodes.length→nT p.Nodes k.toNat ≤ D→D ≤ f→names.length + 12 * D ≤ 1000→eK f p fn k names=some (eX p fn D k names)
 | 0,D,k,names,h0,h1,h2,h3,h4=>by
  have:=gE p.Nodes k.toNat
  omega
 | f + 1,D,k,names,h0,h1,h2,h3,h4=>by
  have hp:=gE p.Nodes k.toNat
  cases D with
  | zero=>omega
  | succ D =>
  have hk:k.toNat < p.Nodes.length:=by omega
  have hx:p.Nodes[k.toNat]? = some p.Nodes[k.toNat]:=List.getElem?_eq_getElem hk
  have hnb:=(jA hu hk).1
  have hge:aJ p.Nodes k=some p.Nodes[k.toNat]:=cW h0 (by omega)
  have hkl:=eH hnb hx
  have hkb:=fS hnb hx
  have hdk:∀ kid ∈ p.Nodes[k.toNat].Kids,nT p.Nodes kid.toNat ≤ D:=fun kid hm=>by
   have:=uU hnb hx hm
   omega
  show mY (eK f) p fn k names=_
  unfold mY
  simp only [eX,hx,hge,Option.bind_some,aFq,aAf names _ (show names.length ≤ 1048576 by omega)]
  generalize hgx:p.Nodes[k.toNat]=x at *
  have hw:IntKind.wrap .i64 ((fn:Int) - 1)=(fn:Int) - 1:=w64 (by omega) (by omega)
  have hkids:aG (gK (eK f) p fn x) (names,0)=some (if lS p (eX p fn D) (x.Kind == 20) x.Kids names=true then .inl () else .inr false):=by
   rw [← aCg]
   refine aU x.Kids (fun (s:List ByteArray) k=>(s,(k:Int))) (fun j s=>s.length ≤ names.length + j) _ _ (gK (eK f) p fn x) (fun s j hj hI=>?_) (fun s _=>by simp [gK]) names (by simp)
   have hm:=List.getElem_mem hj
   have hb:=hkb _ hm
   have hrc:=nZ p hF hu fn hfn f D x.Kids[j] s hb.1 (by omega) (hdk _ hm) (by omega) (by omega)
   simp only [gK,aB hj,if_true,aD hj,Option.bind_some,hrc]
   cases hs:eX p fn D x.Kids[j] s with
   | false =>
    right
    exact ⟨.inr false,by simp,by simp⟩
   | true =>
    left
    have hlt:(x.Kids[j]).toNat < p.Nodes.length:=by omega
    have hgk:aJ p.Nodes x.Kids[j]=some p.Nodes[(x.Kids[j]).toNat]:=cW hb.1 (by omega)
    have hgo:p.Nodes[(x.Kids[j]).toNat]? = some p.Nodes[(x.Kids[j]).toNat]:=List.getElem?_eq_getElem hlt
    refine ⟨nY p (x.Kind == 20) x.Kids[j] s,by simp,?_,?_⟩
    ·simp only [Bool.not_true,Bool.false_eq_true,if_false,hgk,Option.bind_some]
     unfold nY
     rw [hgo]
     cases hb20:(x.Kind == 20) with
     | false=>simp [aK hj (show x.Kids.length ≤ 1048576 by omega)]
     | true =>
      by_cases h13:(p.Nodes[(x.Kids[j]).toNat]).Kind=13
      ·simp [h13,aMc (show s.length ≤ 100000 by omega),aK hj (show x.Kids.length ≤ 1048576 by omega)]
      ·simp [h13,aK hj (show x.Kids.length ≤ 1048576 by omega)]
    ·have:=uA p (x.Kind == 20) x.Kids[j] s
     omega
  rw [hkids]
  have happ:mF 16 [] names=some names:=aHi (by omega) (by omega)
  rw [happ]
  simp only [Option.bind_some]
  have hfin:(match (if lS p (eX p fn D) (x.Kind == 20) x.Kids names=true then (Sum.inl ():Unit ⊕ Bool) else Sum.inr false) with | Sum.inr z=>some z | Sum.inl ()=>some true)=some (lS p (eX p fn D) (x.Kind == 20) x.Kids names):=by
   cases lS p (eX p fn D) (x.Kind == 20) x.Kids names<;>rfl
  have hu1:(if qC x.Kind=true then some (!(aLo names x.Name)) else some false)=some (!(!(qC x.Kind) || aLo names x.Name)):=by
   cases qC x.Kind<;>simp
  rw [hu1]
  simp only [Option.bind_some]
  unfold aBu
  cases hq:(!(qC x.Kind) || aLo names x.Name) with
  | false=>simp
  | true =>
   simp only [Bool.not_true,Bool.false_eq_true,if_false,Bool.true_and]
   have hcall:((if (x.Kind == 12)=true then (lP p x.Name).bind fun r22=>Option.bind ((cU r22 0 (IntKind.wrap .i64 ((fn:Int) - 1))).bind fun r26=>if (!r26)=true then some true else (aJ p.Fns r22).bind fun e30=>some ((e30.Params.length:Int) != (x.Kids.length:Int))) fun v31=>if v31=true then some (Sum.inr false) else some (Sum.inl ()) else some (Sum.inl ())):Option (Unit ⊕ Bool))=some (if (!(x.Kind == 12) || aCn p fn x)=true then .inl () else .inr false):=by
    cases h12:(x.Kind == 12) with
    | false=>simp
    | true =>
     simp only [if_true,nR p _ hF,cG,Option.bind_some,hw]
     unfold aCn
     cases hi:inB (fI p x.Name) 0 ((fn:Int) - 1) with
     | false=>simp
     | true =>
      have hi':=inB_iff.1 hi
      have hlt:(fI p x.Name).toNat < p.Fns.length:=by omega
      rw [cW hi'.1 (by omega),List.getElem?_eq_getElem hlt]
      by_cases he:((p.Fns[(fI p x.Name).toNat]).Params.length:Int)=(x.Kids.length:Int)
      ·simp [he]
      ·simp [he]
   rw [hcall]
   simp only [Option.bind_some]
   cases (!(x.Kind == 12) || aCn p fn x) with
   | false=>simp
   | true=>simp only [if_true,Bool.true_and];exact hfin
end Go.OM
namespace Go.OM
theorem aAm (p:GProgram) (rc:Int→List ByteArray→Bool):∀ (l:List Int) (th:List ByteArray) (b:Bool),l.foldl (fun b kid=>b || !(rc kid th)) b=(b || !(lS p rc false l th))
 | [],th,b=>by simp [lS]
 | kid :: l,th,b=>by
  rw [List.foldl_cons,aAm p rc l th]
  have:nY p false kid th=th:=by simp [nY]
  simp only [lS,this]
  cases b<;>cases rc kid th<;>simp
theorem mH (p:GProgram) (hF:p.Fns.length ≤ 1048576) (hu:okU p.Nodes p.Nodes.length=true) (fn:Nat) (hfn:fn < p.Fns.length) :
  ∀ (f D:Nat) (k:Int) (th:List ByteArray) (b:Bool),0 ≤ k→k < p.Nodes.length→(∀ x,p.Nodes[k.toNat]? = some x→qG x.Kind=true)→nT p.Nodes k.toNat ≤ D→D ≤ f→th.length ≤ 1000 →
   aW f ⟨p,fn,th,b⟩ k=some ⟨p,fn,th,b || !(eX p fn D k th)⟩
 | 0,D,k,th,b,h0,h1,hv,h2,h3,h4=>by
  have:=gE p.Nodes k.toNat
  omega
 | f + 1,D,k,th,b,h0,h1,hv,h2,h3,h4=>by
  have hp:=gE p.Nodes k.toNat
  cases D with
  | zero=>omega
  | succ D =>
  have hk:k.toNat < p.Nodes.length:=by omega
  have hx:p.Nodes[k.toNat]? = some p.Nodes[k.toNat]:=List.getElem?_eq_getElem hk
  have hnb:=(jA hu hk).1
  have hge:aJ p.Nodes k=some p.Nodes[k.toNat]:=cW h0 (by omega)
  have hkl:=eH hnb hx
  have hkb:=fS hnb hx
  have hdk:∀ kid ∈ p.Nodes[k.toNat].Kids,nT p.Nodes kid.toNat ≤ D:=fun kid hm=>by
   have:=uU hnb hx hm
   omega
  have hvk:=hv _ hx
  have hkv:∀ kid ∈ p.Nodes[k.toNat].Kids,∀ y,p.Nodes[kid.toNat]? = some y→qG y.Kind=true:=by
   intro kid hm y hy
   obtain ⟨i,hi,rfl⟩:=List.mem_iff_getElem.1 hm
   obtain ⟨_,_,_,g3,_⟩:=mM hnb
   obtain ⟨_,_,z,hz,hfit⟩:=g3 i hi
   rw [hy] at hz
   injection hz with hz
   subst hz
   have hv1:=inB_iff.1 hvk
   unfold uR at hfit
   rw [if_neg (by omega),if_neg (by omega),if_neg (by omega)] at hfit
   exact hfit
  show cX (aW f) ⟨p,fn,th,b⟩ k=_
  unfold cX
  simp only [eX,hx,hge,Option.bind_some]
  generalize hgx:p.Nodes[k.toNat]=x at *
  have hv1:=inB_iff.1 hvk
  have hloop:aG (bC (aW f) x) (0,(⟨p,fn,th,b⟩:Gl07Seen))=some ⟨p,fn,th,b || !(lS p (eX p fn D) false x.Kids th)⟩:=by
   have:=aU x.Kids (fun (b:Bool) j=>((j:Int),(⟨p,fn,th,b⟩:Gl07Seen))) (fun _ _=>True) (fun b kid=>.inl (b || !(eX p fn D kid th))) (fun b=>(⟨p,fn,th,b⟩:Gl07Seen)) (bC (aW f) x) (fun b j hj _=>by
    left
    have hm:=List.getElem_mem hj
    have hb:=hkb _ hm
    refine ⟨_,rfl,?_,trivial⟩
    simp only [bC,aB hj,if_true,aD hj,Option.bind_some,mH p hF hu fn hfn f D x.Kids[j] th b hb.1 (by omega) (hkv _ hm) (hdk _ hm) (by omega) h4,aK hj (show x.Kids.length ≤ 1048576 by omega)]) (fun b _=>by simp [bC]) b trivial
   rw [bB,aAm p] at this
   exact this
  rw [hloop]
  have h20:(x.Kind == 20)=false:=by simp;omega
  rw [h20]
  simp only [Option.bind_some]
  generalize hB:lS p (eX p fn D) false x.Kids th=B
  have hhas:=sB th x.Name (show th.length ≤ 1048576 by omega)
  by_cases h26:2 ≤ x.Kind∧x.Kind ≤ 6
  ·have hcond:(if (x.Kind == 2)=true then some (x.Kind == 2) else if (x.Kind == 3)=true then some (x.Kind == 3) else if (x.Kind == 4)=true then some (x.Kind == 4) else if (x.Kind == 5)=true then some (x.Kind == 5) else some (x.Kind == 6))=some true:=by
    have:x.Kind=2 ∨ x.Kind=3 ∨ x.Kind=4 ∨ x.Kind=5 ∨ x.Kind=6:=by omega
    rcases this with e | e | e | e | e<;>simp [e]
   rw [hcond]
   have hu1:qC x.Kind=true:=by
    unfold qC
    rw [inB_iff.2 h26];rfl
   have h12:(x.Kind == 12)=false:=by simp;omega
   simp only [Option.bind_some,if_true,hhas,aBu,hu1,h12,Bool.not_true,Bool.false_or,Bool.not_false,Bool.true_or,Bool.and_true]
   cases b<;>cases B<;>cases aLo th x.Name<;>simp
  ·have hcond:(if (x.Kind == 2)=true then some (x.Kind == 2) else if (x.Kind == 3)=true then some (x.Kind == 3) else if (x.Kind == 4)=true then some (x.Kind == 4) else if (x.Kind == 5)=true then some (x.Kind == 5) else some (x.Kind == 6))=some false:=by
    have n2:¬ x.Kind=2:=by omega
    have n3:¬ x.Kind=3:=by omega
    have n4:¬ x.Kind=4:=by omega
    have n5:¬ x.Kind=5:=by omega
    have n6:¬ x.Kind=6:=by omega
    simp [n2,n3,n4,n5,n6]
   rw [hcond]
   have hu1:qC x.Kind=false:=by
    unfold qC
    have e1:inB x.Kind 2 6=false:=by
     rw [Bool.eq_false_iff];intro h;exact h26 (inB_iff.1 h)
    have e2:(x.Kind == 14)=false:=by simp;omega
    have e3:(x.Kind == 15)=false:=by simp;omega
    rw [e1,e2,e3];rfl
   simp only [Option.bind_some,Bool.false_eq_true,if_false,aBu,hu1,Bool.not_false,Bool.true_or,Bool.true_and]
   by_cases h12:x.Kind=12
   ·have e12:(x.Kind == 12)=true:=by simpa using h12
    simp only [e12,if_true,qQ p _ hF,Option.bind_some,Bool.not_true,Bool.false_or]
    unfold aCn
    rcases rI p x.Name with hm1 | ⟨g0,g1⟩
    ·have hi:inB (fI p x.Name) 0 ((fn:Int) - 1)=false:=by
      rw [Bool.eq_false_iff];intro h;have:=inB_iff.1 h;omega
     rw [hi]
     have hlt:decide (fI p x.Name < 0)=true:=by simp [hm1]
     rw [hlt]
     cases b<;>cases B<;>simp
    ·have hlt:decide (fI p x.Name < 0)=false:=by simp only [decide_eq_false_iff_not];omega
     rw [hlt]
     by_cases hge2:fI p x.Name ≥ fn
     ·have hi:inB (fI p x.Name) 0 ((fn:Int) - 1)=false:=by
       rw [Bool.eq_false_iff];intro h;have:=inB_iff.1 h;omega
      rw [hi,decide_eq_true hge2]
      cases b<;>cases B<;>simp
     ·have hi:inB (fI p x.Name) 0 ((fn:Int) - 1)=true:=inB_iff.2 (by omega)
      have hlt2:(fI p x.Name).toNat < p.Fns.length:=by omega
      rw [hi,decide_eq_false hge2,cW g0 (by omega),List.getElem?_eq_getElem hlt2]
      cases b<;>cases B<;>simp<;>rfl
   ·have e12:(x.Kind == 12)=false:=by simpa using h12
    simp only [e12,Bool.false_eq_true,if_false,Bool.not_false,Bool.true_or,Bool.true_and]
end Go.OM
namespace Go.OM
def kZ (p:GProgram) (kids:List Int) (th:List ByteArray):List ByteArray:=kids.foldl (fun th kid=>nY p true kid th) th
theorem aIj (p:GProgram) (rc:Int→List ByteArray→Bool):∀ (l:List Int) (th:List ByteArray) (b:Bool),l.foldl (fun (s:List ByteArray × Bool) kid=>(nY p true kid s.1,s.2 || !(rc kid s.1))) (th,b)=(kZ p l th,b || !(lS p rc true l th))
 | [],th,b=>by simp [kZ,lS]
 | kid :: l,th,b=>by
  rw [List.foldl_cons]
  have:=aIj p rc l (nY p true kid th) (b || !(rc kid th))
  rw [this]
  simp only [kZ,List.foldl_cons,lS]
  cases b<;>cases rc kid th<;>simp
theorem vR (p:GProgram):∀ (l:List Int) (th:List ByteArray),(kZ p l th).length ≤ th.length + l.length
 | [],th=>by simp [kZ]
 | kid :: l,th=>by
  have h1:=vR p l (nY p true kid th)
  have h2:=uA p true kid th
  simp only [kZ,List.foldl_cons,List.length_cons] at h1 ⊢
  omega
theorem aH1 (p:GProgram) (fn:Int) (x:GNode) (th:List ByteArray) (h:x.Kind=13 ∨ 16 ≤ x.Kind):aBu p fn x th=true:=by
 unfold aBu qC
 have e1:inB x.Kind 2 6=false:=by
  rw [Bool.eq_false_iff];intro hh;have:=inB_iff.1 hh;omega
 have e2:(x.Kind == 14)=false:=by simp;omega
 have e3:(x.Kind == 15)=false:=by simp;omega
 have e4:(x.Kind == 12)=false:=by simp;omega
 rw [e1,e2,e3,e4];rfl
theorem aNn (p:GProgram) (fn:Int) (x:GNode) (th:List ByteArray) (h:x.Kind=14 ∨ x.Kind=15):aBu p fn x th=aLo th x.Name:=by
 unfold aBu qC
 have e4:(x.Kind == 12)=false:=by simp;omega
 have e5:(inB x.Kind 2 6 || (x.Kind == 14 || x.Kind == 15))=true:=by
  rcases h with e | e<;>simp [e]
 rw [e5,e4];simp
theorem wP (p:GProgram) (hF:p.Fns.length ≤ 1048576) (hu:okU p.Nodes p.Nodes.length=true) (fn:Nat) (hfn:fn < p.Fns.length):∀ (f D:Nat),
  (∀ (k:Int) (x:GNode) (th:List ByteArray) (b:Bool),0 ≤ k→p.Nodes[k.toNat]? = some x→x.Kind=20→nT p.Nodes k.toNat ≤ D→D ≤ f→th.length + 12 * D ≤ 1000→(aF f).1 ⟨p,fn,th,b⟩ k=some ⟨p,fn,kZ p x.Kids th,b || !(eX p fn D k th)⟩) ∧
  (∀ (k:Int) (x:GNode) (th:List ByteArray) (b:Bool),0 ≤ k→p.Nodes[k.toNat]? = some x→yP x.Kind=true→nT p.Nodes k.toNat ≤ D→D ≤ f→th.length + 12 * D ≤ 1000→(aF f).2 ⟨p,fn,th,b⟩ k=some ⟨p,fn,nY p true k th,b || !(eX p fn D k th)⟩)
 | 0,D=>by
  refine ⟨fun k x th b h0 hx hk h2 h3 h4=>?_,fun k x th b h0 hx hk h2 h3 h4=>?_⟩ <;>
  ·have:=gE p.Nodes k.toNat
   omega
 | f + 1,0=>by
  refine ⟨fun k x th b h0 hx hk h2 h3 h4=>?_,fun k x th b h0 hx hk h2 h3 h4=>?_⟩ <;>
  ·have:=gE p.Nodes k.toNat
   omega
 | f + 1,D + 1=>by
  obtain ⟨ihB,ihS⟩:=wP p hF hu fn hfn f D
  have facts:∀ (k:Int) (x:GNode),0 ≤ k→p.Nodes[k.toNat]? = some x→nT p.Nodes k.toNat ≤ ((D + 1:Nat):Int)→k < p.Nodes.length∧aJ p.Nodes k=some x∧x.Kids.length ≤ 12∧inB x.Kids.length (iY x.Kind).1 (iY x.Kind).2=true ∧
    ∀ (i:Nat) (hi:i < x.Kids.length),0 ≤ x.Kids[i]∧nT p.Nodes (x.Kids[i]).toNat ≤ D∧∃ y,p.Nodes[(x.Kids[i]).toNat]? = some y∧uR x.Kind i y.Kind=true:=by
   intro k x h0 hx hd
   obtain ⟨hlt,hxe⟩:=List.getElem?_eq_some_iff.1 hx
   have hnb:=(jA hu hlt).1
   obtain ⟨_,_,g2,g3,_⟩:=mM hnb
   refine ⟨by omega,?_,eH hnb hx,by rw [← hxe];exact g2,fun i hi=>?_⟩
   ·rw [cW h0 (by omega),hxe]
   ·subst hxe
    obtain ⟨q1,_,q3⟩:=g3 i hi
    have:=uU hnb hx (List.getElem_mem hi)
    exact ⟨q1.1,by omega,q3⟩
  constructor
  ·intro k x th b h0 hx hk h2 h3 h4
   obtain ⟨hkn,hge,hkl,hsh,hkid⟩:=facts k x h0 hx h2
   show cY (aF f).1 (aF f).2 ⟨p,fn,th,b⟩ k=_
   unfold cY
   have h20:(x.Kind == 20)=true:=by simpa using hk
   have hs:eX p fn (D + 1) k th=lS p (eX p fn D) true x.Kids th:=by
    simp only [eX,hx,aH1 p fn x th (by omega),h20,Bool.true_and]
   rw [hs]
   have:=aU x.Kids (fun (s:List ByteArray × Bool) j=>((j:Int),(⟨p,fn,s.1,s.2⟩:Gl07Seen))) (fun j s=>s.1.length ≤ th.length + j) (fun s kid=>.inl (nY p true kid s.1,s.2 || !(eX p fn D kid s.1))) (fun s=>(⟨p,fn,s.1,s.2⟩:Gl07Seen)) (bL (aF f).2 k) (fun s j hj hI=>by
    left
    obtain ⟨q0,q1,y,hy,hfit⟩:=hkid j hj
    have hst:yP y.Kind=true:=by
     unfold uR at hfit
     rwa [if_pos hk] at hfit
    refine ⟨_,rfl,?_,?_⟩
    ·simp only [bL,hge,Option.bind_some,aB hj,if_true,aD hj,ihS x.Kids[j] y s.1 s.2 q0 hy hst q1 (by omega) (by omega),aK hj (show x.Kids.length ≤ 1048576 by omega)]
    ·have:=uA p true x.Kids[j] s.1
     simp only;omega) (fun s _=>by simp [bL,hge]) (th,b) (by simp)
   rw [bB,aIj] at this
   exact this
  ·intro k x th b h0 hx hk h2 h3 h4
   obtain ⟨hkn,hge,hkl,hsh,hkid⟩:=facts k x h0 hx h2
   have hk':=inB_iff.1 hk
   have hsh':=inB_iff.1 hsh
   show dN (aF f).1 (aF f).2 ⟨p,fn,th,b⟩ k=_
   unfold dN
   have h20:(x.Kind == 20)=false:=by simp;omega
   have hs:eX p fn (D + 1) k th=(aBu p fn x th && lS p (eX p fn D) false x.Kids th):=by
    simp only [eX,hx,h20]
   rw [hs]
   have hpos:1 ≤ x.Kids.length:=by
    have:1 ≤ (iY x.Kind).1:=by
     unfold iY
     split
     ·simp
     ·split
      ·simp
      ·split
       ·simp
       ·omega
    omega
   obtain ⟨k0,rest,hks⟩:∃ k0 rest,x.Kids=k0 :: rest:=by
    match h:x.Kids with
    | []=>rw [h] at hpos;simp at hpos
    | k0 :: rest=>exact ⟨k0,rest,rfl⟩
   obtain ⟨q0,q1,y,hy,hfit⟩:=hkid 0 (by omega)
   have hk00:x.Kids[0]=k0:=by simp [hks]
   rw [hk00] at q0 q1 hy
   have hvy:qG y.Kind=true:=by
    unfold uR at hfit
    rw [if_neg (by omega),if_neg (by simp)] at hfit
    split at hfit
    ·have:y.Kind=12:=by simpa using hfit
     rw [this];rfl
    ·exact hfit
   have hg0:aJ x.Kids 0=some k0:=by rw [aLp,hks];rfl
   have hyl:k0 < p.Nodes.length:=by
    have:=(List.getElem?_eq_some_iff.1 hy).1
    omega
   have hval:eF ⟨p,fn,th,b⟩ k0=some ⟨p,fn,th,b || !(eX p fn D k0 th)⟩:=mH p hF hu fn hfn iR D k0 th b q0 hyl (fun z hz=>by rw [hy] at hz;injection hz with hz;rw [← hz];exact hvy) q1 (show D ≤ 1048576 by omega) (by omega)
   simp only [hge,hg0,hval,Option.bind_some]
   have hlet:nY p true k th=if x.Kind=13 then th ++ [x.Name] else th:=by
    unfold nY;simp only [if_true,hx]
   have hl0:nY p false k0 th=th:=by simp [nY]
   rw [hlet,hks]
   simp only [lS,hl0]
   have hone:(x.Kind=13 ∨ x.Kind=14 ∨ x.Kind=15 ∨ x.Kind=18 ∨ x.Kind=19)→rest=[]:=by
    intro hc
    have h1:(iY x.Kind).2=1:=by
     unfold iY
     rw [if_pos (by omega)]
    rw [h1,hks] at hsh'
    simp only [List.length_cons] at hsh'
    exact List.length_eq_zero_iff.1 (by omega)
   generalize hB:eX p fn D k0 th=B
   by_cases h13:x.Kind=13
   ·have e13:(x.Kind == 13)=true:=by simpa using h13
    have happ1:mF 16 [] th=some th:=aHi (by omega) (by omega)
    simp only [e13,if_true,happ1,Option.bind_some,aMc (show th.length ≤ 100000 by omega),if_pos h13,aH1 p fn x th (.inl h13),Bool.true_and,hone (.inl h13),lS,Bool.and_true]
   ·have e13:(x.Kind == 13)=false:=by simpa using h13
    simp only [e13,Bool.false_eq_true,if_false,if_neg h13]
    by_cases h1415:x.Kind=14 ∨ x.Kind=15
    ·have hcond:(if (x.Kind == 14)=true then some (x.Kind == 14) else some (x.Kind == 15))=some true:=by
      rcases h1415 with e | e<;>simp [e]
     rw [hcond]
     simp only [Option.bind_some,if_true,sB th x.Name (show th.length ≤ 1048576 by omega),aNn p fn x th h1415,hone (by omega),lS,Bool.and_true]
     cases b<;>cases B<;>cases aLo th x.Name<;>simp
    ·have hcond:(if (x.Kind == 14)=true then some (x.Kind == 14) else some (x.Kind == 15))=some false:=by
      rw [not_or] at h1415
      simp [h1415.1,h1415.2]
     rw [hcond]
     simp only [Option.bind_some,Bool.false_eq_true,if_false,aH1 p fn x th (.inr (by omega)),Bool.true_and]
     by_cases h1617:x.Kind=16 ∨ x.Kind=17
     ·have hcond2:(if (x.Kind == 16)=true then some (x.Kind == 16) else some (x.Kind == 17))=some true:=by
       rcases h1617 with e | e<;>simp [e]
      rw [hcond2]
      simp only [Option.bind_some,if_true]
      have hlen:x.Kids.length=rest.length + 1:=by rw [hks];simp
      have:=aU rest (fun (s:Bool) j=>(((j + 1:Nat):Int),(⟨p,fn,th,s⟩:Gl07Seen))) (fun _ _=>True) (fun s kid=>.inl (s || !(eX p fn D kid th))) (fun s=>(⟨p,fn,th,s⟩:Gl07Seen)) (bW (aF f).1 x) (fun s j hj _=>by
       left
       have hj1:j + 1 < x.Kids.length:=by omega
       obtain ⟨r0,r1,z,hz,hfz⟩:=hkid (j + 1) hj1
       have hkj:x.Kids[j + 1]=rest[j]:=by simp [hks]
       rw [hkj] at r0 r1 hz
       have hz20:z.Kind=20:=by
        unfold uR at hfz
        rw [if_neg (by omega),if_pos ⟨h1617,by omega⟩] at hfz
        simpa using hfz
       have hgj:aJ x.Kids ((j + 1:Nat):Int)=some rest[j]:=by rw [aD hj1,hkj]
       refine ⟨_,rfl,?_,trivial⟩
       simp only [bW,aB hj1,if_true,hgj,Option.bind_some,ihB rest[j] z th s r0 hz hz20 r1 (by omega) (by omega),aK hj1 (show x.Kids.length ≤ 1048576 by omega)]) (fun s _=>by
        have:¬ (((rest.length + 1:Nat):Int) < (x.Kids.length:Int)):=by omega
        simp only [bW,decide_eq_false this,Bool.false_eq_true,if_false]) (b || !B) trivial
      rw [bB,aAm p] at this
      rw [show (((0 + 1:Nat):Int))=1 from rfl] at this
      rw [this]
      cases b<;>cases B<;>simp
     ·have hcond2:(if (x.Kind == 16)=true then some (x.Kind == 16) else some (x.Kind == 17))=some false:=by
       rw [not_or] at h1617
       simp [h1617.1,h1617.2]
      rw [hcond2]
      simp only [Option.bind_some,Bool.false_eq_true,if_false,hone (by omega),lS,Bool.and_true]
end Go.OM
namespace Go.OM
def fD (l:List GVar) (nm:ByteArray):Int:=((List.range l.length).findSome? fun k=>match l[k]? with
 | some v=>if sEq v.Name nm=true then some (k:Int) else none
 | none=>none).getD (-1)
theorem pQ (l:List GVar) (nm:ByteArray) (hl:l.length ≤ 1048576):mC l nm=some (fD l nm):=by
 unfold mC fD
 rw [wD l.length (fun k=>match l[k]? with
  | some v=>if sEq v.Name nm=true then some (k:Int) else none
  | none=>none) (gZ l nm) (fun k h=>by
   simp only [gZ,aB h,if_true,aD h,Option.bind_some,List.getElem?_eq_getElem h,aK h hl]
   cases sEq l[k].Name nm<;>rfl) (by simp [gZ])]
 cases (List.range l.length).findSome? fun k=>match l[k]? with
  | some v=>if sEq v.Name nm=true then some (k:Int) else none
  | none=>none<;>rfl
theorem tK (l:List GVar) (nm:ByteArray) (hl:l.length ≤ 1048576):oJ l nm=some (fD l nm):=pQ l nm hl
def sK (l:List GVar):Bool:=(List.range l.length).all fun k=>match l[k]? with
 | some v=>fD l v.Name == k
 | none=>true
theorem aCb {ρ:Type} (l:List GVar) (hl:l.length ≤ 1048576) (b:ρ) (f:Int→Option (Int ⊕ (Unit ⊕ ρ)))
  (hf:∀ (k:Nat) (h:k < l.length),f k=some (if (fD l l[k].Name != (k:Int))=true then .inr (.inr b) else .inl (IntKind.wrap .i64 ((k:Int) + 1)))) (he:f l.length=some (.inr (.inl ()))):aG f 0=some (if sK l=true then .inl () else .inr b):=by
 unfold sK
 refine oM l.length hl _ b f (fun k hk=>?_) he
 rw [hf k hk,List.getElem?_eq_getElem hk]
 by_cases e:fD l l[k].Name=k
 ·simp [e]
 ·simp [e]
theorem pS {α β:Type} (h:α→β):∀ (l:List α) (s:List β),l.foldl (fun s x=>s ++ [h x]) s=s ++ l.map h
 | [],s=>by simp
 | x :: l,s=>by rw [List.foldl_cons,pS h l];simp
def yO (p:GProgram) (s:List GVar) (e:Int):List GVar:=match p.Nodes[e.toNat]? with
 | some y=>if y.Kind=13 then s ++ [⟨y.Name,0,e⟩] else s
 | none=>s
noncomputable def gM (p:GProgram) (f:GFn):List GVar:=(dA p.Nodes f.Body).foldl (yO p) (f.Params.map fun x=>(⟨x.Name,x.Typ,-1⟩:GVar))
theorem aEh (nodes:List GNode) (k:Int):(dA nodes k).length ≤ nodes.length:=by
 unfold dA
 split
 ·simp
 ·unfold aC2
  rw [List.length_map]
  refine Nat.le_trans (List.length_filter_le _ _) ?_
  rw [List.length_range]
  exact Nat.le_refl _
theorem aEk (p:GProgram) (s:List GVar) (e:Int):(yO p s e).length ≤ s.length + 1:=by
 unfold yO
 split
 ·split
  ·simp
  ·omega
 ·omega
theorem aFw (p:GProgram):∀ (l:List Int) (s:List GVar),(l.foldl (yO p) s).length ≤ s.length + l.length
 | [],s=>by simp
 | e :: l,s=>by
  rw [List.foldl_cons]
  have h1:=aFw p l (yO p s e)
  have h2:=aEk p s e
  simp only [List.length_cons];omega
theorem tE (p:GProgram) (f:GFn) (hp:f.Params.length ≤ 3):(gM p f).length ≤ p.Nodes.length + 3:=by
 unfold gM
 have h1:=aFw p (dA p.Nodes f.Body) (f.Params.map fun x=>(⟨x.Name,x.Typ,-1⟩:GVar))
 have h2:=aEh p.Nodes f.Body
 rw [List.length_map] at h1
 omega
theorem sV {ρ β:Type} (f:GFn) (hp:f.Params.length ≤ 1000) (h:GParam→β) (g:List β × Int→Option ((List β × Int) ⊕ List β))
  (hf:∀ (s:List β) (k:Nat) (hk:k < f.Params.length),s.length ≤ k→g (s,(k:Int))=some (.inl (s ++ [h f.Params[k]],((k + 1:Nat):Int)))) (he:∀ s,g (s,(f.Params.length:Int))=some (.inr s)):aG g ([],0)=some (f.Params.map h):=by
 have:=aU f.Params (fun (s:List β) k=>(s,(k:Int))) (fun k s=>s.length ≤ k) (fun s x=>.inl (s ++ [h x])) id g (fun s k hk hI=>.inl ⟨_,rfl,hf s k hk hI,by simp only [List.length_append,List.length_cons,List.length_nil];omega⟩) (fun s _=>he s) [] (by simp)
 rw [bB,pS] at this
 simpa using this
theorem aEf (p:GProgram) (r:List Int) (hr:∀ e ∈ r,0 ≤ e∧e < p.Nodes.length) (hn:p.Nodes.length ≤ 1000) (hrl:r.length ≤ 1000) (s0:List GVar) (h0:s0.length ≤ 1000) (g:List GVar × Int→Option ((List GVar × Int) ⊕ List GVar))
  (hf:∀ (s:List GVar) (k:Nat) (hk:k < r.length) (y:GNode),s.length ≤ 100000→aJ p.Nodes r[k]=some y→g (s,(k:Int))=some (.inl (if (y.Kind == 13)=true then s ++ [⟨y.Name,0,r[k]⟩] else s,((k + 1:Nat):Int)))) (he:∀ s,g (s,(r.length:Int))=some (.inr s)):aG g (s0,0)=some (r.foldl (yO p) s0):=by
 have:=aU r (fun (s:List GVar) k=>(s,(k:Int))) (fun k s=>s.length ≤ s0.length + k) (fun s e=>.inl (yO p s e)) id g (fun s k hk hI=>by
  left
  obtain ⟨b0,b1⟩:=hr _ (List.getElem_mem hk)
  have hlt:(r[k]).toNat < p.Nodes.length:=by omega
  refine ⟨_,rfl,?_,by have:=aEk p s r[k];omega⟩
  rw [hf s k hk _ (by omega) (cW b0 b1)]
  unfold yO
  rw [List.getElem?_eq_getElem hlt]
  by_cases e:(p.Nodes[(r[k]).toNat]).Kind=13<;>simp [e]) (fun s _=>he s) s0 (by simp)
 rw [bB] at this
 exact this
theorem aO5 {l:List GVar} (h:l.length ≤ 100000) (x:GVar):mF 32 l [x]=some (l ++ [x]):=aHj (by omega) (by omega)
theorem yI (p:GProgram) (hn:p.Nodes.length ≤ 300) (hF:p.Fns.length ≤ 1000) (i:Nat) (hi:i < p.Fns.length) (hp:p.Fns[i].Params.length ≤ 3):kK p i=some (gM p p.Fns[i])∧kF p i=some (gM p p.Fns[i]):=by
 have hw:IntKind.wrap .i64 ((p.Fns.length:Int) - 1)=(p.Fns.length:Int) - 1:=w64 (by omega) (by omega)
 have hin:inB (i:Int) 0 ((p.Fns.length:Int) - 1)=true:=inB_iff.2 (by omega)
 have hul:=aEh p.Nodes p.Fns[i].Body
 have hub:∀ e ∈ dA p.Nodes p.Fns[i].Body,0 ≤ e∧e < p.Nodes.length:=fun e he=>kD he
 constructor
 ·unfold kK
  simp only [cG,Option.bind_some,hw,hin,Bool.not_true,Bool.false_eq_true,if_false,aD hi]
  rw [sV (ρ:=Unit) p.Fns[i] (by omega) (fun x=>(⟨x.Name,x.Typ,-1⟩:GVar)) (fZ p.Fns[i]) (fun s k hk hs=>by
   simp only [fZ,aB hk,if_true,aD hk,Option.bind_some,aO5 (show s.length ≤ 100000 by omega),aK hk (show p.Fns[i].Params.length ≤ 1048576 by omega)]) (fun s=>by simp [fZ])]
  simp only [Option.bind_some,uM p (show p.Nodes.length ≤ 1048576 by omega)]
  rw [aEf p _ hub (by omega) (by omega) _ (by rw [List.length_map];omega) (fY p (dA p.Nodes p.Fns[i].Body)) (fun s k hk y hs hy=>by
   simp only [fY,aB hk,if_true,aD hk,hy,Option.bind_some,aO5 hs,aK hk (show (dA p.Nodes p.Fns[i].Body).length ≤ 1048576 by omega)]
   cases (y.Kind == 13)<;>simp) (fun s=>by simp [fY])]
  rfl
 ·unfold kF
  simp only [eV,Option.bind_some,hw,hin,Bool.not_true,Bool.false_eq_true,if_false,aD hi]
  rw [sV (ρ:=Unit) p.Fns[i] (by omega) (fun x=>(⟨x.Name,x.Typ,-1⟩:GVar)) (fO p.Fns[i]) (fun s k hk hs=>by
   simp only [fO,aB hk,if_true,aD hk,Option.bind_some,aO5 (show s.length ≤ 100000 by omega),aK hk (show p.Fns[i].Params.length ≤ 1048576 by omega)]) (fun s=>by simp [fO])]
  simp only [Option.bind_some,tL p (show p.Nodes.length ≤ 1048576 by omega)]
  rw [aEf p _ hub (by omega) (by omega) _ (by rw [List.length_map];omega) (fN p (dA p.Nodes p.Fns[i].Body)) (fun s k hk y hs hy=>by
   simp only [fN,aB hk,if_true,aD hk,hy,Option.bind_some,aO5 hs,aK hk (show (dA p.Nodes p.Fns[i].Body).length ≤ 1048576 by omega)]
   cases (y.Kind == 13)<;>simp) (fun s=>by simp [fN])]
  rfl
end Go.OM
namespace Go.OM
def pnB (f:GFn):List ByteArray:=f.Params.map fun x=>x.Name
def aFl (p:GProgram) (k:Int):List Int:=match p.Nodes[k.toNat]? with
 | some x=>x.Kids
 | none=>[]
noncomputable def oD (p:GProgram) (i:Nat):Bool:=match p.Fns[i]? with
 | none=>true
 | some f=>sK (gM p f) && (eX p i 10 f.Body (pnB f) && (if f.Ret ≥ 0 then eX p i 10 f.Ret (kZ p (aFl p f.Body) (pnB f)) else true))
noncomputable def lW (p:GProgram):Bool:=rY p && (List.range p.Fns.length).all (oD p)
structure FnFacts (p:GProgram) (f:GFn):Prop where
 par:f.Params.length ≤ 3
 b0:0 ≤ f.Body
 b1:f.Body < p.Nodes.length
 bk:∃ x,p.Nodes[f.Body.toNat]? = some x∧x.Kind=20
 r1:f.Ret < p.Nodes.length
 rv:0 ≤ f.Ret→∃ x,p.Nodes[f.Ret.toNat]? = some x∧qG x.Kind=true
theorem aE4 {p:GProgram} (h:rY p=true) {i:Nat} (hi:i < p.Fns.length):FnFacts p p.Fns[i]:=by
 have hg:nK p i=true:=by
  unfold rY at h
  simp only [Bool.and_eq_true] at h
  exact List.all_eq_true.1 h.2.2.2.1 i (List.mem_range.2 hi)
 rw [rU hi,Bool.and_eq_true] at hg
 have hf:=hg.1
 obtain ⟨_,_,_,hr⟩:=uQ hf
 unfold fnB at hf
 simp only [Bool.and_eq_true,Bool.not_eq_true',decide_eq_false_iff_not] at hf
 obtain ⟨_,h2,_,_,h5,h6⟩:=hf
 obtain ⟨b1,b2,b3⟩:=bodyB_iff.1 h5
 refine ⟨by omega,b1,b2,b3,hr,fun h0=>?_⟩
 unfold retB at h6
 split at h6
 ·simp only [beq_iff_eq] at h6;omega
 ·rw [Bool.and_eq_true] at h6
  have h7:=h6.2
  split at h7
  ·rename_i x hx;exact ⟨x,hx,h7⟩
  ·cases h7
theorem aLh (p:GProgram) (x:GNode) (hb:∀ kid ∈ x.Kids,0 ≤ kid∧kid < p.Nodes.length) (hl:x.Kids.length ≤ 12) (th:List ByteArray) (ht:th.length ≤ 1000):aG (bU p x) (th,0)=some (kZ p x.Kids th):=by
 have:=aU x.Kids (fun (s:List ByteArray) k=>(s,(k:Int))) (fun k s=>s.length ≤ th.length + k) (fun s kid=>.inl (nY p true kid s)) id (bU p x) (fun s k hk hI=>by
  left
  obtain ⟨b0,b1⟩:=hb _ (List.getElem_mem hk)
  have hlt:(x.Kids[k]).toNat < p.Nodes.length:=by omega
  refine ⟨_,rfl,?_,by have:=uA p true x.Kids[k] s;omega⟩
  simp only [bU,aB hk,if_true,aD hk,cW b0 b1,Option.bind_some,aMc (show s.length ≤ 100000 by omega),aK hk (show x.Kids.length ≤ 1048576 by omega)]
  unfold nY
  rw [if_pos rfl,List.getElem?_eq_getElem hlt]
  by_cases e:(p.Nodes[(x.Kids[k]).toNat]).Kind=13<;>simp [e]) (fun s _=>by simp [bU]) th (by simp)
 rw [bB] at this
 exact this
theorem nQ (p:GProgram) (hn:p.Nodes.length ≤ 1048576) (hF:p.Fns.length ≤ 1048576):gL p=some (lW p):=by
 unfold gL lW
 rw [wB p hn hF]
 simp only [Option.bind_some]
 cases hok:rY p with
 | false=>rfl
 | true =>
  obtain ⟨b1,b2,b3,b4,hu⟩:=kY hok
  simp only [Bool.not_true,Bool.false_eq_true,if_false,Bool.true_and]
  rw [oM p.Fns.length hF (oD p) false (cP p) (fun i hi=>by
   obtain ⟨f1,f2,f3,⟨x,hx,hxk⟩,f5,f6⟩:=aE4 hok hi
   have hdb:=(jA hu (show p.Fns[i].Body.toNat < p.Nodes.length by omega))
   have hvl:=tE p p.Fns[i] f1
   have hnd:lK p i=some (sK (gM p p.Fns[i])):=by
    unfold lK
    rw [(yI p (by omega) (by omega) i hi f1).1]
    simp only [Option.bind_some]
    rw [aCb (gM p p.Fns[i]) (by omega) false (fA (gM p p.Fns[i])) (fun k hk=>by
     simp only [fA,aB hk,if_true,aD hk,Option.bind_some,pQ _ _ (show (gM p p.Fns[i]).length ≤ 1048576 by omega)]
     cases (fD (gM p p.Fns[i]) (gM p p.Fns[i])[k].Name != (k:Int))<;>rfl) (by simp [fA])]
    cases sK (gM p p.Fns[i])<;>rfl
   have hpn:aG (bV p.Fns[i]) ([],0)=some (pnB p.Fns[i]):=sV (ρ:=Unit) p.Fns[i] (by omega) (fun x=>x.Name) (bV p.Fns[i]) (fun s k hk hs=>by
    simp only [bV,aB hk,if_true,aD hk,Option.bind_some,aMc (show s.length ≤ 100000 by omega),aK hk (show p.Fns[i].Params.length ≤ 1048576 by omega)]) (fun s=>by simp [bV])
   have hpl:(pnB p.Fns[i]).length ≤ 3:=by unfold pnB;rw [List.length_map];exact f1
   have hsb:rA p i p.Fns[i].Body (pnB p.Fns[i])=some (eX p i 10 p.Fns[i].Body (pnB p.Fns[i])):=nZ p hF hu i hi iR 10 _ _ f2 f3 hdb.2 (show 10 ≤ 1048576 by omega) (by omega)
   have hkb:∀ kid ∈ x.Kids,0 ≤ kid∧kid < (p.Nodes.length:Int):=fun kid hm=>by
    have:=fS hdb.1 hx kid hm
    omega
   have hkl:=eH hdb.1 hx
   have hka:aFl p p.Fns[i].Body=x.Kids:=by unfold aFl;rw [hx]
   have hgb:aJ p.Nodes p.Fns[i].Body=some x:=by
    obtain ⟨hlt,he⟩:=List.getElem?_eq_some_iff.1 hx
    rw [cW f2 f3,he]
   have hlets:=aLh p x hkb hkl (pnB p.Fns[i]) (by omega)
   have hll:=vR p x.Kids (pnB p.Fns[i])
   unfold oD
   simp only [cP,aB hi,if_true,aD hi,List.getElem?_eq_getElem hi,hnd,hpn,hsb,hgb,hlets,Option.bind_some,hka]
   cases sK (gM p p.Fns[i]) with
   | false=>rfl
   | true =>
    simp only [Bool.not_true,Bool.false_eq_true,if_false,Bool.true_and]
    cases eX p i 10 p.Fns[i].Body (pnB p.Fns[i]) with
    | false=>rfl
    | true =>
     simp only [Bool.not_true,Bool.false_eq_true,if_false,Bool.true_and,decide_eq_true_eq]
     by_cases hr:p.Fns[i].Ret ≥ 0
     ·have hdr:=(jA hu (show p.Fns[i].Ret.toNat < p.Nodes.length by omega))
      have hsr:rA p i p.Fns[i].Ret (kZ p x.Kids (pnB p.Fns[i]))=some (eX p i 10 p.Fns[i].Ret (kZ p x.Kids (pnB p.Fns[i]))):=nZ p hF hu i hi iR 10 _ _ hr f5 hdr.2 (show 10 ≤ 1048576 by omega) (by omega)
      simp only [if_pos hr,hsr,Option.bind_some]
      cases eX p i 10 p.Fns[i].Ret (kZ p x.Kids (pnB p.Fns[i]))<;>rfl
     ·simp only [if_neg hr,Option.bind_some]
      rfl) (by simp [cP])]
  cases (List.range p.Fns.length).all (oD p)<;>rfl
theorem nM (p:GProgram) (hn:p.Nodes.length ≤ 1048576) (hF:p.Fns.length ≤ 1048576):gG p=some (lW p):=by
 unfold gG lW
 rw [vG p hn hF]
 simp only [Option.bind_some]
 cases hok:rY p with
 | false=>rfl
 | true =>
  obtain ⟨b1,b2,b3,b4,hu⟩:=kY hok
  simp only [Bool.not_true,Bool.false_eq_true,if_false,Bool.true_and]
  rw [oM p.Fns.length hF (oD p) false (cO p) (fun i hi=>by
   obtain ⟨f1,f2,f3,⟨x,hx,hxk⟩,f5,f6⟩:=aE4 hok hi
   have hdb:=(jA hu (show p.Fns[i].Body.toNat < p.Nodes.length by omega))
   have hvl:=tE p p.Fns[i] f1
   have hnd:aG (bO (gM p p.Fns[i])) 0=some (if sK (gM p p.Fns[i])=true then .inl () else .inr (.inr (.inr (.inr false)))) :=
    aCb (gM p p.Fns[i]) (by omega) _ (bO (gM p p.Fns[i])) (fun k hk=>by
     simp only [bO,aB hk,if_true,aD hk,Option.bind_some,tK _ _ (show (gM p p.Fns[i]).length ≤ 1048576 by omega)]
     cases (fD (gM p p.Fns[i]) (gM p p.Fns[i])[k].Name != (k:Int))<;>rfl) (by simp [bO])
   have hpn:aG (bN p i) (0,(⟨p,i,[],false⟩:Gl07Seen))=some ⟨p,i,pnB p.Fns[i],false⟩:=by
    have:=aU p.Fns[i].Params (fun (s:List ByteArray) k=>((k:Int),(⟨p,i,s,false⟩:Gl07Seen))) (fun k s=>s.length ≤ k) (fun s x=>.inl (s ++ [x.Name])) (fun s=>(⟨p,i,s,false⟩:Gl07Seen)) (bN p i) (fun s k hk hI=>.inl ⟨_,rfl,by
     simp only [bN,aD hi,aB hk,if_true,aD hk,Option.bind_some,aMc (show s.length ≤ 100000 by omega),aK hk (show p.Fns[i].Params.length ≤ 1048576 by omega)],by simp only [List.length_append,List.length_cons,List.length_nil];omega⟩) (fun s _=>by simp [bN,aD hi]) [] (by simp)
    rw [bB,pS] at this
    simpa [pnB] using this
   have hpl:(pnB p.Fns[i]).length ≤ 3:=by unfold pnB;rw [List.length_map];exact f1
   have hsb:jI ⟨p,i,pnB p.Fns[i],false⟩ p.Fns[i].Body=some ⟨p,i,kZ p x.Kids (pnB p.Fns[i]),false || !(eX p i 10 p.Fns[i].Body (pnB p.Fns[i]))⟩:=(wP p hF hu i hi iR 10).1 _ x _ _ f2 hx hxk hdb.2 (show 10 ≤ 1048576 by omega) (by omega)
   have hkl:=eH hdb.1 hx
   have hka:aFl p p.Fns[i].Body=x.Kids:=by unfold aFl;rw [hx]
   have hll:=vR p x.Kids (pnB p.Fns[i])
   unfold oD
   simp only [cO,aB hi,if_true,(yI p (by omega) (by omega) i hi f1).2,hnd,Option.bind_some,List.getElem?_eq_getElem hi,hka]
   cases sK (gM p p.Fns[i]) with
   | false=>rfl
   | true =>
    simp only [if_true,hpn,Option.bind_some,aD hi,hsb,Bool.true_and,Bool.false_or]
    by_cases hr:p.Fns[i].Ret ≥ 0
    ·have hdr:=(jA hu (show p.Fns[i].Ret.toNat < p.Nodes.length by omega))
     obtain ⟨y,hy,hyv⟩:=f6 hr
     have hsr:∀ b,eF ⟨p,i,kZ p x.Kids (pnB p.Fns[i]),b⟩ p.Fns[i].Ret=some ⟨p,i,kZ p x.Kids (pnB p.Fns[i]),b || !(eX p i 10 p.Fns[i].Ret (kZ p x.Kids (pnB p.Fns[i])))⟩:=fun b=>mH p hF hu i hi iR 10 _ _ b hr f5 (fun z hz=>by rw [hy] at hz;injection hz with hz;rw [← hz];exact hyv) hdr.2 (show 10 ≤ 1048576 by omega) (by omega)
     simp only [decide_eq_true hr,if_true,hsr,Option.bind_some,if_pos hr]
     cases eX p i 10 p.Fns[i].Body (pnB p.Fns[i])<;>cases eX p i 10 p.Fns[i].Ret (kZ p x.Kids (pnB p.Fns[i]))<;>rfl
    ·simp only [decide_eq_false hr,Bool.false_eq_true,if_false,Option.bind_some,if_neg hr]
     cases eX p i 10 p.Fns[i].Body (pnB p.Fns[i])<;>rfl) (by simp [cO])]
  cases (List.range p.Fns.length).all (oD p)<;>rfl
end Go.OM
namespace Go.OM
theorem aEs (p:GProgram) (rc:Int→List ByteArray→Bool) (blk:Bool):∀ (l:List Int) (s:List ByteArray),lS p rc blk l s=true→∀ kid ∈ l,∃ s',rc kid s'=true
 | [],s,h,kid,hk=>by cases hk
 | k0 :: l,s,h,kid,hk=>by
  simp only [lS,Bool.and_eq_true] at h
  rcases List.mem_cons.1 hk with e | hk
  ·exact ⟨s,by rw [e];exact h.1⟩
  ·exact aEs p rc blk l _ h.2 kid hk
theorem aJc (p:GProgram) (fn:Int) (hu:okU p.Nodes p.Nodes.length=true) (k:Nat) (hk:k < p.Nodes.length) (D:Nat) (names:List ByteArray) (hd:nT p.Nodes k ≤ D) (hs:eX p fn D (k:Int) names=true) {e:Nat} (r:Reach (pN p.Nodes) k e) :
  e < p.Nodes.length∧∃ (D':Nat) (nm:List ByteArray),nT p.Nodes e ≤ D'∧eX p fn D' (e:Int) nm=true:=by
 induction r with
 | base=>exact ⟨hk,D,names,hd,hs⟩
 | step r hm ih =>
  rename_i i m
  obtain ⟨hi,D',nm,h1,h2⟩:=ih
  have hnb:=(jA hu hi).1
  have hx:p.Nodes[i]? = some p.Nodes[i]:=List.getElem?_eq_getElem hi
  rw [uG hi] at hm
  have hb:=fS hnb hx m hm
  have hdk:=uU hnb hx hm
  have hp:=gE p.Nodes m.toNat
  cases D' with
  | zero=>omega
  | succ D' =>
   simp only [eX,Int.toNat_natCast,hx,Bool.and_eq_true] at h2
   obtain ⟨s',hs'⟩:=aEs p _ _ _ _ h2.2 m hm
   refine ⟨by omega,D',s',by omega,?_⟩
   rw [show ((m.toNat:Nat):Int)=m by omega]
   exact hs'
end Go.OM
namespace Go.OM
theorem aOt {n:Int} (h:0 ≤ n) (h2:n < 256):IntKind.wrap .u8 n=n:=by
 simp [IntKind.wrap,IntKind.bits,IntKind.signed];omega
theorem aKv {x y:ByteArray} (h:x.size + y.size ≤ 9223372036854775807):aEd x y=some (x ++ y):=by unfold aEd;rw [if_pos h]
theorem ba_ext {x y:ByteArray} (h:x.data.toList=y.data.toList):x=y:=by
 cases x;cases y
 simp only [ByteArray.mk.injEq]
 exact Array.toList_inj.1 h
theorem aCc:∀ (k u:Nat),u < 10 ^ (k + 1)→Lib.nDigits u ≤ k + 1
 | 0,u,h=>by rw [Lib.nDigits_small (by simpa using h)];omega
 | k + 1,u,h=>by
  by_cases h10:u < 10
  ·rw [Lib.nDigits_small h10];omega
  ·rw [Lib.nDigits_big h10]
   have:=aCc k (u / 10) (by rw [Nat.pow_succ] at h;omega)
   omega
theorem uW {n:Nat} (h:n ≤ 9223372036854775807):(Lib.decDigits n).length ≤ 19:=by
 rw [Lib.decDigits_length]
 exact aCc 18 n (by omega)
def digs (m:Nat):List UInt8:=if m=0 then [] else Lib.decDigits m
theorem aM1 {m:Nat} (h:m ≠ 0):digs m=digs (m / 10) ++ [UInt8.ofNat (48 + m % 10)]:=by
 unfold digs
 rw [if_neg h]
 by_cases h10:m < 10
 ·rw [if_pos (by omega),Lib.decDigits_one h10,Nat.mod_eq_of_lt h10];rfl
 ·rw [if_neg (by omega)]
  conv=>lhs;rw [Lib.decDigits,dif_neg h10]
theorem aKb (n:Nat) (h:n ≤ 9223372036854775807):eG n=some ⟨(Lib.decDigits n).toArray⟩:=by
 unfold eG
 by_cases h0:n=0
 ·subst h0
  rw [Lib.decDigits_one (by omega)];rfl
 ·have hne:((n:Int) == 0)=false:=by simp;omega
  have hneg:decide ((n:Int) < 0)=false:=by simp
  obtain ⟨r,h1,h2⟩:=cL (f:=eW) (fun s:Int × ByteArray=>∃ m:Nat,s.1=m∧m ≤ n∧digs m ++ s.2.data.toList=Lib.decDigits n) (fun s=>s.1.toNat) (fun r=>r=⟨(Lib.decDigits n).toArray⟩) (by
   rintro ⟨i,s⟩ ⟨m,hi,hm,hs⟩
   simp only at hi hs
   subst hi
   by_cases hz:m=0
   ·right
    subst hz
    refine ⟨s,by simp [eW],?_⟩
    apply ba_ext
    rw [← hs];simp [digs]
   ·left
    have hb:((m:Int) != 0)=true:=by simp;omega
    have ht:Int.tmod (m:Int) 10=((m % 10:Nat):Int):=by rw [Int.tmod_eq_emod_of_nonneg (by omega)];omega
    have hd:Int.tdiv (m:Int) 10=((m / 10:Nat):Int):=by rw [Int.tdiv_eq_ediv_of_nonneg (by omega)];omega
    have hn0:decide (((m % 10:Nat):Int) < 0)=false:=by simp;omega
    have hlt:decide (((m % 10:Nat):Int) < 10)=true:=by simp;omega
    have hw:IntKind.wrap .u8 (IntKind.wrap .i64 (48 + ((m % 10:Nat):Int)))=((48 + m % 10:Nat):Int):=by
     rw [w64 (by omega) (by omega),aOt (by omega) (by omega)];omega
    have hsz:s.size ≤ 19:=by
     have e1:=congrArg List.length hs
     have e2:=uW h
     have e3:s.data.toList.length=s.size:=Array.length_toList
     simp only [List.length_append] at e1
     omega
    have hsz2:(hJ [((48 + m % 10:Nat):Int)]).size=1:=rfl
    refine ⟨(((m / 10:Nat):Int),hJ [((48 + m % 10:Nat):Int)] ++ s),?_,⟨m / 10,rfl,by omega,?_⟩,by simp only [Int.toNat_natCast];omega⟩
    ·simp only [eW,kN,hb,if_true,ht,hn0,Bool.false_eq_true,if_false,Option.bind_some,hlt,hw,hd]
     rw [aKv (by omega),w64 (by omega) (by omega)]
     rfl
    ·have hb2:(hJ [((48 + m % 10:Nat):Int)]).data.toList=[UInt8.ofNat (48 + m % 10)]:=by
      simp only [hJ,List.map_cons,List.map_nil,Int.toNat_natCast]
     rw [← hs,aM1 hz]
     simp only
     rw [ByteArray.data_append,Array.toList_append,hb2,List.append_assoc]) ((n:Int),⟨#[]⟩) ⟨n,rfl,Nat.le_refl _,by simp [digs,h0]⟩
  rw [hne]
  simp only [Bool.false_eq_true,if_false]
  rw [h1,h2]
  simp only [Option.bind_some,hneg,Bool.false_eq_true,if_false]
def decB (n:Nat):ByteArray:=⟨(Lib.decDigits n).toArray⟩
theorem aG3 {n:Nat} (h:n ≤ 1048576):(decB n).size ≤ 19:=by
 show (Lib.decDigits n).toArray.size ≤ 19
 rw [List.size_toArray]
 exact uW (by omega)
theorem xT {n:Nat} (h:n ≤ 1048576):eG (n:Int)=some (decB n):=aKb n (by omega)
theorem aIf {n:Nat} (h:n ≤ 1048576):jF (n:Int)=some (decB n):=by
 unfold jF strconv_Itoa
 rw [if_pos ⟨by omega,by omega⟩]
 simp only [Option.bind_some]
 unfold Lib.itoa decB
 rw [if_neg (by omega),Int.toNat_natCast]
def aFc (c:UInt8) (n:Nat):ByteArray:=⟨#[c]⟩ ++ decB n
theorem wI (c:UInt8) {n:Nat} (h:n ≤ 1048576):aEd (⟨#[c]⟩:ByteArray) (decB n)=some (aFc c n):=aKv (by
 have:=aG3 h
 have e:(ByteArray.mk #[c]).size=1:=rfl
 omega)
theorem uB (c:UInt8) {n:Nat} (h:n ≤ 1048576):(aFc c n).size ≤ 20:=by
 unfold aFc
 rw [ByteArray.size_append]
 have:=aG3 h
 have e:(ByteArray.mk #[c]).size=1:=rfl
 omega
end Go.OM
namespace Go.OM
def sW (c:UInt8) (k:Int) (nm:ByteArray):ByteArray:=if k < 0 then nm else aFc c k.toNat
def aF4 (k:Int):Bool:=qC k || k == 13
theorem aJp (k:Int):(fE k).bind (fun r=>if r=true then some (k != 12) else some false)=some (aF4 k):=by
 unfold fE aF4 qC
 simp only [cG,Option.bind_some]
 by_cases h1:inB k 2 6=true
 ·have:=inB_iff.1 h1
  simp only [h1,if_true,Option.bind_some,Bool.true_or]
  have:(k != 12)=true:=by simp;omega
  rw [this]
 ·have h1':inB k 2 6=false:=by simpa using h1
  simp only [h1',Bool.false_eq_true,if_false,Option.bind_some,Bool.false_or]
  by_cases h2:inB k 12 15=true
  ·have:=inB_iff.1 h2
   rw [h2,if_pos rfl]
   have:k=12 ∨ k=13 ∨ k=14 ∨ k=15:=by omega
   rcases this with rfl | rfl | rfl | rfl<;>rfl
  ·have hn:¬ (12 ≤ k∧k ≤ 15):=fun h=>h2 (inB_iff.2 h)
   have h2':inB k 12 15=false:=by simpa using h2
   rw [h2']
   have e1:(k == 14)=false:=by simp;omega
   have e2:(k == 15)=false:=by simp;omega
   have e3:(k == 13)=false:=by simp;omega
   simp [e1,e2,e3]
theorem aJo (k:Int):(iX k).bind (fun r=>if r=true then some true else some (k == 13))=some (aF4 k):=by
 have hu:iX k=some (qC k):=by
  unfold iX qC
  by_cases h:k=2 ∨ k=3 ∨ k=4 ∨ k=5 ∨ k=6 ∨ k=14 ∨ k=15
  ·rcases h with rfl | rfl | rfl | rfl | rfl | rfl | rfl<;>rfl
  ·have e2:(k == 2)=false:=by simp;omega
   have e3:(k == 3)=false:=by simp;omega
   have e4:(k == 4)=false:=by simp;omega
   have e5:(k == 5)=false:=by simp;omega
   have e6:(k == 6)=false:=by simp;omega
   have e14:(k == 14)=false:=by simp;omega
   have e15:(k == 15)=false:=by simp;omega
   have hi:inB k 2 6=false:=by
    cases hh:inB k 2 6 with
    | false=>rfl
    | true=>have:=inB_iff.1 hh;omega
   rw [e2,e3,e4,e5,e6,e14,e15,hi]
   rfl
 rw [hu]
 unfold aF4
 cases qC k<;>rfl
theorem uY (l:List GVar) (nm:ByteArray) : -1 ≤ fD l nm∧fD l nm < l.length:=by
 unfold fD
 cases h:(List.range l.length).findSome? fun k=>match l[k]? with
  | some v=>if sEq v.Name nm=true then some (k:Int) else none
  | none=>none with
 | none=>simp only [Option.getD_none];omega
 | some z =>
  simp only [Option.getD_some]
  obtain ⟨k,hk,hz⟩:=List.exists_of_findSome?_eq_some h
  have:=List.mem_range.1 hk
  split at hz
  ·split at hz
   ·injection hz with hz;omega
   ·cases hz
  ·cases hz
theorem aI1 (vars:List GVar) (hv:vars.length ≤ 1000) (nm:ByteArray):bG nm vars=some (sW 118 (fD vars nm) nm):=by
 unfold bG sW
 rw [pQ vars nm (by omega)]
 simp only [Option.bind_some]
 have hb:=uY vars nm
 by_cases h:fD vars nm < 0
 ·simp [h]
 ·rw [if_neg h]
  obtain ⟨n,hn⟩:=Int.eq_ofNat_of_zero_le (show 0 ≤ fD vars nm by omega)
  rw [hn] at hb ⊢
  have hd:decide (((n:Nat):Int) < 0)=false:=by simp
  simp only [hd,Bool.false_eq_true,if_false,aIf (show n ≤ 1048576 by omega),Option.bind_some,wI 118 (show n ≤ 1048576 by omega),Int.toNat_natCast]
def kA (vars:List GVar) (ns:List GNode) (e:Int):List GNode:=match ns[e.toNat]? with
 | some x=>if aF4 x.Kind=true then ns.set e.toNat ⟨x.Kind,x.Num,sW 118 (fD vars x.Name) x.Name,x.Kids⟩ else ns
 | none=>ns
theorem tH (vars:List GVar) (ns:List GNode) (e:Int):(kA vars ns e).length=ns.length:=by
 unfold kA
 split
 ·split<;>simp
 ·rfl
theorem rH (vars:List GVar):∀ (r:List Int) (ns:List GNode),(r.foldl (kA vars) ns).length=ns.length
 | [],ns=>rfl
 | e :: r,ns=>by rw [List.foldl_cons,rH vars r,tH]
theorem aD9 {α:Type} {l:List α} {i:Nat} {x:α} (h:l[i]? = some x):l.set i x=l:=by
 obtain ⟨hlt,rfl⟩:=List.getElem?_eq_some_iff.1 h
 exact List.set_getElem_self hlt
theorem aAa (vars:List GVar) (hv:vars.length ≤ 1000) (Fs:List GFn) (n:Nat) (r:List Int) (hr:∀ e ∈ r,0 ≤ e∧e < n) (hrl:r.length ≤ 1048576) (ns:List GNode) (hn:ns.length=n) :
  aG (cN (fun a0=>bG a0 vars) r) (0,⟨ns,Fs⟩)=some ⟨r.foldl (kA vars) ns,Fs⟩:=by
 have:=aU r (fun (s:List GNode) k=>((k:Int),(⟨s,Fs⟩:GProgram))) (fun k s=>s.length=n) (fun s e=>.inl (kA vars s e)) (fun s=>(⟨s,Fs⟩:GProgram)) (cN (fun a0=>bG a0 vars) r) (fun s k hk hI=>by
  left
  obtain ⟨b0,b1⟩:=hr _ (List.getElem_mem hk)
  have hlt:(r[k]).toNat < s.length:=by omega
  refine ⟨_,rfl,?_,by rw [tH];exact hI⟩
  simp only [cN,aB hk,if_true,aD hk,cW b0 (show r[k] < s.length by omega),Option.bind_some,aK hk hrl]
  have h1:=aJp (s[(r[k]).toNat]).Kind
  rw [h1]
  unfold kA
  rw [List.getElem?_eq_getElem hlt]
  simp only [Option.bind_some]
  cases aF4 (s[(r[k]).toNat]).Kind with
  | false=>rfl
  | true=>simp only [if_true,aI1 vars hv,Option.bind_some,bD]) (fun s _=>by simp [cN]) ns hn
 rw [bB] at this
 exact this
theorem yR (vars:List GVar) (hv:vars.length ≤ 1000) (Fs:List GFn) (n:Nat) (r:List Int) (hr:∀ e ∈ r,0 ≤ e∧e < n) (hrl:r.length ≤ 1048576) (ns:List GNode) (hn:ns.length=n) :
  aG (cK vars r) (0,⟨ns,Fs⟩)=some ⟨r.foldl (kA vars) ns,Fs⟩:=by
 have:=aU r (fun (s:List GNode) k=>((k:Int),(⟨s,Fs⟩:GProgram))) (fun k s=>s.length=n) (fun s e=>.inl (kA vars s e)) (fun s=>(⟨s,Fs⟩:GProgram)) (cK vars r) (fun s k hk hI=>by
  left
  obtain ⟨b0,b1⟩:=hr _ (List.getElem_mem hk)
  have hlt:(r[k]).toNat < s.length:=by omega
  refine ⟨_,rfl,?_,by rw [tH];exact hI⟩
  simp only [cK,aB hk,if_true,aD hk,cW b0 (show r[k] < s.length by omega),Option.bind_some,aK hk hrl]
  have h1:=aJo (s[(r[k]).toNat]).Kind
  rw [h1]
  unfold kA
  have hg:s[(r[k]).toNat]? = some s[(r[k]).toNat]:=List.getElem?_eq_getElem hlt
  rw [hg]
  simp only [Option.bind_some]
  cases aF4 (s[(r[k]).toNat]).Kind with
  | false=>rfl
  | true =>
   simp only [if_true,tK _ _ (show vars.length ≤ 1048576 by omega),Option.bind_some]
   have hb:=uY vars (s[(r[k]).toNat]).Name
   unfold sW
   by_cases h:fD vars (s[(r[k]).toNat]).Name < 0
   ·have hd:decide (fD vars (s[(r[k]).toNat]).Name ≥ 0)=false:=by simp;omega
    simp only [hd,Bool.false_eq_true,if_false,if_pos h]
    rw [show (⟨(s[(r[k]).toNat]).Kind,(s[(r[k]).toNat]).Num,(s[(r[k]).toNat]).Name,(s[(r[k]).toNat]).Kids⟩:GNode)=s[(r[k]).toNat] from rfl,aD9 hg]
   ·have hd:decide (fD vars (s[(r[k]).toNat]).Name ≥ 0)=true:=by simp;omega
    rw [if_neg h]
    obtain ⟨m,hm⟩:=Int.eq_ofNat_of_zero_le (show 0 ≤ fD vars (s[(r[k]).toNat]).Name by omega)
    rw [hm] at hb ⊢
    have hd:decide (((m:Nat):Int) ≥ 0)=true:=by simp
    simp only [hd,if_true,xT (show m ≤ 1048576 by omega),Option.bind_some,wI 118 (show m ≤ 1048576 by omega),Int.toNat_natCast,bD]) (fun s _=>by simp [cK]) ns hn
 rw [bB] at this
 exact this
end Go.OM
namespace Go.OM
theorem yJ {l:List GVar} {nm:ByteArray} {j:Nat} (hj:j < l.length) (he:sEq l[j].Name nm=true) (hno:∀ (i:Nat) (hi:i < j),sEq (l[i]'(by omega)).Name nm=false):fD l nm=j:=by
 unfold fD
 have key:∀ (g:Nat→Option Int),(∀ i,i < j→g i=none)→g j=some (j:Int)→((List.range l.length).findSome? g).getD (-1)=j:=by
  intro g h1 h2
  have:(List.range l.length).findSome? g=some (j:Int):=by
   rw [List.findSome?_eq_some_iff]
   refine ⟨List.range j,j,(List.range (l.length - j - 1)).map (fun i=>j + 1 + i),?_,h2,fun k hk=>h1 k (List.mem_range.1 hk)⟩
   have e:l.length=(j + 1) + (l.length - j - 1):=by omega
   rw [e,List.range_add,List.range_succ]
   simp only [List.append_assoc,List.cons_append,List.nil_append]
   congr 4
   omega
  rw [this]
  rfl
 exact key _ (fun i hi=>by simp [List.getElem?_eq_getElem (show i < l.length by omega),hno i hi]) (by simp [List.getElem?_eq_getElem hj,he])
theorem aMi {l:List GVar} {nm:ByteArray} {j:Nat} (h:fD l nm=j) {i:Nat} (hi:i < j) (hl:i < l.length):sEq l[i].Name nm=false:=by
 cases he:sEq l[i].Name nm with
 | false=>rfl
 | true =>
  exfalso
  -- the first that is alike stands no later than i
  have key:∀ (n:Nat) (hn:n < l.length),sEq l[n].Name nm=true→fD l nm ≤ n:=by
   intro n
   induction n using Nat.strongRecOn with
   | _ n ih =>
    intro hn hen
    by_cases hex:∃ m,∃ hm:m < n,sEq (l[m]'(by omega)).Name nm=true
    ·obtain ⟨m,hm,hme⟩:=hex
     have:=ih m hm (by omega) hme
     omega
    ·have:=yJ hn hen (fun i hi=>by
      cases hc:sEq (l[i]'(by omega)).Name nm with
      | false=>rfl
      | true=>exact (hex ⟨i,hi,hc⟩).elim)
     omega
  have:=key i hl he
  omega
theorem aN5 (x:ByteArray):sEq x x=true:=by unfold sEq;simp
def PD (l:List GParam):Prop:=∀ (i j:Nat) (hi:i < j) (hj:j < l.length),sEq (l[i]'(by omega)).Name l[j].Name=false
theorem aFv (p:GProgram):∀ (l:List Int) (s:List GVar),∃ t,l.foldl (yO p) s=s ++ t
 | [],s=>⟨[],by simp⟩
 | e :: l,s=>by
  have h1:∃ t,yO p s e=s ++ t:=by
   unfold yO
   split
   ·split
    ·exact ⟨_,rfl⟩
    ·exact ⟨[],by simp⟩
   ·exact ⟨[],by simp⟩
  obtain ⟨t,ht⟩:=h1
  obtain ⟨u,hu⟩:=aFv p l (s ++ t)
  exact ⟨t ++ u,by rw [List.foldl_cons,ht,hu,List.append_assoc]⟩
theorem tF (p:GProgram) (f:GFn) {i:Nat} (hi:i < f.Params.length):∃ h:i < (gM p f).length,(gM p f)[i].Name=f.Params[i].Name:=by
 unfold gM
 obtain ⟨t,ht⟩:=aFv p (dA p.Nodes f.Body) (f.Params.map fun x=>(⟨x.Name,x.Typ,-1⟩:GVar))
 simp only [ht]
 refine ⟨by simp only [List.length_append,List.length_map];omega,?_⟩
 rw [List.getElem_append_left (by rw [List.length_map];exact hi)]
 simp
theorem aGf (p:GProgram) (f:GFn) (hpd:PD f.Params) {i:Nat} (hi:i < f.Params.length):fD (gM p f) f.Params[i].Name=i:=by
 obtain ⟨h1,h2⟩:=tF p f hi
 refine yJ h1 (by rw [h2];exact aN5 _) fun j hj=>?_
 obtain ⟨h3,h4⟩:=tF p f (show j < f.Params.length by omega)
 rw [h4]
 exact hpd j i hj hi
theorem pd_of (p:GProgram) (f:GFn) (h:sK (gM p f)=true):PD f.Params:=by
 intro i j hij hj
 obtain ⟨h1,h2⟩:=tF p f hj
 obtain ⟨h3,h4⟩:=tF p f (show i < f.Params.length by omega)
 unfold sK at h
 have:=List.all_eq_true.1 h j (List.mem_range.2 h1)
 rw [List.getElem?_eq_getElem h1] at this
 simp only [beq_iff_eq] at this
 have:=aMi this hij h3
 rw [h2,h4] at this
 exact this
def xC (l:List GParam) (k:Nat):List GParam:=(List.range k).map fun i=>(⟨aFc 118 i,match l[i]? with | some x=>x.Typ | none=>0⟩:GParam)
theorem xX (l:List GParam) (k:Nat):(xC l k).length=k:=by simp [xC]
theorem aF0 {l:List GParam} {k:Nat} (h:k < l.length):xC l (k + 1)=xC l k ++ [⟨aFc 118 k,l[k].Typ⟩]:=by
 unfold xC
 rw [List.range_succ,List.map_append]
 simp [List.getElem?_eq_getElem h]
def wV (f:GFn) (ps:List GParam):GFn:=⟨f.Name,ps,f.Res,f.Body,f.Ret⟩
theorem aDa {α:Type} {a b:List α} {k:Nat} {y:α} (ha:a.length=k) (hb:k < b.length):(a ++ b.drop k).set k y=a ++ [y] ++ b.drop (k + 1):=by
 rw [List.set_append_right _ _ (by omega),ha,Nat.sub_self,List.append_assoc]
 congr 1
 rw [List.drop_eq_getElem_cons hb]
 rfl
theorem aE1 {α:Type} {a b:List α} {k:Nat} (ha:a.length=k) (hb:k < b.length):∃ h:k < (a ++ b.drop k).length,(a ++ b.drop k)[k]=b[k]:=by
 refine ⟨by simp only [List.length_append,List.length_drop];omega,?_⟩
 rw [List.getElem_append_right (by omega)]
 simp [ha]
theorem xL (vars:List GVar) (hv:vars.length ≤ 1000) (ns:List GNode) (Fs:List GFn) (fn:Nat) (hfn:fn < Fs.length) (hpl:Fs[fn].Params.length ≤ 1000)
  (hva:∀ (i:Nat) (hi:i < Fs[fn].Params.length),fD vars Fs[fn].Params[i].Name=i) :
  aG (dR fn (fun a0=>bG a0 vars) Fs[fn]) (0,⟨ns,Fs⟩)=some ⟨ns,Fs.set fn (wV Fs[fn] (xC Fs[fn].Params Fs[fn].Params.length))⟩:=by
 have:=aU Fs[fn].Params (fun (s:Unit) k=>((k:Int),(⟨ns,Fs.set fn (wV Fs[fn] (xC Fs[fn].Params k ++ Fs[fn].Params.drop k))⟩:GProgram))) (fun k s=>True) (fun s e=>.inl ()) (fun s=>(⟨ns,Fs.set fn (wV Fs[fn] (xC Fs[fn].Params Fs[fn].Params.length ++ Fs[fn].Params.drop Fs[fn].Params.length))⟩:GProgram)) (dR fn (fun a0=>bG a0 vars) Fs[fn]) (fun s k hk hI=>by
  left
  refine ⟨(),rfl,?_,trivial⟩
  have hl:fn < (Fs.set fn (wV Fs[fn] (xC Fs[fn].Params k ++ Fs[fn].Params.drop k))).length:=by rw [List.length_set];exact hfn
  obtain ⟨g1,g2⟩:=aE1 (a:=xC Fs[fn].Params k) (b:=Fs[fn].Params) (xX _ k) hk
  have hgi:aJ (xC Fs[fn].Params k ++ Fs[fn].Params.drop k) (k:Int)=some Fs[fn].Params[k]:=by rw [aD g1,g2]
  have hne:sW 118 (k:Int) Fs[fn].Params[k].Name=aFc 118 k:=by unfold sW;rw [if_neg (by omega),Int.toNat_natCast]
  have hgf:aJ (Fs.set fn (wV Fs[fn] (xC Fs[fn].Params k ++ Fs[fn].Params.drop k))) (fn:Int)=some (wV Fs[fn] (xC Fs[fn].Params k ++ Fs[fn].Params.drop k)):=by rw [aD hl,List.getElem_set_self]
  have hwp:∀ ps,(wV Fs[fn] ps).Params=ps:=fun _=>rfl
  simp only [dR,aB hk,if_true,hgf,hwp,hgi,Option.bind_some,aI1 vars hv,hva k hk,hne,bD,Int.toNat_natCast,List.set_set,aDa (xX Fs[fn].Params k) hk,← aF0 hk,aK hk (show Fs[fn].Params.length ≤ 1048576 by omega)]
  rfl) (fun s _=>by simp [dR]) () trivial
 rw [bB] at this
 have h0:Fs.set fn (wV Fs[fn] (xC Fs[fn].Params 0 ++ Fs[fn].Params.drop 0))=Fs:=by
  have:wV Fs[fn] (xC Fs[fn].Params 0 ++ Fs[fn].Params.drop 0)=Fs[fn]:=by simp [wV,xC]
  rw [this,List.set_getElem_self]
 simp only [h0,List.drop_length,List.append_nil] at this
 exact this
theorem wX (ns:List GNode) (Fs:List GFn) (fn:Nat) (hfn:fn < Fs.length) (hpl:Fs[fn].Params.length ≤ 1000) :
  aG (dM fn ⟨ns,Fs⟩) ([],0)=some (xC Fs[fn].Params Fs[fn].Params.length):=by
 have:=aU Fs[fn].Params (fun (s:Unit) k=>(xC Fs[fn].Params k,(k:Int))) (fun k s=>True) (fun s e=>.inl ()) (fun s=>xC Fs[fn].Params Fs[fn].Params.length) (dM fn ⟨ns,Fs⟩) (fun s k hk hI=>by
  left
  refine ⟨(),rfl,?_,trivial⟩
  have hk1:k ≤ 1048576:=by omega
  simp only [dM,aD hfn,Option.bind_some,aB hk,if_true,aD hk,xT hk1,wI 118 hk1,aHj (show (xC Fs[fn].Params k).length ≤ 1048576 by rw [xX];omega) (show 24 ≤ 64 by omega),← aF0 hk,aK hk (show Fs[fn].Params.length ≤ 1048576 by omega)]) (fun s _=>by simp [dM,aD hfn]) () trivial
 rw [bB] at this
 exact this
noncomputable def zO (p:GProgram) (fn:Nat):GProgram:=match p.Fns[fn]? with
 | some f=>⟨(nN p fn).foldl (kA (gM p f)) p.Nodes,p.Fns.set fn (wV f (xC f.Params f.Params.length))⟩
 | none=>p
theorem aJk (p:GProgram) (h:GProgram.le 1048576 p) (hn:p.Nodes.length ≤ 300) (hF:p.Fns.length ≤ 1000) (fn:Nat) (hfn:fn < p.Fns.length) (hp:p.Fns[fn].Params.length ≤ 3) (hpd:PD p.Fns[fn].Params) :
  gX p fn=some (zO p fn)∧iW p fn=some (zO p fn):=by
 obtain ⟨v1,v2⟩:=yI p hn hF fn hfn hp
 have hvl:=tE p p.Fns[fn] hp
 have hnl:(nN p fn).length ≤ 1048576:=by have:=aN4 p.Nodes.length (fun j=>∃ r ∈ kX p fn,(j:Int) ∈ dA p.Nodes r);unfold nN;omega
 have hnb:∀ e ∈ nN p fn,0 ≤ e∧e < (p.Nodes.length:Int):=fun e he=>aJj he
 have hva:=fun (i:Nat) (hi:i < p.Fns[fn].Params.length)=>aGf p p.Fns[fn] hpd hi
 unfold zO
 rw [List.getElem?_eq_getElem hfn]
 constructor
 ·unfold gX nP
  rw [v1]
  simp only [Option.bind_some,(iO p h).1,aAi p (by omega) (by omega)]
  rw [show aG (cN (fun a0=>bG a0 (gM p p.Fns[fn])) (nN p fn)) (0,p)=_ from aAa (gM p p.Fns[fn]) (by omega) p.Fns p.Nodes.length (nN p fn) hnb hnl p.Nodes rfl]
  simp only [Option.bind_some,aD hfn]
  rw [xL (gM p p.Fns[fn]) (by omega) _ p.Fns fn hfn (by omega) hva]
  rfl
 ·unfold iW
  rw [v2]
  simp only [Option.bind_some,aB0 p (show p.Nodes.length ≤ 1048576 by omega) (show p.Fns.length ≤ 1048576 by omega)]
  rw [show aG (cK (gM p p.Fns[fn]) (nN p fn)) (0,p)=_ from yR (gM p p.Fns[fn]) (by omega) p.Fns p.Nodes.length (nN p fn) hnb hnl p.Nodes rfl]
  simp only [Option.bind_some]
  rw [wX _ p.Fns fn hfn (by omega)]
  simp only [Option.bind_some,aD hfn,bD,Int.toNat_natCast]
  rfl
end Go.OM
namespace Go.OM
theorem aJm {c:UInt8} {k:Int} {nm:ByteArray} (hk:k ≤ 1048576) (h:nm.size ≤ 1048576):(sW c k nm).size ≤ 1048576:=by
 unfold sW
 split
 ·exact h
 ·have:=uB c (n:=k.toNat) (by omega)
  omega
theorem aMl (vars:List GVar) (hv:vars.length ≤ 1000) (ns:List GNode) (h:NL ns) (e:Int):NL (kA vars ns e):=by
 unfold kA
 split
 ·rename_i x hx
  split
  ·intro y hy
   rcases List.mem_or_eq_of_mem_set hy with hy | rfl
   ·exact h y hy
   ·have hx2:=h x (List.mem_of_getElem? hx)
    have hb:=uY vars x.Name
    exact ⟨aJm (by omega) hx2.1,hx2.2⟩
  ·exact h
 ·exact h
theorem aIl (vars:List GVar) (hv:vars.length ≤ 1000):∀ (r:List Int) (ns:List GNode),NL ns→NL (r.foldl (kA vars) ns)
 | [],ns,h=>h
 | e :: r,ns,h=>by rw [List.foldl_cons];exact aIl vars hv r _ (aMl vars hv ns h e)
theorem aNi (p:GProgram) (h:GProgram.le 1048576 p) (hn:p.Nodes.length ≤ 300) (fn:Nat) (hfn:fn < p.Fns.length) (hp:p.Fns[fn].Params.length ≤ 3):GProgram.le 1048576 (zO p fn):=by
 obtain ⟨⟨h1,h2⟩,h3,h4⟩:=h
 have hvl:=tE p p.Fns[fn] hp
 unfold zO
 rw [List.getElem?_eq_getElem hfn]
 refine ⟨⟨by simp only [rH];exact h1,aIl _ (by omega) _ _ h2⟩,by simp only [List.length_set];exact h3,fun f hf=>?_⟩
 simp only at hf
 rcases List.mem_or_eq_of_mem_set hf with hf | rfl
 ·exact h4 f hf
 ·refine ⟨(h4 _ (List.getElem_mem hfn)).1,by show (xC _ _).length ≤ _;rw [xX];omega,fun x hx=>?_⟩
  change x ∈ xC _ _ at hx
  unfold xC at hx
  obtain ⟨i,hi,rfl⟩:=List.mem_map.1 hx
  have:=List.mem_range.1 hi
  have:=uB 118 (n:=i) (by omega)
  show (aFc 118 i).size ≤ _
  omega
theorem aNk {p:GProgram} (h:lW p=true) {i:Nat} (hi:i < p.Fns.length):PD p.Fns[i].Params:=by
 unfold lW at h
 rw [Bool.and_eq_true] at h
 have hf:=List.all_eq_true.1 h.2 i (List.mem_range.2 hi)
 unfold oD at hf
 rw [List.getElem?_eq_getElem hi] at hf
 simp only [Bool.and_eq_true] at hf
 exact pd_of p _ hf.1
theorem kJ {p:GProgram} (h:lW p=true):rY p=true:=by
 unfold lW at h
 rw [Bool.and_eq_true] at h
 exact h.1
end Go.OM
namespace Go.OM
def rootOf (f:GFn) (r:Int):Prop:=r=f.Body ∨ (r=f.Ret∧0 ≤ f.Ret)
theorem cover (p:GProgram) (h:rY p=true):∀ (d k:Nat),k < p.Nodes.length→p.Nodes.length - k ≤ d→∃ (fn:Nat) (hfn:fn < p.Fns.length) (r:Int),rootOf p.Fns[fn] r∧0 ≤ r∧r < p.Nodes.length∧Reach (pN p.Nodes) r.toNat k:=by
 obtain ⟨b1,b2,b3,b4,hu⟩:=kY h
 intro d
 induction d with
 | zero=>intro k hk hd;omega
 | succ d ih =>
  intro k hk hd
  have h2:=h
  unfold rY at h2
  simp only [Bool.and_eq_true] at h2
  have hused:=List.all_eq_true.1 h2.2.2.2.2 k (List.mem_range.2 hk)
  by_cases hc:(kB p).count (k:Int)=0
  ·rw [hc] at hused
   have hkc:0 < kc p.Nodes k:=by
    unfold yK at hused
    simp only [Bool.or_eq_true,beq_iff_eq] at hused
    omega
   unfold kc at hkc
   have hm:(k:Int) ∈ aFm p.Nodes:=List.count_pos_iff.1 hkc
   unfold aFm at hm
   obtain ⟨x,hx,hkx⟩:=List.mem_flatMap.1 hm
   obtain ⟨m,hml,rfl⟩:=List.mem_iff_getElem.1 hx
   have hb:=fS (jA hu hml).1 (List.getElem?_eq_getElem hml) _ hkx
   obtain ⟨fn,hfn,r,hr,r0,r1,hre⟩:=ih m hml (by omega)
   refine ⟨fn,hfn,r,hr,r0,r1,?_⟩
   have:=Reach.step hre (m:=(k:Int)) (by rw [uG hml];exact hkx)
   simpa using this
  ·have hm:(k:Int) ∈ kB p:=List.count_pos_iff.1 (by omega)
   unfold kB at hm
   obtain ⟨f,hf,hkf⟩:=List.mem_flatMap.1 hm
   obtain ⟨fn,hfn,rfl⟩:=List.mem_iff_getElem.1 hf
   refine ⟨fn,hfn,(k:Int),?_,by omega,by omega,by rw [Int.toNat_natCast];exact Reach.base⟩
   unfold kW at hkf
   split at hkf
   ·simp only [List.mem_singleton] at hkf;exact .inl hkf
   ·simp only [List.mem_cons,List.not_mem_nil,or_false] at hkf
    rcases hkf with e | e
    ·exact .inl e
    ·exact .inr ⟨e,by omega⟩
theorem aIu (p:GProgram) (h:lW p=true) {k:Nat} {x:GNode} (hx:p.Nodes[k]? = some x) (h12:x.Kind=12):0 ≤ fI p x.Name:=by
 have hpr:=kJ h
 obtain ⟨b1,b2,b3,b4,hu⟩:=kY hpr
 obtain ⟨hk,hxe⟩:=List.getElem?_eq_some_iff.1 hx
 obtain ⟨fn,hfn,r,hr,r0,r1,hre⟩:=cover p hpr _ k hk (Nat.le_refl _)
 have hf:oD p fn=true:=by
  unfold lW at h
  rw [Bool.and_eq_true] at h
  exact List.all_eq_true.1 h.2 fn (List.mem_range.2 hfn)
 unfold oD at hf
 rw [List.getElem?_eq_getElem hfn] at hf
 simp only [Bool.and_eq_true] at hf
 obtain ⟨_,hsb,hsr⟩:=hf
 have hs:∃ nm,eX p fn 10 r nm=true:=by
  rcases hr with rfl | ⟨rfl,h0⟩
  ·exact ⟨_,hsb⟩
  ·rw [if_pos h0] at hsr;exact ⟨_,hsr⟩
 obtain ⟨nm0,hs⟩:=hs
 have hd:=(jA hu (show r.toNat < p.Nodes.length by omega)).2
 rw [show r=((r.toNat:Nat):Int) by omega] at hs
 obtain ⟨g1,D',nm,g2,g3⟩:=aJc p fn hu r.toNat (by omega) 10 nm0 hd hs hre
 have hp:=gE p.Nodes k
 cases D' with
 | zero=>omega
 | succ D' =>
  simp only [eX,Int.toNat_natCast,hx,Bool.and_eq_true] at g3
  have hh:=g3.1
  unfold aBu at hh
  rw [Bool.and_eq_true] at hh
  have hc:=hh.2
  have e12:(x.Kind == 12)=true:=by simpa using h12
  rw [e12] at hc
  simp only [Bool.not_true,Bool.false_or] at hc
  unfold aCn at hc
  rw [Bool.and_eq_true] at hc
  exact (inB_iff.1 hc.1).1
end Go.OM
namespace Go.OM
noncomputable def aT (p:GProgram):Nat→GProgram
 | 0=>p
 | k + 1=>zO (aT p k) k
structure NInv (p q:GProgram) (k:Nat):Prop where
 le:GProgram.le 1048576 q
 nl:q.Nodes.length=p.Nodes.length
 fl:q.Fns.length=p.Fns.length
 same:∀ j,k ≤ j→q.Fns[j]? = p.Fns[j]?
 nm:∀ j (h:j < q.Fns.length) (h2:j < p.Fns.length),q.Fns[j].Name=p.Fns[j].Name
 nd:∀ j (h:j < q.Nodes.length) (h2:j < p.Nodes.length),q.Nodes[j].Kind=p.Nodes[j].Kind∧(p.Nodes[j].Kind=12→q.Nodes[j].Name=p.Nodes[j].Name)
theorem aMk (vars:List GVar) (ns:List GNode) (e:Int) (j:Nat) (h:j < ns.length) (h2:j < (kA vars ns e).length):(kA vars ns e)[j].Kind=ns[j].Kind∧(ns[j].Kind=12→(kA vars ns e)[j].Name=ns[j].Name):=by
 have hcase:kA vars ns e=ns ∨ ∃ x:GNode,ns[e.toNat]? = some x∧aF4 x.Kind=true∧kA vars ns e=ns.set e.toNat ⟨x.Kind,x.Num,sW 118 (fD vars x.Name) x.Name,x.Kids⟩:=by
  unfold kA
  split
  ·rename_i x hx
   split
   ·rename_i hk;exact .inr ⟨x,hx,hk,rfl⟩
   ·exact .inl rfl
  ·exact .inl rfl
 generalize kA vars ns e=m at h2 hcase ⊢
 rcases hcase with rfl | ⟨x,hx,hk,rfl⟩
 ·exact ⟨rfl,fun _=>rfl⟩
 ·obtain ⟨hl,rfl⟩:=List.getElem?_eq_some_iff.1 hx
  by_cases he:e.toNat=j
  ·subst he
   refine ⟨by simp,fun h12=>?_⟩
   rw [h12] at hk
   cases hk
  ·exact ⟨by simp [List.getElem_set_ne he],fun _=>by simp [List.getElem_set_ne he]⟩
theorem aIk (vars:List GVar):∀ (r:List Int) (ns:List GNode) (j:Nat) (h:j < ns.length) (h2:j < (r.foldl (kA vars) ns).length),(r.foldl (kA vars) ns)[j].Kind=ns[j].Kind∧(ns[j].Kind=12→(r.foldl (kA vars) ns)[j].Name=ns[j].Name)
 | [],ns,j,h,h2=>⟨rfl,fun _=>rfl⟩
 | e :: r,ns,j,h,h2=>by
  have h3:j < (kA vars ns e).length:=by rw [tH];exact h
  obtain ⟨a1,a2⟩:=aMk vars ns e j h h3
  have h4:j < (r.foldl (kA vars) (kA vars ns e)).length:=by rw [rH];exact h3
  obtain ⟨b1,b2⟩:=aIk vars r (kA vars ns e) j h3 h4
  simp only [List.foldl_cons]
  exact ⟨b1.trans a1,fun h12=>(b2 (by rw [a1];exact h12)).trans (a2 h12)⟩
theorem zN (p q:GProgram) (h:lW p=true) {k:Nat} (hk:k < p.Fns.length) (H:NInv p q k):NInv p (zO q k) (k + 1)∧gX q k=some (zO q k)∧iW q k=some (zO q k):=by
 obtain ⟨b1,b2,b3,b4,hu⟩:=kY (kJ h)
 have hkq:k < q.Fns.length:=by rw [H.fl];exact hk
 have he:q.Fns[k]=p.Fns[k]:=by
  have:=H.same k (Nat.le_refl _)
  rw [List.getElem?_eq_getElem hkq,List.getElem?_eq_getElem hk] at this
  injection this
 obtain ⟨f1,f2,f3,f4,f5,f6⟩:=aE4 (kJ h) hk
 have hp:q.Fns[k].Params.length ≤ 3:=by rw [he];exact f1
 have hpd:PD q.Fns[k].Params:=by rw [he];exact aNk h hk
 obtain ⟨e1,e2⟩:=aJk q H.le (by rw [H.nl];omega) (by rw [H.fl];omega) k hkq hp hpd
 refine ⟨?_,e1,e2⟩
 have hle:=aNi q H.le (by rw [H.nl];omega) k hkq hp
 have hv:zO q k=⟨(nN q k).foldl (kA (gM q q.Fns[k])) q.Nodes,q.Fns.set k (wV q.Fns[k] (xC q.Fns[k].Params q.Fns[k].Params.length))⟩:=by
  unfold zO;rw [List.getElem?_eq_getElem hkq]
 refine ⟨hle,by rw [hv];simp only [rH];exact H.nl,by rw [hv];simp only [List.length_set];exact H.fl,fun j hj=>?_,fun j hj hj2=>?_,fun j hj hj2=>?_⟩
 ·rw [hv]
  simp only
  rw [List.getElem?_set_ne (by omega)]
  exact H.same j (by omega)
 ·simp only [hv] at hj ⊢
  by_cases e:k=j
  ·subst e
   rw [List.getElem_set_self]
   exact H.nm k hkq hk
  ·rw [List.getElem_set_ne e]
   exact H.nm j (by rw [List.length_set] at hj;exact hj) hj2
 ·simp only [hv] at hj ⊢
  have h3:j < q.Nodes.length:=by rw [rH] at hj;exact hj
  obtain ⟨a1,a2⟩:=aIk (gM q q.Fns[k]) (nN q k) q.Nodes j h3 hj
  obtain ⟨c1,c2⟩:=H.nd j h3 hj2
  exact ⟨a1.trans c1,fun h12=>(a2 (by rw [c1];exact h12)).trans (c2 h12)⟩
theorem ninv (p:GProgram) (hle:GProgram.le 1048576 p) (h:lW p=true):∀ k,k ≤ p.Fns.length→NInv p (aT p k) k
 | 0,_=>⟨hle,rfl,rfl,fun _ _=>rfl,fun _ _ _=>rfl,fun _ _ _=>⟨rfl,fun _=>rfl⟩⟩
 | k + 1,hk=>(zN p _ h (by omega) (ninv p hle h k (by omega))).1
def nF (p:GProgram) (x:GNode):GNode:=if (x.Kind == 12)=true then ⟨x.Kind,x.Num,aFc 102 (fI p x.Name).toNat,x.Kids⟩ else x
def zP {α:Type} (g:α→α) (l:List α) (k:Nat):List α:=(l.take k).map g ++ l.drop k
theorem aI7 {α:Type} (g:α→α) (l:List α) {k:Nat} (h:k < l.length):∃ h2:k < (zP g l k).length,(zP g l k)[k]=l[k]:=aE1 (a:=(l.take k).map g) (b:=l) (by simp;omega) h
theorem aI6 {α:Type} (g:α→α) (l:List α) {k:Nat} (h:k < l.length):(zP g l k).set k (g l[k])=zP g l (k + 1):=by
 unfold zP
 rw [aDa (by simp;omega) h,List.take_add_one,List.getElem?_eq_getElem h,List.map_append]
 rfl
theorem aI8 {α:Type} (g:α→α) (l:List α):zP g l l.length=l.map g:=by simp [zP]
theorem aF9 {α:Type} (g:α→α) (l:List α):zP g l 0=l:=by simp [zP]
def aE3 (l:List GFn) (k:Nat):List GFn:=((List.range k).map fun i=>match l[i]? with | some f=>(⟨aFc 102 i,f.Params,f.Res,f.Body,f.Ret⟩:GFn) | none=>⟨ByteArray.empty,[],0,0,0⟩) ++ l.drop k
theorem aNq (l:List GFn) {k:Nat} (h:k ≤ l.length):(aE3 l k).length=l.length:=by unfold aE3;simp;omega
theorem aIn (l:List GFn) {k:Nat} (h:k < l.length):∃ h2:k < (aE3 l k).length,(aE3 l k)[k]=l[k]:=aE1 (by simp) h
theorem aIm (l:List GFn) {k:Nat} (h:k < l.length):(aE3 l k).set k ⟨aFc 102 k,l[k].Params,l[k].Res,l[k].Body,l[k].Ret⟩=aE3 l (k + 1):=by
 unfold aE3
 rw [aDa (by simp) h,List.range_succ,List.map_append]
 simp [List.getElem?_eq_getElem h]
theorem aCh (p:GProgram) (hF:p.Fns.length ≤ 1000) (nm:ByteArray):bJ nm p=some (sW 102 (fI p nm) nm):=by
 unfold bJ sW
 rw [nR p nm (by omega)]
 simp only [Option.bind_some]
 rcases rI p nm with h | ⟨h,h2⟩
 ·rw [h];rfl
 ·obtain ⟨n,hn⟩:=Int.eq_ofNat_of_zero_le h
  rw [hn] at h2 ⊢
  have hd:decide (((n:Nat):Int) < 0)=false:=by simp
  simp only [hd,Bool.false_eq_true,if_false,aIf (show n ≤ 1048576 by omega),Option.bind_some,wI 102 (show n ≤ 1048576 by omega),Int.toNat_natCast]
  rw [if_neg (by omega)]
noncomputable def aJl (p:GProgram):GProgram:=⟨(aT p p.Fns.length).Nodes.map (nF p),aE3 (aT p p.Fns.length).Fns p.Fns.length⟩
theorem aB3 (p:GProgram) (hle:GProgram.le 1048576 p) (h:lW p=true):eM p=some (aJl p):=by
 obtain ⟨b1,b2,b3,b4,hu⟩:=kY (kJ h)
 obtain ⟨c1,c2⟩:=iO p hle
 unfold eM
 rw [nM p (by omega) (by omega),c2]
 simp only [Option.bind_some,h,Bool.not_true,Bool.false_eq_true,if_false]
 have l1:=aU p.Fns (fun (s:Unit) k=>((k:Int),aT p k)) (fun k s=>True) (fun s e=>.inl ()) (fun s=>aT p p.Fns.length) (cD p) (fun s k hk hI=>by
  left
  refine ⟨(),rfl,?_,trivial⟩
  obtain ⟨_,_,e2⟩:=zN p _ h hk (ninv p hle h k (by omega))
  simp only [cD,aB hk,if_true,e2,Option.bind_some,aK hk (show p.Fns.length ≤ 1048576 by omega)]
  rfl) (fun s _=>by simp [cD]) () trivial
 rw [bB] at l1
 rw [show aG (cD p) (0,p)=_ from l1]
 simp only [Option.bind_some]
 have H:=ninv p hle h p.Fns.length (Nat.le_refl _)
 have l2:=aU p.Nodes (fun (s:Unit) k=>((k:Int),(⟨zP (nF p) (aT p p.Fns.length).Nodes k,(aT p p.Fns.length).Fns⟩:GProgram))) (fun k s=>True) (fun s e=>.inl ()) (fun s=>(⟨zP (nF p) (aT p p.Fns.length).Nodes p.Nodes.length,(aT p p.Fns.length).Fns⟩:GProgram)) (cC p) (fun s k hk hI=>by
  left
  refine ⟨(),rfl,?_,trivial⟩
  have hkq:k < (aT p p.Fns.length).Nodes.length:=by rw [H.nl];exact hk
  obtain ⟨d1,d2⟩:=H.nd k hkq hk
  obtain ⟨g1,g2⟩:=aI7 (nF p) (aT p p.Fns.length).Nodes hkq
  have hg:aJ (zP (nF p) (aT p p.Fns.length).Nodes k) (k:Int)=some (aT p p.Fns.length).Nodes[k]:=by rw [aD g1,g2]
  have hs:=aI6 (nF p) (aT p p.Fns.length).Nodes hkq
  have hc:nF p (aT p p.Fns.length).Nodes[k]=if ((aT p p.Fns.length).Nodes[k].Kind == 12)=true then ⟨(aT p p.Fns.length).Nodes[k].Kind,(aT p p.Fns.length).Nodes[k].Num,aFc 102 (fI p (aT p p.Fns.length).Nodes[k].Name).toNat,(aT p p.Fns.length).Nodes[k].Kids⟩ else (aT p p.Fns.length).Nodes[k]:=rfl
  rw [hc] at hs
  simp only [cC,aB hk,if_true,aD hk,Option.bind_some,aK hk (show p.Nodes.length ≤ 1048576 by omega)]
  cases e12:(p.Nodes[k].Kind == 12) with
  | true =>
   have e:=d2 (by simpa using e12)
   rw [d1,e12] at hs
   simp only [if_true] at hs
   have hge:=aIu p h (List.getElem?_eq_getElem hk) (by simpa using e12)
   rw [e] at hs
   rcases rI p p.Nodes[k].Name with hb | ⟨_,hb⟩
   ·omega
   obtain ⟨n,hn⟩:=Int.eq_ofNat_of_zero_le hge
   rw [hn,Int.toNat_natCast] at hs
   rw [hn] at hb
   simp only [if_true,qQ p _ (show p.Fns.length ≤ 1048576 by omega),hn,Option.bind_some,xT (show n ≤ 1048576 by omega),wI 102 (show n ≤ 1048576 by omega),hg,bD,Int.toNat_natCast]
   rw [d1,hs]
  | false =>
   rw [d1,e12] at hs
   simp only [Bool.false_eq_true,if_false] at hs ⊢
   rw [← hs,aD9 (by rw [List.getElem?_eq_getElem g1,g2])]) (fun s _=>by simp [cC]) () trivial
 rw [bB] at l2
 rw [show aG (cC p) (0,aT p p.Fns.length)=_ from by simp only [aF9] at l2;exact l2]
 simp only [Option.bind_some]
 have l3:=aU p.Fns (fun (s:Unit) k=>((k:Int),(⟨zP (nF p) (aT p p.Fns.length).Nodes p.Nodes.length,aE3 (aT p p.Fns.length).Fns k⟩:GProgram))) (fun k s=>True) (fun s e=>.inl ()) (fun s=>(⟨zP (nF p) (aT p p.Fns.length).Nodes p.Nodes.length,aE3 (aT p p.Fns.length).Fns p.Fns.length⟩:GProgram)) (cB p) (fun s k hk hI=>by
  left
  refine ⟨(),rfl,?_,trivial⟩
  have hkq:k < (aT p p.Fns.length).Fns.length:=by rw [H.fl];exact hk
  obtain ⟨g1,g2⟩:=aIn (aT p p.Fns.length).Fns hkq
  have hg:aJ (aE3 (aT p p.Fns.length).Fns k) (k:Int)=some (aT p p.Fns.length).Fns[k]:=by rw [aD g1,g2]
  simp only [cB,aB hk,if_true,xT (show k ≤ 1048576 by omega),wI 102 (show k ≤ 1048576 by omega),hg,Option.bind_some,bD,Int.toNat_natCast,aIm (aT p p.Fns.length).Fns hkq,aK hk (show p.Fns.length ≤ 1048576 by omega)]) (fun s _=>by simp [cB]) () trivial
 rw [bB] at l3
 have z0:aE3 (aT p p.Fns.length).Fns 0=(aT p p.Fns.length).Fns:=by simp [aE3]
 rw [show aG (cB p) (0,⟨zP (nF p) (aT p p.Fns.length).Nodes p.Nodes.length,(aT p p.Fns.length).Fns⟩)=_ from by simp only [z0] at l3;exact l3]
 simp only [Option.bind_some]
 unfold aJl
 rw [← aI8,H.nl]
end Go.OM
namespace Go.OM
theorem aO3 (p:GProgram) (x:GNode) (h:GNode.le 1048576 x) (hF:p.Fns.length ≤ 1000):GNode.le 1048576 (nF p x):=by
 unfold nF
 split
 ·refine ⟨?_,h.2⟩
  have hb:=rI p x.Name
  have:=uB 102 (n:=(fI p x.Name).toNat) (by omega)
  show (aFc 102 _).size ≤ _
  omega
 ·exact h
theorem aNp {p:GProgram} (h:rY p=true) {i:Nat} (hi:i < p.Fns.length):fI p p.Fns[i].Name=i:=by
 unfold rY at h
 simp only [Bool.and_eq_true] at h
 have hg:=List.all_eq_true.1 h.2.2.2.1 i (List.mem_range.2 hi)
 rw [rU hi,Bool.and_eq_true] at hg
 simpa using hg.2
theorem aNj (p:GProgram) (hle:GProgram.le 1048576 p) (h:lW p=true):GProgram.le 1048576 (aJl p):=by
 obtain ⟨b1,b2,b3,b4,hu⟩:=kY (kJ h)
 have H:=ninv p hle h p.Fns.length (Nat.le_refl _)
 obtain ⟨⟨h1,h2⟩,h3,h4⟩:=H.le
 unfold aJl
 refine ⟨⟨by simp only [List.length_map];exact h1,fun x hx=>?_⟩,by simp only;rw [aNq _ (by rw [H.fl];exact Nat.le_refl _)];exact h3,fun f hf=>?_⟩
 ·obtain ⟨y,hy,rfl⟩:=List.mem_map.1 hx
  exact aO3 p y (h2 y hy) (by omega)
 ·simp only at hf
  unfold aE3 at hf
  rw [List.mem_append] at hf
  rcases hf with hf | hf
  ·obtain ⟨i,hi,rfl⟩:=List.mem_map.1 hf
   have hi:=List.mem_range.1 hi
   rw [List.getElem?_eq_getElem (show i < (aT p p.Fns.length).Fns.length by rw [H.fl];exact hi)]
   have:=uB 102 (n:=i) (by omega)
   refine ⟨by show (aFc 102 i).size ≤ _;omega,(h4 _ (List.getElem_mem _)).2⟩
  ·exact h4 f (List.mem_of_mem_drop hf)
theorem aBt (p:GProgram) (hle:GProgram.le 1048576 p) (h:lW p=true):dD p=some (aJl p):=by
 obtain ⟨b1,b2,b3,b4,hu⟩:=kY (kJ h)
 obtain ⟨c1,c2⟩:=iO p hle
 unfold dD
 rw [nQ p (by omega) (by omega),c1]
 simp only [Option.bind_some,h,Bool.not_true,Bool.false_eq_true,if_false]
 have l1:=aU p.Fns (fun (s:Unit) k=>((k:Int),aT p k)) (fun k s=>True) (fun s e=>.inl ()) (fun s=>aT p p.Fns.length) (cJ p) (fun s k hk hI=>by
  left
  refine ⟨(),rfl,?_,trivial⟩
  obtain ⟨_,e1,_⟩:=zN p _ h hk (ninv p hle h k (by omega))
  simp only [cJ,aB hk,if_true,e1,Option.bind_some,aK hk (show p.Fns.length ≤ 1048576 by omega)]
  rfl) (fun s _=>by simp [cJ]) () trivial
 rw [bB] at l1
 rw [show aG (cJ p) (0,p)=_ from l1]
 simp only [Option.bind_some]
 have H:=ninv p hle h p.Fns.length (Nat.le_refl _)
 unfold jT
 rw [(iO _ H.le).1]
 simp only [Option.bind_some]
 have l2:=aU (aT p p.Fns.length).Nodes (fun (s:Unit) k=>((k:Int),(⟨zP (nF p) (aT p p.Fns.length).Nodes k,(aT p p.Fns.length).Fns⟩:GProgram))) (fun k s=>True) (fun s e=>.inl ()) (fun s=>(⟨zP (nF p) (aT p p.Fns.length).Nodes (aT p p.Fns.length).Nodes.length,(aT p p.Fns.length).Fns⟩:GProgram)) (bT (fun a0=>bJ a0 p) (aT p p.Fns.length)) (fun s k hk hI=>by
  left
  refine ⟨(),rfl,?_,trivial⟩
  have hkp:k < p.Nodes.length:=by rw [← H.nl];exact hk
  obtain ⟨d1,d2⟩:=H.nd k hk hkp
  obtain ⟨g1,g2⟩:=aI7 (nF p) (aT p p.Fns.length).Nodes hk
  have hg:aJ (zP (nF p) (aT p p.Fns.length).Nodes k) (k:Int)=some (aT p p.Fns.length).Nodes[k]:=by rw [aD g1,g2]
  have hs:=aI6 (nF p) (aT p p.Fns.length).Nodes hk
  have hc:nF p (aT p p.Fns.length).Nodes[k]=if ((aT p p.Fns.length).Nodes[k].Kind == 12)=true then ⟨(aT p p.Fns.length).Nodes[k].Kind,(aT p p.Fns.length).Nodes[k].Num,aFc 102 (fI p (aT p p.Fns.length).Nodes[k].Name).toNat,(aT p p.Fns.length).Nodes[k].Kids⟩ else (aT p p.Fns.length).Nodes[k]:=rfl
  rw [hc] at hs
  simp only [bT,aB hk,if_true,hg,Option.bind_some,aK hk (show (aT p p.Fns.length).Nodes.length ≤ 1048576 by rw [H.nl];omega)]
  cases e12:((aT p p.Fns.length).Nodes[k].Kind == 12) with
  | true =>
   have e:=d2 (by rw [← d1];simpa using e12)
   have hge:=aIu p h (List.getElem?_eq_getElem hkp) (by rw [← d1];simpa using e12)
   have hne:sW 102 (fI p (aT p p.Fns.length).Nodes[k].Name) (aT p p.Fns.length).Nodes[k].Name=aFc 102 (fI p (aT p p.Fns.length).Nodes[k].Name).toNat:=by
    unfold sW
    rw [if_neg (by rw [e];omega)]
   rw [e12] at hs
   simp only [if_true] at hs ⊢
   simp only [aCh p (show p.Fns.length ≤ 1000 by omega),hne,Option.bind_some,bD,Int.toNat_natCast,hs]
  | false =>
   rw [e12] at hs
   simp only [Bool.false_eq_true,if_false] at hs ⊢
   rw [← hs,aD9 (by rw [List.getElem?_eq_getElem g1,g2])]) (fun s _=>by simp [bT]) () trivial
 rw [bB] at l2
 rw [show aG (bT (fun a0=>bJ a0 p) (aT p p.Fns.length)) (0,aT p p.Fns.length)=_ from by simp only [aF9] at l2;exact l2]
 simp only [Option.bind_some]
 have l3:=aU (aT p p.Fns.length).Fns (fun (s:Unit) k=>((k:Int),(⟨zP (nF p) (aT p p.Fns.length).Nodes (aT p p.Fns.length).Nodes.length,aE3 (aT p p.Fns.length).Fns k⟩:GProgram))) (fun k s=>True) (fun s e=>.inl ()) (fun s=>(⟨zP (nF p) (aT p p.Fns.length).Nodes (aT p p.Fns.length).Nodes.length,aE3 (aT p p.Fns.length).Fns (aT p p.Fns.length).Fns.length⟩:GProgram)) (bR (fun a0=>bJ a0 p) ⟨zP (nF p) (aT p p.Fns.length).Nodes (aT p p.Fns.length).Nodes.length,(aT p p.Fns.length).Fns⟩) (fun s k hk hI=>by
  left
  refine ⟨(),rfl,?_,trivial⟩
  have hkp:k < p.Fns.length:=by rw [← H.fl];exact hk
  obtain ⟨g1,g2⟩:=aIn (aT p p.Fns.length).Fns hk
  have hg:aJ (aE3 (aT p p.Fns.length).Fns k) (k:Int)=some (aT p p.Fns.length).Fns[k]:=by rw [aD g1,g2]
  have hnm:sW 102 (fI p (aT p p.Fns.length).Fns[k].Name) (aT p p.Fns.length).Fns[k].Name=aFc 102 k:=by
   rw [H.nm k hk hkp,aNp (kJ h) hkp]
   unfold sW
   rw [if_neg (by omega),Int.toNat_natCast]
  simp only [bR,aB hk,if_true,hg,aCh p (show p.Fns.length ≤ 1000 by omega),hnm,Option.bind_some,bD,Int.toNat_natCast,aIm (aT p p.Fns.length).Fns hk,aK hk (show (aT p p.Fns.length).Fns.length ≤ 1048576 by rw [H.fl];omega)]) (fun s _=>by simp [bR]) () trivial
 rw [bB] at l3
 have z0:aE3 (aT p p.Fns.length).Fns 0=(aT p p.Fns.length).Fns:=by simp [aE3]
 rw [show aG (bR (fun a0=>bJ a0 p) ⟨zP (nF p) (aT p p.Fns.length).Nodes (aT p p.Fns.length).Nodes.length,(aT p p.Fns.length).Fns⟩) (0,⟨zP (nF p) (aT p p.Fns.length).Nodes (aT p p.Fns.length).Nodes.length,(aT p p.Fns.length).Fns⟩)=_ from by simp only [z0] at l3;exact l3]
 simp only [Option.bind_some]
 unfold aJl
 rw [aI8,H.fl]
theorem aBz (p:GProgram) (hle:GProgram.le 1048576 p):∃ q:GProgram,dD p=some q∧eM p=some q∧GProgram.le 1048576 q:=by
 cases hok:lW p with
 | true=>exact ⟨_,aBt p hle hok,aB3 p hle hok,aNj p hle hok⟩
 | false =>
  obtain ⟨c1,c2⟩:=iO p hle
  have h:=hle
  obtain ⟨⟨hn,hN⟩,hF,hFl⟩:=h
  refine ⟨p,?_,?_,hle⟩
  ·unfold dD
   rw [nQ p hn hF,hok,c1]
   rfl
  ·unfold eM
   rw [nM p hn hF,hok,c2]
   rfl
theorem aDo (p:GProgram) (hw:GProgram.le maxLen p):eJ p=some true:=by
 unfold eJ
 obtain ⟨r,h1,h2,h3⟩:=xF p hw 1048576 (by omega) (by omega)
 rw [h1]
 simp only [Option.bind_some]
 by_cases hr:r < 0
 ·simp [hr]
 ·have hp:=h3 (by omega)
  obtain ⟨q,v1,v2,hok⟩:=aBz p hp
  obtain ⟨k1,c1,m1,m2,m3⟩:=nO p hp 1 (by omega) (by omega)
  obtain ⟨k2,w2,n1,n2,n3,n4⟩:=nO q hok 1 (by omega) (by omega)
  simp [hr,xD p hp,v1,v2,pY q q hok hok,pY p p hp hp,m1,n1,n4,show ¬ k1 < 0 by omega,show ¬ k2 < 0 by omega]
end Go.OM
