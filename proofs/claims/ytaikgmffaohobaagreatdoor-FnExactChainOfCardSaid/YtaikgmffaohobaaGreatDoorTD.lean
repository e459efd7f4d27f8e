import Derived.Test.YtaikgmffaohobaaGreatDoorTC
set_option linter.unusedVariables false
set_option linter.unusedSimpArgs false
set_option linter.unusedVariables false
set_option linter.unusedSimpArgs false
namespace Go.OM
open Classical in
noncomputable def setL (n:Nat) (P:Nat→Prop):List Int:=((List.range n).filter fun j=>decide (P j)).map fun k:Nat=>(k:Int)
theorem mem_setL {n:Nat} {P:Nat→Prop} {x:Int}:x ∈ setL n P ↔ 0 ≤ x∧x < n∧P x.toNat:=by
 unfold setL
 rw [List.mem_map]
 constructor
 ·rintro ⟨j,hj,rfl⟩
  obtain ⟨h1,h2⟩:=List.mem_filter.1 hj
  have:=List.mem_range.1 h1
  exact ⟨by omega,by omega,by simpa using h2⟩
 ·rintro ⟨h1,h2,h3⟩
  refine ⟨x.toNat,List.mem_filter.2 ⟨List.mem_range.2 (by omega),by simpa using h3⟩,by omega⟩
theorem setL_lt (n:Nat) (P:Nat→Prop):(setL n P).Pairwise (· < ·):=by
 unfold setL
 refine List.Pairwise.map _ (fun a b h=>?_) (List.Pairwise.filter _ List.pairwise_lt_range)
 omega
theorem setL_len (n:Nat) (P:Nat→Prop):(setL n P).length ≤ n:=by
 unfold setL
 rw [List.length_map]
 have:=List.length_filter_le (fun j=>@decide (P j) (Classical.propDecidable _)) (List.range n)
 rw [List.length_range] at this
 exact this
theorem oR {l:List Int} (h:l.Pairwise (· < ·)):l.Nodup:=by
 rw [List.nodup_iff_pairwise_ne]
 exact h.imp fun h=>by omega
theorem lt_unique {a b:List Int} (ha:a.Pairwise (· < ·)) (hb:b.Pairwise (· < ·)) (h:∀ x,x ∈ a ↔ x ∈ b):a=b:=by
 refine List.Perm.eq_of_pairwise (le:=fun x y:Int=>x < y) (fun x y _ _ h1 h2=>by omega) ha hb ?_
 exact (List.perm_ext_iff_of_nodup (oR ha) (oR hb)).2 h
theorem setL_congr {n:Nat} {P Q:Nat→Prop} (h:∀ j,j < n→(P j ↔ Q j)):setL n P=setL n Q:=by
 refine lt_unique (setL_lt _ _) (setL_lt _ _) fun x=>?_
 rw [mem_setL,mem_setL]
 constructor
 ·rintro ⟨h1,h2,h3⟩;exact ⟨h1,h2,(h _ (by omega)).1 h3⟩
 ·rintro ⟨h1,h2,h3⟩;exact ⟨h1,h2,(h _ (by omega)).2 h3⟩
theorem setL_eq {n:Nat} {P:Nat→Prop} {l:List Int} (hl:l.Pairwise (· < ·)) (h:∀ x,x ∈ l ↔ 0 ≤ x∧x < n∧P x.toNat):l=setL n P:=lt_unique hl (setL_lt _ _) fun x=>by rw [h,mem_setL]
theorem sort_setL {n:Nat} {P:Nat→Prop} {l:List Int} (hl:l.Nodup) (h:∀ x,x ∈ l ↔ 0 ≤ x∧x < n∧P x.toNat):(l.mergeSort fun x y=>decide (x ≤ y))=setL n P:=by
 have hp:=List.mergeSort_perm l (fun x y=>decide (x ≤ y))
 have hs:=List.pairwise_mergeSort (le:=fun x y:Int=>decide (x ≤ y)) (fun a b c h1 h2=>by simp only [decide_eq_true_eq] at *;omega) (fun a b=>by simp only [Bool.or_eq_true,decide_eq_true_eq];omega) l
 have hn:(l.mergeSort fun x y=>decide (x ≤ y)).Nodup:=hp.nodup_iff.2 hl
 refine setL_eq ?_ fun x=>by rw [← h];exact hp.mem_iff
 rw [List.nodup_iff_pairwise_ne] at hn
 exact (hs.and hn).imp fun ⟨h1,h2⟩=>by simp only [decide_eq_true_eq] at h1;omega
theorem eW {n:Nat} {l:List Int} (hl:l.Nodup) (hb:∀ x ∈ l,0 ≤ x∧x < n):l.length ≤ n:=by
 have:=hl.length_le_of_subset (l₂:=(List.range n).map fun k:Nat=>(k:Int)) fun x hx=>by
  have:=hb x hx
  exact List.mem_map.2 ⟨x.toNat,List.mem_range.2 (by omega),by omega⟩
 simpa using this
theorem sort_some {l:List Int} (h:l.length ≤ 1048576):sort_Ints l=some (l.mergeSort fun x y=>decide (x ≤ y)):=by
 unfold sort_Ints;rw [if_pos (by omega)]
theorem addL_nodup {s:List Int} (h:s.Nodup) (x:Int):(addL s x).Nodup:=by
 unfold addL
 split
 ·exact h
 ·rename_i hc
  rw [List.nodup_append]
  refine ⟨h,by simp,fun a ha b hb=>?_⟩
  simp only [List.mem_singleton] at hb
  subst hb
  rintro rfl
  exact hc (by simpa using ha)
theorem jP:∀ (l:List Int) {s:List Int},s.Nodup→(l.foldl addL s).Nodup
 | [],s,h=>h
 | x :: l,s,h=>jP l (addL_nodup h x)
theorem addL_pre (s:List Int) (x:Int):∃ t,addL s x=s ++ t:=by
 unfold addL
 split
 ·exact ⟨[],by simp⟩
 ·exact ⟨[x],rfl⟩
theorem pU:∀ (l:List Int) (s:List Int),∃ t,l.foldl addL s=s ++ t
 | [],s=>⟨[],by simp⟩
 | x :: l,s=>by
  obtain ⟨t,ht⟩:=addL_pre s x
  obtain ⟨t',ht'⟩:=pU l (addL s x)
  exact ⟨t ++ t',by rw [List.foldl_cons,ht',ht,List.append_assoc]⟩
theorem foldAdd_bnd {n:Nat} {l s:List Int} (hs:∀ x ∈ s,0 ≤ x∧x < (n:Int)) (hl:∀ x ∈ l,0 ≤ x∧x < (n:Int)):∀ x ∈ l.foldl addL s,0 ≤ x∧x < (n:Int):=fun x hx=>by
 rcases (eI x l s).1 hx with h | h
 ·exact hs x h
 ·exact hl x h
theorem add_loop {ρ:Type} (n:Nat) (l:List Int) (hl:∀ x ∈ l,0 ≤ x∧x < (n:Int)) (f:List Int × Int→Option ((List Int × Int) ⊕ ρ)) (fin:List Int→ρ)
  (hf:∀ (o:List Int) (k:Nat) (hk:k < l.length),o.length ≤ n→f (o,k)=some (.inl (addL o l[k],((k + 1:Nat):Int))))
  (he:∀ o,f (o,l.length)=some (.inr (fin o))) (o:List Int) (ho:o.Nodup) (hb:∀ x ∈ o,0 ≤ x∧x < (n:Int)):aI f (o,0)=some (fin (l.foldl addL o)):=by
 have:=bB l (fun (s:List Int) k=>(s,(k:Int))) (fun k s=>s.Nodup∧∀ x ∈ s,0 ≤ x∧x < (n:Int)) (fun s e=>.inl (addL s e)) fin f (fun s k hk hI=>by
  left
  refine ⟨_,rfl,hf s k hk (eW hI.1 hI.2),addL_nodup hI.1 _,fun x hx=>?_⟩
  rcases mem_addL.1 hx with h | h
  ·exact hI.2 x h
  ·subst h;exact hl _ (List.getElem_mem hk)) (fun s _=>he s) o ⟨ho,hb⟩
 rw [bM] at this
 exact this
theorem bfs_loop {ρ:Type} (n:Nat) (root:Nat) (hroot:root < n) (next:Nat→List Int) (hnx:∀ i,Reach next root i→∀ m ∈ next i,0 ≤ m∧m < (n:Int)) (f:List Int × Int→Option ((List Int × Int) ⊕ ρ)) (fin:List Int→ρ)
  (hf:∀ (o:List Int) (k:Nat) (hk:k < o.length),o.Nodup→(∀ x ∈ o,0 ≤ x∧x < (n:Int))→Reach next root o[k].toNat→f (o,k)=some (.inl ((next o[k].toNat).foldl addL o,((k + 1:Nat):Int))))
  (he:∀ o:List Int,o.length ≤ n→f (o,o.length)=some (.inr (fin o))):∃ o:List Int,aI f ([(root:Int)],0)=some (fin o)∧o.Nodup∧∀ x,x ∈ o ↔ 0 ≤ x∧x < (n:Int)∧Reach next root x.toNat:=by
 obtain ⟨r,h1,o,h2,h3⟩:=dW (f:=f) (fun s:List Int × Int=>∃ i:Nat,s.2=i∧i ≤ s.1.length∧s.1.Nodup∧(root:Int) ∈ s.1∧(∀ x ∈ s.1,0 ≤ x∧x < (n:Int)∧Reach next root x.toNat)∧∀ (j:Nat) (hj:j < s.1.length),j < i→∀ m ∈ next s.1[j].toNat,m ∈ s.1) (fun s=>n - s.2.toNat) (fun r=>∃ o,r=fin o∧o.Nodup∧∀ x,x ∈ o ↔ 0 ≤ x∧x < (n:Int)∧Reach next root x.toNat) (by
  rintro ⟨o,i⟩ ⟨i,rfl,hi,hn,hr,hb,hc⟩
  simp only at hi hn hr hb hc
  have hb2:∀ x ∈ o,0 ≤ x∧x < (n:Int):=fun x hx=>⟨(hb x hx).1,(hb x hx).2.1⟩
  have hlen:=eW hn hb2
  by_cases hlt:i < o.length
  ·left
   have hbi:=hb _ (List.getElem_mem hlt)
   have hnb:=hnx _ hbi.2.2
   refine ⟨_,hf o i hlt hn hb2 hbi.2.2,⟨i + 1,rfl,?_,jP _ hn,?_,?_,?_⟩,by simp only [Int.toNat_natCast];omega⟩
   ·obtain ⟨t,ht⟩:=pU (next o[i].toNat) o
    simp only [ht,List.length_append];omega
   ·exact (eI _ _ _).2 (.inl hr)
   ·intro x hx
    rcases (eI _ _ _).1 hx with h | h
    ·exact hb x h
    ·exact ⟨(hnb x h).1,(hnb x h).2,.step hbi.2.2 h⟩
   ·intro j hj hji m hm
    obtain ⟨t,ht⟩:=pU (next o[i].toNat) o
    simp only at hj hm ⊢
    have hjo:j < o.length:=by omega
    have hg:((next o[i].toNat).foldl addL o)[j]=o[j]:=by
     simp only [ht]
     exact List.getElem_append_left hjo
    rw [hg] at hm
    rw [eI]
    by_cases e:j=i
    ·subst e;exact .inr hm
    ·exact .inl (hc j hjo (by omega) m hm)
  ·right
   have:i=o.length:=by omega
   subst this
   refine ⟨fin o,he o hlen,o,rfl,hn,fun x=>⟨hb x,fun ⟨h1,h2,h3⟩=>?_⟩⟩
   have key:∀ k,Reach next root k→(k:Int) ∈ o:=by
    intro k hk
    induction hk with
    | base=>exact hr
    | step hk' hm ih =>
     obtain ⟨j,hj,he⟩:=List.mem_iff_getElem.1 ih
     rename_i a m
     have hm2:m ∈ next o[j].toNat:=by rw [he,Int.toNat_natCast];exact hm
     have:=hc j hj hj m hm2
     have hmb:=hb m this
     rw [show ((m.toNat:Nat):Int)=m by omega]
     exact this
   have:=key _ h3
   rwa [show ((x.toNat:Nat):Int)=x by omega] at this) ([(root:Int)],0) ⟨0,rfl,by simp,by simp,by simp,fun x hx=>by
  simp only [List.mem_singleton] at hx
  subst hx
  exact ⟨by omega,by omega,by rw [Int.toNat_natCast];exact .base⟩,fun j hj h=>by omega⟩
 exact ⟨o,by rw [h1,h2],h3⟩
theorem scan_loop {ρ:Type} (n:Nat) (hn:n ≤ 1048576) (p:Nat→Bool) (f:List Int × Int→Option ((List Int × Int) ⊕ ρ)) (fin:List Int→ρ)
  (hf:∀ (o:List Int) (k:Nat),o.length ≤ 1048576→k < n→f (o,k)=some (.inl ((if p k=true then o ++ [(k:Int)] else o),((k + 1:Nat):Int))))
  (he:∀ o:List Int,f (o,n)=some (.inr (fin o))):aI f ([],0)=some (fin (setL n fun k=>p k=true)):=by
 obtain ⟨r,h1,h2⟩:=dW (f:=f) (fun s:List Int × Int=>∃ k:Nat,s.2=k∧k ≤ n∧s.1=((List.range k).filter p).map fun k:Nat=>(k:Int)) (fun s=>n - s.2.toNat) (fun r=>r=fin (((List.range n).filter p).map fun k:Nat=>(k:Int))) (by
  rintro ⟨o,i⟩ ⟨k,rfl,hk,ho⟩
  simp only at ho hk
  by_cases hlt:k < n
  ·left
   have hol:o.length ≤ 1048576:=by
    rw [ho,List.length_map]
    have:=List.length_filter_le p (List.range k)
    rw [List.length_range] at this
    omega
   refine ⟨_,hf o k hol hlt,⟨k + 1,rfl,by omega,?_⟩,by simp only [Int.toNat_natCast];omega⟩
   simp only
   rw [List.range_succ,List.filter_append,List.map_append,← ho]
   cases hp:p k<;>simp [hp]
  ·right
   have:k=n:=by omega
   subst this
   exact ⟨_,he o,by rw [ho]⟩) ([],0) ⟨0,rfl,by omega,rfl⟩
 rw [h1,h2]
 have:((List.range n).filter p).map (fun k:Nat=>(k:Int))=setL n fun k=>p k=true:=by
  unfold setL
  congr 1
  refine List.filter_congr fun x _=>?_
  simp
 rw [this]
def nA (nodes:List GNode) (i:Nat):List Int:=match nodes[i]? with
 | some x=>x.Kids
 | none=>[]
theorem kidsN_at {nodes:List GNode} {i:Nat} (h:i < nodes.length):nA nodes i=nodes[i].Kids:=by unfold nA;rw [List.getElem?_eq_getElem h]
theorem kidsN_bnd {nodes:List GNode} {i:Nat} (h:kQ nodes i=true):(nA nodes i).length ≤ 12∧∀ m ∈ nA nodes i,0 ≤ m∧m < i:=by
 have hi:i < nodes.length:=(kB h).1
 have hg:nodes[i]? = some nodes[i]:=List.getElem?_eq_getElem hi
 rw [kidsN_at hi]
 exact ⟨cR h hg,fG h hg⟩
theorem under_le {nodes:List GNode} {k:Nat} (h:okU nodes (k + 1)=true) {j:Nat} (r:Reach (nA nodes) k j):j ≤ k:=by
 induction r with
 | base=>exact Nat.le_refl _
 | step _ hm ih =>
  have:=(kidsN_bnd (gM h (by omega)).1).2 _ hm
  omega
noncomputable def bV (nodes:List GNode) (k:Int):List Int:=if rE nodes k=0 then [] else setL nodes.length (Reach (nA nodes) k.toNat)
theorem gZ {nodes:List GNode} {k x:Int} (h:x ∈ bV nodes k):0 ≤ x∧x < nodes.length:=by
 unfold bV at h
 split at h
 ·cases h
 ·have:=mem_setL.1 h;exact ⟨this.1,this.2.1⟩
theorem underB_lt (nodes:List GNode) (k:Int):(bV nodes k).Pairwise (· < ·):=by
 unfold bV
 split
 ·simp
 ·exact setL_lt _ _
theorem impl_under_eq (nodes:List GNode) (hn:nodes.length ≤ 1048576) (k:Nat) (hk:k < nodes.length) (hok:okU nodes (k + 1)=true):lU nodes k=some (setL nodes.length (Reach (nA nodes) k)):=by
 unfold lU
 have hnx:∀ i,Reach (nA nodes) k i→(nA nodes i).length ≤ 12∧∀ m ∈ nA nodes i,0 ≤ m∧m < (i:Int):=fun i hr=>kidsN_bnd (gM hok (by have:=under_le hok hr;omega)).1
 obtain ⟨o,g1,g2,g3⟩:=bfs_loop nodes.length k hk (nA nodes) (fun i hr m hm=>by
  have:=(hnx i hr).2 m hm
  have:=under_le hok hr
  omega) (fK nodes) (fun o=>o) (fun o i hi hnd hb hr=>by
   have hbi:=hb _ (List.getElem_mem hi)
   have hlt:o[i].toNat < nodes.length:=by omega
   have hge:getI nodes o[i]=some nodes[o[i].toNat]:=bU hbi.1 hbi.2
   have hol:=eW hnd hb
   obtain ⟨hkl,hkb⟩:=hnx _ hr
   have hle:=under_le hok hr
   have hkn:=kidsN_at hlt
   simp only [fK,aB hi,if_true,aE hi,Option.bind_some,hge]
   rw [hkn] at hkl hkb ⊢
   generalize nodes[o[i].toNat]=x at *
   rw [add_loop nodes.length x.Kids (fun m hm=>by have:=hkb m hm;omega) (fJ x) (fun o=>o) (fun o k hk ho=>by
    have happ:appI 8 o [x.Kids[k]]=some (o ++ [x.Kids[k]]):=app1 (by omega) (by omega)
    simp only [fJ,aB hk,if_true,aE hk,Option.bind_some,qU o _ (by omega),aN hk (show x.Kids.length ≤ 1048576 by omega),happ]
    unfold addL
    cases o.contains x.Kids[k]<;>rfl) (fun o=>by simp [fJ]) o hnd hb]
   simp only [Option.bind_some,aN hi (show o.length ≤ 1048576 by omega)]) (fun o ho=>by simp [fK])
 rw [g1]
 simp only [Option.bind_some]
 have hol:o.length ≤ 1048576:=by
  have:=eW (n:=nodes.length) g2 fun x hx=>⟨((g3 x).1 hx).1,((g3 x).1 hx).2.1⟩
  omega
 rw [sort_some hol]
 simp only [Option.bind_some]
 rw [sort_setL g2 g3]
theorem qR (p:GProgram) (hn:p.Nodes.length ≤ 1048576) (k:Int):jR p k=some (bV p.Nodes k):=by
 unfold jR bV
 rw [pL _ hn]
 simp only [Option.bind_some]
 by_cases hz:rE p.Nodes k=0
 ·rw [if_pos (by simpa using hz),if_pos hz]
 ·rw [if_neg (by simpa using hz),if_neg hz]
  obtain ⟨h0,h1,h2⟩:=deepB_zero hz
  have:=impl_under_eq p.Nodes hn k.toNat (by omega) h2
  rw [show ((k.toNat:Nat):Int)=k by omega] at this
  rw [this];rfl
structure MarkR (nodes:List GNode) (k:Nat) (s s':List Bool):Prop where
 len:s'.length=s.length
 mono:∀ j:Nat,s[j]? = some true→s'[j]? = some true
 self:s'[k]? = some true
 sound:∀ j:Nat,s'[j]? = some true→s[j]? = some true ∨ Reach (nA nodes) k j
 closed:∀ j:Nat,s'[j]? = some true→s[j]? = some true ∨ ∀ m ∈ nA nodes j,s'[m.toNat]? = some true
theorem reach_kid {next:Nat→List Int} {k:Nat} {m:Int} (hm:m ∈ next k) {j:Nat} (r:Reach next m.toNat j):Reach next k j:=by
 induction r with
 | base=>exact .step .base hm
 | step _ hm' ih=>exact .step ih hm'
theorem mark_main (nodes:List GNode) (hn:nodes.length ≤ 1048576):∀ (f k:Nat) (s:List Bool),okU nodes (k + 1)=true→dval nodes k ≤ f→s.length=nodes.length→∃ s',bQ f nodes k s=some s'∧MarkR nodes k s s'
 | 0,k,s,hok,hd,hs=>by have:=eT nodes k;omega
 | f + 1,k,s,hok,hd,hs=>by
  obtain ⟨hnb,_⟩:=gM hok (Nat.lt_succ_self k)
  have hk:k < nodes.length:=(kB hnb).1
  have hx:nodes[k]? = some nodes[k]:=List.getElem?_eq_getElem hk
  have hge:getI nodes (k:Int)=some nodes[k]:=aE hk
  obtain ⟨hkl,hkb⟩:=kidsN_bnd hnb
  have hkn:=kidsN_at hk
  have hks:k < s.length:=by omega
  have hkid:=fun kid hm=>rC (kid:=kid) hnb hx hm
  rw [hkn] at hkl hkb
  generalize hxe:nodes[k]=x at *
  show ∃ s',fQ (bQ f) nodes k s=some s'∧MarkR nodes k s s'
  unfold fQ
  rw [aE hks]
  simp only [Option.bind_some]
  by_cases hsk:s[k]=true
  ·rw [if_pos hsk]
   have hsk':s[k]? = some true:=by rw [List.getElem?_eq_getElem hks,hsk]
   exact ⟨s,rfl,rfl,fun _ h=>h,hsk',fun _ h=>.inl h,fun _ h=>.inl h⟩
  ·rw [if_neg hsk]
   simp only [dN,Int.toNat_natCast]
   have hs0:(s.set k true).length=nodes.length:=by rw [List.length_set];exact hs
   have hs0k:(s.set k true)[k]? = some true:=by rw [List.getElem?_set,if_pos rfl,if_pos hks]
   have hs0j:∀ j:Nat,(s.set k true)[j]? = some true→s[j]? = some true ∨ j=k:=by
    intro j h
    rw [List.getElem?_set] at h
    split at h
    ·rename_i e;exact .inr e.symm
    ·exact .inl h
   have hs0m:∀ j:Nat,s[j]? = some true→(s.set k true)[j]? = some true:=by
    intro j h
    rw [List.getElem?_set]
    by_cases e:k=j
    ·subst e;rw [if_pos rfl,if_pos hks]
    ·rw [if_neg e];exact h
   obtain ⟨r,g1,g2⟩:=dW (f:=dB (bQ f) nodes k) (fun t:List Bool × Int=>∃ i:Nat,t.2=i∧i ≤ x.Kids.length∧t.1.length=nodes.length∧(∀ j:Nat,(s.set k true)[j]? = some true→t.1[j]? = some true)∧(∀ j:Nat,t.1[j]? = some true→(s.set k true)[j]? = some true ∨ Reach (nA nodes) k j) ∧
     (∀ j:Nat,t.1[j]? = some true→(s.set k true)[j]? = some true ∨ ∀ m ∈ nA nodes j,t.1[m.toNat]? = some true)∧∀ (q:Nat) (hq:q < x.Kids.length),q < i→t.1[(x.Kids[q]).toNat]? = some true) (fun t=>x.Kids.length - t.2.toNat) (fun r=>MarkR nodes k s r) (by
    rintro ⟨t,i⟩ ⟨i,rfl,hi,hl,hm,hso,hcl,hd'⟩
    simp only at hi hl hm hso hcl hd'
    by_cases hlt:i < x.Kids.length
    ·left
     have hmem:=List.getElem_mem hlt
     have hb:=hkb _ hmem
     obtain ⟨s',r1,r2⟩:=mark_main nodes hn f (x.Kids[i]).toNat t (okU_mono (by omega) hok) (by have:=hkid _ hmem;omega) hl
     rw [show (((x.Kids[i]).toNat:Nat):Int)=x.Kids[i] by omega] at r1
     have hmk:x.Kids[i] ∈ nA nodes k:=by rw [hkn];exact hmem
     refine ⟨(s',((i + 1:Nat):Int)),?_,⟨i + 1,rfl,by omega,r2.len.trans hl,fun j h=>r2.mono j (hm j h),fun j h=>?_,fun j h=>?_,fun q hq hqi=>?_⟩,by simp only [Int.toNat_natCast];omega⟩
     ·simp only [dB,hge,Option.bind_some,aB hlt,if_true,aE hlt,r1,aN hlt (show x.Kids.length ≤ 1048576 by omega)]
     ·rcases r2.sound j h with h | h
      ·exact hso j h
      ·exact .inr (reach_kid hmk h)
     ·rcases r2.closed j h with h | h
      ·rcases hcl j h with h | h
       ·exact .inl h
       ·exact .inr fun m hm=>r2.mono _ (h m hm)
      ·exact .inr h
     ·by_cases e:q=i
      ·subst e;exact r2.self
      ·exact r2.mono _ (hd' q hq (by omega))
    ·right
     have:i=x.Kids.length:=by omega
     subst this
     refine ⟨t,by simp [dB,hge],hl.trans hs.symm,fun j h=>hm j (hs0m j h),hm k hs0k,fun j h=>?_,fun j h=>?_⟩
     ·rcases hso j h with h | h
      ·rcases hs0j j h with h | h
       ·exact .inl h
       ·subst h;exact .inr .base
      ·exact .inr h
     ·rcases hcl j h with h | h
      ·rcases hs0j j h with h | h
       ·exact .inl h
       ·subst h
        right
        intro m hm'
        rw [hkn] at hm'
        obtain ⟨q,hq,rfl⟩:=List.mem_iff_getElem.1 hm'
        exact hd' q hq hq
      ·exact .inr h) (s.set k true,0) ⟨0,rfl,by omega,hs0,fun _ h=>h,fun _ h=>.inl h,fun _ h=>.inl h,fun q _ h=>by omega⟩
   exact ⟨r,g1,g2⟩
theorem pZ (p:GProgram) (hn:p.Nodes.length ≤ 1048576) (k:Int):hJ p k=some (bV p.Nodes k):=by
 unfold hJ bV
 rw [spec_DeepOf_eq _ hn]
 simp only [Option.bind_some]
 by_cases hz:rE p.Nodes k=0
 ·rw [if_pos (by simpa using hz),if_pos hz]
 ·rw [if_neg (by simpa using hz),if_neg hz]
  obtain ⟨h0,h1,h2⟩:=deepB_zero hz
  rw [nO _ _ _ (by omega) (by omega)]
  simp only [Option.bind_some]
  obtain ⟨s',r1,r2⟩:=mark_main p.Nodes hn dG k.toNat (List.replicate p.Nodes.length false) h2 (by
   have:=(gM h2 (Nat.lt_succ_self _)).2
   rw [recFuel_eq];omega) (by simp)
  rw [show ((k.toNat:Nat):Int)=k by omega] at r1
  have r1':nJ p.Nodes k (List.replicate p.Nodes.length false)=some s':=r1
  rw [r1']
  simp only [Option.bind_some]
  have hl:s'.length=p.Nodes.length:=by rw [r2.len];simp
  have hrep:∀ j:Nat,¬ (List.replicate p.Nodes.length false)[j]? = some true:=by
   intro j h
   rw [List.getElem?_replicate] at h
   split at h<;>simp at h
  have hiff:∀ j,s'[j]? = some true ↔ Reach (nA p.Nodes) k.toNat j:=by
   intro j
   constructor
   ·intro h
    rcases r2.sound j h with h | h
    ·exact absurd h (hrep j)
    ·exact h
   ·intro h
    induction h with
    | base=>exact r2.self
    | step _ hm ih =>
     rcases r2.closed _ ih with h | h
     ·exact absurd h (hrep _)
     ·exact h _ hm
  rw [scan_loop p.Nodes.length hn (fun j=>s'.getD j false) (fE s') (fun o=>o) (fun o j ho hj=>by
   have hjs:j < s'.length:=by omega
   have happ:appI 8 o [(j:Int)]=some (o ++ [(j:Int)]):=app1 ho (by omega)
   simp only [fE,hl,aB hj,if_true,aE hjs,Option.bind_some,happ,aN hj hn]
   rw [List.getD_eq_getElem?_getD,List.getElem?_eq_getElem hjs]
   simp only [Option.getD_some]
   cases s'[j]<;>rfl) (fun o=>by simp [fE,hl])]
  simp only [Option.bind_some]
  congr 1
  refine setL_congr fun j hj=>?_
  rw [← hiff]
  have hjs:j < s'.length:=by omega
  rw [List.getD_eq_getElem?_getD,List.getElem?_eq_getElem hjs]
  simp
end Go.OM
namespace Go.OM
theorem drop_ge {L:List Int} (h:L.Pairwise (· < ·)) {i:Nat} (hi:i < L.length) {y:Int} (hy:y ∈ L.drop i):L[i] ≤ y:=by
 obtain ⟨j,hj,rfl⟩:=List.mem_iff_getElem.1 hy
 rw [List.length_drop] at hj
 rw [List.getElem_drop]
 rcases Nat.eq_zero_or_pos j with e | e
 ·subst e;simp
 ·have:=(List.pairwise_iff_getElem.1 h) i (i + j) hi (by omega) (by omega)
  omega
theorem drop_gt {L:List Int} (h:L.Pairwise (· < ·)) {i:Nat} (hi:i < L.length) {y:Int} (hy:y ∈ L.drop (i + 1)):L[i] < y:=by
 obtain ⟨j,hj,rfl⟩:=List.mem_iff_getElem.1 hy
 rw [List.length_drop] at hj
 rw [List.getElem_drop]
 exact (List.pairwise_iff_getElem.1 h) i (i + 1 + j) hi (by omega) (by omega)
theorem gJ {L:List Int} {i:Nat} (hi:i < L.length) {x:Int}:x ∈ L.take (i + 1) ↔ x ∈ L.take i ∨ x=L[i]:=by
 rw [List.take_add_one,List.getElem?_eq_getElem hi,List.mem_append]
 simp
theorem gW {L:List Int} {i:Nat} {x:Int} (h:x ∈ L.drop (i + 1)):x ∈ L.drop i:=by
 obtain ⟨j,hj,rfl⟩:=List.mem_iff_getElem.1 h
 rw [List.length_drop] at hj
 rw [List.getElem_drop]
 exact List.mem_iff_getElem.2 ⟨1 + j,by rw [List.length_drop];omega,by rw [List.getElem_drop];congr 1;omega⟩
theorem rD {L:List Int} {i:Nat} (hi:i < L.length):L[i] ∈ L.drop i:=by
 rw [List.drop_eq_getElem_cons hi];exact List.mem_cons_self
theorem snoc_lt {o:List Int} {a:Int} (h:o.Pairwise (· < ·)) (hb:∀ x ∈ o,x < a):(o ++ [a]).Pairwise (· < ·):=by
 rw [List.pairwise_append]
 exact ⟨h,by simp,fun x hx y hy=>by simp only [List.mem_singleton] at hy;subst hy;exact hb x hx⟩
theorem merge_loop (n:Nat) (hn:n ≤ 1048576) (A B:List Int) (hA:A.Pairwise (· < ·)) (hB:B.Pairwise (· < ·)) (hbA:∀ x ∈ A,0 ≤ x∧x < (n:Int)) (hbB:∀ x ∈ B,0 ≤ x∧x < (n:Int)) :
  aI (aW A B) ([],0,0)=some (setL n fun j=>(j:Int) ∈ A ∨ (j:Int) ∈ B):=by
 have lA:=eW (oR hA) hbA
 have lB:=eW (oR hB) hbB
 obtain ⟨r,h1,h2⟩:=dW (f:=aW A B) (fun s:List Int × Int × Int=>∃ i k:Nat,s.2=((i:Int),(k:Int))∧i ≤ A.length∧k ≤ B.length∧s.1.Pairwise (· < ·)∧(∀ x,x ∈ s.1 ↔ x ∈ A.take i ∨ x ∈ B.take k)∧(∀ x ∈ s.1,∀ y ∈ A.drop i,x < y)∧∀ x ∈ s.1,∀ y ∈ B.drop k,x < y) (fun s=>(A.length - s.2.1.toNat) + (B.length - s.2.2.toNat)) (fun r=>r=setL n fun j=>(j:Int) ∈ A ∨ (j:Int) ∈ B) (by
  rintro ⟨o,p⟩ ⟨i,k,rfl,hi,hk,ho,hm,h3,h4⟩
  simp only at ho hm h3 h4
  have hob:∀ x ∈ o,0 ≤ x∧x < (n:Int):=fun x hx=>by
   rcases (hm x).1 hx with h | h
   ·exact hbA x (List.mem_of_mem_take h)
   ·exact hbB x (List.mem_of_mem_take h)
  have hol:=eW (oR ho) hob
  have happ:∀ a:Int,appI 8 o [a]=some (o ++ [a]):=fun a=>app1 (by omega) (by omega)
  have di:decide ((i:Int) < (A.length:Int))=decide (i < A.length):=decide_eq_decide.2 (by omega)
  have dk:decide ((k:Int) < (B.length:Int))=decide (k < B.length):=decide_eq_decide.2 (by omega)
  have dk2:decide ((k:Int) ≥ (B.length:Int))=decide (¬ k < B.length):=decide_eq_decide.2 (by omega)
  have wi:IntKind.wrap .i64 ((i:Int) + 1)=((i + 1:Nat):Int):=by rw [w64 (by omega) (by omega)];omega
  have wk:IntKind.wrap .i64 ((k:Int) + 1)=((k + 1:Nat):Int):=by rw [w64 (by omega) (by omega)];omega
  -- what the step takes
  have takeA:∀ (hia:i < A.length),(∀ hkb:k < B.length,A[i] < B[k])→∃ b,aW A B (o,(i:Int),(k:Int))=some (.inl b)∧(∃ i' k':Nat,b.2=((i':Int),(k':Int))∧i' ≤ A.length∧k' ≤ B.length∧b.1.Pairwise (· < ·)∧(∀ x,x ∈ b.1 ↔ x ∈ A.take i' ∨ x ∈ B.take k')∧(∀ x ∈ b.1,∀ y ∈ A.drop i',x < y)∧∀ x ∈ b.1,∀ y ∈ B.drop k',x < y)∧(A.length - b.2.1.toNat) + (B.length - b.2.2.toNat) < (A.length - i) + (B.length - k):=by
   intro hia hab
   refine ⟨(o ++ [A[i]],((i + 1:Nat):Int),(k:Int)),?_,⟨i + 1,k,rfl,by omega,hk,snoc_lt ho fun x hx=>h3 x hx _ (rD hia),fun x=>?_,fun x hx y hy=>?_,fun x hx y hy=>?_⟩,by simp only [Int.toNat_natCast];omega⟩
   ·by_cases hkb:k < B.length
    ·have:=hab hkb
     simp [aW,di,dk,dk2,hia,hkb,aE hia,aE hkb,happ,wi,this,show ¬ B.length ≤ k by omega]
    ·simp [aW,di,dk,dk2,hia,hkb,aE hia,happ,wi,show B.length ≤ k by omega]
   ·simp only [List.mem_append,List.mem_singleton,hm,gJ hia]
    constructor
    ·rintro ((h | h) | h)
     ·exact .inl (.inl h)
     ·exact .inr h
     ·exact .inl (.inr h)
    ·rintro ((h | h) | h)
     ·exact .inl (.inl h)
     ·exact .inr h
     ·exact .inl (.inr h)
   ·rcases List.mem_append.1 hx with h | h
    ·exact h3 x h y (gW hy)
    ·simp only [List.mem_singleton] at h;subst h;exact drop_gt hA hia hy
   ·rcases List.mem_append.1 hx with h | h
    ·exact h4 x h y hy
    ·simp only [List.mem_singleton] at h;subst h
     have hkb:k < B.length:=by
      rcases Nat.lt_or_ge k B.length with h | h
      ·exact h
      ·rw [List.drop_eq_nil_of_le h] at hy;cases hy
     have:=hab hkb
     have:=drop_ge hB hkb hy
     omega
  by_cases hend:i < A.length ∨ k < B.length
  ·left
   by_cases hkb:k < B.length
   ·by_cases hia:i < A.length
    ·by_cases hlt:A[i] < B[k]
     ·exact takeA hia fun _=>hlt
     ·by_cases heq:A[i]=B[k]
      ·refine ⟨(o ++ [B[k]],((i + 1:Nat):Int),((k + 1:Nat):Int)),?_,⟨i + 1,k + 1,rfl,by omega,by omega,snoc_lt ho fun x hx=>h4 x hx _ (rD hkb),fun x=>?_,fun x hx y hy=>?_,fun x hx y hy=>?_⟩,by simp only [Int.toNat_natCast];omega⟩
       ·simp [aW,di,dk,dk2,hia,hkb,aE hia,aE hkb,happ,wi,wk,heq,show ¬ B.length ≤ k by omega]
       ·simp only [List.mem_append,List.mem_singleton,hm,gJ hia,gJ hkb,heq]
        constructor
        ·rintro ((h | h) | h)
         ·exact .inl (.inl h)
         ·exact .inr (.inl h)
         ·exact .inr (.inr h)
        ·rintro ((h | h) | (h | h))
         ·exact .inl (.inl h)
         ·exact .inr h
         ·exact .inl (.inr h)
         ·exact .inr h
       ·rcases List.mem_append.1 hx with h | h
        ·exact h3 x h y (gW hy)
        ·simp only [List.mem_singleton] at h;subst h;rw [← heq];exact drop_gt hA hia hy
       ·rcases List.mem_append.1 hx with h | h
        ·exact h4 x h y (gW hy)
        ·simp only [List.mem_singleton] at h;subst h;exact drop_gt hB hkb hy
      ·refine ⟨(o ++ [B[k]],(i:Int),((k + 1:Nat):Int)),?_,⟨i,k + 1,rfl,hi,by omega,snoc_lt ho fun x hx=>h4 x hx _ (rD hkb),fun x=>?_,fun x hx y hy=>?_,fun x hx y hy=>?_⟩,by simp only [Int.toNat_natCast];omega⟩
       ·simp [aW,di,dk,dk2,hia,hkb,aE hia,aE hkb,happ,wi,wk,heq,hlt,show ¬ B.length ≤ k by omega]
       ·simp only [List.mem_append,List.mem_singleton,hm,gJ hkb,or_assoc]
       ·rcases List.mem_append.1 hx with h | h
        ·exact h3 x h y hy
        ·simp only [List.mem_singleton] at h;subst h
         have:=drop_ge hA hia hy
         omega
       ·rcases List.mem_append.1 hx with h | h
        ·exact h4 x h y (gW hy)
        ·simp only [List.mem_singleton] at h;subst h;exact drop_gt hB hkb hy
    ·refine ⟨(o ++ [B[k]],(i:Int),((k + 1:Nat):Int)),?_,⟨i,k + 1,rfl,hi,by omega,snoc_lt ho fun x hx=>h4 x hx _ (rD hkb),fun x=>?_,fun x hx y hy=>?_,fun x hx y hy=>?_⟩,by simp only [Int.toNat_natCast];omega⟩
     ·simp [aW,di,dk,dk2,hia,hkb,aE hkb,happ,wi,wk,show ¬ B.length ≤ k by omega]
     ·simp only [List.mem_append,List.mem_singleton,hm,gJ hkb,or_assoc]
     ·rw [List.drop_eq_nil_of_le (by omega)] at hy;cases hy
     ·rcases List.mem_append.1 hx with h | h
      ·exact h4 x h y (gW hy)
      ·simp only [List.mem_singleton] at h;subst h;exact drop_gt hB hkb hy
   ·exact takeA (by omega) fun h=>absurd h hkb
  ·right
   have hi':i=A.length:=by omega
   have hk':k=B.length:=by omega
   refine ⟨o,by simp [aW,hi',hk'],?_⟩
   refine setL_eq ho fun x=>?_
   rw [hm,hi',hk',List.take_length,List.take_length]
   constructor
   ·intro h
    have hb:0 ≤ x∧x < (n:Int):=h.elim (hbA x) (hbB x)
    refine ⟨hb.1,hb.2,?_⟩
    rwa [show ((x.toNat:Nat):Int)=x by omega]
   ·rintro ⟨a1,_,a3⟩
    rwa [show ((x.toNat:Nat):Int)=x by omega] at a3) ([],0,0) ⟨0,0,rfl,by omega,by omega,by simp,fun x=>by simp,fun x hx=>by simp at hx,fun x hx=>by simp at hx⟩
 rw [h1,h2]
def iM (p:GProgram) (fn:Int):List Int:=if inB fn 0 ((p.Fns.length:Int) - 1)=true then (match p.Fns[fn.toNat]? with | some f=>if f.Ret = -1 then [f.Body] else [f.Body,f.Ret] | none=>[]) else []
noncomputable def eX (p:GProgram) (fn:Int):List Int:=setL p.Nodes.length fun j=>∃ r ∈ iM p fn,(j:Int) ∈ bV p.Nodes r
theorem nodesB_bnd {p:GProgram} {fn x:Int} (h:x ∈ eX p fn):0 ≤ x∧x < p.Nodes.length:=⟨(mem_setL.1 h).1,(mem_setL.1 h).2.1⟩
theorem impl_roots_eq (p:GProgram) (hp:p.Fns.length ≤ 1048576) (fn:Int):lW p fn=some (iM p fn):=by
 unfold lW iM
 simp only [bO,Option.bind_some,gI hp]
 cases hi:inB fn 0 ((p.Fns.length:Int) - 1) with
 | false=>rfl
 | true =>
  have hi':=inB_iff.1 hi
  have hlt:fn.toNat < p.Fns.length:=by omega
  simp only [Bool.not_true,Bool.false_eq_true,if_false,if_true]
  rw [bU hi'.1 (by omega),List.getElem?_eq_getElem hlt]
  simp only [Option.bind_some]
  by_cases hr:p.Fns[fn.toNat].Ret = -1
  ·simp [hr]
  ·have happ:appI 8 [p.Fns[fn.toNat].Body] [p.Fns[fn.toNat].Ret]=some ([p.Fns[fn.toNat].Body] ++ [p.Fns[fn.toNat].Ret]):=app1 (by simp) (by omega)
   simp [hr,happ]
theorem mem_foldU (nodes:List GNode) (x:Int):∀ (rs s:List Int),x ∈ rs.foldl (fun o r=>(bV nodes r).foldl addL o) s ↔ x ∈ s ∨ ∃ r ∈ rs,x ∈ bV nodes r
 | [],s=>by simp
 | r :: rs,s=>by
  rw [List.foldl_cons,mem_foldU nodes x rs,eI]
  simp only [List.mem_cons,exists_eq_or_imp,or_assoc]
theorem rootsB_len (p:GProgram) (fn:Int):(iM p fn).length ≤ 2:=by
 unfold iM
 split
 ·split
  ·split<;>simp
  ·simp
 ·simp
theorem impl_fnNodes_eq (p:GProgram) (hn:p.Nodes.length ≤ 1048576) (hp:p.Fns.length ≤ 1048576) (fn:Int):iY p fn=some (eX p fn):=by
 unfold iY
 rw [impl_roots_eq p hp]
 simp only [Option.bind_some]
 have hrl:=rootsB_len p fn
 have:=bB (iM p fn) (fun (o:List Int) k=>(o,(k:Int))) (fun k o=>o.Nodup∧∀ x ∈ o,0 ≤ x∧x < (p.Nodes.length:Int)) (fun o r=>.inl ((bV p.Nodes r).foldl addL o)) id (cL p (iM p fn)) (fun o k hk hI=>by
  left
  refine ⟨_,rfl,?_,jP _ hI.1,foldAdd_bnd hI.2 fun x hx=>gZ hx⟩
  have hul:=eW (n:=p.Nodes.length) (oR (underB_lt p.Nodes (iM p fn)[k])) fun x hx=>gZ hx
  simp only [cL,aB hk,if_true,aE hk,Option.bind_some,qR p hn]
  generalize hu:bV p.Nodes (iM p fn)[k]=U at *
  rw [add_loop p.Nodes.length U (fun m hm=>by rw [← hu] at hm;exact gZ hm) (dL U) (fun o=>o) (fun o j hj ho=>by
   have happ:appI 8 o [U[j]]=some (o ++ [U[j]]):=app1 (by omega) (by omega)
   simp only [dL,aB hj,if_true,aE hj,Option.bind_some,qU o _ (by omega),aN hj (show U.length ≤ 1048576 by omega),happ]
   unfold addL
   cases o.contains U[j]<;>rfl) (fun o=>by simp [dL]) o hI.1 hI.2]
  simp only [Option.bind_some,aN hk (show (iM p fn).length ≤ 1048576 by omega)]) (fun o _=>by simp [cL]) [] ⟨by simp,fun x hx=>by simp at hx⟩
 rw [bM] at this
 have h2:aI (cL p (iM p fn)) ([],0)=some ((iM p fn).foldl (fun o r=>(bV p.Nodes r).foldl addL o) []):=this
 rw [h2]
 simp only [Option.bind_some]
 generalize ho:(iM p fn).foldl (fun o r=>(bV p.Nodes r).foldl addL o) []=o
 have hnd:o.Nodup:=by
  rw [← ho]
  have key:∀ (rs s:List Int),s.Nodup→(rs.foldl (fun o r=>(bV p.Nodes r).foldl addL o) s).Nodup:=by
   intro rs
   induction rs with
   | nil=>intro s h;exact h
   | cons r rs ih=>intro s h;rw [List.foldl_cons];exact ih _ (jP _ h)
  exact key _ _ (by simp)
 have hmem:∀ x,x ∈ o ↔ 0 ≤ x∧x < (p.Nodes.length:Int)∧∃ r ∈ iM p fn,((x.toNat:Nat):Int) ∈ bV p.Nodes r:=by
  intro x
  rw [← ho,mem_foldU]
  constructor
  ·rintro (h | ⟨r,h1,h2⟩)
   ·simp at h
   ·have:=gZ h2
    exact ⟨this.1,this.2,r,h1,by rwa [show ((x.toNat:Nat):Int)=x by omega]⟩
  ·rintro ⟨h1,_,r,h3,h4⟩
   exact .inr ⟨r,h3,by rwa [show ((x.toNat:Nat):Int)=x by omega] at h4⟩
 have hol:o.length ≤ p.Nodes.length:=eW hnd fun x hx=>⟨((hmem x).1 hx).1,((hmem x).1 hx).2.1⟩
 rw [sort_some (by omega)]
 simp only [Option.bind_some]
 rw [sort_setL (n:=p.Nodes.length) (P:=fun j=>∃ r ∈ iM p fn,(j:Int) ∈ bV p.Nodes r) hnd hmem]
 rfl
theorem spec_l07All_eq (p:GProgram) (hn:p.Nodes.length ≤ 1048576) (hp:p.Fns.length ≤ 1048576) (fn:Int):jW p fn=some (eX p fn):=by
 unfold jW eX iM
 simp only [dC,Option.bind_some,gI hp]
 cases hi:inB fn 0 ((p.Fns.length:Int) - 1) with
 | false =>
  simp only [Bool.not_false,if_true,Bool.false_eq_true,if_false]
  congr 1
  have:∀ x,x ∉ setL p.Nodes.length fun j=>∃ r ∈ ([]:List Int),(j:Int) ∈ bV p.Nodes r:=by
   intro x hx
   obtain ⟨_,_,r,hr,_⟩:=mem_setL.1 hx
   cases hr
  exact (List.eq_nil_iff_forall_not_mem.2 this).symm
 | true =>
  have hi':=inB_iff.1 hi
  have hlt:fn.toNat < p.Fns.length:=by omega
  simp only [Bool.not_true,Bool.false_eq_true,if_false,if_true]
  rw [bU hi'.1 (by omega),List.getElem?_eq_getElem hlt]
  simp only [Option.bind_some,pZ p hn]
  generalize p.Fns[fn.toNat]=f
  rw [merge_loop p.Nodes.length hn _ _ (underB_lt _ _) (underB_lt _ _) (fun x hx=>gZ hx) (fun x hx=>gZ hx)]
  simp only [Option.bind_some]
  congr 1
  refine setL_congr fun j hj=>?_
  by_cases hr:f.Ret = -1
  ·have h0:bV p.Nodes f.Ret=[]:=by
    have hd:rE p.Nodes f.Ret=0:=by
     unfold rE
     rw [hr,if_neg (by omega)]
    unfold bV
    rw [if_pos hd]
   rw [if_pos hr,h0]
   simp
  ·rw [if_neg hr]
   simp
end Go.OM
namespace Go.OM
theorem fnAtB_bnd (p:GProgram) (nm:ByteArray):dX p nm = -1 ∨ (0 ≤ dX p nm∧dX p nm < p.Fns.length):=by
 unfold dX
 cases h:(List.range p.Fns.length).findSome? (fnAtQ p nm) with
 | none=>exact .inl rfl
 | some r =>
  right
  obtain ⟨k,hk,hr⟩:=List.exists_of_findSome?_eq_some h
  have:=List.mem_range.1 hk
  unfold fnAtQ at hr
  split at hr
  ·split at hr
   ·have:=Option.some.inj hr
    simp only [Option.getD_some]
    omega
   ·cases hr
  ·cases hr
def iE (p:GProgram) (o:List Int) (e:Int):List Int:=match p.Nodes[e.toNat]? with
 | some x=>if x.Kind=12 then (if 0 ≤ dX p x.Name then addL o (dX p x.Name) else o) else o
 | none=>o
noncomputable def fO (p:GProgram) (fn:Int):List Int:=(eX p fn).foldl (iE p) []
structure CInv (p:GProgram) (o:List Int):Prop where
 nd:o.Nodup
 bnd:∀ x ∈ o,0 ≤ x∧x < (p.Fns.length:Int)
theorem CInv.step {p:GProgram} {o:List Int} (h:CInv p o) (e:Int):CInv p (iE p o e):=by
 unfold iE
 split
 ·split
  ·split
   ·rename_i x _ _ hge
    refine ⟨addL_nodup h.nd _,fun y hy=>?_⟩
    rcases mem_addL.1 hy with hy | hy
    ·exact h.bnd y hy
    ·subst hy
     rcases fnAtB_bnd p x.Name with hb | hb
     ·omega
     ·exact hb
   ·exact h
  ·exact h
 ·exact h
theorem callsB_inv (p:GProgram) (fn:Int):CInv p (fO p fn):=by
 unfold fO
 have key:∀ (l o:List Int),CInv p o→CInv p (l.foldl (iE p) o):=by
  intro l
  induction l with
  | nil=>intro o h;exact h
  | cons e l ih=>intro o h;exact ih _ (h.step e)
 exact key _ _ ⟨by simp,fun x hx=>by simp at hx⟩
theorem call_loop {ρ:Type} (p:GProgram) (fn:Int) (f:List Int × Int→Option ((List Int × Int) ⊕ ρ)) (fin:List Int→ρ)
  (hf:∀ (o:List Int) (k:Nat) (hk:k < (eX p fn).length),o.length ≤ p.Fns.length→f (o,k)=some (.inl (iE p o (eX p fn)[k],((k + 1:Nat):Int))))
  (he:∀ o,f (o,(eX p fn).length)=some (.inr (fin o))):aI f ([],0)=some (fin (fO p fn)):=by
 have:=bB (eX p fn) (fun (o:List Int) k=>(o,(k:Int))) (fun k o=>CInv p o) (fun o e=>.inl (iE p o e)) fin f (fun o k hk hI=>by
  left
  exact ⟨_,rfl,hf o k hk (eW hI.nd hI.bnd),hI.step _⟩) (fun o _=>he o) [] ⟨by simp,fun x hx=>by simp at hx⟩
 rw [bM] at this
 exact this
theorem impl_CallsOf_eq (p:GProgram) (hn:p.Nodes.length ≤ 1048576) (hp:p.Fns.length ≤ 1048576) (fn:Int):jD p fn=some (fO p fn):=by
 unfold jD
 rw [impl_fnNodes_eq p hn hp]
 simp only [Option.bind_some]
 have hnl:(eX p fn).length ≤ 1048576:=Nat.le_trans (setL_len _ _) hn
 rw [call_loop p fn (dM p (eX p fn)) (fun o=>o) (fun o k hk ho=>by
  have hb:=nodesB_bnd (List.getElem_mem hk)
  have hlt:(eX p fn)[k].toNat < p.Nodes.length:=by omega
  have hge:getI p.Nodes (eX p fn)[k]=some p.Nodes[(eX p fn)[k].toNat]:=bU hb.1 hb.2
  simp only [dM,aB hk,if_true,aE hk,Option.bind_some,hge,kU p _ hp,aN hk hnl]
  unfold iE
  rw [List.getElem?_eq_getElem hlt]
  generalize p.Nodes[(eX p fn)[k].toNat]=x
  have happ:appI 8 o [dX p x.Name]=some (o ++ [dX p x.Name]):=app1 (by omega) (by omega)
  simp only [qU o _ (by omega),Option.bind_some,happ]
  by_cases h12:x.Kind=12
  ·rw [if_pos (by simpa using h12),if_pos h12]
   by_cases h0:0 ≤ dX p x.Name
   ·have d:decide (dX p x.Name ≥ 0)=true:=by simpa using h0
    rw [d,if_pos h0]
    unfold addL
    cases o.contains (dX p x.Name)<;>rfl
   ·have d:decide (dX p x.Name ≥ 0)=false:=by simpa using h0
    rw [d,if_neg h0];rfl
  ·rw [if_neg (by simpa using h12),if_neg h12]) (fun o=>by simp [dM])]
 rfl
theorem spec_CallsOf_eq (p:GProgram) (hn:p.Nodes.length ≤ 1048576) (hp:p.Fns.length ≤ 1048576) (fn:Int):iL p fn=some (fO p fn):=by
 unfold iL
 rw [spec_l07All_eq p hn hp]
 simp only [Option.bind_some]
 have hnl:(eX p fn).length ≤ 1048576:=Nat.le_trans (setL_len _ _) hn
 rw [call_loop p fn (dE p (eX p fn)) (fun o=>o) (fun o k hk ho=>by
  have hb:=nodesB_bnd (List.getElem_mem hk)
  have hlt:(eX p fn)[k].toNat < p.Nodes.length:=by omega
  have hge:getI p.Nodes (eX p fn)[k]=some p.Nodes[(eX p fn)[k].toNat]:=bU hb.1 hb.2
  simp only [dE,aB hk,if_true,aE hk,Option.bind_some,hge,nM p _ hp,aN hk hnl]
  unfold iE
  rw [List.getElem?_eq_getElem hlt]
  generalize p.Nodes[(eX p fn)[k].toNat]=x
  simp only [spec_l11Add_eq o _ (show o.length ≤ 1048576 by omega),Option.bind_some]
  by_cases h12:x.Kind=12
  ·rw [if_neg (by simpa using h12),if_pos h12]
   by_cases h0:0 ≤ dX p x.Name
   ·have d:decide (dX p x.Name ≥ 0)=true:=by simpa using h0
    rw [d,if_pos h0];rfl
   ·have d:decide (dX p x.Name ≥ 0)=false:=by simpa using h0
    rw [d,if_neg h0];rfl
  ·rw [if_pos (by simpa using h12),if_neg h12]) (fun o=>by simp [dE])]
 rfl
end Go.OM
namespace Go.OM
theorem qG {p:GProgram} (h:progB p=true):1 ≤ p.Nodes.length∧p.Nodes.length ≤ 300∧1 ≤ p.Fns.length∧p.Fns.length ≤ 8∧okU p.Nodes p.Nodes.length=true:=by
 unfold progB at h
 simp only [Bool.and_eq_true,inB_iff] at h
 obtain ⟨h1,h2,h3,_⟩:=h
 exact ⟨by omega,by omega,by omega,by omega,h3⟩
end Go.OM
namespace Go.OM
def hasB (names:List ByteArray) (s:ByteArray):Bool:=names.any fun e=>sEq e s
theorem impl_hasText_eq (l:List ByteArray) (s:ByteArray) (hl:l.length ≤ 1048576):iW l s=some (hasB l s):=by
 unfold iW hasB
 rw [qM l (fun e=>sEq e s) (dK l s) (fun k h=>by
  simp only [dK,aB h,if_true,aE h,Option.bind_some,aN h hl]
  cases sEq l[k] s<;>rfl) (by simp [dK])]
 cases l.any fun e=>sEq e s<;>rfl
theorem pC (l:List ByteArray) (s:ByteArray) (hl:l.length ≤ 1048576):hE l s=some (hasB l s):=by
 unfold hE hasB
 rw [qM l (fun e=>sEq e s) (eB l s) (fun k h=>by
  simp only [eB,aB h,if_true,aE h,Option.bind_some,aN h hl]
  cases sEq l[k] s<;>rfl) (by simp [eB])]
 cases l.any fun e=>sEq e s<;>rfl
def usesB (k:Int):Bool:=inB k 2 6 || (k == 14 || k == 15)
theorem impl_uses_eq (k:Int):nZ k=some (usesB k):=by
 unfold nZ usesB
 simp only [bO,Option.bind_some]
 cases inB k 2 6 with
 | true=>rfl
 | false =>
  by_cases h:k=14
  ·subst h;rfl
  ·simp [h]
def callOk (p:GProgram) (fn:Int) (x:GNode):Bool:=inB (dX p x.Name) 0 (fn - 1) && (match p.Fns[(dX p x.Name).toNat]? with | some f=>(f.Params.length:Int) == (x.Kids.length:Int) | none=>false)
def hereB (p:GProgram) (fn:Int) (x:GNode) (names:List ByteArray):Bool:=(!(usesB x.Kind) || hasB names x.Name) && (!(x.Kind == 12) || callOk p fn x)
def lD (p:GProgram) (blk:Bool) (kid:Int) (inner:List ByteArray):List ByteArray:=if blk=true then (match p.Nodes[kid.toNat]? with | some y=>if y.Kind=13 then inner ++ [y.Name] else inner | none=>inner) else inner
def jI (p:GProgram) (rc:Int→List ByteArray→Bool) (blk:Bool):List Int→List ByteArray→Bool
 | [],_=>true
 | kid :: l,inner=>rc kid inner && jI p rc blk l (lD p blk kid inner)
def dF (p:GProgram) (fn:Int):Nat→Int→List ByteArray→Bool
 | 0,_,_=>true
 | f + 1,k,names=>match p.Nodes[k.toNat]? with
  | none=>true
  | some x=>hereB p fn x names && jI p (dF p fn f) (x.Kind == 20) x.Kids names
theorem qN (p:GProgram) (blk:Bool) (kid:Int) (inner:List ByteArray):(lD p blk kid inner).length ≤ inner.length + 1:=by
 unfold lD
 split
 ·split
  ·split
   ·simp
   ·omega
  ·omega
 ·omega
theorem fold_seenK (p:GProgram) (rc:Int→List ByteArray→Bool) (blk:Bool):∀ (l:List Int) (s:List ByteArray),
  foldE (fun s kid=>if rc kid s=true then (.inl (lD p blk kid s):List ByteArray ⊕ (Unit ⊕ Bool)) else .inr (.inr false)) (fun _=>.inl ()) l s=if jI p rc blk l s=true then .inl () else .inr false
 | [],s=>rfl
 | kid :: l,s=>by
  have ih:=fold_seenK p rc blk l (lD p blk kid s)
  by_cases h:rc kid s=true
  ·simp only [foldE,jI,h,if_true,Bool.true_and];exact ih
  ·simp only [foldE,jI,Bool.eq_false_iff.2 h,Bool.false_eq_true,if_false,Bool.false_and]
theorem app16 {l:List ByteArray} (h:l.length ≤ 100000) (x:ByteArray):appI 16 l [x]=some (l ++ [x]):=app1g (by omega) (by omega)
theorem lE (p:GProgram) (hF:p.Fns.length ≤ 1048576) (hu:okU p.Nodes p.Nodes.length=true) (fn:Nat) (hfn:fn < p.Fns.length) :
  ∀ (f D:Nat) (k:Int) (names:List ByteArray),0 ≤ k→k < p.Nodes.length→dval p.Nodes k.toNat ≤ D→D ≤ f→names.length + 12 * D ≤ 1000→cT f p fn k names=some (dF p fn D k names)
 | 0,D,k,names,h0,h1,h2,h3,h4=>by
  have:=eT p.Nodes k.toNat
  omega
 | f + 1,D,k,names,h0,h1,h2,h3,h4=>by
  have hp:=eT p.Nodes k.toNat
  cases D with
  | zero=>omega
  | succ D =>
  have hk:k.toNat < p.Nodes.length:=by omega
  have hx:p.Nodes[k.toNat]? = some p.Nodes[k.toNat]:=List.getElem?_eq_getElem hk
  have hnb:=(gM hu hk).1
  have hge:getI p.Nodes k=some p.Nodes[k.toNat]:=bU h0 (by omega)
  have hkl:=cR hnb hx
  have hkb:=fG hnb hx
  have hdk:∀ kid ∈ p.Nodes[k.toNat].Kids,dval p.Nodes kid.toNat ≤ D:=fun kid hm=>by
   have:=rC hnb hx hm
   omega
  show kJ (cT f) p fn k names=_
  unfold kJ
  simp only [dF,hx,hge,Option.bind_some,impl_uses_eq,impl_hasText_eq names _ (show names.length ≤ 1048576 by omega)]
  generalize hgx:p.Nodes[k.toNat]=x at *
  have hw:IntKind.wrap .i64 ((fn:Int) - 1)=(fn:Int) - 1:=w64 (by omega) (by omega)
  have hkids:aI (eY (cT f) p fn x) (names,0)=some (if jI p (dF p fn D) (x.Kind == 20) x.Kids names=true then .inl () else .inr false):=by
   rw [← fold_seenK]
   refine bB x.Kids (fun (s:List ByteArray) k=>(s,(k:Int))) (fun j s=>s.length ≤ names.length + j) _ _ (eY (cT f) p fn x) (fun s j hj hI=>?_) (fun s _=>by simp [eY]) names (by simp)
   have hm:=List.getElem_mem hj
   have hb:=hkb _ hm
   have hrc:=lE p hF hu fn hfn f D x.Kids[j] s hb.1 (by omega) (hdk _ hm) (by omega) (by omega)
   simp only [eY,aB hj,if_true,aE hj,Option.bind_some,hrc]
   cases hs:dF p fn D x.Kids[j] s with
   | false =>
    right
    exact ⟨.inr false,by simp,by simp⟩
   | true =>
    left
    have hlt:(x.Kids[j]).toNat < p.Nodes.length:=by omega
    have hgk:getI p.Nodes x.Kids[j]=some p.Nodes[(x.Kids[j]).toNat]:=bU hb.1 (by omega)
    have hgo:p.Nodes[(x.Kids[j]).toNat]? = some p.Nodes[(x.Kids[j]).toNat]:=List.getElem?_eq_getElem hlt
    refine ⟨lD p (x.Kind == 20) x.Kids[j] s,by simp,?_,?_⟩
    ·simp only [Bool.not_true,Bool.false_eq_true,if_false,hgk,Option.bind_some]
     unfold lD
     rw [hgo]
     cases hb20:(x.Kind == 20) with
     | false=>simp [aN hj (show x.Kids.length ≤ 1048576 by omega)]
     | true =>
      by_cases h13:(p.Nodes[(x.Kids[j]).toNat]).Kind=13
      ·simp [h13,app16 (show s.length ≤ 100000 by omega),aN hj (show x.Kids.length ≤ 1048576 by omega)]
      ·simp [h13,aN hj (show x.Kids.length ≤ 1048576 by omega)]
    ·have:=qN p (x.Kind == 20) x.Kids[j] s
     omega
  rw [hkids]
  have happ:appI 16 [] names=some names:=app_nil (by omega) (by omega)
  rw [happ]
  simp only [Option.bind_some]
  have hfin:(match (if jI p (dF p fn D) (x.Kind == 20) x.Kids names=true then (Sum.inl ():Unit ⊕ Bool) else Sum.inr false) with | Sum.inr z=>some z | Sum.inl ()=>some true)=some (jI p (dF p fn D) (x.Kind == 20) x.Kids names):=by
   cases jI p (dF p fn D) (x.Kind == 20) x.Kids names<;>rfl
  have hu1:(if usesB x.Kind=true then some (!(hasB names x.Name)) else some false)=some (!(!(usesB x.Kind) || hasB names x.Name)):=by
   cases usesB x.Kind<;>simp
  rw [hu1]
  simp only [Option.bind_some]
  unfold hereB
  cases hq:(!(usesB x.Kind) || hasB names x.Name) with
  | false=>simp
  | true =>
   simp only [Bool.not_true,Bool.false_eq_true,if_false,Bool.true_and]
   have hcall:((if (x.Kind == 12)=true then (jB p x.Name).bind fun r22=>Option.bind ((bT r22 0 (IntKind.wrap .i64 ((fn:Int) - 1))).bind fun r26=>if (!r26)=true then some true else (getI p.Fns r22).bind fun e30=>some ((e30.Params.length:Int) != (x.Kids.length:Int))) fun v31=>if v31=true then some (Sum.inr false) else some (Sum.inl ()) else some (Sum.inl ())):Option (Unit ⊕ Bool))=some (if (!(x.Kind == 12) || callOk p fn x)=true then .inl () else .inr false):=by
    cases h12:(x.Kind == 12) with
    | false=>simp
    | true =>
     simp only [if_true,kU p _ hF,bO,Option.bind_some,hw]
     unfold callOk
     cases hi:inB (dX p x.Name) 0 ((fn:Int) - 1) with
     | false=>simp
     | true =>
      have hi':=inB_iff.1 hi
      have hlt:(dX p x.Name).toNat < p.Fns.length:=by omega
      rw [bU hi'.1 (by omega),List.getElem?_eq_getElem hlt]
      by_cases he:((p.Fns[(dX p x.Name).toNat]).Params.length:Int)=(x.Kids.length:Int)
      ·simp [he]
      ·simp [he]
   rw [hcall]
   simp only [Option.bind_some]
   cases (!(x.Kind == 12) || callOk p fn x) with
   | false=>simp
   | true=>simp only [if_true,Bool.true_and];exact hfin
end Go.OM
namespace Go.OM
theorem foldl_bad (p:GProgram) (rc:Int→List ByteArray→Bool):∀ (l:List Int) (th:List ByteArray) (b:Bool),l.foldl (fun b kid=>b || !(rc kid th)) b=(b || !(jI p rc false l th))
 | [],th,b=>by simp [jI]
 | kid :: l,th,b=>by
  rw [List.foldl_cons,foldl_bad p rc l th]
  have:lD p false kid th=th:=by simp [lD]
  simp only [jI,this]
  cases b<;>cases rc kid th<;>simp
theorem jU (p:GProgram) (hF:p.Fns.length ≤ 1048576) (hu:okU p.Nodes p.Nodes.length=true) (fn:Nat) (hfn:fn < p.Fns.length) :
  ∀ (f D:Nat) (k:Int) (th:List ByteArray) (b:Bool),0 ≤ k→k < p.Nodes.length→(∀ x,p.Nodes[k.toNat]? = some x→nD x.Kind=true)→dval p.Nodes k.toNat ≤ D→D ≤ f→th.length ≤ 1000 →
   aP f ⟨p,fn,th,b⟩ k=some ⟨p,fn,th,b || !(dF p fn D k th)⟩
 | 0,D,k,th,b,h0,h1,hv,h2,h3,h4=>by
  have:=eT p.Nodes k.toNat
  omega
 | f + 1,D,k,th,b,h0,h1,hv,h2,h3,h4=>by
  have hp:=eT p.Nodes k.toNat
  cases D with
  | zero=>omega
  | succ D =>
  have hk:k.toNat < p.Nodes.length:=by omega
  have hx:p.Nodes[k.toNat]? = some p.Nodes[k.toNat]:=List.getElem?_eq_getElem hk
  have hnb:=(gM hu hk).1
  have hge:getI p.Nodes k=some p.Nodes[k.toNat]:=bU h0 (by omega)
  have hkl:=cR hnb hx
  have hkb:=fG hnb hx
  have hdk:∀ kid ∈ p.Nodes[k.toNat].Kids,dval p.Nodes kid.toNat ≤ D:=fun kid hm=>by
   have:=rC hnb hx hm
   omega
  have hvk:=hv _ hx
  have hkv:∀ kid ∈ p.Nodes[k.toNat].Kids,∀ y,p.Nodes[kid.toNat]? = some y→nD y.Kind=true:=by
   intro kid hm y hy
   obtain ⟨i,hi,rfl⟩:=List.mem_iff_getElem.1 hm
   obtain ⟨_,_,_,g3,_⟩:=kB hnb
   obtain ⟨_,_,z,hz,hfit⟩:=g3 i hi
   rw [hy] at hz
   injection hz with hz
   subst hz
   have hv1:=inB_iff.1 hvk
   unfold qY at hfit
   rw [if_neg (by omega),if_neg (by omega),if_neg (by omega)] at hfit
   exact hfit
  show bW (aP f) ⟨p,fn,th,b⟩ k=_
  unfold bW
  simp only [dF,hx,hge,Option.bind_some]
  generalize hgx:p.Nodes[k.toNat]=x at *
  have hv1:=inB_iff.1 hvk
  have hloop:aI (aV (aP f) x) (0,(⟨p,fn,th,b⟩:Gl07Seen))=some ⟨p,fn,th,b || !(jI p (dF p fn D) false x.Kids th)⟩:=by
   have:=bB x.Kids (fun (b:Bool) j=>((j:Int),(⟨p,fn,th,b⟩:Gl07Seen))) (fun _ _=>True) (fun b kid=>.inl (b || !(dF p fn D kid th))) (fun b=>(⟨p,fn,th,b⟩:Gl07Seen)) (aV (aP f) x) (fun b j hj _=>by
    left
    have hm:=List.getElem_mem hj
    have hb:=hkb _ hm
    refine ⟨_,rfl,?_,trivial⟩
    simp only [aV,aB hj,if_true,aE hj,Option.bind_some,jU p hF hu fn hfn f D x.Kids[j] th b hb.1 (by omega) (hkv _ hm) (hdk _ hm) (by omega) h4,aN hj (show x.Kids.length ≤ 1048576 by omega)]) (fun b _=>by simp [aV]) b trivial
   rw [bM,foldl_bad p] at this
   exact this
  rw [hloop]
  have h20:(x.Kind == 20)=false:=by simp;omega
  rw [h20]
  simp only [Option.bind_some]
  generalize hB:jI p (dF p fn D) false x.Kids th=B
  have hhas:=pC th x.Name (show th.length ≤ 1048576 by omega)
  by_cases h26:2 ≤ x.Kind∧x.Kind ≤ 6
  ·have hcond:(if (x.Kind == 2)=true then some (x.Kind == 2) else if (x.Kind == 3)=true then some (x.Kind == 3) else if (x.Kind == 4)=true then some (x.Kind == 4) else if (x.Kind == 5)=true then some (x.Kind == 5) else some (x.Kind == 6))=some true:=by
    have:x.Kind=2 ∨ x.Kind=3 ∨ x.Kind=4 ∨ x.Kind=5 ∨ x.Kind=6:=by omega
    rcases this with e | e | e | e | e<;>simp [e]
   rw [hcond]
   have hu1:usesB x.Kind=true:=by
    unfold usesB
    rw [inB_iff.2 h26];rfl
   have h12:(x.Kind == 12)=false:=by simp;omega
   simp only [Option.bind_some,if_true,hhas,hereB,hu1,h12,Bool.not_true,Bool.false_or,Bool.not_false,Bool.true_or,Bool.and_true]
   cases b<;>cases B<;>cases hasB th x.Name<;>simp
  ·have hcond:(if (x.Kind == 2)=true then some (x.Kind == 2) else if (x.Kind == 3)=true then some (x.Kind == 3) else if (x.Kind == 4)=true then some (x.Kind == 4) else if (x.Kind == 5)=true then some (x.Kind == 5) else some (x.Kind == 6))=some false:=by
    have n2:¬ x.Kind=2:=by omega
    have n3:¬ x.Kind=3:=by omega
    have n4:¬ x.Kind=4:=by omega
    have n5:¬ x.Kind=5:=by omega
    have n6:¬ x.Kind=6:=by omega
    simp [n2,n3,n4,n5,n6]
   rw [hcond]
   have hu1:usesB x.Kind=false:=by
    unfold usesB
    have e1:inB x.Kind 2 6=false:=by
     rw [Bool.eq_false_iff];intro h;exact h26 (inB_iff.1 h)
    have e2:(x.Kind == 14)=false:=by simp;omega
    have e3:(x.Kind == 15)=false:=by simp;omega
    rw [e1,e2,e3];rfl
   simp only [Option.bind_some,Bool.false_eq_true,if_false,hereB,hu1,Bool.not_false,Bool.true_or,Bool.true_and]
   by_cases h12:x.Kind=12
   ·have e12:(x.Kind == 12)=true:=by simpa using h12
    simp only [e12,if_true,nM p _ hF,Option.bind_some,Bool.not_true,Bool.false_or]
    unfold callOk
    rcases fnAtB_bnd p x.Name with hm1 | ⟨g0,g1⟩
    ·have hi:inB (dX p x.Name) 0 ((fn:Int) - 1)=false:=by
      rw [Bool.eq_false_iff];intro h;have:=inB_iff.1 h;omega
     rw [hi]
     have hlt:decide (dX p x.Name < 0)=true:=by simp [hm1]
     rw [hlt]
     cases b<;>cases B<;>simp
    ·have hlt:decide (dX p x.Name < 0)=false:=by simp only [decide_eq_false_iff_not];omega
     rw [hlt]
     by_cases hge2:dX p x.Name ≥ fn
     ·have hi:inB (dX p x.Name) 0 ((fn:Int) - 1)=false:=by
       rw [Bool.eq_false_iff];intro h;have:=inB_iff.1 h;omega
      rw [hi,decide_eq_true hge2]
      cases b<;>cases B<;>simp
     ·have hi:inB (dX p x.Name) 0 ((fn:Int) - 1)=true:=inB_iff.2 (by omega)
      have hlt2:(dX p x.Name).toNat < p.Fns.length:=by omega
      rw [hi,decide_eq_false hge2,bU g0 (by omega),List.getElem?_eq_getElem hlt2]
      cases b<;>cases B<;>simp<;>rfl
   ·have e12:(x.Kind == 12)=false:=by simpa using h12
    simp only [e12,Bool.false_eq_true,if_false,Bool.not_false,Bool.true_or,Bool.true_and]
end Go.OM
namespace Go.OM
def iN (p:GProgram) (kids:List Int) (th:List ByteArray):List ByteArray:=kids.foldl (fun th kid=>lD p true kid th) th
theorem fold_blk (p:GProgram) (rc:Int→List ByteArray→Bool):∀ (l:List Int) (th:List ByteArray) (b:Bool),l.foldl (fun (s:List ByteArray × Bool) kid=>(lD p true kid s.1,s.2 || !(rc kid s.1))) (th,b)=(iN p l th,b || !(jI p rc true l th))
 | [],th,b=>by simp [iN,jI]
 | kid :: l,th,b=>by
  rw [List.foldl_cons]
  have:=fold_blk p rc l (lD p true kid th) (b || !(rc kid th))
  rw [this]
  simp only [iN,List.foldl_cons,jI]
  cases b<;>cases rc kid th<;>simp
theorem letsOf_len (p:GProgram):∀ (l:List Int) (th:List ByteArray),(iN p l th).length ≤ th.length + l.length
 | [],th=>by simp [iN]
 | kid :: l,th=>by
  have h1:=letsOf_len p l (lD p true kid th)
  have h2:=qN p true kid th
  simp only [iN,List.foldl_cons,List.length_cons] at h1 ⊢
  omega
theorem here_no (p:GProgram) (fn:Int) (x:GNode) (th:List ByteArray) (h:x.Kind=13 ∨ 16 ≤ x.Kind):hereB p fn x th=true:=by
 unfold hereB usesB
 have e1:inB x.Kind 2 6=false:=by
  rw [Bool.eq_false_iff];intro hh;have:=inB_iff.1 hh;omega
 have e2:(x.Kind == 14)=false:=by simp;omega
 have e3:(x.Kind == 15)=false:=by simp;omega
 have e4:(x.Kind == 12)=false:=by simp;omega
 rw [e1,e2,e3,e4];rfl
theorem here_set (p:GProgram) (fn:Int) (x:GNode) (th:List ByteArray) (h:x.Kind=14 ∨ x.Kind=15):hereB p fn x th=hasB th x.Name:=by
 unfold hereB usesB
 have e4:(x.Kind == 12)=false:=by simp;omega
 have e5:(inB x.Kind 2 6 || (x.Kind == 14 || x.Kind == 15))=true:=by
  rcases h with e | e<;>simp [e]
 rw [e5,e4];simp
theorem spec_sb_main (p:GProgram) (hF:p.Fns.length ≤ 1048576) (hu:okU p.Nodes p.Nodes.length=true) (fn:Nat) (hfn:fn < p.Fns.length):∀ (f D:Nat),
  (∀ (k:Int) (x:GNode) (th:List ByteArray) (b:Bool),0 ≤ k→p.Nodes[k.toNat]? = some x→x.Kind=20→dval p.Nodes k.toNat ≤ D→D ≤ f→th.length + 12 * D ≤ 1000→(aD f).1 ⟨p,fn,th,b⟩ k=some ⟨p,fn,iN p x.Kids th,b || !(dF p fn D k th)⟩) ∧
  (∀ (k:Int) (x:GNode) (th:List ByteArray) (b:Bool),0 ≤ k→p.Nodes[k.toNat]? = some x→stepKB x.Kind=true→dval p.Nodes k.toNat ≤ D→D ≤ f→th.length + 12 * D ≤ 1000→(aD f).2 ⟨p,fn,th,b⟩ k=some ⟨p,fn,lD p true k th,b || !(dF p fn D k th)⟩)
 | 0,D=>by
  refine ⟨fun k x th b h0 hx hk h2 h3 h4=>?_,fun k x th b h0 hx hk h2 h3 h4=>?_⟩ <;>
  ·have:=eT p.Nodes k.toNat
   omega
 | f + 1,0=>by
  refine ⟨fun k x th b h0 hx hk h2 h3 h4=>?_,fun k x th b h0 hx hk h2 h3 h4=>?_⟩ <;>
  ·have:=eT p.Nodes k.toNat
   omega
 | f + 1,D + 1=>by
  obtain ⟨ihB,ihS⟩:=spec_sb_main p hF hu fn hfn f D
  have facts:∀ (k:Int) (x:GNode),0 ≤ k→p.Nodes[k.toNat]? = some x→dval p.Nodes k.toNat ≤ ((D + 1:Nat):Int)→k < p.Nodes.length∧getI p.Nodes k=some x∧x.Kids.length ≤ 12∧inB x.Kids.length (gC x.Kind).1 (gC x.Kind).2=true ∧
    ∀ (i:Nat) (hi:i < x.Kids.length),0 ≤ x.Kids[i]∧dval p.Nodes (x.Kids[i]).toNat ≤ D∧∃ y,p.Nodes[(x.Kids[i]).toNat]? = some y∧qY x.Kind i y.Kind=true:=by
   intro k x h0 hx hd
   obtain ⟨hlt,hxe⟩:=List.getElem?_eq_some_iff.1 hx
   have hnb:=(gM hu hlt).1
   obtain ⟨_,_,g2,g3,_⟩:=kB hnb
   refine ⟨by omega,?_,cR hnb hx,by rw [← hxe];exact g2,fun i hi=>?_⟩
   ·rw [bU h0 (by omega),hxe]
   ·subst hxe
    obtain ⟨q1,_,q3⟩:=g3 i hi
    have:=rC hnb hx (List.getElem_mem hi)
    exact ⟨q1.1,by omega,q3⟩
  constructor
  ·intro k x th b h0 hx hk h2 h3 h4
   obtain ⟨hkn,hge,hkl,hsh,hkid⟩:=facts k x h0 hx h2
   show bX (aD f).1 (aD f).2 ⟨p,fn,th,b⟩ k=_
   unfold bX
   have h20:(x.Kind == 20)=true:=by simpa using hk
   have hs:dF p fn (D + 1) k th=jI p (dF p fn D) true x.Kids th:=by
    simp only [dF,hx,here_no p fn x th (by omega),h20,Bool.true_and]
   rw [hs]
   have:=bB x.Kids (fun (s:List ByteArray × Bool) j=>((j:Int),(⟨p,fn,s.1,s.2⟩:Gl07Seen))) (fun j s=>s.1.length ≤ th.length + j) (fun s kid=>.inl (lD p true kid s.1,s.2 || !(dF p fn D kid s.1))) (fun s=>(⟨p,fn,s.1,s.2⟩:Gl07Seen)) (aZ (aD f).2 k) (fun s j hj hI=>by
    left
    obtain ⟨q0,q1,y,hy,hfit⟩:=hkid j hj
    have hst:stepKB y.Kind=true:=by
     unfold qY at hfit
     rwa [if_pos hk] at hfit
    refine ⟨_,rfl,?_,?_⟩
    ·simp only [aZ,hge,Option.bind_some,aB hj,if_true,aE hj,ihS x.Kids[j] y s.1 s.2 q0 hy hst q1 (by omega) (by omega),aN hj (show x.Kids.length ≤ 1048576 by omega)]
    ·have:=qN p true x.Kids[j] s.1
     simp only;omega) (fun s _=>by simp [aZ,hge]) (th,b) (by simp)
   rw [bM,fold_blk] at this
   exact this
  ·intro k x th b h0 hx hk h2 h3 h4
   obtain ⟨hkn,hge,hkl,hsh,hkid⟩:=facts k x h0 hx h2
   have hk':=inB_iff.1 hk
   have hsh':=inB_iff.1 hsh
   show cI (aD f).1 (aD f).2 ⟨p,fn,th,b⟩ k=_
   unfold cI
   have h20:(x.Kind == 20)=false:=by simp;omega
   have hs:dF p fn (D + 1) k th=(hereB p fn x th && jI p (dF p fn D) false x.Kids th):=by
    simp only [dF,hx,h20]
   rw [hs]
   have hpos:1 ≤ x.Kids.length:=by
    have:1 ≤ (gC x.Kind).1:=by
     unfold gC
     split
     ·simp
     ·split
      ·simp
      ·split
       ·simp
       ·omega
    omega
   obtain ⟨k0,rest,hks⟩:∃ k0 rest,x.Kids=k0 :: rest:=by
    match h:x.Kids with
    | []=>rw [h] at hpos;simp at hpos
    | k0 :: rest=>exact ⟨k0,rest,rfl⟩
   obtain ⟨q0,q1,y,hy,hfit⟩:=hkid 0 (by omega)
   have hk00:x.Kids[0]=k0:=by simp [hks]
   rw [hk00] at q0 q1 hy
   have hvy:nD y.Kind=true:=by
    unfold qY at hfit
    rw [if_neg (by omega),if_neg (by simp)] at hfit
    split at hfit
    ·have:y.Kind=12:=by simpa using hfit
     rw [this];rfl
    ·exact hfit
   have hg0:getI x.Kids 0=some k0:=by rw [getI_zero,hks];rfl
   have hyl:k0 < p.Nodes.length:=by
    have:=(List.getElem?_eq_some_iff.1 hy).1
    omega
   have hval:cQ ⟨p,fn,th,b⟩ k0=some ⟨p,fn,th,b || !(dF p fn D k0 th)⟩:=jU p hF hu fn hfn dG D k0 th b q0 hyl (fun z hz=>by rw [hy] at hz;injection hz with hz;rw [← hz];exact hvy) q1 (show D ≤ 1048576 by omega) (by omega)
   simp only [hge,hg0,hval,Option.bind_some]
   have hlet:lD p true k th=if x.Kind=13 then th ++ [x.Name] else th:=by
    unfold lD;simp only [if_true,hx]
   have hl0:lD p false k0 th=th:=by simp [lD]
   rw [hlet,hks]
   simp only [jI,hl0]
   have hone:(x.Kind=13 ∨ x.Kind=14 ∨ x.Kind=15 ∨ x.Kind=18 ∨ x.Kind=19)→rest=[]:=by
    intro hc
    have h1:(gC x.Kind).2=1:=by
     unfold gC
     rw [if_pos (by omega)]
    rw [h1,hks] at hsh'
    simp only [List.length_cons] at hsh'
    exact List.length_eq_zero_iff.1 (by omega)
   generalize hB:dF p fn D k0 th=B
   by_cases h13:x.Kind=13
   ·have e13:(x.Kind == 13)=true:=by simpa using h13
    have happ1:appI 16 [] th=some th:=app_nil (by omega) (by omega)
    simp only [e13,if_true,happ1,Option.bind_some,app16 (show th.length ≤ 100000 by omega),if_pos h13,here_no p fn x th (.inl h13),Bool.true_and,hone (.inl h13),jI,Bool.and_true]
   ·have e13:(x.Kind == 13)=false:=by simpa using h13
    simp only [e13,Bool.false_eq_true,if_false,if_neg h13]
    by_cases h1415:x.Kind=14 ∨ x.Kind=15
    ·have hcond:(if (x.Kind == 14)=true then some (x.Kind == 14) else some (x.Kind == 15))=some true:=by
      rcases h1415 with e | e<;>simp [e]
     rw [hcond]
     simp only [Option.bind_some,if_true,pC th x.Name (show th.length ≤ 1048576 by omega),here_set p fn x th h1415,hone (by omega),jI,Bool.and_true]
     cases b<;>cases B<;>cases hasB th x.Name<;>simp
    ·have hcond:(if (x.Kind == 14)=true then some (x.Kind == 14) else some (x.Kind == 15))=some false:=by
      rw [not_or] at h1415
      simp [h1415.1,h1415.2]
     rw [hcond]
     simp only [Option.bind_some,Bool.false_eq_true,if_false,here_no p fn x th (.inr (by omega)),Bool.true_and]
     by_cases h1617:x.Kind=16 ∨ x.Kind=17
     ·have hcond2:(if (x.Kind == 16)=true then some (x.Kind == 16) else some (x.Kind == 17))=some true:=by
       rcases h1617 with e | e<;>simp [e]
      rw [hcond2]
      simp only [Option.bind_some,if_true]
      have hlen:x.Kids.length=rest.length + 1:=by rw [hks];simp
      have:=bB rest (fun (s:Bool) j=>(((j + 1:Nat):Int),(⟨p,fn,th,s⟩:Gl07Seen))) (fun _ _=>True) (fun s kid=>.inl (s || !(dF p fn D kid th))) (fun s=>(⟨p,fn,th,s⟩:Gl07Seen)) (bH (aD f).1 x) (fun s j hj _=>by
       left
       have hj1:j + 1 < x.Kids.length:=by omega
       obtain ⟨r0,r1,z,hz,hfz⟩:=hkid (j + 1) hj1
       have hkj:x.Kids[j + 1]=rest[j]:=by simp [hks]
       rw [hkj] at r0 r1 hz
       have hz20:z.Kind=20:=by
        unfold qY at hfz
        rw [if_neg (by omega),if_pos ⟨h1617,by omega⟩] at hfz
        simpa using hfz
       have hgj:getI x.Kids ((j + 1:Nat):Int)=some rest[j]:=by rw [aE hj1,hkj]
       refine ⟨_,rfl,?_,trivial⟩
       simp only [bH,aB hj1,if_true,hgj,Option.bind_some,ihB rest[j] z th s r0 hz hz20 r1 (by omega) (by omega),aN hj1 (show x.Kids.length ≤ 1048576 by omega)]) (fun s _=>by
        have:¬ (((rest.length + 1:Nat):Int) < (x.Kids.length:Int)):=by omega
        simp only [bH,decide_eq_false this,Bool.false_eq_true,if_false]) (b || !B) trivial
      rw [bM,foldl_bad p] at this
      rw [show (((0 + 1:Nat):Int))=1 from rfl] at this
      rw [this]
      cases b<;>cases B<;>simp
     ·have hcond2:(if (x.Kind == 16)=true then some (x.Kind == 16) else some (x.Kind == 17))=some false:=by
       rw [not_or] at h1617
       simp [h1617.1,h1617.2]
      rw [hcond2]
      simp only [Option.bind_some,Bool.false_eq_true,if_false,hone (by omega),jI,Bool.and_true]
end Go.OM
namespace Go.OM
def varAtB (l:List GVar) (nm:ByteArray):Int:=((List.range l.length).findSome? fun k=>match l[k]? with
 | some v=>if sEq v.Name nm=true then some (k:Int) else none
 | none=>none).getD (-1)
theorem qP (l:List GVar) (nm:ByteArray) (hl:l.length ≤ 1048576):lY l nm=some (varAtB l nm):=by
 unfold lY varAtB
 rw [find_range l.length (fun k=>match l[k]? with
  | some v=>if sEq v.Name nm=true then some (k:Int) else none
  | none=>none) (fM l nm) (fun k h=>by
   simp only [fM,aB h,if_true,aE h,Option.bind_some,List.getElem?_eq_getElem h,aN h hl]
   cases sEq l[k].Name nm<;>rfl) (by simp [fM])]
 cases (List.range l.length).findSome? fun k=>match l[k]? with
  | some v=>if sEq v.Name nm=true then some (k:Int) else none
  | none=>none<;>rfl
theorem spec_VarAt_eq (l:List GVar) (nm:ByteArray) (hl:l.length ≤ 1048576):oL l nm=some (varAtB l nm):=qP l nm hl
def noDupB (l:List GVar):Bool:=(List.range l.length).all fun k=>match l[k]? with
 | some v=>varAtB l v.Name == k
 | none=>true
theorem noDup_loop {ρ:Type} (l:List GVar) (hl:l.length ≤ 1048576) (b:ρ) (f:Int→Option (Int ⊕ (Unit ⊕ ρ)))
  (hf:∀ (k:Nat) (h:k < l.length),f k=some (if (varAtB l l[k].Name != (k:Int))=true then .inr (.inr b) else .inl (IntKind.wrap .i64 ((k:Int) + 1)))) (he:f l.length=some (.inr (.inl ()))):aI f 0=some (if noDupB l=true then .inl () else .inr b):=by
 unfold noDupB
 refine lN l.length hl _ b f (fun k hk=>?_) he
 rw [hf k hk,List.getElem?_eq_getElem hk]
 by_cases e:varAtB l l[k].Name=k
 ·simp [e]
 ·simp [e]
theorem mM {α β:Type} (h:α→β):∀ (l:List α) (s:List β),l.foldl (fun s x=>s ++ [h x]) s=s ++ l.map h
 | [],s=>by simp
 | x :: l,s=>by rw [List.foldl_cons,mM h l];simp
def stepV (p:GProgram) (s:List GVar) (e:Int):List GVar:=match p.Nodes[e.toNat]? with
 | some y=>if y.Kind=13 then s ++ [⟨y.Name,0,e⟩] else s
 | none=>s
noncomputable def kX (p:GProgram) (f:GFn):List GVar:=(bV p.Nodes f.Body).foldl (stepV p) (f.Params.map fun x=>(⟨x.Name,x.Typ,-1⟩:GVar))
theorem under_len (nodes:List GNode) (k:Int):(bV nodes k).length ≤ nodes.length:=by
 unfold bV
 split
 ·simp
 ·unfold setL
  rw [List.length_map]
  refine Nat.le_trans (List.length_filter_le _ _) ?_
  rw [List.length_range]
  exact Nat.le_refl _
theorem stepV_len (p:GProgram) (s:List GVar) (e:Int):(stepV p s e).length ≤ s.length + 1:=by
 unfold stepV
 split
 ·split
  ·simp
  ·omega
 ·omega
theorem foldV_len (p:GProgram):∀ (l:List Int) (s:List GVar),(l.foldl (stepV p) s).length ≤ s.length + l.length
 | [],s=>by simp
 | e :: l,s=>by
  rw [List.foldl_cons]
  have h1:=foldV_len p l (stepV p s e)
  have h2:=stepV_len p s e
  simp only [List.length_cons];omega
theorem varsB_len (p:GProgram) (f:GFn) (hp:f.Params.length ≤ 3):(kX p f).length ≤ p.Nodes.length + 3:=by
 unfold kX
 have h1:=foldV_len p (bV p.Nodes f.Body) (f.Params.map fun x=>(⟨x.Name,x.Typ,-1⟩:GVar))
 have h2:=under_len p.Nodes f.Body
 rw [List.length_map] at h1
 omega
theorem pS {ρ β:Type} (f:GFn) (hp:f.Params.length ≤ 1000) (h:GParam→β) (g:List β × Int→Option ((List β × Int) ⊕ List β))
  (hf:∀ (s:List β) (k:Nat) (hk:k < f.Params.length),s.length ≤ k→g (s,(k:Int))=some (.inl (s ++ [h f.Params[k]],((k + 1:Nat):Int)))) (he:∀ s,g (s,(f.Params.length:Int))=some (.inr s)):aI g ([],0)=some (f.Params.map h):=by
 have:=bB f.Params (fun (s:List β) k=>(s,(k:Int))) (fun k s=>s.length ≤ k) (fun s x=>.inl (s ++ [h x])) id g (fun s k hk hI=>.inl ⟨_,rfl,hf s k hk hI,by simp only [List.length_append,List.length_cons,List.length_nil];omega⟩) (fun s _=>he s) [] (by simp)
 rw [bM,mM] at this
 simpa using this
theorem vars_loop (p:GProgram) (r:List Int) (hr:∀ e ∈ r,0 ≤ e∧e < p.Nodes.length) (hn:p.Nodes.length ≤ 1000) (hrl:r.length ≤ 1000) (s0:List GVar) (h0:s0.length ≤ 1000) (g:List GVar × Int→Option ((List GVar × Int) ⊕ List GVar))
  (hf:∀ (s:List GVar) (k:Nat) (hk:k < r.length) (y:GNode),s.length ≤ 100000→getI p.Nodes r[k]=some y→g (s,(k:Int))=some (.inl (if (y.Kind == 13)=true then s ++ [⟨y.Name,0,r[k]⟩] else s,((k + 1:Nat):Int)))) (he:∀ s,g (s,(r.length:Int))=some (.inr s)):aI g (s0,0)=some (r.foldl (stepV p) s0):=by
 have:=bB r (fun (s:List GVar) k=>(s,(k:Int))) (fun k s=>s.length ≤ s0.length + k) (fun s e=>.inl (stepV p s e)) id g (fun s k hk hI=>by
  left
  obtain ⟨b0,b1⟩:=hr _ (List.getElem_mem hk)
  have hlt:(r[k]).toNat < p.Nodes.length:=by omega
  refine ⟨_,rfl,?_,by have:=stepV_len p s r[k];omega⟩
  rw [hf s k hk _ (by omega) (bU b0 b1)]
  unfold stepV
  rw [List.getElem?_eq_getElem hlt]
  by_cases e:(p.Nodes[(r[k]).toNat]).Kind=13<;>simp [e]) (fun s _=>he s) s0 (by simp)
 rw [bM] at this
 exact this
theorem app32 {l:List GVar} (h:l.length ≤ 100000) (x:GVar):appI 32 l [x]=some (l ++ [x]):=app1g (by omega) (by omega)
theorem vars_main (p:GProgram) (hn:p.Nodes.length ≤ 300) (hF:p.Fns.length ≤ 1000) (i:Nat) (hi:i < p.Fns.length) (hp:p.Fns[i].Params.length ≤ 3):kM p i=some (kX p p.Fns[i])∧jY p i=some (kX p p.Fns[i]):=by
 have hw:IntKind.wrap .i64 ((p.Fns.length:Int) - 1)=(p.Fns.length:Int) - 1:=w64 (by omega) (by omega)
 have hin:inB (i:Int) 0 ((p.Fns.length:Int) - 1)=true:=inB_iff.2 (by omega)
 have hul:=under_len p.Nodes p.Fns[i].Body
 have hub:∀ e ∈ bV p.Nodes p.Fns[i].Body,0 ≤ e∧e < p.Nodes.length:=fun e he=>gZ he
 constructor
 ·unfold kM
  simp only [bO,Option.bind_some,hw,hin,Bool.not_true,Bool.false_eq_true,if_false,aE hi]
  rw [pS (ρ:=Unit) p.Fns[i] (by omega) (fun x=>(⟨x.Name,x.Typ,-1⟩:GVar)) (eP p.Fns[i]) (fun s k hk hs=>by
   simp only [eP,aB hk,if_true,aE hk,Option.bind_some,app32 (show s.length ≤ 100000 by omega),aN hk (show p.Fns[i].Params.length ≤ 1048576 by omega)]) (fun s=>by simp [eP])]
  simp only [Option.bind_some,qR p (show p.Nodes.length ≤ 1048576 by omega)]
  rw [vars_loop p _ hub (by omega) (by omega) _ (by rw [List.length_map];omega) (eN p (bV p.Nodes p.Fns[i].Body)) (fun s k hk y hs hy=>by
   simp only [eN,aB hk,if_true,aE hk,hy,Option.bind_some,app32 hs,aN hk (show (bV p.Nodes p.Fns[i].Body).length ≤ 1048576 by omega)]
   cases (y.Kind == 13)<;>simp) (fun s=>by simp [eN])]
  rfl
 ·unfold jY
  simp only [dC,Option.bind_some,hw,hin,Bool.not_true,Bool.false_eq_true,if_false,aE hi]
  rw [pS (ρ:=Unit) p.Fns[i] (by omega) (fun x=>(⟨x.Name,x.Typ,-1⟩:GVar)) (eE p.Fns[i]) (fun s k hk hs=>by
   simp only [eE,aB hk,if_true,aE hk,Option.bind_some,app32 (show s.length ≤ 100000 by omega),aN hk (show p.Fns[i].Params.length ≤ 1048576 by omega)]) (fun s=>by simp [eE])]
  simp only [Option.bind_some,pZ p (show p.Nodes.length ≤ 1048576 by omega)]
  rw [vars_loop p _ hub (by omega) (by omega) _ (by rw [List.length_map];omega) (eD p (bV p.Nodes p.Fns[i].Body)) (fun s k hk y hs hy=>by
   simp only [eD,aB hk,if_true,aE hk,hy,Option.bind_some,app32 hs,aN hk (show (bV p.Nodes p.Fns[i].Body).length ≤ 1048576 by omega)]
   cases (y.Kind == 13)<;>simp) (fun s=>by simp [eD])]
  rfl
end Go.OM
namespace Go.OM
def pnB (f:GFn):List ByteArray:=f.Params.map fun x=>x.Name
def kidsAt (p:GProgram) (k:Int):List Int:=match p.Nodes[k.toNat]? with
 | some x=>x.Kids
 | none=>[]
noncomputable def oH (p:GProgram) (i:Nat):Bool:=match p.Fns[i]? with
 | none=>true
 | some f=>noDupB (kX p f) && (dF p i 10 f.Body (pnB f) && (if f.Ret ≥ 0 then dF p i 10 f.Ret (iN p (kidsAt p f.Body) (pnB f)) else true))
noncomputable def mR (p:GProgram):Bool:=progB p && (List.range p.Fns.length).all (oH p)
structure FnFacts (p:GProgram) (f:GFn):Prop where
 par:f.Params.length ≤ 3
 b0:0 ≤ f.Body
 b1:f.Body < p.Nodes.length
 bk:∃ x,p.Nodes[f.Body.toNat]? = some x∧x.Kind=20
 r1:f.Ret < p.Nodes.length
 rv:0 ≤ f.Ret→∃ x,p.Nodes[f.Ret.toNat]? = some x∧nD x.Kind=true
theorem fn_facts {p:GProgram} (h:progB p=true) {i:Nat} (hi:i < p.Fns.length):FnFacts p p.Fns[i]:=by
 have hg:kS p i=true:=by
  unfold progB at h
  simp only [Bool.and_eq_true] at h
  exact List.all_eq_true.1 h.2.2.2.1 i (List.mem_range.2 hi)
 rw [qV hi,Bool.and_eq_true] at hg
 have hf:=hg.1
 obtain ⟨_,_,_,hr⟩:=qX hf
 unfold fnB at hf
 simp only [Bool.and_eq_true,Bool.not_eq_true',decide_eq_false_iff_not] at hf
 obtain ⟨_,h2,_,_,h5,h6⟩:=hf
 obtain ⟨b1,b2,b3⟩:=bodyB_iff.1 h5
 refine ⟨by omega,b1,b2,b3,hr,fun h0=>?_⟩
 unfold retB at h6
 split at h6
 ·simp only [beq_iff_eq] at h6;omega
 ·rw [Bool.and_eq_true] at h6
  have h7:=h6.2
  split at h7
  ·rename_i x hx;exact ⟨x,hx,h7⟩
  ·cases h7
theorem lets_loop (p:GProgram) (x:GNode) (hb:∀ kid ∈ x.Kids,0 ≤ kid∧kid < p.Nodes.length) (hl:x.Kids.length ≤ 12) (th:List ByteArray) (ht:th.length ≤ 1000):aI (bE p x) (th,0)=some (iN p x.Kids th):=by
 have:=bB x.Kids (fun (s:List ByteArray) k=>(s,(k:Int))) (fun k s=>s.length ≤ th.length + k) (fun s kid=>.inl (lD p true kid s)) id (bE p x) (fun s k hk hI=>by
  left
  obtain ⟨b0,b1⟩:=hb _ (List.getElem_mem hk)
  have hlt:(x.Kids[k]).toNat < p.Nodes.length:=by omega
  refine ⟨_,rfl,?_,by have:=qN p true x.Kids[k] s;omega⟩
  simp only [bE,aB hk,if_true,aE hk,bU b0 b1,Option.bind_some,app16 (show s.length ≤ 100000 by omega),aN hk (show x.Kids.length ≤ 1048576 by omega)]
  unfold lD
  rw [if_pos rfl,List.getElem?_eq_getElem hlt]
  by_cases e:(p.Nodes[(x.Kids[k]).toNat]).Kind=13<;>simp [e]) (fun s _=>by simp [bE]) th (by simp)
 rw [bM] at this
 exact this
theorem qT (p:GProgram) (hn:p.Nodes.length ≤ 1048576) (hF:p.Fns.length ≤ 1048576):fA p=some (mR p):=by
 unfold fA mR
 rw [impl_ProgramOk_eq p hn hF]
 simp only [Option.bind_some]
 cases hok:progB p with
 | false=>rfl
 | true =>
  obtain ⟨b1,b2,b3,b4,hu⟩:=qG hok
  simp only [Bool.not_true,Bool.false_eq_true,if_false,Bool.true_and]
  rw [lN p.Fns.length hF (oH p) false (bP p) (fun i hi=>by
   obtain ⟨f1,f2,f3,⟨x,hx,hxk⟩,f5,f6⟩:=fn_facts hok hi
   have hdb:=(gM hu (show p.Fns[i].Body.toNat < p.Nodes.length by omega))
   have hvl:=varsB_len p p.Fns[i] f1
   have hnd:iU p i=some (noDupB (kX p p.Fns[i])):=by
    unfold iU
    rw [(vars_main p (by omega) (by omega) i hi f1).1]
    simp only [Option.bind_some]
    rw [noDup_loop (kX p p.Fns[i]) (by omega) false (dJ (kX p p.Fns[i])) (fun k hk=>by
     simp only [dJ,aB hk,if_true,aE hk,Option.bind_some,qP _ _ (show (kX p p.Fns[i]).length ≤ 1048576 by omega)]
     cases (varAtB (kX p p.Fns[i]) (kX p p.Fns[i])[k].Name != (k:Int))<;>rfl) (by simp [dJ])]
    cases noDupB (kX p p.Fns[i])<;>rfl
   have hpn:aI (bF p.Fns[i]) ([],0)=some (pnB p.Fns[i]):=pS (ρ:=Unit) p.Fns[i] (by omega) (fun x=>x.Name) (bF p.Fns[i]) (fun s k hk hs=>by
    simp only [bF,aB hk,if_true,aE hk,Option.bind_some,app16 (show s.length ≤ 100000 by omega),aN hk (show p.Fns[i].Params.length ≤ 1048576 by omega)]) (fun s=>by simp [bF])
   have hpl:(pnB p.Fns[i]).length ≤ 3:=by unfold pnB;rw [List.length_map];exact f1
   have hsb:oA p i p.Fns[i].Body (pnB p.Fns[i])=some (dF p i 10 p.Fns[i].Body (pnB p.Fns[i])):=lE p hF hu i hi dG 10 _ _ f2 f3 hdb.2 (show 10 ≤ 1048576 by omega) (by omega)
   have hkb:∀ kid ∈ x.Kids,0 ≤ kid∧kid < (p.Nodes.length:Int):=fun kid hm=>by
    have:=fG hdb.1 hx kid hm
    omega
   have hkl:=cR hdb.1 hx
   have hka:kidsAt p p.Fns[i].Body=x.Kids:=by unfold kidsAt;rw [hx]
   have hgb:getI p.Nodes p.Fns[i].Body=some x:=by
    obtain ⟨hlt,he⟩:=List.getElem?_eq_some_iff.1 hx
    rw [bU f2 f3,he]
   have hlets:=lets_loop p x hkb hkl (pnB p.Fns[i]) (by omega)
   have hll:=letsOf_len p x.Kids (pnB p.Fns[i])
   unfold oH
   simp only [bP,aB hi,if_true,aE hi,List.getElem?_eq_getElem hi,hnd,hpn,hsb,hgb,hlets,Option.bind_some,hka]
   cases noDupB (kX p p.Fns[i]) with
   | false=>rfl
   | true =>
    simp only [Bool.not_true,Bool.false_eq_true,if_false,Bool.true_and]
    cases dF p i 10 p.Fns[i].Body (pnB p.Fns[i]) with
    | false=>rfl
    | true =>
     simp only [Bool.not_true,Bool.false_eq_true,if_false,Bool.true_and,decide_eq_true_eq]
     by_cases hr:p.Fns[i].Ret ≥ 0
     ·have hdr:=(gM hu (show p.Fns[i].Ret.toNat < p.Nodes.length by omega))
      have hsr:oA p i p.Fns[i].Ret (iN p x.Kids (pnB p.Fns[i]))=some (dF p i 10 p.Fns[i].Ret (iN p x.Kids (pnB p.Fns[i]))):=lE p hF hu i hi dG 10 _ _ hr f5 hdr.2 (show 10 ≤ 1048576 by omega) (by omega)
      simp only [if_pos hr,hsr,Option.bind_some]
      cases dF p i 10 p.Fns[i].Ret (iN p x.Kids (pnB p.Fns[i]))<;>rfl
     ·simp only [if_neg hr,Option.bind_some]
      rfl) (by simp [bP])]
  cases (List.range p.Fns.length).all (oH p)<;>rfl
theorem qB (p:GProgram) (hn:p.Nodes.length ≤ 1048576) (hF:p.Fns.length ≤ 1048576):eU p=some (mR p):=by
 unfold eU mR
 rw [spec_ProgramOk_eq p hn hF]
 simp only [Option.bind_some]
 cases hok:progB p with
 | false=>rfl
 | true =>
  obtain ⟨b1,b2,b3,b4,hu⟩:=qG hok
  simp only [Bool.not_true,Bool.false_eq_true,if_false,Bool.true_and]
  rw [lN p.Fns.length hF (oH p) false (bN p) (fun i hi=>by
   obtain ⟨f1,f2,f3,⟨x,hx,hxk⟩,f5,f6⟩:=fn_facts hok hi
   have hdb:=(gM hu (show p.Fns[i].Body.toNat < p.Nodes.length by omega))
   have hvl:=varsB_len p p.Fns[i] f1
   have hnd:aI (bD (kX p p.Fns[i])) 0=some (if noDupB (kX p p.Fns[i])=true then .inl () else .inr (.inr (.inr (.inr false)))) :=
    noDup_loop (kX p p.Fns[i]) (by omega) _ (bD (kX p p.Fns[i])) (fun k hk=>by
     simp only [bD,aB hk,if_true,aE hk,Option.bind_some,spec_VarAt_eq _ _ (show (kX p p.Fns[i]).length ≤ 1048576 by omega)]
     cases (varAtB (kX p p.Fns[i]) (kX p p.Fns[i])[k].Name != (k:Int))<;>rfl) (by simp [bD])
   have hpn:aI (bC p i) (0,(⟨p,i,[],false⟩:Gl07Seen))=some ⟨p,i,pnB p.Fns[i],false⟩:=by
    have:=bB p.Fns[i].Params (fun (s:List ByteArray) k=>((k:Int),(⟨p,i,s,false⟩:Gl07Seen))) (fun k s=>s.length ≤ k) (fun s x=>.inl (s ++ [x.Name])) (fun s=>(⟨p,i,s,false⟩:Gl07Seen)) (bC p i) (fun s k hk hI=>.inl ⟨_,rfl,by
     simp only [bC,aE hi,aB hk,if_true,aE hk,Option.bind_some,app16 (show s.length ≤ 100000 by omega),aN hk (show p.Fns[i].Params.length ≤ 1048576 by omega)],by simp only [List.length_append,List.length_cons,List.length_nil];omega⟩) (fun s _=>by simp [bC,aE hi]) [] (by simp)
    rw [bM,mM] at this
    simpa [pnB] using this
   have hpl:(pnB p.Fns[i]).length ≤ 3:=by unfold pnB;rw [List.length_map];exact f1
   have hsb:gK ⟨p,i,pnB p.Fns[i],false⟩ p.Fns[i].Body=some ⟨p,i,iN p x.Kids (pnB p.Fns[i]),false || !(dF p i 10 p.Fns[i].Body (pnB p.Fns[i]))⟩:=(spec_sb_main p hF hu i hi dG 10).1 _ x _ _ f2 hx hxk hdb.2 (show 10 ≤ 1048576 by omega) (by omega)
   have hkl:=cR hdb.1 hx
   have hka:kidsAt p p.Fns[i].Body=x.Kids:=by unfold kidsAt;rw [hx]
   have hll:=letsOf_len p x.Kids (pnB p.Fns[i])
   unfold oH
   simp only [bN,aB hi,if_true,(vars_main p (by omega) (by omega) i hi f1).2,hnd,Option.bind_some,List.getElem?_eq_getElem hi,hka]
   cases noDupB (kX p p.Fns[i]) with
   | false=>rfl
   | true =>
    simp only [if_true,hpn,Option.bind_some,aE hi,hsb,Bool.true_and,Bool.false_or]
    by_cases hr:p.Fns[i].Ret ≥ 0
    ·have hdr:=(gM hu (show p.Fns[i].Ret.toNat < p.Nodes.length by omega))
     obtain ⟨y,hy,hyv⟩:=f6 hr
     have hsr:∀ b,cQ ⟨p,i,iN p x.Kids (pnB p.Fns[i]),b⟩ p.Fns[i].Ret=some ⟨p,i,iN p x.Kids (pnB p.Fns[i]),b || !(dF p i 10 p.Fns[i].Ret (iN p x.Kids (pnB p.Fns[i])))⟩:=fun b=>jU p hF hu i hi dG 10 _ _ b hr f5 (fun z hz=>by rw [hy] at hz;injection hz with hz;rw [← hz];exact hyv) hdr.2 (show 10 ≤ 1048576 by omega) (by omega)
     simp only [decide_eq_true hr,if_true,hsr,Option.bind_some,if_pos hr]
     cases dF p i 10 p.Fns[i].Body (pnB p.Fns[i])<;>cases dF p i 10 p.Fns[i].Ret (iN p x.Kids (pnB p.Fns[i]))<;>rfl
    ·simp only [decide_eq_false hr,Bool.false_eq_true,if_false,Option.bind_some,if_neg hr]
     cases dF p i 10 p.Fns[i].Body (pnB p.Fns[i])<;>rfl) (by simp [bN])]
  cases (List.range p.Fns.length).all (oH p)<;>rfl
end Go.OM
namespace Go.OM
theorem getI_of {α:Type} {l:List α} {n:Nat} {x:α} (h:l[n]? = some x):getI l (n:Int)=some x:=by
 obtain ⟨h1,h2⟩:=List.getElem?_eq_some_iff.1 h
 rw [aE h1,h2]
theorem seenK_mem (p:GProgram) (rc:Int→List ByteArray→Bool) (blk:Bool):∀ (l:List Int) (s:List ByteArray),jI p rc blk l s=true→∀ kid ∈ l,∃ s',rc kid s'=true
 | [],s,h,kid,hk=>by cases hk
 | k0 :: l,s,h,kid,hk=>by
  simp only [jI,Bool.and_eq_true] at h
  rcases List.mem_cons.1 hk with e | hk
  ·exact ⟨s,by rw [e];exact h.1⟩
  ·exact seenK_mem p rc blk l _ h.2 kid hk
theorem seen_reach (p:GProgram) (fn:Int) (hu:okU p.Nodes p.Nodes.length=true) (k:Nat) (hk:k < p.Nodes.length) (D:Nat) (names:List ByteArray) (hd:dval p.Nodes k ≤ D) (hs:dF p fn D (k:Int) names=true) {e:Nat} (r:Reach (nA p.Nodes) k e) :
  e < p.Nodes.length∧∃ (D':Nat) (nm:List ByteArray),dval p.Nodes e ≤ D'∧dF p fn D' (e:Int) nm=true:=by
 induction r with
 | base=>exact ⟨hk,D,names,hd,hs⟩
 | step r hm ih =>
  rename_i i m
  obtain ⟨hi,D',nm,h1,h2⟩:=ih
  have hnb:=(gM hu hi).1
  have hx:p.Nodes[i]? = some p.Nodes[i]:=List.getElem?_eq_getElem hi
  rw [kidsN_at hi] at hm
  have hb:=fG hnb hx m hm
  have hdk:=rC hnb hx hm
  have hp:=eT p.Nodes m.toNat
  cases D' with
  | zero=>omega
  | succ D' =>
   simp only [dF,Int.toNat_natCast,hx,Bool.and_eq_true] at h2
   obtain ⟨s',hs'⟩:=seenK_mem p _ _ _ _ h2.2 m hm
   refine ⟨by omega,D',s',by omega,?_⟩
   rw [show ((m.toNat:Nat):Int)=m by omega]
   exact hs'
theorem calls_lt (p:GProgram) (h:mR p=true) (fn:Nat) (hfn:fn < p.Fns.length):∀ k ∈ fO p fn,0 ≤ k∧k < fn:=by
 unfold mR at h
 rw [Bool.and_eq_true] at h
 obtain ⟨hok,hall⟩:=h
 obtain ⟨b1,b2,b3,b4,hu⟩:=qG hok
 have hf:=List.all_eq_true.1 hall fn (List.mem_range.2 hfn)
 unfold oH at hf
 rw [List.getElem?_eq_getElem hfn] at hf
 simp only [Bool.and_eq_true] at hf
 obtain ⟨_,hsb,hsr⟩:=hf
 obtain ⟨f1,f2,f3,⟨x,hx,hxk⟩,f5,f6⟩:=fn_facts hok hfn
 have hnode:∀ e ∈ eX p fn,∃ (y:GNode) (nm:List ByteArray),p.Nodes[e.toNat]? = some y∧hereB p fn y nm=true:=by
  intro e he
  obtain ⟨e0,e1,r,hr,her⟩:=mem_setL.1 he
  have hreach:∀ (k:Int) (names:List ByteArray),0 ≤ k→k < p.Nodes.length→dF p fn 10 k names=true→(e.toNat:Int) ∈ bV p.Nodes k→∃ (y:GNode) (nm:List ByteArray),p.Nodes[e.toNat]? = some y∧hereB p fn y nm=true:=by
   intro k names k0 k1 hs hm
   have hd:=(gM hu (show k.toNat < p.Nodes.length by omega)).2
   unfold bV at hm
   split at hm
   ·cases hm
   ·obtain ⟨_,_,hre⟩:=mem_setL.1 hm
    rw [show k=((k.toNat:Nat):Int) by omega] at hs
    obtain ⟨g1,D',nm,g2,g3⟩:=seen_reach p fn hu k.toNat (by omega) 10 names hd hs hre
    have hp:=eT p.Nodes ((e.toNat:Int)).toNat
    cases D' with
    | zero=>omega
    | succ D' =>
     simp only [Int.toNat_natCast] at g1 g3
     have hy:p.Nodes[e.toNat]? = some p.Nodes[e.toNat]:=List.getElem?_eq_getElem g1
     simp only [dF,Int.toNat_natCast,hy,Bool.and_eq_true] at g3
     exact ⟨_,nm,hy,g3.1⟩
  have hrt:r=p.Fns[fn].Body ∨ (r=p.Fns[fn].Ret∧p.Fns[fn].Ret ≠ -1):=by
   unfold iM at hr
   split at hr
   ·simp only [Int.toNat_natCast,List.getElem?_eq_getElem hfn] at hr
    split at hr
    ·simp only [List.mem_singleton] at hr;exact .inl hr
    ·rename_i hne
     simp only [List.mem_cons,List.not_mem_nil,or_false] at hr
     rcases hr with h | h
     ·exact .inl h
     ·exact .inr ⟨h,hne⟩
   ·cases hr
  rcases hrt with rfl | ⟨rfl,hne⟩
  ·exact hreach _ _ f2 f3 hsb her
  ·by_cases hr0:p.Fns[fn].Ret ≥ 0
   ·rw [if_pos hr0] at hsr
    exact hreach _ _ hr0 f5 hsr her
   ·exfalso
    unfold bV rE at her
    rw [if_neg (show ¬ (0 ≤ p.Fns[fn].Ret∧p.Fns[fn].Ret < p.Nodes.length∧okU p.Nodes (p.Fns[fn].Ret.toNat + 1)=true) from fun h=>hr0 h.1)] at her
    simp at her
 have key:∀ (l o:List Int),(∀ e ∈ l,e ∈ eX p fn)→(∀ k ∈ o,0 ≤ k∧k < (fn:Int))→∀ k ∈ l.foldl (iE p) o,0 ≤ k∧k < (fn:Int):=by
  intro l
  induction l with
  | nil=>intro o _ h;exact h
  | cons e l ih =>
   intro o hl ho
   rw [List.foldl_cons]
   refine ih _ (fun e he=>hl e (by simp [he])) ?_
   unfold iE
   split
   ·rename_i y hy
    split
    ·rename_i h12
     split
     ·rename_i hge
      obtain ⟨z,nm,hz,hh⟩:=hnode e (hl e (by simp))
      rw [hy] at hz
      injection hz with hz
      subst hz
      unfold hereB at hh
      rw [Bool.and_eq_true] at hh
      have hc:=hh.2
      have e12:(y.Kind == 12)=true:=by simpa using h12
      rw [e12] at hc
      simp only [Bool.not_true,Bool.false_or] at hc
      unfold callOk at hc
      rw [Bool.and_eq_true] at hc
      have:=inB_iff.1 hc.1
      intro k hk
      rcases mem_addL.1 hk with hk | hk
      ·exact ho k hk
      ·subst hk;omega
     ·exact ho
    ·exact ho
   ·exact ho
 exact key _ [] (fun e h=>h) (by simp)
noncomputable def dO (p:GProgram):Nat→Int→Int
 | 0,_=>0
 | f + 1,fn=>(fO p fn).foldl (fun n k=>if dO p f k > n then dO p f k else n) 0 + 1
theorem foldC_bnd (g:Int→Int) (B:Int):∀ (l:List Int) (n:Int),0 ≤ n→n ≤ B→(∀ k ∈ l,g k ≤ B)→0 ≤ l.foldl (fun n k=>if g k > n then g k else n) n∧l.foldl (fun n k=>if g k > n then g k else n) n ≤ B
 | [],n,h0,h1,_=>⟨h0,h1⟩
 | k :: l,n,h0,h1,hg=>by
  rw [List.foldl_cons]
  have:=hg k (by simp)
  refine foldC_bnd g B l _ ?_ ?_ (fun k hk=>hg k (by simp [hk]))<;>split<;>omega
theorem chainB_bnd (p:GProgram) (h:mR p=true):∀ (f:Nat) (fn:Nat),fn < p.Fns.length→fn < f→1 ≤ dO p f fn∧dO p f fn ≤ fn + 1
 | 0,fn,_,h2=>by omega
 | f + 1,fn,h1,h2=>by
  have hc:=calls_lt p h fn h1
  have:=foldC_bnd (dO p f) fn (fO p fn) 0 (Int.le_refl _) (by omega) (fun k hk=>by
   obtain ⟨k0,k1⟩:=hc k hk
   have ih:=chainB_bnd p h f k.toNat (by omega) (by omega)
   rw [show ((k.toNat:Nat):Int)=k by omega] at ih
   omega)
  simp only [dO];omega
theorem pV (p:GProgram) (h:mR p=true):∀ (f f':Nat) (fn:Nat),fn < p.Fns.length→fn < f→fn < f'→dO p f fn=dO p f' fn
 | 0,f',fn,_,h2,_=>by omega
 | f + 1,0,fn,_,_,h3=>by omega
 | f + 1,f' + 1,fn,h1,h2,h3=>by
  have hc:=calls_lt p h fn h1
  have key:∀ (l:List Int) (n:Int),(∀ k ∈ l,0 ≤ k∧k < (fn:Int))→l.foldl (fun n k=>if dO p f k > n then dO p f k else n) n=l.foldl (fun n k=>if dO p f' k > n then dO p f' k else n) n:=by
   intro l
   induction l with
   | nil=>intro n _;rfl
   | cons k l ih =>
    intro n hl
    obtain ⟨k0,k1⟩:=hl k (by simp)
    have e:=pV p h f f' k.toNat (by omega) (by omega) (by omega)
    rw [show ((k.toNat:Nat):Int)=k by omega] at e
    rw [List.foldl_cons,List.foldl_cons,e]
    exact ih _ (fun k hk=>hl k (by simp [hk]))
  simp only [dO]
  rw [key _ 0 hc]
theorem callsB_len (p:GProgram) (fn:Int):(fO p fn).length ≤ p.Fns.length:=eW (callsB_inv p fn).nd (callsB_inv p fn).bnd
theorem oF (p:GProgram) (hn:p.Nodes.length ≤ 1048576) (hF:p.Fns.length ≤ 1000) (h:mR p=true):∀ (f:Nat) (fn:Nat),fn < p.Fns.length→fn < f→bL f p fn=some (dO p f fn)
 | 0,fn,_,h2=>by omega
 | f + 1,fn,h1,h2=>by
  have hc:=calls_lt p h fn h1
  have hl:=callsB_len p fn
  show iZ (bL f) p fn=_
  unfold iZ
  rw [impl_CallsOf_eq p hn (by omega)]
  simp only [Option.bind_some]
  have:=bB (fO p fn) (fun (n:Int) k=>(n,(k:Int))) (fun _ _=>True) (fun n k=>.inl (if dO p f k > n then dO p f k else n)) id (dU (bL f) p (fO p fn)) (fun n k hk _=>by
   left
   obtain ⟨k0,k1⟩:=hc _ (List.getElem_mem hk)
   have ih:=oF p hn hF h f ((fO p fn)[k]).toNat (by omega) (by omega)
   rw [show ((((fO p fn)[k]).toNat:Nat):Int)=(fO p fn)[k] by omega] at ih
   refine ⟨_,rfl,?_,trivial⟩
   simp only [dU,aB hk,if_true,aE hk,Option.bind_some,ih,aN hk (show (fO p fn).length ≤ 1048576 by omega)]) (fun n _=>by simp [dU]) 0 trivial
  rw [bM] at this
  have this:aI (dU (bL f) p (fO p fn)) (0,0)=some _:=this
  rw [this]
  have hb:=chainB_bnd p h (f + 1) fn h1 h2
  simp only [dO] at hb ⊢
  simp only [Option.bind_some,id]
  rw [w64 (by omega) (by omega)]
noncomputable def lenC (p:GProgram) (j:Nat):Int:=dO p (j + 1) j
theorem spec_chain_row (p:GProgram) (hn:p.Nodes.length ≤ 1048576) (hF:p.Fns.length ≤ 1000) (h:mR p=true) (i:Nat) (hi:i < p.Fns.length) (lg:List Int) (hl:lg.length=p.Fns.length) (hlg:∀ j,j < i→lg[j]? = some (lenC p j)) :
  ∃ lg':List Int,aI (cJ i (fO p i)) (lg.set i 1,0)=some lg'∧lg'.length=p.Fns.length∧∀ j,j < i + 1→lg'[j]? = some (lenC p j):=by
 have hc:=calls_lt p h i hi
 have hcl:=callsB_len p i
 have hset:∀ n:Int,(lg.set i n)[i]? = some n:=fun n=>by rw [List.getElem?_set_self (by omega)]
 have:=bB (fO p i) (fun (n:Int) k=>(lg.set i (n + 1),(k:Int))) (fun _ n=>0 ≤ n∧n ≤ 100000) (fun n k=>.inl (if dO p i k > n then dO p i k else n)) (fun n=>lg.set i (n + 1)) (cJ i (fO p i)) (fun n k hk hI=>by
  left
  obtain ⟨k0,k1⟩:=hc _ (List.getElem_mem hk)
  generalize hck:(fO p i)[k]=c at *
  have hcc:((c.toNat:Nat):Int)=c:=by omega
  have hbn:=chainB_bnd p h i c.toNat (by omega) (by omega)
  rw [hcc] at hbn
  have hgc:getI (lg.set i (n + 1)) c=some (dO p i c):=by
   rw [← hcc]
   refine getI_of ?_
   rw [List.getElem?_set_ne (by omega),hlg c.toNat (by omega)]
   unfold lenC
   rw [pV p h (c.toNat + 1) i c.toNat (by omega) (by omega) (by omega)]
  have hgi:getI (lg.set i (n + 1)) (i:Int)=some (n + 1):=getI_of (hset _)
  have hgk:getI (fO p i) (k:Int)=some c:=by rw [aE hk,hck]
  have hw:IntKind.wrap .i64 (dO p i c + 1)=dO p i c + 1:=w64 (by omega) (by omega)
  refine ⟨_,rfl,?_,?_⟩
  ·simp only [cJ,aB hk,if_true,hgk,Option.bind_some,decide_eq_true k1,hgc,hgi,hw,dN,Int.toNat_natCast,List.set_set,aN hk (show (fO p i).length ≤ 1048576 by omega)]
   by_cases hgt:dO p i c > n
   ·have e:decide (dO p i c + 1 > n + 1)=true:=by simp only [decide_eq_true_eq];omega
    rw [e,if_pos hgt];rfl
   ·have e:decide (dO p i c + 1 > n + 1)=false:=by simp only [decide_eq_false_iff_not];omega
    rw [e,if_neg hgt];rfl
  ·split<;>omega) (fun n _=>by simp [cJ]) 0 ⟨by omega,by omega⟩
 rw [bM] at this
 refine ⟨_,this,by simpa using hl,fun j hj=>?_⟩
 by_cases e:j=i
 ·subst e
  rw [hset]
  rfl
 ·rw [List.getElem?_set_ne (by omega)]
  exact hlg j (by omega)
theorem ChainOf_main (p:GProgram) (hn:p.Nodes.length ≤ 1048576) (hF:p.Fns.length ≤ 1048576):∃ n:Int,jC p=some n∧iK p=some n:=by
 unfold jC iK
 rw [qT p hn hF,qB p hn hF]
 simp only [Option.bind_some]
 cases hok:mR p with
 | false=>exact ⟨0,rfl,rfl⟩
 | true =>
  have hpr:progB p=true:=by
   unfold mR at hok
   rw [Bool.and_eq_true] at hok
   exact hok.1
  obtain ⟨b1,b2,b3,b4,hu⟩:=qG hpr
  have hlast:p.Fns.length - 1 < p.Fns.length:=by omega
  have hw:IntKind.wrap .i64 ((p.Fns.length:Int) - 1)=((p.Fns.length - 1:Nat):Int):=by rw [w64 (by omega) (by omega)];omega
  refine ⟨lenC p (p.Fns.length - 1),?_,?_⟩
  ·simp only [Bool.not_true,Bool.false_eq_true,if_false,hw]
   have:=oF p hn (by omega) hok dG (p.Fns.length - 1) hlast (show _ < 1048576 by omega)
   rw [show impl_chain p ((p.Fns.length - 1:Nat):Int)=bL dG p ((p.Fns.length - 1:Nat):Int) from rfl,this]
   simp only [Option.bind_some]
   rw [pV p hok dG (p.Fns.length - 1 + 1) (p.Fns.length - 1) hlast (show _ < 1048576 by omega) (by omega)]
   rfl
  ·simp only [Bool.not_true,Bool.false_eq_true,if_false]
   rw [nO _ _ _ (by omega) (by omega)]
   simp only [Option.bind_some]
   obtain ⟨r,g1,g2,g3⟩:=dW (f:=dD p) (fun s:List Int × Int=>∃ i:Nat,s.2=i∧i ≤ p.Fns.length∧s.1.length=p.Fns.length∧∀ j,j < i→s.1[j]? = some (lenC p j)) (fun s=>p.Fns.length - s.2.toNat) (fun r=>r.length=p.Fns.length∧∀ j,j < p.Fns.length→r[j]? = some (lenC p j)) (by
    rintro ⟨lg,i⟩ ⟨i,rfl,hi,hl,hj⟩
    by_cases hlt:i < p.Fns.length
    ·left
     obtain ⟨lg',q1,q2,q3⟩:=spec_chain_row p hn (by omega) hok i hlt lg hl hj
     refine ⟨(lg',((i + 1:Nat):Int)),?_,⟨i + 1,rfl,by omega,q2,q3⟩,by simp only [Int.toNat_natCast];omega⟩
     have hg:getI lg (i:Int)=some (lg[i]'(by have:lg.length=p.Fns.length:=hl;omega)):=aE _
     simp only [dD,aB hlt,if_true,hg,Option.bind_some,dN,Int.toNat_natCast,spec_CallsOf_eq p hn hF,q1,aN hlt hF]
    ·right
     have:i=p.Fns.length:=by omega
     subst this
     exact ⟨lg,by simp [dD],hl,hj⟩) (List.replicate p.Fns.length 0,0) ⟨0,rfl,by omega,by simp,fun j hj=>by omega⟩
   rw [g1]
   simp only [Option.bind_some,g2,hw]
   rw [getI_of (g3 _ hlast)]
   rfl
theorem law_ChainOf (p:GProgram) (hw:GProgram.le maxLen p):dS p=some true:=by
 unfold dS
 obtain ⟨r,h1,h2,h3⟩:=laws_szProgram_p p hw 1048576 (by omega) (by omega)
 rw [h1]
 simp only [Option.bind_some]
 by_cases hr:r < 0
 ·simp [hr]
 ·have hp:=h3 (by omega)
  obtain ⟨n,v1,v2⟩:=ChainOf_main p hp.1.1 hp.2.1
  simp [hr,laws_toProgram_p p hp,v1,v2,laws_eqProgram_p p p hp hp]
end Go.OM
