import Derived.Test.YteibeahceppedaaGreatDoorPA
set_option linter.unusedVariables false
set_option linter.unusedSimpArgs false
set_option linter.unusedVariables false
set_option linter.unusedSimpArgs false
namespace Go.OM
theorem aHa (p:GProgram) (hn:p.Nodes.length ≤ 1048576) (b1:1 ≤ p.Nodes.length) (b2:p.Nodes.length ≤ 300) (hu:okU p.Nodes p.Nodes.length=true):∃ l:List Int,fV p=some l∧iT p=some l∧l.length ≤ p.Nodes.length∧∀ x ∈ l,0 ≤ x∧x < (p.Nodes.length:Int):=by
 unfold fV iT
 rw [aBe _ _ _ (by omega) (by omega)]
 simp only [Option.bind_some,iO hn]
 obtain ⟨r,r',h1,h2,h3⟩:=uW (f:=dH p) (g:=eC p) (fun (a b:List Bool × List Int × Int)=>a=b∧a.1.length=p.Nodes.length∧-1 ≤ a.2.2∧a.2.2 < p.Nodes.length∧(a.2.1.length:Int) + a.2.2 < p.Nodes.length∧∀ x ∈ a.2.1,0 ≤ x∧x < (p.Nodes.length:Int)) (fun a=>(a.2.2 + 1).toNat) (fun r r'=>r=r'∧r.length ≤ p.Nodes.length∧∀ x ∈ r,0 ≤ x∧x < (p.Nodes.length:Int)) (by
  rintro ⟨m,out,k⟩ _ ⟨rfl,hm,hk0,hk1,ho,hob⟩
  simp only at hm hk0 hk1 ho hob
  by_cases hneg:k < 0
  ·right
   have d:decide (k ≥ 0)=false:=by simp only [decide_eq_false_iff_not];omega
   exact ⟨out,out,by simp only [dH,d,Bool.false_eq_true,if_false],by simp only [eC,d,Bool.false_eq_true,if_false],rfl,(by omega),hob⟩
  left
  have d:decide (k ≥ 0)=true:=by simp only [decide_eq_true_eq];omega
  have hkk:k=((k.toNat:Nat):Int):=by omega
  have hlt:k.toNat < p.Nodes.length:=by omega
  generalize k.toNat=i at *
  subst hkk
  obtain ⟨n,b,c1,c2,_,_,c3⟩:=pB p i (mI (by omega) hu)
  have hx:p.Nodes[i]? = some p.Nodes[i]:=List.getElem?_eq_getElem hlt
  have hnb:=(tO hu hlt).1
  have hkb:=mA hnb hx
  have hkl:=mT hnb hx
  have him:i < m.length:=by omega
  have hmi:m[i]? = some m[i]:=List.getElem?_eq_getElem him
  have hdeep:vG p.Nodes (i:Int)=rD p.Nodes i:=by
   unfold vG
   rw [if_pos ⟨by omega,by omega,mI (by simp only [Int.toNat_natCast];omega) hu⟩,Int.toNat_natCast]
  have hdn:¬ (rD p.Nodes i == 0)=true:=by
   have:=pA p.Nodes i
   simp only [beq_iff_eq];omega
  have hco:eN p (i:Int)=some (n,b):=by
   unfold eN
   rw [mK _ hn,hdeep]
   simp only [Option.bind_some]
   rw [if_neg hdn,c1];rfl
  generalize hg:p.Nodes[i]=x at *
  have hgi:aY p.Nodes (i:Int)=some x:=by rw [bJ hlt,hg]
  have hgm:aY m (i:Int)=some m[i]:=bJ him
  -- may it be reckoned?
  have hfold:eB p (i:Int)=some (b && x.Kind != 1):=by
   unfold eB
   rw [hco]
   simp only [Option.bind_some]
   cases b with
   | false=>rfl
   | true =>
    rw [if_pos rfl,hgi]
    simp only [Option.bind_some,dX]
    obtain ⟨y,hy,hyk⟩:=c3 rfl
    rw [hx] at hy
    have hy':=Option.some.inj hy
    subst hy'
    rcases hyk with e | e
    ·rw [e];rfl
    have hin:inB x.Kind 9 11=true:=inB_iff.2 e
    have hne:¬ x.Kind=1:=by omega
    simp [hin,hne]
  have hok2:(if b=true then (aY p.Nodes (i:Int)).bind fun e=>some (e.Kind != 1) else some false)=some (b && x.Kind != 1):=by
   cases b with
   | false=>rfl
   | true=>rw [if_pos rfl,hgi];rfl
  generalize hq:(b && x.Kind != 1)=q at *
  have hout:(Option.bind (if q=true then some (!m[i]) else some false) fun v:Bool=>if v=true then (bW 8 out [(i:Int)]).bind fun l=>some l else some out)=some (if (q && !m[i])=true then out ++ [(i:Int)] else out):=by
   have happ:bW 8 out [(i:Int)]=some (out ++ [(i:Int)]):=app1 (by omega) (by omega)
   cases q with
   | false=>rfl
   | true =>
    simp only [if_true,Option.bind_some,Bool.true_and]
    cases m[i]<;>simp [happ]
  have hw:IntKind.wrap .i64 ((i:Int) - 1)=(i:Int) - 1:=w64 (by omega) (by omega)
  have hset:∀ (z:Bool) (o:List Int),z=(m[i] || q)→aJ (cB i q o x) (m,0)=some (aHo z x.Kids m,o):=by
   intro z o hz
   subst hz
   exact uK (τ:=Unit) x.Kids p.Nodes.length i hlt hkb (m[i] || q) m[i] (cB i q o x) (fun m=>(m,o)) (fun m' j hj hm' hb'=>by
    have hbe:=hkb _ (List.getElem_mem hj)
    have g1:aY m' (i:Int)=some m[i]:=by rw [oY];exact hb'
    simp only [cB,aF hj,if_true,bJ hj,Option.bind_some,g1]
    rw [gV hbe.1 (by omega)]
    simp only [Option.bind_some,dI,dJ hj (show x.Kids.length ≤ 1048576 by omega)]
    cases m[i]<;>cases q<;>rfl) (fun m=>by simp [cB]) m hm hmi
  have hset2:∀ (z:Bool) (o:List Int),z=(m[i] || q)→aJ (cR p i q o) (m,0)=some (aHo z x.Kids m,o):=by
   intro z o hz
   subst hz
   exact uK (τ:=Unit) x.Kids p.Nodes.length i hlt hkb (m[i] || q) m[i] (cR p i q o) (fun m=>(m,o)) (fun m' j hj hm' hb'=>by
    have hbe:=hkb _ (List.getElem_mem hj)
    have g1:aY m' (i:Int)=some m[i]:=by rw [oY];exact hb'
    simp only [cR,hgi,aF hj,if_true,bJ hj,Option.bind_some,g1]
    rw [gV hbe.1 (by omega)]
    simp only [Option.bind_some,dI,dJ hj (show x.Kids.length ≤ 1048576 by omega)]
    cases q<;>cases m[i]<;>rfl) (fun m=>by simp [cR,hgi]) m hm hmi
  refine ⟨(aHo (m[i] || q) x.Kids m,(if (q && !m[i])=true then out ++ [(i:Int)] else out),(i:Int) - 1),(aHo (m[i] || q) x.Kids m,(if (q && !m[i])=true then out ++ [(i:Int)] else out),(i:Int) - 1),?_,?_,⟨rfl,?_⟩,?_⟩
  ·simp only [dH,d,if_true,hfold,Option.bind_some,hgm,hgi]
   rw [hout]
   simp only [Option.bind_some]
   rw [hset _ _ rfl]
   simp only [Option.bind_some,hw]
  ·simp only [eC,d,if_true,c2,Option.bind_some,hgm]
   rw [hok2]
   simp only [Option.bind_some]
   rw [hout]
   simp only [Option.bind_some]
   rw [hset2 _ _ rfl]
   simp only [Option.bind_some,hw]
  ·refine ⟨by simp only [aB3];exact hm,by simp only;omega,by simp only;omega,?_,fun x hx=>?_⟩
   ·simp only
    split
    ·rw [List.length_append];simp only [List.length_cons,List.length_nil];omega
    omega
   simp only at hx
   split at hx
   ·rcases List.mem_append.1 hx with hx | hx
    ·exact hob x hx
    simp only [List.mem_singleton] at hx
    subst hx
    exact ⟨by omega,by omega⟩
   exact hob x hx
  simp only;omega) (List.replicate p.Nodes.length false,[],(p.Nodes.length:Int) - 1) _ ⟨rfl,by simp,by simp only;omega,by simp only;omega,by simp only [List.length_nil];omega,fun x hx=>(by cases hx)⟩
 rw [h1,h2]
 obtain ⟨h3,h4⟩:=h3
 subst h3
 exact ⟨_,rfl,rfl,h4⟩
theorem aEi (p:GProgram) (h:GProgram.le 1048576 p):∃ q:GProgram,oI p=some q∧nT p=some q∧GProgram.le 1048576 q:=by
 obtain ⟨c1,c2⟩:=tQ p h
 have hle:=h
 obtain ⟨⟨hn,hN⟩,hF,hFl⟩:=h
 unfold oI nT
 rw [qD p hn hF,jR p hn hF,c1,c2]
 simp only [Option.bind_some]
 cases hok:uN p with
 | false=>exact ⟨p,rfl,rfl,hle⟩
 | true =>
  obtain ⟨b1,b2,b3,b4,hu⟩:=pY hok
  simp only [Bool.not_true,Bool.false_eq_true,if_false]
  obtain ⟨l,t1,t2,tl,t3⟩:=aHa p hn b1 b2 hu
  rw [t1,t2]
  simp only [Option.bind_some]
  obtain ⟨r,r',g1,g2,g3,g4⟩:=uW (f:=kJ p l) (g:=jZ p l) (fun (a b:Int × GProgram)=>a=b∧∃ k:Nat,a.1=k∧k ≤ l.length∧a.2.Nodes.length=p.Nodes.length∧GProgram.le 1048576 a.2) (fun a=>l.length - a.1.toNat) (fun r r'=>r=r'∧GProgram.le 1048576 r) (by
   rintro ⟨i,v⟩ _ ⟨rfl,k,rfl,hk,hv,hvl⟩
   simp only at hk hv hvl
   by_cases hlt:k < l.length
   ·left
    have hb:=t3 _ (List.getElem_mem hlt)
    have hlt2:(l[k]).toNat < p.Nodes.length:=by omega
    have hcast:(((l[k]).toNat:Nat):Int)=l[k]:=by omega
    obtain ⟨n,b,d1,d2,_⟩:=pB p (l[k]).toNat (mI (by omega) hu)
    rw [hcast] at d1 d2
    have hgv:aY v.Nodes l[k]=some (v.Nodes[(l[k]).toNat]'(by omega)):=gV hb.1 (by rw [hv];exact hb.2)
    have hwk:=dJ hlt (show l.length ≤ 1048576 by omega)
    refine ⟨(IntKind.wrap .i64 ((k:Int) + 1),⟨v.Nodes.set (l[k]).toNat ⟨1,n,ByteArray.empty,[]⟩,v.Fns⟩),(IntKind.wrap .i64 ((k:Int) + 1),⟨v.Nodes.set (l[k]).toNat ⟨1,n,ByteArray.empty,[]⟩,v.Fns⟩),?_,?_,⟨rfl,k + 1,?_,by omega,by simp only [List.length_set];exact hv,?_⟩,?_⟩
    ·simp only [kJ,aF hlt,if_true,bJ hlt,Option.bind_some,d1,hgv,dI]
    ·simp only [jZ,aF hlt,if_true,bJ hlt,Option.bind_some,d2,hgv,dI]
    ·exact hwk
    ·refine ⟨⟨by simp only [List.length_set];exact hvl.1.1,fun x hx=>?_⟩,hvl.2⟩
     rcases List.mem_or_eq_of_mem_set hx with h1 | h1
     ·exact hvl.1.2 x h1
     subst h1
     exact ⟨by simp,by simp⟩
    simp only [hwk,Int.toNat_natCast];omega
   right
   have:k=l.length:=by omega
   subst this
   exact ⟨v,v,by simp [kJ],by simp [jZ],rfl,hvl⟩) (0,p) (0,p) ⟨rfl,0,rfl,by omega,rfl,hle⟩
  subst g3
  rw [g1,g2]
  simp only [Option.bind_some]
  obtain ⟨q,b,m1,m2,m3⟩:=aEh r g4
  rw [m1,m2]
  simp only [Option.bind_some]
  cases hb:b with
  | false=>exact ⟨p,rfl,rfl,hle⟩
  | true=>exact ⟨q,rfl,rfl,m3 hb⟩
end Go.OM
namespace Go.OM
theorem aBh (code:List Int) (hw:code.length ≤ maxLen):iD code=some true:=by
 have hl:code.length ≤ 9223372036854775807:=hw
 unfold iD xU
 simp only [Option.bind_some]
 split
 ·rfl
 obtain ⟨⟨p,k⟩,h1,h2⟩:=aKb hl
 have hd:iC code=some (p,k):=by unfold iC;rw [h1];rfl
 obtain ⟨q,h3,h4⟩:=aDk hl
 have hp:=rU h2 (show 5000 ≤ 1048576 by omega)
 have hq:=rU h4 (show 5000 ≤ 1048576 by omega)
 dsimp only at hp
 obtain ⟨n,b,c1,c2,_⟩:=xE p hp.1.1 k
 obtain ⟨f,d1,d2⟩:=aBv p hp.1.1 k
 obtain ⟨i,e1,e2⟩:=aDi q hq.1.1 hq.2.1
 obtain ⟨w,g1,g2,g3⟩:=aEi q hq
 rw [hd]
 simp only [Option.bind_some,c1,c2,h3,d1,d2,e1,e2,g1,g2,beq_self_eq_true,if_true,zW w g3]
end Go.OM
