import Derived.Test.YtgcgpnhokjhghaaGreatDoorW18
import Derived.Test.YtgcgpnhokjhghaaGreatDoorW5
import Derived.Test.YtgcgpnhokjhghaaGreatDoorW8
set_option linter.unusedVariables false
set_option linter.unusedSimpArgs false
set_option linter.unusedVariables false
set_option linter.unusedSimpArgs false
set_option maxHeartbeats 8000000
set_option maxRecDepth 100000
namespace Go.Proofs.T
open Go.OM
theorem aLp:Tryz.f55.results.toList=[.cell 2 27,.tmp 3]:=rfl
theorem ent55:cN E.P 55:=eO Tryz.func55 (by simp [Tryz.f55]) rfl
instance c55_ (t1:ByteArray) {r0:GProgram} {r1:Bool}:Con E 55 (cC t1=some (r0,r1)) [.val (vs t1)] [GProgram.enc true r0,vb r1] []:=Con.mk fun h=>by
 refine oB Tryz.func55 rfl (by simp [Tryz.f55]) fun C (q:C.N=66) hP=>?_
 have y:=uM hP
 unfold cC at h
 iterate 6 first|refine aI q ?_|apply wN|refine O.zS y ?_
 obtain ⟨⟨r2,r3⟩,d6,h⟩:=bS h
 try dsimp only at h
 refine dW [(.take,.tmp 9)] q (Ent.ok (E:=E) (f:=69)) (Con.ok d6) ?_
 iterate 5 refine aI q ?_
 apply wN
 refine O.seq ?_
 refine O.zS y ?_
 iterate 2 refine aI q ?_
 apply wN
 refine O.cI h (fun e7 h=>?_) fun e8 h=>?_
 ·refine O.zS y ?_
  iterate 3 refine aI q ?_
  apply wN
  cases h
  refine O.ret ?_
  simp [aQ,iB,aLp]
 iterate 12 first|refine aI q ?_|apply wN|refine O.zS y ?_|refine O.skip ?_
 obtain ⟨⟨c4,c0⟩,d7,h⟩:=bS h
 try dsimp only at h
 refine O.seqC [2,6,7] [2,7,18] (fun _:Unit=>⟨[(2,.ref (.box 2) 0 []),(6,.ref (.box 18) 0 []),(7,.ref (.box 7) 0 [])],[(2,[.sl true 4 [],.sl true 5 []]),(7,[.sl true 4 (List.map (GNode.enc true) c4.Nodes),.sl true 5 (List.map (GFn.enc true) c4.Fns)]),(18,[.sl true 3 (List.map GSign.enc c0.list),vi c0.at_,vb c0.bad,vi c0.deep,.sl true 4 (List.map (GNode.enc true) c0.nodes)])]⟩) (fun _=>True) (fun _ _=>?_) fun K8 d8=>?_
 rotate_left
 ·refine O.block ?_
  refine O.loopO [] [2,6,7] [2,7,18] (fun v:GProgram × Gl05Read=>⟨[(2,.ref (.box 2) 0 []),(6,.ref (.box 18) 0 []),(7,.ref (.box 7) 0 [])],[(2,[.sl true 4 [],.sl true 5 []]),(7,[.sl true 4 (List.map (GNode.enc true) v.1.Nodes),.sl true 5 (List.map (GFn.enc true) v.1.Fns)]),(18,[.sl true 3 (List.map GSign.enc v.2.list),vi v.2.at_,vb v.2.bad,vi v.2.deep,.sl true 4 (List.map (GNode.enc true) v.2.nodes)])]⟩) (dJ) _ ((⟨[],[]⟩:GProgram),(⟨r2,0,false,0,[]⟩:Gl05Read)) d7 (by simp [q]) ?_
  intro g e9 a9 c5
  obtain ⟨c6,b0⟩:=g
  simp only [dJ] at a9
  try dsimp only
  refine O.seq ?_
  obtain ⟨d9,a3,a9⟩:=bS a9
  refine O.seqC [2,6,7,42] [2,7,18] (fun _:Unit=>⟨[(2,.ref (.box 2) 0 []),(6,.ref (.box 18) 0 []),(7,.ref (.box 7) 0 []),(42,.t (vb d9))],[(2,[.sl true 4 [],.sl true 5 []]),(7,[.sl true 4 (List.map (GNode.enc true) c6.Nodes),.sl true 5 (List.map (GFn.enc true) c6.Fns)]),(18,[.sl true 3 (List.map GSign.enc b0.list),vi b0.at_,vb b0.bad,vi b0.deep,.sl true 4 (List.map (GNode.enc true) b0.nodes)])]⟩) (fun _=>True) (fun _ _=>?_) fun g0 b8=>?_
  rotate_left
  ·rcases oR a3 with ⟨a4,a3⟩ | ⟨a2,a3⟩
   ·have a1:=a4
    try simp at a1
    refine O.dT rfl (y _ rfl) (en 20 [rf 18 0,rf 18 0,rf 18 2,.t (vb b0.bad),.t (vb (!b0.bad)),.t (vb (!b0.bad)),rf 18 0,rf 18 0,rf 18 1,.t (vi b0.at_),rf 18 0,rf 18 0,rf 18 0,.al (.box 18) 0 [] none,.t (vi (b0.list.length:Int))]) [[],[0],[0,1],[0,1,2],rg 0 4,rg 0 5,rg 0 6,rg 0 7,rg 0 8,rg 0 9,rg 0 6,rg 0 6++[10],rg 0 6++[10,11],rg 0 6++[10,11,12],rg 0 6++rg 10 4,rg 0 15,rg 0 16,rg 0 17,rg 0 18,rg 0 19,rg 0 20,rg 0 21,rg 0 22] (by simp) (by simp) (by simp [look]) rfl rfl rfl ?_ fun K w=>?_
    ·refine ⟨?_,?_,?_,?_,?_,?_,?_,?_,?_,?_,?_,?_,?_,?_,?_,trivial⟩
     all_goals (intro τ hbx hb hd hf K w;try simp [bM] at hd;simp [bM] at hf;first | (refine wC rfl fun K' z=>?_;simp [q,hbx,hb,hd,hf,a4,a1];exact z _ (wN (w _ (by simp [bM,hbx,a4,a1])))))
    iterate 3 (refine aI q ?_ rfl (by simp [a4,a1];rfl))
    rcases oR a3 with ⟨b9,a3⟩ | ⟨b3,a3⟩
    ·have b1:=b9
     try simp at b1
     iterate 5 (refine aI q ?_ rfl (by simp [a4,a1,b9,b1];rfl))
     apply wN;apply w
     cases a3
     exact b8 _ () [] trivial (by simp [q,a4,a1,b9,b1])
    have a7:=b3
    try simp at a7
    iterate 4 (refine wO fun K r=>?_;simp [q,a4,a1,b3,a7];apply r)
    refine aI q ?_ rfl (by simp [a4,a1,b3,a7];rfl)
    apply wN;apply w
    cases a3
    exact b8 _ () [] trivial (by simp [q,a4,a1,b3,a7])
   have a0:=a2
   try simp at a0
   refine O.dT rfl (y _ rfl) (en 20 [rf 18 0,rf 18 0,rf 18 2,.t (vb b0.bad),.t (vb (!b0.bad)),.t (vb (!b0.bad)),.tup [],.tup [],.tup [],.tup [],.tup [],.tup [],.tup [],.tup [],.tup []]) [[],[0],[0,1],[0,1,2],rg 0 4,rg 0 5,rg 0 6,rg 0 7,rg 0 8,rg 0 9,rg 0 6,rg 0 6++[10],rg 0 6++[10,11],rg 0 6++[10,11,12],rg 0 6++rg 10 4,rg 0 15,rg 0 16,rg 0 17,rg 0 18,rg 0 19,rg 0 20,rg 0 21,rg 0 22] (by simp) (by simp) (by simp [look]) rfl rfl rfl ?_ fun K w=>?_
   ·refine ⟨?_,?_,?_,?_,?_,?_,?_,?_,?_,?_,?_,?_,?_,?_,?_,trivial⟩
    all_goals (intro τ hbx hb hd hf K w;try simp [bM] at hd;simp [bM] at hf;first | (refine wC rfl fun K' z=>?_;simp [q,hbx,hb,hd,hf,a2,a0];exact z _ (wN (w _ (by simp [bM,hbx,a2,a0])))) | (refine wO fun K' z=>?_;simp [q,hbx,hb,hd,hf,a2,a0];exact z _ (wN (w _ (by simp [bM,hbx,a2,a0])))))
   refine wO fun K r=>?_;simp [q,a2,a0];apply r
   iterate 2 (refine aI q ?_ rfl (by simp [a2,a0];rfl))
   iterate 4 (refine wO fun K r=>?_;simp [q,a2,a0];apply r)
   refine aI q ?_ rfl (by simp [a2,a0];rfl)
   apply wN;apply w
   cases a3
   exact b8 _ () [] trivial (by simp [q,a2,a0])
  refine O.cI a9 (fun e0 a9=>?_) fun e1 a9=>?_
  ·refine O.skip ?_
   refine O.block ?_
   obtain ⟨⟨c7,c1⟩,c8,a9⟩:=bS a9
   try dsimp only at a9
   refine O.drawX2 rfl (y _ rfl) [43,44,45,46,47] [[(43,.ref (.box 7) 1 [])],[(44,.al (.box 7) 1 [] none)],[(45,.ref (.box 18) 0 [])],[(46,.t (GFn.enc true c7))],[(47,.t (.sl true 5 (List.map (GFn.enc true) [c7]))),(46,.u)]] [[],[],[],[(18,[.sl true 3 (List.map GSign.enc c1.list),vi c1.at_,vb c1.bad,vi c1.deep,.sl true 4 (List.map (GNode.enc true) c1.nodes)])],[]] [[],[0],[],[2],[2,3],rg 0 5,rg 0 6,rg 0 7] rfl (by simp) rfl rfl rfl ?_ fun K w=>?_
   ·refine ⟨?_,?_,?_,?_,?_,trivial⟩
    ·refine aV rfl rfl rfl ?_
     intro τ D hbx hl d0 g1 g2 K w
     cases d3:D 3<;>(simp [bF,bP,d0,d3] at hbx;refine wC rfl fun K' z=>?_;simp [q,hbx,hl,eW,eV,look,d0,d3];exact z _ (wN (w _ (by simp [gV,bF,bP,dK,hbx,d0,d3]))))
    ·refine aV rfl rfl rfl ?_
     intro τ D hbx hl d1 g1 g2 K w
     have d0:=g1 0 (by simp)
     cases d3:D 3<;>(simp [bF,bP,d0,d1,d3] at hbx;refine wC rfl fun K' z=>?_;simp [q,hbx,hl,eW,eV,look,d0,d1,d3];exact z _ (wN (w _ (by simp [gV,bF,bP,dK,hbx,d0,d1,d3]))))
    ·refine aV rfl rfl rfl ?_
     intro τ D hbx hl d2 g1 g2 K w
     have d3:=g2 3 (by simp) (by simp)
     (simp [bF,bP,d2,d3] at hbx;refine wC rfl fun K' z=>?_;simp [q,hbx,hl,eW,eV,look,d2,d3];exact z _ (wN (w _ (by simp [gV,bF,bP,dK,hbx,d2,d3]))))
    ·intro D d3 g1 g2 gc
     have d2:D 2=true:=g1 2 (by simp)
     have d4:D 4=false:=g2 4 (by simp) (by simp)
     have p1_0:D 1=true→D 0=true:=fun h=>gc 1 0 h (by simp) (by simp)
     cases d0:D 0<;>cases d1:D 1<;>(simp [d1,d0] at p1_0)<;>(intro K w;simp [tP,gV,dK,bF,bP,d0,d1,d2,d3,d4] at w ⊢;refine wL [((.ptr 5),.tmp 45)] rfl rfl (Ent.ok (E:=E) (f:=70)) (Con.ok c8) fun K' z=>?_;simp [q];refine z _ (wN ?_);first | exact w | simpa using w)
    intro D d4 g1 g2 gc
    have d2:D 2=true:=g1 2 (by simp)
    have d3:D 3=true:=g1 3 (by simp)
    have p1_0:D 1=true→D 0=true:=fun h=>gc 1 0 h (by simp) (by simp)
    cases d0:D 0<;>cases d1:D 1<;>(simp [d1,d0] at p1_0)<;>(intro K w;simp [tP,gV,dK,bF,bP,d0,d1,d2,d3,d4] at w ⊢;refine wC rfl fun K' z=>?_;simp [q];refine z _ (wN ?_);first | exact w | simpa using w)
   simp [tP,gV,bF,bP]
   obtain ⟨e2,c9,a9⟩:=bS a9
   obtain ⟨b5,b6,c2⟩:=aS c9
   have b7:List.map (GFn.enc true) c6.Fns ++ List.map (GFn.enc true) [c7]=List.map (GFn.enc true) e2:=lY (f:=(GFn.enc true)) c2
   simp [eSl,GFn.enc] at b5 b6 b7
   iterate 3 (refine aI q ?_ rfl (by simp [b5,b6,b7];rfl))
   apply wN;apply w
   cases a9
   exact ⟨_,[],rfl,by simp [q]⟩
  refine O.exit ?_
  have e3:=congrArg some (c5 _ (Option.some.inj a9).symm)
  cases e3
  exact d8 _ () [] trivial (by simp [q])
 refine O.zS y ?_
 iterate 6 refine aI q ?_
 apply wN
 refine O.seq ?_
 obtain ⟨e4,a6,h⟩:=bS h
 refine O.seqRC rfl (y _ rfl) [2,7,63] [2,7] (fun _:Unit=>⟨[(2,.ref (.box 2) 0 []),(7,.ref (.box 7) 0 []),(63,.t (vb e4))],[(2,[.sl true 4 [],.sl true 5 []]),(7,[.sl true 4 (List.map (GNode.enc true) c0.nodes),.sl true 5 (List.map (GFn.enc true) c4.Fns)])]⟩) (fun _=>True) (fun _ _=>?_) fun g3 c3=>?_
 rotate_left
 ·refine aI q ?_
  iterate 4 refine aI q ?_
  rcases oR a6 with ⟨b4,a6⟩ | ⟨b2,a6⟩
  ·have a8:=b4
   try simp at a8
   iterate 3 (refine wO fun K r=>?_;simp [q,b4,a8];apply r)
   refine aI q ?_ rfl (by simp [b4,a8];rfl)
   refine wN ?_
   cases a6
   exact c3 _ () [] trivial (by simp [q,b4,a8])
  have a5:=b2
  try simp at a5
  refine aI q ?_ rfl (by simp [b2,a5];rfl)
  obtain ⟨g4,d5,a6⟩:=bS a6
  refine dW [(.bor,.tmp 60)] q aM9 (Con.ok d5) ?_ rfl rfl (by simp [b2,a5];rfl)
  iterate 2 (refine aI q ?_ rfl (by simp [b2,a5];rfl))
  refine wN ?_
  cases a6
  exact c3 _ () [] trivial (by simp [q,b2,a5])
 refine O.cI h (fun e5 h=>?_) fun e6 h=>?_
 ·refine O.zS y ?_
  iterate 3 refine aI q ?_
  apply wN
  cases h
  refine O.ret ?_
  simp [aQ,iB,aLp]
 refine O.skip ?_
 refine O.zS y ?_
 iterate 3 refine aI q ?_
 apply wN
 cases h
 refine O.ret ?_
 simp [aQ,iB,aLp]
instance e55_:Ent E 55:=⟨ent55⟩
end Go.Proofs.T
