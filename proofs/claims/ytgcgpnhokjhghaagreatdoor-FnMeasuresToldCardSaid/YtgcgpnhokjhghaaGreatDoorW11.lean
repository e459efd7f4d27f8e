import Derived.Test.YtgcgpnhokjhghaaGreatDoorW2
import Derived.Test.YtgcgpnhokjhghaaGreatDoorW4
import Derived.Test.YtgcgpnhokjhghaaGreatDoorW8
set_option linter.unusedVariables false
set_option linter.unusedSimpArgs false
set_option linter.unusedVariables false
set_option linter.unusedSimpArgs false
set_option maxHeartbeats 8000000
set_option maxRecDepth 100000
namespace Go.Proofs.T
open Go.OM
theorem res14:Tryz.f14.results.toList=[.cell 2 32]:=rfl
theorem ent14:cN E.P 14:=eO Tryz.func14 (by simp [Tryz.f14]) rfl
instance c14_ (p1:GProgram) {r0:GMeasure}:Con E 14 (jH p1=some r0) [.val (GProgram.enc false p1)] [GMeasure.enc r0] []:=Con.mk fun h=>by
 refine oB Tryz.func14 rfl (by simp [Tryz.f14]) fun C (q:C.N=68) hP=>?_
 have y:=uM hP
 unfold jH at h
 refine O.zS y ?_
 iterate 2 refine aI q ?_
 apply wN
 refine O.seq ?_
 refine O.zS y ?_
 refine aI q ?_
 obtain ⟨r2,g0,h⟩:=bS h
 refine dW [(.take,.tmp 6)] q aM9 (Con.ok g0) ?_
 refine aI q ?_
 apply wN
 refine O.cI h (fun h4 h=>?_) fun h5 h=>?_
 ·refine O.zS y ?_
  iterate 2 refine aI q ?_
  apply wN
  cases h
  refine O.ret ?_
  simp [aQ,iB,res14]
 refine O.skip ?_
 refine O.seq ?_
 obtain ⟨r6,g3,h⟩:=bS h
 obtain ⟨r8,g4,h⟩:=bS h
 obtain ⟨b9,c0,h⟩:=bS h
 obtain ⟨b7,c1,h⟩:=bS h
 obtain ⟨b8,c2,h⟩:=bS h
 refine O.drawY rfl (y _ rfl) [(10,.ref (.box 1) 1 []),(11,.t (.sl false 5 (List.map (GFn.enc false) p1.Fns))),(12,.t (vi (p1.Fns.length:Int))),(13,.ref (.box 1) 0 []),(14,.t (.sl false 4 (List.map (GNode.enc false) p1.Nodes))),(15,.t (vi (p1.Nodes.length:Int))),(16,.t (GProgram.enc false p1)),(17,.t (vi r6)),(18,.t (GProgram.enc false p1)),(19,.t (vi r8)),(20,.t (GProgram.enc false p1)),(21,.t (vi b9)),(22,.t (GProgram.enc false p1)),(23,.t (vi b7)),(24,.t (GProgram.enc false p1)),(25,.t (vi b8)),(26,.t (vi (IntKind.wrap .i64 (b7 + b8)))),(27,.t (.agg [vi (p1.Fns.length:Int),vi (p1.Nodes.length:Int),vi 0,vi 0,vi r6,vi r8,vi b9,vi (IntKind.wrap .i64 (b7 + b8)),vi 0])),(3,.ref (.box 3) 0 [])] [[],[],[],[],[],[],[],[],[],[],[],[],[],[],[],[],[],[],[(3,[vi 0,vi 0,vi 0,vi 0,vi 0,vi 0,vi 0,vi 0,vi 0])]] [[],[0],[0,1],[],[3],[3,4],[],[6],[],[6,7,8],[],rg 6 5,[],rg 6 7,[],rg 6 9,rg 6 10,rg 0 17,[],rg 0 19] rfl (by simp) (by simp) (by simp [look]) rfl rfl rfl ?_ fun K u=>?_
 ·refine ⟨?_,?_,?_,?_,?_,?_,?_,?_,?_,?_,?_,?_,?_,?_,?_,?_,?_,?_,?_,trivial⟩
  ·intro τ D hbx hb hd hf d0 g1 g2 hT
   cases a0:D 18<;>(intro K u;try simp [bM] at hd;simp [bM] at hf;simp [bF,bP,d0,a0] at hbx;refine wC rfl fun K' w=>?_;simp [q,hbx,hb,hd,hf];exact w _ (wN (u _ (by simp [bM,bF,bP,dK,hbx,d0,a0]))))
  ·intro τ D hbx hb hd hf d1 g1 g2 hT
   cases a0:D 18<;>(intro K u;try simp [bM] at hd;simp [bM] at hf;simp [bF,bP,d1,a0] at hbx;refine wC rfl fun K' w=>?_;simp [q,hbx,hb,hd,hf];exact w _ (wN (u _ (by simp [bM,bF,bP,dK,hbx,d1,a0]))))
  ·intro τ D hbx hb hd hf d2 g1 g2 hT
   cases a0:D 18<;>(intro K u;try simp [bM] at hd;simp [bM] at hf;simp [bF,bP,d2,a0] at hbx;refine wC rfl fun K' w=>?_;simp [q,hbx,hb,hd,hf];exact w _ (wN (u _ (by simp [bM,bF,bP,dK,hbx,d2,a0]))))
  ·intro τ D hbx hb hd hf d3 g1 g2 hT
   cases a0:D 18<;>(intro K u;try simp [bM] at hd;simp [bM] at hf;simp [bF,bP,d3,a0] at hbx;refine wC rfl fun K' w=>?_;simp [q,hbx,hb,hd,hf];exact w _ (wN (u _ (by simp [bM,bF,bP,dK,hbx,d3,a0]))))
  ·intro τ D hbx hb hd hf d4 g1 g2 hT
   cases a0:D 18<;>(intro K u;try simp [bM] at hd;simp [bM] at hf;simp [bF,bP,d4,a0] at hbx;refine wC rfl fun K' w=>?_;simp [q,hbx,hb,hd,hf];exact w _ (wN (u _ (by simp [bM,bF,bP,dK,hbx,d4,a0]))))
  ·intro τ D hbx hb hd hf d5 g1 g2 hT
   cases a0:D 18<;>(intro K u;try simp [bM] at hd;simp [bM] at hf;simp [bF,bP,d5,a0] at hbx;refine wC rfl fun K' w=>?_;simp [q,hbx,hb,hd,hf];exact w _ (wN (u _ (by simp [bM,bF,bP,dK,hbx,d5,a0]))))
  ·intro τ D hbx hb hd hf d6 g1 g2 hT
   cases a0:D 18<;>(intro K u;try simp [bM] at hd;simp [bM] at hf;simp [bF,bP,d6,a0] at hbx;refine wC rfl fun K' w=>?_;simp [q,hbx,hb,hd,hf];exact w _ (wN (u _ (by simp [bM,bF,bP,dK,hbx,d6,a0]))))
  ·intro τ D hbx hb hd hf d7 g1 g2 hT
   cases a0:D 18<;>(intro K u;try simp [bM] at hd;simp [bM] at hf;simp [bF,bP,d7,a0] at hbx;refine wL [(.take,.tmp 16),(.take,.const (.int .i64 20))] rfl rfl (Ent.ok (E:=E) (f:=10)) (Con.ok g3) fun K' w=>?_;simp [q,hbx,hb,hd,hf];exact w _ (wN (u _ (by simp [bM,bF,bP,dK,hbx,d7,a0]))))
  ·intro τ D hbx hb hd hf d8 g1 g2 hT
   cases a0:D 18<;>(intro K u;try simp [bM] at hd;simp [bM] at hf;simp [bF,bP,d8,a0] at hbx;refine wC rfl fun K' w=>?_;simp [q,hbx,hb,hd,hf];exact w _ (wN (u _ (by simp [bM,bF,bP,dK,hbx,d8,a0]))))
  ·intro τ D hbx hb hd hf d9 g1 g2 hT
   cases a0:D 18<;>(intro K u;try simp [bM] at hd;simp [bM] at hf;simp [bF,bP,d9,a0] at hbx;refine wL [(.take,.tmp 18),(.take,.const (.int .i64 13))] rfl rfl (Ent.ok (E:=E) (f:=10)) (Con.ok g4) fun K' w=>?_;simp [q,hbx,hb,hd,hf];exact w _ (wN (u _ (by simp [bM,bF,bP,dK,hbx,d9,a0]))))
  ·intro τ D hbx hb hd hf e1 g1 g2 hT
   cases a0:D 18<;>(intro K u;try simp [bM] at hd;simp [bM] at hf;simp [bF,bP,e1,a0] at hbx;refine wC rfl fun K' w=>?_;simp [q,hbx,hb,hd,hf];exact w _ (wN (u _ (by simp [bM,bF,bP,dK,hbx,e1,a0]))))
  ·intro τ D hbx hb hd hf e2 g1 g2 hT
   cases a0:D 18<;>(intro K u;try simp [bM] at hd;simp [bM] at hf;simp [bF,bP,e2,a0] at hbx;refine wL [(.take,.tmp 20),(.take,.const (.int .i64 8))] rfl rfl (Ent.ok (E:=E) (f:=10)) (Con.ok c0) fun K' w=>?_;simp [q,hbx,hb,hd,hf];exact w _ (wN (u _ (by simp [bM,bF,bP,dK,hbx,e2,a0]))))
  ·intro τ D hbx hb hd hf e3 g1 g2 hT
   cases a0:D 18<;>(intro K u;try simp [bM] at hd;simp [bM] at hf;simp [bF,bP,e3,a0] at hbx;refine wC rfl fun K' w=>?_;simp [q,hbx,hb,hd,hf];exact w _ (wN (u _ (by simp [bM,bF,bP,dK,hbx,e3,a0]))))
  ·intro τ D hbx hb hd hf e4 g1 g2 hT
   cases a0:D 18<;>(intro K u;try simp [bM] at hd;simp [bM] at hf;simp [bF,bP,e4,a0] at hbx;refine wL [(.take,.tmp 22),(.take,.const (.int .i64 5))] rfl rfl (Ent.ok (E:=E) (f:=10)) (Con.ok c1) fun K' w=>?_;simp [q,hbx,hb,hd,hf];exact w _ (wN (u _ (by simp [bM,bF,bP,dK,hbx,e4,a0]))))
  ·intro τ D hbx hb hd hf e5 g1 g2 hT
   cases a0:D 18<;>(intro K u;try simp [bM] at hd;simp [bM] at hf;simp [bF,bP,e5,a0] at hbx;refine wC rfl fun K' w=>?_;simp [q,hbx,hb,hd,hf];exact w _ (wN (u _ (by simp [bM,bF,bP,dK,hbx,e5,a0]))))
  ·intro τ D hbx hb hd hf e6 g1 g2 hT
   cases a0:D 18<;>(intro K u;try simp [bM] at hd;simp [bM] at hf;simp [bF,bP,e6,a0] at hbx;refine wL [(.take,.tmp 24),(.take,.const (.int .i64 6))] rfl rfl (Ent.ok (E:=E) (f:=10)) (Con.ok c2) fun K' w=>?_;simp [q,hbx,hb,hd,hf];exact w _ (wN (u _ (by simp [bM,bF,bP,dK,hbx,e6,a0]))))
  ·intro τ D hbx hb hd hf e7 g1 g2 hT
   cases a0:D 18<;>(intro K u;try simp [bM] at hd;simp [bM] at hf;simp [bF,bP,e7,a0] at hbx;refine wC rfl fun K' w=>?_;simp [q,hbx,hb,hd,hf];exact w _ (wN (u _ (by simp [bM,bF,bP,dK,hbx,e7,a0]))))
  ·intro τ D hbx hb hd hf e8 g1 g2 hT
   cases a0:D 18<;>(intro K u;try simp [bM] at hd;simp [bM] at hf;simp [bF,bP,e8,a0] at hbx;refine wC rfl fun K' w=>?_;simp [q,hbx,hb,hd,hf];exact w _ (wN (u _ (by simp [bM,bF,bP,dK,hbx,e8,a0]))))
  intro τ D hbx hb hd hf a0 g1 g2 hT
  have hkl:=aH6 (.box 3) [18] hT rfl rfl (by simp [a0])
  simp only [AV.killAll,List.any_eq_true] at hkl
  (intro K u;try simp [bM] at hd;simp [bM] at hf;simp [bF,bP,a0] at hbx;refine wC rfl fun K' w=>?_;simp [q,hbx,hb,hd,hf,hkl];exact w _ (wN (u _ (by simp [bM,bF,bP,dK,hbx,a0,hkl]))))
 simp [tP,gV,bF,bP]
 refine aI q ?_
 apply wN;apply u
 obtain ⟨a4,c3,h⟩:=bS h
 refine O.seqC [2,3] [2,3] (fun _:Unit=>⟨[(2,.ref (.box 2) 0 []),(3,.ref (.box 3) 0 [])],[(2,[vi 0,vi 0,vi 0,vi 0,vi 0,vi 0,vi 0,vi 0,vi 0]),(3,[vi a4.Fns,vi a4.Nodes,vi a4.Steps,vi a4.Values,vi a4.Blocks,vi a4.Lets,vi a4.News,vi a4.Lends,vi a4.Deep])]⟩) (fun _=>True) (fun _ _=>?_) fun h6 c4=>?_
 rotate_left
 ·refine O.zS y ?_
  refine aI q ?_
  apply wN
  refine O.block ?_
  refine O.loopO [] [1,2,3,4] [1,2,3] (fun v:Int × GMeasure=>⟨[(1,.ref (.box 1) 0 []),(2,.ref (.box 2) 0 []),(3,.ref (.box 3) 0 []),(4,.t (vi v.1))],[(1,[.sl false 4 (List.map (GNode.enc false) p1.Nodes),.sl false 5 (List.map (GFn.enc false) p1.Fns)]),(2,[vi 0,vi 0,vi 0,vi 0,vi 0,vi 0,vi 0,vi 0,vi 0]),(3,[vi v.2.Fns,vi v.2.Nodes,vi v.2.Steps,vi v.2.Values,vi v.2.Blocks,vi v.2.Lets,vi v.2.News,vi v.2.Lends,vi v.2.Deep])]⟩) (dS p1) _ ((0:Int),(⟨(p1.Fns.length:Int),(p1.Nodes.length:Int),0,0,r6,r8,b9,IntKind.wrap .i64 (b7 + b8),0⟩:GMeasure)) c3 (by simp [q]) ?_
  intro g h7 a3 c5
  obtain ⟨e9,h8⟩:=g
  simp only [dS] at a3
  try dsimp only
  refine O.seq ?_
  refine O.zS y ?_
  iterate 5 refine aI q ?_
  apply wN
  refine O.cI a3 (fun g5 a3=>?_) fun g6 a3=>?_
  ·refine O.skip ?_
   refine O.seq ?_
   refine O.block ?_
   obtain ⟨a5,a1,a3⟩:=bS a3
   refine O.seqC [1,2,3,4] [1,2,3] (fun _:Unit=>⟨[(1,.ref (.box 1) 0 []),(2,.ref (.box 2) 0 []),(3,.ref (.box 3) 0 []),(4,.t (vi e9))],[(1,[.sl false 4 (List.map (GNode.enc false) p1.Nodes),.sl false 5 (List.map (GFn.enc false) p1.Fns)]),(2,[vi 0,vi 0,vi 0,vi 0,vi 0,vi 0,vi 0,vi 0,vi 0]),(3,[vi a5.Fns,vi a5.Nodes,vi a5.Steps,vi a5.Values,vi a5.Blocks,vi a5.Lets,vi a5.News,vi a5.Lends,vi a5.Deep])]⟩) (fun _=>True) (fun _ _=>?_) fun h9 b5=>?_
   rotate_left
   ·refine O.zS y ?_
    iterate 3 refine aI q ?_
    obtain ⟨i0,c6,a1⟩:=bS a1
    obtain ⟨a7,a8,a9,b0⟩:=gS c6
    iterate 3 (refine aI q ?_ rfl (by simp [a7,a8,a9,b0];rfl))
    obtain ⟨i1,c7,a1⟩:=bS a1
    refine dW [(.take,.tmp 40)] q (Ent.ok (E:=E) (f:=29)) (Con.ok c7) ?_ rfl rfl (by simp [a7,a8,a9,b0];rfl)
    apply wN
    refine O.cI a1 (fun g7 a1=>?_) fun g8 a1=>?_
    ·refine O.zH y ?_
     iterate 5 refine aI q ?_
     apply wN
     cases a1
     exact b5 _ () [] trivial (by simp [q])
    refine O.skip ?_
    cases a1
    exact b5 _ () [] trivial (by simp [q])
   obtain ⟨a6,a2,a3⟩:=bS a3
   refine O.seqC [1,2,3,4] [1,2,3] (fun _:Unit=>⟨[(1,.ref (.box 1) 0 []),(2,.ref (.box 2) 0 []),(3,.ref (.box 3) 0 []),(4,.t (vi e9))],[(1,[.sl false 4 (List.map (GNode.enc false) p1.Nodes),.sl false 5 (List.map (GFn.enc false) p1.Fns)]),(2,[vi 0,vi 0,vi 0,vi 0,vi 0,vi 0,vi 0,vi 0,vi 0]),(3,[vi a6.Fns,vi a6.Nodes,vi a6.Steps,vi a6.Values,vi a6.Blocks,vi a6.Lets,vi a6.News,vi a6.Lends,vi a6.Deep])]⟩) (fun _=>True) (fun _ _=>?_) fun i2 b6=>?_
   rotate_left
   ·refine O.zS y ?_
    iterate 3 refine aI q ?_
    obtain ⟨i3,c8,a2⟩:=bS a2
    obtain ⟨b1,b2,b3,b4⟩:=gS c8
    iterate 3 (refine aI q ?_ rfl (by simp [b1,b2,b3,b4];rfl))
    obtain ⟨i4,c9,a2⟩:=bS a2
    refine dW [(.take,.tmp 51)] q (Ent.ok (E:=E) (f:=30)) (Con.ok c9) ?_ rfl rfl (by simp [b1,b2,b3,b4];rfl)
    apply wN
    refine O.cI a2 (fun g9 a2=>?_) fun h0 a2=>?_
    ·refine O.zH y ?_
     iterate 5 refine aI q ?_
     apply wN
     cases a2
     exact b6 _ () [] trivial (by simp [q])
    refine O.skip ?_
    cases a2
    exact b6 _ () [] trivial (by simp [q])
   refine O.zS y ?_
   iterate 3 refine aI q ?_
   obtain ⟨i5,e0,a3⟩:=bS a3
   refine dW [(.take,.tmp 58),(.take,.tmp 59)] q (Ent.ok (E:=E) (f:=31)) (Con.ok e0) ?_
   iterate 8 first|refine aI q ?_|apply wN|refine O.zS y ?_
   refine O.cI a3 (fun h1 a3=>?_) fun h2 a3=>?_
   ·refine O.zH y ?_
    iterate 3 refine aI q ?_
    apply wN
    refine O.zH y ?_
    iterate 3 refine aI q ?_
    apply wN
    cases a3
    exact ⟨_,[],rfl,by simp [q]⟩
   refine O.skip ?_
   refine O.zH y ?_
   iterate 3 refine aI q ?_
   apply wN
   cases a3
   exact ⟨_,[],rfl,by simp [q]⟩
  refine O.exit ?_
  have h3:=congrArg some (c5 _ (Option.some.inj a3).symm)
  cases h3
  exact c4 _ () [] trivial (by simp [q])
 refine O.zS y ?_
 iterate 2 refine aI q ?_
 apply wN
 cases h
 refine O.ret ?_
 simp [aQ,iB,res14]
instance e14_:Ent E 14:=⟨ent14⟩
end Go.Proofs.T
