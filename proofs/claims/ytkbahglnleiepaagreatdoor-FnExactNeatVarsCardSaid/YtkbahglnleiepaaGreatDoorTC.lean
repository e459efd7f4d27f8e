import Derived.Test.YtkbahglnleiepaaGreatDoorTB
import Derived.KernelRfl
set_option linter.unusedVariables false
set_option linter.unusedSimpArgs false
set_option linter.unusedVariables false
set_option linter.unusedSimpArgs false
set_option maxHeartbeats 8000000
namespace Go.Proofs.T
open Go.OM
theorem aMc:Tryz.f55.results.toList=[.tmp 8]:=rfl
theorem aOn:aF E.P 55:=eO Tryz.func55 (by simp [Tryz.f55]) rfl
theorem aAv (a4:GProgram→Int→Int→(List ByteArray)→Option (Bool)) (a9:∀ (a0:GProgram) (a1:Int) (a2:Int) (a3:List ByteArray) {r0:Bool},a4 a0 a1 a2 a3=some r0→Ok E 55 [.val (GProgram.enc false a0),.val (vi a1),.val (vi a2),.val (.sl false 1 (List.map vs a3))] [vb r0] []) (p1:GProgram) (c4:Int) (k3:Int) (a6:List ByteArray) {r0:Bool} (h:mH a4 p1 c4 k3 a6=some r0):Ok E 55 [.val (GProgram.enc false p1),.val (vi c4),.val (vi k3),.val (.sl false 1 (List.map vs a6))] [vb r0] []:=by
 refine oB Tryz.func55 rfl (by simp [Tryz.f55]) fun C (q:C.N=91) hP=>?_
 have y:=aL hP
 unfold mH at h
 refine O.zR y fun K u=>?_
 iterate 2 (refine wC rfl fun K z=>?_;simp [q];apply z)
 apply wN;apply u
 refine O.zR y fun K u=>?_
 iterate 3 (refine wC rfl fun K z=>?_;simp [q];apply z)
 obtain ⟨e5,j6,h⟩:=bS h
 obtain ⟨g6,g7,g8,g9⟩:=gS j6
 iterate 4 (refine wC rfl fun K z=>?_;simp [q,g6,g7,g8,g9];apply z)
 apply wN;apply u
 refine O.seq ?_
 obtain ⟨j7,c7,h⟩:=bS h
 refine O.seqRC rfl (y _ rfl) [1,3,4,9,28] [4,9] (fun _:Unit=>⟨[(1,.t (vi c4)),(3,.t (.sl false 1 (List.map vs a6))),(4,.ref (.box 4) 0 []),(9,.ref (.box 9) 0 []),(28,.t (vb j7))],[(4,[.sl false 4 (List.map (GNode.enc false) p1.Nodes),.sl false 5 (List.map (GFn.enc false) p1.Fns)]),(9,[vi e5.Kind,vi e5.Num,vs e5.Name,.sl false 1 (List.map vi e5.Kids)])]⟩) (fun _=>True) (fun _ _=>?_) fun K7 j4=>?_
 rotate_left
 ·refine wC rfl fun K z=>?_;simp [q];apply z
  refine wC rfl fun K z=>?_;simp [q];apply z
  obtain ⟨r8,j8,c7⟩:=bS c7
  refine wL [(.take,.tmp 20)] rfl rfl ent89 (aEr _ j8) fun K z=>?_;simp [q];apply z
  refine wC rfl fun K z=>?_;simp [q];apply z
  rcases aA c7 with ⟨c6,c7⟩ | ⟨c8,c7⟩
  ·have b7:=c6
   try simp at b7
   iterate 3 (refine wC rfl fun K z=>?_;simp [q,c6,b7];apply z)
   obtain ⟨l0,h0,c7⟩:=bS c7
   refine wL [(.take,.tmp 23),(.take,.tmp 25)] rfl rfl ent90 (zN _ _ h0) fun K z=>?_;simp [q,c6,b7];apply z
   iterate 2 (refine wC rfl fun K z=>?_;simp [q,c6,b7];apply z)
   refine wN ?_
   cases c7
   exact j4 _ () [] trivial (by simp [q,c6,b7])
  ·have c0:=c8
   try simp at c0
   iterate 5 (refine wO fun K z=>?_;simp [q,c8,c0];apply z)
   refine wC rfl fun K z=>?_;simp [q,c8,c0];apply z
   refine wN ?_
   cases c7
   exact j4 _ () [] trivial (by simp [q,c8,c0])
 rcases aA h with ⟨h1,h⟩ | ⟨h2,h⟩
 ·refine O.cT' (by simp) h1 ?_
  refine O.zR y fun K u=>?_
  refine wC rfl fun K z=>?_;simp [q];apply z
  apply wN;apply u
  cases h
  refine O.ret ?_
  simp [aC,iB,aMc]
 ·refine O.cF' (by simp) h2 ?_
  refine O.skip ?_
  obtain ⟨j9,a7,h⟩:=bS h
  refine O.seqC [1,3,4,9] [4,9] (fun v:Unit=>⟨[(1,.t (vi c4)),(3,.t (.sl false 1 (List.map vs a6))),(4,.ref (.box 4) 0 []),(9,.ref (.box 9) 0 [])],[(4,[.sl false 4 (List.map (GNode.enc false) p1.Nodes),.sl false 5 (List.map (GFn.enc false) p1.Fns)]),(9,[vi e5.Kind,vi e5.Num,vs e5.Name,.sl false 1 (List.map vi e5.Kids)])]⟩) (fun v=>j9=Sum.inl v) (fun v hv=>?_) fun l1 e6=>?_
  rotate_left
  ·refine O.zR y fun K u=>?_
   iterate 3 (refine wC rfl fun K z=>?_;simp [q];apply z)
   apply wN;apply u
   rcases aA a7 with ⟨h3,a7⟩ | ⟨h4,a7⟩
   ·refine O.cT' (by simp) h3 ?_
    refine O.zR y fun K u=>?_
    iterate 3 (refine wC rfl fun K z=>?_;simp [q];apply z)
    obtain ⟨h5,h6,a7⟩:=bS a7
    refine wL [(.take,.tmp 32),(.take,.tmp 34)] rfl rfl ent41 (vO _ _ h6) fun K z=>?_;simp [q];apply z
    refine wC rfl fun K z=>?_;simp [q];apply z
    apply wN;apply u
    obtain ⟨k0,b6,a7⟩:=bS a7
    refine O.seqC [1,3,4,9,53] [4,9] (fun _:Unit=>⟨[(1,.t (vi c4)),(3,.t (.sl false 1 (List.map vs a6))),(4,.ref (.box 4) 0 []),(9,.ref (.box 9) 0 []),(53,.t (vb k0))],[(4,[.sl false 4 (List.map (GNode.enc false) p1.Nodes),.sl false 5 (List.map (GFn.enc false) p1.Fns)]),(9,[vi e5.Kind,vi e5.Num,vs e5.Name,.sl false 1 (List.map vi e5.Kids)])]⟩) (fun _=>True) (fun _ _=>?_) fun l2 e7=>?_
    rotate_left
    ·obtain ⟨e4,e8,b6⟩:=bS b6
     rcases aA b6 with ⟨b1,b6⟩ | ⟨b8,b6⟩
     ·have a5:=b1
      try simp at a5
      refine O.dT rfl (y _ rfl) [(36,.t (vi h5)),(37,.t (vi c4)),(38,.t (vi (IntKind.wrap .i64 (c4 - 1)))),(39,.t (vb e4)),(40,.t (vb (!e4))),(41,.t (vb (!e4))),(42,.tup []),(43,.tup []),(44,.tup []),(45,.tup []),(46,.tup []),(47,.tup []),(48,.tup []),(49,.tup []),(50,.tup []),(51,.tup [])] [[],[],[1],[0,1,2],[0,1,2,3],[0,1,2,3,4],[0,1,2,3,4,5],[0,1,2,3,4,5,6],[0,1,2,3,4,5],[0,1,2,3,4,5,6,7,8],[0,1,2,3,4,5,6,7,8,9],[0,1,2,3,4,5,6,7,8,9,10],[0,1,2,3,4,5,6,7,8,9,10,11],[0,1,2,3,4,5],[0,1,2,3,4,5,13],[0,1,2,3,4,5,13,14],[0,1,2,3,4,5,6,7,8,9,10,11,12,13,14,15],[0,1,2,3,4,5,6,7,8,9,10,11,12,13,14,15,16]] (by simp) (by simp) (by simp [look]) rfl rfl rfl ?_ fun K u=>?_
      ·refine ⟨?_,?_,?_,?_,?_,?_,?_,?_,?_,?_,?_,?_,?_,?_,?_,?_,trivial⟩
       all_goals (intro τ hbx hb hd hf K u;try simp [aJ] at hd;simp [aJ] at hf;first | (refine wC rfl fun K' w=>?_;simp [q,hbx,hb,hd,hf,b1,a5];exact w _ (wN (u _ (by simp [aJ,hbx,b1,a5])))) | (refine wL [(.take,.tmp 36),(.take,.const (.int .i64 0)),(.take,.tmp 38)] rfl rfl lG (aU _ _ _ e8) fun K' w=>?_;simp [q,hbx,hb,hd,hf,b1,a5];exact w _ (wN (u _ (by simp [aJ,hbx,b1,a5])))) | (refine wO fun K' w=>?_;simp [q,hbx,hb,hd,hf,b1,a5];exact w _ (wN (u _ (by simp [aJ,hbx,b1,a5])))))
      refine wO fun K z=>?_;simp [q,b1,a5];apply z
      refine wC rfl fun K z=>?_;simp [q,b1,a5];apply z
      apply wN;apply u
      cases b6
      exact e7 _ () [] trivial (by simp [q,b1,a5])
     ·have b0:=b8
      try simp at b0
      obtain ⟨c5,h7,b6⟩:=bS b6
      obtain ⟨b2,b3,b4,b5⟩:=gS h7
      refine O.dT rfl (y _ rfl) [(36,.t (vi h5)),(37,.t (vi c4)),(38,.t (vi (IntKind.wrap .i64 (c4 - 1)))),(39,.t (vb e4)),(40,.t (vb (!e4))),(41,.t (vb (!e4))),(42,.ref (.box 4) 1 []),(43,.t (.sl false 5 (List.map (GFn.enc false) p1.Fns))),(44,.t (vi h5)),(45,.rop [vs c5.Name,.sl false 2 (List.map GParam.enc c5.Params),vi c5.Res,vi c5.Body,vi c5.Ret] 0),(46,.rop [vs c5.Name,.sl false 2 (List.map GParam.enc c5.Params),vi c5.Res,vi c5.Body,vi c5.Ret] 1),(47,.t (.sl false 2 (List.map GParam.enc c5.Params))),(48,.t (vi (c5.Params.length:Int))),(49,.ref (.box 9) 3 []),(50,.t (.sl false 1 (List.map vi e5.Kids))),(51,.t (vi (e5.Kids.length:Int)))] [[],[],[1],[0,1,2],[0,1,2,3],[0,1,2,3,4],[0,1,2,3,4,5],[0,1,2,3,4,5,6],[0,1,2,3,4,5],[0,1,2,3,4,5,6,7,8],[0,1,2,3,4,5,6,7,8,9],[0,1,2,3,4,5,6,7,8,9,10],[0,1,2,3,4,5,6,7,8,9,10,11],[0,1,2,3,4,5],[0,1,2,3,4,5,13],[0,1,2,3,4,5,13,14],[0,1,2,3,4,5,6,7,8,9,10,11,12,13,14,15],[0,1,2,3,4,5,6,7,8,9,10,11,12,13,14,15,16]] (by simp) (by simp) (by simp [look]) rfl rfl rfl ?_ fun K u=>?_
      ·refine ⟨?_,?_,?_,?_,?_,?_,?_,?_,?_,?_,?_,?_,?_,?_,?_,?_,trivial⟩
       all_goals (intro τ hbx hb hd hf K u;try simp [aJ] at hd;simp [aJ] at hf;first | (refine wC rfl fun K' w=>?_;simp [q,hbx,hb,hd,hf,b8,b0,b2,b3,b4,b5];exact w _ (wN (u _ (by simp [aJ,hbx,b8,b0,b2,b3,b4,b5])))) | (refine wL [(.take,.tmp 36),(.take,.const (.int .i64 0)),(.take,.tmp 38)] rfl rfl lG (aU _ _ _ e8) fun K' w=>?_;simp [q,hbx,hb,hd,hf,b8,b0,b2,b3,b4,b5];exact w _ (wN (u _ (by simp [aJ,hbx,b8,b0,b2,b3,b4,b5])))))
      iterate 2 (refine wC rfl fun K z=>?_;simp [q,b8,b0,b2,b3,b4,b5];apply z)
      apply wN;apply u
      cases b6
      exact e7 _ () [] trivial (by simp [q,b8,b0,b2,b3,b4,b5])
    rcases aA a7 with ⟨h8,a7⟩ | ⟨h9,a7⟩
    ·refine O.cT' (by simp) h8 ?_
     refine O.zR y fun K u=>?_
     refine wC rfl fun K z=>?_;simp [q];apply z
     apply wN;apply u
     cases a7
     try dsimp only at h
     cases h
     refine O.ret ?_
     simp [aC,iB,aMc]
    ·refine O.cF' (by simp) h9 ?_
     refine O.skip ?_
     cases a7
     exact e6 _ _ [] rfl (by simp [q])
   ·refine O.cF' (by simp) h4 ?_
    refine O.skip ?_
    cases a7
    exact e6 _ _ [] rfl (by simp [q])
  subst hv
  obtain ⟨⟩:=v
  try dsimp only at h ⊢
  refine O.zR y fun K u=>?_
  refine wC rfl fun K z=>?_;simp [q];apply z
  obtain ⟨l3,i0,h⟩:=bS h
  obtain ⟨d1,d2,j5⟩:=aS i0
  simp [eSl] at d1 d2
  iterate 2 (refine wC rfl fun K z=>?_;simp [q,d1,d2];apply z)
  apply wN;apply u
  obtain ⟨k1,i1,h⟩:=bS h
  refine O.seqC [] [] (fun v:Unit=>⟨[],[]⟩) (fun v=>k1=Sum.inl v) (fun v hv=>?_) fun l4 i2=>?_
  rotate_left
  ·refine O.zR y fun K u=>?_
   iterate 4 (refine wC rfl fun K z=>?_;simp [q];apply z)
   apply wN;apply u
   refine O.block ?_
   refine O.loopO [] [1,4,9,11,57,58,59] [4,9] (fun v:(List ByteArray) × Int=>⟨[(1,.t (vi c4)),(4,.ref (.box 4) 0 []),(9,.ref (.box 9) 0 []),(11,.t (.sl true 1 (List.map vs v.1))),(57,.t (.sl false 1 (List.map vi e5.Kids))),(58,.t (vi (e5.Kids.length:Int))),(59,.t (vi v.2))],[(4,[.sl false 4 (List.map (GNode.enc false) p1.Nodes),.sl false 5 (List.map (GFn.enc false) p1.Fns)]),(9,[vi e5.Kind,vi e5.Num,vs e5.Name,.sl false 1 (List.map vi e5.Kids)])]⟩) (fW a4 p1 c4 e5) _ (a6,0) i1 (by simp [q]) ?_
   intro g l5 a8 e9
   obtain ⟨c1,k2⟩:=g
   simp only [fW] at a8
   try dsimp only
   refine O.zR y fun K u=>?_
   refine wC rfl fun K z=>?_;simp [q];apply z
   apply wN;apply u
   refine O.seq ?_
   rcases aA a8 with ⟨i3,a8⟩ | ⟨i4,a8⟩
   ·refine O.cT' (by simp) i3 ?_
    refine O.skip ?_
    refine O.seq ?_
    refine O.block ?_
    refine O.zR y fun K u=>?_
    obtain ⟨k4,i5,a8⟩:=bS a8
    obtain ⟨g0,g1,g2,g3⟩:=gS i5
    iterate 3 (refine wC rfl fun K z=>?_;simp [q,g0,g1,g2,g3];apply z)
    apply wN;apply u
    refine O.seq ?_
    refine O.zR y fun K u=>?_
    iterate 4 (refine wC rfl fun K z=>?_;simp [q];apply z)
    obtain ⟨l6,i6,a8⟩:=bS a8
    refine wL [(.take,.tmp 63),(.take,.tmp 64),(.take,.tmp 65),(.bor,.tmp 66)] rfl rfl aOn (a9 _ _ _ _ i6) fun K z=>?_;simp [q];apply z
    refine wC rfl fun K z=>?_;simp [q];apply z
    apply wN;apply u
    rcases aA a8 with ⟨i7,a8⟩ | ⟨i8,a8⟩
    ·refine O.cT' (by simp) i7 ?_
     refine O.zR y fun K u=>?_
     refine wC rfl fun K z=>?_;simp [q];apply z
     apply wN;apply u
     have k5:=congrArg some (e9 _ (Option.some.inj a8).symm)
     cases k5
     try dsimp only at h
     cases h
     refine O.ret ?_
     simp [aC,iB,aMc]
    ·refine O.cF' (by simp) i8 ?_
     refine O.skip ?_
     obtain ⟨k6,b9,a8⟩:=bS a8
     refine O.seqRC rfl (y _ rfl) [1,4,9,11,13,57,58,59,80] [4,9] (fun _:Unit=>⟨[(1,.t (vi c4)),(4,.ref (.box 4) 0 []),(9,.ref (.box 9) 0 []),(11,.t (.sl true 1 (List.map vs c1))),(13,.t (vi k4)),(57,.t (.sl false 1 (List.map vi e5.Kids))),(58,.t (vi (e5.Kids.length:Int))),(59,.t (vi k2)),(80,.t (vb k6))],[(4,[.sl false 4 (List.map (GNode.enc false) p1.Nodes),.sl false 5 (List.map (GFn.enc false) p1.Fns)]),(9,[vi e5.Kind,vi e5.Num,vs e5.Name,.sl false 1 (List.map vi e5.Kids)])]⟩) (fun _=>True) (fun _ _=>?_) fun l7 g4=>?_
     rotate_left
     ·refine wC rfl fun K z=>?_;simp [q];apply z
      iterate 3 (refine wC rfl fun K z=>?_;simp [q];apply z)
      rcases aA b9 with ⟨c9,b9⟩ | ⟨d0,b9⟩
      ·have c2:=c9
       try simp at c2
       iterate 3 (refine wC rfl fun K z=>?_;simp [q,c9,c2];apply z)
       obtain ⟨l8,i9,b9⟩:=bS b9
       obtain ⟨d3,d4,d5,d6⟩:=gS i9
       iterate 5 (refine wC rfl fun K z=>?_;simp [q,c9,c2,d3,d4,d5,d6];apply z)
       refine wN ?_
       cases b9
       exact g4 _ () [] trivial (by simp [q,c9,c2,d3,d4,d5,d6])
      ·have c3:=d0
       try simp at c3
       iterate 7 (refine wO fun K z=>?_;simp [q,d0,c3];apply z)
       refine wC rfl fun K z=>?_;simp [q,d0,c3];apply z
       refine wN ?_
       cases b9
       exact g4 _ () [] trivial (by simp [q,d0,c3])
     rcases aA a8 with ⟨j0,a8⟩ | ⟨j1,a8⟩
     ·refine O.cT' (by simp) j0 ?_
      refine O.zG y fun K u=>?_
      iterate 4 (refine wC rfl fun K z=>?_;simp [q];apply z)
      obtain ⟨k7,j2,a8⟩:=bS a8
      obtain ⟨d7,d8,d9,e0⟩:=gS j2
      iterate 4 (refine wC rfl fun K z=>?_;simp [q,d7,d8,d9,e0];apply z)
      obtain ⟨k8,j3,a8⟩:=bS a8
      obtain ⟨e1,e2,g5⟩:=aS j3
      have e3:List.map vs c1 ++ List.map vs [k7.Name]=List.map vs k8:=dJ (f:=vs) g5
      simp [eSl] at e1 e2 e3
      iterate 2 (refine wC rfl fun K z=>?_;simp [q,d7,d8,d9,e0,e1,e2,e3];apply z)
      apply wN;apply u
      refine O.zG y fun K u=>?_
      iterate 2 (refine wC rfl fun K z=>?_;simp [q];apply z)
      apply wN;apply u
      cases a8
      exact ⟨_,[],rfl,by simp [q]⟩
     ·refine O.cF' (by simp) j1 ?_
      refine O.skip ?_
      refine O.zG y fun K u=>?_
      iterate 2 (refine wC rfl fun K z=>?_;simp [q];apply z)
      apply wN;apply u
      cases a8
      exact ⟨_,[],rfl,by simp [q]⟩
   ·refine O.cF' (by simp) i4 ?_
    refine O.exit ?_
    have k9:=congrArg some (e9 _ (Option.some.inj a8).symm)
    cases k9
    exact i2 _ _ [] rfl (by simp [q])
  subst hv
  obtain ⟨⟩:=v
  try dsimp only at h ⊢
  refine O.zR y fun K u=>?_
  refine wC rfl fun K z=>?_;simp [q];apply z
  apply wN;apply u
  cases h
  refine O.ret ?_
  simp [aC,iB,aMc]
theorem pC:∀ n:Nat,(∀ (a0:GProgram) (a1:Int) (a2:Int) (a3:List ByteArray) {r0:Bool},(dZ n) a0 a1 a2 a3=some r0→Ok E 55 [.val (GProgram.enc false a0),.val (vi a1),.val (vi a2),.val (.sl false 1 (List.map vs a3))] [vb r0] [])
 | 0=>(by intros;rename_i h;cases h)
 | n + 1=>aAv (dZ n) (pC n)
theorem vN:∀ (a0:GProgram) (a1:Int) (a2:Int) (a3:List ByteArray) {r0:Bool},qF a0 a1 a2 a3=some r0→Ok E 55 [.val (GProgram.enc false a0),.val (vi a1),.val (vi a2),.val (.sl false 1 (List.map vs a3))] [vb r0] []:=(pC iA)
theorem aK7:Tryz.f23.results.toList=[.tmp 2]:=rfl
theorem ent23:aF E.P 23:=eO Tryz.func23 (by simp [Tryz.f23]) rfl
theorem tK (p1:GProgram) {r0:Bool} (h:fX p1=some r0):Ok E 23 [.val (GProgram.enc false p1)] [vb r0] []:=by
 refine oB Tryz.func23 rfl (by simp [Tryz.f23]) fun C (q:C.N=87) hP=>?_
 have u:=aL hP
 unfold fX at h
 refine O.zR u fun K w=>?_
 iterate 2 (refine wC rfl fun K z=>?_;simp [q];apply z)
 apply wN;apply w
 refine O.seq ?_
 refine O.zR u fun K w=>?_
 refine wC rfl fun K z=>?_;simp [q];apply z
 obtain ⟨r2,j2,h⟩:=bS h
 refine wL [(.take,.tmp 10)] rfl rfl ent53 (uY _ j2) fun K z=>?_;simp [q];apply z
 refine wC rfl fun K z=>?_;simp [q];apply z
 apply wN;apply w
 rcases aA h with ⟨j3,h⟩ | ⟨j4,h⟩
 ·refine O.cT' (by simp) j3 ?_
  refine O.zR u fun K w=>?_
  refine wC rfl fun K z=>?_;simp [q];apply z
  apply wN;apply w
  cases h
  refine O.ret ?_
  simp [aC,iB,aK7]
 ·refine O.cF' (by simp) j4 ?_
  refine O.skip ?_
  obtain ⟨j8,j5,h⟩:=bS h
  refine O.seqC [] [] (fun v:Unit=>⟨[],[]⟩) (fun v=>j8=Sum.inl v) (fun v hv=>?_) fun K7 j6=>?_
  rotate_left
  ·refine O.zR u fun K w=>?_
   iterate 4 (refine wC rfl fun K z=>?_;simp [q];apply z)
   apply wN;apply w
   refine O.block ?_
   refine O.loopO [] [1,14,15,16] [1] (fun v:Int=>⟨[(1,.ref (.box 1) 0 []),(14,.t (.sl false 5 (List.map (GFn.enc false) p1.Fns))),(15,.t (vi (p1.Fns.length:Int))),(16,.t (vi v))],[(1,[.sl false 4 (List.map (GNode.enc false) p1.Nodes),.sl false 5 (List.map (GFn.enc false) p1.Fns)])]⟩) (cH p1) _ 0 j5 (by simp [q]) ?_
   intro g l0 a4 b0
   obtain ⟨v9,hg⟩:∃ y,y=g:=⟨_,rfl⟩
   subst hg
   simp only [cH] at a4
   try dsimp only
   refine O.zR u fun K w=>?_
   refine wC rfl fun K z=>?_;simp [q];apply z
   apply wN;apply w
   refine O.seq ?_
   rcases aA a4 with ⟨g0,a4⟩ | ⟨g1,a4⟩
   ·refine O.cT' (by simp) g0 ?_
    refine O.skip ?_
    obtain ⟨j7,a0,a4⟩:=bS a4
    refine O.seqC [1,14,15,16] [1] (fun v:Unit=>⟨[(1,.ref (.box 1) 0 []),(14,.t (.sl false 5 (List.map (GFn.enc false) p1.Fns))),(15,.t (vi (p1.Fns.length:Int))),(16,.t (vi v9))],[(1,[.sl false 4 (List.map (GNode.enc false) p1.Nodes),.sl false 5 (List.map (GFn.enc false) p1.Fns)])]⟩) (fun v=>j7=Sum.inl v) (fun v hv=>?_) fun l1 g2=>?_
    rotate_left
    ·refine O.block ?_
     refine O.zR u fun K w=>?_
     refine wC rfl fun K z=>?_;simp [q];apply z
     obtain ⟨a1,g3,a0⟩:=bS a0
     obtain ⟨d0,d1,d2,d3⟩:=gS g3
     iterate 5 (refine wC rfl fun K z=>?_;simp [q,d0,d1,d2,d3];apply z)
     apply wN;apply w
     refine O.seq ?_
     refine O.zR u fun K w=>?_
     iterate 2 (refine wC rfl fun K z=>?_;simp [q];apply z)
     obtain ⟨l2,g4,a0⟩:=bS a0
     refine wL [(.take,.tmp 21),(.take,.tmp 22)] rfl rfl ent54 (zK _ _ g4) fun K z=>?_;simp [q];apply z
     refine wC rfl fun K z=>?_;simp [q];apply z
     apply wN;apply w
     rcases aA a0 with ⟨g5,a0⟩ | ⟨g6,a0⟩
     ·refine O.cT' (by simp) g5 ?_
      refine O.zR u fun K w=>?_
      refine wC rfl fun K z=>?_;simp [q];apply z
      apply wN;apply w
      cases a0
      try dsimp only at a4
      have j9:=congrArg some (b0 _ (Option.some.inj a4).symm)
      cases j9
      try dsimp only at h
      cases h
      refine O.ret ?_
      simp [aC,iB,aK7]
     ·refine O.cF' (by simp) g6 ?_
      refine O.skip ?_
      refine O.zR u fun K w=>?_
      refine wC rfl fun K z=>?_;simp [q];apply z
      apply wN;apply w
      obtain ⟨a6,g7,a0⟩:=bS a0
      refine O.seqC [1,3,4,5,14,15,16] [1,4] (fun _:Unit=>⟨[(1,.ref (.box 1) 0 []),(3,.t (vi v9)),(4,.ref (.box 4) 0 []),(5,.t (.sl true 1 (List.map vs a6))),(14,.t (.sl false 5 (List.map (GFn.enc false) p1.Fns))),(15,.t (vi (p1.Fns.length:Int))),(16,.t (vi v9))],[(1,[.sl false 4 (List.map (GNode.enc false) p1.Nodes),.sl false 5 (List.map (GFn.enc false) p1.Fns)]),(4,[vs a1.Name,.sl false 2 (List.map GParam.enc a1.Params),vi a1.Res,vi a1.Body,vi a1.Ret])]⟩) (fun _=>True) (fun _ _=>?_) fun l3 g8=>?_
      rotate_left
      ·refine O.zR u fun K w=>?_
       iterate 4 (refine wC rfl fun K z=>?_;simp [q];apply z)
       apply wN;apply w
       refine O.block ?_
       refine O.loopO [] [1,3,4,5,14,15,16,26,27,28] [1,4] (fun v:(List ByteArray) × Int=>⟨[(1,.ref (.box 1) 0 []),(3,.t (vi v9)),(4,.ref (.box 4) 0 []),(5,.t (.sl true 1 (List.map vs v.1))),(14,.t (.sl false 5 (List.map (GFn.enc false) p1.Fns))),(15,.t (vi (p1.Fns.length:Int))),(16,.t (vi v9)),(26,.t (.sl false 2 (List.map GParam.enc a1.Params))),(27,.t (vi (a1.Params.length:Int))),(28,.t (vi v.2))],[(1,[.sl false 4 (List.map (GNode.enc false) p1.Nodes),.sl false 5 (List.map (GFn.enc false) p1.Fns)]),(4,[vs a1.Name,.sl false 2 (List.map GParam.enc a1.Params),vi a1.Res,vi a1.Body,vi a1.Ret])]⟩) (bN a1) _ ([],0) g7 (by simp [q]) ?_
       intro g l4 a9 g9
       obtain ⟨b1,l5⟩:=g
       simp only [bN] at a9
       try dsimp only
       refine O.zR u fun K w=>?_
       refine wC rfl fun K z=>?_;simp [q];apply z
       apply wN;apply w
       refine O.seq ?_
       rcases aA a9 with ⟨h0,a9⟩ | ⟨h1,a9⟩
       ·refine O.cT' (by simp) h0 ?_
        refine O.skip ?_
        refine O.seq ?_
        refine O.block ?_
        refine O.zR u fun K w=>?_
        obtain ⟨k0,h2,a9⟩:=bS a9
        obtain ⟨d4,d5,d6,d7⟩:=gS h2
        iterate 4 (refine wC rfl fun K z=>?_;simp [q,d4,d5,d6,d7];apply z)
        apply wN;apply w
        refine O.zG u fun K w=>?_
        iterate 4 (refine wC rfl fun K z=>?_;simp [q];apply z)
        obtain ⟨k1,h3,a9⟩:=bS a9
        obtain ⟨b5,b6,d8⟩:=aS h3
        have b7:List.map vs b1 ++ List.map vs [k0.Name]=List.map vs k1:=dJ (f:=vs) d8
        simp [eSl] at b5 b6 b7
        iterate 2 (refine wC rfl fun K z=>?_;simp [q,b5,b6,b7];apply z)
        apply wN;apply w
        refine O.zG u fun K w=>?_
        iterate 2 (refine wC rfl fun K z=>?_;simp [q];apply z)
        apply wN;apply w
        cases a9
        exact ⟨_,[],rfl,by simp [q]⟩
       ·refine O.cF' (by simp) h1 ?_
        refine O.exit ?_
        have k2:=congrArg some (g9 _ (Option.some.inj a9).symm)
        cases k2
        exact g8 _ () [] trivial (by simp [q])
      refine O.seq ?_
      refine O.zR u fun K w=>?_
      iterate 5 (refine wC rfl fun K z=>?_;simp [q];apply z)
      obtain ⟨l6,h4,a0⟩:=bS a0
      refine wL [(.take,.tmp 38),(.take,.tmp 39),(.take,.tmp 41),(.bor,.tmp 42)] rfl rfl aOn (vN _ _ _ _ h4) fun K z=>?_;simp [q];apply z
      refine wC rfl fun K z=>?_;simp [q];apply z
      apply wN;apply w
      rcases aA a0 with ⟨h5,a0⟩ | ⟨h6,a0⟩
      ·refine O.cT' (by simp) h5 ?_
       refine O.zR u fun K w=>?_
       refine wC rfl fun K z=>?_;simp [q];apply z
       apply wN;apply w
       cases a0
       try dsimp only at a4
       have k3:=congrArg some (b0 _ (Option.some.inj a4).symm)
       cases k3
       try dsimp only at h
       cases h
       refine O.ret ?_
       simp [aC,iB,aK7]
      ·refine O.cF' (by simp) h6 ?_
       refine O.skip ?_
       obtain ⟨b2,c9,a0⟩:=bS a0
       refine O.seqC [1,3,4,5,14,15,16] [1,4] (fun _:Unit=>⟨[(1,.ref (.box 1) 0 []),(3,.t (vi v9)),(4,.ref (.box 4) 0 []),(5,.t (.sl true 1 (List.map vs b2))),(14,.t (.sl false 5 (List.map (GFn.enc false) p1.Fns))),(15,.t (vi (p1.Fns.length:Int))),(16,.t (vi v9))],[(1,[.sl false 4 (List.map (GNode.enc false) p1.Nodes),.sl false 5 (List.map (GFn.enc false) p1.Fns)]),(4,[vs a1.Name,.sl false 2 (List.map GParam.enc a1.Params),vi a1.Res,vi a1.Body,vi a1.Ret])]⟩) (fun _=>True) (fun _ _=>?_) fun l7 h7=>?_
       rotate_left
       ·refine O.zR u fun K w=>?_
        iterate 4 (refine wC rfl fun K z=>?_;simp [q];apply z)
        obtain ⟨h8,h9,c9⟩:=bS c9
        obtain ⟨d9,b8,b9,c0⟩:=gS h9
        have c1:=b8;try simp at c1
        try simp only [Int.toNat_natCast] at b9 c0
        iterate 5 (refine wC rfl fun K z=>?_;simp [q,d9,b8,b9,c0,c1];apply z)
        apply wN;apply w
        refine O.block ?_
        refine O.loopO [] [1,3,4,5,14,15,16,51,52,53] [1,4] (fun v:(List ByteArray) × Int=>⟨[(1,.ref (.box 1) 0 []),(3,.t (vi v9)),(4,.ref (.box 4) 0 []),(5,.t (.sl true 1 (List.map vs v.1))),(14,.t (.sl false 5 (List.map (GFn.enc false) p1.Fns))),(15,.t (vi (p1.Fns.length:Int))),(16,.t (vi v9)),(51,.t (.sl false 1 (List.map vi h8.Kids))),(52,.t (vi (h8.Kids.length:Int))),(53,.t (vi v.2))],[(1,[.sl false 4 (List.map (GNode.enc false) p1.Nodes),.sl false 5 (List.map (GFn.enc false) p1.Fns)]),(4,[vs a1.Name,.sl false 2 (List.map GParam.enc a1.Params),vi a1.Res,vi a1.Body,vi a1.Ret])]⟩) (bM p1 h8) _ (a6,0) c9 (by simp [q]) ?_
        intro g l8 a2 i0
        obtain ⟨b3,l9⟩:=g
        simp only [bM] at a2
        try dsimp only
        refine O.zR u fun K w=>?_
        refine wC rfl fun K z=>?_;simp [q];apply z
        apply wN;apply w
        refine O.seq ?_
        rcases aA a2 with ⟨i1,a2⟩ | ⟨i2,a2⟩
        ·refine O.cT' (by simp) i1 ?_
         refine O.skip ?_
         refine O.seq ?_
         refine O.block ?_
         refine O.zR u fun K w=>?_
         obtain ⟨m0,i3,a2⟩:=bS a2
         obtain ⟨e0,e1,e2,e3⟩:=gS i3
         iterate 3 (refine wC rfl fun K z=>?_;simp [q,e0,e1,e2,e3];apply z)
         apply wN;apply w
         refine O.zR u fun K w=>?_
         iterate 3 (refine wC rfl fun K z=>?_;simp [q];apply z)
         obtain ⟨m1,i4,a2⟩:=bS a2
         obtain ⟨e4,e5,e6,e7⟩:=gS i4
         iterate 4 (refine wC rfl fun K z=>?_;simp [q,e4,e5,e6,e7];apply z)
         apply wN;apply w
         rcases aA a2 with ⟨i5,a2⟩ | ⟨i6,a2⟩
         ·refine O.cT' (by simp) i5 ?_
          refine O.zG u fun K w=>?_
          iterate 4 (refine wC rfl fun K z=>?_;simp [q];apply z)
          obtain ⟨k4,i7,a2⟩:=bS a2
          obtain ⟨c2,c3,c4,c5⟩:=gS i7
          iterate 4 (refine wC rfl fun K z=>?_;simp [q,c2,c3,c4,c5];apply z)
          obtain ⟨k5,i8,a2⟩:=bS a2
          obtain ⟨c6,c7,e8⟩:=aS i8
          have c8:List.map vs b3 ++ List.map vs [k4.Name]=List.map vs k5:=dJ (f:=vs) e8
          simp [eSl] at c6 c7 c8
          iterate 2 (refine wC rfl fun K z=>?_;simp [q,c2,c3,c4,c5,c6,c7,c8];apply z)
          apply wN;apply w
          refine O.zG u fun K w=>?_
          iterate 2 (refine wC rfl fun K z=>?_;simp [q];apply z)
          apply wN;apply w
          cases a2
          exact ⟨_,[],rfl,by simp [q]⟩
         ·refine O.cF' (by simp) i6 ?_
          refine O.skip ?_
          refine O.zG u fun K w=>?_
          iterate 2 (refine wC rfl fun K z=>?_;simp [q];apply z)
          apply wN;apply w
          cases a2
          exact ⟨_,[],rfl,by simp [q]⟩
        ·refine O.cF' (by simp) i2 ?_
         refine O.exit ?_
         have k6:=congrArg some (i0 _ (Option.some.inj a2).symm)
         cases k6
         exact h7 _ () [] trivial (by simp [q])
       obtain ⟨k7,a5,a0⟩:=bS a0
       refine O.seqRC rfl (u _ rfl) [1,14,15,16,85] [1] (fun _:Unit=>⟨[(1,.ref (.box 1) 0 []),(14,.t (.sl false 5 (List.map (GFn.enc false) p1.Fns))),(15,.t (vi (p1.Fns.length:Int))),(16,.t (vi v9)),(85,.t (vb k7))],[(1,[.sl false 4 (List.map (GNode.enc false) p1.Nodes),.sl false 5 (List.map (GFn.enc false) p1.Fns)])]⟩) (fun _=>True) (fun _ _=>?_) fun m2 e9=>?_
       rotate_left
       ·refine wC rfl fun K z=>?_;simp [q];apply z
        iterate 3 (refine wC rfl fun K z=>?_;simp [q];apply z)
        rcases aA a5 with ⟨a8,a5⟩ | ⟨b4,a5⟩
        ·have a3:=a8
         try simp at a3
         iterate 5 (refine wC rfl fun K z=>?_;simp [q,a8,a3];apply z)
         obtain ⟨m3,i9,a5⟩:=bS a5
         refine wL [(.take,.tmp 78),(.take,.tmp 79),(.take,.tmp 81),(.bor,.tmp 82)] rfl rfl aOn (vN _ _ _ _ i9) fun K z=>?_;simp [q,a8,a3];apply z
         iterate 2 (refine wC rfl fun K z=>?_;simp [q,a8,a3];apply z)
         refine wN ?_
         cases a5
         exact e9 _ () [] trivial (by simp [q,a8,a3])
        ·have a7:=b4
         try simp at a7
         iterate 7 (refine wO fun K z=>?_;simp [q,b4,a7];apply z)
         refine wC rfl fun K z=>?_;simp [q,b4,a7];apply z
         refine wN ?_
         cases a5
         exact e9 _ () [] trivial (by simp [q,b4,a7])
       rcases aA a0 with ⟨j0,a0⟩ | ⟨j1,a0⟩
       ·refine O.cT' (by simp) j0 ?_
        refine O.zR u fun K w=>?_
        refine wC rfl fun K z=>?_;simp [q];apply z
        apply wN;apply w
        cases a0
        try dsimp only at a4
        have k8:=congrArg some (b0 _ (Option.some.inj a4).symm)
        cases k8
        try dsimp only at h
        cases h
        refine O.ret ?_
        simp [aC,iB,aK7]
       ·refine O.cF' (by simp) j1 ?_
        refine O.skip ?_
        cases a0
        exact g2 _ _ [] rfl (by simp [q])
    subst hv
    obtain ⟨⟩:=v
    try dsimp only at a4 ⊢
    refine O.zG u fun K w=>?_
    iterate 2 (refine wC rfl fun K z=>?_;simp [q];apply z)
    apply wN;apply w
    cases a4
    exact ⟨_,[],rfl,by simp [q]⟩
   ·refine O.cF' (by simp) g1 ?_
    refine O.exit ?_
    have k9:=congrArg some (b0 _ (Option.some.inj a4).symm)
    cases k9
    exact j6 _ _ [] rfl (by simp [q])
  subst hv
  obtain ⟨⟩:=v
  try dsimp only at h ⊢
  refine O.zR u fun K w=>?_
  refine wC rfl fun K z=>?_;simp [q];apply z
  apply wN;apply w
  cases h
  refine O.ret ?_
  simp [aC,iB,aK7]
theorem res95:Tryz.f95.results.toList=[.tmp 2]:=rfl
theorem ent95:aF E.P 95:=eO Tryz.func95 (by simp [Tryz.f95]) rfl
theorem wM (l1:List Int) {r0:List Int} (h:jE l1=some r0):Ok E 95 [.val (.sl false 1 (List.map vi l1))] [.sl true 1 (List.map vi r0)] []:=by
 refine oB Tryz.func95 rfl (by simp [Tryz.f95]) fun C (q:C.N=5) hP=>?_
 have y:=aL hP
 unfold jE at h
 refine O.zR y fun K u=>?_
 refine wC rfl fun K v=>?_;simp [q];apply v
 apply wN;apply u
 refine O.zR y fun K u=>?_
 refine wC rfl fun K v=>?_;simp [q];apply v
 obtain ⟨l2,a2,h⟩:=bS h
 obtain ⟨a0,a1,a3⟩:=aS a2
 simp [eSl] at a0 a1
 iterate 2 (refine wC rfl fun K v=>?_;simp [q,a0,a1];apply v)
 apply wN;apply u
 cases h
 refine O.ret ?_
 simp [aC,iB,res95]
theorem res62:Tryz.f62.results.toList=[.tmp 2]:=rfl
theorem ent62:aF E.P 62:=eO Tryz.func62 (by simp [Tryz.f62]) rfl
theorem uX (l1:List GNode) {r0:List GNode} (h:gX l1=some r0):Ok E 62 [.val (.sl false 4 (List.map (GNode.enc false) l1))] [.sl true 4 (List.map (GNode.enc true) r0)] []:=by
 refine oB Tryz.func62 rfl (by simp [Tryz.f62]) fun C (q:C.N=22) hP=>?_
 have y:=aL hP
 unfold gX at h
 refine O.zR y fun K u=>?_
 refine wC rfl fun K w=>?_;simp [q];apply w
 apply wN;apply u
 refine O.zR y fun K u=>?_
 refine wC rfl fun K w=>?_;simp [q];apply w
 apply wN;apply u
 obtain ⟨a3,b6,h⟩:=bS h
 refine O.seqC [3] [] (fun _:Unit=>⟨[(3,.t (.sl true 4 (List.map (GNode.enc true) a3)))],[]⟩) (fun _=>True) (fun _ _=>?_) fun K3 b7=>?_
 rotate_left
 ·refine O.zR y fun K u=>?_
  iterate 3 (refine wC rfl fun K w=>?_;simp [q];apply w)
  apply wN;apply u
  refine O.block ?_
  refine O.loopO [] [3,6,7,8] [] (fun v:(List GNode) × Int=>⟨[(3,.t (.sl true 4 (List.map (GNode.enc true) v.1))),(6,.t (.sl false 4 (List.map (GNode.enc false) l1))),(7,.t (vi (l1.length:Int))),(8,.t (vi v.2))],[]⟩) (cY l1) _ ([],0) b6 (by simp [q]) ?_
  intro g s9 h7 b8
  obtain ⟨a9,v6⟩:=g
  simp only [cY] at h7
  try dsimp only
  refine O.zR y fun K u=>?_
  refine wC rfl fun K w=>?_;simp [q];apply w
  apply wN;apply u
  refine O.seq ?_
  rcases aA h7 with ⟨b0,h7⟩ | ⟨b1,h7⟩
  ·refine O.cT' (by simp) b0 ?_
   refine O.skip ?_
   refine O.seq ?_
   refine O.block ?_
   refine O.zR y fun K u=>?_
   obtain ⟨b2,b3,h7⟩:=bS h7
   obtain ⟨a4,a5,a6,a7⟩:=gS b3
   iterate 4 (refine wC rfl fun K w=>?_;simp [q,a4,a5,a6,a7];apply w)
   apply wN;apply u
   refine O.zR y fun K u=>?_
   iterate 2 (refine wC rfl fun K w=>?_;simp [q];apply w)
   obtain ⟨b9,b4,h7⟩:=bS h7
   refine wL [(.take,.tmp 13)] rfl rfl ent95 (wM _ b4) fun K w=>?_;simp [q];apply w
   iterate 2 (refine wC rfl fun K w=>?_;simp [q];apply w)
   apply wN;apply u
   refine O.zG y fun K u=>?_
   iterate 3 (refine wC rfl fun K w=>?_;simp [q];apply w)
   obtain ⟨c0,b5,h7⟩:=bS h7
   obtain ⟨a0,a1,a8⟩:=aS b5
   have a2:List.map (GNode.enc true) a9 ++ List.map (GNode.enc true) [(⟨b2.Kind,b2.Num,b2.Name,b9⟩:GNode)]=List.map (GNode.enc true) c0:=dJ (f:=(GNode.enc true)) a8
   simp [eSl,GNode.enc] at a0 a1 a2
   iterate 2 (refine wC rfl fun K w=>?_;simp [q,a0,a1,a2];apply w)
   apply wN;apply u
   refine O.zG y fun K u=>?_
   iterate 2 (refine wC rfl fun K w=>?_;simp [q];apply w)
   apply wN;apply u
   cases h7
   exact ⟨_,[],rfl,by simp [q]⟩
  ·refine O.cF' (by simp) b1 ?_
   refine O.exit ?_
   have c1:=congrArg some (b8 _ (Option.some.inj h7).symm)
   cases c1
   exact b7 _ () [] trivial (by simp [q])
 refine O.zR y fun K u=>?_
 iterate 2 (refine wC rfl fun K w=>?_;simp [q];apply w)
 apply wN;apply u
 cases h
 refine O.ret ?_
 simp [aC,iB,res62]
theorem res63:Tryz.f63.results.toList=[.cell 2 58]:=rfl
theorem ent63:aF E.P 63:=eO Tryz.func63 (by simp [Tryz.f63]) rfl
theorem aB0 (f1:GFn) {r0:GFn} (h:mL f1=some r0):Ok E 63 [.val (GFn.enc false f1)] [GFn.enc true r0] []:=by
 refine oB Tryz.func63 rfl (by simp [Tryz.f63]) fun C (q:C.N=8) hP=>?_
 have y:=aL hP
 unfold mL at h
 refine O.zR y fun K u=>?_
 iterate 2 (refine wC rfl fun K v=>?_;simp [q];apply v)
 apply wN;apply u
 refine O.zR y fun K u=>?_
 iterate 2 (refine wC rfl fun K v=>?_;simp [q];apply v)
 obtain ⟨l2,a2,h⟩:=bS h
 obtain ⟨a0,a1,a3⟩:=aS a2
 simp [eSl,GParam.enc] at a0 a1
 iterate 3 (refine wC rfl fun K v=>?_;simp [q,a0,a1];apply v)
 apply wN;apply u
 refine O.zR y fun K u=>?_
 iterate 2 (refine wC rfl fun K v=>?_;simp [q];apply v)
 apply wN;apply u
 cases h
 refine O.ret ?_
 simp [aC,iB,res63]
theorem res31:Tryz.f31.results.toList=[.cell 2 31]:=rfl
theorem ent31:aF E.P 31:=eO Tryz.func31 (by simp [Tryz.f31]) rfl
theorem mK (p1:GProgram) {r0:GProgram} (h:dV p1=some r0):Ok E 31 [.val (GProgram.enc false p1)] [GProgram.enc true r0] []:=by
 refine oB Tryz.func31 rfl (by simp [Tryz.f31]) fun C (q:C.N=26) hP=>?_
 have y:=aL hP
 unfold dV at h
 refine O.zR y fun K w=>?_
 iterate 2 (refine wC rfl fun K r=>?_;simp [q];apply r)
 apply wN;apply w
 refine O.zR y fun K w=>?_
 iterate 2 (refine wC rfl fun K r=>?_;simp [q];apply r)
 obtain ⟨r2,b6,h⟩:=bS h
 refine wL [(.take,.tmp 7)] rfl rfl ent62 (uX _ b6) fun K r=>?_;simp [q];apply r
 iterate 3 (refine wC rfl fun K r=>?_;simp [q];apply r)
 apply wN;apply w
 obtain ⟨b5,b7,h⟩:=bS h
 refine O.seqC [2,3] [2,3] (fun _:Unit=>⟨[(2,.ref (.box 2) 0 []),(3,.ref (.box 3) 0 [])],[(2,[.sl true 4 [],.sl true 5 []]),(3,[.sl true 4 (List.map (GNode.enc true) b5.Nodes),.sl true 5 (List.map (GFn.enc true) b5.Fns)])]⟩) (fun _=>True) (fun _ _=>?_) fun K5 b8=>?_
 rotate_left
 ·refine O.zR y fun K w=>?_
  iterate 4 (refine wC rfl fun K r=>?_;simp [q];apply r)
  apply wN;apply w
  refine O.block ?_
  refine O.loopO [] [2,3,11,12,13] [2,3] (fun v:Int × GProgram=>⟨[(2,.ref (.box 2) 0 []),(3,.ref (.box 3) 0 []),(11,.t (.sl false 5 (List.map (GFn.enc false) p1.Fns))),(12,.t (vi (p1.Fns.length:Int))),(13,.t (vi v.1))],[(2,[.sl true 4 [],.sl true 5 []]),(3,[.sl true 4 (List.map (GNode.enc true) v.2.Nodes),.sl true 5 (List.map (GFn.enc true) v.2.Fns)])]⟩) (bX p1) _ (0,(⟨r2,[]⟩:GProgram)) b7 (by simp [q]) ?_
  intro g c2 h9 a8
  obtain ⟨v7,v8⟩:=g
  simp only [bX] at h9
  try dsimp only
  refine O.zR y fun K w=>?_
  refine wC rfl fun K r=>?_;simp [q];apply r
  apply wN;apply w
  refine O.seq ?_
  rcases aA h9 with ⟨a9,h9⟩ | ⟨b0,h9⟩
  ·refine O.cT' (by simp) a9 ?_
   refine O.skip ?_
   refine O.seq ?_
   refine O.block ?_
   refine O.zR y fun K w=>?_
   obtain ⟨b9,b1,h9⟩:=bS h9
   obtain ⟨a3,a4,a5,a6⟩:=gS b1
   iterate 4 (refine wC rfl fun K r=>?_;simp [q,a3,a4,a5,a6];apply r)
   apply wN;apply w
   obtain ⟨b2,b3,h9⟩:=bS h9
   refine O.drawD rfl (y _ rfl) [17,18,19,20,21] [[(17,.ref (.box 3) 1 [])],[(18,.al (.box 3) 1 [] none)],[(19,.t (GFn.enc false b9))],[(20,.t (GFn.enc true b2))],[(21,.t (.sl true 5 (List.map (GFn.enc true) [b2]))),(20,.u)]] [[],[0],[],[2],[2,3],[0,1,2,3,4],[0,1,2,3,4,5],[0,1,2,3,4,5,6]] (by simp) rfl rfl rfl ?_ fun K w=>?_
   ·refine ⟨?_,?_,?_,?_,?_,trivial⟩
    ·intro D d0 g1 g2
     have d1:D 1=false:=g2 1 (by simp) (by simp)
     cases d2:D 2<;>cases d3:D 3<;>cases d4:D 4<;>(intro K w;simp [jT,oM,hJ,d0,d1,d2,d3,d4] at w ⊢;refine wC rfl fun K' z=>?_;simp [q];refine z _ (wN ?_);first | exact w | simpa using w)
    ·intro D d1 g1 g2
     have d0:D 0=true:=g1 0 (by simp)
     cases d2:D 2<;>cases d3:D 3<;>cases d4:D 4<;>(intro K w;simp [jT,oM,hJ,d0,d1,d2,d3,d4] at w ⊢;refine wC rfl fun K' z=>?_;simp [q];refine z _ (wN ?_);first | exact w | simpa using w)
    ·intro D d2 g1 g2
     have d3:D 3=false:=g2 3 (by simp) (by simp)
     have d4:D 4=false:=g2 4 (by simp) (by simp)
     cases d0:D 0<;>cases d1:D 1<;>(intro K w;simp [jT,oM,hJ,d0,d1,d2,d3,d4] at w ⊢;refine wC rfl fun K' z=>?_;simp [q];refine z _ (wN ?_);first | exact w | simpa using w)
    ·intro D d3 g1 g2
     have d2:D 2=true:=g1 2 (by simp)
     have d4:D 4=false:=g2 4 (by simp) (by simp)
     cases d0:D 0<;>cases d1:D 1<;>(intro K w;simp [jT,oM,hJ,d0,d1,d2,d3,d4] at w ⊢;refine wL [(.take,.tmp 19)] rfl rfl ent63 (aB0 _ b3) fun K' z=>?_;simp [q];refine z _ (wN ?_);first | exact w | simpa using w)
    ·intro D d4 g1 g2
     have d2:D 2=true:=g1 2 (by simp)
     have d3:D 3=true:=g1 3 (by simp)
     cases d0:D 0<;>cases d1:D 1<;>(intro K w;simp [jT,oM,hJ,d0,d1,d2,d3,d4] at w ⊢;refine wC rfl fun K' z=>?_;simp [q];refine z _ (wN ?_);first | exact w | simpa using w)
   simp [jT,oM]
   obtain ⟨c0,b4,h9⟩:=bS h9
   obtain ⟨a0,a1,a7⟩:=aS b4
   have a2:List.map (GFn.enc true) v8.Fns ++ List.map (GFn.enc true) [b2]=List.map (GFn.enc true) c0:=dJ (f:=(GFn.enc true)) a7
   simp [eSl,GFn.enc] at a0 a1 a2
   iterate 3 (refine wC rfl fun K r=>?_;simp [q,a0,a1,a2];apply r)
   apply wN;apply w
   refine O.zG y fun K w=>?_
   iterate 2 (refine wC rfl fun K r=>?_;simp [q];apply r)
   apply wN;apply w
   cases h9
   exact ⟨_,[],rfl,by simp [q]⟩
  ·refine O.cF' (by simp) b0 ?_
   refine O.exit ?_
   have c1:=congrArg some (a8 _ (Option.some.inj h9).symm)
   cases c1
   exact b8 _ () [] trivial (by simp [q])
 refine O.zR y fun K w=>?_
 iterate 2 (refine wC rfl fun K r=>?_;simp [q];apply r)
 apply wN;apply w
 cases h
 refine O.ret ?_
 simp [aC,iB,res31]
theorem aK8:Tryz.f112.results.toList=[.tmp 4]:=rfl
theorem ent112:aF E.P 112:=eO Tryz.func112 (by simp [Tryz.f112]) rfl
theorem aD2 (p1:GProgram) (b9:Int) {r0:List Int} (h:nY p1 b9=some r0):Ok E 112 [.val (GProgram.enc false p1),.val (vi b9)] [.sl true 1 (List.map vi r0)] []:=by
 refine oB Tryz.func112 rfl (by simp [Tryz.f112]) fun C (q:C.N=37) hP=>?_
 have y:=aL hP
 unfold nY at h
 refine O.zR y fun K u=>?_
 iterate 2 (refine wC rfl fun K v=>?_;simp [q];apply v)
 apply wN;apply u
 refine O.seq ?_
 refine O.zR y fun K u=>?_
 iterate 5 (refine wC rfl fun K v=>?_;simp [q];apply v)
 obtain ⟨r3,c0,h⟩:=bS h
 refine wL [(.take,.tmp 6),(.take,.const (.int .i64 0)),(.take,.tmp 10)] rfl rfl lG (aU _ _ _ c0) fun K v=>?_;simp [q];apply v
 refine wC rfl fun K v=>?_;simp [q];apply v
 apply wN;apply u
 rcases aA h with ⟨c1,h⟩ | ⟨c2,h⟩
 ·refine O.cT' (by simp) c1 ?_
  refine O.zR y fun K u=>?_
  refine wC rfl fun K v=>?_;simp [q];apply v
  apply wN;apply u
  cases h
  refine O.ret ?_
  simp [aC,iB,aK8]
 ·refine O.cF' (by simp) c2 ?_
  refine O.skip ?_
  refine O.zR y fun K u=>?_
  iterate 3 (refine wC rfl fun K v=>?_;simp [q];apply v)
  obtain ⟨e7,c3,h⟩:=bS h
  obtain ⟨a8,a9,b0,b1⟩:=gS c3
  iterate 5 (refine wC rfl fun K v=>?_;simp [q,a8,a9,b0,b1];apply v)
  apply wN;apply u
  refine O.seq ?_
  refine O.zR y fun K u=>?_
  iterate 3 (refine wC rfl fun K v=>?_;simp [q];apply v)
  obtain ⟨e8,c4,h⟩:=bS h
  obtain ⟨b2,b3,b4,b5⟩:=gS c4
  iterate 4 (refine wC rfl fun K v=>?_;simp [q,b2,b3,b4,b5];apply v)
  apply wN;apply u
  rcases aA h with ⟨c5,h⟩ | ⟨b6,h⟩
  ·refine O.cT' (by simp) c5 ?_
   refine O.zG y fun K u=>?_
   iterate 4 (refine wC rfl fun K v=>?_;simp [q];apply v)
   obtain ⟨c6,b7,h⟩:=bS h
   obtain ⟨a0,a1,a2,a3⟩:=gS b7
   iterate 4 (refine wC rfl fun K v=>?_;simp [q,a0,a1,a2,a3];apply v)
   obtain ⟨c7,b8,h⟩:=bS h
   obtain ⟨a4,a5,a7⟩:=aS b8
   have a6:List.map vi [e7.Body] ++ List.map vi [c6.Ret]=List.map vi c7:=dJ (f:=vi) a7
   simp [eSl] at a4 a5 a6
   iterate 2 (refine wC rfl fun K v=>?_;simp [q,a0,a1,a2,a3,a4,a5,a6];apply v)
   apply wN;apply u
   refine O.zR y fun K u=>?_
   iterate 2 (refine wC rfl fun K v=>?_;simp [q];apply v)
   apply wN;apply u
   cases h
   refine O.ret ?_
   simp [aC,iB,aK8]
  ·refine O.cF' (by simp) b6 ?_
   refine O.skip ?_
   refine O.zR y fun K u=>?_
   iterate 2 (refine wC rfl fun K v=>?_;simp [q];apply v)
   apply wN;apply u
   cases h
   refine O.ret ?_
   simp [aC,iB,aK8]
theorem res97:Tryz.f97.results.toList=[.tmp 4]:=rfl
theorem ent97:aF E.P 97:=eO Tryz.func97 (by simp [Tryz.f97]) rfl
theorem zQ (p1:GProgram) (d6:Int) {r0:List Int} (h:kS p1 d6=some r0):Ok E 97 [.val (GProgram.enc false p1),.val (vi d6)] [.sl true 1 (List.map vi r0)] []:=by
 refine oB Tryz.func97 rfl (by simp [Tryz.f97]) fun C (q:C.N=39) hP=>?_
 have y:=aL hP
 unfold kS at h
 refine O.zR y fun K u=>?_
 iterate 2 (refine wC rfl fun K w=>?_;simp [q];apply w)
 apply wN;apply u
 refine O.zR y fun K u=>?_
 refine wC rfl fun K w=>?_;simp [q];apply w
 apply wN;apply u
 obtain ⟨a6,b8,h⟩:=bS h
 refine O.seqC [5] [] (fun _:Unit=>⟨[(5,.t (.sl true 1 (List.map vi a6)))],[]⟩) (fun _=>True) (fun _ _=>?_) fun K4 d7=>?_
 rotate_left
 ·refine O.zR y fun K u=>?_
  iterate 2 (refine wC rfl fun K w=>?_;simp [q];apply w)
  obtain ⟨r6,d8,b8⟩:=bS b8
  refine wL [(.take,.tmp 10),(.take,.tmp 11)] rfl rfl ent112 (aD2 _ _ d8) fun K w=>?_;simp [q];apply w
  iterate 2 (refine wC rfl fun K w=>?_;simp [q];apply w)
  apply wN;apply u
  refine O.block ?_
  refine O.loopO [] [2,5,12,13,14] [2] (fun v:(List Int) × Int=>⟨[(2,.ref (.box 2) 0 []),(5,.t (.sl true 1 (List.map vi v.1))),(12,.t (.sl true 1 (List.map vi r6))),(13,.t (vi (r6.length:Int))),(14,.t (vi v.2))],[(2,[.sl false 4 (List.map (GNode.enc false) p1.Nodes),.sl false 5 (List.map (GFn.enc false) p1.Fns)])]⟩) (dI p1 r6) _ ([],0) b8 (by simp [q]) ?_
  intro g e3 a2 b9
  obtain ⟨c0,v9⟩:=g
  simp only [dI] at a2
  try dsimp only
  refine O.zR y fun K u=>?_
  refine wC rfl fun K w=>?_;simp [q];apply w
  apply wN;apply u
  refine O.seq ?_
  rcases aA a2 with ⟨c1,a2⟩ | ⟨c2,a2⟩
  ·refine O.cT' (by simp) c1 ?_
   refine O.skip ?_
   obtain ⟨a7,a1,a2⟩:=bS a2
   refine O.seqC [2,5,12,13,14] [2] (fun _:Unit=>⟨[(2,.ref (.box 2) 0 []),(5,.t (.sl true 1 (List.map vi a7))),(12,.t (.sl true 1 (List.map vi r6))),(13,.t (vi (r6.length:Int))),(14,.t (vi v9))],[(2,[.sl false 4 (List.map (GNode.enc false) p1.Nodes),.sl false 5 (List.map (GFn.enc false) p1.Fns)])]⟩) (fun _=>True) (fun _ _=>?_) fun e4 c3=>?_
   rotate_left
   ·refine O.block ?_
    refine O.zR y fun K u=>?_
    obtain ⟨e5,c4,a1⟩:=bS a1
    obtain ⟨a8,a9,b0,b1⟩:=gS c4
    iterate 3 (refine wC rfl fun K w=>?_;simp [q,a8,a9,b0,b1];apply w)
    apply wN;apply u
    refine O.zR y fun K u=>?_
    iterate 2 (refine wC rfl fun K w=>?_;simp [q];apply w)
    obtain ⟨c5,c6,a1⟩:=bS a1
    refine wL [(.take,.tmp 18),(.take,.tmp 19)] rfl rfl ent96 (tI _ _ c6) fun K w=>?_;simp [q];apply w
    iterate 2 (refine wC rfl fun K w=>?_;simp [q];apply w)
    apply wN;apply u
    refine O.block ?_
    refine O.loopO [] [2,5,12,13,14,20,21,22] [2] (fun v:(List Int) × Int=>⟨[(2,.ref (.box 2) 0 []),(5,.t (.sl true 1 (List.map vi v.1))),(12,.t (.sl true 1 (List.map vi r6))),(13,.t (vi (r6.length:Int))),(14,.t (vi v9)),(20,.t (.sl true 1 (List.map vi c5))),(21,.t (vi (c5.length:Int))),(22,.t (vi v.2))],[(2,[.sl false 4 (List.map (GNode.enc false) p1.Nodes),.sl false 5 (List.map (GFn.enc false) p1.Fns)])]⟩) (eQ c5) _ (c0,0) a1 (by simp [q]) ?_
    intro g e6 a0 c7
    obtain ⟨b2,e7⟩:=g
    simp only [eQ] at a0
    try dsimp only
    refine O.zR y fun K u=>?_
    refine wC rfl fun K w=>?_;simp [q];apply w
    apply wN;apply u
    refine O.seq ?_
    rcases aA a0 with ⟨c8,a0⟩ | ⟨c9,a0⟩
    ·refine O.cT' (by simp) c8 ?_
     refine O.skip ?_
     refine O.seq ?_
     refine O.block ?_
     refine O.zR y fun K u=>?_
     obtain ⟨d9,d0,a0⟩:=bS a0
     obtain ⟨b3,b4,b5,b6⟩:=gS d0
     iterate 3 (refine wC rfl fun K w=>?_;simp [q,b3,b4,b5,b6];apply w)
     apply wN;apply u
     refine O.zR y fun K u=>?_
     iterate 2 (refine wC rfl fun K w=>?_;simp [q];apply w)
     obtain ⟨e8,d1,a0⟩:=bS a0
     refine wL [(.bor,.tmp 26),(.take,.tmp 27)] rfl rfl aHu (jW _ _ d1) fun K w=>?_;simp [q];apply w
     refine wC rfl fun K w=>?_;simp [q];apply w
     apply wN;apply u
     rcases aA a0 with ⟨d2,a0⟩ | ⟨d3,a0⟩
     ·refine O.cT' (by simp) d2 ?_
      refine O.zG y fun K u=>?_
      iterate 3 (refine wC rfl fun K w=>?_;simp [q];apply w)
      obtain ⟨e0,d4,a0⟩:=bS a0
      obtain ⟨a3,a4,b7⟩:=aS d4
      have a5:List.map vi b2 ++ List.map vi [d9]=List.map vi e0:=dJ (f:=vi) b7
      simp [eSl] at a3 a4 a5
      iterate 2 (refine wC rfl fun K w=>?_;simp [q,a3,a4,a5];apply w)
      apply wN;apply u
      refine O.zG y fun K u=>?_
      iterate 2 (refine wC rfl fun K w=>?_;simp [q];apply w)
      apply wN;apply u
      cases a0
      exact ⟨_,[],rfl,by simp [q]⟩
     ·refine O.cF' (by simp) d3 ?_
      refine O.skip ?_
      refine O.zG y fun K u=>?_
      iterate 2 (refine wC rfl fun K w=>?_;simp [q];apply w)
      apply wN;apply u
      cases a0
      exact ⟨_,[],rfl,by simp [q]⟩
    ·refine O.cF' (by simp) c9 ?_
     refine O.exit ?_
     have e1:=congrArg some (c7 _ (Option.some.inj a0).symm)
     cases e1
     exact c3 _ () [] trivial (by simp [q])
   refine O.zG y fun K u=>?_
   iterate 2 (refine wC rfl fun K w=>?_;simp [q];apply w)
   apply wN;apply u
   cases a2
   exact ⟨_,[],rfl,by simp [q]⟩
  ·refine O.cF' (by simp) c2 ?_
   refine O.exit ?_
   have e2:=congrArg some (b9 _ (Option.some.inj a2).symm)
   cases e2
   exact d7 _ () [] trivial (by simp [q])
 refine O.zR y fun K u=>?_
 refine wC rfl fun K w=>?_;simp [q];apply w
 obtain ⟨e9,d5,h⟩:=bS h
 refine lH rfl aNm (vL _ d5) fun K w=>?_;simp [q];apply w
 apply wN;apply u
 refine O.zR y fun K u=>?_
 iterate 2 (refine wC rfl fun K w=>?_;simp [q];apply w)
 apply wN;apply u
 cases h
 refine O.ret ?_
 simp [aC,iB,res97]
theorem res65:Tryz.f65.results.toList=[.cell 6 31]:=rfl
theorem ent65:aF E.P 65:=eO Tryz.func65 (by simp [Tryz.f65]) rfl
theorem zI (p1:GProgram) (c0:Int) (b0:ByteArray→Option ByteArray) (other3_f:Nat) (other3_c:List T) (other3_e:aF E.P other3_f) (other3_h:∀ (a0:ByteArray) (r0:ByteArray),b0 a0=some r0→Ok E other3_f ([.val (vs a0)] ++ other3_c.map Arg.val) [vs r0] []) {r0:GProgram} (h:mX p1 c0 b0=some r0):Ok E 65 [.val (GProgram.enc false p1),.val (vi c0),.val (.clo other3_f other3_c)] [GProgram.enc true r0] []:=by
 refine oB Tryz.func65 rfl (by simp [Tryz.f65]) fun C (q:C.N=78) hP=>?_
 have y:=aL hP
 unfold mX at h
 refine O.zR y fun K u=>?_
 iterate 2 (refine wC rfl fun K w=>?_;simp [q];apply w)
 apply wN;apply u
 refine O.zR y fun K u=>?_
 refine wC rfl fun K w=>?_;simp [q];apply w
 obtain ⟨r4,h5,h⟩:=bS h
 refine wL [(.take,.tmp 13)] rfl rfl ent31 (mK _ h5) fun K w=>?_;simp [q];apply w
 iterate 2 (refine wC rfl fun K w=>?_;simp [q];apply w)
 apply wN;apply u
 obtain ⟨d6,d7,h⟩:=bS h
 refine O.seqC [1,2,6,7] [6,7] (fun _:Unit=>⟨[(1,.t (vi c0)),(2,.t (.clo other3_f other3_c)),(6,.ref (.box 6) 0 []),(7,.ref (.box 7) 0 [])],[(6,[.sl true 4 [],.sl true 5 []]),(7,[.sl true 4 (List.map (GNode.enc true) d6.Nodes),.sl true 5 (List.map (GFn.enc true) d6.Fns)])]⟩) (fun _=>True) (fun _ _=>?_) fun K7 h6=>?_
 rotate_left
 ·refine O.zR y fun K u=>?_
  iterate 2 (refine wC rfl fun K w=>?_;simp [q];apply w)
  obtain ⟨r9,d8,d7⟩:=bS d7
  refine wL [(.take,.tmp 15),(.take,.tmp 16)] rfl rfl ent97 (zQ _ _ d8) fun K w=>?_;simp [q];apply w
  iterate 2 (refine wC rfl fun K w=>?_;simp [q];apply w)
  apply wN;apply u
  refine O.block ?_
  refine O.loopO [] [1,2,6,7,17,18,19] [6,7] (fun v:Int × GProgram=>⟨[(1,.t (vi c0)),(2,.t (.clo other3_f other3_c)),(6,.ref (.box 6) 0 []),(7,.ref (.box 7) 0 []),(17,.t (.sl true 1 (List.map vi r9))),(18,.t (vi (r9.length:Int))),(19,.t (vi v.1))],[(6,[.sl true 4 [],.sl true 5 []]),(7,[.sl true 4 (List.map (GNode.enc true) v.2.Nodes),.sl true 5 (List.map (GFn.enc true) v.2.Fns)])]⟩) (cE b0 r9) _ (0,r4) d7 (by simp [q]) ?_
  intro g i8 a5 d9
  obtain ⟨h7,e0⟩:=g
  simp only [cE] at a5
  try dsimp only
  refine O.zR y fun K u=>?_
  refine wC rfl fun K w=>?_;simp [q];apply w
  apply wN;apply u
  refine O.seq ?_
  rcases aA a5 with ⟨e1,a5⟩ | ⟨e2,a5⟩
  ·refine O.cT' (by simp) e1 ?_
   refine O.skip ?_
   refine O.seq ?_
   refine O.block ?_
   refine O.zR y fun K u=>?_
   obtain ⟨h1,e3,a5⟩:=bS a5
   obtain ⟨c6,c7,c8,c9⟩:=gS e3
   iterate 3 (refine wC rfl fun K w=>?_;simp [q,c6,c7,c8,c9];apply w)
   apply wN;apply u
   refine O.zR y fun K u=>?_
   iterate 3 (refine wC rfl fun K w=>?_;simp [q];apply w)
   obtain ⟨e4,e5,a5⟩:=bS a5
   obtain ⟨a1,a2,a3,a4⟩:=gS e5
   iterate 2 (refine wC rfl fun K w=>?_;simp [q,a1,a2,a3,a4];apply w)
   apply wN;apply u
   obtain ⟨h8,b6,a5⟩:=bS a5
   refine O.seqRC rfl (y _ rfl) [1,2,6,7,10,17,18,19,38] [6,7] (fun _:Unit=>⟨[(1,.t (vi c0)),(2,.t (.clo other3_f other3_c)),(6,.ref (.box 6) 0 []),(7,.ref (.box 7) 0 []),(10,.ref (.box 7) 0 [(h1.toNat,0)]),(17,.t (.sl true 1 (List.map vi r9))),(18,.t (vi (r9.length:Int))),(19,.t (vi h7)),(38,.t (vb h8))],[(6,[.sl true 4 [],.sl true 5 []]),(7,[.sl true 4 (List.map (GNode.enc true) e0.Nodes),.sl true 5 (List.map (GFn.enc true) e0.Fns)])]⟩) (fun _=>True) (fun _ _=>?_) fun i9 d0=>?_
   rotate_left
   ·refine wC rfl fun K w=>?_;simp [q,a1,a2,a3,a4];apply w
    iterate 3 (refine wC rfl fun K w=>?_;simp [q,a1,a2,a3,a4];apply w)
    obtain ⟨j0,e6,b6⟩:=bS b6
    refine wL [(.take,.tmp 30)] rfl rfl ent98 (qI _ e6) fun K w=>?_;simp [q,a1,a2,a3,a4];apply w
    refine wC rfl fun K w=>?_;simp [q,a1,a2,a3,a4];apply w
    rcases aA b6 with ⟨c4,b6⟩ | ⟨b9,b6⟩
    ·have b8:=c4
     try simp at b8
     iterate 6 (refine wC rfl fun K w=>?_;simp [q,a1,a2,a3,a4,c4,b8];apply w)
     refine wN ?_
     cases b6
     exact d0 _ () [] trivial (by simp [q,a1,a2,a3,a4,c4,b8])
    ·have b7:=b9
     try simp at b7
     iterate 5 (refine wO fun K w=>?_;simp [q,a1,a2,a3,a4,b9,b7];apply w)
     refine wC rfl fun K w=>?_;simp [q,a1,a2,a3,a4,b9,b7];apply w
     refine wN ?_
     cases b6
     exact d0 _ () [] trivial (by simp [q,a1,a2,a3,a4,b9,b7])
   rcases aA a5 with ⟨e7,a5⟩ | ⟨e8,a5⟩
   ·refine O.cT' (by simp) e7 ?_
    refine O.zG y fun K u=>?_
    iterate 6 (refine wC rfl fun K w=>?_;simp [q,a1,a2,a3,a4];apply w)
    obtain ⟨h9,e9,a5⟩:=bS a5
    refine aDi [(.take,.tmp 44)] rfl rfl other3_e (other3_h _ _ e9) fun K w=>?_;simp [q,a1,a2,a3,a4];apply w
    iterate 2 (refine wC rfl fun K w=>?_;simp [q,a1,a2,a3,a4];apply w)
    obtain ⟨i0,g0,a5⟩:=bZ a5
    have c1:(List.map (GNode.enc true) e0.Nodes).set h1.toNat (.agg [vi e4.Kind,vi e4.Num,vs h9,.sl true 1 (List.map vi e4.Kids)])=List.map (GNode.enc true) i0:=bU (f:=(GNode.enc true)) g0
    try simp only [Int.toNat_natCast] at c1
    refine wC rfl fun K w=>?_;simp [q,a1,a2,a3,a4,c1];apply w
    apply wN;apply u
    refine O.zG y fun K u=>?_
    iterate 2 (refine wC rfl fun K w=>?_;simp [q];apply w)
    apply wN;apply u
    cases a5
    exact ⟨_,[],rfl,by simp [q]⟩
   ·refine O.cF' (by simp) e8 ?_
    refine O.skip ?_
    refine O.zG y fun K u=>?_
    iterate 2 (refine wC rfl fun K w=>?_;simp [q];apply w)
    apply wN;apply u
    cases a5
    exact ⟨_,[],rfl,by simp [q]⟩
  ·refine O.cF' (by simp) e2 ?_
   refine O.exit ?_
   have i1:=congrArg some (d9 _ (Option.some.inj a5).symm)
   cases i1
   exact h6 _ () [] trivial (by simp [q])
 obtain ⟨h2,c5,h⟩:=bS h
 refine O.seqC [6,7] [6,7] (fun _:Unit=>⟨[(6,.ref (.box 6) 0 []),(7,.ref (.box 7) 0 [])],[(6,[.sl true 4 [],.sl true 5 []]),(7,[.sl true 4 (List.map (GNode.enc true) h2.Nodes),.sl true 5 (List.map (GFn.enc true) h2.Fns)])]⟩) (fun _=>True) (fun _ _=>?_) fun j1 g1=>?_
 rotate_left
 ·refine O.zR y fun K u=>?_
  iterate 3 (refine wC rfl fun K w=>?_;simp [q];apply w)
  obtain ⟨h3,g2,c5⟩:=bS c5
  obtain ⟨d1,d2,d3,d4⟩:=gS g2
  iterate 5 (refine wC rfl fun K w=>?_;simp [q,d1,d2,d3,d4];apply w)
  apply wN;apply u
  refine O.block ?_
  refine O.loopO [] [1,2,6,7,55,56] [6,7] (fun v:Int × GProgram=>⟨[(1,.t (vi c0)),(2,.t (.clo other3_f other3_c)),(6,.ref (.box 6) 0 []),(7,.ref (.box 7) 0 []),(55,.t (vi (h3.Params.length:Int))),(56,.t (vi v.1))],[(6,[.sl true 4 [],.sl true 5 []]),(7,[.sl true 4 (List.map (GNode.enc true) v.2.Nodes),.sl true 5 (List.map (GFn.enc true) v.2.Fns)])]⟩) (dH c0 b0 h3) _ (0,d6) c5 (by simp [q]) ?_
  intro g j2 b5 g3
  obtain ⟨i2,i3⟩:=g
  simp only [dH] at b5
  try dsimp only
  refine O.zR y fun K u=>?_
  refine wC rfl fun K w=>?_;simp [q];apply w
  apply wN;apply u
  refine O.seq ?_
  rcases aA b5 with ⟨g4,b5⟩ | ⟨g5,b5⟩
  ·refine O.cT' (by simp) g4 ?_
   refine O.skip ?_
   refine O.seq ?_
   refine O.block ?_
   refine O.zR y fun K u=>?_
   iterate 2 (refine wC rfl fun K w=>?_;simp [q];apply w)
   apply wN;apply u
   refine O.zR y fun K u=>?_
   iterate 3 (refine wC rfl fun K w=>?_;simp [q];apply w)
   obtain ⟨d5,g6,b5⟩:=bS b5
   obtain ⟨a6,a7,a8,a9⟩:=gS g6
   iterate 4 (refine wC rfl fun K w=>?_;simp [q,a6,a7,a8,a9];apply w)
   obtain ⟨i4,g7,b5⟩:=bS b5
   obtain ⟨b1,b2,b3,b4⟩:=gS g7
   iterate 2 (refine wC rfl fun K w=>?_;simp [q,a6,a7,a8,a9,b1,b2,b3,b4];apply w)
   apply wN;apply u
   refine O.zG y fun K u=>?_
   iterate 6 (refine wC rfl fun K w=>?_;simp [q,a6,a7,a8,a9,b1,b2,b3,b4];apply w)
   obtain ⟨i5,g8,b5⟩:=bS b5
   refine aDi [(.take,.tmp 72)] rfl rfl other3_e (other3_h _ _ g8) fun K w=>?_;simp [q,a6,a7,a8,a9,b1,b2,b3,b4];apply w
   iterate 2 (refine wC rfl fun K w=>?_;simp [q,a6,a7,a8,a9,b1,b2,b3,b4];apply w)
   obtain ⟨h4,g9,b5⟩:=bZ b5
   have c2:(List.map GParam.enc d5.Params).set i2.toNat (.agg [vs i5,vi i4.Typ])=List.map GParam.enc h4:=bU (f:=GParam.enc) g9
   try simp only [Int.toNat_natCast] at c2
   obtain ⟨i6,h0,b5⟩:=bZ b5
   have c3:(List.map (GFn.enc true) i3.Fns).set c0.toNat (.agg [vs d5.Name,.sl true 2 (List.map GParam.enc h4),vi d5.Res,vi d5.Body,vi d5.Ret])=List.map (GFn.enc true) i6:=bU (f:=(GFn.enc true)) h0
   try simp only [Int.toNat_natCast] at c3
   refine wC rfl fun K w=>?_;simp [q,a6,a7,a8,a9,b1,b2,b3,b4,c2,c3];apply w
   apply wN;apply u
   refine O.zG y fun K u=>?_
   iterate 2 (refine wC rfl fun K w=>?_;simp [q];apply w)
   apply wN;apply u
   cases b5
   exact ⟨_,[],rfl,by simp [q]⟩
  ·refine O.cF' (by simp) g5 ?_
   refine O.exit ?_
   have i7:=congrArg some (g3 _ (Option.some.inj b5).symm)
   cases i7
   exact g1 _ () [] trivial (by simp [q])
 refine O.zR y fun K u=>?_
 iterate 2 (refine wC rfl fun K w=>?_;simp [q];apply w)
 apply wN;apply u
 cases h
 refine O.ret ?_
 simp [aC,iB,res65]
theorem res42:Tryz.f42.results.toList=[.tmp 2]:=rfl
theorem ent42:aF E.P 42:=eO Tryz.func42 (by simp [Tryz.f42]) rfl
theorem zV (n1:Int) {r0:ByteArray} (h:kU n1=some r0):Ok E 42 [.val (vi n1)] [vs r0] []:=by
 refine oB Tryz.func42 rfl (by simp [Tryz.f42]) fun C (q:C.N=5) hP=>?_
 have y:=aL hP
 unfold kU at h
 refine O.zR y fun K u=>?_
 refine wC rfl fun K v=>?_;simp [q];apply v
 apply wN;apply u
 refine O.zR y fun K u=>?_
 refine wC rfl fun K v=>?_;simp [q];apply v
 obtain ⟨r2,a0,h⟩:=bS h
 refine wL [(.take,.tmp 3)] rfl rfl ent74 (xN _ a0) fun K v=>?_;simp [q];apply v
 refine wC rfl fun K v=>?_;simp [q];apply v
 apply wN;apply u
 cases h
 refine O.ret ?_
 simp [aC,iB,res42]
theorem res66:Tryz.f66.results.toList=[.tmp 3]:=rfl
theorem ent66:aF E.P 66:=eO Tryz.func66 (by simp [Tryz.f66]) rfl
theorem tG (a0:ByteArray) (a2:List GVar) {r0:ByteArray} (h:bD a0 a2=some r0):Ok E 66 [.val (vs a0),.val (.pt [.sl false 3 (List.map GVar.enc a2)])] [vs r0] []:=by
 refine oB Tryz.func66 rfl (by simp [Tryz.f66]) fun C (q:C.N=14) hP=>?_
 have y:=aL hP
 unfold bD at h
 refine O.zR y fun K u=>?_
 refine wC rfl fun K v=>?_;simp [q];apply v
 apply wN;apply u
 refine O.zR y fun K u=>?_
 iterate 2 (refine wC rfl fun K v=>?_;simp [q];apply v)
 obtain ⟨r3,a4,h⟩:=bS h
 refine wL [(.take,.tmp 5),(.take,.tmp 6)] rfl rfl ent67 (tH _ _ a4) fun K v=>?_;simp [q];apply v
 refine wC rfl fun K v=>?_;simp [q];apply v
 apply wN;apply u
 refine O.seq ?_
 refine O.zR y fun K u=>?_
 iterate 2 (refine wC rfl fun K v=>?_;simp [q];apply v)
 apply wN;apply u
 rcases aA h with ⟨a5,h⟩ | ⟨a6,h⟩
 ·refine O.cT' (by simp) a5 ?_
  refine O.zR y fun K u=>?_
  iterate 2 (refine wC rfl fun K v=>?_;simp [q];apply v)
  apply wN;apply u
  cases h
  refine O.ret ?_
  simp [aC,iB,res66]
 ·refine O.cF' (by simp) a6 ?_
  refine O.skip ?_
  refine O.zR y fun K u=>?_
  refine wC rfl fun K v=>?_;simp [q];apply v
  obtain ⟨r7,a7,h⟩:=bS h
  refine wL [(.take,.tmp 11)] rfl rfl ent42 (zV _ a7) fun K v=>?_;simp [q];apply v
  obtain ⟨t9,a8,h⟩:=bS h
  obtain ⟨a1,a3⟩:=lV a8
  iterate 2 (refine wC rfl fun K v=>?_;simp [q,a1,a3];apply v)
  apply wN;apply u
  cases h
  refine O.ret ?_
  simp [aC,iB,res66]
theorem res32:Tryz.f32.results.toList=[.cell 4 31]:=rfl
theorem ent32:aF E.P 32:=eO Tryz.func32 (by simp [Tryz.f32]) rfl
theorem wI (p1:GProgram) (a1:Int) {r0:GProgram} (h:jC p1 a1=some r0):Ok E 32 [.val (GProgram.enc false p1),.val (vi a1)] [GProgram.enc true r0] []:=by
 refine aG0 (fn:=Tryz.f32) Tryz.func32 rfl (by simp [Tryz.f32]) fun C hN hP hB=>?_
 have a0:C.PB=[]:=hB rfl
 have y:∀ l,aH9 [] l=true→nQ C.pin l=true:=pO (by rw [hP];rfl)
 have q:C.N=13:=hN
 clear hN
 unfold jC at h
 refine O.zR y fun K u=>?_
 iterate 2 (refine wC rfl fun K v=>?_;simp [q];apply v)
 apply wN;apply u
 refine O.zR y fun K u=>?_
 iterate 2 (refine wC rfl fun K v=>?_;simp [q];apply v)
 obtain ⟨r3,a2,h⟩:=bS h
 refine wL [(.take,.tmp 6),(.take,.tmp 7)] rfl rfl ent64 (rM _ _ a2) fun K v=>?_;simp [q];apply v
 iterate 2 (refine wC rfl fun K v=>?_;simp [q];apply v)
 apply wN;apply u
 refine O.thaw 5 a0 (by rw [q];decide) fun K v=>?_;simp [q];apply v
 refine O.zR y fun K u=>?_
 iterate 3 (refine wC rfl fun K v=>?_;simp [q];apply v)
 obtain ⟨r5,a3,h⟩:=bS h
 refine wL [(.take,.tmp 9),(.take,.tmp 10),(.take,.tmp 11)] rfl rfl ent65 (zI _ _ _ 66 [.pt [.sl false 3 (List.map GVar.enc r3)]] ent66 (fun _ _ h0=>tG _ _ h0) a3) fun K v=>?_;simp [q];apply v
 refine wC rfl fun K v=>?_;simp [q];apply v
 apply wN;apply u
 cases h
 refine O.ret ?_
 simp [aC,iB,res32]
theorem res12:Tryz.f12.results.toList=[.cell 4 31]:=rfl
theorem ent12:aF E.P 12:=eO Tryz.func12 (by simp [Tryz.f12]) rfl
theorem pF (p1:GProgram) (a5:Int) {r0:GProgram} (h:gJ p1 a5=some r0):Ok E 12 [.val (GProgram.enc false p1),.val (vi a5)] [GProgram.enc true r0] []:=by
 refine oB Tryz.func12 rfl (by simp [Tryz.f12]) fun C (q:C.N=22) hP=>?_
 have y:=aL hP
 unfold gJ at h
 refine O.zR y fun K u=>?_
 iterate 2 (refine wC rfl fun K v=>?_;simp [q];apply v)
 apply wN;apply u
 refine O.seq ?_
 obtain ⟨b2,a1,h⟩:=bS h
 refine O.seqRC rfl (y _ rfl) [1,2,4,16] [2,4] (fun _:Unit=>⟨[(1,.t (vi a5)),(2,.ref (.box 2) 0 []),(4,.ref (.box 4) 0 []),(16,.t (vb b2))],[(2,[.sl false 4 (List.map (GNode.enc false) p1.Nodes),.sl false 5 (List.map (GFn.enc false) p1.Fns)]),(4,[.sl true 4 [],.sl true 5 []])]⟩) (fun _=>True) (fun _ _=>?_) fun K4 b1=>?_
 rotate_left
 ·refine wC rfl fun K v=>?_;simp [q];apply v
  obtain ⟨r5,b3,a1⟩:=bS a1
  refine wL [(.take,.tmp 5)] rfl rfl ent23 (tK _ b3) fun K v=>?_;simp [q];apply v
  iterate 2 (refine wC rfl fun K v=>?_;simp [q];apply v)
  rcases aA a1 with ⟨a4,a1⟩ | ⟨a3,a1⟩
  ·have a2:=a4
   try simp at a2
   iterate 7 (refine wO fun K v=>?_;simp [q,a4,a2];apply v)
   refine wC rfl fun K v=>?_;simp [q,a4,a2];apply v
   refine wN ?_
   cases a1
   exact b1 _ () [] trivial (by simp [q,a4,a2])
  ·have a0:=a3
   try simp at a0
   iterate 5 (refine wC rfl fun K v=>?_;simp [q,a3,a0];apply v)
   obtain ⟨r9,a6,a1⟩:=bS a1
   refine wL [(.take,.tmp 9),(.take,.const (.int .i64 0)),(.take,.tmp 13)] rfl rfl lG (aU _ _ _ a6) fun K v=>?_;simp [q,a3,a0];apply v
   iterate 2 (refine wC rfl fun K v=>?_;simp [q,a3,a0];apply v)
   refine wN ?_
   cases a1
   exact b1 _ () [] trivial (by simp [q,a3,a0])
 rcases aA h with ⟨a7,h⟩ | ⟨a8,h⟩
 ·refine O.cT' (by simp) a7 ?_
  refine O.zR y fun K u=>?_
  refine wC rfl fun K v=>?_;simp [q];apply v
  obtain ⟨b4,a9,h⟩:=bS h
  refine wL [(.take,.tmp 17)] rfl rfl ent31 (mK _ a9) fun K v=>?_;simp [q];apply v
  refine wC rfl fun K v=>?_;simp [q];apply v
  apply wN;apply u
  cases h
  refine O.ret ?_
  simp [aC,iB,res12]
 ·refine O.cF' (by simp) a8 ?_
  refine O.skip ?_
  refine O.zR y fun K u=>?_
  iterate 2 (refine wC rfl fun K v=>?_;simp [q];apply v)
  obtain ⟨b5,b0,h⟩:=bS h
  refine wL [(.take,.tmp 19),(.take,.tmp 20)] rfl rfl ent32 (wI _ _ b0) fun K v=>?_;simp [q];apply v
  refine wC rfl fun K v=>?_;simp [q];apply v
  apply wN;apply u
  cases h
  refine O.ret ?_
  simp [aC,iB,res12]
theorem res68:Tryz.f68.results.toList=[.tmp 2]:=rfl
theorem aJa:aF E.P 68:=eO Tryz.func68 (by simp [Tryz.f68]) rfl
theorem dP (k1:Int) {r0:ByteArray} (h:aP k1=some r0):Ok E 68 [.val (vi k1)] [vs r0] []:=by
 refine oB Tryz.func68 rfl (by simp [Tryz.f68]) fun C (q:C.N=20) hP=>?_
 have y:=aL hP
 unfold aP at h
 refine O.zR y fun K u=>?_
 refine wC rfl fun K w=>?_;simp [q];apply w
 apply wN;apply u
 refine O.seq ?_
 refine O.zR y fun K u=>?_
 iterate 2 (refine wC rfl fun K w=>?_;simp [q];apply w)
 apply wN;apply u
 rcases aA h with ⟨b0,h⟩ | ⟨b1,h⟩
 ·refine O.cT' (by simp) b0 ?_
  refine O.zR y fun K u=>?_
  refine wC rfl fun K w=>?_;simp [q];apply w
  apply wN;apply u
  cases h
  refine O.ret ?_
  simp [aC,iB,res68]
 ·refine O.cF' (by simp) b1 ?_
  refine O.skip ?_
  refine O.zR y fun K u=>?_
  refine wC rfl fun K w=>?_;simp [q];apply w
  apply wN;apply u
  obtain ⟨a0,b2,h⟩:=bS h
  refine O.seqC [3] [] (fun _:Unit=>⟨[(3,.t (vs a0))],[]⟩) (fun _=>True) (fun _ _=>?_) fun K5 b3=>?_
  rotate_left
  ·refine O.block ?_
   refine O.loopO [] [0,3] [] (fun v:Int × ByteArray=>⟨[(0,.t (vi v.1)),(3,.t (vs v.2))],[]⟩) (dQ) _ (k1,(⟨#[]⟩:ByteArray)) b2 (by simp [q]) ?_
   intro g b6 h9 a5
   obtain ⟨k7,b4⟩:=g
   simp only [dQ] at h9
   try dsimp only
   refine O.seq ?_
   refine O.zR y fun K u=>?_
   iterate 2 (refine wC rfl fun K w=>?_;simp [q];apply w)
   apply wN;apply u
   rcases aA h9 with ⟨a6,h9⟩ | ⟨a7,h9⟩
   ·refine O.cT' (by simp) a6 ?_
    refine O.skip ?_
    refine O.block ?_
    refine O.zR y fun K u=>?_
    iterate 7 (refine wC rfl fun K w=>?_;simp [q];apply w)
    obtain ⟨b7,a8,h9⟩:=bS h9
    obtain ⟨a1,a2⟩:=lV a8
    iterate 2 (refine wC rfl fun K w=>?_;simp [q,a1,a2];apply w)
    apply wN;apply u
    refine O.zG y fun K u=>?_
    iterate 3 (refine wC rfl fun K w=>?_;simp [q];apply w)
    apply wN;apply u
    cases h9
    exact ⟨_,[],rfl,by simp [q]⟩
   ·refine O.cF' (by simp) a7 ?_
    refine O.exit ?_
    have b5:=congrArg some (a5 _ (Option.some.inj h9).symm)
    cases b5
    exact b3 _ () [] trivial (by simp [q])
  refine O.zR y fun K u=>?_
  refine wC rfl fun K w=>?_;simp [q];apply w
  obtain ⟨b8,a9,h⟩:=bS h
  obtain ⟨a3,a4⟩:=lV a9
  iterate 2 (refine wC rfl fun K w=>?_;simp [q,a3,a4];apply w)
  apply wN;apply u
  cases h
  refine O.ret ?_
  simp [aC,iB,res68]
theorem res69:Tryz.f69.results.toList=[.tmp 4]:=rfl
theorem ent69:aF E.P 69:=eO Tryz.func69 (by simp [Tryz.f69]) rfl
theorem wE (a1:List Int) (k2:Int) {r0:Int} {q0:List Int} (h:iZ a1 k2=some (r0,q0)):OkIO E 69 [.val (.sl true 1 (List.map vi a1)),.val (vi k2)] [vi r0] [] [(0,.sl true 1 (List.map vi q0))]:=by
 refine fU (fn:=Tryz.f69) [(0,.sl true 1 (List.map vi q0))] Tryz.func69 rfl (by simp [Tryz.f69]) rfl fun C hN hP=>?_
 have y:∀ l,aH9 [0] l=true→nQ C.pin l=true:=pO (by rw [hP];rfl)
 have q:C.N=19:=hN
 clear hN
 unfold iZ at h
 refine O.zR y fun K u=>?_
 refine wC rfl fun K w=>?_;simp [q];apply w
 apply wN;apply u
 obtain ⟨⟨b2,b3⟩,b4,h⟩:=bS h
 try dsimp only at h
 refine O.seqC [0,1] [] (fun _:Unit=>⟨[(0,.t (.sl true 1 (List.map vi b2))),(1,.t (vi b3))],[]⟩) (fun _=>True) (fun _ _=>?_) fun K4 b5=>?_
 rotate_left
 ·refine O.zR y fun K u=>?_
  refine wC rfl fun K w=>?_;simp [q];apply w
  apply wN;apply u
  refine O.block ?_
  refine O.loopO [] [0,1,5] [] (fun v:(List Int) × Int × Int=>⟨[(0,.t (.sl true 1 (List.map vi v.1))),(1,.t (vi v.2.1)),(5,.t (vi v.2.2))],[]⟩) (cK) _ (a1,k2,0) b4 (by simp [q]) ?_
  intro g b8 h9 a7
  obtain ⟨a6,k7,i8⟩:=g
  simp only [cK] at h9
  try dsimp only
  refine O.seq ?_
  refine O.zR y fun K u=>?_
  iterate 4 (refine wC rfl fun K w=>?_;simp [q];apply w)
  apply wN;apply u
  rcases aA h9 with ⟨a8,h9⟩ | ⟨a9,h9⟩
  ·refine O.cT' (by simp) a8 ?_
   refine O.skip ?_
   refine O.seq ?_
   refine O.block ?_
   refine O.zR y fun K u=>?_
   iterate 3 (refine wC rfl fun K w=>?_;simp [q];apply w)
   obtain ⟨b9,b0,h9⟩:=bS h9
   obtain ⟨a0,a2,a3,a4⟩:=gS b0
   refine wC rfl fun K w=>?_;simp [q,a0,a2,a3,a4];apply w
   obtain ⟨b6,b1,h9⟩:=bZ h9
   have a5:(List.map vi a6).set i8.toNat (vi k7)=List.map vi b6:=bU (f:=vi) b1
   try simp only [Int.toNat_natCast] at a5
   refine wC rfl fun K w=>?_;simp [q,a0,a2,a3,a4,a5];apply w
   apply wN;apply u
   refine O.zG y fun K u=>?_
   iterate 3 (refine wC rfl fun K w=>?_;simp [q];apply w)
   apply wN;apply u
   refine O.zG y fun K u=>?_
   iterate 3 (refine wC rfl fun K w=>?_;simp [q];apply w)
   apply wN;apply u
   cases h9
   exact ⟨_,[],rfl,by simp [q]⟩
  ·refine O.cF' (by simp) a9 ?_
   refine O.exit ?_
   have b7:=congrArg some (a7 _ (Option.some.inj h9).symm)
   cases b7
   exact b5 _ () [] trivial (by simp [q])
 refine O.zR y fun K u=>?_
 iterate 2 (refine wC rfl fun K w=>?_;simp [q];apply w)
 apply wN;apply u
 cases h
 refine O.ret ?_
 simp [aC,iB,res69]
theorem res33:Tryz.f33.results.toList=[.tmp 4]:=rfl
theorem ent33:aF E.P 33:=eO Tryz.func33 (by simp [Tryz.f33]) rfl
theorem uT (a1:List GNode) (k2:Int) {r0:Int} {q0:List GNode} (h:gV a1 k2=some (r0,q0)):OkIO E 33 [.val (.sl true 4 (List.map (GNode.enc true) a1)),.val (vi k2)] [vi r0] [] [(0,.sl true 4 (List.map (GNode.enc true) q0))]:=by
 refine fU (fn:=Tryz.f33) [(0,.sl true 4 (List.map (GNode.enc true) q0))] Tryz.func33 rfl (by simp [Tryz.f33]) rfl fun C hN hP=>?_
 have y:∀ l,aH9 [0] l=true→nQ C.pin l=true:=pO (by rw [hP];rfl)
 have q:C.N=42:=hN
 clear hN
 unfold gV at h
 refine O.zR y fun K u=>?_
 refine wC rfl fun K w=>?_;simp [q];apply w
 apply wN;apply u
 obtain ⟨⟨e2,e3⟩,e4,h⟩:=bS h
 try dsimp only at h
 refine O.seqC [0,1] [] (fun _:Unit=>⟨[(0,.t (.sl true 4 (List.map (GNode.enc true) e2))),(1,.t (vi e3))],[]⟩) (fun _=>True) (fun _ _=>?_) fun K4 e5=>?_
 rotate_left
 ·refine O.zR y fun K u=>?_
  refine wC rfl fun K w=>?_;simp [q];apply w
  apply wN;apply u
  refine O.block ?_
  refine O.loopO [] [0,1,5] [] (fun v:(List GNode) × Int × Int=>⟨[(0,.t (.sl true 4 (List.map (GNode.enc true) v.1))),(1,.t (vi v.2.1)),(5,.t (vi v.2.2))],[]⟩) (bV) _ (a1,k2,0) e4 (by simp [q]) ?_
  intro g g0 h9 c2
  obtain ⟨a6,k7,i8⟩:=g
  simp only [bV] at h9
  try dsimp only
  refine O.seq ?_
  refine O.zR y fun K u=>?_
  iterate 4 (refine wC rfl fun K w=>?_;simp [q];apply w)
  apply wN;apply u
  rcases aA h9 with ⟨c3,h9⟩ | ⟨c4,h9⟩
  ·refine O.cT' (by simp) c3 ?_
   refine O.skip ?_
   refine O.seq ?_
   refine O.block ?_
   refine O.zR y fun K u=>?_
   iterate 3 (refine wC rfl fun K w=>?_;simp [q];apply w)
   obtain ⟨c5,c6,h9⟩:=bS h9
   obtain ⟨a5,a7,a8,a9⟩:=gS c6
   iterate 2 (refine wC rfl fun K w=>?_;simp [q,a5,a7,a8,a9];apply w)
   obtain ⟨d9,c7,h9⟩:=bZ h9
   have b0:(List.map (GNode.enc true) a6).set i8.toNat (.agg [vi k7,vi c5.Num,vs c5.Name,.sl true 1 (List.map vi c5.Kids)])=List.map (GNode.enc true) d9:=bU (f:=(GNode.enc true)) c7
   try simp only [Int.toNat_natCast] at b0
   refine wC rfl fun K w=>?_;simp [q,a5,a7,a8,a9,b0];apply w
   apply wN;apply u
   refine O.zR y fun K u=>?_
   iterate 3 (refine wC rfl fun K w=>?_;simp [q];apply w)
   apply wN;apply u
   refine O.zR y fun K u=>?_
   iterate 3 (refine wC rfl fun K w=>?_;simp [q];apply w)
   obtain ⟨c8,c9,h9⟩:=bS h9
   obtain ⟨b1,b2,b3,b4⟩:=gS c9
   iterate 2 (refine wC rfl fun K w=>?_;simp [q,b1,b2,b3,b4];apply w)
   obtain ⟨e0,d0,h9⟩:=bZ h9
   have b5:(List.map (GNode.enc true) d9).set i8.toNat (.agg [vi c8.Kind,vi (IntKind.wrap .i64 (k7 + 1)),vs c8.Name,.sl true 1 (List.map vi c8.Kids)])=List.map (GNode.enc true) e0:=bU (f:=(GNode.enc true)) d0
   try simp only [Int.toNat_natCast] at b5
   refine wC rfl fun K w=>?_;simp [q,b1,b2,b3,b4,b5];apply w
   apply wN;apply u
   refine O.zR y fun K u=>?_
   iterate 3 (refine wC rfl fun K w=>?_;simp [q];apply w)
   apply wN;apply u
   refine O.zR y fun K u=>?_
   iterate 3 (refine wC rfl fun K w=>?_;simp [q];apply w)
   obtain ⟨e6,d1,h9⟩:=bS h9
   refine wL [(.take,.tmp 28)] rfl rfl aJa (dP _ d1) fun K w=>?_;simp [q];apply w
   obtain ⟨d2,d3,h9⟩:=bS h9
   obtain ⟨b6,b7,b8,b9⟩:=gS d3
   iterate 2 (refine wC rfl fun K w=>?_;simp [q,b6,b7,b8,b9];apply w)
   obtain ⟨e1,d4,h9⟩:=bZ h9
   have c0:(List.map (GNode.enc true) e0).set i8.toNat (.agg [vi d2.Kind,vi d2.Num,vs e6,.sl true 1 (List.map vi d2.Kids)])=List.map (GNode.enc true) e1:=bU (f:=(GNode.enc true)) d4
   try simp only [Int.toNat_natCast] at c0
   refine wC rfl fun K w=>?_;simp [q,b6,b7,b8,b9,c0];apply w
   apply wN;apply u
   refine O.zR y fun K u=>?_
   iterate 3 (refine wC rfl fun K w=>?_;simp [q];apply w)
   apply wN;apply u
   refine O.zG y fun K u=>?_
   iterate 2 (refine wC rfl fun K w=>?_;simp [q];apply w)
   obtain ⟨d5,d6,h9⟩:=bS h9
   obtain ⟨a0,a2,a3,a4⟩:=gS d6
   iterate 4 (refine wC rfl fun K w=>?_;simp [q,a0,a2,a3,a4];apply w)
   obtain ⟨⟨g1,e7⟩,d7,h9⟩:=bS h9
   try dsimp only at h9
   refine lH rfl ent69 (wE _ _ d7) fun K w=>?_;simp [q,a0,a2,a3,a4];apply w
   obtain ⟨e8,d8,h9⟩:=bZ h9
   have c1:(List.map (GNode.enc true) e1).set i8.toNat (.agg [vi d5.Kind,vi d5.Num,vs d5.Name,.sl true 1 (List.map vi e7)])=List.map (GNode.enc true) e8:=bU (f:=(GNode.enc true)) d8
   try simp only [Int.toNat_natCast] at c1
   refine wC rfl fun K w=>?_;simp [q,a0,a2,a3,a4,c1];apply w
   apply wN;apply u
   refine O.zG y fun K u=>?_
   iterate 3 (refine wC rfl fun K w=>?_;simp [q];apply w)
   apply wN;apply u
   cases h9
   exact ⟨_,[],rfl,by simp [q]⟩
  ·refine O.cF' (by simp) c4 ?_
   refine O.exit ?_
   have e9:=congrArg some (c2 _ (Option.some.inj h9).symm)
   cases e9
   exact e5 _ () [] trivial (by simp [q])
 refine O.zR y fun K u=>?_
 iterate 2 (refine wC rfl fun K w=>?_;simp [q];apply w)
 apply wN;apply u
 cases h
 refine O.ret ?_
 simp [aC,iB,res33]
theorem res70:Tryz.f70.results.toList=[.tmp 4]:=rfl
theorem ent70:aF E.P 70:=eO Tryz.func70 (by simp [Tryz.f70]) rfl
theorem tC (a1:List GParam) (k2:Int) {r0:Int} {q0:List GParam} (h:fV a1 k2=some (r0,q0)):OkIO E 70 [.val (.sl true 2 (List.map GParam.enc a1)),.val (vi k2)] [vi r0] [] [(0,.sl true 2 (List.map GParam.enc q0))]:=by
 refine fU (fn:=Tryz.f70) [(0,.sl true 2 (List.map GParam.enc q0))] Tryz.func70 rfl (by simp [Tryz.f70]) rfl fun C hN hP=>?_
 have y:∀ l,aH9 [0] l=true→nQ C.pin l=true:=pO (by rw [hP];rfl)
 have q:C.N=28:=hN
 clear hN
 unfold fV at h
 refine O.zR y fun K u=>?_
 refine wC rfl fun K w=>?_;simp [q];apply w
 apply wN;apply u
 obtain ⟨⟨c1,c2⟩,c3,h⟩:=bS h
 try dsimp only at h
 refine O.seqC [0,1] [] (fun _:Unit=>⟨[(0,.t (.sl true 2 (List.map GParam.enc c1))),(1,.t (vi c2))],[]⟩) (fun _=>True) (fun _ _=>?_) fun K4 c4=>?_
 rotate_left
 ·refine O.zR y fun K u=>?_
  refine wC rfl fun K w=>?_;simp [q];apply w
  apply wN;apply u
  refine O.block ?_
  refine O.loopO [] [0,1,5] [] (fun v:(List GParam) × Int × Int=>⟨[(0,.t (.sl true 2 (List.map GParam.enc v.1))),(1,.t (vi v.2.1)),(5,.t (vi v.2.2))],[]⟩) (bK) _ (a1,k2,0) c3 (by simp [q]) ?_
  intro g d0 h9 b2
  obtain ⟨a6,k7,i8⟩:=g
  simp only [bK] at h9
  try dsimp only
  refine O.seq ?_
  refine O.zR y fun K u=>?_
  iterate 4 (refine wC rfl fun K w=>?_;simp [q];apply w)
  apply wN;apply u
  rcases aA h9 with ⟨b3,h9⟩ | ⟨b4,h9⟩
  ·refine O.cT' (by simp) b3 ?_
   refine O.skip ?_
   refine O.seq ?_
   refine O.block ?_
   refine O.zR y fun K u=>?_
   iterate 3 (refine wC rfl fun K w=>?_;simp [q];apply w)
   obtain ⟨c5,b5,h9⟩:=bS h9
   refine wL [(.take,.tmp 14)] rfl rfl aJa (dP _ b5) fun K w=>?_;simp [q];apply w
   obtain ⟨c6,b6,h9⟩:=bS h9
   obtain ⟨a0,a2,a3,a4⟩:=gS b6
   iterate 2 (refine wC rfl fun K w=>?_;simp [q,a0,a2,a3,a4];apply w)
   obtain ⟨c0,b7,h9⟩:=bZ h9
   have a5:(List.map GParam.enc a6).set i8.toNat (.agg [vs c5,vi c6.Typ])=List.map GParam.enc c0:=bU (f:=GParam.enc) b7
   try simp only [Int.toNat_natCast] at a5
   refine wC rfl fun K w=>?_;simp [q,a0,a2,a3,a4,a5];apply w
   apply wN;apply u
   refine O.zR y fun K u=>?_
   iterate 3 (refine wC rfl fun K w=>?_;simp [q];apply w)
   apply wN;apply u
   refine O.zR y fun K u=>?_
   iterate 3 (refine wC rfl fun K w=>?_;simp [q];apply w)
   obtain ⟨c7,b8,h9⟩:=bS h9
   obtain ⟨a7,a8,a9,b0⟩:=gS b8
   iterate 2 (refine wC rfl fun K w=>?_;simp [q,a7,a8,a9,b0];apply w)
   obtain ⟨c8,b9,h9⟩:=bZ h9
   have b1:(List.map GParam.enc c0).set i8.toNat (.agg [vs c7.Name,vi (IntKind.wrap .i64 (k7 + 1))])=List.map GParam.enc c8:=bU (f:=GParam.enc) b9
   try simp only [Int.toNat_natCast] at b1
   refine wC rfl fun K w=>?_;simp [q,a7,a8,a9,b0,b1];apply w
   apply wN;apply u
   refine O.zG y fun K u=>?_
   iterate 3 (refine wC rfl fun K w=>?_;simp [q];apply w)
   apply wN;apply u
   refine O.zG y fun K u=>?_
   iterate 3 (refine wC rfl fun K w=>?_;simp [q];apply w)
   apply wN;apply u
   cases h9
   exact ⟨_,[],rfl,by simp [q]⟩
  ·refine O.cF' (by simp) b4 ?_
   refine O.exit ?_
   have c9:=congrArg some (b2 _ (Option.some.inj h9).symm)
   cases c9
   exact c4 _ () [] trivial (by simp [q])
 refine O.zR y fun K u=>?_
 iterate 2 (refine wC rfl fun K w=>?_;simp [q];apply w)
 apply wN;apply u
 cases h
 refine O.ret ?_
 simp [aC,iB,res70]
theorem res34:Tryz.f34.results.toList=[.tmp 4]:=rfl
theorem ent34:aF E.P 34:=eO Tryz.func34 (by simp [Tryz.f34]) rfl
theorem yY (a1:List GFn) (k2:Int) {r0:Int} {q0:List GFn} (h:kL a1 k2=some (r0,q0)):OkIO E 34 [.val (.sl true 5 (List.map (GFn.enc true) a1)),.val (vi k2)] [vi r0] [] [(0,.sl true 5 (List.map (GFn.enc true) q0))]:=by
 refine fU (fn:=Tryz.f34) [(0,.sl true 5 (List.map (GFn.enc true) q0))] Tryz.func34 rfl (by simp [Tryz.f34]) rfl fun C hN hP=>?_
 have y:∀ l,aH9 [0] l=true→nQ C.pin l=true:=pO (by rw [hP];rfl)
 have q:C.N=49:=hN
 clear hN
 unfold kL at h
 refine O.zR y fun K u=>?_
 refine wC rfl fun K w=>?_;simp [q];apply w
 apply wN;apply u
 obtain ⟨⟨g2,g3⟩,g4,h⟩:=bS h
 try dsimp only at h
 refine O.seqC [0,1] [] (fun _:Unit=>⟨[(0,.t (.sl true 5 (List.map (GFn.enc true) g2))),(1,.t (vi g3))],[]⟩) (fun _=>True) (fun _ _=>?_) fun K4 g5=>?_
 rotate_left
 ·refine O.zR y fun K u=>?_
  refine wC rfl fun K w=>?_;simp [q];apply w
  apply wN;apply u
  refine O.block ?_
  refine O.loopO [] [0,1,5] [] (fun v:(List GFn) × Int × Int=>⟨[(0,.t (.sl true 5 (List.map (GFn.enc true) v.1))),(1,.t (vi v.2.1)),(5,.t (vi v.2.2))],[]⟩) (dF) _ (a1,k2,0) g4 (by simp [q]) ?_
  intro g h0 h9 d2
  obtain ⟨a6,k7,i8⟩:=g
  simp only [dF] at h9
  try dsimp only
  refine O.seq ?_
  refine O.zR y fun K u=>?_
  iterate 4 (refine wC rfl fun K w=>?_;simp [q];apply w)
  apply wN;apply u
  rcases aA h9 with ⟨d3,h9⟩ | ⟨d4,h9⟩
  ·refine O.cT' (by simp) d3 ?_
   refine O.skip ?_
   refine O.seq ?_
   refine O.block ?_
   refine O.zR y fun K u=>?_
   iterate 3 (refine wC rfl fun K w=>?_;simp [q];apply w)
   obtain ⟨g6,d5,h9⟩:=bS h9
   refine wL [(.take,.tmp 14)] rfl rfl aJa (dP _ d5) fun K w=>?_;simp [q];apply w
   obtain ⟨c7,d6,h9⟩:=bS h9
   obtain ⟨a5,a7,a8,a9⟩:=gS d6
   iterate 2 (refine wC rfl fun K w=>?_;simp [q,a5,a7,a8,a9];apply w)
   obtain ⟨e8,d7,h9⟩:=bZ h9
   have b0:(List.map (GFn.enc true) a6).set i8.toNat (.agg [vs g6,.sl true 2 (List.map GParam.enc c7.Params),vi c7.Res,vi c7.Body,vi c7.Ret])=List.map (GFn.enc true) e8:=bU (f:=(GFn.enc true)) d7
   try simp only [Int.toNat_natCast] at b0
   refine wC rfl fun K w=>?_;simp [q,a5,a7,a8,a9,b0];apply w
   apply wN;apply u
   refine O.zR y fun K u=>?_
   iterate 3 (refine wC rfl fun K w=>?_;simp [q];apply w)
   apply wN;apply u
   refine O.zR y fun K u=>?_
   iterate 2 (refine wC rfl fun K w=>?_;simp [q];apply w)
   obtain ⟨c8,d8,h9⟩:=bS h9
   obtain ⟨a0,a2,a3,a4⟩:=gS d8
   iterate 4 (refine wC rfl fun K w=>?_;simp [q,a0,a2,a3,a4];apply w)
   obtain ⟨⟨d9,g7⟩,e0,h9⟩:=bS h9
   try dsimp only at h9
   refine lH rfl ent70 (tC _ _ e0) fun K w=>?_;simp [q,a0,a2,a3,a4];apply w
   obtain ⟨e9,e1,h9⟩:=bZ h9
   have b1:(List.map (GFn.enc true) e8).set i8.toNat (.agg [vs c8.Name,.sl true 2 (List.map GParam.enc g7),vi c8.Res,vi c8.Body,vi c8.Ret])=List.map (GFn.enc true) e9:=bU (f:=(GFn.enc true)) e1
   try simp only [Int.toNat_natCast] at b1
   refine wC rfl fun K w=>?_;simp [q,a0,a2,a3,a4,b1];apply w
   apply wN;apply u
   refine O.zR y fun K u=>?_
   iterate 3 (refine wC rfl fun K w=>?_;simp [q];apply w)
   obtain ⟨c9,e2,h9⟩:=bS h9
   obtain ⟨b2,b3,b4,b5⟩:=gS e2
   iterate 2 (refine wC rfl fun K w=>?_;simp [q,b2,b3,b4,b5];apply w)
   obtain ⟨g0,e3,h9⟩:=bZ h9
   have b6:(List.map (GFn.enc true) e9).set i8.toNat (.agg [vs c9.Name,.sl true 2 (List.map GParam.enc c9.Params),vi d9,vi c9.Body,vi c9.Ret])=List.map (GFn.enc true) g0:=bU (f:=(GFn.enc true)) e3
   try simp only [Int.toNat_natCast] at b6
   refine wC rfl fun K w=>?_;simp [q,b2,b3,b4,b5,b6];apply w
   apply wN;apply u
   refine O.zR y fun K u=>?_
   iterate 3 (refine wC rfl fun K w=>?_;simp [q];apply w)
   apply wN;apply u
   refine O.zR y fun K u=>?_
   iterate 3 (refine wC rfl fun K w=>?_;simp [q];apply w)
   obtain ⟨d0,e4,h9⟩:=bS h9
   obtain ⟨b7,b8,b9,c0⟩:=gS e4
   iterate 2 (refine wC rfl fun K w=>?_;simp [q,b7,b8,b9,c0];apply w)
   obtain ⟨g1,e5,h9⟩:=bZ h9
   have c1:(List.map (GFn.enc true) g0).set i8.toNat (.agg [vs d0.Name,.sl true 2 (List.map GParam.enc d0.Params),vi d0.Res,vi (IntKind.wrap .i64 (d9 + 1)),vi d0.Ret])=List.map (GFn.enc true) g1:=bU (f:=(GFn.enc true)) e5
   try simp only [Int.toNat_natCast] at c1
   refine wC rfl fun K w=>?_;simp [q,b7,b8,b9,c0,c1];apply w
   apply wN;apply u
   refine O.zR y fun K u=>?_
   iterate 3 (refine wC rfl fun K w=>?_;simp [q];apply w)
   apply wN;apply u
   refine O.zR y fun K u=>?_
   iterate 3 (refine wC rfl fun K w=>?_;simp [q];apply w)
   obtain ⟨d1,e6,h9⟩:=bS h9
   obtain ⟨c2,c3,c4,c5⟩:=gS e6
   iterate 2 (refine wC rfl fun K w=>?_;simp [q,c2,c3,c4,c5];apply w)
   obtain ⟨g8,e7,h9⟩:=bZ h9
   have c6:(List.map (GFn.enc true) g1).set i8.toNat (.agg [vs d1.Name,.sl true 2 (List.map GParam.enc d1.Params),vi d1.Res,vi d1.Body,vi (IntKind.wrap .i64 ((IntKind.wrap .i64 (d9 + 1)) + 1))])=List.map (GFn.enc true) g8:=bU (f:=(GFn.enc true)) e7
   try simp only [Int.toNat_natCast] at c6
   refine wC rfl fun K w=>?_;simp [q,c2,c3,c4,c5,c6];apply w
   apply wN;apply u
   refine O.zG y fun K u=>?_
   iterate 3 (refine wC rfl fun K w=>?_;simp [q];apply w)
   apply wN;apply u
   refine O.zG y fun K u=>?_
   iterate 3 (refine wC rfl fun K w=>?_;simp [q];apply w)
   apply wN;apply u
   cases h9
   exact ⟨_,[],rfl,by simp [q]⟩
  ·refine O.cF' (by simp) d4 ?_
   refine O.exit ?_
   have g9:=congrArg some (d2 _ (Option.some.inj h9).symm)
   cases g9
   exact g5 _ () [] trivial (by simp [q])
 refine O.zR y fun K u=>?_
 iterate 2 (refine wC rfl fun K w=>?_;simp [q];apply w)
 apply wN;apply u
 cases h
 refine O.ret ?_
 simp [aC,iB,res34]
theorem res13:Tryz.f13.results.toList=[.tmp 4]:=rfl
theorem ent13:aF E.P 13:=eO Tryz.func13 (by simp [Tryz.f13]) rfl
theorem mC (a1:GProgram) (k2:Int) {r0:Int} {q0:GProgram} (h:dR a1 k2=some (r0,q0)):OkIO E 13 [.val (GProgram.enc true a1),.val (vi k2)] [vi r0] [] [(0,GProgram.enc true q0)]:=by
 refine fU (fn:=Tryz.f13) [(0,GProgram.enc true q0)] Tryz.func13 rfl (by simp [Tryz.f13]) rfl fun C hN hP=>?_
 have y:∀ l,aH9 [0] l=true→nQ C.pin l=true:=pO (by rw [hP];rfl)
 obtain ⟨V,hVp⟩:=aOc (n:=0) (by rw [hP];rfl)
 have q:C.N=14:=hN
 clear hN
 unfold dR at h
 refine O.seqRW rfl (y _ rfl) fun K u=>?_
 refine W_box 2 rfl rfl hVp (X:=GProgram.enc true a1) (by simp) (by simp) fun cs hcs hl K u=>?_
 obtain ⟨p0,p1,rfl⟩:∃ p0 p1,cs=[p0,p1]:=by match cs,hl with | [p0,p1],_=>exact ⟨p0,p1,rfl⟩
 simp [q];refine u _ ?_;clear u
 refine aLf fun KW hKW=>?_
 refine wC rfl fun K v=>?_;simp [q];apply v
 refine wN (hKW _ ?_);clear hKW
 refine aN6 (u _ ?_);clear u
 refine O.seqRW rfl (y _ rfl) fun K u=>?_
 refine aLf fun KW hKW=>?_
 refine wC rfl fun K v=>?_;simp [q];apply v
 refine wN (hKW _ ?_);clear hKW
 refine aLf fun KW hKW=>?_
 refine wC rfl fun K v=>?_;simp [q];apply v
 refine wN (hKW _ ?_);clear hKW
 refine aLf fun KW hKW=>?_
 refine wC rfl fun K v=>?_;simp [q];apply v
 refine wN (hKW _ ?_);clear hKW
 obtain ⟨⟨r3,q4⟩,a0,h⟩:=bS h
 try dsimp only at h
 refine aNp 0 0 none rfl rfl ent33 hVp hcs (uT _ _ a0) fun K v=>?_;simp [q];apply v
 refine aLf fun KW hKW=>?_
 refine wC rfl fun K v=>?_;simp [q];apply v
 refine wN (hKW _ ?_);clear hKW
 refine aN6 (u _ ?_);clear u
 refine O.seqRW rfl (y _ rfl) fun K u=>?_
 refine aLf fun KW hKW=>?_
 refine wC rfl fun K v=>?_;simp [q];apply v
 refine wN (hKW _ ?_);clear hKW
 refine aLf fun KW hKW=>?_
 refine wC rfl fun K v=>?_;simp [q];apply v
 refine wN (hKW _ ?_);clear hKW
 refine aLf fun KW hKW=>?_
 refine wC rfl fun K v=>?_;simp [q];apply v
 refine wN (hKW _ ?_);clear hKW
 obtain ⟨⟨r6,q7⟩,a2,h⟩:=bS h
 try dsimp only at h
 refine aNp 0 1 none rfl rfl ent34 hVp hcs (yY _ _ a2) fun K v=>?_;simp [q];apply v
 refine aLf fun KW hKW=>?_
 refine wC rfl fun K v=>?_;simp [q];apply v
 refine wN (hKW _ ?_);clear hKW
 refine aN6 (u _ ?_);clear u
 refine O.seqRW rfl (y _ rfl) fun K u=>?_
 refine aLf fun KW hKW=>?_
 refine wC rfl fun K v=>?_;simp [q];apply v
 refine wN (hKW _ ?_);clear hKW
 refine aLf fun KW hKW=>?_
 refine wC rfl fun K v=>?_;simp [q];apply v
 refine wN (hKW _ ?_);clear hKW
 refine aN6 (u _ ?_);clear u
 cases h
 refine O.ret ?_
 simp [aC,iB,res13]
theorem res71:Tryz.f71.results.toList=[.tmp 4]:=rfl
theorem ent71:aF E.P 71:=eO Tryz.func71 (by simp [Tryz.f71]) rfl
theorem wF (a1:List Int) (k2:Int) {r0:Int} (h:dY a1 k2=some r0):Ok E 71 [.val (.sl false 1 (List.map vi a1)),.val (vi k2)] [vi r0] []:=by
 refine oB Tryz.func71 rfl (by simp [Tryz.f71]) fun C (q:C.N=21) hP=>?_
 have u:=aL hP
 unfold dY at h
 refine O.zR u fun K w=>?_
 refine wC rfl fun K z=>?_;simp [q];apply z
 apply wN;apply w
 obtain ⟨j5,b1,h⟩:=bS h
 refine O.seqC [1] [] (fun v:Int=>⟨[(1,.t (vi v))],[]⟩) (fun v=>j5=Sum.inl v) (fun v hv=>?_) fun K4 b2=>?_
 rotate_left
 ·refine O.zR u fun K w=>?_
  refine wC rfl fun K z=>?_;simp [q];apply z
  apply wN;apply w
  refine O.block ?_
  refine O.loopO [] [0,1,5] [] (fun v:Int × Int=>⟨[(0,.t (.sl false 1 (List.map vi a1))),(1,.t (vi v.1)),(5,.t (vi v.2))],[]⟩) (cL a1) _ (k2,0) b1 (by simp [q]) ?_
  intro g b5 h8 b0
  obtain ⟨k6,i7⟩:=g
  simp only [cL] at h8
  try dsimp only
  refine O.seq ?_
  refine O.zR u fun K w=>?_
  iterate 4 (refine wC rfl fun K z=>?_;simp [q];apply z)
  apply wN;apply w
  rcases aA h8 with ⟨a5,h8⟩ | ⟨a6,h8⟩
  ·refine O.cT' (by simp) a5 ?_
   refine O.skip ?_
   refine O.seq ?_
   refine O.block ?_
   refine O.seq ?_
   refine O.zR u fun K w=>?_
   iterate 2 (refine wC rfl fun K z=>?_;simp [q];apply z)
   obtain ⟨b6,a7,h8⟩:=bS h8
   obtain ⟨a0,a2,a3,a4⟩:=gS a7
   iterate 4 (refine wC rfl fun K z=>?_;simp [q,a0,a2,a3,a4];apply z)
   apply wN;apply w
   rcases aA h8 with ⟨a8,h8⟩ | ⟨a9,h8⟩
   ·refine O.cT' (by simp) a8 ?_
    refine O.zR u fun K w=>?_
    refine wC rfl fun K z=>?_;simp [q];apply z
    apply wN;apply w
    have b3:=congrArg some (b0 _ (Option.some.inj h8).symm)
    cases b3
    try dsimp only at h
    cases h
    refine O.ret ?_
    simp [aC,iB,res71]
   ·refine O.cF' (by simp) a9 ?_
    refine O.skip ?_
    refine O.zG u fun K w=>?_
    iterate 3 (refine wC rfl fun K z=>?_;simp [q];apply z)
    apply wN;apply w
    refine O.zG u fun K w=>?_
    iterate 3 (refine wC rfl fun K z=>?_;simp [q];apply z)
    apply wN;apply w
    cases h8
    exact ⟨_,[],rfl,by simp [q]⟩
  ·refine O.cF' (by simp) a6 ?_
   refine O.exit ?_
   have b4:=congrArg some (b0 _ (Option.some.inj h8).symm)
   cases b4
   exact b2 _ _ [] rfl (by simp [q])
 subst hv
 obtain ⟨b7,hv⟩:∃ y,y=v:=⟨_,rfl⟩
 subst hv
 try dsimp only at h ⊢
 refine O.zR u fun K w=>?_
 iterate 2 (refine wC rfl fun K z=>?_;simp [q];apply z)
 apply wN;apply w
 cases h
 refine O.ret ?_
 simp [aC,iB,res71]
theorem aK6:Tryz.f35.results.toList=[.tmp 4]:=rfl
theorem ent35:aF E.P 35:=eO Tryz.func35 (by simp [Tryz.f35]) rfl
theorem uU (a1:List GNode) (k2:Int) {r0:Int} (h:gW a1 k2=some r0):Ok E 35 [.val (.sl false 4 (List.map (GNode.enc false) a1)),.val (vi k2)] [vi r0] []:=by
 refine oB Tryz.func35 rfl (by simp [Tryz.f35]) fun C (q:C.N=50) hP=>?_
 have u:=aL hP
 unfold gW at h
 refine O.zR u fun K w=>?_
 refine wC rfl fun K r=>?_;simp [q];apply r
 apply wN;apply w
 obtain ⟨j5,d5,h⟩:=bS h
 refine O.seqC [1] [] (fun v:Int=>⟨[(1,.t (vi v))],[]⟩) (fun v=>j5=Sum.inl v) (fun v hv=>?_) fun K4 d6=>?_
 rotate_left
 ·refine O.zR u fun K w=>?_
  refine wC rfl fun K r=>?_;simp [q];apply r
  apply wN;apply w
  refine O.block ?_
  refine O.loopO [] [0,1,5] [] (fun v:Int × Int=>⟨[(0,.t (.sl false 4 (List.map (GNode.enc false) a1))),(1,.t (vi v.1)),(5,.t (vi v.2))],[]⟩) (bW a1) _ (k2,0) d5 (by simp [q]) ?_
  intro g e3 h8 b0
  obtain ⟨k6,i7⟩:=g
  simp only [bW] at h8
  try dsimp only
  refine O.seq ?_
  refine O.zR u fun K w=>?_
  iterate 4 (refine wC rfl fun K r=>?_;simp [q];apply r)
  apply wN;apply w
  rcases aA h8 with ⟨b9,h8⟩ | ⟨c0,h8⟩
  ·refine O.cT' (by simp) b9 ?_
   refine O.skip ?_
   refine O.seq ?_
   refine O.block ?_
   refine O.seq ?_
   refine O.zR u fun K w=>?_
   iterate 2 (refine wC rfl fun K r=>?_;simp [q];apply r)
   obtain ⟨e4,c1,h8⟩:=bS h8
   obtain ⟨b1,b2,b3,b4⟩:=gS c1
   iterate 5 (refine wC rfl fun K r=>?_;simp [q,b1,b2,b3,b4];apply r)
   apply wN;apply w
   rcases aA h8 with ⟨c2,h8⟩ | ⟨c3,h8⟩
   ·refine O.cT' (by simp) c2 ?_
    refine O.zR u fun K w=>?_
    refine wC rfl fun K r=>?_;simp [q];apply r
    apply wN;apply w
    have d7:=congrArg some (b0 _ (Option.some.inj h8).symm)
    cases d7
    try dsimp only at h
    cases h
    refine O.ret ?_
    simp [aC,iB,aK6]
   ·refine O.cF' (by simp) c3 ?_
    refine O.skip ?_
    refine O.zR u fun K w=>?_
    iterate 3 (refine wC rfl fun K r=>?_;simp [q];apply r)
    apply wN;apply w
    refine O.seq ?_
    refine O.zR u fun K w=>?_
    iterate 2 (refine wC rfl fun K r=>?_;simp [q];apply r)
    obtain ⟨e5,c4,h8⟩:=bS h8
    obtain ⟨b5,b6,b7,b8⟩:=gS c4
    iterate 5 (refine wC rfl fun K r=>?_;simp [q,b5,b6,b7,b8];apply r)
    apply wN;apply w
    rcases aA h8 with ⟨c5,h8⟩ | ⟨c6,h8⟩
    ·refine O.cT' (by simp) c5 ?_
     refine O.zR u fun K w=>?_
     refine wC rfl fun K r=>?_;simp [q];apply r
     apply wN;apply w
     have d8:=congrArg some (b0 _ (Option.some.inj h8).symm)
     cases d8
     try dsimp only at h
     cases h
     refine O.ret ?_
     simp [aC,iB,aK6]
    ·refine O.cF' (by simp) c6 ?_
     refine O.skip ?_
     refine O.zR u fun K w=>?_
     iterate 3 (refine wC rfl fun K r=>?_;simp [q];apply r)
     apply wN;apply w
     refine O.seq ?_
     refine O.seq ?_
     obtain ⟨a9,c7,h8⟩:=bS h8
     obtain ⟨a0,a2,a3,a4⟩:=gS c7
     obtain ⟨d9,c8,h8⟩:=bS h8
     refine O.dT rfl (u _ rfl) [(30,.t (.sl false 4 (List.map (GNode.enc false) a1))),(31,.t (vi i7)),(32,.rop [vi a9.Kind,vi a9.Num,vs a9.Name,.sl false 1 (List.map vi a9.Kids)] 0),(33,.rop [vi a9.Kind,vi a9.Num,vs a9.Name,.sl false 1 (List.map vi a9.Kids)] 2),(34,.t (vs a9.Name)),(35,.t (vi (IntKind.wrap .i64 ((IntKind.wrap .i64 (k6 + 1)) + 1)))),(36,.t (vs d9))] [[],[],[0,1],[0,1,2],[0,1,2,3],[],[5],[0,1,2,3,4,5,6]] (by simp) (by simp) (by simp [look]) rfl rfl rfl ?_ fun K w=>?_
     ·refine ⟨?_,?_,?_,?_,?_,?_,?_,trivial⟩
      all_goals (intro τ hbx hb hd hf K w;try simp [aJ] at hd;simp [aJ] at hf;first | (refine wC rfl fun K' z=>?_;simp [q,hbx,hb,hd,hf,a0,a2,a3,a4];exact z _ (wN (w _ (by simp [aJ,hbx,a0,a2,a3,a4])))) | (refine wL [(.take,.tmp 35)] rfl rfl aJa (dP _ c8) fun K' z=>?_;simp [q,hbx,hb,hd,hf,a0,a2,a3,a4];exact z _ (wN (w _ (by simp [aJ,hbx,a0,a2,a3,a4])))))
     refine wC rfl fun K r=>?_;simp [q,a0,a2,a3,a4];apply r
     apply wN;apply w
     rcases aA h8 with ⟨c9,h8⟩ | ⟨d0,h8⟩
     ·refine O.cT' (by simp) c9 ?_
      refine O.zR u fun K w=>?_
      refine wC rfl fun K r=>?_;simp [q];apply r
      apply wN;apply w
      have e0:=congrArg some (b0 _ (Option.some.inj h8).symm)
      cases e0
      try dsimp only at h
      cases h
      refine O.ret ?_
      simp [aC,iB,aK6]
     ·refine O.cF' (by simp) d0 ?_
      refine O.skip ?_
      refine O.zR u fun K w=>?_
      iterate 3 (refine wC rfl fun K r=>?_;simp [q];apply r)
      apply wN;apply w
      refine O.zR u fun K w=>?_
      iterate 2 (refine wC rfl fun K r=>?_;simp [q];apply r)
      obtain ⟨e6,d1,h8⟩:=bS h8
      obtain ⟨a5,a6,a7,a8⟩:=gS d1
      iterate 4 (refine wC rfl fun K r=>?_;simp [q,a5,a6,a7,a8];apply r)
      obtain ⟨e7,d2,h8⟩:=bS h8
      refine wL [(.take,.tmp 44),(.take,.tmp 45)] rfl rfl ent71 (wF _ _ d2) fun K r=>?_;simp [q,a5,a6,a7,a8];apply r
      refine wC rfl fun K r=>?_;simp [q,a5,a6,a7,a8];apply r
      apply wN;apply w
      refine O.zR u fun K w=>?_
      iterate 2 (refine wC rfl fun K r=>?_;simp [q];apply r)
      apply wN;apply w
      rcases aA h8 with ⟨d3,h8⟩ | ⟨d4,h8⟩
      ·refine O.cT' (by simp) d3 ?_
       refine O.zR u fun K w=>?_
       refine wC rfl fun K r=>?_;simp [q];apply r
       apply wN;apply w
       have e1:=congrArg some (b0 _ (Option.some.inj h8).symm)
       cases e1
       try dsimp only at h
       cases h
       refine O.ret ?_
       simp [aC,iB,aK6]
      ·refine O.cF' (by simp) d4 ?_
       refine O.skip ?_
       refine O.zG u fun K w=>?_
       iterate 3 (refine wC rfl fun K r=>?_;simp [q];apply r)
       apply wN;apply w
       cases h8
       exact ⟨_,[],rfl,by simp [q]⟩
  ·refine O.cF' (by simp) c0 ?_
   refine O.exit ?_
   have e2:=congrArg some (b0 _ (Option.some.inj h8).symm)
   cases e2
   exact d6 _ _ [] rfl (by simp [q])
 subst hv
 obtain ⟨e8,hv⟩:∃ y,y=v:=⟨_,rfl⟩
 subst hv
 try dsimp only at h ⊢
 refine O.zR u fun K w=>?_
 iterate 2 (refine wC rfl fun K r=>?_;simp [q];apply r)
 apply wN;apply w
 cases h
 refine O.ret ?_
 simp [aC,iB,aK6]
theorem aO1:Tryz.f72.results.toList=[.tmp 4]:=rfl
theorem ent72:aF E.P 72:=eO Tryz.func72 (by simp [Tryz.f72]) rfl
theorem tD (a1:List GParam) (k2:Int) {r0:Int} (h:cD a1 k2=some r0):Ok E 72 [.val (.sl false 2 (List.map GParam.enc a1)),.val (vi k2)] [vi r0] []:=by
 refine oB Tryz.func72 rfl (by simp [Tryz.f72]) fun C (q:C.N=32) hP=>?_
 have u:=aL hP
 unfold cD at h
 refine O.zR u fun K w=>?_
 refine wC rfl fun K r=>?_;simp [q];apply r
 apply wN;apply w
 obtain ⟨j5,c0,h⟩:=bS h
 refine O.seqC [1] [] (fun v:Int=>⟨[(1,.t (vi v))],[]⟩) (fun v=>j5=Sum.inl v) (fun v hv=>?_) fun K4 c1=>?_
 rotate_left
 ·refine O.zR u fun K w=>?_
  refine wC rfl fun K r=>?_;simp [q];apply r
  apply wN;apply w
  refine O.block ?_
  refine O.loopO [] [0,1,5] [] (fun v:Int × Int=>⟨[(0,.t (.sl false 2 (List.map GParam.enc a1))),(1,.t (vi v.1)),(5,.t (vi v.2))],[]⟩) (bL a1) _ (k2,0) c0 (by simp [q]) ?_
  intro g c6 h8 b0
  obtain ⟨k6,i7⟩:=g
  simp only [bL] at h8
  try dsimp only
  refine O.seq ?_
  refine O.zR u fun K w=>?_
  iterate 4 (refine wC rfl fun K r=>?_;simp [q];apply r)
  apply wN;apply w
  rcases aA h8 with ⟨b1,h8⟩ | ⟨b2,h8⟩
  ·refine O.cT' (by simp) b1 ?_
   refine O.skip ?_
   refine O.seq ?_
   refine O.block ?_
   refine O.seq ?_
   refine O.seq ?_
   obtain ⟨a5,b3,h8⟩:=bS h8
   obtain ⟨a0,a2,a3,a4⟩:=gS b3
   obtain ⟨c2,b4,h8⟩:=bS h8
   refine O.dT rfl (u _ rfl) [(12,.t (.sl false 2 (List.map GParam.enc a1))),(13,.t (vi i7)),(14,.rop [vs a5.Name,vi a5.Typ] 0),(15,.rop [vs a5.Name,vi a5.Typ] 0),(16,.t (vs a5.Name)),(17,.t (vi k6)),(18,.t (vs c2))] [[],[],[0,1],[0,1,2],[0,1,2,3],[],[5],[0,1,2,3,4,5,6]] (by simp) (by simp) (by simp [look]) rfl rfl rfl ?_ fun K w=>?_
   ·refine ⟨?_,?_,?_,?_,?_,?_,?_,trivial⟩
    all_goals (intro τ hbx hb hd hf K w;try simp [aJ] at hd;simp [aJ] at hf;first | (refine wC rfl fun K' z=>?_;simp [q,hbx,hb,hd,hf,a0,a2,a3,a4];exact z _ (wN (w _ (by simp [aJ,hbx,a0,a2,a3,a4])))) | (refine wL [(.take,.tmp 17)] rfl rfl aJa (dP _ b4) fun K' z=>?_;simp [q,hbx,hb,hd,hf,a0,a2,a3,a4];exact z _ (wN (w _ (by simp [aJ,hbx,a0,a2,a3,a4])))))
   refine wC rfl fun K r=>?_;simp [q,a0,a2,a3,a4];apply r
   apply wN;apply w
   rcases aA h8 with ⟨b5,h8⟩ | ⟨b6,h8⟩
   ·refine O.cT' (by simp) b5 ?_
    refine O.zR u fun K w=>?_
    refine wC rfl fun K r=>?_;simp [q];apply r
    apply wN;apply w
    have c3:=congrArg some (b0 _ (Option.some.inj h8).symm)
    cases c3
    try dsimp only at h
    cases h
    refine O.ret ?_
    simp [aC,iB,aO1]
   ·refine O.cF' (by simp) b6 ?_
    refine O.skip ?_
    refine O.zR u fun K w=>?_
    iterate 3 (refine wC rfl fun K r=>?_;simp [q];apply r)
    apply wN;apply w
    refine O.seq ?_
    refine O.zR u fun K w=>?_
    iterate 2 (refine wC rfl fun K r=>?_;simp [q];apply r)
    obtain ⟨c7,b7,h8⟩:=bS h8
    obtain ⟨a6,a7,a8,a9⟩:=gS b7
    iterate 5 (refine wC rfl fun K r=>?_;simp [q,a6,a7,a8,a9];apply r)
    apply wN;apply w
    rcases aA h8 with ⟨b8,h8⟩ | ⟨b9,h8⟩
    ·refine O.cT' (by simp) b8 ?_
     refine O.zR u fun K w=>?_
     refine wC rfl fun K r=>?_;simp [q];apply r
     apply wN;apply w
     have c4:=congrArg some (b0 _ (Option.some.inj h8).symm)
     cases c4
     try dsimp only at h
     cases h
     refine O.ret ?_
     simp [aC,iB,aO1]
    ·refine O.cF' (by simp) b9 ?_
     refine O.skip ?_
     refine O.zG u fun K w=>?_
     iterate 3 (refine wC rfl fun K r=>?_;simp [q];apply r)
     apply wN;apply w
     refine O.zG u fun K w=>?_
     iterate 3 (refine wC rfl fun K r=>?_;simp [q];apply r)
     apply wN;apply w
     cases h8
     exact ⟨_,[],rfl,by simp [q]⟩
  ·refine O.cF' (by simp) b2 ?_
   refine O.exit ?_
   have c5:=congrArg some (b0 _ (Option.some.inj h8).symm)
   cases c5
   exact c1 _ _ [] rfl (by simp [q])
 subst hv
 obtain ⟨c8,hv⟩:∃ y,y=v:=⟨_,rfl⟩
 subst hv
 try dsimp only at h ⊢
 refine O.zR u fun K w=>?_
 iterate 2 (refine wC rfl fun K r=>?_;simp [q];apply r)
 apply wN;apply w
 cases h
 refine O.ret ?_
 simp [aC,iB,aO1]
theorem aIi:Tryz.f36.results.toList=[.tmp 4]:=rfl
theorem ent36:aF E.P 36:=eO Tryz.func36 (by simp [Tryz.f36]) rfl
theorem yZ (a1:List GFn) (k2:Int) {r0:Int} (h:kM a1 k2=some r0):Ok E 36 [.val (.sl false 5 (List.map (GFn.enc false) a1)),.val (vi k2)] [vi r0] []:=by
 refine oB Tryz.func36 rfl (by simp [Tryz.f36]) fun C (q:C.N=59) hP=>?_
 have u:=aL hP
 unfold kM at h
 refine O.zR u fun K w=>?_
 refine wC rfl fun K r=>?_;simp [q];apply r
 apply wN;apply w
 obtain ⟨j5,e2,h⟩:=bS h
 refine O.seqC [1] [] (fun v:Int=>⟨[(1,.t (vi v))],[]⟩) (fun v=>j5=Sum.inl v) (fun v hv=>?_) fun K4 e3=>?_
 rotate_left
 ·refine O.zR u fun K w=>?_
  refine wC rfl fun K r=>?_;simp [q];apply r
  apply wN;apply w
  refine O.block ?_
  refine O.loopO [] [0,1,5] [] (fun v:Int × Int=>⟨[(0,.t (.sl false 5 (List.map (GFn.enc false) a1))),(1,.t (vi v.1)),(5,.t (vi v.2))],[]⟩) (dG a1) _ (k2,0) e2 (by simp [q]) ?_
  intro g g1 h8 b0
  obtain ⟨k6,i7⟩:=g
  simp only [dG] at h8
  try dsimp only
  refine O.seq ?_
  refine O.zR u fun K w=>?_
  iterate 4 (refine wC rfl fun K r=>?_;simp [q];apply r)
  apply wN;apply w
  rcases aA h8 with ⟨c3,h8⟩ | ⟨c4,h8⟩
  ·refine O.cT' (by simp) c3 ?_
   refine O.skip ?_
   refine O.seq ?_
   refine O.block ?_
   refine O.seq ?_
   refine O.seq ?_
   obtain ⟨a5,c5,h8⟩:=bS h8
   obtain ⟨a0,a2,a3,a4⟩:=gS c5
   obtain ⟨e4,c6,h8⟩:=bS h8
   refine O.dT rfl (u _ rfl) [(12,.t (.sl false 5 (List.map (GFn.enc false) a1))),(13,.t (vi i7)),(14,.rop [vs a5.Name,.sl false 2 (List.map GParam.enc a5.Params),vi a5.Res,vi a5.Body,vi a5.Ret] 0),(15,.rop [vs a5.Name,.sl false 2 (List.map GParam.enc a5.Params),vi a5.Res,vi a5.Body,vi a5.Ret] 0),(16,.t (vs a5.Name)),(17,.t (vi k6)),(18,.t (vs e4))] [[],[],[0,1],[0,1,2],[0,1,2,3],[],[5],[0,1,2,3,4,5,6]] (by simp) (by simp) (by simp [look]) rfl rfl rfl ?_ fun K w=>?_
   ·refine ⟨?_,?_,?_,?_,?_,?_,?_,trivial⟩
    all_goals (intro τ hbx hb hd hf K w;try simp [aJ] at hd;simp [aJ] at hf;first | (refine wC rfl fun K' z=>?_;simp [q,hbx,hb,hd,hf,a0,a2,a3,a4];exact z _ (wN (w _ (by simp [aJ,hbx,a0,a2,a3,a4])))) | (refine wL [(.take,.tmp 17)] rfl rfl aJa (dP _ c6) fun K' z=>?_;simp [q,hbx,hb,hd,hf,a0,a2,a3,a4];exact z _ (wN (w _ (by simp [aJ,hbx,a0,a2,a3,a4])))))
   refine wC rfl fun K r=>?_;simp [q,a0,a2,a3,a4];apply r
   apply wN;apply w
   rcases aA h8 with ⟨c7,h8⟩ | ⟨c8,h8⟩
   ·refine O.cT' (by simp) c7 ?_
    refine O.zR u fun K w=>?_
    refine wC rfl fun K r=>?_;simp [q];apply r
    apply wN;apply w
    have e5:=congrArg some (b0 _ (Option.some.inj h8).symm)
    cases e5
    try dsimp only at h
    cases h
    refine O.ret ?_
    simp [aC,iB,aIi]
   ·refine O.cF' (by simp) c8 ?_
    refine O.skip ?_
    refine O.zR u fun K w=>?_
    iterate 3 (refine wC rfl fun K r=>?_;simp [q];apply r)
    apply wN;apply w
    refine O.zR u fun K w=>?_
    iterate 2 (refine wC rfl fun K r=>?_;simp [q];apply r)
    obtain ⟨g2,c9,h8⟩:=bS h8
    obtain ⟨a6,a7,a8,a9⟩:=gS c9
    iterate 4 (refine wC rfl fun K r=>?_;simp [q,a6,a7,a8,a9];apply r)
    obtain ⟨g3,d0,h8⟩:=bS h8
    refine wL [(.take,.tmp 26),(.take,.tmp 27)] rfl rfl ent72 (tD _ _ d0) fun K r=>?_;simp [q,a6,a7,a8,a9];apply r
    refine wC rfl fun K r=>?_;simp [q,a6,a7,a8,a9];apply r
    apply wN;apply w
    refine O.seq ?_
    refine O.zR u fun K w=>?_
    iterate 2 (refine wC rfl fun K r=>?_;simp [q];apply r)
    apply wN;apply w
    rcases aA h8 with ⟨d1,h8⟩ | ⟨d2,h8⟩
    ·refine O.cT' (by simp) d1 ?_
     refine O.zR u fun K w=>?_
     refine wC rfl fun K r=>?_;simp [q];apply r
     apply wN;apply w
     have e6:=congrArg some (b0 _ (Option.some.inj h8).symm)
     cases e6
     try dsimp only at h
     cases h
     refine O.ret ?_
     simp [aC,iB,aIi]
    ·refine O.cF' (by simp) d2 ?_
     refine O.skip ?_
     refine O.seq ?_
     refine O.zR u fun K w=>?_
     iterate 2 (refine wC rfl fun K r=>?_;simp [q];apply r)
     obtain ⟨g4,d3,h8⟩:=bS h8
     obtain ⟨b1,b2,b3,b4⟩:=gS d3
     iterate 5 (refine wC rfl fun K r=>?_;simp [q,b1,b2,b3,b4];apply r)
     apply wN;apply w
     rcases aA h8 with ⟨d4,h8⟩ | ⟨d5,h8⟩
     ·refine O.cT' (by simp) d4 ?_
      refine O.zR u fun K w=>?_
      refine wC rfl fun K r=>?_;simp [q];apply r
      apply wN;apply w
      have e7:=congrArg some (b0 _ (Option.some.inj h8).symm)
      cases e7
      try dsimp only at h
      cases h
      refine O.ret ?_
      simp [aC,iB,aIi]
     ·refine O.cF' (by simp) d5 ?_
      refine O.skip ?_
      refine O.zR u fun K w=>?_
      iterate 3 (refine wC rfl fun K r=>?_;simp [q];apply r)
      apply wN;apply w
      refine O.seq ?_
      refine O.zR u fun K w=>?_
      iterate 2 (refine wC rfl fun K r=>?_;simp [q];apply r)
      obtain ⟨g5,d6,h8⟩:=bS h8
      obtain ⟨b5,b6,b7,b8⟩:=gS d6
      iterate 5 (refine wC rfl fun K r=>?_;simp [q,b5,b6,b7,b8];apply r)
      apply wN;apply w
      rcases aA h8 with ⟨d7,h8⟩ | ⟨d8,h8⟩
      ·refine O.cT' (by simp) d7 ?_
       refine O.zR u fun K w=>?_
       refine wC rfl fun K r=>?_;simp [q];apply r
       apply wN;apply w
       have e8:=congrArg some (b0 _ (Option.some.inj h8).symm)
       cases e8
       try dsimp only at h
       cases h
       refine O.ret ?_
       simp [aC,iB,aIi]
      ·refine O.cF' (by simp) d8 ?_
       refine O.skip ?_
       refine O.zR u fun K w=>?_
       iterate 3 (refine wC rfl fun K r=>?_;simp [q];apply r)
       apply wN;apply w
       refine O.seq ?_
       refine O.zR u fun K w=>?_
       iterate 2 (refine wC rfl fun K r=>?_;simp [q];apply r)
       obtain ⟨g6,d9,h8⟩:=bS h8
       obtain ⟨b9,c0,c1,c2⟩:=gS d9
       iterate 5 (refine wC rfl fun K r=>?_;simp [q,b9,c0,c1,c2];apply r)
       apply wN;apply w
       rcases aA h8 with ⟨e0,h8⟩ | ⟨e1,h8⟩
       ·refine O.cT' (by simp) e0 ?_
        refine O.zR u fun K w=>?_
        refine wC rfl fun K r=>?_;simp [q];apply r
        apply wN;apply w
        have e9:=congrArg some (b0 _ (Option.some.inj h8).symm)
        cases e9
        try dsimp only at h
        cases h
        refine O.ret ?_
        simp [aC,iB,aIi]
       ·refine O.cF' (by simp) e1 ?_
        refine O.skip ?_
        refine O.zG u fun K w=>?_
        iterate 3 (refine wC rfl fun K r=>?_;simp [q];apply r)
        apply wN;apply w
        refine O.zG u fun K w=>?_
        iterate 3 (refine wC rfl fun K r=>?_;simp [q];apply r)
        apply wN;apply w
        cases h8
        exact ⟨_,[],rfl,by simp [q]⟩
  ·refine O.cF' (by simp) c4 ?_
   refine O.exit ?_
   have g0:=congrArg some (b0 _ (Option.some.inj h8).symm)
   cases g0
   exact e3 _ _ [] rfl (by simp [q])
 subst hv
 obtain ⟨g7,hv⟩:∃ y,y=v:=⟨_,rfl⟩
 subst hv
 try dsimp only at h ⊢
 refine O.zR u fun K w=>?_
 iterate 2 (refine wC rfl fun K r=>?_;simp [q];apply r)
 apply wN;apply w
 cases h
 refine O.ret ?_
 simp [aC,iB,aIi]
theorem aOa:Tryz.f14.results.toList=[.tmp 4]:=rfl
theorem ent14:aF E.P 14:=eO Tryz.func14 (by simp [Tryz.f14]) rfl
theorem mD (a1:GProgram) (k2:Int) {r0:Int} (h:dS a1 k2=some r0):Ok E 14 [.val (GProgram.enc false a1),.val (vi k2)] [vi r0] []:=by
 refine oB Tryz.func14 rfl (by simp [Tryz.f14]) fun C (q:C.N=18) hP=>?_
 have y:=aL hP
 unfold dS at h
 refine O.zR y fun K u=>?_
 iterate 2 (refine wC rfl fun K v=>?_;simp [q];apply v)
 apply wN;apply u
 refine O.zR y fun K u=>?_
 iterate 3 (refine wC rfl fun K v=>?_;simp [q];apply v)
 obtain ⟨r3,a2,h⟩:=bS h
 refine wL [(.take,.tmp 6),(.take,.tmp 7)] rfl rfl ent35 (uU _ _ a2) fun K v=>?_;simp [q];apply v
 refine wC rfl fun K v=>?_;simp [q];apply v
 apply wN;apply u
 refine O.seq ?_
 refine O.zR y fun K u=>?_
 iterate 2 (refine wC rfl fun K v=>?_;simp [q];apply v)
 apply wN;apply u
 rcases aA h with ⟨a3,h⟩ | ⟨a4,h⟩
 ·refine O.cT' (by simp) a3 ?_
  refine O.zR y fun K u=>?_
  refine wC rfl fun K v=>?_;simp [q];apply v
  apply wN;apply u
  cases h
  refine O.ret ?_
  simp [aC,iB,aOa]
 ·refine O.cF' (by simp) a4 ?_
  refine O.skip ?_
  refine O.zR y fun K u=>?_
  iterate 3 (refine wC rfl fun K v=>?_;simp [q];apply v)
  obtain ⟨r7,a5,h⟩:=bS h
  refine wL [(.take,.tmp 12),(.take,.tmp 13)] rfl rfl ent36 (yZ _ _ a5) fun K v=>?_;simp [q];apply v
  refine wC rfl fun K v=>?_;simp [q];apply v
  apply wN;apply u
  refine O.seq ?_
  refine O.zR y fun K u=>?_
  iterate 2 (refine wC rfl fun K v=>?_;simp [q];apply v)
  apply wN;apply u
  rcases aA h with ⟨a6,h⟩ | ⟨a0,h⟩
  ·refine O.cT' (by simp) a6 ?_
   refine O.zR y fun K u=>?_
   refine wC rfl fun K v=>?_;simp [q];apply v
   apply wN;apply u
   cases h
   refine O.ret ?_
   simp [aC,iB,aOa]
  ·refine O.cF' (by simp) a0 ?_
   refine O.skip ?_
   refine O.zR y fun K u=>?_
   iterate 2 (refine wC rfl fun K v=>?_;simp [q];apply v)
   apply wN;apply u
   cases h
   refine O.ret ?_
   simp [aC,iB,aOa]
theorem aLi:Tryz.f4.results.toList=[.tmp 4]:=rfl
theorem oP (a6:GProgram) (a5:Int) {r0:Bool} (h:eE a6 a5=some r0):Ok E 4 [.val (GProgram.enc false a6),.val (vi a5)] [vb r0] []:=by
 refine oB Tryz.func4 rfl (by simp [Tryz.f4]) fun C (q:C.N=74) hP=>?_
 have y:=aL hP
 unfold eE at h
 refine O.zR y fun K u=>?_
 iterate 2 (refine wC rfl fun K w=>?_;simp [q];apply w)
 apply wN;apply u
 refine O.zR y fun K u=>?_
 refine wC rfl fun K w=>?_;simp [q];apply w
 apply wN;apply u
 refine O.zR y fun K u=>?_
 iterate 2 (refine wC rfl fun K w=>?_;simp [q];apply w)
 obtain ⟨r3,d9,h⟩:=bS h
 refine wL [(.take,.tmp 13),(.take,.tmp 14)] rfl rfl ent6 (uR _ _ d9) fun K w=>?_;simp [q];apply w
 refine wC rfl fun K w=>?_;simp [q];apply w
 apply wN;apply u
 refine O.seq ?_
 refine O.zR y fun K u=>?_
 iterate 2 (refine wC rfl fun K w=>?_;simp [q];apply w)
 apply wN;apply u
 rcases aA h with ⟨e0,h⟩ | ⟨e1,h⟩
 ·refine O.cT' (by simp) e0 ?_
  refine O.zR y fun K u=>?_
  refine wC rfl fun K w=>?_;simp [q];apply w
  apply wN;apply u
  cases h
  refine O.ret ?_
  simp [aC,iB,aLi]
 ·refine O.cF' (by simp) e1 ?_
  refine O.skip ?_
  refine O.zR y fun K u=>?_
  refine wC rfl fun K w=>?_;simp [q];apply w
  obtain ⟨r7,e2,h⟩:=bS h
  refine wL [(.take,.tmp 18)] rfl rfl ent8 (gB _ e2) fun K w=>?_;simp [q];apply w
  refine wC rfl fun K w=>?_;simp [q];apply w
  obtain ⟨r9,a8,h⟩:=bS h
  refine wL [(.bor,.tmp 19),(.take,.tmp 20)] rfl rfl ent11 (vW _ _ a8) fun K w=>?_;simp [q];apply w
  iterate 2 (refine wC rfl fun K w=>?_;simp [q];apply w)
  apply wN;apply u
  refine O.zR y fun K u=>?_
  refine wC rfl fun K w=>?_;simp [q];apply w
  obtain ⟨e5,a9,h⟩:=bS h
  refine wL [(.take,.tmp 22)] rfl rfl ent8 (gB _ a9) fun K w=>?_;simp [q];apply w
  iterate 2 (refine wC rfl fun K w=>?_;simp [q];apply w)
  apply wN;apply u
  refine O.zR y fun K u=>?_
  iterate 2 (refine wC rfl fun K w=>?_;simp [q];apply w)
  obtain ⟨d8,b0,h⟩:=bS h
  refine wL [(.bor,.tmp 24),(.take,.tmp 25)] rfl rfl ent12 (pF _ _ b0) fun K w=>?_;simp [q];apply w
  iterate 2 (refine wC rfl fun K w=>?_;simp [q];apply w)
  apply wN;apply u
  refine O.seq ?_
  refine O.zR y fun K u=>?_
  iterate 2 (refine wC rfl fun K w=>?_;simp [q];apply w)
  obtain ⟨e6,b1,h⟩:=bS h
  refine wL [(.bor,.tmp 27),(.bor,.tmp 28)] rfl rfl aMz (gD _ _ b1) fun K w=>?_;simp [q];apply w
  refine wC rfl fun K w=>?_;simp [q];apply w
  apply wN;apply u
  rcases aA h with ⟨b2,h⟩ | ⟨b3,h⟩
  ·refine O.cT' (by simp) b2 ?_
   refine O.zR y fun K u=>?_
   refine wC rfl fun K w=>?_;simp [q];apply w
   apply wN;apply u
   cases h
   refine O.ret ?_
   simp [aC,iB,aLi]
  ·refine O.cF' (by simp) b3 ?_
   refine O.skip ?_
   refine O.seq ?_
   refine O.seq ?_
   obtain ⟨e3,b4,h⟩:=bS h
   refine O.dT rfl (y _ rfl) [(31,.al (.box 7) 0 [] (some 2)),(32,.t (GProgram.enc false a6)),(33,.t (GProgram.enc true e3))] [[],[],[1],[0,1,2],[0,1,2,3]] (by simp) (by simp) (by simp [look]) rfl rfl rfl ?_ fun K u=>?_
   ·refine ⟨?_,?_,?_,trivial⟩
    all_goals (intro τ hbx hb hd hf K u;try simp [aJ] at hd;simp [aJ] at hf;first | (refine wC rfl fun K' v=>?_;simp [q,hbx,hb,hd,hf];exact v _ (wN (u _ (by simp [aJ,hbx])))) | (refine wL [(.take,.tmp 32)] rfl rfl ent8 (gB _ b4) fun K' v=>?_;simp [q,hbx,hb,hd,hf];exact v _ (wN (u _ (by simp [aJ,hbx])))))
   obtain ⟨e7,b5,h⟩:=bS h
   refine wL [(.bor,.tmp 31),(.bor,.tmp 33)] rfl rfl aMz (gD _ _ b5) fun K w=>?_;simp [q];apply w
   refine wC rfl fun K w=>?_;simp [q];apply w
   apply wN;apply u
   rcases aA h with ⟨b6,h⟩ | ⟨b7,h⟩
   ·refine O.cT' (by simp) b6 ?_
    refine O.zR y fun K u=>?_
    refine wC rfl fun K w=>?_;simp [q];apply w
    apply wN;apply u
    cases h
    refine O.ret ?_
    simp [aC,iB,aLi]
   ·refine O.cF' (by simp) b7 ?_
    refine O.skip ?_
    refine O.zR y fun K u=>?_
    refine wC rfl fun K w=>?_;simp [q];apply w
    apply wN;apply u
    refine O.zR y fun K u=>?_
    iterate 2 (refine wC rfl fun K w=>?_;simp [q];apply w)
    obtain ⟨⟨e8,e9⟩,b8,h⟩:=bS h
    try dsimp only at h
    refine lH rfl ent13 (mC _ _ b8) fun K w=>?_;simp [q];apply w
    refine wC rfl fun K w=>?_;simp [q];apply w
    apply wN;apply u
    refine O.seq ?_
    obtain ⟨e4,a1,h⟩:=bS h
    refine O.seqRC rfl (y _ rfl) [1,2,6,8,46] [2,6,8] (fun _:Unit=>⟨[(1,.t (vi a5)),(2,.ref (.box 2) 0 []),(6,.ref (.box 6) 0 []),(8,.ref (.box 8) 0 []),(46,.t (vb e4))],[(2,[.sl false 4 (List.map (GNode.enc false) a6.Nodes),.sl false 5 (List.map (GFn.enc false) a6.Fns)]),(6,[.sl true 4 (List.map (GNode.enc true) r9.Nodes),.sl true 5 (List.map (GFn.enc true) r9.Fns)]),(8,[.sl true 4 (List.map (GNode.enc true) d8.Nodes),.sl true 5 (List.map (GFn.enc true) d8.Fns)])]⟩) (fun _=>True) (fun _ _=>?_) fun g0 a7=>?_
    rotate_left
    ·refine wC rfl fun K w=>?_;simp [q];apply w
     iterate 2 (refine wC rfl fun K w=>?_;simp [q];apply w)
     rcases aA a1 with ⟨a4,a1⟩ | ⟨a3,a1⟩
     ·have a2:=a4
      try simp at a2
      iterate 4 (refine wO fun K w=>?_;simp [q,a4,a2];apply w)
      refine wC rfl fun K w=>?_;simp [q,a4,a2];apply w
      refine wN ?_
      cases a1
      exact a7 _ () [] trivial (by simp [q,a4,a2])
     ·have a0:=a3
      try simp at a0
      iterate 2 (refine wC rfl fun K w=>?_;simp [q,a3,a0];apply w)
      obtain ⟨g1,b9,a1⟩:=bS a1
      refine wL [(.bor,.tmp 42),(.bor,.tmp 43)] rfl rfl aMz (gD _ _ b9) fun K w=>?_;simp [q,a3,a0];apply w
      iterate 2 (refine wC rfl fun K w=>?_;simp [q,a3,a0];apply w)
      refine wN ?_
      cases a1
      exact a7 _ () [] trivial (by simp [q,a3,a0])
    rcases aA h with ⟨c0,h⟩ | ⟨c1,h⟩
    ·refine O.cT' (by simp) c0 ?_
     refine O.zR y fun K u=>?_
     refine wC rfl fun K w=>?_;simp [q];apply w
     apply wN;apply u
     cases h
     refine O.ret ?_
     simp [aC,iB,aLi]
    ·refine O.cF' (by simp) c1 ?_
     refine O.skip ?_
     refine O.zR y fun K u=>?_
     refine wC rfl fun K w=>?_;simp [q];apply w
     apply wN;apply u
     refine O.zR y fun K u=>?_
     iterate 2 (refine wC rfl fun K w=>?_;simp [q];apply w)
     obtain ⟨⟨g2,g3⟩,c2,h⟩:=bS h
     try dsimp only at h
     refine lH rfl ent13 (mC _ _ c2) fun K w=>?_;simp [q];apply w
     refine wC rfl fun K w=>?_;simp [q];apply w
     apply wN;apply u
     refine O.zR y fun K u=>?_
     refine wC rfl fun K w=>?_;simp [q];apply w
     apply wN;apply u
     refine O.zR y fun K u=>?_
     iterate 2 (refine wC rfl fun K w=>?_;simp [q];apply w)
     obtain ⟨g4,c3,h⟩:=bS h
     refine wL [(.bor,.tmp 50),(.take,.tmp 51)] rfl rfl ent14 (mD _ _ c3) fun K w=>?_;simp [q];apply w
     refine wC rfl fun K w=>?_;simp [q];apply w
     apply wN;apply u
     refine O.seq ?_
     refine O.zR y fun K u=>?_
     iterate 2 (refine wC rfl fun K w=>?_;simp [q];apply w)
     apply wN;apply u
     rcases aA h with ⟨c4,h⟩ | ⟨c5,h⟩
     ·refine O.cT' (by simp) c4 ?_
      refine O.zR y fun K u=>?_
      refine wC rfl fun K w=>?_;simp [q];apply w
      apply wN;apply u
      cases h
      refine O.ret ?_
      simp [aC,iB,aLi]
     ·refine O.cF' (by simp) c5 ?_
      refine O.skip ?_
      refine O.seq ?_
      refine O.zR y fun K u=>?_
      iterate 3 (refine wC rfl fun K w=>?_;simp [q];apply w)
      apply wN;apply u
      rcases aA h with ⟨c6,h⟩ | ⟨c7,h⟩
      ·refine O.cT' (by simp) c6 ?_
       refine O.zR y fun K u=>?_
       refine wC rfl fun K w=>?_;simp [q];apply w
       apply wN;apply u
       cases h
       refine O.ret ?_
       simp [aC,iB,aLi]
      ·refine O.cF' (by simp) c7 ?_
       refine O.skip ?_
       refine O.zR y fun K u=>?_
       refine wC rfl fun K w=>?_;simp [q];apply w
       obtain ⟨g5,c8,h⟩:=bS h
       refine wL [(.take,.tmp 58)] rfl rfl ent8 (gB _ c8) fun K w=>?_;simp [q];apply w
       refine wC rfl fun K w=>?_;simp [q];apply w
       obtain ⟨g6,c9,h⟩:=bS h
       refine wL [(.bor,.tmp 59),(.take,.tmp 60)] rfl rfl ent12 (pF _ _ c9) fun K w=>?_;simp [q];apply w
       iterate 2 (refine wC rfl fun K w=>?_;simp [q];apply w)
       apply wN;apply u
       refine O.seq ?_
       refine O.zR y fun K u=>?_
       iterate 2 (refine wC rfl fun K w=>?_;simp [q];apply w)
       obtain ⟨g7,d0,h⟩:=bS h
       refine wL [(.bor,.tmp 62),(.bor,.tmp 63)] rfl rfl aMz (gD _ _ d0) fun K w=>?_;simp [q];apply w
       refine wC rfl fun K w=>?_;simp [q];apply w
       apply wN;apply u
       rcases aA h with ⟨d1,h⟩ | ⟨d2,h⟩
       ·refine O.cT' (by simp) d1 ?_
        refine O.zR y fun K u=>?_
        refine wC rfl fun K w=>?_;simp [q];apply w
        apply wN;apply u
        cases h
        refine O.ret ?_
        simp [aC,iB,aLi]
       ·refine O.cF' (by simp) d2 ?_
        refine O.skip ?_
        refine O.zR y fun K u=>?_
        refine wC rfl fun K w=>?_;simp [q];apply w
        apply wN;apply u
        refine O.zR y fun K u=>?_
        iterate 2 (refine wC rfl fun K w=>?_;simp [q];apply w)
        obtain ⟨g8,d3,h⟩:=bS h
        refine wL [(.bor,.tmp 66),(.take,.tmp 67)] rfl rfl ent14 (mD _ _ d3) fun K w=>?_;simp [q];apply w
        refine wC rfl fun K w=>?_;simp [q];apply w
        apply wN;apply u
        refine O.seq ?_
        refine O.zR y fun K u=>?_
        iterate 2 (refine wC rfl fun K w=>?_;simp [q];apply w)
        apply wN;apply u
        rcases aA h with ⟨d4,h⟩ | ⟨d5,h⟩
        ·refine O.cT' (by simp) d4 ?_
         refine O.zR y fun K u=>?_
         refine wC rfl fun K w=>?_;simp [q];apply w
         apply wN;apply u
         cases h
         refine O.ret ?_
         simp [aC,iB,aLi]
        ·refine O.cF' (by simp) d5 ?_
         refine O.skip ?_
         refine O.seq ?_
         refine O.zR y fun K u=>?_
         iterate 3 (refine wC rfl fun K w=>?_;simp [q];apply w)
         apply wN;apply u
         rcases aA h with ⟨d6,h⟩ | ⟨d7,h⟩
         ·refine O.cT' (by simp) d6 ?_
          refine O.zR y fun K u=>?_
          refine wC rfl fun K w=>?_;simp [q];apply w
          apply wN;apply u
          cases h
          refine O.ret ?_
          simp [aC,iB,aLi]
         ·refine O.cF' (by simp) d7 ?_
          refine O.skip ?_
          refine O.zR y fun K u=>?_
          refine wC rfl fun K w=>?_;simp [q];apply w
          apply wN;apply u
          cases h
          refine O.ret ?_
          simp [aC,iB,aLi]
end Go.Proofs.T
namespace Go.OM
theorem w64 {n:Int} (h1 : -9223372036854775808 ≤ n) (h2:n ≤ 9223372036854775807):IntKind.wrap .i64 n=n:=wrap64 h1 h2
theorem fO {k n:Nat} (hk:k < n) (hn:n ≤ maxLen):IntKind.wrap .i64 ((k:Int) + 1)=((k + 1:Nat):Int):=by
 have hn':n ≤ 9223372036854775807:=hn
 rw [w64 (by omega) (by omega)];omega
@[simp] theorem aD6 {α:Type} (l:List α) (k:Nat):aK l (k:Int)=l[k]?:=by simp [aK]
theorem aD {α:Type} {l:List α} {k:Nat} (hk:k < l.length):aK l (k:Int)=some l[k]:=by simp [hk]
theorem aKr {α:Type} (l:List α):aK l 0=l[0]?:=by simp [aK]
theorem oK (x y : ByteArray) : sEq x y = decide (x = y) := by
  unfold sEq
  have hxy : x.toList = y.toList ↔ x = y := by
    constructor
    · intro h
      have hx : ∀ z : ByteArray, z.toList = z.data.toList := by
        intro z
        have loop : ∀ (n i : Nat) (r : List UInt8), z.size - i = n → ByteArray.toList.loop z i r = r.reverse ++ z.data.toList.drop i := by
          intro n
          induction n with
          | zero =>
            intro i r hn
            unfold ByteArray.toList.loop
            rw [if_neg (by omega), List.drop_eq_nil_of_le (by have : z.data.toList.length = z.size := Array.length_toList
                                                              omega)]
            simp
          | succ n ih =>
            intro i r hn
            unfold ByteArray.toList.loop
            rw [if_pos (by omega), ih (i + 1) _ (by omega)]
            have hlt : i < z.data.toList.length := by have : z.data.toList.length = z.size := Array.length_toList
                                                      omega
            rw [List.drop_eq_getElem_cons hlt]
            have hz : i < z.size := by omega
            simp [ByteArray.get!, Array.getElem!_eq_getD, Array.getD, hz]
        unfold ByteArray.toList
        rw [loop _ 0 [] rfl]; simp
      rw [hx, hx] at h
      cases x; cases y
      simp only [ByteArray.mk.injEq]
      exact Array.toList_inj.1 h
    · intro h; rw [h]
  by_cases h : x = y
  · simp [h]
  · have : ¬ (x.toList = y.toList) := fun e => h (hxy.1 e)
    simp [h, this]
theorem aB {k n:Nat} (h:k < n):decide ((k:Int) < (n:Int))=true:=by simpa using h
theorem aFp {α:Type} (ok:α→Prop) (a:List α) (f:Int × Int→Option ((Int × Int) ⊕ (Int ⊕ Int))) (B:Int)
  (hf:∀ (m:Int) (k:Nat) (h0:0 ≤ m) (h1:m ≤ B) (hk:k < a.length),∃ r,r ≤ m∧(0 ≤ r→ok a[k])∧f (m,k)=some (if r < 0 then .inr (.inr (-1)) else .inl (r,((k + 1:Nat):Int))))
  (he:∀ m,f (m,a.length)=some (.inr (.inl m))) (n:Int) (h0:0 ≤ n) (h1:n ≤ B) :
  ∃ j,aG f (n,0)=some j∧(j = .inr (-1) ∨ ∃ m,j = .inl m∧0 ≤ m∧m ≤ n∧∀ x ∈ a,ok x):=by
 refine cC (f:=f) (fun s:Int × Int=>∃ k:Nat,s.2=k∧k ≤ a.length∧0 ≤ s.1∧s.1 ≤ n∧∀ (j:Nat) (h:j < a.length),j < k→ok a[j]) (fun s=>a.length - s.2.toNat) _ ?_ (n,0) ⟨0,rfl,by omega,h0,by simp,fun j _ h=>by omega⟩
 rintro ⟨m,i⟩ ⟨k,hi,hk,h2,h3,h4⟩
 simp only at hi h2 h3
 subst hi
 by_cases hlt:k < a.length
 ·obtain ⟨r,r1,r2,r3⟩:=hf m k h2 (by omega) hlt
  rw [r3]
  by_cases hr:r < 0
  ·right
   rw [if_pos hr]
   exact ⟨_,rfl,.inl rfl⟩
  ·left
   rw [if_neg hr]
   refine ⟨_,rfl,⟨k + 1,rfl,by omega,by simp only;omega,by simp only;omega,fun j h hj=>?_⟩,?_⟩
   ·by_cases e:j=k
    ·subst e;exact r2 (by omega)
    ·exact h4 j h (by omega)
   ·simp only [Int.toNat_natCast];omega
 ·right
  have hke:k=a.length:=by omega
  subst hke
  rw [he]
  refine ⟨_,rfl,.inr ⟨m,rfl,h2,h3,fun x hx=>?_⟩⟩
  obtain ⟨j,hj,rfl⟩:=List.mem_iff_getElem.1 hx
  exact h4 j hj hj
theorem aC0 {α:Type} (a:List α) (z:α) (f:List α × Int→Option ((List α × Int) ⊕ List α))
  (hf:∀ (out:List α) (k:Nat) (hk:k < a.length),out.length=a.length→f (out,k)=some (.inl (out.set k a[k],((k + 1:Nat):Int))))
  (he:∀ out,f (out,a.length)=some (.inr out)):aG f (List.replicate a.length z,0)=some a:=by
 obtain ⟨r,h1,h2⟩:=cC (fun s:List α × Int=>∃ k:Nat,s.2=k∧k ≤ a.length∧s.1.length=a.length∧∀ j,j < k→s.1[j]? = a[j]?) (fun s=>a.length - s.2.toNat) (fun r=>r=a) (f:=f) (by
  rintro ⟨out,i⟩ ⟨k,hi,hk,h2,h3⟩
  simp only at hi h2 h3
  subst hi
  by_cases hlt:k < a.length
  ·left
   rw [hf out k hlt h2]
   refine ⟨_,rfl,⟨k + 1,rfl,by omega,by simpa using h2,fun j hj=>?_⟩,by simp only [Int.toNat_natCast];omega⟩
   simp only [List.getElem?_set]
   by_cases e:k=j
   ·subst e;simp [h2,hlt]
   ·rw [if_neg e];exact h3 j (by omega)
  ·right
   have hke:k=a.length:=by omega
   subst hke
   rw [he]
   refine ⟨_,rfl,?_⟩
   apply List.ext_getElem?
   intro j
   by_cases hj:j < a.length
   ·exact h3 j hj
   ·rw [List.getElem?_eq_none (by omega),List.getElem?_eq_none (by omega)]) (List.replicate a.length z,0) ⟨0,rfl,by omega,by simp,fun j h=>by omega⟩
 rw [h1,h2]
theorem aDc {α:Type} (a b:List α) (p:α→α→Bool) (hp:∀ x ∈ a,∀ y,y ∈ b→(p x y=true ↔ x=y)) (hlen:a.length=b.length) (f:Int→Option (Int ⊕ (Unit ⊕ Bool)))
  (hf:∀ (k:Nat) (hk:k < a.length) (hk2:k < b.length),f k=some (if p a[k] b[k]=true then .inl ((k + 1:Nat):Int) else .inr (.inr false)))
  (he:f a.length=some (.inr (.inl ()))):(a=b→aG f 0=some (.inl ()))∧(a ≠ b→aG f 0=some (.inr false)):=by
 obtain ⟨r,h1,h2⟩:=cC (fun i:Int=>∃ k:Nat,i=k∧k ≤ a.length∧∀ j,j < k→a[j]? = b[j]?) (fun i=>a.length - i.toNat) (fun r=>(r = .inl ()∧a=b) ∨ (r = .inr false∧a ≠ b)) (f:=f) (by
  rintro i ⟨k,rfl,hk,h3⟩
  by_cases hlt:k < a.length
  ·have hlt2:k < b.length:=by omega
   rw [hf k hlt hlt2]
   by_cases hpk:p a[k] b[k]=true
   ·left
    rw [if_pos hpk]
    refine ⟨_,rfl,⟨k + 1,rfl,by omega,fun j hj=>?_⟩,by simp only [Int.toNat_natCast];omega⟩
    by_cases e:j=k
    ·subst e
     rw [List.getElem?_eq_getElem hlt,List.getElem?_eq_getElem hlt2,(hp _ (List.getElem_mem hlt) _ (List.getElem_mem hlt2)).1 hpk]
    ·exact h3 j (by omega)
   ·right
    rw [if_neg hpk]
    refine ⟨_,rfl,.inr ⟨rfl,fun e=>hpk ?_⟩⟩
    subst e
    exact (hp _ (List.getElem_mem hlt) _ (List.getElem_mem hlt)).2 rfl
  ·right
   have hke:k=a.length:=by omega
   subst hke
   rw [he]
   refine ⟨_,rfl,.inl ⟨rfl,?_⟩⟩
   apply List.ext_getElem?
   intro j
   by_cases hj:j < a.length
   ·exact h3 j hj
   ·rw [List.getElem?_eq_none (by omega),List.getElem?_eq_none (by omega)]) 0 ⟨0,rfl,by omega,fun j h=>by omega⟩
 rcases h2 with ⟨e,hab⟩ | ⟨e,hab⟩
 ·exact ⟨fun _=>by rw [h1,e],fun h=>absurd hab h⟩
 ·exact ⟨fun h=>absurd h hab,fun _=>by rw [h1,e]⟩
theorem rX {α:Type} (b:Int) (n:Nat) (z:α) (h1:b * n ≤ 140737488355328) (h2:(n:Int) ≤ 140737488355328):mkI b (n:Int) z=some (List.replicate n z):=by
 unfold mkI
 rw [if_pos ⟨by omega,h1,h2⟩]
 simp
theorem bO {α β:Type} (x:α) (f:α→β):jJ x f=f x:=rfl
end Go.OM
namespace Go.OM
theorem gT {α ρ:Type} {f:α→Option (α ⊕ ρ)} {a:α} {r:ρ} (h:f a=some (.inr r)):aG f a=some r:=by rw [aCi,h];rfl
theorem nR {α ρ:Type} {f:α→Option (α ⊕ ρ)} {a b:α} (h:f a=some (.inl b)):aG f a=aG f b:=by rw [aCi,h];rfl
theorem uN {α ρ:Type} (l:List α) (q:α→Option ρ) (f:Int→Option (Int ⊕ (Unit ⊕ ρ)))
  (hf:∀ (k:Nat) (h:k < l.length),f k=some (match q l[k] with | none=>.inl ((k + 1:Nat):Int) | some r=>.inr (.inr r)))
  (he:f l.length=some (.inr (.inl ()))):aG f 0=some (match l.findSome? q with | some r=>.inr r | none=>.inl ()):=by
 have key:∀ (n k:Nat),n=l.length - k→k ≤ l.length→aG f k=some (match (l.drop k).findSome? q with | some r=>.inr r | none=>.inl ()):=by
  intro n
  induction n with
  | zero =>
   intro k hn hk
   have:k=l.length:=by omega
   subst this
   rw [gT he,List.drop_length];rfl
  | succ n ih =>
   intro k hn hk
   have hlt:k < l.length:=by omega
   rw [List.drop_eq_getElem_cons hlt,List.findSome?_cons]
   cases hq:q l[k] with
   | none =>
    have h1:=hf k hlt
    rw [hq] at h1
    rw [nR h1]
    exact ih (k + 1) (by omega) (by omega)
   | some r =>
    have h1:=hf k hlt
    rw [hq] at h1
    rw [gT h1]
 have:=key l.length 0 (by omega) (by omega)
 simpa using this
theorem aMu {α:Type} (l:List α) (p:α→Bool) (b:Bool):l.findSome? (fun x=>if p x=true then none else some b)=if l.all p=true then none else some b:=by
 induction l with
 | nil=>rfl
 | cons x l ih =>
  rw [List.findSome?_cons,List.all_cons]
  cases hp:p x<;>simp [ih]
theorem aMt {α:Type} (l:List α) (p:α→Bool) (b:Bool):l.findSome? (fun x=>if p x=true then some b else none)=if l.any p=true then some b else none:=by
 induction l with
 | nil=>rfl
 | cons x l ih =>
  rw [List.findSome?_cons,List.any_cons]
  cases hp:p x<;>simp [ih]
theorem pW {α:Type} (l:List α) (p:α→Bool) (f:Int→Option (Int ⊕ (Unit ⊕ Bool)))
  (hf:∀ (k:Nat) (h:k < l.length),f k=some (if p l[k]=true then .inl ((k + 1:Nat):Int) else .inr (.inr false)))
  (he:f l.length=some (.inr (.inl ()))):aG f 0=some (if l.all p=true then .inl () else .inr false):=by
 rw [uN l (fun x=>if p x=true then none else some false) f (fun k h=>by rw [hf k h];cases p l[k]<;>rfl) he,aMu]
 cases l.all p<;>rfl
theorem sY {α:Type} (l:List α) (p:α→Bool) (f:Int→Option (Int ⊕ (Unit ⊕ Bool)))
  (hf:∀ (k:Nat) (h:k < l.length),f k=some (if p l[k]=true then .inr (.inr true) else .inl ((k + 1:Nat):Int)))
  (he:f l.length=some (.inr (.inl ()))):aG f 0=some (if l.any p=true then .inr true else .inl ()):=by
 rw [uN l (fun x=>if p x=true then some true else none) f (fun k h=>by rw [hf k h];cases p l[k]<;>rfl) he,aMt]
 cases l.any p<;>rfl
def aB4 {α σ ρ:Type} (g:σ→α→σ ⊕ ρ) (fin:σ→ρ):List α→σ→ρ
 | [],s=>fin s
 | x :: l,s=>match g s x with
  | .inl s'=>aB4 g fin l s'
  | .inr r=>r
theorem bB {α σ τ ρ:Type} (l:List α) (mk:σ→Nat→τ) (I:Nat→σ→Prop) (g:σ→α→σ ⊕ ρ) (fin:σ→ρ) (f:τ→Option (τ ⊕ ρ))
  (hf:∀ (s:σ) (k:Nat) (h:k < l.length),I k s→(∃ s',g s l[k] = .inl s'∧f (mk s k)=some (.inl (mk s' (k + 1)))∧I (k + 1) s') ∨ ∃ r,g s l[k] = .inr r∧f (mk s k)=some (.inr r))
  (he:∀ s,I l.length s→f (mk s l.length)=some (.inr (fin s))) (s:σ) (h0:I 0 s):aG f (mk s 0)=some (aB4 g fin l s):=by
 have key:∀ (n k:Nat) (s:σ),n=l.length - k→k ≤ l.length→I k s→aG f (mk s k)=some (aB4 g fin (l.drop k) s):=by
  intro n
  induction n with
  | zero =>
   intro k s hn hk hI
   have:k=l.length:=by omega
   subst this
   rw [gT (he s hI),List.drop_length];rfl
  | succ n ih =>
   intro k s hn hk hI
   have hlt:k < l.length:=by omega
   rw [List.drop_eq_getElem_cons hlt]
   rcases hf s k hlt hI with ⟨s',h1,h2,h3⟩ | ⟨r,h1,h2⟩
   ·rw [nR h2,ih (k + 1) s' (by omega) (by omega) h3]
    simp only [aB4,h1]
   ·rw [gT h2]
    simp only [aB4,h1]
 have:=key l.length 0 s (by omega) (by omega) h0
 simpa using this
theorem sX {α:Type} (ok:α→Prop) (M:α→Int→Int→Prop) (W:Nat) (B:Int) (f:List α × Int × Int→Option ((List α × Int × Int) ⊕ (List α × Int)))
  (hf:∀ (out:List α) (k:Int) (i:Nat) (hi:i < out.length),out.length ≤ 1048576→0 ≤ k→k + W ≤ B→ok out[i]→∃ k' x',k ≤ k'∧k' ≤ k + W∧M x' k k'∧f (out,k,i)=some (.inl (out.set i x',k',((i + 1:Nat):Int))))
  (he:∀ out k,f (out,k,(out.length:Int))=some (.inr (out,k)))
  (a:List α) (ha:a.length ≤ 1048576) (hok:∀ x ∈ a,ok x) (k:Int) (h0:0 ≤ k) (h1:k + W * 1048576 ≤ B) :
  ∃ k' a',aG f (a,k,0)=some (a',k')∧k ≤ k'∧k' ≤ k + W * 1048576∧a'.length=a.length∧∃ ks:Nat→Int,ks 0=k∧ks a.length=k'∧∀ (j:Nat) (hj:j < a'.length),M a'[j] (ks j) (ks (j + 1))∧0 ≤ ks j∧ks j ≤ ks (j + 1)∧ks j ≤ B:=by
 have hWm:∀ j:Nat,j ≤ a.length→(W:Int) * j ≤ W * 1048576:=fun j hj=>Int.mul_le_mul_of_nonneg_left (by omega) (by omega)
 have hWs:∀ j:Nat,j < a.length→(W:Int) * j + W ≤ W * 1048576:=fun j hj=>by
  have:(W:Int) * j + W=W * ((j + 1:Nat):Int):=by rw [Int.natCast_succ,Int.mul_add,Int.mul_one]
  rw [this]
  exact Int.mul_le_mul_of_nonneg_left (by omega) (by omega)
 obtain ⟨r,g1,g2⟩:=cC (f:=f) (fun s:List α × Int × Int=>∃ j:Nat,s.2.2=j∧j ≤ a.length∧s.1.length=a.length∧(∀ l,j ≤ l→s.1[l]? = a[l]?)∧k ≤ s.2.1∧s.2.1 ≤ k + W * j∧∃ ks:Nat→Int,ks 0=k∧ks j=s.2.1∧∀ (l:Nat),l < j→∃ x,s.1[l]? = some x∧M x (ks l) (ks (l + 1))∧0 ≤ ks l∧ks l ≤ ks (l + 1)∧ks l ≤ B) (fun s=>a.length - s.2.2.toNat)
  (fun r=>k ≤ r.2∧r.2 ≤ k + W * 1048576∧r.1.length=a.length∧∃ ks:Nat→Int,ks 0=k∧ks a.length=r.2∧∀ (j:Nat) (hj:j < r.1.length),M r.1[j] (ks j) (ks (j + 1))∧0 ≤ ks j∧ks j ≤ ks (j + 1)∧ks j ≤ B) (by
  rintro ⟨out,m,i⟩ ⟨j,hi,hj,hl,hsame,hm1,hm2,ks,e0,e1,e2⟩
  simp only at hi hl hsame hm1 hm2 e1 e2
  subst hi
  have hWj:=hWm j hj
  by_cases hlt:j < a.length
  ·left
   have hlt2:j < out.length:=by omega
   have hWsj:=hWs j hlt
   have hoj:out[j]=a[j]:=by
    have:=hsame j (Nat.le_refl _)
    rw [List.getElem?_eq_getElem hlt2,List.getElem?_eq_getElem hlt] at this
    exact Option.some.inj this
   obtain ⟨k',x',q1,q2,q3,q4⟩:=hf out m j hlt2 (by omega) (by omega) (by omega) (hoj ▸ hok _ (List.getElem_mem hlt))
   refine ⟨(out.set j x',k',((j + 1:Nat):Int)),q4,⟨j + 1,rfl,by omega,by simpa using hl,fun l hl'=>?_,by simp only;omega,?_,fun l=>if l ≤ j then ks l else k',by simp [e0],by simp only [show ¬ (j + 1 ≤ j) by omega,if_false],fun l hl'=>?_⟩,by simp only [Int.toNat_natCast];omega⟩
   ·simp only
    rw [List.getElem?_set_ne (by omega)]
    exact hsame l (by omega)
   ·simp only
    have:(W:Int) * ((j + 1:Nat):Int)=W * j + W:=by rw [Int.natCast_succ,Int.mul_add,Int.mul_one]
    omega
   ·by_cases hlj:l=j
    ·subst hlj
     refine ⟨x',by simp [hlt2],?_⟩
     simp only [Nat.le_refl,if_true,show ¬ (l + 1 ≤ l) by omega,if_false,e1]
     exact ⟨q3,by omega,q1,by omega⟩
    ·obtain ⟨x,p1,p2⟩:=e2 l (by omega)
     refine ⟨x,by rw [List.getElem?_set_ne (by omega)];exact p1,?_⟩
     simp only [show l ≤ j by omega,show l + 1 ≤ j by omega,if_true]
     exact p2
  ·right
   have hja:j=a.length:=by omega
   subst hja
   refine ⟨(out,m),by rw [← hl];exact he out m,hm1,by simp only;omega,hl,ks,e0,e1,fun j hj=>?_⟩
   obtain ⟨x,p1,p2⟩:=e2 j (by simp only at hj;omega)
   simp only at hj
   rw [List.getElem?_eq_getElem hj] at p1
   injection p1 with p1
   subst p1
   exact p2) (a,k,0) ⟨0,rfl,by omega,rfl,fun _ _=>rfl,by simp,by simp,fun _=>k,rfl,rfl,fun l h=>by omega⟩
 obtain ⟨a',k'⟩:=r
 exact ⟨k',a',g1,g2⟩
theorem tM {α:Type} (a:List α) (M:α→Int→Int→Prop) (B:Int) (ks:Nat→Int) (g:Int × Int→Option ((Int × Int) ⊕ (Int ⊕ Int)))
  (hk:∀ (j:Nat) (hj:j < a.length),M a[j] (ks j) (ks (j + 1))∧0 ≤ ks j∧ks j ≤ ks (j + 1)∧ks j ≤ B)
  (hg:∀ (j:Nat) (hj:j < a.length) (k k':Int),M a[j] k k'→0 ≤ k→k ≤ k'→k ≤ B→g (k,j)=some (.inl (k',((j + 1:Nat):Int))))
  (he:∀ k,g (k,(a.length:Int))=some (.inr (.inl k))):aG g (ks 0,0)=some (.inl (ks a.length)):=by
 have key:∀ (n k:Nat),n=a.length - k→k ≤ a.length→aG g (ks k,(k:Int))=some (.inl (ks a.length)):=by
  intro n
  induction n with
  | zero =>
   intro k hn hk'
   have:k=a.length:=by omega
   subst this
   exact gT (he _)
  | succ n ih =>
   intro k hn hk'
   have hlt:k < a.length:=by omega
   obtain ⟨q1,q2,q3,q4⟩:=hk k hlt
   rw [nR (hg k hlt _ _ q1 q2 q3 q4)]
   exact ih (k + 1) (by omega) (by omega)
 exact key a.length 0 (by omega) (by omega)
theorem xC {α:Type} {l:List α} {k:Nat} {x:α} (hk:k < l.length):aK (l.set k x) (k:Int)=some x:=by simp [hk]
theorem aH4 {x y:ByteArray} (h:x.size + y.size ≤ 9223372036854775807):aFs x y=some (x ++ y):=by unfold aFs;rw [if_pos h]
theorem aDe (l:List Int):(gL l).size=l.length:=by simp [gL,ByteArray.size]
theorem aJj (f:Int × ByteArray→Option ((Int × ByteArray) ⊕ ByteArray))
  (hf:∀ (k:Int) (o:ByteArray),0 < k→∃ x:Int,f (k,o)=(aFs (gL [x]) o).bind fun t=>some (.inl (IntKind.wrap .i64 (Int.tdiv k 10),t)))
  (he:∀ (k:Int) (o:ByteArray),k ≤ 0→f (k,o)=some (.inr o)) (k:Int) (h0:0 ≤ k) (h1:k ≤ 9223372036854775807) :
  ∃ z,aG f (k,⟨#[]⟩)=some z∧z.size ≤ 64:=by
 obtain ⟨r,g1,g2⟩:=cC (f:=f) (fun s:Int × ByteArray=>0 ≤ s.1∧∃ d:Nat,d ≤ 64∧s.1 < 2 ^ d∧s.2.size + d ≤ 64) (fun s=>s.1.toNat) (fun z=>z.size ≤ 64) (by
  rintro ⟨k,o⟩ ⟨g0,d,gd,g1,g2⟩
  simp only at g0 g1 g2
  by_cases hk:0 < k
  ·left
   obtain ⟨x,hx⟩:=hf k o hk
   have hd:d ≠ 0:=by rintro rfl;simp at g1;omega
   have hs:(gL [x]).size=1:=by rw [aDe];rfl
   have hdiv:Int.tdiv k 10=k / 10:=Int.tdiv_eq_ediv_of_nonneg g0
   have hkb:k ≤ 9223372036854775807 ∨ 9223372036854775807 < k:=by omega
   have hw:IntKind.wrap .i64 (Int.tdiv k 10)=k / 10:=by
    rw [hdiv]
    have h64:(2:Int) ^ d ≤ 2 ^ 64:=by
     have:=Nat.pow_le_pow_right (show 0 < 2 by omega) gd
     exact_mod_cast this
    exact w64 (by omega) (by simp at h64;omega)
   refine ⟨(k / 10,gL [x] ++ o),?_,⟨by simp only;omega,d - 1,by omega,?_,?_⟩,by simp only;omega⟩
   ·rw [hx,aH4 (by omega),Option.bind_some,hw]
   ·simp only
    have e:(2:Int) ^ d=2 ^ (d - 1) * 2:=by rw [← Int.pow_succ];congr 1;omega
    omega
   ·simp only [ByteArray.size_append,hs];omega
  ·right
   exact ⟨o,he k o (by omega),by omega⟩) (k,⟨#[]⟩) ⟨h0,64,Nat.le_refl _,by simp;omega,by show 0 + 64 ≤ 64;omega⟩
 exact ⟨r,g1,g2⟩
end Go.OM
set_option maxHeartbeats 1000000
namespace Go.OM
def GNode.le (n:Nat) (a:GNode):Prop:=(a.Name.size ≤ n)∧(a.Kids.length ≤ n)
theorem GNode.ext' (a b:GNode):a=b ↔ a.Kind=b.Kind∧a.Num=b.Num∧a.Name=b.Name∧a.Kids=b.Kids:=by cases a;cases b;simp
def GParam.le (n:Nat) (a:GParam):Prop:=(a.Name.size ≤ n)
theorem GParam.ext' (a b:GParam):a=b ↔ a.Name=b.Name∧a.Typ=b.Typ:=by cases a;cases b;simp
def GFn.le (n:Nat) (a:GFn):Prop:=(a.Name.size ≤ n)∧(a.Params.length ≤ n∧∀ x ∈ a.Params,GParam.le n x)
theorem GFn.ext' (a b:GFn):a=b ↔ a.Name=b.Name∧a.Params=b.Params∧a.Res=b.Res∧a.Body=b.Body∧a.Ret=b.Ret:=by cases a;cases b;simp
def GProgram.le (n:Nat) (a:GProgram):Prop:=(a.Nodes.length ≤ n∧∀ x ∈ a.Nodes,GNode.le n x)∧(a.Fns.length ≤ n∧∀ x ∈ a.Fns,GFn.le n x)
theorem GProgram.ext' (a b:GProgram):a=b ↔ a.Nodes=b.Nodes∧a.Fns=b.Fns:=by cases a;cases b;simp
def GVar.le (n:Nat) (a:GVar):Prop:=(a.Name.size ≤ n)
theorem GVar.ext' (a b:GVar):a=b ↔ a.Name=b.Name∧a.Typ=b.Typ∧a.Node=b.Node:=by cases a;cases b;simp
def Gl07Seen.le (n:Nat) (a:Gl07Seen):Prop:=(GProgram.le n a.p)∧(a.there.length ≤ n∧∀ x ∈ a.there,x.size ≤ n)
theorem Gl07Seen.ext' (a b:Gl07Seen):a=b ↔ a.p=b.p∧a.fn=b.fn∧a.there=b.there∧a.bad=b.bad:=by cases a;cases b;simp
theorem aCn (a:List Int) (hw:a.length ≤ maxLen) (n:Int) (h0:0 ≤ n) (h1:n ≤ 1048576):∃ r,mA a n=some r∧r ≤ n∧(0 ≤ r→a.length ≤ 1048576):=by
 have hw':a.length ≤ 9223372036854775807:=hw
 unfold mA
 rw [w64 (by omega) (by omega)]
 split
 ·exact ⟨_,rfl,by omega,fun h=>by omega⟩
 ·rename_i h;simp only [decide_eq_true_eq] at h;exact ⟨_,rfl,by omega,fun h=>by omega⟩
theorem aCk (a:List Int) (h:a.length ≤ 1048576):lY a=some a:=by
 have hl:a.length ≤ 1048576:=h
 unfold lY
 rw [rX _ _ _ (by omega) (by omega)]
 simp only [Option.bind_some]
 rw [aC0 a _ (fF a) (fun out k hk ho=>?_) (fun out=>by simp [fF])]
 ·rfl
 ·simp only [fF,aB hk,if_true,aD hk,Option.bind_some,aD (show k < out.length by omega),bO,Int.toNat_natCast,fO hk (show a.length ≤ maxLen by show _ ≤ 9223372036854775807;omega)]
theorem aCq (a b:List Int) (ha:a.length ≤ 1048576) (hb:b.length ≤ 1048576):mF a b=some (decide (a=b)):=by
 have hl:a.length ≤ 1048576:=ha
 unfold mF
 by_cases hlen:a.length=b.length
 ·have hlen':((a.length:Int) != (b.length:Int))=false:=by simp [hlen]
  simp only [hlen',Bool.false_eq_true,if_false]
  have key:=aDc a b (fun x y=>!(x != y)) (fun x _ y _=>by simp) hlen (fG a b) (fun k hk hk2=>?_) (by simp [fG])
  ·by_cases e:a=b
   ·rw [key.1 e];simp [e]
   ·rw [key.2 e];simp [e]
  simp only [fG,aB hk,if_true,aD hk,aD hk2,Option.bind_some,fO hk (show a.length ≤ maxLen by show _ ≤ 9223372036854775807;omega)]
  try (by_cases e:a[k]=b[k]<;>simp [e])
 ·have hlen':((a.length:Int) != (b.length:Int))=true:=by simp;omega
  have hne:a ≠ b:=fun e=>hlen (by rw [e])
  simp [hlen',hne]
theorem aCm (a:GNode) (hw:GNode.le maxLen a) (n:Int) (h0:0 ≤ n) (h1:n ≤ 1048576):∃ r,lZ a n=some r∧r ≤ n∧(0 ≤ r→GNode.le 1048576 a):=by
 obtain ⟨hw0,hw1⟩:=hw
 unfold lZ
 have hs0:a.Name.size ≤ 9223372036854775807:=hw0
 simp only [w64 (n:=n - (a.Name.size:Int)) (by omega) (by omega)]
 by_cases hn0:(n - (a.Name.size:Int)) < 0
 ·simp only [hn0,decide_true,if_true];exact ⟨_,rfl,by omega,fun h=>by omega⟩
 simp only [hn0,decide_false,Bool.false_eq_true,if_false]
 obtain ⟨r1,q1a,q1b,q1c⟩:=aCn a.Kids hw1 (n - (a.Name.size:Int)) (by omega) (by omega)
 simp only [q1a,Option.bind_some]
 by_cases hn1:r1 < 0
 ·simp only [hn1,decide_true,if_true];exact ⟨_,rfl,by omega,fun h=>by omega⟩
 simp only [hn1,decide_false,Bool.false_eq_true,if_false]
 exact ⟨_,rfl,by omega,fun _=>⟨by omega,q1c (by omega)⟩⟩
theorem aCj (a:GNode) (h:GNode.le 1048576 a):lX a=some a:=by
 obtain ⟨h0,h1⟩:=h
 unfold lX
 simp only [aCk a.Kids h1,Option.bind_some]
theorem aCp (a b:GNode) (ha:GNode.le 1048576 a) (hb:GNode.le 1048576 b):mE a b=some (decide (a=b)):=by
 obtain ⟨ha0,ha1⟩:=ha
 obtain ⟨hb0,hb1⟩:=hb
 unfold mE
 try simp only [oK,Option.bind_some,aCq a.Kids b.Kids ha1 hb1]
 rw [show decide (a=b)=decide (a.Kind=b.Kind∧a.Num=b.Num∧a.Name=b.Name∧a.Kids=b.Kids) from by simp only [GNode.ext' a b]]
 by_cases e0:a.Kind=b.Kind<;>by_cases e1:a.Num=b.Num<;>by_cases e2:a.Name=b.Name<;>by_cases e3:a.Kids=b.Kids<;>simp [e0,e1,e2,e3]
theorem aAo (a:List GNode) (hw:a.length ≤ maxLen∧∀ x ∈ a,GNode.le maxLen x) (n:Int) (h0:0 ≤ n) (h1:n ≤ 1048576):∃ r,kK a n=some r∧r ≤ n∧(0 ≤ r→a.length ≤ 1048576∧∀ x ∈ a,GNode.le 1048576 x):=by
 have hw':a.length ≤ 9223372036854775807:=hw.1
 unfold kK
 rw [w64 (by omega) (by omega)]
 split
 ·exact ⟨_,rfl,by omega,fun h=>by omega⟩
 ·rename_i h
  simp only [decide_eq_true_eq] at h
  have hf:∀ (m:Int) (k:Nat) (g0:0 ≤ m) (g1:m ≤ 1048576) (hk:k < a.length),∃ r,r ≤ m∧(0 ≤ r→(fun x:GNode=>GNode.le 1048576 x) a[k])∧dE a (m,k)=some (if r < 0 then .inr (.inr (-1)) else .inl (r,((k + 1:Nat):Int))):=by
   intro m k g0 g1 hk
   obtain ⟨r,r1,r2,r3⟩:=aCm a[k] (hw.2 _ (List.getElem_mem hk)) m g0 g1
   refine ⟨r,r2,r3,?_⟩
   simp only [dE,aB hk,if_true,aD hk,Option.bind_some,r1,fO hk hw.1]
   by_cases hr:r < 0<;>simp [hr]
  obtain ⟨j,hj,hj2⟩:=aFp _ a (dE a) 1048576 hf (fun m=>by simp [dE]) (n - a.length) (by omega) (by omega)
  rcases hj2 with rfl | ⟨m,rfl,q1,q2,q3⟩
  ·exact ⟨-1,by rw [hj];rfl,by omega,fun h=>by omega⟩
  ·exact ⟨m,by rw [hj];rfl,by omega,fun _=>⟨by omega,q3⟩⟩
theorem aAk (a:List GNode) (h:a.length ≤ 1048576∧∀ x ∈ a,GNode.le 1048576 x):kI a=some a:=by
 have hl:a.length ≤ 1048576:=h.1
 unfold kI
 rw [rX _ _ _ (by omega) (by omega)]
 simp only [Option.bind_some]
 rw [aC0 a _ (eL a) (fun out k hk ho=>?_) (fun out=>by simp [eL])]
 ·rfl
 ·simp only [eL,aB hk,if_true,aD hk,Option.bind_some,aCj a[k] (h.2 _ (List.getElem_mem hk)),aD (show k < out.length by omega),bO,Int.toNat_natCast,fO hk (show a.length ≤ maxLen by show _ ≤ 9223372036854775807;omega)]
theorem aAt (a b:List GNode) (ha:a.length ≤ 1048576∧∀ x ∈ a,GNode.le 1048576 x) (hb:b.length ≤ 1048576∧∀ x ∈ b,GNode.le 1048576 x):kO a b=some (decide (a=b)):=by
 have hl:a.length ≤ 1048576:=ha.1
 unfold kO
 by_cases hlen:a.length=b.length
 ·have hlen':((a.length:Int) != (b.length:Int))=false:=by simp [hlen]
  simp only [hlen',Bool.false_eq_true,if_false]
  have key:=aDc a b (fun x y=>decide (x=y)) (fun x _ y _=>by simp) hlen (eM a b) (fun k hk hk2=>?_) (by simp [eM])
  ·by_cases e:a=b
   ·rw [key.1 e];simp [e]
   ·rw [key.2 e];simp [e]
  simp only [eM,aB hk,if_true,aD hk,aD hk2,Option.bind_some,aCp a[k] b[k] (ha.2 _ (List.getElem_mem hk)) (hb.2 _ (List.getElem_mem hk2)),fO hk (show a.length ≤ maxLen by show _ ≤ 9223372036854775807;omega)]
  try (by_cases e:a[k]=b[k]<;>simp [e])
 ·have hlen':((a.length:Int) != (b.length:Int))=true:=by simp;omega
  have hne:a ≠ b:=fun e=>hlen (by rw [e])
  simp [hlen',hne]
theorem aAm (a:GParam) (hw:GParam.le maxLen a) (n:Int) (h0:0 ≤ n) (h1:n ≤ 1048576):∃ r,kJ a n=some r∧r ≤ n∧(0 ≤ r→GParam.le 1048576 a):=by
 have hw0:=hw;unfold GParam.le at hw0
 unfold kJ
 have hs0:a.Name.size ≤ 9223372036854775807:=hw0
 simp only [w64 (n:=n - (a.Name.size:Int)) (by omega) (by omega)]
 by_cases hn0:(n - (a.Name.size:Int)) < 0
 ·simp only [hn0,decide_true,if_true];exact ⟨_,rfl,by omega,fun h=>by omega⟩
 simp only [hn0,decide_false,Bool.false_eq_true,if_false]
 exact ⟨_,rfl,by omega,fun _=>(by unfold GParam.le;first | omega | exact trivial)⟩
theorem aAi (a:GParam) (h:GParam.le 1048576 a):kH a=some a:=by
 have h0:=h;unfold GParam.le at h0
 unfold kH
 rfl
theorem aAr (a b:GParam) (ha:GParam.le 1048576 a) (hb:GParam.le 1048576 b):kN a b=some (decide (a=b)):=by
 have ha0:=ha;have hb0:=hb;unfold GParam.le at ha0 hb0
 unfold kN
 try simp only [oK,Option.bind_some]
 rw [show decide (a=b)=decide (a.Name=b.Name∧a.Typ=b.Typ) from by simp only [GParam.ext' a b]]
 by_cases e0:a.Name=b.Name<;>by_cases e1:a.Typ=b.Typ<;>simp [e0,e1]
theorem yV (a:List GParam) (hw:a.length ≤ maxLen∧∀ x ∈ a,GParam.le maxLen x) (n:Int) (h0:0 ≤ n) (h1:n ≤ 1048576):∃ r,iY a n=some r∧r ≤ n∧(0 ≤ r→a.length ≤ 1048576∧∀ x ∈ a,GParam.le 1048576 x):=by
 have hw':a.length ≤ 9223372036854775807:=hw.1
 unfold iY
 rw [w64 (by omega) (by omega)]
 split
 ·exact ⟨_,rfl,by omega,fun h=>by omega⟩
 ·rename_i h
  simp only [decide_eq_true_eq] at h
  have hf:∀ (m:Int) (k:Nat) (g0:0 ≤ m) (g1:m ≤ 1048576) (hk:k < a.length),∃ r,r ≤ m∧(0 ≤ r→(fun x:GParam=>GParam.le 1048576 x) a[k])∧cJ a (m,k)=some (if r < 0 then .inr (.inr (-1)) else .inl (r,((k + 1:Nat):Int))):=by
   intro m k g0 g1 hk
   obtain ⟨r,r1,r2,r3⟩:=aAm a[k] (hw.2 _ (List.getElem_mem hk)) m g0 g1
   refine ⟨r,r2,r3,?_⟩
   simp only [cJ,aB hk,if_true,aD hk,Option.bind_some,r1,fO hk hw.1]
   by_cases hr:r < 0<;>simp [hr]
  obtain ⟨j,hj,hj2⟩:=aFp _ a (cJ a) 1048576 hf (fun m=>by simp [cJ]) (n - a.length) (by omega) (by omega)
  rcases hj2 with rfl | ⟨m,rfl,q1,q2,q3⟩
  ·exact ⟨-1,by rw [hj];rfl,by omega,fun h=>by omega⟩
  ·exact ⟨m,by rw [hj];rfl,by omega,fun _=>⟨by omega,q3⟩⟩
theorem yS (a:List GParam) (h:a.length ≤ 1048576∧∀ x ∈ a,GParam.le 1048576 x):iX a=some a:=by
 have hl:a.length ≤ 1048576:=h.1
 unfold iX
 rw [rX _ _ _ (by omega) (by omega)]
 simp only [Option.bind_some]
 rw [aC0 a _ (dO a) (fun out k hk ho=>?_) (fun out=>by simp [dO])]
 ·rfl
 ·simp only [dO,aB hk,if_true,aD hk,Option.bind_some,aAi a[k] (h.2 _ (List.getElem_mem hk)),aD (show k < out.length by omega),bO,Int.toNat_natCast,fO hk (show a.length ≤ maxLen by show _ ≤ 9223372036854775807;omega)]
theorem zC (a b:List GParam) (ha:a.length ≤ 1048576∧∀ x ∈ a,GParam.le 1048576 x) (hb:b.length ≤ 1048576∧∀ x ∈ b,GParam.le 1048576 x):jA a b=some (decide (a=b)):=by
 have hl:a.length ≤ 1048576:=ha.1
 unfold jA
 by_cases hlen:a.length=b.length
 ·have hlen':((a.length:Int) != (b.length:Int))=false:=by simp [hlen]
  simp only [hlen',Bool.false_eq_true,if_false]
  have key:=aDc a b (fun x y=>decide (x=y)) (fun x _ y _=>by simp) hlen (dU a b) (fun k hk hk2=>?_) (by simp [dU])
  ·by_cases e:a=b
   ·rw [key.1 e];simp [e]
   ·rw [key.2 e];simp [e]
  simp only [dU,aB hk,if_true,aD hk,aD hk2,Option.bind_some,aAr a[k] b[k] (ha.2 _ (List.getElem_mem hk)) (hb.2 _ (List.getElem_mem hk2)),fO hk (show a.length ≤ maxLen by show _ ≤ 9223372036854775807;omega)]
  try (by_cases e:a[k]=b[k]<;>simp [e])
 ·have hlen':((a.length:Int) != (b.length:Int))=true:=by simp;omega
  have hne:a ≠ b:=fun e=>hlen (by rw [e])
  simp [hlen',hne]
theorem aG5 (a:GFn) (hw:GFn.le maxLen a) (n:Int) (h0:0 ≤ n) (h1:n ≤ 1048576):∃ r,qB a n=some r∧r ≤ n∧(0 ≤ r→GFn.le 1048576 a):=by
 obtain ⟨hw0,hw1⟩:=hw
 unfold qB
 have hs0:a.Name.size ≤ 9223372036854775807:=hw0
 simp only [w64 (n:=n - (a.Name.size:Int)) (by omega) (by omega)]
 by_cases hn0:(n - (a.Name.size:Int)) < 0
 ·simp only [hn0,decide_true,if_true];exact ⟨_,rfl,by omega,fun h=>by omega⟩
 simp only [hn0,decide_false,Bool.false_eq_true,if_false]
 obtain ⟨r1,q1a,q1b,q1c⟩:=yV a.Params hw1 (n - (a.Name.size:Int)) (by omega) (by omega)
 simp only [q1a,Option.bind_some]
 by_cases hn1:r1 < 0
 ·simp only [hn1,decide_true,if_true];exact ⟨_,rfl,by omega,fun h=>by omega⟩
 simp only [hn1,decide_false,Bool.false_eq_true,if_false]
 exact ⟨_,rfl,by omega,fun _=>⟨by omega,q1c (by omega)⟩⟩
theorem aG4 (a:GFn) (h:GFn.le 1048576 a):qA a=some a:=by
 obtain ⟨h0,h1⟩:=h
 unfold qA
 simp only [yS a.Params h1,Option.bind_some]
theorem aG6 (a b:GFn) (ha:GFn.le 1048576 a) (hb:GFn.le 1048576 b):qC a b=some (decide (a=b)):=by
 obtain ⟨ha0,ha1⟩:=ha
 obtain ⟨hb0,hb1⟩:=hb
 unfold qC
 try simp only [oK,Option.bind_some,zC a.Params b.Params ha1 hb1]
 rw [show decide (a=b)=decide (a.Name=b.Name∧a.Params=b.Params∧a.Res=b.Res∧a.Body=b.Body∧a.Ret=b.Ret) from by simp only [GFn.ext' a b]]
 by_cases e0:a.Name=b.Name<;>by_cases e1:a.Params=b.Params<;>by_cases e2:a.Res=b.Res<;>by_cases e3:a.Body=b.Body<;>by_cases e4:a.Ret=b.Ret<;>simp [e0,e1,e2,e3,e4]
theorem aEj (a:List GFn) (hw:a.length ≤ maxLen∧∀ x ∈ a,GFn.le maxLen x) (n:Int) (h0:0 ≤ n) (h1:n ≤ 1048576):∃ r,nU a n=some r∧r ≤ n∧(0 ≤ r→a.length ≤ 1048576∧∀ x ∈ a,GFn.le 1048576 x):=by
 have hw':a.length ≤ 9223372036854775807:=hw.1
 unfold nU
 rw [w64 (by omega) (by omega)]
 split
 ·exact ⟨_,rfl,by omega,fun h=>by omega⟩
 ·rename_i h
  simp only [decide_eq_true_eq] at h
  have hf:∀ (m:Int) (k:Nat) (g0:0 ≤ m) (g1:m ≤ 1048576) (hk:k < a.length),∃ r,r ≤ m∧(0 ≤ r→(fun x:GFn=>GFn.le 1048576 x) a[k])∧eT a (m,k)=some (if r < 0 then .inr (.inr (-1)) else .inl (r,((k + 1:Nat):Int))):=by
   intro m k g0 g1 hk
   obtain ⟨r,r1,r2,r3⟩:=aG5 a[k] (hw.2 _ (List.getElem_mem hk)) m g0 g1
   refine ⟨r,r2,r3,?_⟩
   simp only [eT,aB hk,if_true,aD hk,Option.bind_some,r1,fO hk hw.1]
   by_cases hr:r < 0<;>simp [hr]
  obtain ⟨j,hj,hj2⟩:=aFp _ a (eT a) 1048576 hf (fun m=>by simp [eT]) (n - a.length) (by omega) (by omega)
  rcases hj2 with rfl | ⟨m,rfl,q1,q2,q3⟩
  ·exact ⟨-1,by rw [hj];rfl,by omega,fun h=>by omega⟩
  ·exact ⟨m,by rw [hj];rfl,by omega,fun _=>⟨by omega,q3⟩⟩
theorem aEh (a:List GFn) (h:a.length ≤ 1048576∧∀ x ∈ a,GFn.le 1048576 x):nT a=some a:=by
 have hl:a.length ≤ 1048576:=h.1
 unfold nT
 rw [rX _ _ _ (by omega) (by omega)]
 simp only [Option.bind_some]
 rw [aC0 a _ (gC a) (fun out k hk ho=>?_) (fun out=>by simp [gC])]
 ·rfl
 ·simp only [gC,aB hk,if_true,aD hk,Option.bind_some,aG4 a[k] (h.2 _ (List.getElem_mem hk)),aD (show k < out.length by omega),bO,Int.toNat_natCast,fO hk (show a.length ≤ maxLen by show _ ≤ 9223372036854775807;omega)]
theorem aEl (a b:List GFn) (ha:a.length ≤ 1048576∧∀ x ∈ a,GFn.le 1048576 x) (hb:b.length ≤ 1048576∧∀ x ∈ b,GFn.le 1048576 x):nV a b=some (decide (a=b)):=by
 have hl:a.length ≤ 1048576:=ha.1
 unfold nV
 by_cases hlen:a.length=b.length
 ·have hlen':((a.length:Int) != (b.length:Int))=false:=by simp [hlen]
  simp only [hlen',Bool.false_eq_true,if_false]
  have key:=aDc a b (fun x y=>decide (x=y)) (fun x _ y _=>by simp) hlen (gE a b) (fun k hk hk2=>?_) (by simp [gE])
  ·by_cases e:a=b
   ·rw [key.1 e];simp [e]
   ·rw [key.2 e];simp [e]
  simp only [gE,aB hk,if_true,aD hk,aD hk2,Option.bind_some,aG6 a[k] b[k] (ha.2 _ (List.getElem_mem hk)) (hb.2 _ (List.getElem_mem hk2)),fO hk (show a.length ≤ maxLen by show _ ≤ 9223372036854775807;omega)]
  try (by_cases e:a[k]=b[k]<;>simp [e])
 ·have hlen':((a.length:Int) != (b.length:Int))=true:=by simp;omega
  have hne:a ≠ b:=fun e=>hlen (by rw [e])
  simp [hlen',hne]
theorem wA (a:GProgram) (hw:GProgram.le maxLen a) (n:Int) (h0:0 ≤ n) (h1:n ≤ 1048576):∃ r,gU a n=some r∧r ≤ n∧(0 ≤ r→GProgram.le 1048576 a):=by
 obtain ⟨hw0,hw1⟩:=hw
 unfold gU
 obtain ⟨r0,q0a,q0b,q0c⟩:=aAo a.Nodes hw0 n (by omega) (by omega)
 simp only [q0a,Option.bind_some]
 by_cases hn0:r0 < 0
 ·simp only [hn0,decide_true,if_true];exact ⟨_,rfl,by omega,fun h=>by omega⟩
 simp only [hn0,decide_false,Bool.false_eq_true,if_false]
 obtain ⟨r1,q1a,q1b,q1c⟩:=aEj a.Fns hw1 r0 (by omega) (by omega)
 simp only [q1a,Option.bind_some]
 by_cases hn1:r1 < 0
 ·simp only [hn1,decide_true,if_true];exact ⟨_,rfl,by omega,fun h=>by omega⟩
 simp only [hn1,decide_false,Bool.false_eq_true,if_false]
 exact ⟨_,rfl,by omega,fun _=>⟨q0c (by omega),q1c (by omega)⟩⟩
theorem vY (a:GProgram) (h:GProgram.le 1048576 a):cS a=some a:=by
 obtain ⟨h0,h1⟩:=h
 unfold cS
 simp only [aAk a.Nodes h0,aEh a.Fns h1,Option.bind_some]
theorem pB (a b:GProgram) (ha:GProgram.le 1048576 a) (hb:GProgram.le 1048576 b):cT a b=some (decide (a=b)):=by
 obtain ⟨ha0,ha1⟩:=ha
 obtain ⟨hb0,hb1⟩:=hb
 unfold cT
 try simp only [oK,Option.bind_some,aAt a.Nodes b.Nodes ha0 hb0,aEl a.Fns b.Fns ha1 hb1]
 rw [show decide (a=b)=decide (a.Nodes=b.Nodes∧a.Fns=b.Fns) from by simp only [GProgram.ext' a b]]
 by_cases e0:a.Nodes=b.Nodes<;>by_cases e1:a.Fns=b.Fns<;>simp [e0,e1]
theorem mB (k:Int) (h0:0 ≤ k) (h1:k ≤ 9223372036854775807):∃ z,aP k=some z:=by
 unfold aP
 by_cases hk:k ≤ 0
 ·simp [hk]
 ·simp only [hk,decide_false,Bool.false_eq_true,if_false]
  obtain ⟨z,h2,h3⟩:=aJj dQ (fun k o hk=>⟨IntKind.wrap .u8 (IntKind.wrap .i64 (48 + (Int.tmod k 10))),by simp only [dQ,gt_iff_lt,hk,decide_true,if_true]⟩) (fun k o hk=>by simp only [dQ,gt_iff_lt,show ¬ 0 < k by omega,decide_false,Bool.false_eq_true,if_false]) k h0 h1
  rw [h2]
  have hs:(⟨#[109]⟩:ByteArray).size=1:=rfl
  simp only [Option.bind_some]
  rw [aH4 (by rw [hs];omega)]
  exact ⟨_,rfl⟩
theorem yX (a:List Int) (ha:a.length ≤ 1048576) (k:Int) (h0:0 ≤ k) (h1:k + 1048576 ≤ 4611686018427387904):∃ k' a',iZ a k=some (k',a')∧k ≤ k'∧k' ≤ k + 1048576∧dY a' k=some k':=by
 have hlen:a.length ≤ 1048576:=ha
 have hM:∃ k' a',aG cK (a,k,0)=some (a',k')∧k ≤ k'∧k' ≤ k + 1 * 1048576∧a'.length=a.length∧∃ ks:Nat→Int,ks 0=k∧ks a.length=k'∧∀ (j:Nat) (hj:j < a'.length),(fun (x:Int) (k k':Int)=>x=k∧k'=(k + 1)) a'[j] (ks j) (ks (j + 1))∧0 ≤ ks j∧ks j ≤ ks (j + 1)∧ks j ≤ 4611686018427387904:=by
  refine sX (fun x:Int=>True) (fun (x:Int) (k k':Int)=>x=k∧k'=(k + 1)) 1 4611686018427387904 cK (fun out k i hi hlen h0 h1 hok=>?_) (fun out k=>by simp [cK]) a hlen (fun x hx=>trivial) k h0 (by omega)
  refine ⟨(k + 1),k,by omega,by omega,?_,?_⟩
  ·simp []
  ·simp (disch:=omega) only [cK,aB hi,if_true,aD,xC,Option.bind_some,bO,Int.toNat_natCast,List.length_set,List.set_set,w64,Int.natCast_add,Int.natCast_one]
 obtain ⟨k',a',h2,h3,h4,h5,ks,e0,e1,h6⟩:=hM
 refine ⟨k',a',by unfold iZ;rw [h2];rfl,h3,by omega,?_⟩
 have hg:aG (cL a') (ks 0,0)=some (.inl (ks a'.length)):=by
  refine tM a' (fun (x:Int) (k k':Int)=>x=k∧k'=(k + 1)) 4611686018427387904 ks (cL a') h6 (fun j hj k k' hm h0 hk h1=>?_) (fun k=>by simp [cL])
  have hjl:a'.length ≤ 1048576:=by omega
  obtain ⟨y0,yk⟩:=hm
  subst yk
  have hw1:IntKind.wrap .i64 ((j:Int) + 1)=(j:Int) + 1:=w64 (by omega) (by omega)
  simp only [cL,aB hj,aD hj,hw1,if_true,Option.bind_some]
  simp (disch:=omega) [w64,oK,y0]
 unfold dY
 rw [e0,h5,e1] at hg
 rw [hg]
 rfl
theorem wD (a:List GNode) (ha:a.length ≤ 1048576∧∀ x ∈ a,GNode.le 1048576 x) (k:Int) (h0:0 ≤ k) (h1:k + 1099514773504 ≤ 4611686018427387904):∃ k' a',gV a k=some (k',a')∧k ≤ k'∧k' ≤ k + 1099514773504∧gW a' k=some k':=by
 have hlen:a.length ≤ 1048576:=ha.1
 have hM:∃ k' a',aG bV (a,k,0)=some (a',k')∧k ≤ k'∧k' ≤ k + 1048579 * 1048576∧a'.length=a.length∧∃ ks:Nat→Int,ks 0=k∧ks a.length=k'∧∀ (j:Nat) (hj:j < a'.length),(fun (x:GNode) (k k':Int)=>x.Kind=k∧x.Num=(k + 1)∧aP ((k + 1) + 1)=some x.Name∧∃ q3,dY x.Kids (((k + 1) + 1) + 1)=some q3∧(((k + 1) + 1) + 1) ≤ q3∧k'=q3) a'[j] (ks j) (ks (j + 1))∧0 ≤ ks j∧ks j ≤ ks (j + 1)∧ks j ≤ 4611686018427387904:=by
  refine sX (fun x:GNode=>GNode.le 1048576 x) (fun (x:GNode) (k k':Int)=>x.Kind=k∧x.Num=(k + 1)∧aP ((k + 1) + 1)=some x.Name∧∃ q3,dY x.Kids (((k + 1) + 1) + 1)=some q3∧(((k + 1) + 1) + 1) ≤ q3∧k'=q3) 1048579 4611686018427387904 bV (fun out k i hi hlen h0 h1 hok=>?_) (fun out k=>by simp [bV]) a hlen (fun x hx=>ha.2 x hx) k h0 (by omega)
  obtain ⟨hok_Name,hok_Kids⟩:=hok
  obtain ⟨z2,hz2⟩:=mB ((k + 1) + 1) (by omega) (by omega)
  obtain ⟨q3,b3,mm3,l3,u3,hh3⟩:=yX out[i].Kids hok_Kids (((k + 1) + 1) + 1) (by omega) (by omega)
  refine ⟨q3,(⟨k,(k + 1),z2,b3⟩:GNode),by omega,by omega,?_,?_⟩
  ·simp [hz2,hh3];try omega
  ·simp (disch:=omega) only [bV,aB hi,if_true,aD,xC,Option.bind_some,bO,Int.toNat_natCast,List.length_set,List.set_set,w64,hz2,mm3,Int.natCast_add,Int.natCast_one]
 obtain ⟨k',a',h2,h3,h4,h5,ks,e0,e1,h6⟩:=hM
 refine ⟨k',a',by unfold gV;rw [h2];rfl,h3,by omega,?_⟩
 have hg:aG (bW a') (ks 0,0)=some (.inl (ks a'.length)):=by
  refine tM a' (fun (x:GNode) (k k':Int)=>x.Kind=k∧x.Num=(k + 1)∧aP ((k + 1) + 1)=some x.Name∧∃ q3,dY x.Kids (((k + 1) + 1) + 1)=some q3∧(((k + 1) + 1) + 1) ≤ q3∧k'=q3) 4611686018427387904 ks (bW a') h6 (fun j hj k k' hm h0 hk h1=>?_) (fun k=>by simp [bW])
  have hjl:a'.length ≤ 1048576:=by omega
  obtain ⟨y0,⟨y1,⟨y2,⟨q3,y3,yy3,yk⟩⟩⟩⟩:=hm
  subst yk
  have hw1:IntKind.wrap .i64 ((j:Int) + 1)=(j:Int) + 1:=w64 (by omega) (by omega)
  simp only [bW,aB hj,aD hj,hw1,if_true,Option.bind_some]
  simp (disch:=omega) [w64,oK,y0,y1,y2,y3,show ¬ k' < 0 by omega,show 0 ≤ k' by omega]
 unfold gW
 rw [e0,h5,e1] at hg
 rw [hg]
 rfl
theorem uS (a:List GParam) (ha:a.length ≤ 1048576∧∀ x ∈ a,GParam.le 1048576 x) (k:Int) (h0:0 ≤ k) (h1:k + 2097152 ≤ 4611686018427387904):∃ k' a',fV a k=some (k',a')∧k ≤ k'∧k' ≤ k + 2097152∧cD a' k=some k':=by
 have hlen:a.length ≤ 1048576:=ha.1
 have hM:∃ k' a',aG bK (a,k,0)=some (a',k')∧k ≤ k'∧k' ≤ k + 2 * 1048576∧a'.length=a.length∧∃ ks:Nat→Int,ks 0=k∧ks a.length=k'∧∀ (j:Nat) (hj:j < a'.length),(fun (x:GParam) (k k':Int)=>aP k=some x.Name∧x.Typ=(k + 1)∧k'=((k + 1) + 1)) a'[j] (ks j) (ks (j + 1))∧0 ≤ ks j∧ks j ≤ ks (j + 1)∧ks j ≤ 4611686018427387904:=by
  refine sX (fun x:GParam=>GParam.le 1048576 x) (fun (x:GParam) (k k':Int)=>aP k=some x.Name∧x.Typ=(k + 1)∧k'=((k + 1) + 1)) 2 4611686018427387904 bK (fun out k i hi hlen h0 h1 hok=>?_) (fun out k=>by simp [bK]) a hlen (fun x hx=>ha.2 x hx) k h0 (by omega)
  have hok_Name:=hok;simp only [GParam.le] at hok_Name
  obtain ⟨z0,hz0⟩:=mB k (by omega) (by omega)
  refine ⟨((k + 1) + 1),(⟨z0,(k + 1)⟩:GParam),by omega,by omega,?_,?_⟩
  ·simp [hz0]
  ·simp (disch:=omega) only [bK,aB hi,if_true,aD,xC,Option.bind_some,bO,Int.toNat_natCast,List.length_set,List.set_set,w64,hz0,Int.natCast_add,Int.natCast_one]
 obtain ⟨k',a',h2,h3,h4,h5,ks,e0,e1,h6⟩:=hM
 refine ⟨k',a',by unfold fV;rw [h2];rfl,h3,by omega,?_⟩
 have hg:aG (bL a') (ks 0,0)=some (.inl (ks a'.length)):=by
  refine tM a' (fun (x:GParam) (k k':Int)=>aP k=some x.Name∧x.Typ=(k + 1)∧k'=((k + 1) + 1)) 4611686018427387904 ks (bL a') h6 (fun j hj k k' hm h0 hk h1=>?_) (fun k=>by simp [bL])
  have hjl:a'.length ≤ 1048576:=by omega
  obtain ⟨y0,⟨y1,yk⟩⟩:=hm
  subst yk
  have hw1:IntKind.wrap .i64 ((j:Int) + 1)=(j:Int) + 1:=w64 (by omega) (by omega)
  simp only [bL,aB hj,aD hj,hw1,if_true,Option.bind_some]
  simp (disch:=omega) [w64,oK,y0,y1]
 unfold cD
 rw [e0,h5,e1] at hg
 rw [hg]
 rfl
theorem aAq (a:List GFn) (ha:a.length ≤ 1048576∧∀ x ∈ a,GFn.le 1048576 x) (k:Int) (h0:0 ≤ k) (h1:k + 2199027449856 ≤ 4611686018427387904):∃ k' a',kL a k=some (k',a')∧k ≤ k'∧k' ≤ k + 2199027449856∧kM a' k=some k':=by
 have hlen:a.length ≤ 1048576:=ha.1
 have hM:∃ k' a',aG dF (a,k,0)=some (a',k')∧k ≤ k'∧k' ≤ k + 2097156 * 1048576∧a'.length=a.length∧∃ ks:Nat→Int,ks 0=k∧ks a.length=k'∧∀ (j:Nat) (hj:j < a'.length),(fun (x:GFn) (k k':Int)=>aP k=some x.Name∧∃ q1,cD x.Params (k + 1)=some q1∧(k + 1) ≤ q1∧x.Res=q1∧x.Body=(q1 + 1)∧x.Ret=((q1 + 1) + 1)∧k'=(((q1 + 1) + 1) + 1)∧k' ≤ 4611686018427387904) a'[j] (ks j) (ks (j + 1))∧0 ≤ ks j∧ks j ≤ ks (j + 1)∧ks j ≤ 4611686018427387904:=by
  refine sX (fun x:GFn=>GFn.le 1048576 x) (fun (x:GFn) (k k':Int)=>aP k=some x.Name∧∃ q1,cD x.Params (k + 1)=some q1∧(k + 1) ≤ q1∧x.Res=q1∧x.Body=(q1 + 1)∧x.Ret=((q1 + 1) + 1)∧k'=(((q1 + 1) + 1) + 1)∧k' ≤ 4611686018427387904) 2097156 4611686018427387904 dF (fun out k i hi hlen h0 h1 hok=>?_) (fun out k=>by simp [dF]) a hlen (fun x hx=>ha.2 x hx) k h0 (by omega)
  obtain ⟨hok_Name,hok_Params⟩:=hok
  obtain ⟨z0,hz0⟩:=mB k (by omega) (by omega)
  obtain ⟨q1,b1,mm1,l1,u1,hh1⟩:=uS out[i].Params hok_Params (k + 1) (by omega) (by omega)
  refine ⟨(((q1 + 1) + 1) + 1),(⟨z0,b1,q1,(q1 + 1),((q1 + 1) + 1)⟩:GFn),by omega,by omega,?_,?_⟩
  ·simp [hz0,hh1];try omega
  ·simp (disch:=omega) only [dF,aB hi,if_true,aD,xC,Option.bind_some,bO,Int.toNat_natCast,List.length_set,List.set_set,w64,hz0,mm1,Int.natCast_add,Int.natCast_one]
 obtain ⟨k',a',h2,h3,h4,h5,ks,e0,e1,h6⟩:=hM
 refine ⟨k',a',by unfold kL;rw [h2];rfl,h3,by omega,?_⟩
 have hg:aG (dG a') (ks 0,0)=some (.inl (ks a'.length)):=by
  refine tM a' (fun (x:GFn) (k k':Int)=>aP k=some x.Name∧∃ q1,cD x.Params (k + 1)=some q1∧(k + 1) ≤ q1∧x.Res=q1∧x.Body=(q1 + 1)∧x.Ret=((q1 + 1) + 1)∧k'=(((q1 + 1) + 1) + 1)∧k' ≤ 4611686018427387904) 4611686018427387904 ks (dG a') h6 (fun j hj k k' hm h0 hk h1=>?_) (fun k=>by simp [dG])
  have hjl:a'.length ≤ 1048576:=by omega
  obtain ⟨y0,⟨q1,y1,yy1,⟨y2,⟨y3,⟨y4,⟨yk,ykb⟩⟩⟩⟩⟩⟩:=hm
  subst yk
  have hw1:IntKind.wrap .i64 ((j:Int) + 1)=(j:Int) + 1:=w64 (by omega) (by omega)
  simp only [dG,aB hj,aD hj,hw1,if_true,Option.bind_some]
  simp (disch:=omega) [w64,oK,y0,y1,show ¬ q1 < 0 by omega,show 0 ≤ q1 by omega,y2,y3,y4]
 unfold kM
 rw [e0,h5,e1] at hg
 rw [hg]
 rfl
theorem mW (a:GProgram) (ha:GProgram.le 1048576 a) (k:Int) (h0:0 ≤ k) (h1:k + 3298542223360 ≤ 4611686018427387904):∃ k' a',dR a k=some (k',a')∧k ≤ k'∧k' ≤ k + 3298542223360∧dS a' k=some k':=by
 obtain ⟨ha_Nodes,ha_Fns⟩:=ha
 obtain ⟨k0,b0,m0,l0,u0,e0⟩:=wD a.Nodes ha_Nodes k (by omega) (by omega)
 obtain ⟨k1,b1,m1,l1,u1,e1⟩:=aAq a.Fns ha_Fns k0 (by omega) (by omega)
 refine ⟨k1,⟨b0,b1⟩,?_,by omega,by omega,?_⟩
 ·unfold dR;simp [m0,m1]
 ·unfold dS;simp [e0,show ¬ k0 < 0 by omega,e1,show ¬ k1 < 0 by omega]
end Go.OM
namespace Go.OM
theorem aMn {α:Type} {c:Prop} [Decidable c] (a b:α):(if c then some a else some b)=some (if c then a else b):=by split<;>rfl
def inB (x a b:Int):Bool:=decide (a ≤ x) && decide (x ≤ b)
theorem inB_iff {x a b:Int}:inB x a b=true ↔ a ≤ x∧x ≤ b:=by simp [inB]
theorem inB_false {x a b:Int}:inB x a b=false ↔ ¬ (a ≤ x∧x ≤ b):=by rw [← inB_iff];simp
theorem bQ (x a b:Int):cF x a b=some (inB x a b):=by
 unfold cF inB
 by_cases h:a ≤ x<;>simp [h]
theorem dM (x a b:Int):aW x a b=some (inB x a b):=by
 unfold aW inB
 by_cases h:a ≤ x<;>simp [h]
def bI (z:ByteArray):List Int:=z.data.toList.map fun x=>((x.toNat:Nat):Int)
theorem nZ (z:ByteArray):(bI z).length=z.size:=by rw [bI,List.length_map];exact Array.length_toList
theorem aJx {z:ByteArray} {k:Nat} (h:k < (bI z).length):sAt z k=some (bI z)[k]:=by
 have h1:k < z.size:=by rw [← nZ];exact h
 unfold sAt
 rw [if_pos ⟨by omega,by omega⟩]
 simp only [aFf,Int.toNat_natCast,bI]
 have e:z.data.toList.length=z.size:=Array.length_toList
 have h2:k < z.data.toList.length:=by omega
 rw [List.getD_eq_getElem?_getD,List.getElem?_eq_getElem h2]
 simp only [Option.getD_some,List.getElem_map]
def kZ (b:Int):Bool:=inB b 97 122
def oU (b:Int):Bool:=inB b 48 57
theorem pE (b:Int):gH b=some (kZ b):=by
 unfold gH kZ inB
 by_cases h:97 ≤ b<;>simp [h]
theorem wK (b:Int):jD b=some (oU b):=by
 unfold jD oU inB
 by_cases h:48 ≤ b<;>simp [h]
theorem nL (b:Int):eY b=some (kZ b):=by
 unfold eY kZ inB
 by_cases h:97 ≤ b<;>simp [h]
theorem uC (b:Int):gP b=some (oU b):=by
 unfold gP oU inB
 by_cases h:48 ≤ b<;>simp [h]
def keys:List ByteArray:=[⟨#[102,110]⟩,⟨#[108,101,116]⟩,⟨#[105,102]⟩,⟨#[101,108,115,101]⟩,⟨#[119,104,105,108,101]⟩,⟨#[112,114,105,110,116]⟩,⟨#[100,111]⟩,⟨#[110,101,119]⟩,⟨#[99,108,111,110,101]⟩,⟨#[109,117,116]⟩,⟨#[105,110,112,117,116]⟩,⟨#[105,110,116]⟩,⟨#[98,111,120]⟩,⟨#[114,101,116]⟩]
def keyB (s:ByteArray):Bool:=keys.any fun w=>sEq w s
theorem aIy:strings_Split (⟨#[102,110,32,108,101,116,32,105,102,32,101,108,115,101,32,119,104,105,108,101,32,112,114,105,110,116,32,100,111,32,110,101,119,32,99,108,111,110,101,32,109,117,116,32,105,110,112,117,116,32,105,110,116,32,98,111,120,32,114,101,116]⟩:ByteArray) (⟨#[32]⟩:ByteArray)=some keys:=by kernel_rfl
theorem aHy (l:List ByteArray) (s:ByteArray) (hl:l.length ≤ 1048576) (f:Int→Option (Int ⊕ (Unit ⊕ Bool)))
  (hf:∀ i,f i=if (decide (i < (l.length:Int)))=true then (aK l i).bind fun e=>if (sEq e s)=true then some (Sum.inr (Sum.inr true)) else some (Sum.inl (IntKind.wrap .i64 (i + 1))) else some (Sum.inr (Sum.inl ()))) :
  aG f 0=some (if (l.any fun w=>sEq w s)=true then .inr true else .inl ()):=by
 refine sY l (fun w=>sEq w s) f (fun k hk=>?_) (by rw [hf];simp)
 rw [hf]
 simp only [aB hk,if_true,aD hk,Option.bind_some,fO hk (show l.length ≤ maxLen by show _ ≤ 9223372036854775807;omega),aMn]
theorem yF (s:ByteArray):kD s=some (keyB s):=by
 unfold kD mV
 simp only [Option.bind_some]
 have h:=aHy keys s (by decide) (fS s keys) (fun i=>by simp only [fS])
 unfold keys at h
 rw [h]
 unfold keyB keys
 simp only [Option.bind_some]
 split<;>rename_i h2<;>split at h2<;>simp_all
theorem zU (s:ByteArray):kT s=some (keyB s):=by
 unfold kT qW
 rw [aIy]
 simp only [Option.bind_some]
 rw [aHy keys s (by decide) (jB s keys) (fun i=>by simp only [jB])]
 unfold keyB
 simp only [Option.bind_some]
 cases keys.any fun w=>sEq w s<;>rfl
def aFd (b:Int):Bool:=kZ b || oU b
def rA (s:ByteArray):Bool:=inB s.size 1 8 && (kZ ((bI s).getD 0 0) && ((bI s).all aFd && !keyB s))
theorem aE7 (s:ByteArray) (hs:s.size ≤ 8) (f:Int→Option (Int ⊕ (Unit ⊕ Bool)))
  (hf:∀ (k:Nat) (h:k < (bI s).length),f k=some (if aFd (bI s)[k]=true then .inl (IntKind.wrap .i64 ((k:Int) + 1)) else .inr (.inr false)))
  (he:f s.size=some (.inr (.inl ()))):aG f 0=some (if (bI s).all aFd=true then .inl () else .inr false):=by
 refine pW (bI s) aFd f (fun k hk=>?_) (by rw [nZ];exact he)
 rw [hf k hk,fO hk (show (bI s).length ≤ maxLen by rw [nZ];show _ ≤ 9223372036854775807;omega)]
theorem aLd {s:ByteArray} (h:1 ≤ s.size):sAt s 0=some ((bI s).getD 0 0):=by
 have h1:0 < (bI s).length:=by rw [nZ];omega
 have:=aJx h1
 rw [show ((0:Nat):Int)=0 from rfl] at this
 rw [this,List.getD_eq_getElem?_getD,List.getElem?_eq_getElem h1];rfl
theorem nG (s:ByteArray):iD s=some (rA s):=by
 unfold iD rA
 simp only [bQ,Option.bind_some]
 by_cases hi:inB s.size 1 8=true
 ·have hi':=inB_iff.1 hi
  rw [aLd (by omega),aE7 s (by omega) (fM s) (fun k hk=>?_) (by simp [fM])]
  ·simp only [hi,pE,zU,Option.bind_some,Bool.not_true,Bool.false_eq_true,if_false,Bool.true_and]
   cases kZ ((bI s).getD 0 0)<;>cases (bI s).all aFd<;>cases keyB s<;>rfl
  ·have hk2:k < s.size:=by rw [← nZ];exact hk
   simp only [fM,aB hk2,if_true,aJx hk,pE,wK,Option.bind_some]
   rw [show aFd (bI s)[k]=(kZ (bI s)[k] || oU (bI s)[k]) from rfl]
   cases kZ (bI s)[k]<;>cases oU (bI s)[k]<;>rfl
 ·simp [Bool.eq_false_iff.2 hi]
theorem nB (s:ByteArray):hO s=some (rA s):=by
 unfold hO rA
 simp only [dM,Option.bind_some]
 by_cases hi:inB s.size 1 8=true
 ·have hi':=inB_iff.1 hi
  rw [aLd (by omega),aE7 s (by omega) (fD s) (fun k hk=>?_) (by simp [fD])]
  ·simp only [hi,nL,yF,Option.bind_some,Bool.not_true,Bool.false_eq_true,if_false,Bool.true_and]
   cases kZ ((bI s).getD 0 0)<;>cases (bI s).all aFd<;>cases keyB s<;>rfl
  ·have hk2:k < s.size:=by rw [← nZ];exact hk
   simp only [fD,aB hk2,if_true,aJx hk,nL,uC,Option.bind_some]
   rw [show aFd (bI s)[k]=(kZ (bI s)[k] || oU (bI s)[k]) from rfl]
   cases kZ (bI s)[k]<;>cases oU (bI s)[k]<;>rfl
 ·simp [Bool.eq_false_iff.2 hi]
end Go.OM
namespace Go.OM
theorem iO {n:Nat} (h:n ≤ 1048576):IntKind.wrap .i64 ((n:Int) - 1)=(n:Int) - 1:=w64 (by omega) (by omega)
end Go.OM
namespace Go.OM
theorem bT {α σ ρ:Type} (h:σ→α→σ) (fin:σ→ρ):∀ (l:List α) (s:σ),aB4 (fun s x=>(.inl (h s x):σ ⊕ ρ)) fin l s=fin (l.foldl h s)
 | [],s=>rfl
 | x :: l,s=>by simp only [aB4,List.foldl_cons];exact bT h fin l _
theorem aOr {n:Nat} {s:List Int} {e:Int} (h:s.length ≤ 1048576) (hn:n ≤ 64):lM n s [e]=some (s ++ [e]):=by
 unfold lM
 have h1:(s.length + [e].length) * n ≤ (s.length + [e].length) * 64:=Nat.mul_le_mul_left _ hn
 rw [if_pos ⟨by simp only [List.length_cons,List.length_nil] at h1 ⊢;omega,by simp only [List.length_cons,List.length_nil];omega⟩]
def xF (out:List Int) (n:Int):List Int:=if out.contains n=true then out else out ++ [n]
theorem mem_addL {out:List Int} {n m:Int}:m ∈ xF out n ↔ m ∈ out ∨ m=n:=by
 unfold xF
 by_cases h:out.contains n=true
 ·rw [if_pos h]
  have:=List.contains_iff_mem.1 h
  constructor
  ·exact .inl
  ·rintro (h | rfl)
   ·exact h
   ·exact this
 ·rw [if_neg h];simp
theorem fE (m:Int):∀ (l s:List Int),m ∈ l.foldl xF s ↔ m ∈ s ∨ m ∈ l
 | [],s=>by simp
 | x :: l,s=>by rw [List.foldl_cons,fE m l,mem_addL,List.mem_cons,or_assoc]
end Go.OM
namespace Go.OM
inductive Reach (next:Nat→List Int) (root:Nat):Nat→Prop
 | base:Reach next root root
 | step {i:Nat} {m:Int}:Reach next root i→m ∈ next i→Reach next root m.toNat
theorem Reach.congr {next next':Nat→List Int} {root:Nat} (h:∀ i m,m ∈ next i ↔ m ∈ next' i) {n:Nat}:Reach next root n ↔ Reach next' root n:=by
 constructor
 ·intro r
  induction r with
  | base=>exact .base
  | step _ hm ih=>exact .step ih ((h _ _).1 hm)
 ·intro r
  induction r with
  | base=>exact .base
  | step _ hm ih=>exact .step ih ((h _ _).2 hm)
end Go.OM
namespace Go.OM
abbrev Tab:=List (List Bool)
structure TabOk (W L:Nat) (t:Tab):Prop where
 len:t.length=W
 row:∀ r ∈ t,r.length=L
theorem TabOk.set {W L:Nat} {t:Tab} (h:TabOk W L t) (n:Nat) {r:List Bool} (hr:r.length=L):TabOk W L (t.set n r) :=
 ⟨by simpa using h.len,fun x hx=>by
  rcases List.mem_or_eq_of_mem_set hx with h1 | h1
  ·exact h.row x h1
  ·rw [h1];exact hr⟩
theorem aQ {k n:Nat} (hk:k < n) (hn:n ≤ 1048576):IntKind.wrap .i64 ((k:Int) + 1)=((k + 1:Nat):Int):=fO hk (show n ≤ maxLen by show _ ≤ 9223372036854775807;omega)
theorem aGs {α:Type} {n:Nat} {s:List α} {e:α} (h:s.length ≤ 1048576) (hn:n ≤ 64):lM n s [e]=some (s ++ [e]):=by
 unfold lM
 have h1:(s.length + [e].length) * n ≤ (s.length + [e].length) * 64:=Nat.mul_le_mul_left _ hn
 rw [if_pos ⟨by simp only [List.length_cons,List.length_nil] at h1 ⊢;omega,by simp only [List.length_cons,List.length_nil];omega⟩]
def cntR (r:List Bool):Nat:=r.count true
def cntT (t:Tab):Nat:=(t.map cntR).sum
end Go.OM
namespace Go.OM
theorem cN {α:Type} {l:List α} {v:Int} (h0:0 ≤ v) (h:v < l.length):aK l v=some (l[v.toNat]'(by omega)):=by
 have:v=((v.toNat:Nat):Int):=by omega
 conv=>lhs;rw [this]
 exact aD (by omega)
theorem aGr {α:Type} {n:Nat} {l:List α} (h:l.length ≤ 1048576) (hn:n ≤ 64):lM n [] l=some l:=by
 unfold lM
 have h1:(([]:List α).length + l.length) * n ≤ (([]:List α).length + l.length) * 64:=Nat.mul_le_mul_left _ hn
 rw [if_pos ⟨by simp only [List.length_nil] at h1 ⊢;omega,by simp only [List.length_nil];omega⟩]
 simp
end Go.OM
namespace Go.OM
structure Dn (W L:Nat) (s s':Tab × Bool):Prop where
 ok:TabOk W L s'.1
 le:cntT s'.1 ≤ cntT s.1
 lt:s'.2=true→s.2=true ∨ cntT s'.1 < cntT s.1
 keep:s.2=true→s'.2=true
theorem Dn.trans {W L:Nat} {s s' s2:Tab × Bool} (h:Dn W L s s') (h2:Dn W L s' s2):Dn W L s s2 :=
 ⟨h2.ok,Nat.le_trans h2.le h.le,fun e=>by
  rcases h2.lt e with e | e
  ·rcases h.lt e with e | e
   ·exact .inl e
   ·exact .inr (Nat.lt_of_le_of_lt h2.le e)
  ·exact .inr (Nat.lt_of_lt_of_le e h.le),fun e=>h2.keep (h.keep e)⟩
end Go.OM
namespace Go.OM
theorem zW (l:List Int) (n:Int) (hl:l.length ≤ 1048576):iC l n=some (l.contains n):=by
 unfold iC
 rw [sY l (fun e=>e == n) (fH l n) (fun k hk=>by
  simp only [fH,aB hk,if_true,aD hk,Option.bind_some,aQ hk hl]
  cases l[k] == n<;>rfl) (by simp [fH])]
 have:(l.any fun e=>e == n)=l.contains n:=by
  induction l with
  | nil=>rfl
  | cons x l ih =>
   rw [List.any_cons,List.contains_cons,ih (by simp at hl;omega)]
   congr 1
   rw [Bool.eq_iff_iff,beq_iff_eq,beq_iff_eq]
   exact eq_comm
 rw [this]
 cases l.contains n<;>rfl
theorem vA {ρ:Type} (n:Nat) (q:Nat→Option ρ) (f:Int→Option (Int ⊕ (Unit ⊕ ρ)))
  (hf:∀ (k:Nat),k < n→f k=some (match q k with | none=>.inl ((k + 1:Nat):Int) | some r=>.inr (.inr r)))
  (he:f n=some (.inr (.inl ()))):aG f 0=some (match (List.range n).findSome? q with | some r=>.inr r | none=>.inl ()) :=
 uN (List.range n) q f (fun k hk=>by
  have hk':k < n:=by simpa using hk
  rw [hf k hk',List.getElem_range]
  all_goals (cases q k<;>rfl)) (by rw [List.length_range];exact he)
end Go.OM
namespace Go.OM
def pJ (k:Int):Bool:=inB k 1 12
def xQ (k:Int):Bool:=inB k 13 19
theorem qH (k:Int):iL k=some (pJ k):=by simp only [iL,bQ,Option.bind_some,pJ]
theorem aAx (k:Int):mI k=some (xQ k):=by simp only [mI,bQ,Option.bind_some,xQ]
theorem oX (k:Int):eS k=some (pJ k):=by simp only [eS,dM,Option.bind_some,pJ]
theorem qZ (k:Int):eH k=some (xQ k):=by simp only [eH,dM,Option.bind_some,xQ]
def iH (k:Int):Int × Int:=if k=8 ∨ k=13 ∨ k=14 ∨ k=15 ∨ k=18 ∨ k=19 then (1,1) else if k=9 ∨ k=10 ∨ k=11 ∨ k=17 then (2,2) else if k=16 then (3,3) else if k=12 then (0,3) else if k=20 then (0,12) else (0,0)
theorem aD1 (k:Int):nX k=some (iH k):=by
 unfold nX iH
 by_cases h8:k=8
 ·simp [h8]
 by_cases h13:k=13
 ·simp [h13]
 by_cases h14:k=14
 ·simp [h14]
 by_cases h15:k=15
 ·simp [h15]
 by_cases h18:k=18
 ·simp [h18]
 by_cases h19:k=19
 ·simp [h19]
 by_cases h9:k=9
 ·simp [h9]
 by_cases h10:k=10
 ·simp [h10]
 by_cases h11:k=11
 ·simp [h11]
 by_cases h17:k=17
 ·simp [h17]
 by_cases h16:k=16
 ·simp [h16]
 by_cases h12:k=12
 ·simp [h12]
 by_cases h20:k=20
 ·simp [h20]
 simp [h8,h13,h14,h15,h18,h19,h9,h10,h11,h17,h16,h12,h20]
theorem xY (k:Int):kA k=some (iH k):=by
 unfold kA iH
 by_cases h8:k=8
 ·simp [h8]
 by_cases h13:k=13
 ·simp [h13]
 by_cases h14:k=14
 ·simp [h14]
 by_cases h15:k=15
 ·simp [h15]
 by_cases h18:k=18
 ·simp [h18]
 by_cases h19:k=19
 ·simp [h19]
 by_cases h9:k=9
 ·simp [h9]
 by_cases h10:k=10
 ·simp [h10]
 by_cases h11:k=11
 ·simp [h11]
 by_cases h17:k=17
 ·simp [h17]
 by_cases h16:k=16
 ·simp [h16]
 by_cases h12:k=12
 ·simp [h12]
 by_cases h20:k=20
 ·simp [h20]
 simp [h8,h13,h14,h15,h18,h19,h9,h10,h11,h17,h16,h12,h20]
def tQ (kind i kid:Int):Bool:=if kind=20 then xQ kid else if (kind=16 ∨ kind=17)∧0 < i then kid == 20 else if kind=19 then kid == 12 else pJ kid
theorem zM (kind i kid:Int):kQ kind i kid=some (tQ kind i kid):=by
 unfold kQ tQ
 simp only [aAx,qH,Option.bind_some,gt_iff_lt]
 by_cases h20:kind=20
 ·simp [h20]
 by_cases h16:kind=16
 ·by_cases hi:0 < i<;>simp [h16,hi]
 by_cases h17:kind=17
 ·by_cases hi:0 < i<;>simp [h17,hi]
 by_cases h19:kind=19
 ·simp [h19]
 simp [h20,h16,h17,h19]
theorem yB (kind i kid:Int):kB kind i kid=some (tQ kind i kid):=by
 unfold kB tQ
 simp only [qZ,oX,Option.bind_some,gt_iff_lt]
 by_cases h20:kind=20
 ·simp [h20]
 by_cases h16:kind=16
 ·by_cases hi:0 < i<;>simp [h16,hi]
 by_cases h17:kind=17
 ·by_cases hi:0 < i<;>simp [h17,hi]
 by_cases h19:kind=19
 ·simp [h19]
 simp [h20,h16,h17,h19]
def pA (k:Int):Bool:=inB k 2 6 || inB k 12 15
theorem zP (k:Int):eR k=some (pA k):=by
 unfold eR pA
 simp only [bQ,Option.bind_some]
 cases inB k 2 6<;>rfl
theorem vV (k:Int):iS k=some (pA k):=by
 unfold iS pA
 by_cases h:inB k 2 6=true
 ·have h':=inB_iff.1 h
  rw [h]
  have:k=2 ∨ k=3 ∨ k=4 ∨ k=5 ∨ k=6:=by omega
  rcases this with e | e | e | e | e<;>simp [e]
 ·by_cases h2:inB k 12 15=true
  ·have h':=inB_iff.1 h2
   rw [h2]
   have:k=12 ∨ k=13 ∨ k=14 ∨ k=15:=by omega
   rcases this with e | e | e | e<;>simp [e]
  ·have h':=inB_false.1 (Bool.eq_false_iff.2 h)
   have h2':=inB_false.1 (Bool.eq_false_iff.2 h2)
   have n2:¬ k=2:=by omega
   have n3:¬ k=3:=by omega
   have n4:¬ k=4:=by omega
   have n5:¬ k=5:=by omega
   have n6:¬ k=6:=by omega
   have n12:¬ k=12:=by omega
   have n13:¬ k=13:=by omega
   have n14:¬ k=14:=by omega
   have n15:¬ k=15:=by omega
   simp [Bool.eq_false_iff.2 h,Bool.eq_false_iff.2 h2,n2,n3,n4,n5,n6,n12,n13,n14,n15]
def aOh (nodes:List GNode) (k:Nat) (x:GNode) (i:Nat):Bool:=match x.Kids[i]? with
 | none=>false
 | some kid=>inB kid 0 ((k:Int) - 1) && (!((x.Kids.take i).contains kid) && (match nodes[kid.toNat]? with | some y=>tQ x.Kind i y.Kind | none=>false))
theorem aG8 {nodes:List GNode} {k:Nat} {x:GNode} {i:Nat} (h:i < x.Kids.length):aOh nodes k x i=(inB x.Kids[i] 0 ((k:Int) - 1) && (!((x.Kids.take i).contains x.Kids[i]) && (match nodes[(x.Kids[i]).toNat]? with | some y=>tQ x.Kind i y.Kind | none=>false))):=by
 unfold aOh;rw [List.getElem?_eq_getElem h]
def aKm (nodes:List GNode) (k:Nat) (x:GNode):Bool:=(List.range x.Kids.length).all (aOh nodes k x)
def aMk (x:GNode):Bool:=if x.Kind=1 then inB x.Num 0 1000000000 else x.Num == 0
def aHc (x:GNode):Bool:=if pA x.Kind=true then rA x.Name else sEq x.Name ⟨#[]⟩
def mR (nodes:List GNode) (k:Nat):Bool:=match nodes[k]? with
 | none=>false
 | some x=>inB x.Kind 1 20 && (inB x.Kids.length (iH x.Kind).1 (iH x.Kind).2 && (aKm nodes k x && (aMk x && aHc x)))
theorem nO {ρ:Type} (n:Nat) (hn:n ≤ 1048576) (p:Nat→Bool) (b:ρ) (f:Int→Option (Int ⊕ (Unit ⊕ ρ)))
  (hf:∀ (k:Nat),k < n→f k=some (if p k=true then .inl (IntKind.wrap .i64 ((k:Int) + 1)) else .inr (.inr b)))
  (he:f n=some (.inr (.inl ()))):aG f 0=some (if (List.range n).all p=true then .inl () else .inr b):=by
 rw [vA n (fun k=>if p k=true then none else some b) f (fun k hk=>by
  rw [hf k hk,aQ hk hn]
  cases p k<;>rfl) he]
 have key:∀ l:List Nat,l.findSome? (fun k=>if p k=true then none else some b)=if l.all p=true then none else some b:=by
  intro l
  induction l with
  | nil=>rfl
  | cons x l ih =>
   rw [List.findSome?_cons,List.all_cons]
   cases hp:p x
   ·simp
   ·simp only [if_true,Bool.true_and];exact ih
 rw [key]
 cases (List.range n).all p<;>rfl
theorem aCc (k:Int):(iH k).2 ≤ 12:=by
 unfold iH
 repeat' split
 all_goals simp
theorem aG2:rA ⟨#[]⟩=false:=by
 unfold rA
 have:inB ((⟨#[]⟩:ByteArray).size:Int) 1 8=false:=rfl
 rw [this];rfl
theorem aB2 (nodes:List GNode) (hn:nodes.length ≤ 1048576) (k:Int):mM nodes k=some (decide (0 ≤ k) && mR nodes k.toNat):=by
 unfold mM
 simp only [bQ,Option.bind_some,iO hn]
 by_cases hi:inB k 0 ((nodes.length:Int) - 1)=true
 ·have hi':=inB_iff.1 hi
  have hk:k.toNat < nodes.length:=by omega
  have hkk:k=((k.toNat:Nat):Int):=by omega
  rw [decide_eq_true hi'.1,Bool.true_and]
  generalize k.toNat=m at *
  subst hkk
  unfold mR
  rw [List.getElem?_eq_getElem hk,aD hk]
  simp only [hi,Bool.not_true,Bool.false_eq_true,if_false,Option.bind_some,aD1]
  generalize nodes[m]=x
  cases h1:inB x.Kind 1 20
  ·rfl
  cases h2:inB x.Kids.length (iH x.Kind).1 (iH x.Kind).2
  ·rfl
  have h2':=inB_iff.1 h2
  have hs:=aCc x.Kind
  have hkl:x.Kids.length ≤ 1048576:=by omega
  have hw:IntKind.wrap .i64 ((m:Int) - 1)=(m:Int) - 1:=w64 (by omega) (by omega)
  rw [nO x.Kids.length hkl (aOh nodes m x) false (fL nodes m x) (fun i hi=>by
   have hsub:subI x.Kids 0 (i:Int)=some (x.Kids.take i):=by
    unfold subI;rw [if_pos ⟨by omega,by omega,by omega⟩];simp
   simp only [fL,aB hi,if_true,aD hi,Option.bind_some,bQ,hw,hsub,zW (x.Kids.take i) _ (by simp;omega),zM]
   rw [aG8 hi]
   cases h3:inB x.Kids[i] 0 ((m:Int) - 1)
   ·rfl
   have h3':=inB_iff.1 h3
   cases h4:(x.Kids.take i).contains x.Kids[i]
   ·have hlt:x.Kids[i].toNat < nodes.length:=by omega
    rw [cN h3'.1 (by omega),List.getElem?_eq_getElem hlt]
    simp only [Bool.not_true,Bool.false_eq_true,if_false,Option.bind_some,Bool.not_false,Bool.true_and]
    cases tQ x.Kind i nodes[x.Kids[i].toNat].Kind<;>rfl
   ·rfl) (by simp [fL])]
  have hkk:(List.range x.Kids.length).all (aOh nodes m x)=aKm nodes m x:=rfl
  rw [hkk]
  cases aKm nodes m x
  ·rfl
  unfold aMk aHc
  simp only [zP,nG,Option.bind_some,Bool.not_true,Bool.false_eq_true,if_false,if_true]
  by_cases hkd:x.Kind=1
  ·have e:(x.Kind == 1)=true:=by simpa using hkd
   rw [if_pos hkd,if_pos e]
   cases inB x.Num 0 1000000000
   ·rfl
   cases pA x.Kind<;>rfl
  ·have e:¬ (x.Kind == 1)=true:=by simpa using hkd
   have e2:(x.Num != 0) = !(x.Num == 0):=rfl
   rw [if_neg hkd,if_neg e,e2]
   cases x.Num == 0
   ·rfl
   cases pA x.Kind<;>rfl
 ·simp only [Bool.eq_false_iff.2 hi,Bool.not_false,if_true]
  have hi':=inB_false.1 (Bool.eq_false_iff.2 hi)
  congr 1
  by_cases h0:0 ≤ k
  ·unfold mR
   rw [List.getElem?_eq_none (by omega)];simp
  ·simp [h0]
theorem aAe (nodes:List GNode) (hn:nodes.length ≤ 1048576) (k:Int):lR nodes k=some (decide (0 ≤ k) && mR nodes k.toNat):=by
 unfold lR
 simp only [dM,Option.bind_some,iO hn]
 by_cases hi:inB k 0 ((nodes.length:Int) - 1)=true
 ·have hi':=inB_iff.1 hi
  have hk:k.toNat < nodes.length:=by omega
  have hkk:k=((k.toNat:Nat):Int):=by omega
  rw [decide_eq_true hi'.1,Bool.true_and]
  generalize k.toNat=m at *
  subst hkk
  unfold mR
  rw [List.getElem?_eq_getElem hk,aD hk]
  simp only [hi,Bool.not_true,Bool.false_eq_true,if_false,Option.bind_some,xY]
  generalize nodes[m]=x
  cases h1:inB x.Kind 1 20
  ·rfl
  simp only [Bool.not_true,Bool.false_eq_true,if_false,Bool.true_and]
  cases h2:inB x.Kids.length (iH x.Kind).1 (iH x.Kind).2
  ·rfl
  have h2':=inB_iff.1 h2
  have hs:=aCc x.Kind
  have hkl:x.Kids.length ≤ 1048576:=by omega
  have hw:IntKind.wrap .i64 ((m:Int) - 1)=(m:Int) - 1:=w64 (by omega) (by omega)
  rw [nO x.Kids.length hkl (aOh nodes m x) false (fC nodes m x) (fun i hi=>by
   simp only [fC,aB hi,if_true,aD hi,Option.bind_some,dM,hw,yB]
   rw [nO i (by omega) (fun j=>!(x.Kids[i] == (x.Kids[j]?).getD 0)) (.inr (.inr false)) (fB x i) (fun j hj=>by
    have hjl:j < x.Kids.length:=by omega
    simp only [fB,aB hj,if_true,aD hi,aD hjl,Option.bind_some,List.getElem?_eq_getElem hjl,Option.getD_some]
    cases x.Kids[i] == x.Kids[j]<;>rfl) (by simp [fB])]
   have hall:(List.range i).all (fun j=>!(x.Kids[i] == (x.Kids[j]?).getD 0)) = !((x.Kids.take i).contains x.Kids[i]):=by
    rw [Bool.eq_iff_iff]
    simp only [List.all_eq_true,List.mem_range,Bool.not_eq_true',List.contains_eq_mem,decide_eq_false_iff_not,beq_eq_false_iff_ne,ne_eq]
    constructor
    ·intro h hm
     obtain ⟨j,hj,e⟩:=List.mem_iff_getElem.1 hm
     simp only [List.length_take] at hj
     rw [List.getElem_take] at e
     refine h j (by omega) ?_
     rw [List.getElem?_eq_getElem (by omega)]
     exact e.symm
    ·intro h j hj e
     rw [List.getElem?_eq_getElem (show j < x.Kids.length by omega)] at e
     refine h ?_
     rw [e]
     refine List.mem_iff_getElem.2 ⟨j,by simp only [List.length_take];omega,?_⟩
     rw [List.getElem_take];rfl
   rw [hall]
   rw [aG8 hi]
   cases h3:inB x.Kids[i] 0 ((m:Int) - 1)
   ·rfl
   have h3':=inB_iff.1 h3
   have hlt:x.Kids[i].toNat < nodes.length:=by omega
   rw [cN h3'.1 (by omega),List.getElem?_eq_getElem hlt]
   simp only [Bool.not_true,Bool.false_eq_true,if_false,Option.bind_some,Bool.true_and]
   cases tQ x.Kind i nodes[x.Kids[i].toNat].Kind<;>cases (x.Kids.take i).contains x.Kids[i]<;>rfl) (by simp [fC])]
  have hkk:(List.range x.Kids.length).all (aOh nodes m x)=aKm nodes m x:=rfl
  rw [hkk]
  unfold aMk aHc
  simp only [vV,nB,Option.bind_some,Bool.not_true,Bool.false_eq_true,if_false,if_true]
  have hname:(if (!(pA x.Kind == (!(sEq x.Name (⟨#[]⟩:ByteArray)))))=true then some true else if (!(sEq x.Name (⟨#[]⟩:ByteArray)))=true then some (!(rA x.Name)) else some false)=some (!(if pA x.Kind=true then rA x.Name else sEq x.Name ⟨#[]⟩)):=by
   cases he:sEq x.Name ⟨#[]⟩ with
   | true =>
    have:x.Name=⟨#[]⟩:=by rw [oK] at he;simpa using he
    cases pA x.Kind
    ·rfl
    ·rw [this,aG2];rfl
   | false =>
    cases pA x.Kind<;>rfl
  rw [hname]
  have hnum:(if (!(inB x.Num 0 1000000000))=true then some true else if (x.Kind != 1)=true then some (x.Num != 0) else some false)=some (!(if x.Kind=1 then inB x.Num 0 1000000000 else x.Num == 0)):=by
   have e2:(x.Num != 0) = !(x.Num == 0):=rfl
   by_cases hkd:x.Kind=1
   ·have e:(x.Kind != 1)=false:=by simp [hkd]
    rw [if_pos hkd,e]
    cases inB x.Num 0 1000000000<;>rfl
   ·have e:(x.Kind != 1)=true:=by simpa using hkd
    rw [if_neg hkd,e,e2]
    cases hz:x.Num == 0 with
    | true =>
     have:x.Num=0:=by simpa using hz
     rw [this];rfl
    | false=>cases inB x.Num 0 1000000000<;>rfl
  rw [hnum]
  generalize (if x.Kind=1 then inB x.Num 0 1000000000 else x.Num == 0)=u
  generalize (if pA x.Kind=true then rA x.Name else sEq x.Name ⟨#[]⟩)=v
  cases u<;>cases v<;>cases aKm nodes m x<;>rfl
 ·simp only [Bool.eq_false_iff.2 hi,Bool.not_false,if_true,Option.bind_some]
  have hi':=inB_false.1 (Bool.eq_false_iff.2 hi)
  congr 1
  by_cases h0:0 ≤ k
  ·unfold mR
   rw [List.getElem?_eq_none (by omega)];simp
  ·simp [h0]
end Go.OM
namespace Go.OM
def mx (a b:Int):Int:=if b > a then b else a
def aGl (nodes:List GNode) (out:List Int) (i:Nat):Int:=match nodes[i]? with
 | some x=>x.Kids.foldl (fun d kid=>mx d (out.getD kid.toNat 0 + 1)) 1
 | none=>1
def iF (nodes:List GNode):Nat→List Int
 | 0=>[]
 | n + 1=>iF nodes n ++ [aGl nodes (iF nodes n) n]
def okU (nodes:List GNode):Nat→Bool
 | 0=>true
 | n + 1=>okU nodes n && (mR nodes n && decide (aGl nodes (iF nodes n) n ≤ 10))
def nI (nodes:List GNode) (k:Nat):Int:=aGl nodes (iF nodes k) k
theorem eW (nodes:List GNode):∀ n,(iF nodes n).length=n
 | 0=>rfl
 | n + 1=>by simp [iF,eW nodes n]
theorem kV (nodes:List GNode):∀ (n j:Nat),j < n→(iF nodes n)[j]? = some (nI nodes j)
 | 0,j,h=>by omega
 | n + 1,j,h=>by
  simp only [iF]
  rcases Nat.lt_or_ge j n with h1 | h1
  ·rw [List.getElem?_append_left (by rw [eW];exact h1)]
   exact kV nodes n j h1
  ·have:j=n:=by omega
   subst this
   rw [List.getElem?_append_right (by rw [eW];omega),eW]
   simp [nI]
theorem wX {nodes : List GNode} : ∀ {n m : Nat}, m ≤ n → okU nodes n = true → okU nodes m = true
  | 0, m, h, h1 => by have : m = 0 := by omega
                      subst this; rfl
  | n + 1, m, h, h1 => by
    by_cases e : m = n + 1
    · subst e; exact h1
    · simp only [okU, Bool.and_eq_true] at h1
      exact wX (by omega) h1.1
theorem kF {nodes:List GNode} {n j:Nat} (h:okU nodes n=true) (hj:j < n):mR nodes j=true∧nI nodes j ≤ 10:=by
 have:=wX (show j + 1 ≤ n by omega) h
 simp only [okU,Bool.and_eq_true,decide_eq_true_eq] at this
 exact this.2
theorem mx_ge (l:List Int) (g:Int→Int):∀ d,d ≤ l.foldl (fun d kid=>mx d (g kid)) d∧∀ kid ∈ l,g kid ≤ l.foldl (fun d kid=>mx d (g kid)) d:=by
 induction l with
 | nil=>intro d;simp
 | cons x l ih =>
  intro d
  rw [List.foldl_cons]
  obtain ⟨h1,h2⟩:=ih (mx d (g x))
  have h3:d ≤ mx d (g x)∧g x ≤ mx d (g x):=by unfold mx;split<;>omega
  refine ⟨by omega,fun kid hk=>?_⟩
  rcases List.mem_cons.1 hk with rfl | hk
  ·omega
  ·exact h2 kid hk
theorem hE (nodes:List GNode) (k:Nat):1 ≤ nI nodes k:=by
 unfold nI aGl
 split
 ·exact (mx_ge _ _ 1).1
 ·omega
theorem lW {nodes:List GNode} {k:Nat} (h:mR nodes k=true):∃ (hk:k < nodes.length),inB nodes[k].Kind 1 20=true∧inB nodes[k].Kids.length (iH nodes[k].Kind).1 (iH nodes[k].Kind).2=true∧(∀ (i:Nat) (hi:i < nodes[k].Kids.length),(0 ≤ nodes[k].Kids[i]∧nodes[k].Kids[i] < k)∧¬ nodes[k].Kids[i] ∈ nodes[k].Kids.take i∧∃ y,nodes[(nodes[k].Kids[i]).toNat]? = some y∧tQ nodes[k].Kind i y.Kind=true)∧aMk nodes[k]=true∧aHc nodes[k]=true:=by
 unfold mR at h
 split at h
 ·cases h
 ·rename_i x hx
  obtain ⟨hk,hxe⟩:=List.getElem?_eq_some_iff.1 hx
  subst hxe
  simp only [Bool.and_eq_true] at h
  obtain ⟨h1,h2,h3,h4,h5⟩:=h
  refine ⟨hk,h1,h2,fun i hi=>?_,h4,h5⟩
  have:=List.all_eq_true.1 h3 i (List.mem_range.2 hi)
  rw [aG8 hi] at this
  simp only [Bool.and_eq_true,inB_iff,Bool.not_eq_true',List.contains_eq_mem,decide_eq_false_iff_not] at this
  obtain ⟨g1,g2,g3⟩:=this
  refine ⟨⟨g1.1,by omega⟩,g2,?_⟩
  split at g3
  ·rename_i y hy;exact ⟨y,hy,g3⟩
  ·cases g3
theorem iJ {nodes:List GNode} {k:Nat} (h:mR nodes k=true) {x:GNode} (hx:nodes[k]? = some x):∀ kid ∈ x.Kids,0 ≤ kid∧kid < k:=by
 obtain ⟨hk,_,_,h3,_⟩:=lW h
 obtain ⟨_,hxe⟩:=List.getElem?_eq_some_iff.1 hx
 subst hxe
 intro kid hm
 obtain ⟨i,hi,rfl⟩:=List.mem_iff_getElem.1 hm
 exact (h3 i hi).1
theorem dX {nodes:List GNode} {k:Nat} (h:mR nodes k=true) {x:GNode} (hx:nodes[k]? = some x):x.Kids.length ≤ 12:=by
 obtain ⟨hk,_,h2,_⟩:=lW h
 obtain ⟨_,hxe⟩:=List.getElem?_eq_some_iff.1 hx
 subst hxe
 have:=inB_iff.1 h2
 have:=aCc nodes[k].Kind
 omega
theorem xD {nodes:List GNode} {k:Nat} (h:mR nodes k=true) {x:GNode} (hx:nodes[k]? = some x) {kid:Int} (hm:kid ∈ x.Kids):nI nodes kid.toNat < nI nodes k:=by
 have hb:=iJ h hx kid hm
 have:nI nodes k=x.Kids.foldl (fun d kid=>mx d ((iF nodes k).getD kid.toNat 0 + 1)) 1:=by unfold nI aGl;rw [hx]
 rw [this]
 have h2:=(mx_ge x.Kids (fun kid=>(iF nodes k).getD kid.toNat 0 + 1) 1).2 kid hm
 have h3:(iF nodes k).getD kid.toNat 0=nI nodes kid.toNat:=by
  rw [List.getD_eq_getElem?_getD,kV nodes k kid.toNat (by omega)];rfl
 rw [h3] at h2
 omega
theorem aJ2 (nodes:List GNode) (k:Nat) (x:GNode) (hx:nodes[k]? = some x) (hok:okU nodes k=true) (hn:mR nodes k=true):aG (eC (iF nodes k) x) (1,0)=some (nI nodes k):=by
 have hkl:=dX hn hx
 have hkb:=iJ hn hx
 have hg:∀ kid ∈ x.Kids,(iF nodes k).getD kid.toNat 0=nI nodes kid.toNat:=fun kid hm=>by
  have:=hkb kid hm
  rw [List.getD_eq_getElem?_getD,kV nodes k kid.toNat (by omega)];rfl
 have:=bB x.Kids (fun (d:Int) j=>(d,(j:Int))) (fun j d=>True) (fun d kid=>.inl (mx d ((iF nodes k).getD kid.toNat 0 + 1))) id (eC (iF nodes k) x) (fun d j hj _=>by
  left
  have hm:=List.getElem_mem hj
  have hb:=hkb _ hm
  have hd:=kF hok (show x.Kids[j].toNat < k by omega)
  have hp:=hE nodes x.Kids[j].toNat
  refine ⟨_,rfl,?_,trivial⟩
  have hlt:x.Kids[j].toNat < (iF nodes k).length:=by rw [eW];omega
  have hge:(iF nodes k)[x.Kids[j].toNat]=nI nodes x.Kids[j].toNat:=by
   have:=kV nodes k x.Kids[j].toNat (by omega)
   rw [List.getElem?_eq_getElem hlt] at this
   exact Option.some.inj this
  simp only [eC,aB hj,if_true,aD hj,Option.bind_some]
  rw [cN hb.1 (by rw [eW];omega),hge]
  simp only [Option.bind_some,w64 (n:=nI nodes x.Kids[j].toNat + 1) (by omega) (by omega),aQ hj (by omega),hg _ hm]
  rfl) (fun d _=>by simp [eC]) 1 trivial
 rw [bT] at this
 unfold nI aGl
 rw [hx]
 exact this
theorem aAz (nodes:List GNode) (hn:nodes.length ≤ 1048576) (k:Int):mJ nodes k=some (if 0 ≤ k∧k < nodes.length∧okU nodes (k.toNat + 1)=true then (iF nodes (k.toNat + 1),true) else ([],false)):=by
 unfold mJ
 simp only [bQ,Option.bind_some,iO hn]
 by_cases hi:inB k 0 ((nodes.length:Int) - 1)=true
 ·have hi':=inB_iff.1 hi
  have hkk:k=((k.toNat:Nat):Int):=by omega
  have hk:k.toNat < nodes.length:=by omega
  generalize k.toNat=m at *
  subst hkk
  simp only [hi,Bool.not_true,Bool.false_eq_true,if_false]
  obtain ⟨r,h1,h2⟩:=cC (f:=fI nodes m) (fun s:List Int × Int=>∃ i:Nat,s.2=i∧i ≤ m + 1∧s.1=iF nodes i∧okU nodes i=true) (fun s=>m + 1 - s.2.toNat) (fun r=>r=if okU nodes (m + 1)=true then Sum.inl (iF nodes (m + 1)) else Sum.inr ([],false)) (by
   rintro ⟨out,i⟩ ⟨i,rfl,hle,ho,hok⟩
   simp only at ho hle
   subst ho
   by_cases hlt:i ≤ m
   ·have hd:decide ((i:Int) ≤ (m:Int))=true:=by simp only [decide_eq_true_eq];omega
    have hil:i < nodes.length:=by omega
    simp only [fI,hd,if_true,aB2 nodes hn,Option.bind_some,Int.toNat_natCast]
    have h0:decide ((0:Int) ≤ (i:Int))=true:=by simp
    rw [h0,Bool.true_and]
    cases hnb:mR nodes i with
    | false =>
     right
     refine ⟨.inr ([],false),by simp,?_⟩
     have:okU nodes (m + 1)=false:=by
      rw [Bool.eq_false_iff]
      intro h
      rw [(kF h (show i < m + 1 by omega)).1] at hnb
      cases hnb
     rw [this];rfl
    | true =>
     simp only [Bool.not_true,Bool.false_eq_true,if_false,aD hil,Option.bind_some]
     rw [aJ2 nodes i _ (List.getElem?_eq_getElem hil) hok hnb]
     simp only [Option.bind_some]
     by_cases hd10:nI nodes i > 10
     ·right
      rw [if_pos (by simpa using hd10)]
      refine ⟨.inr ([],false),rfl,?_⟩
      have:okU nodes (m + 1)=false:=by
       rw [Bool.eq_false_iff]
       intro h
       have:=(kF h (show i < m + 1 by omega)).2
       omega
      rw [this];rfl
     ·left
      rw [if_neg (by simpa using hd10),aOr (by rw [eW];omega) (by omega)]
      refine ⟨(iF nodes (i + 1),((i + 1:Nat):Int)),?_,⟨i + 1,rfl,by omega,rfl,?_⟩,by simp only [Int.toNat_natCast];omega⟩
      ·simp only [Option.bind_some,aQ hil hn]
       rfl
      ·simp only [okU,hok,hnb,Bool.true_and,decide_eq_true_eq]
       show nI nodes i ≤ 10
       omega
   ·right
    have:i=m + 1:=by omega
    subst this
    have hd:decide (((m + 1:Nat):Int) ≤ (m:Int))=false:=by simp only [decide_eq_false_iff_not];omega
    refine ⟨.inl (iF nodes (m + 1)),by simp only [fI,hd,Bool.false_eq_true,if_false],?_⟩
    rw [hok];rfl) ([],0) ⟨0,rfl,by omega,rfl,rfl⟩
  rw [h1,h2]
  by_cases hok:okU nodes (m + 1)=true
  ·rw [if_pos hok,if_pos (show 0 ≤ (m:Int)∧(m:Int) < nodes.length∧okU nodes (m + 1)=true from ⟨by omega,by omega,hok⟩)];rfl
  ·rw [if_neg hok,if_neg (show ¬ (0 ≤ (m:Int)∧(m:Int) < nodes.length∧okU nodes (m + 1)=true) from fun h=>hok h.2.2)];rfl
 ·have hi':=inB_false.1 (Bool.eq_false_iff.2 hi)
  simp only [Bool.eq_false_iff.2 hi,Bool.not_false,if_true]
  rw [if_neg (show ¬ (0 ≤ k∧k < nodes.length∧okU nodes (k.toNat + 1)=true) from fun h=>hi' ⟨h.1,by omega⟩)]
def vD (nodes:List GNode) (k:Int):Int:=if 0 ≤ k∧k < nodes.length∧okU nodes (k.toNat + 1)=true then nI nodes k.toNat else 0
theorem rO (nodes:List GNode) (hn:nodes.length ≤ 1048576) (k:Int):jS nodes k=some (vD nodes k):=by
 unfold jS vD
 rw [aAz nodes hn]
 by_cases h:0 ≤ k∧k < nodes.length∧okU nodes (k.toNat + 1)=true
 ·rw [if_pos h,if_pos h]
  have hlt:k.toNat < (iF nodes (k.toNat + 1)).length:=by rw [eW];omega
  simp only [Option.bind_some,Bool.not_true,Bool.false_eq_true,if_false]
  rw [cN h.1 (by rw [eW];omega)]
  have:=kV nodes (k.toNat + 1) k.toNat (by omega)
  rw [List.getElem?_eq_getElem hlt] at this
  simp only [Option.bind_some]
  exact this
 ·rw [if_neg h,if_neg h];rfl
def jK (nodes:List GNode) (n:Nat):List Int:=(List.range n).map fun j=>if okU nodes (j + 1)=true then nI nodes j else 0
theorem uG (nodes:List GNode) (n:Nat):(jK nodes n).length=n:=by simp [jK]
theorem qR (nodes:List GNode) {n j:Nat} (h:j < n):(jK nodes n)[j]? = some (if okU nodes (j + 1)=true then nI nodes j else 0):=by
 unfold jK
 rw [List.getElem?_map,List.getElem?_range h];rfl
theorem aDw {nodes:List GNode} {n:Nat} (h:okU nodes n=true):jK nodes n=iF nodes n:=by
 apply List.ext_getElem?
 intro j
 by_cases hj:j < n
 ·rw [qR nodes hj,kV nodes n j hj,if_pos (wX (by omega) h)]
 ·rw [List.getElem?_eq_none (by rw [uG];omega),List.getElem?_eq_none (by rw [eW];omega)]
theorem aId (nodes:List GNode) (k:Nat) (hk:k < nodes.length) (hok:okU nodes k=true) (hn:mR nodes k=true):aG (bE nodes (iF nodes k) k) (1,0)=some (nI nodes k):=by
 have hx:nodes[k]? = some nodes[k]:=List.getElem?_eq_getElem hk
 generalize hgx:nodes[k]=x at *
 have hkl:=dX hn hx
 have hkb:=iJ hn hx
 have hg:∀ kid ∈ x.Kids,(iF nodes k).getD kid.toNat 0=nI nodes kid.toNat:=fun kid hm=>by
  have:=hkb kid hm
  rw [List.getD_eq_getElem?_getD,kV nodes k kid.toNat (by omega)];rfl
 have hgk:aK nodes (k:Int)=some x:=by rw [aD hk,hgx]
 have:=bB x.Kids (fun (d:Int) j=>(d,(j:Int))) (fun j d=>0 < d) (fun d kid=>.inl (mx d ((iF nodes k).getD kid.toNat 0 + 1))) id (bE nodes (iF nodes k) k) (fun d j hj hpos=>by
  left
  have hm:=List.getElem_mem hj
  have hb:=hkb _ hm
  have hd:=kF hok (show x.Kids[j].toNat < k by omega)
  have hp:=hE nodes x.Kids[j].toNat
  refine ⟨_,rfl,?_,by unfold mx;split<;>omega⟩
  have hlt:x.Kids[j].toNat < (iF nodes k).length:=by rw [eW];omega
  have hge:(iF nodes k)[x.Kids[j].toNat]=nI nodes x.Kids[j].toNat:=by
   have:=kV nodes k x.Kids[j].toNat (by omega)
   rw [List.getElem?_eq_getElem hlt] at this
   exact Option.some.inj this
  have hp0:decide (d > 0)=true:=by simpa using hpos
  have hgi:aK (iF nodes k) x.Kids[j]=some (nI nodes x.Kids[j].toNat):=by rw [cN hb.1 (by rw [eW];omega),hge]
  simp only [bE,hp0,if_true,hgk,Option.bind_some,aB hj,aD hj,hgi,w64 (n:=nI nodes x.Kids[j].toNat + 1) (by omega) (by omega),aQ hj (by omega),hg _ hm]
  unfold mx
  by_cases hgt:nI nodes x.Kids[j].toNat + 1 > d
  ·rw [if_pos (by simpa using hgt),if_pos hgt]
  ·rw [if_neg (by simpa using hgt),if_neg hgt]) (fun d hd=>by
  have hp0:decide (d > 0)=true:=by simpa using hd
  simp [bE,hp0,hgk]) 1 (by omega)
 rw [bT] at this
 unfold nI aGl
 rw [hx]
 exact this
theorem sK (nodes:List GNode) (hn:nodes.length ≤ 1048576) (k:Nat) (hk:k < nodes.length):fZ nodes k=some (jK nodes (k + 1)):=by
 unfold fZ
 obtain ⟨r,h1,h2⟩:=cC (f:=dL nodes k) (fun s:List Int × Int=>∃ i:Nat,s.2=i∧i ≤ k + 1∧s.1=jK nodes i) (fun s=>k + 1 - s.2.toNat) (fun r=>r=jK nodes (k + 1)) (by
  rintro ⟨out,i⟩ ⟨i,rfl,hle,ho⟩
  simp only at ho hle
  subst ho
  by_cases hlt:i ≤ k
  ·left
   have hd:decide ((i:Int) ≤ (k:Int))=true:=by simp only [decide_eq_true_eq];omega
   have hil:i < nodes.length:=by omega
   have hd2:decide ((i:Int) < (nodes.length:Int))=true:=by simp only [decide_eq_true_eq];omega
   have h0:decide ((0:Int) ≤ (i:Int))=true:=by simp
   refine ⟨(jK nodes (i + 1),((i + 1:Nat):Int)),?_,⟨i + 1,rfl,by omega,rfl⟩,by simp only [Int.toNat_natCast];omega⟩
   simp only [dL,hd,hd2,if_true,aAe nodes hn,Option.bind_some,Int.toNat_natCast,h0,Bool.true_and]
   -- is it right so far?
   have hflag:(if (!(mR nodes i))=true then some true else if (decide ((i:Int) > 0))=true then (aK (jK nodes i) (IntKind.wrap .i64 ((i:Int) - 1))).bind fun e32=>some (e32 == 0) else some false)=some (!(mR nodes i && okU nodes i)):=by
    cases hnb:mR nodes i with
    | false=>rfl
    | true =>
     simp only [Bool.not_true,Bool.false_eq_true,if_false,Bool.true_and]
     by_cases hz:i=0
     ·subst hz;rfl
     ·have hp:decide ((i:Int) > 0)=true:=by simp only [decide_eq_true_eq];omega
      have hw:IntKind.wrap .i64 ((i:Int) - 1)=((i - 1:Nat):Int):=by rw [w64 (by omega) (by omega)];omega
      rw [if_pos hp,hw,aD6,qR nodes (show i - 1 < i by omega),show i - 1 + 1=i by omega]
      simp only [Option.bind_some]
      cases hok:okU nodes i with
      | true =>
       have:=hE nodes (i - 1)
       have hne:¬ nI nodes (i - 1)=0:=by omega
       simp [hne]
      | false=>simp
   rw [hflag]
   simp only [Option.bind_some]
   have hfin:(Option.bind (if (!(mR nodes i && okU nodes i))=true then some 0 else some (1:Int)) fun deep36=>Option.bind (aG (bE nodes (jK nodes i) i) (deep36,0)) fun deep62=>Option.bind (if (decide (deep62 > 10))=true then some 0 else some deep62) fun deep68=>(lM 8 (jK nodes i) [deep68]).bind fun l69=>some l69)=some (jK nodes (i + 1)):=by
    have hsucc:jK nodes (i + 1)=jK nodes i ++ [if okU nodes (i + 1)=true then nI nodes i else 0]:=by
     unfold jK;rw [List.range_succ,List.map_append];rfl
    have happ:∀ z:Int,lM 8 (jK nodes i) [z]=some (jK nodes i ++ [z]):=fun z=>aOr (by rw [uG];omega) (by omega)
    cases hb:(mR nodes i && okU nodes i) with
    | true =>
     simp only [Bool.and_eq_true] at hb
     simp only [Bool.not_true,Bool.false_eq_true,if_false,Option.bind_some]
     rw [aDw hb.2,aId nodes i hil hb.2 hb.1,← aDw hb.2]
     simp only [Option.bind_some]
     rw [hsucc]
     by_cases hd10:nI nodes i > 10
     ·have hf:okU nodes (i + 1)=false:=by
       rw [Bool.eq_false_iff]
       intro h
       have:=(kF h (Nat.lt_succ_self i)).2
       omega
      rw [if_pos (by simpa using hd10),hf]
      simp only [Option.bind_some,happ,Bool.false_eq_true,if_false]
     ·have hf:okU nodes (i + 1)=true:=by
       simp only [okU,hb.1,hb.2,Bool.true_and,decide_eq_true_eq]
       show nI nodes i ≤ 10
       omega
      rw [if_neg (by simpa using hd10),hf]
      simp only [Option.bind_some,happ,if_true]
    | false =>
     have hf:okU nodes (i + 1)=false:=by
      rw [Bool.eq_false_iff]
      intro h
      simp only [okU,Bool.and_eq_true] at h
      rw [h.1,h.2.1] at hb
      cases hb
     simp only [Bool.not_false,if_true,Option.bind_some]
     rw [gT (r:=(0:Int)) (by simp [bE])]
     simp only [Option.bind_some]
     rw [hsucc,hf]
     simp [happ]
   have:=congrArg (fun z=>Option.bind z fun out70:List Int=>(some (Sum.inl (out70,IntKind.wrap .i64 ((i:Int) + 1))):Option ((List Int × Int) ⊕ List Int))) hfin
   simp only [Option.bind_some,aQ hil hn] at this
   rw [aQ hil hn]
   exact this
  ·right
   have:i=k + 1:=by omega
   subst this
   have hd:decide (((k + 1:Nat):Int) ≤ (k:Int))=false:=by simp only [decide_eq_false_iff_not];omega
   exact ⟨_,by simp only [dL,hd,Bool.false_eq_true,if_false,Option.bind_some],rfl⟩) ([],0) ⟨0,rfl,by omega,rfl⟩
 rw [h1,h2]
 rfl
theorem aAg (nodes:List GNode) (hn:nodes.length ≤ 1048576) (k:Int):lS nodes k=some (vD nodes k):=by
 unfold lS vD
 simp only [dM,Option.bind_some,iO hn]
 by_cases hi:inB k 0 ((nodes.length:Int) - 1)=true
 ·have hi':=inB_iff.1 hi
  have hkk:k=((k.toNat:Nat):Int):=by omega
  have hk:k.toNat < nodes.length:=by omega
  generalize k.toNat=m at *
  subst hkk
  simp only [hi,Bool.not_true,Bool.false_eq_true,if_false]
  rw [sK nodes hn m hk]
  simp only [Option.bind_some,aD6]
  rw [qR nodes (Nat.lt_succ_self m)]
  by_cases hok:okU nodes (m + 1)=true
  ·rw [if_pos hok,if_pos (show 0 ≤ (m:Int)∧(m:Int) < nodes.length∧okU nodes (m + 1)=true from ⟨by omega,by omega,hok⟩)];rfl
  ·rw [if_neg hok,if_neg (show ¬ (0 ≤ (m:Int)∧(m:Int) < nodes.length∧okU nodes (m + 1)=true) from fun h=>hok h.2.2)];rfl
 ·have hi':=inB_false.1 (Bool.eq_false_iff.2 hi)
  simp only [Bool.eq_false_iff.2 hi,Bool.not_false,if_true]
  rw [if_neg (show ¬ (0 ≤ k∧k < nodes.length∧okU nodes (k.toNat + 1)=true) from fun h=>hi' ⟨h.1,by omega⟩)]
end Go.OM
namespace Go.OM
theorem aIj:iA=1048576:=rfl
theorem aBt {nodes:List GNode} {k:Int} (h:vD nodes k ≠ 0):0 ≤ k∧k < nodes.length∧okU nodes (k.toNat + 1)=true:=by
 unfold vD at h
 split at h
 ·assumption
 ·exact absurd rfl h
end Go.OM
namespace Go.OM
def yM (x:GParam):Bool:=rA x.Name && inB x.Typ 1 4
def aGp (p:GProgram) (f:GFn):Bool:=inB f.Body 0 ((p.Nodes.length:Int) - 1) && (match p.Nodes[f.Body.toNat]? with | some x=>x.Kind == 20 | none=>false)
def retB (p:GProgram) (f:GFn):Bool:=if f.Res=0 then f.Ret == -1 else inB f.Ret 0 ((p.Nodes.length:Int) - 1) && (match p.Nodes[f.Ret.toNat]? with | some x=>pJ x.Kind | none=>false)
def fnB (p:GProgram) (f:GFn):Bool:=rA f.Name && (!decide ((f.Params.length:Int) > 3) && (inB f.Res 0 2 && (f.Params.all yM && (aGp p f && retB p f))))
theorem bodyB_iff {p:GProgram} {f:GFn}:aGp p f=true ↔ 0 ≤ f.Body∧f.Body < p.Nodes.length∧∃ x,p.Nodes[f.Body.toNat]? = some x∧x.Kind=20:=by
 unfold aGp
 rw [Bool.and_eq_true,inB_iff]
 constructor
 ·rintro ⟨⟨h1,h2⟩,h3⟩
  refine ⟨h1,by omega,?_⟩
  split at h3
  ·rename_i x hx;exact ⟨x,hx,by simpa using h3⟩
  ·cases h3
 ·rintro ⟨h1,h2,x,hx,hk⟩
  refine ⟨⟨h1,by omega⟩,?_⟩
  rw [hx];simpa using hk
theorem aFg (p:GProgram) (f:GFn) (hn:p.Nodes.length ≤ 1048576) (g:Bool→Option Bool):(Option.bind (if (!(inB f.Body 0 ((p.Nodes.length:Int) - 1)))=true then some true else (aK p.Nodes f.Body).bind fun e=>some (e.Kind != 20)) fun v=>g v)=g (!(aGp p f)):=by
 unfold aGp
 cases h:inB f.Body 0 ((p.Nodes.length:Int) - 1) with
 | false=>rfl
 | true =>
  have h':=inB_iff.1 h
  have hlt:f.Body.toNat < p.Nodes.length:=by omega
  rw [cN h'.1 (by omega),List.getElem?_eq_getElem hlt]
  rfl
theorem aH5 (p:GProgram) (f:GFn) (hn:p.Nodes.length ≤ 1048576):(if (f.Res == 0)=true then some (f.Ret == (-1)) else Option.bind (if inB f.Ret 0 ((p.Nodes.length:Int) - 1)=true then (aK p.Nodes f.Ret).bind fun e=>some (pJ e.Kind) else some false) fun v=>some v)=some (retB p f):=by
 unfold retB
 by_cases h0:f.Res=0
 ·rw [if_pos (by simpa using h0),if_pos h0]
 ·rw [if_neg (by simpa using h0),if_neg h0]
  cases h:inB f.Ret 0 ((p.Nodes.length:Int) - 1) with
  | false=>rfl
  | true =>
   have h':=inB_iff.1 h
   have hlt:f.Ret.toNat < p.Nodes.length:=by omega
   rw [cN h'.1 (by omega),List.getElem?_eq_getElem hlt]
   rfl
theorem aEu (p:GProgram) (f:GFn) (hn:p.Nodes.length ≤ 1048576):qJ p f=some (fnB p f):=by
 unfold qJ fnB
 simp only [nG,bQ,qH,Option.bind_some,iO hn]
 cases hnm:rA f.Name with
 | false=>rfl
 | true =>
  simp only [Bool.not_true,Bool.false_eq_true,if_false,Bool.true_and]
  by_cases hp3:(f.Params.length:Int) > 3
  ·rw [if_pos (by simpa using hp3),decide_eq_true hp3];rfl
  ·rw [if_neg (by simpa using hp3),decide_eq_false hp3]
   simp only [Bool.not_false,Bool.true_and]
   have hres:(if (f.Res != 0)=true then if (f.Res != 1)=true then some (f.Res != 2) else some false else some false)=some (!(inB f.Res 0 2)):=by
    by_cases h0:f.Res=0
    ·rw [h0];rfl
    ·by_cases h1:f.Res=1
     ·rw [h1];rfl
     ·by_cases h2:f.Res=2
      ·rw [h2];rfl
      ·have:inB f.Res 0 2=false:=inB_false.2 (by omega)
       simp [this,h0,h1,h2]
   rw [hres]
   cases hin:inB f.Res 0 2 with
   | false=>rfl
   | true =>
    simp only [Option.bind_some,Bool.not_true,Bool.false_eq_true,if_false,Bool.true_and]
    rw [pW f.Params yM (iM f) (fun k hk=>by
     simp only [iM,aB hk,if_true,aD hk,Option.bind_some,nG,bQ,aQ hk (by omega)]
     unfold yM
     cases rA f.Params[k].Name
     ·rfl
     ·cases inB f.Params[k].Typ 1 4<;>rfl) (by simp [iM])]
    cases f.Params.all yM with
    | false=>rfl
    | true =>
     simp only [if_true,Option.bind_some,Bool.true_and]
     rw [aFg p f hn]
     cases aGp p f with
     | false=>rfl
     | true =>
      simp only [Bool.not_true,Bool.false_eq_true,if_false,Bool.true_and]
      exact aH5 p f hn
def aJ5 (p:GProgram) (nm:ByteArray) (k:Nat):Option Int:=match p.Fns[k]? with
 | some f=>if sEq f.Name nm=true then some (k:Int) else none
 | none=>none
def jF (p:GProgram) (nm:ByteArray):Int:=((List.range p.Fns.length).findSome? (aJ5 p nm)).getD (-1)
theorem qK (p:GProgram) (nm:ByteArray) (hp:p.Fns.length ≤ 1048576):mN p nm=some (jF p nm):=by
 unfold mN jF
 rw [vA p.Fns.length (aJ5 p nm) (iN p nm) (fun k hk=>by
  simp only [iN,aB hk,if_true,aD hk,Option.bind_some,aQ hk hp]
  unfold aJ5
  rw [List.getElem?_eq_getElem hk]
  cases h:sEq p.Fns[k].Name nm<;>simp [h]) (by simp [iN])]
 cases (List.range p.Fns.length).findSome? (aJ5 p nm)<;>rfl
theorem vK (p:GProgram) (nm:ByteArray) (hp:p.Fns.length ≤ 1048576):pT p nm=some (jF p nm):=qK p nm hp
theorem aCa (p:GProgram) (i:Nat) (hi:i < p.Fns.length) (hn:p.Nodes.length ≤ 1048576) (hp:p.Fns.length ≤ 1048576):nJ p i=some (fnB p p.Fns[i] && jF p p.Fns[i].Name == i):=by
 unfold nJ fnB
 simp only [aD hi,nB,dM,oX,vK p _ hp,Option.bind_some,iO hn]
 generalize p.Fns[i]=f
 cases hnm:rA f.Name with
 | false=>rfl
 | true =>
  simp only [Bool.not_true,Bool.false_eq_true,if_false,Bool.true_and]
  cases hat:jF p f.Name == i with
  | false =>
   have:(jF p f.Name != i)=true:=by simp only [bne,hat,Bool.not_false]
   rw [this,Bool.and_false];rfl
  | true =>
   have:(jF p f.Name != i)=false:=by simp only [bne,hat,Bool.not_true]
   rw [this,Bool.and_true]
   simp only [Bool.false_eq_true,if_false]
   by_cases hp3:(f.Params.length:Int) > 3
   ·rw [if_pos (by simpa using hp3),decide_eq_true hp3];rfl
   ·rw [if_neg (by simpa using hp3),decide_eq_false hp3]
    simp only [Bool.not_false,Bool.true_and]
    cases hin:inB f.Res 0 2 with
    | false=>rfl
    | true =>
     simp only [Option.bind_some,Bool.not_true,Bool.false_eq_true,if_false,Bool.true_and]
     rw [pW f.Params yM (fY f) (fun k hk=>by
      simp only [fY,aB hk,if_true,aD hk,Option.bind_some,nB,dM,aQ hk (by omega)]
      unfold yM
      cases rA f.Params[k].Name
      ·rfl
      ·cases inB f.Params[k].Typ 1 4<;>rfl) (by simp [fY])]
     cases f.Params.all yM with
     | false=>rfl
     | true =>
      simp only [if_true,Option.bind_some,Bool.true_and]
      rw [aFg p f hn]
      cases aGp p f with
      | false=>rfl
      | true =>
       simp only [Bool.not_true,Bool.false_eq_true,if_false,Bool.true_and]
       exact aH5 p f hn
def incs (d:Int) (l:List Int) (m:List Int):List Int:=l.foldl (fun m e=>m.set e.toNat (m.getD e.toNat 0 + d)) m
theorem aCw (d:Int):∀ (l m:List Int),(incs d l m).length=m.length
 | [],m=>rfl
 | e :: l,m=>by
  show (incs d l (m.set e.toNat (m.getD e.toNat 0 + d))).length=_
  rw [aCw d l];simp
theorem zH (d:Int) (a b m:List Int):incs d (a ++ b) m=incs d b (incs d a m):=by unfold incs;rw [List.foldl_append]
theorem aCx (d:Int) (k:Nat):∀ (l m:List Int),(∀ e ∈ l,0 ≤ e∧e < m.length)→(incs d l m).getD k 0=m.getD k 0 + d * (l.count (k:Int):Nat)
 | [],m,_=>by simp [incs]
 | e :: l,m,h=>by
  have he:=h e (by simp)
  have ih:=aCx d k l (m.set e.toNat (m.getD e.toNat 0 + d)) (fun x hx=>by rw [List.length_set];exact h x (by simp [hx]))
  show (incs d l (m.set e.toNat (m.getD e.toNat 0 + d))).getD k 0=_
  rw [ih,List.count_cons]
  by_cases hk:e.toNat=k
  ·have:(e == (k:Int))=true:=by simp only [beq_iff_eq];omega
   rw [if_pos this]
   have hg:(m.set e.toNat (m.getD e.toNat 0 + d)).getD k 0=m.getD k 0 + d:=by
    rw [List.getD_eq_getElem?_getD,List.getElem?_set,if_pos hk,if_pos (by omega),hk];rfl
   rw [hg,Int.natCast_add,Int.mul_add]
   simp only [Int.natCast_one,Int.mul_one]
   omega
  ·have:¬ (e == (k:Int))=true:=by simp only [beq_iff_eq];omega
   rw [if_neg this]
   have hg:(m.set e.toNat (m.getD e.toNat 0 + d)).getD k 0=m.getD k 0:=by
    rw [List.getD_eq_getElem?_getD,List.getElem?_set,if_neg hk,← List.getD_eq_getElem?_getD]
   rw [hg];rfl
structure Bd (n:Nat) (C:Int) (m:List Int):Prop where
 len:m.length=n
 bnd:∀ v ∈ m,0 ≤ v∧v ≤ C
theorem Bd.mono {n:Nat} {C C':Int} {m:List Int} (h:Bd n C m) (hc:C ≤ C'):Bd n C' m:=⟨h.len,fun v hv=>by have:=h.bnd v hv;omega⟩
theorem Bd.getD {n:Nat} {C:Int} {m:List Int} (h:Bd n C m) (hC:0 ≤ C) (k:Nat):0 ≤ m.getD k 0∧m.getD k 0 ≤ C:=by
 rw [List.getD_eq_getElem?_getD]
 cases hk:m[k]? with
 | none=>exact ⟨Int.le_refl 0,hC⟩
 | some v=>exact h.bnd v (List.mem_of_getElem? hk)
theorem Bd.set {n:Nat} {C d:Int} {m:List Int} (h:Bd n C m) (hC:0 ≤ C) (hd:0 ≤ d) (k:Nat):Bd n (C + d) (m.set k (m.getD k 0 + d)):=⟨by rw [List.length_set];exact h.len,fun v hv=>by
 rcases List.mem_or_eq_of_mem_set hv with h1 | h1
 ·have:=h.bnd v h1;omega
 ·have:=h.getD hC k;omega⟩
theorem Bd.incs {n:Nat} {d:Int} (hd:0 ≤ d):∀ (l:List Int) {C:Int} {m:List Int},0 ≤ C→Bd n C m→Bd n (C + d * l.length) (Go.OM.incs d l m)
 | [],C,m,hC,h=>by simpa [Go.OM.incs] using h
 | e :: l,C,m,hC,h=>by
  have:=Bd.incs hd l (C:=C + d) (by omega) (h.set hC hd e.toNat)
  refine this.mono ?_
  rw [List.length_cons,Int.natCast_add,Int.mul_add]
  simp only [Int.natCast_one,Int.mul_one]
  omega
theorem aHl {ρ:Type} (n:Nat) (kids:List Int) (hk:∀ e ∈ kids,0 ≤ e∧e < n) (C:Int) (hC:0 ≤ C) (f:List Int × Int→Option ((List Int × Int) ⊕ ρ)) (fin:List Int→ρ)
  (hf:∀ (m:List Int) (j:Nat) (hj:j < kids.length),Bd n (C + kids.length) m→f (m,j)=some (.inl (m.set kids[j].toNat (m.getD kids[j].toNat 0 + 1),((j + 1:Nat):Int))))
  (he:∀ m:List Int,f (m,kids.length)=some (.inr (fin m))) (m:List Int) (hm:Bd n C m):aG f (m,0)=some (fin (incs 1 kids m)):=by
 have:=bB kids (fun (m:List Int) j=>(m,(j:Int))) (fun j m=>Bd n (C + j) m) (fun m e=>.inl (m.set e.toNat (m.getD e.toNat 0 + 1))) fin f (fun m j hj hI=>by
  left
  refine ⟨_,rfl,hf m j hj (hI.mono (by omega)),?_⟩
  have:=hI.set (by omega) (show (0:Int) ≤ 1 by omega) kids[j].toNat
  exact this.mono (by omega)) (fun m _=>he m) m (by simpa using hm)
 rw [bT] at this
 exact this
def aKn (nodes:List GNode):List Int:=nodes.flatMap (·.Kids)
def kc (nodes:List GNode) (k:Nat):Nat:=(aKn nodes).count (k:Int)
theorem sQ {nodes:List GNode} (h:okU nodes nodes.length=true) {x:GNode} (hx:x ∈ nodes):x.Kids.length ≤ 12∧(∀ e ∈ x.Kids,0 ≤ e∧e < nodes.length)∧x.Kids.Nodup:=by
 obtain ⟨i,hi,rfl⟩:=List.mem_iff_getElem.1 hx
 have hn:=(kF h hi).1
 have hg:nodes[i]? = some nodes[i]:=List.getElem?_eq_getElem hi
 refine ⟨dX hn hg,fun e he=>?_,?_⟩
 ·have:=iJ hn hg e he;omega
 ·obtain ⟨_,_,_,h3,_⟩:=lW hn
  rw [List.nodup_iff_pairwise_ne,List.pairwise_iff_getElem]
  intro a b ha hb hab e
  refine (h3 b hb).2.1 ?_
  rw [← e]
  refine List.mem_iff_getElem.2 ⟨a,by simp only [List.length_take];omega,?_⟩
  rw [List.getElem_take]
theorem kc_le {nodes:List GNode} (h:okU nodes nodes.length=true) (k:Nat):kc nodes k ≤ nodes.length:=by
 have key:∀ l:List GNode,(∀ x ∈ l,x.Kids.Nodup)→(l.flatMap (·.Kids)).count (k:Int) ≤ l.length:=by
  intro l
  induction l with
  | nil=>intro _;simp
  | cons x l ih =>
   intro hl
   rw [List.flatMap_cons,List.count_append,List.length_cons]
   have h1:=ih fun y hy=>hl y (by simp [hy])
   have h2:=List.nodup_iff_count.1 (hl x (by simp)) (k:Int)
   omega
 exact key nodes fun x hx=>(sQ h hx).2.2
theorem aEn (nodes:List GNode) (hok:okU nodes nodes.length=true) (hn:nodes.length ≤ 300) (f:List Int × Int→Option ((List Int × Int) ⊕ List Int))
  (hf:∀ (m:List Int) (i:Nat) (hi:i < nodes.length),Bd nodes.length (12 * i) m→f (m,i)=some (.inl (incs 1 nodes[i].Kids m,((i + 1:Nat):Int))))
  (he:∀ m:List Int,f (m,nodes.length)=some (.inr m)):aG f (List.replicate nodes.length 0,0)=some (incs 1 (aKn nodes) (List.replicate nodes.length 0)):=by
 have:=bB nodes (fun (m:List Int) j=>(m,(j:Int))) (fun j m=>Bd nodes.length (12 * j) m) (fun m x=>.inl (incs 1 x.Kids m)) id f (fun m j hj hI=>by
  left
  refine ⟨_,rfl,hf m j hj hI,?_⟩
  have h12:=(sQ hok (List.getElem_mem hj)).1
  have:=Bd.incs (show (0:Int) ≤ 1 by omega) nodes[j].Kids (by omega) hI
  exact this.mono (by omega)) (fun m _=>he m) (List.replicate nodes.length 0) ⟨by simp,fun v hv=>by
   have:=(List.mem_replicate.1 hv).2
   omega⟩
 rw [bT] at this
 have e:∀ (l:List GNode) (m:List Int),l.foldl (fun m x=>incs 1 x.Kids m) m=incs 1 (l.flatMap (·.Kids)) m:=by
  intro l
  induction l with
  | nil=>intro m;rfl
  | cons x l ih=>intro m;rw [List.foldl_cons,List.flatMap_cons,zH,ih]
 rw [e] at this
 exact this
def aIu (nodes:List GNode):List Int:=incs 1 (aKn nodes) (List.replicate nodes.length 0)
theorem sW (nodes:List GNode):(aIu nodes).length=nodes.length:=by unfold aIu;rw [aCw];simp
theorem qT {nodes:List GNode} (h:okU nodes nodes.length=true) (k:Nat):(aIu nodes).getD k 0=(kc nodes k:Nat):=by
 unfold aIu
 rw [aCx 1 k _ _ (fun e he=>by
  obtain ⟨x,hx,hm⟩:=List.mem_flatMap.1 he
  rw [List.length_replicate]
  exact (sQ h hx).2.1 e hm)]
 have:(List.replicate nodes.length (0:Int)).getD k 0=0:=by
  rw [List.getD_eq_getElem?_getD,List.getElem?_replicate];split<;>rfl
 rw [this]
 unfold kc
 omega
theorem aMo (p:GProgram) (hok:okU p.Nodes p.Nodes.length=true) (hn:p.Nodes.length ≤ 300):aG (dB p) (List.replicate p.Nodes.length 0,0)=some (aIu p.Nodes):=by
 refine aEn p.Nodes hok hn _ (fun m i hi hI=>?_) (fun m=>by simp [dB])
 obtain ⟨h12,hb,_⟩:=sQ hok (List.getElem_mem hi)
 simp only [dB,aB hi,if_true,aD hi,Option.bind_some]
 rw [aHl p.Nodes.length p.Nodes[i].Kids hb (12 * i) (by omega) (dA p.Nodes[i]) id (fun m j hj hm=>by
  have hbe:=hb _ (List.getElem_mem hj)
  have hg:=hm.getD (by omega) p.Nodes[i].Kids[j].toNat
  simp only [dA,aB hj,if_true,aD hj,Option.bind_some]
  rw [cN hbe.1 (by rw [hm.len];exact hbe.2)]
  have hlt:p.Nodes[i].Kids[j].toNat < m.length:=by rw [hm.len];omega
  have e:m[p.Nodes[i].Kids[j].toNat]=m.getD p.Nodes[i].Kids[j].toNat 0:=by rw [List.getD_eq_getElem?_getD,List.getElem?_eq_getElem hlt];rfl
  rw [e]
  simp only [Option.bind_some,bO,w64 (n:=m.getD p.Nodes[i].Kids[j].toNat 0 + 1) (by omega) (by omega),aQ hj (show p.Nodes[i].Kids.length ≤ 1048576 by omega)]) (fun m=>by simp [dA]) m hI]
 simp only [Option.bind_some,id,aQ hi (show p.Nodes.length ≤ 1048576 by omega)]
theorem aM3 (nodes:List GNode) (hok:okU nodes nodes.length=true) (hn:nodes.length ≤ 300):jZ nodes=some (aIu nodes):=by
 unfold jZ
 rw [rX _ _ _ (by omega) (by omega)]
 simp only [Option.bind_some]
 rw [aEn nodes hok hn (eG nodes) (fun m i hi hI=>by
  obtain ⟨h12,hb,_⟩:=sQ hok (List.getElem_mem hi)
  simp only [eG,aB hi,if_true]
  rw [aHl nodes.length nodes[i].Kids hb (12 * i) (by omega) (eF nodes i) id (fun m j hj hm=>by
   have hbe:=hb _ (List.getElem_mem hj)
   have hg:=hm.getD (by omega) nodes[i].Kids[j].toNat
   simp only [eF,aD hi,aB hj,if_true,aD hj,Option.bind_some]
   rw [cN hbe.1 (by rw [hm.len];exact hbe.2)]
   have hlt:nodes[i].Kids[j].toNat < m.length:=by rw [hm.len];omega
   have e:m[nodes[i].Kids[j].toNat]=m.getD nodes[i].Kids[j].toNat 0:=by rw [List.getD_eq_getElem?_getD,List.getElem?_eq_getElem hlt];rfl
   rw [e]
   simp only [Option.bind_some,bO,w64 (n:=m.getD nodes[i].Kids[j].toNat 0 + 1) (by omega) (by omega),aQ hj (show nodes[i].Kids.length ≤ 1048576 by omega)]) (fun m=>by simp [eF,aD hi]) m hI]
  simp only [Option.bind_some,id,aQ hi (show nodes.length ≤ 1048576 by omega)]) (fun m=>by simp [eG])]
 rfl
def lC (f:GFn):List Int:=if f.Ret < 0 then [f.Body] else [f.Body,f.Ret]
def rH (p:GProgram) (n:Nat):List Int:=(p.Fns.take n).flatMap lC
def kX (p:GProgram):List Int:=p.Fns.flatMap lC
theorem aBb (p:GProgram):rH p p.Fns.length=kX p:=by unfold rH kX;rw [List.take_length]
theorem yH (p:GProgram) {n:Nat} (h:n < p.Fns.length):rH p (n + 1)=rH p n ++ lC p.Fns[n]:=by
 unfold rH
 rw [List.take_add_one,List.getElem?_eq_getElem h,List.flatMap_append];simp
def mU (p:GProgram) (i:Nat):Bool:=match p.Fns[i]? with
 | some f=>fnB p f && jF p f.Name == i
 | none=>false
theorem tN {p:GProgram} {i:Nat} (h:i < p.Fns.length):mU p i=(fnB p p.Fns[i] && jF p p.Fns[i].Name == i):=by unfold mU;rw [List.getElem?_eq_getElem h]
theorem tP {p:GProgram} {f:GFn} (h:fnB p f=true):(∀ e ∈ lC f,0 ≤ e∧e < p.Nodes.length)∧0 ≤ f.Body∧f.Body < p.Nodes.length∧f.Ret < p.Nodes.length:=by
 unfold fnB at h
 simp only [Bool.and_eq_true] at h
 obtain ⟨_,_,_,_,h5,h6⟩:=h
 obtain ⟨b1,b2,_⟩:=bodyB_iff.1 h5
 have hr:f.Ret < p.Nodes.length:=by
  unfold retB at h6
  split at h6
  ·simp only [beq_iff_eq] at h6;omega
  ·rw [Bool.and_eq_true,inB_iff] at h6;omega
 refine ⟨?_,b1,b2,hr⟩
 intro e he
 unfold lC at he
 split at he
 ·simp only [List.mem_singleton] at he;subst he;exact ⟨b1,b2⟩
 ·simp only [List.mem_cons,List.not_mem_nil,or_false] at he
  rcases he with rfl | rfl
  ·exact ⟨b1,b2⟩
  ·exact ⟨by omega,hr⟩
def mT:List Int→List Int→Option (List Int)
 | [],m=>some m
 | r :: rs,m=>if m.getD r.toNat 0=0 then mT rs (m.set r.toNat (-1)) else none
theorem pV:∀ (a b m:List Int),mT (a ++ b) m=(mT a m).bind (mT b)
 | [],b,m=>rfl
 | r :: a,b,m=>by
  simp only [List.cons_append,mT]
  split
  ·exact pV a b _
  ·rfl
theorem aBl (n:Nat):∀ (rs m:List Int),m.length=n→(∀ r ∈ rs,0 ≤ r∧r < n) →
  (match mT rs m with
   | some m'=>(rs.Nodup∧∀ r ∈ rs,m.getD r.toNat 0=0)∧m'.length=n∧∀ k:Nat,m'.getD k 0=if (k:Int) ∈ rs then -1 else m.getD k 0
   | none=>¬ (rs.Nodup∧∀ r ∈ rs,m.getD r.toNat 0=0))
 | [],m,hm,_=>by simp [mT,hm]
 | r :: rs,m,hm,h=>by
  have hr:=h r (by simp)
  simp only [mT]
  by_cases h0:m.getD r.toNat 0=0
  ·rw [if_pos h0]
   have ih:=aBl n rs (m.set r.toNat (-1)) (by rw [List.length_set];exact hm) (fun x hx=>h x (by simp [hx]))
   have hget:∀ k:Nat,(m.set r.toNat (-1)).getD k 0=if (k:Int)=r then -1 else m.getD k 0:=by
    intro k
    rw [List.getD_eq_getElem?_getD,List.getElem?_set]
    by_cases hk:r.toNat=k
    ·rw [if_pos hk,if_pos (by omega),if_pos (by omega)];rfl
    ·rw [if_neg hk,if_neg (by omega),← List.getD_eq_getElem?_getD]
   have hre:∀ x ∈ rs,((x.toNat:Nat):Int)=x:=fun x hx=>by have:=h x (by simp [hx]);omega
   split at ih
   ·rename_i m' hm'
    try rw [hm']
    obtain ⟨⟨i1,i2⟩,i3,i4⟩:=ih
    have hnr:r ∉ rs:=fun hm=>by
     have:=i2 r hm
     rw [hget,hre r hm,if_pos rfl] at this
     omega
    refine ⟨⟨List.nodup_cons.2 ⟨hnr,i1⟩,fun x hx=>?_⟩,i3,fun k=>?_⟩
    ·rcases List.mem_cons.1 hx with rfl | hx
     ·exact h0
     ·have:=i2 x hx
      rw [hget,hre x hx] at this
      split at this
      ·omega
      ·exact this
    ·rw [i4,hget]
     by_cases h1:(k:Int) ∈ rs
     ·rw [if_pos h1,if_pos (by simp [h1])]
     ·rw [if_neg h1]
      by_cases h2:(k:Int)=r
      ·rw [if_pos h2,if_pos (by simp [h2])]
      ·rw [if_neg h2,if_neg (by simp [h1,h2])]
   ·rename_i hm'
    try rw [hm']
    rintro ⟨j1,j2⟩
    rw [List.nodup_cons] at j1
    refine ih ⟨j1.2,fun x hx=>?_⟩
    rw [hget,hre x hx]
    have:¬ x=r:=fun e=>j1.1 (e ▸ hx)
    rw [if_neg this]
    exact j2 x (by simp [hx])
  ·rw [if_neg h0]
   rintro ⟨_,j2⟩
   exact h0 (j2 r (by simp))
def aAa (n:Nat):Bool:=n == 1 || n == 1000
def vX (p:GProgram):Bool:=inB p.Nodes.length 1 300 && (inB p.Fns.length 1 8 && (okU p.Nodes p.Nodes.length && ((List.range p.Fns.length).all (mU p) && (List.range p.Nodes.length).all fun k=>aAa (kc p.Nodes k + 1000 * (kX p).count (k:Int)))))
theorem aJb {nodes:List GNode} (h:1 ≤ nodes.length):(vD nodes ((nodes.length:Int) - 1) == 0) = !(okU nodes nodes.length):=by
 unfold vD
 have e:((nodes.length:Int) - 1).toNat=nodes.length - 1:=by omega
 rw [e,show nodes.length - 1 + 1=nodes.length by omega]
 cases hok:okU nodes nodes.length with
 | true =>
  rw [if_pos ⟨by omega,by omega,rfl⟩]
  have:=hE nodes (nodes.length - 1)
  have hne:¬ nI nodes (nodes.length - 1)=0:=by omega
  simp [hne]
 | false=>rw [if_neg (fun h=>by cases h.2.2)];rfl
theorem aJ0 (p:GProgram) (f:GFn) (hf:fnB p f=true) (m:List Int) (hm:m.length=p.Nodes.length):aG (aH f) (m,0)=some (match mT (lC f) m with | some m'=>.inl m' | none=>.inr (.inr (.inr false))):=by
 obtain ⟨_,b0,b1,r1⟩:=tP hf
 have hl:(([f.Body,f.Ret]:List Int).length:Int)=2:=rfl
 have g0:aK [f.Body,f.Ret] 0=some f.Body:=rfl
 have g1:aK [f.Body,f.Ret] 1=some f.Ret:=rfl
 have d0:decide ((0:Int) < 2)=true:=rfl
 have d1:decide ((1:Int) < 2)=true:=rfl
 have d2:decide ((2:Int) < 2)=false:=rfl
 have w0:IntKind.wrap .i64 ((0:Int) + 1)=1:=rfl
 have w1:IntKind.wrap .i64 ((1:Int) + 1)=2:=rfl
 have hgd:∀ (m:List Int) (v:Int),m.length=p.Nodes.length→0 ≤ v→v < p.Nodes.length→aK m v=some (m.getD v.toNat 0):=fun m v hm h0 h1=>by
  have hlt:v.toNat < m.length:=by omega
  rw [cN h0 (by omega),List.getD_eq_getElem?_getD,List.getElem?_eq_getElem hlt];rfl
 have step1:∀ m:List Int,m.length=p.Nodes.length→aG (aH f) (m,1)=some (match mT (if f.Ret < 0 then [] else [f.Ret]) m with | some m'=>.inl m' | none=>.inr (.inr (.inr false))):=by
  intro m hm
  by_cases hr:f.Ret < 0
  ·have:aH f (m,1)=some (.inl (m,2)):=by
    simp only [aH,hl,d1,if_true,g1,Option.bind_some,w1]
    rw [if_pos (by simpa using hr)]
   rw [nR this,if_pos hr,gT (r:=.inl m) (by simp only [aH,hl,d2,Bool.false_eq_true,if_false])]
   rfl
  ·rw [if_neg hr]
   simp only [mT]
   by_cases hz:m.getD f.Ret.toNat 0=0
   ·have:aH f (m,1)=some (.inl (m.set f.Ret.toNat (-1),2)):=by
     simp only [aH,hl,d1,if_true,g1,Option.bind_some,w1]
     rw [if_neg (by simpa using hr),hgd m f.Ret hm (by omega) r1]
     simp only [Option.bind_some,hz,bO]
     rfl
    rw [nR this,if_pos hz,gT (r:=.inl (m.set f.Ret.toNat (-1))) (by simp only [aH,hl,d2,Bool.false_eq_true,if_false])]
   ·have:aH f (m,1)=some (.inr (.inr (.inr (.inr false)))):=by
     simp only [aH,hl,d1,if_true,g1,Option.bind_some,w1]
     rw [if_neg (by simpa using hr),hgd m f.Ret hm (by omega) r1]
     simp only [Option.bind_some]
     rw [if_pos (by simpa using hz)]
    rw [gT this,if_neg hz]
 have hsplit:lC f=f.Body :: (if f.Ret < 0 then [] else [f.Ret]):=by unfold lC;split<;>rfl
 rw [hsplit]
 simp only [mT]
 have hb:¬ f.Body < 0:=by omega
 by_cases hz:m.getD f.Body.toNat 0=0
 ·have:aH f (m,0)=some (.inl (m.set f.Body.toNat (-1),1)):=by
   simp only [aH,hl,d0,if_true,g0,Option.bind_some,w0]
   rw [if_neg (by simpa using hb),hgd m f.Body hm b0 b1]
   simp only [Option.bind_some,hz,bO]
   rfl
  rw [nR this,if_pos hz,step1 _ (by rw [List.length_set];exact hm)]
 ·have:aH f (m,0)=some (.inr (.inr (.inr (.inr false)))):=by
   simp only [aH,hl,d0,if_true,g0,Option.bind_some,w0]
   rw [if_neg (by simpa using hb),hgd m f.Body hm b0 b1]
   simp only [Option.bind_some]
   rw [if_pos (by simpa using hz)]
  rw [gT this,if_neg hz]
theorem aEb:∀ (rs m:List Int) {m':List Int},mT rs m=some m'→m'.length=m.length
 | [],m,m',h=>by cases h;rfl
 | r :: rs,m,m',h=>by
  simp only [mT] at h
  split at h
  ·rw [aEb rs _ h];simp
  ·cases h
theorem aJ1 (p:GProgram) (hn:p.Nodes.length ≤ 300) (hp:p.Fns.length ≤ 8) (m0:List Int) (hm0:m0.length=p.Nodes.length):aG (bY p) (m0,0)=some (if (List.range p.Fns.length).all (mU p)=true then (match mT (kX p) m0 with | some m=>.inl m | none=>.inr false) else .inr false):=by
 obtain ⟨r,h1,h2⟩:=cC (f:=bY p) (fun s:List Int × Int=>∃ i:Nat,s.2=i∧i ≤ p.Fns.length∧(∀ j,j < i→mU p j=true)∧mT (rH p i) m0=some s.1) (fun s=>p.Fns.length - s.2.toNat) (fun r=>r=if (List.range p.Fns.length).all (mU p)=true then (match mT (kX p) m0 with | some m=>.inl m | none=>.inr false) else .inr false) (by
  rintro ⟨m,i⟩ ⟨i,rfl,hi,hg,hm⟩
  simp only at hm hi
  have hml:m.length=p.Nodes.length:=by rw [aEb _ _ hm];exact hm0
  by_cases hlt:i < p.Fns.length
  ·have hbad:(mU p i=false)→(List.range p.Fns.length).all (mU p)=false:=by
    intro hb
    rw [Bool.eq_false_iff]
    intro h
    rw [List.all_eq_true.1 h i (List.mem_range.2 hlt)] at hb
    cases hb
   have hgi:=tN hlt
   have hcond:(Option.bind (if (!(fnB p p.Fns[i]))=true then some true else some (jF p p.Fns[i].Name != (i:Int))) fun v:Bool=>some v)=some (!(mU p i)):=by
    rw [hgi];cases fnB p p.Fns[i]<;>rfl
   have hcond2:(if (!(fnB p p.Fns[i]))=true then some true else some (jF p p.Fns[i].Name != (i:Int)))=some (!(mU p i)):=by
    rw [hgi];cases fnB p p.Fns[i]<;>rfl
   simp only [bY,aB hlt,if_true,aD hlt,Option.bind_some,aEu p _ (show p.Nodes.length ≤ 1048576 by omega),qK p _ (show p.Fns.length ≤ 1048576 by omega),hcond2]
   cases hgb:mU p i with
   | false =>
    right
    refine ⟨.inr false,rfl,?_⟩
    rw [hbad hgb];rfl
   | true =>
    simp only [Bool.not_true,Bool.false_eq_true,if_false]
    have hfb:fnB p p.Fns[i]=true:=by rw [hgi,Bool.and_eq_true] at hgb;exact hgb.1
    rw [aJ0 p _ hfb m hml]
    simp only [Option.bind_some]
    have hsucc:mT (rH p (i + 1)) m0=mT (lC p.Fns[i]) m:=by
     rw [yH p hlt,pV,hm];rfl
    cases hmr:mT (lC p.Fns[i]) m with
    | some m' =>
     left
     refine ⟨(m',((i + 1:Nat):Int)),by simp only [aQ hlt (show p.Fns.length ≤ 1048576 by omega)],⟨i + 1,rfl,by omega,fun j hj=>?_,by rw [hsucc];exact hmr⟩,by simp only [Int.toNat_natCast];omega⟩
     by_cases e:j=i
     ·subst e;exact hgb
     ·exact hg j (by omega)
    | none =>
     right
     refine ⟨.inr false,rfl,?_⟩
     have:mT (kX p) m0=none:=by
      have hsp:kX p=rH p (i + 1) ++ (p.Fns.drop (i + 1)).flatMap lC:=by
       unfold kX rH
       rw [← List.flatMap_append,List.take_append_drop]
      rw [hsp,pV,hsucc,hmr];rfl
     rw [this];split<;>rfl
  ·right
   have:i=p.Fns.length:=by omega
   subst this
   refine ⟨.inl m,by simp [bY],?_⟩
   rw [if_pos (List.all_eq_true.2 fun j hj=>hg j (List.mem_range.1 hj)),← aBb,hm]) (m0,0) ⟨0,rfl,by omega,fun j hj=>by omega,rfl⟩
 rw [h1,h2]
theorem yJ (n:Nat) (m:List Int) (q:Int→Bool) (hm:m.length=n):m.all q=(List.range n).all fun k=>q (m.getD k 0):=by
 rw [Bool.eq_iff_iff,List.all_eq_true,List.all_eq_true]
 constructor
 ·intro h k hk
  have hk':k < m.length:=by rw [hm];exact List.mem_range.1 hk
  rw [List.getD_eq_getElem?_getD,List.getElem?_eq_getElem hk']
  exact h _ (List.getElem_mem hk')
 ·intro h v hv
  obtain ⟨k,hk,rfl⟩:=List.mem_iff_getElem.1 hv
  have:=h k (List.mem_range.2 (by omega))
  rw [List.getD_eq_getElem?_getD,List.getElem?_eq_getElem hk] at this
  exact this
theorem aDx {p:GProgram} (h:(List.range p.Fns.length).all (mU p)=true):∀ e ∈ kX p,0 ≤ e∧e < p.Nodes.length:=by
 intro e he
 obtain ⟨f,hf,hm⟩:=List.mem_flatMap.1 he
 obtain ⟨i,hi,rfl⟩:=List.mem_iff_getElem.1 hf
 have:=List.all_eq_true.1 h i (List.mem_range.2 hi)
 rw [tN hi,Bool.and_eq_true] at this
 exact (tP this.1).1 e hm
theorem uZ (p:GProgram) (hn:p.Nodes.length ≤ 1048576) (hp:p.Fns.length ≤ 1048576):gY p=some (vX p):=by
 unfold gY vX
 simp only [bQ,Option.bind_some,iO hn,rO p.Nodes hn]
 cases h1:inB p.Nodes.length 1 300 with
 | false=>rfl
 | true =>
  have h1':=inB_iff.1 h1
  cases h2:inB p.Fns.length 1 8 with
  | false=>rfl
  | true =>
   have h2':=inB_iff.1 h2
   simp only [Bool.not_true,Bool.false_eq_true,if_false,Bool.true_and,Option.bind_some,aJb (show 1 ≤ p.Nodes.length by omega)]
   cases h3:okU p.Nodes p.Nodes.length with
   | false=>rfl
   | true =>
    simp only [Bool.not_true,Bool.false_eq_true,if_false,Bool.true_and]
    rw [rX _ _ _ (by omega) (by omega)]
    simp only [Option.bind_some]
    rw [aMo p h3 (by omega)]
    simp only [Option.bind_some]
    rw [aJ1 p (by omega) (by omega) _ (sW _)]
    cases h4:(List.range p.Fns.length).all (mU p) with
    | false=>rfl
    | true =>
     simp only [if_true,Option.bind_some,Bool.true_and]
     have hb:=aDx h4
     have hsp:=aBl p.Nodes.length (kX p) (aIu p.Nodes) (sW _) hb
     have hmet:∀ r ∈ kX p,(aIu p.Nodes).getD r.toNat 0=(kc p.Nodes r.toNat:Nat):=fun r _=>qT h3 _
     cases hmr:mT (kX p) (aIu p.Nodes) with
     | none =>
      rw [hmr] at hsp
      simp only at hsp ⊢
      congr 1
      rw [eq_comm,Bool.eq_false_iff]
      intro hall
      rw [List.all_eq_true] at hall
      refine hsp ⟨List.nodup_iff_count.2 fun a=>?_,fun r hr=>?_⟩
      ·by_cases ha:a ∈ kX p
       ·have hab:=hb a ha
        have:=hall a.toNat (List.mem_range.2 (by omega))
        rw [show ((a.toNat:Nat):Int)=a by omega] at this
        simp only [aAa,Bool.or_eq_true,beq_iff_eq] at this
        omega
       ·rw [List.count_eq_zero.2 ha];omega
      ·have hrb:=hb r hr
       have:=hall r.toNat (List.mem_range.2 (by omega))
       rw [show ((r.toNat:Nat):Int)=r by omega] at this
       simp only [aAa,Bool.or_eq_true,beq_iff_eq] at this
       have hc:=List.count_pos_iff.2 hr
       rw [qT h3]
       omega
     | some m =>
      rw [hmr] at hsp
      obtain ⟨⟨s1,s2⟩,s3,s4⟩:=hsp
      simp only
      rw [pW m (fun v=>v == 1 || v == -1) (cZ m) (fun k hk=>by
       simp only [cZ,aB hk,if_true,aD hk,Option.bind_some,aQ hk (show m.length ≤ 1048576 by omega)]
       by_cases e1:m[k]=1
       ·simp [e1]
       ·by_cases e2:m[k] = -1<;>simp [e1,e2]) (by simp [cZ])]
      have hfin:m.all (fun v=>v == 1 || v == -1)=(List.range p.Nodes.length).all fun k=>aAa (kc p.Nodes k + 1000 * (kX p).count (k:Int)):=by
       rw [yJ p.Nodes.length m _ s3,Bool.eq_iff_iff,List.all_eq_true,List.all_eq_true]
       have each:∀ k,k < p.Nodes.length→((m.getD k 0 == 1 || m.getD k 0 == -1)=true ↔ aAa (kc p.Nodes k + 1000 * (kX p).count (k:Int))=true):=by
        intro k hk
        have hkc:=kc_le h3 k
        rw [s4,qT h3]
        simp only [aAa,Bool.or_eq_true,beq_iff_eq]
        by_cases hm:(k:Int) ∈ kX p
        ·rw [if_pos hm]
         have hc:=List.count_pos_iff.2 hm
         have hc1:=List.nodup_iff_count.1 s1 (k:Int)
         have:=s2 _ hm
         rw [Int.toNat_natCast,qT h3] at this
         omega
        ·rw [if_neg hm,List.count_eq_zero.2 hm]
         omega
       constructor
       ·intro h k hk;exact (each k (List.mem_range.1 hk)).1 (h k hk)
       ·intro h k hk;exact (each k (List.mem_range.1 hk)).2 (h k hk)
      rw [hfin]
      cases (List.range p.Nodes.length).all fun k=>aAa (kc p.Nodes k + 1000 * (kX p).count (k:Int))<;>rfl
theorem aDs (p:GProgram) (hn:p.Nodes.length ≤ 300) (hp:p.Fns.length ≤ 8) (C:Int) (hC:0 ≤ C) (hC2:C ≤ 1000000) (m:List Int) (hm:Bd p.Nodes.length C m) (i:Nat) (hi:i < p.Fns.length):bG p (m,i)=some (if mU p i=true then .inl (incs 1000 (lC p.Fns[i]) m,((i + 1:Nat):Int)) else .inr (.inr false)):=by
 simp only [bG,aB hi,if_true,aCa p i hi (show p.Nodes.length ≤ 1048576 by omega) (show p.Fns.length ≤ 1048576 by omega),Option.bind_some,aD hi]
 rw [← tN hi]
 cases hg:mU p i with
 | false=>rfl
 | true =>
  simp only [Bool.not_true,Bool.false_eq_true,if_false,if_true]
  have hfb:fnB p p.Fns[i]=true:=by rw [tN hi,Bool.and_eq_true] at hg;exact hg.1
  obtain ⟨_,b0,b1,r1⟩:=tP hfb
  generalize p.Fns[i]=f at *
  have hgd:∀ (m:List Int) (v:Int),m.length=p.Nodes.length→0 ≤ v→v < p.Nodes.length→aK m v=some (m.getD v.toNat 0):=fun m v hm h0 h1=>by
   have hlt:v.toNat < m.length:=by omega
   rw [cN h0 (by omega),List.getD_eq_getElem?_getD,List.getElem?_eq_getElem hlt];rfl
  have g0:=hm.getD hC f.Body.toNat
  have hm1:=hm.set hC (show (0:Int) ≤ 1000 by omega) f.Body.toNat
  have g1:=hm1.getD (by omega) f.Ret.toNat
  rw [hgd m f.Body hm.len b0 b1]
  simp only [Option.bind_some,bO,w64 (n:=m.getD f.Body.toNat 0 + 1000) (by omega) (by omega),aQ hi (show p.Fns.length ≤ 1048576 by omega)]
  unfold lC
  by_cases hr:f.Ret < 0
  ·have hr':¬ f.Ret ≥ 0:=by omega
   rw [if_neg (by simpa using hr'),if_pos hr]
   rfl
  ·have hr':f.Ret ≥ 0:=by omega
   rw [if_pos (by simpa using hr'),if_neg hr,hgd _ f.Ret hm1.len (by omega) r1]
   simp only [Option.bind_some,bO]
   rw [w64 (by omega) (by omega)]
   rfl
theorem aIc (p:GProgram) (hn:p.Nodes.length ≤ 300) (hp:p.Fns.length ≤ 8) (m0:List Int) (C:Int) (hC:0 ≤ C) (hC2:C ≤ 10000) (hm0:Bd p.Nodes.length C m0):aG (bG p) (m0,0)=some (if (List.range p.Fns.length).all (mU p)=true then .inl (incs 1000 (kX p) m0) else .inr false):=by
 obtain ⟨r,h1,h2⟩:=cC (f:=bG p) (fun s:List Int × Int=>∃ i:Nat,s.2=i∧i ≤ p.Fns.length∧(∀ j,j < i→mU p j=true)∧s.1=incs 1000 (rH p i) m0∧Bd p.Nodes.length (C + 2000 * i) s.1) (fun s=>p.Fns.length - s.2.toNat) (fun r=>r=if (List.range p.Fns.length).all (mU p)=true then .inl (incs 1000 (kX p) m0) else .inr false) (by
  rintro ⟨m,i⟩ ⟨i,rfl,hi,hg,hm,hb⟩
  simp only at hm hi hb
  by_cases hlt:i < p.Fns.length
  ·have hst:=aDs p hn hp (C + 2000 * i) (by omega) (by omega) m hb i hlt
   cases hgb:mU p i with
   | false =>
    right
    refine ⟨.inr false,by rw [hst,hgb];rfl,?_⟩
    have:(List.range p.Fns.length).all (mU p)=false:=by
     rw [Bool.eq_false_iff]
     intro h
     rw [List.all_eq_true.1 h i (List.mem_range.2 hlt)] at hgb
     cases hgb
    rw [this];rfl
   | true =>
    left
    refine ⟨_,by rw [hst,hgb,if_pos rfl],⟨i + 1,rfl,by omega,fun j hj=>?_,?_,?_⟩,by simp only [Int.toNat_natCast];omega⟩
    ·by_cases e:j=i
     ·subst e;exact hgb
     ·exact hg j (by omega)
    ·simp only
     rw [yH p hlt,zH,← hm]
    ·have:=Bd.incs (show (0:Int) ≤ 1000 by omega) (lC p.Fns[i]) (by omega) hb
     refine this.mono ?_
     have:(lC p.Fns[i]).length ≤ 2:=by unfold lC;split<;>simp
     omega
  ·right
   have:i=p.Fns.length:=by omega
   subst this
   refine ⟨.inl m,by simp [bG],?_⟩
   rw [if_pos (List.all_eq_true.2 fun j hj=>hg j (List.mem_range.1 hj)),← aBb,hm]) (m0,0) ⟨0,rfl,by omega,fun j hj=>by omega,rfl,hm0.mono (by omega)⟩
 rw [h1,h2]
theorem uF (p:GProgram) (hn:p.Nodes.length ≤ 1048576) (hp:p.Fns.length ≤ 1048576):gQ p=some (vX p):=by
 unfold gQ vX
 simp only [dM,Option.bind_some,iO hn]
 cases h1:inB p.Nodes.length 1 300 with
 | false=>rfl
 | true =>
  have h1':=inB_iff.1 h1
  cases h2:inB p.Fns.length 1 8 with
  | false=>rfl
  | true =>
   have h2':=inB_iff.1 h2
   have hc:((p.Nodes.length:Int) - 1)=((p.Nodes.length - 1:Nat):Int):=by omega
   simp only [Bool.not_true,Bool.false_eq_true,if_false,Bool.true_and,Option.bind_some]
   rw [hc,sK p.Nodes hn _ (by omega)]
   simp only [Option.bind_some,uG]
   rw [show p.Nodes.length - 1 + 1=p.Nodes.length by omega,iO hn,hc,aD6,qR p.Nodes (show p.Nodes.length - 1 < p.Nodes.length by omega),show p.Nodes.length - 1 + 1=p.Nodes.length by omega]
   simp only [Option.bind_some]
   cases h3:okU p.Nodes p.Nodes.length with
   | false=>rfl
   | true =>
    have hpos:=hE p.Nodes (p.Nodes.length - 1)
    have hne:¬ nI p.Nodes (p.Nodes.length - 1)=0:=by omega
    simp only [if_true,Bool.true_and]
    rw [if_neg (by simpa using hne),aM3 p.Nodes h3 (by omega)]
    simp only [Option.bind_some]
    have hB:Bd p.Nodes.length 300 (aIu p.Nodes):=⟨sW _,fun v hv=>by
     obtain ⟨k,hk,rfl⟩:=List.mem_iff_getElem.1 hv
     have h:=qT h3 k
     rw [List.getD_eq_getElem?_getD,List.getElem?_eq_getElem hk,Option.getD_some] at h
     have:=kc_le h3 k
     omega⟩
    rw [aIc p (by omega) (by omega) _ 300 (by omega) (by omega) hB]
    cases h4:(List.range p.Fns.length).all (mU p) with
    | false=>rfl
    | true =>
     simp only [if_true,Option.bind_some,Bool.true_and]
     have hb:=aDx h4
     have hl:(incs 1000 (kX p) (aIu p.Nodes)).length=p.Nodes.length:=by rw [aCw,sW]
     have hval:∀ k,(incs 1000 (kX p) (aIu p.Nodes)).getD k 0=((kc p.Nodes k + 1000 * (kX p).count (k:Int):Nat):Int):=by
      intro k
      rw [aCx 1000 k _ _ (fun e he=>by rw [sW];exact hb e he),qT h3]
      omega
     generalize hmm:incs 1000 (kX p) (aIu p.Nodes)=m at *
     rw [pW m (fun v=>v == 1 || v == 1000) (cV m) (fun k hk=>by
      simp only [cV,aB hk,if_true,aD hk,Option.bind_some,aQ hk (show m.length ≤ 1048576 by omega)]
      by_cases e1:m[k]=1
      ·simp [e1]
      ·by_cases e2:m[k]=1000<;>simp [e1,e2]) (by simp [cV])]
     have hfin:m.all (fun v=>v == 1 || v == 1000)=(List.range p.Nodes.length).all fun k=>aAa (kc p.Nodes k + 1000 * (kX p).count (k:Int)):=by
      rw [yJ p.Nodes.length m _ hl]
      congr 1
      funext k
      rw [hval,Bool.eq_iff_iff]
      simp only [aAa,Bool.or_eq_true,beq_iff_eq]
      omega
     rw [hfin]
     cases (List.range p.Nodes.length).all fun k=>aAa (kc p.Nodes k + 1000 * (kX p).count (k:Int))<;>rfl
end Go.OM
namespace Go.OM
theorem xE {α:Type} {n:Nat} {l:List α} (h:l.length ≤ 1048576) (hn:n ≤ 64):lM n [] l=some l:=aGr h hn
def NL (l:List GNode):Prop:=∀ x ∈ l,GNode.le 1048576 x
theorem aL5 (f:GFn) (h:f.Params.length ≤ 1048576):mL f=some f:=by
 unfold mL
 rw [xE h (by omega)]
 rfl
theorem aF8 {α ρ:Type} (l:List α) (hl:l.length ≤ 1048576) (f:List α × Int→Option ((List α × Int) ⊕ ρ)) (fin:List α→ρ)
  (hf:∀ (o:List α) (k:Nat) (hk:k < l.length),o.length=k→f (o,k)=some (.inl (o ++ [l[k]],((k + 1:Nat):Int)))) (he:∀ o:List α,f (o,l.length)=some (.inr (fin o))):aG f ([],0)=some (fin l):=by
 obtain ⟨r,h1,h2⟩:=cC (f:=f) (fun s:List α × Int=>∃ k:Nat,s.2=k∧k ≤ l.length∧s.1=l.take k) (fun s=>l.length - s.2.toNat) (fun r=>r=fin l) (by
  rintro ⟨o,i⟩ ⟨k,rfl,hk,ho⟩
  simp only at ho hk
  by_cases hlt:k < l.length
  ·left
   refine ⟨_,hf o k hlt (by rw [ho,List.length_take];omega),⟨k + 1,rfl,by omega,?_⟩,by simp only [Int.toNat_natCast];omega⟩
   simp only
   rw [ho,List.take_add_one,List.getElem?_eq_getElem hlt];rfl
  ·right
   have:k=l.length:=by omega
   subst this
   rw [List.take_length] at ho
   exact ⟨_,he o,by rw [ho]⟩) ([],0) ⟨0,rfl,by omega,by simp⟩
 rw [h1,h2]
theorem aF9 (l:List GNode) (hl:l.length ≤ 1048576) (hN:NL l):gX l=some l:=by
 unfold gX
 rw [aF8 l hl (cY l) (fun o=>o) (fun o k hk ho=>by
  have hk2:=(hN _ (List.getElem_mem hk)).2
  have hc:jE (l[k]).Kids=some (l[k]).Kids:=by unfold jE;rw [xE hk2 (by omega)];rfl
  simp only [cY,aB hk,if_true,aD hk,Option.bind_some,hc,aGs (show o.length ≤ 1048576 by omega) (show 56 ≤ 64 by omega),aQ hk hl]) (fun o=>by simp [cY])]
 rfl
theorem aDt (l:List GNode) (hl:l.length ≤ 1048576) (hN:NL l):iR l=some l:=by
 unfold iR
 rw [aF8 l hl (dK l) (fun o=>o) (fun o k hk ho=>by
  have hk2:=(hN _ (List.getElem_mem hk)).2
  simp only [dK,aB hk,if_true,aD hk,Option.bind_some,xE hk2 (show 8 ≤ 64 by omega),aGs (show o.length ≤ 1048576 by omega) (show 56 ≤ 64 by omega),aQ hk hl]) (fun o=>by simp [dK])]
 rfl
theorem rQ (p:GProgram) (h:GProgram.le 1048576 p):dV p=some p∧kC p=some p:=by
 obtain ⟨⟨hn,hN⟩,hF,hFl⟩:=h
 constructor
 ·unfold dV
  rw [aF9 _ hn hN]
  simp only [Option.bind_some]
  obtain ⟨r,h1,h2⟩:=cC (f:=bX p) (fun s:Int × GProgram=>∃ k:Nat,s.1=k∧k ≤ p.Fns.length∧s.2=⟨p.Nodes,p.Fns.take k⟩) (fun s=>p.Fns.length - s.1.toNat) (fun r=>r=p) (by
   rintro ⟨i,v⟩ ⟨k,rfl,hk,rfl⟩
   try simp only at hk
   by_cases hlt:k < p.Fns.length
   ·left
    have hpar:=(hFl _ (List.getElem_mem hlt)).2.1
    refine ⟨(((k + 1:Nat):Int),⟨p.Nodes,p.Fns.take (k + 1)⟩),?_,⟨k + 1,rfl,by omega,rfl⟩,by simp only [Int.toNat_natCast];omega⟩
    simp only [bX,aB hlt,if_true,aD hlt,Option.bind_some,aL5 _ hpar,aGs (show (p.Fns.take k).length ≤ 1048576 by rw [List.length_take];omega) (show 64 ≤ 64 by omega),aQ hlt hF]
    rw [List.take_add_one,List.getElem?_eq_getElem hlt];rfl
   ·right
    have:k=p.Fns.length:=by omega
    subst this
    refine ⟨⟨p.Nodes,p.Fns.take p.Fns.length⟩,by simp [bX],?_⟩
    rw [List.take_length]) (0,⟨p.Nodes,[]⟩) ⟨0,rfl,by omega,by simp⟩
  rw [h1,h2];rfl
 ·unfold kC
  rw [aDt _ hn hN]
  simp only [Option.bind_some]
  obtain ⟨r,h1,h2⟩:=cC (f:=eJ p) (fun s:Int × GProgram=>∃ k:Nat,s.1=k∧k ≤ p.Fns.length∧s.2=⟨p.Nodes,p.Fns.take k⟩) (fun s=>p.Fns.length - s.1.toNat) (fun r=>r=p) (by
   rintro ⟨i,v⟩ ⟨k,rfl,hk,rfl⟩
   try simp only at hk
   by_cases hlt:k < p.Fns.length
   ·left
    have hpar:=(hFl _ (List.getElem_mem hlt)).2.1
    refine ⟨(((k + 1:Nat):Int),⟨p.Nodes,p.Fns.take (k + 1)⟩),?_,⟨k + 1,rfl,by omega,rfl⟩,by simp only [Int.toNat_natCast];omega⟩
    simp only [eJ,aB hlt,if_true,aD hlt,Option.bind_some,xE hpar (show 24 ≤ 64 by omega),aGs (show (p.Fns.take k).length ≤ 1048576 by rw [List.length_take];omega) (show 64 ≤ 64 by omega),aQ hlt hF]
    rw [List.take_add_one,List.getElem?_eq_getElem hlt];rfl
   ·right
    have:k=p.Fns.length:=by omega
    subst this
    refine ⟨⟨p.Nodes,p.Fns.take p.Fns.length⟩,by simp [eJ],?_⟩
    rw [List.take_length]) (0,⟨p.Nodes,[]⟩) ⟨0,rfl,by omega,by simp⟩
  rw [h1,h2];rfl
end Go.OM
namespace Go.OM
open Classical in
noncomputable def aB9 (n:Nat) (P:Nat→Prop):List Int:=((List.range n).filter fun j=>decide (P j)).map fun k:Nat=>(k:Int)
theorem mem_setL {n:Nat} {P:Nat→Prop} {x:Int}:x ∈ aB9 n P ↔ 0 ≤ x∧x < n∧P x.toNat:=by
 unfold aB9
 rw [List.mem_map]
 constructor
 ·rintro ⟨j,hj,rfl⟩
  obtain ⟨h1,h2⟩:=List.mem_filter.1 hj
  have:=List.mem_range.1 h1
  exact ⟨by omega,by omega,by simpa using h2⟩
 ·rintro ⟨h1,h2,h3⟩
  refine ⟨x.toNat,List.mem_filter.2 ⟨List.mem_range.2 (by omega),by simpa using h3⟩,by omega⟩
theorem aCf (n:Nat) (P:Nat→Prop):(aB9 n P).Pairwise (· < ·):=by
 unfold aB9
 refine List.Pairwise.map _ (fun a b h=>?_) (List.Pairwise.filter _ List.pairwise_lt_range)
 omega
theorem aM7 (n:Nat) (P:Nat→Prop):(aB9 n P).length ≤ n:=by
 unfold aB9
 rw [List.length_map]
 have:=List.length_filter_le (fun j=>@decide (P j) (Classical.propDecidable _)) (List.range n)
 rw [List.length_range] at this
 exact this
theorem qU {l:List Int} (h:l.Pairwise (· < ·)):l.Nodup:=by
 rw [List.nodup_iff_pairwise_ne]
 exact h.imp fun h=>by omega
theorem aEd {a b:List Int} (ha:a.Pairwise (· < ·)) (hb:b.Pairwise (· < ·)) (h:∀ x,x ∈ a ↔ x ∈ b):a=b:=by
 refine List.Perm.eq_of_pairwise (le:=fun x y:Int=>x < y) (fun x y _ _ h1 h2=>by omega) ha hb ?_
 exact (List.perm_ext_iff_of_nodup (qU ha) (qU hb)).2 h
theorem aB8 {n:Nat} {P Q:Nat→Prop} (h:∀ j,j < n→(P j ↔ Q j)):aB9 n P=aB9 n Q:=by
 refine aEd (aCf _ _) (aCf _ _) fun x=>?_
 rw [mem_setL,mem_setL]
 constructor
 ·rintro ⟨h1,h2,h3⟩;exact ⟨h1,h2,(h _ (by omega)).1 h3⟩
 ·rintro ⟨h1,h2,h3⟩;exact ⟨h1,h2,(h _ (by omega)).2 h3⟩
theorem aJu {n:Nat} {P:Nat→Prop} {l:List Int} (hl:l.Pairwise (· < ·)) (h:∀ x,x ∈ l ↔ 0 ≤ x∧x < n∧P x.toNat):l=aB9 n P:=aEd hl (aCf _ _) fun x=>by rw [h,mem_setL]
theorem aDv {n:Nat} {P:Nat→Prop} {l:List Int} (hl:l.Nodup) (h:∀ x,x ∈ l ↔ 0 ≤ x∧x < n∧P x.toNat):(l.mergeSort fun x y=>decide (x ≤ y))=aB9 n P:=by
 have hp:=List.mergeSort_perm l (fun x y=>decide (x ≤ y))
 have hs:=List.pairwise_mergeSort (le:=fun x y:Int=>decide (x ≤ y)) (fun a b c h1 h2=>by simp only [decide_eq_true_eq] at *;omega) (fun a b=>by simp only [Bool.or_eq_true,decide_eq_true_eq];omega) l
 have hn:(l.mergeSort fun x y=>decide (x ≤ y)).Nodup:=hp.nodup_iff.2 hl
 refine aJu ?_ fun x=>by rw [← h];exact hp.mem_iff
 rw [List.nodup_iff_pairwise_ne] at hn
 exact (hs.and hn).imp fun ⟨h1,h2⟩=>by simp only [decide_eq_true_eq] at h1;omega
theorem iV {n:Nat} {l:List Int} (hl:l.Nodup) (hb:∀ x ∈ l,0 ≤ x∧x < n):l.length ≤ n:=by
 have:=hl.length_le_of_subset (l₂:=(List.range n).map fun k:Nat=>(k:Int)) fun x hx=>by
  have:=hb x hx
  exact List.mem_map.2 ⟨x.toNat,List.mem_range.2 (by omega),by omega⟩
 simpa using this
theorem aDu {l:List Int} (h:l.length ≤ 1048576):sort_Ints l=some (l.mergeSort fun x y=>decide (x ≤ y)):=by
 unfold sort_Ints;rw [if_pos (by omega)]
theorem vG {s:List Int} (h:s.Nodup) (x:Int):(xF s x).Nodup:=by
 unfold xF
 split
 ·exact h
 ·rename_i hc
  rw [List.nodup_append]
  refine ⟨h,by simp,fun a ha b hb=>?_⟩
  simp only [List.mem_singleton] at hb
  subst hb
  rintro rfl
  exact hc (by simpa using ha)
theorem lF:∀ (l:List Int) {s:List Int},s.Nodup→(l.foldl xF s).Nodup
 | [],s,h=>h
 | x :: l,s,h=>lF l (vG h x)
theorem aN5 (s:List Int) (x:Int):∃ t,xF s x=s ++ t:=by
 unfold xF
 split
 ·exact ⟨[],by simp⟩
 ·exact ⟨[x],rfl⟩
theorem rZ:∀ (l:List Int) (s:List Int),∃ t,l.foldl xF s=s ++ t
 | [],s=>⟨[],by simp⟩
 | x :: l,s=>by
  obtain ⟨t,ht⟩:=aN5 s x
  obtain ⟨t',ht'⟩:=rZ l (xF s x)
  exact ⟨t ++ t',by rw [List.foldl_cons,ht',ht,List.append_assoc]⟩
theorem aGe {n:Nat} {l s:List Int} (hs:∀ x ∈ s,0 ≤ x∧x < (n:Int)) (hl:∀ x ∈ l,0 ≤ x∧x < (n:Int)):∀ x ∈ l.foldl xF s,0 ≤ x∧x < (n:Int):=fun x hx=>by
 rcases (fE x l s).1 hx with h | h
 ·exact hs x h
 ·exact hl x h
theorem aHz {ρ:Type} (n:Nat) (l:List Int) (hl:∀ x ∈ l,0 ≤ x∧x < (n:Int)) (f:List Int × Int→Option ((List Int × Int) ⊕ ρ)) (fin:List Int→ρ)
  (hf:∀ (o:List Int) (k:Nat) (hk:k < l.length),o.length ≤ n→f (o,k)=some (.inl (xF o l[k],((k + 1:Nat):Int))))
  (he:∀ o,f (o,l.length)=some (.inr (fin o))) (o:List Int) (ho:o.Nodup) (hb:∀ x ∈ o,0 ≤ x∧x < (n:Int)):aG f (o,0)=some (fin (l.foldl xF o)):=by
 have:=bB l (fun (s:List Int) k=>(s,(k:Int))) (fun k s=>s.Nodup∧∀ x ∈ s,0 ≤ x∧x < (n:Int)) (fun s e=>.inl (xF s e)) fin f (fun s k hk hI=>by
  left
  refine ⟨_,rfl,hf s k hk (iV hI.1 hI.2),vG hI.1 _,fun x hx=>?_⟩
  rcases mem_addL.1 hx with h | h
  ·exact hI.2 x h
  ·subst h;exact hl _ (List.getElem_mem hk)) (fun s _=>he s) o ⟨ho,hb⟩
 rw [bT] at this
 exact this
theorem aN3 {ρ:Type} (n:Nat) (root:Nat) (hroot:root < n) (next:Nat→List Int) (hnx:∀ i,Reach next root i→∀ m ∈ next i,0 ≤ m∧m < (n:Int)) (f:List Int × Int→Option ((List Int × Int) ⊕ ρ)) (fin:List Int→ρ)
  (hf:∀ (o:List Int) (k:Nat) (hk:k < o.length),o.Nodup→(∀ x ∈ o,0 ≤ x∧x < (n:Int))→Reach next root o[k].toNat→f (o,k)=some (.inl ((next o[k].toNat).foldl xF o,((k + 1:Nat):Int))))
  (he:∀ o:List Int,o.length ≤ n→f (o,o.length)=some (.inr (fin o))):∃ o:List Int,aG f ([(root:Int)],0)=some (fin o)∧o.Nodup∧∀ x,x ∈ o ↔ 0 ≤ x∧x < (n:Int)∧Reach next root x.toNat:=by
 obtain ⟨r,h1,o,h2,h3⟩:=cC (f:=f) (fun s:List Int × Int=>∃ i:Nat,s.2=i∧i ≤ s.1.length∧s.1.Nodup∧(root:Int) ∈ s.1∧(∀ x ∈ s.1,0 ≤ x∧x < (n:Int)∧Reach next root x.toNat)∧∀ (j:Nat) (hj:j < s.1.length),j < i→∀ m ∈ next s.1[j].toNat,m ∈ s.1) (fun s=>n - s.2.toNat) (fun r=>∃ o,r=fin o∧o.Nodup∧∀ x,x ∈ o ↔ 0 ≤ x∧x < (n:Int)∧Reach next root x.toNat) (by
  rintro ⟨o,i⟩ ⟨i,rfl,hi,hn,hr,hb,hc⟩
  simp only at hi hn hr hb hc
  have hb2:∀ x ∈ o,0 ≤ x∧x < (n:Int):=fun x hx=>⟨(hb x hx).1,(hb x hx).2.1⟩
  have hlen:=iV hn hb2
  by_cases hlt:i < o.length
  ·left
   have hbi:=hb _ (List.getElem_mem hlt)
   have hnb:=hnx _ hbi.2.2
   refine ⟨_,hf o i hlt hn hb2 hbi.2.2,⟨i + 1,rfl,?_,lF _ hn,?_,?_,?_⟩,by simp only [Int.toNat_natCast];omega⟩
   ·obtain ⟨t,ht⟩:=rZ (next o[i].toNat) o
    simp only [ht,List.length_append];omega
   ·exact (fE _ _ _).2 (.inl hr)
   ·intro x hx
    rcases (fE _ _ _).1 hx with h | h
    ·exact hb x h
    ·exact ⟨(hnb x h).1,(hnb x h).2,.step hbi.2.2 h⟩
   ·intro j hj hji m hm
    obtain ⟨t,ht⟩:=rZ (next o[i].toNat) o
    simp only at hj hm ⊢
    have hjo:j < o.length:=by omega
    have hg:((next o[i].toNat).foldl xF o)[j]=o[j]:=by
     simp only [ht]
     exact List.getElem_append_left hjo
    rw [hg] at hm
    rw [fE]
    by_cases e:j=i
    ·subst e;exact .inr hm
    ·exact .inl (hc j hjo (by omega) m hm)
  ·right
   have:i=o.length:=by omega
   subst this
   refine ⟨fin o,he o hlen,o,rfl,hn,fun x=>⟨hb x,fun ⟨h1,h2,h3⟩=>?_⟩⟩
   have key:∀ k,Reach next root k→(k:Int) ∈ o:=by
    intro k hk
    induction hk with
    | base=>exact hr
    | step hk' hm ih =>
     obtain ⟨j,hj,he⟩:=List.mem_iff_getElem.1 ih
     rename_i a m
     have hm2:m ∈ next o[j].toNat:=by rw [he,Int.toNat_natCast];exact hm
     have:=hc j hj hj m hm2
     have hmb:=hb m this
     rw [show ((m.toNat:Nat):Int)=m by omega]
     exact this
   have:=key _ h3
   rwa [show ((x.toNat:Nat):Int)=x by omega] at this) ([(root:Int)],0) ⟨0,rfl,by simp,by simp,by simp,fun x hx=>by
  simp only [List.mem_singleton] at hx
  subst hx
  exact ⟨by omega,by omega,by rw [Int.toNat_natCast];exact .base⟩,fun j hj h=>by omega⟩
 exact ⟨o,by rw [h1,h2],h3⟩
theorem aJv {ρ:Type} (n:Nat) (hn:n ≤ 1048576) (p:Nat→Bool) (f:List Int × Int→Option ((List Int × Int) ⊕ ρ)) (fin:List Int→ρ)
  (hf:∀ (o:List Int) (k:Nat),o.length ≤ 1048576→k < n→f (o,k)=some (.inl ((if p k=true then o ++ [(k:Int)] else o),((k + 1:Nat):Int))))
  (he:∀ o:List Int,f (o,n)=some (.inr (fin o))):aG f ([],0)=some (fin (aB9 n fun k=>p k=true)):=by
 obtain ⟨r,h1,h2⟩:=cC (f:=f) (fun s:List Int × Int=>∃ k:Nat,s.2=k∧k ≤ n∧s.1=((List.range k).filter p).map fun k:Nat=>(k:Int)) (fun s=>n - s.2.toNat) (fun r=>r=fin (((List.range n).filter p).map fun k:Nat=>(k:Int))) (by
  rintro ⟨o,i⟩ ⟨k,rfl,hk,ho⟩
  simp only at ho hk
  by_cases hlt:k < n
  ·left
   have hol:o.length ≤ 1048576:=by
    rw [ho,List.length_map]
    have:=List.length_filter_le p (List.range k)
    rw [List.length_range] at this
    omega
   refine ⟨_,hf o k hol hlt,⟨k + 1,rfl,by omega,?_⟩,by simp only [Int.toNat_natCast];omega⟩
   simp only
   rw [List.range_succ,List.filter_append,List.map_append,← ho]
   cases hp:p k<;>simp [hp]
  ·right
   have:k=n:=by omega
   subst this
   exact ⟨_,he o,by rw [ho]⟩) ([],0) ⟨0,rfl,by omega,rfl⟩
 rw [h1,h2]
 have:((List.range n).filter p).map (fun k:Nat=>(k:Int))=aB9 n fun k=>p k=true:=by
  unfold aB9
  congr 1
  refine List.filter_congr fun x _=>?_
  simp
 rw [this]
def qD (nodes:List GNode) (i:Nat):List Int:=match nodes[i]? with
 | some x=>x.Kids
 | none=>[]
theorem aCs {nodes:List GNode} {i:Nat} (h:i < nodes.length):qD nodes i=nodes[i].Kids:=by unfold qD;rw [List.getElem?_eq_getElem h]
theorem zE {nodes:List GNode} {i:Nat} (h:mR nodes i=true):(qD nodes i).length ≤ 12∧∀ m ∈ qD nodes i,0 ≤ m∧m < i:=by
 have hi:i < nodes.length:=(lW h).1
 have hg:nodes[i]? = some nodes[i]:=List.getElem?_eq_getElem hi
 rw [aCs hi]
 exact ⟨dX h hg,iJ h hg⟩
theorem aBy {nodes:List GNode} {k:Nat} (h:okU nodes (k + 1)=true) {j:Nat} (r:Reach (qD nodes) k j):j ≤ k:=by
 induction r with
 | base=>exact Nat.le_refl _
 | step _ hm ih =>
  have:=(zE (kF h (by omega)).1).2 _ hm
  omega
noncomputable def cR (nodes:List GNode) (k:Int):List Int:=if vD nodes k=0 then [] else aB9 nodes.length (Reach (qD nodes) k.toNat)
theorem jL {nodes:List GNode} {k x:Int} (h:x ∈ cR nodes k):0 ≤ x∧x < nodes.length:=by
 unfold cR at h
 split at h
 ·cases h
 ·have:=mem_setL.1 h;exact ⟨this.1,this.2.1⟩
theorem xL (nodes:List GNode) (k:Int):(cR nodes k).Pairwise (· < ·):=by
 unfold cR
 split
 ·simp
 ·exact aCf _ _
theorem aCz (nodes:List GNode) (hn:nodes.length ≤ 1048576) (k:Nat) (hk:k < nodes.length) (hok:okU nodes (k + 1)=true):nW nodes k=some (aB9 nodes.length (Reach (qD nodes) k)):=by
 unfold nW
 have hnx:∀ i,Reach (qD nodes) k i→(qD nodes i).length ≤ 12∧∀ m ∈ qD nodes i,0 ≤ m∧m < (i:Int):=fun i hr=>zE (kF hok (by have:=aBy hok hr;omega)).1
 obtain ⟨o,g1,g2,g3⟩:=aN3 nodes.length k hk (qD nodes) (fun i hr m hm=>by
  have:=(hnx i hr).2 m hm
  have:=aBy hok hr
  omega) (gG nodes) (fun o=>o) (fun o i hi hnd hb hr=>by
   have hbi:=hb _ (List.getElem_mem hi)
   have hlt:o[i].toNat < nodes.length:=by omega
   have hge:aK nodes o[i]=some nodes[o[i].toNat]:=cN hbi.1 hbi.2
   have hol:=iV hnd hb
   obtain ⟨hkl,hkb⟩:=hnx _ hr
   have hle:=aBy hok hr
   have hkn:=aCs hlt
   simp only [gG,aB hi,if_true,aD hi,Option.bind_some,hge]
   rw [hkn] at hkl hkb ⊢
   generalize nodes[o[i].toNat]=x at *
   rw [aHz nodes.length x.Kids (fun m hm=>by have:=hkb m hm;omega) (gF x) (fun o=>o) (fun o k hk ho=>by
    have happ:lM 8 o [x.Kids[k]]=some (o ++ [x.Kids[k]]):=aOr (by omega) (by omega)
    simp only [gF,aB hk,if_true,aD hk,Option.bind_some,zW o _ (by omega),aQ hk (show x.Kids.length ≤ 1048576 by omega),happ]
    unfold xF
    cases o.contains x.Kids[k]<;>rfl) (fun o=>by simp [gF]) o hnd hb]
   simp only [Option.bind_some,aQ hi (show o.length ≤ 1048576 by omega)]) (fun o ho=>by simp [gG])
 rw [g1]
 simp only [Option.bind_some]
 have hol:o.length ≤ 1048576:=by
  have:=iV (n:=nodes.length) g2 fun x hx=>⟨((g3 x).1 hx).1,((g3 x).1 hx).2.1⟩
  omega
 rw [aDu hol]
 simp only [Option.bind_some]
 rw [aDv g2 g3]
theorem tJ (p:GProgram) (hn:p.Nodes.length ≤ 1048576) (k:Int):lK p k=some (cR p.Nodes k):=by
 unfold lK cR
 rw [rO _ hn]
 simp only [Option.bind_some]
 by_cases hz:vD p.Nodes k=0
 ·rw [if_pos (by simpa using hz),if_pos hz]
 ·rw [if_neg (by simpa using hz),if_neg hz]
  obtain ⟨h0,h1,h2⟩:=aBt hz
  have:=aCz p.Nodes hn k.toNat (by omega) h2
  rw [show ((k.toNat:Nat):Int)=k by omega] at this
  rw [this];rfl
structure MarkR (nodes:List GNode) (k:Nat) (s s':List Bool):Prop where
 len:s'.length=s.length
 mono:∀ j:Nat,s[j]? = some true→s'[j]? = some true
 self:s'[k]? = some true
 sound:∀ j:Nat,s'[j]? = some true→s[j]? = some true ∨ Reach (qD nodes) k j
 closed:∀ j:Nat,s'[j]? = some true→s[j]? = some true ∨ ∀ m ∈ qD nodes j,s'[m.toNat]? = some true
theorem aKc {next:Nat→List Int} {k:Nat} {m:Int} (hm:m ∈ next k) {j:Nat} (r:Reach next m.toNat j):Reach next k j:=by
 induction r with
 | base=>exact .step .base hm
 | step _ hm' ih=>exact .step ih hm'
theorem aEa (nodes:List GNode) (hn:nodes.length ≤ 1048576):∀ (f k:Nat) (s:List Bool),okU nodes (k + 1)=true→nI nodes k ≤ f→s.length=nodes.length→∃ s',cI f nodes k s=some s'∧MarkR nodes k s s'
 | 0,k,s,hok,hd,hs=>by have:=hE nodes k;omega
 | f + 1,k,s,hok,hd,hs=>by
  obtain ⟨hnb,_⟩:=kF hok (Nat.lt_succ_self k)
  have hk:k < nodes.length:=(lW hnb).1
  have hx:nodes[k]? = some nodes[k]:=List.getElem?_eq_getElem hk
  have hge:aK nodes (k:Int)=some nodes[k]:=aD hk
  obtain ⟨hkl,hkb⟩:=zE hnb
  have hkn:=aCs hk
  have hks:k < s.length:=by omega
  have hkid:=fun kid hm=>xD (kid:=kid) hnb hx hm
  rw [hkn] at hkl hkb
  generalize hxe:nodes[k]=x at *
  show ∃ s',gO (cI f) nodes k s=some s'∧MarkR nodes k s s'
  unfold gO
  rw [aD hks]
  simp only [Option.bind_some]
  by_cases hsk:s[k]=true
  ·rw [if_pos hsk]
   have hsk':s[k]? = some true:=by rw [List.getElem?_eq_getElem hks,hsk]
   exact ⟨s,rfl,rfl,fun _ h=>h,hsk',fun _ h=>.inl h,fun _ h=>.inl h⟩
  ·rw [if_neg hsk]
   simp only [bO,Int.toNat_natCast]
   have hs0:(s.set k true).length=nodes.length:=by rw [List.length_set];exact hs
   have hs0k:(s.set k true)[k]? = some true:=by rw [List.getElem?_set,if_pos rfl,if_pos hks]
   have hs0j:∀ j:Nat,(s.set k true)[j]? = some true→s[j]? = some true ∨ j=k:=by
    intro j h
    rw [List.getElem?_set] at h
    split at h
    ·rename_i e;exact .inr e.symm
    ·exact .inl h
   have hs0m:∀ j:Nat,s[j]? = some true→(s.set k true)[j]? = some true:=by
    intro j h
    rw [List.getElem?_set]
    by_cases e:k=j
    ·subst e;rw [if_pos rfl,if_pos hks]
    ·rw [if_neg e];exact h
   obtain ⟨r,g1,g2⟩:=cC (f:=eI (cI f) nodes k) (fun t:List Bool × Int=>∃ i:Nat,t.2=i∧i ≤ x.Kids.length∧t.1.length=nodes.length∧(∀ j:Nat,(s.set k true)[j]? = some true→t.1[j]? = some true)∧(∀ j:Nat,t.1[j]? = some true→(s.set k true)[j]? = some true ∨ Reach (qD nodes) k j) ∧
     (∀ j:Nat,t.1[j]? = some true→(s.set k true)[j]? = some true ∨ ∀ m ∈ qD nodes j,t.1[m.toNat]? = some true)∧∀ (q:Nat) (hq:q < x.Kids.length),q < i→t.1[(x.Kids[q]).toNat]? = some true) (fun t=>x.Kids.length - t.2.toNat) (fun r=>MarkR nodes k s r) (by
    rintro ⟨t,i⟩ ⟨i,rfl,hi,hl,hm,hso,hcl,hd'⟩
    simp only at hi hl hm hso hcl hd'
    by_cases hlt:i < x.Kids.length
    ·left
     have hmem:=List.getElem_mem hlt
     have hb:=hkb _ hmem
     obtain ⟨s',r1,r2⟩:=aEa nodes hn f (x.Kids[i]).toNat t (wX (by omega) hok) (by have:=hkid _ hmem;omega) hl
     rw [show (((x.Kids[i]).toNat:Nat):Int)=x.Kids[i] by omega] at r1
     have hmk:x.Kids[i] ∈ qD nodes k:=by rw [hkn];exact hmem
     refine ⟨(s',((i + 1:Nat):Int)),?_,⟨i + 1,rfl,by omega,r2.len.trans hl,fun j h=>r2.mono j (hm j h),fun j h=>?_,fun j h=>?_,fun q hq hqi=>?_⟩,by simp only [Int.toNat_natCast];omega⟩
     ·simp only [eI,hge,Option.bind_some,aB hlt,if_true,aD hlt,r1,aQ hlt (show x.Kids.length ≤ 1048576 by omega)]
     ·rcases r2.sound j h with h | h
      ·exact hso j h
      ·exact .inr (aKc hmk h)
     ·rcases r2.closed j h with h | h
      ·rcases hcl j h with h | h
       ·exact .inl h
       ·exact .inr fun m hm=>r2.mono _ (h m hm)
      ·exact .inr h
     ·by_cases e:q=i
      ·subst e;exact r2.self
      ·exact r2.mono _ (hd' q hq (by omega))
    ·right
     have:i=x.Kids.length:=by omega
     subst this
     refine ⟨t,by simp [eI,hge],hl.trans hs.symm,fun j h=>hm j (hs0m j h),hm k hs0k,fun j h=>?_,fun j h=>?_⟩
     ·rcases hso j h with h | h
      ·rcases hs0j j h with h | h
       ·exact .inl h
       ·subst h;exact .inr .base
      ·exact .inr h
     ·rcases hcl j h with h | h
      ·rcases hs0j j h with h | h
       ·exact .inl h
       ·subst h
        right
        intro m hm'
        rw [hkn] at hm'
        obtain ⟨q,hq,rfl⟩:=List.mem_iff_getElem.1 hm'
        exact hd' q hq hq
      ·exact .inr h) (s.set k true,0) ⟨0,rfl,by omega,hs0,fun _ h=>h,fun _ h=>.inl h,fun _ h=>.inl h,fun q _ h=>by omega⟩
   exact ⟨r,g1,g2⟩
theorem sH (p:GProgram) (hn:p.Nodes.length ≤ 1048576) (k:Int):jO p k=some (cR p.Nodes k):=by
 unfold jO cR
 rw [aAg _ hn]
 simp only [Option.bind_some]
 by_cases hz:vD p.Nodes k=0
 ·rw [if_pos (by simpa using hz),if_pos hz]
 ·rw [if_neg (by simpa using hz),if_neg hz]
  obtain ⟨h0,h1,h2⟩:=aBt hz
  rw [rX _ _ _ (by omega) (by omega)]
  simp only [Option.bind_some]
  obtain ⟨s',r1,r2⟩:=aEa p.Nodes hn iA k.toNat (List.replicate p.Nodes.length false) h2 (by
   have:=(kF h2 (Nat.lt_succ_self _)).2
   rw [aIj];omega) (by simp)
  rw [show ((k.toNat:Nat):Int)=k by omega] at r1
  have r1':pR p.Nodes k (List.replicate p.Nodes.length false)=some s':=r1
  rw [r1']
  simp only [Option.bind_some]
  have hl:s'.length=p.Nodes.length:=by rw [r2.len];simp
  have hrep:∀ j:Nat,¬ (List.replicate p.Nodes.length false)[j]? = some true:=by
   intro j h
   rw [List.getElem?_replicate] at h
   split at h<;>simp at h
  have hiff:∀ j,s'[j]? = some true ↔ Reach (qD p.Nodes) k.toNat j:=by
   intro j
   constructor
   ·intro h
    rcases r2.sound j h with h | h
    ·exact absurd h (hrep j)
    ·exact h
   ·intro h
    induction h with
    | base=>exact r2.self
    | step _ hm ih =>
     rcases r2.closed _ ih with h | h
     ·exact absurd h (hrep _)
     ·exact h _ hm
  rw [aJv p.Nodes.length hn (fun j=>s'.getD j false) (gA s') (fun o=>o) (fun o j ho hj=>by
   have hjs:j < s'.length:=by omega
   have happ:lM 8 o [(j:Int)]=some (o ++ [(j:Int)]):=aOr ho (by omega)
   simp only [gA,hl,aB hj,if_true,aD hjs,Option.bind_some,happ,aQ hj hn]
   rw [List.getD_eq_getElem?_getD,List.getElem?_eq_getElem hjs]
   simp only [Option.getD_some]
   cases s'[j]<;>rfl) (fun o=>by simp [gA,hl])]
  simp only [Option.bind_some]
  congr 1
  refine aB8 fun j hj=>?_
  rw [← hiff]
  have hjs:j < s'.length:=by omega
  rw [List.getD_eq_getElem?_getD,List.getElem?_eq_getElem hjs]
  simp
end Go.OM
