import Derived.Test.YtkbahglnleiepaaGreatDoorTB
import Derived.KernelRfl
set_option linter.unusedVariables false
set_option linter.unusedSimpArgs false
set_option linter.unusedVariables false
set_option linter.unusedSimpArgs false
set_option maxHeartbeats 8000000
namespace Go.Proofs.T
open Go.OM
theorem aKz:Tryz.f88.results.toList=[.tmp 4]:=rfl
theorem ent88:aE E.P 88:=eO Tryz.func88 (by simp [Tryz.f88]) rfl
theorem aFr (p1:GProgram) (f2:GFn) {r0:Bool} (h:rE p1 f2=some r0):Ok E 88 [.val (GProgram.enc false p1),.val (GFn.enc false f2)] [vb r0] []:=by
 refine oB Tryz.func88 rfl (by simp [Tryz.f88]) fun C (q:C.N=91) hP=>?_
 have u:=aM hP
 unfold rE at h
 refine O.zR u fun K w=>?_
 iterate 3 (refine wC rfl fun K z=>?_;simp [q];apply z)
 apply wN;apply w
 refine O.seq ?_
 obtain ⟨i2,a7,h⟩:=bS h
 refine O.seqRC rfl (u _ rfl) [2,3,31] [2,3] (fun _:Unit=>⟨[(2,.ref (.box 2) 0 []),(3,.ref (.box 3) 0 []),(31,.t (vb i2))],[(2,[.sl false 4 (List.map (GNode.enc false) p1.Nodes),.sl false 5 (List.map (GFn.enc false) p1.Fns)]),(3,[vs f2.Name,.sl false 2 (List.map GParam.enc f2.Params),vi f2.Res,vi f2.Body,vi f2.Ret])]⟩) (fun _=>True) (fun _ _=>?_) fun K4 e2=>?_
 rotate_left
 ·refine wC rfl fun K z=>?_;simp [q];apply z
  refine wC rfl fun K z=>?_;simp [q];apply z
  obtain ⟨r5,i3,a7⟩:=bS a7
  refine wL [(.take,.tmp 8)] rfl rfl aLx (oA _ i3) fun K z=>?_;simp [q];apply z
  iterate 2 (refine wC rfl fun K z=>?_;simp [q];apply z)
  rcases aA a7 with ⟨e1,a7⟩ | ⟨b0,a7⟩
  ·have c4:=e1
   try simp at c4
   iterate 4 (refine wO fun K z=>?_;simp [q,e1,c4];apply z)
   iterate 2 (refine wC rfl fun K z=>?_;simp [q,e1,c4];apply z)
   iterate 13 (refine wO fun K z=>?_;simp [q,e1,c4];apply z)
   refine wC rfl fun K z=>?_;simp [q,e1,c4];apply z
   refine wN ?_
   cases a7
   exact e2 _ () [] trivial (by simp [q,e1,c4])
  ·have a1:=b0
   try simp at a1
   iterate 6 (refine wC rfl fun K z=>?_;simp [q,b0,a1];apply z)
   rcases aA a7 with ⟨g1,a7⟩ | ⟨a2,a7⟩
   ·have d3:=g1
    try simp at d3
    iterate 13 (refine wO fun K z=>?_;simp [q,b0,a1,g1,d3];apply z)
    refine wC rfl fun K z=>?_;simp [q,b0,a1,g1,d3];apply z
    refine wN ?_
    cases a7
    exact e2 _ () [] trivial (by simp [q,b0,a1,g1,d3])
   ·have a0:=a2
    try simp at a0
    iterate 4 (refine wC rfl fun K z=>?_;simp [q,b0,a1,a2,a0];apply z)
    rcases aA a7 with ⟨b6,a7⟩ | ⟨c5,a7⟩
    ·have a3:=b6
     try simp at a3
     iterate 5 (refine wC rfl fun K z=>?_;simp [q,b0,a1,a2,a0,b6,a3];apply z)
     rcases aA a7 with ⟨e0,a7⟩ | ⟨d4,a7⟩
     ·have c7:=e0
      try simp at c7
      iterate 5 (refine wC rfl fun K z=>?_;simp [q,b0,a1,a2,a0,b6,a3,e0,c7];apply z)
      refine wN ?_
      cases a7
      exact e2 _ () [] trivial (by simp [q,b0,a1,a2,a0,b6,a3,e0,c7])
     ·have b7:=d4
      try simp at b7
      iterate 3 (refine wO fun K z=>?_;simp [q,b0,a1,a2,a0,b6,a3,d4,b7];apply z)
      iterate 2 (refine wC rfl fun K z=>?_;simp [q,b0,a1,a2,a0,b6,a3,d4,b7];apply z)
      refine wN ?_
      cases a7
      exact e2 _ () [] trivial (by simp [q,b0,a1,a2,a0,b6,a3,d4,b7])
    ·have a5:=c5
     try simp at a5
     iterate 3 (refine wO fun K z=>?_;simp [q,b0,a1,a2,a0,c5,a5];apply z)
     iterate 2 (refine wC rfl fun K z=>?_;simp [q,b0,a1,a2,a0,c5,a5];apply z)
     iterate 3 (refine wO fun K z=>?_;simp [q,b0,a1,a2,a0,c5,a5];apply z)
     iterate 2 (refine wC rfl fun K z=>?_;simp [q,b0,a1,a2,a0,c5,a5];apply z)
     refine wN ?_
     cases a7
     exact e2 _ () [] trivial (by simp [q,b0,a1,a2,a0,c5,a5])
 rcases aA h with ⟨g2,h⟩ | ⟨g3,h⟩
 ·refine O.cT' (by simp) g2 ?_
  refine O.zR u fun K w=>?_
  refine wC rfl fun K z=>?_;simp [q];apply z
  apply wN;apply w
  cases h
  refine O.ret ?_
  simp [aC,iB,aKz]
 ·refine O.cF' (by simp) g3 ?_
  refine O.skip ?_
  obtain ⟨i4,g4,h⟩:=bS h
  refine O.seqC [2,3] [2,3] (fun v:Unit=>⟨[(2,.ref (.box 2) 0 []),(3,.ref (.box 3) 0 [])],[(2,[.sl false 4 (List.map (GNode.enc false) p1.Nodes),.sl false 5 (List.map (GFn.enc false) p1.Fns)]),(3,[vs f2.Name,.sl false 2 (List.map GParam.enc f2.Params),vi f2.Res,vi f2.Body,vi f2.Ret])]⟩) (fun v=>i4=Sum.inl v) (fun v hv=>?_) fun j1 g5=>?_
  rotate_left
  ·refine O.zR u fun K w=>?_
   iterate 4 (refine wC rfl fun K z=>?_;simp [q];apply z)
   apply wN;apply w
   refine O.block ?_
   refine O.loopO [] [2,3,33,34,35] [2,3] (fun v:Int=>⟨[(2,.ref (.box 2) 0 []),(3,.ref (.box 3) 0 []),(33,.t (.sl false 2 (List.map GParam.enc f2.Params))),(34,.t (vi (f2.Params.length:Int))),(35,.t (vi v))],[(2,[.sl false 4 (List.map (GNode.enc false) p1.Nodes),.sl false 5 (List.map (GFn.enc false) p1.Fns)]),(3,[vs f2.Name,.sl false 2 (List.map GParam.enc f2.Params),vi f2.Res,vi f2.Body,vi f2.Ret])]⟩) (jD f2) _ 0 g4 (by simp [q]) ?_
   intro g j2 b8 e3
   obtain ⟨i5,hg⟩:∃ y,y=g:=⟨_,rfl⟩
   subst hg
   simp only [jD] at b8
   try dsimp only
   refine O.zR u fun K w=>?_
   refine wC rfl fun K z=>?_;simp [q];apply z
   apply wN;apply w
   refine O.seq ?_
   rcases aA b8 with ⟨g6,b8⟩ | ⟨g7,b8⟩
   ·refine O.cT' (by simp) g6 ?_
    refine O.skip ?_
    refine O.seq ?_
    refine O.block ?_
    refine O.zR u fun K w=>?_
    obtain ⟨j3,g8,b8⟩:=bS b8
    obtain ⟨e4,e5,e6,e7⟩:=gS g8
    iterate 4 (refine wC rfl fun K z=>?_;simp [q,e4,e5,e6,e7];apply z)
    apply wN;apply w
    obtain ⟨i6,a8,b8⟩:=bS b8
    refine O.seqRC rfl (u _ rfl) [2,3,33,34,35,48] [2,3] (fun _:Unit=>⟨[(2,.ref (.box 2) 0 []),(3,.ref (.box 3) 0 []),(33,.t (.sl false 2 (List.map GParam.enc f2.Params))),(34,.t (vi (f2.Params.length:Int))),(35,.t (vi i5)),(48,.t (vb i6))],[(2,[.sl false 4 (List.map (GNode.enc false) p1.Nodes),.sl false 5 (List.map (GFn.enc false) p1.Fns)]),(3,[vs f2.Name,.sl false 2 (List.map GParam.enc f2.Params),vi f2.Res,vi f2.Body,vi f2.Ret])]⟩) (fun _=>True) (fun _ _=>?_) fun j4 e8=>?_
    rotate_left
    ·refine wC rfl fun K z=>?_;simp [q];apply z
     refine wC rfl fun K z=>?_;simp [q];apply z
     obtain ⟨j5,g9,a8⟩:=bS a8
     refine wL [(.take,.tmp 40)] rfl rfl aLx (oA _ g9) fun K z=>?_;simp [q];apply z
     iterate 2 (refine wC rfl fun K z=>?_;simp [q];apply z)
     rcases aA a8 with ⟨d5,a8⟩ | ⟨c8,a8⟩
     ·have b9:=d5
      try simp at b9
      iterate 4 (refine wO fun K z=>?_;simp [q,d5,b9];apply z)
      refine wC rfl fun K z=>?_;simp [q,d5,b9];apply z
      refine wN ?_
      cases a8
      exact e8 _ () [] trivial (by simp [q,d5,b9])
     ·have b1:=c8
      try simp at b1
      iterate 2 (refine wC rfl fun K z=>?_;simp [q,c8,b1];apply z)
      obtain ⟨j6,h0,a8⟩:=bS a8
      refine wL [(.take,.tmp 45),(.take,.const (.int .i64 1)),(.take,.const (.int .i64 4))] rfl rfl nD (aX _ _ _ h0) fun K z=>?_;simp [q,c8,b1];apply z
      iterate 2 (refine wC rfl fun K z=>?_;simp [q,c8,b1];apply z)
      refine wN ?_
      cases a8
      exact e8 _ () [] trivial (by simp [q,c8,b1])
    rcases aA b8 with ⟨h1,b8⟩ | ⟨h2,b8⟩
    ·refine O.cT' (by simp) h1 ?_
     refine O.zR u fun K w=>?_
     refine wC rfl fun K z=>?_;simp [q];apply z
     apply wN;apply w
     have i7:=congrArg some (e3 _ (Option.some.inj b8).symm)
     cases i7
     try dsimp only at h
     cases h
     refine O.ret ?_
     simp [aC,iB,aKz]
    ·refine O.cF' (by simp) h2 ?_
     refine O.skip ?_
     refine O.zG u fun K w=>?_
     iterate 2 (refine wC rfl fun K z=>?_;simp [q];apply z)
     apply wN;apply w
     cases b8
     exact ⟨_,[],rfl,by simp [q]⟩
   ·refine O.cF' (by simp) g7 ?_
    refine O.exit ?_
    have i8:=congrArg some (e3 _ (Option.some.inj b8).symm)
    cases i8
    exact g5 _ _ [] rfl (by simp [q])
  subst hv
  obtain ⟨⟩:=v
  try dsimp only at h ⊢
  refine O.seq ?_
  obtain ⟨i9,a9,h⟩:=bS h
  refine O.seqRC rfl (u _ rfl) [2,3,67] [2,3] (fun _:Unit=>⟨[(2,.ref (.box 2) 0 []),(3,.ref (.box 3) 0 []),(67,.t (vb i9))],[(2,[.sl false 4 (List.map (GNode.enc false) p1.Nodes),.sl false 5 (List.map (GFn.enc false) p1.Fns)]),(3,[vs f2.Name,.sl false 2 (List.map GParam.enc f2.Params),vi f2.Res,vi f2.Body,vi f2.Ret])]⟩) (fun _=>True) (fun _ _=>?_) fun j7 e9=>?_
  rotate_left
  ·refine wC rfl fun K z=>?_;simp [q];apply z
   iterate 5 (refine wC rfl fun K z=>?_;simp [q];apply z)
   obtain ⟨j8,h3,a9⟩:=bS a9
   refine wL [(.take,.tmp 51),(.take,.const (.int .i64 0)),(.take,.tmp 55)] rfl rfl nD (aX _ _ _ h3) fun K z=>?_;simp [q];apply z
   iterate 2 (refine wC rfl fun K z=>?_;simp [q];apply z)
   rcases aA a9 with ⟨d6,a9⟩ | ⟨d7,a9⟩
   ·have c0:=d6
    try simp at c0
    iterate 8 (refine wO fun K z=>?_;simp [q,d6,c0];apply z)
    refine wC rfl fun K z=>?_;simp [q,d6,c0];apply z
    refine wN ?_
    cases a9
    exact e9 _ () [] trivial (by simp [q,d6,c0])
   ·have c1:=d7
    try simp at c1
    iterate 4 (refine wC rfl fun K z=>?_;simp [q,d7,c1];apply z)
    obtain ⟨j9,h4,a9⟩:=bS a9
    obtain ⟨d9,c9,d0,d1⟩:=gS h4
    have d2:=c9;try simp at d2
    try simp only [Int.toNat_natCast] at d0 d1
    iterate 5 (refine wC rfl fun K z=>?_;simp [q,d7,c1,d9,c9,d0,d1,d2];apply z)
    refine wN ?_
    cases a9
    exact e9 _ () [] trivial (by simp [q,d7,c1,d9,c9,d0,d1,d2])
  rcases aA h with ⟨h5,h⟩ | ⟨h6,h⟩
  ·refine O.cT' (by simp) h5 ?_
   refine O.zR u fun K w=>?_
   refine wC rfl fun K z=>?_;simp [q];apply z
   apply wN;apply w
   cases h
   refine O.ret ?_
   simp [aC,iB,aKz]
  ·refine O.cF' (by simp) h6 ?_
   refine O.skip ?_
   refine O.seq ?_
   refine O.zR u fun K w=>?_
   iterate 3 (refine wC rfl fun K z=>?_;simp [q];apply z)
   apply wN;apply w
   rcases aA h with ⟨h7,h⟩ | ⟨h8,h⟩
   ·refine O.cT' (by simp) h7 ?_
    refine O.zR u fun K w=>?_
    iterate 4 (refine wC rfl fun K z=>?_;simp [q];apply z)
    apply wN;apply w
    cases h
    refine O.ret ?_
    simp [aC,iB,aKz]
   ·refine O.cF' (by simp) h8 ?_
    refine O.skip ?_
    obtain ⟨j0,a4,h⟩:=bS h
    refine O.seqRC rfl (u _ rfl) [4] [] (fun _:Unit=>⟨[(4,.t (vb j0))],[]⟩) (fun _=>True) (fun _ _=>?_) fun k0 g0=>?_
    rotate_left
    ·refine wC rfl fun K z=>?_;simp [q];apply z
     iterate 5 (refine wC rfl fun K z=>?_;simp [q];apply z)
     obtain ⟨k1,h9,a4⟩:=bS a4
     refine wL [(.take,.tmp 75),(.take,.const (.int .i64 0)),(.take,.tmp 79)] rfl rfl nD (aX _ _ _ h9) fun K z=>?_;simp [q];apply z
     refine wC rfl fun K z=>?_;simp [q];apply z
     rcases aA a4 with ⟨c6,a4⟩ | ⟨d8,a4⟩
     ·have a6:=c6
      try simp at a6
      iterate 4 (refine wC rfl fun K z=>?_;simp [q,c6,a6];apply z)
      obtain ⟨k2,i0,a4⟩:=bS a4
      obtain ⟨c2,b2,b3,b4⟩:=gS i0
      have b5:=b2;try simp at b5
      try simp only [Int.toNat_natCast] at b3 b4
      iterate 3 (refine wC rfl fun K z=>?_;simp [q,c6,a6,c2,b2,b3,b4,b5];apply z)
      obtain ⟨k3,i1,a4⟩:=bS a4
      refine wL [(.take,.tmp 88)] rfl rfl aOn (rB _ i1) fun K z=>?_;simp [q,c6,a6,c2,b2,b3,b4,b5];apply z
      iterate 2 (refine wC rfl fun K z=>?_;simp [q,c6,a6,c2,b2,b3,b4,b5];apply z)
      refine wN ?_
      cases a4
      exact g0 _ () [] trivial (by simp [q,c6,a6,c2,b2,b3,b4,b5])
     ·have c3:=d8
      try simp at c3
      iterate 8 (refine wO fun K z=>?_;simp [q,d8,c3];apply z)
      iterate 2 (refine wC rfl fun K z=>?_;simp [q,d8,c3];apply z)
      refine wN ?_
      cases a4
      exact g0 _ () [] trivial (by simp [q,d8,c3])
    cases h
    refine O.ret ?_
    simp [aC,iB,aKz]
theorem aL3:Tryz.f53.results.toList=[.tmp 2]:=rfl
theorem ent53:aE E.P 53:=eO Tryz.func53 (by simp [Tryz.f53]) rfl
theorem wA (p1:GProgram) {r0:Bool} (h:iM p1=some r0):Ok E 53 [.val (GProgram.enc false p1)] [vb r0] []:=by
 refine oB Tryz.func53 rfl (by simp [Tryz.f53]) fun C (q:C.N=115) hP=>?_
 have u:=aM hP
 unfold iM at h
 refine O.zR u fun K w=>?_
 iterate 2 (refine wC rfl fun K z=>?_;simp [q];apply z)
 apply wN;apply w
 refine O.zR u fun K w=>?_
 iterate 4 (refine wC rfl fun K z=>?_;simp [q];apply z)
 apply wN;apply w
 refine O.seq ?_
 obtain ⟨o5,a9,h⟩:=bS h
 refine O.seqRC rfl (u _ rfl) [1,3,35] [1] (fun _:Unit=>⟨[(1,.ref (.box 1) 0 []),(3,.t (vi (p1.Nodes.length:Int))),(35,.t (vb o5))],[(1,[.sl false 4 (List.map (GNode.enc false) p1.Nodes),.sl false 5 (List.map (GFn.enc false) p1.Fns)])]⟩) (fun _=>True) (fun _ _=>?_) fun K3 j6=>?_
 rotate_left
 ·refine wC rfl fun K z=>?_;simp [q];apply z
  obtain ⟨r4,o6,a9⟩:=bS a9
  refine wL [(.take,.tmp 18),(.take,.const (.int .i64 1)),(.take,.const (.int .i64 300))] rfl rfl nD (aX _ _ _ o6) fun K z=>?_;simp [q];apply z
  iterate 2 (refine wC rfl fun K z=>?_;simp [q];apply z)
  rcases aA a9 with ⟨g0,a9⟩ | ⟨b9,a9⟩
  ·have b5:=g0
   try simp at b5
   iterate 5 (refine wO fun K z=>?_;simp [q,g0,b5];apply z)
   iterate 2 (refine wC rfl fun K z=>?_;simp [q,g0,b5];apply z)
   iterate 6 (refine wO fun K z=>?_;simp [q,g0,b5];apply z)
   refine wC rfl fun K z=>?_;simp [q,g0,b5];apply z
   refine wN ?_
   cases a9
   exact j6 _ () [] trivial (by simp [q,g0,b5])
  ·have a0:=b9
   try simp at a0
   iterate 3 (refine wC rfl fun K z=>?_;simp [q,b9,a0];apply z)
   obtain ⟨r8,o7,a9⟩:=bS a9
   refine wL [(.take,.tmp 24),(.take,.const (.int .i64 1)),(.take,.const (.int .i64 8))] rfl rfl nD (aX _ _ _ o7) fun K z=>?_;simp [q,b9,a0];apply z
   iterate 3 (refine wC rfl fun K z=>?_;simp [q,b9,a0];apply z)
   rcases aA a9 with ⟨c4,a9⟩ | ⟨c0,a9⟩
   ·have b1:=c4
    try simp at b1
    iterate 6 (refine wO fun K z=>?_;simp [q,b9,a0,c4,b1];apply z)
    refine wC rfl fun K z=>?_;simp [q,b9,a0,c4,b1];apply z
    refine wN ?_
    cases a9
    exact j6 _ () [] trivial (by simp [q,b9,a0,c4,b1])
   ·have a5:=c0
    try simp at a5
    iterate 4 (refine wC rfl fun K z=>?_;simp [q,b9,a0,c0,a5];apply z)
    obtain ⟨q8,j7,a9⟩:=bS a9
    refine wL [(.take,.tmp 30),(.take,.tmp 32)] rfl rfl ent87 (sM _ _ j7) fun K z=>?_;simp [q,b9,a0,c0,a5];apply z
    iterate 2 (refine wC rfl fun K z=>?_;simp [q,b9,a0,c0,a5];apply z)
    refine wN ?_
    cases a9
    exact j6 _ () [] trivial (by simp [q,b9,a0,c0,a5])
 rcases aA h with ⟨j8,h⟩ | ⟨j9,h⟩
 ·refine O.cT' (by simp) j8 ?_
  refine O.zR u fun K w=>?_
  refine wC rfl fun K z=>?_;simp [q];apply z
  apply wN;apply w
  cases h
  refine O.ret ?_
  simp [aC,iB,aL3]
 ·refine O.cF' (by simp) j9 ?_
  refine O.skip ?_
  refine O.zR u fun K w=>?_
  refine wC rfl fun K z=>?_;simp [q];apply z
  obtain ⟨o1,k0,h⟩:=bS h
  obtain ⟨g1,g2,g3,g4⟩:=mS k0
  have c6:List.replicate (p1.Nodes.length:Int).toNat (vi 0)=List.map vi o1:=sU (f:=vi) g4
  try simp only [Int.toNat_natCast] at c6
  iterate 2 (refine wC rfl fun K z=>?_;simp [q,g1,g2,g3,c6];apply z)
  apply wN;apply w
  obtain ⟨c7,k1,h⟩:=bS h
  refine O.seqC [1,4] [1] (fun _:Unit=>⟨[(1,.ref (.box 1) 0 []),(4,.t (.sl true 1 (List.map vi c7)))],[(1,[.sl false 4 (List.map (GNode.enc false) p1.Nodes),.sl false 5 (List.map (GFn.enc false) p1.Fns)])]⟩) (fun _=>True) (fun _ _=>?_) fun q9 k2=>?_
  rotate_left
  ·refine O.zR u fun K w=>?_
   iterate 4 (refine wC rfl fun K z=>?_;simp [q];apply z)
   apply wN;apply w
   refine O.block ?_
   refine O.loopO [] [1,4,39,40,41] [1] (fun v:(List Int) × Int=>⟨[(1,.ref (.box 1) 0 []),(4,.t (.sl true 1 (List.map vi v.1))),(39,.t (.sl false 4 (List.map (GNode.enc false) p1.Nodes))),(40,.t (vi (p1.Nodes.length:Int))),(41,.t (vi v.2))],[(1,[.sl false 4 (List.map (GNode.enc false) p1.Nodes),.sl false 5 (List.map (GFn.enc false) p1.Fns)])]⟩) (dL p1) _ (o1,0) k1 (by simp [q]) ?_
   intro g r1 c8 k3
   obtain ⟨g5,o2⟩:=g
   simp only [dL] at c8
   try dsimp only
   refine O.zR u fun K w=>?_
   refine wC rfl fun K z=>?_;simp [q];apply z
   apply wN;apply w
   refine O.seq ?_
   rcases aA c8 with ⟨k4,c8⟩ | ⟨k5,c8⟩
   ·refine O.cT' (by simp) k4 ?_
    refine O.skip ?_
    obtain ⟨g6,e4,c8⟩:=bS c8
    refine O.seqC [1,4,39,40,41] [1] (fun _:Unit=>⟨[(1,.ref (.box 1) 0 []),(4,.t (.sl true 1 (List.map vi g6))),(39,.t (.sl false 4 (List.map (GNode.enc false) p1.Nodes))),(40,.t (vi (p1.Nodes.length:Int))),(41,.t (vi o2))],[(1,[.sl false 4 (List.map (GNode.enc false) p1.Nodes),.sl false 5 (List.map (GFn.enc false) p1.Fns)])]⟩) (fun _=>True) (fun _ _=>?_) fun r2 k6=>?_
    rotate_left
    ·refine O.block ?_
     refine O.zR u fun K w=>?_
     obtain ⟨k7,k8,e4⟩:=bS e4
     obtain ⟨g7,g8,g9,h0⟩:=gS k8
     iterate 4 (refine wC rfl fun K z=>?_;simp [q,g7,g8,g9,h0];apply z)
     apply wN;apply w
     refine O.zR u fun K w=>?_
     iterate 4 (refine wC rfl fun K z=>?_;simp [q];apply z)
     apply wN;apply w
     refine O.block ?_
     refine O.loopO [] [1,4,39,40,41,46,47,48] [1] (fun v:(List Int) × Int=>⟨[(1,.ref (.box 1) 0 []),(4,.t (.sl true 1 (List.map vi v.1))),(39,.t (.sl false 4 (List.map (GNode.enc false) p1.Nodes))),(40,.t (vi (p1.Nodes.length:Int))),(41,.t (vi o2)),(46,.t (.sl false 1 (List.map vi k7.Kids))),(47,.t (vi (k7.Kids.length:Int))),(48,.t (vi v.2))],[(1,[.sl false 4 (List.map (GNode.enc false) p1.Nodes),.sl false 5 (List.map (GFn.enc false) p1.Fns)])]⟩) (dK k7) _ (g5,0) e4 (by simp [q]) ?_
     intro g r3 b7 k9
     obtain ⟨h1,r5⟩:=g
     simp only [dK] at b7
     try dsimp only
     refine O.zR u fun K w=>?_
     refine wC rfl fun K z=>?_;simp [q];apply z
     apply wN;apply w
     refine O.seq ?_
     rcases aA b7 with ⟨l0,b7⟩ | ⟨l1,b7⟩
     ·refine O.cT' (by simp) l0 ?_
      refine O.skip ?_
      refine O.seq ?_
      refine O.block ?_
      refine O.zR u fun K w=>?_
      obtain ⟨o8,l2,b7⟩:=bS b7
      obtain ⟨h2,h3,h4,h5⟩:=gS l2
      iterate 3 (refine wC rfl fun K z=>?_;simp [q,h2,h3,h4,h5];apply z)
      apply wN;apply w
      refine O.zG u fun K w=>?_
      iterate 2 (refine wC rfl fun K z=>?_;simp [q];apply z)
      obtain ⟨o9,l3,b7⟩:=bS b7
      obtain ⟨c9,d0,d1,d2⟩:=gS l3
      iterate 4 (refine wC rfl fun K z=>?_;simp [q,c9,d0,d1,d2];apply z)
      obtain ⟨p0,l4,b7⟩:=bZ b7
      have d3:(List.map vi h1).set o8.toNat (vi (IntKind.wrap .i64 (o9 + 1)))=List.map vi p0:=bK (f:=vi) l4
      try simp only [Int.toNat_natCast] at d3
      refine wC rfl fun K z=>?_;simp [q,c9,d0,d1,d2,d3];apply z
      apply wN;apply w
      refine O.zG u fun K w=>?_
      iterate 2 (refine wC rfl fun K z=>?_;simp [q];apply z)
      apply wN;apply w
      cases b7
      exact ⟨_,[],rfl,by simp [q]⟩
     ·refine O.cF' (by simp) l1 ?_
      refine O.exit ?_
      have p2:=congrArg some (k9 _ (Option.some.inj b7).symm)
      cases p2
      exact k6 _ () [] trivial (by simp [q])
    refine O.zG u fun K w=>?_
    iterate 2 (refine wC rfl fun K z=>?_;simp [q];apply z)
    apply wN;apply w
    cases c8
    exact ⟨_,[],rfl,by simp [q]⟩
   ·refine O.cF' (by simp) k5 ?_
    refine O.exit ?_
    have p3:=congrArg some (k3 _ (Option.some.inj c8).symm)
    cases p3
    exact k2 _ () [] trivial (by simp [q])
  obtain ⟨p4,l5,h⟩:=bS h
  refine O.seqC [4] [] (fun v:List Int=>⟨[(4,.t (.sl true 1 (List.map vi v)))],[]⟩) (fun v=>p4=Sum.inl v) (fun v hv=>?_) fun r6 l6=>?_
  rotate_left
  ·refine O.zR u fun K w=>?_
   iterate 4 (refine wC rfl fun K z=>?_;simp [q];apply z)
   apply wN;apply w
   refine O.block ?_
   refine O.loopO [] [1,4,61,62,63] [1] (fun v:(List Int) × Int=>⟨[(1,.ref (.box 1) 0 []),(4,.t (.sl true 1 (List.map vi v.1))),(61,.t (.sl false 5 (List.map (GFn.enc false) p1.Fns))),(62,.t (vi (p1.Fns.length:Int))),(63,.t (vi v.2))],[(1,[.sl false 4 (List.map (GNode.enc false) p1.Nodes),.sl false 5 (List.map (GFn.enc false) p1.Fns)])]⟩) (cI p1) _ (c7,0) l5 (by simp [q]) ?_
   intro g r7 b6 e5
   obtain ⟨d4,l7⟩:=g
   simp only [cI] at b6
   try dsimp only
   refine O.zR u fun K w=>?_
   refine wC rfl fun K z=>?_;simp [q];apply z
   apply wN;apply w
   refine O.seq ?_
   rcases aA b6 with ⟨l8,b6⟩ | ⟨l9,b6⟩
   ·refine O.cT' (by simp) l8 ?_
    refine O.skip ?_
    obtain ⟨p5,a2,b6⟩:=bS b6
    refine O.seqC [1,4,61,62,63] [1] (fun v:List Int=>⟨[(1,.ref (.box 1) 0 []),(4,.t (.sl true 1 (List.map vi v))),(61,.t (.sl false 5 (List.map (GFn.enc false) p1.Fns))),(62,.t (vi (p1.Fns.length:Int))),(63,.t (vi l7))],[(1,[.sl false 4 (List.map (GNode.enc false) p1.Nodes),.sl false 5 (List.map (GFn.enc false) p1.Fns)])]⟩) (fun v=>p5=Sum.inl v) (fun v hv=>?_) fun r9 m0=>?_
    rotate_left
    ·refine O.block ?_
     refine O.zR u fun K w=>?_
     refine wC rfl fun K z=>?_;simp [q];apply z
     obtain ⟨b8,m1,a2⟩:=bS a2
     obtain ⟨h6,h7,h8,h9⟩:=gS m1
     iterate 5 (refine wC rfl fun K z=>?_;simp [q,h6,h7,h8,h9];apply z)
     apply wN;apply w
     refine O.seq ?_
     obtain ⟨p6,a3,a2⟩:=bS a2
     refine O.seqRC rfl (u _ rfl) [1,4,10,61,62,63,79] [1,10] (fun _:Unit=>⟨[(1,.ref (.box 1) 0 []),(4,.t (.sl true 1 (List.map vi d4))),(10,.ref (.box 10) 0 []),(61,.t (.sl false 5 (List.map (GFn.enc false) p1.Fns))),(62,.t (vi (p1.Fns.length:Int))),(63,.t (vi l7)),(79,.t (vb p6))],[(1,[.sl false 4 (List.map (GNode.enc false) p1.Nodes),.sl false 5 (List.map (GFn.enc false) p1.Fns)]),(10,[vs b8.Name,.sl false 2 (List.map GParam.enc b8.Params),vi b8.Res,vi b8.Body,vi b8.Ret])]⟩) (fun _=>True) (fun _ _=>?_) fun s0 i0=>?_
     rotate_left
     ·refine wC rfl fun K z=>?_;simp [q];apply z
      refine wC rfl fun K z=>?_;simp [q];apply z
      obtain ⟨s1,m2,a3⟩:=bS a3
      refine wL [(.take,.tmp 68),(.take,.tmp 69)] rfl rfl ent88 (aFr _ _ m2) fun K z=>?_;simp [q];apply z
      iterate 2 (refine wC rfl fun K z=>?_;simp [q];apply z)
      rcases aA a3 with ⟨c5,a3⟩ | ⟨c1,a3⟩
      ·have b2:=c5
       try simp at b2
       iterate 6 (refine wO fun K z=>?_;simp [q,c5,b2];apply z)
       refine wC rfl fun K z=>?_;simp [q,c5,b2];apply z
       refine wN ?_
       cases a3
       exact i0 _ () [] trivial (by simp [q,c5,b2])
      ·have a6:=c1
       try simp at a6
       iterate 3 (refine wC rfl fun K z=>?_;simp [q,c1,a6];apply z)
       obtain ⟨s2,m3,a3⟩:=bS a3
       refine wL [(.take,.tmp 73),(.take,.tmp 75)] rfl rfl aPp (rF _ _ m3) fun K z=>?_;simp [q,c1,a6];apply z
       iterate 3 (refine wC rfl fun K z=>?_;simp [q,c1,a6];apply z)
       refine wN ?_
       cases a3
       exact i0 _ () [] trivial (by simp [q,c1,a6])
     rcases aA a2 with ⟨m4,a2⟩ | ⟨m5,a2⟩
     ·refine O.cT' (by simp) m4 ?_
      refine O.zR u fun K w=>?_
      refine wC rfl fun K z=>?_;simp [q];apply z
      apply wN;apply w
      cases a2
      try dsimp only at b6
      have p7:=congrArg some (e5 _ (Option.some.inj b6).symm)
      cases p7
      try dsimp only at h
      cases h
      refine O.ret ?_
      simp [aC,iB,aL3]
     ·refine O.cF' (by simp) m5 ?_
      refine O.skip ?_
      refine O.zR u fun K w=>?_
      iterate 7 (refine wC rfl fun K z=>?_;simp [q];apply z)
      apply wN;apply w
      refine O.block ?_
      refine O.loopO [] [1,4,61,62,63,84,85,86] [1] (fun v:(List Int) × Int=>⟨[(1,.ref (.box 1) 0 []),(4,.t (.sl true 1 (List.map vi v.1))),(61,.t (.sl false 5 (List.map (GFn.enc false) p1.Fns))),(62,.t (vi (p1.Fns.length:Int))),(63,.t (vi l7)),(84,.t (.sl true 1 (List.map vi [b8.Body,b8.Ret]))),(85,.t (vi ([b8.Body,b8.Ret].length:Int))),(86,.t (vi v.2))],[(1,[.sl false 4 (List.map (GNode.enc false) p1.Nodes),.sl false 5 (List.map (GFn.enc false) p1.Fns)])]⟩) (aH b8) _ (d4,0) a2 (by simp [q]) ?_
      intro g s3 a1 i1
      obtain ⟨i2,p8⟩:=g
      simp only [aH] at a1
      try dsimp only
      refine O.zR u fun K w=>?_
      refine wC rfl fun K z=>?_;simp [q];apply z
      apply wN;apply w
      refine O.seq ?_
      rcases aA a1 with ⟨m6,a1⟩ | ⟨m7,a1⟩
      ·refine O.cT' (by simp) m6 ?_
       refine O.skip ?_
       refine O.seq ?_
       refine O.block ?_
       refine O.zR u fun K w=>?_
       obtain ⟨o3,m8,a1⟩:=bS a1
       obtain ⟨i3,d5,d6,i4⟩:=gS m8
       have d7:=d5;try simp at d7
       have c2:(List.map vi [b8.Body,b8.Ret])[p8.toNat]? = some (vi o3):=by rw [List.getElem?_map,d6];rfl
       try simp only [List.map_cons,List.map_nil] at c2
       have i5:=(List.getElem?_eq_some_iff.1 c2).2
       iterate 3 (refine wC rfl fun K z=>?_;simp [q,i3,d5,d6,i4,d7,c2,i5];apply z)
       apply wN;apply w
       refine O.seq ?_
       refine O.zR u fun K w=>?_
       iterate 2 (refine wC rfl fun K z=>?_;simp [q];apply z)
       apply wN;apply w
       rcases aA a1 with ⟨m9,a1⟩ | ⟨n0,a1⟩
       ·refine O.cT' (by simp) m9 ?_
        refine O.exit ?_
        refine O.zG u fun K w=>?_
        iterate 2 (refine wC rfl fun K z=>?_;simp [q];apply z)
        apply wN;apply w
        cases a1
        exact ⟨_,[],rfl,by simp [q]⟩
       ·refine O.cF' (by simp) n0 ?_
        refine O.skip ?_
        refine O.seq ?_
        refine O.zR u fun K w=>?_
        iterate 2 (refine wC rfl fun K z=>?_;simp [q];apply z)
        obtain ⟨s4,n1,a1⟩:=bS a1
        obtain ⟨i6,i7,i8,i9⟩:=gS n1
        iterate 3 (refine wC rfl fun K z=>?_;simp [q,i6,i7,i8,i9];apply z)
        apply wN;apply w
        rcases aA a1 with ⟨n2,a1⟩ | ⟨n3,a1⟩
        ·refine O.cT' (by simp) n2 ?_
         refine O.zR u fun K w=>?_
         refine wC rfl fun K z=>?_;simp [q];apply z
         apply wN;apply w
         have p9:=congrArg some (i1 _ (Option.some.inj a1).symm)
         cases p9
         try dsimp only at b6
         have q0:=congrArg some (e5 _ (Option.some.inj b6).symm)
         cases q0
         try dsimp only at h
         cases h
         refine O.ret ?_
         simp [aC,iB,aL3]
        ·refine O.cF' (by simp) n3 ?_
         refine O.skip ?_
         refine O.zG u fun K w=>?_
         iterate 2 (refine wC rfl fun K z=>?_;simp [q];apply z)
         obtain ⟨s5,n4,a1⟩:=bS a1
         obtain ⟨d8,d9,e0,e1⟩:=gS n4
         refine wC rfl fun K z=>?_;simp [q,d8,d9,e0,e1];apply z
         obtain ⟨q1,n5,a1⟩:=bZ a1
         have e2:(List.map vi i2).set o3.toNat (vi (-1))=List.map vi q1:=bK (f:=vi) n5
         try simp only [Int.toNat_natCast] at e2
         refine wC rfl fun K z=>?_;simp [q,d8,d9,e0,e1,e2];apply z
         apply wN;apply w
         refine O.zG u fun K w=>?_
         iterate 2 (refine wC rfl fun K z=>?_;simp [q];apply z)
         apply wN;apply w
         cases a1
         exact ⟨_,[],rfl,by simp [q]⟩
      ·refine O.cF' (by simp) m7 ?_
       refine O.exit ?_
       have q2:=congrArg some (i1 _ (Option.some.inj a1).symm)
       cases q2
       exact m0 _ _ [] rfl (by simp [q])
    subst hv
    obtain ⟨o4,hv⟩:∃ y,y=v:=⟨_,rfl⟩
    subst hv
    try dsimp only at b6 ⊢
    refine O.zG u fun K w=>?_
    iterate 2 (refine wC rfl fun K z=>?_;simp [q];apply z)
    apply wN;apply w
    cases b6
    exact ⟨_,[],rfl,by simp [q]⟩
   ·refine O.cF' (by simp) l9 ?_
    refine O.exit ?_
    have q3:=congrArg some (e5 _ (Option.some.inj b6).symm)
    cases q3
    exact l6 _ _ [] rfl (by simp [q])
  subst hv
  obtain ⟨a7,hv⟩:∃ y,y=v:=⟨_,rfl⟩
  subst hv
  try dsimp only at h ⊢
  obtain ⟨q4,n6,h⟩:=bS h
  refine O.seqC [] [] (fun v:Unit=>⟨[],[]⟩) (fun v=>q4=Sum.inl v) (fun v hv=>?_) fun s6 n7=>?_
  rotate_left
  ·refine O.zR u fun K w=>?_
   iterate 3 (refine wC rfl fun K z=>?_;simp [q];apply z)
   apply wN;apply w
   refine O.block ?_
   refine O.loopO [] [4,102,103,104] [] (fun v:Int=>⟨[(4,.t (.sl true 1 (List.map vi a7))),(102,.al (.slot 4) 0 [] none),(103,.t (vi (a7.length:Int))),(104,.t (vi v))],[]⟩) (dJ a7) _ 0 n6 (by simp [q]) ?_
   intro g s7 b3 j0
   obtain ⟨q5,hg⟩:∃ y,y=g:=⟨_,rfl⟩
   subst hg
   simp only [dJ] at b3
   try dsimp only
   refine O.zR u fun K w=>?_
   refine wC rfl fun K z=>?_;simp [q];apply z
   apply wN;apply w
   refine O.seq ?_
   rcases aA b3 with ⟨j1,b3⟩ | ⟨j2,b3⟩
   ·refine O.cT' (by simp) j1 ?_
    refine O.skip ?_
    refine O.seq ?_
    refine O.block ?_
    refine O.zR u fun K w=>?_
    obtain ⟨q6,j3,b3⟩:=bS b3
    obtain ⟨e6,e7,e8,e9⟩:=gS j3
    iterate 3 (refine wC rfl fun K z=>?_;simp [q,e6,e7,e8,e9];apply z)
    apply wN;apply w
    obtain ⟨n8,a8,b3⟩:=bS b3
    refine O.seqRC rfl (u _ rfl) [4,102,103,104,113] [] (fun _:Unit=>⟨[(4,.t (.sl true 1 (List.map vi a7))),(102,.al (.slot 4) 0 [] none),(103,.t (vi (a7.length:Int))),(104,.t (vi q5)),(113,.t (vb n8))],[]⟩) (fun _=>True) (fun _ _=>?_) fun q7 e3=>?_
    rotate_left
    ·refine wC rfl fun K z=>?_;simp [q];apply z
     iterate 2 (refine wC rfl fun K z=>?_;simp [q];apply z)
     rcases aA a8 with ⟨c3,a8⟩ | ⟨b4,a8⟩
     ·have b0:=c3
      try simp at b0
      iterate 3 (refine wC rfl fun K z=>?_;simp [q,c3,b0];apply z)
      refine wN ?_
      cases a8
      exact e3 _ () [] trivial (by simp [q,c3,b0])
     ·have a4:=b4
      try simp at a4
      iterate 2 (refine wO fun K z=>?_;simp [q,b4,a4];apply z)
      refine wC rfl fun K z=>?_;simp [q,b4,a4];apply z
      refine wN ?_
      cases a8
      exact e3 _ () [] trivial (by simp [q,b4,a4])
    rcases aA b3 with ⟨j4,b3⟩ | ⟨j5,b3⟩
    ·refine O.cT' (by simp) j4 ?_
     refine O.zR u fun K w=>?_
     refine wC rfl fun K z=>?_;simp [q];apply z
     apply wN;apply w
     have n9:=congrArg some (j0 _ (Option.some.inj b3).symm)
     cases n9
     try dsimp only at h
     cases h
     refine O.ret ?_
     simp [aC,iB,aL3]
    ·refine O.cF' (by simp) j5 ?_
     refine O.skip ?_
     refine O.zG u fun K w=>?_
     iterate 2 (refine wC rfl fun K z=>?_;simp [q];apply z)
     apply wN;apply w
     cases b3
     exact ⟨_,[],rfl,by simp [q]⟩
   ·refine O.cF' (by simp) j2 ?_
    refine O.exit ?_
    have o0:=congrArg some (j0 _ (Option.some.inj b3).symm)
    cases o0
    exact n7 _ _ [] rfl (by simp [q])
  subst hv
  obtain ⟨⟩:=v
  try dsimp only at h ⊢
  refine O.zR u fun K w=>?_
  refine wC rfl fun K z=>?_;simp [q];apply z
  apply wN;apply w
  cases h
  refine O.ret ?_
  simp [aC,iB,aL3]
theorem res111:Tryz.f111.results.toList=[.tmp 4]:=rfl
theorem ent111:aE E.P 111:=eO Tryz.func111 (by simp [Tryz.f111]) rfl
theorem aDu (a0:List GNode) (k2:Int) {r0:List Int} (h:oU a0 k2=some r0):Ok E 111 [.val (.sl false 4 (List.map (GNode.enc false) a0)),.val (vi k2)] [.sl true 1 (List.map vi r0)] []:=by
 refine oB Tryz.func111 rfl (by simp [Tryz.f111]) fun C (q:C.N=42) hP=>?_
 have y:=aM hP
 unfold oU at h
 refine O.zR y fun K u=>?_
 refine wC rfl fun K w=>?_;simp [q];apply w
 apply wN;apply u
 refine O.zR y fun K u=>?_
 iterate 3 (refine wC rfl fun K w=>?_;simp [q];apply w)
 apply wN;apply u
 obtain ⟨b0,d8,h⟩:=bS h
 refine O.seqC [5] [] (fun _:Unit=>⟨[(5,.t (.sl true 1 (List.map vi b0)))],[]⟩) (fun _=>True) (fun _ _=>?_) fun K4 d9=>?_
 rotate_left
 ·refine O.zR y fun K u=>?_
  refine wC rfl fun K w=>?_;simp [q];apply w
  apply wN;apply u
  refine O.block ?_
  refine O.loopO [] [0,5,6] [] (fun v:(List Int) × Int=>⟨[(0,.t (.sl false 4 (List.map (GNode.enc false) a0))),(5,.t (.sl true 1 (List.map vi v.1))),(6,.t (vi v.2))],[]⟩) (gW a0) _ ([k2],0) d8 (by simp [q]) ?_
  intro g e5 h8 e0
  obtain ⟨c2,i7⟩:=g
  simp only [gW] at h8
  try dsimp only
  refine O.seq ?_
  refine O.zR y fun K u=>?_
  iterate 4 (refine wC rfl fun K w=>?_;simp [q];apply w)
  apply wN;apply u
  rcases aA h8 with ⟨c3,h8⟩ | ⟨c4,h8⟩
  ·refine O.cT' (by simp) c3 ?_
   refine O.skip ?_
   obtain ⟨b1,a2,h8⟩:=bS h8
   refine O.seqC [0,5,6] [] (fun _:Unit=>⟨[(0,.t (.sl false 4 (List.map (GNode.enc false) a0))),(5,.t (.sl true 1 (List.map vi b1))),(6,.t (vi i7))],[]⟩) (fun _=>True) (fun _ _=>?_) fun e6 c5=>?_
   rotate_left
   ·refine O.block ?_
    refine O.zR y fun K u=>?_
    iterate 3 (refine wC rfl fun K w=>?_;simp [q];apply w)
    obtain ⟨e7,c6,a2⟩:=bS a2
    obtain ⟨a3,a4,a5,a6⟩:=gS c6
    iterate 2 (refine wC rfl fun K w=>?_;simp [q,a3,a4,a5,a6];apply w)
    obtain ⟨c7,c8,a2⟩:=bS a2
    obtain ⟨b2,b3,b4,b5⟩:=gS c8
    iterate 5 (refine wC rfl fun K w=>?_;simp [q,a3,a4,a5,a6,b2,b3,b4,b5];apply w)
    apply wN;apply u
    refine O.block ?_
    refine O.loopO [] [0,5,6,24,25,26] [] (fun v:(List Int) × Int=>⟨[(0,.t (.sl false 4 (List.map (GNode.enc false) a0))),(5,.t (.sl true 1 (List.map vi v.1))),(6,.t (vi i7)),(24,.t (.sl false 1 (List.map vi c7.Kids))),(25,.t (vi (c7.Kids.length:Int))),(26,.t (vi v.2))],[]⟩) (gV c7) _ (c2,0) a2 (by simp [q]) ?_
    intro g e8 a1 c9
    obtain ⟨b6,e9⟩:=g
    simp only [gV] at a1
    try dsimp only
    refine O.zR y fun K u=>?_
    refine wC rfl fun K w=>?_;simp [q];apply w
    apply wN;apply u
    refine O.seq ?_
    rcases aA a1 with ⟨d0,a1⟩ | ⟨d1,a1⟩
    ·refine O.cT' (by simp) d0 ?_
     refine O.skip ?_
     refine O.seq ?_
     refine O.block ?_
     refine O.zR y fun K u=>?_
     obtain ⟨e1,d2,a1⟩:=bS a1
     obtain ⟨b7,b8,b9,c0⟩:=gS d2
     iterate 3 (refine wC rfl fun K w=>?_;simp [q,b7,b8,b9,c0];apply w)
     apply wN;apply u
     refine O.zR y fun K u=>?_
     iterate 2 (refine wC rfl fun K w=>?_;simp [q];apply w)
     obtain ⟨g0,d3,a1⟩:=bS a1
     refine wL [(.bor,.tmp 30),(.take,.tmp 31)] rfl rfl aIr (kP _ _ d3) fun K w=>?_;simp [q];apply w
     refine wC rfl fun K w=>?_;simp [q];apply w
     apply wN;apply u
     rcases aA a1 with ⟨d4,a1⟩ | ⟨d5,a1⟩
     ·refine O.cT' (by simp) d4 ?_
      refine O.zG y fun K u=>?_
      iterate 3 (refine wC rfl fun K w=>?_;simp [q];apply w)
      obtain ⟨e2,d6,a1⟩:=bS a1
      obtain ⟨a7,a8,c1⟩:=aS d6
      have a9:List.map vi b6 ++ List.map vi [e1]=List.map vi e2:=dU (f:=vi) c1
      simp [eSl] at a7 a8 a9
      iterate 2 (refine wC rfl fun K w=>?_;simp [q,a7,a8,a9];apply w)
      apply wN;apply u
      refine O.zG y fun K u=>?_
      iterate 2 (refine wC rfl fun K w=>?_;simp [q];apply w)
      apply wN;apply u
      cases a1
      exact ⟨_,[],rfl,by simp [q]⟩
     ·refine O.cF' (by simp) d5 ?_
      refine O.skip ?_
      refine O.zG y fun K u=>?_
      iterate 2 (refine wC rfl fun K w=>?_;simp [q];apply w)
      apply wN;apply u
      cases a1
      exact ⟨_,[],rfl,by simp [q]⟩
    ·refine O.cF' (by simp) d1 ?_
     refine O.exit ?_
     have e3:=congrArg some (c9 _ (Option.some.inj a1).symm)
     cases e3
     exact c5 _ () [] trivial (by simp [q])
   refine O.zG y fun K u=>?_
   iterate 3 (refine wC rfl fun K w=>?_;simp [q];apply w)
   apply wN;apply u
   cases h8
   exact ⟨_,[],rfl,by simp [q]⟩
  ·refine O.cF' (by simp) c4 ?_
   refine O.exit ?_
   have e4:=congrArg some (e0 _ (Option.some.inj h8).symm)
   cases e4
   exact d9 _ () [] trivial (by simp [q])
 refine O.zR y fun K u=>?_
 refine wC rfl fun K w=>?_;simp [q];apply w
 obtain ⟨g1,d7,h⟩:=bS h
 refine mA rfl aOm (wQ _ d7) fun K w=>?_;simp [q];apply w
 apply wN;apply u
 refine O.zR y fun K u=>?_
 iterate 2 (refine wC rfl fun K w=>?_;simp [q];apply w)
 apply wN;apply u
 cases h
 refine O.ret ?_
 simp [aC,iB,res111]
theorem res96:Tryz.f96.results.toList=[.tmp 4]:=rfl
theorem ent96:aE E.P 96:=eO Tryz.func96 (by simp [Tryz.f96]) rfl
theorem uL (p1:GProgram) (k2:Int) {r0:List Int} (h:mD p1 k2=some r0):Ok E 96 [.val (GProgram.enc false p1),.val (vi k2)] [.sl true 1 (List.map vi r0)] []:=by
 refine oB Tryz.func96 rfl (by simp [Tryz.f96]) fun C (q:C.N=14) hP=>?_
 have y:=aM hP
 unfold mD at h
 refine O.zR y fun K u=>?_
 iterate 2 (refine wC rfl fun K v=>?_;simp [q];apply v)
 apply wN;apply u
 refine O.seq ?_
 refine O.zR y fun K u=>?_
 iterate 3 (refine wC rfl fun K v=>?_;simp [q];apply v)
 obtain ⟨r3,a0,h⟩:=bS h
 refine wL [(.take,.tmp 6),(.take,.tmp 7)] rfl rfl ent87 (sM _ _ a0) fun K v=>?_;simp [q];apply v
 refine wC rfl fun K v=>?_;simp [q];apply v
 apply wN;apply u
 rcases aA h with ⟨a1,h⟩ | ⟨a2,h⟩
 ·refine O.cT' (by simp) a1 ?_
  refine O.zR y fun K u=>?_
  refine wC rfl fun K v=>?_;simp [q];apply v
  apply wN;apply u
  cases h
  refine O.ret ?_
  simp [aC,iB,res96]
 ·refine O.cF' (by simp) a2 ?_
  refine O.skip ?_
  refine O.zR y fun K u=>?_
  iterate 3 (refine wC rfl fun K v=>?_;simp [q];apply v)
  obtain ⟨r7,a3,h⟩:=bS h
  refine wL [(.take,.tmp 11),(.take,.tmp 12)] rfl rfl ent111 (aDu _ _ a3) fun K v=>?_;simp [q];apply v
  refine wC rfl fun K v=>?_;simp [q];apply v
  apply wN;apply u
  cases h
  refine O.ret ?_
  simp [aC,iB,res96]
theorem res64:Tryz.f64.results.toList=[.tmp 4]:=rfl
theorem ent64:aE E.P 64:=eO Tryz.func64 (by simp [Tryz.f64]) rfl
theorem sL (p1:GProgram) (b5:Int) {r0:List GVar} (h:kK p1 b5=some r0):Ok E 64 [.val (GProgram.enc false p1),.val (vi b5)] [.sl true 3 (List.map GVar.enc r0)] []:=by
 refine oB Tryz.func64 rfl (by simp [Tryz.f64]) fun C (q:C.N=68) hP=>?_
 have y:=aM hP
 unfold kK at h
 refine O.zR y fun K u=>?_
 iterate 2 (refine wC rfl fun K z=>?_;simp [q];apply z)
 apply wN;apply u
 refine O.seq ?_
 refine O.zR y fun K u=>?_
 iterate 5 (refine wC rfl fun K z=>?_;simp [q];apply z)
 obtain ⟨r3,g8,h⟩:=bS h
 refine wL [(.take,.tmp 11),(.take,.const (.int .i64 0)),(.take,.tmp 15)] rfl rfl nD (aX _ _ _ g8) fun K z=>?_;simp [q];apply z
 refine wC rfl fun K z=>?_;simp [q];apply z
 apply wN;apply u
 rcases aA h with ⟨g9,h⟩ | ⟨h0,h⟩
 ·refine O.cT' (by simp) g9 ?_
  refine O.zR y fun K u=>?_
  refine wC rfl fun K z=>?_;simp [q];apply z
  apply wN;apply u
  cases h
  refine O.ret ?_
  simp [aC,iB,res64]
 ·refine O.cF' (by simp) h0 ?_
  refine O.skip ?_
  refine O.zR y fun K u=>?_
  refine wC rfl fun K z=>?_;simp [q];apply z
  apply wN;apply u
  obtain ⟨a8,d8,h⟩:=bS h
  refine O.seqC [1,2,5] [2] (fun _:Unit=>⟨[(1,.t (vi b5)),(2,.ref (.box 2) 0 []),(5,.t (.sl true 3 (List.map GVar.enc a8)))],[(2,[.sl false 4 (List.map (GNode.enc false) p1.Nodes),.sl false 5 (List.map (GFn.enc false) p1.Fns)])]⟩) (fun _=>True) (fun _ _=>?_) fun K8 h1=>?_
  rotate_left
  ·refine O.zR y fun K u=>?_
   iterate 3 (refine wC rfl fun K z=>?_;simp [q];apply z)
   obtain ⟨d9,e0,d8⟩:=bS d8
   obtain ⟨b6,b7,b8,b9⟩:=gS e0
   iterate 5 (refine wC rfl fun K z=>?_;simp [q,b6,b7,b8,b9];apply z)
   apply wN;apply u
   refine O.block ?_
   refine O.loopO [] [1,2,5,23,24,25] [2] (fun v:(List GVar) × Int=>⟨[(1,.t (vi b5)),(2,.ref (.box 2) 0 []),(5,.t (.sl true 3 (List.map GVar.enc v.1))),(23,.t (.sl false 2 (List.map GParam.enc d9.Params))),(24,.t (vi (d9.Params.length:Int))),(25,.t (vi v.2))],[(2,[.sl false 4 (List.map (GNode.enc false) p1.Nodes),.sl false 5 (List.map (GFn.enc false) p1.Fns)])]⟩) (fZ d9) _ ([],0) d8 (by simp [q]) ?_
   intro g h8 a7 e1
   obtain ⟨c0,h9⟩:=g
   simp only [fZ] at a7
   try dsimp only
   refine O.zR y fun K u=>?_
   refine wC rfl fun K z=>?_;simp [q];apply z
   apply wN;apply u
   refine O.seq ?_
   rcases aA a7 with ⟨e2,a7⟩ | ⟨e3,a7⟩
   ·refine O.cT' (by simp) e2 ?_
    refine O.skip ?_
    refine O.seq ?_
    refine O.block ?_
    refine O.zR y fun K u=>?_
    obtain ⟨g7,e4,a7⟩:=bS a7
    obtain ⟨c1,c2,c3,c4⟩:=gS e4
    iterate 4 (refine wC rfl fun K z=>?_;simp [q,c1,c2,c3,c4];apply z)
    apply wN;apply u
    refine O.zG y fun K u=>?_
    iterate 7 (refine wC rfl fun K z=>?_;simp [q];apply z)
    obtain ⟨h2,e5,a7⟩:=bS a7
    obtain ⟨a9,b0,c5⟩:=aS e5
    have b1:List.map GVar.enc c0 ++ List.map GVar.enc [(⟨g7.Name,g7.Typ,(-1)⟩:GVar)]=List.map GVar.enc h2:=dU (f:=GVar.enc) c5
    simp [eSl,GVar.enc] at a9 b0 b1
    iterate 2 (refine wC rfl fun K z=>?_;simp [q,a9,b0,b1];apply z)
    apply wN;apply u
    refine O.zG y fun K u=>?_
    iterate 2 (refine wC rfl fun K z=>?_;simp [q];apply z)
    apply wN;apply u
    cases a7
    exact ⟨_,[],rfl,by simp [q]⟩
   ·refine O.cF' (by simp) e3 ?_
    refine O.exit ?_
    have h3:=congrArg some (e1 _ (Option.some.inj a7).symm)
    cases h3
    exact h1 _ () [] trivial (by simp [q])
  obtain ⟨c6,a5,h⟩:=bS h
  refine O.seqC [5] [] (fun _:Unit=>⟨[(5,.t (.sl true 3 (List.map GVar.enc c6)))],[]⟩) (fun _=>True) (fun _ _=>?_) fun i0 e6=>?_
  rotate_left
  ·refine O.seq ?_
   obtain ⟨a6,e7,a5⟩:=bS a5
   obtain ⟨a1,a2,a3,a4⟩:=gS e7
   obtain ⟨c7,e8,a5⟩:=bS a5
   refine O.dT rfl (y _ rfl) [(38,.t (GProgram.enc false p1)),(39,.ref (.box 2) 1 []),(40,.t (.sl false 5 (List.map (GFn.enc false) p1.Fns))),(41,.t (vi b5)),(42,.rop [vs a6.Name,.sl false 2 (List.map GParam.enc a6.Params),vi a6.Res,vi a6.Body,vi a6.Ret] 0),(43,.rop [vs a6.Name,.sl false 2 (List.map GParam.enc a6.Params),vi a6.Res,vi a6.Body,vi a6.Ret] 3),(44,.t (vi a6.Body)),(45,.t (.sl true 1 (List.map vi c7))),(46,.t (vi (c7.length:Int))),(47,.t (vi 0))] [[],[],[1],[],[1,2,3],[1,2,3,4],[1,2,3,4,5],[0,1,2,3,4,5,6],[0,1,2,3,4,5,6,7],[]] (by simp) (by simp) (by simp [look]) rfl rfl rfl ?_ fun K u=>?_
   ·refine ⟨?_,?_,?_,?_,?_,?_,?_,?_,?_,?_,trivial⟩
    all_goals (intro τ hbx hb hd hf K u;try simp [aI] at hd;simp [aI] at hf;first | (refine wC rfl fun K' w=>?_;simp [q,hbx,hb,hd,hf,a1,a2,a3,a4];exact w _ (wN (u _ (by simp [aI,hbx,a1,a2,a3,a4])))) | (refine wL [(.take,.tmp 38),(.take,.tmp 44)] rfl rfl ent96 (uL _ _ e8) fun K' w=>?_;simp [q,hbx,hb,hd,hf,a1,a2,a3,a4];exact w _ (wN (u _ (by simp [aI,hbx,a1,a2,a3,a4])))))
   apply wN;apply u
   refine O.block ?_
   refine O.loopO [] [2,5,45,46,47] [2] (fun v:(List GVar) × Int=>⟨[(2,.ref (.box 2) 0 []),(5,.t (.sl true 3 (List.map GVar.enc v.1))),(45,.t (.sl true 1 (List.map vi c7))),(46,.t (vi (c7.length:Int))),(47,.t (vi v.2))],[(2,[.sl false 4 (List.map (GNode.enc false) p1.Nodes),.sl false 5 (List.map (GFn.enc false) p1.Fns)])]⟩) (fY p1 c7) _ (a8,0) a5 (by simp [q]) ?_
   intro g i1 a0 e9
   obtain ⟨c8,i2⟩:=g
   simp only [fY] at a0
   try dsimp only
   refine O.zR y fun K u=>?_
   refine wC rfl fun K z=>?_;simp [q];apply z
   apply wN;apply u
   refine O.seq ?_
   rcases aA a0 with ⟨g0,a0⟩ | ⟨g1,a0⟩
   ·refine O.cT' (by simp) g0 ?_
    refine O.skip ?_
    refine O.seq ?_
    refine O.block ?_
    refine O.zR y fun K u=>?_
    obtain ⟨h4,g2,a0⟩:=bS a0
    obtain ⟨c9,d0,d1,d2⟩:=gS g2
    iterate 3 (refine wC rfl fun K z=>?_;simp [q,c9,d0,d1,d2];apply z)
    apply wN;apply u
    refine O.zR y fun K u=>?_
    iterate 3 (refine wC rfl fun K z=>?_;simp [q];apply z)
    obtain ⟨h5,g3,a0⟩:=bS a0
    obtain ⟨d3,d4,d5,d6⟩:=gS g3
    iterate 4 (refine wC rfl fun K z=>?_;simp [q,d3,d4,d5,d6];apply z)
    apply wN;apply u
    refine O.zR y fun K u=>?_
    iterate 3 (refine wC rfl fun K z=>?_;simp [q];apply z)
    apply wN;apply u
    rcases aA a0 with ⟨g4,a0⟩ | ⟨g5,a0⟩
    ·refine O.cT' (by simp) g4 ?_
     refine O.zG y fun K u=>?_
     iterate 6 (refine wC rfl fun K z=>?_;simp [q];apply z)
     obtain ⟨h6,g6,a0⟩:=bS a0
     obtain ⟨b2,b3,d7⟩:=aS g6
     have b4:List.map GVar.enc c8 ++ List.map GVar.enc [(⟨h5.Name,0,h4⟩:GVar)]=List.map GVar.enc h6:=dU (f:=GVar.enc) d7
     simp [eSl,GVar.enc] at b2 b3 b4
     iterate 2 (refine wC rfl fun K z=>?_;simp [q,b2,b3,b4];apply z)
     apply wN;apply u
     refine O.zG y fun K u=>?_
     iterate 2 (refine wC rfl fun K z=>?_;simp [q];apply z)
     apply wN;apply u
     cases a0
     exact ⟨_,[],rfl,by simp [q]⟩
    ·refine O.cF' (by simp) g5 ?_
     refine O.skip ?_
     refine O.zG y fun K u=>?_
     iterate 2 (refine wC rfl fun K z=>?_;simp [q];apply z)
     apply wN;apply u
     cases a0
     exact ⟨_,[],rfl,by simp [q]⟩
   ·refine O.cF' (by simp) g1 ?_
    refine O.exit ?_
    have h7:=congrArg some (e9 _ (Option.some.inj a0).symm)
    cases h7
    exact e6 _ () [] trivial (by simp [q])
  refine O.zR y fun K u=>?_
  iterate 2 (refine wC rfl fun K z=>?_;simp [q];apply z)
  apply wN;apply u
  cases h
  refine O.ret ?_
  simp [aC,iB,res64]
theorem res67:Tryz.f67.results.toList=[.tmp 4]:=rfl
theorem ent67:aE E.P 67:=eO Tryz.func67 (by simp [Tryz.f67]) rfl
theorem uK (a0:List GVar) (a1:ByteArray) {r0:Int} (h:mC a0 a1=some r0):Ok E 67 [.val (.sl false 3 (List.map GVar.enc a0)),.val (vs a1)] [vi r0] []:=by
 refine oB Tryz.func67 rfl (by simp [Tryz.f67]) fun C (q:C.N=20) hP=>?_
 have u:=aM hP
 unfold mC at h
 refine O.zR u fun K w=>?_
 refine wC rfl fun K z=>?_;simp [q];apply z
 apply wN;apply w
 obtain ⟨j5,b2,h⟩:=bS h
 refine O.seqC [] [] (fun v:Unit=>⟨[],[]⟩) (fun v=>j5=Sum.inl v) (fun v hv=>?_) fun K4 b3=>?_
 rotate_left
 ·refine O.zR u fun K w=>?_
  iterate 3 (refine wC rfl fun K z=>?_;simp [q];apply z)
  apply wN;apply w
  refine O.block ?_
  refine O.loopO [] [1,7,8,9] [] (fun v:Int=>⟨[(1,.t (vs a1)),(7,.t (.sl false 3 (List.map GVar.enc a0))),(8,.t (vi (a0.length:Int))),(9,.t (vi v))],[]⟩) (gZ a0 a1) _ 0 b2 (by simp [q]) ?_
  intro g s9 h7 b1
  obtain ⟨v6,hg⟩:∃ y,y=g:=⟨_,rfl⟩
  subst hg
  simp only [gZ] at h7
  try dsimp only
  refine O.zR u fun K w=>?_
  refine wC rfl fun K z=>?_;simp [q];apply z
  apply wN;apply w
  refine O.seq ?_
  rcases aA h7 with ⟨a6,h7⟩ | ⟨a7,h7⟩
  ·refine O.cT' (by simp) a6 ?_
   refine O.skip ?_
   refine O.seq ?_
   refine O.block ?_
   refine O.zR u fun K w=>?_
   refine wC rfl fun K z=>?_;simp [q];apply z
   obtain ⟨b6,a8,h7⟩:=bS h7
   obtain ⟨a2,a3,a4,a5⟩:=gS a8
   iterate 5 (refine wC rfl fun K z=>?_;simp [q,a2,a3,a4,a5];apply z)
   apply wN;apply w
   refine O.zR u fun K w=>?_
   iterate 4 (refine wC rfl fun K z=>?_;simp [q];apply z)
   apply wN;apply w
   rcases aA h7 with ⟨a9,h7⟩ | ⟨b0,h7⟩
   ·refine O.cT' (by simp) a9 ?_
    refine O.zR u fun K w=>?_
    iterate 2 (refine wC rfl fun K z=>?_;simp [q];apply z)
    apply wN;apply w
    have b4:=congrArg some (b1 _ (Option.some.inj h7).symm)
    cases b4
    try dsimp only at h
    cases h
    refine O.ret ?_
    simp [aC,iB,res67]
   ·refine O.cF' (by simp) b0 ?_
    refine O.skip ?_
    refine O.zG u fun K w=>?_
    iterate 2 (refine wC rfl fun K z=>?_;simp [q];apply z)
    apply wN;apply w
    cases h7
    exact ⟨_,[],rfl,by simp [q]⟩
  ·refine O.cF' (by simp) a7 ?_
   refine O.exit ?_
   have b5:=congrArg some (b1 _ (Option.some.inj h7).symm)
   cases b5
   exact b3 _ _ [] rfl (by simp [q])
 subst hv
 obtain ⟨⟩:=v
 try dsimp only at h ⊢
 refine O.zR u fun K w=>?_
 refine wC rfl fun K z=>?_;simp [q];apply z
 apply wN;apply w
 cases h
 refine O.ret ?_
 simp [aC,iB,res67]
theorem res54:Tryz.f54.results.toList=[.tmp 4]:=rfl
theorem ent54:aE E.P 54:=eO Tryz.func54 (by simp [Tryz.f54]) rfl
theorem aAb (p1:GProgram) (b1:Int) {r0:Bool} (h:lK p1 b1=some r0):Ok E 54 [.val (GProgram.enc false p1),.val (vi b1)] [vb r0] []:=by
 refine oB Tryz.func54 rfl (by simp [Tryz.f54]) fun C (q:C.N=25) hP=>?_
 have u:=aM hP
 unfold lK at h
 refine O.zR u fun K w=>?_
 iterate 2 (refine wC rfl fun K z=>?_;simp [q];apply z)
 apply wN;apply w
 refine O.zR u fun K w=>?_
 iterate 2 (refine wC rfl fun K z=>?_;simp [q];apply z)
 obtain ⟨r3,b2,h⟩:=bS h
 refine wL [(.take,.tmp 8),(.take,.tmp 9)] rfl rfl ent64 (sL _ _ b2) fun K z=>?_;simp [q];apply z
 refine wC rfl fun K z=>?_;simp [q];apply z
 apply wN;apply w
 obtain ⟨j7,b3,h⟩:=bS h
 refine O.seqC [] [] (fun v:Unit=>⟨[],[]⟩) (fun v=>j7=Sum.inl v) (fun v hv=>?_) fun K6 b4=>?_
 rotate_left
 ·refine O.zR u fun K w=>?_
  iterate 3 (refine wC rfl fun K z=>?_;simp [q];apply z)
  apply wN;apply w
  refine O.block ?_
  refine O.loopO [] [5,11,12,13] [] (fun v:Int=>⟨[(5,.t (.sl true 3 (List.map GVar.enc r3))),(11,.al (.slot 5) 0 [] none),(12,.t (vi (r3.length:Int))),(13,.t (vi v))],[]⟩) (fA r3) _ 0 b3 (by simp [q]) ?_
  intro g b7 h9 a0
  obtain ⟨v8,hg⟩:∃ y,y=g:=⟨_,rfl⟩
  subst hg
  simp only [fA] at h9
  try dsimp only
  refine O.zR u fun K w=>?_
  refine wC rfl fun K z=>?_;simp [q];apply z
  apply wN;apply w
  refine O.seq ?_
  rcases aA h9 with ⟨a5,h9⟩ | ⟨a6,h9⟩
  ·refine O.cT' (by simp) a5 ?_
   refine O.skip ?_
   refine O.seq ?_
   refine O.block ?_
   refine O.zR u fun K w=>?_
   refine wC rfl fun K z=>?_;simp [q];apply z
   obtain ⟨b8,a7,h9⟩:=bS h9
   obtain ⟨a1,a2,a3,a4⟩:=gS a7
   iterate 5 (refine wC rfl fun K z=>?_;simp [q,a1,a2,a3,a4];apply z)
   apply wN;apply w
   refine O.zR u fun K w=>?_
   iterate 3 (refine wC rfl fun K z=>?_;simp [q];apply z)
   obtain ⟨b9,a8,h9⟩:=bS h9
   refine wL [(.bor,.tmp 18),(.take,.tmp 20)] rfl rfl ent67 (uK _ _ a8) fun K z=>?_;simp [q];apply z
   iterate 2 (refine wC rfl fun K z=>?_;simp [q];apply z)
   apply wN;apply w
   rcases aA h9 with ⟨a9,h9⟩ | ⟨b0,h9⟩
   ·refine O.cT' (by simp) a9 ?_
    refine O.zR u fun K w=>?_
    refine wC rfl fun K z=>?_;simp [q];apply z
    apply wN;apply w
    have b5:=congrArg some (a0 _ (Option.some.inj h9).symm)
    cases b5
    try dsimp only at h
    cases h
    refine O.ret ?_
    simp [aC,iB,res54]
   ·refine O.cF' (by simp) b0 ?_
    refine O.skip ?_
    refine O.zG u fun K w=>?_
    iterate 2 (refine wC rfl fun K z=>?_;simp [q];apply z)
    apply wN;apply w
    cases h9
    exact ⟨_,[],rfl,by simp [q]⟩
  ·refine O.cF' (by simp) a6 ?_
   refine O.exit ?_
   have b6:=congrArg some (a0 _ (Option.some.inj h9).symm)
   cases b6
   exact b4 _ _ [] rfl (by simp [q])
 subst hv
 obtain ⟨⟩:=v
 try dsimp only at h ⊢
 refine O.zR u fun K w=>?_
 refine wC rfl fun K z=>?_;simp [q];apply z
 apply wN;apply w
 cases h
 refine O.ret ?_
 simp [aC,iB,res54]
theorem res89:Tryz.f89.results.toList=[.tmp 2]:=rfl
theorem ent89:aE E.P 89:=eO Tryz.func89 (by simp [Tryz.f89]) rfl
theorem aFp (a4:Int) {r0:Bool} (h:qZ a4=some r0):Ok E 89 [.val (vi a4)] [vb r0] []:=by
 refine oB Tryz.func89 rfl (by simp [Tryz.f89]) fun C (q:C.N=13) hP=>?_
 have y:=aM hP
 unfold qZ at h
 refine O.zR y fun K u=>?_
 refine wC rfl fun K v=>?_;simp [q];apply v
 apply wN;apply u
 obtain ⟨b1,a2,h⟩:=bS h
 refine O.seqRC rfl (y _ rfl) [2] [] (fun _:Unit=>⟨[(2,.t (vb b1))],[]⟩) (fun _=>True) (fun _ _=>?_) fun K3 a9=>?_
 rotate_left
 ·refine wC rfl fun K v=>?_;simp [q];apply v
  obtain ⟨r4,b2,a2⟩:=bS a2
  refine wL [(.take,.tmp 3),(.take,.const (.int .i64 2)),(.take,.const (.int .i64 6))] rfl rfl nD (aX _ _ _ b2) fun K v=>?_;simp [q];apply v
  refine wC rfl fun K v=>?_;simp [q];apply v
  rcases aA a2 with ⟨a7,a2⟩ | ⟨a5,a2⟩
  ·have a1:=a7
   try simp at a1
   iterate 2 (refine wO fun K v=>?_;simp [q,a7,a1];apply v)
   iterate 2 (refine wC rfl fun K v=>?_;simp [q,a7,a1];apply v)
   iterate 2 (refine wO fun K v=>?_;simp [q,a7,a1];apply v)
   iterate 2 (refine wC rfl fun K v=>?_;simp [q,a7,a1];apply v)
   refine wN ?_
   cases a2
   exact a9 _ () [] trivial (by simp [q,a7,a1])
  ·have a0:=a5
   try simp at a0
   iterate 4 (refine wC rfl fun K v=>?_;simp [q,a5,a0];apply v)
   rcases aA a2 with ⟨a8,a2⟩ | ⟨b0,a2⟩
   ·have a3:=a8
    try simp at a3
    iterate 2 (refine wO fun K v=>?_;simp [q,a5,a0,a8,a3];apply v)
    iterate 2 (refine wC rfl fun K v=>?_;simp [q,a5,a0,a8,a3];apply v)
    refine wN ?_
    cases a2
    exact a9 _ () [] trivial (by simp [q,a5,a0,a8,a3])
   ·have a6:=b0
    try simp at a6
    iterate 4 (refine wC rfl fun K v=>?_;simp [q,a5,a0,b0,a6];apply v)
    refine wN ?_
    cases a2
    exact a9 _ () [] trivial (by simp [q,a5,a0,b0,a6])
 cases h
 refine O.ret ?_
 simp [aC,iB,res89]
theorem res90:Tryz.f90.results.toList=[.tmp 4]:=rfl
theorem ent90:aE E.P 90:=eO Tryz.func90 (by simp [Tryz.f90]) rfl
theorem aAe (l1:List ByteArray) (s2:ByteArray) {r0:Bool} (h:lM l1 s2=some r0):Ok E 90 [.val (.sl false 1 (List.map vs l1)),.val (vs s2)] [vb r0] []:=by
 refine oB Tryz.func90 rfl (by simp [Tryz.f90]) fun C (q:C.N=17) hP=>?_
 have u:=aM hP
 unfold lM at h
 refine O.zR u fun K w=>?_
 refine wC rfl fun K z=>?_;simp [q];apply z
 apply wN;apply w
 obtain ⟨j5,b0,h⟩:=bS h
 refine O.seqC [] [] (fun v:Unit=>⟨[],[]⟩) (fun v=>j5=Sum.inl v) (fun v hv=>?_) fun K4 b1=>?_
 rotate_left
 ·refine O.zR u fun K w=>?_
  iterate 3 (refine wC rfl fun K z=>?_;simp [q];apply z)
  apply wN;apply w
  refine O.block ?_
  refine O.loopO [] [1,7,8,9] [] (fun v:Int=>⟨[(1,.t (vs s2)),(7,.t (.sl false 1 (List.map vs l1))),(8,.t (vi (l1.length:Int))),(9,.t (vi v))],[]⟩) (fB l1 s2) _ 0 b0 (by simp [q]) ?_
  intro g s9 h7 a9
  obtain ⟨v6,hg⟩:∃ y,y=g:=⟨_,rfl⟩
  subst hg
  simp only [fB] at h7
  try dsimp only
  refine O.zR u fun K w=>?_
  refine wC rfl fun K z=>?_;simp [q];apply z
  apply wN;apply w
  refine O.seq ?_
  rcases aA h7 with ⟨a4,h7⟩ | ⟨a5,h7⟩
  ·refine O.cT' (by simp) a4 ?_
   refine O.skip ?_
   refine O.seq ?_
   refine O.block ?_
   refine O.zR u fun K w=>?_
   obtain ⟨b4,a6,h7⟩:=bS h7
   obtain ⟨a0,a1,a2,a3⟩:=gS a6
   iterate 3 (refine wC rfl fun K z=>?_;simp [q,a0,a1,a2,a3];apply z)
   apply wN;apply w
   refine O.zR u fun K w=>?_
   iterate 3 (refine wC rfl fun K z=>?_;simp [q];apply z)
   apply wN;apply w
   rcases aA h7 with ⟨a7,h7⟩ | ⟨a8,h7⟩
   ·refine O.cT' (by simp) a7 ?_
    refine O.zR u fun K w=>?_
    refine wC rfl fun K z=>?_;simp [q];apply z
    apply wN;apply w
    have b2:=congrArg some (a9 _ (Option.some.inj h7).symm)
    cases b2
    try dsimp only at h
    cases h
    refine O.ret ?_
    simp [aC,iB,res90]
   ·refine O.cF' (by simp) a8 ?_
    refine O.skip ?_
    refine O.zG u fun K w=>?_
    iterate 2 (refine wC rfl fun K z=>?_;simp [q];apply z)
    apply wN;apply w
    cases h7
    exact ⟨_,[],rfl,by simp [q]⟩
  ·refine O.cF' (by simp) a5 ?_
   refine O.exit ?_
   have b3:=congrArg some (a9 _ (Option.some.inj h7).symm)
   cases b3
   exact b1 _ _ [] rfl (by simp [q])
 subst hv
 obtain ⟨⟩:=v
 try dsimp only at h ⊢
 refine O.zR u fun K w=>?_
 refine wC rfl fun K z=>?_;simp [q];apply z
 apply wN;apply w
 cases h
 refine O.ret ?_
 simp [aC,iB,res90]
theorem aN9:Tryz.f55.results.toList=[.tmp 8]:=rfl
theorem aPn:aE E.P 55:=eO Tryz.func55 (by simp [Tryz.f55]) rfl
theorem aBl (a4:GProgram→Int→Int→(List ByteArray)→Option (Bool)) (a9:∀ (a0:GProgram) (a1:Int) (a2:Int) (a3:List ByteArray) {r0:Bool},a4 a0 a1 a2 a3=some r0→Ok E 55 [.val (GProgram.enc false a0),.val (vi a1),.val (vi a2),.val (.sl false 1 (List.map vs a3))] [vb r0] []) (p1:GProgram) (c4:Int) (k3:Int) (a6:List ByteArray) {r0:Bool} (h:mY a4 p1 c4 k3 a6=some r0):Ok E 55 [.val (GProgram.enc false p1),.val (vi c4),.val (vi k3),.val (.sl false 1 (List.map vs a6))] [vb r0] []:=by
 refine oB Tryz.func55 rfl (by simp [Tryz.f55]) fun C (q:C.N=91) hP=>?_
 have y:=aM hP
 unfold mY at h
 refine O.zR y fun K u=>?_
 iterate 2 (refine wC rfl fun K z=>?_;simp [q];apply z)
 apply wN;apply u
 refine O.zR y fun K u=>?_
 iterate 3 (refine wC rfl fun K z=>?_;simp [q];apply z)
 obtain ⟨e5,j6,h⟩:=bS h
 obtain ⟨g6,g7,g8,g9⟩:=gS j6
 iterate 4 (refine wC rfl fun K z=>?_;simp [q,g6,g7,g8,g9];apply z)
 apply wN;apply u
 refine O.seq ?_
 obtain ⟨j7,c7,h⟩:=bS h
 refine O.seqRC rfl (y _ rfl) [1,3,4,9,28] [4,9] (fun _:Unit=>⟨[(1,.t (vi c4)),(3,.t (.sl false 1 (List.map vs a6))),(4,.ref (.box 4) 0 []),(9,.ref (.box 9) 0 []),(28,.t (vb j7))],[(4,[.sl false 4 (List.map (GNode.enc false) p1.Nodes),.sl false 5 (List.map (GFn.enc false) p1.Fns)]),(9,[vi e5.Kind,vi e5.Num,vs e5.Name,.sl false 1 (List.map vi e5.Kids)])]⟩) (fun _=>True) (fun _ _=>?_) fun K7 j4=>?_
 rotate_left
 ·refine wC rfl fun K z=>?_;simp [q];apply z
  refine wC rfl fun K z=>?_;simp [q];apply z
  obtain ⟨r8,j8,c7⟩:=bS c7
  refine wL [(.take,.tmp 20)] rfl rfl ent89 (aFp _ j8) fun K z=>?_;simp [q];apply z
  refine wC rfl fun K z=>?_;simp [q];apply z
  rcases aA c7 with ⟨c6,c7⟩ | ⟨c8,c7⟩
  ·have b7:=c6
   try simp at b7
   iterate 3 (refine wC rfl fun K z=>?_;simp [q,c6,b7];apply z)
   obtain ⟨l0,h0,c7⟩:=bS c7
   refine wL [(.take,.tmp 23),(.take,.tmp 25)] rfl rfl ent90 (aAe _ _ h0) fun K z=>?_;simp [q,c6,b7];apply z
   iterate 2 (refine wC rfl fun K z=>?_;simp [q,c6,b7];apply z)
   refine wN ?_
   cases c7
   exact j4 _ () [] trivial (by simp [q,c6,b7])
  ·have c0:=c8
   try simp at c0
   iterate 5 (refine wO fun K z=>?_;simp [q,c8,c0];apply z)
   refine wC rfl fun K z=>?_;simp [q,c8,c0];apply z
   refine wN ?_
   cases c7
   exact j4 _ () [] trivial (by simp [q,c8,c0])
 rcases aA h with ⟨h1,h⟩ | ⟨h2,h⟩
 ·refine O.cT' (by simp) h1 ?_
  refine O.zR y fun K u=>?_
  refine wC rfl fun K z=>?_;simp [q];apply z
  apply wN;apply u
  cases h
  refine O.ret ?_
  simp [aC,iB,aN9]
 ·refine O.cF' (by simp) h2 ?_
  refine O.skip ?_
  obtain ⟨j9,a7,h⟩:=bS h
  refine O.seqC [1,3,4,9] [4,9] (fun v:Unit=>⟨[(1,.t (vi c4)),(3,.t (.sl false 1 (List.map vs a6))),(4,.ref (.box 4) 0 []),(9,.ref (.box 9) 0 [])],[(4,[.sl false 4 (List.map (GNode.enc false) p1.Nodes),.sl false 5 (List.map (GFn.enc false) p1.Fns)]),(9,[vi e5.Kind,vi e5.Num,vs e5.Name,.sl false 1 (List.map vi e5.Kids)])]⟩) (fun v=>j9=Sum.inl v) (fun v hv=>?_) fun l1 e6=>?_
  rotate_left
  ·refine O.zR y fun K u=>?_
   iterate 3 (refine wC rfl fun K z=>?_;simp [q];apply z)
   apply wN;apply u
   rcases aA a7 with ⟨h3,a7⟩ | ⟨h4,a7⟩
   ·refine O.cT' (by simp) h3 ?_
    refine O.zR y fun K u=>?_
    iterate 3 (refine wC rfl fun K z=>?_;simp [q];apply z)
    obtain ⟨h5,h6,a7⟩:=bS a7
    refine wL [(.take,.tmp 32),(.take,.tmp 34)] rfl rfl aPp (rF _ _ h6) fun K z=>?_;simp [q];apply z
    refine wC rfl fun K z=>?_;simp [q];apply z
    apply wN;apply u
    obtain ⟨k0,b6,a7⟩:=bS a7
    refine O.seqC [1,3,4,9,53] [4,9] (fun _:Unit=>⟨[(1,.t (vi c4)),(3,.t (.sl false 1 (List.map vs a6))),(4,.ref (.box 4) 0 []),(9,.ref (.box 9) 0 []),(53,.t (vb k0))],[(4,[.sl false 4 (List.map (GNode.enc false) p1.Nodes),.sl false 5 (List.map (GFn.enc false) p1.Fns)]),(9,[vi e5.Kind,vi e5.Num,vs e5.Name,.sl false 1 (List.map vi e5.Kids)])]⟩) (fun _=>True) (fun _ _=>?_) fun l2 e7=>?_
    rotate_left
    ·obtain ⟨e4,e8,b6⟩:=bS b6
     rcases aA b6 with ⟨b1,b6⟩ | ⟨b8,b6⟩
     ·have a5:=b1
      try simp at a5
      refine O.dT rfl (y _ rfl) [(36,.t (vi h5)),(37,.t (vi c4)),(38,.t (vi (IntKind.wrap .i64 (c4 - 1)))),(39,.t (vb e4)),(40,.t (vb (!e4))),(41,.t (vb (!e4))),(42,.tup []),(43,.tup []),(44,.tup []),(45,.tup []),(46,.tup []),(47,.tup []),(48,.tup []),(49,.tup []),(50,.tup []),(51,.tup [])] [[],[],[1],[0,1,2],[0,1,2,3],[0,1,2,3,4],[0,1,2,3,4,5],[0,1,2,3,4,5,6],[0,1,2,3,4,5],[0,1,2,3,4,5,6,7,8],[0,1,2,3,4,5,6,7,8,9],[0,1,2,3,4,5,6,7,8,9,10],[0,1,2,3,4,5,6,7,8,9,10,11],[0,1,2,3,4,5],[0,1,2,3,4,5,13],[0,1,2,3,4,5,13,14],[0,1,2,3,4,5,6,7,8,9,10,11,12,13,14,15],[0,1,2,3,4,5,6,7,8,9,10,11,12,13,14,15,16]] (by simp) (by simp) (by simp [look]) rfl rfl rfl ?_ fun K u=>?_
      ·refine ⟨?_,?_,?_,?_,?_,?_,?_,?_,?_,?_,?_,?_,?_,?_,?_,?_,trivial⟩
       all_goals (intro τ hbx hb hd hf K u;try simp [aI] at hd;simp [aI] at hf;first | (refine wC rfl fun K' w=>?_;simp [q,hbx,hb,hd,hf,b1,a5];exact w _ (wN (u _ (by simp [aI,hbx,b1,a5])))) | (refine wL [(.take,.tmp 36),(.take,.const (.int .i64 0)),(.take,.tmp 38)] rfl rfl nD (aX _ _ _ e8) fun K' w=>?_;simp [q,hbx,hb,hd,hf,b1,a5];exact w _ (wN (u _ (by simp [aI,hbx,b1,a5])))) | (refine wO fun K' w=>?_;simp [q,hbx,hb,hd,hf,b1,a5];exact w _ (wN (u _ (by simp [aI,hbx,b1,a5])))))
      refine wO fun K z=>?_;simp [q,b1,a5];apply z
      refine wC rfl fun K z=>?_;simp [q,b1,a5];apply z
      apply wN;apply u
      cases b6
      exact e7 _ () [] trivial (by simp [q,b1,a5])
     ·have b0:=b8
      try simp at b0
      obtain ⟨c5,h7,b6⟩:=bS b6
      obtain ⟨b2,b3,b4,b5⟩:=gS h7
      refine O.dT rfl (y _ rfl) [(36,.t (vi h5)),(37,.t (vi c4)),(38,.t (vi (IntKind.wrap .i64 (c4 - 1)))),(39,.t (vb e4)),(40,.t (vb (!e4))),(41,.t (vb (!e4))),(42,.ref (.box 4) 1 []),(43,.t (.sl false 5 (List.map (GFn.enc false) p1.Fns))),(44,.t (vi h5)),(45,.rop [vs c5.Name,.sl false 2 (List.map GParam.enc c5.Params),vi c5.Res,vi c5.Body,vi c5.Ret] 0),(46,.rop [vs c5.Name,.sl false 2 (List.map GParam.enc c5.Params),vi c5.Res,vi c5.Body,vi c5.Ret] 1),(47,.t (.sl false 2 (List.map GParam.enc c5.Params))),(48,.t (vi (c5.Params.length:Int))),(49,.ref (.box 9) 3 []),(50,.t (.sl false 1 (List.map vi e5.Kids))),(51,.t (vi (e5.Kids.length:Int)))] [[],[],[1],[0,1,2],[0,1,2,3],[0,1,2,3,4],[0,1,2,3,4,5],[0,1,2,3,4,5,6],[0,1,2,3,4,5],[0,1,2,3,4,5,6,7,8],[0,1,2,3,4,5,6,7,8,9],[0,1,2,3,4,5,6,7,8,9,10],[0,1,2,3,4,5,6,7,8,9,10,11],[0,1,2,3,4,5],[0,1,2,3,4,5,13],[0,1,2,3,4,5,13,14],[0,1,2,3,4,5,6,7,8,9,10,11,12,13,14,15],[0,1,2,3,4,5,6,7,8,9,10,11,12,13,14,15,16]] (by simp) (by simp) (by simp [look]) rfl rfl rfl ?_ fun K u=>?_
      ·refine ⟨?_,?_,?_,?_,?_,?_,?_,?_,?_,?_,?_,?_,?_,?_,?_,?_,trivial⟩
       all_goals (intro τ hbx hb hd hf K u;try simp [aI] at hd;simp [aI] at hf;first | (refine wC rfl fun K' w=>?_;simp [q,hbx,hb,hd,hf,b8,b0,b2,b3,b4,b5];exact w _ (wN (u _ (by simp [aI,hbx,b8,b0,b2,b3,b4,b5])))) | (refine wL [(.take,.tmp 36),(.take,.const (.int .i64 0)),(.take,.tmp 38)] rfl rfl nD (aX _ _ _ e8) fun K' w=>?_;simp [q,hbx,hb,hd,hf,b8,b0,b2,b3,b4,b5];exact w _ (wN (u _ (by simp [aI,hbx,b8,b0,b2,b3,b4,b5])))))
      iterate 2 (refine wC rfl fun K z=>?_;simp [q,b8,b0,b2,b3,b4,b5];apply z)
      apply wN;apply u
      cases b6
      exact e7 _ () [] trivial (by simp [q,b8,b0,b2,b3,b4,b5])
    rcases aA a7 with ⟨h8,a7⟩ | ⟨h9,a7⟩
    ·refine O.cT' (by simp) h8 ?_
     refine O.zR y fun K u=>?_
     refine wC rfl fun K z=>?_;simp [q];apply z
     apply wN;apply u
     cases a7
     try dsimp only at h
     cases h
     refine O.ret ?_
     simp [aC,iB,aN9]
    ·refine O.cF' (by simp) h9 ?_
     refine O.skip ?_
     cases a7
     exact e6 _ _ [] rfl (by simp [q])
   ·refine O.cF' (by simp) h4 ?_
    refine O.skip ?_
    cases a7
    exact e6 _ _ [] rfl (by simp [q])
  subst hv
  obtain ⟨⟩:=v
  try dsimp only at h ⊢
  refine O.zR y fun K u=>?_
  refine wC rfl fun K z=>?_;simp [q];apply z
  obtain ⟨l3,i0,h⟩:=bS h
  obtain ⟨d1,d2,j5⟩:=aS i0
  simp [eSl] at d1 d2
  iterate 2 (refine wC rfl fun K z=>?_;simp [q,d1,d2];apply z)
  apply wN;apply u
  obtain ⟨k1,i1,h⟩:=bS h
  refine O.seqC [] [] (fun v:Unit=>⟨[],[]⟩) (fun v=>k1=Sum.inl v) (fun v hv=>?_) fun l4 i2=>?_
  rotate_left
  ·refine O.zR y fun K u=>?_
   iterate 4 (refine wC rfl fun K z=>?_;simp [q];apply z)
   apply wN;apply u
   refine O.block ?_
   refine O.loopO [] [1,4,9,11,57,58,59] [4,9] (fun v:(List ByteArray) × Int=>⟨[(1,.t (vi c4)),(4,.ref (.box 4) 0 []),(9,.ref (.box 9) 0 []),(11,.t (.sl true 1 (List.map vs v.1))),(57,.t (.sl false 1 (List.map vi e5.Kids))),(58,.t (vi (e5.Kids.length:Int))),(59,.t (vi v.2))],[(4,[.sl false 4 (List.map (GNode.enc false) p1.Nodes),.sl false 5 (List.map (GFn.enc false) p1.Fns)]),(9,[vi e5.Kind,vi e5.Num,vs e5.Name,.sl false 1 (List.map vi e5.Kids)])]⟩) (gK a4 p1 c4 e5) _ (a6,0) i1 (by simp [q]) ?_
   intro g l5 a8 e9
   obtain ⟨c1,k2⟩:=g
   simp only [gK] at a8
   try dsimp only
   refine O.zR y fun K u=>?_
   refine wC rfl fun K z=>?_;simp [q];apply z
   apply wN;apply u
   refine O.seq ?_
   rcases aA a8 with ⟨i3,a8⟩ | ⟨i4,a8⟩
   ·refine O.cT' (by simp) i3 ?_
    refine O.skip ?_
    refine O.seq ?_
    refine O.block ?_
    refine O.zR y fun K u=>?_
    obtain ⟨k4,i5,a8⟩:=bS a8
    obtain ⟨g0,g1,g2,g3⟩:=gS i5
    iterate 3 (refine wC rfl fun K z=>?_;simp [q,g0,g1,g2,g3];apply z)
    apply wN;apply u
    refine O.seq ?_
    refine O.zR y fun K u=>?_
    iterate 4 (refine wC rfl fun K z=>?_;simp [q];apply z)
    obtain ⟨l6,i6,a8⟩:=bS a8
    refine wL [(.take,.tmp 63),(.take,.tmp 64),(.take,.tmp 65),(.bor,.tmp 66)] rfl rfl aPn (a9 _ _ _ _ i6) fun K z=>?_;simp [q];apply z
    refine wC rfl fun K z=>?_;simp [q];apply z
    apply wN;apply u
    rcases aA a8 with ⟨i7,a8⟩ | ⟨i8,a8⟩
    ·refine O.cT' (by simp) i7 ?_
     refine O.zR y fun K u=>?_
     refine wC rfl fun K z=>?_;simp [q];apply z
     apply wN;apply u
     have k5:=congrArg some (e9 _ (Option.some.inj a8).symm)
     cases k5
     try dsimp only at h
     cases h
     refine O.ret ?_
     simp [aC,iB,aN9]
    ·refine O.cF' (by simp) i8 ?_
     refine O.skip ?_
     obtain ⟨k6,b9,a8⟩:=bS a8
     refine O.seqRC rfl (y _ rfl) [1,4,9,11,13,57,58,59,80] [4,9] (fun _:Unit=>⟨[(1,.t (vi c4)),(4,.ref (.box 4) 0 []),(9,.ref (.box 9) 0 []),(11,.t (.sl true 1 (List.map vs c1))),(13,.t (vi k4)),(57,.t (.sl false 1 (List.map vi e5.Kids))),(58,.t (vi (e5.Kids.length:Int))),(59,.t (vi k2)),(80,.t (vb k6))],[(4,[.sl false 4 (List.map (GNode.enc false) p1.Nodes),.sl false 5 (List.map (GFn.enc false) p1.Fns)]),(9,[vi e5.Kind,vi e5.Num,vs e5.Name,.sl false 1 (List.map vi e5.Kids)])]⟩) (fun _=>True) (fun _ _=>?_) fun l7 g4=>?_
     rotate_left
     ·refine wC rfl fun K z=>?_;simp [q];apply z
      iterate 3 (refine wC rfl fun K z=>?_;simp [q];apply z)
      rcases aA b9 with ⟨c9,b9⟩ | ⟨d0,b9⟩
      ·have c2:=c9
       try simp at c2
       iterate 3 (refine wC rfl fun K z=>?_;simp [q,c9,c2];apply z)
       obtain ⟨l8,i9,b9⟩:=bS b9
       obtain ⟨d3,d4,d5,d6⟩:=gS i9
       iterate 5 (refine wC rfl fun K z=>?_;simp [q,c9,c2,d3,d4,d5,d6];apply z)
       refine wN ?_
       cases b9
       exact g4 _ () [] trivial (by simp [q,c9,c2,d3,d4,d5,d6])
      ·have c3:=d0
       try simp at c3
       iterate 7 (refine wO fun K z=>?_;simp [q,d0,c3];apply z)
       refine wC rfl fun K z=>?_;simp [q,d0,c3];apply z
       refine wN ?_
       cases b9
       exact g4 _ () [] trivial (by simp [q,d0,c3])
     rcases aA a8 with ⟨j0,a8⟩ | ⟨j1,a8⟩
     ·refine O.cT' (by simp) j0 ?_
      refine O.zG y fun K u=>?_
      iterate 4 (refine wC rfl fun K z=>?_;simp [q];apply z)
      obtain ⟨k7,j2,a8⟩:=bS a8
      obtain ⟨d7,d8,d9,e0⟩:=gS j2
      iterate 4 (refine wC rfl fun K z=>?_;simp [q,d7,d8,d9,e0];apply z)
      obtain ⟨k8,j3,a8⟩:=bS a8
      obtain ⟨e1,e2,g5⟩:=aS j3
      have e3:List.map vs c1 ++ List.map vs [k7.Name]=List.map vs k8:=dU (f:=vs) g5
      simp [eSl] at e1 e2 e3
      iterate 2 (refine wC rfl fun K z=>?_;simp [q,d7,d8,d9,e0,e1,e2,e3];apply z)
      apply wN;apply u
      refine O.zG y fun K u=>?_
      iterate 2 (refine wC rfl fun K z=>?_;simp [q];apply z)
      apply wN;apply u
      cases a8
      exact ⟨_,[],rfl,by simp [q]⟩
     ·refine O.cF' (by simp) j1 ?_
      refine O.skip ?_
      refine O.zG y fun K u=>?_
      iterate 2 (refine wC rfl fun K z=>?_;simp [q];apply z)
      apply wN;apply u
      cases a8
      exact ⟨_,[],rfl,by simp [q]⟩
   ·refine O.cF' (by simp) i4 ?_
    refine O.exit ?_
    have k9:=congrArg some (e9 _ (Option.some.inj a8).symm)
    cases k9
    exact i2 _ _ [] rfl (by simp [q])
  subst hv
  obtain ⟨⟩:=v
  try dsimp only at h ⊢
  refine O.zR y fun K u=>?_
  refine wC rfl fun K z=>?_;simp [q];apply z
  apply wN;apply u
  cases h
  refine O.ret ?_
  simp [aC,iB,aN9]
theorem pZ:∀ n:Nat,(∀ (a0:GProgram) (a1:Int) (a2:Int) (a3:List ByteArray) {r0:Bool},(eK n) a0 a1 a2 a3=some r0→Ok E 55 [.val (GProgram.enc false a0),.val (vi a1),.val (vi a2),.val (.sl false 1 (List.map vs a3))] [vb r0] [])
 | 0=>(by intros;rename_i h;cases h)
 | n + 1=>aBl (eK n) (pZ n)
theorem wS:∀ (a0:GProgram) (a1:Int) (a2:Int) (a3:List ByteArray) {r0:Bool},rA a0 a1 a2 a3=some r0→Ok E 55 [.val (GProgram.enc false a0),.val (vi a1),.val (vi a2),.val (.sl false 1 (List.map vs a3))] [vb r0] []:=(pZ iR)
theorem aL6:Tryz.f23.results.toList=[.tmp 2]:=rfl
theorem ent23:aE E.P 23:=eO Tryz.func23 (by simp [Tryz.f23]) rfl
theorem uN (p1:GProgram) {r0:Bool} (h:gL p1=some r0):Ok E 23 [.val (GProgram.enc false p1)] [vb r0] []:=by
 refine oB Tryz.func23 rfl (by simp [Tryz.f23]) fun C (q:C.N=87) hP=>?_
 have u:=aM hP
 unfold gL at h
 refine O.zR u fun K w=>?_
 iterate 2 (refine wC rfl fun K z=>?_;simp [q];apply z)
 apply wN;apply w
 refine O.seq ?_
 refine O.zR u fun K w=>?_
 refine wC rfl fun K z=>?_;simp [q];apply z
 obtain ⟨r2,j2,h⟩:=bS h
 refine wL [(.take,.tmp 10)] rfl rfl ent53 (wA _ j2) fun K z=>?_;simp [q];apply z
 refine wC rfl fun K z=>?_;simp [q];apply z
 apply wN;apply w
 rcases aA h with ⟨j3,h⟩ | ⟨j4,h⟩
 ·refine O.cT' (by simp) j3 ?_
  refine O.zR u fun K w=>?_
  refine wC rfl fun K z=>?_;simp [q];apply z
  apply wN;apply w
  cases h
  refine O.ret ?_
  simp [aC,iB,aL6]
 ·refine O.cF' (by simp) j4 ?_
  refine O.skip ?_
  obtain ⟨j8,j5,h⟩:=bS h
  refine O.seqC [] [] (fun v:Unit=>⟨[],[]⟩) (fun v=>j8=Sum.inl v) (fun v hv=>?_) fun K7 j6=>?_
  rotate_left
  ·refine O.zR u fun K w=>?_
   iterate 4 (refine wC rfl fun K z=>?_;simp [q];apply z)
   apply wN;apply w
   refine O.block ?_
   refine O.loopO [] [1,14,15,16] [1] (fun v:Int=>⟨[(1,.ref (.box 1) 0 []),(14,.t (.sl false 5 (List.map (GFn.enc false) p1.Fns))),(15,.t (vi (p1.Fns.length:Int))),(16,.t (vi v))],[(1,[.sl false 4 (List.map (GNode.enc false) p1.Nodes),.sl false 5 (List.map (GFn.enc false) p1.Fns)])]⟩) (cP p1) _ 0 j5 (by simp [q]) ?_
   intro g l0 a4 b0
   obtain ⟨v9,hg⟩:∃ y,y=g:=⟨_,rfl⟩
   subst hg
   simp only [cP] at a4
   try dsimp only
   refine O.zR u fun K w=>?_
   refine wC rfl fun K z=>?_;simp [q];apply z
   apply wN;apply w
   refine O.seq ?_
   rcases aA a4 with ⟨g0,a4⟩ | ⟨g1,a4⟩
   ·refine O.cT' (by simp) g0 ?_
    refine O.skip ?_
    obtain ⟨j7,a0,a4⟩:=bS a4
    refine O.seqC [1,14,15,16] [1] (fun v:Unit=>⟨[(1,.ref (.box 1) 0 []),(14,.t (.sl false 5 (List.map (GFn.enc false) p1.Fns))),(15,.t (vi (p1.Fns.length:Int))),(16,.t (vi v9))],[(1,[.sl false 4 (List.map (GNode.enc false) p1.Nodes),.sl false 5 (List.map (GFn.enc false) p1.Fns)])]⟩) (fun v=>j7=Sum.inl v) (fun v hv=>?_) fun l1 g2=>?_
    rotate_left
    ·refine O.block ?_
     refine O.zR u fun K w=>?_
     refine wC rfl fun K z=>?_;simp [q];apply z
     obtain ⟨a1,g3,a0⟩:=bS a0
     obtain ⟨d0,d1,d2,d3⟩:=gS g3
     iterate 5 (refine wC rfl fun K z=>?_;simp [q,d0,d1,d2,d3];apply z)
     apply wN;apply w
     refine O.seq ?_
     refine O.zR u fun K w=>?_
     iterate 2 (refine wC rfl fun K z=>?_;simp [q];apply z)
     obtain ⟨l2,g4,a0⟩:=bS a0
     refine wL [(.take,.tmp 21),(.take,.tmp 22)] rfl rfl ent54 (aAb _ _ g4) fun K z=>?_;simp [q];apply z
     refine wC rfl fun K z=>?_;simp [q];apply z
     apply wN;apply w
     rcases aA a0 with ⟨g5,a0⟩ | ⟨g6,a0⟩
     ·refine O.cT' (by simp) g5 ?_
      refine O.zR u fun K w=>?_
      refine wC rfl fun K z=>?_;simp [q];apply z
      apply wN;apply w
      cases a0
      try dsimp only at a4
      have j9:=congrArg some (b0 _ (Option.some.inj a4).symm)
      cases j9
      try dsimp only at h
      cases h
      refine O.ret ?_
      simp [aC,iB,aL6]
     ·refine O.cF' (by simp) g6 ?_
      refine O.skip ?_
      refine O.zR u fun K w=>?_
      refine wC rfl fun K z=>?_;simp [q];apply z
      apply wN;apply w
      obtain ⟨a6,g7,a0⟩:=bS a0
      refine O.seqC [1,3,4,5,14,15,16] [1,4] (fun _:Unit=>⟨[(1,.ref (.box 1) 0 []),(3,.t (vi v9)),(4,.ref (.box 4) 0 []),(5,.t (.sl true 1 (List.map vs a6))),(14,.t (.sl false 5 (List.map (GFn.enc false) p1.Fns))),(15,.t (vi (p1.Fns.length:Int))),(16,.t (vi v9))],[(1,[.sl false 4 (List.map (GNode.enc false) p1.Nodes),.sl false 5 (List.map (GFn.enc false) p1.Fns)]),(4,[vs a1.Name,.sl false 2 (List.map GParam.enc a1.Params),vi a1.Res,vi a1.Body,vi a1.Ret])]⟩) (fun _=>True) (fun _ _=>?_) fun l3 g8=>?_
      rotate_left
      ·refine O.zR u fun K w=>?_
       iterate 4 (refine wC rfl fun K z=>?_;simp [q];apply z)
       apply wN;apply w
       refine O.block ?_
       refine O.loopO [] [1,3,4,5,14,15,16,26,27,28] [1,4] (fun v:(List ByteArray) × Int=>⟨[(1,.ref (.box 1) 0 []),(3,.t (vi v9)),(4,.ref (.box 4) 0 []),(5,.t (.sl true 1 (List.map vs v.1))),(14,.t (.sl false 5 (List.map (GFn.enc false) p1.Fns))),(15,.t (vi (p1.Fns.length:Int))),(16,.t (vi v9)),(26,.t (.sl false 2 (List.map GParam.enc a1.Params))),(27,.t (vi (a1.Params.length:Int))),(28,.t (vi v.2))],[(1,[.sl false 4 (List.map (GNode.enc false) p1.Nodes),.sl false 5 (List.map (GFn.enc false) p1.Fns)]),(4,[vs a1.Name,.sl false 2 (List.map GParam.enc a1.Params),vi a1.Res,vi a1.Body,vi a1.Ret])]⟩) (bV a1) _ ([],0) g7 (by simp [q]) ?_
       intro g l4 a9 g9
       obtain ⟨b1,l5⟩:=g
       simp only [bV] at a9
       try dsimp only
       refine O.zR u fun K w=>?_
       refine wC rfl fun K z=>?_;simp [q];apply z
       apply wN;apply w
       refine O.seq ?_
       rcases aA a9 with ⟨h0,a9⟩ | ⟨h1,a9⟩
       ·refine O.cT' (by simp) h0 ?_
        refine O.skip ?_
        refine O.seq ?_
        refine O.block ?_
        refine O.zR u fun K w=>?_
        obtain ⟨k0,h2,a9⟩:=bS a9
        obtain ⟨d4,d5,d6,d7⟩:=gS h2
        iterate 4 (refine wC rfl fun K z=>?_;simp [q,d4,d5,d6,d7];apply z)
        apply wN;apply w
        refine O.zG u fun K w=>?_
        iterate 4 (refine wC rfl fun K z=>?_;simp [q];apply z)
        obtain ⟨k1,h3,a9⟩:=bS a9
        obtain ⟨b5,b6,d8⟩:=aS h3
        have b7:List.map vs b1 ++ List.map vs [k0.Name]=List.map vs k1:=dU (f:=vs) d8
        simp [eSl] at b5 b6 b7
        iterate 2 (refine wC rfl fun K z=>?_;simp [q,b5,b6,b7];apply z)
        apply wN;apply w
        refine O.zG u fun K w=>?_
        iterate 2 (refine wC rfl fun K z=>?_;simp [q];apply z)
        apply wN;apply w
        cases a9
        exact ⟨_,[],rfl,by simp [q]⟩
       ·refine O.cF' (by simp) h1 ?_
        refine O.exit ?_
        have k2:=congrArg some (g9 _ (Option.some.inj a9).symm)
        cases k2
        exact g8 _ () [] trivial (by simp [q])
      refine O.seq ?_
      refine O.zR u fun K w=>?_
      iterate 5 (refine wC rfl fun K z=>?_;simp [q];apply z)
      obtain ⟨l6,h4,a0⟩:=bS a0
      refine wL [(.take,.tmp 38),(.take,.tmp 39),(.take,.tmp 41),(.bor,.tmp 42)] rfl rfl aPn (wS _ _ _ _ h4) fun K z=>?_;simp [q];apply z
      refine wC rfl fun K z=>?_;simp [q];apply z
      apply wN;apply w
      rcases aA a0 with ⟨h5,a0⟩ | ⟨h6,a0⟩
      ·refine O.cT' (by simp) h5 ?_
       refine O.zR u fun K w=>?_
       refine wC rfl fun K z=>?_;simp [q];apply z
       apply wN;apply w
       cases a0
       try dsimp only at a4
       have k3:=congrArg some (b0 _ (Option.some.inj a4).symm)
       cases k3
       try dsimp only at h
       cases h
       refine O.ret ?_
       simp [aC,iB,aL6]
      ·refine O.cF' (by simp) h6 ?_
       refine O.skip ?_
       obtain ⟨b2,c9,a0⟩:=bS a0
       refine O.seqC [1,3,4,5,14,15,16] [1,4] (fun _:Unit=>⟨[(1,.ref (.box 1) 0 []),(3,.t (vi v9)),(4,.ref (.box 4) 0 []),(5,.t (.sl true 1 (List.map vs b2))),(14,.t (.sl false 5 (List.map (GFn.enc false) p1.Fns))),(15,.t (vi (p1.Fns.length:Int))),(16,.t (vi v9))],[(1,[.sl false 4 (List.map (GNode.enc false) p1.Nodes),.sl false 5 (List.map (GFn.enc false) p1.Fns)]),(4,[vs a1.Name,.sl false 2 (List.map GParam.enc a1.Params),vi a1.Res,vi a1.Body,vi a1.Ret])]⟩) (fun _=>True) (fun _ _=>?_) fun l7 h7=>?_
       rotate_left
       ·refine O.zR u fun K w=>?_
        iterate 4 (refine wC rfl fun K z=>?_;simp [q];apply z)
        obtain ⟨h8,h9,c9⟩:=bS c9
        obtain ⟨d9,b8,b9,c0⟩:=gS h9
        have c1:=b8;try simp at c1
        try simp only [Int.toNat_natCast] at b9 c0
        iterate 5 (refine wC rfl fun K z=>?_;simp [q,d9,b8,b9,c0,c1];apply z)
        apply wN;apply w
        refine O.block ?_
        refine O.loopO [] [1,3,4,5,14,15,16,51,52,53] [1,4] (fun v:(List ByteArray) × Int=>⟨[(1,.ref (.box 1) 0 []),(3,.t (vi v9)),(4,.ref (.box 4) 0 []),(5,.t (.sl true 1 (List.map vs v.1))),(14,.t (.sl false 5 (List.map (GFn.enc false) p1.Fns))),(15,.t (vi (p1.Fns.length:Int))),(16,.t (vi v9)),(51,.t (.sl false 1 (List.map vi h8.Kids))),(52,.t (vi (h8.Kids.length:Int))),(53,.t (vi v.2))],[(1,[.sl false 4 (List.map (GNode.enc false) p1.Nodes),.sl false 5 (List.map (GFn.enc false) p1.Fns)]),(4,[vs a1.Name,.sl false 2 (List.map GParam.enc a1.Params),vi a1.Res,vi a1.Body,vi a1.Ret])]⟩) (bU p1 h8) _ (a6,0) c9 (by simp [q]) ?_
        intro g l8 a2 i0
        obtain ⟨b3,l9⟩:=g
        simp only [bU] at a2
        try dsimp only
        refine O.zR u fun K w=>?_
        refine wC rfl fun K z=>?_;simp [q];apply z
        apply wN;apply w
        refine O.seq ?_
        rcases aA a2 with ⟨i1,a2⟩ | ⟨i2,a2⟩
        ·refine O.cT' (by simp) i1 ?_
         refine O.skip ?_
         refine O.seq ?_
         refine O.block ?_
         refine O.zR u fun K w=>?_
         obtain ⟨m0,i3,a2⟩:=bS a2
         obtain ⟨e0,e1,e2,e3⟩:=gS i3
         iterate 3 (refine wC rfl fun K z=>?_;simp [q,e0,e1,e2,e3];apply z)
         apply wN;apply w
         refine O.zR u fun K w=>?_
         iterate 3 (refine wC rfl fun K z=>?_;simp [q];apply z)
         obtain ⟨m1,i4,a2⟩:=bS a2
         obtain ⟨e4,e5,e6,e7⟩:=gS i4
         iterate 4 (refine wC rfl fun K z=>?_;simp [q,e4,e5,e6,e7];apply z)
         apply wN;apply w
         rcases aA a2 with ⟨i5,a2⟩ | ⟨i6,a2⟩
         ·refine O.cT' (by simp) i5 ?_
          refine O.zG u fun K w=>?_
          iterate 4 (refine wC rfl fun K z=>?_;simp [q];apply z)
          obtain ⟨k4,i7,a2⟩:=bS a2
          obtain ⟨c2,c3,c4,c5⟩:=gS i7
          iterate 4 (refine wC rfl fun K z=>?_;simp [q,c2,c3,c4,c5];apply z)
          obtain ⟨k5,i8,a2⟩:=bS a2
          obtain ⟨c6,c7,e8⟩:=aS i8
          have c8:List.map vs b3 ++ List.map vs [k4.Name]=List.map vs k5:=dU (f:=vs) e8
          simp [eSl] at c6 c7 c8
          iterate 2 (refine wC rfl fun K z=>?_;simp [q,c2,c3,c4,c5,c6,c7,c8];apply z)
          apply wN;apply w
          refine O.zG u fun K w=>?_
          iterate 2 (refine wC rfl fun K z=>?_;simp [q];apply z)
          apply wN;apply w
          cases a2
          exact ⟨_,[],rfl,by simp [q]⟩
         ·refine O.cF' (by simp) i6 ?_
          refine O.skip ?_
          refine O.zG u fun K w=>?_
          iterate 2 (refine wC rfl fun K z=>?_;simp [q];apply z)
          apply wN;apply w
          cases a2
          exact ⟨_,[],rfl,by simp [q]⟩
        ·refine O.cF' (by simp) i2 ?_
         refine O.exit ?_
         have k6:=congrArg some (i0 _ (Option.some.inj a2).symm)
         cases k6
         exact h7 _ () [] trivial (by simp [q])
       obtain ⟨k7,a5,a0⟩:=bS a0
       refine O.seqRC rfl (u _ rfl) [1,14,15,16,85] [1] (fun _:Unit=>⟨[(1,.ref (.box 1) 0 []),(14,.t (.sl false 5 (List.map (GFn.enc false) p1.Fns))),(15,.t (vi (p1.Fns.length:Int))),(16,.t (vi v9)),(85,.t (vb k7))],[(1,[.sl false 4 (List.map (GNode.enc false) p1.Nodes),.sl false 5 (List.map (GFn.enc false) p1.Fns)])]⟩) (fun _=>True) (fun _ _=>?_) fun m2 e9=>?_
       rotate_left
       ·refine wC rfl fun K z=>?_;simp [q];apply z
        iterate 3 (refine wC rfl fun K z=>?_;simp [q];apply z)
        rcases aA a5 with ⟨a8,a5⟩ | ⟨b4,a5⟩
        ·have a3:=a8
         try simp at a3
         iterate 5 (refine wC rfl fun K z=>?_;simp [q,a8,a3];apply z)
         obtain ⟨m3,i9,a5⟩:=bS a5
         refine wL [(.take,.tmp 78),(.take,.tmp 79),(.take,.tmp 81),(.bor,.tmp 82)] rfl rfl aPn (wS _ _ _ _ i9) fun K z=>?_;simp [q,a8,a3];apply z
         iterate 2 (refine wC rfl fun K z=>?_;simp [q,a8,a3];apply z)
         refine wN ?_
         cases a5
         exact e9 _ () [] trivial (by simp [q,a8,a3])
        ·have a7:=b4
         try simp at a7
         iterate 7 (refine wO fun K z=>?_;simp [q,b4,a7];apply z)
         refine wC rfl fun K z=>?_;simp [q,b4,a7];apply z
         refine wN ?_
         cases a5
         exact e9 _ () [] trivial (by simp [q,b4,a7])
       rcases aA a0 with ⟨j0,a0⟩ | ⟨j1,a0⟩
       ·refine O.cT' (by simp) j0 ?_
        refine O.zR u fun K w=>?_
        refine wC rfl fun K z=>?_;simp [q];apply z
        apply wN;apply w
        cases a0
        try dsimp only at a4
        have k8:=congrArg some (b0 _ (Option.some.inj a4).symm)
        cases k8
        try dsimp only at h
        cases h
        refine O.ret ?_
        simp [aC,iB,aL6]
       ·refine O.cF' (by simp) j1 ?_
        refine O.skip ?_
        cases a0
        exact g2 _ _ [] rfl (by simp [q])
    subst hv
    obtain ⟨⟩:=v
    try dsimp only at a4 ⊢
    refine O.zG u fun K w=>?_
    iterate 2 (refine wC rfl fun K z=>?_;simp [q];apply z)
    apply wN;apply w
    cases a4
    exact ⟨_,[],rfl,by simp [q]⟩
   ·refine O.cF' (by simp) g1 ?_
    refine O.exit ?_
    have k9:=congrArg some (b0 _ (Option.some.inj a4).symm)
    cases k9
    exact j6 _ _ [] rfl (by simp [q])
  subst hv
  obtain ⟨⟩:=v
  try dsimp only at h ⊢
  refine O.zR u fun K w=>?_
  refine wC rfl fun K z=>?_;simp [q];apply z
  apply wN;apply w
  cases h
  refine O.ret ?_
  simp [aC,iB,aL6]
theorem res95:Tryz.f95.results.toList=[.tmp 2]:=rfl
theorem ent95:aE E.P 95:=eO Tryz.func95 (by simp [Tryz.f95]) rfl
theorem xP (l1:List Int) {r0:List Int} (h:jW l1=some r0):Ok E 95 [.val (.sl false 1 (List.map vi l1))] [.sl true 1 (List.map vi r0)] []:=by
 refine oB Tryz.func95 rfl (by simp [Tryz.f95]) fun C (q:C.N=5) hP=>?_
 have y:=aM hP
 unfold jW at h
 refine O.zR y fun K u=>?_
 refine wC rfl fun K v=>?_;simp [q];apply v
 apply wN;apply u
 refine O.zR y fun K u=>?_
 refine wC rfl fun K v=>?_;simp [q];apply v
 obtain ⟨l2,a2,h⟩:=bS h
 obtain ⟨a0,a1,a3⟩:=aS a2
 simp [eSl] at a0 a1
 iterate 2 (refine wC rfl fun K v=>?_;simp [q,a0,a1];apply v)
 apply wN;apply u
 cases h
 refine O.ret ?_
 simp [aC,iB,res95]
theorem res62:Tryz.f62.results.toList=[.tmp 2]:=rfl
theorem ent62:aE E.P 62:=eO Tryz.func62 (by simp [Tryz.f62]) rfl
theorem vZ (l1:List GNode) {r0:List GNode} (h:iL l1=some r0):Ok E 62 [.val (.sl false 4 (List.map (GNode.enc false) l1))] [.sl true 4 (List.map (GNode.enc true) r0)] []:=by
 refine oB Tryz.func62 rfl (by simp [Tryz.f62]) fun C (q:C.N=22) hP=>?_
 have y:=aM hP
 unfold iL at h
 refine O.zR y fun K u=>?_
 refine wC rfl fun K w=>?_;simp [q];apply w
 apply wN;apply u
 refine O.zR y fun K u=>?_
 refine wC rfl fun K w=>?_;simp [q];apply w
 apply wN;apply u
 obtain ⟨a3,b6,h⟩:=bS h
 refine O.seqC [3] [] (fun _:Unit=>⟨[(3,.t (.sl true 4 (List.map (GNode.enc true) a3)))],[]⟩) (fun _=>True) (fun _ _=>?_) fun K3 b7=>?_
 rotate_left
 ·refine O.zR y fun K u=>?_
  iterate 3 (refine wC rfl fun K w=>?_;simp [q];apply w)
  apply wN;apply u
  refine O.block ?_
  refine O.loopO [] [3,6,7,8] [] (fun v:(List GNode) × Int=>⟨[(3,.t (.sl true 4 (List.map (GNode.enc true) v.1))),(6,.t (.sl false 4 (List.map (GNode.enc false) l1))),(7,.t (vi (l1.length:Int))),(8,.t (vi v.2))],[]⟩) (dI l1) _ ([],0) b6 (by simp [q]) ?_
  intro g s9 h7 b8
  obtain ⟨a9,v6⟩:=g
  simp only [dI] at h7
  try dsimp only
  refine O.zR y fun K u=>?_
  refine wC rfl fun K w=>?_;simp [q];apply w
  apply wN;apply u
  refine O.seq ?_
  rcases aA h7 with ⟨b0,h7⟩ | ⟨b1,h7⟩
  ·refine O.cT' (by simp) b0 ?_
   refine O.skip ?_
   refine O.seq ?_
   refine O.block ?_
   refine O.zR y fun K u=>?_
   obtain ⟨b2,b3,h7⟩:=bS h7
   obtain ⟨a4,a5,a6,a7⟩:=gS b3
   iterate 4 (refine wC rfl fun K w=>?_;simp [q,a4,a5,a6,a7];apply w)
   apply wN;apply u
   refine O.zR y fun K u=>?_
   iterate 2 (refine wC rfl fun K w=>?_;simp [q];apply w)
   obtain ⟨b9,b4,h7⟩:=bS h7
   refine wL [(.take,.tmp 13)] rfl rfl ent95 (xP _ b4) fun K w=>?_;simp [q];apply w
   iterate 2 (refine wC rfl fun K w=>?_;simp [q];apply w)
   apply wN;apply u
   refine O.zG y fun K u=>?_
   iterate 3 (refine wC rfl fun K w=>?_;simp [q];apply w)
   obtain ⟨c0,b5,h7⟩:=bS h7
   obtain ⟨a0,a1,a8⟩:=aS b5
   have a2:List.map (GNode.enc true) a9 ++ List.map (GNode.enc true) [(⟨b2.Kind,b2.Num,b2.Name,b9⟩:GNode)]=List.map (GNode.enc true) c0:=dU (f:=(GNode.enc true)) a8
   simp [eSl,GNode.enc] at a0 a1 a2
   iterate 2 (refine wC rfl fun K w=>?_;simp [q,a0,a1,a2];apply w)
   apply wN;apply u
   refine O.zG y fun K u=>?_
   iterate 2 (refine wC rfl fun K w=>?_;simp [q];apply w)
   apply wN;apply u
   cases h7
   exact ⟨_,[],rfl,by simp [q]⟩
  ·refine O.cF' (by simp) b1 ?_
   refine O.exit ?_
   have c1:=congrArg some (b8 _ (Option.some.inj h7).symm)
   cases c1
   exact b7 _ () [] trivial (by simp [q])
 refine O.zR y fun K u=>?_
 iterate 2 (refine wC rfl fun K w=>?_;simp [q];apply w)
 apply wN;apply u
 cases h
 refine O.ret ?_
 simp [aC,iB,res62]
theorem res63:Tryz.f63.results.toList=[.cell 2 58]:=rfl
theorem ent63:aE E.P 63:=eO Tryz.func63 (by simp [Tryz.f63]) rfl
theorem aBq (f1:GFn) {r0:GFn} (h:nB f1=some r0):Ok E 63 [.val (GFn.enc false f1)] [GFn.enc true r0] []:=by
 refine oB Tryz.func63 rfl (by simp [Tryz.f63]) fun C (q:C.N=8) hP=>?_
 have y:=aM hP
 unfold nB at h
 refine O.zR y fun K u=>?_
 iterate 2 (refine wC rfl fun K v=>?_;simp [q];apply v)
 apply wN;apply u
 refine O.zR y fun K u=>?_
 iterate 2 (refine wC rfl fun K v=>?_;simp [q];apply v)
 obtain ⟨l2,a2,h⟩:=bS h
 obtain ⟨a0,a1,a3⟩:=aS a2
 simp [eSl,GParam.enc] at a0 a1
 iterate 3 (refine wC rfl fun K v=>?_;simp [q,a0,a1];apply v)
 apply wN;apply u
 refine O.zR y fun K u=>?_
 iterate 2 (refine wC rfl fun K v=>?_;simp [q];apply v)
 apply wN;apply u
 cases h
 refine O.ret ?_
 simp [aC,iB,res63]
theorem res31:Tryz.f31.results.toList=[.cell 2 31]:=rfl
theorem aNy:aE E.P 31:=eO Tryz.func31 (by simp [Tryz.f31]) rfl
theorem fH (p1:GProgram) {r0:GProgram} (h:bY p1=some r0):Ok E 31 [.val (GProgram.enc false p1)] [GProgram.enc true r0] []:=by
 refine oB Tryz.func31 rfl (by simp [Tryz.f31]) fun C (q:C.N=26) hP=>?_
 have y:=aM hP
 unfold bY at h
 refine O.zR y fun K w=>?_
 iterate 2 (refine wC rfl fun K r=>?_;simp [q];apply r)
 apply wN;apply w
 refine O.zR y fun K w=>?_
 iterate 2 (refine wC rfl fun K r=>?_;simp [q];apply r)
 obtain ⟨r2,b6,h⟩:=bS h
 refine wL [(.take,.tmp 7)] rfl rfl ent62 (vZ _ b6) fun K r=>?_;simp [q];apply r
 iterate 3 (refine wC rfl fun K r=>?_;simp [q];apply r)
 apply wN;apply w
 obtain ⟨b5,b7,h⟩:=bS h
 refine O.seqC [2,3] [2,3] (fun _:Unit=>⟨[(2,.ref (.box 2) 0 []),(3,.ref (.box 3) 0 [])],[(2,[.sl true 4 [],.sl true 5 []]),(3,[.sl true 4 (List.map (GNode.enc true) b5.Nodes),.sl true 5 (List.map (GFn.enc true) b5.Fns)])]⟩) (fun _=>True) (fun _ _=>?_) fun K5 b8=>?_
 rotate_left
 ·refine O.zR y fun K w=>?_
  iterate 4 (refine wC rfl fun K r=>?_;simp [q];apply r)
  apply wN;apply w
  refine O.block ?_
  refine O.loopO [] [2,3,11,12,13] [2,3] (fun v:Int × GProgram=>⟨[(2,.ref (.box 2) 0 []),(3,.ref (.box 3) 0 []),(11,.t (.sl false 5 (List.map (GFn.enc false) p1.Fns))),(12,.t (vi (p1.Fns.length:Int))),(13,.t (vi v.1))],[(2,[.sl true 4 [],.sl true 5 []]),(3,[.sl true 4 (List.map (GNode.enc true) v.2.Nodes),.sl true 5 (List.map (GFn.enc true) v.2.Fns)])]⟩) (cH p1) _ (0,(⟨r2,[]⟩:GProgram)) b7 (by simp [q]) ?_
  intro g c2 h9 a8
  obtain ⟨v7,v8⟩:=g
  simp only [cH] at h9
  try dsimp only
  refine O.zR y fun K w=>?_
  refine wC rfl fun K r=>?_;simp [q];apply r
  apply wN;apply w
  refine O.seq ?_
  rcases aA h9 with ⟨a9,h9⟩ | ⟨b0,h9⟩
  ·refine O.cT' (by simp) a9 ?_
   refine O.skip ?_
   refine O.seq ?_
   refine O.block ?_
   refine O.zR y fun K w=>?_
   obtain ⟨b9,b1,h9⟩:=bS h9
   obtain ⟨a3,a4,a5,a6⟩:=gS b1
   iterate 4 (refine wC rfl fun K r=>?_;simp [q,a3,a4,a5,a6];apply r)
   apply wN;apply w
   obtain ⟨b2,b3,h9⟩:=bS h9
   refine O.drawD rfl (y _ rfl) [17,18,19,20,21] [[(17,.ref (.box 3) 1 [])],[(18,.al (.box 3) 1 [] none)],[(19,.t (GFn.enc false b9))],[(20,.t (GFn.enc true b2))],[(21,.t (.sl true 5 (List.map (GFn.enc true) [b2]))),(20,.u)]] [[],[0],[],[2],[2,3],[0,1,2,3,4],[0,1,2,3,4,5],[0,1,2,3,4,5,6]] (by simp) rfl rfl rfl ?_ fun K w=>?_
   ·refine ⟨?_,?_,?_,?_,?_,trivial⟩
    ·intro D d0 g1 g2
     have d1:D 1=false:=g2 1 (by simp) (by simp)
     cases d2:D 2<;>cases d3:D 3<;>cases d4:D 4<;>(intro K w;simp [kM,pK,iP,d0,d1,d2,d3,d4] at w ⊢;refine wC rfl fun K' z=>?_;simp [q];refine z _ (wN ?_);first | exact w | simpa using w)
    ·intro D d1 g1 g2
     have d0:D 0=true:=g1 0 (by simp)
     cases d2:D 2<;>cases d3:D 3<;>cases d4:D 4<;>(intro K w;simp [kM,pK,iP,d0,d1,d2,d3,d4] at w ⊢;refine wC rfl fun K' z=>?_;simp [q];refine z _ (wN ?_);first | exact w | simpa using w)
    ·intro D d2 g1 g2
     have d3:D 3=false:=g2 3 (by simp) (by simp)
     have d4:D 4=false:=g2 4 (by simp) (by simp)
     cases d0:D 0<;>cases d1:D 1<;>(intro K w;simp [kM,pK,iP,d0,d1,d2,d3,d4] at w ⊢;refine wC rfl fun K' z=>?_;simp [q];refine z _ (wN ?_);first | exact w | simpa using w)
    ·intro D d3 g1 g2
     have d2:D 2=true:=g1 2 (by simp)
     have d4:D 4=false:=g2 4 (by simp) (by simp)
     cases d0:D 0<;>cases d1:D 1<;>(intro K w;simp [kM,pK,iP,d0,d1,d2,d3,d4] at w ⊢;refine wL [(.take,.tmp 19)] rfl rfl ent63 (aBq _ b3) fun K' z=>?_;simp [q];refine z _ (wN ?_);first | exact w | simpa using w)
    ·intro D d4 g1 g2
     have d2:D 2=true:=g1 2 (by simp)
     have d3:D 3=true:=g1 3 (by simp)
     cases d0:D 0<;>cases d1:D 1<;>(intro K w;simp [kM,pK,iP,d0,d1,d2,d3,d4] at w ⊢;refine wC rfl fun K' z=>?_;simp [q];refine z _ (wN ?_);first | exact w | simpa using w)
   simp [kM,pK]
   obtain ⟨c0,b4,h9⟩:=bS h9
   obtain ⟨a0,a1,a7⟩:=aS b4
   have a2:List.map (GFn.enc true) v8.Fns ++ List.map (GFn.enc true) [b2]=List.map (GFn.enc true) c0:=dU (f:=(GFn.enc true)) a7
   simp [eSl,GFn.enc] at a0 a1 a2
   iterate 3 (refine wC rfl fun K r=>?_;simp [q,a0,a1,a2];apply r)
   apply wN;apply w
   refine O.zG y fun K w=>?_
   iterate 2 (refine wC rfl fun K r=>?_;simp [q];apply r)
   apply wN;apply w
   cases h9
   exact ⟨_,[],rfl,by simp [q]⟩
  ·refine O.cF' (by simp) b0 ?_
   refine O.exit ?_
   have c1:=congrArg some (a8 _ (Option.some.inj h9).symm)
   cases c1
   exact b8 _ () [] trivial (by simp [q])
 refine O.zR y fun K w=>?_
 iterate 2 (refine wC rfl fun K r=>?_;simp [q];apply r)
 apply wN;apply w
 cases h
 refine O.ret ?_
 simp [aC,iB,res31]
theorem aL7:Tryz.f112.results.toList=[.tmp 4]:=rfl
theorem ent112:aE E.P 112:=eO Tryz.func112 (by simp [Tryz.f112]) rfl
theorem aDy (p1:GProgram) (b9:Int) {r0:List Int} (h:oW p1 b9=some r0):Ok E 112 [.val (GProgram.enc false p1),.val (vi b9)] [.sl true 1 (List.map vi r0)] []:=by
 refine oB Tryz.func112 rfl (by simp [Tryz.f112]) fun C (q:C.N=37) hP=>?_
 have y:=aM hP
 unfold oW at h
 refine O.zR y fun K u=>?_
 iterate 2 (refine wC rfl fun K v=>?_;simp [q];apply v)
 apply wN;apply u
 refine O.seq ?_
 refine O.zR y fun K u=>?_
 iterate 5 (refine wC rfl fun K v=>?_;simp [q];apply v)
 obtain ⟨r3,c0,h⟩:=bS h
 refine wL [(.take,.tmp 6),(.take,.const (.int .i64 0)),(.take,.tmp 10)] rfl rfl nD (aX _ _ _ c0) fun K v=>?_;simp [q];apply v
 refine wC rfl fun K v=>?_;simp [q];apply v
 apply wN;apply u
 rcases aA h with ⟨c1,h⟩ | ⟨c2,h⟩
 ·refine O.cT' (by simp) c1 ?_
  refine O.zR y fun K u=>?_
  refine wC rfl fun K v=>?_;simp [q];apply v
  apply wN;apply u
  cases h
  refine O.ret ?_
  simp [aC,iB,aL7]
 ·refine O.cF' (by simp) c2 ?_
  refine O.skip ?_
  refine O.zR y fun K u=>?_
  iterate 3 (refine wC rfl fun K v=>?_;simp [q];apply v)
  obtain ⟨e7,c3,h⟩:=bS h
  obtain ⟨a8,a9,b0,b1⟩:=gS c3
  iterate 5 (refine wC rfl fun K v=>?_;simp [q,a8,a9,b0,b1];apply v)
  apply wN;apply u
  refine O.seq ?_
  refine O.zR y fun K u=>?_
  iterate 3 (refine wC rfl fun K v=>?_;simp [q];apply v)
  obtain ⟨e8,c4,h⟩:=bS h
  obtain ⟨b2,b3,b4,b5⟩:=gS c4
  iterate 4 (refine wC rfl fun K v=>?_;simp [q,b2,b3,b4,b5];apply v)
  apply wN;apply u
  rcases aA h with ⟨c5,h⟩ | ⟨b6,h⟩
  ·refine O.cT' (by simp) c5 ?_
   refine O.zG y fun K u=>?_
   iterate 4 (refine wC rfl fun K v=>?_;simp [q];apply v)
   obtain ⟨c6,b7,h⟩:=bS h
   obtain ⟨a0,a1,a2,a3⟩:=gS b7
   iterate 4 (refine wC rfl fun K v=>?_;simp [q,a0,a1,a2,a3];apply v)
   obtain ⟨c7,b8,h⟩:=bS h
   obtain ⟨a4,a5,a7⟩:=aS b8
   have a6:List.map vi [e7.Body] ++ List.map vi [c6.Ret]=List.map vi c7:=dU (f:=vi) a7
   simp [eSl] at a4 a5 a6
   iterate 2 (refine wC rfl fun K v=>?_;simp [q,a0,a1,a2,a3,a4,a5,a6];apply v)
   apply wN;apply u
   refine O.zR y fun K u=>?_
   iterate 2 (refine wC rfl fun K v=>?_;simp [q];apply v)
   apply wN;apply u
   cases h
   refine O.ret ?_
   simp [aC,iB,aL7]
  ·refine O.cF' (by simp) b6 ?_
   refine O.skip ?_
   refine O.zR y fun K u=>?_
   iterate 2 (refine wC rfl fun K v=>?_;simp [q];apply v)
   apply wN;apply u
   cases h
   refine O.ret ?_
   simp [aC,iB,aL7]
theorem res97:Tryz.f97.results.toList=[.tmp 4]:=rfl
theorem ent97:aE E.P 97:=eO Tryz.func97 (by simp [Tryz.f97]) rfl
theorem aAh (p1:GProgram) (d6:Int) {r0:List Int} (h:lN p1 d6=some r0):Ok E 97 [.val (GProgram.enc false p1),.val (vi d6)] [.sl true 1 (List.map vi r0)] []:=by
 refine oB Tryz.func97 rfl (by simp [Tryz.f97]) fun C (q:C.N=39) hP=>?_
 have y:=aM hP
 unfold lN at h
 refine O.zR y fun K u=>?_
 iterate 2 (refine wC rfl fun K w=>?_;simp [q];apply w)
 apply wN;apply u
 refine O.zR y fun K u=>?_
 refine wC rfl fun K w=>?_;simp [q];apply w
 apply wN;apply u
 obtain ⟨a6,b8,h⟩:=bS h
 refine O.seqC [5] [] (fun _:Unit=>⟨[(5,.t (.sl true 1 (List.map vi a6)))],[]⟩) (fun _=>True) (fun _ _=>?_) fun K4 d7=>?_
 rotate_left
 ·refine O.zR y fun K u=>?_
  iterate 2 (refine wC rfl fun K w=>?_;simp [q];apply w)
  obtain ⟨r6,d8,b8⟩:=bS b8
  refine wL [(.take,.tmp 10),(.take,.tmp 11)] rfl rfl ent112 (aDy _ _ d8) fun K w=>?_;simp [q];apply w
  iterate 2 (refine wC rfl fun K w=>?_;simp [q];apply w)
  apply wN;apply u
  refine O.block ?_
  refine O.loopO [] [2,5,12,13,14] [2] (fun v:(List Int) × Int=>⟨[(2,.ref (.box 2) 0 []),(5,.t (.sl true 1 (List.map vi v.1))),(12,.t (.sl true 1 (List.map vi r6))),(13,.t (vi (r6.length:Int))),(14,.t (vi v.2))],[(2,[.sl false 4 (List.map (GNode.enc false) p1.Nodes),.sl false 5 (List.map (GFn.enc false) p1.Fns)])]⟩) (dS p1 r6) _ ([],0) b8 (by simp [q]) ?_
  intro g e3 a2 b9
  obtain ⟨c0,v9⟩:=g
  simp only [dS] at a2
  try dsimp only
  refine O.zR y fun K u=>?_
  refine wC rfl fun K w=>?_;simp [q];apply w
  apply wN;apply u
  refine O.seq ?_
  rcases aA a2 with ⟨c1,a2⟩ | ⟨c2,a2⟩
  ·refine O.cT' (by simp) c1 ?_
   refine O.skip ?_
   obtain ⟨a7,a1,a2⟩:=bS a2
   refine O.seqC [2,5,12,13,14] [2] (fun _:Unit=>⟨[(2,.ref (.box 2) 0 []),(5,.t (.sl true 1 (List.map vi a7))),(12,.t (.sl true 1 (List.map vi r6))),(13,.t (vi (r6.length:Int))),(14,.t (vi v9))],[(2,[.sl false 4 (List.map (GNode.enc false) p1.Nodes),.sl false 5 (List.map (GFn.enc false) p1.Fns)])]⟩) (fun _=>True) (fun _ _=>?_) fun e4 c3=>?_
   rotate_left
   ·refine O.block ?_
    refine O.zR y fun K u=>?_
    obtain ⟨e5,c4,a1⟩:=bS a1
    obtain ⟨a8,a9,b0,b1⟩:=gS c4
    iterate 3 (refine wC rfl fun K w=>?_;simp [q,a8,a9,b0,b1];apply w)
    apply wN;apply u
    refine O.zR y fun K u=>?_
    iterate 2 (refine wC rfl fun K w=>?_;simp [q];apply w)
    obtain ⟨c5,c6,a1⟩:=bS a1
    refine wL [(.take,.tmp 18),(.take,.tmp 19)] rfl rfl ent96 (uL _ _ c6) fun K w=>?_;simp [q];apply w
    iterate 2 (refine wC rfl fun K w=>?_;simp [q];apply w)
    apply wN;apply u
    refine O.block ?_
    refine O.loopO [] [2,5,12,13,14,20,21,22] [2] (fun v:(List Int) × Int=>⟨[(2,.ref (.box 2) 0 []),(5,.t (.sl true 1 (List.map vi v.1))),(12,.t (.sl true 1 (List.map vi r6))),(13,.t (vi (r6.length:Int))),(14,.t (vi v9)),(20,.t (.sl true 1 (List.map vi c5))),(21,.t (vi (c5.length:Int))),(22,.t (vi v.2))],[(2,[.sl false 4 (List.map (GNode.enc false) p1.Nodes),.sl false 5 (List.map (GFn.enc false) p1.Fns)])]⟩) (fC c5) _ (c0,0) a1 (by simp [q]) ?_
    intro g e6 a0 c7
    obtain ⟨b2,e7⟩:=g
    simp only [fC] at a0
    try dsimp only
    refine O.zR y fun K u=>?_
    refine wC rfl fun K w=>?_;simp [q];apply w
    apply wN;apply u
    refine O.seq ?_
    rcases aA a0 with ⟨c8,a0⟩ | ⟨c9,a0⟩
    ·refine O.cT' (by simp) c8 ?_
     refine O.skip ?_
     refine O.seq ?_
     refine O.block ?_
     refine O.zR y fun K u=>?_
     obtain ⟨d9,d0,a0⟩:=bS a0
     obtain ⟨b3,b4,b5,b6⟩:=gS d0
     iterate 3 (refine wC rfl fun K w=>?_;simp [q,b3,b4,b5,b6];apply w)
     apply wN;apply u
     refine O.zR y fun K u=>?_
     iterate 2 (refine wC rfl fun K w=>?_;simp [q];apply w)
     obtain ⟨e8,d1,a0⟩:=bS a0
     refine wL [(.bor,.tmp 26),(.take,.tmp 27)] rfl rfl aIr (kP _ _ d1) fun K w=>?_;simp [q];apply w
     refine wC rfl fun K w=>?_;simp [q];apply w
     apply wN;apply u
     rcases aA a0 with ⟨d2,a0⟩ | ⟨d3,a0⟩
     ·refine O.cT' (by simp) d2 ?_
      refine O.zG y fun K u=>?_
      iterate 3 (refine wC rfl fun K w=>?_;simp [q];apply w)
      obtain ⟨e0,d4,a0⟩:=bS a0
      obtain ⟨a3,a4,b7⟩:=aS d4
      have a5:List.map vi b2 ++ List.map vi [d9]=List.map vi e0:=dU (f:=vi) b7
      simp [eSl] at a3 a4 a5
      iterate 2 (refine wC rfl fun K w=>?_;simp [q,a3,a4,a5];apply w)
      apply wN;apply u
      refine O.zG y fun K u=>?_
      iterate 2 (refine wC rfl fun K w=>?_;simp [q];apply w)
      apply wN;apply u
      cases a0
      exact ⟨_,[],rfl,by simp [q]⟩
     ·refine O.cF' (by simp) d3 ?_
      refine O.skip ?_
      refine O.zG y fun K u=>?_
      iterate 2 (refine wC rfl fun K w=>?_;simp [q];apply w)
      apply wN;apply u
      cases a0
      exact ⟨_,[],rfl,by simp [q]⟩
    ·refine O.cF' (by simp) c9 ?_
     refine O.exit ?_
     have e1:=congrArg some (c7 _ (Option.some.inj a0).symm)
     cases e1
     exact c3 _ () [] trivial (by simp [q])
   refine O.zG y fun K u=>?_
   iterate 2 (refine wC rfl fun K w=>?_;simp [q];apply w)
   apply wN;apply u
   cases a2
   exact ⟨_,[],rfl,by simp [q]⟩
  ·refine O.cF' (by simp) c2 ?_
   refine O.exit ?_
   have e2:=congrArg some (b9 _ (Option.some.inj a2).symm)
   cases e2
   exact d7 _ () [] trivial (by simp [q])
 refine O.zR y fun K u=>?_
 refine wC rfl fun K w=>?_;simp [q];apply w
 obtain ⟨e9,d5,h⟩:=bS h
 refine mA rfl aOm (wQ _ d5) fun K w=>?_;simp [q];apply w
 apply wN;apply u
 refine O.zR y fun K u=>?_
 iterate 2 (refine wC rfl fun K w=>?_;simp [q];apply w)
 apply wN;apply u
 cases h
 refine O.ret ?_
 simp [aC,iB,res97]
theorem res65:Tryz.f65.results.toList=[.cell 6 31]:=rfl
theorem ent65:aE E.P 65:=eO Tryz.func65 (by simp [Tryz.f65]) rfl
theorem aA9 (p1:GProgram) (c0:Int) (b0:ByteArray→Option ByteArray) (other3_f:Nat) (other3_c:List T) (other3_e:aE E.P other3_f) (other3_h:∀ (a0:ByteArray) (r0:ByteArray),b0 a0=some r0→Ok E other3_f ([.val (vs a0)] ++ other3_c.map Arg.val) [vs r0] []) {r0:GProgram} (h:nP p1 c0 b0=some r0):Ok E 65 [.val (GProgram.enc false p1),.val (vi c0),.val (.clo other3_f other3_c)] [GProgram.enc true r0] []:=by
 refine oB Tryz.func65 rfl (by simp [Tryz.f65]) fun C (q:C.N=78) hP=>?_
 have y:=aM hP
 unfold nP at h
 refine O.zR y fun K u=>?_
 iterate 2 (refine wC rfl fun K w=>?_;simp [q];apply w)
 apply wN;apply u
 refine O.zR y fun K u=>?_
 refine wC rfl fun K w=>?_;simp [q];apply w
 obtain ⟨r4,h5,h⟩:=bS h
 refine wL [(.take,.tmp 13)] rfl rfl aNy (fH _ h5) fun K w=>?_;simp [q];apply w
 iterate 2 (refine wC rfl fun K w=>?_;simp [q];apply w)
 apply wN;apply u
 obtain ⟨d6,d7,h⟩:=bS h
 refine O.seqC [1,2,6,7] [6,7] (fun _:Unit=>⟨[(1,.t (vi c0)),(2,.t (.clo other3_f other3_c)),(6,.ref (.box 6) 0 []),(7,.ref (.box 7) 0 [])],[(6,[.sl true 4 [],.sl true 5 []]),(7,[.sl true 4 (List.map (GNode.enc true) d6.Nodes),.sl true 5 (List.map (GFn.enc true) d6.Fns)])]⟩) (fun _=>True) (fun _ _=>?_) fun K7 h6=>?_
 rotate_left
 ·refine O.zR y fun K u=>?_
  iterate 2 (refine wC rfl fun K w=>?_;simp [q];apply w)
  obtain ⟨r9,d8,d7⟩:=bS d7
  refine wL [(.take,.tmp 15),(.take,.tmp 16)] rfl rfl ent97 (aAh _ _ d8) fun K w=>?_;simp [q];apply w
  iterate 2 (refine wC rfl fun K w=>?_;simp [q];apply w)
  apply wN;apply u
  refine O.block ?_
  refine O.loopO [] [1,2,6,7,17,18,19] [6,7] (fun v:Int × GProgram=>⟨[(1,.t (vi c0)),(2,.t (.clo other3_f other3_c)),(6,.ref (.box 6) 0 []),(7,.ref (.box 7) 0 []),(17,.t (.sl true 1 (List.map vi r9))),(18,.t (vi (r9.length:Int))),(19,.t (vi v.1))],[(6,[.sl true 4 [],.sl true 5 []]),(7,[.sl true 4 (List.map (GNode.enc true) v.2.Nodes),.sl true 5 (List.map (GFn.enc true) v.2.Fns)])]⟩) (cN b0 r9) _ (0,r4) d7 (by simp [q]) ?_
  intro g i8 a5 d9
  obtain ⟨h7,e0⟩:=g
  simp only [cN] at a5
  try dsimp only
  refine O.zR y fun K u=>?_
  refine wC rfl fun K w=>?_;simp [q];apply w
  apply wN;apply u
  refine O.seq ?_
  rcases aA a5 with ⟨e1,a5⟩ | ⟨e2,a5⟩
  ·refine O.cT' (by simp) e1 ?_
   refine O.skip ?_
   refine O.seq ?_
   refine O.block ?_
   refine O.zR y fun K u=>?_
   obtain ⟨h1,e3,a5⟩:=bS a5
   obtain ⟨c6,c7,c8,c9⟩:=gS e3
   iterate 3 (refine wC rfl fun K w=>?_;simp [q,c6,c7,c8,c9];apply w)
   apply wN;apply u
   refine O.zR y fun K u=>?_
   iterate 3 (refine wC rfl fun K w=>?_;simp [q];apply w)
   obtain ⟨e4,e5,a5⟩:=bS a5
   obtain ⟨a1,a2,a3,a4⟩:=gS e5
   iterate 2 (refine wC rfl fun K w=>?_;simp [q,a1,a2,a3,a4];apply w)
   apply wN;apply u
   obtain ⟨h8,b6,a5⟩:=bS a5
   refine O.seqRC rfl (y _ rfl) [1,2,6,7,10,17,18,19,38] [6,7] (fun _:Unit=>⟨[(1,.t (vi c0)),(2,.t (.clo other3_f other3_c)),(6,.ref (.box 6) 0 []),(7,.ref (.box 7) 0 []),(10,.ref (.box 7) 0 [(h1.toNat,0)]),(17,.t (.sl true 1 (List.map vi r9))),(18,.t (vi (r9.length:Int))),(19,.t (vi h7)),(38,.t (vb h8))],[(6,[.sl true 4 [],.sl true 5 []]),(7,[.sl true 4 (List.map (GNode.enc true) e0.Nodes),.sl true 5 (List.map (GFn.enc true) e0.Fns)])]⟩) (fun _=>True) (fun _ _=>?_) fun i9 d0=>?_
   rotate_left
   ·refine wC rfl fun K w=>?_;simp [q,a1,a2,a3,a4];apply w
    iterate 3 (refine wC rfl fun K w=>?_;simp [q,a1,a2,a3,a4];apply w)
    obtain ⟨j0,e6,b6⟩:=bS b6
    refine wL [(.take,.tmp 30)] rfl rfl ent98 (rD _ e6) fun K w=>?_;simp [q,a1,a2,a3,a4];apply w
    refine wC rfl fun K w=>?_;simp [q,a1,a2,a3,a4];apply w
    rcases aA b6 with ⟨c4,b6⟩ | ⟨b9,b6⟩
    ·have b8:=c4
     try simp at b8
     iterate 6 (refine wC rfl fun K w=>?_;simp [q,a1,a2,a3,a4,c4,b8];apply w)
     refine wN ?_
     cases b6
     exact d0 _ () [] trivial (by simp [q,a1,a2,a3,a4,c4,b8])
    ·have b7:=b9
     try simp at b7
     iterate 5 (refine wO fun K w=>?_;simp [q,a1,a2,a3,a4,b9,b7];apply w)
     refine wC rfl fun K w=>?_;simp [q,a1,a2,a3,a4,b9,b7];apply w
     refine wN ?_
     cases b6
     exact d0 _ () [] trivial (by simp [q,a1,a2,a3,a4,b9,b7])
   rcases aA a5 with ⟨e7,a5⟩ | ⟨e8,a5⟩
   ·refine O.cT' (by simp) e7 ?_
    refine O.zG y fun K u=>?_
    iterate 6 (refine wC rfl fun K w=>?_;simp [q,a1,a2,a3,a4];apply w)
    obtain ⟨h9,e9,a5⟩:=bS a5
    refine tD [(.take,.tmp 44)] rfl rfl other3_e (other3_h _ _ e9) fun K w=>?_;simp [q,a1,a2,a3,a4];apply w
    iterate 2 (refine wC rfl fun K w=>?_;simp [q,a1,a2,a3,a4];apply w)
    obtain ⟨i0,g0,a5⟩:=bZ a5
    have c1:(List.map (GNode.enc true) e0.Nodes).set h1.toNat (.agg [vi e4.Kind,vi e4.Num,vs h9,.sl true 1 (List.map vi e4.Kids)])=List.map (GNode.enc true) i0:=bK (f:=(GNode.enc true)) g0
    try simp only [Int.toNat_natCast] at c1
    refine wC rfl fun K w=>?_;simp [q,a1,a2,a3,a4,c1];apply w
    apply wN;apply u
    refine O.zG y fun K u=>?_
    iterate 2 (refine wC rfl fun K w=>?_;simp [q];apply w)
    apply wN;apply u
    cases a5
    exact ⟨_,[],rfl,by simp [q]⟩
   ·refine O.cF' (by simp) e8 ?_
    refine O.skip ?_
    refine O.zG y fun K u=>?_
    iterate 2 (refine wC rfl fun K w=>?_;simp [q];apply w)
    apply wN;apply u
    cases a5
    exact ⟨_,[],rfl,by simp [q]⟩
  ·refine O.cF' (by simp) e2 ?_
   refine O.exit ?_
   have i1:=congrArg some (d9 _ (Option.some.inj a5).symm)
   cases i1
   exact h6 _ () [] trivial (by simp [q])
 obtain ⟨h2,c5,h⟩:=bS h
 refine O.seqC [6,7] [6,7] (fun _:Unit=>⟨[(6,.ref (.box 6) 0 []),(7,.ref (.box 7) 0 [])],[(6,[.sl true 4 [],.sl true 5 []]),(7,[.sl true 4 (List.map (GNode.enc true) h2.Nodes),.sl true 5 (List.map (GFn.enc true) h2.Fns)])]⟩) (fun _=>True) (fun _ _=>?_) fun j1 g1=>?_
 rotate_left
 ·refine O.zR y fun K u=>?_
  iterate 3 (refine wC rfl fun K w=>?_;simp [q];apply w)
  obtain ⟨h3,g2,c5⟩:=bS c5
  obtain ⟨d1,d2,d3,d4⟩:=gS g2
  iterate 5 (refine wC rfl fun K w=>?_;simp [q,d1,d2,d3,d4];apply w)
  apply wN;apply u
  refine O.block ?_
  refine O.loopO [] [1,2,6,7,55,56] [6,7] (fun v:Int × GProgram=>⟨[(1,.t (vi c0)),(2,.t (.clo other3_f other3_c)),(6,.ref (.box 6) 0 []),(7,.ref (.box 7) 0 []),(55,.t (vi (h3.Params.length:Int))),(56,.t (vi v.1))],[(6,[.sl true 4 [],.sl true 5 []]),(7,[.sl true 4 (List.map (GNode.enc true) v.2.Nodes),.sl true 5 (List.map (GFn.enc true) v.2.Fns)])]⟩) (dR c0 b0 h3) _ (0,d6) c5 (by simp [q]) ?_
  intro g j2 b5 g3
  obtain ⟨i2,i3⟩:=g
  simp only [dR] at b5
  try dsimp only
  refine O.zR y fun K u=>?_
  refine wC rfl fun K w=>?_;simp [q];apply w
  apply wN;apply u
  refine O.seq ?_
  rcases aA b5 with ⟨g4,b5⟩ | ⟨g5,b5⟩
  ·refine O.cT' (by simp) g4 ?_
   refine O.skip ?_
   refine O.seq ?_
   refine O.block ?_
   refine O.zR y fun K u=>?_
   iterate 2 (refine wC rfl fun K w=>?_;simp [q];apply w)
   apply wN;apply u
   refine O.zR y fun K u=>?_
   iterate 3 (refine wC rfl fun K w=>?_;simp [q];apply w)
   obtain ⟨d5,g6,b5⟩:=bS b5
   obtain ⟨a6,a7,a8,a9⟩:=gS g6
   iterate 4 (refine wC rfl fun K w=>?_;simp [q,a6,a7,a8,a9];apply w)
   obtain ⟨i4,g7,b5⟩:=bS b5
   obtain ⟨b1,b2,b3,b4⟩:=gS g7
   iterate 2 (refine wC rfl fun K w=>?_;simp [q,a6,a7,a8,a9,b1,b2,b3,b4];apply w)
   apply wN;apply u
   refine O.zG y fun K u=>?_
   iterate 6 (refine wC rfl fun K w=>?_;simp [q,a6,a7,a8,a9,b1,b2,b3,b4];apply w)
   obtain ⟨i5,g8,b5⟩:=bS b5
   refine tD [(.take,.tmp 72)] rfl rfl other3_e (other3_h _ _ g8) fun K w=>?_;simp [q,a6,a7,a8,a9,b1,b2,b3,b4];apply w
   iterate 2 (refine wC rfl fun K w=>?_;simp [q,a6,a7,a8,a9,b1,b2,b3,b4];apply w)
   obtain ⟨h4,g9,b5⟩:=bZ b5
   have c2:(List.map GParam.enc d5.Params).set i2.toNat (.agg [vs i5,vi i4.Typ])=List.map GParam.enc h4:=bK (f:=GParam.enc) g9
   try simp only [Int.toNat_natCast] at c2
   obtain ⟨i6,h0,b5⟩:=bZ b5
   have c3:(List.map (GFn.enc true) i3.Fns).set c0.toNat (.agg [vs d5.Name,.sl true 2 (List.map GParam.enc h4),vi d5.Res,vi d5.Body,vi d5.Ret])=List.map (GFn.enc true) i6:=bK (f:=(GFn.enc true)) h0
   try simp only [Int.toNat_natCast] at c3
   refine wC rfl fun K w=>?_;simp [q,a6,a7,a8,a9,b1,b2,b3,b4,c2,c3];apply w
   apply wN;apply u
   refine O.zG y fun K u=>?_
   iterate 2 (refine wC rfl fun K w=>?_;simp [q];apply w)
   apply wN;apply u
   cases b5
   exact ⟨_,[],rfl,by simp [q]⟩
  ·refine O.cF' (by simp) g5 ?_
   refine O.exit ?_
   have i7:=congrArg some (g3 _ (Option.some.inj b5).symm)
   cases i7
   exact g1 _ () [] trivial (by simp [q])
 refine O.zR y fun K u=>?_
 iterate 2 (refine wC rfl fun K w=>?_;simp [q];apply w)
 apply wN;apply u
 cases h
 refine O.ret ?_
 simp [aC,iB,res65]
theorem res42:Tryz.f42.results.toList=[.tmp 2]:=rfl
theorem ent42:aE E.P 42:=eO Tryz.func42 (by simp [Tryz.f42]) rfl
theorem rG (n1:Int) {r0:ByteArray} (h:jF n1=some r0):Ok E 42 [.val (vi n1)] [vs r0] []:=by
 refine oB Tryz.func42 rfl (by simp [Tryz.f42]) fun C (q:C.N=5) hP=>?_
 have y:=aM hP
 unfold jF at h
 refine O.zR y fun K u=>?_
 refine wC rfl fun K v=>?_;simp [q];apply v
 apply wN;apply u
 refine O.zR y fun K u=>?_
 refine wC rfl fun K v=>?_;simp [q];apply v
 obtain ⟨r2,a0,h⟩:=bS h
 refine wL [(.take,.tmp 3)] rfl rfl ent74 (yN _ a0) fun K v=>?_;simp [q];apply v
 refine wC rfl fun K v=>?_;simp [q];apply v
 apply wN;apply u
 cases h
 refine O.ret ?_
 simp [aC,iB,res42]
theorem res66:Tryz.f66.results.toList=[.tmp 3]:=rfl
theorem ent66:aE E.P 66:=eO Tryz.func66 (by simp [Tryz.f66]) rfl
theorem uJ (a0:ByteArray) (a2:List GVar) {r0:ByteArray} (h:bG a0 a2=some r0):Ok E 66 [.val (vs a0),.val (.pt [.sl false 3 (List.map GVar.enc a2)])] [vs r0] []:=by
 refine oB Tryz.func66 rfl (by simp [Tryz.f66]) fun C (q:C.N=14) hP=>?_
 have y:=aM hP
 unfold bG at h
 refine O.zR y fun K u=>?_
 refine wC rfl fun K v=>?_;simp [q];apply v
 apply wN;apply u
 refine O.zR y fun K u=>?_
 iterate 2 (refine wC rfl fun K v=>?_;simp [q];apply v)
 obtain ⟨r3,a4,h⟩:=bS h
 refine wL [(.take,.tmp 5),(.take,.tmp 6)] rfl rfl ent67 (uK _ _ a4) fun K v=>?_;simp [q];apply v
 refine wC rfl fun K v=>?_;simp [q];apply v
 apply wN;apply u
 refine O.seq ?_
 refine O.zR y fun K u=>?_
 iterate 2 (refine wC rfl fun K v=>?_;simp [q];apply v)
 apply wN;apply u
 rcases aA h with ⟨a5,h⟩ | ⟨a6,h⟩
 ·refine O.cT' (by simp) a5 ?_
  refine O.zR y fun K u=>?_
  iterate 2 (refine wC rfl fun K v=>?_;simp [q];apply v)
  apply wN;apply u
  cases h
  refine O.ret ?_
  simp [aC,iB,res66]
 ·refine O.cF' (by simp) a6 ?_
  refine O.skip ?_
  refine O.zR y fun K u=>?_
  refine wC rfl fun K v=>?_;simp [q];apply v
  obtain ⟨r7,a7,h⟩:=bS h
  refine wL [(.take,.tmp 11)] rfl rfl ent42 (rG _ a7) fun K v=>?_;simp [q];apply v
  obtain ⟨t9,a8,h⟩:=bS h
  obtain ⟨a1,a3⟩:=iF a8
  iterate 2 (refine wC rfl fun K v=>?_;simp [q,a1,a3];apply v)
  apply wN;apply u
  cases h
  refine O.ret ?_
  simp [aC,iB,res66]
theorem res32:Tryz.f32.results.toList=[.cell 4 31]:=rfl
theorem ent32:aE E.P 32:=eO Tryz.func32 (by simp [Tryz.f32]) rfl
theorem xM (p1:GProgram) (a1:Int) {r0:GProgram} (h:gX p1 a1=some r0):Ok E 32 [.val (GProgram.enc false p1),.val (vi a1)] [GProgram.enc true r0] []:=by
 refine zM (fn:=Tryz.f32) Tryz.func32 rfl (by simp [Tryz.f32]) fun C hN hP hB=>?_
 have a0:C.PB=[]:=hB rfl
 have y:∀ l,aGs [] l=true→oE C.pin l=true:=pO (by rw [hP];rfl)
 have q:C.N=13:=hN
 clear hN
 unfold gX at h
 refine O.zR y fun K u=>?_
 iterate 2 (refine wC rfl fun K v=>?_;simp [q];apply v)
 apply wN;apply u
 refine O.zR y fun K u=>?_
 iterate 2 (refine wC rfl fun K v=>?_;simp [q];apply v)
 obtain ⟨r3,a2,h⟩:=bS h
 refine wL [(.take,.tmp 6),(.take,.tmp 7)] rfl rfl ent64 (sL _ _ a2) fun K v=>?_;simp [q];apply v
 iterate 2 (refine wC rfl fun K v=>?_;simp [q];apply v)
 apply wN;apply u
 refine O.thaw 5 a0 (by rw [q];decide) fun K v=>?_;simp [q];apply v
 refine O.zR y fun K u=>?_
 iterate 3 (refine wC rfl fun K v=>?_;simp [q];apply v)
 obtain ⟨r5,a3,h⟩:=bS h
 refine wL [(.take,.tmp 9),(.take,.tmp 10),(.take,.tmp 11)] rfl rfl ent65 (aA9 _ _ _ 66 [.pt [.sl false 3 (List.map GVar.enc r3)]] ent66 (fun _ _ h0=>uJ _ _ h0) a3) fun K v=>?_;simp [q];apply v
 refine wC rfl fun K v=>?_;simp [q];apply v
 apply wN;apply u
 cases h
 refine O.ret ?_
 simp [aC,iB,res32]
theorem res39:Tryz.f39.results.toList=[.cell 4 31]:=rfl
theorem ent39:aE E.P 39:=eO Tryz.func39 (by simp [Tryz.f39]) rfl
theorem uI (p1:GProgram) (a9:ByteArray→Option ByteArray) (other2_f:Nat) (other2_c:List T) (other2_e:aE E.P other2_f) (other2_h:∀ (a0:ByteArray) (r0:ByteArray),a9 a0=some r0→Ok E other2_f ([.val (vs a0)] ++ other2_c.map Arg.val) [vs r0] []) {r0:GProgram} (h:jT p1 a9=some r0):Ok E 39 [.val (GProgram.enc false p1),.val (.clo other2_f other2_c)] [GProgram.enc true r0] []:=by
 refine oB Tryz.func39 rfl (by simp [Tryz.f39]) fun C (q:C.N=57) hP=>?_
 have y:=aM hP
 unfold jT at h
 refine O.zR y fun K u=>?_
 iterate 2 (refine wC rfl fun K z=>?_;simp [q];apply z)
 apply wN;apply u
 refine O.zR y fun K u=>?_
 refine wC rfl fun K z=>?_;simp [q];apply z
 obtain ⟨r3,d6,h⟩:=bS h
 refine wL [(.take,.tmp 9)] rfl rfl aNy (fH _ d6) fun K z=>?_;simp [q];apply z
 iterate 2 (refine wC rfl fun K z=>?_;simp [q];apply z)
 apply wN;apply u
 obtain ⟨b4,d7,h⟩:=bS h
 refine O.seqC [1,4,5] [4,5] (fun _:Unit=>⟨[(1,.t (.clo other2_f other2_c)),(4,.ref (.box 4) 0 []),(5,.ref (.box 5) 0 [])],[(4,[.sl true 4 [],.sl true 5 []]),(5,[.sl true 4 (List.map (GNode.enc true) b4.Nodes),.sl true 5 (List.map (GFn.enc true) b4.Fns)])]⟩) (fun _=>True) (fun _ _=>?_) fun K6 d8=>?_
 rotate_left
 ·refine O.zR y fun K u=>?_
  iterate 4 (refine wC rfl fun K z=>?_;simp [q];apply z)
  apply wN;apply u
  refine O.block ?_
  refine O.loopO [] [1,4,5,13,14] [4,5] (fun v:Int × GProgram=>⟨[(1,.t (.clo other2_f other2_c)),(4,.ref (.box 4) 0 []),(5,.ref (.box 5) 0 []),(13,.t (vi (r3.Nodes.length:Int))),(14,.t (vi v.1))],[(4,[.sl true 4 [],.sl true 5 []]),(5,[.sl true 4 (List.map (GNode.enc true) v.2.Nodes),.sl true 5 (List.map (GFn.enc true) v.2.Fns)])]⟩) (bT a9 r3) _ (0,r3) d7 (by simp [q]) ?_
  intro g e5 b0 b7
  obtain ⟨v8,v9⟩:=g
  simp only [bT] at b0
  try dsimp only
  refine O.zR y fun K u=>?_
  refine wC rfl fun K z=>?_;simp [q];apply z
  apply wN;apply u
  refine O.seq ?_
  rcases aA b0 with ⟨b8,b0⟩ | ⟨b9,b0⟩
  ·refine O.cT' (by simp) b8 ?_
   refine O.skip ?_
   refine O.seq ?_
   refine O.block ?_
   refine O.zR y fun K u=>?_
   iterate 2 (refine wC rfl fun K z=>?_;simp [q];apply z)
   apply wN;apply u
   refine O.zR y fun K u=>?_
   iterate 3 (refine wC rfl fun K z=>?_;simp [q];apply z)
   obtain ⟨c0,c1,b0⟩:=bS b0
   obtain ⟨a1,a2,a3,a4⟩:=gS c1
   iterate 2 (refine wC rfl fun K z=>?_;simp [q,a1,a2,a3,a4];apply z)
   apply wN;apply u
   refine O.zR y fun K u=>?_
   iterate 5 (refine wC rfl fun K z=>?_;simp [q,a1,a2,a3,a4];apply z)
   apply wN;apply u
   rcases aA b0 with ⟨c2,b0⟩ | ⟨c3,b0⟩
   ·refine O.cT' (by simp) c2 ?_
    refine O.zG y fun K u=>?_
    iterate 6 (refine wC rfl fun K z=>?_;simp [q,a1,a2,a3,a4];apply z)
    obtain ⟨d9,c4,b0⟩:=bS b0
    refine tD [(.take,.tmp 31)] rfl rfl other2_e (other2_h _ _ c4) fun K z=>?_;simp [q,a1,a2,a3,a4];apply z
    iterate 2 (refine wC rfl fun K z=>?_;simp [q,a1,a2,a3,a4];apply z)
    obtain ⟨e0,c5,b0⟩:=bZ b0
    have b2:(List.map (GNode.enc true) v9.Nodes).set v8.toNat (.agg [vi c0.Kind,vi c0.Num,vs d9,.sl true 1 (List.map vi c0.Kids)])=List.map (GNode.enc true) e0:=bK (f:=(GNode.enc true)) c5
    try simp only [Int.toNat_natCast] at b2
    refine wC rfl fun K z=>?_;simp [q,a1,a2,a3,a4,b2];apply z
    apply wN;apply u
    refine O.zG y fun K u=>?_
    iterate 2 (refine wC rfl fun K z=>?_;simp [q];apply z)
    apply wN;apply u
    cases b0
    exact ⟨_,[],rfl,by simp [q]⟩
   ·refine O.cF' (by simp) c3 ?_
    refine O.skip ?_
    refine O.zG y fun K u=>?_
    iterate 2 (refine wC rfl fun K z=>?_;simp [q];apply z)
    apply wN;apply u
    cases b0
    exact ⟨_,[],rfl,by simp [q]⟩
  ·refine O.cF' (by simp) b9 ?_
   refine O.exit ?_
   have e1:=congrArg some (b7 _ (Option.some.inj b0).symm)
   cases e1
   exact d8 _ () [] trivial (by simp [q])
 obtain ⟨d4,c6,h⟩:=bS h
 refine O.seqC [4,5] [4,5] (fun _:Unit=>⟨[(4,.ref (.box 4) 0 []),(5,.ref (.box 5) 0 [])],[(4,[.sl true 4 [],.sl true 5 []]),(5,[.sl true 4 (List.map (GNode.enc true) d4.Nodes),.sl true 5 (List.map (GFn.enc true) d4.Fns)])]⟩) (fun _=>True) (fun _ _=>?_) fun e6 c7=>?_
 rotate_left
 ·refine O.zR y fun K u=>?_
  iterate 4 (refine wC rfl fun K z=>?_;simp [q];apply z)
  apply wN;apply u
  refine O.block ?_
  refine O.loopO [] [1,4,5,38,39] [4,5] (fun v:Int × GProgram=>⟨[(1,.t (.clo other2_f other2_c)),(4,.ref (.box 4) 0 []),(5,.ref (.box 5) 0 []),(38,.t (vi (b4.Fns.length:Int))),(39,.t (vi v.1))],[(4,[.sl true 4 [],.sl true 5 []]),(5,[.sl true 4 (List.map (GNode.enc true) v.2.Nodes),.sl true 5 (List.map (GFn.enc true) v.2.Fns)])]⟩) (bR a9 b4) _ (0,b4) c6 (by simp [q]) ?_
  intro g e7 b1 c8
  obtain ⟨b5,e2⟩:=g
  simp only [bR] at b1
  try dsimp only
  refine O.zR y fun K u=>?_
  refine wC rfl fun K z=>?_;simp [q];apply z
  apply wN;apply u
  refine O.seq ?_
  rcases aA b1 with ⟨c9,b1⟩ | ⟨d0,b1⟩
  ·refine O.cT' (by simp) c9 ?_
   refine O.skip ?_
   refine O.seq ?_
   refine O.block ?_
   refine O.zR y fun K u=>?_
   iterate 2 (refine wC rfl fun K z=>?_;simp [q];apply z)
   apply wN;apply u
   obtain ⟨b6,d1,b1⟩:=bS b1
   obtain ⟨a5,a6,a7,a8⟩:=gS d1
   obtain ⟨d5,d2,b1⟩:=bS b1
   refine O.dT rfl (y _ rfl) [(42,.ref (.box 5) 1 []),(43,.al (.box 5) 1 [] none),(44,.t (vi b5)),(45,.t (.clo other2_f other2_c)),(46,.ref (.box 5) 1 []),(47,.al (.box 5) 1 [] none),(48,.t (vi b5)),(49,.ref (.box 5) 1 [(b5.toNat,0)]),(50,.ref (.box 5) 1 [(b5.toNat,0)]),(51,.t (vs b6.Name)),(52,.t (vs d5))] [[],[0],[],[],[],[4],[],[4,5,6],[4,5,6,7],[4,5,6,7,8],[3,4,5,6,7,8,9],[0,1,2,3,4,5,6,7,8,9,10],[0,1,2,3,4,5,6,7,8,9,10,11],[0,1,2,3,4,5,6,7,8,9,10,11,12]] (by simp) (by simp) (by simp [look]) rfl rfl rfl ?_ fun K u=>?_
   ·refine ⟨?_,?_,?_,?_,?_,?_,?_,?_,?_,?_,?_,trivial⟩
    all_goals (intro τ hbx hb hd hf K u;try simp [aI] at hd;simp [aI] at hf;first | (refine wC rfl fun K' w=>?_;simp [q,hbx,hb,hd,hf,a5,a6,a7,a8];exact w _ (wN (u _ (by simp [aI,hbx,a5,a6,a7,a8])))) | (refine tD [(.take,.tmp 51)] rfl rfl other2_e (other2_h _ _ d2) fun K' w=>?_;simp [q,hbx,hb,hd,hf,a5,a6,a7,a8];exact w _ (wN (u _ (by simp [aI,hbx,a5,a6,a7,a8])))))
   iterate 2 (refine wC rfl fun K z=>?_;simp [q,a5,a6,a7,a8];apply z)
   obtain ⟨e3,d3,b1⟩:=bZ b1
   have b3:(List.map (GFn.enc true) e2.Fns).set b5.toNat (.agg [vs d5,.sl true 2 (List.map GParam.enc b6.Params),vi b6.Res,vi b6.Body,vi b6.Ret])=List.map (GFn.enc true) e3:=bK (f:=(GFn.enc true)) d3
   try simp only [Int.toNat_natCast] at b3
   refine wC rfl fun K z=>?_;simp [q,a5,a6,a7,a8,b3];apply z
   apply wN;apply u
   refine O.zG y fun K u=>?_
   iterate 2 (refine wC rfl fun K z=>?_;simp [q];apply z)
   apply wN;apply u
   cases b1
   exact ⟨_,[],rfl,by simp [q]⟩
  ·refine O.cF' (by simp) d0 ?_
   refine O.exit ?_
   have e4:=congrArg some (c8 _ (Option.some.inj b1).symm)
   cases e4
   exact c7 _ () [] trivial (by simp [q])
 refine O.zR y fun K u=>?_
 iterate 2 (refine wC rfl fun K z=>?_;simp [q];apply z)
 apply wN;apply u
 cases h
 refine O.ret ?_
 simp [aC,iB,res39]
theorem res40:Tryz.f40.results.toList=[.tmp 3]:=rfl
theorem ent40:aE E.P 40:=eO Tryz.func40 (by simp [Tryz.f40]) rfl
theorem sZ (a0:ByteArray) (a2:GProgram) {r0:ByteArray} (h:bJ a0 a2=some r0):Ok E 40 [.val (vs a0),.val (.pt [.sl false 4 (List.map (GNode.enc false) a2.Nodes),.sl false 5 (List.map (GFn.enc false) a2.Fns)])] [vs r0] []:=by
 refine oB Tryz.func40 rfl (by simp [Tryz.f40]) fun C (q:C.N=14) hP=>?_
 have y:=aM hP
 unfold bJ at h
 refine O.zR y fun K u=>?_
 refine wC rfl fun K v=>?_;simp [q];apply v
 apply wN;apply u
 refine O.zR y fun K u=>?_
 iterate 2 (refine wC rfl fun K v=>?_;simp [q];apply v)
 obtain ⟨r3,a4,h⟩:=bS h
 refine wL [(.take,.tmp 5),(.take,.tmp 6)] rfl rfl aPp (rF _ _ a4) fun K v=>?_;simp [q];apply v
 refine wC rfl fun K v=>?_;simp [q];apply v
 apply wN;apply u
 refine O.seq ?_
 refine O.zR y fun K u=>?_
 iterate 2 (refine wC rfl fun K v=>?_;simp [q];apply v)
 apply wN;apply u
 rcases aA h with ⟨a5,h⟩ | ⟨a6,h⟩
 ·refine O.cT' (by simp) a5 ?_
  refine O.zR y fun K u=>?_
  iterate 2 (refine wC rfl fun K v=>?_;simp [q];apply v)
  apply wN;apply u
  cases h
  refine O.ret ?_
  simp [aC,iB,res40]
 ·refine O.cF' (by simp) a6 ?_
  refine O.skip ?_
  refine O.zR y fun K u=>?_
  refine wC rfl fun K v=>?_;simp [q];apply v
  obtain ⟨r7,a7,h⟩:=bS h
  refine wL [(.take,.tmp 11)] rfl rfl ent42 (rG _ a7) fun K v=>?_;simp [q];apply v
  obtain ⟨t9,a8,h⟩:=bS h
  obtain ⟨a1,a3⟩:=iF a8
  iterate 2 (refine wC rfl fun K v=>?_;simp [q,a1,a3];apply v)
  apply wN;apply u
  cases h
  refine O.ret ?_
  simp [aC,iB,res40]
theorem res16:Tryz.f16.results.toList=[.cell 2 31]:=rfl
theorem ent16:aE E.P 16:=eO Tryz.func16 (by simp [Tryz.f16]) rfl
theorem oX (p1:GProgram) {r0:GProgram} (h:dD p1=some r0):Ok E 16 [.val (GProgram.enc false p1)] [GProgram.enc true r0] []:=by
 refine zM (fn:=Tryz.f16) Tryz.func16 rfl (by simp [Tryz.f16]) fun C hN hP hB=>?_
 have a1:C.PB=[]:=hB rfl
 have y:∀ l,aGs [] l=true→oE C.pin l=true:=pO (by rw [hP];rfl)
 have q:C.N=25:=hN
 clear hN
 unfold dD at h
 refine O.zR y fun K u=>?_
 iterate 2 (refine wC rfl fun K w=>?_;simp [q];apply w)
 apply wN;apply u
 refine O.seq ?_
 refine O.zR y fun K u=>?_
 refine wC rfl fun K w=>?_;simp [q];apply w
 obtain ⟨r2,b0,h⟩:=bS h
 refine wL [(.take,.tmp 5)] rfl rfl ent23 (uN _ b0) fun K w=>?_;simp [q];apply w
 refine wC rfl fun K w=>?_;simp [q];apply w
 apply wN;apply u
 rcases aA h with ⟨b1,h⟩ | ⟨b2,h⟩
 ·refine O.cT' (by simp) b1 ?_
  refine O.zR y fun K u=>?_
  refine wC rfl fun K w=>?_;simp [q];apply w
  obtain ⟨r6,b3,h⟩:=bS h
  refine wL [(.take,.tmp 8)] rfl rfl aNy (fH _ b3) fun K w=>?_;simp [q];apply w
  refine wC rfl fun K w=>?_;simp [q];apply w
  apply wN;apply u
  cases h
  refine O.ret ?_
  simp [aC,iB,res16]
 ·refine O.cF' (by simp) b2 ?_
  refine O.skip ?_
  refine O.zR y fun K u=>?_
  refine wC rfl fun K w=>?_;simp [q];apply w
  obtain ⟨r8,b4,h⟩:=bS h
  refine wL [(.take,.tmp 10)] rfl rfl aNy (fH _ b4) fun K w=>?_;simp [q];apply w
  iterate 2 (refine wC rfl fun K w=>?_;simp [q];apply w)
  apply wN;apply u
  obtain ⟨a9,a2,h⟩:=bS h
  refine O.seqC [1,2,3] [1,2,3] (fun _:Unit=>⟨[(1,.ref (.box 1) 0 []),(2,.ref (.box 2) 0 []),(3,.ref (.box 3) 0 [])],[(1,[.sl false 4 (List.map (GNode.enc false) p1.Nodes),.sl false 5 (List.map (GFn.enc false) p1.Fns)]),(2,[.sl true 4 [],.sl true 5 []]),(3,[.sl true 4 (List.map (GNode.enc true) a9.Nodes),.sl true 5 (List.map (GFn.enc true) a9.Fns)])]⟩) (fun _=>True) (fun _ _=>?_) fun b6 a3=>?_
  rotate_left
  ·refine O.zR y fun K u=>?_
   iterate 4 (refine wC rfl fun K w=>?_;simp [q];apply w)
   apply wN;apply u
   refine O.block ?_
   refine O.loopO [] [1,2,3,14,15] [1,2,3] (fun v:Int × GProgram=>⟨[(1,.ref (.box 1) 0 []),(2,.ref (.box 2) 0 []),(3,.ref (.box 3) 0 []),(14,.t (vi (p1.Fns.length:Int))),(15,.t (vi v.1))],[(1,[.sl false 4 (List.map (GNode.enc false) p1.Nodes),.sl false 5 (List.map (GFn.enc false) p1.Fns)]),(2,[.sl true 4 [],.sl true 5 []]),(3,[.sl true 4 (List.map (GNode.enc true) v.2.Nodes),.sl true 5 (List.map (GFn.enc true) v.2.Fns)])]⟩) (cJ p1) _ (0,r8) a2 (by simp [q]) ?_
   intro g b7 a0 a4
   obtain ⟨b8,b9⟩:=g
   simp only [cJ] at a0
   try dsimp only
   refine O.zR y fun K u=>?_
   refine wC rfl fun K w=>?_;simp [q];apply w
   apply wN;apply u
   refine O.seq ?_
   rcases aA a0 with ⟨a5,a0⟩ | ⟨a6,a0⟩
   ·refine O.cT' (by simp) a5 ?_
    refine O.skip ?_
    refine O.seq ?_
    refine O.block ?_
    refine O.zR y fun K u=>?_
    iterate 2 (refine wC rfl fun K w=>?_;simp [q];apply w)
    apply wN;apply u
    refine O.zG y fun K u=>?_
    iterate 2 (refine wC rfl fun K w=>?_;simp [q];apply w)
    obtain ⟨c0,a7,a0⟩:=bS a0
    refine wL [(.bor,.tmp 18),(.take,.tmp 19)] rfl rfl ent32 (xM _ _ a7) fun K w=>?_;simp [q];apply w
    refine wC rfl fun K w=>?_;simp [q];apply w
    apply wN;apply u
    refine O.zG y fun K u=>?_
    iterate 2 (refine wC rfl fun K w=>?_;simp [q];apply w)
    apply wN;apply u
    cases a0
    exact ⟨_,[],rfl,by simp [q]⟩
   ·refine O.cF' (by simp) a6 ?_
    refine O.exit ?_
    have b5:=congrArg some (a4 _ (Option.some.inj a0).symm)
    cases b5
    exact a3 _ () [] trivial (by simp [q])
  refine O.thaw 1 a1 (by rw [q];decide) fun K w=>?_;simp [q];apply w
  refine O.zR y fun K u=>?_
  iterate 2 (refine wC rfl fun K w=>?_;simp [q];apply w)
  obtain ⟨c1,a8,h⟩:=bS h
  refine wL [(.bor,.tmp 22),(.take,.tmp 23)] rfl rfl ent39 (uI _ _ 40 [.pt [.sl false 4 (List.map (GNode.enc false) p1.Nodes),.sl false 5 (List.map (GFn.enc false) p1.Fns)]] ent40 (fun _ _ h0=>sZ _ _ h0) a8) fun K w=>?_;simp [q];apply w
  refine wC rfl fun K w=>?_;simp [q];apply w
  apply wN;apply u
  cases h
  refine O.ret ?_
  simp [aC,iB,res16]
theorem aMg:Tryz.f5.results.toList=[.tmp 2]:=rfl
theorem oT (a5:GProgram) {r0:Bool} (h:eJ a5=some r0):Ok E 5 [.val (GProgram.enc false a5)] [vb r0] []:=by
 refine oB Tryz.func5 rfl (by simp [Tryz.f5]) fun C (q:C.N=69) hP=>?_
 have y:=aM hP
 unfold eJ at h
 refine O.zR y fun K u=>?_
 iterate 2 (refine wC rfl fun K w=>?_;simp [q];apply w)
 apply wN;apply u
 refine O.zR y fun K u=>?_
 refine wC rfl fun K w=>?_;simp [q];apply w
 apply wN;apply u
 refine O.zR y fun K u=>?_
 iterate 2 (refine wC rfl fun K w=>?_;simp [q];apply w)
 obtain ⟨r2,d7,h⟩:=bS h
 refine wL [(.take,.tmp 11),(.take,.tmp 12)] rfl rfl ent6 (vT _ _ d7) fun K w=>?_;simp [q];apply w
 refine wC rfl fun K w=>?_;simp [q];apply w
 apply wN;apply u
 refine O.seq ?_
 refine O.zR y fun K u=>?_
 iterate 2 (refine wC rfl fun K w=>?_;simp [q];apply w)
 apply wN;apply u
 rcases aA h with ⟨d8,h⟩ | ⟨d9,h⟩
 ·refine O.cT' (by simp) d8 ?_
  refine O.zR y fun K u=>?_
  refine wC rfl fun K w=>?_;simp [q];apply w
  apply wN;apply u
  cases h
  refine O.ret ?_
  simp [aC,iB,aMg]
 ·refine O.cF' (by simp) d9 ?_
  refine O.skip ?_
  refine O.zR y fun K u=>?_
  refine wC rfl fun K w=>?_;simp [q];apply w
  obtain ⟨r6,e0,h⟩:=bS h
  refine wL [(.take,.tmp 16)] rfl rfl ent8 (gQ _ e0) fun K w=>?_;simp [q];apply w
  obtain ⟨r8,e1,h⟩:=bS h
  refine wL [(.bor,.tmp 17)] rfl rfl ent15 (vH _ e1) fun K w=>?_;simp [q];apply w
  iterate 2 (refine wC rfl fun K w=>?_;simp [q];apply w)
  apply wN;apply u
  refine O.zR y fun K u=>?_
  refine wC rfl fun K w=>?_;simp [q];apply w
  obtain ⟨e4,a7,h⟩:=bS h
  refine wL [(.take,.tmp 19)] rfl rfl ent8 (gQ _ a7) fun K w=>?_;simp [q];apply w
  iterate 2 (refine wC rfl fun K w=>?_;simp [q];apply w)
  apply wN;apply u
  refine O.zR y fun K u=>?_
  refine wC rfl fun K w=>?_;simp [q];apply w
  obtain ⟨d6,a8,h⟩:=bS h
  refine wL [(.bor,.tmp 21)] rfl rfl ent16 (oX _ a8) fun K w=>?_;simp [q];apply w
  iterate 2 (refine wC rfl fun K w=>?_;simp [q];apply w)
  apply wN;apply u
  refine O.seq ?_
  refine O.zR y fun K u=>?_
  iterate 2 (refine wC rfl fun K w=>?_;simp [q];apply w)
  obtain ⟨e5,a9,h⟩:=bS h
  refine wL [(.bor,.tmp 23),(.bor,.tmp 24)] rfl rfl aNz (gT _ _ a9) fun K w=>?_;simp [q];apply w
  refine wC rfl fun K w=>?_;simp [q];apply w
  apply wN;apply u
  rcases aA h with ⟨b0,h⟩ | ⟨b1,h⟩
  ·refine O.cT' (by simp) b0 ?_
   refine O.zR y fun K u=>?_
   refine wC rfl fun K w=>?_;simp [q];apply w
   apply wN;apply u
   cases h
   refine O.ret ?_
   simp [aC,iB,aMg]
  ·refine O.cF' (by simp) b1 ?_
   refine O.skip ?_
   refine O.seq ?_
   refine O.seq ?_
   obtain ⟨e2,b2,h⟩:=bS h
   refine O.dT rfl (y _ rfl) [(27,.al (.box 5) 0 [] (some 2)),(28,.t (GProgram.enc false a5)),(29,.t (GProgram.enc true e2))] [[],[],[1],[0,1,2],[0,1,2,3]] (by simp) (by simp) (by simp [look]) rfl rfl rfl ?_ fun K u=>?_
   ·refine ⟨?_,?_,?_,trivial⟩
    all_goals (intro τ hbx hb hd hf K u;try simp [aI] at hd;simp [aI] at hf;first | (refine wC rfl fun K' v=>?_;simp [q,hbx,hb,hd,hf];exact v _ (wN (u _ (by simp [aI,hbx])))) | (refine wL [(.take,.tmp 28)] rfl rfl ent8 (gQ _ b2) fun K' v=>?_;simp [q,hbx,hb,hd,hf];exact v _ (wN (u _ (by simp [aI,hbx])))))
   obtain ⟨e6,b3,h⟩:=bS h
   refine wL [(.bor,.tmp 27),(.bor,.tmp 29)] rfl rfl aNz (gT _ _ b3) fun K w=>?_;simp [q];apply w
   refine wC rfl fun K w=>?_;simp [q];apply w
   apply wN;apply u
   rcases aA h with ⟨b4,h⟩ | ⟨b5,h⟩
   ·refine O.cT' (by simp) b4 ?_
    refine O.zR y fun K u=>?_
    refine wC rfl fun K w=>?_;simp [q];apply w
    apply wN;apply u
    cases h
    refine O.ret ?_
    simp [aC,iB,aMg]
   ·refine O.cF' (by simp) b5 ?_
    refine O.skip ?_
    refine O.zR y fun K u=>?_
    refine wC rfl fun K w=>?_;simp [q];apply w
    apply wN;apply u
    refine O.zR y fun K u=>?_
    iterate 2 (refine wC rfl fun K w=>?_;simp [q];apply w)
    obtain ⟨⟨e7,e8⟩,b6,h⟩:=bS h
    try dsimp only at h
    refine mA rfl ent13 (mT _ _ b6) fun K w=>?_;simp [q];apply w
    refine wC rfl fun K w=>?_;simp [q];apply w
    apply wN;apply u
    refine O.seq ?_
    obtain ⟨e3,a1,h⟩:=bS h
    refine O.seqRC rfl (y _ rfl) [1,4,6,42] [1,4,6] (fun _:Unit=>⟨[(1,.ref (.box 1) 0 []),(4,.ref (.box 4) 0 []),(6,.ref (.box 6) 0 []),(42,.t (vb e3))],[(1,[.sl false 4 (List.map (GNode.enc false) a5.Nodes),.sl false 5 (List.map (GFn.enc false) a5.Fns)]),(4,[.sl true 4 (List.map (GNode.enc true) r8.Nodes),.sl true 5 (List.map (GFn.enc true) r8.Fns)]),(6,[.sl true 4 (List.map (GNode.enc true) d6.Nodes),.sl true 5 (List.map (GFn.enc true) d6.Fns)])]⟩) (fun _=>True) (fun _ _=>?_) fun e9 a6=>?_
    rotate_left
    ·refine wC rfl fun K w=>?_;simp [q];apply w
     iterate 2 (refine wC rfl fun K w=>?_;simp [q];apply w)
     rcases aA a1 with ⟨a4,a1⟩ | ⟨a3,a1⟩
     ·have a2:=a4
      try simp at a2
      iterate 4 (refine wO fun K w=>?_;simp [q,a4,a2];apply w)
      refine wC rfl fun K w=>?_;simp [q,a4,a2];apply w
      refine wN ?_
      cases a1
      exact a6 _ () [] trivial (by simp [q,a4,a2])
     ·have a0:=a3
      try simp at a0
      iterate 2 (refine wC rfl fun K w=>?_;simp [q,a3,a0];apply w)
      obtain ⟨g0,b7,a1⟩:=bS a1
      refine wL [(.bor,.tmp 38),(.bor,.tmp 39)] rfl rfl aNz (gT _ _ b7) fun K w=>?_;simp [q,a3,a0];apply w
      iterate 2 (refine wC rfl fun K w=>?_;simp [q,a3,a0];apply w)
      refine wN ?_
      cases a1
      exact a6 _ () [] trivial (by simp [q,a3,a0])
    rcases aA h with ⟨b8,h⟩ | ⟨b9,h⟩
    ·refine O.cT' (by simp) b8 ?_
     refine O.zR y fun K u=>?_
     refine wC rfl fun K w=>?_;simp [q];apply w
     apply wN;apply u
     cases h
     refine O.ret ?_
     simp [aC,iB,aMg]
    ·refine O.cF' (by simp) b9 ?_
     refine O.skip ?_
     refine O.zR y fun K u=>?_
     refine wC rfl fun K w=>?_;simp [q];apply w
     apply wN;apply u
     refine O.zR y fun K u=>?_
     iterate 2 (refine wC rfl fun K w=>?_;simp [q];apply w)
     obtain ⟨⟨g1,g2⟩,c0,h⟩:=bS h
     try dsimp only at h
     refine mA rfl ent13 (mT _ _ c0) fun K w=>?_;simp [q];apply w
     refine wC rfl fun K w=>?_;simp [q];apply w
     apply wN;apply u
     refine O.zR y fun K u=>?_
     refine wC rfl fun K w=>?_;simp [q];apply w
     apply wN;apply u
     refine O.zR y fun K u=>?_
     iterate 2 (refine wC rfl fun K w=>?_;simp [q];apply w)
     obtain ⟨g3,c1,h⟩:=bS h
     refine wL [(.bor,.tmp 46),(.take,.tmp 47)] rfl rfl ent14 (mU _ _ c1) fun K w=>?_;simp [q];apply w
     refine wC rfl fun K w=>?_;simp [q];apply w
     apply wN;apply u
     refine O.seq ?_
     refine O.zR y fun K u=>?_
     iterate 2 (refine wC rfl fun K w=>?_;simp [q];apply w)
     apply wN;apply u
     rcases aA h with ⟨c2,h⟩ | ⟨c3,h⟩
     ·refine O.cT' (by simp) c2 ?_
      refine O.zR y fun K u=>?_
      refine wC rfl fun K w=>?_;simp [q];apply w
      apply wN;apply u
      cases h
      refine O.ret ?_
      simp [aC,iB,aMg]
     ·refine O.cF' (by simp) c3 ?_
      refine O.skip ?_
      refine O.seq ?_
      refine O.zR y fun K u=>?_
      iterate 3 (refine wC rfl fun K w=>?_;simp [q];apply w)
      apply wN;apply u
      rcases aA h with ⟨c4,h⟩ | ⟨c5,h⟩
      ·refine O.cT' (by simp) c4 ?_
       refine O.zR y fun K u=>?_
       refine wC rfl fun K w=>?_;simp [q];apply w
       apply wN;apply u
       cases h
       refine O.ret ?_
       simp [aC,iB,aMg]
      ·refine O.cF' (by simp) c5 ?_
       refine O.skip ?_
       refine O.zR y fun K u=>?_
       refine wC rfl fun K w=>?_;simp [q];apply w
       obtain ⟨g4,c6,h⟩:=bS h
       refine wL [(.take,.tmp 54)] rfl rfl ent8 (gQ _ c6) fun K w=>?_;simp [q];apply w
       obtain ⟨g5,c7,h⟩:=bS h
       refine wL [(.bor,.tmp 55)] rfl rfl ent16 (oX _ c7) fun K w=>?_;simp [q];apply w
       iterate 2 (refine wC rfl fun K w=>?_;simp [q];apply w)
       apply wN;apply u
       refine O.seq ?_
       refine O.zR y fun K u=>?_
       iterate 2 (refine wC rfl fun K w=>?_;simp [q];apply w)
       obtain ⟨g6,c8,h⟩:=bS h
       refine wL [(.bor,.tmp 57),(.bor,.tmp 58)] rfl rfl aNz (gT _ _ c8) fun K w=>?_;simp [q];apply w
       refine wC rfl fun K w=>?_;simp [q];apply w
       apply wN;apply u
       rcases aA h with ⟨c9,h⟩ | ⟨d0,h⟩
       ·refine O.cT' (by simp) c9 ?_
        refine O.zR y fun K u=>?_
        refine wC rfl fun K w=>?_;simp [q];apply w
        apply wN;apply u
        cases h
        refine O.ret ?_
        simp [aC,iB,aMg]
       ·refine O.cF' (by simp) d0 ?_
        refine O.skip ?_
        refine O.zR y fun K u=>?_
        refine wC rfl fun K w=>?_;simp [q];apply w
        apply wN;apply u
        refine O.zR y fun K u=>?_
        iterate 2 (refine wC rfl fun K w=>?_;simp [q];apply w)
        obtain ⟨g7,d1,h⟩:=bS h
        refine wL [(.bor,.tmp 61),(.take,.tmp 62)] rfl rfl ent14 (mU _ _ d1) fun K w=>?_;simp [q];apply w
        refine wC rfl fun K w=>?_;simp [q];apply w
        apply wN;apply u
        refine O.seq ?_
        refine O.zR y fun K u=>?_
        iterate 2 (refine wC rfl fun K w=>?_;simp [q];apply w)
        apply wN;apply u
        rcases aA h with ⟨d2,h⟩ | ⟨d3,h⟩
        ·refine O.cT' (by simp) d2 ?_
         refine O.zR y fun K u=>?_
         refine wC rfl fun K w=>?_;simp [q];apply w
         apply wN;apply u
         cases h
         refine O.ret ?_
         simp [aC,iB,aMg]
        ·refine O.cF' (by simp) d3 ?_
         refine O.skip ?_
         refine O.seq ?_
         refine O.zR y fun K u=>?_
         iterate 3 (refine wC rfl fun K w=>?_;simp [q];apply w)
         apply wN;apply u
         rcases aA h with ⟨d4,h⟩ | ⟨d5,h⟩
         ·refine O.cT' (by simp) d4 ?_
          refine O.zR y fun K u=>?_
          refine wC rfl fun K w=>?_;simp [q];apply w
          apply wN;apply u
          cases h
          refine O.ret ?_
          simp [aC,iB,aMg]
         ·refine O.cF' (by simp) d5 ?_
          refine O.skip ?_
          refine O.zR y fun K u=>?_
          refine wC rfl fun K w=>?_;simp [q];apply w
          apply wN;apply u
          cases h
          refine O.ret ?_
          simp [aC,iB,aMg]
end Go.Proofs.T
namespace Go.OM
theorem w64 {n:Int} (h1 : -9223372036854775808 ≤ n) (h2:n ≤ 9223372036854775807):IntKind.wrap .i64 n=n:=wrap64 h1 h2
theorem gD {k n:Nat} (hk:k < n) (hn:n ≤ maxLen):IntKind.wrap .i64 ((k:Int) + 1)=((k + 1:Nat):Int):=by
 have hn':n ≤ 9223372036854775807:=hn
 rw [w64 (by omega) (by omega)];omega
@[simp] theorem aE2 {α:Type} (l:List α) (k:Nat):aJ l (k:Int)=l[k]?:=by simp [aJ]
theorem aD {α:Type} {l:List α} {k:Nat} (hk:k < l.length):aJ l (k:Int)=some l[k]:=by simp [hk]
theorem aLp {α:Type} (l:List α):aJ l 0=l[0]?:=by simp [aJ]
theorem pI (x y : ByteArray) : sEq x y = decide (x = y) := by
  unfold sEq
  have hxy : x.toList = y.toList ↔ x = y := by
    constructor
    · intro h
      have hx : ∀ z : ByteArray, z.toList = z.data.toList := by
        intro z
        have loop : ∀ (n i : Nat) (r : List UInt8), z.size - i = n → ByteArray.toList.loop z i r = r.reverse ++ z.data.toList.drop i := by
          intro n
          induction n with
          | zero =>
            intro i r hn
            unfold ByteArray.toList.loop
            rw [if_neg (by omega), List.drop_eq_nil_of_le (by have : z.data.toList.length = z.size := Array.length_toList
                                                              omega)]
            simp
          | succ n ih =>
            intro i r hn
            unfold ByteArray.toList.loop
            rw [if_pos (by omega), ih (i + 1) _ (by omega)]
            have hlt : i < z.data.toList.length := by have : z.data.toList.length = z.size := Array.length_toList
                                                      omega
            rw [List.drop_eq_getElem_cons hlt]
            have hz : i < z.size := by omega
            simp [ByteArray.get!, Array.getElem!_eq_getD, Array.getD, hz]
        unfold ByteArray.toList
        rw [loop _ 0 [] rfl]; simp
      rw [hx, hx] at h
      cases x; cases y
      simp only [ByteArray.mk.injEq]
      exact Array.toList_inj.1 h
    · intro h; rw [h]
  by_cases h : x = y
  · simp [h]
  · have : ¬ (x.toList = y.toList) := fun e => h (hxy.1 e)
    simp [h, this]
theorem aB {k n:Nat} (h:k < n):decide ((k:Int) < (n:Int))=true:=by simpa using h
theorem aGi {α:Type} (ok:α→Prop) (a:List α) (f:Int × Int→Option ((Int × Int) ⊕ (Int ⊕ Int))) (B:Int)
  (hf:∀ (m:Int) (k:Nat) (h0:0 ≤ m) (h1:m ≤ B) (hk:k < a.length),∃ r,r ≤ m∧(0 ≤ r→ok a[k])∧f (m,k)=some (if r < 0 then .inr (.inr (-1)) else .inl (r,((k + 1:Nat):Int))))
  (he:∀ m,f (m,a.length)=some (.inr (.inl m))) (n:Int) (h0:0 ≤ n) (h1:n ≤ B) :
  ∃ j,aG f (n,0)=some j∧(j = .inr (-1) ∨ ∃ m,j = .inl m∧0 ≤ m∧m ≤ n∧∀ x ∈ a,ok x):=by
 refine cL (f:=f) (fun s:Int × Int=>∃ k:Nat,s.2=k∧k ≤ a.length∧0 ≤ s.1∧s.1 ≤ n∧∀ (j:Nat) (h:j < a.length),j < k→ok a[j]) (fun s=>a.length - s.2.toNat) _ ?_ (n,0) ⟨0,rfl,by omega,h0,by simp,fun j _ h=>by omega⟩
 rintro ⟨m,i⟩ ⟨k,hi,hk,h2,h3,h4⟩
 simp only at hi h2 h3
 subst hi
 by_cases hlt:k < a.length
 ·obtain ⟨r,r1,r2,r3⟩:=hf m k h2 (by omega) hlt
  rw [r3]
  by_cases hr:r < 0
  ·right
   rw [if_pos hr]
   exact ⟨_,rfl,.inl rfl⟩
  ·left
   rw [if_neg hr]
   refine ⟨_,rfl,⟨k + 1,rfl,by omega,by simp only;omega,by simp only;omega,fun j h hj=>?_⟩,?_⟩
   ·by_cases e:j=k
    ·subst e;exact r2 (by omega)
    ·exact h4 j h (by omega)
   ·simp only [Int.toNat_natCast];omega
 ·right
  have hke:k=a.length:=by omega
  subst hke
  rw [he]
  refine ⟨_,rfl,.inr ⟨m,rfl,h2,h3,fun x hx=>?_⟩⟩
  obtain ⟨j,hj,rfl⟩:=List.mem_iff_getElem.1 hx
  exact h4 j hj hj
theorem aCu {α:Type} (a:List α) (z:α) (f:List α × Int→Option ((List α × Int) ⊕ List α))
  (hf:∀ (out:List α) (k:Nat) (hk:k < a.length),out.length=a.length→f (out,k)=some (.inl (out.set k a[k],((k + 1:Nat):Int))))
  (he:∀ out,f (out,a.length)=some (.inr out)):aG f (List.replicate a.length z,0)=some a:=by
 obtain ⟨r,h1,h2⟩:=cL (fun s:List α × Int=>∃ k:Nat,s.2=k∧k ≤ a.length∧s.1.length=a.length∧∀ j,j < k→s.1[j]? = a[j]?) (fun s=>a.length - s.2.toNat) (fun r=>r=a) (f:=f) (by
  rintro ⟨out,i⟩ ⟨k,hi,hk,h2,h3⟩
  simp only at hi h2 h3
  subst hi
  by_cases hlt:k < a.length
  ·left
   rw [hf out k hlt h2]
   refine ⟨_,rfl,⟨k + 1,rfl,by omega,by simpa using h2,fun j hj=>?_⟩,by simp only [Int.toNat_natCast];omega⟩
   simp only [List.getElem?_set]
   by_cases e:k=j
   ·subst e;simp [h2,hlt]
   ·rw [if_neg e];exact h3 j (by omega)
  ·right
   have hke:k=a.length:=by omega
   subst hke
   rw [he]
   refine ⟨_,rfl,?_⟩
   apply List.ext_getElem?
   intro j
   by_cases hj:j < a.length
   ·exact h3 j hj
   ·rw [List.getElem?_eq_none (by omega),List.getElem?_eq_none (by omega)]) (List.replicate a.length z,0) ⟨0,rfl,by omega,by simp,fun j h=>by omega⟩
 rw [h1,h2]
theorem aE9 {α:Type} (a b:List α) (p:α→α→Bool) (hp:∀ x ∈ a,∀ y,y ∈ b→(p x y=true ↔ x=y)) (hlen:a.length=b.length) (f:Int→Option (Int ⊕ (Unit ⊕ Bool)))
  (hf:∀ (k:Nat) (hk:k < a.length) (hk2:k < b.length),f k=some (if p a[k] b[k]=true then .inl ((k + 1:Nat):Int) else .inr (.inr false)))
  (he:f a.length=some (.inr (.inl ()))):(a=b→aG f 0=some (.inl ()))∧(a ≠ b→aG f 0=some (.inr false)):=by
 obtain ⟨r,h1,h2⟩:=cL (fun i:Int=>∃ k:Nat,i=k∧k ≤ a.length∧∀ j,j < k→a[j]? = b[j]?) (fun i=>a.length - i.toNat) (fun r=>(r = .inl ()∧a=b) ∨ (r = .inr false∧a ≠ b)) (f:=f) (by
  rintro i ⟨k,rfl,hk,h3⟩
  by_cases hlt:k < a.length
  ·have hlt2:k < b.length:=by omega
   rw [hf k hlt hlt2]
   by_cases hpk:p a[k] b[k]=true
   ·left
    rw [if_pos hpk]
    refine ⟨_,rfl,⟨k + 1,rfl,by omega,fun j hj=>?_⟩,by simp only [Int.toNat_natCast];omega⟩
    by_cases e:j=k
    ·subst e
     rw [List.getElem?_eq_getElem hlt,List.getElem?_eq_getElem hlt2,(hp _ (List.getElem_mem hlt) _ (List.getElem_mem hlt2)).1 hpk]
    ·exact h3 j (by omega)
   ·right
    rw [if_neg hpk]
    refine ⟨_,rfl,.inr ⟨rfl,fun e=>hpk ?_⟩⟩
    subst e
    exact (hp _ (List.getElem_mem hlt) _ (List.getElem_mem hlt)).2 rfl
  ·right
   have hke:k=a.length:=by omega
   subst hke
   rw [he]
   refine ⟨_,rfl,.inl ⟨rfl,?_⟩⟩
   apply List.ext_getElem?
   intro j
   by_cases hj:j < a.length
   ·exact h3 j hj
   ·rw [List.getElem?_eq_none (by omega),List.getElem?_eq_none (by omega)]) 0 ⟨0,rfl,by omega,fun j h=>by omega⟩
 rcases h2 with ⟨e,hab⟩ | ⟨e,hab⟩
 ·exact ⟨fun _=>by rw [h1,e],fun h=>absurd hab h⟩
 ·exact ⟨fun h=>absurd h hab,fun _=>by rw [h1,e]⟩
theorem sX {α:Type} (b:Int) (n:Nat) (z:α) (h1:b * n ≤ 140737488355328) (h2:(n:Int) ≤ 140737488355328):mkI b (n:Int) z=some (List.replicate n z):=by
 unfold mkI
 rw [if_pos ⟨by omega,h1,h2⟩]
 simp
theorem bD {α β:Type} (x:α) (f:α→β):hO x f=f x:=rfl
end Go.OM
namespace Go.OM
theorem iH {α ρ:Type} {f:α→Option (α ⊕ ρ)} {a:α} {r:ρ} (h:f a=some (.inr r)):aG f a=some r:=by rw [aDe,h];rfl
theorem oO {α ρ:Type} {f:α→Option (α ⊕ ρ)} {a b:α} (h:f a=some (.inl b)):aG f a=aG f b:=by rw [aDe,h];rfl
theorem vP {α ρ:Type} (l:List α) (q:α→Option ρ) (f:Int→Option (Int ⊕ (Unit ⊕ ρ)))
  (hf:∀ (k:Nat) (h:k < l.length),f k=some (match q l[k] with | none=>.inl ((k + 1:Nat):Int) | some r=>.inr (.inr r)))
  (he:f l.length=some (.inr (.inl ()))):aG f 0=some (match l.findSome? q with | some r=>.inr r | none=>.inl ()):=by
 have key:∀ (n k:Nat),n=l.length - k→k ≤ l.length→aG f k=some (match (l.drop k).findSome? q with | some r=>.inr r | none=>.inl ()):=by
  intro n
  induction n with
  | zero =>
   intro k hn hk
   have:k=l.length:=by omega
   subst this
   rw [iH he,List.drop_length];rfl
  | succ n ih =>
   intro k hn hk
   have hlt:k < l.length:=by omega
   rw [List.drop_eq_getElem_cons hlt,List.findSome?_cons]
   cases hq:q l[k] with
   | none =>
    have h1:=hf k hlt
    rw [hq] at h1
    rw [oO h1]
    exact ih (k + 1) (by omega) (by omega)
   | some r =>
    have h1:=hf k hlt
    rw [hq] at h1
    rw [iH h1]
 have:=key l.length 0 (by omega) (by omega)
 simpa using this
theorem aNs {α:Type} (l:List α) (p:α→Bool) (b:Bool):l.findSome? (fun x=>if p x=true then none else some b)=if l.all p=true then none else some b:=by
 induction l with
 | nil=>rfl
 | cons x l ih =>
  rw [List.findSome?_cons,List.all_cons]
  cases hp:p x<;>simp [ih]
theorem aNr {α:Type} (l:List α) (p:α→Bool) (b:Bool):l.findSome? (fun x=>if p x=true then some b else none)=if l.any p=true then some b else none:=by
 induction l with
 | nil=>rfl
 | cons x l ih =>
  rw [List.findSome?_cons,List.any_cons]
  cases hp:p x<;>simp [ih]
theorem qS {α:Type} (l:List α) (p:α→Bool) (f:Int→Option (Int ⊕ (Unit ⊕ Bool)))
  (hf:∀ (k:Nat) (h:k < l.length),f k=some (if p l[k]=true then .inl ((k + 1:Nat):Int) else .inr (.inr false)))
  (he:f l.length=some (.inr (.inl ()))):aG f 0=some (if l.all p=true then .inl () else .inr false):=by
 rw [vP l (fun x=>if p x=true then none else some false) f (fun k h=>by rw [hf k h];cases p l[k]<;>rfl) he,aNs]
 cases l.all p<;>rfl
theorem tZ {α:Type} (l:List α) (p:α→Bool) (f:Int→Option (Int ⊕ (Unit ⊕ Bool)))
  (hf:∀ (k:Nat) (h:k < l.length),f k=some (if p l[k]=true then .inr (.inr true) else .inl ((k + 1:Nat):Int)))
  (he:f l.length=some (.inr (.inl ()))):aG f 0=some (if l.any p=true then .inr true else .inl ()):=by
 rw [vP l (fun x=>if p x=true then some true else none) f (fun k h=>by rw [hf k h];cases p l[k]<;>rfl) he,aNr]
 cases l.any p<;>rfl
def aBw {α σ ρ:Type} (g:σ→α→σ ⊕ ρ) (fin:σ→ρ):List α→σ→ρ
 | [],s=>fin s
 | x :: l,s=>match g s x with
  | .inl s'=>aBw g fin l s'
  | .inr r=>r
theorem aU {α σ τ ρ:Type} (l:List α) (mk:σ→Nat→τ) (I:Nat→σ→Prop) (g:σ→α→σ ⊕ ρ) (fin:σ→ρ) (f:τ→Option (τ ⊕ ρ))
  (hf:∀ (s:σ) (k:Nat) (h:k < l.length),I k s→(∃ s',g s l[k] = .inl s'∧f (mk s k)=some (.inl (mk s' (k + 1)))∧I (k + 1) s') ∨ ∃ r,g s l[k] = .inr r∧f (mk s k)=some (.inr r))
  (he:∀ s,I l.length s→f (mk s l.length)=some (.inr (fin s))) (s:σ) (h0:I 0 s):aG f (mk s 0)=some (aBw g fin l s):=by
 have key:∀ (n k:Nat) (s:σ),n=l.length - k→k ≤ l.length→I k s→aG f (mk s k)=some (aBw g fin (l.drop k) s):=by
  intro n
  induction n with
  | zero =>
   intro k s hn hk hI
   have:k=l.length:=by omega
   subst this
   rw [iH (he s hI),List.drop_length];rfl
  | succ n ih =>
   intro k s hn hk hI
   have hlt:k < l.length:=by omega
   rw [List.drop_eq_getElem_cons hlt]
   rcases hf s k hlt hI with ⟨s',h1,h2,h3⟩ | ⟨r,h1,h2⟩
   ·rw [oO h2,ih (k + 1) s' (by omega) (by omega) h3]
    simp only [aBw,h1]
   ·rw [iH h2]
    simp only [aBw,h1]
 have:=key l.length 0 s (by omega) (by omega) h0
 simpa using this
theorem tY {α:Type} (ok:α→Prop) (M:α→Int→Int→Prop) (W:Nat) (B:Int) (f:List α × Int × Int→Option ((List α × Int × Int) ⊕ (List α × Int)))
  (hf:∀ (out:List α) (k:Int) (i:Nat) (hi:i < out.length),out.length ≤ 1048576→0 ≤ k→k + W ≤ B→ok out[i]→∃ k' x',k ≤ k'∧k' ≤ k + W∧M x' k k'∧f (out,k,i)=some (.inl (out.set i x',k',((i + 1:Nat):Int))))
  (he:∀ out k,f (out,k,(out.length:Int))=some (.inr (out,k)))
  (a:List α) (ha:a.length ≤ 1048576) (hok:∀ x ∈ a,ok x) (k:Int) (h0:0 ≤ k) (h1:k + W * 1048576 ≤ B) :
  ∃ k' a',aG f (a,k,0)=some (a',k')∧k ≤ k'∧k' ≤ k + W * 1048576∧a'.length=a.length∧∃ ks:Nat→Int,ks 0=k∧ks a.length=k'∧∀ (j:Nat) (hj:j < a'.length),M a'[j] (ks j) (ks (j + 1))∧0 ≤ ks j∧ks j ≤ ks (j + 1)∧ks j ≤ B:=by
 have hWm:∀ j:Nat,j ≤ a.length→(W:Int) * j ≤ W * 1048576:=fun j hj=>Int.mul_le_mul_of_nonneg_left (by omega) (by omega)
 have hWs:∀ j:Nat,j < a.length→(W:Int) * j + W ≤ W * 1048576:=fun j hj=>by
  have:(W:Int) * j + W=W * ((j + 1:Nat):Int):=by rw [Int.natCast_succ,Int.mul_add,Int.mul_one]
  rw [this]
  exact Int.mul_le_mul_of_nonneg_left (by omega) (by omega)
 obtain ⟨r,g1,g2⟩:=cL (f:=f) (fun s:List α × Int × Int=>∃ j:Nat,s.2.2=j∧j ≤ a.length∧s.1.length=a.length∧(∀ l,j ≤ l→s.1[l]? = a[l]?)∧k ≤ s.2.1∧s.2.1 ≤ k + W * j∧∃ ks:Nat→Int,ks 0=k∧ks j=s.2.1∧∀ (l:Nat),l < j→∃ x,s.1[l]? = some x∧M x (ks l) (ks (l + 1))∧0 ≤ ks l∧ks l ≤ ks (l + 1)∧ks l ≤ B) (fun s=>a.length - s.2.2.toNat)
  (fun r=>k ≤ r.2∧r.2 ≤ k + W * 1048576∧r.1.length=a.length∧∃ ks:Nat→Int,ks 0=k∧ks a.length=r.2∧∀ (j:Nat) (hj:j < r.1.length),M r.1[j] (ks j) (ks (j + 1))∧0 ≤ ks j∧ks j ≤ ks (j + 1)∧ks j ≤ B) (by
  rintro ⟨out,m,i⟩ ⟨j,hi,hj,hl,hsame,hm1,hm2,ks,e0,e1,e2⟩
  simp only at hi hl hsame hm1 hm2 e1 e2
  subst hi
  have hWj:=hWm j hj
  by_cases hlt:j < a.length
  ·left
   have hlt2:j < out.length:=by omega
   have hWsj:=hWs j hlt
   have hoj:out[j]=a[j]:=by
    have:=hsame j (Nat.le_refl _)
    rw [List.getElem?_eq_getElem hlt2,List.getElem?_eq_getElem hlt] at this
    exact Option.some.inj this
   obtain ⟨k',x',q1,q2,q3,q4⟩:=hf out m j hlt2 (by omega) (by omega) (by omega) (hoj ▸ hok _ (List.getElem_mem hlt))
   refine ⟨(out.set j x',k',((j + 1:Nat):Int)),q4,⟨j + 1,rfl,by omega,by simpa using hl,fun l hl'=>?_,by simp only;omega,?_,fun l=>if l ≤ j then ks l else k',by simp [e0],by simp only [show ¬ (j + 1 ≤ j) by omega,if_false],fun l hl'=>?_⟩,by simp only [Int.toNat_natCast];omega⟩
   ·simp only
    rw [List.getElem?_set_ne (by omega)]
    exact hsame l (by omega)
   ·simp only
    have:(W:Int) * ((j + 1:Nat):Int)=W * j + W:=by rw [Int.natCast_succ,Int.mul_add,Int.mul_one]
    omega
   ·by_cases hlj:l=j
    ·subst hlj
     refine ⟨x',by simp [hlt2],?_⟩
     simp only [Nat.le_refl,if_true,show ¬ (l + 1 ≤ l) by omega,if_false,e1]
     exact ⟨q3,by omega,q1,by omega⟩
    ·obtain ⟨x,p1,p2⟩:=e2 l (by omega)
     refine ⟨x,by rw [List.getElem?_set_ne (by omega)];exact p1,?_⟩
     simp only [show l ≤ j by omega,show l + 1 ≤ j by omega,if_true]
     exact p2
  ·right
   have hja:j=a.length:=by omega
   subst hja
   refine ⟨(out,m),by rw [← hl];exact he out m,hm1,by simp only;omega,hl,ks,e0,e1,fun j hj=>?_⟩
   obtain ⟨x,p1,p2⟩:=e2 j (by simp only at hj;omega)
   simp only at hj
   rw [List.getElem?_eq_getElem hj] at p1
   injection p1 with p1
   subst p1
   exact p2) (a,k,0) ⟨0,rfl,by omega,rfl,fun _ _=>rfl,by simp,by simp,fun _=>k,rfl,rfl,fun l h=>by omega⟩
 obtain ⟨a',k'⟩:=r
 exact ⟨k',a',g1,g2⟩
theorem uO {α:Type} (a:List α) (M:α→Int→Int→Prop) (B:Int) (ks:Nat→Int) (g:Int × Int→Option ((Int × Int) ⊕ (Int ⊕ Int)))
  (hk:∀ (j:Nat) (hj:j < a.length),M a[j] (ks j) (ks (j + 1))∧0 ≤ ks j∧ks j ≤ ks (j + 1)∧ks j ≤ B)
  (hg:∀ (j:Nat) (hj:j < a.length) (k k':Int),M a[j] k k'→0 ≤ k→k ≤ k'→k ≤ B→g (k,j)=some (.inl (k',((j + 1:Nat):Int))))
  (he:∀ k,g (k,(a.length:Int))=some (.inr (.inl k))):aG g (ks 0,0)=some (.inl (ks a.length)):=by
 have key:∀ (n k:Nat),n=a.length - k→k ≤ a.length→aG g (ks k,(k:Int))=some (.inl (ks a.length)):=by
  intro n
  induction n with
  | zero =>
   intro k hn hk'
   have:k=a.length:=by omega
   subst this
   exact iH (he _)
  | succ n ih =>
   intro k hn hk'
   have hlt:k < a.length:=by omega
   obtain ⟨q1,q2,q3,q4⟩:=hk k hlt
   rw [oO (hg k hlt _ _ q1 q2 q3 q4)]
   exact ih (k + 1) (by omega) (by omega)
 exact key a.length 0 (by omega) (by omega)
theorem yD {α:Type} {l:List α} {k:Nat} {x:α} (hk:k < l.length):aJ (l.set k x) (k:Int)=some x:=by simp [hk]
theorem aHv {x y:ByteArray} (h:x.size + y.size ≤ 9223372036854775807):aEd x y=some (x ++ y):=by unfold aEd;rw [if_pos h]
theorem aEb (l:List Int):(hJ l).size=l.length:=by simp [hJ,ByteArray.size]
theorem aKi (f:Int × ByteArray→Option ((Int × ByteArray) ⊕ ByteArray))
  (hf:∀ (k:Int) (o:ByteArray),0 < k→∃ x:Int,f (k,o)=(aEd (hJ [x]) o).bind fun t=>some (.inl (IntKind.wrap .i64 (Int.tdiv k 10),t)))
  (he:∀ (k:Int) (o:ByteArray),k ≤ 0→f (k,o)=some (.inr o)) (k:Int) (h0:0 ≤ k) (h1:k ≤ 9223372036854775807) :
  ∃ z,aG f (k,⟨#[]⟩)=some z∧z.size ≤ 64:=by
 obtain ⟨r,g1,g2⟩:=cL (f:=f) (fun s:Int × ByteArray=>0 ≤ s.1∧∃ d:Nat,d ≤ 64∧s.1 < 2 ^ d∧s.2.size + d ≤ 64) (fun s=>s.1.toNat) (fun z=>z.size ≤ 64) (by
  rintro ⟨k,o⟩ ⟨g0,d,gd,g1,g2⟩
  simp only at g0 g1 g2
  by_cases hk:0 < k
  ·left
   obtain ⟨x,hx⟩:=hf k o hk
   have hd:d ≠ 0:=by rintro rfl;simp at g1;omega
   have hs:(hJ [x]).size=1:=by rw [aEb];rfl
   have hdiv:Int.tdiv k 10=k / 10:=Int.tdiv_eq_ediv_of_nonneg g0
   have hkb:k ≤ 9223372036854775807 ∨ 9223372036854775807 < k:=by omega
   have hw:IntKind.wrap .i64 (Int.tdiv k 10)=k / 10:=by
    rw [hdiv]
    have h64:(2:Int) ^ d ≤ 2 ^ 64:=by
     have:=Nat.pow_le_pow_right (show 0 < 2 by omega) gd
     exact_mod_cast this
    exact w64 (by omega) (by simp at h64;omega)
   refine ⟨(k / 10,hJ [x] ++ o),?_,⟨by simp only;omega,d - 1,by omega,?_,?_⟩,by simp only;omega⟩
   ·rw [hx,aHv (by omega),Option.bind_some,hw]
   ·simp only
    have e:(2:Int) ^ d=2 ^ (d - 1) * 2:=by rw [← Int.pow_succ];congr 1;omega
    omega
   ·simp only [ByteArray.size_append,hs];omega
  ·right
   exact ⟨o,he k o (by omega),by omega⟩) (k,⟨#[]⟩) ⟨h0,64,Nat.le_refl _,by simp;omega,by show 0 + 64 ≤ 64;omega⟩
 exact ⟨r,g1,g2⟩
end Go.OM
set_option maxHeartbeats 1000000
namespace Go.OM
def GNode.le (n:Nat) (a:GNode):Prop:=(a.Name.size ≤ n)∧(a.Kids.length ≤ n)
theorem GNode.ext' (a b:GNode):a=b ↔ a.Kind=b.Kind∧a.Num=b.Num∧a.Name=b.Name∧a.Kids=b.Kids:=by cases a;cases b;simp
def GParam.le (n:Nat) (a:GParam):Prop:=(a.Name.size ≤ n)
theorem GParam.ext' (a b:GParam):a=b ↔ a.Name=b.Name∧a.Typ=b.Typ:=by cases a;cases b;simp
def GFn.le (n:Nat) (a:GFn):Prop:=(a.Name.size ≤ n)∧(a.Params.length ≤ n∧∀ x ∈ a.Params,GParam.le n x)
theorem GFn.ext' (a b:GFn):a=b ↔ a.Name=b.Name∧a.Params=b.Params∧a.Res=b.Res∧a.Body=b.Body∧a.Ret=b.Ret:=by cases a;cases b;simp
def GProgram.le (n:Nat) (a:GProgram):Prop:=(a.Nodes.length ≤ n∧∀ x ∈ a.Nodes,GNode.le n x)∧(a.Fns.length ≤ n∧∀ x ∈ a.Fns,GFn.le n x)
theorem GProgram.ext' (a b:GProgram):a=b ↔ a.Nodes=b.Nodes∧a.Fns=b.Fns:=by cases a;cases b;simp
def GVar.le (n:Nat) (a:GVar):Prop:=(a.Name.size ≤ n)
theorem GVar.ext' (a b:GVar):a=b ↔ a.Name=b.Name∧a.Typ=b.Typ∧a.Node=b.Node:=by cases a;cases b;simp
def Gl07Seen.le (n:Nat) (a:Gl07Seen):Prop:=(GProgram.le n a.p)∧(a.there.length ≤ n∧∀ x ∈ a.there,x.size ≤ n)
theorem Gl07Seen.ext' (a b:Gl07Seen):a=b ↔ a.p=b.p∧a.fn=b.fn∧a.there=b.there∧a.bad=b.bad:=by cases a;cases b;simp
theorem aDj (a:List Int) (hw:a.length ≤ maxLen) (n:Int) (h0:0 ≤ n) (h1:n ≤ 1048576):∃ r,mQ a n=some r∧r ≤ n∧(0 ≤ r→a.length ≤ 1048576):=by
 have hw':a.length ≤ 9223372036854775807:=hw
 unfold mQ
 rw [w64 (by omega) (by omega)]
 split
 ·exact ⟨_,rfl,by omega,fun h=>by omega⟩
 ·rename_i h;simp only [decide_eq_true_eq] at h;exact ⟨_,rfl,by omega,fun h=>by omega⟩
theorem aDg (a:List Int) (h:a.length ≤ 1048576):mO a=some a:=by
 have hl:a.length ≤ 1048576:=h
 unfold mO
 rw [sX _ _ _ (by omega) (by omega)]
 simp only [Option.bind_some]
 rw [aCu a _ (fU a) (fun out k hk ho=>?_) (fun out=>by simp [fU])]
 ·rfl
 ·simp only [fU,aB hk,if_true,aD hk,Option.bind_some,aD (show k < out.length by omega),bD,Int.toNat_natCast,gD hk (show a.length ≤ maxLen by show _ ≤ 9223372036854775807;omega)]
theorem aDm (a b:List Int) (ha:a.length ≤ 1048576) (hb:b.length ≤ 1048576):mW a b=some (decide (a=b)):=by
 have hl:a.length ≤ 1048576:=ha
 unfold mW
 by_cases hlen:a.length=b.length
 ·have hlen':((a.length:Int) != (b.length:Int))=false:=by simp [hlen]
  simp only [hlen',Bool.false_eq_true,if_false]
  have key:=aE9 a b (fun x y=>!(x != y)) (fun x _ y _=>by simp) hlen (fV a b) (fun k hk hk2=>?_) (by simp [fV])
  ·by_cases e:a=b
   ·rw [key.1 e];simp [e]
   ·rw [key.2 e];simp [e]
  simp only [fV,aB hk,if_true,aD hk,aD hk2,Option.bind_some,gD hk (show a.length ≤ maxLen by show _ ≤ 9223372036854775807;omega)]
  try (by_cases e:a[k]=b[k]<;>simp [e])
 ·have hlen':((a.length:Int) != (b.length:Int))=true:=by simp;omega
  have hne:a ≠ b:=fun e=>hlen (by rw [e])
  simp [hlen',hne]
theorem aDi (a:GNode) (hw:GNode.le maxLen a) (n:Int) (h0:0 ≤ n) (h1:n ≤ 1048576):∃ r,mP a n=some r∧r ≤ n∧(0 ≤ r→GNode.le 1048576 a):=by
 obtain ⟨hw0,hw1⟩:=hw
 unfold mP
 have hs0:a.Name.size ≤ 9223372036854775807:=hw0
 simp only [w64 (n:=n - (a.Name.size:Int)) (by omega) (by omega)]
 by_cases hn0:(n - (a.Name.size:Int)) < 0
 ·simp only [hn0,decide_true,if_true];exact ⟨_,rfl,by omega,fun h=>by omega⟩
 simp only [hn0,decide_false,Bool.false_eq_true,if_false]
 obtain ⟨r1,q1a,q1b,q1c⟩:=aDj a.Kids hw1 (n - (a.Name.size:Int)) (by omega) (by omega)
 simp only [q1a,Option.bind_some]
 by_cases hn1:r1 < 0
 ·simp only [hn1,decide_true,if_true];exact ⟨_,rfl,by omega,fun h=>by omega⟩
 simp only [hn1,decide_false,Bool.false_eq_true,if_false]
 exact ⟨_,rfl,by omega,fun _=>⟨by omega,q1c (by omega)⟩⟩
theorem aDf (a:GNode) (h:GNode.le 1048576 a):mN a=some a:=by
 obtain ⟨h0,h1⟩:=h
 unfold mN
 simp only [aDg a.Kids h1,Option.bind_some]
theorem aDl (a b:GNode) (ha:GNode.le 1048576 a) (hb:GNode.le 1048576 b):mV a b=some (decide (a=b)):=by
 obtain ⟨ha0,ha1⟩:=ha
 obtain ⟨hb0,hb1⟩:=hb
 unfold mV
 try simp only [pI,Option.bind_some,aDm a.Kids b.Kids ha1 hb1]
 rw [show decide (a=b)=decide (a.Kind=b.Kind∧a.Num=b.Num∧a.Name=b.Name∧a.Kids=b.Kids) from by simp only [GNode.ext' a b]]
 by_cases e0:a.Kind=b.Kind<;>by_cases e1:a.Num=b.Num<;>by_cases e2:a.Name=b.Name<;>by_cases e3:a.Kids=b.Kids<;>simp [e0,e1,e2,e3]
theorem aBe (a:List GNode) (hw:a.length ≤ maxLen∧∀ x ∈ a,GNode.le maxLen x) (n:Int) (h0:0 ≤ n) (h1:n ≤ 1048576):∃ r,lF a n=some r∧r ≤ n∧(0 ≤ r→a.length ≤ 1048576∧∀ x ∈ a,GNode.le 1048576 x):=by
 have hw':a.length ≤ 9223372036854775807:=hw.1
 unfold lF
 rw [w64 (by omega) (by omega)]
 split
 ·exact ⟨_,rfl,by omega,fun h=>by omega⟩
 ·rename_i h
  simp only [decide_eq_true_eq] at h
  have hf:∀ (m:Int) (k:Nat) (g0:0 ≤ m) (g1:m ≤ 1048576) (hk:k < a.length),∃ r,r ≤ m∧(0 ≤ r→(fun x:GNode=>GNode.le 1048576 x) a[k])∧dO a (m,k)=some (if r < 0 then .inr (.inr (-1)) else .inl (r,((k + 1:Nat):Int))):=by
   intro m k g0 g1 hk
   obtain ⟨r,r1,r2,r3⟩:=aDi a[k] (hw.2 _ (List.getElem_mem hk)) m g0 g1
   refine ⟨r,r2,r3,?_⟩
   simp only [dO,aB hk,if_true,aD hk,Option.bind_some,r1,gD hk hw.1]
   by_cases hr:r < 0<;>simp [hr]
  obtain ⟨j,hj,hj2⟩:=aGi _ a (dO a) 1048576 hf (fun m=>by simp [dO]) (n - a.length) (by omega) (by omega)
  rcases hj2 with rfl | ⟨m,rfl,q1,q2,q3⟩
  ·exact ⟨-1,by rw [hj];rfl,by omega,fun h=>by omega⟩
  ·exact ⟨m,by rw [hj];rfl,by omega,fun _=>⟨by omega,q3⟩⟩
theorem aBa (a:List GNode) (h:a.length ≤ 1048576∧∀ x ∈ a,GNode.le 1048576 x):lD a=some a:=by
 have hl:a.length ≤ 1048576:=h.1
 unfold lD
 rw [sX _ _ _ (by omega) (by omega)]
 simp only [Option.bind_some]
 rw [aCu a _ (eY a) (fun out k hk ho=>?_) (fun out=>by simp [eY])]
 ·rfl
 ·simp only [eY,aB hk,if_true,aD hk,Option.bind_some,aDf a[k] (h.2 _ (List.getElem_mem hk)),aD (show k < out.length by omega),bD,Int.toNat_natCast,gD hk (show a.length ≤ maxLen by show _ ≤ 9223372036854775807;omega)]
theorem aBj (a b:List GNode) (ha:a.length ≤ 1048576∧∀ x ∈ a,GNode.le 1048576 x) (hb:b.length ≤ 1048576∧∀ x ∈ b,GNode.le 1048576 x):lJ a b=some (decide (a=b)):=by
 have hl:a.length ≤ 1048576:=ha.1
 unfold lJ
 by_cases hlen:a.length=b.length
 ·have hlen':((a.length:Int) != (b.length:Int))=false:=by simp [hlen]
  simp only [hlen',Bool.false_eq_true,if_false]
  have key:=aE9 a b (fun x y=>decide (x=y)) (fun x _ y _=>by simp) hlen (eZ a b) (fun k hk hk2=>?_) (by simp [eZ])
  ·by_cases e:a=b
   ·rw [key.1 e];simp [e]
   ·rw [key.2 e];simp [e]
  simp only [eZ,aB hk,if_true,aD hk,aD hk2,Option.bind_some,aDl a[k] b[k] (ha.2 _ (List.getElem_mem hk)) (hb.2 _ (List.getElem_mem hk2)),gD hk (show a.length ≤ maxLen by show _ ≤ 9223372036854775807;omega)]
  try (by_cases e:a[k]=b[k]<;>simp [e])
 ·have hlen':((a.length:Int) != (b.length:Int))=true:=by simp;omega
  have hne:a ≠ b:=fun e=>hlen (by rw [e])
  simp [hlen',hne]
theorem aBc (a:GParam) (hw:GParam.le maxLen a) (n:Int) (h0:0 ≤ n) (h1:n ≤ 1048576):∃ r,lE a n=some r∧r ≤ n∧(0 ≤ r→GParam.le 1048576 a):=by
 have hw0:=hw;unfold GParam.le at hw0
 unfold lE
 have hs0:a.Name.size ≤ 9223372036854775807:=hw0
 simp only [w64 (n:=n - (a.Name.size:Int)) (by omega) (by omega)]
 by_cases hn0:(n - (a.Name.size:Int)) < 0
 ·simp only [hn0,decide_true,if_true];exact ⟨_,rfl,by omega,fun h=>by omega⟩
 simp only [hn0,decide_false,Bool.false_eq_true,if_false]
 exact ⟨_,rfl,by omega,fun _=>(by unfold GParam.le;first | omega | exact trivial)⟩
theorem aB8 (a:GParam) (h:GParam.le 1048576 a):lC a=some a:=by
 have h0:=h;unfold GParam.le at h0
 unfold lC
 rfl
theorem aBh (a b:GParam) (ha:GParam.le 1048576 a) (hb:GParam.le 1048576 b):lI a b=some (decide (a=b)):=by
 have ha0:=ha;have hb0:=hb;unfold GParam.le at ha0 hb0
 unfold lI
 try simp only [pI,Option.bind_some]
 rw [show decide (a=b)=decide (a.Name=b.Name∧a.Typ=b.Typ) from by simp only [GParam.ext' a b]]
 by_cases e0:a.Name=b.Name<;>by_cases e1:a.Typ=b.Typ<;>simp [e0,e1]
theorem zY (a:List GParam) (hw:a.length ≤ maxLen∧∀ x ∈ a,GParam.le maxLen x) (n:Int) (h0:0 ≤ n) (h1:n ≤ 1048576):∃ r,jQ a n=some r∧r ≤ n∧(0 ≤ r→a.length ≤ 1048576∧∀ x ∈ a,GParam.le 1048576 x):=by
 have hw':a.length ≤ 9223372036854775807:=hw.1
 unfold jQ
 rw [w64 (by omega) (by omega)]
 split
 ·exact ⟨_,rfl,by omega,fun h=>by omega⟩
 ·rename_i h
  simp only [decide_eq_true_eq] at h
  have hf:∀ (m:Int) (k:Nat) (g0:0 ≤ m) (g1:m ≤ 1048576) (hk:k < a.length),∃ r,r ≤ m∧(0 ≤ r→(fun x:GParam=>GParam.le 1048576 x) a[k])∧cR a (m,k)=some (if r < 0 then .inr (.inr (-1)) else .inl (r,((k + 1:Nat):Int))):=by
   intro m k g0 g1 hk
   obtain ⟨r,r1,r2,r3⟩:=aBc a[k] (hw.2 _ (List.getElem_mem hk)) m g0 g1
   refine ⟨r,r2,r3,?_⟩
   simp only [cR,aB hk,if_true,aD hk,Option.bind_some,r1,gD hk hw.1]
   by_cases hr:r < 0<;>simp [hr]
  obtain ⟨j,hj,hj2⟩:=aGi _ a (cR a) 1048576 hf (fun m=>by simp [cR]) (n - a.length) (by omega) (by omega)
  rcases hj2 with rfl | ⟨m,rfl,q1,q2,q3⟩
  ·exact ⟨-1,by rw [hj];rfl,by omega,fun h=>by omega⟩
  ·exact ⟨m,by rw [hj];rfl,by omega,fun _=>⟨by omega,q3⟩⟩
theorem zV (a:List GParam) (h:a.length ≤ 1048576∧∀ x ∈ a,GParam.le 1048576 x):jP a=some a:=by
 have hl:a.length ≤ 1048576:=h.1
 unfold jP
 rw [sX _ _ _ (by omega) (by omega)]
 simp only [Option.bind_some]
 rw [aCu a _ (dY a) (fun out k hk ho=>?_) (fun out=>by simp [dY])]
 ·rfl
 ·simp only [dY,aB hk,if_true,aD hk,Option.bind_some,aB8 a[k] (h.2 _ (List.getElem_mem hk)),aD (show k < out.length by omega),bD,Int.toNat_natCast,gD hk (show a.length ≤ maxLen by show _ ≤ 9223372036854775807;omega)]
theorem aA4 (a b:List GParam) (ha:a.length ≤ 1048576∧∀ x ∈ a,GParam.le 1048576 x) (hb:b.length ≤ 1048576∧∀ x ∈ b,GParam.le 1048576 x):jS a b=some (decide (a=b)):=by
 have hl:a.length ≤ 1048576:=ha.1
 unfold jS
 by_cases hlen:a.length=b.length
 ·have hlen':((a.length:Int) != (b.length:Int))=false:=by simp [hlen]
  simp only [hlen',Bool.false_eq_true,if_false]
  have key:=aE9 a b (fun x y=>decide (x=y)) (fun x _ y _=>by simp) hlen (eE a b) (fun k hk hk2=>?_) (by simp [eE])
  ·by_cases e:a=b
   ·rw [key.1 e];simp [e]
   ·rw [key.2 e];simp [e]
  simp only [eE,aB hk,if_true,aD hk,aD hk2,Option.bind_some,aBh a[k] b[k] (ha.2 _ (List.getElem_mem hk)) (hb.2 _ (List.getElem_mem hk2)),gD hk (show a.length ≤ maxLen by show _ ≤ 9223372036854775807;omega)]
  try (by_cases e:a[k]=b[k]<;>simp [e])
 ·have hlen':((a.length:Int) != (b.length:Int))=true:=by simp;omega
  have hne:a ≠ b:=fun e=>hlen (by rw [e])
  simp [hlen',hne]
theorem aGw (a:GFn) (hw:GFn.le maxLen a) (n:Int) (h0:0 ≤ n) (h1:n ≤ 1048576):∃ r,qX a n=some r∧r ≤ n∧(0 ≤ r→GFn.le 1048576 a):=by
 obtain ⟨hw0,hw1⟩:=hw
 unfold qX
 have hs0:a.Name.size ≤ 9223372036854775807:=hw0
 simp only [w64 (n:=n - (a.Name.size:Int)) (by omega) (by omega)]
 by_cases hn0:(n - (a.Name.size:Int)) < 0
 ·simp only [hn0,decide_true,if_true];exact ⟨_,rfl,by omega,fun h=>by omega⟩
 simp only [hn0,decide_false,Bool.false_eq_true,if_false]
 obtain ⟨r1,q1a,q1b,q1c⟩:=zY a.Params hw1 (n - (a.Name.size:Int)) (by omega) (by omega)
 simp only [q1a,Option.bind_some]
 by_cases hn1:r1 < 0
 ·simp only [hn1,decide_true,if_true];exact ⟨_,rfl,by omega,fun h=>by omega⟩
 simp only [hn1,decide_false,Bool.false_eq_true,if_false]
 exact ⟨_,rfl,by omega,fun _=>⟨by omega,q1c (by omega)⟩⟩
theorem aGv (a:GFn) (h:GFn.le 1048576 a):qW a=some a:=by
 obtain ⟨h0,h1⟩:=h
 unfold qW
 simp only [zV a.Params h1,Option.bind_some]
theorem aGx (a b:GFn) (ha:GFn.le 1048576 a) (hb:GFn.le 1048576 b):qY a b=some (decide (a=b)):=by
 obtain ⟨ha0,ha1⟩:=ha
 obtain ⟨hb0,hb1⟩:=hb
 unfold qY
 try simp only [pI,Option.bind_some,aA4 a.Params b.Params ha1 hb1]
 rw [show decide (a=b)=decide (a.Name=b.Name∧a.Params=b.Params∧a.Res=b.Res∧a.Body=b.Body∧a.Ret=b.Ret) from by simp only [GFn.ext' a b]]
 by_cases e0:a.Name=b.Name<;>by_cases e1:a.Params=b.Params<;>by_cases e2:a.Res=b.Res<;>by_cases e3:a.Body=b.Body<;>by_cases e4:a.Ret=b.Ret<;>simp [e0,e1,e2,e3,e4]
theorem aFh (a:List GFn) (hw:a.length ≤ maxLen∧∀ x ∈ a,GFn.le maxLen x) (n:Int) (h0:0 ≤ n) (h1:n ≤ 1048576):∃ r,oR a n=some r∧r ≤ n∧(0 ≤ r→a.length ≤ 1048576∧∀ x ∈ a,GFn.le 1048576 x):=by
 have hw':a.length ≤ 9223372036854775807:=hw.1
 unfold oR
 rw [w64 (by omega) (by omega)]
 split
 ·exact ⟨_,rfl,by omega,fun h=>by omega⟩
 ·rename_i h
  simp only [decide_eq_true_eq] at h
  have hf:∀ (m:Int) (k:Nat) (g0:0 ≤ m) (g1:m ≤ 1048576) (hk:k < a.length),∃ r,r ≤ m∧(0 ≤ r→(fun x:GFn=>GFn.le 1048576 x) a[k])∧fG a (m,k)=some (if r < 0 then .inr (.inr (-1)) else .inl (r,((k + 1:Nat):Int))):=by
   intro m k g0 g1 hk
   obtain ⟨r,r1,r2,r3⟩:=aGw a[k] (hw.2 _ (List.getElem_mem hk)) m g0 g1
   refine ⟨r,r2,r3,?_⟩
   simp only [fG,aB hk,if_true,aD hk,Option.bind_some,r1,gD hk hw.1]
   by_cases hr:r < 0<;>simp [hr]
  obtain ⟨j,hj,hj2⟩:=aGi _ a (fG a) 1048576 hf (fun m=>by simp [fG]) (n - a.length) (by omega) (by omega)
  rcases hj2 with rfl | ⟨m,rfl,q1,q2,q3⟩
  ·exact ⟨-1,by rw [hj];rfl,by omega,fun h=>by omega⟩
  ·exact ⟨m,by rw [hj];rfl,by omega,fun _=>⟨by omega,q3⟩⟩
theorem aFf (a:List GFn) (h:a.length ≤ 1048576∧∀ x ∈ a,GFn.le 1048576 x):oQ a=some a:=by
 have hl:a.length ≤ 1048576:=h.1
 unfold oQ
 rw [sX _ _ _ (by omega) (by omega)]
 simp only [Option.bind_some]
 rw [aCu a _ (gR a) (fun out k hk ho=>?_) (fun out=>by simp [gR])]
 ·rfl
 ·simp only [gR,aB hk,if_true,aD hk,Option.bind_some,aGv a[k] (h.2 _ (List.getElem_mem hk)),aD (show k < out.length by omega),bD,Int.toNat_natCast,gD hk (show a.length ≤ maxLen by show _ ≤ 9223372036854775807;omega)]
theorem aFj (a b:List GFn) (ha:a.length ≤ 1048576∧∀ x ∈ a,GFn.le 1048576 x) (hb:b.length ≤ 1048576∧∀ x ∈ b,GFn.le 1048576 x):oS a b=some (decide (a=b)):=by
 have hl:a.length ≤ 1048576:=ha.1
 unfold oS
 by_cases hlen:a.length=b.length
 ·have hlen':((a.length:Int) != (b.length:Int))=false:=by simp [hlen]
  simp only [hlen',Bool.false_eq_true,if_false]
  have key:=aE9 a b (fun x y=>decide (x=y)) (fun x _ y _=>by simp) hlen (gU a b) (fun k hk hk2=>?_) (by simp [gU])
  ·by_cases e:a=b
   ·rw [key.1 e];simp [e]
   ·rw [key.2 e];simp [e]
  simp only [gU,aB hk,if_true,aD hk,aD hk2,Option.bind_some,aGx a[k] b[k] (ha.2 _ (List.getElem_mem hk)) (hb.2 _ (List.getElem_mem hk2)),gD hk (show a.length ≤ maxLen by show _ ≤ 9223372036854775807;omega)]
  try (by_cases e:a[k]=b[k]<;>simp [e])
 ·have hlen':((a.length:Int) != (b.length:Int))=true:=by simp;omega
  have hne:a ≠ b:=fun e=>hlen (by rw [e])
  simp [hlen',hne]
theorem xF (a:GProgram) (hw:GProgram.le maxLen a) (n:Int) (h0:0 ≤ n) (h1:n ≤ 1048576):∃ r,iI a n=some r∧r ≤ n∧(0 ≤ r→GProgram.le 1048576 a):=by
 obtain ⟨hw0,hw1⟩:=hw
 unfold iI
 obtain ⟨r0,q0a,q0b,q0c⟩:=aBe a.Nodes hw0 n (by omega) (by omega)
 simp only [q0a,Option.bind_some]
 by_cases hn0:r0 < 0
 ·simp only [hn0,decide_true,if_true];exact ⟨_,rfl,by omega,fun h=>by omega⟩
 simp only [hn0,decide_false,Bool.false_eq_true,if_false]
 obtain ⟨r1,q1a,q1b,q1c⟩:=aFh a.Fns hw1 r0 (by omega) (by omega)
 simp only [q1a,Option.bind_some]
 by_cases hn1:r1 < 0
 ·simp only [hn1,decide_true,if_true];exact ⟨_,rfl,by omega,fun h=>by omega⟩
 simp only [hn1,decide_false,Bool.false_eq_true,if_false]
 exact ⟨_,rfl,by omega,fun _=>⟨q0c (by omega),q1c (by omega)⟩⟩
theorem xD (a:GProgram) (h:GProgram.le 1048576 a):dB a=some a:=by
 obtain ⟨h0,h1⟩:=h
 unfold dB
 simp only [aBa a.Nodes h0,aFf a.Fns h1,Option.bind_some]
theorem pY (a b:GProgram) (ha:GProgram.le 1048576 a) (hb:GProgram.le 1048576 b):dC a b=some (decide (a=b)):=by
 obtain ⟨ha0,ha1⟩:=ha
 obtain ⟨hb0,hb1⟩:=hb
 unfold dC
 try simp only [pI,Option.bind_some,aBj a.Nodes b.Nodes ha0 hb0,aFj a.Fns b.Fns ha1 hb1]
 rw [show decide (a=b)=decide (a.Nodes=b.Nodes∧a.Fns=b.Fns) from by simp only [GProgram.ext' a b]]
 by_cases e0:a.Nodes=b.Nodes<;>by_cases e1:a.Fns=b.Fns<;>simp [e0,e1]
theorem mR (k:Int) (h0:0 ≤ k) (h1:k ≤ 9223372036854775807):∃ z,aP k=some z:=by
 unfold aP
 by_cases hk:k ≤ 0
 ·simp [hk]
 ·simp only [hk,decide_false,Bool.false_eq_true,if_false]
  obtain ⟨z,h2,h3⟩:=aKi eB (fun k o hk=>⟨IntKind.wrap .u8 (IntKind.wrap .i64 (48 + (Int.tmod k 10))),by simp only [eB,gt_iff_lt,hk,decide_true,if_true]⟩) (fun k o hk=>by simp only [eB,gt_iff_lt,show ¬ 0 < k by omega,decide_false,Bool.false_eq_true,if_false]) k h0 h1
  rw [h2]
  have hs:(⟨#[109]⟩:ByteArray).size=1:=rfl
  simp only [Option.bind_some]
  rw [aHv (by rw [hs];omega)]
  exact ⟨_,rfl⟩
theorem aA0 (a:List Int) (ha:a.length ≤ 1048576) (k:Int) (h0:0 ≤ k) (h1:k + 1048576 ≤ 4611686018427387904):∃ k' a',jR a k=some (k',a')∧k ≤ k'∧k' ≤ k + 1048576∧eI a' k=some k':=by
 have hlen:a.length ≤ 1048576:=ha
 have hM:∃ k' a',aG cS (a,k,0)=some (a',k')∧k ≤ k'∧k' ≤ k + 1 * 1048576∧a'.length=a.length∧∃ ks:Nat→Int,ks 0=k∧ks a.length=k'∧∀ (j:Nat) (hj:j < a'.length),(fun (x:Int) (k k':Int)=>x=k∧k'=(k + 1)) a'[j] (ks j) (ks (j + 1))∧0 ≤ ks j∧ks j ≤ ks (j + 1)∧ks j ≤ 4611686018427387904:=by
  refine tY (fun x:Int=>True) (fun (x:Int) (k k':Int)=>x=k∧k'=(k + 1)) 1 4611686018427387904 cS (fun out k i hi hlen h0 h1 hok=>?_) (fun out k=>by simp [cS]) a hlen (fun x hx=>trivial) k h0 (by omega)
  refine ⟨(k + 1),k,by omega,by omega,?_,?_⟩
  ·simp []
  ·simp (disch:=omega) only [cS,aB hi,if_true,aD,yD,Option.bind_some,bD,Int.toNat_natCast,List.length_set,List.set_set,w64,Int.natCast_add,Int.natCast_one]
 obtain ⟨k',a',h2,h3,h4,h5,ks,e0,e1,h6⟩:=hM
 refine ⟨k',a',by unfold jR;rw [h2];rfl,h3,by omega,?_⟩
 have hg:aG (cT a') (ks 0,0)=some (.inl (ks a'.length)):=by
  refine uO a' (fun (x:Int) (k k':Int)=>x=k∧k'=(k + 1)) 4611686018427387904 ks (cT a') h6 (fun j hj k k' hm h0 hk h1=>?_) (fun k=>by simp [cT])
  have hjl:a'.length ≤ 1048576:=by omega
  obtain ⟨y0,yk⟩:=hm
  subst yk
  have hw1:IntKind.wrap .i64 ((j:Int) + 1)=(j:Int) + 1:=w64 (by omega) (by omega)
  simp only [cT,aB hj,aD hj,hw1,if_true,Option.bind_some]
  simp (disch:=omega) [w64,pI,y0]
 unfold eI
 rw [e0,h5,e1] at hg
 rw [hg]
 rfl
theorem xH (a:List GNode) (ha:a.length ≤ 1048576∧∀ x ∈ a,GNode.le 1048576 x) (k:Int) (h0:0 ≤ k) (h1:k + 1099514773504 ≤ 4611686018427387904):∃ k' a',iJ a k=some (k',a')∧k ≤ k'∧k' ≤ k + 1099514773504∧iK a' k=some k':=by
 have hlen:a.length ≤ 1048576:=ha.1
 have hM:∃ k' a',aG cE (a,k,0)=some (a',k')∧k ≤ k'∧k' ≤ k + 1048579 * 1048576∧a'.length=a.length∧∃ ks:Nat→Int,ks 0=k∧ks a.length=k'∧∀ (j:Nat) (hj:j < a'.length),(fun (x:GNode) (k k':Int)=>x.Kind=k∧x.Num=(k + 1)∧aP ((k + 1) + 1)=some x.Name∧∃ q3,eI x.Kids (((k + 1) + 1) + 1)=some q3∧(((k + 1) + 1) + 1) ≤ q3∧k'=q3) a'[j] (ks j) (ks (j + 1))∧0 ≤ ks j∧ks j ≤ ks (j + 1)∧ks j ≤ 4611686018427387904:=by
  refine tY (fun x:GNode=>GNode.le 1048576 x) (fun (x:GNode) (k k':Int)=>x.Kind=k∧x.Num=(k + 1)∧aP ((k + 1) + 1)=some x.Name∧∃ q3,eI x.Kids (((k + 1) + 1) + 1)=some q3∧(((k + 1) + 1) + 1) ≤ q3∧k'=q3) 1048579 4611686018427387904 cE (fun out k i hi hlen h0 h1 hok=>?_) (fun out k=>by simp [cE]) a hlen (fun x hx=>ha.2 x hx) k h0 (by omega)
  obtain ⟨hok_Name,hok_Kids⟩:=hok
  obtain ⟨z2,hz2⟩:=mR ((k + 1) + 1) (by omega) (by omega)
  obtain ⟨q3,b3,mm3,l3,u3,hh3⟩:=aA0 out[i].Kids hok_Kids (((k + 1) + 1) + 1) (by omega) (by omega)
  refine ⟨q3,(⟨k,(k + 1),z2,b3⟩:GNode),by omega,by omega,?_,?_⟩
  ·simp [hz2,hh3];try omega
  ·simp (disch:=omega) only [cE,aB hi,if_true,aD,yD,Option.bind_some,bD,Int.toNat_natCast,List.length_set,List.set_set,w64,hz2,mm3,Int.natCast_add,Int.natCast_one]
 obtain ⟨k',a',h2,h3,h4,h5,ks,e0,e1,h6⟩:=hM
 refine ⟨k',a',by unfold iJ;rw [h2];rfl,h3,by omega,?_⟩
 have hg:aG (cF a') (ks 0,0)=some (.inl (ks a'.length)):=by
  refine uO a' (fun (x:GNode) (k k':Int)=>x.Kind=k∧x.Num=(k + 1)∧aP ((k + 1) + 1)=some x.Name∧∃ q3,eI x.Kids (((k + 1) + 1) + 1)=some q3∧(((k + 1) + 1) + 1) ≤ q3∧k'=q3) 4611686018427387904 ks (cF a') h6 (fun j hj k k' hm h0 hk h1=>?_) (fun k=>by simp [cF])
  have hjl:a'.length ≤ 1048576:=by omega
  obtain ⟨y0,⟨y1,⟨y2,⟨q3,y3,yy3,yk⟩⟩⟩⟩:=hm
  subst yk
  have hw1:IntKind.wrap .i64 ((j:Int) + 1)=(j:Int) + 1:=w64 (by omega) (by omega)
  simp only [cF,aB hj,aD hj,hw1,if_true,Option.bind_some]
  simp (disch:=omega) [w64,pI,y0,y1,y2,y3,show ¬ k' < 0 by omega,show 0 ≤ k' by omega]
 unfold iK
 rw [e0,h5,e1] at hg
 rw [hg]
 rfl
theorem vU (a:List GParam) (ha:a.length ≤ 1048576∧∀ x ∈ a,GParam.le 1048576 x) (k:Int) (h0:0 ≤ k) (h1:k + 2097152 ≤ 4611686018427387904):∃ k' a',gJ a k=some (k',a')∧k ≤ k'∧k' ≤ k + 2097152∧cM a' k=some k':=by
 have hlen:a.length ≤ 1048576:=ha.1
 have hM:∃ k' a',aG bP (a,k,0)=some (a',k')∧k ≤ k'∧k' ≤ k + 2 * 1048576∧a'.length=a.length∧∃ ks:Nat→Int,ks 0=k∧ks a.length=k'∧∀ (j:Nat) (hj:j < a'.length),(fun (x:GParam) (k k':Int)=>aP k=some x.Name∧x.Typ=(k + 1)∧k'=((k + 1) + 1)) a'[j] (ks j) (ks (j + 1))∧0 ≤ ks j∧ks j ≤ ks (j + 1)∧ks j ≤ 4611686018427387904:=by
  refine tY (fun x:GParam=>GParam.le 1048576 x) (fun (x:GParam) (k k':Int)=>aP k=some x.Name∧x.Typ=(k + 1)∧k'=((k + 1) + 1)) 2 4611686018427387904 bP (fun out k i hi hlen h0 h1 hok=>?_) (fun out k=>by simp [bP]) a hlen (fun x hx=>ha.2 x hx) k h0 (by omega)
  have hok_Name:=hok;simp only [GParam.le] at hok_Name
  obtain ⟨z0,hz0⟩:=mR k (by omega) (by omega)
  refine ⟨((k + 1) + 1),(⟨z0,(k + 1)⟩:GParam),by omega,by omega,?_,?_⟩
  ·simp [hz0]
  ·simp (disch:=omega) only [bP,aB hi,if_true,aD,yD,Option.bind_some,bD,Int.toNat_natCast,List.length_set,List.set_set,w64,hz0,Int.natCast_add,Int.natCast_one]
 obtain ⟨k',a',h2,h3,h4,h5,ks,e0,e1,h6⟩:=hM
 refine ⟨k',a',by unfold gJ;rw [h2];rfl,h3,by omega,?_⟩
 have hg:aG (bQ a') (ks 0,0)=some (.inl (ks a'.length)):=by
  refine uO a' (fun (x:GParam) (k k':Int)=>aP k=some x.Name∧x.Typ=(k + 1)∧k'=((k + 1) + 1)) 4611686018427387904 ks (bQ a') h6 (fun j hj k k' hm h0 hk h1=>?_) (fun k=>by simp [bQ])
  have hjl:a'.length ≤ 1048576:=by omega
  obtain ⟨y0,⟨y1,yk⟩⟩:=hm
  subst yk
  have hw1:IntKind.wrap .i64 ((j:Int) + 1)=(j:Int) + 1:=w64 (by omega) (by omega)
  simp only [bQ,aB hj,aD hj,hw1,if_true,Option.bind_some]
  simp (disch:=omega) [w64,pI,y0,y1]
 unfold cM
 rw [e0,h5,e1] at hg
 rw [hg]
 rfl
theorem aBg (a:List GFn) (ha:a.length ≤ 1048576∧∀ x ∈ a,GFn.le 1048576 x) (k:Int) (h0:0 ≤ k) (h1:k + 2199027449856 ≤ 4611686018427387904):∃ k' a',lG a k=some (k',a')∧k ≤ k'∧k' ≤ k + 2199027449856∧lH a' k=some k':=by
 have hlen:a.length ≤ 1048576:=ha.1
 have hM:∃ k' a',aG dP (a,k,0)=some (a',k')∧k ≤ k'∧k' ≤ k + 2097156 * 1048576∧a'.length=a.length∧∃ ks:Nat→Int,ks 0=k∧ks a.length=k'∧∀ (j:Nat) (hj:j < a'.length),(fun (x:GFn) (k k':Int)=>aP k=some x.Name∧∃ q1,cM x.Params (k + 1)=some q1∧(k + 1) ≤ q1∧x.Res=q1∧x.Body=(q1 + 1)∧x.Ret=((q1 + 1) + 1)∧k'=(((q1 + 1) + 1) + 1)∧k' ≤ 4611686018427387904) a'[j] (ks j) (ks (j + 1))∧0 ≤ ks j∧ks j ≤ ks (j + 1)∧ks j ≤ 4611686018427387904:=by
  refine tY (fun x:GFn=>GFn.le 1048576 x) (fun (x:GFn) (k k':Int)=>aP k=some x.Name∧∃ q1,cM x.Params (k + 1)=some q1∧(k + 1) ≤ q1∧x.Res=q1∧x.Body=(q1 + 1)∧x.Ret=((q1 + 1) + 1)∧k'=(((q1 + 1) + 1) + 1)∧k' ≤ 4611686018427387904) 2097156 4611686018427387904 dP (fun out k i hi hlen h0 h1 hok=>?_) (fun out k=>by simp [dP]) a hlen (fun x hx=>ha.2 x hx) k h0 (by omega)
  obtain ⟨hok_Name,hok_Params⟩:=hok
  obtain ⟨z0,hz0⟩:=mR k (by omega) (by omega)
  obtain ⟨q1,b1,mm1,l1,u1,hh1⟩:=vU out[i].Params hok_Params (k + 1) (by omega) (by omega)
  refine ⟨(((q1 + 1) + 1) + 1),(⟨z0,b1,q1,(q1 + 1),((q1 + 1) + 1)⟩:GFn),by omega,by omega,?_,?_⟩
  ·simp [hz0,hh1];try omega
  ·simp (disch:=omega) only [dP,aB hi,if_true,aD,yD,Option.bind_some,bD,Int.toNat_natCast,List.length_set,List.set_set,w64,hz0,mm1,Int.natCast_add,Int.natCast_one]
 obtain ⟨k',a',h2,h3,h4,h5,ks,e0,e1,h6⟩:=hM
 refine ⟨k',a',by unfold lG;rw [h2];rfl,h3,by omega,?_⟩
 have hg:aG (dQ a') (ks 0,0)=some (.inl (ks a'.length)):=by
  refine uO a' (fun (x:GFn) (k k':Int)=>aP k=some x.Name∧∃ q1,cM x.Params (k + 1)=some q1∧(k + 1) ≤ q1∧x.Res=q1∧x.Body=(q1 + 1)∧x.Ret=((q1 + 1) + 1)∧k'=(((q1 + 1) + 1) + 1)∧k' ≤ 4611686018427387904) 4611686018427387904 ks (dQ a') h6 (fun j hj k k' hm h0 hk h1=>?_) (fun k=>by simp [dQ])
  have hjl:a'.length ≤ 1048576:=by omega
  obtain ⟨y0,⟨q1,y1,yy1,⟨y2,⟨y3,⟨y4,⟨yk,ykb⟩⟩⟩⟩⟩⟩:=hm
  subst yk
  have hw1:IntKind.wrap .i64 ((j:Int) + 1)=(j:Int) + 1:=w64 (by omega) (by omega)
  simp only [dQ,aB hj,aD hj,hw1,if_true,Option.bind_some]
  simp (disch:=omega) [w64,pI,y0,y1,show ¬ q1 < 0 by omega,show 0 ≤ q1 by omega,y2,y3,y4]
 unfold lH
 rw [e0,h5,e1] at hg
 rw [hg]
 rfl
theorem nO (a:GProgram) (ha:GProgram.le 1048576 a) (k:Int) (h0:0 ≤ k) (h1:k + 3298542223360 ≤ 4611686018427387904):∃ k' a',eC a k=some (k',a')∧k ≤ k'∧k' ≤ k + 3298542223360∧eD a' k=some k':=by
 obtain ⟨ha_Nodes,ha_Fns⟩:=ha
 obtain ⟨k0,b0,m0,l0,u0,e0⟩:=xH a.Nodes ha_Nodes k (by omega) (by omega)
 obtain ⟨k1,b1,m1,l1,u1,e1⟩:=aBg a.Fns ha_Fns k0 (by omega) (by omega)
 refine ⟨k1,⟨b0,b1⟩,?_,by omega,by omega,?_⟩
 ·unfold eC;simp [m0,m1]
 ·unfold eD;simp [e0,show ¬ k0 < 0 by omega,e1,show ¬ k1 < 0 by omega]
end Go.OM
namespace Go.OM
theorem aNl {α:Type} {c:Prop} [Decidable c] (a b:α):(if c then some a else some b)=some (if c then a else b):=by split<;>rfl
def inB (x a b:Int):Bool:=decide (a ≤ x) && decide (x ≤ b)
theorem inB_iff {x a b:Int}:inB x a b=true ↔ a ≤ x∧x ≤ b:=by simp [inB]
theorem inB_false {x a b:Int}:inB x a b=false ↔ ¬ (a ≤ x∧x ≤ b):=by rw [← inB_iff];simp
theorem cG (x a b:Int):cU x a b=some (inB x a b):=by
 unfold cU inB
 by_cases h:a ≤ x<;>simp [h]
theorem eV (x a b:Int):aY x a b=some (inB x a b):=by
 unfold aY inB
 by_cases h:a ≤ x<;>simp [h]
def bI (z:ByteArray):List Int:=z.data.toList.map fun x=>((x.toNat:Nat):Int)
theorem oY (z:ByteArray):(bI z).length=z.size:=by rw [bI,List.length_map];exact Array.length_toList
theorem aKw {z:ByteArray} {k:Nat} (h:k < (bI z).length):sAt z k=some (bI z)[k]:=by
 have h1:k < z.size:=by rw [← oY];exact h
 unfold sAt
 rw [if_pos ⟨by omega,by omega⟩]
 simp only [aGa,Int.toNat_natCast,bI]
 have e:z.data.toList.length=z.size:=Array.length_toList
 have h2:k < z.data.toList.length:=by omega
 rw [List.getD_eq_getElem?_getD,List.getElem?_eq_getElem h2]
 simp only [Option.getD_some,List.getElem_map]
def lV (b:Int):Bool:=inB b 97 122
def pT (b:Int):Bool:=inB b 48 57
theorem qB (b:Int):gY b=some (lV b):=by
 unfold gY lV inB
 by_cases h:97 ≤ b<;>simp [h]
theorem xO (b:Int):jV b=some (pT b):=by
 unfold jV pT inB
 by_cases h:48 ≤ b<;>simp [h]
theorem oI (b:Int):fM b=some (lV b):=by
 unfold fM lV inB
 by_cases h:97 ≤ b<;>simp [h]
theorem vD (b:Int):iD b=some (pT b):=by
 unfold iD pT inB
 by_cases h:48 ≤ b<;>simp [h]
def keys:List ByteArray:=[⟨#[102,110]⟩,⟨#[108,101,116]⟩,⟨#[105,102]⟩,⟨#[101,108,115,101]⟩,⟨#[119,104,105,108,101]⟩,⟨#[112,114,105,110,116]⟩,⟨#[100,111]⟩,⟨#[110,101,119]⟩,⟨#[99,108,111,110,101]⟩,⟨#[109,117,116]⟩,⟨#[105,110,112,117,116]⟩,⟨#[105,110,116]⟩,⟨#[98,111,120]⟩,⟨#[114,101,116]⟩]
def keyB (s:ByteArray):Bool:=keys.any fun w=>sEq w s
theorem aJx:strings_Split (⟨#[102,110,32,108,101,116,32,105,102,32,101,108,115,101,32,119,104,105,108,101,32,112,114,105,110,116,32,100,111,32,110,101,119,32,99,108,111,110,101,32,109,117,116,32,105,110,112,117,116,32,105,110,116,32,98,111,120,32,114,101,116]⟩:ByteArray) (⟨#[32]⟩:ByteArray)=some keys:=by kernel_rfl
theorem aIw (l:List ByteArray) (s:ByteArray) (hl:l.length ≤ 1048576) (f:Int→Option (Int ⊕ (Unit ⊕ Bool)))
  (hf:∀ i,f i=if (decide (i < (l.length:Int)))=true then (aJ l i).bind fun e=>if (sEq e s)=true then some (Sum.inr (Sum.inr true)) else some (Sum.inl (IntKind.wrap .i64 (i + 1))) else some (Sum.inr (Sum.inl ()))) :
  aG f 0=some (if (l.any fun w=>sEq w s)=true then .inr true else .inl ()):=by
 refine tZ l (fun w=>sEq w s) f (fun k hk=>?_) (by rw [hf];simp)
 rw [hf]
 simp only [aB hk,if_true,aD hk,Option.bind_some,gD hk (show l.length ≤ maxLen by show _ ≤ 9223372036854775807;omega),aNl]
theorem zE (s:ByteArray):kV s=some (keyB s):=by
 unfold kV nL
 simp only [Option.bind_some]
 have h:=aIw keys s (by decide) (gH s keys) (fun i=>by simp only [gH])
 unfold keys at h
 rw [h]
 unfold keyB keys
 simp only [Option.bind_some]
 split<;>rename_i h2<;>split at h2<;>simp_all
theorem aAk (s:ByteArray):lO s=some (keyB s):=by
 unfold lO rT
 rw [aJx]
 simp only [Option.bind_some]
 rw [aIw keys s (by decide) (jU s keys) (fun i=>by simp only [jU])]
 unfold keyB
 simp only [Option.bind_some]
 cases keys.any fun w=>sEq w s<;>rfl
def aG9 (b:Int):Bool:=lV b || pT b
def rZ (s:ByteArray):Bool:=inB s.size 1 8 && (lV ((bI s).getD 0 0) && ((bI s).all aG9 && !keyB s))
theorem aF3 (s:ByteArray) (hs:s.size ≤ 8) (f:Int→Option (Int ⊕ (Unit ⊕ Bool)))
  (hf:∀ (k:Nat) (h:k < (bI s).length),f k=some (if aG9 (bI s)[k]=true then .inl (IntKind.wrap .i64 ((k:Int) + 1)) else .inr (.inr false)))
  (he:f s.size=some (.inr (.inl ()))):aG f 0=some (if (bI s).all aG9=true then .inl () else .inr false):=by
 refine qS (bI s) aG9 f (fun k hk=>?_) (by rw [oY];exact he)
 rw [hf k hk,gD hk (show (bI s).length ≤ maxLen by rw [oY];show _ ≤ 9223372036854775807;omega)]
theorem aMb {s:ByteArray} (h:1 ≤ s.size):sAt s 0=some ((bI s).getD 0 0):=by
 have h1:0 < (bI s).length:=by rw [oY];omega
 have:=aKw h1
 rw [show ((0:Nat):Int)=0 from rfl] at this
 rw [this,List.getD_eq_getElem?_getD,List.getElem?_eq_getElem h1];rfl
theorem oC (s:ByteArray):iT s=some (rZ s):=by
 unfold iT rZ
 simp only [cG,Option.bind_some]
 by_cases hi:inB s.size 1 8=true
 ·have hi':=inB_iff.1 hi
  rw [aMb (by omega),aF3 s (by omega) (gB s) (fun k hk=>?_) (by simp [gB])]
  ·simp only [hi,qB,aAk,Option.bind_some,Bool.not_true,Bool.false_eq_true,if_false,Bool.true_and]
   cases lV ((bI s).getD 0 0)<;>cases (bI s).all aG9<;>cases keyB s<;>rfl
  ·have hk2:k < s.size:=by rw [← oY];exact hk
   simp only [gB,aB hk2,if_true,aKw hk,qB,xO,Option.bind_some]
   rw [show aG9 (bI s)[k]=(lV (bI s)[k] || pT (bI s)[k]) from rfl]
   cases lV (bI s)[k]<;>cases pT (bI s)[k]<;>rfl
 ·simp [Bool.eq_false_iff.2 hi]
theorem nW (s:ByteArray):iQ s=some (rZ s):=by
 unfold iQ rZ
 simp only [eV,Option.bind_some]
 by_cases hi:inB s.size 1 8=true
 ·have hi':=inB_iff.1 hi
  rw [aMb (by omega),aF3 s (by omega) (fR s) (fun k hk=>?_) (by simp [fR])]
  ·simp only [hi,oI,zE,Option.bind_some,Bool.not_true,Bool.false_eq_true,if_false,Bool.true_and]
   cases lV ((bI s).getD 0 0)<;>cases (bI s).all aG9<;>cases keyB s<;>rfl
  ·have hk2:k < s.size:=by rw [← oY];exact hk
   simp only [fR,aB hk2,if_true,aKw hk,oI,vD,Option.bind_some]
   rw [show aG9 (bI s)[k]=(lV (bI s)[k] || pT (bI s)[k]) from rfl]
   cases lV (bI s)[k]<;>cases pT (bI s)[k]<;>rfl
 ·simp [Bool.eq_false_iff.2 hi]
end Go.OM
namespace Go.OM
theorem jG {n:Nat} (h:n ≤ 1048576):IntKind.wrap .i64 ((n:Int) - 1)=(n:Int) - 1:=w64 (by omega) (by omega)
end Go.OM
namespace Go.OM
theorem bB {α σ ρ:Type} (h:σ→α→σ) (fin:σ→ρ):∀ (l:List α) (s:σ),aBw (fun s x=>(.inl (h s x):σ ⊕ ρ)) fin l s=fin (l.foldl h s)
 | [],s=>rfl
 | x :: l,s=>by simp only [aBw,List.foldl_cons];exact bB h fin l _
theorem aPt {n:Nat} {s:List Int} {e:Int} (h:s.length ≤ 1048576) (hn:n ≤ 64):mF n s [e]=some (s ++ [e]):=by
 unfold mF
 have h1:(s.length + [e].length) * n ≤ (s.length + [e].length) * 64:=Nat.mul_le_mul_left _ hn
 rw [if_pos ⟨by simp only [List.length_cons,List.length_nil] at h1 ⊢;omega,by simp only [List.length_cons,List.length_nil];omega⟩]
def yF (out:List Int) (n:Int):List Int:=if out.contains n=true then out else out ++ [n]
theorem mem_addL {out:List Int} {n m:Int}:m ∈ yF out n ↔ m ∈ out ∨ m=n:=by
 unfold yF
 by_cases h:out.contains n=true
 ·rw [if_pos h]
  have:=List.contains_iff_mem.1 h
  constructor
  ·exact .inl
  ·rintro (h | rfl)
   ·exact h
   ·exact this
 ·rw [if_neg h];simp
theorem fT (m:Int):∀ (l s:List Int),m ∈ l.foldl yF s ↔ m ∈ s ∨ m ∈ l
 | [],s=>by simp
 | x :: l,s=>by rw [List.foldl_cons,fT m l,mem_addL,List.mem_cons,or_assoc]
end Go.OM
namespace Go.OM
inductive Reach (next:Nat→List Int) (root:Nat):Nat→Prop
 | base:Reach next root root
 | step {i:Nat} {m:Int}:Reach next root i→m ∈ next i→Reach next root m.toNat
theorem Reach.congr {next next':Nat→List Int} {root:Nat} (h:∀ i m,m ∈ next i ↔ m ∈ next' i) {n:Nat}:Reach next root n ↔ Reach next' root n:=by
 constructor
 ·intro r
  induction r with
  | base=>exact .base
  | step _ hm ih=>exact .step ih ((h _ _).1 hm)
 ·intro r
  induction r with
  | base=>exact .base
  | step _ hm ih=>exact .step ih ((h _ _).2 hm)
end Go.OM
namespace Go.OM
abbrev Tab:=List (List Bool)
structure TabOk (W L:Nat) (t:Tab):Prop where
 len:t.length=W
 row:∀ r ∈ t,r.length=L
theorem TabOk.set {W L:Nat} {t:Tab} (h:TabOk W L t) (n:Nat) {r:List Bool} (hr:r.length=L):TabOk W L (t.set n r) :=
 ⟨by simpa using h.len,fun x hx=>by
  rcases List.mem_or_eq_of_mem_set hx with h1 | h1
  ·exact h.row x h1
  ·rw [h1];exact hr⟩
theorem aK {k n:Nat} (hk:k < n) (hn:n ≤ 1048576):IntKind.wrap .i64 ((k:Int) + 1)=((k + 1:Nat):Int):=gD hk (show n ≤ maxLen by show _ ≤ 9223372036854775807;omega)
theorem aHj {α:Type} {n:Nat} {s:List α} {e:α} (h:s.length ≤ 1048576) (hn:n ≤ 64):mF n s [e]=some (s ++ [e]):=by
 unfold mF
 have h1:(s.length + [e].length) * n ≤ (s.length + [e].length) * 64:=Nat.mul_le_mul_left _ hn
 rw [if_pos ⟨by simp only [List.length_cons,List.length_nil] at h1 ⊢;omega,by simp only [List.length_cons,List.length_nil];omega⟩]
def cntR (r:List Bool):Nat:=r.count true
def cntT (t:Tab):Nat:=(t.map cntR).sum
end Go.OM
namespace Go.OM
theorem cW {α:Type} {l:List α} {v:Int} (h0:0 ≤ v) (h:v < l.length):aJ l v=some (l[v.toNat]'(by omega)):=by
 have:v=((v.toNat:Nat):Int):=by omega
 conv=>lhs;rw [this]
 exact aD (by omega)
theorem aHi {α:Type} {n:Nat} {l:List α} (h:l.length ≤ 1048576) (hn:n ≤ 64):mF n [] l=some l:=by
 unfold mF
 have h1:(([]:List α).length + l.length) * n ≤ (([]:List α).length + l.length) * 64:=Nat.mul_le_mul_left _ hn
 rw [if_pos ⟨by simp only [List.length_nil] at h1 ⊢;omega,by simp only [List.length_nil];omega⟩]
 simp
end Go.OM
namespace Go.OM
structure Dn (W L:Nat) (s s':Tab × Bool):Prop where
 ok:TabOk W L s'.1
 le:cntT s'.1 ≤ cntT s.1
 lt:s'.2=true→s.2=true ∨ cntT s'.1 < cntT s.1
 keep:s.2=true→s'.2=true
theorem Dn.trans {W L:Nat} {s s' s2:Tab × Bool} (h:Dn W L s s') (h2:Dn W L s' s2):Dn W L s s2 :=
 ⟨h2.ok,Nat.le_trans h2.le h.le,fun e=>by
  rcases h2.lt e with e | e
  ·rcases h.lt e with e | e
   ·exact .inl e
   ·exact .inr (Nat.lt_of_le_of_lt h2.le e)
  ·exact .inr (Nat.lt_of_lt_of_le e h.le),fun e=>h2.keep (h.keep e)⟩
end Go.OM
namespace Go.OM
theorem aAl (l:List Int) (n:Int) (hl:l.length ≤ 1048576):iS l n=some (l.contains n):=by
 unfold iS
 rw [tZ l (fun e=>e == n) (fW l n) (fun k hk=>by
  simp only [fW,aB hk,if_true,aD hk,Option.bind_some,aK hk hl]
  cases l[k] == n<;>rfl) (by simp [fW])]
 have:(l.any fun e=>e == n)=l.contains n:=by
  induction l with
  | nil=>rfl
  | cons x l ih =>
   rw [List.any_cons,List.contains_cons,ih (by simp at hl;omega)]
   congr 1
   rw [Bool.eq_iff_iff,beq_iff_eq,beq_iff_eq]
   exact eq_comm
 rw [this]
 cases l.contains n<;>rfl
theorem wD {ρ:Type} (n:Nat) (q:Nat→Option ρ) (f:Int→Option (Int ⊕ (Unit ⊕ ρ)))
  (hf:∀ (k:Nat),k < n→f k=some (match q k with | none=>.inl ((k + 1:Nat):Int) | some r=>.inr (.inr r)))
  (he:f n=some (.inr (.inl ()))):aG f 0=some (match (List.range n).findSome? q with | some r=>.inr r | none=>.inl ()) :=
 vP (List.range n) q f (fun k hk=>by
  have hk':k < n:=by simpa using hk
  rw [hf k hk',List.getElem_range]
  all_goals (cases q k<;>rfl)) (by rw [List.length_range];exact he)
end Go.OM
namespace Go.OM
def qG (k:Int):Bool:=inB k 1 12
def yP (k:Int):Bool:=inB k 13 19
theorem rC (k:Int):jC k=some (qG k):=by simp only [jC,cG,Option.bind_some,qG]
theorem aBn (k:Int):mZ k=some (yP k):=by simp only [mZ,cG,Option.bind_some,yP]
theorem pV (k:Int):fF k=some (qG k):=by simp only [fF,eV,Option.bind_some,qG]
theorem rX (k:Int):eS k=some (yP k):=by simp only [eS,eV,Option.bind_some,yP]
def iY (k:Int):Int × Int:=if k=8 ∨ k=13 ∨ k=14 ∨ k=15 ∨ k=18 ∨ k=19 then (1,1) else if k=9 ∨ k=10 ∨ k=11 ∨ k=17 then (2,2) else if k=16 then (3,3) else if k=12 then (0,3) else if k=20 then (0,12) else (0,0)
theorem aDx (k:Int):oV k=some (iY k):=by
 unfold oV iY
 by_cases h8:k=8
 ·simp [h8]
 by_cases h13:k=13
 ·simp [h13]
 by_cases h14:k=14
 ·simp [h14]
 by_cases h15:k=15
 ·simp [h15]
 by_cases h18:k=18
 ·simp [h18]
 by_cases h19:k=19
 ·simp [h19]
 by_cases h9:k=9
 ·simp [h9]
 by_cases h10:k=10
 ·simp [h10]
 by_cases h11:k=11
 ·simp [h11]
 by_cases h17:k=17
 ·simp [h17]
 by_cases h16:k=16
 ·simp [h16]
 by_cases h12:k=12
 ·simp [h12]
 by_cases h20:k=20
 ·simp [h20]
 simp [h8,h13,h14,h15,h18,h19,h9,h10,h11,h17,h16,h12,h20]
theorem yX (k:Int):kS k=some (iY k):=by
 unfold kS iY
 by_cases h8:k=8
 ·simp [h8]
 by_cases h13:k=13
 ·simp [h13]
 by_cases h14:k=14
 ·simp [h14]
 by_cases h15:k=15
 ·simp [h15]
 by_cases h18:k=18
 ·simp [h18]
 by_cases h19:k=19
 ·simp [h19]
 by_cases h9:k=9
 ·simp [h9]
 by_cases h10:k=10
 ·simp [h10]
 by_cases h11:k=11
 ·simp [h11]
 by_cases h17:k=17
 ·simp [h17]
 by_cases h16:k=16
 ·simp [h16]
 by_cases h12:k=12
 ·simp [h12]
 by_cases h20:k=20
 ·simp [h20]
 simp [h8,h13,h14,h15,h18,h19,h9,h10,h11,h17,h16,h12,h20]
def uR (kind i kid:Int):Bool:=if kind=20 then yP kid else if (kind=16 ∨ kind=17)∧0 < i then kid == 20 else if kind=19 then kid == 12 else qG kid
theorem aAd (kind i kid:Int):lL kind i kid=some (uR kind i kid):=by
 unfold lL uR
 simp only [aBn,rC,Option.bind_some,gt_iff_lt]
 by_cases h20:kind=20
 ·simp [h20]
 by_cases h16:kind=16
 ·by_cases hi:0 < i<;>simp [h16,hi]
 by_cases h17:kind=17
 ·by_cases hi:0 < i<;>simp [h17,hi]
 by_cases h19:kind=19
 ·simp [h19]
 simp [h20,h16,h17,h19]
theorem yZ (kind i kid:Int):kT kind i kid=some (uR kind i kid):=by
 unfold kT uR
 simp only [rX,pV,Option.bind_some,gt_iff_lt]
 by_cases h20:kind=20
 ·simp [h20]
 by_cases h16:kind=16
 ·by_cases hi:0 < i<;>simp [h16,hi]
 by_cases h17:kind=17
 ·by_cases hi:0 < i<;>simp [h17,hi]
 by_cases h19:kind=19
 ·simp [h19]
 simp [h20,h16,h17,h19]
def pX (k:Int):Bool:=inB k 2 6 || inB k 12 15
theorem aAg (k:Int):fE k=some (pX k):=by
 unfold fE pX
 simp only [cG,Option.bind_some]
 cases inB k 2 6<;>rfl
theorem xB (k:Int):jK k=some (pX k):=by
 unfold jK pX
 by_cases h:inB k 2 6=true
 ·have h':=inB_iff.1 h
  rw [h]
  have:k=2 ∨ k=3 ∨ k=4 ∨ k=5 ∨ k=6:=by omega
  rcases this with e | e | e | e | e<;>simp [e]
 ·by_cases h2:inB k 12 15=true
  ·have h':=inB_iff.1 h2
   rw [h2]
   have:k=12 ∨ k=13 ∨ k=14 ∨ k=15:=by omega
   rcases this with e | e | e | e<;>simp [e]
  ·have h':=inB_false.1 (Bool.eq_false_iff.2 h)
   have h2':=inB_false.1 (Bool.eq_false_iff.2 h2)
   have n2:¬ k=2:=by omega
   have n3:¬ k=3:=by omega
   have n4:¬ k=4:=by omega
   have n5:¬ k=5:=by omega
   have n6:¬ k=6:=by omega
   have n12:¬ k=12:=by omega
   have n13:¬ k=13:=by omega
   have n14:¬ k=14:=by omega
   have n15:¬ k=15:=by omega
   simp [Bool.eq_false_iff.2 h,Bool.eq_false_iff.2 h2,n2,n3,n4,n5,n6,n12,n13,n14,n15]
def aPh (nodes:List GNode) (k:Nat) (x:GNode) (i:Nat):Bool:=match x.Kids[i]? with
 | none=>false
 | some kid=>inB kid 0 ((k:Int) - 1) && (!((x.Kids.take i).contains kid) && (match nodes[kid.toNat]? with | some y=>uR x.Kind i y.Kind | none=>false))
theorem aGz {nodes:List GNode} {k:Nat} {x:GNode} {i:Nat} (h:i < x.Kids.length):aPh nodes k x i=(inB x.Kids[i] 0 ((k:Int) - 1) && (!((x.Kids.take i).contains x.Kids[i]) && (match nodes[(x.Kids[i]).toNat]? with | some y=>uR x.Kind i y.Kind | none=>false))):=by
 unfold aPh;rw [List.getElem?_eq_getElem h]
def aLl (nodes:List GNode) (k:Nat) (x:GNode):Bool:=(List.range x.Kids.length).all (aPh nodes k x)
def aNh (x:GNode):Bool:=if x.Kind=1 then inB x.Num 0 1000000000 else x.Num == 0
def aI2 (x:GNode):Bool:=if pX x.Kind=true then rZ x.Name else sEq x.Name ⟨#[]⟩
def nI (nodes:List GNode) (k:Nat):Bool:=match nodes[k]? with
 | none=>false
 | some x=>inB x.Kind 1 20 && (inB x.Kids.length (iY x.Kind).1 (iY x.Kind).2 && (aLl nodes k x && (aNh x && aI2 x)))
theorem oM {ρ:Type} (n:Nat) (hn:n ≤ 1048576) (p:Nat→Bool) (b:ρ) (f:Int→Option (Int ⊕ (Unit ⊕ ρ)))
  (hf:∀ (k:Nat),k < n→f k=some (if p k=true then .inl (IntKind.wrap .i64 ((k:Int) + 1)) else .inr (.inr b)))
  (he:f n=some (.inr (.inl ()))):aG f 0=some (if (List.range n).all p=true then .inl () else .inr b):=by
 rw [wD n (fun k=>if p k=true then none else some b) f (fun k hk=>by
  rw [hf k hk,aK hk hn]
  cases p k<;>rfl) he]
 have key:∀ l:List Nat,l.findSome? (fun k=>if p k=true then none else some b)=if l.all p=true then none else some b:=by
  intro l
  induction l with
  | nil=>rfl
  | cons x l ih =>
   rw [List.findSome?_cons,List.all_cons]
   cases hp:p x
   ·simp
   ·simp only [if_true,Bool.true_and];exact ih
 rw [key]
 cases (List.range n).all p<;>rfl
theorem aD6 (k:Int):(iY k).2 ≤ 12:=by
 unfold iY
 repeat' split
 all_goals simp
theorem aGt:rZ ⟨#[]⟩=false:=by
 unfold rZ
 have:inB ((⟨#[]⟩:ByteArray).size:Int) 1 8=false:=rfl
 rw [this];rfl
theorem aBs (nodes:List GNode) (hn:nodes.length ≤ 1048576) (k:Int):nC nodes k=some (decide (0 ≤ k) && nI nodes k.toNat):=by
 unfold nC
 simp only [cG,Option.bind_some,jG hn]
 by_cases hi:inB k 0 ((nodes.length:Int) - 1)=true
 ·have hi':=inB_iff.1 hi
  have hk:k.toNat < nodes.length:=by omega
  have hkk:k=((k.toNat:Nat):Int):=by omega
  rw [decide_eq_true hi'.1,Bool.true_and]
  generalize k.toNat=m at *
  subst hkk
  unfold nI
  rw [List.getElem?_eq_getElem hk,aD hk]
  simp only [hi,Bool.not_true,Bool.false_eq_true,if_false,Option.bind_some,aDx]
  generalize nodes[m]=x
  cases h1:inB x.Kind 1 20
  ·rfl
  cases h2:inB x.Kids.length (iY x.Kind).1 (iY x.Kind).2
  ·rfl
  have h2':=inB_iff.1 h2
  have hs:=aD6 x.Kind
  have hkl:x.Kids.length ≤ 1048576:=by omega
  have hw:IntKind.wrap .i64 ((m:Int) - 1)=(m:Int) - 1:=w64 (by omega) (by omega)
  rw [oM x.Kids.length hkl (aPh nodes m x) false (gA nodes m x) (fun i hi=>by
   have hsub:subI x.Kids 0 (i:Int)=some (x.Kids.take i):=by
    unfold subI;rw [if_pos ⟨by omega,by omega,by omega⟩];simp
   simp only [gA,aB hi,if_true,aD hi,Option.bind_some,cG,hw,hsub,aAl (x.Kids.take i) _ (by simp;omega),aAd]
   rw [aGz hi]
   cases h3:inB x.Kids[i] 0 ((m:Int) - 1)
   ·rfl
   have h3':=inB_iff.1 h3
   cases h4:(x.Kids.take i).contains x.Kids[i]
   ·have hlt:x.Kids[i].toNat < nodes.length:=by omega
    rw [cW h3'.1 (by omega),List.getElem?_eq_getElem hlt]
    simp only [Bool.not_true,Bool.false_eq_true,if_false,Option.bind_some,Bool.not_false,Bool.true_and]
    cases uR x.Kind i nodes[x.Kids[i].toNat].Kind<;>rfl
   ·rfl) (by simp [gA])]
  have hkk:(List.range x.Kids.length).all (aPh nodes m x)=aLl nodes m x:=rfl
  rw [hkk]
  cases aLl nodes m x
  ·rfl
  unfold aNh aI2
  simp only [aAg,oC,Option.bind_some,Bool.not_true,Bool.false_eq_true,if_false,if_true]
  by_cases hkd:x.Kind=1
  ·have e:(x.Kind == 1)=true:=by simpa using hkd
   rw [if_pos hkd,if_pos e]
   cases inB x.Num 0 1000000000
   ·rfl
   cases pX x.Kind<;>rfl
  ·have e:¬ (x.Kind == 1)=true:=by simpa using hkd
   have e2:(x.Num != 0) = !(x.Num == 0):=rfl
   rw [if_neg hkd,if_neg e,e2]
   cases x.Num == 0
   ·rfl
   cases pX x.Kind<;>rfl
 ·simp only [Bool.eq_false_iff.2 hi,Bool.not_false,if_true]
  have hi':=inB_false.1 (Bool.eq_false_iff.2 hi)
  congr 1
  by_cases h0:0 ≤ k
  ·unfold nI
   rw [List.getElem?_eq_none (by omega)];simp
  ·simp [h0]
theorem aB2 (nodes:List GNode) (hn:nodes.length ≤ 1048576) (k:Int):mK nodes k=some (decide (0 ≤ k) && nI nodes k.toNat):=by
 unfold mK
 simp only [eV,Option.bind_some,jG hn]
 by_cases hi:inB k 0 ((nodes.length:Int) - 1)=true
 ·have hi':=inB_iff.1 hi
  have hk:k.toNat < nodes.length:=by omega
  have hkk:k=((k.toNat:Nat):Int):=by omega
  rw [decide_eq_true hi'.1,Bool.true_and]
  generalize k.toNat=m at *
  subst hkk
  unfold nI
  rw [List.getElem?_eq_getElem hk,aD hk]
  simp only [hi,Bool.not_true,Bool.false_eq_true,if_false,Option.bind_some,yX]
  generalize nodes[m]=x
  cases h1:inB x.Kind 1 20
  ·rfl
  simp only [Bool.not_true,Bool.false_eq_true,if_false,Bool.true_and]
  cases h2:inB x.Kids.length (iY x.Kind).1 (iY x.Kind).2
  ·rfl
  have h2':=inB_iff.1 h2
  have hs:=aD6 x.Kind
  have hkl:x.Kids.length ≤ 1048576:=by omega
  have hw:IntKind.wrap .i64 ((m:Int) - 1)=(m:Int) - 1:=w64 (by omega) (by omega)
  rw [oM x.Kids.length hkl (aPh nodes m x) false (fQ nodes m x) (fun i hi=>by
   simp only [fQ,aB hi,if_true,aD hi,Option.bind_some,eV,hw,yZ]
   rw [oM i (by omega) (fun j=>!(x.Kids[i] == (x.Kids[j]?).getD 0)) (.inr (.inr false)) (fP x i) (fun j hj=>by
    have hjl:j < x.Kids.length:=by omega
    simp only [fP,aB hj,if_true,aD hi,aD hjl,Option.bind_some,List.getElem?_eq_getElem hjl,Option.getD_some]
    cases x.Kids[i] == x.Kids[j]<;>rfl) (by simp [fP])]
   have hall:(List.range i).all (fun j=>!(x.Kids[i] == (x.Kids[j]?).getD 0)) = !((x.Kids.take i).contains x.Kids[i]):=by
    rw [Bool.eq_iff_iff]
    simp only [List.all_eq_true,List.mem_range,Bool.not_eq_true',List.contains_eq_mem,decide_eq_false_iff_not,beq_eq_false_iff_ne,ne_eq]
    constructor
    ·intro h hm
     obtain ⟨j,hj,e⟩:=List.mem_iff_getElem.1 hm
     simp only [List.length_take] at hj
     rw [List.getElem_take] at e
     refine h j (by omega) ?_
     rw [List.getElem?_eq_getElem (by omega)]
     exact e.symm
    ·intro h j hj e
     rw [List.getElem?_eq_getElem (show j < x.Kids.length by omega)] at e
     refine h ?_
     rw [e]
     refine List.mem_iff_getElem.2 ⟨j,by simp only [List.length_take];omega,?_⟩
     rw [List.getElem_take];rfl
   rw [hall]
   rw [aGz hi]
   cases h3:inB x.Kids[i] 0 ((m:Int) - 1)
   ·rfl
   have h3':=inB_iff.1 h3
   have hlt:x.Kids[i].toNat < nodes.length:=by omega
   rw [cW h3'.1 (by omega),List.getElem?_eq_getElem hlt]
   simp only [Bool.not_true,Bool.false_eq_true,if_false,Option.bind_some,Bool.true_and]
   cases uR x.Kind i nodes[x.Kids[i].toNat].Kind<;>cases (x.Kids.take i).contains x.Kids[i]<;>rfl) (by simp [fQ])]
  have hkk:(List.range x.Kids.length).all (aPh nodes m x)=aLl nodes m x:=rfl
  rw [hkk]
  unfold aNh aI2
  simp only [xB,nW,Option.bind_some,Bool.not_true,Bool.false_eq_true,if_false,if_true]
  have hname:(if (!(pX x.Kind == (!(sEq x.Name (⟨#[]⟩:ByteArray)))))=true then some true else if (!(sEq x.Name (⟨#[]⟩:ByteArray)))=true then some (!(rZ x.Name)) else some false)=some (!(if pX x.Kind=true then rZ x.Name else sEq x.Name ⟨#[]⟩)):=by
   cases he:sEq x.Name ⟨#[]⟩ with
   | true =>
    have:x.Name=⟨#[]⟩:=by rw [pI] at he;simpa using he
    cases pX x.Kind
    ·rfl
    ·rw [this,aGt];rfl
   | false =>
    cases pX x.Kind<;>rfl
  rw [hname]
  have hnum:(if (!(inB x.Num 0 1000000000))=true then some true else if (x.Kind != 1)=true then some (x.Num != 0) else some false)=some (!(if x.Kind=1 then inB x.Num 0 1000000000 else x.Num == 0)):=by
   have e2:(x.Num != 0) = !(x.Num == 0):=rfl
   by_cases hkd:x.Kind=1
   ·have e:(x.Kind != 1)=false:=by simp [hkd]
    rw [if_pos hkd,e]
    cases inB x.Num 0 1000000000<;>rfl
   ·have e:(x.Kind != 1)=true:=by simpa using hkd
    rw [if_neg hkd,e,e2]
    cases hz:x.Num == 0 with
    | true =>
     have:x.Num=0:=by simpa using hz
     rw [this];rfl
    | false=>cases inB x.Num 0 1000000000<;>rfl
  rw [hnum]
  generalize (if x.Kind=1 then inB x.Num 0 1000000000 else x.Num == 0)=u
  generalize (if pX x.Kind=true then rZ x.Name else sEq x.Name ⟨#[]⟩)=v
  cases u<;>cases v<;>cases aLl nodes m x<;>rfl
 ·simp only [Bool.eq_false_iff.2 hi,Bool.not_false,if_true,Option.bind_some]
  have hi':=inB_false.1 (Bool.eq_false_iff.2 hi)
  congr 1
  by_cases h0:0 ≤ k
  ·unfold nI
   rw [List.getElem?_eq_none (by omega)];simp
  ·simp [h0]
end Go.OM
namespace Go.OM
def mx (a b:Int):Int:=if b > a then b else a
def aHc (nodes:List GNode) (out:List Int) (i:Nat):Int:=match nodes[i]? with
 | some x=>x.Kids.foldl (fun d kid=>mx d (out.getD kid.toNat 0 + 1)) 1
 | none=>1
def iV (nodes:List GNode):Nat→List Int
 | 0=>[]
 | n + 1=>iV nodes n ++ [aHc nodes (iV nodes n) n]
def okU (nodes:List GNode):Nat→Bool
 | 0=>true
 | n + 1=>okU nodes n && (nI nodes n && decide (aHc nodes (iV nodes n) n ≤ 10))
def nT (nodes:List GNode) (k:Nat):Int:=aHc nodes (iV nodes k) k
theorem fK (nodes:List GNode):∀ n,(iV nodes n).length=n
 | 0=>rfl
 | n + 1=>by simp [iV,fK nodes n]
theorem lQ (nodes:List GNode):∀ (n j:Nat),j < n→(iV nodes n)[j]? = some (nT nodes j)
 | 0,j,h=>by omega
 | n + 1,j,h=>by
  simp only [iV]
  rcases Nat.lt_or_ge j n with h1 | h1
  ·rw [List.getElem?_append_left (by rw [fK];exact h1)]
   exact lQ nodes n j h1
  ·have:j=n:=by omega
   subst this
   rw [List.getElem?_append_right (by rw [fK];omega),fK]
   simp [nT]
theorem xY {nodes : List GNode} : ∀ {n m : Nat}, m ≤ n → okU nodes n = true → okU nodes m = true
  | 0, m, h, h1 => by have : m = 0 := by omega
                      subst this; rfl
  | n + 1, m, h, h1 => by
    by_cases e : m = n + 1
    · subst e; exact h1
    · simp only [okU, Bool.and_eq_true] at h1
      exact xY (by omega) h1.1
theorem jA {nodes:List GNode} {n j:Nat} (h:okU nodes n=true) (hj:j < n):nI nodes j=true∧nT nodes j ≤ 10:=by
 have:=xY (show j + 1 ≤ n by omega) h
 simp only [okU,Bool.and_eq_true,decide_eq_true_eq] at this
 exact this.2
theorem mx_ge (l:List Int) (g:Int→Int):∀ d,d ≤ l.foldl (fun d kid=>mx d (g kid)) d∧∀ kid ∈ l,g kid ≤ l.foldl (fun d kid=>mx d (g kid)) d:=by
 induction l with
 | nil=>intro d;simp
 | cons x l ih =>
  intro d
  rw [List.foldl_cons]
  obtain ⟨h1,h2⟩:=ih (mx d (g x))
  have h3:d ≤ mx d (g x)∧g x ≤ mx d (g x):=by unfold mx;split<;>omega
  refine ⟨by omega,fun kid hk=>?_⟩
  rcases List.mem_cons.1 hk with rfl | hk
  ·omega
  ·exact h2 kid hk
theorem gE (nodes:List GNode) (k:Nat):1 ≤ nT nodes k:=by
 unfold nT aHc
 split
 ·exact (mx_ge _ _ 1).1
 ·omega
theorem mM {nodes:List GNode} {k:Nat} (h:nI nodes k=true):∃ (hk:k < nodes.length),inB nodes[k].Kind 1 20=true∧inB nodes[k].Kids.length (iY nodes[k].Kind).1 (iY nodes[k].Kind).2=true∧(∀ (i:Nat) (hi:i < nodes[k].Kids.length),(0 ≤ nodes[k].Kids[i]∧nodes[k].Kids[i] < k)∧¬ nodes[k].Kids[i] ∈ nodes[k].Kids.take i∧∃ y,nodes[(nodes[k].Kids[i]).toNat]? = some y∧uR nodes[k].Kind i y.Kind=true)∧aNh nodes[k]=true∧aI2 nodes[k]=true:=by
 unfold nI at h
 split at h
 ·cases h
 ·rename_i x hx
  obtain ⟨hk,hxe⟩:=List.getElem?_eq_some_iff.1 hx
  subst hxe
  simp only [Bool.and_eq_true] at h
  obtain ⟨h1,h2,h3,h4,h5⟩:=h
  refine ⟨hk,h1,h2,fun i hi=>?_,h4,h5⟩
  have:=List.all_eq_true.1 h3 i (List.mem_range.2 hi)
  rw [aGz hi] at this
  simp only [Bool.and_eq_true,inB_iff,Bool.not_eq_true',List.contains_eq_mem,decide_eq_false_iff_not] at this
  obtain ⟨g1,g2,g3⟩:=this
  refine ⟨⟨g1.1,by omega⟩,g2,?_⟩
  split at g3
  ·rename_i y hy;exact ⟨y,hy,g3⟩
  ·cases g3
theorem fS {nodes:List GNode} {k:Nat} (h:nI nodes k=true) {x:GNode} (hx:nodes[k]? = some x):∀ kid ∈ x.Kids,0 ≤ kid∧kid < k:=by
 obtain ⟨hk,_,_,h3,_⟩:=mM h
 obtain ⟨_,hxe⟩:=List.getElem?_eq_some_iff.1 hx
 subst hxe
 intro kid hm
 obtain ⟨i,hi,rfl⟩:=List.mem_iff_getElem.1 hm
 exact (h3 i hi).1
theorem eH {nodes:List GNode} {k:Nat} (h:nI nodes k=true) {x:GNode} (hx:nodes[k]? = some x):x.Kids.length ≤ 12:=by
 obtain ⟨hk,_,h2,_⟩:=mM h
 obtain ⟨_,hxe⟩:=List.getElem?_eq_some_iff.1 hx
 subst hxe
 have:=inB_iff.1 h2
 have:=aD6 nodes[k].Kind
 omega
theorem uU {nodes:List GNode} {k:Nat} (h:nI nodes k=true) {x:GNode} (hx:nodes[k]? = some x) {kid:Int} (hm:kid ∈ x.Kids):nT nodes kid.toNat < nT nodes k:=by
 have hb:=fS h hx kid hm
 have:nT nodes k=x.Kids.foldl (fun d kid=>mx d ((iV nodes k).getD kid.toNat 0 + 1)) 1:=by unfold nT aHc;rw [hx]
 rw [this]
 have h2:=(mx_ge x.Kids (fun kid=>(iV nodes k).getD kid.toNat 0 + 1) 1).2 kid hm
 have h3:(iV nodes k).getD kid.toNat 0=nT nodes kid.toNat:=by
  rw [List.getD_eq_getElem?_getD,lQ nodes k kid.toNat (by omega)];rfl
 rw [h3] at h2
 omega
theorem aK1 (nodes:List GNode) (k:Nat) (x:GNode) (hx:nodes[k]? = some x) (hok:okU nodes k=true) (hn:nI nodes k=true):aG (eN (iV nodes k) x) (1,0)=some (nT nodes k):=by
 have hkl:=eH hn hx
 have hkb:=fS hn hx
 have hg:∀ kid ∈ x.Kids,(iV nodes k).getD kid.toNat 0=nT nodes kid.toNat:=fun kid hm=>by
  have:=hkb kid hm
  rw [List.getD_eq_getElem?_getD,lQ nodes k kid.toNat (by omega)];rfl
 have:=aU x.Kids (fun (d:Int) j=>(d,(j:Int))) (fun j d=>True) (fun d kid=>.inl (mx d ((iV nodes k).getD kid.toNat 0 + 1))) id (eN (iV nodes k) x) (fun d j hj _=>by
  left
  have hm:=List.getElem_mem hj
  have hb:=hkb _ hm
  have hd:=jA hok (show x.Kids[j].toNat < k by omega)
  have hp:=gE nodes x.Kids[j].toNat
  refine ⟨_,rfl,?_,trivial⟩
  have hlt:x.Kids[j].toNat < (iV nodes k).length:=by rw [fK];omega
  have hge:(iV nodes k)[x.Kids[j].toNat]=nT nodes x.Kids[j].toNat:=by
   have:=lQ nodes k x.Kids[j].toNat (by omega)
   rw [List.getElem?_eq_getElem hlt] at this
   exact Option.some.inj this
  simp only [eN,aB hj,if_true,aD hj,Option.bind_some]
  rw [cW hb.1 (by rw [fK];omega),hge]
  simp only [Option.bind_some,w64 (n:=nT nodes x.Kids[j].toNat + 1) (by omega) (by omega),aK hj (by omega),hg _ hm]
  rfl) (fun d _=>by simp [eN]) 1 trivial
 rw [bB] at this
 unfold nT aHc
 rw [hx]
 exact this
theorem aBp (nodes:List GNode) (hn:nodes.length ≤ 1048576) (k:Int):nA nodes k=some (if 0 ≤ k∧k < nodes.length∧okU nodes (k.toNat + 1)=true then (iV nodes (k.toNat + 1),true) else ([],false)):=by
 unfold nA
 simp only [cG,Option.bind_some,jG hn]
 by_cases hi:inB k 0 ((nodes.length:Int) - 1)=true
 ·have hi':=inB_iff.1 hi
  have hkk:k=((k.toNat:Nat):Int):=by omega
  have hk:k.toNat < nodes.length:=by omega
  generalize k.toNat=m at *
  subst hkk
  simp only [hi,Bool.not_true,Bool.false_eq_true,if_false]
  obtain ⟨r,h1,h2⟩:=cL (f:=fX nodes m) (fun s:List Int × Int=>∃ i:Nat,s.2=i∧i ≤ m + 1∧s.1=iV nodes i∧okU nodes i=true) (fun s=>m + 1 - s.2.toNat) (fun r=>r=if okU nodes (m + 1)=true then Sum.inl (iV nodes (m + 1)) else Sum.inr ([],false)) (by
   rintro ⟨out,i⟩ ⟨i,rfl,hle,ho,hok⟩
   simp only at ho hle
   subst ho
   by_cases hlt:i ≤ m
   ·have hd:decide ((i:Int) ≤ (m:Int))=true:=by simp only [decide_eq_true_eq];omega
    have hil:i < nodes.length:=by omega
    simp only [fX,hd,if_true,aBs nodes hn,Option.bind_some,Int.toNat_natCast]
    have h0:decide ((0:Int) ≤ (i:Int))=true:=by simp
    rw [h0,Bool.true_and]
    cases hnb:nI nodes i with
    | false =>
     right
     refine ⟨.inr ([],false),by simp,?_⟩
     have:okU nodes (m + 1)=false:=by
      rw [Bool.eq_false_iff]
      intro h
      rw [(jA h (show i < m + 1 by omega)).1] at hnb
      cases hnb
     rw [this];rfl
    | true =>
     simp only [Bool.not_true,Bool.false_eq_true,if_false,aD hil,Option.bind_some]
     rw [aK1 nodes i _ (List.getElem?_eq_getElem hil) hok hnb]
     simp only [Option.bind_some]
     by_cases hd10:nT nodes i > 10
     ·right
      rw [if_pos (by simpa using hd10)]
      refine ⟨.inr ([],false),rfl,?_⟩
      have:okU nodes (m + 1)=false:=by
       rw [Bool.eq_false_iff]
       intro h
       have:=(jA h (show i < m + 1 by omega)).2
       omega
      rw [this];rfl
     ·left
      rw [if_neg (by simpa using hd10),aPt (by rw [fK];omega) (by omega)]
      refine ⟨(iV nodes (i + 1),((i + 1:Nat):Int)),?_,⟨i + 1,rfl,by omega,rfl,?_⟩,by simp only [Int.toNat_natCast];omega⟩
      ·simp only [Option.bind_some,aK hil hn]
       rfl
      ·simp only [okU,hok,hnb,Bool.true_and,decide_eq_true_eq]
       show nT nodes i ≤ 10
       omega
   ·right
    have:i=m + 1:=by omega
    subst this
    have hd:decide (((m + 1:Nat):Int) ≤ (m:Int))=false:=by simp only [decide_eq_false_iff_not];omega
    refine ⟨.inl (iV nodes (m + 1)),by simp only [fX,hd,Bool.false_eq_true,if_false],?_⟩
    rw [hok];rfl) ([],0) ⟨0,rfl,by omega,rfl,rfl⟩
  rw [h1,h2]
  by_cases hok:okU nodes (m + 1)=true
  ·rw [if_pos hok,if_pos (show 0 ≤ (m:Int)∧(m:Int) < nodes.length∧okU nodes (m + 1)=true from ⟨by omega,by omega,hok⟩)];rfl
  ·rw [if_neg hok,if_neg (show ¬ (0 ≤ (m:Int)∧(m:Int) < nodes.length∧okU nodes (m + 1)=true) from fun h=>hok h.2.2)];rfl
 ·have hi':=inB_false.1 (Bool.eq_false_iff.2 hi)
  simp only [Bool.eq_false_iff.2 hi,Bool.not_false,if_true]
  rw [if_neg (show ¬ (0 ≤ k∧k < nodes.length∧okU nodes (k.toNat + 1)=true) from fun h=>hi' ⟨h.1,by omega⟩)]
def wG (nodes:List GNode) (k:Int):Int:=if 0 ≤ k∧k < nodes.length∧okU nodes (k.toNat + 1)=true then nT nodes k.toNat else 0
theorem sN (nodes:List GNode) (hn:nodes.length ≤ 1048576) (k:Int):kL nodes k=some (wG nodes k):=by
 unfold kL wG
 rw [aBp nodes hn]
 by_cases h:0 ≤ k∧k < nodes.length∧okU nodes (k.toNat + 1)=true
 ·rw [if_pos h,if_pos h]
  have hlt:k.toNat < (iV nodes (k.toNat + 1)).length:=by rw [fK];omega
  simp only [Option.bind_some,Bool.not_true,Bool.false_eq_true,if_false]
  rw [cW h.1 (by rw [fK];omega)]
  have:=lQ nodes (k.toNat + 1) k.toNat (by omega)
  rw [List.getElem?_eq_getElem hlt] at this
  simp only [Option.bind_some]
  exact this
 ·rw [if_neg h,if_neg h];rfl
def kC (nodes:List GNode) (n:Nat):List Int:=(List.range n).map fun j=>if okU nodes (j + 1)=true then nT nodes j else 0
theorem vI (nodes:List GNode) (n:Nat):(kC nodes n).length=n:=by simp [kC]
theorem rO (nodes:List GNode) {n j:Nat} (h:j < n):(kC nodes n)[j]? = some (if okU nodes (j + 1)=true then nT nodes j else 0):=by
 unfold kC
 rw [List.getElem?_map,List.getElem?_range h];rfl
theorem aEt {nodes:List GNode} {n:Nat} (h:okU nodes n=true):kC nodes n=iV nodes n:=by
 apply List.ext_getElem?
 intro j
 by_cases hj:j < n
 ·rw [rO nodes hj,lQ nodes n j hj,if_pos (xY (by omega) h)]
 ·rw [List.getElem?_eq_none (by rw [vI];omega),List.getElem?_eq_none (by rw [fK];omega)]
theorem aJb (nodes:List GNode) (k:Nat) (hk:k < nodes.length) (hok:okU nodes k=true) (hn:nI nodes k=true):aG (bH nodes (iV nodes k) k) (1,0)=some (nT nodes k):=by
 have hx:nodes[k]? = some nodes[k]:=List.getElem?_eq_getElem hk
 generalize hgx:nodes[k]=x at *
 have hkl:=eH hn hx
 have hkb:=fS hn hx
 have hg:∀ kid ∈ x.Kids,(iV nodes k).getD kid.toNat 0=nT nodes kid.toNat:=fun kid hm=>by
  have:=hkb kid hm
  rw [List.getD_eq_getElem?_getD,lQ nodes k kid.toNat (by omega)];rfl
 have hgk:aJ nodes (k:Int)=some x:=by rw [aD hk,hgx]
 have:=aU x.Kids (fun (d:Int) j=>(d,(j:Int))) (fun j d=>0 < d) (fun d kid=>.inl (mx d ((iV nodes k).getD kid.toNat 0 + 1))) id (bH nodes (iV nodes k) k) (fun d j hj hpos=>by
  left
  have hm:=List.getElem_mem hj
  have hb:=hkb _ hm
  have hd:=jA hok (show x.Kids[j].toNat < k by omega)
  have hp:=gE nodes x.Kids[j].toNat
  refine ⟨_,rfl,?_,by unfold mx;split<;>omega⟩
  have hlt:x.Kids[j].toNat < (iV nodes k).length:=by rw [fK];omega
  have hge:(iV nodes k)[x.Kids[j].toNat]=nT nodes x.Kids[j].toNat:=by
   have:=lQ nodes k x.Kids[j].toNat (by omega)
   rw [List.getElem?_eq_getElem hlt] at this
   exact Option.some.inj this
  have hp0:decide (d > 0)=true:=by simpa using hpos
  have hgi:aJ (iV nodes k) x.Kids[j]=some (nT nodes x.Kids[j].toNat):=by rw [cW hb.1 (by rw [fK];omega),hge]
  simp only [bH,hp0,if_true,hgk,Option.bind_some,aB hj,aD hj,hgi,w64 (n:=nT nodes x.Kids[j].toNat + 1) (by omega) (by omega),aK hj (by omega),hg _ hm]
  unfold mx
  by_cases hgt:nT nodes x.Kids[j].toNat + 1 > d
  ·rw [if_pos (by simpa using hgt),if_pos hgt]
  ·rw [if_neg (by simpa using hgt),if_neg hgt]) (fun d hd=>by
  have hp0:decide (d > 0)=true:=by simpa using hd
  simp [bH,hp0,hgk]) 1 (by omega)
 rw [bB] at this
 unfold nT aHc
 rw [hx]
 exact this
theorem tN (nodes:List GNode) (hn:nodes.length ≤ 1048576) (k:Nat) (hk:k < nodes.length):gO nodes k=some (kC nodes (k + 1)):=by
 unfold gO
 obtain ⟨r,h1,h2⟩:=cL (f:=dW nodes k) (fun s:List Int × Int=>∃ i:Nat,s.2=i∧i ≤ k + 1∧s.1=kC nodes i) (fun s=>k + 1 - s.2.toNat) (fun r=>r=kC nodes (k + 1)) (by
  rintro ⟨out,i⟩ ⟨i,rfl,hle,ho⟩
  simp only at ho hle
  subst ho
  by_cases hlt:i ≤ k
  ·left
   have hd:decide ((i:Int) ≤ (k:Int))=true:=by simp only [decide_eq_true_eq];omega
   have hil:i < nodes.length:=by omega
   have hd2:decide ((i:Int) < (nodes.length:Int))=true:=by simp only [decide_eq_true_eq];omega
   have h0:decide ((0:Int) ≤ (i:Int))=true:=by simp
   refine ⟨(kC nodes (i + 1),((i + 1:Nat):Int)),?_,⟨i + 1,rfl,by omega,rfl⟩,by simp only [Int.toNat_natCast];omega⟩
   simp only [dW,hd,hd2,if_true,aB2 nodes hn,Option.bind_some,Int.toNat_natCast,h0,Bool.true_and]
   -- is it right so far?
   have hflag:(if (!(nI nodes i))=true then some true else if (decide ((i:Int) > 0))=true then (aJ (kC nodes i) (IntKind.wrap .i64 ((i:Int) - 1))).bind fun e32=>some (e32 == 0) else some false)=some (!(nI nodes i && okU nodes i)):=by
    cases hnb:nI nodes i with
    | false=>rfl
    | true =>
     simp only [Bool.not_true,Bool.false_eq_true,if_false,Bool.true_and]
     by_cases hz:i=0
     ·subst hz;rfl
     ·have hp:decide ((i:Int) > 0)=true:=by simp only [decide_eq_true_eq];omega
      have hw:IntKind.wrap .i64 ((i:Int) - 1)=((i - 1:Nat):Int):=by rw [w64 (by omega) (by omega)];omega
      rw [if_pos hp,hw,aE2,rO nodes (show i - 1 < i by omega),show i - 1 + 1=i by omega]
      simp only [Option.bind_some]
      cases hok:okU nodes i with
      | true =>
       have:=gE nodes (i - 1)
       have hne:¬ nT nodes (i - 1)=0:=by omega
       simp [hne]
      | false=>simp
   rw [hflag]
   simp only [Option.bind_some]
   have hfin:(Option.bind (if (!(nI nodes i && okU nodes i))=true then some 0 else some (1:Int)) fun deep36=>Option.bind (aG (bH nodes (kC nodes i) i) (deep36,0)) fun deep62=>Option.bind (if (decide (deep62 > 10))=true then some 0 else some deep62) fun deep68=>(mF 8 (kC nodes i) [deep68]).bind fun l69=>some l69)=some (kC nodes (i + 1)):=by
    have hsucc:kC nodes (i + 1)=kC nodes i ++ [if okU nodes (i + 1)=true then nT nodes i else 0]:=by
     unfold kC;rw [List.range_succ,List.map_append];rfl
    have happ:∀ z:Int,mF 8 (kC nodes i) [z]=some (kC nodes i ++ [z]):=fun z=>aPt (by rw [vI];omega) (by omega)
    cases hb:(nI nodes i && okU nodes i) with
    | true =>
     simp only [Bool.and_eq_true] at hb
     simp only [Bool.not_true,Bool.false_eq_true,if_false,Option.bind_some]
     rw [aEt hb.2,aJb nodes i hil hb.2 hb.1,← aEt hb.2]
     simp only [Option.bind_some]
     rw [hsucc]
     by_cases hd10:nT nodes i > 10
     ·have hf:okU nodes (i + 1)=false:=by
       rw [Bool.eq_false_iff]
       intro h
       have:=(jA h (Nat.lt_succ_self i)).2
       omega
      rw [if_pos (by simpa using hd10),hf]
      simp only [Option.bind_some,happ,Bool.false_eq_true,if_false]
     ·have hf:okU nodes (i + 1)=true:=by
       simp only [okU,hb.1,hb.2,Bool.true_and,decide_eq_true_eq]
       show nT nodes i ≤ 10
       omega
      rw [if_neg (by simpa using hd10),hf]
      simp only [Option.bind_some,happ,if_true]
    | false =>
     have hf:okU nodes (i + 1)=false:=by
      rw [Bool.eq_false_iff]
      intro h
      simp only [okU,Bool.and_eq_true] at h
      rw [h.1,h.2.1] at hb
      cases hb
     simp only [Bool.not_false,if_true,Option.bind_some]
     rw [iH (r:=(0:Int)) (by simp [bH])]
     simp only [Option.bind_some]
     rw [hsucc,hf]
     simp [happ]
   have:=congrArg (fun z=>Option.bind z fun out70:List Int=>(some (Sum.inl (out70,IntKind.wrap .i64 ((i:Int) + 1))):Option ((List Int × Int) ⊕ List Int))) hfin
   simp only [Option.bind_some,aK hil hn] at this
   rw [aK hil hn]
   exact this
  ·right
   have:i=k + 1:=by omega
   subst this
   have hd:decide (((k + 1:Nat):Int) ≤ (k:Int))=false:=by simp only [decide_eq_false_iff_not];omega
   exact ⟨_,by simp only [dW,hd,Bool.false_eq_true,if_false,Option.bind_some],rfl⟩) ([],0) ⟨0,rfl,by omega,rfl⟩
 rw [h1,h2]
 rfl
theorem aB5 (nodes:List GNode) (hn:nodes.length ≤ 1048576) (k:Int):mL nodes k=some (wG nodes k):=by
 unfold mL wG
 simp only [eV,Option.bind_some,jG hn]
 by_cases hi:inB k 0 ((nodes.length:Int) - 1)=true
 ·have hi':=inB_iff.1 hi
  have hkk:k=((k.toNat:Nat):Int):=by omega
  have hk:k.toNat < nodes.length:=by omega
  generalize k.toNat=m at *
  subst hkk
  simp only [hi,Bool.not_true,Bool.false_eq_true,if_false]
  rw [tN nodes hn m hk]
  simp only [Option.bind_some,aE2]
  rw [rO nodes (Nat.lt_succ_self m)]
  by_cases hok:okU nodes (m + 1)=true
  ·rw [if_pos hok,if_pos (show 0 ≤ (m:Int)∧(m:Int) < nodes.length∧okU nodes (m + 1)=true from ⟨by omega,by omega,hok⟩)];rfl
  ·rw [if_neg hok,if_neg (show ¬ (0 ≤ (m:Int)∧(m:Int) < nodes.length∧okU nodes (m + 1)=true) from fun h=>hok h.2.2)];rfl
 ·have hi':=inB_false.1 (Bool.eq_false_iff.2 hi)
  simp only [Bool.eq_false_iff.2 hi,Bool.not_false,if_true]
  rw [if_neg (show ¬ (0 ≤ k∧k < nodes.length∧okU nodes (k.toNat + 1)=true) from fun h=>hi' ⟨h.1,by omega⟩)]
end Go.OM
namespace Go.OM
theorem aJi:iR=1048576:=rfl
theorem aCm {nodes:List GNode} {k:Int} (h:wG nodes k ≠ 0):0 ≤ k∧k < nodes.length∧okU nodes (k.toNat + 1)=true:=by
 unfold wG at h
 split at h
 ·assumption
 ·exact absurd rfl h
end Go.OM
namespace Go.OM
def zK (x:GParam):Bool:=rZ x.Name && inB x.Typ 1 4
def aHf (p:GProgram) (f:GFn):Bool:=inB f.Body 0 ((p.Nodes.length:Int) - 1) && (match p.Nodes[f.Body.toNat]? with | some x=>x.Kind == 20 | none=>false)
def retB (p:GProgram) (f:GFn):Bool:=if f.Res=0 then f.Ret == -1 else inB f.Ret 0 ((p.Nodes.length:Int) - 1) && (match p.Nodes[f.Ret.toNat]? with | some x=>qG x.Kind | none=>false)
def fnB (p:GProgram) (f:GFn):Bool:=rZ f.Name && (!decide ((f.Params.length:Int) > 3) && (inB f.Res 0 2 && (f.Params.all zK && (aHf p f && retB p f))))
theorem bodyB_iff {p:GProgram} {f:GFn}:aHf p f=true ↔ 0 ≤ f.Body∧f.Body < p.Nodes.length∧∃ x,p.Nodes[f.Body.toNat]? = some x∧x.Kind=20:=by
 unfold aHf
 rw [Bool.and_eq_true,inB_iff]
 constructor
 ·rintro ⟨⟨h1,h2⟩,h3⟩
  refine ⟨h1,by omega,?_⟩
  split at h3
  ·rename_i x hx;exact ⟨x,hx,by simpa using h3⟩
  ·cases h3
 ·rintro ⟨h1,h2,x,hx,hk⟩
  refine ⟨⟨h1,by omega⟩,?_⟩
  rw [hx];simpa using hk
theorem aGb (p:GProgram) (f:GFn) (hn:p.Nodes.length ≤ 1048576) (g:Bool→Option Bool):(Option.bind (if (!(inB f.Body 0 ((p.Nodes.length:Int) - 1)))=true then some true else (aJ p.Nodes f.Body).bind fun e=>some (e.Kind != 20)) fun v=>g v)=g (!(aHf p f)):=by
 unfold aHf
 cases h:inB f.Body 0 ((p.Nodes.length:Int) - 1) with
 | false=>rfl
 | true =>
  have h':=inB_iff.1 h
  have hlt:f.Body.toNat < p.Nodes.length:=by omega
  rw [cW h'.1 (by omega),List.getElem?_eq_getElem hlt]
  rfl
theorem aHw (p:GProgram) (f:GFn) (hn:p.Nodes.length ≤ 1048576):(if (f.Res == 0)=true then some (f.Ret == (-1)) else Option.bind (if inB f.Ret 0 ((p.Nodes.length:Int) - 1)=true then (aJ p.Nodes f.Ret).bind fun e=>some (qG e.Kind) else some false) fun v=>some v)=some (retB p f):=by
 unfold retB
 by_cases h0:f.Res=0
 ·rw [if_pos (by simpa using h0),if_pos h0]
 ·rw [if_neg (by simpa using h0),if_neg h0]
  cases h:inB f.Ret 0 ((p.Nodes.length:Int) - 1) with
  | false=>rfl
  | true =>
   have h':=inB_iff.1 h
   have hlt:f.Ret.toNat < p.Nodes.length:=by omega
   rw [cW h'.1 (by omega),List.getElem?_eq_getElem hlt]
   rfl
theorem aFs (p:GProgram) (f:GFn) (hn:p.Nodes.length ≤ 1048576):rE p f=some (fnB p f):=by
 unfold rE fnB
 simp only [oC,cG,rC,Option.bind_some,jG hn]
 cases hnm:rZ f.Name with
 | false=>rfl
 | true =>
  simp only [Bool.not_true,Bool.false_eq_true,if_false,Bool.true_and]
  by_cases hp3:(f.Params.length:Int) > 3
  ·rw [if_pos (by simpa using hp3),decide_eq_true hp3];rfl
  ·rw [if_neg (by simpa using hp3),decide_eq_false hp3]
   simp only [Bool.not_false,Bool.true_and]
   have hres:(if (f.Res != 0)=true then if (f.Res != 1)=true then some (f.Res != 2) else some false else some false)=some (!(inB f.Res 0 2)):=by
    by_cases h0:f.Res=0
    ·rw [h0];rfl
    ·by_cases h1:f.Res=1
     ·rw [h1];rfl
     ·by_cases h2:f.Res=2
      ·rw [h2];rfl
      ·have:inB f.Res 0 2=false:=inB_false.2 (by omega)
       simp [this,h0,h1,h2]
   rw [hres]
   cases hin:inB f.Res 0 2 with
   | false=>rfl
   | true =>
    simp only [Option.bind_some,Bool.not_true,Bool.false_eq_true,if_false,Bool.true_and]
    rw [qS f.Params zK (jD f) (fun k hk=>by
     simp only [jD,aB hk,if_true,aD hk,Option.bind_some,oC,cG,aK hk (by omega)]
     unfold zK
     cases rZ f.Params[k].Name
     ·rfl
     ·cases inB f.Params[k].Typ 1 4<;>rfl) (by simp [jD])]
    cases f.Params.all zK with
    | false=>rfl
    | true =>
     simp only [if_true,Option.bind_some,Bool.true_and]
     rw [aGb p f hn]
     cases aHf p f with
     | false=>rfl
     | true =>
      simp only [Bool.not_true,Bool.false_eq_true,if_false,Bool.true_and]
      exact aHw p f hn
def aK4 (p:GProgram) (nm:ByteArray) (k:Nat):Option Int:=match p.Fns[k]? with
 | some f=>if sEq f.Name nm=true then some (k:Int) else none
 | none=>none
def fI (p:GProgram) (nm:ByteArray):Int:=((List.range p.Fns.length).findSome? (aK4 p nm)).getD (-1)
theorem nR (p:GProgram) (nm:ByteArray) (hp:p.Fns.length ≤ 1048576):lP p nm=some (fI p nm):=by
 unfold lP fI
 rw [wD p.Fns.length (aK4 p nm) (jE p nm) (fun k hk=>by
  simp only [jE,aB hk,if_true,aD hk,Option.bind_some,aK hk hp]
  unfold aK4
  rw [List.getElem?_eq_getElem hk]
  cases h:sEq p.Fns[k].Name nm<;>simp [h]) (by simp [jE])]
 cases (List.range p.Fns.length).findSome? (aK4 p nm)<;>rfl
theorem qQ (p:GProgram) (nm:ByteArray) (hp:p.Fns.length ≤ 1048576):oK p nm=some (fI p nm):=nR p nm hp
theorem aD4 (p:GProgram) (i:Nat) (hi:i < p.Fns.length) (hn:p.Nodes.length ≤ 1048576) (hp:p.Fns.length ≤ 1048576):oG p i=some (fnB p p.Fns[i] && fI p p.Fns[i].Name == i):=by
 unfold oG fnB
 simp only [aD hi,nW,eV,pV,qQ p _ hp,Option.bind_some,jG hn]
 generalize p.Fns[i]=f
 cases hnm:rZ f.Name with
 | false=>rfl
 | true =>
  simp only [Bool.not_true,Bool.false_eq_true,if_false,Bool.true_and]
  cases hat:fI p f.Name == i with
  | false =>
   have:(fI p f.Name != i)=true:=by simp only [bne,hat,Bool.not_false]
   rw [this,Bool.and_false];rfl
  | true =>
   have:(fI p f.Name != i)=false:=by simp only [bne,hat,Bool.not_true]
   rw [this,Bool.and_true]
   simp only [Bool.false_eq_true,if_false]
   by_cases hp3:(f.Params.length:Int) > 3
   ·rw [if_pos (by simpa using hp3),decide_eq_true hp3];rfl
   ·rw [if_neg (by simpa using hp3),decide_eq_false hp3]
    simp only [Bool.not_false,Bool.true_and]
    cases hin:inB f.Res 0 2 with
    | false=>rfl
    | true =>
     simp only [Option.bind_some,Bool.not_true,Bool.false_eq_true,if_false,Bool.true_and]
     rw [qS f.Params zK (gN f) (fun k hk=>by
      simp only [gN,aB hk,if_true,aD hk,Option.bind_some,nW,eV,aK hk (by omega)]
      unfold zK
      cases rZ f.Params[k].Name
      ·rfl
      ·cases inB f.Params[k].Typ 1 4<;>rfl) (by simp [gN])]
     cases f.Params.all zK with
     | false=>rfl
     | true =>
      simp only [if_true,Option.bind_some,Bool.true_and]
      rw [aGb p f hn]
      cases aHf p f with
      | false=>rfl
      | true =>
       simp only [Bool.not_true,Bool.false_eq_true,if_false,Bool.true_and]
       exact aHw p f hn
def incs (d:Int) (l:List Int) (m:List Int):List Int:=l.foldl (fun m e=>m.set e.toNat (m.getD e.toNat 0 + d)) m
theorem aDs (d:Int):∀ (l m:List Int),(incs d l m).length=m.length
 | [],m=>rfl
 | e :: l,m=>by
  show (incs d l (m.set e.toNat (m.getD e.toNat 0 + d))).length=_
  rw [aDs d l];simp
theorem aA8 (d:Int) (a b m:List Int):incs d (a ++ b) m=incs d b (incs d a m):=by unfold incs;rw [List.foldl_append]
theorem aDt (d:Int) (k:Nat):∀ (l m:List Int),(∀ e ∈ l,0 ≤ e∧e < m.length)→(incs d l m).getD k 0=m.getD k 0 + d * (l.count (k:Int):Nat)
 | [],m,_=>by simp [incs]
 | e :: l,m,h=>by
  have he:=h e (by simp)
  have ih:=aDt d k l (m.set e.toNat (m.getD e.toNat 0 + d)) (fun x hx=>by rw [List.length_set];exact h x (by simp [hx]))
  show (incs d l (m.set e.toNat (m.getD e.toNat 0 + d))).getD k 0=_
  rw [ih,List.count_cons]
  by_cases hk:e.toNat=k
  ·have:(e == (k:Int))=true:=by simp only [beq_iff_eq];omega
   rw [if_pos this]
   have hg:(m.set e.toNat (m.getD e.toNat 0 + d)).getD k 0=m.getD k 0 + d:=by
    rw [List.getD_eq_getElem?_getD,List.getElem?_set,if_pos hk,if_pos (by omega),hk];rfl
   rw [hg,Int.natCast_add,Int.mul_add]
   simp only [Int.natCast_one,Int.mul_one]
   omega
  ·have:¬ (e == (k:Int))=true:=by simp only [beq_iff_eq];omega
   rw [if_neg this]
   have hg:(m.set e.toNat (m.getD e.toNat 0 + d)).getD k 0=m.getD k 0:=by
    rw [List.getD_eq_getElem?_getD,List.getElem?_set,if_neg hk,← List.getD_eq_getElem?_getD]
   rw [hg];rfl
structure Bd (n:Nat) (C:Int) (m:List Int):Prop where
 len:m.length=n
 bnd:∀ v ∈ m,0 ≤ v∧v ≤ C
theorem Bd.mono {n:Nat} {C C':Int} {m:List Int} (h:Bd n C m) (hc:C ≤ C'):Bd n C' m:=⟨h.len,fun v hv=>by have:=h.bnd v hv;omega⟩
theorem Bd.getD {n:Nat} {C:Int} {m:List Int} (h:Bd n C m) (hC:0 ≤ C) (k:Nat):0 ≤ m.getD k 0∧m.getD k 0 ≤ C:=by
 rw [List.getD_eq_getElem?_getD]
 cases hk:m[k]? with
 | none=>exact ⟨Int.le_refl 0,hC⟩
 | some v=>exact h.bnd v (List.mem_of_getElem? hk)
theorem Bd.set {n:Nat} {C d:Int} {m:List Int} (h:Bd n C m) (hC:0 ≤ C) (hd:0 ≤ d) (k:Nat):Bd n (C + d) (m.set k (m.getD k 0 + d)):=⟨by rw [List.length_set];exact h.len,fun v hv=>by
 rcases List.mem_or_eq_of_mem_set hv with h1 | h1
 ·have:=h.bnd v h1;omega
 ·have:=h.getD hC k;omega⟩
theorem Bd.incs {n:Nat} {d:Int} (hd:0 ≤ d):∀ (l:List Int) {C:Int} {m:List Int},0 ≤ C→Bd n C m→Bd n (C + d * l.length) (Go.OM.incs d l m)
 | [],C,m,hC,h=>by simpa [Go.OM.incs] using h
 | e :: l,C,m,hC,h=>by
  have:=Bd.incs hd l (C:=C + d) (by omega) (h.set hC hd e.toNat)
  refine this.mono ?_
  rw [List.length_cons,Int.natCast_add,Int.mul_add]
  simp only [Int.natCast_one,Int.mul_one]
  omega
theorem aIe {ρ:Type} (n:Nat) (kids:List Int) (hk:∀ e ∈ kids,0 ≤ e∧e < n) (C:Int) (hC:0 ≤ C) (f:List Int × Int→Option ((List Int × Int) ⊕ ρ)) (fin:List Int→ρ)
  (hf:∀ (m:List Int) (j:Nat) (hj:j < kids.length),Bd n (C + kids.length) m→f (m,j)=some (.inl (m.set kids[j].toNat (m.getD kids[j].toNat 0 + 1),((j + 1:Nat):Int))))
  (he:∀ m:List Int,f (m,kids.length)=some (.inr (fin m))) (m:List Int) (hm:Bd n C m):aG f (m,0)=some (fin (incs 1 kids m)):=by
 have:=aU kids (fun (m:List Int) j=>(m,(j:Int))) (fun j m=>Bd n (C + j) m) (fun m e=>.inl (m.set e.toNat (m.getD e.toNat 0 + 1))) fin f (fun m j hj hI=>by
  left
  refine ⟨_,rfl,hf m j hj (hI.mono (by omega)),?_⟩
  have:=hI.set (by omega) (show (0:Int) ≤ 1 by omega) kids[j].toNat
  exact this.mono (by omega)) (fun m _=>he m) m (by simpa using hm)
 rw [bB] at this
 exact this
def aFm (nodes:List GNode):List Int:=nodes.flatMap (·.Kids)
def kc (nodes:List GNode) (k:Nat):Nat:=(aFm nodes).count (k:Int)
theorem tT {nodes:List GNode} (h:okU nodes nodes.length=true) {x:GNode} (hx:x ∈ nodes):x.Kids.length ≤ 12∧(∀ e ∈ x.Kids,0 ≤ e∧e < nodes.length)∧x.Kids.Nodup:=by
 obtain ⟨i,hi,rfl⟩:=List.mem_iff_getElem.1 hx
 have hn:=(jA h hi).1
 have hg:nodes[i]? = some nodes[i]:=List.getElem?_eq_getElem hi
 refine ⟨eH hn hg,fun e he=>?_,?_⟩
 ·have:=fS hn hg e he;omega
 ·obtain ⟨_,_,_,h3,_⟩:=mM hn
  rw [List.nodup_iff_pairwise_ne,List.pairwise_iff_getElem]
  intro a b ha hb hab e
  refine (h3 b hb).2.1 ?_
  rw [← e]
  refine List.mem_iff_getElem.2 ⟨a,by simp only [List.length_take];omega,?_⟩
  rw [List.getElem_take]
theorem kc_le {nodes:List GNode} (h:okU nodes nodes.length=true) (k:Nat):kc nodes k ≤ nodes.length:=by
 have key:∀ l:List GNode,(∀ x ∈ l,x.Kids.Nodup)→(l.flatMap (·.Kids)).count (k:Int) ≤ l.length:=by
  intro l
  induction l with
  | nil=>intro _;simp
  | cons x l ih =>
   intro hl
   rw [List.flatMap_cons,List.count_append,List.length_cons]
   have h1:=ih fun y hy=>hl y (by simp [hy])
   have h2:=List.nodup_iff_count.1 (hl x (by simp)) (k:Int)
   omega
 exact key nodes fun x hx=>(tT h hx).2.2
theorem aFk (nodes:List GNode) (hok:okU nodes nodes.length=true) (hn:nodes.length ≤ 300) (f:List Int × Int→Option ((List Int × Int) ⊕ List Int))
  (hf:∀ (m:List Int) (i:Nat) (hi:i < nodes.length),Bd nodes.length (12 * i) m→f (m,i)=some (.inl (incs 1 nodes[i].Kids m,((i + 1:Nat):Int))))
  (he:∀ m:List Int,f (m,nodes.length)=some (.inr m)):aG f (List.replicate nodes.length 0,0)=some (incs 1 (aFm nodes) (List.replicate nodes.length 0)):=by
 have:=aU nodes (fun (m:List Int) j=>(m,(j:Int))) (fun j m=>Bd nodes.length (12 * j) m) (fun m x=>.inl (incs 1 x.Kids m)) id f (fun m j hj hI=>by
  left
  refine ⟨_,rfl,hf m j hj hI,?_⟩
  have h12:=(tT hok (List.getElem_mem hj)).1
  have:=Bd.incs (show (0:Int) ≤ 1 by omega) nodes[j].Kids (by omega) hI
  exact this.mono (by omega)) (fun m _=>he m) (List.replicate nodes.length 0) ⟨by simp,fun v hv=>by
   have:=(List.mem_replicate.1 hv).2
   omega⟩
 rw [bB] at this
 have e:∀ (l:List GNode) (m:List Int),l.foldl (fun m x=>incs 1 x.Kids m) m=incs 1 (l.flatMap (·.Kids)) m:=by
  intro l
  induction l with
  | nil=>intro m;rfl
  | cons x l ih=>intro m;rw [List.foldl_cons,List.flatMap_cons,aA8,ih]
 rw [e] at this
 exact this
def aJt (nodes:List GNode):List Int:=incs 1 (aFm nodes) (List.replicate nodes.length 0)
theorem tX (nodes:List GNode):(aJt nodes).length=nodes.length:=by unfold aJt;rw [aDs];simp
theorem rQ {nodes:List GNode} (h:okU nodes nodes.length=true) (k:Nat):(aJt nodes).getD k 0=(kc nodes k:Nat):=by
 unfold aJt
 rw [aDt 1 k _ _ (fun e he=>by
  obtain ⟨x,hx,hm⟩:=List.mem_flatMap.1 he
  rw [List.length_replicate]
  exact (tT h hx).2.1 e hm)]
 have:(List.replicate nodes.length (0:Int)).getD k 0=0:=by
  rw [List.getD_eq_getElem?_getD,List.getElem?_replicate];split<;>rfl
 rw [this]
 unfold kc
 omega
theorem aNm (p:GProgram) (hok:okU p.Nodes p.Nodes.length=true) (hn:p.Nodes.length ≤ 300):aG (dL p) (List.replicate p.Nodes.length 0,0)=some (aJt p.Nodes):=by
 refine aFk p.Nodes hok hn _ (fun m i hi hI=>?_) (fun m=>by simp [dL])
 obtain ⟨h12,hb,_⟩:=tT hok (List.getElem_mem hi)
 simp only [dL,aB hi,if_true,aD hi,Option.bind_some]
 rw [aIe p.Nodes.length p.Nodes[i].Kids hb (12 * i) (by omega) (dK p.Nodes[i]) id (fun m j hj hm=>by
  have hbe:=hb _ (List.getElem_mem hj)
  have hg:=hm.getD (by omega) p.Nodes[i].Kids[j].toNat
  simp only [dK,aB hj,if_true,aD hj,Option.bind_some]
  rw [cW hbe.1 (by rw [hm.len];exact hbe.2)]
  have hlt:p.Nodes[i].Kids[j].toNat < m.length:=by rw [hm.len];omega
  have e:m[p.Nodes[i].Kids[j].toNat]=m.getD p.Nodes[i].Kids[j].toNat 0:=by rw [List.getD_eq_getElem?_getD,List.getElem?_eq_getElem hlt];rfl
  rw [e]
  simp only [Option.bind_some,bD,w64 (n:=m.getD p.Nodes[i].Kids[j].toNat 0 + 1) (by omega) (by omega),aK hj (show p.Nodes[i].Kids.length ≤ 1048576 by omega)]) (fun m=>by simp [dK]) m hI]
 simp only [Option.bind_some,id,aK hi (show p.Nodes.length ≤ 1048576 by omega)]
theorem aN2 (nodes:List GNode) (hok:okU nodes nodes.length=true) (hn:nodes.length ≤ 300):kR nodes=some (aJt nodes):=by
 unfold kR
 rw [sX _ _ _ (by omega) (by omega)]
 simp only [Option.bind_some]
 rw [aFk nodes hok hn (eR nodes) (fun m i hi hI=>by
  obtain ⟨h12,hb,_⟩:=tT hok (List.getElem_mem hi)
  simp only [eR,aB hi,if_true]
  rw [aIe nodes.length nodes[i].Kids hb (12 * i) (by omega) (eQ nodes i) id (fun m j hj hm=>by
   have hbe:=hb _ (List.getElem_mem hj)
   have hg:=hm.getD (by omega) nodes[i].Kids[j].toNat
   simp only [eQ,aD hi,aB hj,if_true,aD hj,Option.bind_some]
   rw [cW hbe.1 (by rw [hm.len];exact hbe.2)]
   have hlt:nodes[i].Kids[j].toNat < m.length:=by rw [hm.len];omega
   have e:m[nodes[i].Kids[j].toNat]=m.getD nodes[i].Kids[j].toNat 0:=by rw [List.getD_eq_getElem?_getD,List.getElem?_eq_getElem hlt];rfl
   rw [e]
   simp only [Option.bind_some,bD,w64 (n:=m.getD nodes[i].Kids[j].toNat 0 + 1) (by omega) (by omega),aK hj (show nodes[i].Kids.length ≤ 1048576 by omega)]) (fun m=>by simp [eQ,aD hi]) m hI]
  simp only [Option.bind_some,id,aK hi (show nodes.length ≤ 1048576 by omega)]) (fun m=>by simp [eR])]
 rfl
def kW (f:GFn):List Int:=if f.Ret < 0 then [f.Body] else [f.Body,f.Ret]
def sG (p:GProgram) (n:Nat):List Int:=(p.Fns.take n).flatMap kW
def kB (p:GProgram):List Int:=p.Fns.flatMap kW
theorem aC4 (p:GProgram):sG p p.Fns.length=kB p:=by unfold sG kB;rw [List.take_length]
theorem zF (p:GProgram) {n:Nat} (h:n < p.Fns.length):sG p (n + 1)=sG p n ++ kW p.Fns[n]:=by
 unfold sG
 rw [List.take_add_one,List.getElem?_eq_getElem h,List.flatMap_append];simp
def nK (p:GProgram) (i:Nat):Bool:=match p.Fns[i]? with
 | some f=>fnB p f && fI p f.Name == i
 | none=>false
theorem rU {p:GProgram} {i:Nat} (h:i < p.Fns.length):nK p i=(fnB p p.Fns[i] && fI p p.Fns[i].Name == i):=by unfold nK;rw [List.getElem?_eq_getElem h]
theorem uQ {p:GProgram} {f:GFn} (h:fnB p f=true):(∀ e ∈ kW f,0 ≤ e∧e < p.Nodes.length)∧0 ≤ f.Body∧f.Body < p.Nodes.length∧f.Ret < p.Nodes.length:=by
 unfold fnB at h
 simp only [Bool.and_eq_true] at h
 obtain ⟨_,_,_,_,h5,h6⟩:=h
 obtain ⟨b1,b2,_⟩:=bodyB_iff.1 h5
 have hr:f.Ret < p.Nodes.length:=by
  unfold retB at h6
  split at h6
  ·simp only [beq_iff_eq] at h6;omega
  ·rw [Bool.and_eq_true,inB_iff] at h6;omega
 refine ⟨?_,b1,b2,hr⟩
 intro e he
 unfold kW at he
 split at he
 ·simp only [List.mem_singleton] at he;subst he;exact ⟨b1,b2⟩
 ·simp only [List.mem_cons,List.not_mem_nil,or_false] at he
  rcases he with rfl | rfl
  ·exact ⟨b1,b2⟩
  ·exact ⟨by omega,hr⟩
def nJ:List Int→List Int→Option (List Int)
 | [],m=>some m
 | r :: rs,m=>if m.getD r.toNat 0=0 then nJ rs (m.set r.toNat (-1)) else none
theorem qR:∀ (a b m:List Int),nJ (a ++ b) m=(nJ a m).bind (nJ b)
 | [],b,m=>rfl
 | r :: a,b,m=>by
  simp only [List.cons_append,nJ]
  split
  ·exact qR a b _
  ·rfl
theorem aCd (n:Nat):∀ (rs m:List Int),m.length=n→(∀ r ∈ rs,0 ≤ r∧r < n) →
  (match nJ rs m with
   | some m'=>(rs.Nodup∧∀ r ∈ rs,m.getD r.toNat 0=0)∧m'.length=n∧∀ k:Nat,m'.getD k 0=if (k:Int) ∈ rs then -1 else m.getD k 0
   | none=>¬ (rs.Nodup∧∀ r ∈ rs,m.getD r.toNat 0=0))
 | [],m,hm,_=>by simp [nJ,hm]
 | r :: rs,m,hm,h=>by
  have hr:=h r (by simp)
  simp only [nJ]
  by_cases h0:m.getD r.toNat 0=0
  ·rw [if_pos h0]
   have ih:=aCd n rs (m.set r.toNat (-1)) (by rw [List.length_set];exact hm) (fun x hx=>h x (by simp [hx]))
   have hget:∀ k:Nat,(m.set r.toNat (-1)).getD k 0=if (k:Int)=r then -1 else m.getD k 0:=by
    intro k
    rw [List.getD_eq_getElem?_getD,List.getElem?_set]
    by_cases hk:r.toNat=k
    ·rw [if_pos hk,if_pos (by omega),if_pos (by omega)];rfl
    ·rw [if_neg hk,if_neg (by omega),← List.getD_eq_getElem?_getD]
   have hre:∀ x ∈ rs,((x.toNat:Nat):Int)=x:=fun x hx=>by have:=h x (by simp [hx]);omega
   split at ih
   ·rename_i m' hm'
    try rw [hm']
    obtain ⟨⟨i1,i2⟩,i3,i4⟩:=ih
    have hnr:r ∉ rs:=fun hm=>by
     have:=i2 r hm
     rw [hget,hre r hm,if_pos rfl] at this
     omega
    refine ⟨⟨List.nodup_cons.2 ⟨hnr,i1⟩,fun x hx=>?_⟩,i3,fun k=>?_⟩
    ·rcases List.mem_cons.1 hx with rfl | hx
     ·exact h0
     ·have:=i2 x hx
      rw [hget,hre x hx] at this
      split at this
      ·omega
      ·exact this
    ·rw [i4,hget]
     by_cases h1:(k:Int) ∈ rs
     ·rw [if_pos h1,if_pos (by simp [h1])]
     ·rw [if_neg h1]
      by_cases h2:(k:Int)=r
      ·rw [if_pos h2,if_pos (by simp [h2])]
      ·rw [if_neg h2,if_neg (by simp [h1,h2])]
   ·rename_i hm'
    try rw [hm']
    rintro ⟨j1,j2⟩
    rw [List.nodup_cons] at j1
    refine ih ⟨j1.2,fun x hx=>?_⟩
    rw [hget,hre x hx]
    have:¬ x=r:=fun e=>j1.1 (e ▸ hx)
    rw [if_neg this]
    exact j2 x (by simp [hx])
  ·rw [if_neg h0]
   rintro ⟨_,j2⟩
   exact h0 (j2 r (by simp))
def yK (n:Nat):Bool:=n == 1 || n == 1000
def rY (p:GProgram):Bool:=inB p.Nodes.length 1 300 && (inB p.Fns.length 1 8 && (okU p.Nodes p.Nodes.length && ((List.range p.Fns.length).all (nK p) && (List.range p.Nodes.length).all fun k=>yK (kc p.Nodes k + 1000 * (kB p).count (k:Int)))))
theorem aKa {nodes:List GNode} (h:1 ≤ nodes.length):(wG nodes ((nodes.length:Int) - 1) == 0) = !(okU nodes nodes.length):=by
 unfold wG
 have e:((nodes.length:Int) - 1).toNat=nodes.length - 1:=by omega
 rw [e,show nodes.length - 1 + 1=nodes.length by omega]
 cases hok:okU nodes nodes.length with
 | true =>
  rw [if_pos ⟨by omega,by omega,rfl⟩]
  have:=gE nodes (nodes.length - 1)
  have hne:¬ nT nodes (nodes.length - 1)=0:=by omega
  simp [hne]
 | false=>rw [if_neg (fun h=>by cases h.2.2)];rfl
theorem aJz (p:GProgram) (f:GFn) (hf:fnB p f=true) (m:List Int) (hm:m.length=p.Nodes.length):aG (aH f) (m,0)=some (match nJ (kW f) m with | some m'=>.inl m' | none=>.inr (.inr (.inr false))):=by
 obtain ⟨_,b0,b1,r1⟩:=uQ hf
 have hl:(([f.Body,f.Ret]:List Int).length:Int)=2:=rfl
 have g0:aJ [f.Body,f.Ret] 0=some f.Body:=rfl
 have g1:aJ [f.Body,f.Ret] 1=some f.Ret:=rfl
 have d0:decide ((0:Int) < 2)=true:=rfl
 have d1:decide ((1:Int) < 2)=true:=rfl
 have d2:decide ((2:Int) < 2)=false:=rfl
 have w0:IntKind.wrap .i64 ((0:Int) + 1)=1:=rfl
 have w1:IntKind.wrap .i64 ((1:Int) + 1)=2:=rfl
 have hgd:∀ (m:List Int) (v:Int),m.length=p.Nodes.length→0 ≤ v→v < p.Nodes.length→aJ m v=some (m.getD v.toNat 0):=fun m v hm h0 h1=>by
  have hlt:v.toNat < m.length:=by omega
  rw [cW h0 (by omega),List.getD_eq_getElem?_getD,List.getElem?_eq_getElem hlt];rfl
 have step1:∀ m:List Int,m.length=p.Nodes.length→aG (aH f) (m,1)=some (match nJ (if f.Ret < 0 then [] else [f.Ret]) m with | some m'=>.inl m' | none=>.inr (.inr (.inr false))):=by
  intro m hm
  by_cases hr:f.Ret < 0
  ·have:aH f (m,1)=some (.inl (m,2)):=by
    simp only [aH,hl,d1,if_true,g1,Option.bind_some,w1]
    rw [if_pos (by simpa using hr)]
   rw [oO this,if_pos hr,iH (r:=.inl m) (by simp only [aH,hl,d2,Bool.false_eq_true,if_false])]
   rfl
  ·rw [if_neg hr]
   simp only [nJ]
   by_cases hz:m.getD f.Ret.toNat 0=0
   ·have:aH f (m,1)=some (.inl (m.set f.Ret.toNat (-1),2)):=by
     simp only [aH,hl,d1,if_true,g1,Option.bind_some,w1]
     rw [if_neg (by simpa using hr),hgd m f.Ret hm (by omega) r1]
     simp only [Option.bind_some,hz,bD]
     rfl
    rw [oO this,if_pos hz,iH (r:=.inl (m.set f.Ret.toNat (-1))) (by simp only [aH,hl,d2,Bool.false_eq_true,if_false])]
   ·have:aH f (m,1)=some (.inr (.inr (.inr (.inr false)))):=by
     simp only [aH,hl,d1,if_true,g1,Option.bind_some,w1]
     rw [if_neg (by simpa using hr),hgd m f.Ret hm (by omega) r1]
     simp only [Option.bind_some]
     rw [if_pos (by simpa using hz)]
    rw [iH this,if_neg hz]
 have hsplit:kW f=f.Body :: (if f.Ret < 0 then [] else [f.Ret]):=by unfold kW;split<;>rfl
 rw [hsplit]
 simp only [nJ]
 have hb:¬ f.Body < 0:=by omega
 by_cases hz:m.getD f.Body.toNat 0=0
 ·have:aH f (m,0)=some (.inl (m.set f.Body.toNat (-1),1)):=by
   simp only [aH,hl,d0,if_true,g0,Option.bind_some,w0]
   rw [if_neg (by simpa using hb),hgd m f.Body hm b0 b1]
   simp only [Option.bind_some,hz,bD]
   rfl
  rw [oO this,if_pos hz,step1 _ (by rw [List.length_set];exact hm)]
 ·have:aH f (m,0)=some (.inr (.inr (.inr (.inr false)))):=by
   simp only [aH,hl,d0,if_true,g0,Option.bind_some,w0]
   rw [if_neg (by simpa using hb),hgd m f.Body hm b0 b1]
   simp only [Option.bind_some]
   rw [if_pos (by simpa using hz)]
  rw [iH this,if_neg hz]
theorem aF8:∀ (rs m:List Int) {m':List Int},nJ rs m=some m'→m'.length=m.length
 | [],m,m',h=>by cases h;rfl
 | r :: rs,m,m',h=>by
  simp only [nJ] at h
  split at h
  ·rw [aF8 rs _ h];simp
  ·cases h
theorem aK0 (p:GProgram) (hn:p.Nodes.length ≤ 300) (hp:p.Fns.length ≤ 8) (m0:List Int) (hm0:m0.length=p.Nodes.length):aG (cI p) (m0,0)=some (if (List.range p.Fns.length).all (nK p)=true then (match nJ (kB p) m0 with | some m=>.inl m | none=>.inr false) else .inr false):=by
 obtain ⟨r,h1,h2⟩:=cL (f:=cI p) (fun s:List Int × Int=>∃ i:Nat,s.2=i∧i ≤ p.Fns.length∧(∀ j,j < i→nK p j=true)∧nJ (sG p i) m0=some s.1) (fun s=>p.Fns.length - s.2.toNat) (fun r=>r=if (List.range p.Fns.length).all (nK p)=true then (match nJ (kB p) m0 with | some m=>.inl m | none=>.inr false) else .inr false) (by
  rintro ⟨m,i⟩ ⟨i,rfl,hi,hg,hm⟩
  simp only at hm hi
  have hml:m.length=p.Nodes.length:=by rw [aF8 _ _ hm];exact hm0
  by_cases hlt:i < p.Fns.length
  ·have hbad:(nK p i=false)→(List.range p.Fns.length).all (nK p)=false:=by
    intro hb
    rw [Bool.eq_false_iff]
    intro h
    rw [List.all_eq_true.1 h i (List.mem_range.2 hlt)] at hb
    cases hb
   have hgi:=rU hlt
   have hcond:(Option.bind (if (!(fnB p p.Fns[i]))=true then some true else some (fI p p.Fns[i].Name != (i:Int))) fun v:Bool=>some v)=some (!(nK p i)):=by
    rw [hgi];cases fnB p p.Fns[i]<;>rfl
   have hcond2:(if (!(fnB p p.Fns[i]))=true then some true else some (fI p p.Fns[i].Name != (i:Int)))=some (!(nK p i)):=by
    rw [hgi];cases fnB p p.Fns[i]<;>rfl
   simp only [cI,aB hlt,if_true,aD hlt,Option.bind_some,aFs p _ (show p.Nodes.length ≤ 1048576 by omega),nR p _ (show p.Fns.length ≤ 1048576 by omega),hcond2]
   cases hgb:nK p i with
   | false =>
    right
    refine ⟨.inr false,rfl,?_⟩
    rw [hbad hgb];rfl
   | true =>
    simp only [Bool.not_true,Bool.false_eq_true,if_false]
    have hfb:fnB p p.Fns[i]=true:=by rw [hgi,Bool.and_eq_true] at hgb;exact hgb.1
    rw [aJz p _ hfb m hml]
    simp only [Option.bind_some]
    have hsucc:nJ (sG p (i + 1)) m0=nJ (kW p.Fns[i]) m:=by
     rw [zF p hlt,qR,hm];rfl
    cases hmr:nJ (kW p.Fns[i]) m with
    | some m' =>
     left
     refine ⟨(m',((i + 1:Nat):Int)),by simp only [aK hlt (show p.Fns.length ≤ 1048576 by omega)],⟨i + 1,rfl,by omega,fun j hj=>?_,by rw [hsucc];exact hmr⟩,by simp only [Int.toNat_natCast];omega⟩
     by_cases e:j=i
     ·subst e;exact hgb
     ·exact hg j (by omega)
    | none =>
     right
     refine ⟨.inr false,rfl,?_⟩
     have:nJ (kB p) m0=none:=by
      have hsp:kB p=sG p (i + 1) ++ (p.Fns.drop (i + 1)).flatMap kW:=by
       unfold kB sG
       rw [← List.flatMap_append,List.take_append_drop]
      rw [hsp,qR,hsucc,hmr];rfl
     rw [this];split<;>rfl
  ·right
   have:i=p.Fns.length:=by omega
   subst this
   refine ⟨.inl m,by simp [cI],?_⟩
   rw [if_pos (List.all_eq_true.2 fun j hj=>hg j (List.mem_range.1 hj)),← aC4,hm]) (m0,0) ⟨0,rfl,by omega,fun j hj=>by omega,rfl⟩
 rw [h1,h2]
theorem zI (n:Nat) (m:List Int) (q:Int→Bool) (hm:m.length=n):m.all q=(List.range n).all fun k=>q (m.getD k 0):=by
 rw [Bool.eq_iff_iff,List.all_eq_true,List.all_eq_true]
 constructor
 ·intro h k hk
  have hk':k < m.length:=by rw [hm];exact List.mem_range.1 hk
  rw [List.getD_eq_getElem?_getD,List.getElem?_eq_getElem hk']
  exact h _ (List.getElem_mem hk')
 ·intro h v hv
  obtain ⟨k,hk,rfl⟩:=List.mem_iff_getElem.1 hv
  have:=h k (List.mem_range.2 (by omega))
  rw [List.getD_eq_getElem?_getD,List.getElem?_eq_getElem hk] at this
  exact this
theorem aEu {p:GProgram} (h:(List.range p.Fns.length).all (nK p)=true):∀ e ∈ kB p,0 ≤ e∧e < p.Nodes.length:=by
 intro e he
 obtain ⟨f,hf,hm⟩:=List.mem_flatMap.1 he
 obtain ⟨i,hi,rfl⟩:=List.mem_iff_getElem.1 hf
 have:=List.all_eq_true.1 h i (List.mem_range.2 hi)
 rw [rU hi,Bool.and_eq_true] at this
 exact (uQ this.1).1 e hm
theorem wB (p:GProgram) (hn:p.Nodes.length ≤ 1048576) (hp:p.Fns.length ≤ 1048576):iM p=some (rY p):=by
 unfold iM rY
 simp only [cG,Option.bind_some,jG hn,sN p.Nodes hn]
 cases h1:inB p.Nodes.length 1 300 with
 | false=>rfl
 | true =>
  have h1':=inB_iff.1 h1
  cases h2:inB p.Fns.length 1 8 with
  | false=>rfl
  | true =>
   have h2':=inB_iff.1 h2
   simp only [Bool.not_true,Bool.false_eq_true,if_false,Bool.true_and,Option.bind_some,aKa (show 1 ≤ p.Nodes.length by omega)]
   cases h3:okU p.Nodes p.Nodes.length with
   | false=>rfl
   | true =>
    simp only [Bool.not_true,Bool.false_eq_true,if_false,Bool.true_and]
    rw [sX _ _ _ (by omega) (by omega)]
    simp only [Option.bind_some]
    rw [aNm p h3 (by omega)]
    simp only [Option.bind_some]
    rw [aK0 p (by omega) (by omega) _ (tX _)]
    cases h4:(List.range p.Fns.length).all (nK p) with
    | false=>rfl
    | true =>
     simp only [if_true,Option.bind_some,Bool.true_and]
     have hb:=aEu h4
     have hsp:=aCd p.Nodes.length (kB p) (aJt p.Nodes) (tX _) hb
     have hmet:∀ r ∈ kB p,(aJt p.Nodes).getD r.toNat 0=(kc p.Nodes r.toNat:Nat):=fun r _=>rQ h3 _
     cases hmr:nJ (kB p) (aJt p.Nodes) with
     | none =>
      rw [hmr] at hsp
      simp only at hsp ⊢
      congr 1
      rw [eq_comm,Bool.eq_false_iff]
      intro hall
      rw [List.all_eq_true] at hall
      refine hsp ⟨List.nodup_iff_count.2 fun a=>?_,fun r hr=>?_⟩
      ·by_cases ha:a ∈ kB p
       ·have hab:=hb a ha
        have:=hall a.toNat (List.mem_range.2 (by omega))
        rw [show ((a.toNat:Nat):Int)=a by omega] at this
        simp only [yK,Bool.or_eq_true,beq_iff_eq] at this
        omega
       ·rw [List.count_eq_zero.2 ha];omega
      ·have hrb:=hb r hr
       have:=hall r.toNat (List.mem_range.2 (by omega))
       rw [show ((r.toNat:Nat):Int)=r by omega] at this
       simp only [yK,Bool.or_eq_true,beq_iff_eq] at this
       have hc:=List.count_pos_iff.2 hr
       rw [rQ h3]
       omega
     | some m =>
      rw [hmr] at hsp
      obtain ⟨⟨s1,s2⟩,s3,s4⟩:=hsp
      simp only
      rw [qS m (fun v=>v == 1 || v == -1) (dJ m) (fun k hk=>by
       simp only [dJ,aB hk,if_true,aD hk,Option.bind_some,aK hk (show m.length ≤ 1048576 by omega)]
       by_cases e1:m[k]=1
       ·simp [e1]
       ·by_cases e2:m[k] = -1<;>simp [e1,e2]) (by simp [dJ])]
      have hfin:m.all (fun v=>v == 1 || v == -1)=(List.range p.Nodes.length).all fun k=>yK (kc p.Nodes k + 1000 * (kB p).count (k:Int)):=by
       rw [zI p.Nodes.length m _ s3,Bool.eq_iff_iff,List.all_eq_true,List.all_eq_true]
       have each:∀ k,k < p.Nodes.length→((m.getD k 0 == 1 || m.getD k 0 == -1)=true ↔ yK (kc p.Nodes k + 1000 * (kB p).count (k:Int))=true):=by
        intro k hk
        have hkc:=kc_le h3 k
        rw [s4,rQ h3]
        simp only [yK,Bool.or_eq_true,beq_iff_eq]
        by_cases hm:(k:Int) ∈ kB p
        ·rw [if_pos hm]
         have hc:=List.count_pos_iff.2 hm
         have hc1:=List.nodup_iff_count.1 s1 (k:Int)
         have:=s2 _ hm
         rw [Int.toNat_natCast,rQ h3] at this
         omega
        ·rw [if_neg hm,List.count_eq_zero.2 hm]
         omega
       constructor
       ·intro h k hk;exact (each k (List.mem_range.1 hk)).1 (h k hk)
       ·intro h k hk;exact (each k (List.mem_range.1 hk)).2 (h k hk)
      rw [hfin]
      cases (List.range p.Nodes.length).all fun k=>yK (kc p.Nodes k + 1000 * (kB p).count (k:Int))<;>rfl
theorem aEo (p:GProgram) (hn:p.Nodes.length ≤ 300) (hp:p.Fns.length ≤ 8) (C:Int) (hC:0 ≤ C) (hC2:C ≤ 1000000) (m:List Int) (hm:Bd p.Nodes.length C m) (i:Nat) (hi:i < p.Fns.length):bM p (m,i)=some (if nK p i=true then .inl (incs 1000 (kW p.Fns[i]) m,((i + 1:Nat):Int)) else .inr (.inr false)):=by
 simp only [bM,aB hi,if_true,aD4 p i hi (show p.Nodes.length ≤ 1048576 by omega) (show p.Fns.length ≤ 1048576 by omega),Option.bind_some,aD hi]
 rw [← rU hi]
 cases hg:nK p i with
 | false=>rfl
 | true =>
  simp only [Bool.not_true,Bool.false_eq_true,if_false,if_true]
  have hfb:fnB p p.Fns[i]=true:=by rw [rU hi,Bool.and_eq_true] at hg;exact hg.1
  obtain ⟨_,b0,b1,r1⟩:=uQ hfb
  generalize p.Fns[i]=f at *
  have hgd:∀ (m:List Int) (v:Int),m.length=p.Nodes.length→0 ≤ v→v < p.Nodes.length→aJ m v=some (m.getD v.toNat 0):=fun m v hm h0 h1=>by
   have hlt:v.toNat < m.length:=by omega
   rw [cW h0 (by omega),List.getD_eq_getElem?_getD,List.getElem?_eq_getElem hlt];rfl
  have g0:=hm.getD hC f.Body.toNat
  have hm1:=hm.set hC (show (0:Int) ≤ 1000 by omega) f.Body.toNat
  have g1:=hm1.getD (by omega) f.Ret.toNat
  rw [hgd m f.Body hm.len b0 b1]
  simp only [Option.bind_some,bD,w64 (n:=m.getD f.Body.toNat 0 + 1000) (by omega) (by omega),aK hi (show p.Fns.length ≤ 1048576 by omega)]
  unfold kW
  by_cases hr:f.Ret < 0
  ·have hr':¬ f.Ret ≥ 0:=by omega
   rw [if_neg (by simpa using hr'),if_pos hr]
   rfl
  ·have hr':f.Ret ≥ 0:=by omega
   rw [if_pos (by simpa using hr'),if_neg hr,hgd _ f.Ret hm1.len (by omega) r1]
   simp only [Option.bind_some,bD]
   rw [w64 (by omega) (by omega)]
   rfl
theorem aJa (p:GProgram) (hn:p.Nodes.length ≤ 300) (hp:p.Fns.length ≤ 8) (m0:List Int) (C:Int) (hC:0 ≤ C) (hC2:C ≤ 10000) (hm0:Bd p.Nodes.length C m0):aG (bM p) (m0,0)=some (if (List.range p.Fns.length).all (nK p)=true then .inl (incs 1000 (kB p) m0) else .inr false):=by
 obtain ⟨r,h1,h2⟩:=cL (f:=bM p) (fun s:List Int × Int=>∃ i:Nat,s.2=i∧i ≤ p.Fns.length∧(∀ j,j < i→nK p j=true)∧s.1=incs 1000 (sG p i) m0∧Bd p.Nodes.length (C + 2000 * i) s.1) (fun s=>p.Fns.length - s.2.toNat) (fun r=>r=if (List.range p.Fns.length).all (nK p)=true then .inl (incs 1000 (kB p) m0) else .inr false) (by
  rintro ⟨m,i⟩ ⟨i,rfl,hi,hg,hm,hb⟩
  simp only at hm hi hb
  by_cases hlt:i < p.Fns.length
  ·have hst:=aEo p hn hp (C + 2000 * i) (by omega) (by omega) m hb i hlt
   cases hgb:nK p i with
   | false =>
    right
    refine ⟨.inr false,by rw [hst,hgb];rfl,?_⟩
    have:(List.range p.Fns.length).all (nK p)=false:=by
     rw [Bool.eq_false_iff]
     intro h
     rw [List.all_eq_true.1 h i (List.mem_range.2 hlt)] at hgb
     cases hgb
    rw [this];rfl
   | true =>
    left
    refine ⟨_,by rw [hst,hgb,if_pos rfl],⟨i + 1,rfl,by omega,fun j hj=>?_,?_,?_⟩,by simp only [Int.toNat_natCast];omega⟩
    ·by_cases e:j=i
     ·subst e;exact hgb
     ·exact hg j (by omega)
    ·simp only
     rw [zF p hlt,aA8,← hm]
    ·have:=Bd.incs (show (0:Int) ≤ 1000 by omega) (kW p.Fns[i]) (by omega) hb
     refine this.mono ?_
     have:(kW p.Fns[i]).length ≤ 2:=by unfold kW;split<;>simp
     omega
  ·right
   have:i=p.Fns.length:=by omega
   subst this
   refine ⟨.inl m,by simp [bM],?_⟩
   rw [if_pos (List.all_eq_true.2 fun j hj=>hg j (List.mem_range.1 hj)),← aC4,hm]) (m0,0) ⟨0,rfl,by omega,fun j hj=>by omega,rfl,hm0.mono (by omega)⟩
 rw [h1,h2]
theorem vG (p:GProgram) (hn:p.Nodes.length ≤ 1048576) (hp:p.Fns.length ≤ 1048576):iE p=some (rY p):=by
 unfold iE rY
 simp only [eV,Option.bind_some,jG hn]
 cases h1:inB p.Nodes.length 1 300 with
 | false=>rfl
 | true =>
  have h1':=inB_iff.1 h1
  cases h2:inB p.Fns.length 1 8 with
  | false=>rfl
  | true =>
   have h2':=inB_iff.1 h2
   have hc:((p.Nodes.length:Int) - 1)=((p.Nodes.length - 1:Nat):Int):=by omega
   simp only [Bool.not_true,Bool.false_eq_true,if_false,Bool.true_and,Option.bind_some]
   rw [hc,tN p.Nodes hn _ (by omega)]
   simp only [Option.bind_some,vI]
   rw [show p.Nodes.length - 1 + 1=p.Nodes.length by omega,jG hn,hc,aE2,rO p.Nodes (show p.Nodes.length - 1 < p.Nodes.length by omega),show p.Nodes.length - 1 + 1=p.Nodes.length by omega]
   simp only [Option.bind_some]
   cases h3:okU p.Nodes p.Nodes.length with
   | false=>rfl
   | true =>
    have hpos:=gE p.Nodes (p.Nodes.length - 1)
    have hne:¬ nT p.Nodes (p.Nodes.length - 1)=0:=by omega
    simp only [if_true,Bool.true_and]
    rw [if_neg (by simpa using hne),aN2 p.Nodes h3 (by omega)]
    simp only [Option.bind_some]
    have hB:Bd p.Nodes.length 300 (aJt p.Nodes):=⟨tX _,fun v hv=>by
     obtain ⟨k,hk,rfl⟩:=List.mem_iff_getElem.1 hv
     have h:=rQ h3 k
     rw [List.getD_eq_getElem?_getD,List.getElem?_eq_getElem hk,Option.getD_some] at h
     have:=kc_le h3 k
     omega⟩
    rw [aJa p (by omega) (by omega) _ 300 (by omega) (by omega) hB]
    cases h4:(List.range p.Fns.length).all (nK p) with
    | false=>rfl
    | true =>
     simp only [if_true,Option.bind_some,Bool.true_and]
     have hb:=aEu h4
     have hl:(incs 1000 (kB p) (aJt p.Nodes)).length=p.Nodes.length:=by rw [aDs,tX]
     have hval:∀ k,(incs 1000 (kB p) (aJt p.Nodes)).getD k 0=((kc p.Nodes k + 1000 * (kB p).count (k:Int):Nat):Int):=by
      intro k
      rw [aDt 1000 k _ _ (fun e he=>by rw [tX];exact hb e he),rQ h3]
      omega
     generalize hmm:incs 1000 (kB p) (aJt p.Nodes)=m at *
     rw [qS m (fun v=>v == 1 || v == 1000) (dF m) (fun k hk=>by
      simp only [dF,aB hk,if_true,aD hk,Option.bind_some,aK hk (show m.length ≤ 1048576 by omega)]
      by_cases e1:m[k]=1
      ·simp [e1]
      ·by_cases e2:m[k]=1000<;>simp [e1,e2]) (by simp [dF])]
     have hfin:m.all (fun v=>v == 1 || v == 1000)=(List.range p.Nodes.length).all fun k=>yK (kc p.Nodes k + 1000 * (kB p).count (k:Int)):=by
      rw [zI p.Nodes.length m _ hl]
      congr 1
      funext k
      rw [hval,Bool.eq_iff_iff]
      simp only [yK,Bool.or_eq_true,beq_iff_eq]
      omega
     rw [hfin]
     cases (List.range p.Nodes.length).all fun k=>yK (kc p.Nodes k + 1000 * (kB p).count (k:Int))<;>rfl
end Go.OM
namespace Go.OM
theorem yE {α:Type} {n:Nat} {l:List α} (h:l.length ≤ 1048576) (hn:n ≤ 64):mF n [] l=some l:=aHi h hn
def NL (l:List GNode):Prop:=∀ x ∈ l,GNode.le 1048576 x
theorem aM3 (f:GFn) (h:f.Params.length ≤ 1048576):nB f=some f:=by
 unfold nB
 rw [yE h (by omega)]
 rfl
theorem aG4 {α ρ:Type} (l:List α) (hl:l.length ≤ 1048576) (f:List α × Int→Option ((List α × Int) ⊕ ρ)) (fin:List α→ρ)
  (hf:∀ (o:List α) (k:Nat) (hk:k < l.length),o.length=k→f (o,k)=some (.inl (o ++ [l[k]],((k + 1:Nat):Int)))) (he:∀ o:List α,f (o,l.length)=some (.inr (fin o))):aG f ([],0)=some (fin l):=by
 obtain ⟨r,h1,h2⟩:=cL (f:=f) (fun s:List α × Int=>∃ k:Nat,s.2=k∧k ≤ l.length∧s.1=l.take k) (fun s=>l.length - s.2.toNat) (fun r=>r=fin l) (by
  rintro ⟨o,i⟩ ⟨k,rfl,hk,ho⟩
  simp only at ho hk
  by_cases hlt:k < l.length
  ·left
   refine ⟨_,hf o k hlt (by rw [ho,List.length_take];omega),⟨k + 1,rfl,by omega,?_⟩,by simp only [Int.toNat_natCast];omega⟩
   simp only
   rw [ho,List.take_add_one,List.getElem?_eq_getElem hlt];rfl
  ·right
   have:k=l.length:=by omega
   subst this
   rw [List.take_length] at ho
   exact ⟨_,he o,by rw [ho]⟩) ([],0) ⟨0,rfl,by omega,by simp⟩
 rw [h1,h2]
theorem aG5 (l:List GNode) (hl:l.length ≤ 1048576) (hN:NL l):iL l=some l:=by
 unfold iL
 rw [aG4 l hl (dI l) (fun o=>o) (fun o k hk ho=>by
  have hk2:=(hN _ (List.getElem_mem hk)).2
  have hc:jW (l[k]).Kids=some (l[k]).Kids:=by unfold jW;rw [yE hk2 (by omega)];rfl
  simp only [dI,aB hk,if_true,aD hk,Option.bind_some,hc,aHj (show o.length ≤ 1048576 by omega) (show 56 ≤ 64 by omega),aK hk hl]) (fun o=>by simp [dI])]
 rfl
theorem aEp (l:List GNode) (hl:l.length ≤ 1048576) (hN:NL l):jJ l=some l:=by
 unfold jJ
 rw [aG4 l hl (dV l) (fun o=>o) (fun o k hk ho=>by
  have hk2:=(hN _ (List.getElem_mem hk)).2
  simp only [dV,aB hk,if_true,aD hk,Option.bind_some,yE hk2 (show 8 ≤ 64 by omega),aHj (show o.length ≤ 1048576 by omega) (show 56 ≤ 64 by omega),aK hk hl]) (fun o=>by simp [dV])]
 rfl
theorem iO (p:GProgram) (h:GProgram.le 1048576 p):bY p=some p∧kU p=some p:=by
 obtain ⟨⟨hn,hN⟩,hF,hFl⟩:=h
 constructor
 ·unfold bY
  rw [aG5 _ hn hN]
  simp only [Option.bind_some]
  obtain ⟨r,h1,h2⟩:=cL (f:=cH p) (fun s:Int × GProgram=>∃ k:Nat,s.1=k∧k ≤ p.Fns.length∧s.2=⟨p.Nodes,p.Fns.take k⟩) (fun s=>p.Fns.length - s.1.toNat) (fun r=>r=p) (by
   rintro ⟨i,v⟩ ⟨k,rfl,hk,rfl⟩
   try simp only at hk
   by_cases hlt:k < p.Fns.length
   ·left
    have hpar:=(hFl _ (List.getElem_mem hlt)).2.1
    refine ⟨(((k + 1:Nat):Int),⟨p.Nodes,p.Fns.take (k + 1)⟩),?_,⟨k + 1,rfl,by omega,rfl⟩,by simp only [Int.toNat_natCast];omega⟩
    simp only [cH,aB hlt,if_true,aD hlt,Option.bind_some,aM3 _ hpar,aHj (show (p.Fns.take k).length ≤ 1048576 by rw [List.length_take];omega) (show 64 ≤ 64 by omega),aK hlt hF]
    rw [List.take_add_one,List.getElem?_eq_getElem hlt];rfl
   ·right
    have:k=p.Fns.length:=by omega
    subst this
    refine ⟨⟨p.Nodes,p.Fns.take p.Fns.length⟩,by simp [cH],?_⟩
    rw [List.take_length]) (0,⟨p.Nodes,[]⟩) ⟨0,rfl,by omega,by simp⟩
  rw [h1,h2];rfl
 ·unfold kU
  rw [aEp _ hn hN]
  simp only [Option.bind_some]
  obtain ⟨r,h1,h2⟩:=cL (f:=eU p) (fun s:Int × GProgram=>∃ k:Nat,s.1=k∧k ≤ p.Fns.length∧s.2=⟨p.Nodes,p.Fns.take k⟩) (fun s=>p.Fns.length - s.1.toNat) (fun r=>r=p) (by
   rintro ⟨i,v⟩ ⟨k,rfl,hk,rfl⟩
   try simp only at hk
   by_cases hlt:k < p.Fns.length
   ·left
    have hpar:=(hFl _ (List.getElem_mem hlt)).2.1
    refine ⟨(((k + 1:Nat):Int),⟨p.Nodes,p.Fns.take (k + 1)⟩),?_,⟨k + 1,rfl,by omega,rfl⟩,by simp only [Int.toNat_natCast];omega⟩
    simp only [eU,aB hlt,if_true,aD hlt,Option.bind_some,yE hpar (show 24 ≤ 64 by omega),aHj (show (p.Fns.take k).length ≤ 1048576 by rw [List.length_take];omega) (show 64 ≤ 64 by omega),aK hlt hF]
    rw [List.take_add_one,List.getElem?_eq_getElem hlt];rfl
   ·right
    have:k=p.Fns.length:=by omega
    subst this
    refine ⟨⟨p.Nodes,p.Fns.take p.Fns.length⟩,by simp [eU],?_⟩
    rw [List.take_length]) (0,⟨p.Nodes,[]⟩) ⟨0,rfl,by omega,by simp⟩
  rw [h1,h2];rfl
end Go.OM
