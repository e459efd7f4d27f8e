import Derived.Test.YtkbahglnleiepaaGreatDoorTB
import Derived.KernelRfl
set_option linter.unusedVariables false
set_option linter.unusedSimpArgs false
set_option linter.unusedVariables false
set_option linter.unusedSimpArgs false
set_option maxHeartbeats 8000000
namespace Go.OM
theorem wQ {σ τ:St} {E:Env} {N n:Nat} {ops os:List Oper} {o:Oper} {K:St→Prop} (q:N=n) (h:τ.wps E N ops os K) (hc:nE o=none:=by rfl) (h1:σ.stepK E n ops o (fun s=>s=τ):=by simp;rfl):σ.wps E N ops (o :: os) K:=by
 subst q
 refine wC hc fun K' hK'=>?_
 unfold St.stepK at h1 ⊢
 split at h1
 · rename_i hw
   try simp only [hw]
   obtain ⟨σ1,e,rfl⟩:=h1
   exact ⟨σ1,e,hK' _ h⟩
 · rename_i hw
   try simp only [hw]
   obtain ⟨σ1,e,rfl⟩:=h1
   exact ⟨σ1,e,hK' _ h⟩
 · exact h1.elim
end Go.OM
namespace Go.Proofs.T
open Go.OM
theorem res111:Tryz.f111.results.toList=[.tmp 4]:=rfl
theorem ent111:aE E.P 111:=eO Tryz.func111 (by simp [Tryz.f111]) rfl
theorem aDt (a0:List GNode) (k2:Int) {r0:List Int} (h:oV a0 k2=some r0):Ok E 111 [.val (.sl false 4 (List.map (GNode.enc false) a0)),.val (vi k2)] [.sl true 1 (List.map vi r0)] []:=by
 refine oB Tryz.func111 rfl (by simp [Tryz.f111]) fun C (q:C.N=42) hP=>?_
 have y:=aK hP
 unfold oV at h
 refine O.zR y fun K u=>?_
 refine wQ q ?_
 apply wN;apply u
 refine O.zR y fun K u=>?_
 iterate 3 refine wQ q ?_
 apply wN;apply u
 obtain ⟨b0,d8,h⟩:=bS h
 refine O.seqC [5] [] (fun _:Unit=>⟨[(5,.t (.sl true 1 (List.map vi b0)))],[]⟩) (fun _=>True) (fun _ _=>?_) fun K4 d9=>?_
 rotate_left
 ·refine O.zR y fun K u=>?_
  refine wQ q ?_
  apply wN;apply u
  refine O.block ?_
  refine O.loopO [] [0,5,6] [] (fun v:(List Int) × Int=>⟨[(0,.t (.sl false 4 (List.map (GNode.enc false) a0))),(5,.t (.sl true 1 (List.map vi v.1))),(6,.t (vi v.2))],[]⟩) (iC a0) _ ([k2],0) d8 (by simp [q]) ?_
  intro g e5 h8 e0
  obtain ⟨c2,i7⟩:=g
  simp only [iC] at h8
  try dsimp only
  refine O.seq ?_
  refine O.zR y fun K u=>?_
  iterate 4 refine wQ q ?_
  apply wN;apply u
  rcases aA h8 with ⟨c3,h8⟩ | ⟨c4,h8⟩
  ·refine O.cT' (by simp) c3 ?_
   refine O.skip ?_
   obtain ⟨b1,a2,h8⟩:=bS h8
   refine O.seqC [0,5,6] [] (fun _:Unit=>⟨[(0,.t (.sl false 4 (List.map (GNode.enc false) a0))),(5,.t (.sl true 1 (List.map vi b1))),(6,.t (vi i7))],[]⟩) (fun _=>True) (fun _ _=>?_) fun e6 c5=>?_
   rotate_left
   ·refine O.block ?_
    refine O.zR y fun K u=>?_
    iterate 3 refine wQ q ?_
    obtain ⟨e7,c6,a2⟩:=bS a2
    obtain ⟨a3,a4,a5,a6⟩:=gS c6
    iterate 2 (refine wC rfl fun K w=>?_;simp [q,a3,a4,a5,a6];apply w)
    obtain ⟨c7,c8,a2⟩:=bS a2
    obtain ⟨b2,b3,b4,b5⟩:=gS c8
    iterate 5 (refine wC rfl fun K w=>?_;simp [q,a3,a4,a5,a6,b2,b3,b4,b5];apply w)
    apply wN;apply u
    refine O.block ?_
    refine O.loopO [] [0,5,6,24,25,26] [] (fun v:(List Int) × Int=>⟨[(0,.t (.sl false 4 (List.map (GNode.enc false) a0))),(5,.t (.sl true 1 (List.map vi v.1))),(6,.t (vi i7)),(24,.t (.sl false 1 (List.map vi c7.Kids))),(25,.t (vi (c7.Kids.length:Int))),(26,.t (vi v.2))],[]⟩) (iA c7) _ (c2,0) a2 (by simp [q]) ?_
    intro g e8 a1 c9
    obtain ⟨b6,e9⟩:=g
    simp only [iA] at a1
    try dsimp only
    refine O.zR y fun K u=>?_
    refine wQ q ?_
    apply wN;apply u
    refine O.seq ?_
    rcases aA a1 with ⟨d0,a1⟩ | ⟨d1,a1⟩
    ·refine O.cT' (by simp) d0 ?_
     refine O.skip ?_
     refine O.seq ?_
     refine O.block ?_
     refine O.zR y fun K u=>?_
     obtain ⟨e1,d2,a1⟩:=bS a1
     obtain ⟨b7,b8,b9,c0⟩:=gS d2
     iterate 3 (refine wC rfl fun K w=>?_;simp [q,b7,b8,b9,c0];apply w)
     apply wN;apply u
     refine O.zR y fun K u=>?_
     iterate 2 refine wQ q ?_
     obtain ⟨g0,d3,a1⟩:=bS a1
     refine wL [(.bor,.tmp 30),(.take,.tmp 31)] rfl rfl aIn (kP _ _ d3) fun K w=>?_;simp [q];apply w
     refine wQ q ?_
     apply wN;apply u
     rcases aA a1 with ⟨d4,a1⟩ | ⟨d5,a1⟩
     ·refine O.cT' (by simp) d4 ?_
      refine O.zG y fun K u=>?_
      iterate 3 refine wQ q ?_
      obtain ⟨e2,d6,a1⟩:=bS a1
      obtain ⟨a7,a8,c1⟩:=aS d6
      have a9:List.map vi b6 ++ List.map vi [e1]=List.map vi e2:=dW (f:=vi) c1
      simp [eSl] at a7 a8 a9
      iterate 2 (refine wC rfl fun K w=>?_;simp [q,a7,a8,a9];apply w)
      apply wN;apply u
      refine O.zG y fun K u=>?_
      iterate 2 refine wQ q ?_
      apply wN;apply u
      cases a1
      exact ⟨_,[],rfl,by simp [q]⟩
     refine O.cF' (by simp) d5 ?_
     refine O.skip ?_
     refine O.zG y fun K u=>?_
     iterate 2 refine wQ q ?_
     apply wN;apply u
     cases a1
     exact ⟨_,[],rfl,by simp [q]⟩
    refine O.cF' (by simp) d1 ?_
    refine O.exit ?_
    have e3:=congrArg some (c9 _ (Option.some.inj a1).symm)
    cases e3
    exact c5 _ () [] trivial (by simp [q])
   refine O.zG y fun K u=>?_
   iterate 3 refine wQ q ?_
   apply wN;apply u
   cases h8
   exact ⟨_,[],rfl,by simp [q]⟩
  refine O.cF' (by simp) c4 ?_
  refine O.exit ?_
  have e4:=congrArg some (e0 _ (Option.some.inj h8).symm)
  cases e4
  exact d9 _ () [] trivial (by simp [q])
 refine O.zR y fun K u=>?_
 refine wQ q ?_
 obtain ⟨g1,d7,h⟩:=bS h
 refine aBy rfl aOi (wT _ d7) fun K w=>?_;simp [q];apply w
 apply wN;apply u
 refine O.zR y fun K u=>?_
 iterate 2 refine wQ q ?_
 apply wN;apply u
 cases h
 refine O.ret ?_
 simp [aC,iB,res111]
theorem res96:Tryz.f96.results.toList=[.tmp 4]:=rfl
theorem ent96:aE E.P 96:=eO Tryz.func96 (by simp [Tryz.f96]) rfl
theorem uU (p1:GProgram) (k2:Int) {r0:List Int} (h:mF p1 k2=some r0):Ok E 96 [.val (GProgram.enc false p1),.val (vi k2)] [.sl true 1 (List.map vi r0)] []:=by
 refine oB Tryz.func96 rfl (by simp [Tryz.f96]) fun C (q:C.N=14) hP=>?_
 have y:=aK hP
 unfold mF at h
 refine O.zR y fun K u=>?_
 iterate 2 refine wQ q ?_
 apply wN;apply u
 refine O.seq ?_
 refine O.zR y fun K u=>?_
 iterate 3 refine wQ q ?_
 obtain ⟨r3,a0,h⟩:=bS h
 refine wL [(.take,.tmp 6),(.take,.tmp 7)] rfl rfl aNu (kQ _ _ a0) fun K v=>?_;simp [q];apply v
 refine wQ q ?_
 apply wN;apply u
 rcases aA h with ⟨a1,h⟩ | ⟨a2,h⟩
 ·refine O.cT' (by simp) a1 ?_
  refine O.zR y fun K u=>?_
  refine wQ q ?_
  apply wN;apply u
  cases h
  refine O.ret ?_
  simp [aC,iB,res96]
 refine O.cF' (by simp) a2 ?_
 refine O.skip ?_
 refine O.zR y fun K u=>?_
 iterate 3 refine wQ q ?_
 obtain ⟨r7,a3,h⟩:=bS h
 refine wL [(.take,.tmp 11),(.take,.tmp 12)] rfl rfl ent111 (aDt _ _ a3) fun K v=>?_;simp [q];apply v
 refine wQ q ?_
 apply wN;apply u
 cases h
 refine O.ret ?_
 simp [aC,iB,res96]
theorem res64:Tryz.f64.results.toList=[.tmp 4]:=rfl
theorem ent64:aE E.P 64:=eO Tryz.func64 (by simp [Tryz.f64]) rfl
theorem sY (p1:GProgram) (b5:Int) {r0:List GVar} (h:kM p1 b5=some r0):Ok E 64 [.val (GProgram.enc false p1),.val (vi b5)] [.sl true 3 (List.map GVar.enc r0)] []:=by
 refine oB Tryz.func64 rfl (by simp [Tryz.f64]) fun C (q:C.N=68) hP=>?_
 have y:=aK hP
 unfold kM at h
 refine O.zR y fun K u=>?_
 iterate 2 refine wQ q ?_
 apply wN;apply u
 refine O.seq ?_
 refine O.zR y fun K u=>?_
 iterate 5 refine wQ q ?_
 obtain ⟨r3,g8,h⟩:=bS h
 refine wL [(.take,.tmp 11),(.take,.const (.int .i64 0)),(.take,.tmp 15)] rfl rfl nD (aW _ _ _ g8) fun K z=>?_;simp [q];apply z
 refine wQ q ?_
 apply wN;apply u
 rcases aA h with ⟨g9,h⟩ | ⟨h0,h⟩
 ·refine O.cT' (by simp) g9 ?_
  refine O.zR y fun K u=>?_
  refine wQ q ?_
  apply wN;apply u
  cases h
  refine O.ret ?_
  simp [aC,iB,res64]
 refine O.cF' (by simp) h0 ?_
 refine O.skip ?_
 refine O.zR y fun K u=>?_
 refine wQ q ?_
 apply wN;apply u
 obtain ⟨a8,d8,h⟩:=bS h
 refine O.seqC [1,2,5] [2] (fun _:Unit=>⟨[(1,.t (vi b5)),(2,.ref (.box 2) 0 []),(5,.t (.sl true 3 (List.map GVar.enc a8)))],[(2,[.sl false 4 (List.map (GNode.enc false) p1.Nodes),.sl false 5 (List.map (GFn.enc false) p1.Fns)])]⟩) (fun _=>True) (fun _ _=>?_) fun K8 h1=>?_
 rotate_left
 ·refine O.zR y fun K u=>?_
  iterate 3 refine wQ q ?_
  obtain ⟨d9,e0,d8⟩:=bS d8
  obtain ⟨b6,b7,b8,b9⟩:=gS e0
  iterate 5 (refine wC rfl fun K z=>?_;simp [q,b6,b7,b8,b9];apply z)
  apply wN;apply u
  refine O.block ?_
  refine O.loopO [] [1,2,5,23,24,25] [2] (fun v:(List GVar) × Int=>⟨[(1,.t (vi b5)),(2,.ref (.box 2) 0 []),(5,.t (.sl true 3 (List.map GVar.enc v.1))),(23,.t (.sl false 2 (List.map GParam.enc d9.Params))),(24,.t (vi (d9.Params.length:Int))),(25,.t (vi v.2))],[(2,[.sl false 4 (List.map (GNode.enc false) p1.Nodes),.sl false 5 (List.map (GFn.enc false) p1.Fns)])]⟩) (gH d9) _ ([],0) d8 (by simp [q]) ?_
  intro g h8 a7 e1
  obtain ⟨c0,h9⟩:=g
  simp only [gH] at a7
  try dsimp only
  refine O.zR y fun K u=>?_
  refine wQ q ?_
  apply wN;apply u
  refine O.seq ?_
  rcases aA a7 with ⟨e2,a7⟩ | ⟨e3,a7⟩
  ·refine O.cT' (by simp) e2 ?_
   refine O.skip ?_
   refine O.seq ?_
   refine O.block ?_
   refine O.zR y fun K u=>?_
   obtain ⟨g7,e4,a7⟩:=bS a7
   obtain ⟨c1,c2,c3,c4⟩:=gS e4
   iterate 4 (refine wC rfl fun K z=>?_;simp [q,c1,c2,c3,c4];apply z)
   apply wN;apply u
   refine O.zG y fun K u=>?_
   iterate 7 refine wQ q ?_
   obtain ⟨h2,e5,a7⟩:=bS a7
   obtain ⟨a9,b0,c5⟩:=aS e5
   have b1:List.map GVar.enc c0 ++ List.map GVar.enc [(⟨g7.Name,g7.Typ,(-1)⟩:GVar)]=List.map GVar.enc h2:=dW (f:=GVar.enc) c5
   simp [eSl,GVar.enc] at a9 b0 b1
   iterate 2 (refine wC rfl fun K z=>?_;simp [q,a9,b0,b1];apply z)
   apply wN;apply u
   refine O.zG y fun K u=>?_
   iterate 2 refine wQ q ?_
   apply wN;apply u
   cases a7
   exact ⟨_,[],rfl,by simp [q]⟩
  refine O.cF' (by simp) e3 ?_
  refine O.exit ?_
  have h3:=congrArg some (e1 _ (Option.some.inj a7).symm)
  cases h3
  exact h1 _ () [] trivial (by simp [q])
 obtain ⟨c6,a5,h⟩:=bS h
 refine O.seqC [5] [] (fun _:Unit=>⟨[(5,.t (.sl true 3 (List.map GVar.enc c6)))],[]⟩) (fun _=>True) (fun _ _=>?_) fun i0 e6=>?_
 rotate_left
 ·refine O.seq ?_
  obtain ⟨a6,e7,a5⟩:=bS a5
  obtain ⟨a1,a2,a3,a4⟩:=gS e7
  obtain ⟨c7,e8,a5⟩:=bS a5
  refine O.dT rfl (y _ rfl) [(38,.t (GProgram.enc false p1)),(39,.ref (.box 2) 1 []),(40,.t (.sl false 5 (List.map (GFn.enc false) p1.Fns))),(41,.t (vi b5)),(42,.rop [vs a6.Name,.sl false 2 (List.map GParam.enc a6.Params),vi a6.Res,vi a6.Body,vi a6.Ret] 0),(43,.rop [vs a6.Name,.sl false 2 (List.map GParam.enc a6.Params),vi a6.Res,vi a6.Body,vi a6.Ret] 3),(44,.t (vi a6.Body)),(45,.t (.sl true 1 (List.map vi c7))),(46,.t (vi (c7.length:Int))),(47,.t (vi 0))] [[],[],[1],[],[1,2,3],[1,2,3,4],[1,2,3,4,5],[0,1,2,3,4,5,6],[0,1,2,3,4,5,6,7],[]] (by simp) (by simp) (by simp [look]) rfl rfl rfl ?_ fun K u=>?_
  ·refine ⟨?_,?_,?_,?_,?_,?_,?_,?_,?_,?_,trivial⟩
   all_goals (intro τ hbx hb hd hf K u;try simp [aH] at hd;simp [aH] at hf;first | (refine wC rfl fun K' w=>?_;simp [q,hbx,hb,hd,hf,a1,a2,a3,a4];exact w _ (wN (u _ (by simp [aH,hbx,a1,a2,a3,a4])))) | (refine wL [(.take,.tmp 38),(.take,.tmp 44)] rfl rfl ent96 (uU _ _ e8) fun K' w=>?_;simp [q,hbx,hb,hd,hf,a1,a2,a3,a4];exact w _ (wN (u _ (by simp [aH,hbx,a1,a2,a3,a4])))))
  apply wN;apply u
  refine O.block ?_
  refine O.loopO [] [2,5,45,46,47] [2] (fun v:(List GVar) × Int=>⟨[(2,.ref (.box 2) 0 []),(5,.t (.sl true 3 (List.map GVar.enc v.1))),(45,.t (.sl true 1 (List.map vi c7))),(46,.t (vi (c7.length:Int))),(47,.t (vi v.2))],[(2,[.sl false 4 (List.map (GNode.enc false) p1.Nodes),.sl false 5 (List.map (GFn.enc false) p1.Fns)])]⟩) (gG p1 c7) _ (a8,0) a5 (by simp [q]) ?_
  intro g i1 a0 e9
  obtain ⟨c8,i2⟩:=g
  simp only [gG] at a0
  try dsimp only
  refine O.zR y fun K u=>?_
  refine wQ q ?_
  apply wN;apply u
  refine O.seq ?_
  rcases aA a0 with ⟨g0,a0⟩ | ⟨g1,a0⟩
  ·refine O.cT' (by simp) g0 ?_
   refine O.skip ?_
   refine O.seq ?_
   refine O.block ?_
   refine O.zR y fun K u=>?_
   obtain ⟨h4,g2,a0⟩:=bS a0
   obtain ⟨c9,d0,d1,d2⟩:=gS g2
   iterate 3 (refine wC rfl fun K z=>?_;simp [q,c9,d0,d1,d2];apply z)
   apply wN;apply u
   refine O.zR y fun K u=>?_
   iterate 3 refine wQ q ?_
   obtain ⟨h5,g3,a0⟩:=bS a0
   obtain ⟨d3,d4,d5,d6⟩:=gS g3
   iterate 4 (refine wC rfl fun K z=>?_;simp [q,d3,d4,d5,d6];apply z)
   apply wN;apply u
   refine O.zR y fun K u=>?_
   iterate 3 refine wQ q ?_
   apply wN;apply u
   rcases aA a0 with ⟨g4,a0⟩ | ⟨g5,a0⟩
   ·refine O.cT' (by simp) g4 ?_
    refine O.zG y fun K u=>?_
    iterate 6 refine wQ q ?_
    obtain ⟨h6,g6,a0⟩:=bS a0
    obtain ⟨b2,b3,d7⟩:=aS g6
    have b4:List.map GVar.enc c8 ++ List.map GVar.enc [(⟨h5.Name,0,h4⟩:GVar)]=List.map GVar.enc h6:=dW (f:=GVar.enc) d7
    simp [eSl,GVar.enc] at b2 b3 b4
    iterate 2 (refine wC rfl fun K z=>?_;simp [q,b2,b3,b4];apply z)
    apply wN;apply u
    refine O.zG y fun K u=>?_
    iterate 2 refine wQ q ?_
    apply wN;apply u
    cases a0
    exact ⟨_,[],rfl,by simp [q]⟩
   refine O.cF' (by simp) g5 ?_
   refine O.skip ?_
   refine O.zG y fun K u=>?_
   iterate 2 refine wQ q ?_
   apply wN;apply u
   cases a0
   exact ⟨_,[],rfl,by simp [q]⟩
  refine O.cF' (by simp) g1 ?_
  refine O.exit ?_
  have h7:=congrArg some (e9 _ (Option.some.inj a0).symm)
  cases h7
  exact e6 _ () [] trivial (by simp [q])
 refine O.zR y fun K u=>?_
 iterate 2 refine wQ q ?_
 apply wN;apply u
 cases h
 refine O.ret ?_
 simp [aC,iB,res64]
theorem res67:Tryz.f67.results.toList=[.tmp 4]:=rfl
theorem ent67:aE E.P 67:=eO Tryz.func67 (by simp [Tryz.f67]) rfl
theorem uT (a0:List GVar) (a1:ByteArray) {r0:Int} (h:mE a0 a1=some r0):Ok E 67 [.val (.sl false 3 (List.map GVar.enc a0)),.val (vs a1)] [vi r0] []:=by
 refine oB Tryz.func67 rfl (by simp [Tryz.f67]) fun C (q:C.N=20) hP=>?_
 have u:=aK hP
 unfold mE at h
 refine O.zR u fun K w=>?_
 refine wQ q ?_
 apply wN;apply w
 obtain ⟨j5,b2,h⟩:=bS h
 refine O.seqC [] [] (fun v:Unit=>⟨[],[]⟩) (fun v=>j5=Sum.inl v) (fun v hv=>?_) fun K4 b3=>?_
 rotate_left
 ·refine O.zR u fun K w=>?_
  iterate 3 refine wQ q ?_
  apply wN;apply w
  refine O.block ?_
  refine O.loopO [] [1,7,8,9] [] (fun v:Int=>⟨[(1,.t (vs a1)),(7,.t (.sl false 3 (List.map GVar.enc a0))),(8,.t (vi (a0.length:Int))),(9,.t (vi v))],[]⟩) (iF a0 a1) _ 0 b2 (by simp [q]) ?_
  intro g s9 h7 b1
  obtain ⟨v6,hg⟩:∃ y,y=g:=⟨_,rfl⟩
  subst hg
  simp only [iF] at h7
  try dsimp only
  refine O.zR u fun K w=>?_
  refine wQ q ?_
  apply wN;apply w
  refine O.seq ?_
  rcases aA h7 with ⟨a6,h7⟩ | ⟨a7,h7⟩
  ·refine O.cT' (by simp) a6 ?_
   refine O.skip ?_
   refine O.seq ?_
   refine O.block ?_
   refine O.zR u fun K w=>?_
   refine wQ q ?_
   obtain ⟨b6,a8,h7⟩:=bS h7
   obtain ⟨a2,a3,a4,a5⟩:=gS a8
   iterate 5 (refine wC rfl fun K z=>?_;simp [q,a2,a3,a4,a5];apply z)
   apply wN;apply w
   refine O.zR u fun K w=>?_
   iterate 4 refine wQ q ?_
   apply wN;apply w
   rcases aA h7 with ⟨a9,h7⟩ | ⟨b0,h7⟩
   ·refine O.cT' (by simp) a9 ?_
    refine O.zR u fun K w=>?_
    iterate 2 refine wQ q ?_
    apply wN;apply w
    have b4:=congrArg some (b1 _ (Option.some.inj h7).symm)
    cases b4
    try dsimp only at h
    cases h
    refine O.ret ?_
    simp [aC,iB,res67]
   refine O.cF' (by simp) b0 ?_
   refine O.skip ?_
   refine O.zG u fun K w=>?_
   iterate 2 refine wQ q ?_
   apply wN;apply w
   cases h7
   exact ⟨_,[],rfl,by simp [q]⟩
  refine O.cF' (by simp) a7 ?_
  refine O.exit ?_
  have b5:=congrArg some (b1 _ (Option.some.inj h7).symm)
  cases b5
  exact b3 _ _ [] rfl (by simp [q])
 subst hv
 obtain ⟨⟩:=v
 try dsimp only at h ⊢
 refine O.zR u fun K w=>?_
 refine wQ q ?_
 apply wN;apply w
 cases h
 refine O.ret ?_
 simp [aC,iB,res67]
theorem res54:Tryz.f54.results.toList=[.tmp 4]:=rfl
theorem ent54:aE E.P 54:=eO Tryz.func54 (by simp [Tryz.f54]) rfl
theorem aAd (p1:GProgram) (b1:Int) {r0:Bool} (h:lM p1 b1=some r0):Ok E 54 [.val (GProgram.enc false p1),.val (vi b1)] [vb r0] []:=by
 refine oB Tryz.func54 rfl (by simp [Tryz.f54]) fun C (q:C.N=25) hP=>?_
 have u:=aK hP
 unfold lM at h
 refine O.zR u fun K w=>?_
 iterate 2 refine wQ q ?_
 apply wN;apply w
 refine O.zR u fun K w=>?_
 iterate 2 refine wQ q ?_
 obtain ⟨r3,b2,h⟩:=bS h
 refine wL [(.take,.tmp 8),(.take,.tmp 9)] rfl rfl ent64 (sY _ _ b2) fun K z=>?_;simp [q];apply z
 refine wQ q ?_
 apply wN;apply w
 obtain ⟨j7,b3,h⟩:=bS h
 refine O.seqC [] [] (fun v:Unit=>⟨[],[]⟩) (fun v=>j7=Sum.inl v) (fun v hv=>?_) fun K6 b4=>?_
 rotate_left
 ·refine O.zR u fun K w=>?_
  iterate 3 refine wQ q ?_
  apply wN;apply w
  refine O.block ?_
  refine O.loopO [] [5,11,12,13] [] (fun v:Int=>⟨[(5,.t (.sl true 3 (List.map GVar.enc r3))),(11,.al (.slot 5) 0 [] none),(12,.t (vi (r3.length:Int))),(13,.t (vi v))],[]⟩) (fA r3) _ 0 b3 (by simp [q]) ?_
  intro g b7 h9 a0
  obtain ⟨v8,hg⟩:∃ y,y=g:=⟨_,rfl⟩
  subst hg
  simp only [fA] at h9
  try dsimp only
  refine O.zR u fun K w=>?_
  refine wQ q ?_
  apply wN;apply w
  refine O.seq ?_
  rcases aA h9 with ⟨a5,h9⟩ | ⟨a6,h9⟩
  ·refine O.cT' (by simp) a5 ?_
   refine O.skip ?_
   refine O.seq ?_
   refine O.block ?_
   refine O.zR u fun K w=>?_
   refine wQ q ?_
   obtain ⟨b8,a7,h9⟩:=bS h9
   obtain ⟨a1,a2,a3,a4⟩:=gS a7
   iterate 5 (refine wC rfl fun K z=>?_;simp [q,a1,a2,a3,a4];apply z)
   apply wN;apply w
   refine O.zR u fun K w=>?_
   iterate 3 refine wQ q ?_
   obtain ⟨b9,a8,h9⟩:=bS h9
   refine wL [(.bor,.tmp 18),(.take,.tmp 20)] rfl rfl ent67 (uT _ _ a8) fun K z=>?_;simp [q];apply z
   iterate 2 refine wQ q ?_
   apply wN;apply w
   rcases aA h9 with ⟨a9,h9⟩ | ⟨b0,h9⟩
   ·refine O.cT' (by simp) a9 ?_
    refine O.zR u fun K w=>?_
    refine wQ q ?_
    apply wN;apply w
    have b5:=congrArg some (a0 _ (Option.some.inj h9).symm)
    cases b5
    try dsimp only at h
    cases h
    refine O.ret ?_
    simp [aC,iB,res54]
   refine O.cF' (by simp) b0 ?_
   refine O.skip ?_
   refine O.zG u fun K w=>?_
   iterate 2 refine wQ q ?_
   apply wN;apply w
   cases h9
   exact ⟨_,[],rfl,by simp [q]⟩
  refine O.cF' (by simp) a6 ?_
  refine O.exit ?_
  have b6:=congrArg some (a0 _ (Option.some.inj h9).symm)
  cases b6
  exact b4 _ _ [] rfl (by simp [q])
 subst hv
 obtain ⟨⟩:=v
 try dsimp only at h ⊢
 refine O.zR u fun K w=>?_
 refine wQ q ?_
 apply wN;apply w
 cases h
 refine O.ret ?_
 simp [aC,iB,res54]
theorem res89:Tryz.f89.results.toList=[.tmp 2]:=rfl
theorem ent89:aE E.P 89:=eO Tryz.func89 (by simp [Tryz.f89]) rfl
theorem aFn (a4:Int) {r0:Bool} (h:rH a4=some r0):Ok E 89 [.val (vi a4)] [vb r0] []:=by
 refine oB Tryz.func89 rfl (by simp [Tryz.f89]) fun C (q:C.N=13) hP=>?_
 have y:=aK hP
 unfold rH at h
 refine O.zR y fun K u=>?_
 refine wQ q ?_
 apply wN;apply u
 obtain ⟨b1,a2,h⟩:=bS h
 refine O.seqRC rfl (y _ rfl) [2] [] (fun _:Unit=>⟨[(2,.t (vb b1))],[]⟩) (fun _=>True) (fun _ _=>?_) fun K3 a9=>?_
 rotate_left
 ·refine wQ q ?_
  obtain ⟨r4,b2,a2⟩:=bS a2
  refine wL [(.take,.tmp 3),(.take,.const (.int .i64 2)),(.take,.const (.int .i64 6))] rfl rfl nD (aW _ _ _ b2) fun K v=>?_;simp [q];apply v
  refine wQ q ?_
  rcases aA a2 with ⟨a7,a2⟩ | ⟨a5,a2⟩
  ·have a1:=a7
   try simp at a1
   iterate 2 (refine wO fun K v=>?_;simp [q,a7,a1];apply v)
   iterate 2 (refine wC rfl fun K v=>?_;simp [q,a7,a1];apply v)
   iterate 2 (refine wO fun K v=>?_;simp [q,a7,a1];apply v)
   iterate 2 (refine wC rfl fun K v=>?_;simp [q,a7,a1];apply v)
   refine wN ?_
   cases a2
   exact a9 _ () [] trivial (by simp [q,a7,a1])
  have a0:=a5
  try simp at a0
  iterate 4 (refine wC rfl fun K v=>?_;simp [q,a5,a0];apply v)
  rcases aA a2 with ⟨a8,a2⟩ | ⟨b0,a2⟩
  ·have a3:=a8
   try simp at a3
   iterate 2 (refine wO fun K v=>?_;simp [q,a5,a0,a8,a3];apply v)
   iterate 2 (refine wC rfl fun K v=>?_;simp [q,a5,a0,a8,a3];apply v)
   refine wN ?_
   cases a2
   exact a9 _ () [] trivial (by simp [q,a5,a0,a8,a3])
  have a6:=b0
  try simp at a6
  iterate 4 (refine wC rfl fun K v=>?_;simp [q,a5,a0,b0,a6];apply v)
  refine wN ?_
  cases a2
  exact a9 _ () [] trivial (by simp [q,a5,a0,b0,a6])
 cases h
 refine O.ret ?_
 simp [aC,iB,res89]
theorem res90:Tryz.f90.results.toList=[.tmp 4]:=rfl
theorem ent90:aE E.P 90:=eO Tryz.func90 (by simp [Tryz.f90]) rfl
theorem aAg (l1:List ByteArray) (s2:ByteArray) {r0:Bool} (h:lO l1 s2=some r0):Ok E 90 [.val (.sl false 1 (List.map vs l1)),.val (vs s2)] [vb r0] []:=by
 refine oB Tryz.func90 rfl (by simp [Tryz.f90]) fun C (q:C.N=17) hP=>?_
 have u:=aK hP
 unfold lO at h
 refine O.zR u fun K w=>?_
 refine wQ q ?_
 apply wN;apply w
 obtain ⟨j5,b0,h⟩:=bS h
 refine O.seqC [] [] (fun v:Unit=>⟨[],[]⟩) (fun v=>j5=Sum.inl v) (fun v hv=>?_) fun K4 b1=>?_
 rotate_left
 ·refine O.zR u fun K w=>?_
  iterate 3 refine wQ q ?_
  apply wN;apply w
  refine O.block ?_
  refine O.loopO [] [1,7,8,9] [] (fun v:Int=>⟨[(1,.t (vs s2)),(7,.t (.sl false 1 (List.map vs l1))),(8,.t (vi (l1.length:Int))),(9,.t (vi v))],[]⟩) (fB l1 s2) _ 0 b0 (by simp [q]) ?_
  intro g s9 h7 a9
  obtain ⟨v6,hg⟩:∃ y,y=g:=⟨_,rfl⟩
  subst hg
  simp only [fB] at h7
  try dsimp only
  refine O.zR u fun K w=>?_
  refine wQ q ?_
  apply wN;apply w
  refine O.seq ?_
  rcases aA h7 with ⟨a4,h7⟩ | ⟨a5,h7⟩
  ·refine O.cT' (by simp) a4 ?_
   refine O.skip ?_
   refine O.seq ?_
   refine O.block ?_
   refine O.zR u fun K w=>?_
   obtain ⟨b4,a6,h7⟩:=bS h7
   obtain ⟨a0,a1,a2,a3⟩:=gS a6
   iterate 3 (refine wC rfl fun K z=>?_;simp [q,a0,a1,a2,a3];apply z)
   apply wN;apply w
   refine O.zR u fun K w=>?_
   iterate 3 refine wQ q ?_
   apply wN;apply w
   rcases aA h7 with ⟨a7,h7⟩ | ⟨a8,h7⟩
   ·refine O.cT' (by simp) a7 ?_
    refine O.zR u fun K w=>?_
    refine wQ q ?_
    apply wN;apply w
    have b2:=congrArg some (a9 _ (Option.some.inj h7).symm)
    cases b2
    try dsimp only at h
    cases h
    refine O.ret ?_
    simp [aC,iB,res90]
   refine O.cF' (by simp) a8 ?_
   refine O.skip ?_
   refine O.zG u fun K w=>?_
   iterate 2 refine wQ q ?_
   apply wN;apply w
   cases h7
   exact ⟨_,[],rfl,by simp [q]⟩
  refine O.cF' (by simp) a5 ?_
  refine O.exit ?_
  have b3:=congrArg some (a9 _ (Option.some.inj h7).symm)
  cases b3
  exact b1 _ _ [] rfl (by simp [q])
 subst hv
 obtain ⟨⟩:=v
 try dsimp only at h ⊢
 refine O.zR u fun K w=>?_
 refine wQ q ?_
 apply wN;apply w
 cases h
 refine O.ret ?_
 simp [aC,iB,res90]
theorem aN6:Tryz.f55.results.toList=[.tmp 8]:=rfl
theorem aPm:aE E.P 55:=eO Tryz.func55 (by simp [Tryz.f55]) rfl
theorem aBk (a4:GProgram→Int→Int→(List ByteArray)→Option (Bool)) (a9:∀ (a0:GProgram) (a1:Int) (a2:Int) (a3:List ByteArray) {r0:Bool},a4 a0 a1 a2 a3=some r0→Ok E 55 [.val (GProgram.enc false a0),.val (vi a1),.val (vi a2),.val (.sl false 1 (List.map vs a3))] [vb r0] []) (p1:GProgram) (c4:Int) (k3:Int) (a6:List ByteArray) {r0:Bool} (h:mY a4 p1 c4 k3 a6=some r0):Ok E 55 [.val (GProgram.enc false p1),.val (vi c4),.val (vi k3),.val (.sl false 1 (List.map vs a6))] [vb r0] []:=by
 refine oB Tryz.func55 rfl (by simp [Tryz.f55]) fun C (q:C.N=91) hP=>?_
 have y:=aK hP
 unfold mY at h
 refine O.zR y fun K u=>?_
 iterate 2 refine wQ q ?_
 apply wN;apply u
 refine O.zR y fun K u=>?_
 iterate 3 refine wQ q ?_
 obtain ⟨e5,j6,h⟩:=bS h
 obtain ⟨g6,g7,g8,g9⟩:=gS j6
 iterate 4 (refine wC rfl fun K z=>?_;simp [q,g6,g7,g8,g9];apply z)
 apply wN;apply u
 refine O.seq ?_
 obtain ⟨j7,c7,h⟩:=bS h
 refine O.seqRC rfl (y _ rfl) [1,3,4,9,28] [4,9] (fun _:Unit=>⟨[(1,.t (vi c4)),(3,.t (.sl false 1 (List.map vs a6))),(4,.ref (.box 4) 0 []),(9,.ref (.box 9) 0 []),(28,.t (vb j7))],[(4,[.sl false 4 (List.map (GNode.enc false) p1.Nodes),.sl false 5 (List.map (GFn.enc false) p1.Fns)]),(9,[vi e5.Kind,vi e5.Num,vs e5.Name,.sl false 1 (List.map vi e5.Kids)])]⟩) (fun _=>True) (fun _ _=>?_) fun K7 j4=>?_
 rotate_left
 ·refine wQ q ?_
  refine wQ q ?_
  obtain ⟨r8,j8,c7⟩:=bS c7
  refine wL [(.take,.tmp 20)] rfl rfl ent89 (aFn _ j8) fun K z=>?_;simp [q];apply z
  refine wQ q ?_
  rcases aA c7 with ⟨c6,c7⟩ | ⟨c8,c7⟩
  ·have b7:=c6
   try simp at b7
   iterate 3 (refine wC rfl fun K z=>?_;simp [q,c6,b7];apply z)
   obtain ⟨l0,h0,c7⟩:=bS c7
   refine wL [(.take,.tmp 23),(.take,.tmp 25)] rfl rfl ent90 (aAg _ _ h0) fun K z=>?_;simp [q,c6,b7];apply z
   iterate 2 (refine wC rfl fun K z=>?_;simp [q,c6,b7];apply z)
   refine wN ?_
   cases c7
   exact j4 _ () [] trivial (by simp [q,c6,b7])
  have c0:=c8
  try simp at c0
  iterate 5 (refine wO fun K z=>?_;simp [q,c8,c0];apply z)
  refine wC rfl fun K z=>?_;simp [q,c8,c0];apply z
  refine wN ?_
  cases c7
  exact j4 _ () [] trivial (by simp [q,c8,c0])
 rcases aA h with ⟨h1,h⟩ | ⟨h2,h⟩
 ·refine O.cT' (by simp) h1 ?_
  refine O.zR y fun K u=>?_
  refine wQ q ?_
  apply wN;apply u
  cases h
  refine O.ret ?_
  simp [aC,iB,aN6]
 refine O.cF' (by simp) h2 ?_
 refine O.skip ?_
 obtain ⟨j9,a7,h⟩:=bS h
 refine O.seqC [1,3,4,9] [4,9] (fun v:Unit=>⟨[(1,.t (vi c4)),(3,.t (.sl false 1 (List.map vs a6))),(4,.ref (.box 4) 0 []),(9,.ref (.box 9) 0 [])],[(4,[.sl false 4 (List.map (GNode.enc false) p1.Nodes),.sl false 5 (List.map (GFn.enc false) p1.Fns)]),(9,[vi e5.Kind,vi e5.Num,vs e5.Name,.sl false 1 (List.map vi e5.Kids)])]⟩) (fun v=>j9=Sum.inl v) (fun v hv=>?_) fun l1 e6=>?_
 rotate_left
 ·refine O.zR y fun K u=>?_
  iterate 3 refine wQ q ?_
  apply wN;apply u
  rcases aA a7 with ⟨h3,a7⟩ | ⟨h4,a7⟩
  ·refine O.cT' (by simp) h3 ?_
   refine O.zR y fun K u=>?_
   iterate 3 refine wQ q ?_
   obtain ⟨h5,h6,a7⟩:=bS a7
   refine wL [(.take,.tmp 32),(.take,.tmp 34)] rfl rfl aPo (rN _ _ h6) fun K z=>?_;simp [q];apply z
   refine wQ q ?_
   apply wN;apply u
   obtain ⟨k0,b6,a7⟩:=bS a7
   refine O.seqC [1,3,4,9,53] [4,9] (fun _:Unit=>⟨[(1,.t (vi c4)),(3,.t (.sl false 1 (List.map vs a6))),(4,.ref (.box 4) 0 []),(9,.ref (.box 9) 0 []),(53,.t (vb k0))],[(4,[.sl false 4 (List.map (GNode.enc false) p1.Nodes),.sl false 5 (List.map (GFn.enc false) p1.Fns)]),(9,[vi e5.Kind,vi e5.Num,vs e5.Name,.sl false 1 (List.map vi e5.Kids)])]⟩) (fun _=>True) (fun _ _=>?_) fun l2 e7=>?_
   rotate_left
   ·obtain ⟨e4,e8,b6⟩:=bS b6
    rcases aA b6 with ⟨b1,b6⟩ | ⟨b8,b6⟩
    ·have a5:=b1
     try simp at a5
     refine O.dT rfl (y _ rfl) [(36,.t (vi h5)),(37,.t (vi c4)),(38,.t (vi (IntKind.wrap .i64 (c4 - 1)))),(39,.t (vb e4)),(40,.t (vb (!e4))),(41,.t (vb (!e4))),(42,.tup []),(43,.tup []),(44,.tup []),(45,.tup []),(46,.tup []),(47,.tup []),(48,.tup []),(49,.tup []),(50,.tup []),(51,.tup [])] [[],[],[1],[0,1,2],[0,1,2,3],[0,1,2,3,4],[0,1,2,3,4,5],[0,1,2,3,4,5,6],[0,1,2,3,4,5],[0,1,2,3,4,5,6,7,8],[0,1,2,3,4,5,6,7,8,9],[0,1,2,3,4,5,6,7,8,9,10],[0,1,2,3,4,5,6,7,8,9,10,11],[0,1,2,3,4,5],[0,1,2,3,4,5,13],[0,1,2,3,4,5,13,14],[0,1,2,3,4,5,6,7,8,9,10,11,12,13,14,15],[0,1,2,3,4,5,6,7,8,9,10,11,12,13,14,15,16]] (by simp) (by simp) (by simp [look]) rfl rfl rfl ?_ fun K u=>?_
     ·refine ⟨?_,?_,?_,?_,?_,?_,?_,?_,?_,?_,?_,?_,?_,?_,?_,?_,trivial⟩
      all_goals (intro τ hbx hb hd hf K u;try simp [aH] at hd;simp [aH] at hf;first | (refine wC rfl fun K' w=>?_;simp [q,hbx,hb,hd,hf,b1,a5];exact w _ (wN (u _ (by simp [aH,hbx,b1,a5])))) | (refine wL [(.take,.tmp 36),(.take,.const (.int .i64 0)),(.take,.tmp 38)] rfl rfl nD (aW _ _ _ e8) fun K' w=>?_;simp [q,hbx,hb,hd,hf,b1,a5];exact w _ (wN (u _ (by simp [aH,hbx,b1,a5])))) | (refine wO fun K' w=>?_;simp [q,hbx,hb,hd,hf,b1,a5];exact w _ (wN (u _ (by simp [aH,hbx,b1,a5])))))
     refine wO fun K z=>?_;simp [q,b1,a5];apply z
     refine wC rfl fun K z=>?_;simp [q,b1,a5];apply z
     apply wN;apply u
     cases b6
     exact e7 _ () [] trivial (by simp [q,b1,a5])
    have b0:=b8
    try simp at b0
    obtain ⟨c5,h7,b6⟩:=bS b6
    obtain ⟨b2,b3,b4,b5⟩:=gS h7
    refine O.dT rfl (y _ rfl) [(36,.t (vi h5)),(37,.t (vi c4)),(38,.t (vi (IntKind.wrap .i64 (c4 - 1)))),(39,.t (vb e4)),(40,.t (vb (!e4))),(41,.t (vb (!e4))),(42,.ref (.box 4) 1 []),(43,.t (.sl false 5 (List.map (GFn.enc false) p1.Fns))),(44,.t (vi h5)),(45,.rop [vs c5.Name,.sl false 2 (List.map GParam.enc c5.Params),vi c5.Res,vi c5.Body,vi c5.Ret] 0),(46,.rop [vs c5.Name,.sl false 2 (List.map GParam.enc c5.Params),vi c5.Res,vi c5.Body,vi c5.Ret] 1),(47,.t (.sl false 2 (List.map GParam.enc c5.Params))),(48,.t (vi (c5.Params.length:Int))),(49,.ref (.box 9) 3 []),(50,.t (.sl false 1 (List.map vi e5.Kids))),(51,.t (vi (e5.Kids.length:Int)))] [[],[],[1],[0,1,2],[0,1,2,3],[0,1,2,3,4],[0,1,2,3,4,5],[0,1,2,3,4,5,6],[0,1,2,3,4,5],[0,1,2,3,4,5,6,7,8],[0,1,2,3,4,5,6,7,8,9],[0,1,2,3,4,5,6,7,8,9,10],[0,1,2,3,4,5,6,7,8,9,10,11],[0,1,2,3,4,5],[0,1,2,3,4,5,13],[0,1,2,3,4,5,13,14],[0,1,2,3,4,5,6,7,8,9,10,11,12,13,14,15],[0,1,2,3,4,5,6,7,8,9,10,11,12,13,14,15,16]] (by simp) (by simp) (by simp [look]) rfl rfl rfl ?_ fun K u=>?_
    ·refine ⟨?_,?_,?_,?_,?_,?_,?_,?_,?_,?_,?_,?_,?_,?_,?_,?_,trivial⟩
     all_goals (intro τ hbx hb hd hf K u;try simp [aH] at hd;simp [aH] at hf;first | (refine wC rfl fun K' w=>?_;simp [q,hbx,hb,hd,hf,b8,b0,b2,b3,b4,b5];exact w _ (wN (u _ (by simp [aH,hbx,b8,b0,b2,b3,b4,b5])))) | (refine wL [(.take,.tmp 36),(.take,.const (.int .i64 0)),(.take,.tmp 38)] rfl rfl nD (aW _ _ _ e8) fun K' w=>?_;simp [q,hbx,hb,hd,hf,b8,b0,b2,b3,b4,b5];exact w _ (wN (u _ (by simp [aH,hbx,b8,b0,b2,b3,b4,b5])))))
    iterate 2 (refine wC rfl fun K z=>?_;simp [q,b8,b0,b2,b3,b4,b5];apply z)
    apply wN;apply u
    cases b6
    exact e7 _ () [] trivial (by simp [q,b8,b0,b2,b3,b4,b5])
   rcases aA a7 with ⟨h8,a7⟩ | ⟨h9,a7⟩
   ·refine O.cT' (by simp) h8 ?_
    refine O.zR y fun K u=>?_
    refine wQ q ?_
    apply wN;apply u
    cases a7
    try dsimp only at h
    cases h
    refine O.ret ?_
    simp [aC,iB,aN6]
   refine O.cF' (by simp) h9 ?_
   refine O.skip ?_
   cases a7
   exact e6 _ _ [] rfl (by simp [q])
  refine O.cF' (by simp) h4 ?_
  refine O.skip ?_
  cases a7
  exact e6 _ _ [] rfl (by simp [q])
 subst hv
 obtain ⟨⟩:=v
 try dsimp only at h ⊢
 refine O.zR y fun K u=>?_
 refine wQ q ?_
 obtain ⟨l3,i0,h⟩:=bS h
 obtain ⟨d1,d2,j5⟩:=aS i0
 simp [eSl] at d1 d2
 iterate 2 (refine wC rfl fun K z=>?_;simp [q,d1,d2];apply z)
 apply wN;apply u
 obtain ⟨k1,i1,h⟩:=bS h
 refine O.seqC [] [] (fun v:Unit=>⟨[],[]⟩) (fun v=>k1=Sum.inl v) (fun v hv=>?_) fun l4 i2=>?_
 rotate_left
 ·refine O.zR y fun K u=>?_
  iterate 4 refine wQ q ?_
  apply wN;apply u
  refine O.block ?_
  refine O.loopO [] [1,4,9,11,57,58,59] [4,9] (fun v:(List ByteArray) × Int=>⟨[(1,.t (vi c4)),(4,.ref (.box 4) 0 []),(9,.ref (.box 9) 0 []),(11,.t (.sl true 1 (List.map vs v.1))),(57,.t (.sl false 1 (List.map vi e5.Kids))),(58,.t (vi (e5.Kids.length:Int))),(59,.t (vi v.2))],[(4,[.sl false 4 (List.map (GNode.enc false) p1.Nodes),.sl false 5 (List.map (GFn.enc false) p1.Fns)]),(9,[vi e5.Kind,vi e5.Num,vs e5.Name,.sl false 1 (List.map vi e5.Kids)])]⟩) (gQ a4 p1 c4 e5) _ (a6,0) i1 (by simp [q]) ?_
  intro g l5 a8 e9
  obtain ⟨c1,k2⟩:=g
  simp only [gQ] at a8
  try dsimp only
  refine O.zR y fun K u=>?_
  refine wQ q ?_
  apply wN;apply u
  refine O.seq ?_
  rcases aA a8 with ⟨i3,a8⟩ | ⟨i4,a8⟩
  ·refine O.cT' (by simp) i3 ?_
   refine O.skip ?_
   refine O.seq ?_
   refine O.block ?_
   refine O.zR y fun K u=>?_
   obtain ⟨k4,i5,a8⟩:=bS a8
   obtain ⟨g0,g1,g2,g3⟩:=gS i5
   iterate 3 (refine wC rfl fun K z=>?_;simp [q,g0,g1,g2,g3];apply z)
   apply wN;apply u
   refine O.seq ?_
   refine O.zR y fun K u=>?_
   iterate 4 refine wQ q ?_
   obtain ⟨l6,i6,a8⟩:=bS a8
   refine wL [(.take,.tmp 63),(.take,.tmp 64),(.take,.tmp 65),(.bor,.tmp 66)] rfl rfl aPm (a9 _ _ _ _ i6) fun K z=>?_;simp [q];apply z
   refine wQ q ?_
   apply wN;apply u
   rcases aA a8 with ⟨i7,a8⟩ | ⟨i8,a8⟩
   ·refine O.cT' (by simp) i7 ?_
    refine O.zR y fun K u=>?_
    refine wQ q ?_
    apply wN;apply u
    have k5:=congrArg some (e9 _ (Option.some.inj a8).symm)
    cases k5
    try dsimp only at h
    cases h
    refine O.ret ?_
    simp [aC,iB,aN6]
   refine O.cF' (by simp) i8 ?_
   refine O.skip ?_
   obtain ⟨k6,b9,a8⟩:=bS a8
   refine O.seqRC rfl (y _ rfl) [1,4,9,11,13,57,58,59,80] [4,9] (fun _:Unit=>⟨[(1,.t (vi c4)),(4,.ref (.box 4) 0 []),(9,.ref (.box 9) 0 []),(11,.t (.sl true 1 (List.map vs c1))),(13,.t (vi k4)),(57,.t (.sl false 1 (List.map vi e5.Kids))),(58,.t (vi (e5.Kids.length:Int))),(59,.t (vi k2)),(80,.t (vb k6))],[(4,[.sl false 4 (List.map (GNode.enc false) p1.Nodes),.sl false 5 (List.map (GFn.enc false) p1.Fns)]),(9,[vi e5.Kind,vi e5.Num,vs e5.Name,.sl false 1 (List.map vi e5.Kids)])]⟩) (fun _=>True) (fun _ _=>?_) fun l7 g4=>?_
   rotate_left
   ·refine wQ q ?_
    iterate 3 refine wQ q ?_
    rcases aA b9 with ⟨c9,b9⟩ | ⟨d0,b9⟩
    ·have c2:=c9
     try simp at c2
     iterate 3 (refine wC rfl fun K z=>?_;simp [q,c9,c2];apply z)
     obtain ⟨l8,i9,b9⟩:=bS b9
     obtain ⟨d3,d4,d5,d6⟩:=gS i9
     iterate 5 (refine wC rfl fun K z=>?_;simp [q,c9,c2,d3,d4,d5,d6];apply z)
     refine wN ?_
     cases b9
     exact g4 _ () [] trivial (by simp [q,c9,c2,d3,d4,d5,d6])
    have c3:=d0
    try simp at c3
    iterate 7 (refine wO fun K z=>?_;simp [q,d0,c3];apply z)
    refine wC rfl fun K z=>?_;simp [q,d0,c3];apply z
    refine wN ?_
    cases b9
    exact g4 _ () [] trivial (by simp [q,d0,c3])
   rcases aA a8 with ⟨j0,a8⟩ | ⟨j1,a8⟩
   ·refine O.cT' (by simp) j0 ?_
    refine O.zG y fun K u=>?_
    iterate 4 refine wQ q ?_
    obtain ⟨k7,j2,a8⟩:=bS a8
    obtain ⟨d7,d8,d9,e0⟩:=gS j2
    iterate 4 (refine wC rfl fun K z=>?_;simp [q,d7,d8,d9,e0];apply z)
    obtain ⟨k8,j3,a8⟩:=bS a8
    obtain ⟨e1,e2,g5⟩:=aS j3
    have e3:List.map vs c1 ++ List.map vs [k7.Name]=List.map vs k8:=dW (f:=vs) g5
    simp [eSl] at e1 e2 e3
    iterate 2 (refine wC rfl fun K z=>?_;simp [q,d7,d8,d9,e0,e1,e2,e3];apply z)
    apply wN;apply u
    refine O.zG y fun K u=>?_
    iterate 2 refine wQ q ?_
    apply wN;apply u
    cases a8
    exact ⟨_,[],rfl,by simp [q]⟩
   refine O.cF' (by simp) j1 ?_
   refine O.skip ?_
   refine O.zG y fun K u=>?_
   iterate 2 refine wQ q ?_
   apply wN;apply u
   cases a8
   exact ⟨_,[],rfl,by simp [q]⟩
  refine O.cF' (by simp) i4 ?_
  refine O.exit ?_
  have k9:=congrArg some (e9 _ (Option.some.inj a8).symm)
  cases k9
  exact i2 _ _ [] rfl (by simp [q])
 subst hv
 obtain ⟨⟩:=v
 try dsimp only at h ⊢
 refine O.zR y fun K u=>?_
 refine wQ q ?_
 apply wN;apply u
 cases h
 refine O.ret ?_
 simp [aC,iB,aN6]
theorem qC:∀ n:Nat,(∀ (a0:GProgram) (a1:Int) (a2:Int) (a3:List ByteArray) {r0:Bool},(eH n) a0 a1 a2 a3=some r0→Ok E 55 [.val (GProgram.enc false a0),.val (vi a1),.val (vi a2),.val (.sl false 1 (List.map vs a3))] [vb r0] [])
 | 0=>(by intros;rename_i h;cases h)
 | n + 1=>aBk (eH n) (qC n)
theorem wW:∀ (a0:GProgram) (a1:Int) (a2:Int) (a3:List ByteArray) {r0:Bool},rI a0 a1 a2 a3=some r0→Ok E 55 [.val (GProgram.enc false a0),.val (vi a1),.val (vi a2),.val (.sl false 1 (List.map vs a3))] [vb r0] []:=(qC eK)
theorem aL0:Tryz.f23.results.toList=[.tmp 2]:=rfl
theorem aK4:aE E.P 23:=eO Tryz.func23 (by simp [Tryz.f23]) rfl
theorem cR (p1:GProgram) {r0:Bool} (h:dV p1=some r0):Ok E 23 [.val (GProgram.enc false p1)] [vb r0] []:=by
 refine oB Tryz.func23 rfl (by simp [Tryz.f23]) fun C (q:C.N=87) hP=>?_
 have u:=aK hP
 unfold dV at h
 refine O.zR u fun K w=>?_
 iterate 2 refine wQ q ?_
 apply wN;apply w
 refine O.seq ?_
 refine O.zR u fun K w=>?_
 refine wQ q ?_
 obtain ⟨r2,j2,h⟩:=bS h
 refine wL [(.take,.tmp 10)] rfl rfl ent53 (wE _ j2) fun K z=>?_;simp [q];apply z
 refine wQ q ?_
 apply wN;apply w
 rcases aA h with ⟨j3,h⟩ | ⟨j4,h⟩
 ·refine O.cT' (by simp) j3 ?_
  refine O.zR u fun K w=>?_
  refine wQ q ?_
  apply wN;apply w
  cases h
  refine O.ret ?_
  simp [aC,iB,aL0]
 refine O.cF' (by simp) j4 ?_
 refine O.skip ?_
 obtain ⟨j8,j5,h⟩:=bS h
 refine O.seqC [] [] (fun v:Unit=>⟨[],[]⟩) (fun v=>j8=Sum.inl v) (fun v hv=>?_) fun K7 j6=>?_
 rotate_left
 ·refine O.zR u fun K w=>?_
  iterate 4 refine wQ q ?_
  apply wN;apply w
  refine O.block ?_
  refine O.loopO [] [1,14,15,16] [1] (fun v:Int=>⟨[(1,.ref (.box 1) 0 []),(14,.t (.sl false 5 (List.map (GFn.enc false) p1.Fns))),(15,.t (vi (p1.Fns.length:Int))),(16,.t (vi v))],[(1,[.sl false 4 (List.map (GNode.enc false) p1.Nodes),.sl false 5 (List.map (GFn.enc false) p1.Fns)])]⟩) (cS p1) _ 0 j5 (by simp [q]) ?_
  intro g l0 a4 b0
  obtain ⟨v9,hg⟩:∃ y,y=g:=⟨_,rfl⟩
  subst hg
  simp only [cS] at a4
  try dsimp only
  refine O.zR u fun K w=>?_
  refine wQ q ?_
  apply wN;apply w
  refine O.seq ?_
  rcases aA a4 with ⟨g0,a4⟩ | ⟨g1,a4⟩
  ·refine O.cT' (by simp) g0 ?_
   refine O.skip ?_
   obtain ⟨j7,a0,a4⟩:=bS a4
   refine O.seqC [1,14,15,16] [1] (fun v:Unit=>⟨[(1,.ref (.box 1) 0 []),(14,.t (.sl false 5 (List.map (GFn.enc false) p1.Fns))),(15,.t (vi (p1.Fns.length:Int))),(16,.t (vi v9))],[(1,[.sl false 4 (List.map (GNode.enc false) p1.Nodes),.sl false 5 (List.map (GFn.enc false) p1.Fns)])]⟩) (fun v=>j7=Sum.inl v) (fun v hv=>?_) fun l1 g2=>?_
   rotate_left
   ·refine O.block ?_
    refine O.zR u fun K w=>?_
    refine wQ q ?_
    obtain ⟨a1,g3,a0⟩:=bS a0
    obtain ⟨d0,d1,d2,d3⟩:=gS g3
    iterate 5 (refine wC rfl fun K z=>?_;simp [q,d0,d1,d2,d3];apply z)
    apply wN;apply w
    refine O.seq ?_
    refine O.zR u fun K w=>?_
    iterate 2 refine wQ q ?_
    obtain ⟨l2,g4,a0⟩:=bS a0
    refine wL [(.take,.tmp 21),(.take,.tmp 22)] rfl rfl ent54 (aAd _ _ g4) fun K z=>?_;simp [q];apply z
    refine wQ q ?_
    apply wN;apply w
    rcases aA a0 with ⟨g5,a0⟩ | ⟨g6,a0⟩
    ·refine O.cT' (by simp) g5 ?_
     refine O.zR u fun K w=>?_
     refine wQ q ?_
     apply wN;apply w
     cases a0
     try dsimp only at a4
     have j9:=congrArg some (b0 _ (Option.some.inj a4).symm)
     cases j9
     try dsimp only at h
     cases h
     refine O.ret ?_
     simp [aC,iB,aL0]
    refine O.cF' (by simp) g6 ?_
    refine O.skip ?_
    refine O.zR u fun K w=>?_
    refine wQ q ?_
    apply wN;apply w
    obtain ⟨a6,g7,a0⟩:=bS a0
    refine O.seqC [1,3,4,5,14,15,16] [1,4] (fun _:Unit=>⟨[(1,.ref (.box 1) 0 []),(3,.t (vi v9)),(4,.ref (.box 4) 0 []),(5,.t (.sl true 1 (List.map vs a6))),(14,.t (.sl false 5 (List.map (GFn.enc false) p1.Fns))),(15,.t (vi (p1.Fns.length:Int))),(16,.t (vi v9))],[(1,[.sl false 4 (List.map (GNode.enc false) p1.Nodes),.sl false 5 (List.map (GFn.enc false) p1.Fns)]),(4,[vs a1.Name,.sl false 2 (List.map GParam.enc a1.Params),vi a1.Res,vi a1.Body,vi a1.Ret])]⟩) (fun _=>True) (fun _ _=>?_) fun l3 g8=>?_
    rotate_left
    ·refine O.zR u fun K w=>?_
     iterate 4 refine wQ q ?_
     apply wN;apply w
     refine O.block ?_
     refine O.loopO [] [1,3,4,5,14,15,16,26,27,28] [1,4] (fun v:(List ByteArray) × Int=>⟨[(1,.ref (.box 1) 0 []),(3,.t (vi v9)),(4,.ref (.box 4) 0 []),(5,.t (.sl true 1 (List.map vs v.1))),(14,.t (.sl false 5 (List.map (GFn.enc false) p1.Fns))),(15,.t (vi (p1.Fns.length:Int))),(16,.t (vi v9)),(26,.t (.sl false 2 (List.map GParam.enc a1.Params))),(27,.t (vi (a1.Params.length:Int))),(28,.t (vi v.2))],[(1,[.sl false 4 (List.map (GNode.enc false) p1.Nodes),.sl false 5 (List.map (GFn.enc false) p1.Fns)]),(4,[vs a1.Name,.sl false 2 (List.map GParam.enc a1.Params),vi a1.Res,vi a1.Body,vi a1.Ret])]⟩) (bU a1) _ ([],0) g7 (by simp [q]) ?_
     intro g l4 a9 g9
     obtain ⟨b1,l5⟩:=g
     simp only [bU] at a9
     try dsimp only
     refine O.zR u fun K w=>?_
     refine wQ q ?_
     apply wN;apply w
     refine O.seq ?_
     rcases aA a9 with ⟨h0,a9⟩ | ⟨h1,a9⟩
     ·refine O.cT' (by simp) h0 ?_
      refine O.skip ?_
      refine O.seq ?_
      refine O.block ?_
      refine O.zR u fun K w=>?_
      obtain ⟨k0,h2,a9⟩:=bS a9
      obtain ⟨d4,d5,d6,d7⟩:=gS h2
      iterate 4 (refine wC rfl fun K z=>?_;simp [q,d4,d5,d6,d7];apply z)
      apply wN;apply w
      refine O.zG u fun K w=>?_
      iterate 4 refine wQ q ?_
      obtain ⟨k1,h3,a9⟩:=bS a9
      obtain ⟨b5,b6,d8⟩:=aS h3
      have b7:List.map vs b1 ++ List.map vs [k0.Name]=List.map vs k1:=dW (f:=vs) d8
      simp [eSl] at b5 b6 b7
      iterate 2 (refine wC rfl fun K z=>?_;simp [q,b5,b6,b7];apply z)
      apply wN;apply w
      refine O.zG u fun K w=>?_
      iterate 2 refine wQ q ?_
      apply wN;apply w
      cases a9
      exact ⟨_,[],rfl,by simp [q]⟩
     refine O.cF' (by simp) h1 ?_
     refine O.exit ?_
     have k2:=congrArg some (g9 _ (Option.some.inj a9).symm)
     cases k2
     exact g8 _ () [] trivial (by simp [q])
    refine O.seq ?_
    refine O.zR u fun K w=>?_
    iterate 5 refine wQ q ?_
    obtain ⟨l6,h4,a0⟩:=bS a0
    refine wL [(.take,.tmp 38),(.take,.tmp 39),(.take,.tmp 41),(.bor,.tmp 42)] rfl rfl aPm (wW _ _ _ _ h4) fun K z=>?_;simp [q];apply z
    refine wQ q ?_
    apply wN;apply w
    rcases aA a0 with ⟨h5,a0⟩ | ⟨h6,a0⟩
    ·refine O.cT' (by simp) h5 ?_
     refine O.zR u fun K w=>?_
     refine wQ q ?_
     apply wN;apply w
     cases a0
     try dsimp only at a4
     have k3:=congrArg some (b0 _ (Option.some.inj a4).symm)
     cases k3
     try dsimp only at h
     cases h
     refine O.ret ?_
     simp [aC,iB,aL0]
    refine O.cF' (by simp) h6 ?_
    refine O.skip ?_
    obtain ⟨b2,c9,a0⟩:=bS a0
    refine O.seqC [1,3,4,5,14,15,16] [1,4] (fun _:Unit=>⟨[(1,.ref (.box 1) 0 []),(3,.t (vi v9)),(4,.ref (.box 4) 0 []),(5,.t (.sl true 1 (List.map vs b2))),(14,.t (.sl false 5 (List.map (GFn.enc false) p1.Fns))),(15,.t (vi (p1.Fns.length:Int))),(16,.t (vi v9))],[(1,[.sl false 4 (List.map (GNode.enc false) p1.Nodes),.sl false 5 (List.map (GFn.enc false) p1.Fns)]),(4,[vs a1.Name,.sl false 2 (List.map GParam.enc a1.Params),vi a1.Res,vi a1.Body,vi a1.Ret])]⟩) (fun _=>True) (fun _ _=>?_) fun l7 h7=>?_
    rotate_left
    ·refine O.zR u fun K w=>?_
     iterate 4 refine wQ q ?_
     obtain ⟨h8,h9,c9⟩:=bS c9
     obtain ⟨d9,b8,b9,c0⟩:=gS h9
     have c1:=b8;try simp at c1
     try simp only [Int.toNat_natCast] at b9 c0
     iterate 5 (refine wC rfl fun K z=>?_;simp [q,d9,b8,b9,c0,c1];apply z)
     apply wN;apply w
     refine O.block ?_
     refine O.loopO [] [1,3,4,5,14,15,16,51,52,53] [1,4] (fun v:(List ByteArray) × Int=>⟨[(1,.ref (.box 1) 0 []),(3,.t (vi v9)),(4,.ref (.box 4) 0 []),(5,.t (.sl true 1 (List.map vs v.1))),(14,.t (.sl false 5 (List.map (GFn.enc false) p1.Fns))),(15,.t (vi (p1.Fns.length:Int))),(16,.t (vi v9)),(51,.t (.sl false 1 (List.map vi h8.Kids))),(52,.t (vi (h8.Kids.length:Int))),(53,.t (vi v.2))],[(1,[.sl false 4 (List.map (GNode.enc false) p1.Nodes),.sl false 5 (List.map (GFn.enc false) p1.Fns)]),(4,[vs a1.Name,.sl false 2 (List.map GParam.enc a1.Params),vi a1.Res,vi a1.Body,vi a1.Ret])]⟩) (bT p1 h8) _ (a6,0) c9 (by simp [q]) ?_
     intro g l8 a2 i0
     obtain ⟨b3,l9⟩:=g
     simp only [bT] at a2
     try dsimp only
     refine O.zR u fun K w=>?_
     refine wQ q ?_
     apply wN;apply w
     refine O.seq ?_
     rcases aA a2 with ⟨i1,a2⟩ | ⟨i2,a2⟩
     ·refine O.cT' (by simp) i1 ?_
      refine O.skip ?_
      refine O.seq ?_
      refine O.block ?_
      refine O.zR u fun K w=>?_
      obtain ⟨m0,i3,a2⟩:=bS a2
      obtain ⟨e0,e1,e2,e3⟩:=gS i3
      iterate 3 (refine wC rfl fun K z=>?_;simp [q,e0,e1,e2,e3];apply z)
      apply wN;apply w
      refine O.zR u fun K w=>?_
      iterate 3 refine wQ q ?_
      obtain ⟨m1,i4,a2⟩:=bS a2
      obtain ⟨e4,e5,e6,e7⟩:=gS i4
      iterate 4 (refine wC rfl fun K z=>?_;simp [q,e4,e5,e6,e7];apply z)
      apply wN;apply w
      rcases aA a2 with ⟨i5,a2⟩ | ⟨i6,a2⟩
      ·refine O.cT' (by simp) i5 ?_
       refine O.zG u fun K w=>?_
       iterate 4 refine wQ q ?_
       obtain ⟨k4,i7,a2⟩:=bS a2
       obtain ⟨c2,c3,c4,c5⟩:=gS i7
       iterate 4 (refine wC rfl fun K z=>?_;simp [q,c2,c3,c4,c5];apply z)
       obtain ⟨k5,i8,a2⟩:=bS a2
       obtain ⟨c6,c7,e8⟩:=aS i8
       have c8:List.map vs b3 ++ List.map vs [k4.Name]=List.map vs k5:=dW (f:=vs) e8
       simp [eSl] at c6 c7 c8
       iterate 2 (refine wC rfl fun K z=>?_;simp [q,c2,c3,c4,c5,c6,c7,c8];apply z)
       apply wN;apply w
       refine O.zG u fun K w=>?_
       iterate 2 refine wQ q ?_
       apply wN;apply w
       cases a2
       exact ⟨_,[],rfl,by simp [q]⟩
      refine O.cF' (by simp) i6 ?_
      refine O.skip ?_
      refine O.zG u fun K w=>?_
      iterate 2 refine wQ q ?_
      apply wN;apply w
      cases a2
      exact ⟨_,[],rfl,by simp [q]⟩
     refine O.cF' (by simp) i2 ?_
     refine O.exit ?_
     have k6:=congrArg some (i0 _ (Option.some.inj a2).symm)
     cases k6
     exact h7 _ () [] trivial (by simp [q])
    obtain ⟨k7,a5,a0⟩:=bS a0
    refine O.seqRC rfl (u _ rfl) [1,14,15,16,85] [1] (fun _:Unit=>⟨[(1,.ref (.box 1) 0 []),(14,.t (.sl false 5 (List.map (GFn.enc false) p1.Fns))),(15,.t (vi (p1.Fns.length:Int))),(16,.t (vi v9)),(85,.t (vb k7))],[(1,[.sl false 4 (List.map (GNode.enc false) p1.Nodes),.sl false 5 (List.map (GFn.enc false) p1.Fns)])]⟩) (fun _=>True) (fun _ _=>?_) fun m2 e9=>?_
    rotate_left
    ·refine wQ q ?_
     iterate 3 refine wQ q ?_
     rcases aA a5 with ⟨a8,a5⟩ | ⟨b4,a5⟩
     ·have a3:=a8
      try simp at a3
      iterate 5 (refine wC rfl fun K z=>?_;simp [q,a8,a3];apply z)
      obtain ⟨m3,i9,a5⟩:=bS a5
      refine wL [(.take,.tmp 78),(.take,.tmp 79),(.take,.tmp 81),(.bor,.tmp 82)] rfl rfl aPm (wW _ _ _ _ i9) fun K z=>?_;simp [q,a8,a3];apply z
      iterate 2 (refine wC rfl fun K z=>?_;simp [q,a8,a3];apply z)
      refine wN ?_
      cases a5
      exact e9 _ () [] trivial (by simp [q,a8,a3])
     have a7:=b4
     try simp at a7
     iterate 7 (refine wO fun K z=>?_;simp [q,b4,a7];apply z)
     refine wC rfl fun K z=>?_;simp [q,b4,a7];apply z
     refine wN ?_
     cases a5
     exact e9 _ () [] trivial (by simp [q,b4,a7])
    rcases aA a0 with ⟨j0,a0⟩ | ⟨j1,a0⟩
    ·refine O.cT' (by simp) j0 ?_
     refine O.zR u fun K w=>?_
     refine wQ q ?_
     apply wN;apply w
     cases a0
     try dsimp only at a4
     have k8:=congrArg some (b0 _ (Option.some.inj a4).symm)
     cases k8
     try dsimp only at h
     cases h
     refine O.ret ?_
     simp [aC,iB,aL0]
    refine O.cF' (by simp) j1 ?_
    refine O.skip ?_
    cases a0
    exact g2 _ _ [] rfl (by simp [q])
   subst hv
   obtain ⟨⟩:=v
   try dsimp only at a4 ⊢
   refine O.zG u fun K w=>?_
   iterate 2 refine wQ q ?_
   apply wN;apply w
   cases a4
   exact ⟨_,[],rfl,by simp [q]⟩
  refine O.cF' (by simp) g1 ?_
  refine O.exit ?_
  have k9:=congrArg some (b0 _ (Option.some.inj a4).symm)
  cases k9
  exact j6 _ _ [] rfl (by simp [q])
 subst hv
 obtain ⟨⟩:=v
 try dsimp only at h ⊢
 refine O.zR u fun K w=>?_
 refine wQ q ?_
 apply wN;apply w
 cases h
 refine O.ret ?_
 simp [aC,iB,aL0]
theorem res95:Tryz.f95.results.toList=[.tmp 2]:=rfl
theorem ent95:aE E.P 95:=eO Tryz.func95 (by simp [Tryz.f95]) rfl
theorem xR (l1:List Int) {r0:List Int} (h:jY l1=some r0):Ok E 95 [.val (.sl false 1 (List.map vi l1))] [.sl true 1 (List.map vi r0)] []:=by
 refine oB Tryz.func95 rfl (by simp [Tryz.f95]) fun C (q:C.N=5) hP=>?_
 have y:=aK hP
 unfold jY at h
 refine O.zR y fun K u=>?_
 refine wQ q ?_
 apply wN;apply u
 refine O.zR y fun K u=>?_
 refine wQ q ?_
 obtain ⟨l2,a2,h⟩:=bS h
 obtain ⟨a0,a1,a3⟩:=aS a2
 simp [eSl] at a0 a1
 iterate 2 (refine wC rfl fun K v=>?_;simp [q,a0,a1];apply v)
 apply wN;apply u
 cases h
 refine O.ret ?_
 simp [aC,iB,res95]
theorem res62:Tryz.f62.results.toList=[.tmp 2]:=rfl
theorem ent62:aE E.P 62:=eO Tryz.func62 (by simp [Tryz.f62]) rfl
theorem wD (l1:List GNode) {r0:List GNode} (h:iP l1=some r0):Ok E 62 [.val (.sl false 4 (List.map (GNode.enc false) l1))] [.sl true 4 (List.map (GNode.enc true) r0)] []:=by
 refine oB Tryz.func62 rfl (by simp [Tryz.f62]) fun C (q:C.N=22) hP=>?_
 have y:=aK hP
 unfold iP at h
 refine O.zR y fun K u=>?_
 refine wQ q ?_
 apply wN;apply u
 refine O.zR y fun K u=>?_
 refine wQ q ?_
 apply wN;apply u
 obtain ⟨a3,b6,h⟩:=bS h
 refine O.seqC [3] [] (fun _:Unit=>⟨[(3,.t (.sl true 4 (List.map (GNode.enc true) a3)))],[]⟩) (fun _=>True) (fun _ _=>?_) fun K3 b7=>?_
 rotate_left
 ·refine O.zR y fun K u=>?_
  iterate 3 refine wQ q ?_
  apply wN;apply u
  refine O.block ?_
  refine O.loopO [] [3,6,7,8] [] (fun v:(List GNode) × Int=>⟨[(3,.t (.sl true 4 (List.map (GNode.enc true) v.1))),(6,.t (.sl false 4 (List.map (GNode.enc false) l1))),(7,.t (vi (l1.length:Int))),(8,.t (vi v.2))],[]⟩) (dJ l1) _ ([],0) b6 (by simp [q]) ?_
  intro g s9 h7 b8
  obtain ⟨a9,v6⟩:=g
  simp only [dJ] at h7
  try dsimp only
  refine O.zR y fun K u=>?_
  refine wQ q ?_
  apply wN;apply u
  refine O.seq ?_
  rcases aA h7 with ⟨b0,h7⟩ | ⟨b1,h7⟩
  ·refine O.cT' (by simp) b0 ?_
   refine O.skip ?_
   refine O.seq ?_
   refine O.block ?_
   refine O.zR y fun K u=>?_
   obtain ⟨b2,b3,h7⟩:=bS h7
   obtain ⟨a4,a5,a6,a7⟩:=gS b3
   iterate 4 (refine wC rfl fun K w=>?_;simp [q,a4,a5,a6,a7];apply w)
   apply wN;apply u
   refine O.zR y fun K u=>?_
   iterate 2 refine wQ q ?_
   obtain ⟨b9,b4,h7⟩:=bS h7
   refine wL [(.take,.tmp 13)] rfl rfl ent95 (xR _ b4) fun K w=>?_;simp [q];apply w
   iterate 2 refine wQ q ?_
   apply wN;apply u
   refine O.zG y fun K u=>?_
   iterate 3 refine wQ q ?_
   obtain ⟨c0,b5,h7⟩:=bS h7
   obtain ⟨a0,a1,a8⟩:=aS b5
   have a2:List.map (GNode.enc true) a9 ++ List.map (GNode.enc true) [(⟨b2.Kind,b2.Num,b2.Name,b9⟩:GNode)]=List.map (GNode.enc true) c0:=dW (f:=(GNode.enc true)) a8
   simp [eSl,GNode.enc] at a0 a1 a2
   iterate 2 (refine wC rfl fun K w=>?_;simp [q,a0,a1,a2];apply w)
   apply wN;apply u
   refine O.zG y fun K u=>?_
   iterate 2 refine wQ q ?_
   apply wN;apply u
   cases h7
   exact ⟨_,[],rfl,by simp [q]⟩
  refine O.cF' (by simp) b1 ?_
  refine O.exit ?_
  have c1:=congrArg some (b8 _ (Option.some.inj h7).symm)
  cases c1
  exact b7 _ () [] trivial (by simp [q])
 refine O.zR y fun K u=>?_
 iterate 2 refine wQ q ?_
 apply wN;apply u
 cases h
 refine O.ret ?_
 simp [aC,iB,res62]
theorem res63:Tryz.f63.results.toList=[.cell 2 58]:=rfl
theorem ent63:aE E.P 63:=eO Tryz.func63 (by simp [Tryz.f63]) rfl
theorem aBp (f1:GFn) {r0:GFn} (h:nB f1=some r0):Ok E 63 [.val (GFn.enc false f1)] [GFn.enc true r0] []:=by
 refine oB Tryz.func63 rfl (by simp [Tryz.f63]) fun C (q:C.N=8) hP=>?_
 have y:=aK hP
 unfold nB at h
 refine O.zR y fun K u=>?_
 iterate 2 refine wQ q ?_
 apply wN;apply u
 refine O.zR y fun K u=>?_
 iterate 2 refine wQ q ?_
 obtain ⟨l2,a2,h⟩:=bS h
 obtain ⟨a0,a1,a3⟩:=aS a2
 simp [eSl,GParam.enc] at a0 a1
 iterate 3 (refine wC rfl fun K v=>?_;simp [q,a0,a1];apply v)
 apply wN;apply u
 refine O.zR y fun K u=>?_
 iterate 2 refine wQ q ?_
 apply wN;apply u
 cases h
 refine O.ret ?_
 simp [aC,iB,res63]
theorem res31:Tryz.f31.results.toList=[.cell 2 31]:=rfl
theorem aNw:aE E.P 31:=eO Tryz.func31 (by simp [Tryz.f31]) rfl
theorem fJ (p1:GProgram) {r0:GProgram} (h:bY p1=some r0):Ok E 31 [.val (GProgram.enc false p1)] [GProgram.enc true r0] []:=by
 refine oB Tryz.func31 rfl (by simp [Tryz.f31]) fun C (q:C.N=26) hP=>?_
 have y:=aK hP
 unfold bY at h
 refine O.zR y fun K w=>?_
 iterate 2 refine wQ q ?_
 apply wN;apply w
 refine O.zR y fun K w=>?_
 iterate 2 refine wQ q ?_
 obtain ⟨r2,b6,h⟩:=bS h
 refine wL [(.take,.tmp 7)] rfl rfl ent62 (wD _ b6) fun K r=>?_;simp [q];apply r
 iterate 3 refine wQ q ?_
 apply wN;apply w
 obtain ⟨b5,b7,h⟩:=bS h
 refine O.seqC [2,3] [2,3] (fun _:Unit=>⟨[(2,.ref (.box 2) 0 []),(3,.ref (.box 3) 0 [])],[(2,[.sl true 4 [],.sl true 5 []]),(3,[.sl true 4 (List.map (GNode.enc true) b5.Nodes),.sl true 5 (List.map (GFn.enc true) b5.Fns)])]⟩) (fun _=>True) (fun _ _=>?_) fun K5 b8=>?_
 rotate_left
 ·refine O.zR y fun K w=>?_
  iterate 4 refine wQ q ?_
  apply wN;apply w
  refine O.block ?_
  refine O.loopO [] [2,3,11,12,13] [2,3] (fun v:Int × GProgram=>⟨[(2,.ref (.box 2) 0 []),(3,.ref (.box 3) 0 []),(11,.t (.sl false 5 (List.map (GFn.enc false) p1.Fns))),(12,.t (vi (p1.Fns.length:Int))),(13,.t (vi v.1))],[(2,[.sl true 4 [],.sl true 5 []]),(3,[.sl true 4 (List.map (GNode.enc true) v.2.Nodes),.sl true 5 (List.map (GFn.enc true) v.2.Fns)])]⟩) (cG p1) _ (0,(⟨r2,[]⟩:GProgram)) b7 (by simp [q]) ?_
  intro g c2 h9 a8
  obtain ⟨v7,v8⟩:=g
  simp only [cG] at h9
  try dsimp only
  refine O.zR y fun K w=>?_
  refine wQ q ?_
  apply wN;apply w
  refine O.seq ?_
  rcases aA h9 with ⟨a9,h9⟩ | ⟨b0,h9⟩
  ·refine O.cT' (by simp) a9 ?_
   refine O.skip ?_
   refine O.seq ?_
   refine O.block ?_
   refine O.zR y fun K w=>?_
   obtain ⟨b9,b1,h9⟩:=bS h9
   obtain ⟨a3,a4,a5,a6⟩:=gS b1
   iterate 4 (refine wC rfl fun K r=>?_;simp [q,a3,a4,a5,a6];apply r)
   apply wN;apply w
   obtain ⟨b2,b3,h9⟩:=bS h9
   refine O.drawD rfl (y _ rfl) [17,18,19,20,21] [[(17,.ref (.box 3) 1 [])],[(18,.al (.box 3) 1 [] none)],[(19,.t (GFn.enc false b9))],[(20,.t (GFn.enc true b2))],[(21,.t (.sl true 5 (List.map (GFn.enc true) [b2]))),(20,.u)]] [[],[0],[],[2],[2,3],[0,1,2,3,4],[0,1,2,3,4,5],[0,1,2,3,4,5,6]] (by simp) rfl rfl rfl ?_ fun K w=>?_
   ·refine ⟨?_,?_,?_,?_,?_,trivial⟩
    ·intro D d0 g1 g2
     have d1:D 1=false:=g2 1 (by simp) (by simp)
     cases d2:D 2<;>cases d3:D 3<;>cases d4:D 4<;>(intro K w;simp [iI,lD,fR,d0,d1,d2,d3,d4] at w ⊢;refine wC rfl fun K' z=>?_;simp [q];refine z _ (wN ?_);first | exact w | simpa using w)
    ·intro D d1 g1 g2
     have d0:D 0=true:=g1 0 (by simp)
     cases d2:D 2<;>cases d3:D 3<;>cases d4:D 4<;>(intro K w;simp [iI,lD,fR,d0,d1,d2,d3,d4] at w ⊢;refine wC rfl fun K' z=>?_;simp [q];refine z _ (wN ?_);first | exact w | simpa using w)
    ·intro D d2 g1 g2
     have d3:D 3=false:=g2 3 (by simp) (by simp)
     have d4:D 4=false:=g2 4 (by simp) (by simp)
     cases d0:D 0<;>cases d1:D 1<;>(intro K w;simp [iI,lD,fR,d0,d1,d2,d3,d4] at w ⊢;refine wC rfl fun K' z=>?_;simp [q];refine z _ (wN ?_);first | exact w | simpa using w)
    ·intro D d3 g1 g2
     have d2:D 2=true:=g1 2 (by simp)
     have d4:D 4=false:=g2 4 (by simp) (by simp)
     cases d0:D 0<;>cases d1:D 1<;>(intro K w;simp [iI,lD,fR,d0,d1,d2,d3,d4] at w ⊢;refine wL [(.take,.tmp 19)] rfl rfl ent63 (aBp _ b3) fun K' z=>?_;simp [q];refine z _ (wN ?_);first | exact w | simpa using w)
    intro D d4 g1 g2
    have d2:D 2=true:=g1 2 (by simp)
    have d3:D 3=true:=g1 3 (by simp)
    cases d0:D 0<;>cases d1:D 1<;>(intro K w;simp [iI,lD,fR,d0,d1,d2,d3,d4] at w ⊢;refine wC rfl fun K' z=>?_;simp [q];refine z _ (wN ?_);first | exact w | simpa using w)
   simp [iI,lD]
   obtain ⟨c0,b4,h9⟩:=bS h9
   obtain ⟨a0,a1,a7⟩:=aS b4
   have a2:List.map (GFn.enc true) v8.Fns ++ List.map (GFn.enc true) [b2]=List.map (GFn.enc true) c0:=dW (f:=(GFn.enc true)) a7
   simp [eSl,GFn.enc] at a0 a1 a2
   iterate 3 (refine wC rfl fun K r=>?_;simp [q,a0,a1,a2];apply r)
   apply wN;apply w
   refine O.zG y fun K w=>?_
   iterate 2 refine wQ q ?_
   apply wN;apply w
   cases h9
   exact ⟨_,[],rfl,by simp [q]⟩
  refine O.cF' (by simp) b0 ?_
  refine O.exit ?_
  have c1:=congrArg some (a8 _ (Option.some.inj h9).symm)
  cases c1
  exact b8 _ () [] trivial (by simp [q])
 refine O.zR y fun K w=>?_
 iterate 2 refine wQ q ?_
 apply wN;apply w
 cases h
 refine O.ret ?_
 simp [aC,iB,res31]
theorem aL2:Tryz.f112.results.toList=[.tmp 4]:=rfl
theorem ent112:aE E.P 112:=eO Tryz.func112 (by simp [Tryz.f112]) rfl
theorem aDx (p1:GProgram) (b9:Int) {r0:List Int} (h:oX p1 b9=some r0):Ok E 112 [.val (GProgram.enc false p1),.val (vi b9)] [.sl true 1 (List.map vi r0)] []:=by
 refine oB Tryz.func112 rfl (by simp [Tryz.f112]) fun C (q:C.N=37) hP=>?_
 have y:=aK hP
 unfold oX at h
 refine O.zR y fun K u=>?_
 iterate 2 refine wQ q ?_
 apply wN;apply u
 refine O.seq ?_
 refine O.zR y fun K u=>?_
 iterate 5 refine wQ q ?_
 obtain ⟨r3,c0,h⟩:=bS h
 refine wL [(.take,.tmp 6),(.take,.const (.int .i64 0)),(.take,.tmp 10)] rfl rfl nD (aW _ _ _ c0) fun K v=>?_;simp [q];apply v
 refine wQ q ?_
 apply wN;apply u
 rcases aA h with ⟨c1,h⟩ | ⟨c2,h⟩
 ·refine O.cT' (by simp) c1 ?_
  refine O.zR y fun K u=>?_
  refine wQ q ?_
  apply wN;apply u
  cases h
  refine O.ret ?_
  simp [aC,iB,aL2]
 refine O.cF' (by simp) c2 ?_
 refine O.skip ?_
 refine O.zR y fun K u=>?_
 iterate 3 refine wQ q ?_
 obtain ⟨e7,c3,h⟩:=bS h
 obtain ⟨a8,a9,b0,b1⟩:=gS c3
 iterate 5 (refine wC rfl fun K v=>?_;simp [q,a8,a9,b0,b1];apply v)
 apply wN;apply u
 refine O.seq ?_
 refine O.zR y fun K u=>?_
 iterate 3 refine wQ q ?_
 obtain ⟨e8,c4,h⟩:=bS h
 obtain ⟨b2,b3,b4,b5⟩:=gS c4
 iterate 4 (refine wC rfl fun K v=>?_;simp [q,b2,b3,b4,b5];apply v)
 apply wN;apply u
 rcases aA h with ⟨c5,h⟩ | ⟨b6,h⟩
 ·refine O.cT' (by simp) c5 ?_
  refine O.zG y fun K u=>?_
  iterate 4 refine wQ q ?_
  obtain ⟨c6,b7,h⟩:=bS h
  obtain ⟨a0,a1,a2,a3⟩:=gS b7
  iterate 4 (refine wC rfl fun K v=>?_;simp [q,a0,a1,a2,a3];apply v)
  obtain ⟨c7,b8,h⟩:=bS h
  obtain ⟨a4,a5,a7⟩:=aS b8
  have a6:List.map vi [e7.Body] ++ List.map vi [c6.Ret]=List.map vi c7:=dW (f:=vi) a7
  simp [eSl] at a4 a5 a6
  iterate 2 (refine wC rfl fun K v=>?_;simp [q,a0,a1,a2,a3,a4,a5,a6];apply v)
  apply wN;apply u
  refine O.zR y fun K u=>?_
  iterate 2 refine wQ q ?_
  apply wN;apply u
  cases h
  refine O.ret ?_
  simp [aC,iB,aL2]
 refine O.cF' (by simp) b6 ?_
 refine O.skip ?_
 refine O.zR y fun K u=>?_
 iterate 2 refine wQ q ?_
 apply wN;apply u
 cases h
 refine O.ret ?_
 simp [aC,iB,aL2]
theorem res97:Tryz.f97.results.toList=[.tmp 4]:=rfl
theorem ent97:aE E.P 97:=eO Tryz.func97 (by simp [Tryz.f97]) rfl
theorem aAj (p1:GProgram) (d6:Int) {r0:List Int} (h:lP p1 d6=some r0):Ok E 97 [.val (GProgram.enc false p1),.val (vi d6)] [.sl true 1 (List.map vi r0)] []:=by
 refine oB Tryz.func97 rfl (by simp [Tryz.f97]) fun C (q:C.N=39) hP=>?_
 have y:=aK hP
 unfold lP at h
 refine O.zR y fun K u=>?_
 iterate 2 refine wQ q ?_
 apply wN;apply u
 refine O.zR y fun K u=>?_
 refine wQ q ?_
 apply wN;apply u
 obtain ⟨a6,b8,h⟩:=bS h
 refine O.seqC [5] [] (fun _:Unit=>⟨[(5,.t (.sl true 1 (List.map vi a6)))],[]⟩) (fun _=>True) (fun _ _=>?_) fun K4 d7=>?_
 rotate_left
 ·refine O.zR y fun K u=>?_
  iterate 2 refine wQ q ?_
  obtain ⟨r6,d8,b8⟩:=bS b8
  refine wL [(.take,.tmp 10),(.take,.tmp 11)] rfl rfl ent112 (aDx _ _ d8) fun K w=>?_;simp [q];apply w
  iterate 2 refine wQ q ?_
  apply wN;apply u
  refine O.block ?_
  refine O.loopO [] [2,5,12,13,14] [2] (fun v:(List Int) × Int=>⟨[(2,.ref (.box 2) 0 []),(5,.t (.sl true 1 (List.map vi v.1))),(12,.t (.sl true 1 (List.map vi r6))),(13,.t (vi (r6.length:Int))),(14,.t (vi v.2))],[(2,[.sl false 4 (List.map (GNode.enc false) p1.Nodes),.sl false 5 (List.map (GFn.enc false) p1.Fns)])]⟩) (dU p1 r6) _ ([],0) b8 (by simp [q]) ?_
  intro g e3 a2 b9
  obtain ⟨c0,v9⟩:=g
  simp only [dU] at a2
  try dsimp only
  refine O.zR y fun K u=>?_
  refine wQ q ?_
  apply wN;apply u
  refine O.seq ?_
  rcases aA a2 with ⟨c1,a2⟩ | ⟨c2,a2⟩
  ·refine O.cT' (by simp) c1 ?_
   refine O.skip ?_
   obtain ⟨a7,a1,a2⟩:=bS a2
   refine O.seqC [2,5,12,13,14] [2] (fun _:Unit=>⟨[(2,.ref (.box 2) 0 []),(5,.t (.sl true 1 (List.map vi a7))),(12,.t (.sl true 1 (List.map vi r6))),(13,.t (vi (r6.length:Int))),(14,.t (vi v9))],[(2,[.sl false 4 (List.map (GNode.enc false) p1.Nodes),.sl false 5 (List.map (GFn.enc false) p1.Fns)])]⟩) (fun _=>True) (fun _ _=>?_) fun e4 c3=>?_
   rotate_left
   ·refine O.block ?_
    refine O.zR y fun K u=>?_
    obtain ⟨e5,c4,a1⟩:=bS a1
    obtain ⟨a8,a9,b0,b1⟩:=gS c4
    iterate 3 (refine wC rfl fun K w=>?_;simp [q,a8,a9,b0,b1];apply w)
    apply wN;apply u
    refine O.zR y fun K u=>?_
    iterate 2 refine wQ q ?_
    obtain ⟨c5,c6,a1⟩:=bS a1
    refine wL [(.take,.tmp 18),(.take,.tmp 19)] rfl rfl ent96 (uU _ _ c6) fun K w=>?_;simp [q];apply w
    iterate 2 refine wQ q ?_
    apply wN;apply u
    refine O.block ?_
    refine O.loopO [] [2,5,12,13,14,20,21,22] [2] (fun v:(List Int) × Int=>⟨[(2,.ref (.box 2) 0 []),(5,.t (.sl true 1 (List.map vi v.1))),(12,.t (.sl true 1 (List.map vi r6))),(13,.t (vi (r6.length:Int))),(14,.t (vi v9)),(20,.t (.sl true 1 (List.map vi c5))),(21,.t (vi (c5.length:Int))),(22,.t (vi v.2))],[(2,[.sl false 4 (List.map (GNode.enc false) p1.Nodes),.sl false 5 (List.map (GFn.enc false) p1.Fns)])]⟩) (fC c5) _ (c0,0) a1 (by simp [q]) ?_
    intro g e6 a0 c7
    obtain ⟨b2,e7⟩:=g
    simp only [fC] at a0
    try dsimp only
    refine O.zR y fun K u=>?_
    refine wQ q ?_
    apply wN;apply u
    refine O.seq ?_
    rcases aA a0 with ⟨c8,a0⟩ | ⟨c9,a0⟩
    ·refine O.cT' (by simp) c8 ?_
     refine O.skip ?_
     refine O.seq ?_
     refine O.block ?_
     refine O.zR y fun K u=>?_
     obtain ⟨d9,d0,a0⟩:=bS a0
     obtain ⟨b3,b4,b5,b6⟩:=gS d0
     iterate 3 (refine wC rfl fun K w=>?_;simp [q,b3,b4,b5,b6];apply w)
     apply wN;apply u
     refine O.zR y fun K u=>?_
     iterate 2 refine wQ q ?_
     obtain ⟨e8,d1,a0⟩:=bS a0
     refine wL [(.bor,.tmp 26),(.take,.tmp 27)] rfl rfl aIn (kP _ _ d1) fun K w=>?_;simp [q];apply w
     refine wQ q ?_
     apply wN;apply u
     rcases aA a0 with ⟨d2,a0⟩ | ⟨d3,a0⟩
     ·refine O.cT' (by simp) d2 ?_
      refine O.zG y fun K u=>?_
      iterate 3 refine wQ q ?_
      obtain ⟨e0,d4,a0⟩:=bS a0
      obtain ⟨a3,a4,b7⟩:=aS d4
      have a5:List.map vi b2 ++ List.map vi [d9]=List.map vi e0:=dW (f:=vi) b7
      simp [eSl] at a3 a4 a5
      iterate 2 (refine wC rfl fun K w=>?_;simp [q,a3,a4,a5];apply w)
      apply wN;apply u
      refine O.zG y fun K u=>?_
      iterate 2 refine wQ q ?_
      apply wN;apply u
      cases a0
      exact ⟨_,[],rfl,by simp [q]⟩
     refine O.cF' (by simp) d3 ?_
     refine O.skip ?_
     refine O.zG y fun K u=>?_
     iterate 2 refine wQ q ?_
     apply wN;apply u
     cases a0
     exact ⟨_,[],rfl,by simp [q]⟩
    refine O.cF' (by simp) c9 ?_
    refine O.exit ?_
    have e1:=congrArg some (c7 _ (Option.some.inj a0).symm)
    cases e1
    exact c3 _ () [] trivial (by simp [q])
   refine O.zG y fun K u=>?_
   iterate 2 refine wQ q ?_
   apply wN;apply u
   cases a2
   exact ⟨_,[],rfl,by simp [q]⟩
  refine O.cF' (by simp) c2 ?_
  refine O.exit ?_
  have e2:=congrArg some (b9 _ (Option.some.inj a2).symm)
  cases e2
  exact d7 _ () [] trivial (by simp [q])
 refine O.zR y fun K u=>?_
 refine wQ q ?_
 obtain ⟨e9,d5,h⟩:=bS h
 refine aBy rfl aOi (wT _ d5) fun K w=>?_;simp [q];apply w
 apply wN;apply u
 refine O.zR y fun K u=>?_
 iterate 2 refine wQ q ?_
 apply wN;apply u
 cases h
 refine O.ret ?_
 simp [aC,iB,res97]
theorem res65:Tryz.f65.results.toList=[.cell 6 31]:=rfl
theorem ent65:aE E.P 65:=eO Tryz.func65 (by simp [Tryz.f65]) rfl
theorem aAb (p1:GProgram) (c0:Int) (b0:ByteArray→Option ByteArray) (other3_f:Nat) (other3_c:List T) (other3_e:aE E.P other3_f) (other3_h:∀ (a0:ByteArray) (r0:ByteArray),b0 a0=some r0→Ok E other3_f ([.val (vs a0)] ++ other3_c.map Arg.val) [vs r0] []) {r0:GProgram} (h:nO p1 c0 b0=some r0):Ok E 65 [.val (GProgram.enc false p1),.val (vi c0),.val (.clo other3_f other3_c)] [GProgram.enc true r0] []:=by
 refine oB Tryz.func65 rfl (by simp [Tryz.f65]) fun C (q:C.N=78) hP=>?_
 have y:=aK hP
 unfold nO at h
 refine O.zR y fun K u=>?_
 iterate 2 refine wQ q ?_
 apply wN;apply u
 refine O.zR y fun K u=>?_
 refine wQ q ?_
 obtain ⟨r4,h5,h⟩:=bS h
 refine wL [(.take,.tmp 13)] rfl rfl aNw (fJ _ h5) fun K w=>?_;simp [q];apply w
 iterate 2 refine wQ q ?_
 apply wN;apply u
 obtain ⟨d6,d7,h⟩:=bS h
 refine O.seqC [1,2,6,7] [6,7] (fun _:Unit=>⟨[(1,.t (vi c0)),(2,.t (.clo other3_f other3_c)),(6,.ref (.box 6) 0 []),(7,.ref (.box 7) 0 [])],[(6,[.sl true 4 [],.sl true 5 []]),(7,[.sl true 4 (List.map (GNode.enc true) d6.Nodes),.sl true 5 (List.map (GFn.enc true) d6.Fns)])]⟩) (fun _=>True) (fun _ _=>?_) fun K7 h6=>?_
 rotate_left
 ·refine O.zR y fun K u=>?_
  iterate 2 refine wQ q ?_
  obtain ⟨r9,d8,d7⟩:=bS d7
  refine wL [(.take,.tmp 15),(.take,.tmp 16)] rfl rfl ent97 (aAj _ _ d8) fun K w=>?_;simp [q];apply w
  iterate 2 refine wQ q ?_
  apply wN;apply u
  refine O.block ?_
  refine O.loopO [] [1,2,6,7,17,18,19] [6,7] (fun v:Int × GProgram=>⟨[(1,.t (vi c0)),(2,.t (.clo other3_f other3_c)),(6,.ref (.box 6) 0 []),(7,.ref (.box 7) 0 []),(17,.t (.sl true 1 (List.map vi r9))),(18,.t (vi (r9.length:Int))),(19,.t (vi v.1))],[(6,[.sl true 4 [],.sl true 5 []]),(7,[.sl true 4 (List.map (GNode.enc true) v.2.Nodes),.sl true 5 (List.map (GFn.enc true) v.2.Fns)])]⟩) (cN b0 r9) _ (0,r4) d7 (by simp [q]) ?_
  intro g i8 a5 d9
  obtain ⟨h7,e0⟩:=g
  simp only [cN] at a5
  try dsimp only
  refine O.zR y fun K u=>?_
  refine wQ q ?_
  apply wN;apply u
  refine O.seq ?_
  rcases aA a5 with ⟨e1,a5⟩ | ⟨e2,a5⟩
  ·refine O.cT' (by simp) e1 ?_
   refine O.skip ?_
   refine O.seq ?_
   refine O.block ?_
   refine O.zR y fun K u=>?_
   obtain ⟨h1,e3,a5⟩:=bS a5
   obtain ⟨c6,c7,c8,c9⟩:=gS e3
   iterate 3 (refine wC rfl fun K w=>?_;simp [q,c6,c7,c8,c9];apply w)
   apply wN;apply u
   refine O.zR y fun K u=>?_
   iterate 3 refine wQ q ?_
   obtain ⟨e4,e5,a5⟩:=bS a5
   obtain ⟨a1,a2,a3,a4⟩:=gS e5
   iterate 2 (refine wC rfl fun K w=>?_;simp [q,a1,a2,a3,a4];apply w)
   apply wN;apply u
   obtain ⟨h8,b6,a5⟩:=bS a5
   refine O.seqRC rfl (y _ rfl) [1,2,6,7,10,17,18,19,38] [6,7] (fun _:Unit=>⟨[(1,.t (vi c0)),(2,.t (.clo other3_f other3_c)),(6,.ref (.box 6) 0 []),(7,.ref (.box 7) 0 []),(10,.ref (.box 7) 0 [(h1.toNat,0)]),(17,.t (.sl true 1 (List.map vi r9))),(18,.t (vi (r9.length:Int))),(19,.t (vi h7)),(38,.t (vb h8))],[(6,[.sl true 4 [],.sl true 5 []]),(7,[.sl true 4 (List.map (GNode.enc true) e0.Nodes),.sl true 5 (List.map (GFn.enc true) e0.Fns)])]⟩) (fun _=>True) (fun _ _=>?_) fun i9 d0=>?_
   rotate_left
   ·refine wC rfl fun K w=>?_;simp [q,a1,a2,a3,a4];apply w
    iterate 3 (refine wC rfl fun K w=>?_;simp [q,a1,a2,a3,a4];apply w)
    obtain ⟨j0,e6,b6⟩:=bS b6
    refine wL [(.take,.tmp 30)] rfl rfl ent98 (rL _ e6) fun K w=>?_;simp [q,a1,a2,a3,a4];apply w
    refine wC rfl fun K w=>?_;simp [q,a1,a2,a3,a4];apply w
    rcases aA b6 with ⟨c4,b6⟩ | ⟨b9,b6⟩
    ·have b8:=c4
     try simp at b8
     iterate 6 (refine wC rfl fun K w=>?_;simp [q,a1,a2,a3,a4,c4,b8];apply w)
     refine wN ?_
     cases b6
     exact d0 _ () [] trivial (by simp [q,a1,a2,a3,a4,c4,b8])
    have b7:=b9
    try simp at b7
    iterate 5 (refine wO fun K w=>?_;simp [q,a1,a2,a3,a4,b9,b7];apply w)
    refine wC rfl fun K w=>?_;simp [q,a1,a2,a3,a4,b9,b7];apply w
    refine wN ?_
    cases b6
    exact d0 _ () [] trivial (by simp [q,a1,a2,a3,a4,b9,b7])
   rcases aA a5 with ⟨e7,a5⟩ | ⟨e8,a5⟩
   ·refine O.cT' (by simp) e7 ?_
    refine O.zG y fun K u=>?_
    iterate 6 (refine wC rfl fun K w=>?_;simp [q,a1,a2,a3,a4];apply w)
    obtain ⟨h9,e9,a5⟩:=bS a5
    refine tQ [(.take,.tmp 44)] rfl rfl other3_e (other3_h _ _ e9) fun K w=>?_;simp [q,a1,a2,a3,a4];apply w
    iterate 2 (refine wC rfl fun K w=>?_;simp [q,a1,a2,a3,a4];apply w)
    obtain ⟨i0,g0,a5⟩:=bZ a5
    have c1:(List.map (GNode.enc true) e0.Nodes).set h1.toNat (.agg [vi e4.Kind,vi e4.Num,vs h9,.sl true 1 (List.map vi e4.Kids)])=List.map (GNode.enc true) i0:=fH (f:=(GNode.enc true)) g0
    try simp only [Int.toNat_natCast] at c1
    refine wC rfl fun K w=>?_;simp [q,a1,a2,a3,a4,c1];apply w
    apply wN;apply u
    refine O.zG y fun K u=>?_
    iterate 2 refine wQ q ?_
    apply wN;apply u
    cases a5
    exact ⟨_,[],rfl,by simp [q]⟩
   refine O.cF' (by simp) e8 ?_
   refine O.skip ?_
   refine O.zG y fun K u=>?_
   iterate 2 refine wQ q ?_
   apply wN;apply u
   cases a5
   exact ⟨_,[],rfl,by simp [q]⟩
  refine O.cF' (by simp) e2 ?_
  refine O.exit ?_
  have i1:=congrArg some (d9 _ (Option.some.inj a5).symm)
  cases i1
  exact h6 _ () [] trivial (by simp [q])
 obtain ⟨h2,c5,h⟩:=bS h
 refine O.seqC [6,7] [6,7] (fun _:Unit=>⟨[(6,.ref (.box 6) 0 []),(7,.ref (.box 7) 0 [])],[(6,[.sl true 4 [],.sl true 5 []]),(7,[.sl true 4 (List.map (GNode.enc true) h2.Nodes),.sl true 5 (List.map (GFn.enc true) h2.Fns)])]⟩) (fun _=>True) (fun _ _=>?_) fun j1 g1=>?_
 rotate_left
 ·refine O.zR y fun K u=>?_
  iterate 3 refine wQ q ?_
  obtain ⟨h3,g2,c5⟩:=bS c5
  obtain ⟨d1,d2,d3,d4⟩:=gS g2
  iterate 5 (refine wC rfl fun K w=>?_;simp [q,d1,d2,d3,d4];apply w)
  apply wN;apply u
  refine O.block ?_
  refine O.loopO [] [1,2,6,7,55,56] [6,7] (fun v:Int × GProgram=>⟨[(1,.t (vi c0)),(2,.t (.clo other3_f other3_c)),(6,.ref (.box 6) 0 []),(7,.ref (.box 7) 0 []),(55,.t (vi (h3.Params.length:Int))),(56,.t (vi v.1))],[(6,[.sl true 4 [],.sl true 5 []]),(7,[.sl true 4 (List.map (GNode.enc true) v.2.Nodes),.sl true 5 (List.map (GFn.enc true) v.2.Fns)])]⟩) (dS c0 b0 h3) _ (0,d6) c5 (by simp [q]) ?_
  intro g j2 b5 g3
  obtain ⟨i2,i3⟩:=g
  simp only [dS] at b5
  try dsimp only
  refine O.zR y fun K u=>?_
  refine wQ q ?_
  apply wN;apply u
  refine O.seq ?_
  rcases aA b5 with ⟨g4,b5⟩ | ⟨g5,b5⟩
  ·refine O.cT' (by simp) g4 ?_
   refine O.skip ?_
   refine O.seq ?_
   refine O.block ?_
   refine O.zR y fun K u=>?_
   iterate 2 refine wQ q ?_
   apply wN;apply u
   refine O.zR y fun K u=>?_
   iterate 3 refine wQ q ?_
   obtain ⟨d5,g6,b5⟩:=bS b5
   obtain ⟨a6,a7,a8,a9⟩:=gS g6
   iterate 4 (refine wC rfl fun K w=>?_;simp [q,a6,a7,a8,a9];apply w)
   obtain ⟨i4,g7,b5⟩:=bS b5
   obtain ⟨b1,b2,b3,b4⟩:=gS g7
   iterate 2 (refine wC rfl fun K w=>?_;simp [q,a6,a7,a8,a9,b1,b2,b3,b4];apply w)
   apply wN;apply u
   refine O.zG y fun K u=>?_
   iterate 6 (refine wC rfl fun K w=>?_;simp [q,a6,a7,a8,a9,b1,b2,b3,b4];apply w)
   obtain ⟨i5,g8,b5⟩:=bS b5
   refine tQ [(.take,.tmp 72)] rfl rfl other3_e (other3_h _ _ g8) fun K w=>?_;simp [q,a6,a7,a8,a9,b1,b2,b3,b4];apply w
   iterate 2 (refine wC rfl fun K w=>?_;simp [q,a6,a7,a8,a9,b1,b2,b3,b4];apply w)
   obtain ⟨h4,g9,b5⟩:=bZ b5
   have c2:(List.map GParam.enc d5.Params).set i2.toNat (.agg [vs i5,vi i4.Typ])=List.map GParam.enc h4:=fH (f:=GParam.enc) g9
   try simp only [Int.toNat_natCast] at c2
   obtain ⟨i6,h0,b5⟩:=bZ b5
   have c3:(List.map (GFn.enc true) i3.Fns).set c0.toNat (.agg [vs d5.Name,.sl true 2 (List.map GParam.enc h4),vi d5.Res,vi d5.Body,vi d5.Ret])=List.map (GFn.enc true) i6:=fH (f:=(GFn.enc true)) h0
   try simp only [Int.toNat_natCast] at c3
   refine wC rfl fun K w=>?_;simp [q,a6,a7,a8,a9,b1,b2,b3,b4,c2,c3];apply w
   apply wN;apply u
   refine O.zG y fun K u=>?_
   iterate 2 refine wQ q ?_
   apply wN;apply u
   cases b5
   exact ⟨_,[],rfl,by simp [q]⟩
  refine O.cF' (by simp) g5 ?_
  refine O.exit ?_
  have i7:=congrArg some (g3 _ (Option.some.inj b5).symm)
  cases i7
  exact g1 _ () [] trivial (by simp [q])
 refine O.zR y fun K u=>?_
 iterate 2 refine wQ q ?_
 apply wN;apply u
 cases h
 refine O.ret ?_
 simp [aC,iB,res65]
theorem res42:Tryz.f42.results.toList=[.tmp 2]:=rfl
theorem ent42:aE E.P 42:=eO Tryz.func42 (by simp [Tryz.f42]) rfl
theorem rO (n1:Int) {r0:ByteArray} (h:jH n1=some r0):Ok E 42 [.val (vi n1)] [vs r0] []:=by
 refine oB Tryz.func42 rfl (by simp [Tryz.f42]) fun C (q:C.N=5) hP=>?_
 have y:=aK hP
 unfold jH at h
 refine O.zR y fun K u=>?_
 refine wQ q ?_
 apply wN;apply u
 refine O.zR y fun K u=>?_
 refine wQ q ?_
 obtain ⟨r2,a0,h⟩:=bS h
 refine wL [(.take,.tmp 3)] rfl rfl ent74 (yO _ a0) fun K v=>?_;simp [q];apply v
 refine wQ q ?_
 apply wN;apply u
 cases h
 refine O.ret ?_
 simp [aC,iB,res42]
theorem res66:Tryz.f66.results.toList=[.tmp 3]:=rfl
theorem ent66:aE E.P 66:=eO Tryz.func66 (by simp [Tryz.f66]) rfl
theorem uS (a0:ByteArray) (a2:List GVar) {r0:ByteArray} (h:bF a0 a2=some r0):Ok E 66 [.val (vs a0),.val (.pt [.sl false 3 (List.map GVar.enc a2)])] [vs r0] []:=by
 refine oB Tryz.func66 rfl (by simp [Tryz.f66]) fun C (q:C.N=14) hP=>?_
 have y:=aK hP
 unfold bF at h
 refine O.zR y fun K u=>?_
 refine wQ q ?_
 apply wN;apply u
 refine O.zR y fun K u=>?_
 iterate 2 refine wQ q ?_
 obtain ⟨r3,a4,h⟩:=bS h
 refine wL [(.take,.tmp 5),(.take,.tmp 6)] rfl rfl ent67 (uT _ _ a4) fun K v=>?_;simp [q];apply v
 refine wQ q ?_
 apply wN;apply u
 refine O.seq ?_
 refine O.zR y fun K u=>?_
 iterate 2 refine wQ q ?_
 apply wN;apply u
 rcases aA h with ⟨a5,h⟩ | ⟨a6,h⟩
 ·refine O.cT' (by simp) a5 ?_
  refine O.zR y fun K u=>?_
  iterate 2 refine wQ q ?_
  apply wN;apply u
  cases h
  refine O.ret ?_
  simp [aC,iB,res66]
 refine O.cF' (by simp) a6 ?_
 refine O.skip ?_
 refine O.zR y fun K u=>?_
 refine wQ q ?_
 obtain ⟨r7,a7,h⟩:=bS h
 refine wL [(.take,.tmp 11)] rfl rfl ent42 (rO _ a7) fun K v=>?_;simp [q];apply v
 obtain ⟨t9,a8,h⟩:=bS h
 obtain ⟨a1,a3⟩:=kY a8
 iterate 2 (refine wC rfl fun K v=>?_;simp [q,a1,a3];apply v)
 apply wN;apply u
 cases h
 refine O.ret ?_
 simp [aC,iB,res66]
theorem res32:Tryz.f32.results.toList=[.cell 4 31]:=rfl
theorem ent32:aE E.P 32:=eO Tryz.func32 (by simp [Tryz.f32]) rfl
theorem xO (p1:GProgram) (a1:Int) {r0:GProgram} (h:iD p1 a1=some r0):Ok E 32 [.val (GProgram.enc false p1),.val (vi a1)] [GProgram.enc true r0] []:=by
 refine zQ (fn:=Tryz.f32) Tryz.func32 rfl (by simp [Tryz.f32]) fun C hN hP hB=>?_
 have a0:C.PB=[]:=hB rfl
 have y:∀ l,aMc [] l=true→qI C.pin l=true:=pO (by rw [hP];rfl)
 have q:C.N=13:=hN
 clear hN
 unfold iD at h
 refine O.zR y fun K u=>?_
 iterate 2 refine wQ q ?_
 apply wN;apply u
 refine O.zR y fun K u=>?_
 iterate 2 refine wQ q ?_
 obtain ⟨r3,a2,h⟩:=bS h
 refine wL [(.take,.tmp 6),(.take,.tmp 7)] rfl rfl ent64 (sY _ _ a2) fun K v=>?_;simp [q];apply v
 iterate 2 refine wQ q ?_
 apply wN;apply u
 refine O.thaw 5 a0 (by rw [q];decide) fun K v=>?_;simp [q];apply v
 refine O.zR y fun K u=>?_
 iterate 3 refine wQ q ?_
 obtain ⟨r5,a3,h⟩:=bS h
 refine wL [(.take,.tmp 9),(.take,.tmp 10),(.take,.tmp 11)] rfl rfl ent65 (aAb _ _ _ 66 [.pt [.sl false 3 (List.map GVar.enc r3)]] ent66 (fun _ _ h0=>uS _ _ h0) a3) fun K v=>?_;simp [q];apply v
 refine wQ q ?_
 apply wN;apply u
 cases h
 refine O.ret ?_
 simp [aC,iB,res32]
theorem res39:Tryz.f39.results.toList=[.cell 4 31]:=rfl
theorem ent39:aE E.P 39:=eO Tryz.func39 (by simp [Tryz.f39]) rfl
theorem uR (p1:GProgram) (a9:ByteArray→Option ByteArray) (other2_f:Nat) (other2_c:List T) (other2_e:aE E.P other2_f) (other2_h:∀ (a0:ByteArray) (r0:ByteArray),a9 a0=some r0→Ok E other2_f ([.val (vs a0)] ++ other2_c.map Arg.val) [vs r0] []) {r0:GProgram} (h:jV p1 a9=some r0):Ok E 39 [.val (GProgram.enc false p1),.val (.clo other2_f other2_c)] [GProgram.enc true r0] []:=by
 refine oB Tryz.func39 rfl (by simp [Tryz.f39]) fun C (q:C.N=57) hP=>?_
 have y:=aK hP
 unfold jV at h
 refine O.zR y fun K u=>?_
 iterate 2 refine wQ q ?_
 apply wN;apply u
 refine O.zR y fun K u=>?_
 refine wQ q ?_
 obtain ⟨r3,d6,h⟩:=bS h
 refine wL [(.take,.tmp 9)] rfl rfl aNw (fJ _ d6) fun K z=>?_;simp [q];apply z
 iterate 2 refine wQ q ?_
 apply wN;apply u
 obtain ⟨b4,d7,h⟩:=bS h
 refine O.seqC [1,4,5] [4,5] (fun _:Unit=>⟨[(1,.t (.clo other2_f other2_c)),(4,.ref (.box 4) 0 []),(5,.ref (.box 5) 0 [])],[(4,[.sl true 4 [],.sl true 5 []]),(5,[.sl true 4 (List.map (GNode.enc true) b4.Nodes),.sl true 5 (List.map (GFn.enc true) b4.Fns)])]⟩) (fun _=>True) (fun _ _=>?_) fun K6 d8=>?_
 rotate_left
 ·refine O.zR y fun K u=>?_
  iterate 4 refine wQ q ?_
  apply wN;apply u
  refine O.block ?_
  refine O.loopO [] [1,4,5,13,14] [4,5] (fun v:Int × GProgram=>⟨[(1,.t (.clo other2_f other2_c)),(4,.ref (.box 4) 0 []),(5,.ref (.box 5) 0 []),(13,.t (vi (r3.Nodes.length:Int))),(14,.t (vi v.1))],[(4,[.sl true 4 [],.sl true 5 []]),(5,[.sl true 4 (List.map (GNode.enc true) v.2.Nodes),.sl true 5 (List.map (GFn.enc true) v.2.Fns)])]⟩) (bR a9 r3) _ (0,r3) d7 (by simp [q]) ?_
  intro g e5 b0 b7
  obtain ⟨v8,v9⟩:=g
  simp only [bR] at b0
  try dsimp only
  refine O.zR y fun K u=>?_
  refine wQ q ?_
  apply wN;apply u
  refine O.seq ?_
  rcases aA b0 with ⟨b8,b0⟩ | ⟨b9,b0⟩
  ·refine O.cT' (by simp) b8 ?_
   refine O.skip ?_
   refine O.seq ?_
   refine O.block ?_
   refine O.zR y fun K u=>?_
   iterate 2 refine wQ q ?_
   apply wN;apply u
   refine O.zR y fun K u=>?_
   iterate 3 refine wQ q ?_
   obtain ⟨c0,c1,b0⟩:=bS b0
   obtain ⟨a1,a2,a3,a4⟩:=gS c1
   iterate 2 (refine wC rfl fun K z=>?_;simp [q,a1,a2,a3,a4];apply z)
   apply wN;apply u
   refine O.zR y fun K u=>?_
   iterate 5 (refine wC rfl fun K z=>?_;simp [q,a1,a2,a3,a4];apply z)
   apply wN;apply u
   rcases aA b0 with ⟨c2,b0⟩ | ⟨c3,b0⟩
   ·refine O.cT' (by simp) c2 ?_
    refine O.zG y fun K u=>?_
    iterate 6 (refine wC rfl fun K z=>?_;simp [q,a1,a2,a3,a4];apply z)
    obtain ⟨d9,c4,b0⟩:=bS b0
    refine tQ [(.take,.tmp 31)] rfl rfl other2_e (other2_h _ _ c4) fun K z=>?_;simp [q,a1,a2,a3,a4];apply z
    iterate 2 (refine wC rfl fun K z=>?_;simp [q,a1,a2,a3,a4];apply z)
    obtain ⟨e0,c5,b0⟩:=bZ b0
    have b2:(List.map (GNode.enc true) v9.Nodes).set v8.toNat (.agg [vi c0.Kind,vi c0.Num,vs d9,.sl true 1 (List.map vi c0.Kids)])=List.map (GNode.enc true) e0:=fH (f:=(GNode.enc true)) c5
    try simp only [Int.toNat_natCast] at b2
    refine wC rfl fun K z=>?_;simp [q,a1,a2,a3,a4,b2];apply z
    apply wN;apply u
    refine O.zG y fun K u=>?_
    iterate 2 refine wQ q ?_
    apply wN;apply u
    cases b0
    exact ⟨_,[],rfl,by simp [q]⟩
   refine O.cF' (by simp) c3 ?_
   refine O.skip ?_
   refine O.zG y fun K u=>?_
   iterate 2 refine wQ q ?_
   apply wN;apply u
   cases b0
   exact ⟨_,[],rfl,by simp [q]⟩
  refine O.cF' (by simp) b9 ?_
  refine O.exit ?_
  have e1:=congrArg some (b7 _ (Option.some.inj b0).symm)
  cases e1
  exact d8 _ () [] trivial (by simp [q])
 obtain ⟨d4,c6,h⟩:=bS h
 refine O.seqC [4,5] [4,5] (fun _:Unit=>⟨[(4,.ref (.box 4) 0 []),(5,.ref (.box 5) 0 [])],[(4,[.sl true 4 [],.sl true 5 []]),(5,[.sl true 4 (List.map (GNode.enc true) d4.Nodes),.sl true 5 (List.map (GFn.enc true) d4.Fns)])]⟩) (fun _=>True) (fun _ _=>?_) fun e6 c7=>?_
 rotate_left
 ·refine O.zR y fun K u=>?_
  iterate 4 refine wQ q ?_
  apply wN;apply u
  refine O.block ?_
  refine O.loopO [] [1,4,5,38,39] [4,5] (fun v:Int × GProgram=>⟨[(1,.t (.clo other2_f other2_c)),(4,.ref (.box 4) 0 []),(5,.ref (.box 5) 0 []),(38,.t (vi (b4.Fns.length:Int))),(39,.t (vi v.1))],[(4,[.sl true 4 [],.sl true 5 []]),(5,[.sl true 4 (List.map (GNode.enc true) v.2.Nodes),.sl true 5 (List.map (GFn.enc true) v.2.Fns)])]⟩) (bQ a9 b4) _ (0,b4) c6 (by simp [q]) ?_
  intro g e7 b1 c8
  obtain ⟨b5,e2⟩:=g
  simp only [bQ] at b1
  try dsimp only
  refine O.zR y fun K u=>?_
  refine wQ q ?_
  apply wN;apply u
  refine O.seq ?_
  rcases aA b1 with ⟨c9,b1⟩ | ⟨d0,b1⟩
  ·refine O.cT' (by simp) c9 ?_
   refine O.skip ?_
   refine O.seq ?_
   refine O.block ?_
   refine O.zR y fun K u=>?_
   iterate 2 refine wQ q ?_
   apply wN;apply u
   obtain ⟨b6,d1,b1⟩:=bS b1
   obtain ⟨a5,a6,a7,a8⟩:=gS d1
   obtain ⟨d5,d2,b1⟩:=bS b1
   refine O.dT rfl (y _ rfl) [(42,.ref (.box 5) 1 []),(43,.al (.box 5) 1 [] none),(44,.t (vi b5)),(45,.t (.clo other2_f other2_c)),(46,.ref (.box 5) 1 []),(47,.al (.box 5) 1 [] none),(48,.t (vi b5)),(49,.ref (.box 5) 1 [(b5.toNat,0)]),(50,.ref (.box 5) 1 [(b5.toNat,0)]),(51,.t (vs b6.Name)),(52,.t (vs d5))] [[],[0],[],[],[],[4],[],[4,5,6],[4,5,6,7],[4,5,6,7,8],[3,4,5,6,7,8,9],[0,1,2,3,4,5,6,7,8,9,10],[0,1,2,3,4,5,6,7,8,9,10,11],[0,1,2,3,4,5,6,7,8,9,10,11,12]] (by simp) (by simp) (by simp [look]) rfl rfl rfl ?_ fun K u=>?_
   ·refine ⟨?_,?_,?_,?_,?_,?_,?_,?_,?_,?_,?_,trivial⟩
    all_goals (intro τ hbx hb hd hf K u;try simp [aH] at hd;simp [aH] at hf;first | (refine wC rfl fun K' w=>?_;simp [q,hbx,hb,hd,hf,a5,a6,a7,a8];exact w _ (wN (u _ (by simp [aH,hbx,a5,a6,a7,a8])))) | (refine tQ [(.take,.tmp 51)] rfl rfl other2_e (other2_h _ _ d2) fun K' w=>?_;simp [q,hbx,hb,hd,hf,a5,a6,a7,a8];exact w _ (wN (u _ (by simp [aH,hbx,a5,a6,a7,a8])))))
   iterate 2 (refine wC rfl fun K z=>?_;simp [q,a5,a6,a7,a8];apply z)
   obtain ⟨e3,d3,b1⟩:=bZ b1
   have b3:(List.map (GFn.enc true) e2.Fns).set b5.toNat (.agg [vs d5,.sl true 2 (List.map GParam.enc b6.Params),vi b6.Res,vi b6.Body,vi b6.Ret])=List.map (GFn.enc true) e3:=fH (f:=(GFn.enc true)) d3
   try simp only [Int.toNat_natCast] at b3
   refine wC rfl fun K z=>?_;simp [q,a5,a6,a7,a8,b3];apply z
   apply wN;apply u
   refine O.zG y fun K u=>?_
   iterate 2 refine wQ q ?_
   apply wN;apply u
   cases b1
   exact ⟨_,[],rfl,by simp [q]⟩
  refine O.cF' (by simp) d0 ?_
  refine O.exit ?_
  have e4:=congrArg some (c8 _ (Option.some.inj b1).symm)
  cases e4
  exact c7 _ () [] trivial (by simp [q])
 refine O.zR y fun K u=>?_
 iterate 2 refine wQ q ?_
 apply wN;apply u
 cases h
 refine O.ret ?_
 simp [aC,iB,res39]
theorem res40:Tryz.f40.results.toList=[.tmp 3]:=rfl
theorem ent40:aE E.P 40:=eO Tryz.func40 (by simp [Tryz.f40]) rfl
theorem tN (a0:ByteArray) (a2:GProgram) {r0:ByteArray} (h:bH a0 a2=some r0):Ok E 40 [.val (vs a0),.val (.pt [.sl false 4 (List.map (GNode.enc false) a2.Nodes),.sl false 5 (List.map (GFn.enc false) a2.Fns)])] [vs r0] []:=by
 refine oB Tryz.func40 rfl (by simp [Tryz.f40]) fun C (q:C.N=14) hP=>?_
 have y:=aK hP
 unfold bH at h
 refine O.zR y fun K u=>?_
 refine wQ q ?_
 apply wN;apply u
 refine O.zR y fun K u=>?_
 iterate 2 refine wQ q ?_
 obtain ⟨r3,a4,h⟩:=bS h
 refine wL [(.take,.tmp 5),(.take,.tmp 6)] rfl rfl aPo (rN _ _ a4) fun K v=>?_;simp [q];apply v
 refine wQ q ?_
 apply wN;apply u
 refine O.seq ?_
 refine O.zR y fun K u=>?_
 iterate 2 refine wQ q ?_
 apply wN;apply u
 rcases aA h with ⟨a5,h⟩ | ⟨a6,h⟩
 ·refine O.cT' (by simp) a5 ?_
  refine O.zR y fun K u=>?_
  iterate 2 refine wQ q ?_
  apply wN;apply u
  cases h
  refine O.ret ?_
  simp [aC,iB,res40]
 refine O.cF' (by simp) a6 ?_
 refine O.skip ?_
 refine O.zR y fun K u=>?_
 refine wQ q ?_
 obtain ⟨r7,a7,h⟩:=bS h
 refine wL [(.take,.tmp 11)] rfl rfl ent42 (rO _ a7) fun K v=>?_;simp [q];apply v
 obtain ⟨t9,a8,h⟩:=bS h
 obtain ⟨a1,a3⟩:=kY a8
 iterate 2 (refine wC rfl fun K v=>?_;simp [q,a1,a3];apply v)
 apply wN;apply u
 cases h
 refine O.ret ?_
 simp [aC,iB,res40]
theorem res16:Tryz.f16.results.toList=[.cell 2 31]:=rfl
theorem ent16:aE E.P 16:=eO Tryz.func16 (by simp [Tryz.f16]) rfl
theorem oY (p1:GProgram) {r0:GProgram} (h:dD p1=some r0):Ok E 16 [.val (GProgram.enc false p1)] [GProgram.enc true r0] []:=by
 refine zQ (fn:=Tryz.f16) Tryz.func16 rfl (by simp [Tryz.f16]) fun C hN hP hB=>?_
 have a1:C.PB=[]:=hB rfl
 have y:∀ l,aMc [] l=true→qI C.pin l=true:=pO (by rw [hP];rfl)
 have q:C.N=25:=hN
 clear hN
 unfold dD at h
 refine O.zR y fun K u=>?_
 iterate 2 refine wQ q ?_
 apply wN;apply u
 refine O.seq ?_
 refine O.zR y fun K u=>?_
 refine wQ q ?_
 obtain ⟨r2,b0,h⟩:=bS h
 refine wL [(.take,.tmp 5)] rfl rfl aK4 (cR _ b0) fun K w=>?_;simp [q];apply w
 refine wQ q ?_
 apply wN;apply u
 rcases aA h with ⟨b1,h⟩ | ⟨b2,h⟩
 ·refine O.cT' (by simp) b1 ?_
  refine O.zR y fun K u=>?_
  refine wQ q ?_
  obtain ⟨r6,b3,h⟩:=bS h
  refine wL [(.take,.tmp 8)] rfl rfl aNw (fJ _ b3) fun K w=>?_;simp [q];apply w
  refine wQ q ?_
  apply wN;apply u
  cases h
  refine O.ret ?_
  simp [aC,iB,res16]
 refine O.cF' (by simp) b2 ?_
 refine O.skip ?_
 refine O.zR y fun K u=>?_
 refine wQ q ?_
 obtain ⟨r8,b4,h⟩:=bS h
 refine wL [(.take,.tmp 10)] rfl rfl aNw (fJ _ b4) fun K w=>?_;simp [q];apply w
 iterate 2 refine wQ q ?_
 apply wN;apply u
 obtain ⟨a9,a2,h⟩:=bS h
 refine O.seqC [1,2,3] [1,2,3] (fun _:Unit=>⟨[(1,.ref (.box 1) 0 []),(2,.ref (.box 2) 0 []),(3,.ref (.box 3) 0 [])],[(1,[.sl false 4 (List.map (GNode.enc false) p1.Nodes),.sl false 5 (List.map (GFn.enc false) p1.Fns)]),(2,[.sl true 4 [],.sl true 5 []]),(3,[.sl true 4 (List.map (GNode.enc true) a9.Nodes),.sl true 5 (List.map (GFn.enc true) a9.Fns)])]⟩) (fun _=>True) (fun _ _=>?_) fun b6 a3=>?_
 rotate_left
 ·refine O.zR y fun K u=>?_
  iterate 4 refine wQ q ?_
  apply wN;apply u
  refine O.block ?_
  refine O.loopO [] [1,2,3,14,15] [1,2,3] (fun v:Int × GProgram=>⟨[(1,.ref (.box 1) 0 []),(2,.ref (.box 2) 0 []),(3,.ref (.box 3) 0 []),(14,.t (vi (p1.Fns.length:Int))),(15,.t (vi v.1))],[(1,[.sl false 4 (List.map (GNode.enc false) p1.Nodes),.sl false 5 (List.map (GFn.enc false) p1.Fns)]),(2,[.sl true 4 [],.sl true 5 []]),(3,[.sl true 4 (List.map (GNode.enc true) v.2.Nodes),.sl true 5 (List.map (GFn.enc true) v.2.Fns)])]⟩) (cJ p1) _ (0,r8) a2 (by simp [q]) ?_
  intro g b7 a0 a4
  obtain ⟨b8,b9⟩:=g
  simp only [cJ] at a0
  try dsimp only
  refine O.zR y fun K u=>?_
  refine wQ q ?_
  apply wN;apply u
  refine O.seq ?_
  rcases aA a0 with ⟨a5,a0⟩ | ⟨a6,a0⟩
  ·refine O.cT' (by simp) a5 ?_
   refine O.skip ?_
   refine O.seq ?_
   refine O.block ?_
   refine O.zR y fun K u=>?_
   iterate 2 refine wQ q ?_
   apply wN;apply u
   refine O.zG y fun K u=>?_
   iterate 2 refine wQ q ?_
   obtain ⟨c0,a7,a0⟩:=bS a0
   refine wL [(.bor,.tmp 18),(.take,.tmp 19)] rfl rfl ent32 (xO _ _ a7) fun K w=>?_;simp [q];apply w
   refine wQ q ?_
   apply wN;apply u
   refine O.zG y fun K u=>?_
   iterate 2 refine wQ q ?_
   apply wN;apply u
   cases a0
   exact ⟨_,[],rfl,by simp [q]⟩
  refine O.cF' (by simp) a6 ?_
  refine O.exit ?_
  have b5:=congrArg some (a4 _ (Option.some.inj a0).symm)
  cases b5
  exact a3 _ () [] trivial (by simp [q])
 refine O.thaw 1 a1 (by rw [q];decide) fun K w=>?_;simp [q];apply w
 refine O.zR y fun K u=>?_
 iterate 2 refine wQ q ?_
 obtain ⟨c1,a8,h⟩:=bS h
 refine wL [(.bor,.tmp 22),(.take,.tmp 23)] rfl rfl ent39 (uR _ _ 40 [.pt [.sl false 4 (List.map (GNode.enc false) p1.Nodes),.sl false 5 (List.map (GFn.enc false) p1.Fns)]] ent40 (fun _ _ h0=>tN _ _ h0) a8) fun K w=>?_;simp [q];apply w
 refine wQ q ?_
 apply wN;apply u
 cases h
 refine O.ret ?_
 simp [aC,iB,res16]
theorem aOv:Tryz.f91.results.toList=[.tmp 4]:=rfl
theorem ent91:aE E.P 91:=eO Tryz.func91 (by simp [Tryz.f91]) rfl
theorem xM (f1:GFn) (g2:GFn) {r0:Bool} (h:mB f1 g2=some r0):Ok E 91 [.val (GFn.enc false f1),.val (GFn.enc false g2)] [vb r0] []:=by
 refine oB Tryz.func91 rfl (by simp [Tryz.f91]) fun C (q:C.N=45) hP=>?_
 have u:=aK hP
 unfold mB at h
 refine O.zR u fun K w=>?_
 iterate 3 refine wQ q ?_
 apply wN;apply w
 refine O.seq ?_
 obtain ⟨v9,b1,h⟩:=bS h
 refine O.seqRC rfl (u _ rfl) [2,3,26] [2,3] (fun _:Unit=>⟨[(2,.ref (.box 2) 0 []),(3,.ref (.box 3) 0 []),(26,.t (vb v9))],[(2,[vs f1.Name,.sl false 2 (List.map GParam.enc f1.Params),vi f1.Res,vi f1.Body,vi f1.Ret]),(3,[vs g2.Name,.sl false 2 (List.map GParam.enc g2.Params),vi g2.Res,vi g2.Body,vi g2.Ret])]⟩) (fun _=>True) (fun _ _=>?_) fun K4 b8=>?_
 rotate_left
 ·refine wQ q ?_
  iterate 5 refine wQ q ?_
  rcases aA b1 with ⟨b5,b1⟩ | ⟨b3,b1⟩
  ·have a2:=b5
   try simp at a2
   iterate 5 (refine wO fun K r=>?_;simp [q,b5,a2];apply r)
   iterate 2 (refine wC rfl fun K r=>?_;simp [q,b5,a2];apply r)
   iterate 7 (refine wO fun K r=>?_;simp [q,b5,a2];apply r)
   refine wC rfl fun K r=>?_;simp [q,b5,a2];apply r
   refine wN ?_
   cases b1
   exact b8 _ () [] trivial (by simp [q,b5,a2])
  have a0:=b3
  try simp at a0
  iterate 7 (refine wC rfl fun K r=>?_;simp [q,b3,a0];apply r)
  rcases aA b1 with ⟨b7,b1⟩ | ⟨b9,b1⟩
  ·have b2:=b7
   try simp at b2
   iterate 7 (refine wO fun K r=>?_;simp [q,b3,a0,b7,b2];apply r)
   refine wC rfl fun K r=>?_;simp [q,b3,a0,b7,b2];apply r
   refine wN ?_
   cases b1
   exact b8 _ () [] trivial (by simp [q,b3,a0,b7,b2])
  have b4:=b9
  try simp at b4
  iterate 8 (refine wC rfl fun K r=>?_;simp [q,b3,a0,b9,b4];apply r)
  refine wN ?_
  cases b1
  exact b8 _ () [] trivial (by simp [q,b3,a0,b9,b4])
 rcases aA h with ⟨c0,h⟩ | ⟨c1,h⟩
 ·refine O.cT' (by simp) c0 ?_
  refine O.zR u fun K w=>?_
  refine wQ q ?_
  apply wN;apply w
  cases h
  refine O.ret ?_
  simp [aC,iB,aOv]
 refine O.cF' (by simp) c1 ?_
 refine O.skip ?_
 obtain ⟨d3,c2,h⟩:=bS h
 refine O.seqC [] [] (fun v:Unit=>⟨[],[]⟩) (fun v=>d3=Sum.inl v) (fun v hv=>?_) fun d6 c3=>?_
 rotate_left
 ·refine O.zR u fun K w=>?_
  iterate 4 refine wQ q ?_
  apply wN;apply w
  refine O.block ?_
  refine O.loopO [] [2,3,29,30] [2,3] (fun v:Int=>⟨[(2,.ref (.box 2) 0 []),(3,.ref (.box 3) 0 []),(29,.t (vi (f1.Params.length:Int))),(30,.t (vi v))],[(2,[vs f1.Name,.sl false 2 (List.map GParam.enc f1.Params),vi f1.Res,vi f1.Body,vi f1.Ret]),(3,[vs g2.Name,.sl false 2 (List.map GParam.enc g2.Params),vi g2.Res,vi g2.Body,vi g2.Ret])]⟩) (eE f1 g2) _ 0 c2 (by simp [q]) ?_
  intro g d7 a1 b6
  obtain ⟨d2,hg⟩:∃ y,y=g:=⟨_,rfl⟩
  subst hg
  simp only [eE] at a1
  try dsimp only
  refine O.zR u fun K w=>?_
  refine wQ q ?_
  apply wN;apply w
  refine O.seq ?_
  rcases aA a1 with ⟨c4,a1⟩ | ⟨c5,a1⟩
  ·refine O.cT' (by simp) c4 ?_
   refine O.skip ?_
   refine O.seq ?_
   refine O.block ?_
   refine O.zR u fun K w=>?_
   iterate 2 refine wQ q ?_
   apply wN;apply w
   refine O.seq ?_
   obtain ⟨c6,c7,a1⟩:=bS a1
   obtain ⟨a3,a4,a5,a6⟩:=gS c7
   obtain ⟨c8,c9,a1⟩:=bS a1
   obtain ⟨a7,a8,a9,b0⟩:=gS c9
   refine O.dT rfl (u _ rfl) [(33,.ref (.box 2) 1 []),(34,.t (.sl false 2 (List.map GParam.enc f1.Params))),(35,.t (vi d2)),(36,.rop [vs c6.Name,vi c6.Typ] 0),(37,.t (GParam.enc c6)),(38,.ref (.box 3) 1 []),(39,.t (.sl false 2 (List.map GParam.enc g2.Params))),(40,.t (vi d2)),(41,.rop [vs c8.Name,vi c8.Typ] 0),(42,.t (GParam.enc c8))] [[],[0],[],[0,1,2],[0,1,2,3],[],[5],[],[5,6,7],[5,6,7,8],[0,1,2,3,4,5,6,7,8,9]] (by simp) (by simp) (by simp [look]) rfl rfl rfl ?_ fun K w=>?_
   ·refine ⟨?_,?_,?_,?_,?_,?_,?_,?_,?_,?_,trivial⟩
    all_goals (intro τ hbx hb hd hf K w;try simp [aH] at hd;simp [aH] at hf;first | (refine wC rfl fun K' z=>?_;simp [q,hbx,hb,hd,hf,a3,a4,a5,a6,a7,a8,a9,b0];exact z _ (wN (w _ (by simp [aH,hbx,a3,a4,a5,a6,a7,a8,a9,b0])))))
   refine wC rfl fun K r=>?_;simp [q,a3,a4,a5,a6,a7,a8,a9,b0];apply r
   apply wN;apply w
   rcases aA a1 with ⟨d0,a1⟩ | ⟨d1,a1⟩
   ·refine O.cT' (by simp) d0 ?_
    refine O.zR u fun K w=>?_
    refine wQ q ?_
    apply wN;apply w
    have d4:=congrArg some (b6 _ (Option.some.inj a1).symm)
    cases d4
    try dsimp only at h
    cases h
    refine O.ret ?_
    simp [aC,iB,aOv]
   refine O.cF' (by simp) d1 ?_
   refine O.skip ?_
   refine O.zG u fun K w=>?_
   iterate 2 refine wQ q ?_
   apply wN;apply w
   cases a1
   exact ⟨_,[],rfl,by simp [q]⟩
  refine O.cF' (by simp) c5 ?_
  refine O.exit ?_
  have d5:=congrArg some (b6 _ (Option.some.inj a1).symm)
  cases d5
  exact c3 _ _ [] rfl (by simp [q])
 subst hv
 obtain ⟨⟩:=v
 try dsimp only at h ⊢
 refine O.zR u fun K w=>?_
 refine wQ q ?_
 apply wN;apply w
 cases h
 refine O.ret ?_
 simp [aC,iB,aOv]
theorem aL4:Tryz.f109.results.toList=[.tmp 8]:=rfl
theorem aOj:aE E.P 109:=eO Tryz.func109 (by simp [Tryz.f109]) rfl
theorem uQ (a4:GProgram→Int→GProgram→Int→Option (Bool)) (b6:∀ (a0:GProgram) (a1:Int) (a2:GProgram) (a3:Int) {r0:Bool},a4 a0 a1 a2 a3=some r0→Ok E 109 [.val (GProgram.enc false a0),.val (vi a1),.val (GProgram.enc false a2),.val (vi a3)] [vb r0] []) (p1:GProgram) (a2:Int) (q3:GProgram) (b4:Int) {r0:Bool} (h:gR a4 p1 a2 q3 b4=some r0):Ok E 109 [.val (GProgram.enc false p1),.val (vi a2),.val (GProgram.enc false q3),.val (vi b4)] [vb r0] []:=by
 refine oB Tryz.func109 rfl (by simp [Tryz.f109]) fun C (q:C.N=71) hP=>?_
 have u:=aK hP
 unfold gR at h
 refine O.zR u fun K w=>?_
 iterate 3 refine wQ q ?_
 apply wN;apply w
 refine O.seq ?_
 obtain ⟨e5,i0,h⟩:=bS h
 obtain ⟨a5,a6,a7,a8⟩:=gS i0
 obtain ⟨e6,i1,h⟩:=bS h
 obtain ⟨a9,b0,b1,b2⟩:=gS i1
 refine O.drawX2 rfl (u _ rfl) [12,13,14,15,16,17,18,19,20,21,9,10] [[(12,.ref (.box 4) 0 [])],[(13,.t (.sl false 4 (List.map (GNode.enc false) p1.Nodes)))],[(14,.t (vi a2))],[(15,.rop [vi e5.Kind,vi e5.Num,vs e5.Name,.sl false 1 (List.map vi e5.Kids)] 0)],[(16,.t (GNode.enc false e5))],[(17,.ref (.box 6) 0 [])],[(18,.t (.sl false 4 (List.map (GNode.enc false) q3.Nodes)))],[(19,.t (vi b4))],[(20,.rop [vi e6.Kind,vi e6.Num,vs e6.Name,.sl false 1 (List.map vi e6.Kids)] 0)],[(21,.t (GNode.enc false e6))],[(9,.ref (.box 9) 0 [])],[(10,.ref (.box 10) 0 [])],[]] [[],[],[],[],[],[],[],[],[],[],[(9,[vi 0,vi 0,vs ByteArray.empty,.sl true 1 []])],[(10,[vi 0,vi 0,vs ByteArray.empty,.sl true 1 []])],[(9,[vi e5.Kind,vi e5.Num,vs e5.Name,.sl false 1 (List.map vi e5.Kids)])]] [[],[0],[],[0,1,2],[0,1,2,3],[],[5],[],[5,6,7],[5,6,7,8],[],[],[0,1,2,3,4,10,11],[0,1,2,3,4,5,6,7,8,9,10,11,12]] rfl (by simp) rfl rfl rfl ?_ fun K w=>?_
 ·refine ⟨?_,?_,?_,?_,?_,?_,?_,?_,?_,?_,?_,?_,?_,trivial⟩
  ·intro D d0 g1 g2 gc
   have d1:D 1=false:=g2 1 (by simp) (by simp)
   have d3:D 3=false:=g2 3 (by simp) (by simp)
   have d4:D 4=false:=g2 4 (by simp) (by simp)
   have b5:D 12=false:=g2 12 (by simp) (by simp)
   have p6_5:D 6=true→D 5=true:=fun h=>gc 6 5 h (by simp) (by simp)
   have p8_6:D 8=true→D 6=true:=fun h=>gc 8 6 h (by simp) (by simp)
   have p8_7:D 8=true→D 7=true:=fun h=>gc 8 7 h (by simp) (by simp)
   have p9_8:D 9=true→D 8=true:=fun h=>gc 9 8 h (by simp) (by simp)
   cases d2:D 2<;>cases d5:D 5<;>cases d6:D 6<;>(simp [d6,d5] at p6_5)<;>cases d7:D 7<;>cases d8:D 8<;>(simp [d8,d6] at p8_6)<;>(simp [d8,d7] at p8_7)<;>cases d9:D 9<;>(simp [d9,d8] at p9_8)<;>cases b7:D 10<;>cases b8:D 11<;>(intro K w;simp [iI,lD,fR,eN,hE,d0,d1,d2,d3,d4,d5,d6,d7,d8,d9,b7,b8,b5] at w ⊢;refine wC rfl fun K' z=>?_;simp [q,a5,a6,a7,a8,a9,b0,b1,b2];refine z _ (wN ?_);first | exact w | simpa [a5,a6,a7,a8,a9,b0,b1,b2] using w)
  ·intro D d1 g1 g2 gc
   have d0:D 0=true:=g1 0 (by simp)
   have d3:D 3=false:=g2 3 (by simp) (by simp)
   have d4:D 4=false:=g2 4 (by simp) (by simp)
   have b5:D 12=false:=g2 12 (by simp) (by simp)
   have p6_5:D 6=true→D 5=true:=fun h=>gc 6 5 h (by simp) (by simp)
   have p8_6:D 8=true→D 6=true:=fun h=>gc 8 6 h (by simp) (by simp)
   have p8_7:D 8=true→D 7=true:=fun h=>gc 8 7 h (by simp) (by simp)
   have p9_8:D 9=true→D 8=true:=fun h=>gc 9 8 h (by simp) (by simp)
   cases d2:D 2<;>cases d5:D 5<;>cases d6:D 6<;>(simp [d6,d5] at p6_5)<;>cases d7:D 7<;>cases d8:D 8<;>(simp [d8,d6] at p8_6)<;>(simp [d8,d7] at p8_7)<;>cases d9:D 9<;>(simp [d9,d8] at p9_8)<;>cases b7:D 10<;>cases b8:D 11<;>(intro K w;simp [iI,lD,fR,eN,hE,d0,d1,d2,d3,d4,d5,d6,d7,d8,d9,b7,b8,b5] at w ⊢;refine wC rfl fun K' z=>?_;simp [q,a5,a6,a7,a8,a9,b0,b1,b2];refine z _ (wN ?_);first | exact w | simpa [a5,a6,a7,a8,a9,b0,b1,b2] using w)
  ·intro D d2 g1 g2 gc
   have d3:D 3=false:=g2 3 (by simp) (by simp)
   have d4:D 4=false:=g2 4 (by simp) (by simp)
   have b5:D 12=false:=g2 12 (by simp) (by simp)
   have p1_0:D 1=true→D 0=true:=fun h=>gc 1 0 h (by simp) (by simp)
   have p6_5:D 6=true→D 5=true:=fun h=>gc 6 5 h (by simp) (by simp)
   have p8_6:D 8=true→D 6=true:=fun h=>gc 8 6 h (by simp) (by simp)
   have p8_7:D 8=true→D 7=true:=fun h=>gc 8 7 h (by simp) (by simp)
   have p9_8:D 9=true→D 8=true:=fun h=>gc 9 8 h (by simp) (by simp)
   cases d0:D 0<;>cases d1:D 1<;>(simp [d1,d0] at p1_0)<;>cases d5:D 5<;>cases d6:D 6<;>(simp [d6,d5] at p6_5)<;>cases d7:D 7<;>cases d8:D 8<;>(simp [d8,d6] at p8_6)<;>(simp [d8,d7] at p8_7)<;>cases d9:D 9<;>(simp [d9,d8] at p9_8)<;>cases b7:D 10<;>cases b8:D 11<;>(intro K w;simp [iI,lD,fR,eN,hE,d0,d1,d2,d3,d4,d5,d6,d7,d8,d9,b7,b8,b5] at w ⊢;refine wC rfl fun K' z=>?_;simp [q,a5,a6,a7,a8,a9,b0,b1,b2];refine z _ (wN ?_);first | exact w | simpa [a5,a6,a7,a8,a9,b0,b1,b2] using w)
  ·intro D d3 g1 g2 gc
   have d0:D 0=true:=g1 0 (by simp)
   have d1:D 1=true:=g1 1 (by simp)
   have d2:D 2=true:=g1 2 (by simp)
   have d4:D 4=false:=g2 4 (by simp) (by simp)
   have b5:D 12=false:=g2 12 (by simp) (by simp)
   have p6_5:D 6=true→D 5=true:=fun h=>gc 6 5 h (by simp) (by simp)
   have p8_6:D 8=true→D 6=true:=fun h=>gc 8 6 h (by simp) (by simp)
   have p8_7:D 8=true→D 7=true:=fun h=>gc 8 7 h (by simp) (by simp)
   have p9_8:D 9=true→D 8=true:=fun h=>gc 9 8 h (by simp) (by simp)
   cases d5:D 5<;>cases d6:D 6<;>(simp [d6,d5] at p6_5)<;>cases d7:D 7<;>cases d8:D 8<;>(simp [d8,d6] at p8_6)<;>(simp [d8,d7] at p8_7)<;>cases d9:D 9<;>(simp [d9,d8] at p9_8)<;>cases b7:D 10<;>cases b8:D 11<;>(intro K w;simp [iI,lD,fR,eN,hE,d0,d1,d2,d3,d4,d5,d6,d7,d8,d9,b7,b8,b5] at w ⊢;refine wC rfl fun K' z=>?_;simp [q,a5,a6,a7,a8,a9,b0,b1,b2];refine z _ (wN ?_);first | exact w | simpa [a5,a6,a7,a8,a9,b0,b1,b2] using w)
  ·intro D d4 g1 g2 gc
   have d0:D 0=true:=g1 0 (by simp)
   have d1:D 1=true:=g1 1 (by simp)
   have d2:D 2=true:=g1 2 (by simp)
   have d3:D 3=true:=g1 3 (by simp)
   have b5:D 12=false:=g2 12 (by simp) (by simp)
   have p6_5:D 6=true→D 5=true:=fun h=>gc 6 5 h (by simp) (by simp)
   have p8_6:D 8=true→D 6=true:=fun h=>gc 8 6 h (by simp) (by simp)
   have p8_7:D 8=true→D 7=true:=fun h=>gc 8 7 h (by simp) (by simp)
   have p9_8:D 9=true→D 8=true:=fun h=>gc 9 8 h (by simp) (by simp)
   cases d5:D 5<;>cases d6:D 6<;>(simp [d6,d5] at p6_5)<;>cases d7:D 7<;>cases d8:D 8<;>(simp [d8,d6] at p8_6)<;>(simp [d8,d7] at p8_7)<;>cases d9:D 9<;>(simp [d9,d8] at p9_8)<;>cases b7:D 10<;>cases b8:D 11<;>(intro K w;simp [iI,lD,fR,eN,hE,d0,d1,d2,d3,d4,d5,d6,d7,d8,d9,b7,b8,b5] at w ⊢;refine wC rfl fun K' z=>?_;simp [q,a5,a6,a7,a8,a9,b0,b1,b2];refine z _ (wN ?_);first | exact w | simpa [a5,a6,a7,a8,a9,b0,b1,b2] using w)
  ·intro D d5 g1 g2 gc
   have d6:D 6=false:=g2 6 (by simp) (by simp)
   have d8:D 8=false:=g2 8 (by simp) (by simp)
   have d9:D 9=false:=g2 9 (by simp) (by simp)
   have p1_0:D 1=true→D 0=true:=fun h=>gc 1 0 h (by simp) (by simp)
   have p3_1:D 3=true→D 1=true:=fun h=>gc 3 1 h (by simp) (by simp)
   have p3_2:D 3=true→D 2=true:=fun h=>gc 3 2 h (by simp) (by simp)
   have p4_3:D 4=true→D 3=true:=fun h=>gc 4 3 h (by simp) (by simp)
   have p12_4:D 12=true→D 4=true:=fun h=>gc 12 4 h (by simp) (by simp)
   have p12_10:D 12=true→D 10=true:=fun h=>gc 12 10 h (by simp) (by simp)
   have p12_11:D 12=true→D 11=true:=fun h=>gc 12 11 h (by simp) (by simp)
   cases d0:D 0<;>cases d1:D 1<;>(simp [d1,d0] at p1_0)<;>cases d2:D 2<;>cases d3:D 3<;>(simp [d3,d1] at p3_1)<;>(simp [d3,d2] at p3_2)<;>cases d4:D 4<;>(simp [d4,d3] at p4_3)<;>cases d7:D 7<;>cases b7:D 10<;>cases b8:D 11<;>cases b5:D 12<;>(simp [b5,d4] at p12_4)<;>(simp [b5,b7] at p12_10)<;>(simp [b5,b8] at p12_11)<;>(intro K w;simp [iI,lD,fR,eN,hE,d0,d1,d2,d3,d4,d5,d6,d7,d8,d9,b7,b8,b5] at w ⊢;refine wC rfl fun K' z=>?_;simp [q,a5,a6,a7,a8,a9,b0,b1,b2];refine z _ (wN ?_);first | exact w | simpa [a5,a6,a7,a8,a9,b0,b1,b2] using w)
  ·intro D d6 g1 g2 gc
   have d5:D 5=true:=g1 5 (by simp)
   have d8:D 8=false:=g2 8 (by simp) (by simp)
   have d9:D 9=false:=g2 9 (by simp) (by simp)
   have p1_0:D 1=true→D 0=true:=fun h=>gc 1 0 h (by simp) (by simp)
   have p3_1:D 3=true→D 1=true:=fun h=>gc 3 1 h (by simp) (by simp)
   have p3_2:D 3=true→D 2=true:=fun h=>gc 3 2 h (by simp) (by simp)
   have p4_3:D 4=true→D 3=true:=fun h=>gc 4 3 h (by simp) (by simp)
   have p12_4:D 12=true→D 4=true:=fun h=>gc 12 4 h (by simp) (by simp)
   have p12_10:D 12=true→D 10=true:=fun h=>gc 12 10 h (by simp) (by simp)
   have p12_11:D 12=true→D 11=true:=fun h=>gc 12 11 h (by simp) (by simp)
   cases d0:D 0<;>cases d1:D 1<;>(simp [d1,d0] at p1_0)<;>cases d2:D 2<;>cases d3:D 3<;>(simp [d3,d1] at p3_1)<;>(simp [d3,d2] at p3_2)<;>cases d4:D 4<;>(simp [d4,d3] at p4_3)<;>cases d7:D 7<;>cases b7:D 10<;>cases b8:D 11<;>cases b5:D 12<;>(simp [b5,d4] at p12_4)<;>(simp [b5,b7] at p12_10)<;>(simp [b5,b8] at p12_11)<;>(intro K w;simp [iI,lD,fR,eN,hE,d0,d1,d2,d3,d4,d5,d6,d7,d8,d9,b7,b8,b5] at w ⊢;refine wC rfl fun K' z=>?_;simp [q,a5,a6,a7,a8,a9,b0,b1,b2];refine z _ (wN ?_);first | exact w | simpa [a5,a6,a7,a8,a9,b0,b1,b2] using w)
  ·intro D d7 g1 g2 gc
   have d8:D 8=false:=g2 8 (by simp) (by simp)
   have d9:D 9=false:=g2 9 (by simp) (by simp)
   have p1_0:D 1=true→D 0=true:=fun h=>gc 1 0 h (by simp) (by simp)
   have p3_1:D 3=true→D 1=true:=fun h=>gc 3 1 h (by simp) (by simp)
   have p3_2:D 3=true→D 2=true:=fun h=>gc 3 2 h (by simp) (by simp)
   have p4_3:D 4=true→D 3=true:=fun h=>gc 4 3 h (by simp) (by simp)
   have p6_5:D 6=true→D 5=true:=fun h=>gc 6 5 h (by simp) (by simp)
   have p12_4:D 12=true→D 4=true:=fun h=>gc 12 4 h (by simp) (by simp)
   have p12_10:D 12=true→D 10=true:=fun h=>gc 12 10 h (by simp) (by simp)
   have p12_11:D 12=true→D 11=true:=fun h=>gc 12 11 h (by simp) (by simp)
   cases d0:D 0<;>cases d1:D 1<;>(simp [d1,d0] at p1_0)<;>cases d2:D 2<;>cases d3:D 3<;>(simp [d3,d1] at p3_1)<;>(simp [d3,d2] at p3_2)<;>cases d4:D 4<;>(simp [d4,d3] at p4_3)<;>cases d5:D 5<;>cases d6:D 6<;>(simp [d6,d5] at p6_5)<;>cases b7:D 10<;>cases b8:D 11<;>cases b5:D 12<;>(simp [b5,d4] at p12_4)<;>(simp [b5,b7] at p12_10)<;>(simp [b5,b8] at p12_11)<;>(intro K w;simp [iI,lD,fR,eN,hE,d0,d1,d2,d3,d4,d5,d6,d7,d8,d9,b7,b8,b5] at w ⊢;refine wC rfl fun K' z=>?_;simp [q,a5,a6,a7,a8,a9,b0,b1,b2];refine z _ (wN ?_);first | exact w | simpa [a5,a6,a7,a8,a9,b0,b1,b2] using w)
  ·intro D d8 g1 g2 gc
   have d5:D 5=true:=g1 5 (by simp)
   have d6:D 6=true:=g1 6 (by simp)
   have d7:D 7=true:=g1 7 (by simp)
   have d9:D 9=false:=g2 9 (by simp) (by simp)
   have p1_0:D 1=true→D 0=true:=fun h=>gc 1 0 h (by simp) (by simp)
   have p3_1:D 3=true→D 1=true:=fun h=>gc 3 1 h (by simp) (by simp)
   have p3_2:D 3=true→D 2=true:=fun h=>gc 3 2 h (by simp) (by simp)
   have p4_3:D 4=true→D 3=true:=fun h=>gc 4 3 h (by simp) (by simp)
   have p12_4:D 12=true→D 4=true:=fun h=>gc 12 4 h (by simp) (by simp)
   have p12_10:D 12=true→D 10=true:=fun h=>gc 12 10 h (by simp) (by simp)
   have p12_11:D 12=true→D 11=true:=fun h=>gc 12 11 h (by simp) (by simp)
   cases d0:D 0<;>cases d1:D 1<;>(simp [d1,d0] at p1_0)<;>cases d2:D 2<;>cases d3:D 3<;>(simp [d3,d1] at p3_1)<;>(simp [d3,d2] at p3_2)<;>cases d4:D 4<;>(simp [d4,d3] at p4_3)<;>cases b7:D 10<;>cases b8:D 11<;>cases b5:D 12<;>(simp [b5,d4] at p12_4)<;>(simp [b5,b7] at p12_10)<;>(simp [b5,b8] at p12_11)<;>(intro K w;simp [iI,lD,fR,eN,hE,d0,d1,d2,d3,d4,d5,d6,d7,d8,d9,b7,b8,b5] at w ⊢;refine wC rfl fun K' z=>?_;simp [q,a5,a6,a7,a8,a9,b0,b1,b2];refine z _ (wN ?_);first | exact w | simpa [a5,a6,a7,a8,a9,b0,b1,b2] using w)
  ·intro D d9 g1 g2 gc
   have d5:D 5=true:=g1 5 (by simp)
   have d6:D 6=true:=g1 6 (by simp)
   have d7:D 7=true:=g1 7 (by simp)
   have d8:D 8=true:=g1 8 (by simp)
   have p1_0:D 1=true→D 0=true:=fun h=>gc 1 0 h (by simp) (by simp)
   have p3_1:D 3=true→D 1=true:=fun h=>gc 3 1 h (by simp) (by simp)
   have p3_2:D 3=true→D 2=true:=fun h=>gc 3 2 h (by simp) (by simp)
   have p4_3:D 4=true→D 3=true:=fun h=>gc 4 3 h (by simp) (by simp)
   have p12_4:D 12=true→D 4=true:=fun h=>gc 12 4 h (by simp) (by simp)
   have p12_10:D 12=true→D 10=true:=fun h=>gc 12 10 h (by simp) (by simp)
   have p12_11:D 12=true→D 11=true:=fun h=>gc 12 11 h (by simp) (by simp)
   cases d0:D 0<;>cases d1:D 1<;>(simp [d1,d0] at p1_0)<;>cases d2:D 2<;>cases d3:D 3<;>(simp [d3,d1] at p3_1)<;>(simp [d3,d2] at p3_2)<;>cases d4:D 4<;>(simp [d4,d3] at p4_3)<;>cases b7:D 10<;>cases b8:D 11<;>cases b5:D 12<;>(simp [b5,d4] at p12_4)<;>(simp [b5,b7] at p12_10)<;>(simp [b5,b8] at p12_11)<;>(intro K w;simp [iI,lD,fR,eN,hE,d0,d1,d2,d3,d4,d5,d6,d7,d8,d9,b7,b8,b5] at w ⊢;refine wC rfl fun K' z=>?_;simp [q,a5,a6,a7,a8,a9,b0,b1,b2];refine z _ (wN ?_);first | exact w | simpa [a5,a6,a7,a8,a9,b0,b1,b2] using w)
  ·intro D b7 g1 g2 gc
   have b5:D 12=false:=g2 12 (by simp) (by simp)
   have p1_0:D 1=true→D 0=true:=fun h=>gc 1 0 h (by simp) (by simp)
   have p3_1:D 3=true→D 1=true:=fun h=>gc 3 1 h (by simp) (by simp)
   have p3_2:D 3=true→D 2=true:=fun h=>gc 3 2 h (by simp) (by simp)
   have p4_3:D 4=true→D 3=true:=fun h=>gc 4 3 h (by simp) (by simp)
   have p6_5:D 6=true→D 5=true:=fun h=>gc 6 5 h (by simp) (by simp)
   have p8_6:D 8=true→D 6=true:=fun h=>gc 8 6 h (by simp) (by simp)
   have p8_7:D 8=true→D 7=true:=fun h=>gc 8 7 h (by simp) (by simp)
   have p9_8:D 9=true→D 8=true:=fun h=>gc 9 8 h (by simp) (by simp)
   cases d0:D 0<;>cases d1:D 1<;>(simp [d1,d0] at p1_0)<;>cases d2:D 2<;>cases d3:D 3<;>(simp [d3,d1] at p3_1)<;>(simp [d3,d2] at p3_2)<;>cases d4:D 4<;>(simp [d4,d3] at p4_3)<;>cases d5:D 5<;>cases d6:D 6<;>(simp [d6,d5] at p6_5)<;>cases d7:D 7<;>cases d8:D 8<;>(simp [d8,d6] at p8_6)<;>(simp [d8,d7] at p8_7)<;>cases d9:D 9<;>(simp [d9,d8] at p9_8)<;>cases b8:D 11<;>(intro K w;simp [iI,lD,fR,eN,hE,d0,d1,d2,d3,d4,d5,d6,d7,d8,d9,b7,b8,b5] at w ⊢;refine wC rfl fun K' z=>?_;simp [q,a5,a6,a7,a8,a9,b0,b1,b2];refine z _ (wN ?_);first | exact w | simpa [a5,a6,a7,a8,a9,b0,b1,b2] using w)
  ·intro D b8 g1 g2 gc
   have b5:D 12=false:=g2 12 (by simp) (by simp)
   have p1_0:D 1=true→D 0=true:=fun h=>gc 1 0 h (by simp) (by simp)
   have p3_1:D 3=true→D 1=true:=fun h=>gc 3 1 h (by simp) (by simp)
   have p3_2:D 3=true→D 2=true:=fun h=>gc 3 2 h (by simp) (by simp)
   have p4_3:D 4=true→D 3=true:=fun h=>gc 4 3 h (by simp) (by simp)
   have p6_5:D 6=true→D 5=true:=fun h=>gc 6 5 h (by simp) (by simp)
   have p8_6:D 8=true→D 6=true:=fun h=>gc 8 6 h (by simp) (by simp)
   have p8_7:D 8=true→D 7=true:=fun h=>gc 8 7 h (by simp) (by simp)
   have p9_8:D 9=true→D 8=true:=fun h=>gc 9 8 h (by simp) (by simp)
   cases d0:D 0<;>cases d1:D 1<;>(simp [d1,d0] at p1_0)<;>cases d2:D 2<;>cases d3:D 3<;>(simp [d3,d1] at p3_1)<;>(simp [d3,d2] at p3_2)<;>cases d4:D 4<;>(simp [d4,d3] at p4_3)<;>cases d5:D 5<;>cases d6:D 6<;>(simp [d6,d5] at p6_5)<;>cases d7:D 7<;>cases d8:D 8<;>(simp [d8,d6] at p8_6)<;>(simp [d8,d7] at p8_7)<;>cases d9:D 9<;>(simp [d9,d8] at p9_8)<;>cases b7:D 10<;>(intro K w;simp [iI,lD,fR,eN,hE,d0,d1,d2,d3,d4,d5,d6,d7,d8,d9,b7,b8,b5] at w ⊢;refine wC rfl fun K' z=>?_;simp [q,a5,a6,a7,a8,a9,b0,b1,b2];refine z _ (wN ?_);first | exact w | simpa [a5,a6,a7,a8,a9,b0,b1,b2] using w)
  intro D b5 g1 g2 gc
  have d0:D 0=true:=g1 0 (by simp)
  have d1:D 1=true:=g1 1 (by simp)
  have d2:D 2=true:=g1 2 (by simp)
  have d3:D 3=true:=g1 3 (by simp)
  have d4:D 4=true:=g1 4 (by simp)
  have b7:D 10=true:=g1 10 (by simp)
  have b8:D 11=true:=g1 11 (by simp)
  have p6_5:D 6=true→D 5=true:=fun h=>gc 6 5 h (by simp) (by simp)
  have p8_6:D 8=true→D 6=true:=fun h=>gc 8 6 h (by simp) (by simp)
  have p8_7:D 8=true→D 7=true:=fun h=>gc 8 7 h (by simp) (by simp)
  have p9_8:D 9=true→D 8=true:=fun h=>gc 9 8 h (by simp) (by simp)
  cases d5:D 5<;>cases d6:D 6<;>(simp [d6,d5] at p6_5)<;>cases d7:D 7<;>cases d8:D 8<;>(simp [d8,d6] at p8_6)<;>(simp [d8,d7] at p8_7)<;>cases d9:D 9<;>(simp [d9,d8] at p9_8)<;>(intro K w;simp [iI,lD,fR,eN,hE,d0,d1,d2,d3,d4,d5,d6,d7,d8,d9,b7,b8,b5] at w ⊢;refine wC rfl fun K' z=>?_;simp [q,a5,a6,a7,a8,a9,b0,b1,b2];refine z _ (wN ?_);first | exact w | simpa [a5,a6,a7,a8,a9,b0,b1,b2] using w)
 simp [iI,lD,eN,hE]
 refine wC rfl fun K r=>?_;simp [q,a5,a6,a7,a8,a9,b0,b1,b2];apply r
 apply wN;apply w
 refine O.seq ?_
 obtain ⟨i2,e4,h⟩:=bS h
 refine O.seqRC rfl (u _ rfl) [4,6,9,10,49] [4,6,9,10] (fun _:Unit=>⟨[(4,.ref (.box 4) 0 []),(6,.ref (.box 6) 0 []),(9,.ref (.box 9) 0 []),(10,.ref (.box 10) 0 []),(49,.t (vb i2))],[(4,[.sl false 4 (List.map (GNode.enc false) p1.Nodes),.sl false 5 (List.map (GFn.enc false) p1.Fns)]),(6,[.sl false 4 (List.map (GNode.enc false) q3.Nodes),.sl false 5 (List.map (GFn.enc false) q3.Fns)]),(9,[vi e5.Kind,vi e5.Num,vs e5.Name,.sl false 1 (List.map vi e5.Kids)]),(10,[vi e6.Kind,vi e6.Num,vs e6.Name,.sl false 1 (List.map vi e6.Kids)])]⟩) (fun _=>True) (fun _ _=>?_) fun K8 g5=>?_
 rotate_left
 ·refine wQ q ?_
  iterate 5 refine wQ q ?_
  rcases aA e4 with ⟨g0,e4⟩ | ⟨b9,e4⟩
  ·have c2:=g0
   try simp at c2
   iterate 5 (refine wO fun K r=>?_;simp [q,g0,c2];apply r)
   iterate 2 (refine wC rfl fun K r=>?_;simp [q,g0,c2];apply r)
   iterate 5 (refine wO fun K r=>?_;simp [q,g0,c2];apply r)
   iterate 2 (refine wC rfl fun K r=>?_;simp [q,g0,c2];apply r)
   iterate 7 (refine wO fun K r=>?_;simp [q,g0,c2];apply r)
   refine wC rfl fun K r=>?_;simp [q,g0,c2];apply r
   refine wN ?_
   cases e4
   exact g5 _ () [] trivial (by simp [q,g0,c2])
  have b3:=b9
  try simp at b3
  iterate 7 (refine wC rfl fun K r=>?_;simp [q,b9,b3];apply r)
  rcases aA e4 with ⟨e7,e4⟩ | ⟨c4,e4⟩
  ·have c1:=e7
   try simp at c1
   iterate 5 (refine wO fun K r=>?_;simp [q,b9,b3,e7,c1];apply r)
   iterate 2 (refine wC rfl fun K r=>?_;simp [q,b9,b3,e7,c1];apply r)
   iterate 7 (refine wO fun K r=>?_;simp [q,b9,b3,e7,c1];apply r)
   refine wC rfl fun K r=>?_;simp [q,b9,b3,e7,c1];apply r
   refine wN ?_
   cases e4
   exact g5 _ () [] trivial (by simp [q,b9,b3,e7,c1])
  have c0:=c4
  try simp at c0
  iterate 7 (refine wC rfl fun K r=>?_;simp [q,b9,b3,c4,c0];apply r)
  rcases aA e4 with ⟨e9,e4⟩ | ⟨g3,e4⟩
  ·have c5:=e9
   try simp at c5
   iterate 7 (refine wO fun K r=>?_;simp [q,b9,b3,c4,c0,e9,c5];apply r)
   refine wC rfl fun K r=>?_;simp [q,b9,b3,c4,c0,e9,c5];apply r
   refine wN ?_
   cases e4
   exact g5 _ () [] trivial (by simp [q,b9,b3,c4,c0,e9,c5])
  have e8:=g3
  try simp at e8
  iterate 8 (refine wC rfl fun K r=>?_;simp [q,b9,b3,c4,c0,g3,e8];apply r)
  refine wN ?_
  cases e4
  exact g5 _ () [] trivial (by simp [q,b9,b3,c4,c0,g3,e8])
 rcases aA h with ⟨g6,h⟩ | ⟨g7,h⟩
 ·refine O.cT' (by simp) g6 ?_
  refine O.zR u fun K w=>?_
  refine wQ q ?_
  apply wN;apply w
  cases h
  refine O.ret ?_
  simp [aC,iB,aL4]
 refine O.cF' (by simp) g7 ?_
 refine O.skip ?_
 obtain ⟨i3,g8,h⟩:=bS h
 refine O.seqC [] [] (fun v:Unit=>⟨[],[]⟩) (fun v=>i3=Sum.inl v) (fun v hv=>?_) fun i6 g9=>?_
 rotate_left
 ·refine O.zR u fun K w=>?_
  iterate 4 refine wQ q ?_
  apply wN;apply w
  refine O.block ?_
  refine O.loopO [] [4,6,9,10,52,53] [4,6,9,10] (fun v:Int=>⟨[(4,.ref (.box 4) 0 []),(6,.ref (.box 6) 0 []),(9,.ref (.box 9) 0 []),(10,.ref (.box 10) 0 []),(52,.t (vi (e5.Kids.length:Int))),(53,.t (vi v))],[(4,[.sl false 4 (List.map (GNode.enc false) p1.Nodes),.sl false 5 (List.map (GFn.enc false) p1.Fns)]),(6,[.sl false 4 (List.map (GNode.enc false) q3.Nodes),.sl false 5 (List.map (GFn.enc false) q3.Fns)]),(9,[vi e5.Kind,vi e5.Num,vs e5.Name,.sl false 1 (List.map vi e5.Kids)]),(10,[vi e6.Kind,vi e6.Num,vs e6.Name,.sl false 1 (List.map vi e6.Kids)])]⟩) (fO a4 p1 q3 e5 e6) _ 0 g8 (by simp [q]) ?_
  intro g i7 c3 g4
  obtain ⟨h7,hg⟩:∃ y,y=g:=⟨_,rfl⟩
  subst hg
  simp only [fO] at c3
  try dsimp only
  refine O.zR u fun K w=>?_
  refine wQ q ?_
  apply wN;apply w
  refine O.seq ?_
  rcases aA c3 with ⟨h0,c3⟩ | ⟨h1,c3⟩
  ·refine O.cT' (by simp) h0 ?_
   refine O.skip ?_
   refine O.seq ?_
   refine O.block ?_
   refine O.zR u fun K w=>?_
   iterate 2 refine wQ q ?_
   apply wN;apply w
   refine O.seq ?_
   obtain ⟨h8,h2,c3⟩:=bS c3
   obtain ⟨c6,c7,c8,c9⟩:=gS h2
   obtain ⟨h9,h3,c3⟩:=bS c3
   obtain ⟨e0,e1,e2,e3⟩:=gS h3
   refine O.dT rfl (u _ rfl) [(56,.t (GProgram.enc false p1)),(57,.ref (.box 9) 3 []),(58,.t (.sl false 1 (List.map vi e5.Kids))),(59,.t (vi h7)),(60,.rop [vi h8] 0),(61,.t (vi h8)),(62,.t (GProgram.enc false q3)),(63,.ref (.box 10) 3 []),(64,.t (.sl false 1 (List.map vi e6.Kids))),(65,.t (vi h7)),(66,.rop [vi h9] 0),(67,.t (vi h9))] [[],[],[1],[],[1,2,3],[1,2,3,4],[],[],[7],[],[7,8,9],[7,8,9,10],[0,1,2,3,4,5,6,7,8,9,10,11],[0,1,2,3,4,5,6,7,8,9,10,11,12]] (by simp) (by simp) (by simp [look]) rfl rfl rfl ?_ fun K w=>?_
   ·refine ⟨?_,?_,?_,?_,?_,?_,?_,?_,?_,?_,?_,?_,trivial⟩
    all_goals (intro τ hbx hb hd hf K w;try simp [aH] at hd;simp [aH] at hf;first | (refine wC rfl fun K' z=>?_;simp [q,hbx,hb,hd,hf,c6,c7,c8,c9,e0,e1,e2,e3];exact z _ (wN (w _ (by simp [aH,hbx,c6,c7,c8,c9,e0,e1,e2,e3])))))
   obtain ⟨i8,h4,c3⟩:=bS c3
   refine wL [(.take,.tmp 56),(.take,.tmp 61),(.take,.tmp 62),(.take,.tmp 67)] rfl rfl aOj (b6 _ _ _ _ h4) fun K r=>?_;simp [q,c6,c7,c8,c9,e0,e1,e2,e3];apply r
   refine wC rfl fun K r=>?_;simp [q,c6,c7,c8,c9,e0,e1,e2,e3];apply r
   apply wN;apply w
   rcases aA c3 with ⟨h5,c3⟩ | ⟨h6,c3⟩
   ·refine O.cT' (by simp) h5 ?_
    refine O.zR u fun K w=>?_
    refine wQ q ?_
    apply wN;apply w
    have i4:=congrArg some (g4 _ (Option.some.inj c3).symm)
    cases i4
    try dsimp only at h
    cases h
    refine O.ret ?_
    simp [aC,iB,aL4]
   refine O.cF' (by simp) h6 ?_
   refine O.skip ?_
   refine O.zG u fun K w=>?_
   iterate 2 refine wQ q ?_
   apply wN;apply w
   cases c3
   exact ⟨_,[],rfl,by simp [q]⟩
  refine O.cF' (by simp) h1 ?_
  refine O.exit ?_
  have i5:=congrArg some (g4 _ (Option.some.inj c3).symm)
  cases i5
  exact g9 _ _ [] rfl (by simp [q])
 subst hv
 obtain ⟨⟩:=v
 try dsimp only at h ⊢
 refine O.zR u fun K w=>?_
 refine wQ q ?_
 apply wN;apply w
 cases h
 refine O.ret ?_
 simp [aC,iB,aL4]
theorem lY:∀ n:Nat,(∀ (a0:GProgram) (a1:Int) (a2:GProgram) (a3:Int) {r0:Bool},(bM n) a0 a1 a2 a3=some r0→Ok E 109 [.val (GProgram.enc false a0),.val (vi a1),.val (GProgram.enc false a2),.val (vi a3)] [vb r0] [])
 | 0=>(by intros;rename_i h;cases h)
 | n + 1=>uQ (bM n) (lY n)
theorem xL:∀ (a0:GProgram) (a1:Int) (a2:GProgram) (a3:Int) {r0:Bool},pP a0 a1 a2 a3=some r0→Ok E 109 [.val (GProgram.enc false a0),.val (vi a1),.val (GProgram.enc false a2),.val (vi a3)] [vb r0] []:=(lY eK)
theorem res92:Tryz.f92.results.toList=[.tmp 8]:=rfl
theorem ent92:aE E.P 92:=eO Tryz.func92 (by simp [Tryz.f92]) rfl
theorem qF (p1:GProgram) (a2:Int) (q3:GProgram) (b4:Int) {r0:Bool} (h:iG p1 a2 q3 b4=some r0):Ok E 92 [.val (GProgram.enc false p1),.val (vi a2),.val (GProgram.enc false q3),.val (vi b4)] [vb r0] []:=by
 refine oB Tryz.func92 rfl (by simp [Tryz.f92]) fun C (q:C.N=28) hP=>?_
 have y:=aK hP
 unfold iG at h
 refine O.zR y fun K u=>?_
 iterate 3 refine wQ q ?_
 apply wN;apply u
 obtain ⟨b3,a4,h⟩:=bS h
 refine O.seqRC rfl (y _ rfl) [8] [] (fun _:Unit=>⟨[(8,.t (vb b3))],[]⟩) (fun _=>True) (fun _ _=>?_) fun K6 b0=>?_
 rotate_left
 ·refine wQ q ?_
  iterate 2 refine wQ q ?_
  obtain ⟨r7,b5,a4⟩:=bS a4
  refine wL [(.take,.tmp 10),(.take,.tmp 11)] rfl rfl aNu (kQ _ _ b5) fun K v=>?_;simp [q];apply v
  iterate 2 refine wQ q ?_
  rcases aA a4 with ⟨a7,a4⟩ | ⟨a6,a4⟩
  ·have a0:=a7
   try simp at a0
   iterate 3 (refine wC rfl fun K v=>?_;simp [q,a7,a0];apply v)
   obtain ⟨b6,b1,a4⟩:=bS a4
   refine wL [(.take,.tmp 16),(.take,.tmp 17)] rfl rfl aNu (kQ _ _ b1) fun K v=>?_;simp [q,a7,a0];apply v
   iterate 3 (refine wC rfl fun K v=>?_;simp [q,a7,a0];apply v)
   rcases aA a4 with ⟨a8,a4⟩ | ⟨a9,a4⟩
   ·have a3:=a8
    try simp at a3
    iterate 4 (refine wC rfl fun K v=>?_;simp [q,a7,a0,a8,a3];apply v)
    obtain ⟨b7,b2,a4⟩:=bS a4
    refine wL [(.take,.tmp 22),(.take,.tmp 23),(.take,.tmp 24),(.take,.tmp 25)] rfl rfl aOj (xL _ _ _ _ b2) fun K v=>?_;simp [q,a7,a0,a8,a3];apply v
    iterate 2 (refine wC rfl fun K v=>?_;simp [q,a7,a0,a8,a3];apply v)
    refine wN ?_
    cases a4
    exact b0 _ () [] trivial (by simp [q,a7,a0,a8,a3])
   have a5:=a9
   try simp at a5
   iterate 5 (refine wO fun K v=>?_;simp [q,a7,a0,a9,a5];apply v)
   iterate 2 (refine wC rfl fun K v=>?_;simp [q,a7,a0,a9,a5];apply v)
   refine wN ?_
   cases a4
   exact b0 _ () [] trivial (by simp [q,a7,a0,a9,a5])
  have a1:=a6
  try simp at a1
  iterate 5 (refine wO fun K v=>?_;simp [q,a6,a1];apply v)
  iterate 2 (refine wC rfl fun K v=>?_;simp [q,a6,a1];apply v)
  iterate 5 (refine wO fun K v=>?_;simp [q,a6,a1];apply v)
  iterate 2 (refine wC rfl fun K v=>?_;simp [q,a6,a1];apply v)
  refine wN ?_
  cases a4
  exact b0 _ () [] trivial (by simp [q,a6,a1])
 cases h
 refine O.ret ?_
 simp [aC,iB,res92]
theorem res56:Tryz.f56.results.toList=[.tmp 8]:=rfl
theorem ent56:aE E.P 56:=eO Tryz.func56 (by simp [Tryz.f56]) rfl
theorem aAa (p1:GProgram) (f2:GFn) (q3:GProgram) (g4:GFn) {r0:Bool} (h:gT p1 f2 q3 g4=some r0):Ok E 56 [.val (GProgram.enc false p1),.val (GFn.enc false f2),.val (GProgram.enc false q3),.val (GFn.enc false g4)] [vb r0] []:=by
 refine oB Tryz.func56 rfl (by simp [Tryz.f56]) fun C (q:C.N=44) hP=>?_
 have y:=aK hP
 unfold gT at h
 refine O.zR y fun K u=>?_
 iterate 5 refine wQ q ?_
 apply wN;apply u
 refine O.seq ?_
 obtain ⟨c0,a6,h⟩:=bS h
 refine O.seqRC rfl (y _ rfl) [4,5,6,7,31] [4,5,6,7] (fun _:Unit=>⟨[(4,.ref (.box 4) 0 []),(5,.ref (.box 5) 0 []),(6,.ref (.box 6) 0 []),(7,.ref (.box 7) 0 []),(31,.t (vb c0))],[(4,[.sl false 4 (List.map (GNode.enc false) p1.Nodes),.sl false 5 (List.map (GFn.enc false) p1.Fns)]),(5,[vs f2.Name,.sl false 2 (List.map GParam.enc f2.Params),vi f2.Res,vi f2.Body,vi f2.Ret]),(6,[.sl false 4 (List.map (GNode.enc false) q3.Nodes),.sl false 5 (List.map (GFn.enc false) q3.Fns)]),(7,[vs g4.Name,.sl false 2 (List.map GParam.enc g4.Params),vi g4.Res,vi g4.Body,vi g4.Ret])]⟩) (fun _=>True) (fun _ _=>?_) fun K6 b5=>?_
 rotate_left
 ·refine wQ q ?_
  refine wQ q ?_
  obtain ⟨r7,c1,a6⟩:=bS a6
  refine wL [(.take,.tmp 9),(.take,.tmp 10)] rfl rfl ent91 (xM _ _ c1) fun K v=>?_;simp [q];apply v
  iterate 2 refine wQ q ?_
  rcases aA a6 with ⟨b3,a6⟩ | ⟨a1,a6⟩
  ·have a7:=b3
   try simp at a7
   iterate 8 (refine wO fun K v=>?_;simp [q,b3,a7];apply v)
   iterate 2 (refine wC rfl fun K v=>?_;simp [q,b3,a7];apply v)
   iterate 7 (refine wO fun K v=>?_;simp [q,b3,a7];apply v)
   refine wC rfl fun K v=>?_;simp [q,b3,a7];apply v
   refine wN ?_
   cases a6
   exact b5 _ () [] trivial (by simp [q,b3,a7])
  have a0:=a1
  try simp at a0
  iterate 6 (refine wC rfl fun K v=>?_;simp [q,a1,a0];apply v)
  obtain ⟨c3,b6,a6⟩:=bS a6
  refine wL [(.take,.tmp 14),(.take,.tmp 16),(.take,.tmp 17),(.take,.tmp 19)] rfl rfl ent92 (qF _ _ _ _ b6) fun K v=>?_;simp [q,a1,a0];apply v
  iterate 3 (refine wC rfl fun K v=>?_;simp [q,a1,a0];apply v)
  rcases aA a6 with ⟨b0,a6⟩ | ⟨b2,a6⟩
  ·have a4:=b0
   try simp at a4
   iterate 7 (refine wO fun K v=>?_;simp [q,a1,a0,b0,a4];apply v)
   refine wC rfl fun K v=>?_;simp [q,a1,a0,b0,a4];apply v
   refine wN ?_
   cases a6
   exact b5 _ () [] trivial (by simp [q,a1,a0,b0,a4])
  have a8:=b2
  try simp at a8
  iterate 8 (refine wC rfl fun K v=>?_;simp [q,a1,a0,b2,a8];apply v)
  refine wN ?_
  cases a6
  exact b5 _ () [] trivial (by simp [q,a1,a0,b2,a8])
 rcases aA h with ⟨b7,h⟩ | ⟨b8,h⟩
 ·refine O.cT' (by simp) b7 ?_
  refine O.zR y fun K u=>?_
  refine wQ q ?_
  apply wN;apply u
  cases h
  refine O.ret ?_
  simp [aC,iB,res56]
 refine O.cF' (by simp) b8 ?_
 refine O.skip ?_
 obtain ⟨c2,a3,h⟩:=bS h
 refine O.seqRC rfl (y _ rfl) [8] [] (fun _:Unit=>⟨[(8,.t (vb c2))],[]⟩) (fun _=>True) (fun _ _=>?_) fun c4 b4=>?_
 rotate_left
 ·refine wQ q ?_
  iterate 3 refine wQ q ?_
  rcases aA a3 with ⟨b1,a3⟩ | ⟨a9,a3⟩
  ·have a5:=b1
   try simp at a5
   iterate 7 (refine wO fun K v=>?_;simp [q,b1,a5];apply v)
   iterate 2 (refine wC rfl fun K v=>?_;simp [q,b1,a5];apply v)
   refine wN ?_
   cases a3
   exact b4 _ () [] trivial (by simp [q,b1,a5])
  have a2:=a9
  try simp at a2
  iterate 6 (refine wC rfl fun K v=>?_;simp [q,a9,a2];apply v)
  obtain ⟨c5,b9,a3⟩:=bS a3
  refine wL [(.take,.tmp 36),(.take,.tmp 38),(.take,.tmp 39),(.take,.tmp 41)] rfl rfl ent92 (qF _ _ _ _ b9) fun K v=>?_;simp [q,a9,a2];apply v
  iterate 2 (refine wC rfl fun K v=>?_;simp [q,a9,a2];apply v)
  refine wN ?_
  cases a3
  exact b4 _ () [] trivial (by simp [q,a9,a2])
 cases h
 refine O.ret ?_
 simp [aC,iB,res56]
theorem aP3:Tryz.f24.results.toList=[.tmp 4]:=rfl
theorem ent24:aE E.P 24:=eO Tryz.func24 (by simp [Tryz.f24]) rfl
theorem tM (p1:GProgram) (q2:GProgram) {r0:Bool} (h:fP p1 q2=some r0):Ok E 24 [.val (GProgram.enc false p1),.val (GProgram.enc false q2)] [vb r0] []:=by
 refine oB Tryz.func24 rfl (by simp [Tryz.f24]) fun C (q:C.N=34) hP=>?_
 have u:=aK hP
 unfold fP at h
 refine O.zR u fun K w=>?_
 iterate 3 refine wQ q ?_
 apply wN;apply w
 refine O.seq ?_
 refine O.zR u fun K w=>?_
 iterate 7 refine wQ q ?_
 apply wN;apply w
 rcases aA h with ⟨b8,h⟩ | ⟨b9,h⟩
 ·refine O.cT' (by simp) b8 ?_
  refine O.zR u fun K w=>?_
  refine wQ q ?_
  apply wN;apply w
  cases h
  refine O.ret ?_
  simp [aC,iB,aP3]
 refine O.cF' (by simp) b9 ?_
 refine O.skip ?_
 obtain ⟨j7,c0,h⟩:=bS h
 refine O.seqC [] [] (fun v:Unit=>⟨[],[]⟩) (fun v=>j7=Sum.inl v) (fun v hv=>?_) fun K6 c1=>?_
 rotate_left
 ·refine O.zR u fun K w=>?_
  iterate 4 refine wQ q ?_
  apply wN;apply w
  refine O.block ?_
  refine O.loopO [] [2,3,15,16] [2,3] (fun v:Int=>⟨[(2,.ref (.box 2) 0 []),(3,.ref (.box 3) 0 []),(15,.t (vi (p1.Fns.length:Int))),(16,.t (vi v))],[(2,[.sl false 4 (List.map (GNode.enc false) p1.Nodes),.sl false 5 (List.map (GFn.enc false) p1.Fns)]),(3,[.sl false 4 (List.map (GNode.enc false) q2.Nodes),.sl false 5 (List.map (GFn.enc false) q2.Fns)])]⟩) (cH p1 q2) _ 0 c0 (by simp [q]) ?_
  intro g c4 h9 b0
  obtain ⟨v8,hg⟩:∃ y,y=g:=⟨_,rfl⟩
  subst hg
  simp only [cH] at h9
  try dsimp only
  refine O.zR u fun K w=>?_
  refine wQ q ?_
  apply wN;apply w
  refine O.seq ?_
  rcases aA h9 with ⟨b1,h9⟩ | ⟨b2,h9⟩
  ·refine O.cT' (by simp) b1 ?_
   refine O.skip ?_
   refine O.seq ?_
   refine O.block ?_
   refine O.zR u fun K w=>?_
   iterate 2 refine wQ q ?_
   apply wN;apply w
   refine O.seq ?_
   obtain ⟨a8,b3,h9⟩:=bS h9
   obtain ⟨a0,a1,a2,a3⟩:=gS b3
   obtain ⟨a9,b4,h9⟩:=bS h9
   obtain ⟨a4,a5,a6,a7⟩:=gS b4
   refine O.dT rfl (u _ rfl) [(19,.t (GProgram.enc false p1)),(20,.ref (.box 2) 1 []),(21,.t (.sl false 5 (List.map (GFn.enc false) p1.Fns))),(22,.t (vi v8)),(23,.rop [vs a8.Name,.sl false 2 (List.map GParam.enc a8.Params),vi a8.Res,vi a8.Body,vi a8.Ret] 0),(24,.t (GFn.enc false a8)),(25,.t (GProgram.enc false q2)),(26,.ref (.box 3) 1 []),(27,.t (.sl false 5 (List.map (GFn.enc false) q2.Fns))),(28,.t (vi v8)),(29,.rop [vs a9.Name,.sl false 2 (List.map GParam.enc a9.Params),vi a9.Res,vi a9.Body,vi a9.Ret] 0),(30,.t (GFn.enc false a9))] [[],[],[1],[],[1,2,3],[1,2,3,4],[],[],[7],[],[7,8,9],[7,8,9,10],[0,1,2,3,4,5,6,7,8,9,10,11],[0,1,2,3,4,5,6,7,8,9,10,11,12]] (by simp) (by simp) (by simp [look]) rfl rfl rfl ?_ fun K w=>?_
   ·refine ⟨?_,?_,?_,?_,?_,?_,?_,?_,?_,?_,?_,?_,trivial⟩
    all_goals (intro τ hbx hb hd hf K w;try simp [aH] at hd;simp [aH] at hf;first | (refine wC rfl fun K' z=>?_;simp [q,hbx,hb,hd,hf,a0,a1,a2,a3,a4,a5,a6,a7];exact z _ (wN (w _ (by simp [aH,hbx,a0,a1,a2,a3,a4,a5,a6,a7])))))
   obtain ⟨c5,b5,h9⟩:=bS h9
   refine wL [(.take,.tmp 19),(.take,.tmp 24),(.take,.tmp 25),(.take,.tmp 30)] rfl rfl ent56 (aAa _ _ _ _ b5) fun K r=>?_;simp [q,a0,a1,a2,a3,a4,a5,a6,a7];apply r
   refine wC rfl fun K r=>?_;simp [q,a0,a1,a2,a3,a4,a5,a6,a7];apply r
   apply wN;apply w
   rcases aA h9 with ⟨b6,h9⟩ | ⟨b7,h9⟩
   ·refine O.cT' (by simp) b6 ?_
    refine O.zR u fun K w=>?_
    refine wQ q ?_
    apply wN;apply w
    have c2:=congrArg some (b0 _ (Option.some.inj h9).symm)
    cases c2
    try dsimp only at h
    cases h
    refine O.ret ?_
    simp [aC,iB,aP3]
   refine O.cF' (by simp) b7 ?_
   refine O.skip ?_
   refine O.zG u fun K w=>?_
   iterate 2 refine wQ q ?_
   apply wN;apply w
   cases h9
   exact ⟨_,[],rfl,by simp [q]⟩
  refine O.cF' (by simp) b2 ?_
  refine O.exit ?_
  have c3:=congrArg some (b0 _ (Option.some.inj h9).symm)
  cases c3
  exact c1 _ _ [] rfl (by simp [q])
 subst hv
 obtain ⟨⟩:=v
 try dsimp only at h ⊢
 refine O.zR u fun K w=>?_
 refine wQ q ?_
 apply wN;apply w
 cases h
 refine O.ret ?_
 simp [aC,iB,aP3]
theorem res9:Tryz.f9.results.toList=[.tmp 4]:=rfl
theorem ent9:aE E.P 9:=eO Tryz.func9 (by simp [Tryz.f9]) rfl
theorem sL (p1:GProgram) (q2:GProgram) {r0:Bool} (h:fD p1 q2=some r0):Ok E 9 [.val (GProgram.enc false p1),.val (GProgram.enc false q2)] [vb r0] []:=by
 refine oB Tryz.func9 rfl (by simp [Tryz.f9]) fun C (q:C.N=18) hP=>?_
 have y:=aK hP
 unfold fD at h
 refine O.zR y fun K u=>?_
 iterate 3 refine wQ q ?_
 apply wN;apply u
 obtain ⟨b5,a7,h⟩:=bS h
 refine O.seqC [4] [] (fun _:Unit=>⟨[(4,.t (vb b5))],[]⟩) (fun _=>True) (fun _ _=>?_) fun K4 b0=>?_
 rotate_left
 ·obtain ⟨r5,b1,a7⟩:=bS a7
  rcases aA a7 with ⟨a5,a7⟩ | ⟨a8,a7⟩
  ·have a0:=a5
   try simp at a0
   obtain ⟨r9,a9,a7⟩:=bS a7
   rcases aA a7 with ⟨a3,a7⟩ | ⟨a4,a7⟩
   ·have a1:=a3
    try simp at a1
    obtain ⟨b6,b2,a7⟩:=bS a7
    refine O.dT rfl (y _ rfl) [(5,.t (GProgram.enc false p1)),(6,.t (vb r5)),(7,.t (vb r5)),(8,.t (GProgram.enc false q2)),(9,.t (vb r9)),(10,.t (vb r9)),(11,.t (vb r9)),(12,.t (GProgram.enc false p1)),(13,.t (GProgram.enc true b6)),(14,.t (GProgram.enc false q2))] [[],[0],[0,1],[0,1,2],[0,1,2,3],[0,1,2,3,4],[0,1,2,3,4,5],[0,1,2,3,4,5,6],[0,1,2,3,4,5,6,7],[0,1,2,3,4,5,6],[0,1,2,3,4,5,6,7,8,9],[0,1,2,3,4,5,6,7,8,9,10],[0,1,2,3,4,5,6,7,8,9,10,11],[0,1,2,3,4,5,6,7,8,9,10,11,12]] (by simp) (by simp) (by simp [look]) rfl rfl rfl ?_ fun K u=>?_
    ·refine ⟨?_,?_,?_,?_,?_,?_,?_,?_,?_,?_,trivial⟩
     all_goals (intro τ hbx hb hd hf K u;try simp [aH] at hd;simp [aH] at hf;first | (refine wC rfl fun K' v=>?_;simp [q,hbx,hb,hd,hf,a5,a0,a3,a1];exact v _ (wN (u _ (by simp [aH,hbx,a5,a0,a3,a1])))) | (refine wL [(.take,.tmp 5)] rfl rfl aK4 (cR _ b1) fun K' v=>?_;simp [q,hbx,hb,hd,hf,a5,a0,a3,a1];exact v _ (wN (u _ (by simp [aH,hbx,a5,a0,a3,a1])))) | (refine wL [(.take,.tmp 8)] rfl rfl aK4 (cR _ a9) fun K' v=>?_;simp [q,hbx,hb,hd,hf,a5,a0,a3,a1];exact v _ (wN (u _ (by simp [aH,hbx,a5,a0,a3,a1])))) | (refine wL [(.take,.tmp 12)] rfl rfl ent16 (oY _ b2) fun K' v=>?_;simp [q,hbx,hb,hd,hf,a5,a0,a3,a1];exact v _ (wN (u _ (by simp [aH,hbx,a5,a0,a3,a1])))))
    obtain ⟨b7,b3,a7⟩:=bS a7
    refine wL [(.take,.tmp 14)] rfl rfl ent16 (oY _ b3) fun K w=>?_;simp [q,a5,a0,a3,a1];apply w
    obtain ⟨b8,b4,a7⟩:=bS a7
    refine wL [(.bor,.tmp 13),(.bor,.tmp 15)] rfl rfl ent24 (tM _ _ b4) fun K w=>?_;simp [q,a5,a0,a3,a1];apply w
    iterate 2 (refine wC rfl fun K w=>?_;simp [q,a5,a0,a3,a1];apply w)
    apply wN;apply u
    cases a7
    exact b0 _ () [] trivial (by simp [q,a5,a0,a3,a1])
   have a2:=a4
   try simp at a2
   refine O.dT rfl (y _ rfl) [(5,.t (GProgram.enc false p1)),(6,.t (vb r5)),(7,.t (vb r5)),(8,.t (GProgram.enc false q2)),(9,.t (vb r9)),(10,.t (vb r9)),(11,.t (vb r9)),(12,.tup []),(13,.tup []),(14,.tup [])] [[],[0],[0,1],[0,1,2],[0,1,2,3],[0,1,2,3,4],[0,1,2,3,4,5],[0,1,2,3,4,5,6],[0,1,2,3,4,5,6,7],[0,1,2,3,4,5,6],[0,1,2,3,4,5,6,7,8,9],[0,1,2,3,4,5,6,7,8,9,10],[0,1,2,3,4,5,6,7,8,9,10,11],[0,1,2,3,4,5,6,7,8,9,10,11,12]] (by simp) (by simp) (by simp [look]) rfl rfl rfl ?_ fun K u=>?_
   ·refine ⟨?_,?_,?_,?_,?_,?_,?_,?_,?_,?_,trivial⟩
    all_goals (intro τ hbx hb hd hf K u;try simp [aH] at hd;simp [aH] at hf;first | (refine wC rfl fun K' v=>?_;simp [q,hbx,hb,hd,hf,a5,a0,a4,a2];exact v _ (wN (u _ (by simp [aH,hbx,a5,a0,a4,a2])))) | (refine wL [(.take,.tmp 5)] rfl rfl aK4 (cR _ b1) fun K' v=>?_;simp [q,hbx,hb,hd,hf,a5,a0,a4,a2];exact v _ (wN (u _ (by simp [aH,hbx,a5,a0,a4,a2])))) | (refine wL [(.take,.tmp 8)] rfl rfl aK4 (cR _ a9) fun K' v=>?_;simp [q,hbx,hb,hd,hf,a5,a0,a4,a2];exact v _ (wN (u _ (by simp [aH,hbx,a5,a0,a4,a2])))) | (refine wO fun K' v=>?_;simp [q,hbx,hb,hd,hf,a5,a0,a4,a2];exact v _ (wN (u _ (by simp [aH,hbx,a5,a0,a4,a2])))))
   iterate 2 (refine wO fun K w=>?_;simp [q,a5,a0,a4,a2];apply w)
   iterate 2 (refine wC rfl fun K w=>?_;simp [q,a5,a0,a4,a2];apply w)
   apply wN;apply u
   cases a7
   exact b0 _ () [] trivial (by simp [q,a5,a0,a4,a2])
  have a6:=a8
  try simp at a6
  refine O.dT rfl (y _ rfl) [(5,.t (GProgram.enc false p1)),(6,.t (vb r5)),(7,.t (vb r5)),(8,.tup []),(9,.tup []),(10,.t (vb false)),(11,.t (vb false)),(12,.tup []),(13,.tup []),(14,.tup [])] [[],[0],[0,1],[0,1,2],[0,1,2,3],[0,1,2,3,4],[0,1,2,3,4,5],[0,1,2,3,4,5,6],[0,1,2,3,4,5,6,7],[0,1,2,3,4,5,6],[0,1,2,3,4,5,6,7,8,9],[0,1,2,3,4,5,6,7,8,9,10],[0,1,2,3,4,5,6,7,8,9,10,11],[0,1,2,3,4,5,6,7,8,9,10,11,12]] (by simp) (by simp) (by simp [look]) rfl rfl rfl ?_ fun K u=>?_
  ·refine ⟨?_,?_,?_,?_,?_,?_,?_,?_,?_,?_,trivial⟩
   all_goals (intro τ hbx hb hd hf K u;try simp [aH] at hd;simp [aH] at hf;first | (refine wC rfl fun K' v=>?_;simp [q,hbx,hb,hd,hf,a8,a6];exact v _ (wN (u _ (by simp [aH,hbx,a8,a6])))) | (refine wL [(.take,.tmp 5)] rfl rfl aK4 (cR _ b1) fun K' v=>?_;simp [q,hbx,hb,hd,hf,a8,a6];exact v _ (wN (u _ (by simp [aH,hbx,a8,a6])))) | (refine wO fun K' v=>?_;simp [q,hbx,hb,hd,hf,a8,a6];exact v _ (wN (u _ (by simp [aH,hbx,a8,a6])))))
  iterate 2 (refine wO fun K w=>?_;simp [q,a8,a6];apply w)
  iterate 2 (refine wC rfl fun K w=>?_;simp [q,a8,a6];apply w)
  apply wN;apply u
  cases a7
  exact b0 _ () [] trivial (by simp [q,a8,a6])
 cases h
 refine O.ret ?_
 simp [aC,iB,res9]
theorem aOu:Tryz.f93.results.toList=[.tmp 4]:=rfl
theorem ent93:aE E.P 93:=eO Tryz.func93 (by simp [Tryz.f93]) rfl
theorem aBj (a1:List Int) (b2:List Int) {r0:Bool} (h:mV a1 b2=some r0):Ok E 93 [.val (.sl false 1 (List.map vi a1)),.val (.sl false 1 (List.map vi b2))] [vb r0] []:=by
 refine oB Tryz.func93 rfl (by simp [Tryz.f93]) fun C (q:C.N=26) hP=>?_
 have u:=aK hP
 unfold mV at h
 refine O.zR u fun K w=>?_
 refine wQ q ?_
 apply wN;apply w
 refine O.seq ?_
 refine O.zR u fun K w=>?_
 iterate 5 refine wQ q ?_
 apply wN;apply w
 rcases aA h with ⟨b9,h⟩ | ⟨c0,h⟩
 ·refine O.cT' (by simp) b9 ?_
  refine O.zR u fun K w=>?_
  refine wQ q ?_
  apply wN;apply w
  cases h
  refine O.ret ?_
  simp [aC,iB,aOu]
 refine O.cF' (by simp) c0 ?_
 refine O.skip ?_
 obtain ⟨j7,c1,h⟩:=bS h
 refine O.seqC [] [] (fun v:Unit=>⟨[],[]⟩) (fun v=>j7=Sum.inl v) (fun v hv=>?_) fun K6 c2=>?_
 rotate_left
 ·refine O.zR u fun K w=>?_
  refine wQ q ?_
  apply wN;apply w
  refine O.block ?_
  refine O.loopO [] [0,1,5] [] (fun v:Int=>⟨[(0,.t (.sl false 1 (List.map vi a1))),(1,.t (.sl false 1 (List.map vi b2))),(5,.t (vi v))],[]⟩) (gD a1 b2) _ 0 c1 (by simp [q]) ?_
  intro g c5 h9 a9
  obtain ⟨i8,hg⟩:∃ y,y=g:=⟨_,rfl⟩
  subst hg
  simp only [gD] at h9
  try dsimp only
  refine O.seq ?_
  refine O.zR u fun K w=>?_
  iterate 4 refine wQ q ?_
  apply wN;apply w
  rcases aA h9 with ⟨b0,h9⟩ | ⟨b1,h9⟩
  ·refine O.cT' (by simp) b0 ?_
   refine O.skip ?_
   refine O.seq ?_
   refine O.block ?_
   refine O.seq ?_
   obtain ⟨b7,b3,h9⟩:=bS h9
   obtain ⟨a0,a2,a3,a4⟩:=gS b3
   obtain ⟨b8,b4,h9⟩:=bS h9
   obtain ⟨a5,a6,a7,a8⟩:=gS b4
   refine O.dT rfl (u _ rfl) [(17,.t (.sl false 1 (List.map vi a1))),(18,.t (vi i8)),(19,.rop [vi b7] 0),(20,.t (vi b7)),(21,.t (.sl false 1 (List.map vi b2))),(22,.t (vi i8)),(23,.rop [vi b8] 0),(24,.t (vi b8))] [[],[],[0,1],[0,1,2],[],[],[4,5],[4,5,6],[0,1,2,3,4,5,6,7]] (by simp) (by simp) (by simp [look]) rfl rfl rfl ?_ fun K w=>?_
   ·refine ⟨?_,?_,?_,?_,?_,?_,?_,?_,trivial⟩
    all_goals (intro τ hbx hb hd hf K w;try simp [aH] at hd;simp [aH] at hf;first | (refine wC rfl fun K' z=>?_;simp [q,hbx,hb,hd,hf,a0,a2,a3,a4,a5,a6,a7,a8];exact z _ (wN (w _ (by simp [aH,hbx,a0,a2,a3,a4,a5,a6,a7,a8])))))
   refine wC rfl fun K r=>?_;simp [q,a0,a2,a3,a4,a5,a6,a7,a8];apply r
   apply wN;apply w
   rcases aA h9 with ⟨b5,h9⟩ | ⟨b6,h9⟩
   ·refine O.cT' (by simp) b5 ?_
    refine O.zR u fun K w=>?_
    refine wQ q ?_
    apply wN;apply w
    have c3:=congrArg some (a9 _ (Option.some.inj h9).symm)
    cases c3
    try dsimp only at h
    cases h
    refine O.ret ?_
    simp [aC,iB,aOu]
   refine O.cF' (by simp) b6 ?_
   refine O.skip ?_
   refine O.zG u fun K w=>?_
   iterate 3 refine wQ q ?_
   apply wN;apply w
   cases h9
   exact ⟨_,[],rfl,by simp [q]⟩
  refine O.cF' (by simp) b1 ?_
  refine O.exit ?_
  have c4:=congrArg some (a9 _ (Option.some.inj h9).symm)
  cases c4
  exact c2 _ _ [] rfl (by simp [q])
 subst hv
 obtain ⟨⟩:=v
 try dsimp only at h ⊢
 refine O.zR u fun K w=>?_
 refine wQ q ?_
 apply wN;apply w
 cases h
 refine O.ret ?_
 simp [aC,iB,aOu]
theorem aKx:Tryz.f57.results.toList=[.tmp 4]:=rfl
theorem ent57:aE E.P 57:=eO Tryz.func57 (by simp [Tryz.f57]) rfl
theorem aBh (a1:GNode) (b2:GNode) {r0:Bool} (h:mU a1 b2=some r0):Ok E 57 [.val (GNode.enc false a1),.val (GNode.enc false b2)] [vb r0] []:=by
 refine oB Tryz.func57 rfl (by simp [Tryz.f57]) fun C (q:C.N=26) hP=>?_
 have y:=aK hP
 unfold mU at h
 refine O.zR y fun K u=>?_
 iterate 3 refine wQ q ?_
 apply wN;apply u
 refine O.seq ?_
 refine O.zR y fun K u=>?_
 iterate 5 refine wQ q ?_
 apply wN;apply u
 rcases aA h with ⟨a4,h⟩ | ⟨a5,h⟩
 ·refine O.cT' (by simp) a4 ?_
  refine O.zR y fun K u=>?_
  refine wQ q ?_
  apply wN;apply u
  cases h
  refine O.ret ?_
  simp [aC,iB,aKx]
 refine O.cF' (by simp) a5 ?_
 refine O.skip ?_
 refine O.seq ?_
 refine O.zR y fun K u=>?_
 iterate 5 refine wQ q ?_
 apply wN;apply u
 rcases aA h with ⟨a6,h⟩ | ⟨a7,h⟩
 ·refine O.cT' (by simp) a6 ?_
  refine O.zR y fun K u=>?_
  refine wQ q ?_
  apply wN;apply u
  cases h
  refine O.ret ?_
  simp [aC,iB,aKx]
 refine O.cF' (by simp) a7 ?_
 refine O.skip ?_
 refine O.seq ?_
 refine O.zR y fun K u=>?_
 iterate 5 refine wQ q ?_
 apply wN;apply u
 rcases aA h with ⟨a8,h⟩ | ⟨a9,h⟩
 ·refine O.cT' (by simp) a8 ?_
  refine O.zR y fun K u=>?_
  refine wQ q ?_
  apply wN;apply u
  cases h
  refine O.ret ?_
  simp [aC,iB,aKx]
 refine O.cF' (by simp) a9 ?_
 refine O.skip ?_
 refine O.seq ?_
 refine O.zR y fun K u=>?_
 iterate 4 refine wQ q ?_
 obtain ⟨r9,a0,h⟩:=bS h
 refine wL [(.take,.tmp 21),(.take,.tmp 23)] rfl rfl ent93 (aBj _ _ a0) fun K v=>?_;simp [q];apply v
 refine wQ q ?_
 apply wN;apply u
 rcases aA h with ⟨a2,h⟩ | ⟨a3,h⟩
 ·refine O.cT' (by simp) a2 ?_
  refine O.zR y fun K u=>?_
  refine wQ q ?_
  apply wN;apply u
  cases h
  refine O.ret ?_
  simp [aC,iB,aKx]
 refine O.cF' (by simp) a3 ?_
 refine O.skip ?_
 refine O.zR y fun K u=>?_
 refine wQ q ?_
 apply wN;apply u
 cases h
 refine O.ret ?_
 simp [aC,iB,aKx]
theorem aP2:Tryz.f25.results.toList=[.tmp 4]:=rfl
theorem ent25:aE E.P 25:=eO Tryz.func25 (by simp [Tryz.f25]) rfl
theorem aA6 (a1:List GNode) (b2:List GNode) {r0:Bool} (h:lL a1 b2=some r0):Ok E 25 [.val (.sl false 4 (List.map (GNode.enc false) a1)),.val (.sl false 4 (List.map (GNode.enc false) b2))] [vb r0] []:=by
 refine oB Tryz.func25 rfl (by simp [Tryz.f25]) fun C (q:C.N=27) hP=>?_
 have u:=aK hP
 unfold lL at h
 refine O.zR u fun K w=>?_
 refine wQ q ?_
 apply wN;apply w
 refine O.seq ?_
 refine O.zR u fun K w=>?_
 iterate 5 refine wQ q ?_
 apply wN;apply w
 rcases aA h with ⟨c0,h⟩ | ⟨c1,h⟩
 ·refine O.cT' (by simp) c0 ?_
  refine O.zR u fun K w=>?_
  refine wQ q ?_
  apply wN;apply w
  cases h
  refine O.ret ?_
  simp [aC,iB,aP2]
 refine O.cF' (by simp) c1 ?_
 refine O.skip ?_
 obtain ⟨j7,c2,h⟩:=bS h
 refine O.seqC [] [] (fun v:Unit=>⟨[],[]⟩) (fun v=>j7=Sum.inl v) (fun v hv=>?_) fun K6 c3=>?_
 rotate_left
 ·refine O.zR u fun K w=>?_
  refine wQ q ?_
  apply wN;apply w
  refine O.block ?_
  refine O.loopO [] [0,1,5] [] (fun v:Int=>⟨[(0,.t (.sl false 4 (List.map (GNode.enc false) a1))),(1,.t (.sl false 4 (List.map (GNode.enc false) b2))),(5,.t (vi v))],[]⟩) (eZ a1 b2) _ 0 c2 (by simp [q]) ?_
  intro g c6 h9 a9
  obtain ⟨i8,hg⟩:∃ y,y=g:=⟨_,rfl⟩
  subst hg
  simp only [eZ] at h9
  try dsimp only
  refine O.seq ?_
  refine O.zR u fun K w=>?_
  iterate 4 refine wQ q ?_
  apply wN;apply w
  rcases aA h9 with ⟨b3,h9⟩ | ⟨b4,h9⟩
  ·refine O.cT' (by simp) b3 ?_
   refine O.skip ?_
   refine O.seq ?_
   refine O.block ?_
   refine O.seq ?_
   obtain ⟨b0,b5,h9⟩:=bS h9
   obtain ⟨a0,a2,a3,a4⟩:=gS b5
   obtain ⟨b1,b6,h9⟩:=bS h9
   obtain ⟨a5,a6,a7,a8⟩:=gS b6
   refine O.dT rfl (u _ rfl) [(17,.t (.sl false 4 (List.map (GNode.enc false) a1))),(18,.t (vi i8)),(19,.rop [vi b0.Kind,vi b0.Num,vs b0.Name,.sl false 1 (List.map vi b0.Kids)] 0),(20,.t (GNode.enc false b0)),(21,.t (.sl false 4 (List.map (GNode.enc false) b2))),(22,.t (vi i8)),(23,.rop [vi b1.Kind,vi b1.Num,vs b1.Name,.sl false 1 (List.map vi b1.Kids)] 0),(24,.t (GNode.enc false b1))] [[],[],[0,1],[0,1,2],[],[],[4,5],[4,5,6],[0,1,2,3,4,5,6,7],[0,1,2,3,4,5,6,7,8]] (by simp) (by simp) (by simp [look]) rfl rfl rfl ?_ fun K w=>?_
   ·refine ⟨?_,?_,?_,?_,?_,?_,?_,?_,trivial⟩
    all_goals (intro τ hbx hb hd hf K w;try simp [aH] at hd;simp [aH] at hf;first | (refine wC rfl fun K' z=>?_;simp [q,hbx,hb,hd,hf,a0,a2,a3,a4,a5,a6,a7,a8];exact z _ (wN (w _ (by simp [aH,hbx,a0,a2,a3,a4,a5,a6,a7,a8])))))
   obtain ⟨c7,b7,h9⟩:=bS h9
   refine wL [(.take,.tmp 20),(.take,.tmp 24)] rfl rfl ent57 (aBh _ _ b7) fun K r=>?_;simp [q,a0,a2,a3,a4,a5,a6,a7,a8];apply r
   refine wC rfl fun K r=>?_;simp [q,a0,a2,a3,a4,a5,a6,a7,a8];apply r
   apply wN;apply w
   rcases aA h9 with ⟨b8,h9⟩ | ⟨b9,h9⟩
   ·refine O.cT' (by simp) b8 ?_
    refine O.zR u fun K w=>?_
    refine wQ q ?_
    apply wN;apply w
    have c4:=congrArg some (a9 _ (Option.some.inj h9).symm)
    cases c4
    try dsimp only at h
    cases h
    refine O.ret ?_
    simp [aC,iB,aP2]
   refine O.cF' (by simp) b9 ?_
   refine O.skip ?_
   refine O.zG u fun K w=>?_
   iterate 3 refine wQ q ?_
   apply wN;apply w
   cases h9
   exact ⟨_,[],rfl,by simp [q]⟩
  refine O.cF' (by simp) b4 ?_
  refine O.exit ?_
  have c5:=congrArg some (a9 _ (Option.some.inj h9).symm)
  cases c5
  exact c3 _ _ [] rfl (by simp [q])
 subst hv
 obtain ⟨⟩:=v
 try dsimp only at h ⊢
 refine O.zR u fun K w=>?_
 refine wQ q ?_
 apply wN;apply w
 cases h
 refine O.ret ?_
 simp [aC,iB,aP2]
theorem aL3:Tryz.f110.results.toList=[.tmp 4]:=rfl
theorem ent110:aE E.P 110:=eO Tryz.func110 (by simp [Tryz.f110]) rfl
theorem aA4 (a1:GParam) (b2:GParam) {r0:Bool} (h:lK a1 b2=some r0):Ok E 110 [.val (GParam.enc a1),.val (GParam.enc b2)] [vb r0] []:=by
 refine oB Tryz.func110 rfl (by simp [Tryz.f110]) fun C (q:C.N=15) hP=>?_
 have y:=aK hP
 unfold lK at h
 refine O.zR y fun K u=>?_
 iterate 3 refine wQ q ?_
 apply wN;apply u
 refine O.seq ?_
 refine O.zR y fun K u=>?_
 iterate 5 refine wQ q ?_
 apply wN;apply u
 rcases aA h with ⟨a0,h⟩ | ⟨a2,h⟩
 ·refine O.cT' (by simp) a0 ?_
  refine O.zR y fun K u=>?_
  refine wQ q ?_
  apply wN;apply u
  cases h
  refine O.ret ?_
  simp [aC,iB,aL3]
 refine O.cF' (by simp) a2 ?_
 refine O.skip ?_
 refine O.seq ?_
 refine O.zR y fun K u=>?_
 iterate 5 refine wQ q ?_
 apply wN;apply u
 rcases aA h with ⟨a3,h⟩ | ⟨a4,h⟩
 ·refine O.cT' (by simp) a3 ?_
  refine O.zR y fun K u=>?_
  refine wQ q ?_
  apply wN;apply u
  cases h
  refine O.ret ?_
  simp [aC,iB,aL3]
 refine O.cF' (by simp) a4 ?_
 refine O.skip ?_
 refine O.zR y fun K u=>?_
 refine wQ q ?_
 apply wN;apply u
 cases h
 refine O.ret ?_
 simp [aC,iB,aL3]
theorem aOt:Tryz.f94.results.toList=[.tmp 4]:=rfl
theorem ent94:aE E.P 94:=eO Tryz.func94 (by simp [Tryz.f94]) rfl
theorem xJ (a1:List GParam) (b2:List GParam) {r0:Bool} (h:jU a1 b2=some r0):Ok E 94 [.val (.sl false 2 (List.map GParam.enc a1)),.val (.sl false 2 (List.map GParam.enc b2))] [vb r0] []:=by
 refine oB Tryz.func94 rfl (by simp [Tryz.f94]) fun C (q:C.N=27) hP=>?_
 have u:=aK hP
 unfold jU at h
 refine O.zR u fun K w=>?_
 refine wQ q ?_
 apply wN;apply w
 refine O.seq ?_
 refine O.zR u fun K w=>?_
 iterate 5 refine wQ q ?_
 apply wN;apply w
 rcases aA h with ⟨c0,h⟩ | ⟨c1,h⟩
 ·refine O.cT' (by simp) c0 ?_
  refine O.zR u fun K w=>?_
  refine wQ q ?_
  apply wN;apply w
  cases h
  refine O.ret ?_
  simp [aC,iB,aOt]
 refine O.cF' (by simp) c1 ?_
 refine O.skip ?_
 obtain ⟨j7,c2,h⟩:=bS h
 refine O.seqC [] [] (fun v:Unit=>⟨[],[]⟩) (fun v=>j7=Sum.inl v) (fun v hv=>?_) fun K6 c3=>?_
 rotate_left
 ·refine O.zR u fun K w=>?_
  refine wQ q ?_
  apply wN;apply w
  refine O.block ?_
  refine O.loopO [] [0,1,5] [] (fun v:Int=>⟨[(0,.t (.sl false 2 (List.map GParam.enc a1))),(1,.t (.sl false 2 (List.map GParam.enc b2))),(5,.t (vi v))],[]⟩) (eD a1 b2) _ 0 c2 (by simp [q]) ?_
  intro g c6 h9 a9
  obtain ⟨i8,hg⟩:∃ y,y=g:=⟨_,rfl⟩
  subst hg
  simp only [eD] at h9
  try dsimp only
  refine O.seq ?_
  refine O.zR u fun K w=>?_
  iterate 4 refine wQ q ?_
  apply wN;apply w
  rcases aA h9 with ⟨b0,h9⟩ | ⟨b1,h9⟩
  ·refine O.cT' (by simp) b0 ?_
   refine O.skip ?_
   refine O.seq ?_
   refine O.block ?_
   refine O.seq ?_
   obtain ⟨b3,b4,h9⟩:=bS h9
   obtain ⟨a0,a2,a3,a4⟩:=gS b4
   obtain ⟨b5,b6,h9⟩:=bS h9
   obtain ⟨a5,a6,a7,a8⟩:=gS b6
   refine O.dT rfl (u _ rfl) [(17,.t (.sl false 2 (List.map GParam.enc a1))),(18,.t (vi i8)),(19,.rop [vs b3.Name,vi b3.Typ] 0),(20,.t (GParam.enc b3)),(21,.t (.sl false 2 (List.map GParam.enc b2))),(22,.t (vi i8)),(23,.rop [vs b5.Name,vi b5.Typ] 0),(24,.t (GParam.enc b5))] [[],[],[0,1],[0,1,2],[],[],[4,5],[4,5,6],[0,1,2,3,4,5,6,7],[0,1,2,3,4,5,6,7,8]] (by simp) (by simp) (by simp [look]) rfl rfl rfl ?_ fun K w=>?_
   ·refine ⟨?_,?_,?_,?_,?_,?_,?_,?_,trivial⟩
    all_goals (intro τ hbx hb hd hf K w;try simp [aH] at hd;simp [aH] at hf;first | (refine wC rfl fun K' z=>?_;simp [q,hbx,hb,hd,hf,a0,a2,a3,a4,a5,a6,a7,a8];exact z _ (wN (w _ (by simp [aH,hbx,a0,a2,a3,a4,a5,a6,a7,a8])))))
   obtain ⟨c7,b7,h9⟩:=bS h9
   refine wL [(.take,.tmp 20),(.take,.tmp 24)] rfl rfl ent110 (aA4 _ _ b7) fun K r=>?_;simp [q,a0,a2,a3,a4,a5,a6,a7,a8];apply r
   refine wC rfl fun K r=>?_;simp [q,a0,a2,a3,a4,a5,a6,a7,a8];apply r
   apply wN;apply w
   rcases aA h9 with ⟨b8,h9⟩ | ⟨b9,h9⟩
   ·refine O.cT' (by simp) b8 ?_
    refine O.zR u fun K w=>?_
    refine wQ q ?_
    apply wN;apply w
    have c4:=congrArg some (a9 _ (Option.some.inj h9).symm)
    cases c4
    try dsimp only at h
    cases h
    refine O.ret ?_
    simp [aC,iB,aOt]
   refine O.cF' (by simp) b9 ?_
   refine O.skip ?_
   refine O.zG u fun K w=>?_
   iterate 3 refine wQ q ?_
   apply wN;apply w
   cases h9
   exact ⟨_,[],rfl,by simp [q]⟩
  refine O.cF' (by simp) b1 ?_
  refine O.exit ?_
  have c5:=congrArg some (a9 _ (Option.some.inj h9).symm)
  cases c5
  exact c3 _ _ [] rfl (by simp [q])
 subst hv
 obtain ⟨⟩:=v
 try dsimp only at h ⊢
 refine O.zR u fun K w=>?_
 refine wQ q ?_
 apply wN;apply w
 cases h
 refine O.ret ?_
 simp [aC,iB,aOt]
theorem aJd:Tryz.f58.results.toList=[.tmp 4]:=rfl
theorem ent58:aE E.P 58:=eO Tryz.func58 (by simp [Tryz.f58]) rfl
theorem aFg (a1:GFn) (b2:GFn) {r0:Bool} (h:rG a1 b2=some r0):Ok E 58 [.val (GFn.enc false a1),.val (GFn.enc false b2)] [vb r0] []:=by
 refine oB Tryz.func58 rfl (by simp [Tryz.f58]) fun C (q:C.N=31) hP=>?_
 have y:=aK hP
 unfold rG at h
 refine O.zR y fun K u=>?_
 iterate 3 refine wQ q ?_
 apply wN;apply u
 refine O.seq ?_
 refine O.zR y fun K u=>?_
 iterate 5 refine wQ q ?_
 apply wN;apply u
 rcases aA h with ⟨a6,h⟩ | ⟨a7,h⟩
 ·refine O.cT' (by simp) a6 ?_
  refine O.zR y fun K u=>?_
  refine wQ q ?_
  apply wN;apply u
  cases h
  refine O.ret ?_
  simp [aC,iB,aJd]
 refine O.cF' (by simp) a7 ?_
 refine O.skip ?_
 refine O.seq ?_
 refine O.zR y fun K u=>?_
 iterate 4 refine wQ q ?_
 obtain ⟨r5,a8,h⟩:=bS h
 refine wL [(.take,.tmp 11),(.take,.tmp 13)] rfl rfl ent94 (xJ _ _ a8) fun K v=>?_;simp [q];apply v
 refine wQ q ?_
 apply wN;apply u
 rcases aA h with ⟨a9,h⟩ | ⟨b0,h⟩
 ·refine O.cT' (by simp) a9 ?_
  refine O.zR y fun K u=>?_
  refine wQ q ?_
  apply wN;apply u
  cases h
  refine O.ret ?_
  simp [aC,iB,aJd]
 refine O.cF' (by simp) b0 ?_
 refine O.skip ?_
 refine O.seq ?_
 refine O.zR y fun K u=>?_
 iterate 5 refine wQ q ?_
 apply wN;apply u
 rcases aA h with ⟨b1,h⟩ | ⟨a0,h⟩
 ·refine O.cT' (by simp) b1 ?_
  refine O.zR y fun K u=>?_
  refine wQ q ?_
  apply wN;apply u
  cases h
  refine O.ret ?_
  simp [aC,iB,aJd]
 refine O.cF' (by simp) a0 ?_
 refine O.skip ?_
 refine O.seq ?_
 refine O.zR y fun K u=>?_
 iterate 5 refine wQ q ?_
 apply wN;apply u
 rcases aA h with ⟨a2,h⟩ | ⟨a3,h⟩
 ·refine O.cT' (by simp) a2 ?_
  refine O.zR y fun K u=>?_
  refine wQ q ?_
  apply wN;apply u
  cases h
  refine O.ret ?_
  simp [aC,iB,aJd]
 refine O.cF' (by simp) a3 ?_
 refine O.skip ?_
 refine O.seq ?_
 refine O.zR y fun K u=>?_
 iterate 5 refine wQ q ?_
 apply wN;apply u
 rcases aA h with ⟨a4,h⟩ | ⟨a5,h⟩
 ·refine O.cT' (by simp) a4 ?_
  refine O.zR y fun K u=>?_
  refine wQ q ?_
  apply wN;apply u
  cases h
  refine O.ret ?_
  simp [aC,iB,aJd]
 refine O.cF' (by simp) a5 ?_
 refine O.skip ?_
 refine O.zR y fun K u=>?_
 refine wQ q ?_
 apply wN;apply u
 cases h
 refine O.ret ?_
 simp [aC,iB,aJd]
theorem aP1:Tryz.f26.results.toList=[.tmp 4]:=rfl
theorem ent26:aE E.P 26:=eO Tryz.func26 (by simp [Tryz.f26]) rfl
theorem aDn (a1:List GFn) (b2:List GFn) {r0:Bool} (h:oU a1 b2=some r0):Ok E 26 [.val (.sl false 5 (List.map (GFn.enc false) a1)),.val (.sl false 5 (List.map (GFn.enc false) b2))] [vb r0] []:=by
 refine oB Tryz.func26 rfl (by simp [Tryz.f26]) fun C (q:C.N=27) hP=>?_
 have u:=aK hP
 unfold oU at h
 refine O.zR u fun K w=>?_
 refine wQ q ?_
 apply wN;apply w
 refine O.seq ?_
 refine O.zR u fun K w=>?_
 iterate 5 refine wQ q ?_
 apply wN;apply w
 rcases aA h with ⟨c0,h⟩ | ⟨c1,h⟩
 ·refine O.cT' (by simp) c0 ?_
  refine O.zR u fun K w=>?_
  refine wQ q ?_
  apply wN;apply w
  cases h
  refine O.ret ?_
  simp [aC,iB,aP1]
 refine O.cF' (by simp) c1 ?_
 refine O.skip ?_
 obtain ⟨j7,c2,h⟩:=bS h
 refine O.seqC [] [] (fun v:Unit=>⟨[],[]⟩) (fun v=>j7=Sum.inl v) (fun v hv=>?_) fun K6 c3=>?_
 rotate_left
 ·refine O.zR u fun K w=>?_
  refine wQ q ?_
  apply wN;apply w
  refine O.block ?_
  refine O.loopO [] [0,1,5] [] (fun v:Int=>⟨[(0,.t (.sl false 5 (List.map (GFn.enc false) a1))),(1,.t (.sl false 5 (List.map (GFn.enc false) b2))),(5,.t (vi v))],[]⟩) (hO a1 b2) _ 0 c2 (by simp [q]) ?_
  intro g c6 h9 b1
  obtain ⟨i8,hg⟩:∃ y,y=g:=⟨_,rfl⟩
  subst hg
  simp only [hO] at h9
  try dsimp only
  refine O.seq ?_
  refine O.zR u fun K w=>?_
  iterate 4 refine wQ q ?_
  apply wN;apply w
  rcases aA h9 with ⟨b3,h9⟩ | ⟨b4,h9⟩
  ·refine O.cT' (by simp) b3 ?_
   refine O.skip ?_
   refine O.seq ?_
   refine O.block ?_
   refine O.seq ?_
   obtain ⟨a9,b5,h9⟩:=bS h9
   obtain ⟨a0,a2,a3,a4⟩:=gS b5
   obtain ⟨b0,b6,h9⟩:=bS h9
   obtain ⟨a5,a6,a7,a8⟩:=gS b6
   refine O.dT rfl (u _ rfl) [(17,.t (.sl false 5 (List.map (GFn.enc false) a1))),(18,.t (vi i8)),(19,.rop [vs a9.Name,.sl false 2 (List.map GParam.enc a9.Params),vi a9.Res,vi a9.Body,vi a9.Ret] 0),(20,.t (GFn.enc false a9)),(21,.t (.sl false 5 (List.map (GFn.enc false) b2))),(22,.t (vi i8)),(23,.rop [vs b0.Name,.sl false 2 (List.map GParam.enc b0.Params),vi b0.Res,vi b0.Body,vi b0.Ret] 0),(24,.t (GFn.enc false b0))] [[],[],[0,1],[0,1,2],[],[],[4,5],[4,5,6],[0,1,2,3,4,5,6,7],[0,1,2,3,4,5,6,7,8]] (by simp) (by simp) (by simp [look]) rfl rfl rfl ?_ fun K w=>?_
   ·refine ⟨?_,?_,?_,?_,?_,?_,?_,?_,trivial⟩
    all_goals (intro τ hbx hb hd hf K w;try simp [aH] at hd;simp [aH] at hf;first | (refine wC rfl fun K' z=>?_;simp [q,hbx,hb,hd,hf,a0,a2,a3,a4,a5,a6,a7,a8];exact z _ (wN (w _ (by simp [aH,hbx,a0,a2,a3,a4,a5,a6,a7,a8])))))
   obtain ⟨c7,b7,h9⟩:=bS h9
   refine wL [(.take,.tmp 20),(.take,.tmp 24)] rfl rfl ent58 (aFg _ _ b7) fun K r=>?_;simp [q,a0,a2,a3,a4,a5,a6,a7,a8];apply r
   refine wC rfl fun K r=>?_;simp [q,a0,a2,a3,a4,a5,a6,a7,a8];apply r
   apply wN;apply w
   rcases aA h9 with ⟨b8,h9⟩ | ⟨b9,h9⟩
   ·refine O.cT' (by simp) b8 ?_
    refine O.zR u fun K w=>?_
    refine wQ q ?_
    apply wN;apply w
    have c4:=congrArg some (b1 _ (Option.some.inj h9).symm)
    cases c4
    try dsimp only at h
    cases h
    refine O.ret ?_
    simp [aC,iB,aP1]
   refine O.cF' (by simp) b9 ?_
   refine O.skip ?_
   refine O.zG u fun K w=>?_
   iterate 3 refine wQ q ?_
   apply wN;apply w
   cases h9
   exact ⟨_,[],rfl,by simp [q]⟩
  refine O.cF' (by simp) b4 ?_
  refine O.exit ?_
  have c5:=congrArg some (b1 _ (Option.some.inj h9).symm)
  cases c5
  exact c3 _ _ [] rfl (by simp [q])
 subst hv
 obtain ⟨⟩:=v
 try dsimp only at h ⊢
 refine O.zR u fun K w=>?_
 refine wQ q ?_
 apply wN;apply w
 cases h
 refine O.ret ?_
 simp [aC,iB,aP1]
theorem aP7:Tryz.f10.results.toList=[.tmp 4]:=rfl
theorem ent10:aE E.P 10:=eO Tryz.func10 (by simp [Tryz.f10]) rfl
theorem oT (a1:GProgram) (b2:GProgram) {r0:Bool} (h:gC a1 b2=some r0):Ok E 10 [.val (GProgram.enc false a1),.val (GProgram.enc false b2)] [vb r0] []:=by
 refine oB Tryz.func10 rfl (by simp [Tryz.f10]) fun C (q:C.N=17) hP=>?_
 have y:=aK hP
 unfold gC at h
 refine O.zR y fun K u=>?_
 iterate 3 refine wQ q ?_
 apply wN;apply u
 refine O.seq ?_
 refine O.zR y fun K u=>?_
 iterate 4 refine wQ q ?_
 obtain ⟨r3,a2,h⟩:=bS h
 refine wL [(.take,.tmp 6),(.take,.tmp 8)] rfl rfl ent25 (aA6 _ _ a2) fun K v=>?_;simp [q];apply v
 refine wQ q ?_
 apply wN;apply u
 rcases aA h with ⟨a3,h⟩ | ⟨a4,h⟩
 ·refine O.cT' (by simp) a3 ?_
  refine O.zR y fun K u=>?_
  refine wQ q ?_
  apply wN;apply u
  cases h
  refine O.ret ?_
  simp [aC,iB,aP7]
 refine O.cF' (by simp) a4 ?_
 refine O.skip ?_
 refine O.seq ?_
 refine O.zR y fun K u=>?_
 iterate 4 refine wQ q ?_
 obtain ⟨r7,a5,h⟩:=bS h
 refine wL [(.take,.tmp 12),(.take,.tmp 14)] rfl rfl ent26 (aDn _ _ a5) fun K v=>?_;simp [q];apply v
 refine wQ q ?_
 apply wN;apply u
 rcases aA h with ⟨a6,h⟩ | ⟨a0,h⟩
 ·refine O.cT' (by simp) a6 ?_
  refine O.zR y fun K u=>?_
  refine wQ q ?_
  apply wN;apply u
  cases h
  refine O.ret ?_
  simp [aC,iB,aP7]
 refine O.cF' (by simp) a0 ?_
 refine O.skip ?_
 refine O.zR y fun K u=>?_
 refine wQ q ?_
 apply wN;apply u
 cases h
 refine O.ret ?_
 simp [aC,iB,aP7]
theorem res3:Tryz.f3.results.toList=[.tmp 4]:=rfl
theorem mW (a0:GProgram) (a1:GProgram) {r0:Bool} (h:cQ a0 a1=some r0):Ok E 3 [.val (GProgram.enc false a0),.val (GProgram.enc false a1)] [vb r0] []:=by
 refine oB Tryz.func3 rfl (by simp [Tryz.f3]) fun C (q:C.N=45) hP=>?_
 have y:=aK hP
 unfold cQ at h
 refine O.zR y fun K u=>?_
 iterate 3 refine wQ q ?_
 apply wN;apply u
 refine O.zR y fun K u=>?_
 refine wQ q ?_
 apply wN;apply u
 refine O.zR y fun K u=>?_
 iterate 2 refine wQ q ?_
 obtain ⟨r3,b9,h⟩:=bS h
 refine wL [(.take,.tmp 10),(.take,.tmp 11)] rfl rfl ent6 (oR _ _ b9) fun K w=>?_;simp [q];apply w
 refine wQ q ?_
 apply wN;apply u
 refine O.seq ?_
 refine O.zR y fun K u=>?_
 iterate 2 refine wQ q ?_
 apply wN;apply u
 rcases aA h with ⟨c0,h⟩ | ⟨c1,h⟩
 ·refine O.cT' (by simp) c0 ?_
  refine O.zR y fun K u=>?_
  refine wQ q ?_
  apply wN;apply u
  cases h
  refine O.ret ?_
  simp [aC,iB,res3]
 refine O.cF' (by simp) c1 ?_
 refine O.skip ?_
 refine O.zR y fun K u=>?_
 iterate 2 refine wQ q ?_
 obtain ⟨r7,c2,h⟩:=bS h
 refine wL [(.take,.tmp 15),(.take,.tmp 16)] rfl rfl ent6 (oR _ _ c2) fun K w=>?_;simp [q];apply w
 refine wQ q ?_
 apply wN;apply u
 refine O.seq ?_
 refine O.zR y fun K u=>?_
 iterate 2 refine wQ q ?_
 apply wN;apply u
 rcases aA h with ⟨c3,h⟩ | ⟨a2,h⟩
 ·refine O.cT' (by simp) c3 ?_
  refine O.zR y fun K u=>?_
  refine wQ q ?_
  apply wN;apply u
  cases h
  refine O.ret ?_
  simp [aC,iB,res3]
 refine O.cF' (by simp) a2 ?_
 refine O.skip ?_
 refine O.seq ?_
 obtain ⟨c4,a3,h⟩:=bS h
 refine O.dT rfl (y _ rfl) [(20,.t (GProgram.enc false a0)),(21,.t (GProgram.enc true c4)),(22,.t (GProgram.enc false a1))] [[],[0],[],[0,1,2],[0,1,2,3],[0,1,2,3,4]] (by simp) (by simp) (by simp [look]) rfl rfl rfl ?_ fun K u=>?_
 ·refine ⟨?_,?_,?_,trivial⟩
  all_goals (intro τ hbx hb hd hf K u;try simp [aH] at hd;simp [aH] at hf;first | (refine wC rfl fun K' v=>?_;simp [q,hbx,hb,hd,hf];exact v _ (wN (u _ (by simp [aH,hbx])))) | (refine wL [(.take,.tmp 20)] rfl rfl ent8 (dI _ a3) fun K' v=>?_;simp [q,hbx,hb,hd,hf];exact v _ (wN (u _ (by simp [aH,hbx])))))
 obtain ⟨c7,a4,h⟩:=bS h
 refine wL [(.take,.tmp 22)] rfl rfl ent8 (dI _ a4) fun K w=>?_;simp [q];apply w
 obtain ⟨c8,a5,h⟩:=bS h
 refine wL [(.bor,.tmp 21),(.bor,.tmp 23)] rfl rfl ent7 (sI _ _ a5) fun K w=>?_;simp [q];apply w
 refine wQ q ?_
 apply wN;apply u
 refine O.zR y fun K u=>?_
 refine wQ q ?_
 obtain ⟨c9,a6,h⟩:=bS h
 refine wL [(.take,.tmp 25)] rfl rfl ent8 (dI _ a6) fun K w=>?_;simp [q];apply w
 iterate 2 refine wQ q ?_
 apply wN;apply u
 refine O.zR y fun K u=>?_
 refine wQ q ?_
 obtain ⟨d0,a7,h⟩:=bS h
 refine wL [(.take,.tmp 27)] rfl rfl ent8 (dI _ a7) fun K w=>?_;simp [q];apply w
 iterate 2 refine wQ q ?_
 apply wN;apply u
 refine O.zR y fun K u=>?_
 iterate 2 refine wQ q ?_
 obtain ⟨d1,a8,h⟩:=bS h
 refine wL [(.bor,.tmp 29),(.bor,.tmp 30)] rfl rfl ent9 (sL _ _ a8) fun K w=>?_;simp [q];apply w
 refine wQ q ?_
 apply wN;apply u
 refine O.seq ?_
 refine O.zR y fun K u=>?_
 iterate 3 refine wQ q ?_
 apply wN;apply u
 rcases aA h with ⟨a9,h⟩ | ⟨b0,h⟩
 ·refine O.cT' (by simp) a9 ?_
  refine O.zR y fun K u=>?_
  refine wQ q ?_
  apply wN;apply u
  cases h
  refine O.ret ?_
  simp [aC,iB,res3]
 refine O.cF' (by simp) b0 ?_
 refine O.skip ?_
 refine O.seq ?_
 refine O.seq ?_
 obtain ⟨c5,b1,h⟩:=bS h
 refine O.dT rfl (y _ rfl) [(35,.al (.box 7) 0 [] (some 2)),(36,.t (GProgram.enc false a0)),(37,.t (GProgram.enc true c5))] [[],[],[1],[0,1,2],[0,1,2,3]] (by simp) (by simp) (by simp [look]) rfl rfl rfl ?_ fun K u=>?_
 ·refine ⟨?_,?_,?_,trivial⟩
  all_goals (intro τ hbx hb hd hf K u;try simp [aH] at hd;simp [aH] at hf;first | (refine wC rfl fun K' v=>?_;simp [q,hbx,hb,hd,hf];exact v _ (wN (u _ (by simp [aH,hbx])))) | (refine wL [(.take,.tmp 36)] rfl rfl ent8 (dI _ b1) fun K' v=>?_;simp [q,hbx,hb,hd,hf];exact v _ (wN (u _ (by simp [aH,hbx])))))
 obtain ⟨d2,b2,h⟩:=bS h
 refine wL [(.bor,.tmp 35),(.bor,.tmp 37)] rfl rfl ent10 (oT _ _ b2) fun K w=>?_;simp [q];apply w
 refine wQ q ?_
 apply wN;apply u
 rcases aA h with ⟨b3,h⟩ | ⟨b4,h⟩
 ·refine O.cT' (by simp) b3 ?_
  refine O.zR y fun K u=>?_
  refine wQ q ?_
  apply wN;apply u
  cases h
  refine O.ret ?_
  simp [aC,iB,res3]
 refine O.cF' (by simp) b4 ?_
 refine O.skip ?_
 refine O.seq ?_
 refine O.seq ?_
 obtain ⟨c6,b5,h⟩:=bS h
 refine O.dT rfl (y _ rfl) [(40,.al (.box 8) 0 [] (some 2)),(41,.t (GProgram.enc false a1)),(42,.t (GProgram.enc true c6))] [[],[],[1],[0,1,2],[0,1,2,3]] (by simp) (by simp) (by simp [look]) rfl rfl rfl ?_ fun K u=>?_
 ·refine ⟨?_,?_,?_,trivial⟩
  all_goals (intro τ hbx hb hd hf K u;try simp [aH] at hd;simp [aH] at hf;first | (refine wC rfl fun K' v=>?_;simp [q,hbx,hb,hd,hf];exact v _ (wN (u _ (by simp [aH,hbx])))) | (refine wL [(.take,.tmp 41)] rfl rfl ent8 (dI _ b5) fun K' v=>?_;simp [q,hbx,hb,hd,hf];exact v _ (wN (u _ (by simp [aH,hbx])))))
 obtain ⟨d3,b6,h⟩:=bS h
 refine wL [(.bor,.tmp 40),(.bor,.tmp 42)] rfl rfl ent10 (oT _ _ b6) fun K w=>?_;simp [q];apply w
 refine wQ q ?_
 apply wN;apply u
 rcases aA h with ⟨b7,h⟩ | ⟨b8,h⟩
 ·refine O.cT' (by simp) b7 ?_
  refine O.zR y fun K u=>?_
  refine wQ q ?_
  apply wN;apply u
  cases h
  refine O.ret ?_
  simp [aC,iB,res3]
 refine O.cF' (by simp) b8 ?_
 refine O.skip ?_
 refine O.zR y fun K u=>?_
 refine wQ q ?_
 apply wN;apply u
 cases h
 refine O.ret ?_
 simp [aC,iB,res3]
end Go.Proofs.T
namespace Go.OM
theorem w64 {n:Int} (h1 : -9223372036854775808 ≤ n) (h2:n ≤ 9223372036854775807):IntKind.wrap .i64 n=n:=wrap64 h1 h2
theorem gL {k n:Nat} (hk:k < n) (hn:n ≤ maxLen):IntKind.wrap .i64 ((k:Int) + 1)=((k + 1:Nat):Int):=by
 have hn':n ≤ 9223372036854775807:=hn
 rw [w64 (by omega) (by omega)];omega
@[simp] theorem aE1 {α:Type} (l:List α) (k:Nat):aM l (k:Int)=l[k]?:=by simp [aM]
theorem aD {α:Type} {l:List α} {k:Nat} (hk:k < l.length):aM l (k:Int)=some l[k]:=by simp [hk]
theorem aLl {α:Type} (l:List α):aM l 0=l[0]?:=by simp [aM]
theorem zJ (x y : ByteArray) : sEq x y = decide (x = y) := by
  unfold sEq
  have hxy : x.toList = y.toList ↔ x = y := by
    constructor
    · intro h
      have hx : ∀ z : ByteArray, z.toList = z.data.toList := by
        intro z
        have loop : ∀ (n i : Nat) (r : List UInt8), z.size - i = n → ByteArray.toList.loop z i r = r.reverse ++ z.data.toList.drop i := by
          intro n
          induction n with
          | zero =>
            intro i r hn
            unfold ByteArray.toList.loop
            rw [if_neg (by omega), List.drop_eq_nil_of_le (by have : z.data.toList.length = z.size := Array.length_toList
                                                              omega)]
            simp
          | succ n ih =>
            intro i r hn
            unfold ByteArray.toList.loop
            rw [if_pos (by omega), ih (i + 1) _ (by omega)]
            have hlt : i < z.data.toList.length := by have : z.data.toList.length = z.size := Array.length_toList
                                                      omega
            rw [List.drop_eq_getElem_cons hlt]
            have hz : i < z.size := by omega
            simp [ByteArray.get!, Array.getElem!_eq_getD, Array.getD, hz]
        unfold ByteArray.toList
        rw [loop _ 0 [] rfl]; simp
      rw [hx, hx] at h
      cases x; cases y
      simp only [ByteArray.mk.injEq]
      exact Array.toList_inj.1 h
    · intro h; rw [h]
  by_cases h : x = y
  · simp [h]
  · have : ¬ (x.toList = y.toList) := fun e => h (hxy.1 e)
    simp [h, this]
theorem aB {k n:Nat} (h:k < n):decide ((k:Int) < (n:Int))=true:=by simpa using h
theorem aGh {α:Type} (ok:α→Prop) (a:List α) (f:Int × Int→Option ((Int × Int) ⊕ (Int ⊕ Int))) (B:Int)
  (hf:∀ (m:Int) (k:Nat) (h0:0 ≤ m) (h1:m ≤ B) (hk:k < a.length),∃ r,r ≤ m∧(0 ≤ r→ok a[k])∧f (m,k)=some (if r < 0 then .inr (.inr (-1)) else .inl (r,((k + 1:Nat):Int))))
  (he:∀ m,f (m,a.length)=some (.inr (.inl m))) (n:Int) (h0:0 ≤ n) (h1:n ≤ B) :
  ∃ j,aG f (n,0)=some j∧(j = .inr (-1) ∨ ∃ m,j = .inl m∧0 ≤ m∧m ≤ n∧∀ x ∈ a,ok x):=by
 refine dQ (f:=f) (fun s:Int × Int=>∃ k:Nat,s.2=k∧k ≤ a.length∧0 ≤ s.1∧s.1 ≤ n∧∀ (j:Nat) (h:j < a.length),j < k→ok a[j]) (fun s=>a.length - s.2.toNat) _ ?_ (n,0) ⟨0,rfl,by omega,h0,by simp,fun j _ h=>by omega⟩
 rintro ⟨m,i⟩ ⟨k,hi,hk,h2,h3,h4⟩
 simp only at hi h2 h3
 subst hi
 by_cases hlt:k < a.length
 ·obtain ⟨r,r1,r2,r3⟩:=hf m k h2 (by omega) hlt
  rw [r3]
  by_cases hr:r < 0
  ·right
   rw [if_pos hr]
   exact ⟨_,rfl,.inl rfl⟩
  left
  rw [if_neg hr]
  refine ⟨_,rfl,⟨k + 1,rfl,by omega,by simp only;omega,by simp only;omega,fun j h hj=>?_⟩,?_⟩
  ·by_cases e:j=k
   ·subst e;exact r2 (by omega)
   exact h4 j h (by omega)
  simp only [Int.toNat_natCast];omega
 right
 have hke:k=a.length:=by omega
 subst hke
 rw [he]
 refine ⟨_,rfl,.inr ⟨m,rfl,h2,h3,fun x hx=>?_⟩⟩
 obtain ⟨j,hj,rfl⟩:=List.mem_iff_getElem.1 hx
 exact h4 j hj hj
theorem aCu {α:Type} (a:List α) (z:α) (f:List α × Int→Option ((List α × Int) ⊕ List α))
  (hf:∀ (out:List α) (k:Nat) (hk:k < a.length),out.length=a.length→f (out,k)=some (.inl (out.set k a[k],((k + 1:Nat):Int))))
  (he:∀ out,f (out,a.length)=some (.inr out)):aG f (List.replicate a.length z,0)=some a:=by
 obtain ⟨r,h1,h2⟩:=dQ (fun s:List α × Int=>∃ k:Nat,s.2=k∧k ≤ a.length∧s.1.length=a.length∧∀ j,j < k→s.1[j]? = a[j]?) (fun s=>a.length - s.2.toNat) (fun r=>r=a) (f:=f) (by
  rintro ⟨out,i⟩ ⟨k,hi,hk,h2,h3⟩
  simp only at hi h2 h3
  subst hi
  by_cases hlt:k < a.length
  ·left
   rw [hf out k hlt h2]
   refine ⟨_,rfl,⟨k + 1,rfl,by omega,by simpa using h2,fun j hj=>?_⟩,by simp only [Int.toNat_natCast];omega⟩
   simp only [List.getElem?_set]
   by_cases e:k=j
   ·subst e;simp [h2,hlt]
   rw [if_neg e];exact h3 j (by omega)
  right
  have hke:k=a.length:=by omega
  subst hke
  rw [he]
  refine ⟨_,rfl,?_⟩
  apply List.ext_getElem?
  intro j
  by_cases hj:j < a.length
  ·exact h3 j hj
  rw [List.getElem?_eq_none (by omega),List.getElem?_eq_none (by omega)]) (List.replicate a.length z,0) ⟨0,rfl,by omega,by simp,fun j h=>by omega⟩
 rw [h1,h2]
theorem aE8 {α:Type} (a b:List α) (p:α→α→Bool) (hp:∀ x ∈ a,∀ y,y ∈ b→(p x y=true ↔ x=y)) (hlen:a.length=b.length) (f:Int→Option (Int ⊕ (Unit ⊕ Bool)))
  (hf:∀ (k:Nat) (hk:k < a.length) (hk2:k < b.length),f k=some (if p a[k] b[k]=true then .inl ((k + 1:Nat):Int) else .inr (.inr false)))
  (he:f a.length=some (.inr (.inl ()))):(a=b→aG f 0=some (.inl ()))∧(a ≠ b→aG f 0=some (.inr false)):=by
 obtain ⟨r,h1,h2⟩:=dQ (fun i:Int=>∃ k:Nat,i=k∧k ≤ a.length∧∀ j,j < k→a[j]? = b[j]?) (fun i=>a.length - i.toNat) (fun r=>(r = .inl ()∧a=b) ∨ (r = .inr false∧a ≠ b)) (f:=f) (by
  rintro i ⟨k,rfl,hk,h3⟩
  by_cases hlt:k < a.length
  ·have hlt2:k < b.length:=by omega
   rw [hf k hlt hlt2]
   by_cases hpk:p a[k] b[k]=true
   ·left
    rw [if_pos hpk]
    refine ⟨_,rfl,⟨k + 1,rfl,by omega,fun j hj=>?_⟩,by simp only [Int.toNat_natCast];omega⟩
    by_cases e:j=k
    ·subst e
     rw [List.getElem?_eq_getElem hlt,List.getElem?_eq_getElem hlt2,(hp _ (List.getElem_mem hlt) _ (List.getElem_mem hlt2)).1 hpk]
    exact h3 j (by omega)
   right
   rw [if_neg hpk]
   refine ⟨_,rfl,.inr ⟨rfl,fun e=>hpk ?_⟩⟩
   subst e
   exact (hp _ (List.getElem_mem hlt) _ (List.getElem_mem hlt)).2 rfl
  right
  have hke:k=a.length:=by omega
  subst hke
  rw [he]
  refine ⟨_,rfl,.inl ⟨rfl,?_⟩⟩
  apply List.ext_getElem?
  intro j
  by_cases hj:j < a.length
  ·exact h3 j hj
  rw [List.getElem?_eq_none (by omega),List.getElem?_eq_none (by omega)]) 0 ⟨0,rfl,by omega,fun j h=>by omega⟩
 rcases h2 with ⟨e,hab⟩ | ⟨e,hab⟩
 ·exact ⟨fun _=>by rw [h1,e],fun h=>absurd hab h⟩
 exact ⟨fun h=>absurd h hab,fun _=>by rw [h1,e]⟩
theorem tK {α:Type} (b:Int) (n:Nat) (z:α) (h1:b * n ≤ 140737488355328) (h2:(n:Int) ≤ 140737488355328):mkI b (n:Int) z=some (List.replicate n z):=by
 unfold mkI
 rw [if_pos ⟨by omega,h1,h2⟩]
 simp
theorem bV {α β:Type} (x:α) (f:α→β):oF x f=f x:=rfl
end Go.OM
namespace Go.OM
theorem jR {α ρ:Type} {f:α→Option (α ⊕ ρ)} {a:α} {r:ρ} (h:f a=some (.inr r)):aG f a=some r:=by rw [aDe,h];rfl
theorem qZ {α ρ:Type} {f:α→Option (α ⊕ ρ)} {a b:α} (h:f a=some (.inl b)):aG f a=aG f b:=by rw [aDe,h];rfl
theorem vW {α ρ:Type} (l:List α) (q:α→Option ρ) (f:Int→Option (Int ⊕ (Unit ⊕ ρ)))
  (hf:∀ (k:Nat) (h:k < l.length),f k=some (match q l[k] with | none=>.inl ((k + 1:Nat):Int) | some r=>.inr (.inr r)))
  (he:f l.length=some (.inr (.inl ()))):aG f 0=some (match l.findSome? q with | some r=>.inr r | none=>.inl ()):=by
 have key:∀ (n k:Nat),n=l.length - k→k ≤ l.length→aG f k=some (match (l.drop k).findSome? q with | some r=>.inr r | none=>.inl ()):=by
  intro n
  induction n with
  | zero =>
   intro k hn hk
   have:k=l.length:=by omega
   subst this
   rw [jR he,List.drop_length];rfl
  | succ n ih =>
   intro k hn hk
   have hlt:k < l.length:=by omega
   rw [List.drop_eq_getElem_cons hlt,List.findSome?_cons]
   cases hq:q l[k] with
   | none =>
    have h1:=hf k hlt
    rw [hq] at h1
    rw [qZ h1]
    exact ih (k + 1) (by omega) (by omega)
   | some r =>
    have h1:=hf k hlt
    rw [hq] at h1
    rw [jR h1]
 have:=key l.length 0 (by omega) (by omega)
 simpa using this
theorem aNp {α:Type} (l:List α) (p:α→Bool) (b:Bool):l.findSome? (fun x=>if p x=true then none else some b)=if l.all p=true then none else some b:=by
 induction l with
 | nil=>rfl
 | cons x l ih =>
  rw [List.findSome?_cons,List.all_cons]
  cases hp:p x<;>simp [ih]
theorem aNo {α:Type} (l:List α) (p:α→Bool) (b:Bool):l.findSome? (fun x=>if p x=true then some b else none)=if l.any p=true then some b else none:=by
 induction l with
 | nil=>rfl
 | cons x l ih =>
  rw [List.findSome?_cons,List.any_cons]
  cases hp:p x<;>simp [ih]
theorem rA {α:Type} (l:List α) (p:α→Bool) (f:Int→Option (Int ⊕ (Unit ⊕ Bool)))
  (hf:∀ (k:Nat) (h:k < l.length),f k=some (if p l[k]=true then .inl ((k + 1:Nat):Int) else .inr (.inr false)))
  (he:f l.length=some (.inr (.inl ()))):aG f 0=some (if l.all p=true then .inl () else .inr false):=by
 rw [vW l (fun x=>if p x=true then none else some false) f (fun k h=>by rw [hf k h];cases p l[k]<;>rfl) he,aNp]
 cases l.all p<;>rfl
theorem uJ {α:Type} (l:List α) (p:α→Bool) (f:Int→Option (Int ⊕ (Unit ⊕ Bool)))
  (hf:∀ (k:Nat) (h:k < l.length),f k=some (if p l[k]=true then .inr (.inr true) else .inl ((k + 1:Nat):Int)))
  (he:f l.length=some (.inr (.inl ()))):aG f 0=some (if l.any p=true then .inr true else .inl ()):=by
 rw [vW l (fun x=>if p x=true then some true else none) f (fun k h=>by rw [hf k h];cases p l[k]<;>rfl) he,aNo]
 cases l.any p<;>rfl
def aBv {α σ ρ:Type} (g:σ→α→σ ⊕ ρ) (fin:σ→ρ):List α→σ→ρ
 | [],s=>fin s
 | x :: l,s=>match g s x with
  | .inl s'=>aBv g fin l s'
  | .inr r=>r
theorem aT {α σ τ ρ:Type} (l:List α) (mk:σ→Nat→τ) (I:Nat→σ→Prop) (g:σ→α→σ ⊕ ρ) (fin:σ→ρ) (f:τ→Option (τ ⊕ ρ))
  (hf:∀ (s:σ) (k:Nat) (h:k < l.length),I k s→(∃ s',g s l[k] = .inl s'∧f (mk s k)=some (.inl (mk s' (k + 1)))∧I (k + 1) s') ∨ ∃ r,g s l[k] = .inr r∧f (mk s k)=some (.inr r))
  (he:∀ s,I l.length s→f (mk s l.length)=some (.inr (fin s))) (s:σ) (h0:I 0 s):aG f (mk s 0)=some (aBv g fin l s):=by
 have key:∀ (n k:Nat) (s:σ),n=l.length - k→k ≤ l.length→I k s→aG f (mk s k)=some (aBv g fin (l.drop k) s):=by
  intro n
  induction n with
  | zero =>
   intro k s hn hk hI
   have:k=l.length:=by omega
   subst this
   rw [jR (he s hI),List.drop_length];rfl
  | succ n ih =>
   intro k s hn hk hI
   have hlt:k < l.length:=by omega
   rw [List.drop_eq_getElem_cons hlt]
   rcases hf s k hlt hI with ⟨s',h1,h2,h3⟩ | ⟨r,h1,h2⟩
   ·rw [qZ h2,ih (k + 1) s' (by omega) (by omega) h3]
    simp only [aBv,h1]
   rw [jR h2]
   simp only [aBv,h1]
 have:=key l.length 0 s (by omega) (by omega) h0
 simpa using this
end Go.OM
set_option maxHeartbeats 1000000
namespace Go.OM
def GNode.le (n:Nat) (a:GNode):Prop:=(a.Name.size ≤ n)∧(a.Kids.length ≤ n)
theorem GNode.ext' (a b:GNode):a=b ↔ a.Kind=b.Kind∧a.Num=b.Num∧a.Name=b.Name∧a.Kids=b.Kids:=by cases a;cases b;simp
def GParam.le (n:Nat) (a:GParam):Prop:=(a.Name.size ≤ n)
theorem GParam.ext' (a b:GParam):a=b ↔ a.Name=b.Name∧a.Typ=b.Typ:=by cases a;cases b;simp
def GFn.le (n:Nat) (a:GFn):Prop:=(a.Name.size ≤ n)∧(a.Params.length ≤ n∧∀ x ∈ a.Params,GParam.le n x)
theorem GFn.ext' (a b:GFn):a=b ↔ a.Name=b.Name∧a.Params=b.Params∧a.Res=b.Res∧a.Body=b.Body∧a.Ret=b.Ret:=by cases a;cases b;simp
def GProgram.le (n:Nat) (a:GProgram):Prop:=(a.Nodes.length ≤ n∧∀ x ∈ a.Nodes,GNode.le n x)∧(a.Fns.length ≤ n∧∀ x ∈ a.Fns,GFn.le n x)
theorem GProgram.ext' (a b:GProgram):a=b ↔ a.Nodes=b.Nodes∧a.Fns=b.Fns:=by cases a;cases b;simp
def GVar.le (n:Nat) (a:GVar):Prop:=(a.Name.size ≤ n)
theorem GVar.ext' (a b:GVar):a=b ↔ a.Name=b.Name∧a.Typ=b.Typ∧a.Node=b.Node:=by cases a;cases b;simp
def Gl07Seen.le (n:Nat) (a:Gl07Seen):Prop:=(GProgram.le n a.p)∧(a.there.length ≤ n∧∀ x ∈ a.there,x.size ≤ n)
theorem Gl07Seen.ext' (a b:Gl07Seen):a=b ↔ a.p=b.p∧a.fn=b.fn∧a.there=b.there∧a.bad=b.bad:=by cases a;cases b;simp
theorem aDj (a:List Int) (hw:a.length ≤ maxLen) (n:Int) (h0:0 ≤ n) (h1:n ≤ 1048576):∃ r,mT a n=some r∧r ≤ n∧(0 ≤ r→a.length ≤ 1048576):=by
 have hw':a.length ≤ 9223372036854775807:=hw
 unfold mT
 rw [w64 (by omega) (by omega)]
 split
 ·exact ⟨_,rfl,by omega,fun h=>by omega⟩
 rename_i h;simp only [decide_eq_true_eq] at h;exact ⟨_,rfl,by omega,fun h=>by omega⟩
theorem aDg (a:List Int) (h:a.length ≤ 1048576):mQ a=some a:=by
 have hl:a.length ≤ 1048576:=h
 unfold mQ
 rw [tK _ _ _ (by omega) (by omega)]
 simp only [Option.bind_some]
 rw [aCu a _ (gA a) (fun out k hk ho=>?_) (fun out=>by simp [gA])]
 ·rfl
 simp only [gA,aB hk,if_true,aD hk,Option.bind_some,aD (show k < out.length by omega),bV,Int.toNat_natCast,gL hk (show a.length ≤ maxLen by show _ ≤ 9223372036854775807;omega)]
theorem aDm (a b:List Int) (ha:a.length ≤ 1048576) (hb:b.length ≤ 1048576):mV a b=some (decide (a=b)):=by
 have hl:a.length ≤ 1048576:=ha
 unfold mV
 by_cases hlen:a.length=b.length
 ·have hlen':((a.length:Int) != (b.length:Int))=false:=by simp [hlen]
  simp only [hlen',Bool.false_eq_true,if_false]
  have key:=aE8 a b (fun x y=>!(x != y)) (fun x _ y _=>by simp) hlen (gD a b) (fun k hk hk2=>?_) (by simp [gD])
  ·by_cases e:a=b
   ·rw [key.1 e];simp [e]
   rw [key.2 e];simp [e]
  simp only [gD,aB hk,if_true,aD hk,aD hk2,Option.bind_some,gL hk (show a.length ≤ maxLen by show _ ≤ 9223372036854775807;omega)]
  try (by_cases e:a[k]=b[k]<;>simp [e])
 have hlen':((a.length:Int) != (b.length:Int))=true:=by simp;omega
 have hne:a ≠ b:=fun e=>hlen (by rw [e])
 simp [hlen',hne]
theorem aDi (a:GNode) (hw:GNode.le maxLen a) (n:Int) (h0:0 ≤ n) (h1:n ≤ 1048576):∃ r,mR a n=some r∧r ≤ n∧(0 ≤ r→GNode.le 1048576 a):=by
 obtain ⟨hw0,hw1⟩:=hw
 unfold mR
 have hs0:a.Name.size ≤ 9223372036854775807:=hw0
 simp only [w64 (n:=n - (a.Name.size:Int)) (by omega) (by omega)]
 by_cases hn0:(n - (a.Name.size:Int)) < 0
 ·simp only [hn0,decide_true,if_true];exact ⟨_,rfl,by omega,fun h=>by omega⟩
 simp only [hn0,decide_false,Bool.false_eq_true,if_false]
 obtain ⟨r1,q1a,q1b,q1c⟩:=aDj a.Kids hw1 (n - (a.Name.size:Int)) (by omega) (by omega)
 simp only [q1a,Option.bind_some]
 by_cases hn1:r1 < 0
 ·simp only [hn1,decide_true,if_true];exact ⟨_,rfl,by omega,fun h=>by omega⟩
 simp only [hn1,decide_false,Bool.false_eq_true,if_false]
 exact ⟨_,rfl,by omega,fun _=>⟨by omega,q1c (by omega)⟩⟩
theorem aDf (a:GNode) (h:GNode.le 1048576 a):mP a=some a:=by
 obtain ⟨h0,h1⟩:=h
 unfold mP
 simp only [aDg a.Kids h1,Option.bind_some]
theorem aDl (a b:GNode) (ha:GNode.le 1048576 a) (hb:GNode.le 1048576 b):mU a b=some (decide (a=b)):=by
 obtain ⟨ha0,ha1⟩:=ha
 obtain ⟨hb0,hb1⟩:=hb
 unfold mU
 try simp only [zJ,Option.bind_some,aDm a.Kids b.Kids ha1 hb1]
 rw [show decide (a=b)=decide (a.Kind=b.Kind∧a.Num=b.Num∧a.Name=b.Name∧a.Kids=b.Kids) from by simp only [GNode.ext' a b]]
 by_cases e0:a.Kind=b.Kind<;>by_cases e1:a.Num=b.Num<;>by_cases e2:a.Name=b.Name<;>by_cases e3:a.Kids=b.Kids<;>simp [e0,e1,e2,e3]
theorem aBe (a:List GNode) (hw:a.length ≤ maxLen∧∀ x ∈ a,GNode.le maxLen x) (n:Int) (h0:0 ≤ n) (h1:n ≤ 1048576):∃ r,lJ a n=some r∧r ≤ n∧(0 ≤ r→a.length ≤ 1048576∧∀ x ∈ a,GNode.le 1048576 x):=by
 have hw':a.length ≤ 9223372036854775807:=hw.1
 unfold lJ
 rw [w64 (by omega) (by omega)]
 split
 ·exact ⟨_,rfl,by omega,fun h=>by omega⟩
 rename_i h
 simp only [decide_eq_true_eq] at h
 have hf:∀ (m:Int) (k:Nat) (g0:0 ≤ m) (g1:m ≤ 1048576) (hk:k < a.length),∃ r,r ≤ m∧(0 ≤ r→(fun x:GNode=>GNode.le 1048576 x) a[k])∧dR a (m,k)=some (if r < 0 then .inr (.inr (-1)) else .inl (r,((k + 1:Nat):Int))):=by
  intro m k g0 g1 hk
  obtain ⟨r,r1,r2,r3⟩:=aDi a[k] (hw.2 _ (List.getElem_mem hk)) m g0 g1
  refine ⟨r,r2,r3,?_⟩
  simp only [dR,aB hk,if_true,aD hk,Option.bind_some,r1,gL hk hw.1]
  by_cases hr:r < 0<;>simp [hr]
 obtain ⟨j,hj,hj2⟩:=aGh _ a (dR a) 1048576 hf (fun m=>by simp [dR]) (n - a.length) (by omega) (by omega)
 rcases hj2 with rfl | ⟨m,rfl,q1,q2,q3⟩
 ·exact ⟨-1,by rw [hj];rfl,by omega,fun h=>by omega⟩
 exact ⟨m,by rw [hj];rfl,by omega,fun _=>⟨by omega,q3⟩⟩
theorem aBa (a:List GNode) (h:a.length ≤ 1048576∧∀ x ∈ a,GNode.le 1048576 x):lH a=some a:=by
 have hl:a.length ≤ 1048576:=h.1
 unfold lH
 rw [tK _ _ _ (by omega) (by omega)]
 simp only [Option.bind_some]
 rw [aCu a _ (eY a) (fun out k hk ho=>?_) (fun out=>by simp [eY])]
 ·rfl
 simp only [eY,aB hk,if_true,aD hk,Option.bind_some,aDf a[k] (h.2 _ (List.getElem_mem hk)),aD (show k < out.length by omega),bV,Int.toNat_natCast,gL hk (show a.length ≤ maxLen by show _ ≤ 9223372036854775807;omega)]
theorem aBi (a b:List GNode) (ha:a.length ≤ 1048576∧∀ x ∈ a,GNode.le 1048576 x) (hb:b.length ≤ 1048576∧∀ x ∈ b,GNode.le 1048576 x):lL a b=some (decide (a=b)):=by
 have hl:a.length ≤ 1048576:=ha.1
 unfold lL
 by_cases hlen:a.length=b.length
 ·have hlen':((a.length:Int) != (b.length:Int))=false:=by simp [hlen]
  simp only [hlen',Bool.false_eq_true,if_false]
  have key:=aE8 a b (fun x y=>decide (x=y)) (fun x _ y _=>by simp) hlen (eZ a b) (fun k hk hk2=>?_) (by simp [eZ])
  ·by_cases e:a=b
   ·rw [key.1 e];simp [e]
   rw [key.2 e];simp [e]
  simp only [eZ,aB hk,if_true,aD hk,aD hk2,Option.bind_some,aDl a[k] b[k] (ha.2 _ (List.getElem_mem hk)) (hb.2 _ (List.getElem_mem hk2)),gL hk (show a.length ≤ maxLen by show _ ≤ 9223372036854775807;omega)]
  try (by_cases e:a[k]=b[k]<;>simp [e])
 have hlen':((a.length:Int) != (b.length:Int))=true:=by simp;omega
 have hne:a ≠ b:=fun e=>hlen (by rw [e])
 simp [hlen',hne]
theorem aBc (a:GParam) (hw:GParam.le maxLen a) (n:Int) (h0:0 ≤ n) (h1:n ≤ 1048576):∃ r,lI a n=some r∧r ≤ n∧(0 ≤ r→GParam.le 1048576 a):=by
 have hw0:=hw;unfold GParam.le at hw0
 unfold lI
 have hs0:a.Name.size ≤ 9223372036854775807:=hw0
 simp only [w64 (n:=n - (a.Name.size:Int)) (by omega) (by omega)]
 by_cases hn0:(n - (a.Name.size:Int)) < 0
 ·simp only [hn0,decide_true,if_true];exact ⟨_,rfl,by omega,fun h=>by omega⟩
 simp only [hn0,decide_false,Bool.false_eq_true,if_false]
 exact ⟨_,rfl,by omega,fun _=>(by unfold GParam.le;first | omega | exact trivial)⟩
theorem aB8 (a:GParam) (h:GParam.le 1048576 a):lG a=some a:=by
 have h0:=h;unfold GParam.le at h0
 unfold lG
 rfl
theorem aBg (a b:GParam) (ha:GParam.le 1048576 a) (hb:GParam.le 1048576 b):lK a b=some (decide (a=b)):=by
 have ha0:=ha;have hb0:=hb;unfold GParam.le at ha0 hb0
 unfold lK
 try simp only [zJ,Option.bind_some]
 rw [show decide (a=b)=decide (a.Name=b.Name∧a.Typ=b.Typ) from by simp only [GParam.ext' a b]]
 by_cases e0:a.Name=b.Name<;>by_cases e1:a.Typ=b.Typ<;>simp [e0,e1]
theorem aA2 (a:List GParam) (hw:a.length ≤ maxLen∧∀ x ∈ a,GParam.le maxLen x) (n:Int) (h0:0 ≤ n) (h1:n ≤ 1048576):∃ r,jT a n=some r∧r ≤ n∧(0 ≤ r→a.length ≤ 1048576∧∀ x ∈ a,GParam.le 1048576 x):=by
 have hw':a.length ≤ 9223372036854775807:=hw.1
 unfold jT
 rw [w64 (by omega) (by omega)]
 split
 ·exact ⟨_,rfl,by omega,fun h=>by omega⟩
 rename_i h
 simp only [decide_eq_true_eq] at h
 have hf:∀ (m:Int) (k:Nat) (g0:0 ≤ m) (g1:m ≤ 1048576) (hk:k < a.length),∃ r,r ≤ m∧(0 ≤ r→(fun x:GParam=>GParam.le 1048576 x) a[k])∧cU a (m,k)=some (if r < 0 then .inr (.inr (-1)) else .inl (r,((k + 1:Nat):Int))):=by
  intro m k g0 g1 hk
  obtain ⟨r,r1,r2,r3⟩:=aBc a[k] (hw.2 _ (List.getElem_mem hk)) m g0 g1
  refine ⟨r,r2,r3,?_⟩
  simp only [cU,aB hk,if_true,aD hk,Option.bind_some,r1,gL hk hw.1]
  by_cases hr:r < 0<;>simp [hr]
 obtain ⟨j,hj,hj2⟩:=aGh _ a (cU a) 1048576 hf (fun m=>by simp [cU]) (n - a.length) (by omega) (by omega)
 rcases hj2 with rfl | ⟨m,rfl,q1,q2,q3⟩
 ·exact ⟨-1,by rw [hj];rfl,by omega,fun h=>by omega⟩
 exact ⟨m,by rw [hj];rfl,by omega,fun _=>⟨by omega,q3⟩⟩
theorem zZ (a:List GParam) (h:a.length ≤ 1048576∧∀ x ∈ a,GParam.le 1048576 x):jS a=some a:=by
 have hl:a.length ≤ 1048576:=h.1
 unfold jS
 rw [tK _ _ _ (by omega) (by omega)]
 simp only [Option.bind_some]
 rw [aCu a _ (eC a) (fun out k hk ho=>?_) (fun out=>by simp [eC])]
 ·rfl
 simp only [eC,aB hk,if_true,aD hk,Option.bind_some,aB8 a[k] (h.2 _ (List.getElem_mem hk)),aD (show k < out.length by omega),bV,Int.toNat_natCast,gL hk (show a.length ≤ maxLen by show _ ≤ 9223372036854775807;omega)]
theorem aA5 (a b:List GParam) (ha:a.length ≤ 1048576∧∀ x ∈ a,GParam.le 1048576 x) (hb:b.length ≤ 1048576∧∀ x ∈ b,GParam.le 1048576 x):jU a b=some (decide (a=b)):=by
 have hl:a.length ≤ 1048576:=ha.1
 unfold jU
 by_cases hlen:a.length=b.length
 ·have hlen':((a.length:Int) != (b.length:Int))=false:=by simp [hlen]
  simp only [hlen',Bool.false_eq_true,if_false]
  have key:=aE8 a b (fun x y=>decide (x=y)) (fun x _ y _=>by simp) hlen (eD a b) (fun k hk hk2=>?_) (by simp [eD])
  ·by_cases e:a=b
   ·rw [key.1 e];simp [e]
   rw [key.2 e];simp [e]
  simp only [eD,aB hk,if_true,aD hk,aD hk2,Option.bind_some,aBg a[k] b[k] (ha.2 _ (List.getElem_mem hk)) (hb.2 _ (List.getElem_mem hk2)),gL hk (show a.length ≤ maxLen by show _ ≤ 9223372036854775807;omega)]
  try (by_cases e:a[k]=b[k]<;>simp [e])
 have hlen':((a.length:Int) != (b.length:Int))=true:=by simp;omega
 have hne:a ≠ b:=fun e=>hlen (by rw [e])
 simp [hlen',hne]
theorem aGu (a:GFn) (hw:GFn.le maxLen a) (n:Int) (h0:0 ≤ n) (h1:n ≤ 1048576):∃ r,rF a n=some r∧r ≤ n∧(0 ≤ r→GFn.le 1048576 a):=by
 obtain ⟨hw0,hw1⟩:=hw
 unfold rF
 have hs0:a.Name.size ≤ 9223372036854775807:=hw0
 simp only [w64 (n:=n - (a.Name.size:Int)) (by omega) (by omega)]
 by_cases hn0:(n - (a.Name.size:Int)) < 0
 ·simp only [hn0,decide_true,if_true];exact ⟨_,rfl,by omega,fun h=>by omega⟩
 simp only [hn0,decide_false,Bool.false_eq_true,if_false]
 obtain ⟨r1,q1a,q1b,q1c⟩:=aA2 a.Params hw1 (n - (a.Name.size:Int)) (by omega) (by omega)
 simp only [q1a,Option.bind_some]
 by_cases hn1:r1 < 0
 ·simp only [hn1,decide_true,if_true];exact ⟨_,rfl,by omega,fun h=>by omega⟩
 simp only [hn1,decide_false,Bool.false_eq_true,if_false]
 exact ⟨_,rfl,by omega,fun _=>⟨by omega,q1c (by omega)⟩⟩
theorem aGt (a:GFn) (h:GFn.le 1048576 a):rE a=some a:=by
 obtain ⟨h0,h1⟩:=h
 unfold rE
 simp only [zZ a.Params h1,Option.bind_some]
theorem aGv (a b:GFn) (ha:GFn.le 1048576 a) (hb:GFn.le 1048576 b):rG a b=some (decide (a=b)):=by
 obtain ⟨ha0,ha1⟩:=ha
 obtain ⟨hb0,hb1⟩:=hb
 unfold rG
 try simp only [zJ,Option.bind_some,aA5 a.Params b.Params ha1 hb1]
 rw [show decide (a=b)=decide (a.Name=b.Name∧a.Params=b.Params∧a.Res=b.Res∧a.Body=b.Body∧a.Ret=b.Ret) from by simp only [GFn.ext' a b]]
 by_cases e0:a.Name=b.Name<;>by_cases e1:a.Params=b.Params<;>by_cases e2:a.Res=b.Res<;>by_cases e3:a.Body=b.Body<;>by_cases e4:a.Ret=b.Ret<;>simp [e0,e1,e2,e3,e4]
theorem aFf (a:List GFn) (hw:a.length ≤ maxLen∧∀ x ∈ a,GFn.le maxLen x) (n:Int) (h0:0 ≤ n) (h1:n ≤ 1048576):∃ r,oS a n=some r∧r ≤ n∧(0 ≤ r→a.length ≤ 1048576∧∀ x ∈ a,GFn.le 1048576 x):=by
 have hw':a.length ≤ 9223372036854775807:=hw.1
 unfold oS
 rw [w64 (by omega) (by omega)]
 split
 ·exact ⟨_,rfl,by omega,fun h=>by omega⟩
 rename_i h
 simp only [decide_eq_true_eq] at h
 have hf:∀ (m:Int) (k:Nat) (g0:0 ≤ m) (g1:m ≤ 1048576) (hk:k < a.length),∃ r,r ≤ m∧(0 ≤ r→(fun x:GFn=>GFn.le 1048576 x) a[k])∧fI a (m,k)=some (if r < 0 then .inr (.inr (-1)) else .inl (r,((k + 1:Nat):Int))):=by
  intro m k g0 g1 hk
  obtain ⟨r,r1,r2,r3⟩:=aGu a[k] (hw.2 _ (List.getElem_mem hk)) m g0 g1
  refine ⟨r,r2,r3,?_⟩
  simp only [fI,aB hk,if_true,aD hk,Option.bind_some,r1,gL hk hw.1]
  by_cases hr:r < 0<;>simp [hr]
 obtain ⟨j,hj,hj2⟩:=aGh _ a (fI a) 1048576 hf (fun m=>by simp [fI]) (n - a.length) (by omega) (by omega)
 rcases hj2 with rfl | ⟨m,rfl,q1,q2,q3⟩
 ·exact ⟨-1,by rw [hj];rfl,by omega,fun h=>by omega⟩
 exact ⟨m,by rw [hj];rfl,by omega,fun _=>⟨by omega,q3⟩⟩
theorem aFd (a:List GFn) (h:a.length ≤ 1048576∧∀ x ∈ a,GFn.le 1048576 x):oQ a=some a:=by
 have hl:a.length ≤ 1048576:=h.1
 unfold oQ
 rw [tK _ _ _ (by omega) (by omega)]
 simp only [Option.bind_some]
 rw [aCu a _ (hJ a) (fun out k hk ho=>?_) (fun out=>by simp [hJ])]
 ·rfl
 simp only [hJ,aB hk,if_true,aD hk,Option.bind_some,aGt a[k] (h.2 _ (List.getElem_mem hk)),aD (show k < out.length by omega),bV,Int.toNat_natCast,gL hk (show a.length ≤ maxLen by show _ ≤ 9223372036854775807;omega)]
theorem aFh (a b:List GFn) (ha:a.length ≤ 1048576∧∀ x ∈ a,GFn.le 1048576 x) (hb:b.length ≤ 1048576∧∀ x ∈ b,GFn.le 1048576 x):oU a b=some (decide (a=b)):=by
 have hl:a.length ≤ 1048576:=ha.1
 unfold oU
 by_cases hlen:a.length=b.length
 ·have hlen':((a.length:Int) != (b.length:Int))=false:=by simp [hlen]
  simp only [hlen',Bool.false_eq_true,if_false]
  have key:=aE8 a b (fun x y=>decide (x=y)) (fun x _ y _=>by simp) hlen (hO a b) (fun k hk hk2=>?_) (by simp [hO])
  ·by_cases e:a=b
   ·rw [key.1 e];simp [e]
   rw [key.2 e];simp [e]
  simp only [hO,aB hk,if_true,aD hk,aD hk2,Option.bind_some,aGv a[k] b[k] (ha.2 _ (List.getElem_mem hk)) (hb.2 _ (List.getElem_mem hk2)),gL hk (show a.length ≤ maxLen by show _ ≤ 9223372036854775807;omega)]
  try (by_cases e:a[k]=b[k]<;>simp [e])
 have hlen':((a.length:Int) != (b.length:Int))=true:=by simp;omega
 have hne:a ≠ b:=fun e=>hlen (by rw [e])
 simp [hlen',hne]
theorem qA (a:GProgram) (hw:GProgram.le maxLen a) (n:Int) (h0:0 ≤ n) (h1:n ≤ 1048576):∃ r,gB a n=some r∧r ≤ n∧(0 ≤ r→GProgram.le 1048576 a):=by
 obtain ⟨hw0,hw1⟩:=hw
 unfold gB
 obtain ⟨r0,q0a,q0b,q0c⟩:=aBe a.Nodes hw0 n (by omega) (by omega)
 simp only [q0a,Option.bind_some]
 by_cases hn0:r0 < 0
 ·simp only [hn0,decide_true,if_true];exact ⟨_,rfl,by omega,fun h=>by omega⟩
 simp only [hn0,decide_false,Bool.false_eq_true,if_false]
 obtain ⟨r1,q1a,q1b,q1c⟩:=aFf a.Fns hw1 r0 (by omega) (by omega)
 simp only [q1a,Option.bind_some]
 by_cases hn1:r1 < 0
 ·simp only [hn1,decide_true,if_true];exact ⟨_,rfl,by omega,fun h=>by omega⟩
 simp only [hn1,decide_false,Bool.false_eq_true,if_false]
 exact ⟨_,rfl,by omega,fun _=>⟨q0c (by omega),q1c (by omega)⟩⟩
theorem pZ (a:GProgram) (h:GProgram.le 1048576 a):bN a=some a:=by
 obtain ⟨h0,h1⟩:=h
 unfold bN
 simp only [aBa a.Nodes h0,aFd a.Fns h1,Option.bind_some]
theorem qB (a b:GProgram) (ha:GProgram.le 1048576 a) (hb:GProgram.le 1048576 b):gC a b=some (decide (a=b)):=by
 obtain ⟨ha0,ha1⟩:=ha
 obtain ⟨hb0,hb1⟩:=hb
 unfold gC
 try simp only [zJ,Option.bind_some,aBi a.Nodes b.Nodes ha0 hb0,aFh a.Fns b.Fns ha1 hb1]
 rw [show decide (a=b)=decide (a.Nodes=b.Nodes∧a.Fns=b.Fns) from by simp only [GProgram.ext' a b]]
 by_cases e0:a.Nodes=b.Nodes<;>by_cases e1:a.Fns=b.Fns<;>simp [e0,e1]
end Go.OM
namespace Go.OM
theorem aNi {α:Type} {c:Prop} [Decidable c] (a b:α):(if c then some a else some b)=some (if c then a else b):=by split<;>rfl
def inB (x a b:Int):Bool:=decide (a ≤ x) && decide (x ≤ b)
theorem inB_iff {x a b:Int}:inB x a b=true ↔ a ≤ x∧x ≤ b:=by simp [inB]
theorem inB_false {x a b:Int}:inB x a b=false ↔ ¬ (a ≤ x∧x ≤ b):=by rw [← inB_iff];simp
theorem cF (x a b:Int):cV x a b=some (inB x a b):=by
 unfold cV inB
 by_cases h:a ≤ x<;>simp [h]
theorem eU (x a b:Int):aY x a b=some (inB x a b):=by
 unfold aY inB
 by_cases h:a ≤ x<;>simp [h]
def bI (z:ByteArray):List Int:=z.data.toList.map fun x=>((x.toNat:Nat):Int)
theorem oZ (z:ByteArray):(bI z).length=z.size:=by rw [bI,List.length_map];exact Array.length_toList
theorem aKr {z:ByteArray} {k:Nat} (h:k < (bI z).length):sAt z k=some (bI z)[k]:=by
 have h1:k < z.size:=by rw [← oZ];exact h
 unfold sAt
 rw [if_pos ⟨by omega,by omega⟩]
 simp only [aG8,Int.toNat_natCast,bI]
 have e:z.data.toList.length=z.size:=Array.length_toList
 have h2:k < z.data.toList.length:=by omega
 rw [List.getD_eq_getElem?_getD,List.getElem?_eq_getElem h2]
 simp only [Option.getD_some,List.getElem_map]
def lX (b:Int):Bool:=inB b 97 122
def pT (b:Int):Bool:=inB b 48 57
theorem qE (b:Int):iE b=some (lX b):=by
 unfold iE lX inB
 by_cases h:97 ≤ b<;>simp [h]
theorem xQ (b:Int):jX b=some (pT b):=by
 unfold jX pT inB
 by_cases h:48 ≤ b<;>simp [h]
theorem oJ (b:Int):fT b=some (lX b):=by
 unfold fT lX inB
 by_cases h:97 ≤ b<;>simp [h]
theorem vL (b:Int):iL b=some (pT b):=by
 unfold iL pT inB
 by_cases h:48 ≤ b<;>simp [h]
def keys:List ByteArray:=[⟨#[102,110]⟩,⟨#[108,101,116]⟩,⟨#[105,102]⟩,⟨#[101,108,115,101]⟩,⟨#[119,104,105,108,101]⟩,⟨#[112,114,105,110,116]⟩,⟨#[100,111]⟩,⟨#[110,101,119]⟩,⟨#[99,108,111,110,101]⟩,⟨#[109,117,116]⟩,⟨#[105,110,112,117,116]⟩,⟨#[105,110,116]⟩,⟨#[98,111,120]⟩,⟨#[114,101,116]⟩]
def keyB (s:ByteArray):Bool:=keys.any fun w=>sEq w s
theorem aJs:strings_Split (⟨#[102,110,32,108,101,116,32,105,102,32,101,108,115,101,32,119,104,105,108,101,32,112,114,105,110,116,32,100,111,32,110,101,119,32,99,108,111,110,101,32,109,117,116,32,105,110,112,117,116,32,105,110,116,32,98,111,120,32,114,101,116]⟩:ByteArray) (⟨#[32]⟩:ByteArray)=some keys:=by kernel_rfl
theorem aIs (l:List ByteArray) (s:ByteArray) (hl:l.length ≤ 1048576) (f:Int→Option (Int ⊕ (Unit ⊕ Bool)))
  (hf:∀ i,f i=if (decide (i < (l.length:Int)))=true then (aM l i).bind fun e=>if (sEq e s)=true then some (Sum.inr (Sum.inr true)) else some (Sum.inl (IntKind.wrap .i64 (i + 1))) else some (Sum.inr (Sum.inl ()))) :
  aG f 0=some (if (l.any fun w=>sEq w s)=true then .inr true else .inl ()):=by
 refine uJ l (fun w=>sEq w s) f (fun k hk=>?_) (by rw [hf];simp)
 rw [hf]
 simp only [aB hk,if_true,aD hk,Option.bind_some,gL hk (show l.length ≤ maxLen by show _ ≤ 9223372036854775807;omega),aNi]
theorem zH (s:ByteArray):kX s=some (keyB s):=by
 unfold kX nM
 simp only [Option.bind_some]
 have h:=aIs keys s (by decide) (gO s keys) (fun i=>by simp only [gO])
 unfold keys at h
 rw [h]
 unfold keyB keys
 simp only [Option.bind_some]
 split<;>rename_i h2<;>split at h2<;>simp_all
theorem aAm (s:ByteArray):lQ s=some (keyB s):=by
 unfold lQ sC
 rw [aJs]
 simp only [Option.bind_some]
 rw [aIs keys s (by decide) (jW s keys) (fun i=>by simp only [jW])]
 unfold keyB
 simp only [Option.bind_some]
 cases keys.any fun w=>sEq w s<;>rfl
def aG7 (b:Int):Bool:=lX b || pT b
def sK (s:ByteArray):Bool:=inB s.size 1 8 && (lX ((bI s).getD 0 0) && ((bI s).all aG7 && !keyB s))
theorem aF1 (s:ByteArray) (hs:s.size ≤ 8) (f:Int→Option (Int ⊕ (Unit ⊕ Bool)))
  (hf:∀ (k:Nat) (h:k < (bI s).length),f k=some (if aG7 (bI s)[k]=true then .inl (IntKind.wrap .i64 ((k:Int) + 1)) else .inr (.inr false)))
  (he:f s.size=some (.inr (.inl ()))):aG f 0=some (if (bI s).all aG7=true then .inl () else .inr false):=by
 refine rA (bI s) aG7 f (fun k hk=>?_) (by rw [oZ];exact he)
 rw [hf k hk,gL hk (show (bI s).length ≤ maxLen by rw [oZ];show _ ≤ 9223372036854775807;omega)]
theorem aM7 {s:ByteArray} (h:1 ≤ s.size):sAt s 0=some ((bI s).getD 0 0):=by
 have h1:0 < (bI s).length:=by rw [oZ];omega
 have:=aKr h1
 rw [show ((0:Nat):Int)=0 from rfl] at this
 rw [this,List.getD_eq_getElem?_getD,List.getElem?_eq_getElem h1];rfl
theorem oA (s:ByteArray):iW s=some (sK s):=by
 unfold iW sK
 simp only [cF,Option.bind_some]
 by_cases hi:inB s.size 1 8=true
 ·have hi':=inB_iff.1 hi
  rw [aM7 (by omega),aF1 s (by omega) (gJ s) (fun k hk=>?_) (by simp [gJ])]
  ·simp only [hi,qE,aAm,Option.bind_some,Bool.not_true,Bool.false_eq_true,if_false,Bool.true_and]
   cases lX ((bI s).getD 0 0)<;>cases (bI s).all aG7<;>cases keyB s<;>rfl
  have hk2:k < s.size:=by rw [← oZ];exact hk
  simp only [gJ,aB hk2,if_true,aKr hk,qE,xQ,Option.bind_some]
  rw [show aG7 (bI s)[k]=(lX (bI s)[k] || pT (bI s)[k]) from rfl]
  cases lX (bI s)[k]<;>cases pT (bI s)[k]<;>rfl
 simp [Bool.eq_false_iff.2 hi]
theorem nT (s:ByteArray):iT s=some (sK s):=by
 unfold iT sK
 simp only [eU,Option.bind_some]
 by_cases hi:inB s.size 1 8=true
 ·have hi':=inB_iff.1 hi
  rw [aM7 (by omega),aF1 s (by omega) (fY s) (fun k hk=>?_) (by simp [fY])]
  ·simp only [hi,oJ,zH,Option.bind_some,Bool.not_true,Bool.false_eq_true,if_false,Bool.true_and]
   cases lX ((bI s).getD 0 0)<;>cases (bI s).all aG7<;>cases keyB s<;>rfl
  have hk2:k < s.size:=by rw [← oZ];exact hk
  simp only [fY,aB hk2,if_true,aKr hk,oJ,vL,Option.bind_some]
  rw [show aG7 (bI s)[k]=(lX (bI s)[k] || pT (bI s)[k]) from rfl]
  cases lX (bI s)[k]<;>cases pT (bI s)[k]<;>rfl
 simp [Bool.eq_false_iff.2 hi]
end Go.OM
namespace Go.OM
theorem jI {n:Nat} (h:n ≤ 1048576):IntKind.wrap .i64 ((n:Int) - 1)=(n:Int) - 1:=w64 (by omega) (by omega)
end Go.OM
namespace Go.OM
theorem bB {α σ ρ:Type} (h:σ→α→σ) (fin:σ→ρ):∀ (l:List α) (s:σ),aBv (fun s x=>(.inl (h s x):σ ⊕ ρ)) fin l s=fin (l.foldl h s)
 | [],s=>rfl
 | x :: l,s=>by simp only [aBv,List.foldl_cons];exact bB h fin l _
theorem aPs {n:Nat} {s:List Int} {e:Int} (h:s.length ≤ 1048576) (hn:n ≤ 64):mH n s [e]=some (s ++ [e]):=by
 unfold mH
 have h1:(s.length + [e].length) * n ≤ (s.length + [e].length) * 64:=Nat.mul_le_mul_left _ hn
 rw [if_pos ⟨by simp only [List.length_cons,List.length_nil] at h1 ⊢;omega,by simp only [List.length_cons,List.length_nil];omega⟩]
def yG (out:List Int) (n:Int):List Int:=if out.contains n=true then out else out ++ [n]
theorem mem_addL {out:List Int} {n m:Int}:m ∈ yG out n ↔ m ∈ out ∨ m=n:=by
 unfold yG
 by_cases h:out.contains n=true
 ·rw [if_pos h]
  have:=List.contains_iff_mem.1 h
  constructor
  ·exact .inl
  rintro (h | rfl)
  ·exact h
  exact this
 rw [if_neg h];simp
theorem fZ (m:Int):∀ (l s:List Int),m ∈ l.foldl yG s ↔ m ∈ s ∨ m ∈ l
 | [],s=>by simp
 | x :: l,s=>by rw [List.foldl_cons,fZ m l,mem_addL,List.mem_cons,or_assoc]
end Go.OM
namespace Go.OM
inductive Reach (next:Nat→List Int) (root:Nat):Nat→Prop
 | base:Reach next root root
 | step {i:Nat} {m:Int}:Reach next root i→m ∈ next i→Reach next root m.toNat
theorem Reach.congr {next next':Nat→List Int} {root:Nat} (h:∀ i m,m ∈ next i ↔ m ∈ next' i) {n:Nat}:Reach next root n ↔ Reach next' root n:=by
 constructor
 ·intro r
  induction r with
  | base=>exact .base
  | step _ hm ih=>exact .step ih ((h _ _).1 hm)
 intro r
 induction r with
 | base=>exact .base
 | step _ hm ih=>exact .step ih ((h _ _).2 hm)
end Go.OM
namespace Go.OM
abbrev Tab:=List (List Bool)
structure TabOk (W L:Nat) (t:Tab):Prop where
 len:t.length=W
 row:∀ r ∈ t,r.length=L
theorem TabOk.set {W L:Nat} {t:Tab} (h:TabOk W L t) (n:Nat) {r:List Bool} (hr:r.length=L):TabOk W L (t.set n r) :=
 ⟨by simpa using h.len,fun x hx=>by
  rcases List.mem_or_eq_of_mem_set hx with h1 | h1
  ·exact h.row x h1
  rw [h1];exact hr⟩
theorem aJ {k n:Nat} (hk:k < n) (hn:n ≤ 1048576):IntKind.wrap .i64 ((k:Int) + 1)=((k + 1:Nat):Int):=gL hk (show n ≤ maxLen by show _ ≤ 9223372036854775807;omega)
theorem aHg {α:Type} {n:Nat} {s:List α} {e:α} (h:s.length ≤ 1048576) (hn:n ≤ 64):mH n s [e]=some (s ++ [e]):=by
 unfold mH
 have h1:(s.length + [e].length) * n ≤ (s.length + [e].length) * 64:=Nat.mul_le_mul_left _ hn
 rw [if_pos ⟨by simp only [List.length_cons,List.length_nil] at h1 ⊢;omega,by simp only [List.length_cons,List.length_nil];omega⟩]
def cntR (r:List Bool):Nat:=r.count true
def cntT (t:Tab):Nat:=(t.map cntR).sum
end Go.OM
namespace Go.OM
theorem cK {α:Type} {l:List α} {v:Int} (h0:0 ≤ v) (h:v < l.length):aM l v=some (l[v.toNat]'(by omega)):=by
 have:v=((v.toNat:Nat):Int):=by omega
 conv=>lhs;rw [this]
 exact aD (by omega)
theorem aHf {α:Type} {n:Nat} {l:List α} (h:l.length ≤ 1048576) (hn:n ≤ 64):mH n [] l=some l:=by
 unfold mH
 have h1:(([]:List α).length + l.length) * n ≤ (([]:List α).length + l.length) * 64:=Nat.mul_le_mul_left _ hn
 rw [if_pos ⟨by simp only [List.length_nil] at h1 ⊢;omega,by simp only [List.length_nil];omega⟩]
 simp
end Go.OM
namespace Go.OM
structure Dn (W L:Nat) (s s':Tab × Bool):Prop where
 ok:TabOk W L s'.1
 le:cntT s'.1 ≤ cntT s.1
 lt:s'.2=true→s.2=true ∨ cntT s'.1 < cntT s.1
 keep:s.2=true→s'.2=true
theorem Dn.trans {W L:Nat} {s s' s2:Tab × Bool} (h:Dn W L s s') (h2:Dn W L s' s2):Dn W L s s2 :=
 ⟨h2.ok,Nat.le_trans h2.le h.le,fun e=>by
  rcases h2.lt e with e | e
  ·rcases h.lt e with e | e
   ·exact .inl e
   exact .inr (Nat.lt_of_le_of_lt h2.le e)
  exact .inr (Nat.lt_of_lt_of_le e h.le),fun e=>h2.keep (h.keep e)⟩
end Go.OM
namespace Go.OM
theorem aAn (l:List Int) (n:Int) (hl:l.length ≤ 1048576):iV l n=some (l.contains n):=by
 unfold iV
 rw [uJ l (fun e=>e == n) (gE l n) (fun k hk=>by
  simp only [gE,aB hk,if_true,aD hk,Option.bind_some,aJ hk hl]
  cases l[k] == n<;>rfl) (by simp [gE])]
 have:(l.any fun e=>e == n)=l.contains n:=by
  induction l with
  | nil=>rfl
  | cons x l ih =>
   rw [List.any_cons,List.contains_cons,ih (by simp at hl;omega)]
   congr 1
   rw [Bool.eq_iff_iff,beq_iff_eq,beq_iff_eq]
   exact eq_comm
 rw [this]
 cases l.contains n<;>rfl
theorem wG {ρ:Type} (n:Nat) (q:Nat→Option ρ) (f:Int→Option (Int ⊕ (Unit ⊕ ρ)))
  (hf:∀ (k:Nat),k < n→f k=some (match q k with | none=>.inl ((k + 1:Nat):Int) | some r=>.inr (.inr r)))
  (he:f n=some (.inr (.inl ()))):aG f 0=some (match (List.range n).findSome? q with | some r=>.inr r | none=>.inl ()) :=
 vW (List.range n) q f (fun k hk=>by
  have hk':k < n:=by simpa using hk
  rw [hf k hk',List.getElem_range]
  all_goals (cases q k<;>rfl)) (by rw [List.length_range];exact he)
end Go.OM
namespace Go.OM
def qL (k:Int):Bool:=inB k 1 12
def yQ (k:Int):Bool:=inB k 13 19
theorem rK (k:Int):jE k=some (qL k):=by simp only [jE,cF,Option.bind_some,qL]
theorem aBm (k:Int):mZ k=some (yQ k):=by simp only [mZ,cF,Option.bind_some,yQ]
theorem pV (k:Int):fG k=some (qL k):=by simp only [fG,eU,Option.bind_some,qL]
theorem sH (k:Int):eR k=some (yQ k):=by simp only [eR,eU,Option.bind_some,yQ]
def jB (k:Int):Int × Int:=if k=8 ∨ k=13 ∨ k=14 ∨ k=15 ∨ k=18 ∨ k=19 then (1,1) else if k=9 ∨ k=10 ∨ k=11 ∨ k=17 then (2,2) else if k=16 then (3,3) else if k=12 then (0,3) else if k=20 then (0,12) else (0,0)
theorem aDw (k:Int):oW k=some (jB k):=by
 unfold oW jB
 by_cases h8:k=8
 ·simp [h8]
 by_cases h13:k=13
 ·simp [h13]
 by_cases h14:k=14
 ·simp [h14]
 by_cases h15:k=15
 ·simp [h15]
 by_cases h18:k=18
 ·simp [h18]
 by_cases h19:k=19
 ·simp [h19]
 by_cases h9:k=9
 ·simp [h9]
 by_cases h10:k=10
 ·simp [h10]
 by_cases h11:k=11
 ·simp [h11]
 by_cases h17:k=17
 ·simp [h17]
 by_cases h16:k=16
 ·simp [h16]
 by_cases h12:k=12
 ·simp [h12]
 by_cases h20:k=20
 ·simp [h20]
 simp [h8,h13,h14,h15,h18,h19,h9,h10,h11,h17,h16,h12,h20]
theorem yZ (k:Int):kU k=some (jB k):=by
 unfold kU jB
 by_cases h8:k=8
 ·simp [h8]
 by_cases h13:k=13
 ·simp [h13]
 by_cases h14:k=14
 ·simp [h14]
 by_cases h15:k=15
 ·simp [h15]
 by_cases h18:k=18
 ·simp [h18]
 by_cases h19:k=19
 ·simp [h19]
 by_cases h9:k=9
 ·simp [h9]
 by_cases h10:k=10
 ·simp [h10]
 by_cases h11:k=11
 ·simp [h11]
 by_cases h17:k=17
 ·simp [h17]
 by_cases h16:k=16
 ·simp [h16]
 by_cases h12:k=12
 ·simp [h12]
 by_cases h20:k=20
 ·simp [h20]
 simp [h8,h13,h14,h15,h18,h19,h9,h10,h11,h17,h16,h12,h20]
def uY (kind i kid:Int):Bool:=if kind=20 then yQ kid else if (kind=16 ∨ kind=17)∧0 < i then kid == 20 else if kind=19 then kid == 12 else qL kid
theorem aAf (kind i kid:Int):lN kind i kid=some (uY kind i kid):=by
 unfold lN uY
 simp only [aBm,rK,Option.bind_some,gt_iff_lt]
 by_cases h20:kind=20
 ·simp [h20]
 by_cases h16:kind=16
 ·by_cases hi:0 < i<;>simp [h16,hi]
 by_cases h17:kind=17
 ·by_cases hi:0 < i<;>simp [h17,hi]
 by_cases h19:kind=19
 ·simp [h19]
 simp [h20,h16,h17,h19]
theorem zC (kind i kid:Int):kV kind i kid=some (uY kind i kid):=by
 unfold kV uY
 simp only [sH,pV,Option.bind_some,gt_iff_lt]
 by_cases h20:kind=20
 ·simp [h20]
 by_cases h16:kind=16
 ·by_cases hi:0 < i<;>simp [h16,hi]
 by_cases h17:kind=17
 ·by_cases hi:0 < i<;>simp [h17,hi]
 by_cases h19:kind=19
 ·simp [h19]
 simp [h20,h16,h17,h19]
def pY (k:Int):Bool:=inB k 2 6 || inB k 12 15
theorem aAi (k:Int):fF k=some (pY k):=by
 unfold fF pY
 simp only [cF,Option.bind_some]
 cases inB k 2 6<;>rfl
theorem xF (k:Int):jM k=some (pY k):=by
 unfold jM pY
 by_cases h:inB k 2 6=true
 ·have h':=inB_iff.1 h
  rw [h]
  have:k=2 ∨ k=3 ∨ k=4 ∨ k=5 ∨ k=6:=by omega
  rcases this with e | e | e | e | e<;>simp [e]
 by_cases h2:inB k 12 15=true
 ·have h':=inB_iff.1 h2
  rw [h2]
  have:k=12 ∨ k=13 ∨ k=14 ∨ k=15:=by omega
  rcases this with e | e | e | e<;>simp [e]
 have h':=inB_false.1 (Bool.eq_false_iff.2 h)
 have h2':=inB_false.1 (Bool.eq_false_iff.2 h2)
 have n2:¬ k=2:=by omega
 have n3:¬ k=3:=by omega
 have n4:¬ k=4:=by omega
 have n5:¬ k=5:=by omega
 have n6:¬ k=6:=by omega
 have n12:¬ k=12:=by omega
 have n13:¬ k=13:=by omega
 have n14:¬ k=14:=by omega
 have n15:¬ k=15:=by omega
 simp [Bool.eq_false_iff.2 h,Bool.eq_false_iff.2 h2,n2,n3,n4,n5,n6,n12,n13,n14,n15]
def aPd (nodes:List GNode) (k:Nat) (x:GNode) (i:Nat):Bool:=match x.Kids[i]? with
 | none=>false
 | some kid=>inB kid 0 ((k:Int) - 1) && (!((x.Kids.take i).contains kid) && (match nodes[kid.toNat]? with | some y=>uY x.Kind i y.Kind | none=>false))
theorem aGx {nodes:List GNode} {k:Nat} {x:GNode} {i:Nat} (h:i < x.Kids.length):aPd nodes k x i=(inB x.Kids[i] 0 ((k:Int) - 1) && (!((x.Kids.take i).contains x.Kids[i]) && (match nodes[(x.Kids[i]).toNat]? with | some y=>uY x.Kind i y.Kind | none=>false))):=by
 unfold aPd;rw [List.getElem?_eq_getElem h]
def aLh (nodes:List GNode) (k:Nat) (x:GNode):Bool:=(List.range x.Kids.length).all (aPd nodes k x)
def aNe (x:GNode):Bool:=if x.Kind=1 then inB x.Num 0 1000000000 else x.Num == 0
def aHy (x:GNode):Bool:=if pY x.Kind=true then sK x.Name else sEq x.Name ⟨#[]⟩
def nI (nodes:List GNode) (k:Nat):Bool:=match nodes[k]? with
 | none=>false
 | some x=>inB x.Kind 1 20 && (inB x.Kids.length (jB x.Kind).1 (jB x.Kind).2 && (aLh nodes k x && (aNe x && aHy x)))
theorem iN {ρ:Type} (n:Nat) (hn:n ≤ 1048576) (p:Nat→Bool) (b:ρ) (f:Int→Option (Int ⊕ (Unit ⊕ ρ)))
  (hf:∀ (k:Nat),k < n→f k=some (if p k=true then .inl (IntKind.wrap .i64 ((k:Int) + 1)) else .inr (.inr b)))
  (he:f n=some (.inr (.inl ()))):aG f 0=some (if (List.range n).all p=true then .inl () else .inr b):=by
 rw [wG n (fun k=>if p k=true then none else some b) f (fun k hk=>by
  rw [hf k hk,aJ hk hn]
  cases p k<;>rfl) he]
 have key:∀ l:List Nat,l.findSome? (fun k=>if p k=true then none else some b)=if l.all p=true then none else some b:=by
  intro l
  induction l with
  | nil=>rfl
  | cons x l ih =>
   rw [List.findSome?_cons,List.all_cons]
   cases hp:p x
   ·simp
   simp only [if_true,Bool.true_and];exact ih
 rw [key]
 cases (List.range n).all p<;>rfl
theorem aD6 (k:Int):(jB k).2 ≤ 12:=by
 unfold jB
 repeat' split
 all_goals simp
theorem aGr:sK ⟨#[]⟩=false:=by
 unfold sK
 have:inB ((⟨#[]⟩:ByteArray).size:Int) 1 8=false:=rfl
 rw [this];rfl
theorem aBr (nodes:List GNode) (hn:nodes.length ≤ 1048576) (k:Int):nC nodes k=some (decide (0 ≤ k) && nI nodes k.toNat):=by
 unfold nC
 simp only [cF,Option.bind_some,jI hn]
 by_cases hi:inB k 0 ((nodes.length:Int) - 1)=true
 ·have hi':=inB_iff.1 hi
  have hk:k.toNat < nodes.length:=by omega
  have hkk:k=((k.toNat:Nat):Int):=by omega
  rw [decide_eq_true hi'.1,Bool.true_and]
  generalize k.toNat=m at *
  subst hkk
  unfold nI
  rw [List.getElem?_eq_getElem hk,aD hk]
  simp only [hi,Bool.not_true,Bool.false_eq_true,if_false,Option.bind_some,aDw]
  generalize nodes[m]=x
  cases h1:inB x.Kind 1 20
  ·rfl
  cases h2:inB x.Kids.length (jB x.Kind).1 (jB x.Kind).2
  ·rfl
  have h2':=inB_iff.1 h2
  have hs:=aD6 x.Kind
  have hkl:x.Kids.length ≤ 1048576:=by omega
  have hw:IntKind.wrap .i64 ((m:Int) - 1)=(m:Int) - 1:=w64 (by omega) (by omega)
  rw [iN x.Kids.length hkl (aPd nodes m x) false (gI nodes m x) (fun i hi=>by
   have hsub:subI x.Kids 0 (i:Int)=some (x.Kids.take i):=by
    unfold subI;rw [if_pos ⟨by omega,by omega,by omega⟩];simp
   simp only [gI,aB hi,if_true,aD hi,Option.bind_some,cF,hw,hsub,aAn (x.Kids.take i) _ (by simp;omega),aAf]
   rw [aGx hi]
   cases h3:inB x.Kids[i] 0 ((m:Int) - 1)
   ·rfl
   have h3':=inB_iff.1 h3
   cases h4:(x.Kids.take i).contains x.Kids[i]
   ·have hlt:x.Kids[i].toNat < nodes.length:=by omega
    rw [cK h3'.1 (by omega),List.getElem?_eq_getElem hlt]
    simp only [Bool.not_true,Bool.false_eq_true,if_false,Option.bind_some,Bool.not_false,Bool.true_and]
    cases uY x.Kind i nodes[x.Kids[i].toNat].Kind<;>rfl
   rfl) (by simp [gI])]
  have hkk:(List.range x.Kids.length).all (aPd nodes m x)=aLh nodes m x:=rfl
  rw [hkk]
  cases aLh nodes m x
  ·rfl
  unfold aNe aHy
  simp only [aAi,oA,Option.bind_some,Bool.not_true,Bool.false_eq_true,if_false,if_true]
  by_cases hkd:x.Kind=1
  ·have e:(x.Kind == 1)=true:=by simpa using hkd
   rw [if_pos hkd,if_pos e]
   cases inB x.Num 0 1000000000
   ·rfl
   cases pY x.Kind<;>rfl
  have e:¬ (x.Kind == 1)=true:=by simpa using hkd
  have e2:(x.Num != 0) = !(x.Num == 0):=rfl
  rw [if_neg hkd,if_neg e,e2]
  cases x.Num == 0
  ·rfl
  cases pY x.Kind<;>rfl
 simp only [Bool.eq_false_iff.2 hi,Bool.not_false,if_true]
 have hi':=inB_false.1 (Bool.eq_false_iff.2 hi)
 congr 1
 by_cases h0:0 ≤ k
 ·unfold nI
  rw [List.getElem?_eq_none (by omega)];simp
 simp [h0]
theorem aB4 (nodes:List GNode) (hn:nodes.length ≤ 1048576) (k:Int):mN nodes k=some (decide (0 ≤ k) && nI nodes k.toNat):=by
 unfold mN
 simp only [eU,Option.bind_some,jI hn]
 by_cases hi:inB k 0 ((nodes.length:Int) - 1)=true
 ·have hi':=inB_iff.1 hi
  have hk:k.toNat < nodes.length:=by omega
  have hkk:k=((k.toNat:Nat):Int):=by omega
  rw [decide_eq_true hi'.1,Bool.true_and]
  generalize k.toNat=m at *
  subst hkk
  unfold nI
  rw [List.getElem?_eq_getElem hk,aD hk]
  simp only [hi,Bool.not_true,Bool.false_eq_true,if_false,Option.bind_some,yZ]
  generalize nodes[m]=x
  cases h1:inB x.Kind 1 20
  ·rfl
  simp only [Bool.not_true,Bool.false_eq_true,if_false,Bool.true_and]
  cases h2:inB x.Kids.length (jB x.Kind).1 (jB x.Kind).2
  ·rfl
  have h2':=inB_iff.1 h2
  have hs:=aD6 x.Kind
  have hkl:x.Kids.length ≤ 1048576:=by omega
  have hw:IntKind.wrap .i64 ((m:Int) - 1)=(m:Int) - 1:=w64 (by omega) (by omega)
  rw [iN x.Kids.length hkl (aPd nodes m x) false (fX nodes m x) (fun i hi=>by
   simp only [fX,aB hi,if_true,aD hi,Option.bind_some,eU,hw,zC]
   rw [iN i (by omega) (fun j=>!(x.Kids[i] == (x.Kids[j]?).getD 0)) (.inr (.inr false)) (fW x i) (fun j hj=>by
    have hjl:j < x.Kids.length:=by omega
    simp only [fW,aB hj,if_true,aD hi,aD hjl,Option.bind_some,List.getElem?_eq_getElem hjl,Option.getD_some]
    cases x.Kids[i] == x.Kids[j]<;>rfl) (by simp [fW])]
   have hall:(List.range i).all (fun j=>!(x.Kids[i] == (x.Kids[j]?).getD 0)) = !((x.Kids.take i).contains x.Kids[i]):=by
    rw [Bool.eq_iff_iff]
    simp only [List.all_eq_true,List.mem_range,Bool.not_eq_true',List.contains_eq_mem,decide_eq_false_iff_not,beq_eq_false_iff_ne,ne_eq]
    constructor
    ·intro h hm
     obtain ⟨j,hj,e⟩:=List.mem_iff_getElem.1 hm
     simp only [List.length_take] at hj
     rw [List.getElem_take] at e
     refine h j (by omega) ?_
     rw [List.getElem?_eq_getElem (by omega)]
     exact e.symm
    intro h j hj e
    rw [List.getElem?_eq_getElem (show j < x.Kids.length by omega)] at e
    refine h ?_
    rw [e]
    refine List.mem_iff_getElem.2 ⟨j,by simp only [List.length_take];omega,?_⟩
    rw [List.getElem_take];rfl
   rw [hall]
   rw [aGx hi]
   cases h3:inB x.Kids[i] 0 ((m:Int) - 1)
   ·rfl
   have h3':=inB_iff.1 h3
   have hlt:x.Kids[i].toNat < nodes.length:=by omega
   rw [cK h3'.1 (by omega),List.getElem?_eq_getElem hlt]
   simp only [Bool.not_true,Bool.false_eq_true,if_false,Option.bind_some,Bool.true_and]
   cases uY x.Kind i nodes[x.Kids[i].toNat].Kind<;>cases (x.Kids.take i).contains x.Kids[i]<;>rfl) (by simp [fX])]
  have hkk:(List.range x.Kids.length).all (aPd nodes m x)=aLh nodes m x:=rfl
  rw [hkk]
  unfold aNe aHy
  simp only [xF,nT,Option.bind_some,Bool.not_true,Bool.false_eq_true,if_false,if_true]
  have hname:(if (!(pY x.Kind == (!(sEq x.Name (⟨#[]⟩:ByteArray)))))=true then some true else if (!(sEq x.Name (⟨#[]⟩:ByteArray)))=true then some (!(sK x.Name)) else some false)=some (!(if pY x.Kind=true then sK x.Name else sEq x.Name ⟨#[]⟩)):=by
   cases he:sEq x.Name ⟨#[]⟩ with
   | true =>
    have:x.Name=⟨#[]⟩:=by rw [zJ] at he;simpa using he
    cases pY x.Kind
    ·rfl
    rw [this,aGr];rfl
   | false =>
    cases pY x.Kind<;>rfl
  rw [hname]
  have hnum:(if (!(inB x.Num 0 1000000000))=true then some true else if (x.Kind != 1)=true then some (x.Num != 0) else some false)=some (!(if x.Kind=1 then inB x.Num 0 1000000000 else x.Num == 0)):=by
   have e2:(x.Num != 0) = !(x.Num == 0):=rfl
   by_cases hkd:x.Kind=1
   ·have e:(x.Kind != 1)=false:=by simp [hkd]
    rw [if_pos hkd,e]
    cases inB x.Num 0 1000000000<;>rfl
   have e:(x.Kind != 1)=true:=by simpa using hkd
   rw [if_neg hkd,e,e2]
   cases hz:x.Num == 0 with
   | true =>
    have:x.Num=0:=by simpa using hz
    rw [this];rfl
   | false=>cases inB x.Num 0 1000000000<;>rfl
  rw [hnum]
  generalize (if x.Kind=1 then inB x.Num 0 1000000000 else x.Num == 0)=u
  generalize (if pY x.Kind=true then sK x.Name else sEq x.Name ⟨#[]⟩)=v
  cases u<;>cases v<;>cases aLh nodes m x<;>rfl
 simp only [Bool.eq_false_iff.2 hi,Bool.not_false,if_true,Option.bind_some]
 have hi':=inB_false.1 (Bool.eq_false_iff.2 hi)
 congr 1
 by_cases h0:0 ≤ k
 ·unfold nI
  rw [List.getElem?_eq_none (by omega)];simp
 simp [h0]
end Go.OM
namespace Go.OM
def mx (a b:Int):Int:=if b > a then b else a
def aHa (nodes:List GNode) (out:List Int) (i:Nat):Int:=match nodes[i]? with
 | some x=>x.Kids.foldl (fun d kid=>mx d (out.getD kid.toNat 0 + 1)) 1
 | none=>1
def iY (nodes:List GNode):Nat→List Int
 | 0=>[]
 | n + 1=>iY nodes n ++ [aHa nodes (iY nodes n) n]
def okU (nodes:List GNode):Nat→Bool
 | 0=>true
 | n + 1=>okU nodes n && (nI nodes n && decide (aHa nodes (iY nodes n) n ≤ 10))
def nL (nodes:List GNode) (k:Nat):Int:=aHa nodes (iY nodes k) k
theorem fQ (nodes:List GNode):∀ n,(iY nodes n).length=n
 | 0=>rfl
 | n + 1=>by simp [iY,fQ nodes n]
theorem lS (nodes:List GNode):∀ (n j:Nat),j < n→(iY nodes n)[j]? = some (nL nodes j)
 | 0,j,h=>by omega
 | n + 1,j,h=>by
  simp only [iY]
  rcases Nat.lt_or_ge j n with h1 | h1
  ·rw [List.getElem?_append_left (by rw [fQ];exact h1)]
   exact lS nodes n j h1
  have:j=n:=by omega
  subst this
  rw [List.getElem?_append_right (by rw [fQ];omega),fQ]
  simp [nL]
theorem rY {nodes : List GNode} : ∀ {n m : Nat}, m ≤ n → okU nodes n = true → okU nodes m = true
  | 0, m, h, h1 => by have : m = 0 := by omega
                      subst this; rfl
  | n + 1, m, h, h1 => by
    by_cases e : m = n + 1
    · subst e; exact h1
    · simp only [okU, Bool.and_eq_true] at h1
      exact rY (by omega) h1.1
theorem gP {nodes:List GNode} {n j:Nat} (h:okU nodes n=true) (hj:j < n):nI nodes j=true∧nL nodes j ≤ 10:=by
 have:=rY (show j + 1 ≤ n by omega) h
 simp only [okU,Bool.and_eq_true,decide_eq_true_eq] at this
 exact this.2
theorem mx_ge (l:List Int) (g:Int→Int):∀ d,d ≤ l.foldl (fun d kid=>mx d (g kid)) d∧∀ kid ∈ l,g kid ≤ l.foldl (fun d kid=>mx d (g kid)) d:=by
 induction l with
 | nil=>intro d;simp
 | cons x l ih =>
  intro d
  rw [List.foldl_cons]
  obtain ⟨h1,h2⟩:=ih (mx d (g x))
  have h3:d ≤ mx d (g x)∧g x ≤ mx d (g x):=by unfold mx;split<;>omega
  refine ⟨by omega,fun kid hk=>?_⟩
  rcases List.mem_cons.1 hk with rfl | hk
  ·omega
  exact h2 kid hk
theorem fL (nodes:List GNode) (k:Nat):1 ≤ nL nodes k:=by
 unfold nL aHa
 split
 ·exact (mx_ge _ _ 1).1
 omega
theorem mO {nodes:List GNode} {k:Nat} (h:nI nodes k=true):∃ (hk:k < nodes.length),inB nodes[k].Kind 1 20=true∧inB nodes[k].Kids.length (jB nodes[k].Kind).1 (jB nodes[k].Kind).2=true∧(∀ (i:Nat) (hi:i < nodes[k].Kids.length),(0 ≤ nodes[k].Kids[i]∧nodes[k].Kids[i] < k)∧¬ nodes[k].Kids[i] ∈ nodes[k].Kids.take i∧∃ y,nodes[(nodes[k].Kids[i]).toNat]? = some y∧uY nodes[k].Kind i y.Kind=true)∧aNe nodes[k]=true∧aHy nodes[k]=true:=by
 unfold nI at h
 split at h
 ·cases h
 rename_i x hx
 obtain ⟨hk,hxe⟩:=List.getElem?_eq_some_iff.1 hx
 subst hxe
 simp only [Bool.and_eq_true] at h
 obtain ⟨h1,h2,h3,h4,h5⟩:=h
 refine ⟨hk,h1,h2,fun i hi=>?_,h4,h5⟩
 have:=List.all_eq_true.1 h3 i (List.mem_range.2 hi)
 rw [aGx hi] at this
 simp only [Bool.and_eq_true,inB_iff,Bool.not_eq_true',List.contains_eq_mem,decide_eq_false_iff_not] at this
 obtain ⟨g1,g2,g3⟩:=this
 refine ⟨⟨g1.1,by omega⟩,g2,?_⟩
 split at g3
 ·rename_i y hy;exact ⟨y,hy,g3⟩
 cases g3
theorem eB {nodes:List GNode} {k:Nat} (h:nI nodes k=true) {x:GNode} (hx:nodes[k]? = some x):∀ kid ∈ x.Kids,0 ≤ kid∧kid < k:=by
 obtain ⟨hk,_,_,h3,_⟩:=mO h
 obtain ⟨_,hxe⟩:=List.getElem?_eq_some_iff.1 hx
 subst hxe
 intro kid hm
 obtain ⟨i,hi,rfl⟩:=List.mem_iff_getElem.1 hm
 exact (h3 i hi).1
theorem dC {nodes:List GNode} {k:Nat} (h:nI nodes k=true) {x:GNode} (hx:nodes[k]? = some x):x.Kids.length ≤ 12:=by
 obtain ⟨hk,_,h2,_⟩:=mO h
 obtain ⟨_,hxe⟩:=List.getElem?_eq_some_iff.1 hx
 subst hxe
 have:=inB_iff.1 h2
 have:=aD6 nodes[k].Kind
 omega
theorem sF {nodes:List GNode} {k:Nat} (h:nI nodes k=true) {x:GNode} (hx:nodes[k]? = some x) {kid:Int} (hm:kid ∈ x.Kids):nL nodes kid.toNat < nL nodes k:=by
 have hb:=eB h hx kid hm
 have:nL nodes k=x.Kids.foldl (fun d kid=>mx d ((iY nodes k).getD kid.toNat 0 + 1)) 1:=by unfold nL aHa;rw [hx]
 rw [this]
 have h2:=(mx_ge x.Kids (fun kid=>(iY nodes k).getD kid.toNat 0 + 1) 1).2 kid hm
 have h3:(iY nodes k).getD kid.toNat 0=nL nodes kid.toNat:=by
  rw [List.getD_eq_getElem?_getD,lS nodes k kid.toNat (by omega)];rfl
 rw [h3] at h2
 omega
theorem aJw (nodes:List GNode) (k:Nat) (x:GNode) (hx:nodes[k]? = some x) (hok:okU nodes k=true) (hn:nI nodes k=true):aG (eL (iY nodes k) x) (1,0)=some (nL nodes k):=by
 have hkl:=dC hn hx
 have hkb:=eB hn hx
 have hg:∀ kid ∈ x.Kids,(iY nodes k).getD kid.toNat 0=nL nodes kid.toNat:=fun kid hm=>by
  have:=hkb kid hm
  rw [List.getD_eq_getElem?_getD,lS nodes k kid.toNat (by omega)];rfl
 have:=aT x.Kids (fun (d:Int) j=>(d,(j:Int))) (fun j d=>True) (fun d kid=>.inl (mx d ((iY nodes k).getD kid.toNat 0 + 1))) id (eL (iY nodes k) x) (fun d j hj _=>by
  left
  have hm:=List.getElem_mem hj
  have hb:=hkb _ hm
  have hd:=gP hok (show x.Kids[j].toNat < k by omega)
  have hp:=fL nodes x.Kids[j].toNat
  refine ⟨_,rfl,?_,trivial⟩
  have hlt:x.Kids[j].toNat < (iY nodes k).length:=by rw [fQ];omega
  have hge:(iY nodes k)[x.Kids[j].toNat]=nL nodes x.Kids[j].toNat:=by
   have:=lS nodes k x.Kids[j].toNat (by omega)
   rw [List.getElem?_eq_getElem hlt] at this
   exact Option.some.inj this
  simp only [eL,aB hj,if_true,aD hj,Option.bind_some]
  rw [cK hb.1 (by rw [fQ];omega),hge]
  simp only [Option.bind_some,w64 (n:=nL nodes x.Kids[j].toNat + 1) (by omega) (by omega),aJ hj (by omega),hg _ hm]
  rfl) (fun d _=>by simp [eL]) 1 trivial
 rw [bB] at this
 unfold nL aHa
 rw [hx]
 exact this
theorem aBo (nodes:List GNode) (hn:nodes.length ≤ 1048576) (k:Int):nA nodes k=some (if 0 ≤ k∧k < nodes.length∧okU nodes (k.toNat + 1)=true then (iY nodes (k.toNat + 1),true) else ([],false)):=by
 unfold nA
 simp only [cF,Option.bind_some,jI hn]
 by_cases hi:inB k 0 ((nodes.length:Int) - 1)=true
 ·have hi':=inB_iff.1 hi
  have hkk:k=((k.toNat:Nat):Int):=by omega
  have hk:k.toNat < nodes.length:=by omega
  generalize k.toNat=m at *
  subst hkk
  simp only [hi,Bool.not_true,Bool.false_eq_true,if_false]
  obtain ⟨r,h1,h2⟩:=dQ (f:=gF nodes m) (fun s:List Int × Int=>∃ i:Nat,s.2=i∧i ≤ m + 1∧s.1=iY nodes i∧okU nodes i=true) (fun s=>m + 1 - s.2.toNat) (fun r=>r=if okU nodes (m + 1)=true then Sum.inl (iY nodes (m + 1)) else Sum.inr ([],false)) (by
   rintro ⟨out,i⟩ ⟨i,rfl,hle,ho,hok⟩
   simp only at ho hle
   subst ho
   by_cases hlt:i ≤ m
   ·have hd:decide ((i:Int) ≤ (m:Int))=true:=by simp only [decide_eq_true_eq];omega
    have hil:i < nodes.length:=by omega
    simp only [gF,hd,if_true,aBr nodes hn,Option.bind_some,Int.toNat_natCast]
    have h0:decide ((0:Int) ≤ (i:Int))=true:=by simp
    rw [h0,Bool.true_and]
    cases hnb:nI nodes i with
    | false =>
     right
     refine ⟨.inr ([],false),by simp,?_⟩
     have:okU nodes (m + 1)=false:=by
      rw [Bool.eq_false_iff]
      intro h
      rw [(gP h (show i < m + 1 by omega)).1] at hnb
      cases hnb
     rw [this];rfl
    | true =>
     simp only [Bool.not_true,Bool.false_eq_true,if_false,aD hil,Option.bind_some]
     rw [aJw nodes i _ (List.getElem?_eq_getElem hil) hok hnb]
     simp only [Option.bind_some]
     by_cases hd10:nL nodes i > 10
     ·right
      rw [if_pos (by simpa using hd10)]
      refine ⟨.inr ([],false),rfl,?_⟩
      have:okU nodes (m + 1)=false:=by
       rw [Bool.eq_false_iff]
       intro h
       have:=(gP h (show i < m + 1 by omega)).2
       omega
      rw [this];rfl
     left
     rw [if_neg (by simpa using hd10),aPs (by rw [fQ];omega) (by omega)]
     refine ⟨(iY nodes (i + 1),((i + 1:Nat):Int)),?_,⟨i + 1,rfl,by omega,rfl,?_⟩,by simp only [Int.toNat_natCast];omega⟩
     ·simp only [Option.bind_some,aJ hil hn]
      rfl
     simp only [okU,hok,hnb,Bool.true_and,decide_eq_true_eq]
     show nL nodes i ≤ 10
     omega
   right
   have:i=m + 1:=by omega
   subst this
   have hd:decide (((m + 1:Nat):Int) ≤ (m:Int))=false:=by simp only [decide_eq_false_iff_not];omega
   refine ⟨.inl (iY nodes (m + 1)),by simp only [gF,hd,Bool.false_eq_true,if_false],?_⟩
   rw [hok];rfl) ([],0) ⟨0,rfl,by omega,rfl,rfl⟩
  rw [h1,h2]
  by_cases hok:okU nodes (m + 1)=true
  ·rw [if_pos hok,if_pos (show 0 ≤ (m:Int)∧(m:Int) < nodes.length∧okU nodes (m + 1)=true from ⟨by omega,by omega,hok⟩)];rfl
  rw [if_neg hok,if_neg (show ¬ (0 ≤ (m:Int)∧(m:Int) < nodes.length∧okU nodes (m + 1)=true) from fun h=>hok h.2.2)];rfl
 have hi':=inB_false.1 (Bool.eq_false_iff.2 hi)
 simp only [Bool.eq_false_iff.2 hi,Bool.not_false,if_true]
 rw [if_neg (show ¬ (0 ≤ k∧k < nodes.length∧okU nodes (k.toNat + 1)=true) from fun h=>hi' ⟨h.1,by omega⟩)]
def oD (nodes:List GNode) (k:Int):Int:=if 0 ≤ k∧k < nodes.length∧okU nodes (k.toNat + 1)=true then nL nodes k.toNat else 0
theorem kR (nodes:List GNode) (hn:nodes.length ≤ 1048576) (k:Int):gU nodes k=some (oD nodes k):=by
 unfold gU oD
 rw [aBo nodes hn]
 by_cases h:0 ≤ k∧k < nodes.length∧okU nodes (k.toNat + 1)=true
 ·rw [if_pos h,if_pos h]
  have hlt:k.toNat < (iY nodes (k.toNat + 1)).length:=by rw [fQ];omega
  simp only [Option.bind_some,Bool.not_true,Bool.false_eq_true,if_false]
  rw [cK h.1 (by rw [fQ];omega)]
  have:=lS nodes (k.toNat + 1) k.toNat (by omega)
  rw [List.getElem?_eq_getElem hlt] at this
  simp only [Option.bind_some]
  exact this
 rw [if_neg h,if_neg h];rfl
def kE (nodes:List GNode) (n:Nat):List Int:=(List.range n).map fun j=>if okU nodes (j + 1)=true then nL nodes j else 0
theorem vP (nodes:List GNode) (n:Nat):(kE nodes n).length=n:=by simp [kE]
theorem rW (nodes:List GNode) {n j:Nat} (h:j < n):(kE nodes n)[j]? = some (if okU nodes (j + 1)=true then nL nodes j else 0):=by
 unfold kE
 rw [List.getElem?_map,List.getElem?_range h];rfl
theorem aEq {nodes:List GNode} {n:Nat} (h:okU nodes n=true):kE nodes n=iY nodes n:=by
 apply List.ext_getElem?
 intro j
 by_cases hj:j < n
 ·rw [rW nodes hj,lS nodes n j hj,if_pos (rY (by omega) h)]
 rw [List.getElem?_eq_none (by rw [vP];omega),List.getElem?_eq_none (by rw [fQ];omega)]
theorem aJ7 (nodes:List GNode) (k:Nat) (hk:k < nodes.length) (hok:okU nodes k=true) (hn:nI nodes k=true):aG (bG nodes (iY nodes k) k) (1,0)=some (nL nodes k):=by
 have hx:nodes[k]? = some nodes[k]:=List.getElem?_eq_getElem hk
 generalize hgx:nodes[k]=x at *
 have hkl:=dC hn hx
 have hkb:=eB hn hx
 have hg:∀ kid ∈ x.Kids,(iY nodes k).getD kid.toNat 0=nL nodes kid.toNat:=fun kid hm=>by
  have:=hkb kid hm
  rw [List.getD_eq_getElem?_getD,lS nodes k kid.toNat (by omega)];rfl
 have hgk:aM nodes (k:Int)=some x:=by rw [aD hk,hgx]
 have:=aT x.Kids (fun (d:Int) j=>(d,(j:Int))) (fun j d=>0 < d) (fun d kid=>.inl (mx d ((iY nodes k).getD kid.toNat 0 + 1))) id (bG nodes (iY nodes k) k) (fun d j hj hpos=>by
  left
  have hm:=List.getElem_mem hj
  have hb:=hkb _ hm
  have hd:=gP hok (show x.Kids[j].toNat < k by omega)
  have hp:=fL nodes x.Kids[j].toNat
  refine ⟨_,rfl,?_,by unfold mx;split<;>omega⟩
  have hlt:x.Kids[j].toNat < (iY nodes k).length:=by rw [fQ];omega
  have hge:(iY nodes k)[x.Kids[j].toNat]=nL nodes x.Kids[j].toNat:=by
   have:=lS nodes k x.Kids[j].toNat (by omega)
   rw [List.getElem?_eq_getElem hlt] at this
   exact Option.some.inj this
  have hp0:decide (d > 0)=true:=by simpa using hpos
  have hgi:aM (iY nodes k) x.Kids[j]=some (nL nodes x.Kids[j].toNat):=by rw [cK hb.1 (by rw [fQ];omega),hge]
  simp only [bG,hp0,if_true,hgk,Option.bind_some,aB hj,aD hj,hgi,w64 (n:=nL nodes x.Kids[j].toNat + 1) (by omega) (by omega),aJ hj (by omega),hg _ hm]
  unfold mx
  by_cases hgt:nL nodes x.Kids[j].toNat + 1 > d
  ·rw [if_pos (by simpa using hgt),if_pos hgt]
  ·rw [if_neg (by simpa using hgt),if_neg hgt]) (fun d hd=>by
  have hp0:decide (d > 0)=true:=by simpa using hd
  simp [bG,hp0,hgk]) 1 (by omega)
 rw [bB] at this
 unfold nL aHa
 rw [hx]
 exact this
theorem tZ (nodes:List GNode) (hn:nodes.length ≤ 1048576) (k:Nat) (hk:k < nodes.length):gX nodes k=some (kE nodes (k + 1)):=by
 unfold gX
 obtain ⟨r,h1,h2⟩:=dQ (f:=dY nodes k) (fun s:List Int × Int=>∃ i:Nat,s.2=i∧i ≤ k + 1∧s.1=kE nodes i) (fun s=>k + 1 - s.2.toNat) (fun r=>r=kE nodes (k + 1)) (by
  rintro ⟨out,i⟩ ⟨i,rfl,hle,ho⟩
  simp only at ho hle
  subst ho
  by_cases hlt:i ≤ k
  ·left
   have hd:decide ((i:Int) ≤ (k:Int))=true:=by simp only [decide_eq_true_eq];omega
   have hil:i < nodes.length:=by omega
   have hd2:decide ((i:Int) < (nodes.length:Int))=true:=by simp only [decide_eq_true_eq];omega
   have h0:decide ((0:Int) ≤ (i:Int))=true:=by simp
   refine ⟨(kE nodes (i + 1),((i + 1:Nat):Int)),?_,⟨i + 1,rfl,by omega,rfl⟩,by simp only [Int.toNat_natCast];omega⟩
   simp only [dY,hd,hd2,if_true,aB4 nodes hn,Option.bind_some,Int.toNat_natCast,h0,Bool.true_and]
   -- is it right so far?
   have hflag:(if (!(nI nodes i))=true then some true else if (decide ((i:Int) > 0))=true then (aM (kE nodes i) (IntKind.wrap .i64 ((i:Int) - 1))).bind fun e32=>some (e32 == 0) else some false)=some (!(nI nodes i && okU nodes i)):=by
    cases hnb:nI nodes i with
    | false=>rfl
    | true =>
     simp only [Bool.not_true,Bool.false_eq_true,if_false,Bool.true_and]
     by_cases hz:i=0
     ·subst hz;rfl
     have hp:decide ((i:Int) > 0)=true:=by simp only [decide_eq_true_eq];omega
     have hw:IntKind.wrap .i64 ((i:Int) - 1)=((i - 1:Nat):Int):=by rw [w64 (by omega) (by omega)];omega
     rw [if_pos hp,hw,aE1,rW nodes (show i - 1 < i by omega),show i - 1 + 1=i by omega]
     simp only [Option.bind_some]
     cases hok:okU nodes i with
     | true =>
      have:=fL nodes (i - 1)
      have hne:¬ nL nodes (i - 1)=0:=by omega
      simp [hne]
     | false=>simp
   rw [hflag]
   simp only [Option.bind_some]
   have hfin:(Option.bind (if (!(nI nodes i && okU nodes i))=true then some 0 else some (1:Int)) fun deep36=>Option.bind (aG (bG nodes (kE nodes i) i) (deep36,0)) fun deep62=>Option.bind (if (decide (deep62 > 10))=true then some 0 else some deep62) fun deep68=>(mH 8 (kE nodes i) [deep68]).bind fun l69=>some l69)=some (kE nodes (i + 1)):=by
    have hsucc:kE nodes (i + 1)=kE nodes i ++ [if okU nodes (i + 1)=true then nL nodes i else 0]:=by
     unfold kE;rw [List.range_succ,List.map_append];rfl
    have happ:∀ z:Int,mH 8 (kE nodes i) [z]=some (kE nodes i ++ [z]):=fun z=>aPs (by rw [vP];omega) (by omega)
    cases hb:(nI nodes i && okU nodes i) with
    | true =>
     simp only [Bool.and_eq_true] at hb
     simp only [Bool.not_true,Bool.false_eq_true,if_false,Option.bind_some]
     rw [aEq hb.2,aJ7 nodes i hil hb.2 hb.1,← aEq hb.2]
     simp only [Option.bind_some]
     rw [hsucc]
     by_cases hd10:nL nodes i > 10
     ·have hf:okU nodes (i + 1)=false:=by
       rw [Bool.eq_false_iff]
       intro h
       have:=(gP h (Nat.lt_succ_self i)).2
       omega
      rw [if_pos (by simpa using hd10),hf]
      simp only [Option.bind_some,happ,Bool.false_eq_true,if_false]
     have hf:okU nodes (i + 1)=true:=by
      simp only [okU,hb.1,hb.2,Bool.true_and,decide_eq_true_eq]
      show nL nodes i ≤ 10
      omega
     rw [if_neg (by simpa using hd10),hf]
     simp only [Option.bind_some,happ,if_true]
    | false =>
     have hf:okU nodes (i + 1)=false:=by
      rw [Bool.eq_false_iff]
      intro h
      simp only [okU,Bool.and_eq_true] at h
      rw [h.1,h.2.1] at hb
      cases hb
     simp only [Bool.not_false,if_true,Option.bind_some]
     rw [jR (r:=(0:Int)) (by simp [bG])]
     simp only [Option.bind_some]
     rw [hsucc,hf]
     simp [happ]
   have:=congrArg (fun z=>Option.bind z fun out70:List Int=>(some (Sum.inl (out70,IntKind.wrap .i64 ((i:Int) + 1))):Option ((List Int × Int) ⊕ List Int))) hfin
   simp only [Option.bind_some,aJ hil hn] at this
   rw [aJ hil hn]
   exact this
  right
  have:i=k + 1:=by omega
  subst this
  have hd:decide (((k + 1:Nat):Int) ≤ (k:Int))=false:=by simp only [decide_eq_false_iff_not];omega
  exact ⟨_,by simp only [dY,hd,Bool.false_eq_true,if_false,Option.bind_some],rfl⟩) ([],0) ⟨0,rfl,by omega,rfl⟩
 rw [h1,h2]
 rfl
theorem nV (nodes:List GNode) (hn:nodes.length ≤ 1048576) (k:Int):iU nodes k=some (oD nodes k):=by
 unfold iU oD
 simp only [eU,Option.bind_some,jI hn]
 by_cases hi:inB k 0 ((nodes.length:Int) - 1)=true
 ·have hi':=inB_iff.1 hi
  have hkk:k=((k.toNat:Nat):Int):=by omega
  have hk:k.toNat < nodes.length:=by omega
  generalize k.toNat=m at *
  subst hkk
  simp only [hi,Bool.not_true,Bool.false_eq_true,if_false]
  rw [tZ nodes hn m hk]
  simp only [Option.bind_some,aE1]
  rw [rW nodes (Nat.lt_succ_self m)]
  by_cases hok:okU nodes (m + 1)=true
  ·rw [if_pos hok,if_pos (show 0 ≤ (m:Int)∧(m:Int) < nodes.length∧okU nodes (m + 1)=true from ⟨by omega,by omega,hok⟩)];rfl
  rw [if_neg hok,if_neg (show ¬ (0 ≤ (m:Int)∧(m:Int) < nodes.length∧okU nodes (m + 1)=true) from fun h=>hok h.2.2)];rfl
 have hi':=inB_false.1 (Bool.eq_false_iff.2 hi)
 simp only [Bool.eq_false_iff.2 hi,Bool.not_false,if_true]
 rw [if_neg (show ¬ (0 ≤ k∧k < nodes.length∧okU nodes (k.toNat + 1)=true) from fun h=>hi' ⟨h.1,by omega⟩)]
end Go.OM
namespace Go.OM
theorem aC8:eK=1048576:=rfl
theorem aCm {nodes:List GNode} {k:Int} (h:oD nodes k ≠ 0):0 ≤ k∧k < nodes.length∧okU nodes (k.toNat + 1)=true:=by
 unfold oD at h
 split at h
 ·assumption
 exact absurd rfl h
end Go.OM
