import Derived.Test.YtaikgmffaohobaaGreatDoorTB
import Derived.KernelRfl
set_option linter.unusedVariables false
set_option linter.unusedSimpArgs false
set_option linter.unusedVariables false
set_option linter.unusedSimpArgs false
set_option maxHeartbeats 8000000
namespace Go.Proofs.T
open Go.OM
theorem res113:Tryz.f113.results.toList=[.tmp 4]:=rfl
theorem ent113:aE E.P 113:=eO Tryz.func113 (by simp [Tryz.f113]) rfl
theorem impl_under_ok (nodes1:List GNode) (k2:Int) {r0:List Int} (h:mD nodes1 k2=some r0):Ok E 113 [.val (.sl false 4 (List.map (GNode.enc false) nodes1)),.val (vi k2)] [.sl true 1 (List.map vi r0)] []:=by
 refine oB (fn:=Tryz.f113) Tryz.func113 rfl (by simp [Tryz.f113]) fun C hN hP=>?_
 have u:∀ l,pinK [] l=true→pinB C.pin l=true:=pO (by rw [hP];rfl)
 have y:C.N=42:=hN
 clear hN
 unfold mD at h
 refine SWp.sR rfl (u _ rfl) fun K q=>?_
 refine wC rfl fun K q=>?_;simp [y];refine q _ ?_;clear q
 refine wN (q _ ?_);clear q
 refine SWp.sR rfl (u _ rfl) fun K q=>?_
 iterate 3 (refine wC rfl fun K q=>?_;simp [y];refine q _ ?_;clear q)
 refine wN (q _ ?_);clear q
 obtain ⟨out34,hj3,h⟩:=bS h
 refine SWp.seqC [5] [] (fun _:Unit=>⟨[(5,.t (.sl true 1 (List.map vi out34)))],[]⟩) (fun _=>True) (fun _ _=>?_) fun K4 hK4=>?_
 rotate_left
 ·refine SWp.sR rfl (u _ rfl) fun K q=>?_
  refine wC rfl fun K q=>?_;simp [y];refine q _ ?_;clear q
  refine wN (q _ ?_);clear q
  refine SWp.block ?_
  refine SWp.loopO [] [0,5,6] [] (fun v:(List Int) × Int=>⟨[(0,.t (.sl false 4 (List.map (GNode.enc false) nodes1))),(5,.t (.sl true 1 (List.map vi v.1))),(6,.t (vi v.2))],[]⟩) (fP nodes1) _ ([k2],0) hj3 (by simp [y]) ?_
  intro g s10 h8 ho9
  obtain ⟨out6,i7⟩:=g
  simp only [fP] at h8
  try dsimp only
  refine SWp.seq ?_
  refine SWp.sR rfl (u _ rfl) fun K q=>?_
  iterate 4 (refine wC rfl fun K q=>?_;simp [y];refine q _ ?_;clear q)
  refine wN (q _ ?_);clear q
  rcases aA h8 with ⟨hb11,h8⟩ | ⟨hb12,h8⟩
  ·refine SWp.cT' (b:=decide (i7 < (out6.length:Int))) (by simp) hb11 ?_
   refine SWp.skip ?_
   show SWp E C _ _ _
   obtain ⟨out32,hj13,h8⟩:=bS h8
   refine SWp.seqC [0,5,6] [] (fun _:Unit=>⟨[(0,.t (.sl false 4 (List.map (GNode.enc false) nodes1))),(5,.t (.sl true 1 (List.map vi out32))),(6,.t (vi i7))],[]⟩) (fun _=>True) (fun _ _=>?_) fun K14 hK14=>?_
   rotate_left
   ·refine SWp.block ?_
    refine SWp.sR rfl (u _ rfl) fun K q=>?_
    iterate 3 (refine wC rfl fun K q=>?_;simp [y];refine q _ ?_;clear q)
    obtain ⟨e16,he16,hj13⟩:=bS hj13
    obtain ⟨he16a,he16b,he16c,he16d⟩:=gS he16
    iterate 2 (refine wC rfl fun K q=>?_;simp [y,he16a,he16b,he16c,he16d];refine q _ ?_;clear q)
    obtain ⟨e17,he17,hj13⟩:=bS hj13
    obtain ⟨he17a,he17b,he17c,he17d⟩:=gS he17
    iterate 5 (refine wC rfl fun K q=>?_;simp [y,he16a,he16b,he16c,he16d,he17a,he17b,he17c,he17d];refine q _ ?_;clear q)
    refine wN (q _ ?_);clear q
    refine SWp.block ?_
    refine SWp.loopO [] [0,5,6,24,25,26] [] (fun v:(List Int) × Int=>⟨[(0,.t (.sl false 4 (List.map (GNode.enc false) nodes1))),(5,.t (.sl true 1 (List.map vi v.1))),(6,.t (vi i7)),(24,.t (.sl false 1 (List.map vi e17.Kids))),(25,.t (vi (e17.Kids.length:Int))),(26,.t (vi v.2))],[]⟩) (fO e17) _ (out6,0) hj13 (by simp [y]) ?_
    intro g s22 h20 ho21
    obtain ⟨out18,v19⟩:=g
    simp only [fO] at h20
    try dsimp only
    refine SWp.sR rfl (u _ rfl) fun K q=>?_
    refine wC rfl fun K q=>?_;simp [y];refine q _ ?_;clear q
    refine wN (q _ ?_);clear q
    refine SWp.seq ?_
    rcases aA h20 with ⟨hb23,h20⟩ | ⟨hb24,h20⟩
    ·refine SWp.cT' (b:=decide (v19 < (e17.Kids.length:Int))) (by simp) hb23 ?_
     refine SWp.skip ?_
     show SWp E C _ _ _
     refine SWp.seq ?_
     refine SWp.block ?_
     refine SWp.sR rfl (u _ rfl) fun K q=>?_
     obtain ⟨e25,he25,h20⟩:=bS h20
     obtain ⟨he25a,he25b,he25c,he25d⟩:=gS he25
     iterate 3 (refine wC rfl fun K q=>?_;simp [y,he25a,he25b,he25c,he25d];refine q _ ?_;clear q)
     refine wN (q _ ?_);clear q
     refine SWp.sR rfl (u _ rfl) fun K q=>?_
     iterate 2 (refine wC rfl fun K q=>?_;simp [y];refine q _ ?_;clear q)
     obtain ⟨r26,hc27,h20⟩:=bS h20
     refine wL [(.bor,.tmp 30),(.take,.tmp 31)] rfl rfl ent64 (eU _ _ hc27) fun K q=>?_;simp [y];refine q _ ?_;clear q
     refine wC rfl fun K q=>?_;simp [y];refine q _ ?_;clear q
     refine wN (q _ ?_);clear q
     rcases aA h20 with ⟨hb28,h20⟩ | ⟨hb29,h20⟩
     ·refine SWp.cT' (b:=!r26) (by simp) hb28 ?_
      refine SWp.reg rfl (u _ rfl) fun K q=>?_
      iterate 3 (refine wC rfl fun K q=>?_;simp [y];refine q _ ?_;clear q)
      obtain ⟨l30,hl30,h20⟩:=bS h20
      obtain ⟨hl30a,hl30b,hl30d⟩:=aS hl30
      have hl30f:List.map vi out18 ++ List.map vi [e25]=List.map vi l30:=cC (f:=vi) hl30d
      simp [eSl] at hl30a hl30b hl30f
      iterate 2 (refine wC rfl fun K q=>?_;simp [y,hl30a,hl30b,hl30f];refine q _ ?_;clear q)
      refine wN (q _ ?_);clear q
      show SWp E C _ _ _
      refine SWp.reg rfl (u _ rfl) fun K q=>?_
      iterate 2 (refine wC rfl fun K q=>?_;simp [y];refine q _ ?_;clear q)
      refine wN (q _ ?_);clear q
      cases h20
      exact ⟨_,[],rfl,by simp [y]⟩
     ·refine SWp.cF' (b:=!r26) (by simp) hb29 ?_
      refine SWp.skip ?_
      show SWp E C _ _ _
      refine SWp.reg rfl (u _ rfl) fun K q=>?_
      iterate 2 (refine wC rfl fun K q=>?_;simp [y];refine q _ ?_;clear q)
      refine wN (q _ ?_);clear q
      cases h20
      exact ⟨_,[],rfl,by simp [y]⟩
    ·refine SWp.cF' (b:=decide (v19 < (e17.Kids.length:Int))) (by simp) hb24 ?_
     refine SWp.exit ?_
     have h31:=congrArg some (ho21 _ (Option.some.inj h20).symm)
     cases h31
     exact hK14 _ () [] trivial (by simp [y])
   refine SWp.reg rfl (u _ rfl) fun K q=>?_
   iterate 3 (refine wC rfl fun K q=>?_;simp [y];refine q _ ?_;clear q)
   refine wN (q _ ?_);clear q
   cases h8
   exact ⟨_,[],rfl,by simp [y]⟩
  ·refine SWp.cF' (b:=decide (i7 < (out6.length:Int))) (by simp) hb12 ?_
   refine SWp.exit ?_
   have h33:=congrArg some (ho9 _ (Option.some.inj h8).symm)
   cases h33
   exact hK4 _ () [] trivial (by simp [y])
 refine SWp.sR rfl (u _ rfl) fun K q=>?_
 refine wC rfl fun K q=>?_;simp [y];refine q _ ?_;clear q
 obtain ⟨q35,hc36,h⟩:=bS h
 refine iK rfl ent65 (nN _ hc36) fun K q=>?_;simp [y];refine q _ ?_;clear q
 refine wN (q _ ?_);clear q
 refine SWp.sR rfl (u _ rfl) fun K q=>?_
 iterate 2 (refine wC rfl fun K q=>?_;simp [y];refine q _ ?_;clear q)
 refine wN (q _ ?_);clear q
 cases h
 refine SWp.ret ?_
 simp [aC,iB,res113]
theorem res98:Tryz.f98.results.toList=[.tmp 4]:=rfl
theorem ent98:aE E.P 98:=eO Tryz.func98 (by simp [Tryz.f98]) rfl
theorem impl_Under_ok (p1:GProgram) (k2:Int) {r0:List Int} (h:mG p1 k2=some r0):Ok E 98 [.val (GProgram.enc false p1),.val (vi k2)] [.sl true 1 (List.map vi r0)] []:=by
 refine oB (fn:=Tryz.f98) Tryz.func98 rfl (by simp [Tryz.f98]) fun C hN hP=>?_
 have u:∀ l,pinK [] l=true→pinB C.pin l=true:=pO (by rw [hP];rfl)
 have y:C.N=14:=hN
 clear hN
 unfold mG at h
 refine SWp.sR rfl (u _ rfl) fun K q=>?_
 iterate 2 (refine wC rfl fun K q=>?_;simp [y];refine q _ ?_;clear q)
 refine wN (q _ ?_);clear q
 refine SWp.seq ?_
 refine SWp.sR rfl (u _ rfl) fun K q=>?_
 iterate 3 (refine wC rfl fun K q=>?_;simp [y];refine q _ ?_;clear q)
 obtain ⟨r3,hc4,h⟩:=bS h
 refine wL [(.take,.tmp 6),(.take,.tmp 7)] rfl rfl ent60 (pH _ _ hc4) fun K q=>?_;simp [y];refine q _ ?_;clear q
 refine wC rfl fun K q=>?_;simp [y];refine q _ ?_;clear q
 refine wN (q _ ?_);clear q
 rcases aA h with ⟨hb5,h⟩ | ⟨hb6,h⟩
 ·refine SWp.cT' (b:=r3 == 0) (by simp) hb5 ?_
  refine SWp.sR rfl (u _ rfl) fun K q=>?_
  refine wC rfl fun K q=>?_;simp [y];refine q _ ?_;clear q
  refine wN (q _ ?_);clear q
  cases h
  refine SWp.ret ?_
  simp [aC,iB,res98]
 ·refine SWp.cF' (b:=r3 == 0) (by simp) hb6 ?_
  refine SWp.skip ?_
  show SWp E C _ _ _
  refine SWp.sR rfl (u _ rfl) fun K q=>?_
  iterate 3 (refine wC rfl fun K q=>?_;simp [y];refine q _ ?_;clear q)
  obtain ⟨r7,hc8,h⟩:=bS h
  refine wL [(.take,.tmp 11),(.take,.tmp 12)] rfl rfl ent113 (impl_under_ok _ _ hc8) fun K q=>?_;simp [y];refine q _ ?_;clear q
  refine wC rfl fun K q=>?_;simp [y];refine q _ ?_;clear q
  refine wN (q _ ?_);clear q
  cases h
  refine SWp.ret ?_
  simp [aC,iB,res98]
theorem res99:Tryz.f99.results.toList=[.tmp 4]:=rfl
theorem ent99:aE E.P 99:=eO Tryz.func99 (by simp [Tryz.f99]) rfl
theorem impl_roots_ok (p1:GProgram) (fn2:Int) {r0:List Int} (h:mF p1 fn2=some r0):Ok E 99 [.val (GProgram.enc false p1),.val (vi fn2)] [.sl true 1 (List.map vi r0)] []:=by
 refine oB (fn:=Tryz.f99) Tryz.func99 rfl (by simp [Tryz.f99]) fun C hN hP=>?_
 have u:∀ l,pinK [] l=true→pinB C.pin l=true:=pO (by rw [hP];rfl)
 have y:C.N=37:=hN
 clear hN
 unfold mF at h
 refine SWp.sR rfl (u _ rfl) fun K q=>?_
 iterate 2 (refine wC rfl fun K q=>?_;simp [y];refine q _ ?_;clear q)
 refine wN (q _ ?_);clear q
 refine SWp.seq ?_
 refine SWp.sR rfl (u _ rfl) fun K q=>?_
 iterate 5 (refine wC rfl fun K q=>?_;simp [y];refine q _ ?_;clear q)
 obtain ⟨r3,hc4,h⟩:=bS h
 refine wL [(.take,.tmp 6),(.take,.const (.int .i64 0)),(.take,.tmp 10)] rfl rfl lQ (aQ _ _ _ hc4) fun K q=>?_;simp [y];refine q _ ?_;clear q
 refine wC rfl fun K q=>?_;simp [y];refine q _ ?_;clear q
 refine wN (q _ ?_);clear q
 rcases aA h with ⟨hb5,h⟩ | ⟨hb6,h⟩
 ·refine SWp.cT' (b:=!r3) (by simp) hb5 ?_
  refine SWp.sR rfl (u _ rfl) fun K q=>?_
  refine wC rfl fun K q=>?_;simp [y];refine q _ ?_;clear q
  refine wN (q _ ?_);clear q
  cases h
  refine SWp.ret ?_
  simp [aC,iB,res99]
 ·refine SWp.cF' (b:=!r3) (by simp) hb6 ?_
  refine SWp.skip ?_
  show SWp E C _ _ _
  refine SWp.sR rfl (u _ rfl) fun K q=>?_
  iterate 3 (refine wC rfl fun K q=>?_;simp [y];refine q _ ?_;clear q)
  obtain ⟨e7,he7,h⟩:=bS h
  obtain ⟨he7a,he7b,he7c,he7d⟩:=gS he7
  iterate 5 (refine wC rfl fun K q=>?_;simp [y,he7a,he7b,he7c,he7d];refine q _ ?_;clear q)
  refine wN (q _ ?_);clear q
  refine SWp.seq ?_
  refine SWp.sR rfl (u _ rfl) fun K q=>?_
  iterate 3 (refine wC rfl fun K q=>?_;simp [y];refine q _ ?_;clear q)
  obtain ⟨e8,he8,h⟩:=bS h
  obtain ⟨he8a,he8b,he8c,he8d⟩:=gS he8
  iterate 4 (refine wC rfl fun K q=>?_;simp [y,he8a,he8b,he8c,he8d];refine q _ ?_;clear q)
  refine wN (q _ ?_);clear q
  rcases aA h with ⟨hb9,h⟩ | ⟨hb10,h⟩
  ·refine SWp.cT' (b:=e8.Ret != (-1)) (by simp) hb9 ?_
   refine SWp.reg rfl (u _ rfl) fun K q=>?_
   iterate 4 (refine wC rfl fun K q=>?_;simp [y];refine q _ ?_;clear q)
   obtain ⟨e11,he11,h⟩:=bS h
   obtain ⟨he11a,he11b,he11c,he11d⟩:=gS he11
   iterate 4 (refine wC rfl fun K q=>?_;simp [y,he11a,he11b,he11c,he11d];refine q _ ?_;clear q)
   obtain ⟨l12,hl12,h⟩:=bS h
   obtain ⟨hl12a,hl12b,hl12d⟩:=aS hl12
   have hl12f:List.map vi [e7.Body] ++ List.map vi [e11.Ret]=List.map vi l12:=cC (f:=vi) hl12d
   simp [eSl] at hl12a hl12b hl12f
   iterate 2 (refine wC rfl fun K q=>?_;simp [y,he11a,he11b,he11c,he11d,hl12a,hl12b,hl12f];refine q _ ?_;clear q)
   refine wN (q _ ?_);clear q
   show SWp E C _ _ _
   refine SWp.sR rfl (u _ rfl) fun K q=>?_
   iterate 2 (refine wC rfl fun K q=>?_;simp [y];refine q _ ?_;clear q)
   refine wN (q _ ?_);clear q
   cases h
   refine SWp.ret ?_
   simp [aC,iB,res99]
  ·refine SWp.cF' (b:=e8.Ret != (-1)) (by simp) hb10 ?_
   refine SWp.skip ?_
   show SWp E C _ _ _
   refine SWp.sR rfl (u _ rfl) fun K q=>?_
   iterate 2 (refine wC rfl fun K q=>?_;simp [y];refine q _ ?_;clear q)
   refine wN (q _ ?_);clear q
   cases h
   refine SWp.ret ?_
   simp [aC,iB,res99]
theorem res83:Tryz.f83.results.toList=[.tmp 4]:=rfl
theorem ent83:aE E.P 83:=eO Tryz.func83 (by simp [Tryz.f83]) rfl
theorem impl_fnNodes_ok (p1:GProgram) (fn2:Int) {r0:List Int} (h:jE p1 fn2=some r0):Ok E 83 [.val (GProgram.enc false p1),.val (vi fn2)] [.sl true 1 (List.map vi r0)] []:=by
 refine oB (fn:=Tryz.f83) Tryz.func83 rfl (by simp [Tryz.f83]) fun C hN hP=>?_
 have u:∀ l,pinK [] l=true→pinB C.pin l=true:=pO (by rw [hP];rfl)
 have y:C.N=39:=hN
 clear hN
 unfold jE at h
 refine SWp.sR rfl (u _ rfl) fun K q=>?_
 iterate 2 (refine wC rfl fun K q=>?_;simp [y];refine q _ ?_;clear q)
 refine wN (q _ ?_);clear q
 refine SWp.sR rfl (u _ rfl) fun K q=>?_
 refine wC rfl fun K q=>?_;simp [y];refine q _ ?_;clear q
 refine wN (q _ ?_);clear q
 obtain ⟨out37,hj3,h⟩:=bS h
 refine SWp.seqC [5] [] (fun _:Unit=>⟨[(5,.t (.sl true 1 (List.map vi out37)))],[]⟩) (fun _=>True) (fun _ _=>?_) fun K4 hK4=>?_
 rotate_left
 ·refine SWp.sR rfl (u _ rfl) fun K q=>?_
  iterate 2 (refine wC rfl fun K q=>?_;simp [y];refine q _ ?_;clear q)
  obtain ⟨r6,hc7,hj3⟩:=bS hj3
  refine wL [(.take,.tmp 10),(.take,.tmp 11)] rfl rfl ent99 (impl_roots_ok _ _ hc7) fun K q=>?_;simp [y];refine q _ ?_;clear q
  iterate 2 (refine wC rfl fun K q=>?_;simp [y];refine q _ ?_;clear q)
  refine wN (q _ ?_);clear q
  refine SWp.block ?_
  refine SWp.loopO [] [2,5,12,13,14] [2] (fun v:(List Int) × Int=>⟨[(2,.ref (.box 2) 0 []),(5,.t (.sl true 1 (List.map vi v.1))),(12,.t (.sl true 1 (List.map vi r6))),(13,.t (vi (r6.length:Int))),(14,.t (vi v.2))],[(2,[.sl false 4 (List.map (GNode.enc false) p1.Nodes),.sl false 5 (List.map (GFn.enc false) p1.Fns)])]⟩) (cW p1 r6) _ ([],0) hj3 (by simp [y]) ?_
  intro g s12 h10 ho11
  obtain ⟨out8,v9⟩:=g
  simp only [cW] at h10
  try dsimp only
  refine SWp.sR rfl (u _ rfl) fun K q=>?_
  refine wC rfl fun K q=>?_;simp [y];refine q _ ?_;clear q
  refine wN (q _ ?_);clear q
  refine SWp.seq ?_
  rcases aA h10 with ⟨hb13,h10⟩ | ⟨hb14,h10⟩
  ·refine SWp.cT' (b:=decide (v9 < (r6.length:Int))) (by simp) hb13 ?_
   refine SWp.skip ?_
   show SWp E C _ _ _
   obtain ⟨out35,hj15,h10⟩:=bS h10
   refine SWp.seqC [2,5,12,13,14] [2] (fun _:Unit=>⟨[(2,.ref (.box 2) 0 []),(5,.t (.sl true 1 (List.map vi out35))),(12,.t (.sl true 1 (List.map vi r6))),(13,.t (vi (r6.length:Int))),(14,.t (vi v9))],[(2,[.sl false 4 (List.map (GNode.enc false) p1.Nodes),.sl false 5 (List.map (GFn.enc false) p1.Fns)])]⟩) (fun _=>True) (fun _ _=>?_) fun K16 hK16=>?_
   rotate_left
   ·refine SWp.block ?_
    refine SWp.sR rfl (u _ rfl) fun K q=>?_
    obtain ⟨e18,he18,hj15⟩:=bS hj15
    obtain ⟨he18a,he18b,he18c,he18d⟩:=gS he18
    iterate 3 (refine wC rfl fun K q=>?_;simp [y,he18a,he18b,he18c,he18d];refine q _ ?_;clear q)
    refine wN (q _ ?_);clear q
    refine SWp.sR rfl (u _ rfl) fun K q=>?_
    iterate 2 (refine wC rfl fun K q=>?_;simp [y];refine q _ ?_;clear q)
    obtain ⟨r19,hc20,hj15⟩:=bS hj15
    refine wL [(.take,.tmp 18),(.take,.tmp 19)] rfl rfl ent98 (impl_Under_ok _ _ hc20) fun K q=>?_;simp [y];refine q _ ?_;clear q
    iterate 2 (refine wC rfl fun K q=>?_;simp [y];refine q _ ?_;clear q)
    refine wN (q _ ?_);clear q
    refine SWp.block ?_
    refine SWp.loopO [] [2,5,12,13,14,20,21,22] [2] (fun v:(List Int) × Int=>⟨[(2,.ref (.box 2) 0 []),(5,.t (.sl true 1 (List.map vi v.1))),(12,.t (.sl true 1 (List.map vi r6))),(13,.t (vi (r6.length:Int))),(14,.t (vi v9)),(20,.t (.sl true 1 (List.map vi r19))),(21,.t (vi (r19.length:Int))),(22,.t (vi v.2))],[(2,[.sl false 4 (List.map (GNode.enc false) p1.Nodes),.sl false 5 (List.map (GFn.enc false) p1.Fns)])]⟩) (eD r19) _ (out8,0) hj15 (by simp [y]) ?_
    intro g s25 h23 ho24
    obtain ⟨out21,v22⟩:=g
    simp only [eD] at h23
    try dsimp only
    refine SWp.sR rfl (u _ rfl) fun K q=>?_
    refine wC rfl fun K q=>?_;simp [y];refine q _ ?_;clear q
    refine wN (q _ ?_);clear q
    refine SWp.seq ?_
    rcases aA h23 with ⟨hb26,h23⟩ | ⟨hb27,h23⟩
    ·refine SWp.cT' (b:=decide (v22 < (r19.length:Int))) (by simp) hb26 ?_
     refine SWp.skip ?_
     show SWp E C _ _ _
     refine SWp.seq ?_
     refine SWp.block ?_
     refine SWp.sR rfl (u _ rfl) fun K q=>?_
     obtain ⟨e28,he28,h23⟩:=bS h23
     obtain ⟨he28a,he28b,he28c,he28d⟩:=gS he28
     iterate 3 (refine wC rfl fun K q=>?_;simp [y,he28a,he28b,he28c,he28d];refine q _ ?_;clear q)
     refine wN (q _ ?_);clear q
     refine SWp.sR rfl (u _ rfl) fun K q=>?_
     iterate 2 (refine wC rfl fun K q=>?_;simp [y];refine q _ ?_;clear q)
     obtain ⟨r29,hc30,h23⟩:=bS h23
     refine wL [(.bor,.tmp 26),(.take,.tmp 27)] rfl rfl ent64 (eU _ _ hc30) fun K q=>?_;simp [y];refine q _ ?_;clear q
     refine wC rfl fun K q=>?_;simp [y];refine q _ ?_;clear q
     refine wN (q _ ?_);clear q
     rcases aA h23 with ⟨hb31,h23⟩ | ⟨hb32,h23⟩
     ·refine SWp.cT' (b:=!r29) (by simp) hb31 ?_
      refine SWp.reg rfl (u _ rfl) fun K q=>?_
      iterate 3 (refine wC rfl fun K q=>?_;simp [y];refine q _ ?_;clear q)
      obtain ⟨l33,hl33,h23⟩:=bS h23
      obtain ⟨hl33a,hl33b,hl33d⟩:=aS hl33
      have hl33f:List.map vi out21 ++ List.map vi [e28]=List.map vi l33:=cC (f:=vi) hl33d
      simp [eSl] at hl33a hl33b hl33f
      iterate 2 (refine wC rfl fun K q=>?_;simp [y,hl33a,hl33b,hl33f];refine q _ ?_;clear q)
      refine wN (q _ ?_);clear q
      show SWp E C _ _ _
      refine SWp.reg rfl (u _ rfl) fun K q=>?_
      iterate 2 (refine wC rfl fun K q=>?_;simp [y];refine q _ ?_;clear q)
      refine wN (q _ ?_);clear q
      cases h23
      exact ⟨_,[],rfl,by simp [y]⟩
     ·refine SWp.cF' (b:=!r29) (by simp) hb32 ?_
      refine SWp.skip ?_
      show SWp E C _ _ _
      refine SWp.reg rfl (u _ rfl) fun K q=>?_
      iterate 2 (refine wC rfl fun K q=>?_;simp [y];refine q _ ?_;clear q)
      refine wN (q _ ?_);clear q
      cases h23
      exact ⟨_,[],rfl,by simp [y]⟩
    ·refine SWp.cF' (b:=decide (v22 < (r19.length:Int))) (by simp) hb27 ?_
     refine SWp.exit ?_
     have h34:=congrArg some (ho24 _ (Option.some.inj h23).symm)
     cases h34
     exact hK16 _ () [] trivial (by simp [y])
   refine SWp.reg rfl (u _ rfl) fun K q=>?_
   iterate 2 (refine wC rfl fun K q=>?_;simp [y];refine q _ ?_;clear q)
   refine wN (q _ ?_);clear q
   cases h10
   exact ⟨_,[],rfl,by simp [y]⟩
  ·refine SWp.cF' (b:=decide (v9 < (r6.length:Int))) (by simp) hb14 ?_
   refine SWp.exit ?_
   have h36:=congrArg some (ho11 _ (Option.some.inj h10).symm)
   cases h36
   exact hK4 _ () [] trivial (by simp [y])
 refine SWp.sR rfl (u _ rfl) fun K q=>?_
 refine wC rfl fun K q=>?_;simp [y];refine q _ ?_;clear q
 obtain ⟨q38,hc39,h⟩:=bS h
 refine iK rfl ent65 (nN _ hc39) fun K q=>?_;simp [y];refine q _ ?_;clear q
 refine wN (q _ ?_);clear q
 refine SWp.sR rfl (u _ rfl) fun K q=>?_
 iterate 2 (refine wC rfl fun K q=>?_;simp [y];refine q _ ?_;clear q)
 refine wN (q _ ?_);clear q
 cases h
 refine SWp.ret ?_
 simp [aC,iB,res83]
theorem res50:Tryz.f50.results.toList=[.tmp 4]:=rfl
theorem ent50:aE E.P 50:=eO Tryz.func50 (by simp [Tryz.f50]) rfl
theorem impl_CallsOf_ok (p1:GProgram) (fn2:Int) {r0:List Int} (h:jG p1 fn2=some r0):Ok E 50 [.val (GProgram.enc false p1),.val (vi fn2)] [.sl true 1 (List.map vi r0)] []:=by
 refine oB (fn:=Tryz.f50) Tryz.func50 rfl (by simp [Tryz.f50]) fun C hN hP=>?_
 have u:∀ l,pinK [] l=true→pinB C.pin l=true:=pO (by rw [hP];rfl)
 have y:C.N=44:=hN
 clear hN
 unfold jG at h
 refine SWp.sR rfl (u _ rfl) fun K q=>?_
 iterate 2 (refine wC rfl fun K q=>?_;simp [y];refine q _ ?_;clear q)
 refine wN (q _ ?_);clear q
 refine SWp.sR rfl (u _ rfl) fun K q=>?_
 refine wC rfl fun K q=>?_;simp [y];refine q _ ?_;clear q
 refine wN (q _ ?_);clear q
 obtain ⟨out32,hj3,h⟩:=bS h
 refine SWp.seqC [5] [] (fun _:Unit=>⟨[(5,.t (.sl true 1 (List.map vi out32)))],[]⟩) (fun _=>True) (fun _ _=>?_) fun K4 hK4=>?_
 rotate_left
 ·refine SWp.sR rfl (u _ rfl) fun K q=>?_
  iterate 2 (refine wC rfl fun K q=>?_;simp [y];refine q _ ?_;clear q)
  obtain ⟨r6,hc7,hj3⟩:=bS hj3
  refine wL [(.take,.tmp 10),(.take,.tmp 11)] rfl rfl ent83 (impl_fnNodes_ok _ _ hc7) fun K q=>?_;simp [y];refine q _ ?_;clear q
  iterate 2 (refine wC rfl fun K q=>?_;simp [y];refine q _ ?_;clear q)
  refine wN (q _ ?_);clear q
  refine SWp.block ?_
  refine SWp.loopO [] [2,5,12,13,14] [2] (fun v:(List Int) × Int=>⟨[(2,.ref (.box 2) 0 []),(5,.t (.sl true 1 (List.map vi v.1))),(12,.t (.sl true 1 (List.map vi r6))),(13,.t (vi (r6.length:Int))),(14,.t (vi v.2))],[(2,[.sl false 4 (List.map (GNode.enc false) p1.Nodes),.sl false 5 (List.map (GFn.enc false) p1.Fns)])]⟩) (eE p1 r6) _ ([],0) hj3 (by simp [y]) ?_
  intro g s12 h10 ho11
  obtain ⟨out8,v9⟩:=g
  simp only [eE] at h10
  try dsimp only
  refine SWp.sR rfl (u _ rfl) fun K q=>?_
  refine wC rfl fun K q=>?_;simp [y];refine q _ ?_;clear q
  refine wN (q _ ?_);clear q
  refine SWp.seq ?_
  rcases aA h10 with ⟨hb13,h10⟩ | ⟨hb14,h10⟩
  ·refine SWp.cT' (b:=decide (v9 < (r6.length:Int))) (by simp) hb13 ?_
   refine SWp.skip ?_
   show SWp E C _ _ _
   refine SWp.seq ?_
   refine SWp.block ?_
   refine SWp.sR rfl (u _ rfl) fun K q=>?_
   obtain ⟨e15,he15,h10⟩:=bS h10
   obtain ⟨he15a,he15b,he15c,he15d⟩:=gS he15
   iterate 3 (refine wC rfl fun K q=>?_;simp [y,he15a,he15b,he15c,he15d];refine q _ ?_;clear q)
   refine wN (q _ ?_);clear q
   refine SWp.sR rfl (u _ rfl) fun K q=>?_
   iterate 3 (refine wC rfl fun K q=>?_;simp [y];refine q _ ?_;clear q)
   obtain ⟨e16,he16,h10⟩:=bS h10
   obtain ⟨he16a,he16b,he16c,he16d⟩:=gS he16
   iterate 4 (refine wC rfl fun K q=>?_;simp [y,he16a,he16b,he16c,he16d];refine q _ ?_;clear q)
   refine wN (q _ ?_);clear q
   refine SWp.sR rfl (u _ rfl) fun K q=>?_
   iterate 3 (refine wC rfl fun K q=>?_;simp [y];refine q _ ?_;clear q)
   refine wN (q _ ?_);clear q
   rcases aA h10 with ⟨hb17,h10⟩ | ⟨hb18,h10⟩
   ·refine SWp.cT' (b:=e16.Kind == 12) (by simp) hb17 ?_
    refine SWp.sR rfl (u _ rfl) fun K q=>?_
    iterate 3 (refine wC rfl fun K q=>?_;simp [y];refine q _ ?_;clear q)
    obtain ⟨r19,hc20,h10⟩:=bS h10
    refine wL [(.take,.tmp 26),(.take,.tmp 28)] rfl rfl ent62 (impl_FnAt_ok _ _ hc20) fun K q=>?_;simp [y];refine q _ ?_;clear q
    refine wC rfl fun K q=>?_;simp [y];refine q _ ?_;clear q
    refine wN (q _ ?_);clear q
    obtain ⟨v27,hj21,h10⟩:=bS h10
    refine SWp.seqRC rfl (u _ rfl) [2,5,9,12,13,14,37] [2] (fun _:Unit=>⟨[(2,.ref (.box 2) 0 []),(5,.t (.sl true 1 (List.map vi out8))),(9,.t (vi r19)),(12,.t (.sl true 1 (List.map vi r6))),(13,.t (vi (r6.length:Int))),(14,.t (vi v9)),(37,.t (vb v27))],[(2,[.sl false 4 (List.map (GNode.enc false) p1.Nodes),.sl false 5 (List.map (GFn.enc false) p1.Fns)])]⟩) (fun _=>True) (fun _ _=>?_) fun K22 hK22=>?_
    rotate_left
    ·refine wC rfl fun K q=>?_;simp [y];refine q _ ?_;clear q
     iterate 2 (refine wC rfl fun K q=>?_;simp [y];refine q _ ?_;clear q)
     rcases aA hj21 with ⟨hb23,hj21⟩ | ⟨hb24,hj21⟩
     ·have hb23s:=hb23
      try simp at hb23s
      iterate 2 (refine wC rfl fun K q=>?_;simp [y,hb23,hb23s];refine q _ ?_;clear q)
      obtain ⟨r25,hc26,hj21⟩:=bS hj21
      refine wL [(.bor,.tmp 33),(.take,.tmp 34)] rfl rfl ent64 (eU _ _ hc26) fun K q=>?_;simp [y,hb23,hb23s];refine q _ ?_;clear q
      iterate 2 (refine wC rfl fun K q=>?_;simp [y,hb23,hb23s];refine q _ ?_;clear q)
      refine wN ?_
      cases hj21
      exact hK22 _ () [] trivial (by simp [y,hb23,hb23s])
     ·have hb24s:=hb24
      try simp at hb24s
      iterate 4 (refine wO fun K q=>?_;simp [y,hb24,hb24s];refine q _ ?_;clear q)
      refine wC rfl fun K q=>?_;simp [y,hb24,hb24s];refine q _ ?_;clear q
      refine wN ?_
      cases hj21
      exact hK22 _ () [] trivial (by simp [y,hb24,hb24s])
    rcases aA h10 with ⟨hb28,h10⟩ | ⟨hb29,h10⟩
    ·refine SWp.cT' (b:=v27) (by simp) hb28 ?_
     refine SWp.reg rfl (u _ rfl) fun K q=>?_
     iterate 3 (refine wC rfl fun K q=>?_;simp [y];refine q _ ?_;clear q)
     obtain ⟨l30,hl30,h10⟩:=bS h10
     obtain ⟨hl30a,hl30b,hl30d⟩:=aS hl30
     have hl30f:List.map vi out8 ++ List.map vi [r19]=List.map vi l30:=cC (f:=vi) hl30d
     simp [eSl] at hl30a hl30b hl30f
     iterate 2 (refine wC rfl fun K q=>?_;simp [y,hl30a,hl30b,hl30f];refine q _ ?_;clear q)
     refine wN (q _ ?_);clear q
     show SWp E C _ _ _
     refine SWp.reg rfl (u _ rfl) fun K q=>?_
     iterate 2 (refine wC rfl fun K q=>?_;simp [y];refine q _ ?_;clear q)
     refine wN (q _ ?_);clear q
     cases h10
     exact ⟨_,[],rfl,by simp [y]⟩
    ·refine SWp.cF' (b:=v27) (by simp) hb29 ?_
     refine SWp.skip ?_
     show SWp E C _ _ _
     refine SWp.reg rfl (u _ rfl) fun K q=>?_
     iterate 2 (refine wC rfl fun K q=>?_;simp [y];refine q _ ?_;clear q)
     refine wN (q _ ?_);clear q
     cases h10
     exact ⟨_,[],rfl,by simp [y]⟩
   ·refine SWp.cF' (b:=e16.Kind == 12) (by simp) hb18 ?_
    refine SWp.skip ?_
    show SWp E C _ _ _
    refine SWp.reg rfl (u _ rfl) fun K q=>?_
    iterate 2 (refine wC rfl fun K q=>?_;simp [y];refine q _ ?_;clear q)
    refine wN (q _ ?_);clear q
    cases h10
    exact ⟨_,[],rfl,by simp [y]⟩
  ·refine SWp.cF' (b:=decide (v9 < (r6.length:Int))) (by simp) hb14 ?_
   refine SWp.exit ?_
   have h31:=congrArg some (ho11 _ (Option.some.inj h10).symm)
   cases h31
   exact hK4 _ () [] trivial (by simp [y])
 refine SWp.sR rfl (u _ rfl) fun K q=>?_
 iterate 2 (refine wC rfl fun K q=>?_;simp [y];refine q _ ?_;clear q)
 refine wN (q _ ?_);clear q
 cases h
 refine SWp.ret ?_
 simp [aC,iB,res50]
theorem res30:Tryz.f30.results.toList=[.tmp 4]:=rfl
theorem ent30:aE E.P 30:=eO Tryz.func30 (by simp [Tryz.f30]) rfl
theorem qQ (p1:GProgram) (fn2:Int) {r0:List Int} (h:fE p1 fn2=some r0):Ok E 30 [.val (GProgram.enc false p1),.val (vi fn2)] [.sl true 1 (List.map vi r0)] []:=by
 refine oB (fn:=Tryz.f30) Tryz.func30 rfl (by simp [Tryz.f30]) fun C hN hP=>?_
 have u:∀ l,pinK [] l=true→pinB C.pin l=true:=pO (by rw [hP];rfl)
 have y:C.N=47:=hN
 clear hN
 unfold fE at h
 refine SWp.sR rfl (u _ rfl) fun K q=>?_
 iterate 2 (refine wC rfl fun K q=>?_;simp [y];refine q _ ?_;clear q)
 refine wN (q _ ?_);clear q
 refine SWp.seq ?_
 refine SWp.sR rfl (u _ rfl) fun K q=>?_
 iterate 5 (refine wC rfl fun K q=>?_;simp [y];refine q _ ?_;clear q)
 obtain ⟨r3,hc4,h⟩:=bS h
 refine wL [(.take,.tmp 9),(.take,.const (.int .i64 0)),(.take,.tmp 13)] rfl rfl lQ (aQ _ _ _ hc4) fun K q=>?_;simp [y];refine q _ ?_;clear q
 refine wC rfl fun K q=>?_;simp [y];refine q _ ?_;clear q
 refine wN (q _ ?_);clear q
 rcases aA h with ⟨hb5,h⟩ | ⟨hb6,h⟩
 ·refine SWp.cT' (b:=!r3) (by simp) hb5 ?_
  refine SWp.sR rfl (u _ rfl) fun K q=>?_
  refine wC rfl fun K q=>?_;simp [y];refine q _ ?_;clear q
  refine wN (q _ ?_);clear q
  cases h
  refine SWp.ret ?_
  simp [aC,iB,res30]
 ·refine SWp.cF' (b:=!r3) (by simp) hb6 ?_
  refine SWp.skip ?_
  show SWp E C _ _ _
  refine SWp.sR rfl (u _ rfl) fun K q=>?_
  iterate 3 (refine wC rfl fun K q=>?_;simp [y];refine q _ ?_;clear q)
  refine wN (q _ ?_);clear q
  obtain ⟨out40,hj7,h⟩:=bS h
  refine SWp.seqC [5] [] (fun _:Unit=>⟨[(5,.t (.sl true 1 (List.map vi out40)))],[]⟩) (fun _=>True) (fun _ _=>?_) fun K8 hK8=>?_
  rotate_left
  ·refine SWp.sR rfl (u _ rfl) fun K q=>?_
   refine wC rfl fun K q=>?_;simp [y];refine q _ ?_;clear q
   refine wN (q _ ?_);clear q
   refine SWp.block ?_
   refine SWp.loopO [] [2,5,6] [2] (fun v:(List Int) × Int=>⟨[(2,.ref (.box 2) 0 []),(5,.t (.sl true 1 (List.map vi v.1))),(6,.t (vi v.2))],[(2,[.sl false 4 (List.map (GNode.enc false) p1.Nodes),.sl false 5 (List.map (GFn.enc false) p1.Fns)])]⟩) (bV p1) _ ([fn2],0) hj7 (by simp [y]) ?_
   intro g s14 h12 ho13
   obtain ⟨out10,i11⟩:=g
   simp only [bV] at h12
   try dsimp only
   refine SWp.seq ?_
   refine SWp.sR rfl (u _ rfl) fun K q=>?_
   iterate 4 (refine wC rfl fun K q=>?_;simp [y];refine q _ ?_;clear q)
   refine wN (q _ ?_);clear q
   rcases aA h12 with ⟨hb15,h12⟩ | ⟨hb16,h12⟩
   ·refine SWp.cT' (b:=decide (i11 < (out10.length:Int))) (by simp) hb15 ?_
    refine SWp.skip ?_
    show SWp E C _ _ _
    obtain ⟨out38,hj17,h12⟩:=bS h12
    refine SWp.seqC [2,5,6] [2] (fun _:Unit=>⟨[(2,.ref (.box 2) 0 []),(5,.t (.sl true 1 (List.map vi out38))),(6,.t (vi i11))],[(2,[.sl false 4 (List.map (GNode.enc false) p1.Nodes),.sl false 5 (List.map (GFn.enc false) p1.Fns)])]⟩) (fun _=>True) (fun _ _=>?_) fun K18 hK18=>?_
    rotate_left
    ·refine SWp.block ?_
     refine SWp.seq ?_
     obtain ⟨e21,he21,hj17⟩:=bS hj17
     obtain ⟨he21a,he21b,he21c,he21d⟩:=gS he21
     obtain ⟨r22,hc23,hj17⟩:=bS hj17
     refine SWp.dT rfl (u _ rfl) [(24,.t (GProgram.enc false p1)),(25,.al (.slot 5) 0 [] none),(26,.t (vi i11)),(27,.ref (.slot 5) 0 [(i11.toNat,0)]),(28,.t (vi e21)),(29,.t (.sl true 1 (List.map vi r22))),(30,.t (vi (r22.length:Int))),(31,.t (vi 0))] [[],[],[],[1,2],[1,2,3],[0,1,2,3,4],[0,1,2,3,4,5],[]] (by simp) (by simp) (by simp [look]) rfl rfl rfl ?_ fun K q=>?_
     ·refine ⟨?_,?_,?_,?_,?_,?_,?_,?_,trivial⟩
      all_goals (intro τ hbx hb hd hf K q;try simp [vsAt] at hd;simp [vsAt] at hf;first | (refine wC rfl fun K' q'=>?_;simp [y,hbx,hb,hd,hf,he21a,he21b,he21c,he21d];exact q' _ (wN (q _ (by simp [vsAt,hbx,he21a,he21b,he21c,he21d])))) | (refine wL [(.take,.tmp 24),(.take,.tmp 28)] rfl rfl ent50 (impl_CallsOf_ok _ _ hc23) fun K' q'=>?_;simp [y,hbx,hb,hd,hf,he21a,he21b,he21c,he21d];exact q' _ (wN (q _ (by simp [vsAt,hbx,he21a,he21b,he21c,he21d])))))
     refine wN (q _ ?_);clear q
     show SWp E C _ _ _
     refine SWp.block ?_
     refine SWp.loopO [] [2,5,6,29,30,31] [2] (fun v:(List Int) × Int=>⟨[(2,.ref (.box 2) 0 []),(5,.t (.sl true 1 (List.map vi v.1))),(6,.t (vi i11)),(29,.t (.sl true 1 (List.map vi r22))),(30,.t (vi (r22.length:Int))),(31,.t (vi v.2))],[(2,[.sl false 4 (List.map (GNode.enc false) p1.Nodes),.sl false 5 (List.map (GFn.enc false) p1.Fns)])]⟩) (bU r22) _ (out10,0) hj17 (by simp [y]) ?_
     intro g s28 h26 ho27
     obtain ⟨out24,v25⟩:=g
     simp only [bU] at h26
     try dsimp only
     refine SWp.sR rfl (u _ rfl) fun K q=>?_
     refine wC rfl fun K q=>?_;simp [y];refine q _ ?_;clear q
     refine wN (q _ ?_);clear q
     refine SWp.seq ?_
     rcases aA h26 with ⟨hb29,h26⟩ | ⟨hb30,h26⟩
     ·refine SWp.cT' (b:=decide (v25 < (r22.length:Int))) (by simp) hb29 ?_
      refine SWp.skip ?_
      show SWp E C _ _ _
      refine SWp.seq ?_
      refine SWp.block ?_
      refine SWp.sR rfl (u _ rfl) fun K q=>?_
      obtain ⟨e31,he31,h26⟩:=bS h26
      obtain ⟨he31a,he31b,he31c,he31d⟩:=gS he31
      iterate 3 (refine wC rfl fun K q=>?_;simp [y,he31a,he31b,he31c,he31d];refine q _ ?_;clear q)
      refine wN (q _ ?_);clear q
      refine SWp.sR rfl (u _ rfl) fun K q=>?_
      iterate 2 (refine wC rfl fun K q=>?_;simp [y];refine q _ ?_;clear q)
      obtain ⟨r32,hc33,h26⟩:=bS h26
      refine wL [(.bor,.tmp 35),(.take,.tmp 36)] rfl rfl ent64 (eU _ _ hc33) fun K q=>?_;simp [y];refine q _ ?_;clear q
      refine wC rfl fun K q=>?_;simp [y];refine q _ ?_;clear q
      refine wN (q _ ?_);clear q
      rcases aA h26 with ⟨hb34,h26⟩ | ⟨hb35,h26⟩
      ·refine SWp.cT' (b:=!r32) (by simp) hb34 ?_
       refine SWp.reg rfl (u _ rfl) fun K q=>?_
       iterate 3 (refine wC rfl fun K q=>?_;simp [y];refine q _ ?_;clear q)
       obtain ⟨l36,hl36,h26⟩:=bS h26
       obtain ⟨hl36a,hl36b,hl36d⟩:=aS hl36
       have hl36f:List.map vi out24 ++ List.map vi [e31]=List.map vi l36:=cC (f:=vi) hl36d
       simp [eSl] at hl36a hl36b hl36f
       iterate 2 (refine wC rfl fun K q=>?_;simp [y,hl36a,hl36b,hl36f];refine q _ ?_;clear q)
       refine wN (q _ ?_);clear q
       show SWp E C _ _ _
       refine SWp.reg rfl (u _ rfl) fun K q=>?_
       iterate 2 (refine wC rfl fun K q=>?_;simp [y];refine q _ ?_;clear q)
       refine wN (q _ ?_);clear q
       cases h26
       exact ⟨_,[],rfl,by simp [y]⟩
      ·refine SWp.cF' (b:=!r32) (by simp) hb35 ?_
       refine SWp.skip ?_
       show SWp E C _ _ _
       refine SWp.reg rfl (u _ rfl) fun K q=>?_
       iterate 2 (refine wC rfl fun K q=>?_;simp [y];refine q _ ?_;clear q)
       refine wN (q _ ?_);clear q
       cases h26
       exact ⟨_,[],rfl,by simp [y]⟩
     ·refine SWp.cF' (b:=decide (v25 < (r22.length:Int))) (by simp) hb30 ?_
      refine SWp.exit ?_
      have h37:=congrArg some (ho27 _ (Option.some.inj h26).symm)
      cases h37
      exact hK18 _ () [] trivial (by simp [y])
    refine SWp.reg rfl (u _ rfl) fun K q=>?_
    iterate 3 (refine wC rfl fun K q=>?_;simp [y];refine q _ ?_;clear q)
    refine wN (q _ ?_);clear q
    cases h12
    exact ⟨_,[],rfl,by simp [y]⟩
   ·refine SWp.cF' (b:=decide (i11 < (out10.length:Int))) (by simp) hb16 ?_
    refine SWp.exit ?_
    have h39:=congrArg some (ho13 _ (Option.some.inj h12).symm)
    cases h39
    exact hK8 _ () [] trivial (by simp [y])
  refine SWp.sR rfl (u _ rfl) fun K q=>?_
  refine wC rfl fun K q=>?_;simp [y];refine q _ ?_;clear q
  obtain ⟨q41,hc42,h⟩:=bS h
  refine iK rfl ent65 (nN _ hc42) fun K q=>?_;simp [y];refine q _ ?_;clear q
  refine wN (q _ ?_);clear q
  refine SWp.sR rfl (u _ rfl) fun K q=>?_
  iterate 2 (refine wC rfl fun K q=>?_;simp [y];refine q _ ?_;clear q)
  refine wN (q _ ?_);clear q
  cases h
  refine SWp.ret ?_
  simp [aC,iB,res30]
theorem res66:Tryz.f66.results.toList=[.tmp 6]:=rfl
theorem ent66:aE E.P 66:=eO Tryz.func66 (by simp [Tryz.f66]) rfl
theorem oY (rec_impl_packer_put:Gpacker→Int→Int→Option (Int × Gpacker)) (hrec_impl_packer_put:∀ (a0:Gpacker) (a1:Int) (a2:Int) {r0:Int} {q0:Gpacker},rec_impl_packer_put a0 a1 a2=some (r0,q0)→Ok E 66 [.ptr [.sl false 4 (List.map (GNode.enc false) a0.from_),.sl true 4 (List.map (GNode.enc true) a0.to_),vb a0.bad],.val (vi a1),.val (vi a2)] [vi r0] [[.sl false 4 (List.map (GNode.enc false) q0.from_),.sl true 4 (List.map (GNode.enc true) q0.to_),vb q0.bad]]) (x1:Gpacker) (k2:Int) (deep3:Int) {r0:Int} {q0:Gpacker} (h:cM rec_impl_packer_put x1 k2 deep3=some (r0,q0)):Ok E 66 [.ptr [.sl false 4 (List.map (GNode.enc false) x1.from_),.sl true 4 (List.map (GNode.enc true) x1.to_),vb x1.bad],.val (vi k2),.val (vi deep3)] [vi r0] [[.sl false 4 (List.map (GNode.enc false) q0.from_),.sl true 4 (List.map (GNode.enc true) q0.to_),vb q0.bad]]:=by
 refine oB (fn:=Tryz.f66) Tryz.func66 rfl (by simp [Tryz.f66]) fun C hN hP=>?_
 have u:∀ l,pinK [] l=true→pinB C.pin l=true:=pO (by rw [hP];rfl)
 have y:C.N=97:=hN
 clear hN
 unfold cM at h
 refine SWp.sR rfl (u _ rfl) fun K q=>?_
 refine wC rfl fun K q=>?_;simp [y];refine q _ ?_;clear q
 refine wN (q _ ?_);clear q
 refine SWp.seq ?_
 obtain ⟨v14,hj4,h⟩:=bS h
 refine SWp.seqRC rfl (u _ rfl) [0,1,2,38] [97] (fun _:Unit=>⟨[(0,.ref (.box 97) 0 []),(1,.t (vi k2)),(2,.t (vi deep3)),(38,.t (vb v14))],[(97,[.sl false 4 (List.map (GNode.enc false) x1.from_),.sl true 4 (List.map (GNode.enc true) x1.to_),vb x1.bad])]⟩) (fun _=>True) (fun _ _=>?_) fun K5 hK5=>?_
 rotate_left
 ·refine wC rfl fun K q=>?_;simp [y];refine q _ ?_;clear q
  iterate 4 (refine wC rfl fun K q=>?_;simp [y];refine q _ ?_;clear q)
  rcases aA hj4 with ⟨hb6,hj4⟩ | ⟨hb7,hj4⟩
  ·have hb6s:=hb6
   try simp at hb6s
   iterate 9 (refine wO fun K q=>?_;simp [y,hb6,hb6s];refine q _ ?_;clear q)
   iterate 2 (refine wC rfl fun K q=>?_;simp [y,hb6,hb6s];refine q _ ?_;clear q)
   iterate 2 (refine wO fun K q=>?_;simp [y,hb6,hb6s];refine q _ ?_;clear q)
   iterate 2 (refine wC rfl fun K q=>?_;simp [y,hb6,hb6s];refine q _ ?_;clear q)
   iterate 6 (refine wO fun K q=>?_;simp [y,hb6,hb6s];refine q _ ?_;clear q)
   refine wC rfl fun K q=>?_;simp [y,hb6,hb6s];refine q _ ?_;clear q
   refine wN ?_
   cases hj4
   exact hK5 _ () [] trivial (by simp [y,hb6,hb6s])
  ·have hb7s:=hb7
   try simp at hb7s
   iterate 7 (refine wC rfl fun K q=>?_;simp [y,hb7,hb7s];refine q _ ?_;clear q)
   obtain ⟨r8,hc9,hj4⟩:=bS hj4
   refine wL [(.take,.tmp 17),(.take,.const (.int .i64 0)),(.take,.tmp 23)] rfl rfl lQ (aQ _ _ _ hc9) fun K q=>?_;simp [y,hb7,hb7s];refine q _ ?_;clear q
   iterate 3 (refine wC rfl fun K q=>?_;simp [y,hb7,hb7s];refine q _ ?_;clear q)
   rcases aA hj4 with ⟨hb10,hj4⟩ | ⟨hb11,hj4⟩
   ·have hb10s:=hb10
    try simp at hb10s
    iterate 2 (refine wO fun K q=>?_;simp [y,hb7,hb7s,hb10,hb10s];refine q _ ?_;clear q)
    iterate 2 (refine wC rfl fun K q=>?_;simp [y,hb7,hb7s,hb10,hb10s];refine q _ ?_;clear q)
    iterate 6 (refine wO fun K q=>?_;simp [y,hb7,hb7s,hb10,hb10s];refine q _ ?_;clear q)
    refine wC rfl fun K q=>?_;simp [y,hb7,hb7s,hb10,hb10s];refine q _ ?_;clear q
    refine wN ?_
    cases hj4
    exact hK5 _ () [] trivial (by simp [y,hb7,hb7s,hb10,hb10s])
   ·have hb11s:=hb11
    try simp at hb11s
    iterate 4 (refine wC rfl fun K q=>?_;simp [y,hb7,hb7s,hb11,hb11s];refine q _ ?_;clear q)
    rcases aA hj4 with ⟨hb12,hj4⟩ | ⟨hb13,hj4⟩
    ·have hb12s:=hb12
     try simp at hb12s
     iterate 6 (refine wO fun K q=>?_;simp [y,hb7,hb7s,hb11,hb11s,hb12,hb12s];refine q _ ?_;clear q)
     refine wC rfl fun K q=>?_;simp [y,hb7,hb7s,hb11,hb11s,hb12,hb12s];refine q _ ?_;clear q
     refine wN ?_
     cases hj4
     exact hK5 _ () [] trivial (by simp [y,hb7,hb7s,hb11,hb11s,hb12,hb12s])
    ·have hb13s:=hb13
     try simp at hb13s
     iterate 7 (refine wC rfl fun K q=>?_;simp [y,hb7,hb7s,hb11,hb11s,hb13,hb13s];refine q _ ?_;clear q)
     refine wN ?_
     cases hj4
     exact hK5 _ () [] trivial (by simp [y,hb7,hb7s,hb11,hb11s,hb13,hb13s])
 rcases aA h with ⟨hb15,h⟩ | ⟨hb16,h⟩
 ·refine SWp.cT' (b:=v14) (by simp) hb15 ?_
  refine SWp.sR rfl (u _ rfl) fun K q=>?_
  iterate 4 (refine wC rfl fun K q=>?_;simp [y];refine q _ ?_;clear q)
  refine wN (q _ ?_);clear q
  refine SWp.sR rfl (u _ rfl) fun K q=>?_
  refine wC rfl fun K q=>?_;simp [y];refine q _ ?_;clear q
  refine wN (q _ ?_);clear q
  cases h
  refine SWp.ret ?_
  simp [aC,iB,res66]
 ·refine SWp.cF' (b:=v14) (by simp) hb16 ?_
  refine SWp.skip ?_
  show SWp E C _ _ _
  refine SWp.sR rfl (u _ rfl) fun K q=>?_
  iterate 5 (refine wC rfl fun K q=>?_;simp [y];refine q _ ?_;clear q)
  obtain ⟨e17,he17,h⟩:=bS h
  obtain ⟨he17a,he17b,he17c,he17d⟩:=gS he17
  iterate 4 (refine wC rfl fun K q=>?_;simp [y,he17a,he17b,he17c,he17d];refine q _ ?_;clear q)
  refine wN (q _ ?_);clear q
  refine SWp.sR rfl (u _ rfl) fun K q=>?_
  refine wC rfl fun K q=>?_;simp [y];refine q _ ?_;clear q
  refine wN (q _ ?_);clear q
  obtain ⟨j20,hj18,h⟩:=bS h
  refine SWp.seqC [0,7,8] [7,97] (fun v:(List Int) × Gpacker=>⟨[(0,.ref (.box 97) 0 []),(7,.ref (.box 7) 0 []),(8,.t (.sl true 1 (List.map vi v.1)))],[(7,[vi e17.Kind,vi e17.Num,vs e17.Name,.sl false 1 (List.map vi e17.Kids)]),(97,[.sl false 4 (List.map (GNode.enc false) v.2.from_),.sl true 4 (List.map (GNode.enc true) v.2.to_),vb v.2.bad])]⟩) (fun v=>j20=Sum.inl v) (fun v hv=>?_) fun K19 hK19=>?_
  rotate_left
  ·refine SWp.sR rfl (u _ rfl) fun K q=>?_
   iterate 4 (refine wC rfl fun K q=>?_;simp [y];refine q _ ?_;clear q)
   refine wN (q _ ?_);clear q
   refine SWp.block ?_
   refine SWp.loopO [] [0,2,7,8,50,51,52] [7,97] (fun v:(List Int) × Int × Gpacker=>⟨[(0,.ref (.box 97) 0 []),(2,.t (vi deep3)),(7,.ref (.box 7) 0 []),(8,.t (.sl true 1 (List.map vi v.1))),(50,.t (.sl false 1 (List.map vi e17.Kids))),(51,.t (vi (e17.Kids.length:Int))),(52,.t (vi v.2.1))],[(7,[vi e17.Kind,vi e17.Num,vs e17.Name,.sl false 1 (List.map vi e17.Kids)]),(97,[.sl false 4 (List.map (GNode.enc false) v.2.2.from_),.sl true 4 (List.map (GNode.enc true) v.2.2.to_),vb v.2.2.bad])]⟩) (bF rec_impl_packer_put deep3 e17) _ ([],0,(⟨x1.from_,x1.to_,x1.bad⟩:Gpacker)) hj18 (by simp [y]) ?_
   intro g s26 h24 ho25
   obtain ⟨kids21,v22,v23⟩:=g
   simp only [bF] at h24
   try dsimp only
   refine SWp.sR rfl (u _ rfl) fun K q=>?_
   refine wC rfl fun K q=>?_;simp [y];refine q _ ?_;clear q
   refine wN (q _ ?_);clear q
   refine SWp.seq ?_
   rcases aA h24 with ⟨hb27,h24⟩ | ⟨hb28,h24⟩
   ·refine SWp.cT' (b:=decide (v22 < (e17.Kids.length:Int))) (by simp) hb27 ?_
    refine SWp.skip ?_
    show SWp E C _ _ _
    refine SWp.seq ?_
    refine SWp.block ?_
    refine SWp.sR rfl (u _ rfl) fun K q=>?_
    obtain ⟨e29,he29,h24⟩:=bS h24
    obtain ⟨he29a,he29b,he29c,he29d⟩:=gS he29
    iterate 3 (refine wC rfl fun K q=>?_;simp [y,he29a,he29b,he29c,he29d];refine q _ ?_;clear q)
    refine wN (q _ ?_);clear q
    refine SWp.sR rfl (u _ rfl) fun K q=>?_
    iterate 4 (refine wC rfl fun K q=>?_;simp [y];refine q _ ?_;clear q)
    obtain ⟨⟨r30,q31⟩,hc32,h24⟩:=bS h24
    try dsimp only at h24
    refine wL [((.ptr 3),.tmp 56),(.take,.tmp 57),(.take,.tmp 59)] rfl rfl ent66 (hrec_impl_packer_put _ _ _ hc32) fun K q=>?_;simp [y];refine q _ ?_;clear q
    refine wC rfl fun K q=>?_;simp [y];refine q _ ?_;clear q
    refine wN (q _ ?_);clear q
    refine SWp.seq ?_
    refine SWp.sR rfl (u _ rfl) fun K q=>?_
    iterate 4 (refine wC rfl fun K q=>?_;simp [y];refine q _ ?_;clear q)
    refine wN (q _ ?_);clear q
    rcases aA h24 with ⟨hb33,h24⟩ | ⟨hb34,h24⟩
    ·refine SWp.cT' (b:=q31.bad) (by simp) hb33 ?_
     refine SWp.sR rfl (u _ rfl) fun K q=>?_
     refine wC rfl fun K q=>?_;simp [y];refine q _ ?_;clear q
     refine wN (q _ ?_);clear q
     have h35:=congrArg some (ho25 _ (Option.some.inj h24).symm)
     cases h35
     try dsimp only at h
     cases h
     refine SWp.ret ?_
     simp [aC,iB,res66]
    ·refine SWp.cF' (b:=q31.bad) (by simp) hb34 ?_
     refine SWp.skip ?_
     show SWp E C _ _ _
     refine SWp.reg rfl (u _ rfl) fun K q=>?_
     iterate 3 (refine wC rfl fun K q=>?_;simp [y];refine q _ ?_;clear q)
     obtain ⟨l36,hl36,h24⟩:=bS h24
     obtain ⟨hl36a,hl36b,hl36d⟩:=aS hl36
     have hl36f:List.map vi kids21 ++ List.map vi [r30]=List.map vi l36:=cC (f:=vi) hl36d
     simp [eSl] at hl36a hl36b hl36f
     iterate 2 (refine wC rfl fun K q=>?_;simp [y,hl36a,hl36b,hl36f];refine q _ ?_;clear q)
     refine wN (q _ ?_);clear q
     show SWp E C _ _ _
     refine SWp.reg rfl (u _ rfl) fun K q=>?_
     iterate 2 (refine wC rfl fun K q=>?_;simp [y];refine q _ ?_;clear q)
     refine wN (q _ ?_);clear q
     cases h24
     exact ⟨_,[],rfl,by simp [y]⟩
   ·refine SWp.cF' (b:=decide (v22 < (e17.Kids.length:Int))) (by simp) hb28 ?_
    refine SWp.exit ?_
    have h37:=congrArg some (ho25 _ (Option.some.inj h24).symm)
    cases h37
    exact hK19 _ _ [] rfl (by simp [y])
  subst hv
  obtain ⟨kids38,v39⟩:=v
  try dsimp only at h ⊢
  refine SWp.seq ?_
  refine SWp.sR rfl (u _ rfl) fun K q=>?_
  iterate 6 (refine wC rfl fun K q=>?_;simp [y];refine q _ ?_;clear q)
  refine wN (q _ ?_);clear q
  rcases aA h with ⟨hb40,h⟩ | ⟨hb41,h⟩
  ·refine SWp.cT' (b:=decide ((v39.to_.length:Int) ≥ 300)) (by simp) hb40 ?_
   refine SWp.sR rfl (u _ rfl) fun K q=>?_
   iterate 4 (refine wC rfl fun K q=>?_;simp [y];refine q _ ?_;clear q)
   refine wN (q _ ?_);clear q
   refine SWp.sR rfl (u _ rfl) fun K q=>?_
   refine wC rfl fun K q=>?_;simp [y];refine q _ ?_;clear q
   refine wN (q _ ?_);clear q
   cases h
   refine SWp.ret ?_
   simp [aC,iB,res66]
  ·refine SWp.cF' (b:=decide ((v39.to_.length:Int) ≥ 300)) (by simp) hb41 ?_
   refine SWp.skip ?_
   show SWp E C _ _ _
   refine SWp.sR rfl (u _ rfl) fun K q=>?_
   iterate 3 (refine wC rfl fun K q=>?_;simp [y];refine q _ ?_;clear q)
   refine wN (q _ ?_);clear q
   refine SWp.seq ?_
   obtain ⟨l42,hl42,h⟩:=bS h
   obtain ⟨hl42a,hl42b,hl42d⟩:=aS hl42
   have hl42f:List.map (GNode.enc true) v39.to_ ++ List.map (GNode.enc true) [(⟨e17.Kind,e17.Num,e17.Name,kids38⟩:GNode)]=List.map (GNode.enc true) l42:=cC (f:=(GNode.enc true)) hl42d
   simp [eSl,GNode.enc] at hl42a hl42b hl42f
   refine SWp.drawX rfl (u _ rfl) [81,82,83,84,85,86,87,88] [[(81,.ref (.box 97) 0 [])],[(82,.ref (.box 97) 0 [])],[(83,.ref (.box 97) 0 [])],[(84,.ref (.box 97) 1 [])],[(85,.al (.box 97) 1 [] none)],[(86,.al (.box 7) 0 [] (some 4))],[(87,.t (.sl true 4 (List.map (GNode.enc true) [(⟨e17.Kind,e17.Num,e17.Name,kids38⟩:GNode)]))),(86,.u)],[(88,.t (.sl true 4 (List.map (GNode.enc true) l42))),(73,.u),(85,.u),(87,.u)]] [[],[],[],[],[],[],[(7,[vi e17.Kind,vi e17.Num,vs e17.Name,.dead])],[(97,[.sl false 4 (List.map (GNode.enc false) v39.from_),.dead,vb v39.bad])]] [[],[],[1],[1,2],[1,2,3],[],[5],[1,2,3,4,5,6],[0,1,2,3,4,5,6,7],[0,1,2,3,4,5,6,7,8],[0,1,2,3,4,5,6,7,8,9]] rfl (by simp) rfl rfl rfl ?_ fun K q=>?_
   ·refine ⟨?_,?_,?_,?_,?_,?_,?_,?_,trivial⟩
    ·intro D d0 g1 g2
     cases d1:D 1<;>cases d2:D 2<;>cases d3:D 3<;>cases d4:D 4<;>cases d5:D 5<;>cases d6:D 6<;>cases d7:D 7<;>(intro K q;simp [famD,putL,upd1,famX,putX,d0,d1,d2,d3,d4,d5,d6,d7] at q ⊢;refine wC rfl fun K' q'=>?_;simp [y,hl42a,hl42b,hl42f];refine q' _ (wN ?_);first | exact q | simpa [hl42a,hl42b,hl42f] using q)
    ·intro D d1 g1 g2
     have d2:D 2=false:=g2 2 (by simp) (by simp)
     have d3:D 3=false:=g2 3 (by simp) (by simp)
     have d4:D 4=false:=g2 4 (by simp) (by simp)
     have d7:D 7=false:=g2 7 (by simp) (by simp)
     cases d0:D 0<;>cases d5:D 5<;>cases d6:D 6<;>(intro K q;simp [famD,putL,upd1,famX,putX,d0,d1,d2,d3,d4,d5,d6,d7] at q ⊢;refine wC rfl fun K' q'=>?_;simp [y,hl42a,hl42b,hl42f];refine q' _ (wN ?_);first | exact q | simpa [hl42a,hl42b,hl42f] using q)
    ·intro D d2 g1 g2
     have d1:D 1=true:=g1 1 (by simp)
     have d3:D 3=false:=g2 3 (by simp) (by simp)
     have d4:D 4=false:=g2 4 (by simp) (by simp)
     have d7:D 7=false:=g2 7 (by simp) (by simp)
     cases d0:D 0<;>cases d5:D 5<;>cases d6:D 6<;>(intro K q;simp [famD,putL,upd1,famX,putX,d0,d1,d2,d3,d4,d5,d6,d7] at q ⊢;refine wC rfl fun K' q'=>?_;simp [y,hl42a,hl42b,hl42f];refine q' _ (wN ?_);first | exact q | simpa [hl42a,hl42b,hl42f] using q)
    ·intro D d3 g1 g2
     have d1:D 1=true:=g1 1 (by simp)
     have d2:D 2=true:=g1 2 (by simp)
     have d4:D 4=false:=g2 4 (by simp) (by simp)
     have d7:D 7=false:=g2 7 (by simp) (by simp)
     cases d0:D 0<;>cases d5:D 5<;>cases d6:D 6<;>(intro K q;simp [famD,putL,upd1,famX,putX,d0,d1,d2,d3,d4,d5,d6,d7] at q ⊢;refine wC rfl fun K' q'=>?_;simp [y,hl42a,hl42b,hl42f];refine q' _ (wN ?_);first | exact q | simpa [hl42a,hl42b,hl42f] using q)
    ·intro D d4 g1 g2
     have d1:D 1=true:=g1 1 (by simp)
     have d2:D 2=true:=g1 2 (by simp)
     have d3:D 3=true:=g1 3 (by simp)
     have d7:D 7=false:=g2 7 (by simp) (by simp)
     cases d0:D 0<;>cases d5:D 5<;>cases d6:D 6<;>(intro K q;simp [famD,putL,upd1,famX,putX,d0,d1,d2,d3,d4,d5,d6,d7] at q ⊢;refine wC rfl fun K' q'=>?_;simp [y,hl42a,hl42b,hl42f];refine q' _ (wN ?_);first | exact q | simpa [hl42a,hl42b,hl42f] using q)
    ·intro D d5 g1 g2
     have d6:D 6=false:=g2 6 (by simp) (by simp)
     have d7:D 7=false:=g2 7 (by simp) (by simp)
     cases d0:D 0<;>cases d1:D 1<;>cases d2:D 2<;>cases d3:D 3<;>cases d4:D 4<;>(intro K q;simp [famD,putL,upd1,famX,putX,d0,d1,d2,d3,d4,d5,d6,d7] at q ⊢;refine wC rfl fun K' q'=>?_;simp [y,hl42a,hl42b,hl42f];refine q' _ (wN ?_);first | exact q | simpa [hl42a,hl42b,hl42f] using q)
    ·intro D d6 g1 g2
     have d5:D 5=true:=g1 5 (by simp)
     have d7:D 7=false:=g2 7 (by simp) (by simp)
     cases d0:D 0<;>cases d1:D 1<;>cases d2:D 2<;>cases d3:D 3<;>cases d4:D 4<;>(intro K q;simp [famD,putL,upd1,famX,putX,d0,d1,d2,d3,d4,d5,d6,d7] at q ⊢;refine wC rfl fun K' q'=>?_;simp [y,hl42a,hl42b,hl42f];refine q' _ (wN ?_);first | exact q | simpa [hl42a,hl42b,hl42f] using q)
    ·intro D d7 g1 g2
     have d1:D 1=true:=g1 1 (by simp)
     have d2:D 2=true:=g1 2 (by simp)
     have d3:D 3=true:=g1 3 (by simp)
     have d4:D 4=true:=g1 4 (by simp)
     have d5:D 5=true:=g1 5 (by simp)
     have d6:D 6=true:=g1 6 (by simp)
     cases d0:D 0<;>(intro K q;simp [famD,putL,upd1,famX,putX,d0,d1,d2,d3,d4,d5,d6,d7] at q ⊢;refine wC rfl fun K' q'=>?_;simp [y,hl42a,hl42b,hl42f];refine q' _ (wN ?_);first | exact q | simpa [hl42a,hl42b,hl42f] using q)
   simp [famD,putL,famX,putX]
   iterate 3 (refine wC rfl fun K q=>?_;simp [y,hl42a,hl42b,hl42f];refine q _ ?_;clear q)
   refine wN (q _ ?_);clear q
   show SWp E C _ _ _
   refine SWp.sR rfl (u _ rfl) fun K q=>?_
   iterate 7 (refine wC rfl fun K q=>?_;simp [y];refine q _ ?_;clear q)
   refine wN (q _ ?_);clear q
   cases h
   refine SWp.ret ?_
   simp [aC,iB,res66]
theorem iJ:∀ n:Nat,(∀ (a0:Gpacker) (a1:Int) (a2:Int) {r0:Int} {q0:Gpacker},(aN n) a0 a1 a2=some (r0,q0)→Ok E 66 [.ptr [.sl false 4 (List.map (GNode.enc false) a0.from_),.sl true 4 (List.map (GNode.enc true) a0.to_),vb a0.bad],.val (vi a1),.val (vi a2)] [vi r0] [[.sl false 4 (List.map (GNode.enc false) q0.from_),.sl true 4 (List.map (GNode.enc true) q0.to_),vb q0.bad]])
 | 0=>(by intros;rename_i h;cases h)
 | n + 1=>oY (aN n) (iJ n)
theorem lF:∀ (a0:Gpacker) (a1:Int) (a2:Int) {r0:Int} {q0:Gpacker},eC a0 a1 a2=some (r0,q0)→Ok E 66 [.ptr [.sl false 4 (List.map (GNode.enc false) a0.from_),.sl true 4 (List.map (GNode.enc true) a0.to_),vb a0.bad],.val (vi a1),.val (vi a2)] [vi r0] [[.sl false 4 (List.map (GNode.enc false) q0.from_),.sl true 4 (List.map (GNode.enc true) q0.to_),vb q0.bad]]:=(iJ dN)
theorem res32:Tryz.f32.results.toList=[.cell 2 31,.tmp 3]:=rfl
theorem ent32:aE E.P 32:=eO Tryz.func32 (by simp [Tryz.f32]) rfl
theorem impl_Packed_ok (p1:GProgram) {r0:GProgram} {r1:Bool} (h:kT p1=some (r0,r1)):Ok E 32 [.val (GProgram.enc false p1)] [GProgram.enc true r0,vb r1] []:=by
 refine oB (fn:=Tryz.f32) Tryz.func32 rfl (by simp [Tryz.f32]) fun C hN hP=>?_
 have u:∀ l,pinK [] l=true→pinB C.pin l=true:=pO (by rw [hP];rfl)
 have y:C.N=45:=hN
 clear hN
 unfold kT at h
 refine SWp.sR rfl (u _ rfl) fun K q=>?_
 iterate 3 (refine wC rfl fun K q=>?_;simp [y];refine q _ ?_;clear q)
 refine wN (q _ ?_);clear q
 refine SWp.sR rfl (u _ rfl) fun K q=>?_
 iterate 5 (refine wC rfl fun K q=>?_;simp [y];refine q _ ?_;clear q)
 refine wN (q _ ?_);clear q
 refine SWp.sR rfl (u _ rfl) fun K q=>?_
 refine wC rfl fun K q=>?_;simp [y];refine q _ ?_;clear q
 refine wN (q _ ?_);clear q
 obtain ⟨⟨v31,v32⟩,hj2,h⟩:=bS h
 try dsimp only at h
 refine SWp.seqC [2,4,5] [2,4,5] (fun _:Unit=>⟨[(2,.ref (.box 2) 0 []),(4,.ref (.box 4) 0 []),(5,.ref (.box 5) 0 [])],[(2,[.sl true 4 [],.sl true 5 []]),(4,[.sl false 4 (List.map (GNode.enc false) v31.from_),.sl true 4 (List.map (GNode.enc true) v31.to_),vb v31.bad]),(5,[.sl true 4 (List.map (GNode.enc true) v32.Nodes),.sl true 5 (List.map (GFn.enc true) v32.Fns)])]⟩) (fun _=>True) (fun _ _=>?_) fun K3 hK3=>?_
 rotate_left
 ·refine SWp.sR rfl (u _ rfl) fun K q=>?_
  iterate 4 (refine wC rfl fun K q=>?_;simp [y];refine q _ ?_;clear q)
  refine wN (q _ ?_);clear q
  refine SWp.block ?_
  refine SWp.loopO [] [2,4,5,12,13,14] [2,4,5] (fun v:Int × Gpacker × GProgram=>⟨[(2,.ref (.box 2) 0 []),(4,.ref (.box 4) 0 []),(5,.ref (.box 5) 0 []),(12,.t (.sl false 5 (List.map (GFn.enc false) p1.Fns))),(13,.t (vi (p1.Fns.length:Int))),(14,.t (vi v.1))],[(2,[.sl true 4 [],.sl true 5 []]),(4,[.sl false 4 (List.map (GNode.enc false) v.2.1.from_),.sl true 4 (List.map (GNode.enc true) v.2.1.to_),vb v.2.1.bad]),(5,[.sl true 4 (List.map (GNode.enc true) v.2.2.Nodes),.sl true 5 (List.map (GFn.enc true) v.2.2.Fns)])]⟩) (aY p1) _ (0,(⟨p1.Nodes,[],false⟩:Gpacker),(⟨[],[]⟩:GProgram)) hj2 (by simp [y]) ?_
  intro g s10 h8 ho9
  obtain ⟨v5,v6,v7⟩:=g
  simp only [aY] at h8
  try dsimp only
  refine SWp.sR rfl (u _ rfl) fun K q=>?_
  refine wC rfl fun K q=>?_;simp [y];refine q _ ?_;clear q
  refine wN (q _ ?_);clear q
  refine SWp.seq ?_
  rcases aA h8 with ⟨hb11,h8⟩ | ⟨hb12,h8⟩
  ·refine SWp.cT' (b:=decide (v5 < (p1.Fns.length:Int))) (by simp) hb11 ?_
   refine SWp.skip ?_
   show SWp E C _ _ _
   refine SWp.seq ?_
   refine SWp.block ?_
   refine SWp.sR rfl (u _ rfl) fun K q=>?_
   obtain ⟨e13,he13,h8⟩:=bS h8
   obtain ⟨he13a,he13b,he13c,he13d⟩:=gS he13
   iterate 4 (refine wC rfl fun K q=>?_;simp [y,he13a,he13b,he13c,he13d];refine q _ ?_;clear q)
   refine wN (q _ ?_);clear q
   refine SWp.sR rfl (u _ rfl) fun K q=>?_
   refine wC rfl fun K q=>?_;simp [y];refine q _ ?_;clear q
   obtain ⟨r14,hc15,h8⟩:=bS h8
   refine wL [(.take,.tmp 18)] rfl rfl ent31 (lM _ hc15) fun K q=>?_;simp [y];refine q _ ?_;clear q
   refine wC rfl fun K q=>?_;simp [y];refine q _ ?_;clear q
   refine wN (q _ ?_);clear q
   refine SWp.sR rfl (u _ rfl) fun K q=>?_
   iterate 2 (refine wC rfl fun K q=>?_;simp [y];refine q _ ?_;clear q)
   obtain ⟨⟨r16,q17⟩,hc18,h8⟩:=bS h8
   try dsimp only at h8
   refine wL [((.ptr 3),.tmp 4),(.take,.tmp 21),(.take,.const (.int .i64 1))] rfl rfl ent66 (lF _ _ _ hc18) fun K q=>?_;simp [y];refine q _ ?_;clear q
   iterate 2 (refine wC rfl fun K q=>?_;simp [y];refine q _ ?_;clear q)
   refine wN (q _ ?_);clear q
   obtain ⟨⟨v27,v28⟩,hj19,h8⟩:=bS h8
   try dsimp only at h8
   refine SWp.seqC [2,4,5,7,12,13,14] [2,4,5,7] (fun _:Unit=>⟨[(2,.ref (.box 2) 0 []),(4,.ref (.box 4) 0 []),(5,.ref (.box 5) 0 []),(7,.ref (.box 7) 0 []),(12,.t (.sl false 5 (List.map (GFn.enc false) p1.Fns))),(13,.t (vi (p1.Fns.length:Int))),(14,.t (vi v5))],[(2,[.sl true 4 [],.sl true 5 []]),(4,[.sl false 4 (List.map (GNode.enc false) v27.from_),.sl true 4 (List.map (GNode.enc true) v27.to_),vb v27.bad]),(5,[.sl true 4 (List.map (GNode.enc true) v7.Nodes),.sl true 5 (List.map (GFn.enc true) v7.Fns)]),(7,[vs v28.Name,.sl true 2 (List.map GParam.enc v28.Params),vi v28.Res,vi v28.Body,vi v28.Ret])]⟩) (fun _=>True) (fun _ _=>?_) fun K20 hK20=>?_
   rotate_left
   ·refine SWp.sR rfl (u _ rfl) fun K q=>?_
    iterate 3 (refine wC rfl fun K q=>?_;simp [y];refine q _ ?_;clear q)
    refine wN (q _ ?_);clear q
    rcases aA hj19 with ⟨hb22,hj19⟩ | ⟨hb23,hj19⟩
    ·refine SWp.cT' (b:=decide (r14.Ret ≥ 0)) (by simp) hb22 ?_
     refine SWp.reg rfl (u _ rfl) fun K q=>?_
     iterate 2 (refine wC rfl fun K q=>?_;simp [y];refine q _ ?_;clear q)
     obtain ⟨⟨r24,q25⟩,hc26,hj19⟩:=bS hj19
     try dsimp only at hj19
     refine wL [((.ptr 3),.tmp 4),(.take,.tmp 28),(.take,.const (.int .i64 1))] rfl rfl ent66 (lF _ _ _ hc26) fun K q=>?_;simp [y];refine q _ ?_;clear q
     iterate 2 (refine wC rfl fun K q=>?_;simp [y];refine q _ ?_;clear q)
     refine wN (q _ ?_);clear q
     cases hj19
     exact hK20 _ () [] trivial (by simp [y])
    ·refine SWp.cF' (b:=decide (r14.Ret ≥ 0)) (by simp) hb23 ?_
     refine SWp.skip ?_
     cases hj19
     exact hK20 _ () [] trivial (by simp [y])
   refine SWp.reg rfl (u _ rfl) fun K q=>?_
   iterate 4 (refine wC rfl fun K q=>?_;simp [y];refine q _ ?_;clear q)
   obtain ⟨l29,hl29,h8⟩:=bS h8
   obtain ⟨hl29a,hl29b,hl29d⟩:=aS hl29
   have hl29f:List.map (GFn.enc true) v7.Fns ++ List.map (GFn.enc true) [v28]=List.map (GFn.enc true) l29:=cC (f:=(GFn.enc true)) hl29d
   simp [eSl,GFn.enc] at hl29a hl29b hl29f
   iterate 3 (refine wC rfl fun K q=>?_;simp [y,hl29a,hl29b,hl29f];refine q _ ?_;clear q)
   refine wN (q _ ?_);clear q
   show SWp E C _ _ _
   refine SWp.reg rfl (u _ rfl) fun K q=>?_
   iterate 2 (refine wC rfl fun K q=>?_;simp [y];refine q _ ?_;clear q)
   refine wN (q _ ?_);clear q
   cases h8
   exact ⟨_,[],rfl,by simp [y]⟩
  ·refine SWp.cF' (b:=decide (v5 < (p1.Fns.length:Int))) (by simp) hb12 ?_
   refine SWp.exit ?_
   have h30:=congrArg some (ho9 _ (Option.some.inj h8).symm)
   cases h30
   exact hK3 _ () [] trivial (by simp [y])
 refine SWp.seq ?_
 refine SWp.sR rfl (u _ rfl) fun K q=>?_
 iterate 2 (refine wC rfl fun K q=>?_;simp [y];refine q _ ?_;clear q)
 refine wN (q _ ?_);clear q
 rcases aA h with ⟨hb33,h⟩ | ⟨hb34,h⟩
 ·refine SWp.cT' (b:=v31.bad) (by simp) hb33 ?_
  refine SWp.sR rfl (u _ rfl) fun K q=>?_
  iterate 3 (refine wC rfl fun K q=>?_;simp [y];refine q _ ?_;clear q)
  refine wN (q _ ?_);clear q
  cases h
  refine SWp.ret ?_
  simp [aC,iB,res32]
 ·refine SWp.cF' (b:=v31.bad) (by simp) hb34 ?_
  refine SWp.skip ?_
  show SWp E C _ _ _
  refine SWp.sR rfl (u _ rfl) fun K q=>?_
  iterate 4 (refine wC rfl fun K q=>?_;simp [y];refine q _ ?_;clear q)
  refine wN (q _ ?_);clear q
  refine SWp.sR rfl (u _ rfl) fun K q=>?_
  iterate 3 (refine wC rfl fun K q=>?_;simp [y];refine q _ ?_;clear q)
  refine wN (q _ ?_);clear q
  cases h
  refine SWp.ret ?_
  simp [aC,iB,res32]
theorem res11:Tryz.f11.results.toList=[.cell 2 31,.tmp 3]:=rfl
theorem ent11:aE E.P 11:=eO Tryz.func11 (by simp [Tryz.f11]) rfl
theorem nD (p1:GProgram) {r0:GProgram} {r1:Bool} (h:fR p1=some (r0,r1)):Ok E 11 [.val (GProgram.enc false p1)] [GProgram.enc true r0,vb r1] []:=by
 refine oB (fn:=Tryz.f11) Tryz.func11 rfl (by simp [Tryz.f11]) fun C hN hP=>?_
 have u:∀ l,pinK [] l=true→pinB C.pin l=true:=pO (by rw [hP];rfl)
 have y:C.N=50:=hN
 clear hN
 unfold fR at h
 refine SWp.sR rfl (u _ rfl) fun K q=>?_
 iterate 3 (refine wC rfl fun K q=>?_;simp [y];refine q _ ?_;clear q)
 refine wN (q _ ?_);clear q
 refine SWp.seq ?_
 refine SWp.sR rfl (u _ rfl) fun K q=>?_
 refine wC rfl fun K q=>?_;simp [y];refine q _ ?_;clear q
 obtain ⟨r2,hc3,h⟩:=bS h
 refine wL [(.take,.tmp 9)] rfl rfl ent28 (impl_ProgramOk_ok _ hc3) fun K q=>?_;simp [y];refine q _ ?_;clear q
 refine wC rfl fun K q=>?_;simp [y];refine q _ ?_;clear q
 refine wN (q _ ?_);clear q
 rcases aA h with ⟨hb4,h⟩ | ⟨hb5,h⟩
 ·refine SWp.cT' (b:=!r2) (by simp) hb4 ?_
  refine SWp.sR rfl (u _ rfl) fun K q=>?_
  refine wC rfl fun K q=>?_;simp [y];refine q _ ?_;clear q
  obtain ⟨r6,hc7,h⟩:=bS h
  refine wL [(.take,.tmp 12)] rfl rfl ent29 (gI _ hc7) fun K q=>?_;simp [y];refine q _ ?_;clear q
  iterate 2 (refine wC rfl fun K q=>?_;simp [y];refine q _ ?_;clear q)
  refine wN (q _ ?_);clear q
  cases h
  refine SWp.ret ?_
  simp [aC,iB,res11]
 ·refine SWp.cF' (b:=!r2) (by simp) hb5 ?_
  refine SWp.skip ?_
  show SWp E C _ _ _
  refine SWp.sR rfl (u _ rfl) fun K q=>?_
  refine wC rfl fun K q=>?_;simp [y];refine q _ ?_;clear q
  obtain ⟨r8,hc9,h⟩:=bS h
  refine wL [(.take,.tmp 14)] rfl rfl ent29 (gI _ hc9) fun K q=>?_;simp [y];refine q _ ?_;clear q
  iterate 2 (refine wC rfl fun K q=>?_;simp [y];refine q _ ?_;clear q)
  refine wN (q _ ?_);clear q
  refine SWp.sR rfl (u _ rfl) fun K q=>?_
  iterate 2 (refine wC rfl fun K q=>?_;simp [y];refine q _ ?_;clear q)
  refine wN (q _ ?_);clear q
  obtain ⟨v28,hj10,h⟩:=bS h
  refine SWp.seqC [1,2,4] [1,2,4] (fun _:Unit=>⟨[(1,.ref (.box 1) 0 []),(2,.ref (.box 2) 0 []),(4,.ref (.box 4) 0 [])],[(1,[.sl false 4 (List.map (GNode.enc false) p1.Nodes),.sl false 5 (List.map (GFn.enc false) p1.Fns)]),(2,[.sl true 4 [],.sl true 5 []]),(4,[.sl true 4 (List.map (GNode.enc true) v28.Nodes),.sl true 5 (List.map (GFn.enc true) v28.Fns)])]⟩) (fun _=>True) (fun _ _=>?_) fun K11 hK11=>?_
  rotate_left
  ·refine SWp.sR rfl (u _ rfl) fun K q=>?_
   iterate 5 (refine wC rfl fun K q=>?_;simp [y];refine q _ ?_;clear q)
   obtain ⟨r13,hc14,hj10⟩:=bS hj10
   refine wL [(.take,.tmp 17),(.take,.tmp 21)] rfl rfl ent30 (qQ _ _ hc14) fun K q=>?_;simp [y];refine q _ ?_;clear q
   iterate 2 (refine wC rfl fun K q=>?_;simp [y];refine q _ ?_;clear q)
   refine wN (q _ ?_);clear q
   refine SWp.block ?_
   refine SWp.loopO [] [1,2,4,22,23,24] [1,2,4] (fun v:Int × GProgram=>⟨[(1,.ref (.box 1) 0 []),(2,.ref (.box 2) 0 []),(4,.ref (.box 4) 0 []),(22,.t (.sl true 1 (List.map vi r13))),(23,.t (vi (r13.length:Int))),(24,.t (vi v.1))],[(1,[.sl false 4 (List.map (GNode.enc false) p1.Nodes),.sl false 5 (List.map (GFn.enc false) p1.Fns)]),(2,[.sl true 4 [],.sl true 5 []]),(4,[.sl true 4 (List.map (GNode.enc true) v.2.Nodes),.sl true 5 (List.map (GFn.enc true) v.2.Fns)])]⟩) (dI p1 r13) _ (0,(⟨r8.Nodes,[]⟩:GProgram)) hj10 (by simp [y]) ?_
   intro g s19 h17 ho18
   obtain ⟨v15,v16⟩:=g
   simp only [dI] at h17
   try dsimp only
   refine SWp.sR rfl (u _ rfl) fun K q=>?_
   refine wC rfl fun K q=>?_;simp [y];refine q _ ?_;clear q
   refine wN (q _ ?_);clear q
   refine SWp.seq ?_
   rcases aA h17 with ⟨hb20,h17⟩ | ⟨hb21,h17⟩
   ·refine SWp.cT' (b:=decide (v15 < (r13.length:Int))) (by simp) hb20 ?_
    refine SWp.skip ?_
    show SWp E C _ _ _
    refine SWp.seq ?_
    refine SWp.block ?_
    refine SWp.sR rfl (u _ rfl) fun K q=>?_
    obtain ⟨e22,he22,h17⟩:=bS h17
    obtain ⟨he22a,he22b,he22c,he22d⟩:=gS he22
    iterate 3 (refine wC rfl fun K q=>?_;simp [y,he22a,he22b,he22c,he22d];refine q _ ?_;clear q)
    refine wN (q _ ?_);clear q
    obtain ⟨e23,he23,h17⟩:=bS h17
    obtain ⟨he23a,he23b,he23c,he23d⟩:=gS he23
    obtain ⟨r24,hc25,h17⟩:=bS h17
    refine SWp.drawD rfl (u _ rfl) [28,29,30,31,32,33,34,35,36] [[(28,.ref (.box 4) 1 [])],[(29,.al (.box 4) 1 [] none)],[(30,.ref (.box 1) 1 [])],[(31,.t (.sl false 5 (List.map (GFn.enc false) p1.Fns)))],[(32,.t (vi e22))],[(33,.rop [vs e23.Name,.sl false 2 (List.map GParam.enc e23.Params),vi e23.Res,vi e23.Body,vi e23.Ret] 0)],[(34,.t (GFn.enc false e23))],[(35,.t (GFn.enc true r24))],[(36,.t (.sl true 5 (List.map (GFn.enc true) [r24]))),(35,.u)]] [[],[0],[],[2],[],[2,3,4],[2,3,4,5],[2,3,4,5,6],[2,3,4,5,6,7],[0,1,2,3,4,5,6,7,8],[0,1,2,3,4,5,6,7,8,9],[0,1,2,3,4,5,6,7,8,9,10]] (by simp) rfl rfl rfl ?_ fun K q=>?_
    ·refine ⟨?_,?_,?_,?_,?_,?_,?_,?_,?_,trivial⟩
     ·intro D d0 g1 g2
      have d1:D 1=false:=g2 1 (by simp) (by simp)
      cases d2:D 2<;>cases d3:D 3<;>cases d4:D 4<;>cases d5:D 5<;>cases d6:D 6<;>cases d7:D 7<;>cases d8:D 8<;>(intro K q;simp [famD,putL,upd1,d0,d1,d2,d3,d4,d5,d6,d7,d8] at q ⊢;refine wC rfl fun K' q'=>?_;simp [y,he23a,he23b,he23c,he23d];refine q' _ (wN ?_);first | exact q | simpa [he23a,he23b,he23c,he23d] using q)
     ·intro D d1 g1 g2
      have d0:D 0=true:=g1 0 (by simp)
      cases d2:D 2<;>cases d3:D 3<;>cases d4:D 4<;>cases d5:D 5<;>cases d6:D 6<;>cases d7:D 7<;>cases d8:D 8<;>(intro K q;simp [famD,putL,upd1,d0,d1,d2,d3,d4,d5,d6,d7,d8] at q ⊢;refine wC rfl fun K' q'=>?_;simp [y,he23a,he23b,he23c,he23d];refine q' _ (wN ?_);first | exact q | simpa [he23a,he23b,he23c,he23d] using q)
     ·intro D d2 g1 g2
      have d3:D 3=false:=g2 3 (by simp) (by simp)
      have d5:D 5=false:=g2 5 (by simp) (by simp)
      have d6:D 6=false:=g2 6 (by simp) (by simp)
      have d7:D 7=false:=g2 7 (by simp) (by simp)
      have d8:D 8=false:=g2 8 (by simp) (by simp)
      cases d0:D 0<;>cases d1:D 1<;>cases d4:D 4<;>(intro K q;simp [famD,putL,upd1,d0,d1,d2,d3,d4,d5,d6,d7,d8] at q ⊢;refine wC rfl fun K' q'=>?_;simp [y,he23a,he23b,he23c,he23d];refine q' _ (wN ?_);first | exact q | simpa [he23a,he23b,he23c,he23d] using q)
     ·intro D d3 g1 g2
      have d2:D 2=true:=g1 2 (by simp)
      have d5:D 5=false:=g2 5 (by simp) (by simp)
      have d6:D 6=false:=g2 6 (by simp) (by simp)
      have d7:D 7=false:=g2 7 (by simp) (by simp)
      have d8:D 8=false:=g2 8 (by simp) (by simp)
      cases d0:D 0<;>cases d1:D 1<;>cases d4:D 4<;>(intro K q;simp [famD,putL,upd1,d0,d1,d2,d3,d4,d5,d6,d7,d8] at q ⊢;refine wC rfl fun K' q'=>?_;simp [y,he23a,he23b,he23c,he23d];refine q' _ (wN ?_);first | exact q | simpa [he23a,he23b,he23c,he23d] using q)
     ·intro D d4 g1 g2
      have d5:D 5=false:=g2 5 (by simp) (by simp)
      have d6:D 6=false:=g2 6 (by simp) (by simp)
      have d7:D 7=false:=g2 7 (by simp) (by simp)
      have d8:D 8=false:=g2 8 (by simp) (by simp)
      cases d0:D 0<;>cases d1:D 1<;>cases d2:D 2<;>cases d3:D 3<;>(intro K q;simp [famD,putL,upd1,d0,d1,d2,d3,d4,d5,d6,d7,d8] at q ⊢;refine wC rfl fun K' q'=>?_;simp [y,he23a,he23b,he23c,he23d];refine q' _ (wN ?_);first | exact q | simpa [he23a,he23b,he23c,he23d] using q)
     ·intro D d5 g1 g2
      have d2:D 2=true:=g1 2 (by simp)
      have d3:D 3=true:=g1 3 (by simp)
      have d4:D 4=true:=g1 4 (by simp)
      have d6:D 6=false:=g2 6 (by simp) (by simp)
      have d7:D 7=false:=g2 7 (by simp) (by simp)
      have d8:D 8=false:=g2 8 (by simp) (by simp)
      cases d0:D 0<;>cases d1:D 1<;>(intro K q;simp [famD,putL,upd1,d0,d1,d2,d3,d4,d5,d6,d7,d8] at q ⊢;refine wC rfl fun K' q'=>?_;simp [y,he23a,he23b,he23c,he23d];refine q' _ (wN ?_);first | exact q | simpa [he23a,he23b,he23c,he23d] using q)
     ·intro D d6 g1 g2
      have d2:D 2=true:=g1 2 (by simp)
      have d3:D 3=true:=g1 3 (by simp)
      have d4:D 4=true:=g1 4 (by simp)
      have d5:D 5=true:=g1 5 (by simp)
      have d7:D 7=false:=g2 7 (by simp) (by simp)
      have d8:D 8=false:=g2 8 (by simp) (by simp)
      cases d0:D 0<;>cases d1:D 1<;>(intro K q;simp [famD,putL,upd1,d0,d1,d2,d3,d4,d5,d6,d7,d8] at q ⊢;refine wC rfl fun K' q'=>?_;simp [y,he23a,he23b,he23c,he23d];refine q' _ (wN ?_);first | exact q | simpa [he23a,he23b,he23c,he23d] using q)
     ·intro D d7 g1 g2
      have d2:D 2=true:=g1 2 (by simp)
      have d3:D 3=true:=g1 3 (by simp)
      have d4:D 4=true:=g1 4 (by simp)
      have d5:D 5=true:=g1 5 (by simp)
      have d6:D 6=true:=g1 6 (by simp)
      have d8:D 8=false:=g2 8 (by simp) (by simp)
      cases d0:D 0<;>cases d1:D 1<;>(intro K q;simp [famD,putL,upd1,d0,d1,d2,d3,d4,d5,d6,d7,d8] at q ⊢;refine wL [(.take,.tmp 34)] rfl rfl ent31 (lM _ hc25) fun K' q'=>?_;simp [y,he23a,he23b,he23c,he23d];refine q' _ (wN ?_);first | exact q | simpa [he23a,he23b,he23c,he23d] using q)
     ·intro D d8 g1 g2
      have d2:D 2=true:=g1 2 (by simp)
      have d3:D 3=true:=g1 3 (by simp)
      have d4:D 4=true:=g1 4 (by simp)
      have d5:D 5=true:=g1 5 (by simp)
      have d6:D 6=true:=g1 6 (by simp)
      have d7:D 7=true:=g1 7 (by simp)
      cases d0:D 0<;>cases d1:D 1<;>(intro K q;simp [famD,putL,upd1,d0,d1,d2,d3,d4,d5,d6,d7,d8] at q ⊢;refine wC rfl fun K' q'=>?_;simp [y,he23a,he23b,he23c,he23d];refine q' _ (wN ?_);first | exact q | simpa [he23a,he23b,he23c,he23d] using q)
    simp [famD,putL]
    obtain ⟨l26,hl26,h17⟩:=bS h17
    obtain ⟨hl26a,hl26b,hl26d⟩:=aS hl26
    have hl26f:List.map (GFn.enc true) v16.Fns ++ List.map (GFn.enc true) [r24]=List.map (GFn.enc true) l26:=cC (f:=(GFn.enc true)) hl26d
    simp [eSl,GFn.enc] at hl26a hl26b hl26f
    iterate 3 (refine wC rfl fun K q=>?_;simp [y,he23a,he23b,he23c,he23d,hl26a,hl26b,hl26f];refine q _ ?_;clear q)
    refine wN (q _ ?_);clear q
    show SWp E C _ _ _
    refine SWp.reg rfl (u _ rfl) fun K q=>?_
    iterate 2 (refine wC rfl fun K q=>?_;simp [y];refine q _ ?_;clear q)
    refine wN (q _ ?_);clear q
    cases h17
    exact ⟨_,[],rfl,by simp [y]⟩
   ·refine SWp.cF' (b:=decide (v15 < (r13.length:Int))) (by simp) hb21 ?_
    refine SWp.exit ?_
    have h27:=congrArg some (ho18 _ (Option.some.inj h17).symm)
    cases h27
    exact hK11 _ () [] trivial (by simp [y])
  refine SWp.sR rfl (u _ rfl) fun K q=>?_
  refine wC rfl fun K q=>?_;simp [y];refine q _ ?_;clear q
  obtain ⟨⟨r29,r30⟩,hc31,h⟩:=bS h
  try dsimp only at h
  refine wL [(.bor,.tmp 41)] rfl rfl ent32 (impl_Packed_ok _ hc31) fun K q=>?_;simp [y];refine q _ ?_;clear q
  iterate 6 (refine wC rfl fun K q=>?_;simp [y];refine q _ ?_;clear q)
  refine wN (q _ ?_);clear q
  refine SWp.seq ?_
  refine SWp.sR rfl (u _ rfl) fun K q=>?_
  iterate 2 (refine wC rfl fun K q=>?_;simp [y];refine q _ ?_;clear q)
  refine wN (q _ ?_);clear q
  rcases aA h with ⟨hb32,h⟩ | ⟨hb33,h⟩
  ·refine SWp.cT' (b:=!r30) (by simp) hb32 ?_
   refine SWp.sR rfl (u _ rfl) fun K q=>?_
   refine wC rfl fun K q=>?_;simp [y];refine q _ ?_;clear q
   obtain ⟨r34,hc35,h⟩:=bS h
   refine wL [(.take,.tmp 47)] rfl rfl ent29 (gI _ hc35) fun K q=>?_;simp [y];refine q _ ?_;clear q
   iterate 2 (refine wC rfl fun K q=>?_;simp [y];refine q _ ?_;clear q)
   refine wN (q _ ?_);clear q
   cases h
   refine SWp.ret ?_
   simp [aC,iB,res11]
  ·refine SWp.cF' (b:=!r30) (by simp) hb33 ?_
   refine SWp.skip ?_
   show SWp E C _ _ _
   refine SWp.sR rfl (u _ rfl) fun K q=>?_
   iterate 3 (refine wC rfl fun K q=>?_;simp [y];refine q _ ?_;clear q)
   refine wN (q _ ?_);clear q
   cases h
   refine SWp.ret ?_
   simp [aC,iB,res11]
theorem res67:Tryz.f67.results.toList=[.tmp 2]:=rfl
theorem ent67:aE E.P 67:=eO Tryz.func67 (by simp [Tryz.f67]) rfl
theorem dD (k1:Int) {r0:ByteArray} (h:aM k1=some r0):Ok E 67 [.val (vi k1)] [vs r0] []:=by
 refine oB (fn:=Tryz.f67) Tryz.func67 rfl (by simp [Tryz.f67]) fun C hN hP=>?_
 have u:∀ l,pinK [] l=true→pinB C.pin l=true:=pO (by rw [hP];rfl)
 have y:C.N=20:=hN
 clear hN
 unfold aM at h
 refine SWp.sR rfl (u _ rfl) fun K q=>?_
 refine wC rfl fun K q=>?_;simp [y];refine q _ ?_;clear q
 refine wN (q _ ?_);clear q
 refine SWp.seq ?_
 refine SWp.sR rfl (u _ rfl) fun K q=>?_
 iterate 2 (refine wC rfl fun K q=>?_;simp [y];refine q _ ?_;clear q)
 refine wN (q _ ?_);clear q
 rcases aA h with ⟨hb2,h⟩ | ⟨hb3,h⟩
 ·refine SWp.cT' (b:=decide (k1 ≤ 0)) (by simp) hb2 ?_
  refine SWp.sR rfl (u _ rfl) fun K q=>?_
  refine wC rfl fun K q=>?_;simp [y];refine q _ ?_;clear q
  refine wN (q _ ?_);clear q
  cases h
  refine SWp.ret ?_
  simp [aC,iB,res67]
 ·refine SWp.cF' (b:=decide (k1 ≤ 0)) (by simp) hb3 ?_
  refine SWp.skip ?_
  show SWp E C _ _ _
  refine SWp.sR rfl (u _ rfl) fun K q=>?_
  refine wC rfl fun K q=>?_;simp [y];refine q _ ?_;clear q
  refine wN (q _ ?_);clear q
  obtain ⟨out16,hj4,h⟩:=bS h
  refine SWp.seqC [3] [] (fun _:Unit=>⟨[(3,.t (vs out16))],[]⟩) (fun _=>True) (fun _ _=>?_) fun K5 hK5=>?_
  rotate_left
  ·refine SWp.block ?_
   refine SWp.loopO [] [0,3] [] (fun v:Int × ByteArray=>⟨[(0,.t (vi v.1)),(3,.t (vs v.2))],[]⟩) (dE) _ (k1,(⟨#[]⟩:ByteArray)) hj4 (by simp [y]) ?_
   intro g s11 h9 ho10
   obtain ⟨k7,out8⟩:=g
   simp only [dE] at h9
   try dsimp only
   refine SWp.seq ?_
   refine SWp.sR rfl (u _ rfl) fun K q=>?_
   iterate 2 (refine wC rfl fun K q=>?_;simp [y];refine q _ ?_;clear q)
   refine wN (q _ ?_);clear q
   rcases aA h9 with ⟨hb12,h9⟩ | ⟨hb13,h9⟩
   ·refine SWp.cT' (b:=decide (k7 > 0)) (by simp) hb12 ?_
    refine SWp.skip ?_
    show SWp E C _ _ _
    refine SWp.block ?_
    refine SWp.sR rfl (u _ rfl) fun K q=>?_
    iterate 7 (refine wC rfl fun K q=>?_;simp [y];refine q _ ?_;clear q)
    obtain ⟨t14,ht14,h9⟩:=bS h9
    obtain ⟨ht14a,ht14b⟩:=sCat_some ht14
    iterate 2 (refine wC rfl fun K q=>?_;simp [y,ht14a,ht14b];refine q _ ?_;clear q)
    refine wN (q _ ?_);clear q
    refine SWp.reg rfl (u _ rfl) fun K q=>?_
    iterate 3 (refine wC rfl fun K q=>?_;simp [y];refine q _ ?_;clear q)
    refine wN (q _ ?_);clear q
    cases h9
    exact ⟨_,[],rfl,by simp [y]⟩
   ·refine SWp.cF' (b:=decide (k7 > 0)) (by simp) hb13 ?_
    refine SWp.exit ?_
    have h15:=congrArg some (ho10 _ (Option.some.inj h9).symm)
    cases h15
    exact hK5 _ () [] trivial (by simp [y])
  refine SWp.sR rfl (u _ rfl) fun K q=>?_
  refine wC rfl fun K q=>?_;simp [y];refine q _ ?_;clear q
  obtain ⟨t17,ht17,h⟩:=bS h
  obtain ⟨ht17a,ht17b⟩:=sCat_some ht17
  iterate 2 (refine wC rfl fun K q=>?_;simp [y,ht17a,ht17b];refine q _ ?_;clear q)
  refine wN (q _ ?_);clear q
  cases h
  refine SWp.ret ?_
  simp [aC,iB,res67]
theorem res68:Tryz.f68.results.toList=[.tmp 4]:=rfl
theorem ent68:aE E.P 68:=eO Tryz.func68 (by simp [Tryz.f68]) rfl
theorem laws_markIntS_ok (a1:List Int) (k2:Int) {r0:Int} {q0:List Int} (h:iA a1 k2=some (r0,q0)):OkIO E 68 [.val (.sl true 1 (List.map vi a1)),.val (vi k2)] [vi r0] [] [(0,.sl true 1 (List.map vi q0))]:=by
 refine fC (fn:=Tryz.f68) [(0,.sl true 1 (List.map vi q0))] Tryz.func68 rfl (by simp [Tryz.f68]) rfl fun C hN hP=>?_
 have u:∀ l,pinK [0] l=true→pinB C.pin l=true:=pO (by rw [hP];rfl)
 have y:C.N=19:=hN
 clear hN
 unfold iA at h
 refine SWp.sR rfl (u _ rfl) fun K q=>?_
 refine wC rfl fun K q=>?_;simp [y];refine q _ ?_;clear q
 refine wN (q _ ?_);clear q
 obtain ⟨⟨a17,k18⟩,hj3,h⟩:=bS h
 try dsimp only at h
 refine SWp.seqC [0,1] [] (fun _:Unit=>⟨[(0,.t (.sl true 1 (List.map vi a17))),(1,.t (vi k18))],[]⟩) (fun _=>True) (fun _ _=>?_) fun K4 hK4=>?_
 rotate_left
 ·refine SWp.sR rfl (u _ rfl) fun K q=>?_
  refine wC rfl fun K q=>?_;simp [y];refine q _ ?_;clear q
  refine wN (q _ ?_);clear q
  refine SWp.block ?_
  refine SWp.loopO [] [0,1,5] [] (fun v:(List Int) × Int × Int=>⟨[(0,.t (.sl true 1 (List.map vi v.1))),(1,.t (vi v.2.1)),(5,.t (vi v.2.2))],[]⟩) (bY) _ (a1,k2,0) hj3 (by simp [y]) ?_
  intro g s11 h9 ho10
  obtain ⟨a6,k7,i8⟩:=g
  simp only [bY] at h9
  try dsimp only
  refine SWp.seq ?_
  refine SWp.sR rfl (u _ rfl) fun K q=>?_
  iterate 4 (refine wC rfl fun K q=>?_;simp [y];refine q _ ?_;clear q)
  refine wN (q _ ?_);clear q
  rcases aA h9 with ⟨hb12,h9⟩ | ⟨hb13,h9⟩
  ·refine SWp.cT' (b:=decide (i8 < (a6.length:Int))) (by simp) hb12 ?_
   refine SWp.skip ?_
   show SWp E C _ _ _
   refine SWp.seq ?_
   refine SWp.block ?_
   refine SWp.sR rfl (u _ rfl) fun K q=>?_
   iterate 3 (refine wC rfl fun K q=>?_;simp [y];refine q _ ?_;clear q)
   obtain ⟨e14,he14,h9⟩:=bS h9
   obtain ⟨he14a,he14b,he14c,he14d⟩:=gS he14
   refine wC rfl fun K q=>?_;simp [y,he14a,he14b,he14c,he14d];refine q _ ?_;clear q
   obtain ⟨l15,hl15,h9⟩:=bZ h9
   have hl15f:(List.map vi a6).set i8.toNat (vi k7)=List.map vi l15:=cE (f:=vi) hl15
   try simp only [Int.toNat_natCast] at hl15f
   refine wC rfl fun K q=>?_;simp [y,he14a,he14b,he14c,he14d,hl15f];refine q _ ?_;clear q
   refine wN (q _ ?_);clear q
   refine SWp.reg rfl (u _ rfl) fun K q=>?_
   iterate 3 (refine wC rfl fun K q=>?_;simp [y];refine q _ ?_;clear q)
   refine wN (q _ ?_);clear q
   show SWp E C _ _ _
   refine SWp.reg rfl (u _ rfl) fun K q=>?_
   iterate 3 (refine wC rfl fun K q=>?_;simp [y];refine q _ ?_;clear q)
   refine wN (q _ ?_);clear q
   cases h9
   exact ⟨_,[],rfl,by simp [y]⟩
  ·refine SWp.cF' (b:=decide (i8 < (a6.length:Int))) (by simp) hb13 ?_
   refine SWp.exit ?_
   have h16:=congrArg some (ho10 _ (Option.some.inj h9).symm)
   cases h16
   exact hK4 _ () [] trivial (by simp [y])
 refine SWp.sR rfl (u _ rfl) fun K q=>?_
 iterate 2 (refine wC rfl fun K q=>?_;simp [y];refine q _ ?_;clear q)
 refine wN (q _ ?_);clear q
 cases h
 refine SWp.ret ?_
 simp [aC,iB,res68]
theorem res33:Tryz.f33.results.toList=[.tmp 4]:=rfl
theorem ent33:aE E.P 33:=eO Tryz.func33 (by simp [Tryz.f33]) rfl
theorem laws_markNodeS_ok (a1:List GNode) (k2:Int) {r0:Int} {q0:List GNode} (h:gB a1 k2=some (r0,q0)):OkIO E 33 [.val (.sl true 4 (List.map (GNode.enc true) a1)),.val (vi k2)] [vi r0] [] [(0,.sl true 4 (List.map (GNode.enc true) q0))]:=by
 refine fC (fn:=Tryz.f33) [(0,.sl true 4 (List.map (GNode.enc true) q0))] Tryz.func33 rfl (by simp [Tryz.f33]) rfl fun C hN hP=>?_
 have u:∀ l,pinK [0] l=true→pinB C.pin l=true:=pO (by rw [hP];rfl)
 have y:C.N=42:=hN
 clear hN
 unfold gB at h
 refine SWp.sR rfl (u _ rfl) fun K q=>?_
 refine wC rfl fun K q=>?_;simp [y];refine q _ ?_;clear q
 refine wN (q _ ?_);clear q
 obtain ⟨⟨a28,k29⟩,hj3,h⟩:=bS h
 try dsimp only at h
 refine SWp.seqC [0,1] [] (fun _:Unit=>⟨[(0,.t (.sl true 4 (List.map (GNode.enc true) a28))),(1,.t (vi k29))],[]⟩) (fun _=>True) (fun _ _=>?_) fun K4 hK4=>?_
 rotate_left
 ·refine SWp.sR rfl (u _ rfl) fun K q=>?_
  refine wC rfl fun K q=>?_;simp [y];refine q _ ?_;clear q
  refine wN (q _ ?_);clear q
  refine SWp.block ?_
  refine SWp.loopO [] [0,1,5] [] (fun v:(List GNode) × Int × Int=>⟨[(0,.t (.sl true 4 (List.map (GNode.enc true) v.1))),(1,.t (vi v.2.1)),(5,.t (vi v.2.2))],[]⟩) (bJ) _ (a1,k2,0) hj3 (by simp [y]) ?_
  intro g s11 h9 ho10
  obtain ⟨a6,k7,i8⟩:=g
  simp only [bJ] at h9
  try dsimp only
  refine SWp.seq ?_
  refine SWp.sR rfl (u _ rfl) fun K q=>?_
  iterate 4 (refine wC rfl fun K q=>?_;simp [y];refine q _ ?_;clear q)
  refine wN (q _ ?_);clear q
  rcases aA h9 with ⟨hb12,h9⟩ | ⟨hb13,h9⟩
  ·refine SWp.cT' (b:=decide (i8 < (a6.length:Int))) (by simp) hb12 ?_
   refine SWp.skip ?_
   show SWp E C _ _ _
   refine SWp.seq ?_
   refine SWp.block ?_
   refine SWp.sR rfl (u _ rfl) fun K q=>?_
   iterate 3 (refine wC rfl fun K q=>?_;simp [y];refine q _ ?_;clear q)
   obtain ⟨e14,he14,h9⟩:=bS h9
   obtain ⟨he14a,he14b,he14c,he14d⟩:=gS he14
   iterate 2 (refine wC rfl fun K q=>?_;simp [y,he14a,he14b,he14c,he14d];refine q _ ?_;clear q)
   obtain ⟨l15,hl15,h9⟩:=bZ h9
   have hl15f:(List.map (GNode.enc true) a6).set i8.toNat (.agg [vi k7,vi e14.Num,vs e14.Name,.sl true 1 (List.map vi e14.Kids)])=List.map (GNode.enc true) l15:=cE (f:=(GNode.enc true)) hl15
   try simp only [Int.toNat_natCast] at hl15f
   refine wC rfl fun K q=>?_;simp [y,he14a,he14b,he14c,he14d,hl15f];refine q _ ?_;clear q
   refine wN (q _ ?_);clear q
   refine SWp.sR rfl (u _ rfl) fun K q=>?_
   iterate 3 (refine wC rfl fun K q=>?_;simp [y];refine q _ ?_;clear q)
   refine wN (q _ ?_);clear q
   refine SWp.sR rfl (u _ rfl) fun K q=>?_
   iterate 3 (refine wC rfl fun K q=>?_;simp [y];refine q _ ?_;clear q)
   obtain ⟨e16,he16,h9⟩:=bS h9
   obtain ⟨he16a,he16b,he16c,he16d⟩:=gS he16
   iterate 2 (refine wC rfl fun K q=>?_;simp [y,he16a,he16b,he16c,he16d];refine q _ ?_;clear q)
   obtain ⟨l17,hl17,h9⟩:=bZ h9
   have hl17f:(List.map (GNode.enc true) l15).set i8.toNat (.agg [vi e16.Kind,vi (IntKind.wrap .i64 (k7 + 1)),vs e16.Name,.sl true 1 (List.map vi e16.Kids)])=List.map (GNode.enc true) l17:=cE (f:=(GNode.enc true)) hl17
   try simp only [Int.toNat_natCast] at hl17f
   refine wC rfl fun K q=>?_;simp [y,he16a,he16b,he16c,he16d,hl17f];refine q _ ?_;clear q
   refine wN (q _ ?_);clear q
   refine SWp.sR rfl (u _ rfl) fun K q=>?_
   iterate 3 (refine wC rfl fun K q=>?_;simp [y];refine q _ ?_;clear q)
   refine wN (q _ ?_);clear q
   refine SWp.sR rfl (u _ rfl) fun K q=>?_
   iterate 3 (refine wC rfl fun K q=>?_;simp [y];refine q _ ?_;clear q)
   obtain ⟨r18,hc19,h9⟩:=bS h9
   refine wL [(.take,.tmp 28)] rfl rfl ent67 (dD _ hc19) fun K q=>?_;simp [y];refine q _ ?_;clear q
   obtain ⟨e20,he20,h9⟩:=bS h9
   obtain ⟨he20a,he20b,he20c,he20d⟩:=gS he20
   iterate 2 (refine wC rfl fun K q=>?_;simp [y,he20a,he20b,he20c,he20d];refine q _ ?_;clear q)
   obtain ⟨l21,hl21,h9⟩:=bZ h9
   have hl21f:(List.map (GNode.enc true) l17).set i8.toNat (.agg [vi e20.Kind,vi e20.Num,vs r18,.sl true 1 (List.map vi e20.Kids)])=List.map (GNode.enc true) l21:=cE (f:=(GNode.enc true)) hl21
   try simp only [Int.toNat_natCast] at hl21f
   refine wC rfl fun K q=>?_;simp [y,he20a,he20b,he20c,he20d,hl21f];refine q _ ?_;clear q
   refine wN (q _ ?_);clear q
   refine SWp.sR rfl (u _ rfl) fun K q=>?_
   iterate 3 (refine wC rfl fun K q=>?_;simp [y];refine q _ ?_;clear q)
   refine wN (q _ ?_);clear q
   refine SWp.reg rfl (u _ rfl) fun K q=>?_
   iterate 2 (refine wC rfl fun K q=>?_;simp [y];refine q _ ?_;clear q)
   obtain ⟨e22,he22,h9⟩:=bS h9
   obtain ⟨he22a,he22b,he22c,he22d⟩:=gS he22
   iterate 4 (refine wC rfl fun K q=>?_;simp [y,he22a,he22b,he22c,he22d];refine q _ ?_;clear q)
   obtain ⟨⟨r23,q24⟩,hc25,h9⟩:=bS h9
   try dsimp only at h9
   refine iK rfl ent68 (laws_markIntS_ok _ _ hc25) fun K q=>?_;simp [y,he22a,he22b,he22c,he22d];refine q _ ?_;clear q
   obtain ⟨l26,hl26,h9⟩:=bZ h9
   have hl26f:(List.map (GNode.enc true) l21).set i8.toNat (.agg [vi e22.Kind,vi e22.Num,vs e22.Name,.sl true 1 (List.map vi q24)])=List.map (GNode.enc true) l26:=cE (f:=(GNode.enc true)) hl26
   try simp only [Int.toNat_natCast] at hl26f
   refine wC rfl fun K q=>?_;simp [y,he22a,he22b,he22c,he22d,hl26f];refine q _ ?_;clear q
   refine wN (q _ ?_);clear q
   show SWp E C _ _ _
   refine SWp.reg rfl (u _ rfl) fun K q=>?_
   iterate 3 (refine wC rfl fun K q=>?_;simp [y];refine q _ ?_;clear q)
   refine wN (q _ ?_);clear q
   cases h9
   exact ⟨_,[],rfl,by simp [y]⟩
  ·refine SWp.cF' (b:=decide (i8 < (a6.length:Int))) (by simp) hb13 ?_
   refine SWp.exit ?_
   have h27:=congrArg some (ho10 _ (Option.some.inj h9).symm)
   cases h27
   exact hK4 _ () [] trivial (by simp [y])
 refine SWp.sR rfl (u _ rfl) fun K q=>?_
 iterate 2 (refine wC rfl fun K q=>?_;simp [y];refine q _ ?_;clear q)
 refine wN (q _ ?_);clear q
 cases h
 refine SWp.ret ?_
 simp [aC,iB,res33]
theorem res69:Tryz.f69.results.toList=[.tmp 4]:=rfl
theorem ent69:aE E.P 69:=eO Tryz.func69 (by simp [Tryz.f69]) rfl
theorem qL (a1:List GParam) (k2:Int) {r0:Int} {q0:List GParam} (h:fD a1 k2=some (r0,q0)):OkIO E 69 [.val (.sl true 2 (List.map GParam.enc a1)),.val (vi k2)] [vi r0] [] [(0,.sl true 2 (List.map GParam.enc q0))]:=by
 refine fC (fn:=Tryz.f69) [(0,.sl true 2 (List.map GParam.enc q0))] Tryz.func69 rfl (by simp [Tryz.f69]) rfl fun C hN hP=>?_
 have u:∀ l,pinK [0] l=true→pinB C.pin l=true:=pO (by rw [hP];rfl)
 have y:C.N=28:=hN
 clear hN
 unfold fD at h
 refine SWp.sR rfl (u _ rfl) fun K q=>?_
 refine wC rfl fun K q=>?_;simp [y];refine q _ ?_;clear q
 refine wN (q _ ?_);clear q
 obtain ⟨⟨a21,k22⟩,hj3,h⟩:=bS h
 try dsimp only at h
 refine SWp.seqC [0,1] [] (fun _:Unit=>⟨[(0,.t (.sl true 2 (List.map GParam.enc a21))),(1,.t (vi k22))],[]⟩) (fun _=>True) (fun _ _=>?_) fun K4 hK4=>?_
 rotate_left
 ·refine SWp.sR rfl (u _ rfl) fun K q=>?_
  refine wC rfl fun K q=>?_;simp [y];refine q _ ?_;clear q
  refine wN (q _ ?_);clear q
  refine SWp.block ?_
  refine SWp.loopO [] [0,1,5] [] (fun v:(List GParam) × Int × Int=>⟨[(0,.t (.sl true 2 (List.map GParam.enc v.1))),(1,.t (vi v.2.1)),(5,.t (vi v.2.2))],[]⟩) (bD) _ (a1,k2,0) hj3 (by simp [y]) ?_
  intro g s11 h9 ho10
  obtain ⟨a6,k7,i8⟩:=g
  simp only [bD] at h9
  try dsimp only
  refine SWp.seq ?_
  refine SWp.sR rfl (u _ rfl) fun K q=>?_
  iterate 4 (refine wC rfl fun K q=>?_;simp [y];refine q _ ?_;clear q)
  refine wN (q _ ?_);clear q
  rcases aA h9 with ⟨hb12,h9⟩ | ⟨hb13,h9⟩
  ·refine SWp.cT' (b:=decide (i8 < (a6.length:Int))) (by simp) hb12 ?_
   refine SWp.skip ?_
   show SWp E C _ _ _
   refine SWp.seq ?_
   refine SWp.block ?_
   refine SWp.sR rfl (u _ rfl) fun K q=>?_
   iterate 3 (refine wC rfl fun K q=>?_;simp [y];refine q _ ?_;clear q)
   obtain ⟨r14,hc15,h9⟩:=bS h9
   refine wL [(.take,.tmp 14)] rfl rfl ent67 (dD _ hc15) fun K q=>?_;simp [y];refine q _ ?_;clear q
   obtain ⟨e16,he16,h9⟩:=bS h9
   obtain ⟨he16a,he16b,he16c,he16d⟩:=gS he16
   iterate 2 (refine wC rfl fun K q=>?_;simp [y,he16a,he16b,he16c,he16d];refine q _ ?_;clear q)
   obtain ⟨l17,hl17,h9⟩:=bZ h9
   have hl17f:(List.map GParam.enc a6).set i8.toNat (.agg [vs r14,vi e16.Typ])=List.map GParam.enc l17:=cE (f:=GParam.enc) hl17
   try simp only [Int.toNat_natCast] at hl17f
   refine wC rfl fun K q=>?_;simp [y,he16a,he16b,he16c,he16d,hl17f];refine q _ ?_;clear q
   refine wN (q _ ?_);clear q
   refine SWp.sR rfl (u _ rfl) fun K q=>?_
   iterate 3 (refine wC rfl fun K q=>?_;simp [y];refine q _ ?_;clear q)
   refine wN (q _ ?_);clear q
   refine SWp.sR rfl (u _ rfl) fun K q=>?_
   iterate 3 (refine wC rfl fun K q=>?_;simp [y];refine q _ ?_;clear q)
   obtain ⟨e18,he18,h9⟩:=bS h9
   obtain ⟨he18a,he18b,he18c,he18d⟩:=gS he18
   iterate 2 (refine wC rfl fun K q=>?_;simp [y,he18a,he18b,he18c,he18d];refine q _ ?_;clear q)
   obtain ⟨l19,hl19,h9⟩:=bZ h9
   have hl19f:(List.map GParam.enc l17).set i8.toNat (.agg [vs e18.Name,vi (IntKind.wrap .i64 (k7 + 1))])=List.map GParam.enc l19:=cE (f:=GParam.enc) hl19
   try simp only [Int.toNat_natCast] at hl19f
   refine wC rfl fun K q=>?_;simp [y,he18a,he18b,he18c,he18d,hl19f];refine q _ ?_;clear q
   refine wN (q _ ?_);clear q
   refine SWp.reg rfl (u _ rfl) fun K q=>?_
   iterate 3 (refine wC rfl fun K q=>?_;simp [y];refine q _ ?_;clear q)
   refine wN (q _ ?_);clear q
   show SWp E C _ _ _
   refine SWp.reg rfl (u _ rfl) fun K q=>?_
   iterate 3 (refine wC rfl fun K q=>?_;simp [y];refine q _ ?_;clear q)
   refine wN (q _ ?_);clear q
   cases h9
   exact ⟨_,[],rfl,by simp [y]⟩
  ·refine SWp.cF' (b:=decide (i8 < (a6.length:Int))) (by simp) hb13 ?_
   refine SWp.exit ?_
   have h20:=congrArg some (ho10 _ (Option.some.inj h9).symm)
   cases h20
   exact hK4 _ () [] trivial (by simp [y])
 refine SWp.sR rfl (u _ rfl) fun K q=>?_
 iterate 2 (refine wC rfl fun K q=>?_;simp [y];refine q _ ?_;clear q)
 refine wN (q _ ?_);clear q
 cases h
 refine SWp.ret ?_
 simp [aC,iB,res69]
theorem res34:Tryz.f34.results.toList=[.tmp 4]:=rfl
theorem ent34:aE E.P 34:=eO Tryz.func34 (by simp [Tryz.f34]) rfl
theorem laws_markFnS_ok (a1:List GFn) (k2:Int) {r0:Int} {q0:List GFn} (h:iY a1 k2=some (r0,q0)):OkIO E 34 [.val (.sl true 5 (List.map (GFn.enc true) a1)),.val (vi k2)] [vi r0] [] [(0,.sl true 5 (List.map (GFn.enc true) q0))]:=by
 refine fC (fn:=Tryz.f34) [(0,.sl true 5 (List.map (GFn.enc true) q0))] Tryz.func34 rfl (by simp [Tryz.f34]) rfl fun C hN hP=>?_
 have u:∀ l,pinK [0] l=true→pinB C.pin l=true:=pO (by rw [hP];rfl)
 have y:C.N=49:=hN
 clear hN
 unfold iY at h
 refine SWp.sR rfl (u _ rfl) fun K q=>?_
 refine wC rfl fun K q=>?_;simp [y];refine q _ ?_;clear q
 refine wN (q _ ?_);clear q
 obtain ⟨⟨a30,k31⟩,hj3,h⟩:=bS h
 try dsimp only at h
 refine SWp.seqC [0,1] [] (fun _:Unit=>⟨[(0,.t (.sl true 5 (List.map (GFn.enc true) a30))),(1,.t (vi k31))],[]⟩) (fun _=>True) (fun _ _=>?_) fun K4 hK4=>?_
 rotate_left
 ·refine SWp.sR rfl (u _ rfl) fun K q=>?_
  refine wC rfl fun K q=>?_;simp [y];refine q _ ?_;clear q
  refine wN (q _ ?_);clear q
  refine SWp.block ?_
  refine SWp.loopO [] [0,1,5] [] (fun v:(List GFn) × Int × Int=>⟨[(0,.t (.sl true 5 (List.map (GFn.enc true) v.1))),(1,.t (vi v.2.1)),(5,.t (vi v.2.2))],[]⟩) (cT) _ (a1,k2,0) hj3 (by simp [y]) ?_
  intro g s11 h9 ho10
  obtain ⟨a6,k7,i8⟩:=g
  simp only [cT] at h9
  try dsimp only
  refine SWp.seq ?_
  refine SWp.sR rfl (u _ rfl) fun K q=>?_
  iterate 4 (refine wC rfl fun K q=>?_;simp [y];refine q _ ?_;clear q)
  refine wN (q _ ?_);clear q
  rcases aA h9 with ⟨hb12,h9⟩ | ⟨hb13,h9⟩
  ·refine SWp.cT' (b:=decide (i8 < (a6.length:Int))) (by simp) hb12 ?_
   refine SWp.skip ?_
   show SWp E C _ _ _
   refine SWp.seq ?_
   refine SWp.block ?_
   refine SWp.sR rfl (u _ rfl) fun K q=>?_
   iterate 3 (refine wC rfl fun K q=>?_;simp [y];refine q _ ?_;clear q)
   obtain ⟨r14,hc15,h9⟩:=bS h9
   refine wL [(.take,.tmp 14)] rfl rfl ent67 (dD _ hc15) fun K q=>?_;simp [y];refine q _ ?_;clear q
   obtain ⟨e16,he16,h9⟩:=bS h9
   obtain ⟨he16a,he16b,he16c,he16d⟩:=gS he16
   iterate 2 (refine wC rfl fun K q=>?_;simp [y,he16a,he16b,he16c,he16d];refine q _ ?_;clear q)
   obtain ⟨l17,hl17,h9⟩:=bZ h9
   have hl17f:(List.map (GFn.enc true) a6).set i8.toNat (.agg [vs r14,.sl true 2 (List.map GParam.enc e16.Params),vi e16.Res,vi e16.Body,vi e16.Ret])=List.map (GFn.enc true) l17:=cE (f:=(GFn.enc true)) hl17
   try simp only [Int.toNat_natCast] at hl17f
   refine wC rfl fun K q=>?_;simp [y,he16a,he16b,he16c,he16d,hl17f];refine q _ ?_;clear q
   refine wN (q _ ?_);clear q
   refine SWp.sR rfl (u _ rfl) fun K q=>?_
   iterate 3 (refine wC rfl fun K q=>?_;simp [y];refine q _ ?_;clear q)
   refine wN (q _ ?_);clear q
   refine SWp.sR rfl (u _ rfl) fun K q=>?_
   iterate 2 (refine wC rfl fun K q=>?_;simp [y];refine q _ ?_;clear q)
   obtain ⟨e18,he18,h9⟩:=bS h9
   obtain ⟨he18a,he18b,he18c,he18d⟩:=gS he18
   iterate 4 (refine wC rfl fun K q=>?_;simp [y,he18a,he18b,he18c,he18d];refine q _ ?_;clear q)
   obtain ⟨⟨r19,q20⟩,hc21,h9⟩:=bS h9
   try dsimp only at h9
   refine iK rfl ent69 (qL _ _ hc21) fun K q=>?_;simp [y,he18a,he18b,he18c,he18d];refine q _ ?_;clear q
   obtain ⟨l22,hl22,h9⟩:=bZ h9
   have hl22f:(List.map (GFn.enc true) l17).set i8.toNat (.agg [vs e18.Name,.sl true 2 (List.map GParam.enc q20),vi e18.Res,vi e18.Body,vi e18.Ret])=List.map (GFn.enc true) l22:=cE (f:=(GFn.enc true)) hl22
   try simp only [Int.toNat_natCast] at hl22f
   refine wC rfl fun K q=>?_;simp [y,he18a,he18b,he18c,he18d,hl22f];refine q _ ?_;clear q
   refine wN (q _ ?_);clear q
   refine SWp.sR rfl (u _ rfl) fun K q=>?_
   iterate 3 (refine wC rfl fun K q=>?_;simp [y];refine q _ ?_;clear q)
   obtain ⟨e23,he23,h9⟩:=bS h9
   obtain ⟨he23a,he23b,he23c,he23d⟩:=gS he23
   iterate 2 (refine wC rfl fun K q=>?_;simp [y,he23a,he23b,he23c,he23d];refine q _ ?_;clear q)
   obtain ⟨l24,hl24,h9⟩:=bZ h9
   have hl24f:(List.map (GFn.enc true) l22).set i8.toNat (.agg [vs e23.Name,.sl true 2 (List.map GParam.enc e23.Params),vi r19,vi e23.Body,vi e23.Ret])=List.map (GFn.enc true) l24:=cE (f:=(GFn.enc true)) hl24
   try simp only [Int.toNat_natCast] at hl24f
   refine wC rfl fun K q=>?_;simp [y,he23a,he23b,he23c,he23d,hl24f];refine q _ ?_;clear q
   refine wN (q _ ?_);clear q
   refine SWp.sR rfl (u _ rfl) fun K q=>?_
   iterate 3 (refine wC rfl fun K q=>?_;simp [y];refine q _ ?_;clear q)
   refine wN (q _ ?_);clear q
   refine SWp.sR rfl (u _ rfl) fun K q=>?_
   iterate 3 (refine wC rfl fun K q=>?_;simp [y];refine q _ ?_;clear q)
   obtain ⟨e25,he25,h9⟩:=bS h9
   obtain ⟨he25a,he25b,he25c,he25d⟩:=gS he25
   iterate 2 (refine wC rfl fun K q=>?_;simp [y,he25a,he25b,he25c,he25d];refine q _ ?_;clear q)
   obtain ⟨l26,hl26,h9⟩:=bZ h9
   have hl26f:(List.map (GFn.enc true) l24).set i8.toNat (.agg [vs e25.Name,.sl true 2 (List.map GParam.enc e25.Params),vi e25.Res,vi (IntKind.wrap .i64 (r19 + 1)),vi e25.Ret])=List.map (GFn.enc true) l26:=cE (f:=(GFn.enc true)) hl26
   try simp only [Int.toNat_natCast] at hl26f
   refine wC rfl fun K q=>?_;simp [y,he25a,he25b,he25c,he25d,hl26f];refine q _ ?_;clear q
   refine wN (q _ ?_);clear q
   refine SWp.sR rfl (u _ rfl) fun K q=>?_
   iterate 3 (refine wC rfl fun K q=>?_;simp [y];refine q _ ?_;clear q)
   refine wN (q _ ?_);clear q
   refine SWp.sR rfl (u _ rfl) fun K q=>?_
   iterate 3 (refine wC rfl fun K q=>?_;simp [y];refine q _ ?_;clear q)
   obtain ⟨e27,he27,h9⟩:=bS h9
   obtain ⟨he27a,he27b,he27c,he27d⟩:=gS he27
   iterate 2 (refine wC rfl fun K q=>?_;simp [y,he27a,he27b,he27c,he27d];refine q _ ?_;clear q)
   obtain ⟨l28,hl28,h9⟩:=bZ h9
   have hl28f:(List.map (GFn.enc true) l26).set i8.toNat (.agg [vs e27.Name,.sl true 2 (List.map GParam.enc e27.Params),vi e27.Res,vi e27.Body,vi (IntKind.wrap .i64 ((IntKind.wrap .i64 (r19 + 1)) + 1))])=List.map (GFn.enc true) l28:=cE (f:=(GFn.enc true)) hl28
   try simp only [Int.toNat_natCast] at hl28f
   refine wC rfl fun K q=>?_;simp [y,he27a,he27b,he27c,he27d,hl28f];refine q _ ?_;clear q
   refine wN (q _ ?_);clear q
   refine SWp.reg rfl (u _ rfl) fun K q=>?_
   iterate 3 (refine wC rfl fun K q=>?_;simp [y];refine q _ ?_;clear q)
   refine wN (q _ ?_);clear q
   show SWp E C _ _ _
   refine SWp.reg rfl (u _ rfl) fun K q=>?_
   iterate 3 (refine wC rfl fun K q=>?_;simp [y];refine q _ ?_;clear q)
   refine wN (q _ ?_);clear q
   cases h9
   exact ⟨_,[],rfl,by simp [y]⟩
  ·refine SWp.cF' (b:=decide (i8 < (a6.length:Int))) (by simp) hb13 ?_
   refine SWp.exit ?_
   have h29:=congrArg some (ho10 _ (Option.some.inj h9).symm)
   cases h29
   exact hK4 _ () [] trivial (by simp [y])
 refine SWp.sR rfl (u _ rfl) fun K q=>?_
 iterate 2 (refine wC rfl fun K q=>?_;simp [y];refine q _ ?_;clear q)
 refine wN (q _ ?_);clear q
 cases h
 refine SWp.ret ?_
 simp [aC,iB,res34]
theorem res12:Tryz.f12.results.toList=[.tmp 4]:=rfl
theorem ent12:aE E.P 12:=eO Tryz.func12 (by simp [Tryz.f12]) rfl
theorem kM (a1:GProgram) (k2:Int) {r0:Int} {q0:GProgram} (h:dF a1 k2=some (r0,q0)):OkIO E 12 [.val (GProgram.enc true a1),.val (vi k2)] [vi r0] [] [(0,GProgram.enc true q0)]:=by
 refine fC (fn:=Tryz.f12) [(0,GProgram.enc true q0)] Tryz.func12 rfl (by simp [Tryz.f12]) rfl fun C hN hP=>?_
 have u:∀ l,pinK [0] l=true→pinB C.pin l=true:=pO (by rw [hP];rfl)
 obtain ⟨V,hVp⟩:=pin_one (n:=0) (by rw [hP];rfl)
 have y:C.N=14:=hN
 clear hN
 unfold dF at h
 refine SWp.seqRW rfl (u _ rfl) fun K q=>?_
 refine W_box 2 rfl rfl hVp (X:=GProgram.enc true a1) (by simp) (by simp) fun cs hcs hl K q=>?_
 obtain ⟨p0,p1,rfl⟩:∃ p0 p1,cs=[p0,p1]:=by match cs,hl with | [p0,p1],_=>exact ⟨p0,p1,rfl⟩
 simp [y];refine q _ ?_;clear q
 refine W_op fun KW hKW=>?_
 refine wC rfl fun K q=>?_;simp [y];refine q _ ?_;clear q
 refine wN (hKW _ ?_);clear hKW
 refine W_nil (q _ ?_);clear q
 refine SWp.seqRW rfl (u _ rfl) fun K q=>?_
 refine W_op fun KW hKW=>?_
 refine wC rfl fun K q=>?_;simp [y];refine q _ ?_;clear q
 refine wN (hKW _ ?_);clear hKW
 refine W_op fun KW hKW=>?_
 refine wC rfl fun K q=>?_;simp [y];refine q _ ?_;clear q
 refine wN (hKW _ ?_);clear hKW
 refine W_op fun KW hKW=>?_
 refine wC rfl fun K q=>?_;simp [y];refine q _ ?_;clear q
 refine wN (hKW _ ?_);clear hKW
 obtain ⟨⟨r3,q4⟩,hc5,h⟩:=bS h
 try dsimp only at h
 refine W_call 0 0 none rfl rfl ent33 hVp hcs (laws_markNodeS_ok _ _ hc5) fun K q=>?_;simp [y];refine q _ ?_;clear q
 refine W_op fun KW hKW=>?_
 refine wC rfl fun K q=>?_;simp [y];refine q _ ?_;clear q
 refine wN (hKW _ ?_);clear hKW
 refine W_nil (q _ ?_);clear q
 refine SWp.seqRW rfl (u _ rfl) fun K q=>?_
 refine W_op fun KW hKW=>?_
 refine wC rfl fun K q=>?_;simp [y];refine q _ ?_;clear q
 refine wN (hKW _ ?_);clear hKW
 refine W_op fun KW hKW=>?_
 refine wC rfl fun K q=>?_;simp [y];refine q _ ?_;clear q
 refine wN (hKW _ ?_);clear hKW
 refine W_op fun KW hKW=>?_
 refine wC rfl fun K q=>?_;simp [y];refine q _ ?_;clear q
 refine wN (hKW _ ?_);clear hKW
 obtain ⟨⟨r6,q7⟩,hc8,h⟩:=bS h
 try dsimp only at h
 refine W_call 0 1 none rfl rfl ent34 hVp hcs (laws_markFnS_ok _ _ hc8) fun K q=>?_;simp [y];refine q _ ?_;clear q
 refine W_op fun KW hKW=>?_
 refine wC rfl fun K q=>?_;simp [y];refine q _ ?_;clear q
 refine wN (hKW _ ?_);clear hKW
 refine W_nil (q _ ?_);clear q
 refine SWp.seqRW rfl (u _ rfl) fun K q=>?_
 refine W_op fun KW hKW=>?_
 refine wC rfl fun K q=>?_;simp [y];refine q _ ?_;clear q
 refine wN (hKW _ ?_);clear hKW
 refine W_op fun KW hKW=>?_
 refine wC rfl fun K q=>?_;simp [y];refine q _ ?_;clear q
 refine wN (hKW _ ?_);clear hKW
 refine W_nil (q _ ?_);clear q
 cases h
 refine SWp.ret ?_
 simp [aC,iB,res12]
theorem res70:Tryz.f70.results.toList=[.tmp 4]:=rfl
theorem ent70:aE E.P 70:=eO Tryz.func70 (by simp [Tryz.f70]) rfl
theorem laws_heldIntS_ok (a1:List Int) (k2:Int) {r0:Int} (h:dL a1 k2=some r0):Ok E 70 [.val (.sl false 1 (List.map vi a1)),.val (vi k2)] [vi r0] []:=by
 refine oB (fn:=Tryz.f70) Tryz.func70 rfl (by simp [Tryz.f70]) fun C hN hP=>?_
 have hPB:∀ l,pinK [] l=true→pinB C.pin l=true:=pO (by rw [hP];rfl)
 have hN':C.N=21:=hN
 clear hN
 unfold dL at h
 refine SWp.sR rfl (hPB _ rfl) fun K hK=>?_
 refine wC rfl fun K hK=>?_;simp [hN'];refine hK _ ?_;clear hK
 refine wN (hK _ ?_);clear hK
 obtain ⟨j5,hj3,h⟩:=bS h
 refine SWp.seqC [1] [] (fun v:Int=>⟨[(1,.t (vi v))],[]⟩) (fun v=>j5=Sum.inl v) (fun v hv=>?_) fun K4 hK4=>?_
 rotate_left
 ·refine SWp.sR rfl (hPB _ rfl) fun K hK=>?_
  refine wC rfl fun K hK=>?_;simp [hN'];refine hK _ ?_;clear hK
  refine wN (hK _ ?_);clear hK
  refine SWp.block ?_
  refine SWp.loopO [] [0,1,5] [] (fun v:Int × Int=>⟨[(0,.t (.sl false 1 (List.map vi a1))),(1,.t (vi v.1)),(5,.t (vi v.2))],[]⟩) (cA a1) _ (k2,0) hj3 (by simp [hN']) ?_
  intro g s10 h8 ho9
  obtain ⟨k6,i7⟩:=g
  simp only [cA] at h8
  try dsimp only
  refine SWp.seq ?_
  refine SWp.sR rfl (hPB _ rfl) fun K hK=>?_
  iterate 4 (refine wC rfl fun K hK=>?_;simp [hN'];refine hK _ ?_;clear hK)
  refine wN (hK _ ?_);clear hK
  rcases aA h8 with ⟨hb11,h8⟩ | ⟨hb12,h8⟩
  ·refine SWp.cT' (b:=decide (i7 < (a1.length:Int))) (by simp) hb11 ?_
   refine SWp.skip ?_
   show SWp E C _ _ _
   refine SWp.seq ?_
   refine SWp.block ?_
   refine SWp.seq ?_
   refine SWp.sR rfl (hPB _ rfl) fun K hK=>?_
   iterate 2 (refine wC rfl fun K hK=>?_;simp [hN'];refine hK _ ?_;clear hK)
   obtain ⟨e13,he13,h8⟩:=bS h8
   obtain ⟨he13a,he13b,he13c,he13d⟩:=gS he13
   iterate 4 (refine wC rfl fun K hK=>?_;simp [hN',he13a,he13b,he13c,he13d];refine hK _ ?_;clear hK)
   refine wN (hK _ ?_);clear hK
   rcases aA h8 with ⟨hb14,h8⟩ | ⟨hb15,h8⟩
   ·refine SWp.cT' (b:=e13 != k6) (by simp) hb14 ?_
    refine SWp.sR rfl (hPB _ rfl) fun K hK=>?_
    refine wC rfl fun K hK=>?_;simp [hN'];refine hK _ ?_;clear hK
    refine wN (hK _ ?_);clear hK
    have h16:=congrArg some (ho9 _ (Option.some.inj h8).symm)
    cases h16
    try dsimp only at h
    cases h
    refine SWp.ret ?_
    simp [aC,iB,res70]
   ·refine SWp.cF' (b:=e13 != k6) (by simp) hb15 ?_
    refine SWp.skip ?_
    show SWp E C _ _ _
    refine SWp.reg rfl (hPB _ rfl) fun K hK=>?_
    iterate 3 (refine wC rfl fun K hK=>?_;simp [hN'];refine hK _ ?_;clear hK)
    refine wN (hK _ ?_);clear hK
    show SWp E C _ _ _
    refine SWp.reg rfl (hPB _ rfl) fun K hK=>?_
    iterate 3 (refine wC rfl fun K hK=>?_;simp [hN'];refine hK _ ?_;clear hK)
    refine wN (hK _ ?_);clear hK
    cases h8
    exact ⟨_,[],rfl,by simp [hN']⟩
  ·refine SWp.cF' (b:=decide (i7 < (a1.length:Int))) (by simp) hb12 ?_
   refine SWp.exit ?_
   have h17:=congrArg some (ho9 _ (Option.some.inj h8).symm)
   cases h17
   exact hK4 _ _ [] rfl (by simp [hN'])
 subst hv
 obtain ⟨k18,hv⟩:∃ y,y=v:=⟨_,rfl⟩
 subst hv
 try dsimp only at h ⊢
 refine SWp.sR rfl (hPB _ rfl) fun K hK=>?_
 iterate 2 (refine wC rfl fun K hK=>?_;simp [hN'];refine hK _ ?_;clear hK)
 refine wN (hK _ ?_);clear hK
 cases h
 refine SWp.ret ?_
 simp [aC,iB,res70]
theorem res35:Tryz.f35.results.toList=[.tmp 4]:=rfl
theorem ent35:aE E.P 35:=eO Tryz.func35 (by simp [Tryz.f35]) rfl
theorem laws_heldNodeS_ok (a1:List GNode) (k2:Int) {r0:Int} (h:gC a1 k2=some r0):Ok E 35 [.val (.sl false 4 (List.map (GNode.enc false) a1)),.val (vi k2)] [vi r0] []:=by
 refine oB (fn:=Tryz.f35) Tryz.func35 rfl (by simp [Tryz.f35]) fun C hN hP=>?_
 have hPB:∀ l,pinK [] l=true→pinB C.pin l=true:=pO (by rw [hP];rfl)
 have hN':C.N=50:=hN
 clear hN
 unfold gC at h
 refine SWp.sR rfl (hPB _ rfl) fun K hK=>?_
 refine wC rfl fun K hK=>?_;simp [hN'];refine hK _ ?_;clear hK
 refine wN (hK _ ?_);clear hK
 obtain ⟨j5,hj3,h⟩:=bS h
 refine SWp.seqC [1] [] (fun v:Int=>⟨[(1,.t (vi v))],[]⟩) (fun v=>j5=Sum.inl v) (fun v hv=>?_) fun K4 hK4=>?_
 rotate_left
 ·refine SWp.sR rfl (hPB _ rfl) fun K hK=>?_
  refine wC rfl fun K hK=>?_;simp [hN'];refine hK _ ?_;clear hK
  refine wN (hK _ ?_);clear hK
  refine SWp.block ?_
  refine SWp.loopO [] [0,1,5] [] (fun v:Int × Int=>⟨[(0,.t (.sl false 4 (List.map (GNode.enc false) a1))),(1,.t (vi v.1)),(5,.t (vi v.2))],[]⟩) (bK a1) _ (k2,0) hj3 (by simp [hN']) ?_
  intro g s10 h8 ho9
  obtain ⟨k6,i7⟩:=g
  simp only [bK] at h8
  try dsimp only
  refine SWp.seq ?_
  refine SWp.sR rfl (hPB _ rfl) fun K hK=>?_
  iterate 4 (refine wC rfl fun K hK=>?_;simp [hN'];refine hK _ ?_;clear hK)
  refine wN (hK _ ?_);clear hK
  rcases aA h8 with ⟨hb11,h8⟩ | ⟨hb12,h8⟩
  ·refine SWp.cT' (b:=decide (i7 < (a1.length:Int))) (by simp) hb11 ?_
   refine SWp.skip ?_
   show SWp E C _ _ _
   refine SWp.seq ?_
   refine SWp.block ?_
   refine SWp.seq ?_
   refine SWp.sR rfl (hPB _ rfl) fun K hK=>?_
   iterate 2 (refine wC rfl fun K hK=>?_;simp [hN'];refine hK _ ?_;clear hK)
   obtain ⟨e13,he13,h8⟩:=bS h8
   obtain ⟨he13a,he13b,he13c,he13d⟩:=gS he13
   iterate 5 (refine wC rfl fun K hK=>?_;simp [hN',he13a,he13b,he13c,he13d];refine hK _ ?_;clear hK)
   refine wN (hK _ ?_);clear hK
   rcases aA h8 with ⟨hb14,h8⟩ | ⟨hb15,h8⟩
   ·refine SWp.cT' (b:=e13.Kind != k6) (by simp) hb14 ?_
    refine SWp.sR rfl (hPB _ rfl) fun K hK=>?_
    refine wC rfl fun K hK=>?_;simp [hN'];refine hK _ ?_;clear hK
    refine wN (hK _ ?_);clear hK
    have h16:=congrArg some (ho9 _ (Option.some.inj h8).symm)
    cases h16
    try dsimp only at h
    cases h
    refine SWp.ret ?_
    simp [aC,iB,res35]
   ·refine SWp.cF' (b:=e13.Kind != k6) (by simp) hb15 ?_
    refine SWp.skip ?_
    show SWp E C _ _ _
    refine SWp.sR rfl (hPB _ rfl) fun K hK=>?_
    iterate 3 (refine wC rfl fun K hK=>?_;simp [hN'];refine hK _ ?_;clear hK)
    refine wN (hK _ ?_);clear hK
    refine SWp.seq ?_
    refine SWp.sR rfl (hPB _ rfl) fun K hK=>?_
    iterate 2 (refine wC rfl fun K hK=>?_;simp [hN'];refine hK _ ?_;clear hK)
    obtain ⟨e17,he17,h8⟩:=bS h8
    obtain ⟨he17a,he17b,he17c,he17d⟩:=gS he17
    iterate 5 (refine wC rfl fun K hK=>?_;simp [hN',he17a,he17b,he17c,he17d];refine hK _ ?_;clear hK)
    refine wN (hK _ ?_);clear hK
    rcases aA h8 with ⟨hb18,h8⟩ | ⟨hb19,h8⟩
    ·refine SWp.cT' (b:=e17.Num != (IntKind.wrap .i64 (k6 + 1))) (by simp) hb18 ?_
     refine SWp.sR rfl (hPB _ rfl) fun K hK=>?_
     refine wC rfl fun K hK=>?_;simp [hN'];refine hK _ ?_;clear hK
     refine wN (hK _ ?_);clear hK
     have h20:=congrArg some (ho9 _ (Option.some.inj h8).symm)
     cases h20
     try dsimp only at h
     cases h
     refine SWp.ret ?_
     simp [aC,iB,res35]
    ·refine SWp.cF' (b:=e17.Num != (IntKind.wrap .i64 (k6 + 1))) (by simp) hb19 ?_
     refine SWp.skip ?_
     show SWp E C _ _ _
     refine SWp.sR rfl (hPB _ rfl) fun K hK=>?_
     iterate 3 (refine wC rfl fun K hK=>?_;simp [hN'];refine hK _ ?_;clear hK)
     refine wN (hK _ ?_);clear hK
     refine SWp.seq ?_
     refine SWp.seq ?_
     obtain ⟨e22,he22,h8⟩:=bS h8
     obtain ⟨he22a,he22b,he22c,he22d⟩:=gS he22
     obtain ⟨r23,hc24,h8⟩:=bS h8
     refine SWp.dT rfl (hPB _ rfl) [(30,.t (.sl false 4 (List.map (GNode.enc false) a1))),(31,.t (vi i7)),(32,.rop [vi e22.Kind,vi e22.Num,vs e22.Name,.sl false 1 (List.map vi e22.Kids)] 0),(33,.rop [vi e22.Kind,vi e22.Num,vs e22.Name,.sl false 1 (List.map vi e22.Kids)] 2),(34,.t (vs e22.Name)),(35,.t (vi (IntKind.wrap .i64 ((IntKind.wrap .i64 (k6 + 1)) + 1)))),(36,.t (vs r23))] [[],[],[0,1],[0,1,2],[0,1,2,3],[],[5],[0,1,2,3,4,5,6]] (by simp) (by simp) (by simp [look]) rfl rfl rfl ?_ fun K hK=>?_
     ·refine ⟨?_,?_,?_,?_,?_,?_,?_,trivial⟩
      all_goals (intro τ hbx hb hd hf K hK;try simp [vsAt] at hd;simp [vsAt] at hf;first | (refine wC rfl fun K' hK'=>?_;simp [hN',hbx,hb,hd,hf,he22a,he22b,he22c,he22d];exact hK' _ (wN (hK _ (by simp [vsAt,hbx,he22a,he22b,he22c,he22d])))) | (refine wL [(.take,.tmp 35)] rfl rfl ent67 (dD _ hc24) fun K' hK'=>?_;simp [hN',hbx,hb,hd,hf,he22a,he22b,he22c,he22d];exact hK' _ (wN (hK _ (by simp [vsAt,hbx,he22a,he22b,he22c,he22d])))))
     refine wC rfl fun K hK=>?_;simp [hN',he22a,he22b,he22c,he22d];refine hK _ ?_;clear hK
     refine wN (hK _ ?_);clear hK
     show SWp E C _ _ _
     rcases aA h8 with ⟨hb25,h8⟩ | ⟨hb26,h8⟩
     ·refine SWp.cT' (b:=!(sEq e22.Name r23)) (by simp) hb25 ?_
      refine SWp.sR rfl (hPB _ rfl) fun K hK=>?_
      refine wC rfl fun K hK=>?_;simp [hN'];refine hK _ ?_;clear hK
      refine wN (hK _ ?_);clear hK
      have h27:=congrArg some (ho9 _ (Option.some.inj h8).symm)
      cases h27
      try dsimp only at h
      cases h
      refine SWp.ret ?_
      simp [aC,iB,res35]
     ·refine SWp.cF' (b:=!(sEq e22.Name r23)) (by simp) hb26 ?_
      refine SWp.skip ?_
      show SWp E C _ _ _
      refine SWp.sR rfl (hPB _ rfl) fun K hK=>?_
      iterate 3 (refine wC rfl fun K hK=>?_;simp [hN'];refine hK _ ?_;clear hK)
      refine wN (hK _ ?_);clear hK
      refine SWp.sR rfl (hPB _ rfl) fun K hK=>?_
      iterate 2 (refine wC rfl fun K hK=>?_;simp [hN'];refine hK _ ?_;clear hK)
      obtain ⟨e28,he28,h8⟩:=bS h8
      obtain ⟨he28a,he28b,he28c,he28d⟩:=gS he28
      iterate 4 (refine wC rfl fun K hK=>?_;simp [hN',he28a,he28b,he28c,he28d];refine hK _ ?_;clear hK)
      obtain ⟨r29,hc30,h8⟩:=bS h8
      refine wL [(.take,.tmp 44),(.take,.tmp 45)] rfl rfl ent70 (laws_heldIntS_ok _ _ hc30) fun K hK=>?_;simp [hN',he28a,he28b,he28c,he28d];refine hK _ ?_;clear hK
      refine wC rfl fun K hK=>?_;simp [hN',he28a,he28b,he28c,he28d];refine hK _ ?_;clear hK
      refine wN (hK _ ?_);clear hK
      refine SWp.sR rfl (hPB _ rfl) fun K hK=>?_
      iterate 2 (refine wC rfl fun K hK=>?_;simp [hN'];refine hK _ ?_;clear hK)
      refine wN (hK _ ?_);clear hK
      rcases aA h8 with ⟨hb31,h8⟩ | ⟨hb32,h8⟩
      ·refine SWp.cT' (b:=decide (r29 < 0)) (by simp) hb31 ?_
       refine SWp.sR rfl (hPB _ rfl) fun K hK=>?_
       refine wC rfl fun K hK=>?_;simp [hN'];refine hK _ ?_;clear hK
       refine wN (hK _ ?_);clear hK
       have h33:=congrArg some (ho9 _ (Option.some.inj h8).symm)
       cases h33
       try dsimp only at h
       cases h
       refine SWp.ret ?_
       simp [aC,iB,res35]
      ·refine SWp.cF' (b:=decide (r29 < 0)) (by simp) hb32 ?_
       refine SWp.skip ?_
       show SWp E C _ _ _
       refine SWp.reg rfl (hPB _ rfl) fun K hK=>?_
       iterate 3 (refine wC rfl fun K hK=>?_;simp [hN'];refine hK _ ?_;clear hK)
       refine wN (hK _ ?_);clear hK
       cases h8
       exact ⟨_,[],rfl,by simp [hN']⟩
  ·refine SWp.cF' (b:=decide (i7 < (a1.length:Int))) (by simp) hb12 ?_
   refine SWp.exit ?_
   have h34:=congrArg some (ho9 _ (Option.some.inj h8).symm)
   cases h34
   exact hK4 _ _ [] rfl (by simp [hN'])
 subst hv
 obtain ⟨k35,hv⟩:∃ y,y=v:=⟨_,rfl⟩
 subst hv
 try dsimp only at h ⊢
 refine SWp.sR rfl (hPB _ rfl) fun K hK=>?_
 iterate 2 (refine wC rfl fun K hK=>?_;simp [hN'];refine hK _ ?_;clear hK)
 refine wN (hK _ ?_);clear hK
 cases h
 refine SWp.ret ?_
 simp [aC,iB,res35]
theorem res71:Tryz.f71.results.toList=[.tmp 4]:=rfl
theorem ent71:aE E.P 71:=eO Tryz.func71 (by simp [Tryz.f71]) rfl
theorem qM (a1:List GParam) (k2:Int) {r0:Int} (h:bO a1 k2=some r0):Ok E 71 [.val (.sl false 2 (List.map GParam.enc a1)),.val (vi k2)] [vi r0] []:=by
 refine oB (fn:=Tryz.f71) Tryz.func71 rfl (by simp [Tryz.f71]) fun C hN hP=>?_
 have hPB:∀ l,pinK [] l=true→pinB C.pin l=true:=pO (by rw [hP];rfl)
 have hN':C.N=32:=hN
 clear hN
 unfold bO at h
 refine SWp.sR rfl (hPB _ rfl) fun K hK=>?_
 refine wC rfl fun K hK=>?_;simp [hN'];refine hK _ ?_;clear hK
 refine wN (hK _ ?_);clear hK
 obtain ⟨j5,hj3,h⟩:=bS h
 refine SWp.seqC [1] [] (fun v:Int=>⟨[(1,.t (vi v))],[]⟩) (fun v=>j5=Sum.inl v) (fun v hv=>?_) fun K4 hK4=>?_
 rotate_left
 ·refine SWp.sR rfl (hPB _ rfl) fun K hK=>?_
  refine wC rfl fun K hK=>?_;simp [hN'];refine hK _ ?_;clear hK
  refine wN (hK _ ?_);clear hK
  refine SWp.block ?_
  refine SWp.loopO [] [0,1,5] [] (fun v:Int × Int=>⟨[(0,.t (.sl false 2 (List.map GParam.enc a1))),(1,.t (vi v.1)),(5,.t (vi v.2))],[]⟩) (bE a1) _ (k2,0) hj3 (by simp [hN']) ?_
  intro g s10 h8 ho9
  obtain ⟨k6,i7⟩:=g
  simp only [bE] at h8
  try dsimp only
  refine SWp.seq ?_
  refine SWp.sR rfl (hPB _ rfl) fun K hK=>?_
  iterate 4 (refine wC rfl fun K hK=>?_;simp [hN'];refine hK _ ?_;clear hK)
  refine wN (hK _ ?_);clear hK
  rcases aA h8 with ⟨hb11,h8⟩ | ⟨hb12,h8⟩
  ·refine SWp.cT' (b:=decide (i7 < (a1.length:Int))) (by simp) hb11 ?_
   refine SWp.skip ?_
   show SWp E C _ _ _
   refine SWp.seq ?_
   refine SWp.block ?_
   refine SWp.seq ?_
   refine SWp.seq ?_
   obtain ⟨e14,he14,h8⟩:=bS h8
   obtain ⟨he14a,he14b,he14c,he14d⟩:=gS he14
   obtain ⟨r15,hc16,h8⟩:=bS h8
   refine SWp.dT rfl (hPB _ rfl) [(12,.t (.sl false 2 (List.map GParam.enc a1))),(13,.t (vi i7)),(14,.rop [vs e14.Name,vi e14.Typ] 0),(15,.rop [vs e14.Name,vi e14.Typ] 0),(16,.t (vs e14.Name)),(17,.t (vi k6)),(18,.t (vs r15))] [[],[],[0,1],[0,1,2],[0,1,2,3],[],[5],[0,1,2,3,4,5,6]] (by simp) (by simp) (by simp [look]) rfl rfl rfl ?_ fun K hK=>?_
   ·refine ⟨?_,?_,?_,?_,?_,?_,?_,trivial⟩
    all_goals (intro τ hbx hb hd hf K hK;try simp [vsAt] at hd;simp [vsAt] at hf;first | (refine wC rfl fun K' hK'=>?_;simp [hN',hbx,hb,hd,hf,he14a,he14b,he14c,he14d];exact hK' _ (wN (hK _ (by simp [vsAt,hbx,he14a,he14b,he14c,he14d])))) | (refine wL [(.take,.tmp 17)] rfl rfl ent67 (dD _ hc16) fun K' hK'=>?_;simp [hN',hbx,hb,hd,hf,he14a,he14b,he14c,he14d];exact hK' _ (wN (hK _ (by simp [vsAt,hbx,he14a,he14b,he14c,he14d])))))
   refine wC rfl fun K hK=>?_;simp [hN',he14a,he14b,he14c,he14d];refine hK _ ?_;clear hK
   refine wN (hK _ ?_);clear hK
   show SWp E C _ _ _
   rcases aA h8 with ⟨hb17,h8⟩ | ⟨hb18,h8⟩
   ·refine SWp.cT' (b:=!(sEq e14.Name r15)) (by simp) hb17 ?_
    refine SWp.sR rfl (hPB _ rfl) fun K hK=>?_
    refine wC rfl fun K hK=>?_;simp [hN'];refine hK _ ?_;clear hK
    refine wN (hK _ ?_);clear hK
    have h19:=congrArg some (ho9 _ (Option.some.inj h8).symm)
    cases h19
    try dsimp only at h
    cases h
    refine SWp.ret ?_
    simp [aC,iB,res71]
   ·refine SWp.cF' (b:=!(sEq e14.Name r15)) (by simp) hb18 ?_
    refine SWp.skip ?_
    show SWp E C _ _ _
    refine SWp.sR rfl (hPB _ rfl) fun K hK=>?_
    iterate 3 (refine wC rfl fun K hK=>?_;simp [hN'];refine hK _ ?_;clear hK)
    refine wN (hK _ ?_);clear hK
    refine SWp.seq ?_
    refine SWp.sR rfl (hPB _ rfl) fun K hK=>?_
    iterate 2 (refine wC rfl fun K hK=>?_;simp [hN'];refine hK _ ?_;clear hK)
    obtain ⟨e20,he20,h8⟩:=bS h8
    obtain ⟨he20a,he20b,he20c,he20d⟩:=gS he20
    iterate 5 (refine wC rfl fun K hK=>?_;simp [hN',he20a,he20b,he20c,he20d];refine hK _ ?_;clear hK)
    refine wN (hK _ ?_);clear hK
    rcases aA h8 with ⟨hb21,h8⟩ | ⟨hb22,h8⟩
    ·refine SWp.cT' (b:=e20.Typ != (IntKind.wrap .i64 (k6 + 1))) (by simp) hb21 ?_
     refine SWp.sR rfl (hPB _ rfl) fun K hK=>?_
     refine wC rfl fun K hK=>?_;simp [hN'];refine hK _ ?_;clear hK
     refine wN (hK _ ?_);clear hK
     have h23:=congrArg some (ho9 _ (Option.some.inj h8).symm)
     cases h23
     try dsimp only at h
     cases h
     refine SWp.ret ?_
     simp [aC,iB,res71]
    ·refine SWp.cF' (b:=e20.Typ != (IntKind.wrap .i64 (k6 + 1))) (by simp) hb22 ?_
     refine SWp.skip ?_
     show SWp E C _ _ _
     refine SWp.reg rfl (hPB _ rfl) fun K hK=>?_
     iterate 3 (refine wC rfl fun K hK=>?_;simp [hN'];refine hK _ ?_;clear hK)
     refine wN (hK _ ?_);clear hK
     show SWp E C _ _ _
     refine SWp.reg rfl (hPB _ rfl) fun K hK=>?_
     iterate 3 (refine wC rfl fun K hK=>?_;simp [hN'];refine hK _ ?_;clear hK)
     refine wN (hK _ ?_);clear hK
     cases h8
     exact ⟨_,[],rfl,by simp [hN']⟩
  ·refine SWp.cF' (b:=decide (i7 < (a1.length:Int))) (by simp) hb12 ?_
   refine SWp.exit ?_
   have h24:=congrArg some (ho9 _ (Option.some.inj h8).symm)
   cases h24
   exact hK4 _ _ [] rfl (by simp [hN'])
 subst hv
 obtain ⟨k25,hv⟩:∃ y,y=v:=⟨_,rfl⟩
 subst hv
 try dsimp only at h ⊢
 refine SWp.sR rfl (hPB _ rfl) fun K hK=>?_
 iterate 2 (refine wC rfl fun K hK=>?_;simp [hN'];refine hK _ ?_;clear hK)
 refine wN (hK _ ?_);clear hK
 cases h
 refine SWp.ret ?_
 simp [aC,iB,res71]
theorem res36:Tryz.f36.results.toList=[.tmp 4]:=rfl
theorem ent36:aE E.P 36:=eO Tryz.func36 (by simp [Tryz.f36]) rfl
theorem laws_heldFnS_ok (a1:List GFn) (k2:Int) {r0:Int} (h:iZ a1 k2=some r0):Ok E 36 [.val (.sl false 5 (List.map (GFn.enc false) a1)),.val (vi k2)] [vi r0] []:=by
 refine oB (fn:=Tryz.f36) Tryz.func36 rfl (by simp [Tryz.f36]) fun C hN hP=>?_
 have hPB:∀ l,pinK [] l=true→pinB C.pin l=true:=pO (by rw [hP];rfl)
 have hN':C.N=59:=hN
 clear hN
 unfold iZ at h
 refine SWp.sR rfl (hPB _ rfl) fun K hK=>?_
 refine wC rfl fun K hK=>?_;simp [hN'];refine hK _ ?_;clear hK
 refine wN (hK _ ?_);clear hK
 obtain ⟨j5,hj3,h⟩:=bS h
 refine SWp.seqC [1] [] (fun v:Int=>⟨[(1,.t (vi v))],[]⟩) (fun v=>j5=Sum.inl v) (fun v hv=>?_) fun K4 hK4=>?_
 rotate_left
 ·refine SWp.sR rfl (hPB _ rfl) fun K hK=>?_
  refine wC rfl fun K hK=>?_;simp [hN'];refine hK _ ?_;clear hK
  refine wN (hK _ ?_);clear hK
  refine SWp.block ?_
  refine SWp.loopO [] [0,1,5] [] (fun v:Int × Int=>⟨[(0,.t (.sl false 5 (List.map (GFn.enc false) a1))),(1,.t (vi v.1)),(5,.t (vi v.2))],[]⟩) (cU a1) _ (k2,0) hj3 (by simp [hN']) ?_
  intro g s10 h8 ho9
  obtain ⟨k6,i7⟩:=g
  simp only [cU] at h8
  try dsimp only
  refine SWp.seq ?_
  refine SWp.sR rfl (hPB _ rfl) fun K hK=>?_
  iterate 4 (refine wC rfl fun K hK=>?_;simp [hN'];refine hK _ ?_;clear hK)
  refine wN (hK _ ?_);clear hK
  rcases aA h8 with ⟨hb11,h8⟩ | ⟨hb12,h8⟩
  ·refine SWp.cT' (b:=decide (i7 < (a1.length:Int))) (by simp) hb11 ?_
   refine SWp.skip ?_
   show SWp E C _ _ _
   refine SWp.seq ?_
   refine SWp.block ?_
   refine SWp.seq ?_
   refine SWp.seq ?_
   obtain ⟨e14,he14,h8⟩:=bS h8
   obtain ⟨he14a,he14b,he14c,he14d⟩:=gS he14
   obtain ⟨r15,hc16,h8⟩:=bS h8
   refine SWp.dT rfl (hPB _ rfl) [(12,.t (.sl false 5 (List.map (GFn.enc false) a1))),(13,.t (vi i7)),(14,.rop [vs e14.Name,.sl false 2 (List.map GParam.enc e14.Params),vi e14.Res,vi e14.Body,vi e14.Ret] 0),(15,.rop [vs e14.Name,.sl false 2 (List.map GParam.enc e14.Params),vi e14.Res,vi e14.Body,vi e14.Ret] 0),(16,.t (vs e14.Name)),(17,.t (vi k6)),(18,.t (vs r15))] [[],[],[0,1],[0,1,2],[0,1,2,3],[],[5],[0,1,2,3,4,5,6]] (by simp) (by simp) (by simp [look]) rfl rfl rfl ?_ fun K hK=>?_
   ·refine ⟨?_,?_,?_,?_,?_,?_,?_,trivial⟩
    all_goals (intro τ hbx hb hd hf K hK;try simp [vsAt] at hd;simp [vsAt] at hf;first | (refine wC rfl fun K' hK'=>?_;simp [hN',hbx,hb,hd,hf,he14a,he14b,he14c,he14d];exact hK' _ (wN (hK _ (by simp [vsAt,hbx,he14a,he14b,he14c,he14d])))) | (refine wL [(.take,.tmp 17)] rfl rfl ent67 (dD _ hc16) fun K' hK'=>?_;simp [hN',hbx,hb,hd,hf,he14a,he14b,he14c,he14d];exact hK' _ (wN (hK _ (by simp [vsAt,hbx,he14a,he14b,he14c,he14d])))))
   refine wC rfl fun K hK=>?_;simp [hN',he14a,he14b,he14c,he14d];refine hK _ ?_;clear hK
   refine wN (hK _ ?_);clear hK
   show SWp E C _ _ _
   rcases aA h8 with ⟨hb17,h8⟩ | ⟨hb18,h8⟩
   ·refine SWp.cT' (b:=!(sEq e14.Name r15)) (by simp) hb17 ?_
    refine SWp.sR rfl (hPB _ rfl) fun K hK=>?_
    refine wC rfl fun K hK=>?_;simp [hN'];refine hK _ ?_;clear hK
    refine wN (hK _ ?_);clear hK
    have h19:=congrArg some (ho9 _ (Option.some.inj h8).symm)
    cases h19
    try dsimp only at h
    cases h
    refine SWp.ret ?_
    simp [aC,iB,res36]
   ·refine SWp.cF' (b:=!(sEq e14.Name r15)) (by simp) hb18 ?_
    refine SWp.skip ?_
    show SWp E C _ _ _
    refine SWp.sR rfl (hPB _ rfl) fun K hK=>?_
    iterate 3 (refine wC rfl fun K hK=>?_;simp [hN'];refine hK _ ?_;clear hK)
    refine wN (hK _ ?_);clear hK
    refine SWp.sR rfl (hPB _ rfl) fun K hK=>?_
    iterate 2 (refine wC rfl fun K hK=>?_;simp [hN'];refine hK _ ?_;clear hK)
    obtain ⟨e20,he20,h8⟩:=bS h8
    obtain ⟨he20a,he20b,he20c,he20d⟩:=gS he20
    iterate 4 (refine wC rfl fun K hK=>?_;simp [hN',he20a,he20b,he20c,he20d];refine hK _ ?_;clear hK)
    obtain ⟨r21,hc22,h8⟩:=bS h8
    refine wL [(.take,.tmp 26),(.take,.tmp 27)] rfl rfl ent71 (qM _ _ hc22) fun K hK=>?_;simp [hN',he20a,he20b,he20c,he20d];refine hK _ ?_;clear hK
    refine wC rfl fun K hK=>?_;simp [hN',he20a,he20b,he20c,he20d];refine hK _ ?_;clear hK
    refine wN (hK _ ?_);clear hK
    refine SWp.seq ?_
    refine SWp.sR rfl (hPB _ rfl) fun K hK=>?_
    iterate 2 (refine wC rfl fun K hK=>?_;simp [hN'];refine hK _ ?_;clear hK)
    refine wN (hK _ ?_);clear hK
    rcases aA h8 with ⟨hb23,h8⟩ | ⟨hb24,h8⟩
    ·refine SWp.cT' (b:=decide (r21 < 0)) (by simp) hb23 ?_
     refine SWp.sR rfl (hPB _ rfl) fun K hK=>?_
     refine wC rfl fun K hK=>?_;simp [hN'];refine hK _ ?_;clear hK
     refine wN (hK _ ?_);clear hK
     have h25:=congrArg some (ho9 _ (Option.some.inj h8).symm)
     cases h25
     try dsimp only at h
     cases h
     refine SWp.ret ?_
     simp [aC,iB,res36]
    ·refine SWp.cF' (b:=decide (r21 < 0)) (by simp) hb24 ?_
     refine SWp.skip ?_
     show SWp E C _ _ _
     refine SWp.seq ?_
     refine SWp.sR rfl (hPB _ rfl) fun K hK=>?_
     iterate 2 (refine wC rfl fun K hK=>?_;simp [hN'];refine hK _ ?_;clear hK)
     obtain ⟨e26,he26,h8⟩:=bS h8
     obtain ⟨he26a,he26b,he26c,he26d⟩:=gS he26
     iterate 5 (refine wC rfl fun K hK=>?_;simp [hN',he26a,he26b,he26c,he26d];refine hK _ ?_;clear hK)
     refine wN (hK _ ?_);clear hK
     rcases aA h8 with ⟨hb27,h8⟩ | ⟨hb28,h8⟩
     ·refine SWp.cT' (b:=e26.Res != r21) (by simp) hb27 ?_
      refine SWp.sR rfl (hPB _ rfl) fun K hK=>?_
      refine wC rfl fun K hK=>?_;simp [hN'];refine hK _ ?_;clear hK
      refine wN (hK _ ?_);clear hK
      have h29:=congrArg some (ho9 _ (Option.some.inj h8).symm)
      cases h29
      try dsimp only at h
      cases h
      refine SWp.ret ?_
      simp [aC,iB,res36]
     ·refine SWp.cF' (b:=e26.Res != r21) (by simp) hb28 ?_
      refine SWp.skip ?_
      show SWp E C _ _ _
      refine SWp.sR rfl (hPB _ rfl) fun K hK=>?_
      iterate 3 (refine wC rfl fun K hK=>?_;simp [hN'];refine hK _ ?_;clear hK)
      refine wN (hK _ ?_);clear hK
      refine SWp.seq ?_
      refine SWp.sR rfl (hPB _ rfl) fun K hK=>?_
      iterate 2 (refine wC rfl fun K hK=>?_;simp [hN'];refine hK _ ?_;clear hK)
      obtain ⟨e30,he30,h8⟩:=bS h8
      obtain ⟨he30a,he30b,he30c,he30d⟩:=gS he30
      iterate 5 (refine wC rfl fun K hK=>?_;simp [hN',he30a,he30b,he30c,he30d];refine hK _ ?_;clear hK)
      refine wN (hK _ ?_);clear hK
      rcases aA h8 with ⟨hb31,h8⟩ | ⟨hb32,h8⟩
      ·refine SWp.cT' (b:=e30.Body != (IntKind.wrap .i64 (r21 + 1))) (by simp) hb31 ?_
       refine SWp.sR rfl (hPB _ rfl) fun K hK=>?_
       refine wC rfl fun K hK=>?_;simp [hN'];refine hK _ ?_;clear hK
       refine wN (hK _ ?_);clear hK
       have h33:=congrArg some (ho9 _ (Option.some.inj h8).symm)
       cases h33
       try dsimp only at h
       cases h
       refine SWp.ret ?_
       simp [aC,iB,res36]
      ·refine SWp.cF' (b:=e30.Body != (IntKind.wrap .i64 (r21 + 1))) (by simp) hb32 ?_
       refine SWp.skip ?_
       show SWp E C _ _ _
       refine SWp.sR rfl (hPB _ rfl) fun K hK=>?_
       iterate 3 (refine wC rfl fun K hK=>?_;simp [hN'];refine hK _ ?_;clear hK)
       refine wN (hK _ ?_);clear hK
       refine SWp.seq ?_
       refine SWp.sR rfl (hPB _ rfl) fun K hK=>?_
       iterate 2 (refine wC rfl fun K hK=>?_;simp [hN'];refine hK _ ?_;clear hK)
       obtain ⟨e34,he34,h8⟩:=bS h8
       obtain ⟨he34a,he34b,he34c,he34d⟩:=gS he34
       iterate 5 (refine wC rfl fun K hK=>?_;simp [hN',he34a,he34b,he34c,he34d];refine hK _ ?_;clear hK)
       refine wN (hK _ ?_);clear hK
       rcases aA h8 with ⟨hb35,h8⟩ | ⟨hb36,h8⟩
       ·refine SWp.cT' (b:=e34.Ret != (IntKind.wrap .i64 ((IntKind.wrap .i64 (r21 + 1)) + 1))) (by simp) hb35 ?_
        refine SWp.sR rfl (hPB _ rfl) fun K hK=>?_
        refine wC rfl fun K hK=>?_;simp [hN'];refine hK _ ?_;clear hK
        refine wN (hK _ ?_);clear hK
        have h37:=congrArg some (ho9 _ (Option.some.inj h8).symm)
        cases h37
        try dsimp only at h
        cases h
        refine SWp.ret ?_
        simp [aC,iB,res36]
       ·refine SWp.cF' (b:=e34.Ret != (IntKind.wrap .i64 ((IntKind.wrap .i64 (r21 + 1)) + 1))) (by simp) hb36 ?_
        refine SWp.skip ?_
        show SWp E C _ _ _
        refine SWp.reg rfl (hPB _ rfl) fun K hK=>?_
        iterate 3 (refine wC rfl fun K hK=>?_;simp [hN'];refine hK _ ?_;clear hK)
        refine wN (hK _ ?_);clear hK
        show SWp E C _ _ _
        refine SWp.reg rfl (hPB _ rfl) fun K hK=>?_
        iterate 3 (refine wC rfl fun K hK=>?_;simp [hN'];refine hK _ ?_;clear hK)
        refine wN (hK _ ?_);clear hK
        cases h8
        exact ⟨_,[],rfl,by simp [hN']⟩
  ·refine SWp.cF' (b:=decide (i7 < (a1.length:Int))) (by simp) hb12 ?_
   refine SWp.exit ?_
   have h38:=congrArg some (ho9 _ (Option.some.inj h8).symm)
   cases h38
   exact hK4 _ _ [] rfl (by simp [hN'])
 subst hv
 obtain ⟨k39,hv⟩:∃ y,y=v:=⟨_,rfl⟩
 subst hv
 try dsimp only at h ⊢
 refine SWp.sR rfl (hPB _ rfl) fun K hK=>?_
 iterate 2 (refine wC rfl fun K hK=>?_;simp [hN'];refine hK _ ?_;clear hK)
 refine wN (hK _ ?_);clear hK
 cases h
 refine SWp.ret ?_
 simp [aC,iB,res36]
theorem res13:Tryz.f13.results.toList=[.tmp 4]:=rfl
theorem ent13:aE E.P 13:=eO Tryz.func13 (by simp [Tryz.f13]) rfl
theorem kN (a1:GProgram) (k2:Int) {r0:Int} (h:dG a1 k2=some r0):Ok E 13 [.val (GProgram.enc false a1),.val (vi k2)] [vi r0] []:=by
 refine oB (fn:=Tryz.f13) Tryz.func13 rfl (by simp [Tryz.f13]) fun C hN hP=>?_
 have u:∀ l,pinK [] l=true→pinB C.pin l=true:=pO (by rw [hP];rfl)
 have y:C.N=18:=hN
 clear hN
 unfold dG at h
 refine SWp.sR rfl (u _ rfl) fun K q=>?_
 iterate 2 (refine wC rfl fun K q=>?_;simp [y];refine q _ ?_;clear q)
 refine wN (q _ ?_);clear q
 refine SWp.sR rfl (u _ rfl) fun K q=>?_
 iterate 3 (refine wC rfl fun K q=>?_;simp [y];refine q _ ?_;clear q)
 obtain ⟨r3,hc4,h⟩:=bS h
 refine wL [(.take,.tmp 6),(.take,.tmp 7)] rfl rfl ent35 (laws_heldNodeS_ok _ _ hc4) fun K q=>?_;simp [y];refine q _ ?_;clear q
 refine wC rfl fun K q=>?_;simp [y];refine q _ ?_;clear q
 refine wN (q _ ?_);clear q
 refine SWp.seq ?_
 refine SWp.sR rfl (u _ rfl) fun K q=>?_
 iterate 2 (refine wC rfl fun K q=>?_;simp [y];refine q _ ?_;clear q)
 refine wN (q _ ?_);clear q
 rcases aA h with ⟨hb5,h⟩ | ⟨hb6,h⟩
 ·refine SWp.cT' (b:=decide (r3 < 0)) (by simp) hb5 ?_
  refine SWp.sR rfl (u _ rfl) fun K q=>?_
  refine wC rfl fun K q=>?_;simp [y];refine q _ ?_;clear q
  refine wN (q _ ?_);clear q
  cases h
  refine SWp.ret ?_
  simp [aC,iB,res13]
 ·refine SWp.cF' (b:=decide (r3 < 0)) (by simp) hb6 ?_
  refine SWp.skip ?_
  show SWp E C _ _ _
  refine SWp.sR rfl (u _ rfl) fun K q=>?_
  iterate 3 (refine wC rfl fun K q=>?_;simp [y];refine q _ ?_;clear q)
  obtain ⟨r7,hc8,h⟩:=bS h
  refine wL [(.take,.tmp 12),(.take,.tmp 13)] rfl rfl ent36 (laws_heldFnS_ok _ _ hc8) fun K q=>?_;simp [y];refine q _ ?_;clear q
  refine wC rfl fun K q=>?_;simp [y];refine q _ ?_;clear q
  refine wN (q _ ?_);clear q
  refine SWp.seq ?_
  refine SWp.sR rfl (u _ rfl) fun K q=>?_
  iterate 2 (refine wC rfl fun K q=>?_;simp [y];refine q _ ?_;clear q)
  refine wN (q _ ?_);clear q
  rcases aA h with ⟨hb9,h⟩ | ⟨hb10,h⟩
  ·refine SWp.cT' (b:=decide (r7 < 0)) (by simp) hb9 ?_
   refine SWp.sR rfl (u _ rfl) fun K q=>?_
   refine wC rfl fun K q=>?_;simp [y];refine q _ ?_;clear q
   refine wN (q _ ?_);clear q
   cases h
   refine SWp.ret ?_
   simp [aC,iB,res13]
  ·refine SWp.cF' (b:=decide (r7 < 0)) (by simp) hb10 ?_
   refine SWp.skip ?_
   show SWp E C _ _ _
   refine SWp.sR rfl (u _ rfl) fun K q=>?_
   iterate 2 (refine wC rfl fun K q=>?_;simp [y];refine q _ ?_;clear q)
   refine wN (q _ ?_);clear q
   cases h
   refine SWp.ret ?_
   simp [aC,iB,res13]
theorem res4:Tryz.f4.results.toList=[.tmp 2]:=rfl
theorem mQ (aP1:GProgram) {r0:Bool} (h:dR aP1=some r0):Ok E 4 [.val (GProgram.enc false aP1)] [vb r0] []:=by
 refine oB (fn:=Tryz.f4) Tryz.func4 rfl (by simp [Tryz.f4]) fun C hN hP=>?_
 have u:∀ l,pinK [] l=true→pinB C.pin l=true:=pO (by rw [hP];rfl)
 have y:C.N=96:=hN
 clear hN
 unfold dR at h
 refine SWp.sR rfl (u _ rfl) fun K q=>?_
 iterate 2 (refine wC rfl fun K q=>?_;simp [y];refine q _ ?_;clear q)
 refine wN (q _ ?_);clear q
 refine SWp.sR rfl (u _ rfl) fun K q=>?_
 refine wC rfl fun K q=>?_;simp [y];refine q _ ?_;clear q
 refine wN (q _ ?_);clear q
 refine SWp.sR rfl (u _ rfl) fun K q=>?_
 iterate 2 (refine wC rfl fun K q=>?_;simp [y];refine q _ ?_;clear q)
 obtain ⟨r2,hc3,h⟩:=bS h
 refine wL [(.take,.tmp 14),(.take,.tmp 15)] rfl rfl ent5 (laws_szProgram_ok _ _ hc3) fun K q=>?_;simp [y];refine q _ ?_;clear q
 refine wC rfl fun K q=>?_;simp [y];refine q _ ?_;clear q
 refine wN (q _ ?_);clear q
 refine SWp.seq ?_
 refine SWp.sR rfl (u _ rfl) fun K q=>?_
 iterate 2 (refine wC rfl fun K q=>?_;simp [y];refine q _ ?_;clear q)
 refine wN (q _ ?_);clear q
 rcases aA h with ⟨hb4,h⟩ | ⟨hb5,h⟩
 ·refine SWp.cT' (b:=decide (r2 < 0)) (by simp) hb4 ?_
  refine SWp.sR rfl (u _ rfl) fun K q=>?_
  refine wC rfl fun K q=>?_;simp [y];refine q _ ?_;clear q
  refine wN (q _ ?_);clear q
  cases h
  refine SWp.ret ?_
  simp [aC,iB,res4]
 ·refine SWp.cF' (b:=decide (r2 < 0)) (by simp) hb5 ?_
  refine SWp.skip ?_
  show SWp E C _ _ _
  refine SWp.sR rfl (u _ rfl) fun K q=>?_
  refine wC rfl fun K q=>?_;simp [y];refine q _ ?_;clear q
  obtain ⟨r6,hc7,h⟩:=bS h
  refine wL [(.take,.tmp 20)] rfl rfl ent7 (fK _ hc7) fun K q=>?_;simp [y];refine q _ ?_;clear q
  obtain ⟨⟨r8,r9⟩,hc10,h⟩:=bS h
  try dsimp only at h
  refine wL [(.bor,.tmp 21)] rfl rfl ent10 (spec_Stripped_ok _ hc10) fun K q=>?_;simp [y];refine q _ ?_;clear q
  iterate 6 (refine wC rfl fun K q=>?_;simp [y];refine q _ ?_;clear q)
  refine wN (q _ ?_);clear q
  refine SWp.sR rfl (u _ rfl) fun K q=>?_
  refine wC rfl fun K q=>?_;simp [y];refine q _ ?_;clear q
  obtain ⟨r11,hc12,h⟩:=bS h
  refine wL [(.take,.tmp 25)] rfl rfl ent7 (fK _ hc12) fun K q=>?_;simp [y];refine q _ ?_;clear q
  iterate 2 (refine wC rfl fun K q=>?_;simp [y];refine q _ ?_;clear q)
  refine wN (q _ ?_);clear q
  refine SWp.sR rfl (u _ rfl) fun K q=>?_
  refine wC rfl fun K q=>?_;simp [y];refine q _ ?_;clear q
  obtain ⟨⟨r13,r14⟩,hc15,h⟩:=bS h
  try dsimp only at h
  refine wL [(.bor,.tmp 28)] rfl rfl ent11 (nD _ hc15) fun K q=>?_;simp [y];refine q _ ?_;clear q
  iterate 6 (refine wC rfl fun K q=>?_;simp [y];refine q _ ?_;clear q)
  refine wN (q _ ?_);clear q
  refine SWp.seq ?_
  obtain ⟨v22,hj16,h⟩:=bS h
  refine SWp.seqRC rfl (u _ rfl) [1,4,5,6,7,8,40] [1,4,6,7] (fun _:Unit=>⟨[(1,.ref (.box 1) 0 []),(4,.ref (.box 4) 0 []),(5,.t (vb r9)),(6,.ref (.box 6) 0 []),(7,.ref (.box 7) 0 []),(8,.t (vb r14)),(40,.t (vb v22))],[(1,[.sl false 4 (List.map (GNode.enc false) aP1.Nodes),.sl false 5 (List.map (GFn.enc false) aP1.Fns)]),(4,[.sl true 4 (List.map (GNode.enc true) r8.Nodes),.sl true 5 (List.map (GFn.enc true) r8.Fns)]),(6,[.sl true 4 (List.map (GNode.enc true) r11.Nodes),.sl true 5 (List.map (GFn.enc true) r11.Fns)]),(7,[.sl true 4 (List.map (GNode.enc true) r13.Nodes),.sl true 5 (List.map (GFn.enc true) r13.Fns)])]⟩) (fun _=>True) (fun _ _=>?_) fun K17 hK17=>?_
  rotate_left
  ·refine wC rfl fun K q=>?_;simp [y];refine q _ ?_;clear q
   refine wC rfl fun K q=>?_;simp [y];refine q _ ?_;clear q
   obtain ⟨r18,hc19,hj16⟩:=bS hj16
   refine wL [(.bor,.tmp 32),(.bor,.tmp 33)] rfl rfl ent9 (fM _ _ hc19) fun K q=>?_;simp [y];refine q _ ?_;clear q
   iterate 2 (refine wC rfl fun K q=>?_;simp [y];refine q _ ?_;clear q)
   rcases aA hj16 with ⟨hb20,hj16⟩ | ⟨hb21,hj16⟩
   ·have hb20s:=hb20
    try simp at hb20s
    iterate 3 (refine wO fun K q=>?_;simp [y,hb20,hb20s];refine q _ ?_;clear q)
    refine wC rfl fun K q=>?_;simp [y,hb20,hb20s];refine q _ ?_;clear q
    refine wN ?_
    cases hj16
    exact hK17 _ () [] trivial (by simp [y,hb20,hb20s])
   ·have hb21s:=hb21
    try simp at hb21s
    iterate 4 (refine wC rfl fun K q=>?_;simp [y,hb21,hb21s];refine q _ ?_;clear q)
    refine wN ?_
    cases hj16
    exact hK17 _ () [] trivial (by simp [y,hb21,hb21s])
  rcases aA h with ⟨hb23,h⟩ | ⟨hb24,h⟩
  ·refine SWp.cT' (b:=v22) (by simp) hb23 ?_
   refine SWp.sR rfl (u _ rfl) fun K q=>?_
   refine wC rfl fun K q=>?_;simp [y];refine q _ ?_;clear q
   refine wN (q _ ?_);clear q
   cases h
   refine SWp.ret ?_
   simp [aC,iB,res4]
  ·refine SWp.cF' (b:=v22) (by simp) hb24 ?_
   refine SWp.skip ?_
   show SWp E C _ _ _
   refine SWp.seq ?_
   refine SWp.seq ?_
   obtain ⟨r26,hc27,h⟩:=bS h
   refine SWp.dT rfl (u _ rfl) [(41,.al (.box 6) 0 [] (some 2)),(42,.t (GProgram.enc false aP1)),(43,.t (GProgram.enc true r26))] [[],[],[1],[0,1,2],[0,1,2,3]] (by simp) (by simp) (by simp [look]) rfl rfl rfl ?_ fun K q=>?_
   ·refine ⟨?_,?_,?_,trivial⟩
    all_goals (intro τ hbx hb hd hf K q;try simp [vsAt] at hd;simp [vsAt] at hf;first | (refine wC rfl fun K' q'=>?_;simp [y,hbx,hb,hd,hf];exact q' _ (wN (q _ (by simp [vsAt,hbx])))) | (refine wL [(.take,.tmp 42)] rfl rfl ent7 (fK _ hc27) fun K' q'=>?_;simp [y,hbx,hb,hd,hf];exact q' _ (wN (q _ (by simp [vsAt,hbx])))))
   obtain ⟨r28,hc29,h⟩:=bS h
   refine wL [(.bor,.tmp 41),(.bor,.tmp 43)] rfl rfl ent9 (fM _ _ hc29) fun K q=>?_;simp [y];refine q _ ?_;clear q
   refine wC rfl fun K q=>?_;simp [y];refine q _ ?_;clear q
   refine wN (q _ ?_);clear q
   show SWp E C _ _ _
   rcases aA h with ⟨hb30,h⟩ | ⟨hb31,h⟩
   ·refine SWp.cT' (b:=!r28) (by simp) hb30 ?_
    refine SWp.sR rfl (u _ rfl) fun K q=>?_
    refine wC rfl fun K q=>?_;simp [y];refine q _ ?_;clear q
    refine wN (q _ ?_);clear q
    cases h
    refine SWp.ret ?_
    simp [aC,iB,res4]
   ·refine SWp.cF' (b:=!r28) (by simp) hb31 ?_
    refine SWp.skip ?_
    show SWp E C _ _ _
    refine SWp.sR rfl (u _ rfl) fun K q=>?_
    refine wC rfl fun K q=>?_;simp [y];refine q _ ?_;clear q
    refine wN (q _ ?_);clear q
    refine SWp.sR rfl (u _ rfl) fun K q=>?_
    iterate 2 (refine wC rfl fun K q=>?_;simp [y];refine q _ ?_;clear q)
    obtain ⟨⟨r32,q33⟩,hc34,h⟩:=bS h
    try dsimp only at h
    refine iK rfl ent12 (kM _ _ hc34) fun K q=>?_;simp [y];refine q _ ?_;clear q
    refine wC rfl fun K q=>?_;simp [y];refine q _ ?_;clear q
    refine wN (q _ ?_);clear q
    refine SWp.seq ?_
    obtain ⟨v43,hj35,h⟩:=bS h
    refine SWp.seqRC rfl (u _ rfl) [1,4,5,7,61] [1,4,7] (fun _:Unit=>⟨[(1,.ref (.box 1) 0 []),(4,.ref (.box 4) 0 []),(5,.t (vb r9)),(7,.ref (.box 7) 0 []),(61,.t (vb v43))],[(1,[.sl false 4 (List.map (GNode.enc false) aP1.Nodes),.sl false 5 (List.map (GFn.enc false) aP1.Fns)]),(4,[.sl true 4 (List.map (GNode.enc true) r8.Nodes),.sl true 5 (List.map (GFn.enc true) r8.Fns)]),(7,[.sl true 4 (List.map (GNode.enc true) r13.Nodes),.sl true 5 (List.map (GFn.enc true) r13.Fns)])]⟩) (fun _=>True) (fun _ _=>?_) fun K36 hK36=>?_
    rotate_left
    ·refine wC rfl fun K q=>?_;simp [y];refine q _ ?_;clear q
     iterate 2 (refine wC rfl fun K q=>?_;simp [y];refine q _ ?_;clear q)
     rcases aA hj35 with ⟨hb37,hj35⟩ | ⟨hb38,hj35⟩
     ·have hb37s:=hb37
      try simp at hb37s
      iterate 4 (refine wO fun K q=>?_;simp [y,hb37,hb37s];refine q _ ?_;clear q)
      iterate 2 (refine wC rfl fun K q=>?_;simp [y,hb37,hb37s];refine q _ ?_;clear q)
      iterate 3 (refine wO fun K q=>?_;simp [y,hb37,hb37s];refine q _ ?_;clear q)
      refine wC rfl fun K q=>?_;simp [y,hb37,hb37s];refine q _ ?_;clear q
      refine wN ?_
      cases hj35
      exact hK36 _ () [] trivial (by simp [y,hb37,hb37s])
     ·have hb38s:=hb38
      try simp at hb38s
      iterate 2 (refine wC rfl fun K q=>?_;simp [y,hb38,hb38s];refine q _ ?_;clear q)
      obtain ⟨r39,hc40,hj35⟩:=bS hj35
      refine wL [(.bor,.tmp 52),(.bor,.tmp 53)] rfl rfl ent9 (fM _ _ hc40) fun K q=>?_;simp [y,hb38,hb38s];refine q _ ?_;clear q
      iterate 3 (refine wC rfl fun K q=>?_;simp [y,hb38,hb38s];refine q _ ?_;clear q)
      rcases aA hj35 with ⟨hb41,hj35⟩ | ⟨hb42,hj35⟩
      ·have hb41s:=hb41
       try simp at hb41s
       iterate 3 (refine wO fun K q=>?_;simp [y,hb38,hb38s,hb41,hb41s];refine q _ ?_;clear q)
       refine wC rfl fun K q=>?_;simp [y,hb38,hb38s,hb41,hb41s];refine q _ ?_;clear q
       refine wN ?_
       cases hj35
       exact hK36 _ () [] trivial (by simp [y,hb38,hb38s,hb41,hb41s])
      ·have hb42s:=hb42
       try simp at hb42s
       iterate 4 (refine wC rfl fun K q=>?_;simp [y,hb38,hb38s,hb42,hb42s];refine q _ ?_;clear q)
       refine wN ?_
       cases hj35
       exact hK36 _ () [] trivial (by simp [y,hb38,hb38s,hb42,hb42s])
    rcases aA h with ⟨hb44,h⟩ | ⟨hb45,h⟩
    ·refine SWp.cT' (b:=v43) (by simp) hb44 ?_
     refine SWp.sR rfl (u _ rfl) fun K q=>?_
     refine wC rfl fun K q=>?_;simp [y];refine q _ ?_;clear q
     refine wN (q _ ?_);clear q
     cases h
     refine SWp.ret ?_
     simp [aC,iB,res4]
    ·refine SWp.cF' (b:=v43) (by simp) hb45 ?_
     refine SWp.skip ?_
     show SWp E C _ _ _
     refine SWp.sR rfl (u _ rfl) fun K q=>?_
     refine wC rfl fun K q=>?_;simp [y];refine q _ ?_;clear q
     refine wN (q _ ?_);clear q
     refine SWp.sR rfl (u _ rfl) fun K q=>?_
     iterate 2 (refine wC rfl fun K q=>?_;simp [y];refine q _ ?_;clear q)
     obtain ⟨⟨r46,q47⟩,hc48,h⟩:=bS h
     try dsimp only at h
     refine iK rfl ent12 (kM _ _ hc48) fun K q=>?_;simp [y];refine q _ ?_;clear q
     refine wC rfl fun K q=>?_;simp [y];refine q _ ?_;clear q
     refine wN (q _ ?_);clear q
     refine SWp.sR rfl (u _ rfl) fun K q=>?_
     refine wC rfl fun K q=>?_;simp [y];refine q _ ?_;clear q
     refine wN (q _ ?_);clear q
     refine SWp.sR rfl (u _ rfl) fun K q=>?_
     iterate 2 (refine wC rfl fun K q=>?_;simp [y];refine q _ ?_;clear q)
     obtain ⟨r49,hc50,h⟩:=bS h
     refine wL [(.bor,.tmp 65),(.take,.tmp 66)] rfl rfl ent13 (kN _ _ hc50) fun K q=>?_;simp [y];refine q _ ?_;clear q
     refine wC rfl fun K q=>?_;simp [y];refine q _ ?_;clear q
     refine wN (q _ ?_);clear q
     refine SWp.seq ?_
     refine SWp.sR rfl (u _ rfl) fun K q=>?_
     iterate 2 (refine wC rfl fun K q=>?_;simp [y];refine q _ ?_;clear q)
     refine wN (q _ ?_);clear q
     rcases aA h with ⟨hb51,h⟩ | ⟨hb52,h⟩
     ·refine SWp.cT' (b:=decide (r49 < 0)) (by simp) hb51 ?_
      refine SWp.sR rfl (u _ rfl) fun K q=>?_
      refine wC rfl fun K q=>?_;simp [y];refine q _ ?_;clear q
      refine wN (q _ ?_);clear q
      cases h
      refine SWp.ret ?_
      simp [aC,iB,res4]
     ·refine SWp.cF' (b:=decide (r49 < 0)) (by simp) hb52 ?_
      refine SWp.skip ?_
      show SWp E C _ _ _
      refine SWp.seq ?_
      refine SWp.sR rfl (u _ rfl) fun K q=>?_
      iterate 3 (refine wC rfl fun K q=>?_;simp [y];refine q _ ?_;clear q)
      refine wN (q _ ?_);clear q
      rcases aA h with ⟨hb53,h⟩ | ⟨hb54,h⟩
      ·refine SWp.cT' (b:=r49 != r46) (by simp) hb53 ?_
       refine SWp.sR rfl (u _ rfl) fun K q=>?_
       refine wC rfl fun K q=>?_;simp [y];refine q _ ?_;clear q
       refine wN (q _ ?_);clear q
       cases h
       refine SWp.ret ?_
       simp [aC,iB,res4]
      ·refine SWp.cF' (b:=r49 != r46) (by simp) hb54 ?_
       refine SWp.skip ?_
       show SWp E C _ _ _
       refine SWp.sR rfl (u _ rfl) fun K q=>?_
       refine wC rfl fun K q=>?_;simp [y];refine q _ ?_;clear q
       obtain ⟨r55,hc56,h⟩:=bS h
       refine wL [(.take,.tmp 74)] rfl rfl ent7 (fK _ hc56) fun K q=>?_;simp [y];refine q _ ?_;clear q
       obtain ⟨⟨r57,r58⟩,hc59,h⟩:=bS h
       try dsimp only at h
       refine wL [(.bor,.tmp 75)] rfl rfl ent11 (nD _ hc59) fun K q=>?_;simp [y];refine q _ ?_;clear q
       iterate 6 (refine wC rfl fun K q=>?_;simp [y];refine q _ ?_;clear q)
       refine wN (q _ ?_);clear q
       refine SWp.seq ?_
       obtain ⟨v66,hj60,h⟩:=bS h
       refine SWp.seqRC rfl (u _ rfl) [7,10,87] [7] (fun _:Unit=>⟨[(7,.ref (.box 7) 0 []),(10,.t (vi r46)),(87,.t (vb v66))],[(7,[.sl true 4 (List.map (GNode.enc true) q47.Nodes),.sl true 5 (List.map (GFn.enc true) q47.Fns)])]⟩) (fun _=>True) (fun _ _=>?_) fun K61 hK61=>?_
       rotate_left
       ·refine wC rfl fun K q=>?_;simp [y];refine q _ ?_;clear q
        refine wC rfl fun K q=>?_;simp [y];refine q _ ?_;clear q
        obtain ⟨r62,hc63,hj60⟩:=bS hj60
        refine wL [(.bor,.tmp 79),(.bor,.tmp 80)] rfl rfl ent9 (fM _ _ hc63) fun K q=>?_;simp [y];refine q _ ?_;clear q
        iterate 2 (refine wC rfl fun K q=>?_;simp [y];refine q _ ?_;clear q)
        rcases aA hj60 with ⟨hb64,hj60⟩ | ⟨hb65,hj60⟩
        ·have hb64s:=hb64
         try simp at hb64s
         iterate 3 (refine wO fun K q=>?_;simp [y,hb64,hb64s];refine q _ ?_;clear q)
         refine wC rfl fun K q=>?_;simp [y,hb64,hb64s];refine q _ ?_;clear q
         refine wN ?_
         cases hj60
         exact hK61 _ () [] trivial (by simp [y,hb64,hb64s])
        ·have hb65s:=hb65
         try simp at hb65s
         iterate 4 (refine wC rfl fun K q=>?_;simp [y,hb65,hb65s];refine q _ ?_;clear q)
         refine wN ?_
         cases hj60
         exact hK61 _ () [] trivial (by simp [y,hb65,hb65s])
       rcases aA h with ⟨hb67,h⟩ | ⟨hb68,h⟩
       ·refine SWp.cT' (b:=v66) (by simp) hb67 ?_
        refine SWp.sR rfl (u _ rfl) fun K q=>?_
        refine wC rfl fun K q=>?_;simp [y];refine q _ ?_;clear q
        refine wN (q _ ?_);clear q
        cases h
        refine SWp.ret ?_
        simp [aC,iB,res4]
       ·refine SWp.cF' (b:=v66) (by simp) hb68 ?_
        refine SWp.skip ?_
        show SWp E C _ _ _
        refine SWp.sR rfl (u _ rfl) fun K q=>?_
        refine wC rfl fun K q=>?_;simp [y];refine q _ ?_;clear q
        refine wN (q _ ?_);clear q
        refine SWp.sR rfl (u _ rfl) fun K q=>?_
        iterate 2 (refine wC rfl fun K q=>?_;simp [y];refine q _ ?_;clear q)
        obtain ⟨r69,hc70,h⟩:=bS h
        refine wL [(.bor,.tmp 88),(.take,.tmp 89)] rfl rfl ent13 (kN _ _ hc70) fun K q=>?_;simp [y];refine q _ ?_;clear q
        refine wC rfl fun K q=>?_;simp [y];refine q _ ?_;clear q
        refine wN (q _ ?_);clear q
        refine SWp.seq ?_
        refine SWp.sR rfl (u _ rfl) fun K q=>?_
        iterate 2 (refine wC rfl fun K q=>?_;simp [y];refine q _ ?_;clear q)
        refine wN (q _ ?_);clear q
        rcases aA h with ⟨hb71,h⟩ | ⟨hb72,h⟩
        ·refine SWp.cT' (b:=decide (r69 < 0)) (by simp) hb71 ?_
         refine SWp.sR rfl (u _ rfl) fun K q=>?_
         refine wC rfl fun K q=>?_;simp [y];refine q _ ?_;clear q
         refine wN (q _ ?_);clear q
         cases h
         refine SWp.ret ?_
         simp [aC,iB,res4]
        ·refine SWp.cF' (b:=decide (r69 < 0)) (by simp) hb72 ?_
         refine SWp.skip ?_
         show SWp E C _ _ _
         refine SWp.seq ?_
         refine SWp.sR rfl (u _ rfl) fun K q=>?_
         iterate 3 (refine wC rfl fun K q=>?_;simp [y];refine q _ ?_;clear q)
         refine wN (q _ ?_);clear q
         rcases aA h with ⟨hb73,h⟩ | ⟨hb74,h⟩
         ·refine SWp.cT' (b:=r69 != r46) (by simp) hb73 ?_
          refine SWp.sR rfl (u _ rfl) fun K q=>?_
          refine wC rfl fun K q=>?_;simp [y];refine q _ ?_;clear q
          refine wN (q _ ?_);clear q
          cases h
          refine SWp.ret ?_
          simp [aC,iB,res4]
         ·refine SWp.cF' (b:=r69 != r46) (by simp) hb74 ?_
          refine SWp.skip ?_
          show SWp E C _ _ _
          refine SWp.sR rfl (u _ rfl) fun K q=>?_
          refine wC rfl fun K q=>?_;simp [y];refine q _ ?_;clear q
          refine wN (q _ ?_);clear q
          cases h
          refine SWp.ret ?_
          simp [aC,iB,res4]
end Go.Proofs.T
namespace Go.OM
theorem w64 {n:Int} (h1 : -9223372036854775808 ≤ n) (h2:n ≤ 9223372036854775807):IntKind.wrap .i64 n=n:=wrap64 h1 h2
theorem eF {k n:Nat} (hk:k < n) (hn:n ≤ maxLen):IntKind.wrap .i64 ((k:Int) + 1)=((k + 1:Nat):Int):=by
 have hn':n ≤ 9223372036854775807:=hn
 rw [w64 (by omega) (by omega)];omega
@[simp] theorem getI_nat {α:Type} (l:List α) (k:Nat):getI l (k:Int)=l[k]?:=by simp [getI]
theorem aD {α:Type} {l:List α} {k:Nat} (hk:k < l.length):getI l (k:Int)=some l[k]:=by simp [hk]
theorem mN (x y : ByteArray) : sEq x y = decide (x = y) := by
  unfold sEq
  have hxy : x.toList = y.toList ↔ x = y := by
    constructor
    · intro h
      have hx : ∀ z : ByteArray, z.toList = z.data.toList := by
        intro z
        have loop : ∀ (n i : Nat) (r : List UInt8), z.size - i = n → ByteArray.toList.loop z i r = r.reverse ++ z.data.toList.drop i := by
          intro n
          induction n with
          | zero =>
            intro i r hn
            unfold ByteArray.toList.loop
            rw [if_neg (by omega), List.drop_eq_nil_of_le (by have : z.data.toList.length = z.size := Array.length_toList
                                                              omega)]
            simp
          | succ n ih =>
            intro i r hn
            unfold ByteArray.toList.loop
            rw [if_pos (by omega), ih (i + 1) _ (by omega)]
            have hlt : i < z.data.toList.length := by have : z.data.toList.length = z.size := Array.length_toList
                                                      omega
            rw [List.drop_eq_getElem_cons hlt]
            have hz : i < z.size := by omega
            simp [ByteArray.get!, Array.getElem!_eq_getD, Array.getD, hz]
        unfold ByteArray.toList
        rw [loop _ 0 [] rfl]; simp
      rw [hx, hx] at h
      cases x; cases y
      simp only [ByteArray.mk.injEq]
      exact Array.toList_inj.1 h
    · intro h; rw [h]
  by_cases h : x = y
  · simp [h]
  · have : ¬ (x.toList = y.toList) := fun e => h (hxy.1 e)
    simp [h, this]
theorem aB {k n:Nat} (h:k < n):decide ((k:Int) < (n:Int))=true:=by simpa using h
theorem len_not_lt (n:Nat):decide ((n:Int) < (n:Int))=false:=by simp
theorem szS_gen {α:Type} (ok:α→Prop) (a:List α) (f:Int × Int→Option ((Int × Int) ⊕ (Int ⊕ Int))) (B:Int)
  (hf:∀ (m:Int) (k:Nat) (h0:0 ≤ m) (h1:m ≤ B) (hk:k < a.length),∃ r,r ≤ m∧(0 ≤ r→ok a[k])∧f (m,k)=some (if r < 0 then .inr (.inr (-1)) else .inl (r,((k + 1:Nat):Int))))
  (he:∀ m,f (m,a.length)=some (.inr (.inl m))) (n:Int) (h0:0 ≤ n) (h1:n ≤ B) :
  ∃ j,aG f (n,0)=some j∧(j = .inr (-1) ∨ ∃ m,j = .inl m∧0 ≤ m∧m ≤ n∧∀ x ∈ a,ok x):=by
 refine bC (f:=f) (fun s:Int × Int=>∃ k:Nat,s.2=k∧k ≤ a.length∧0 ≤ s.1∧s.1 ≤ n∧∀ (j:Nat) (h:j < a.length),j < k→ok a[j]) (fun s=>a.length - s.2.toNat) _ ?_ (n,0) ⟨0,rfl,by omega,h0,by simp,fun j _ h=>by omega⟩
 rintro ⟨m,i⟩ ⟨k,hi,hk,h2,h3,h4⟩
 simp only at hi h2 h3
 subst hi
 by_cases hlt:k < a.length
 ·obtain ⟨r,r1,r2,r3⟩:=hf m k h2 (by omega) hlt
  rw [r3]
  by_cases hr:r < 0
  ·right
   rw [if_pos hr]
   exact ⟨_,rfl,.inl rfl⟩
  ·left
   rw [if_neg hr]
   refine ⟨_,rfl,⟨k + 1,rfl,by omega,by simp only;omega,by simp only;omega,fun j h hj=>?_⟩,?_⟩
   ·by_cases e:j=k
    ·subst e;exact r2 (by omega)
    ·exact h4 j h (by omega)
   ·simp only [Int.toNat_natCast];omega
 ·right
  have hke:k=a.length:=by omega
  subst hke
  rw [he]
  refine ⟨_,rfl,.inr ⟨m,rfl,h2,h3,fun x hx=>?_⟩⟩
  obtain ⟨j,hj,rfl⟩:=List.mem_iff_getElem.1 hx
  exact h4 j hj hj
theorem toS_gen {α:Type} (a:List α) (z:α) (f:List α × Int→Option ((List α × Int) ⊕ List α))
  (hf:∀ (out:List α) (k:Nat) (hk:k < a.length),out.length=a.length→f (out,k)=some (.inl (out.set k a[k],((k + 1:Nat):Int))))
  (he:∀ out,f (out,a.length)=some (.inr out)):aG f (List.replicate a.length z,0)=some a:=by
 obtain ⟨r,h1,h2⟩:=bC (fun s:List α × Int=>∃ k:Nat,s.2=k∧k ≤ a.length∧s.1.length=a.length∧∀ j,j < k→s.1[j]? = a[j]?) (fun s=>a.length - s.2.toNat) (fun r=>r=a) (f:=f) (by
  rintro ⟨out,i⟩ ⟨k,hi,hk,h2,h3⟩
  simp only at hi h2 h3
  subst hi
  by_cases hlt:k < a.length
  ·left
   rw [hf out k hlt h2]
   refine ⟨_,rfl,⟨k + 1,rfl,by omega,by simpa using h2,fun j hj=>?_⟩,by simp only [Int.toNat_natCast];omega⟩
   simp only [List.getElem?_set]
   by_cases e:k=j
   ·subst e;simp [h2,hlt]
   ·rw [if_neg e];exact h3 j (by omega)
  ·right
   have hke:k=a.length:=by omega
   subst hke
   rw [he]
   refine ⟨_,rfl,?_⟩
   apply List.ext_getElem?
   intro j
   by_cases hj:j < a.length
   ·exact h3 j hj
   ·rw [List.getElem?_eq_none (by omega),List.getElem?_eq_none (by omega)]) (List.replicate a.length z,0) ⟨0,rfl,by omega,by simp,fun j h=>by omega⟩
 rw [h1,h2]
theorem eqS_gen {α:Type} (a b:List α) (p:α→α→Bool) (hp:∀ x ∈ a,∀ y,y ∈ b→(p x y=true ↔ x=y)) (hlen:a.length=b.length) (f:Int→Option (Int ⊕ (Unit ⊕ Bool)))
  (hf:∀ (k:Nat) (hk:k < a.length) (hk2:k < b.length),f k=some (if p a[k] b[k]=true then .inl ((k + 1:Nat):Int) else .inr (.inr false)))
  (he:f a.length=some (.inr (.inl ()))):(a=b→aG f 0=some (.inl ()))∧(a ≠ b→aG f 0=some (.inr false)):=by
 obtain ⟨r,h1,h2⟩:=bC (fun i:Int=>∃ k:Nat,i=k∧k ≤ a.length∧∀ j,j < k→a[j]? = b[j]?) (fun i=>a.length - i.toNat) (fun r=>(r = .inl ()∧a=b) ∨ (r = .inr false∧a ≠ b)) (f:=f) (by
  rintro i ⟨k,rfl,hk,h3⟩
  by_cases hlt:k < a.length
  ·have hlt2:k < b.length:=by omega
   rw [hf k hlt hlt2]
   by_cases hpk:p a[k] b[k]=true
   ·left
    rw [if_pos hpk]
    refine ⟨_,rfl,⟨k + 1,rfl,by omega,fun j hj=>?_⟩,by simp only [Int.toNat_natCast];omega⟩
    by_cases e:j=k
    ·subst e
     rw [List.getElem?_eq_getElem hlt,List.getElem?_eq_getElem hlt2,(hp _ (List.getElem_mem hlt) _ (List.getElem_mem hlt2)).1 hpk]
    ·exact h3 j (by omega)
   ·right
    rw [if_neg hpk]
    refine ⟨_,rfl,.inr ⟨rfl,fun e=>hpk ?_⟩⟩
    subst e
    exact (hp _ (List.getElem_mem hlt) _ (List.getElem_mem hlt)).2 rfl
  ·right
   have hke:k=a.length:=by omega
   subst hke
   rw [he]
   refine ⟨_,rfl,.inl ⟨rfl,?_⟩⟩
   apply List.ext_getElem?
   intro j
   by_cases hj:j < a.length
   ·exact h3 j hj
   ·rw [List.getElem?_eq_none (by omega),List.getElem?_eq_none (by omega)]) 0 ⟨0,rfl,by omega,fun j h=>by omega⟩
 rcases h2 with ⟨e,hab⟩ | ⟨e,hab⟩
 ·exact ⟨fun _=>by rw [h1,e],fun h=>absurd hab h⟩
 ·exact ⟨fun h=>absurd h hab,fun _=>by rw [h1,e]⟩
theorem nQ {α:Type} (b:Int) (n:Nat) (z:α) (h1:b * n ≤ 140737488355328) (h2:(n:Int) ≤ 140737488355328):mkI b (n:Int) z=some (List.replicate n z):=by
 unfold mkI
 rw [if_pos ⟨by omega,h1,h2⟩]
 simp
theorem bP {α β:Type} (x:α) (f:α→β):jJ x f=f x:=rfl
end Go.OM
namespace Go.OM
theorem fZ {α ρ:Type} {f:α→Option (α ⊕ ρ)} {a:α} {r:ρ} (h:f a=some (.inr r)):aG f a=some r:=by rw [qK,h];rfl
theorem lY {α ρ:Type} {f:α→Option (α ⊕ ρ)} {a b:α} (h:f a=some (.inl b)):aG f a=aG f b:=by rw [qK,h];rfl
theorem oP {α ρ:Type} (l:List α) (q:α→Option ρ) (f:Int→Option (Int ⊕ (Unit ⊕ ρ)))
  (hf:∀ (k:Nat) (h:k < l.length),f k=some (match q l[k] with | none=>.inl ((k + 1:Nat):Int) | some r=>.inr (.inr r)))
  (he:f l.length=some (.inr (.inl ()))):aG f 0=some (match l.findSome? q with | some r=>.inr r | none=>.inl ()):=by
 have key:∀ (n k:Nat),n=l.length - k→k ≤ l.length→aG f k=some (match (l.drop k).findSome? q with | some r=>.inr r | none=>.inl ()):=by
  intro n
  induction n with
  | zero =>
   intro k hn hk
   have:k=l.length:=by omega
   subst this
   rw [fZ he,List.drop_length];rfl
  | succ n ih =>
   intro k hn hk
   have hlt:k < l.length:=by omega
   rw [List.drop_eq_getElem_cons hlt,List.findSome?_cons]
   cases hq:q l[k] with
   | none =>
    have h1:=hf k hlt
    rw [hq] at h1
    rw [lY h1]
    exact ih (k + 1) (by omega) (by omega)
   | some r =>
    have h1:=hf k hlt
    rw [hq] at h1
    rw [fZ h1]
 have:=key l.length 0 (by omega) (by omega)
 simpa using this
theorem find_all {α:Type} (l:List α) (p:α→Bool) (b:Bool):l.findSome? (fun x=>if p x=true then none else some b)=if l.all p=true then none else some b:=by
 induction l with
 | nil=>rfl
 | cons x l ih =>
  rw [List.findSome?_cons,List.all_cons]
  cases hp:p x<;>simp [ih]
theorem find_any {α:Type} (l:List α) (p:α→Bool) (b:Bool):l.findSome? (fun x=>if p x=true then some b else none)=if l.any p=true then some b else none:=by
 induction l with
 | nil=>rfl
 | cons x l ih =>
  rw [List.findSome?_cons,List.any_cons]
  cases hp:p x<;>simp [ih]
theorem nS {α:Type} (l:List α) (p:α→Bool) (f:Int→Option (Int ⊕ (Unit ⊕ Bool)))
  (hf:∀ (k:Nat) (h:k < l.length),f k=some (if p l[k]=true then .inl ((k + 1:Nat):Int) else .inr (.inr false)))
  (he:f l.length=some (.inr (.inl ()))):aG f 0=some (if l.all p=true then .inl () else .inr false):=by
 rw [oP l (fun x=>if p x=true then none else some false) f (fun k h=>by rw [hf k h];cases p l[k]<;>rfl) he,find_all]
 cases l.all p<;>rfl
theorem loopP_any {α:Type} (l:List α) (p:α→Bool) (f:Int→Option (Int ⊕ (Unit ⊕ Bool)))
  (hf:∀ (k:Nat) (h:k < l.length),f k=some (if p l[k]=true then .inr (.inr true) else .inl ((k + 1:Nat):Int)))
  (he:f l.length=some (.inr (.inl ()))):aG f 0=some (if l.any p=true then .inr true else .inl ()):=by
 rw [oP l (fun x=>if p x=true then some true else none) f (fun k h=>by rw [hf k h];cases p l[k]<;>rfl) he,find_any]
 cases l.any p<;>rfl
def foldE {α σ ρ:Type} (g:σ→α→σ ⊕ ρ) (fin:σ→ρ):List α→σ→ρ
 | [],s=>fin s
 | x :: l,s=>match g s x with
  | .inl s'=>foldE g fin l s'
  | .inr r=>r
theorem fJ {α σ τ ρ:Type} (l:List α) (mk:σ→Nat→τ) (I:Nat→σ→Prop) (g:σ→α→σ ⊕ ρ) (fin:σ→ρ) (f:τ→Option (τ ⊕ ρ))
  (hf:∀ (s:σ) (k:Nat) (h:k < l.length),I k s→(∃ s',g s l[k] = .inl s'∧f (mk s k)=some (.inl (mk s' (k + 1)))∧I (k + 1) s') ∨ ∃ r,g s l[k] = .inr r∧f (mk s k)=some (.inr r))
  (he:∀ s,I l.length s→f (mk s l.length)=some (.inr (fin s))) (s:σ) (h0:I 0 s):aG f (mk s 0)=some (foldE g fin l s):=by
 have key:∀ (n k:Nat) (s:σ),n=l.length - k→k ≤ l.length→I k s→aG f (mk s k)=some (foldE g fin (l.drop k) s):=by
  intro n
  induction n with
  | zero =>
   intro k s hn hk hI
   have:k=l.length:=by omega
   subst this
   rw [fZ (he s hI),List.drop_length];rfl
  | succ n ih =>
   intro k s hn hk hI
   have hlt:k < l.length:=by omega
   rw [List.drop_eq_getElem_cons hlt]
   rcases hf s k hlt hI with ⟨s',h1,h2,h3⟩ | ⟨r,h1,h2⟩
   ·rw [lY h2,ih (k + 1) s' (by omega) (by omega) h3]
    simp only [foldE,h1]
   ·rw [fZ h2]
    simp only [foldE,h1]
 have:=key l.length 0 s (by omega) (by omega) h0
 simpa using this
theorem qJ {α:Type} (ok:α→Prop) (M:α→Int→Int→Prop) (W:Nat) (B:Int) (f:List α × Int × Int→Option ((List α × Int × Int) ⊕ (List α × Int)))
  (hf:∀ (out:List α) (k:Int) (i:Nat) (hi:i < out.length),out.length ≤ 1048576→0 ≤ k→k + W ≤ B→ok out[i]→∃ k' x',k ≤ k'∧k' ≤ k + W∧M x' k k'∧f (out,k,i)=some (.inl (out.set i x',k',((i + 1:Nat):Int))))
  (he:∀ out k,f (out,k,(out.length:Int))=some (.inr (out,k)))
  (a:List α) (ha:a.length ≤ 1048576) (hok:∀ x ∈ a,ok x) (k:Int) (h0:0 ≤ k) (h1:k + W * 1048576 ≤ B) :
  ∃ k' a',aG f (a,k,0)=some (a',k')∧k ≤ k'∧k' ≤ k + W * 1048576∧a'.length=a.length∧∃ ks:Nat→Int,ks 0=k∧ks a.length=k'∧∀ (j:Nat) (hj:j < a'.length),M a'[j] (ks j) (ks (j + 1))∧0 ≤ ks j∧ks j ≤ ks (j + 1)∧ks j ≤ B:=by
 have hWm:∀ j:Nat,j ≤ a.length→(W:Int) * j ≤ W * 1048576:=fun j hj=>Int.mul_le_mul_of_nonneg_left (by omega) (by omega)
 have hWs:∀ j:Nat,j < a.length→(W:Int) * j + W ≤ W * 1048576:=fun j hj=>by
  have:(W:Int) * j + W=W * ((j + 1:Nat):Int):=by rw [Int.natCast_succ,Int.mul_add,Int.mul_one]
  rw [this]
  exact Int.mul_le_mul_of_nonneg_left (by omega) (by omega)
 obtain ⟨r,g1,g2⟩:=bC (f:=f) (fun s:List α × Int × Int=>∃ j:Nat,s.2.2=j∧j ≤ a.length∧s.1.length=a.length∧(∀ l,j ≤ l→s.1[l]? = a[l]?)∧k ≤ s.2.1∧s.2.1 ≤ k + W * j∧∃ ks:Nat→Int,ks 0=k∧ks j=s.2.1∧∀ (l:Nat),l < j→∃ x,s.1[l]? = some x∧M x (ks l) (ks (l + 1))∧0 ≤ ks l∧ks l ≤ ks (l + 1)∧ks l ≤ B) (fun s=>a.length - s.2.2.toNat)
  (fun r=>k ≤ r.2∧r.2 ≤ k + W * 1048576∧r.1.length=a.length∧∃ ks:Nat→Int,ks 0=k∧ks a.length=r.2∧∀ (j:Nat) (hj:j < r.1.length),M r.1[j] (ks j) (ks (j + 1))∧0 ≤ ks j∧ks j ≤ ks (j + 1)∧ks j ≤ B) (by
  rintro ⟨out,m,i⟩ ⟨j,hi,hj,hl,hsame,hm1,hm2,ks,e0,e1,e2⟩
  simp only at hi hl hsame hm1 hm2 e1 e2
  subst hi
  have hWj:=hWm j hj
  by_cases hlt:j < a.length
  ·left
   have hlt2:j < out.length:=by omega
   have hWsj:=hWs j hlt
   have hoj:out[j]=a[j]:=by
    have:=hsame j (Nat.le_refl _)
    rw [List.getElem?_eq_getElem hlt2,List.getElem?_eq_getElem hlt] at this
    exact Option.some.inj this
   obtain ⟨k',x',q1,q2,q3,q4⟩:=hf out m j hlt2 (by omega) (by omega) (by omega) (hoj ▸ hok _ (List.getElem_mem hlt))
   refine ⟨(out.set j x',k',((j + 1:Nat):Int)),q4,⟨j + 1,rfl,by omega,by simpa using hl,fun l hl'=>?_,by simp only;omega,?_,fun l=>if l ≤ j then ks l else k',by simp [e0],by simp only [show ¬ (j + 1 ≤ j) by omega,if_false],fun l hl'=>?_⟩,by simp only [Int.toNat_natCast];omega⟩
   ·simp only
    rw [List.getElem?_set_ne (by omega)]
    exact hsame l (by omega)
   ·simp only
    have:(W:Int) * ((j + 1:Nat):Int)=W * j + W:=by rw [Int.natCast_succ,Int.mul_add,Int.mul_one]
    omega
   ·by_cases hlj:l=j
    ·subst hlj
     refine ⟨x',by simp [hlt2],?_⟩
     simp only [Nat.le_refl,if_true,show ¬ (l + 1 ≤ l) by omega,if_false,e1]
     exact ⟨q3,by omega,q1,by omega⟩
    ·obtain ⟨x,p1,p2⟩:=e2 l (by omega)
     refine ⟨x,by rw [List.getElem?_set_ne (by omega)];exact p1,?_⟩
     simp only [show l ≤ j by omega,show l + 1 ≤ j by omega,if_true]
     exact p2
  ·right
   have hja:j=a.length:=by omega
   subst hja
   refine ⟨(out,m),by rw [← hl];exact he out m,hm1,by simp only;omega,hl,ks,e0,e1,fun j hj=>?_⟩
   obtain ⟨x,p1,p2⟩:=e2 j (by simp only at hj;omega)
   simp only at hj
   rw [List.getElem?_eq_getElem hj] at p1
   injection p1 with p1
   subst p1
   exact p2) (a,k,0) ⟨0,rfl,by omega,rfl,fun _ _=>rfl,by simp,by simp,fun _=>k,rfl,rfl,fun l h=>by omega⟩
 obtain ⟨a',k'⟩:=r
 exact ⟨k',a',g1,g2⟩
theorem qS {α:Type} (a:List α) (M:α→Int→Int→Prop) (B:Int) (ks:Nat→Int) (g:Int × Int→Option ((Int × Int) ⊕ (Int ⊕ Int)))
  (hk:∀ (j:Nat) (hj:j < a.length),M a[j] (ks j) (ks (j + 1))∧0 ≤ ks j∧ks j ≤ ks (j + 1)∧ks j ≤ B)
  (hg:∀ (j:Nat) (hj:j < a.length) (k k':Int),M a[j] k k'→0 ≤ k→k ≤ k'→k ≤ B→g (k,j)=some (.inl (k',((j + 1:Nat):Int))))
  (he:∀ k,g (k,(a.length:Int))=some (.inr (.inl k))):aG g (ks 0,0)=some (.inl (ks a.length)):=by
 have key:∀ (n k:Nat),n=a.length - k→k ≤ a.length→aG g (ks k,(k:Int))=some (.inl (ks a.length)):=by
  intro n
  induction n with
  | zero =>
   intro k hn hk'
   have:k=a.length:=by omega
   subst this
   exact fZ (he _)
  | succ n ih =>
   intro k hn hk'
   have hlt:k < a.length:=by omega
   obtain ⟨q1,q2,q3,q4⟩:=hk k hlt
   rw [lY (hg k hlt _ _ q1 q2 q3 q4)]
   exact ih (k + 1) (by omega) (by omega)
 exact key a.length 0 (by omega) (by omega)
theorem getI_set {α:Type} {l:List α} {k:Nat} {x:α} (hk:k < l.length):getI (l.set k x) (k:Int)=some x:=by simp [hk]
theorem sCat_ok' {x y:ByteArray} (h:x.size + y.size ≤ 9223372036854775807):sCat x y=some (x ++ y):=by unfold sCat;rw [if_pos h]
theorem bytesOf_size' (l:List Int):(kV l).size=l.length:=by simp [kV,ByteArray.size]
theorem text_loop (f:Int × ByteArray→Option ((Int × ByteArray) ⊕ ByteArray))
  (hf:∀ (k:Int) (o:ByteArray),0 < k→∃ x:Int,f (k,o)=(sCat (kV [x]) o).bind fun t=>some (.inl (IntKind.wrap .i64 (Int.tdiv k 10),t)))
  (he:∀ (k:Int) (o:ByteArray),k ≤ 0→f (k,o)=some (.inr o)) (k:Int) (h0:0 ≤ k) (h1:k ≤ 9223372036854775807) :
  ∃ z,aG f (k,⟨#[]⟩)=some z∧z.size ≤ 64:=by
 obtain ⟨r,g1,g2⟩:=bC (f:=f) (fun s:Int × ByteArray=>0 ≤ s.1∧∃ d:Nat,d ≤ 64∧s.1 < 2 ^ d∧s.2.size + d ≤ 64) (fun s=>s.1.toNat) (fun z=>z.size ≤ 64) (by
  rintro ⟨k,o⟩ ⟨g0,d,gd,g1,g2⟩
  simp only at g0 g1 g2
  by_cases hk:0 < k
  ·left
   obtain ⟨x,hx⟩:=hf k o hk
   have hd:d ≠ 0:=by rintro rfl;simp at g1;omega
   have hs:(kV [x]).size=1:=by rw [bytesOf_size'];rfl
   have hdiv:Int.tdiv k 10=k / 10:=Int.tdiv_eq_ediv_of_nonneg g0
   have hkb:k ≤ 9223372036854775807 ∨ 9223372036854775807 < k:=by omega
   have hw:IntKind.wrap .i64 (Int.tdiv k 10)=k / 10:=by
    rw [hdiv]
    have h64:(2:Int) ^ d ≤ 2 ^ 64:=by
     have:=Nat.pow_le_pow_right (show 0 < 2 by omega) gd
     exact_mod_cast this
    exact w64 (by omega) (by simp at h64;omega)
   refine ⟨(k / 10,kV [x] ++ o),?_,⟨by simp only;omega,d - 1,by omega,?_,?_⟩,by simp only;omega⟩
   ·rw [hx,sCat_ok' (by omega),Option.bind_some,hw]
   ·simp only
    have e:(2:Int) ^ d=2 ^ (d - 1) * 2:=by rw [← Int.pow_succ];congr 1;omega
    omega
   ·simp only [ByteArray.size_append,hs];omega
  ·right
   exact ⟨o,he k o (by omega),by omega⟩) (k,⟨#[]⟩) ⟨h0,64,Nat.le_refl _,by simp;omega,by show 0 + 64 ≤ 64;omega⟩
 exact ⟨r,g1,g2⟩
end Go.OM
set_option maxHeartbeats 1000000
namespace Go.OM
def GNode.le (n:Nat) (a:GNode):Prop:=(a.Name.size ≤ n)∧(a.Kids.length ≤ n)
theorem GNode.ext' (a b:GNode):a=b ↔ a.Kind=b.Kind∧a.Num=b.Num∧a.Name=b.Name∧a.Kids=b.Kids:=by cases a;cases b;simp
def GParam.le (n:Nat) (a:GParam):Prop:=(a.Name.size ≤ n)
theorem GParam.ext' (a b:GParam):a=b ↔ a.Name=b.Name∧a.Typ=b.Typ:=by cases a;cases b;simp
def GFn.le (n:Nat) (a:GFn):Prop:=(a.Name.size ≤ n)∧(a.Params.length ≤ n∧∀ x ∈ a.Params,GParam.le n x)
theorem GFn.ext' (a b:GFn):a=b ↔ a.Name=b.Name∧a.Params=b.Params∧a.Res=b.Res∧a.Body=b.Body∧a.Ret=b.Ret:=by cases a;cases b;simp
def GProgram.le (n:Nat) (a:GProgram):Prop:=(a.Nodes.length ≤ n∧∀ x ∈ a.Nodes,GNode.le n x)∧(a.Fns.length ≤ n∧∀ x ∈ a.Fns,GFn.le n x)
theorem GProgram.ext' (a b:GProgram):a=b ↔ a.Nodes=b.Nodes∧a.Fns=b.Fns:=by cases a;cases b;simp
def GVar.le (n:Nat) (a:GVar):Prop:=(a.Name.size ≤ n)
theorem GVar.ext' (a b:GVar):a=b ↔ a.Name=b.Name∧a.Typ=b.Typ∧a.Node=b.Node:=by cases a;cases b;simp
def Gl07Seen.le (n:Nat) (a:Gl07Seen):Prop:=(GProgram.le n a.p)∧(a.there.length ≤ n∧∀ x ∈ a.there,x.size ≤ n)
theorem Gl07Seen.ext' (a b:Gl07Seen):a=b ↔ a.p=b.p∧a.fn=b.fn∧a.there=b.there∧a.bad=b.bad:=by cases a;cases b;simp
def Gl04Pack.le (n:Nat) (a:Gl04Pack):Prop:=(a.from_.length ≤ n∧∀ x ∈ a.from_,GNode.le n x)∧(a.to_.length ≤ n∧∀ x ∈ a.to_,GNode.le n x)
theorem Gl04Pack.ext' (a b:Gl04Pack):a=b ↔ a.from_=b.from_∧a.to_=b.to_∧a.bad=b.bad:=by cases a;cases b;simp
def Gpacker.le (n:Nat) (a:Gpacker):Prop:=(a.from_.length ≤ n∧∀ x ∈ a.from_,GNode.le n x)∧(a.to_.length ≤ n∧∀ x ∈ a.to_,GNode.le n x)
theorem Gpacker.ext' (a b:Gpacker):a=b ↔ a.from_=b.from_∧a.to_=b.to_∧a.bad=b.bad:=by cases a;cases b;simp
theorem laws_szIntS_p (a:List Int) (hw:a.length ≤ maxLen) (n:Int) (h0:0 ≤ n) (h1:n ≤ 1048576):∃ r,kK a n=some r∧r ≤ n∧(0 ≤ r→a.length ≤ 1048576):=by
 have hw':a.length ≤ 9223372036854775807:=hw
 unfold kK
 rw [w64 (by omega) (by omega)]
 split
 ·exact ⟨_,rfl,by omega,fun h=>by omega⟩
 ·rename_i h;simp only [decide_eq_true_eq] at h;exact ⟨_,rfl,by omega,fun h=>by omega⟩
theorem laws_toIntS_p (a:List Int) (h:a.length ≤ 1048576):kI a=some a:=by
 have hl:a.length ≤ 1048576:=h
 unfold kI
 rw [nQ _ _ _ (by omega) (by omega)]
 simp only [Option.bind_some]
 rw [toS_gen a _ (eS a) (fun out k hk ho=>?_) (fun out=>by simp [eS])]
 ·rfl
 ·simp only [eS,aB hk,if_true,aD hk,Option.bind_some,aD (show k < out.length by omega),bP,Int.toNat_natCast,eF hk (show a.length ≤ maxLen by show _ ≤ 9223372036854775807;omega)]
theorem laws_eqIntS_p (a b:List Int) (ha:a.length ≤ 1048576) (hb:b.length ≤ 1048576):kP a b=some (decide (a=b)):=by
 have hl:a.length ≤ 1048576:=ha
 unfold kP
 by_cases hlen:a.length=b.length
 ·have hlen':((a.length:Int) != (b.length:Int))=false:=by simp [hlen]
  simp only [hlen',Bool.false_eq_true,if_false]
  have key:=eqS_gen a b (fun x y=>!(x != y)) (fun x _ y _=>by simp) hlen (eT a b) (fun k hk hk2=>?_) (by simp [eT])
  ·by_cases e:a=b
   ·rw [key.1 e];simp [e]
   ·rw [key.2 e];simp [e]
  simp only [eT,aB hk,if_true,aD hk,aD hk2,Option.bind_some,eF hk (show a.length ≤ maxLen by show _ ≤ 9223372036854775807;omega)]
  try (by_cases e:a[k]=b[k]<;>simp [e])
 ·have hlen':((a.length:Int) != (b.length:Int))=true:=by simp;omega
  have hne:a ≠ b:=fun e=>hlen (by rw [e])
  simp [hlen',hne]
theorem laws_szNode_p (a:GNode) (hw:GNode.le maxLen a) (n:Int) (h0:0 ≤ n) (h1:n ≤ 1048576):∃ r,kJ a n=some r∧r ≤ n∧(0 ≤ r→GNode.le 1048576 a):=by
 obtain ⟨hw0,hw1⟩:=hw
 unfold kJ
 have hs0:a.Name.size ≤ 9223372036854775807:=hw0
 simp only [w64 (n:=n - (a.Name.size:Int)) (by omega) (by omega)]
 by_cases hn0:(n - (a.Name.size:Int)) < 0
 ·simp only [hn0,decide_true,if_true];exact ⟨_,rfl,by omega,fun h=>by omega⟩
 simp only [hn0,decide_false,Bool.false_eq_true,if_false]
 obtain ⟨r1,q1a,q1b,q1c⟩:=laws_szIntS_p a.Kids hw1 (n - (a.Name.size:Int)) (by omega) (by omega)
 simp only [q1a,Option.bind_some]
 by_cases hn1:r1 < 0
 ·simp only [hn1,decide_true,if_true];exact ⟨_,rfl,by omega,fun h=>by omega⟩
 simp only [hn1,decide_false,Bool.false_eq_true,if_false]
 exact ⟨_,rfl,by omega,fun _=>⟨by omega,q1c (by omega)⟩⟩
theorem laws_toNode_p (a:GNode) (h:GNode.le 1048576 a):kH a=some a:=by
 obtain ⟨h0,h1⟩:=h
 unfold kH
 simp only [laws_toIntS_p a.Kids h1,Option.bind_some]
theorem laws_eqNode_p (a b:GNode) (ha:GNode.le 1048576 a) (hb:GNode.le 1048576 b):kO a b=some (decide (a=b)):=by
 obtain ⟨ha0,ha1⟩:=ha
 obtain ⟨hb0,hb1⟩:=hb
 unfold kO
 try simp only [mN,Option.bind_some,laws_eqIntS_p a.Kids b.Kids ha1 hb1]
 rw [show decide (a=b)=decide (a.Kind=b.Kind∧a.Num=b.Num∧a.Name=b.Name∧a.Kids=b.Kids) from by simp only [GNode.ext' a b]]
 by_cases e0:a.Kind=b.Kind<;>by_cases e1:a.Num=b.Num<;>by_cases e2:a.Name=b.Name<;>by_cases e3:a.Kids=b.Kids<;>simp [e0,e1,e2,e3]
theorem laws_szNodeS_p (a:List GNode) (hw:a.length ≤ maxLen∧∀ x ∈ a,GNode.le maxLen x) (n:Int) (h0:0 ≤ n) (h1:n ≤ 1048576):∃ r,iX a n=some r∧r ≤ n∧(0 ≤ r→a.length ≤ 1048576∧∀ x ∈ a,GNode.le 1048576 x):=by
 have hw':a.length ≤ 9223372036854775807:=hw.1
 unfold iX
 rw [w64 (by omega) (by omega)]
 split
 ·exact ⟨_,rfl,by omega,fun h=>by omega⟩
 ·rename_i h
  simp only [decide_eq_true_eq] at h
  have hf:∀ (m:Int) (k:Nat) (g0:0 ≤ m) (g1:m ≤ 1048576) (hk:k < a.length),∃ r,r ≤ m∧(0 ≤ r→(fun x:GNode=>GNode.le 1048576 x) a[k])∧cS a (m,k)=some (if r < 0 then .inr (.inr (-1)) else .inl (r,((k + 1:Nat):Int))):=by
   intro m k g0 g1 hk
   obtain ⟨r,r1,r2,r3⟩:=laws_szNode_p a[k] (hw.2 _ (List.getElem_mem hk)) m g0 g1
   refine ⟨r,r2,r3,?_⟩
   simp only [cS,aB hk,if_true,aD hk,Option.bind_some,r1,eF hk hw.1]
   by_cases hr:r < 0<;>simp [hr]
  obtain ⟨j,hj,hj2⟩:=szS_gen _ a (cS a) 1048576 hf (fun m=>by simp [cS]) (n - a.length) (by omega) (by omega)
  rcases hj2 with rfl | ⟨m,rfl,q1,q2,q3⟩
  ·exact ⟨-1,by rw [hj];rfl,by omega,fun h=>by omega⟩
  ·exact ⟨m,by rw [hj];rfl,by omega,fun _=>⟨by omega,q3⟩⟩
theorem laws_toNodeS_p (a:List GNode) (h:a.length ≤ 1048576∧∀ x ∈ a,GNode.le 1048576 x):iV a=some a:=by
 have hl:a.length ≤ 1048576:=h.1
 unfold iV
 rw [nQ _ _ _ (by omega) (by omega)]
 simp only [Option.bind_some]
 rw [toS_gen a _ (dZ a) (fun out k hk ho=>?_) (fun out=>by simp [dZ])]
 ·rfl
 ·simp only [dZ,aB hk,if_true,aD hk,Option.bind_some,laws_toNode_p a[k] (h.2 _ (List.getElem_mem hk)),aD (show k < out.length by omega),bP,Int.toNat_natCast,eF hk (show a.length ≤ maxLen by show _ ≤ 9223372036854775807;omega)]
theorem laws_eqNodeS_p (a b:List GNode) (ha:a.length ≤ 1048576∧∀ x ∈ a,GNode.le 1048576 x) (hb:b.length ≤ 1048576∧∀ x ∈ b,GNode.le 1048576 x):jB a b=some (decide (a=b)):=by
 have hl:a.length ≤ 1048576:=ha.1
 unfold jB
 by_cases hlen:a.length=b.length
 ·have hlen':((a.length:Int) != (b.length:Int))=false:=by simp [hlen]
  simp only [hlen',Bool.false_eq_true,if_false]
  have key:=eqS_gen a b (fun x y=>decide (x=y)) (fun x _ y _=>by simp) hlen (eB a b) (fun k hk hk2=>?_) (by simp [eB])
  ·by_cases e:a=b
   ·rw [key.1 e];simp [e]
   ·rw [key.2 e];simp [e]
  simp only [eB,aB hk,if_true,aD hk,aD hk2,Option.bind_some,laws_eqNode_p a[k] b[k] (ha.2 _ (List.getElem_mem hk)) (hb.2 _ (List.getElem_mem hk2)),eF hk (show a.length ≤ maxLen by show _ ≤ 9223372036854775807;omega)]
  try (by_cases e:a[k]=b[k]<;>simp [e])
 ·have hlen':((a.length:Int) != (b.length:Int))=true:=by simp;omega
  have hne:a ≠ b:=fun e=>hlen (by rw [e])
  simp [hlen',hne]
theorem laws_szParam_p (a:GParam) (hw:GParam.le maxLen a) (n:Int) (h0:0 ≤ n) (h1:n ≤ 1048576):∃ r,iW a n=some r∧r ≤ n∧(0 ≤ r→GParam.le 1048576 a):=by
 have hw0:=hw;unfold GParam.le at hw0
 unfold iW
 have hs0:a.Name.size ≤ 9223372036854775807:=hw0
 simp only [w64 (n:=n - (a.Name.size:Int)) (by omega) (by omega)]
 by_cases hn0:(n - (a.Name.size:Int)) < 0
 ·simp only [hn0,decide_true,if_true];exact ⟨_,rfl,by omega,fun h=>by omega⟩
 simp only [hn0,decide_false,Bool.false_eq_true,if_false]
 exact ⟨_,rfl,by omega,fun _=>(by unfold GParam.le;first | omega | exact trivial)⟩
theorem laws_toParam_p (a:GParam) (h:GParam.le 1048576 a):iU a=some a:=by
 have h0:=h;unfold GParam.le at h0
 unfold iU
 rfl
theorem laws_eqParam_p (a b:GParam) (ha:GParam.le 1048576 a) (hb:GParam.le 1048576 b):jA a b=some (decide (a=b)):=by
 have ha0:=ha;have hb0:=hb;unfold GParam.le at ha0 hb0
 unfold jA
 try simp only [mN,Option.bind_some]
 rw [show decide (a=b)=decide (a.Name=b.Name∧a.Typ=b.Typ) from by simp only [GParam.ext' a b]]
 by_cases e0:a.Name=b.Name<;>by_cases e1:a.Typ=b.Typ<;>simp [e0,e1]
theorem laws_szParamS_p (a:List GParam) (hw:a.length ≤ maxLen∧∀ x ∈ a,GParam.le maxLen x) (n:Int) (h0:0 ≤ n) (h1:n ≤ 1048576):∃ r,hJ a n=some r∧r ≤ n∧(0 ≤ r→a.length ≤ 1048576∧∀ x ∈ a,GParam.le 1048576 x):=by
 have hw':a.length ≤ 9223372036854775807:=hw.1
 unfold hJ
 rw [w64 (by omega) (by omega)]
 split
 ·exact ⟨_,rfl,by omega,fun h=>by omega⟩
 ·rename_i h
  simp only [decide_eq_true_eq] at h
  have hf:∀ (m:Int) (k:Nat) (g0:0 ≤ m) (g1:m ≤ 1048576) (hk:k < a.length),∃ r,r ≤ m∧(0 ≤ r→(fun x:GParam=>GParam.le 1048576 x) a[k])∧bX a (m,k)=some (if r < 0 then .inr (.inr (-1)) else .inl (r,((k + 1:Nat):Int))):=by
   intro m k g0 g1 hk
   obtain ⟨r,r1,r2,r3⟩:=laws_szParam_p a[k] (hw.2 _ (List.getElem_mem hk)) m g0 g1
   refine ⟨r,r2,r3,?_⟩
   simp only [bX,aB hk,if_true,aD hk,Option.bind_some,r1,eF hk hw.1]
   by_cases hr:r < 0<;>simp [hr]
  obtain ⟨j,hj,hj2⟩:=szS_gen _ a (bX a) 1048576 hf (fun m=>by simp [bX]) (n - a.length) (by omega) (by omega)
  rcases hj2 with rfl | ⟨m,rfl,q1,q2,q3⟩
  ·exact ⟨-1,by rw [hj];rfl,by omega,fun h=>by omega⟩
  ·exact ⟨m,by rw [hj];rfl,by omega,fun _=>⟨by omega,q3⟩⟩
theorem laws_toParamS_p (a:List GParam) (h:a.length ≤ 1048576∧∀ x ∈ a,GParam.le 1048576 x):hE a=some a:=by
 have hl:a.length ≤ 1048576:=h.1
 unfold hE
 rw [nQ _ _ _ (by omega) (by omega)]
 simp only [Option.bind_some]
 rw [toS_gen a _ (dC a) (fun out k hk ho=>?_) (fun out=>by simp [dC])]
 ·rfl
 ·simp only [dC,aB hk,if_true,aD hk,Option.bind_some,laws_toParam_p a[k] (h.2 _ (List.getElem_mem hk)),aD (show k < out.length by omega),bP,Int.toNat_natCast,eF hk (show a.length ≤ maxLen by show _ ≤ 9223372036854775807;omega)]
theorem laws_eqParamS_p (a b:List GParam) (ha:a.length ≤ 1048576∧∀ x ∈ a,GParam.le 1048576 x) (hb:b.length ≤ 1048576∧∀ x ∈ b,GParam.le 1048576 x):iC a b=some (decide (a=b)):=by
 have hl:a.length ≤ 1048576:=ha.1
 unfold iC
 by_cases hlen:a.length=b.length
 ·have hlen':((a.length:Int) != (b.length:Int))=false:=by simp [hlen]
  simp only [hlen',Bool.false_eq_true,if_false]
  have key:=eqS_gen a b (fun x y=>decide (x=y)) (fun x _ y _=>by simp) hlen (dH a b) (fun k hk hk2=>?_) (by simp [dH])
  ·by_cases e:a=b
   ·rw [key.1 e];simp [e]
   ·rw [key.2 e];simp [e]
  simp only [dH,aB hk,if_true,aD hk,aD hk2,Option.bind_some,laws_eqParam_p a[k] b[k] (ha.2 _ (List.getElem_mem hk)) (hb.2 _ (List.getElem_mem hk2)),eF hk (show a.length ≤ maxLen by show _ ≤ 9223372036854775807;omega)]
  try (by_cases e:a[k]=b[k]<;>simp [e])
 ·have hlen':((a.length:Int) != (b.length:Int))=true:=by simp;omega
  have hne:a ≠ b:=fun e=>hlen (by rw [e])
  simp [hlen',hne]
theorem laws_szFn_p (a:GFn) (hw:GFn.le maxLen a) (n:Int) (h0:0 ≤ n) (h1:n ≤ 1048576):∃ r,nX a n=some r∧r ≤ n∧(0 ≤ r→GFn.le 1048576 a):=by
 obtain ⟨hw0,hw1⟩:=hw
 unfold nX
 have hs0:a.Name.size ≤ 9223372036854775807:=hw0
 simp only [w64 (n:=n - (a.Name.size:Int)) (by omega) (by omega)]
 by_cases hn0:(n - (a.Name.size:Int)) < 0
 ·simp only [hn0,decide_true,if_true];exact ⟨_,rfl,by omega,fun h=>by omega⟩
 simp only [hn0,decide_false,Bool.false_eq_true,if_false]
 obtain ⟨r1,q1a,q1b,q1c⟩:=laws_szParamS_p a.Params hw1 (n - (a.Name.size:Int)) (by omega) (by omega)
 simp only [q1a,Option.bind_some]
 by_cases hn1:r1 < 0
 ·simp only [hn1,decide_true,if_true];exact ⟨_,rfl,by omega,fun h=>by omega⟩
 simp only [hn1,decide_false,Bool.false_eq_true,if_false]
 exact ⟨_,rfl,by omega,fun _=>⟨by omega,q1c (by omega)⟩⟩
theorem laws_toFn_p (a:GFn) (h:GFn.le 1048576 a):nW a=some a:=by
 obtain ⟨h0,h1⟩:=h
 unfold nW
 simp only [laws_toParamS_p a.Params h1,Option.bind_some]
theorem laws_eqFn_p (a b:GFn) (ha:GFn.le 1048576 a) (hb:GFn.le 1048576 b):nY a b=some (decide (a=b)):=by
 obtain ⟨ha0,ha1⟩:=ha
 obtain ⟨hb0,hb1⟩:=hb
 unfold nY
 try simp only [mN,Option.bind_some,laws_eqParamS_p a.Params b.Params ha1 hb1]
 rw [show decide (a=b)=decide (a.Name=b.Name∧a.Params=b.Params∧a.Res=b.Res∧a.Body=b.Body∧a.Ret=b.Ret) from by simp only [GFn.ext' a b]]
 by_cases e0:a.Name=b.Name<;>by_cases e1:a.Params=b.Params<;>by_cases e2:a.Res=b.Res<;>by_cases e3:a.Body=b.Body<;>by_cases e4:a.Ret=b.Ret<;>simp [e0,e1,e2,e3,e4]
theorem laws_szFnS_p (a:List GFn) (hw:a.length ≤ maxLen∧∀ x ∈ a,GFn.le maxLen x) (n:Int) (h0:0 ≤ n) (h1:n ≤ 1048576):∃ r,mB a n=some r∧r ≤ n∧(0 ≤ r→a.length ≤ 1048576∧∀ x ∈ a,GFn.le 1048576 x):=by
 have hw':a.length ≤ 9223372036854775807:=hw.1
 unfold mB
 rw [w64 (by omega) (by omega)]
 split
 ·exact ⟨_,rfl,by omega,fun h=>by omega⟩
 ·rename_i h
  simp only [decide_eq_true_eq] at h
  have hf:∀ (m:Int) (k:Nat) (g0:0 ≤ m) (g1:m ≤ 1048576) (hk:k < a.length),∃ r,r ≤ m∧(0 ≤ r→(fun x:GFn=>GFn.le 1048576 x) a[k])∧eH a (m,k)=some (if r < 0 then .inr (.inr (-1)) else .inl (r,((k + 1:Nat):Int))):=by
   intro m k g0 g1 hk
   obtain ⟨r,r1,r2,r3⟩:=laws_szFn_p a[k] (hw.2 _ (List.getElem_mem hk)) m g0 g1
   refine ⟨r,r2,r3,?_⟩
   simp only [eH,aB hk,if_true,aD hk,Option.bind_some,r1,eF hk hw.1]
   by_cases hr:r < 0<;>simp [hr]
  obtain ⟨j,hj,hj2⟩:=szS_gen _ a (eH a) 1048576 hf (fun m=>by simp [eH]) (n - a.length) (by omega) (by omega)
  rcases hj2 with rfl | ⟨m,rfl,q1,q2,q3⟩
  ·exact ⟨-1,by rw [hj];rfl,by omega,fun h=>by omega⟩
  ·exact ⟨m,by rw [hj];rfl,by omega,fun _=>⟨by omega,q3⟩⟩
theorem laws_toFnS_p (a:List GFn) (h:a.length ≤ 1048576∧∀ x ∈ a,GFn.le 1048576 x):mA a=some a:=by
 have hl:a.length ≤ 1048576:=h.1
 unfold mA
 rw [nQ _ _ _ (by omega) (by omega)]
 simp only [Option.bind_some]
 rw [toS_gen a _ (fL a) (fun out k hk ho=>?_) (fun out=>by simp [fL])]
 ·rfl
 ·simp only [fL,aB hk,if_true,aD hk,Option.bind_some,laws_toFn_p a[k] (h.2 _ (List.getElem_mem hk)),aD (show k < out.length by omega),bP,Int.toNat_natCast,eF hk (show a.length ≤ maxLen by show _ ≤ 9223372036854775807;omega)]
theorem laws_eqFnS_p (a b:List GFn) (ha:a.length ≤ 1048576∧∀ x ∈ a,GFn.le 1048576 x) (hb:b.length ≤ 1048576∧∀ x ∈ b,GFn.le 1048576 x):mC a b=some (decide (a=b)):=by
 have hl:a.length ≤ 1048576:=ha.1
 unfold mC
 by_cases hlen:a.length=b.length
 ·have hlen':((a.length:Int) != (b.length:Int))=false:=by simp [hlen]
  simp only [hlen',Bool.false_eq_true,if_false]
  have key:=eqS_gen a b (fun x y=>decide (x=y)) (fun x _ y _=>by simp) hlen (fN a b) (fun k hk hk2=>?_) (by simp [fN])
  ·by_cases e:a=b
   ·rw [key.1 e];simp [e]
   ·rw [key.2 e];simp [e]
  simp only [fN,aB hk,if_true,aD hk,aD hk2,Option.bind_some,laws_eqFn_p a[k] b[k] (ha.2 _ (List.getElem_mem hk)) (hb.2 _ (List.getElem_mem hk2)),eF hk (show a.length ≤ maxLen by show _ ≤ 9223372036854775807;omega)]
  try (by_cases e:a[k]=b[k]<;>simp [e])
 ·have hlen':((a.length:Int) != (b.length:Int))=true:=by simp;omega
  have hne:a ≠ b:=fun e=>hlen (by rw [e])
  simp [hlen',hne]
theorem laws_szProgram_p (a:GProgram) (hw:GProgram.le maxLen a) (n:Int) (h0:0 ≤ n) (h1:n ≤ 1048576):∃ r,gA a n=some r∧r ≤ n∧(0 ≤ r→GProgram.le 1048576 a):=by
 obtain ⟨hw0,hw1⟩:=hw
 unfold gA
 obtain ⟨r0,q0a,q0b,q0c⟩:=laws_szNodeS_p a.Nodes hw0 n (by omega) (by omega)
 simp only [q0a,Option.bind_some]
 by_cases hn0:r0 < 0
 ·simp only [hn0,decide_true,if_true];exact ⟨_,rfl,by omega,fun h=>by omega⟩
 simp only [hn0,decide_false,Bool.false_eq_true,if_false]
 obtain ⟨r1,q1a,q1b,q1c⟩:=laws_szFnS_p a.Fns hw1 r0 (by omega) (by omega)
 simp only [q1a,Option.bind_some]
 by_cases hn1:r1 < 0
 ·simp only [hn1,decide_true,if_true];exact ⟨_,rfl,by omega,fun h=>by omega⟩
 simp only [hn1,decide_false,Bool.false_eq_true,if_false]
 exact ⟨_,rfl,by omega,fun _=>⟨q0c (by omega),q1c (by omega)⟩⟩
theorem laws_toProgram_p (a:GProgram) (h:GProgram.le 1048576 a):cF a=some a:=by
 obtain ⟨h0,h1⟩:=h
 unfold cF
 simp only [laws_toNodeS_p a.Nodes h0,laws_toFnS_p a.Fns h1,Option.bind_some]
theorem nA (a b:GProgram) (ha:GProgram.le 1048576 a) (hb:GProgram.le 1048576 b):cG a b=some (decide (a=b)):=by
 obtain ⟨ha0,ha1⟩:=ha
 obtain ⟨hb0,hb1⟩:=hb
 unfold cG
 try simp only [mN,Option.bind_some,laws_eqNodeS_p a.Nodes b.Nodes ha0 hb0,laws_eqFnS_p a.Fns b.Fns ha1 hb1]
 rw [show decide (a=b)=decide (a.Nodes=b.Nodes∧a.Fns=b.Fns) from by simp only [GProgram.ext' a b]]
 by_cases e0:a.Nodes=b.Nodes<;>by_cases e1:a.Fns=b.Fns<;>simp [e0,e1]
theorem kL (k:Int) (h0:0 ≤ k) (h1:k ≤ 9223372036854775807):∃ z,aM k=some z:=by
 unfold aM
 by_cases hk:k ≤ 0
 ·simp [hk]
 ·simp only [hk,decide_false,Bool.false_eq_true,if_false]
  obtain ⟨z,h2,h3⟩:=text_loop dE (fun k o hk=>⟨IntKind.wrap .u8 (IntKind.wrap .i64 (48 + (Int.tmod k 10))),by simp only [dE,gt_iff_lt,hk,decide_true,if_true]⟩) (fun k o hk=>by simp only [dE,gt_iff_lt,show ¬ 0 < k by omega,decide_false,Bool.false_eq_true,if_false]) k h0 h1
  rw [h2]
  have hs:(⟨#[109]⟩:ByteArray).size=1:=rfl
  simp only [Option.bind_some]
  rw [sCat_ok' (by rw [hs];omega)]
  exact ⟨_,rfl⟩
theorem laws_markIntS_p (a:List Int) (ha:a.length ≤ 1048576) (k:Int) (h0:0 ≤ k) (h1:k + 1048576 ≤ 4611686018427387904):∃ k' a',iA a k=some (k',a')∧k ≤ k'∧k' ≤ k + 1048576∧dL a' k=some k':=by
 have hlen:a.length ≤ 1048576:=ha
 have hM:∃ k' a',aG bY (a,k,0)=some (a',k')∧k ≤ k'∧k' ≤ k + 1 * 1048576∧a'.length=a.length∧∃ ks:Nat→Int,ks 0=k∧ks a.length=k'∧∀ (j:Nat) (hj:j < a'.length),(fun (x:Int) (k k':Int)=>x=k∧k'=(k + 1)) a'[j] (ks j) (ks (j + 1))∧0 ≤ ks j∧ks j ≤ ks (j + 1)∧ks j ≤ 4611686018427387904:=by
  refine qJ (fun x:Int=>True) (fun (x:Int) (k k':Int)=>x=k∧k'=(k + 1)) 1 4611686018427387904 bY (fun out k i hi hlen h0 h1 hok=>?_) (fun out k=>by simp [bY]) a hlen (fun x hx=>trivial) k h0 (by omega)
  refine ⟨(k + 1),k,by omega,by omega,?_,?_⟩
  ·simp []
  ·simp (disch:=omega) only [bY,aB hi,if_true,aD,getI_set,Option.bind_some,bP,Int.toNat_natCast,List.length_set,List.set_set,w64,Int.natCast_add,Int.natCast_one]
 obtain ⟨k',a',h2,h3,h4,h5,ks,e0,e1,h6⟩:=hM
 refine ⟨k',a',by unfold iA;rw [h2];rfl,h3,by omega,?_⟩
 have hg:aG (cA a') (ks 0,0)=some (.inl (ks a'.length)):=by
  refine qS a' (fun (x:Int) (k k':Int)=>x=k∧k'=(k + 1)) 4611686018427387904 ks (cA a') h6 (fun j hj k k' hm h0 hk h1=>?_) (fun k=>by simp [cA])
  have hjl:a'.length ≤ 1048576:=by omega
  obtain ⟨y0,yk⟩:=hm
  subst yk
  have hw1:IntKind.wrap .i64 ((j:Int) + 1)=(j:Int) + 1:=w64 (by omega) (by omega)
  simp only [cA,aB hj,aD hj,hw1,if_true,Option.bind_some]
  simp (disch:=omega) [w64,mN,y0]
 unfold dL
 rw [e0,h5,e1] at hg
 rw [hg]
 rfl
theorem laws_markNodeS_p (a:List GNode) (ha:a.length ≤ 1048576∧∀ x ∈ a,GNode.le 1048576 x) (k:Int) (h0:0 ≤ k) (h1:k + 1099514773504 ≤ 4611686018427387904):∃ k' a',gB a k=some (k',a')∧k ≤ k'∧k' ≤ k + 1099514773504∧gC a' k=some k':=by
 have hlen:a.length ≤ 1048576:=ha.1
 have hM:∃ k' a',aG bJ (a,k,0)=some (a',k')∧k ≤ k'∧k' ≤ k + 1048579 * 1048576∧a'.length=a.length∧∃ ks:Nat→Int,ks 0=k∧ks a.length=k'∧∀ (j:Nat) (hj:j < a'.length),(fun (x:GNode) (k k':Int)=>x.Kind=k∧x.Num=(k + 1)∧aM ((k + 1) + 1)=some x.Name∧∃ q3,dL x.Kids (((k + 1) + 1) + 1)=some q3∧(((k + 1) + 1) + 1) ≤ q3∧k'=q3) a'[j] (ks j) (ks (j + 1))∧0 ≤ ks j∧ks j ≤ ks (j + 1)∧ks j ≤ 4611686018427387904:=by
  refine qJ (fun x:GNode=>GNode.le 1048576 x) (fun (x:GNode) (k k':Int)=>x.Kind=k∧x.Num=(k + 1)∧aM ((k + 1) + 1)=some x.Name∧∃ q3,dL x.Kids (((k + 1) + 1) + 1)=some q3∧(((k + 1) + 1) + 1) ≤ q3∧k'=q3) 1048579 4611686018427387904 bJ (fun out k i hi hlen h0 h1 hok=>?_) (fun out k=>by simp [bJ]) a hlen (fun x hx=>ha.2 x hx) k h0 (by omega)
  obtain ⟨hok_Name,hok_Kids⟩:=hok
  obtain ⟨z2,hz2⟩:=kL ((k + 1) + 1) (by omega) (by omega)
  obtain ⟨q3,b3,mm3,l3,u3,hh3⟩:=laws_markIntS_p out[i].Kids hok_Kids (((k + 1) + 1) + 1) (by omega) (by omega)
  refine ⟨q3,(⟨k,(k + 1),z2,b3⟩:GNode),by omega,by omega,?_,?_⟩
  ·simp [hz2,hh3];try omega
  ·simp (disch:=omega) only [bJ,aB hi,if_true,aD,getI_set,Option.bind_some,bP,Int.toNat_natCast,List.length_set,List.set_set,w64,hz2,mm3,Int.natCast_add,Int.natCast_one]
 obtain ⟨k',a',h2,h3,h4,h5,ks,e0,e1,h6⟩:=hM
 refine ⟨k',a',by unfold gB;rw [h2];rfl,h3,by omega,?_⟩
 have hg:aG (bK a') (ks 0,0)=some (.inl (ks a'.length)):=by
  refine qS a' (fun (x:GNode) (k k':Int)=>x.Kind=k∧x.Num=(k + 1)∧aM ((k + 1) + 1)=some x.Name∧∃ q3,dL x.Kids (((k + 1) + 1) + 1)=some q3∧(((k + 1) + 1) + 1) ≤ q3∧k'=q3) 4611686018427387904 ks (bK a') h6 (fun j hj k k' hm h0 hk h1=>?_) (fun k=>by simp [bK])
  have hjl:a'.length ≤ 1048576:=by omega
  obtain ⟨y0,⟨y1,⟨y2,⟨q3,y3,yy3,yk⟩⟩⟩⟩:=hm
  subst yk
  have hw1:IntKind.wrap .i64 ((j:Int) + 1)=(j:Int) + 1:=w64 (by omega) (by omega)
  simp only [bK,aB hj,aD hj,hw1,if_true,Option.bind_some]
  simp (disch:=omega) [w64,mN,y0,y1,y2,y3,show ¬ k' < 0 by omega,show 0 ≤ k' by omega]
 unfold gC
 rw [e0,h5,e1] at hg
 rw [hg]
 rfl
theorem laws_markParamS_p (a:List GParam) (ha:a.length ≤ 1048576∧∀ x ∈ a,GParam.le 1048576 x) (k:Int) (h0:0 ≤ k) (h1:k + 2097152 ≤ 4611686018427387904):∃ k' a',fD a k=some (k',a')∧k ≤ k'∧k' ≤ k + 2097152∧bO a' k=some k':=by
 have hlen:a.length ≤ 1048576:=ha.1
 have hM:∃ k' a',aG bD (a,k,0)=some (a',k')∧k ≤ k'∧k' ≤ k + 2 * 1048576∧a'.length=a.length∧∃ ks:Nat→Int,ks 0=k∧ks a.length=k'∧∀ (j:Nat) (hj:j < a'.length),(fun (x:GParam) (k k':Int)=>aM k=some x.Name∧x.Typ=(k + 1)∧k'=((k + 1) + 1)) a'[j] (ks j) (ks (j + 1))∧0 ≤ ks j∧ks j ≤ ks (j + 1)∧ks j ≤ 4611686018427387904:=by
  refine qJ (fun x:GParam=>GParam.le 1048576 x) (fun (x:GParam) (k k':Int)=>aM k=some x.Name∧x.Typ=(k + 1)∧k'=((k + 1) + 1)) 2 4611686018427387904 bD (fun out k i hi hlen h0 h1 hok=>?_) (fun out k=>by simp [bD]) a hlen (fun x hx=>ha.2 x hx) k h0 (by omega)
  have hok_Name:=hok;simp only [GParam.le] at hok_Name
  obtain ⟨z0,hz0⟩:=kL k (by omega) (by omega)
  refine ⟨((k + 1) + 1),(⟨z0,(k + 1)⟩:GParam),by omega,by omega,?_,?_⟩
  ·simp [hz0]
  ·simp (disch:=omega) only [bD,aB hi,if_true,aD,getI_set,Option.bind_some,bP,Int.toNat_natCast,List.length_set,List.set_set,w64,hz0,Int.natCast_add,Int.natCast_one]
 obtain ⟨k',a',h2,h3,h4,h5,ks,e0,e1,h6⟩:=hM
 refine ⟨k',a',by unfold fD;rw [h2];rfl,h3,by omega,?_⟩
 have hg:aG (bE a') (ks 0,0)=some (.inl (ks a'.length)):=by
  refine qS a' (fun (x:GParam) (k k':Int)=>aM k=some x.Name∧x.Typ=(k + 1)∧k'=((k + 1) + 1)) 4611686018427387904 ks (bE a') h6 (fun j hj k k' hm h0 hk h1=>?_) (fun k=>by simp [bE])
  have hjl:a'.length ≤ 1048576:=by omega
  obtain ⟨y0,⟨y1,yk⟩⟩:=hm
  subst yk
  have hw1:IntKind.wrap .i64 ((j:Int) + 1)=(j:Int) + 1:=w64 (by omega) (by omega)
  simp only [bE,aB hj,aD hj,hw1,if_true,Option.bind_some]
  simp (disch:=omega) [w64,mN,y0,y1]
 unfold bO
 rw [e0,h5,e1] at hg
 rw [hg]
 rfl
theorem laws_markFnS_p (a:List GFn) (ha:a.length ≤ 1048576∧∀ x ∈ a,GFn.le 1048576 x) (k:Int) (h0:0 ≤ k) (h1:k + 2199027449856 ≤ 4611686018427387904):∃ k' a',iY a k=some (k',a')∧k ≤ k'∧k' ≤ k + 2199027449856∧iZ a' k=some k':=by
 have hlen:a.length ≤ 1048576:=ha.1
 have hM:∃ k' a',aG cT (a,k,0)=some (a',k')∧k ≤ k'∧k' ≤ k + 2097156 * 1048576∧a'.length=a.length∧∃ ks:Nat→Int,ks 0=k∧ks a.length=k'∧∀ (j:Nat) (hj:j < a'.length),(fun (x:GFn) (k k':Int)=>aM k=some x.Name∧∃ q1,bO x.Params (k + 1)=some q1∧(k + 1) ≤ q1∧x.Res=q1∧x.Body=(q1 + 1)∧x.Ret=((q1 + 1) + 1)∧k'=(((q1 + 1) + 1) + 1)∧k' ≤ 4611686018427387904) a'[j] (ks j) (ks (j + 1))∧0 ≤ ks j∧ks j ≤ ks (j + 1)∧ks j ≤ 4611686018427387904:=by
  refine qJ (fun x:GFn=>GFn.le 1048576 x) (fun (x:GFn) (k k':Int)=>aM k=some x.Name∧∃ q1,bO x.Params (k + 1)=some q1∧(k + 1) ≤ q1∧x.Res=q1∧x.Body=(q1 + 1)∧x.Ret=((q1 + 1) + 1)∧k'=(((q1 + 1) + 1) + 1)∧k' ≤ 4611686018427387904) 2097156 4611686018427387904 cT (fun out k i hi hlen h0 h1 hok=>?_) (fun out k=>by simp [cT]) a hlen (fun x hx=>ha.2 x hx) k h0 (by omega)
  obtain ⟨hok_Name,hok_Params⟩:=hok
  obtain ⟨z0,hz0⟩:=kL k (by omega) (by omega)
  obtain ⟨q1,b1,mm1,l1,u1,hh1⟩:=laws_markParamS_p out[i].Params hok_Params (k + 1) (by omega) (by omega)
  refine ⟨(((q1 + 1) + 1) + 1),(⟨z0,b1,q1,(q1 + 1),((q1 + 1) + 1)⟩:GFn),by omega,by omega,?_,?_⟩
  ·simp [hz0,hh1];try omega
  ·simp (disch:=omega) only [cT,aB hi,if_true,aD,getI_set,Option.bind_some,bP,Int.toNat_natCast,List.length_set,List.set_set,w64,hz0,mm1,Int.natCast_add,Int.natCast_one]
 obtain ⟨k',a',h2,h3,h4,h5,ks,e0,e1,h6⟩:=hM
 refine ⟨k',a',by unfold iY;rw [h2];rfl,h3,by omega,?_⟩
 have hg:aG (cU a') (ks 0,0)=some (.inl (ks a'.length)):=by
  refine qS a' (fun (x:GFn) (k k':Int)=>aM k=some x.Name∧∃ q1,bO x.Params (k + 1)=some q1∧(k + 1) ≤ q1∧x.Res=q1∧x.Body=(q1 + 1)∧x.Ret=((q1 + 1) + 1)∧k'=(((q1 + 1) + 1) + 1)∧k' ≤ 4611686018427387904) 4611686018427387904 ks (cU a') h6 (fun j hj k k' hm h0 hk h1=>?_) (fun k=>by simp [cU])
  have hjl:a'.length ≤ 1048576:=by omega
  obtain ⟨y0,⟨q1,y1,yy1,⟨y2,⟨y3,⟨y4,⟨yk,ykb⟩⟩⟩⟩⟩⟩:=hm
  subst yk
  have hw1:IntKind.wrap .i64 ((j:Int) + 1)=(j:Int) + 1:=w64 (by omega) (by omega)
  simp only [cU,aB hj,aD hj,hw1,if_true,Option.bind_some]
  simp (disch:=omega) [w64,mN,y0,y1,show ¬ q1 < 0 by omega,show 0 ≤ q1 by omega,y2,y3,y4]
 unfold iZ
 rw [e0,h5,e1] at hg
 rw [hg]
 rfl
theorem lE (a:GProgram) (ha:GProgram.le 1048576 a) (k:Int) (h0:0 ≤ k) (h1:k + 3298542223360 ≤ 4611686018427387904):∃ k' a',dF a k=some (k',a')∧k ≤ k'∧k' ≤ k + 3298542223360∧dG a' k=some k':=by
 obtain ⟨ha_Nodes,ha_Fns⟩:=ha
 obtain ⟨k0,b0,m0,l0,u0,e0⟩:=laws_markNodeS_p a.Nodes ha_Nodes k (by omega) (by omega)
 obtain ⟨k1,b1,m1,l1,u1,e1⟩:=laws_markFnS_p a.Fns ha_Fns k0 (by omega) (by omega)
 refine ⟨k1,⟨b0,b1⟩,?_,by omega,by omega,?_⟩
 ·unfold dF;simp [m0,m1]
 ·unfold dG;simp [e0,show ¬ k0 < 0 by omega,e1,show ¬ k1 < 0 by omega]
end Go.OM
namespace Go.OM
theorem ite_some {α:Type} {c:Prop} [Decidable c] (a b:α):(if c then some a else some b)=some (if c then a else b):=by split<;>rfl
def inB (x a b:Int):Bool:=decide (a ≤ x) && decide (x ≤ b)
theorem inB_iff {x a b:Int}:inB x a b=true ↔ a ≤ x∧x ≤ b:=by simp [inB]
theorem inB_false {x a b:Int}:inB x a b=false ↔ ¬ (a ≤ x∧x ≤ b):=by rw [← inB_iff];simp
theorem cN (x a b:Int):cV x a b=some (inB x a b):=by
 unfold cV inB
 by_cases h:a ≤ x<;>simp [h]
theorem cI (x a b:Int):aP x a b=some (inB x a b):=by
 unfold aP inB
 by_cases h:a ≤ x<;>simp [h]
def bI (z:ByteArray):List Int:=z.data.toList.map fun x=>((x.toNat:Nat):Int)
theorem mI (z:ByteArray):(bI z).length=z.size:=by rw [bI,List.length_map];exact Array.length_toList
theorem sAt_bI {z:ByteArray} {k:Nat} (h:k < (bI z).length):sAt z k=some (bI z)[k]:=by
 have h1:k < z.size:=by rw [← mI];exact h
 unfold sAt
 rw [if_pos ⟨by omega,by omega⟩]
 simp only [byteAt,Int.toNat_natCast,bI]
 have e:z.data.toList.length=z.size:=Array.length_toList
 have h2:k < z.data.toList.length:=by omega
 rw [List.getD_eq_getElem?_getD,List.getElem?_eq_getElem h2]
 simp only [Option.getD_some,List.getElem_map]
def jO (b:Int):Bool:=inB b 97 122
def mU (b:Int):Bool:=inB b 48 57
theorem nC (b:Int):fQ b=some (jO b):=by
 unfold fQ jO inB
 by_cases h:97 ≤ b<;>simp [h]
theorem impl_isFigure_eq (b:Int):iE b=some (mU b):=by
 unfold iE mU inB
 by_cases h:48 ≤ b<;>simp [h]
theorem lU (b:Int):eM b=some (jO b):=by
 unfold eM jO inB
 by_cases h:97 ≤ b<;>simp [h]
theorem spec_l03Figure_eq (b:Int):fV b=some (mU b):=by
 unfold fV mU inB
 by_cases h:48 ≤ b<;>simp [h]
def keys:List ByteArray:=[⟨#[102,110]⟩,⟨#[108,101,116]⟩,⟨#[105,102]⟩,⟨#[101,108,115,101]⟩,⟨#[119,104,105,108,101]⟩,⟨#[112,114,105,110,116]⟩,⟨#[100,111]⟩,⟨#[110,101,119]⟩,⟨#[99,108,111,110,101]⟩,⟨#[109,117,116]⟩,⟨#[105,110,112,117,116]⟩,⟨#[105,110,116]⟩,⟨#[98,111,120]⟩,⟨#[114,101,116]⟩]
def keyB (s:ByteArray):Bool:=keys.any fun w=>sEq w s
theorem keys_split:strings_Split (⟨#[102,110,32,108,101,116,32,105,102,32,101,108,115,101,32,119,104,105,108,101,32,112,114,105,110,116,32,100,111,32,110,101,119,32,99,108,111,110,101,32,109,117,116,32,105,110,112,117,116,32,105,110,116,32,98,111,120,32,114,101,116]⟩:ByteArray) (⟨#[32]⟩:ByteArray)=some keys:=by kernel_rfl
theorem any_loop (l:List ByteArray) (s:ByteArray) (hl:l.length ≤ 1048576) (f:Int→Option (Int ⊕ (Unit ⊕ Bool)))
  (hf:∀ i,f i=if (decide (i < (l.length:Int)))=true then (getI l i).bind fun e=>if (sEq e s)=true then some (Sum.inr (Sum.inr true)) else some (Sum.inl (IntKind.wrap .i64 (i + 1))) else some (Sum.inr (Sum.inl ()))) :
  aG f 0=some (if (l.any fun w=>sEq w s)=true then .inr true else .inl ()):=by
 refine loopP_any l (fun w=>sEq w s) f (fun k hk=>?_) (by rw [hf];simp)
 rw [hf]
 simp only [aB hk,if_true,aD hk,Option.bind_some,eF hk (show l.length ≤ maxLen by show _ ≤ 9223372036854775807;omega),ite_some]
theorem spec_KeyWord_eq (s:ByteArray):iR s=some (keyB s):=by
 unfold iR kZ
 simp only [Option.bind_some]
 have h:=any_loop keys s (by decide) (fB s keys) (fun i=>by simp only [fB])
 unfold keys at h
 rw [h]
 unfold keyB keys
 simp only [Option.bind_some]
 split<;>rename_i h2<;>split at h2<;>simp_all
theorem impl_KeyWord_eq (s:ByteArray):jF s=some (keyB s):=by
 unfold jF oR
 rw [keys_split]
 simp only [Option.bind_some]
 rw [any_loop keys s (by decide) (iD s keys) (fun i=>by simp only [iD])]
 unfold keyB
 simp only [Option.bind_some]
 cases keys.any fun w=>sEq w s<;>rfl
def charB (b:Int):Bool:=jO b || mU b
def oX (s:ByteArray):Bool:=inB s.size 1 8 && (jO ((bI s).getD 0 0) && ((bI s).all charB && !keyB s))
theorem name_loop (s:ByteArray) (hs:s.size ≤ 8) (f:Int→Option (Int ⊕ (Unit ⊕ Bool)))
  (hf:∀ (k:Nat) (h:k < (bI s).length),f k=some (if charB (bI s)[k]=true then .inl (IntKind.wrap .i64 ((k:Int) + 1)) else .inr (.inr false)))
  (he:f s.size=some (.inr (.inl ()))):aG f 0=some (if (bI s).all charB=true then .inl () else .inr false):=by
 refine nS (bI s) charB f (fun k hk=>?_) (by rw [mI];exact he)
 rw [hf k hk,eF hk (show (bI s).length ≤ maxLen by rw [mI];show _ ≤ 9223372036854775807;omega)]
theorem bI_zero {s:ByteArray} (h:1 ≤ s.size):sAt s 0=some ((bI s).getD 0 0):=by
 have h1:0 < (bI s).length:=by rw [mI];omega
 have:=sAt_bI h1
 rw [show ((0:Nat):Int)=0 from rfl] at this
 rw [this,List.getD_eq_getElem?_getD,List.getElem?_eq_getElem h1];rfl
theorem lO (s:ByteArray):gK s=some (oX s):=by
 unfold gK oX
 simp only [cN,Option.bind_some]
 by_cases hi:inB s.size 1 8=true
 ·have hi':=inB_iff.1 hi
  rw [bI_zero (by omega),name_loop s (by omega) (eY s) (fun k hk=>?_) (by simp [eY])]
  ·simp only [hi,nC,impl_KeyWord_eq,Option.bind_some,Bool.not_true,Bool.false_eq_true,if_false,Bool.true_and]
   cases jO ((bI s).getD 0 0)<;>cases (bI s).all charB<;>cases keyB s<;>rfl
  ·have hk2:k < s.size:=by rw [← mI];exact hk
   simp only [eY,aB hk2,if_true,sAt_bI hk,nC,impl_isFigure_eq,Option.bind_some]
   rw [show charB (bI s)[k]=(jO (bI s)[k] || mU (bI s)[k]) from rfl]
   cases jO (bI s)[k]<;>cases mU (bI s)[k]<;>rfl
 ·simp [Bool.eq_false_iff.2 hi]
theorem lK (s:ByteArray):gH s=some (oX s):=by
 unfold gH oX
 simp only [cI,Option.bind_some]
 by_cases hi:inB s.size 1 8=true
 ·have hi':=inB_iff.1 hi
  rw [bI_zero (by omega),name_loop s (by omega) (eQ s) (fun k hk=>?_) (by simp [eQ])]
  ·simp only [hi,lU,spec_KeyWord_eq,Option.bind_some,Bool.not_true,Bool.false_eq_true,if_false,Bool.true_and]
   cases jO ((bI s).getD 0 0)<;>cases (bI s).all charB<;>cases keyB s<;>rfl
  ·have hk2:k < s.size:=by rw [← mI];exact hk
   simp only [eQ,aB hk2,if_true,sAt_bI hk,lU,spec_l03Figure_eq,Option.bind_some]
   rw [show charB (bI s)[k]=(jO (bI s)[k] || mU (bI s)[k]) from rfl]
   cases jO (bI s)[k]<;>cases mU (bI s)[k]<;>rfl
 ·simp [Bool.eq_false_iff.2 hi]
end Go.OM
namespace Go.OM
theorem dQ {n:Nat} (h:n ≤ 1048576):IntKind.wrap .i64 ((n:Int) - 1)=(n:Int) - 1:=w64 (by omega) (by omega)
end Go.OM
namespace Go.OM
theorem gF {α σ ρ:Type} (h:σ→α→σ) (fin:σ→ρ):∀ (l:List α) (s:σ),foldE (fun s x=>(.inl (h s x):σ ⊕ ρ)) fin l s=fin (l.foldl h s)
 | [],s=>rfl
 | x :: l,s=>by simp only [foldE,List.foldl_cons];exact gF h fin l _
theorem app1 {n:Nat} {s:List Int} {e:Int} (h:s.length ≤ 1048576) (hn:n ≤ 64):appI n s [e]=some (s ++ [e]):=by
 unfold appI
 have h1:(s.length + [e].length) * n ≤ (s.length + [e].length) * 64:=Nat.mul_le_mul_left _ hn
 rw [if_pos ⟨by simp only [List.length_cons,List.length_nil] at h1 ⊢;omega,by simp only [List.length_cons,List.length_nil];omega⟩]
def addL (out:List Int) (n:Int):List Int:=if out.contains n=true then out else out ++ [n]
theorem spec_l11Add_eq (out:List Int) (n:Int) (h:out.length ≤ 1048576):kA out n=some (addL out n):=by
 unfold kA addL
 rw [oP out (fun e=>if (e == n)=true then some out else none) (eL out n) (fun k hk=>by
  simp only [eL,aB hk,if_true,aD hk,Option.bind_some,eF hk (show out.length ≤ maxLen by show _ ≤ 9223372036854775807;omega)]
  cases out[k] == n<;>rfl) (by simp [eL])]
 have key:∀ l:List Int,l.findSome? (fun e=>if (e == n)=true then some out else none)=if l.contains n=true then some out else none:=by
  intro l
  induction l with
  | nil=>rfl
  | cons x l ih =>
   rw [List.findSome?_cons,List.contains_cons]
   by_cases hx:x=n
   ·simp [hx]
   ·have h1:(x == n)=false:=by simpa using hx
    have h2:(n == x)=false:=by simpa using fun e=>hx e.symm
    rw [h1,h2,Bool.false_or,← ih]
    rfl
 rw [key]
 cases out.contains n
 ·simp only [Bool.false_eq_true,if_false,Option.bind_some,app1 (n:=8) h (by omega)]
 ·rfl
theorem mem_addL {out:List Int} {n m:Int}:m ∈ addL out n ↔ m ∈ out ∨ m=n:=by
 unfold addL
 by_cases h:out.contains n=true
 ·rw [if_pos h]
  have:=List.contains_iff_mem.1 h
  constructor
  ·exact .inl
  ·rintro (h | rfl)
   ·exact h
   ·exact this
 ·rw [if_neg h];simp
theorem eR (m:Int):∀ (l s:List Int),m ∈ l.foldl addL s ↔ m ∈ s ∨ m ∈ l
 | [],s=>by simp
 | x :: l,s=>by rw [List.foldl_cons,eR m l,mem_addL,List.mem_cons,or_assoc]
end Go.OM
namespace Go.OM
inductive Reach (next:Nat→List Int) (root:Nat):Nat→Prop
 | base:Reach next root root
 | step {i:Nat} {m:Int}:Reach next root i→m ∈ next i→Reach next root m.toNat
theorem Reach.congr {next next':Nat→List Int} {root:Nat} (h:∀ i m,m ∈ next i ↔ m ∈ next' i) {n:Nat}:Reach next root n ↔ Reach next' root n:=by
 constructor
 ·intro r
  induction r with
  | base=>exact .base
  | step _ hm ih=>exact .step ih ((h _ _).1 hm)
 ·intro r
  induction r with
  | base=>exact .base
  | step _ hm ih=>exact .step ih ((h _ _).2 hm)
def vis (s:List Bool × List Int) (m:Int):List Bool × List Int:=if s.1[m.toNat]? = some true then s else (s.1.set m.toNat true,s.2 ++ [m])
theorem count_set {l:List Bool} {k:Nat} (hk:k < l.length) (h:l[k]? ≠ some true):(l.set k true).count true=l.count true + 1:=by
 induction l generalizing k with
 | nil=>simp at hk
 | cons x l ih =>
  cases k with
  | zero =>
   simp only [List.getElem?_cons_zero,ne_eq,Option.some.injEq] at h
   have:x=false:=by cases x<;>simp_all
   subst this
   simp [List.set_cons_zero]
  | succ k =>
   simp only [List.length_cons] at hk
   simp only [List.getElem?_cons_succ] at h
   rw [List.set_cons_succ,List.count_cons,List.count_cons,ih (by omega) h]
   omega
theorem vis_len (s:List Bool × List Int) (m:Int):(vis s m).1.length=s.1.length:=by unfold vis;split<;>simp
theorem vis_count {s:List Bool × List Int} {m:Int} (h:m.toNat < s.1.length):(vis s m).2.length + s.1.count true=s.2.length + (vis s m).1.count true:=by
 unfold vis
 split
 ·rfl
 ·rename_i hn
  simp only [List.length_append,List.length_cons,List.length_nil]
  rw [count_set h hn];omega
theorem vis_mono {s:List Bool × List Int} {m:Int} {n:Nat} (h:s.1[n]? = some true):(vis s m).1[n]? = some true:=by
 unfold vis
 split
 ·exact h
 ·simp only [List.getElem?_set]
  split
  ·rename_i e
   subst e
   have:=(List.getElem?_eq_some_iff.1 h).1
   simp [this]
  ·exact h
theorem vis_self {s:List Bool × List Int} {m:Int} (h:m.toNat < s.1.length):(vis s m).1[m.toNat]? = some true:=by
 unfold vis
 split
 ·rename_i e;exact e
 ·simp [h]
theorem vis_new {s:List Bool × List Int} {m:Int} {n:Nat} (h:(vis s m).1[n]? = some true):s.1[n]? = some true ∨ (n=m.toNat∧m ∈ (vis s m).2):=by
 unfold vis at h ⊢
 split at h
 ·exact .inl h
 ·rename_i hn
  rw [if_neg hn]
  simp only [List.getElem?_set] at h
  split at h
  ·rename_i e;exact .inr ⟨e.symm,by simp⟩
  ·exact .inl h
theorem vis_todo {s:List Bool × List Int} {m x:Int} (h:x ∈ (vis s m).2):x ∈ s.2 ∨ x=m:=by
 unfold vis at h
 split at h
 ·exact .inl h
 ·simpa using h
theorem vis_sub {s:List Bool × List Int} {m x:Int} (h:x ∈ s.2):x ∈ (vis s m).2:=by
 unfold vis
 split
 ·exact h
 ·simp [h]
structure VisL (W:Nat) (s s':List Bool × List Int) (nl:List Int):Prop where
 len:s'.1.length=s.1.length
 count:s'.2.length + s.1.count true=s.2.length + s'.1.count true
 cle:s.1.count true ≤ s'.1.count true
 mono:∀ n:Nat,s.1[n]? = some true→s'.1[n]? = some true
 all:∀ m ∈ nl,s'.1[m.toNat]? = some true
 new:∀ n:Nat,s'.1[n]? = some true→s.1[n]? = some true ∨ ∃ m ∈ nl,n=m.toNat∧m ∈ s'.2
 todo:∀ x ∈ s'.2,x ∈ s.2 ∨ x ∈ nl
 sub:∀ x ∈ s.2,x ∈ s'.2
theorem visL:∀ (nl:List Int) (s:List Bool × List Int),(∀ m ∈ nl,m.toNat < s.1.length)→VisL 0 s (nl.foldl vis s) nl
 | [],s,_=>⟨rfl,rfl,Nat.le_refl _,fun _ h=>h,by simp,fun _ h=>.inl h,fun _ h=>.inl h,fun _ h=>h⟩
 | m :: nl,s,h=>by
  have h1:m.toNat < s.1.length:=h m (by simp)
  have ih:=visL nl (vis s m) (fun x hx=>by rw [vis_len];exact h x (by simp [hx]))
  have hc:=vis_count h1
  have hcl:s.1.count true ≤ (vis s m).1.count true:=by
   unfold vis
   split
   ·exact Nat.le_refl _
   ·rename_i hn;rw [count_set h1 hn];omega
  rw [List.foldl_cons]
  refine ⟨ih.len.trans (vis_len s m),?_,Nat.le_trans hcl ih.cle,fun n hn=>ih.mono n (vis_mono hn),fun x hx=>?_,fun n hn=>?_,fun x hx=>?_,fun x hx=>ih.sub x (vis_sub hx)⟩
  ·have:=ih.count;omega
  ·rcases List.mem_cons.1 hx with rfl | hx
   ·exact ih.mono _ (vis_self h1)
   ·exact ih.all x hx
  ·rcases ih.new n hn with h2 | ⟨x,h2,h3,h4⟩
   ·rcases vis_new h2 with h3 | ⟨h3,h4⟩
    ·exact .inl h3
    ·exact .inr ⟨m,by simp,h3,ih.sub _ h4⟩
   ·exact .inr ⟨x,by simp [h2],h3,h4⟩
  ·rcases ih.todo x hx with h2 | h2
   ·rcases vis_todo h2 with h3 | h3
    ·exact .inl h3
    ·exact .inr (by simp [h3])
   ·exact .inr (by simp [h2])
theorem vis_app (a:List Int) (h:List Bool) (b:List Int) (m:Int):vis (h,a ++ b) m=((vis (h,b) m).1,a ++ (vis (h,b) m).2):=by
 unfold vis
 simp only
 split<;>simp
theorem qU:∀ (nl:List Int) (a:List Int) (h:List Bool) (b:List Int),nl.foldl vis (h,a ++ b)=((nl.foldl vis (h,b)).1,a ++ (nl.foldl vis (h,b)).2)
 | [],_,_,_=>rfl
 | m :: nl,a,h,b=>by
  rw [List.foldl_cons,List.foldl_cons,vis_app,qU nl a]
structure WInv (W root:Nat) (next:Nat→List Int) (s:List Bool × List Int):Prop where
 len:s.1.length=W
 cnt:s.2.length ≤ s.1.count true
 bnd:∀ x ∈ s.2,0 ≤ x∧x < W
 rt:s.1[root]? = some true
 sound:∀ n:Nat,s.1[n]? = some true→Reach next root n
 closed:∀ n:Nat,s.1[n]? = some true→(n:Int) ∈ s.2 ∨ ∀ m ∈ next n,s.1[m.toNat]? = some true
 tdo:∀ x ∈ s.2,s.1[x.toNat]? = some true
theorem WInv.go {W root:Nat} {next:Nat→List Int} {s:List Bool × List Int} (H:WInv W root next s) (hn:∀ (i:Nat),i < W→∀ m ∈ next i,0 ≤ m∧m < W) {e:Int} {rest nl:List Int} (he:e ∈ s.2)
  (h1:∀ x ∈ s.2,x=e ∨ x ∈ rest) (h2:∀ x ∈ rest,x ∈ s.2) (h3:rest.length + 1=s.2.length) (h4:∀ m,m ∈ nl ↔ m ∈ next e.toNat) :
  WInv W root next (nl.foldl vis (s.1,rest))∧2 * (W - (nl.foldl vis (s.1,rest)).1.count true) + (nl.foldl vis (s.1,rest)).2.length < 2 * (W - s.1.count true) + s.2.length:=by
 have heb:=H.bnd e he
 have hb:∀ m ∈ nl,0 ≤ m∧m < W:=fun m hm=>hn e.toNat (by omega) m ((h4 m).1 hm)
 have V:=visL nl (s.1,rest) (fun m hm=>by have:=hb m hm;have:=H.len;simp only;omega)
 have c1:=V.count
 have c2:=V.cle
 have c3:=H.cnt
 have c4:(nl.foldl vis (s.1,rest)).1.count true ≤ W:=by
  have:=List.count_le_length (a:=true) (l:=(nl.foldl vis (s.1,rest)).1)
  have:=V.len
  have:=H.len
  simp only at *;omega
 simp only at c1 c2
 refine ⟨⟨V.len.trans H.len,by omega,fun x hx=>?_,V.mono _ H.rt,fun n hn'=>?_,fun n hn'=>?_,fun x hx=>?_⟩,by omega⟩
 ·rcases V.todo x hx with h | h
  ·exact H.bnd x (h2 x h)
  ·exact hb x h
 ·rcases V.new n hn' with h | ⟨m,h,rfl,_⟩
  ·exact H.sound n h
  ·exact .step (H.sound _ (H.tdo e he)) ((h4 m).1 h)
 ·rcases V.new n hn' with h | ⟨m,h,h5,h6⟩
  ·rcases H.closed n h with h5 | h5
   ·rcases h1 _ h5 with h6 | h6
    ·right
     intro m hm
     have:e.toNat=n:=by omega
     exact V.all m ((h4 m).2 (this ▸ hm))
    ·exact .inl (V.sub _ h6)
   ·exact .inr fun m hm=>V.mono _ (h5 m hm)
  ·left
   have:=hb m h
   have e1:(n:Int)=m:=by omega
   rw [e1];exact h6
 ·rcases V.todo x hx with h | h
  ·exact V.mono _ (H.tdo x (h2 x h))
  ·exact V.all x h
open Classical in
noncomputable def qD (W root:Nat) (next:Nat→List Int):List Bool:=(List.range W).map fun n=>decide (Reach next root n)
theorem WInv.done {W root:Nat} {next:Nat→List Int} {s:List Bool × List Int} (H:WInv W root next s) (hn:∀ (i:Nat),i < W→∀ m ∈ next i,0 ≤ m∧m < W) (h:s.2=[]):s.1=qD W root next:=by
 have hcl:∀ n:Nat,Reach next root n→s.1[n]? = some true:=by
  intro n r
  induction r with
  | base=>exact H.rt
  | step _ hm ih =>
   rcases H.closed _ ih with h5 | h5
   ·rw [h] at h5;cases h5
   ·exact h5 _ hm
 apply List.ext_getElem?
 intro n
 unfold qD
 by_cases hlt:n < W
 ·have hlt2:n < s.1.length:=by rw [H.len];exact hlt
  rw [List.getElem?_eq_getElem hlt2,List.getElem?_map,List.getElem?_range hlt]
  simp only [Option.map_some,Option.some.injEq]
  by_cases r:Reach next root n
  ·have:=hcl n r
   rw [List.getElem?_eq_getElem hlt2] at this
   simp only [Option.some.injEq] at this
   simp [this,r]
  ·have:s.1[n] ≠ true:=fun e=>r (H.sound n (by rw [List.getElem?_eq_getElem hlt2,e]))
   simp [r,this]
 ·rw [List.getElem?_eq_none (by rw [H.len];omega),List.getElem?_eq_none (by simp;omega)]
theorem wl_loop {τ ρ:Type} (f:τ→Option (τ ⊕ ρ)) (abs:τ→List Bool × List Int) (Ok:τ→Prop) (W root:Nat) (next:Nat→List Int) (fin:τ→ρ) (hn:∀ (i:Nat),i < W→∀ m ∈ next i,0 ≤ m∧m < W)
  (hstep:∀ t,Ok t→WInv W root next (abs t)→(abs t).2 ≠ []→∃ (t':τ) (e:Int) (rest nl:List Int),f t=some (.inl t')∧Ok t'∧e ∈ (abs t).2∧(∀ x ∈ (abs t).2,x=e ∨ x ∈ rest)∧(∀ x ∈ rest,x ∈ (abs t).2)∧rest.length + 1=(abs t).2.length∧(∀ m,m ∈ nl ↔ m ∈ next e.toNat)∧abs t'=nl.foldl vis ((abs t).1,rest))
  (hend:∀ t,Ok t→(abs t).2=[]→f t=some (.inr (fin t))) (t:τ) (h0:Ok t) (h1:WInv W root next (abs t)):∃ t',aG f t=some (fin t')∧Ok t'∧(abs t').1=qD W root next:=by
 obtain ⟨r,g1,t',g2,g3,g4⟩:=bC (f:=f) (fun t=>Ok t∧WInv W root next (abs t)) (fun t=>2 * (W - (abs t).1.count true) + (abs t).2.length) (fun r=>∃ t',r=fin t'∧Ok t'∧(abs t').1=qD W root next) (by
  rintro t ⟨k1,k2⟩
  by_cases hd:(abs t).2=[]
  ·right
   exact ⟨_,hend t k1 hd,t,rfl,k1,k2.done hn hd⟩
  ·left
   obtain ⟨t',e,rest,nl,q1,q2,q3,q4,q5,q6,q7,q8⟩:=hstep t k1 k2 hd
   obtain ⟨p1,p2⟩:=k2.go hn q3 q4 q5 q6 q7
   exact ⟨t',q1,⟨q2,by rw [q8];exact p1⟩,by rw [q8];exact p2⟩) t ⟨h0,h1⟩
 exact ⟨t',by rw [g1,g2],g3,g4⟩
theorem vis_get {o:List Bool} {m:Int} (h0:0 ≤ m) (h:m < o.length):getI o m=some (o[m.toNat]'(by omega)):=by
 have:m=((m.toNat:Nat):Int):=by omega
 conv=>lhs;rw [this]
 exact aD (by omega)
theorem vis_eq {o:List Bool} {t:List Int} {m:Int} (h:m.toNat < o.length):vis (o,t) m=if o[m.toNat]=true then (o,t) else (o.set m.toNat true,t ++ [m]):=by
 unfold vis
 simp only [List.getElem?_eq_getElem h,Option.some.injEq]
end Go.OM
namespace Go.OM
theorem loopP_sim {α β ρ ρ':Type} {f:α→Option (α ⊕ ρ)} {g:β→Option (β ⊕ ρ')} (I:α→β→Prop) (μ:α→Nat) (R:ρ→ρ'→Prop)
  (h:∀ a b,I a b→(∃ a' b',f a=some (.inl a')∧g b=some (.inl b')∧I a' b'∧μ a' < μ a) ∨ ∃ r r',f a=some (.inr r)∧g b=some (.inr r')∧R r r'):∀ a b,I a b→∃ r r',aG f a=some r∧aG g b=some r'∧R r r':=by
 intro a
 generalize hn:μ a=n
 induction n using Nat.strongRecOn generalizing a with
 | _ n ih =>
  intro b hI
  rw [qK f,qK g]
  rcases h a b hI with ⟨a',b',h1,h2,h3,h4⟩ | ⟨r,r',h1,h2,h3⟩
  ·rw [h1,h2];exact ih _ (by omega) a' rfl b' h3
  ·rw [h1,h2];exact ⟨r,r',rfl,rfl,h3⟩
abbrev Tab:=List (List Bool)
structure TabOk (W L:Nat) (t:Tab):Prop where
 len:t.length=W
 row:∀ r ∈ t,r.length=L
theorem TabOk.set {W L:Nat} {t:Tab} (h:TabOk W L t) (n:Nat) {r:List Bool} (hr:r.length=L):TabOk W L (t.set n r) :=
 ⟨by simpa using h.len,fun x hx=>by
  rcases List.mem_or_eq_of_mem_set hx with h1 | h1
  ·exact h.row x h1
  ·rw [h1];exact hr⟩
theorem aO {k n:Nat} (hk:k < n) (hn:n ≤ 1048576):IntKind.wrap .i64 ((k:Int) + 1)=((k + 1:Nat):Int):=eF hk (show n ≤ maxLen by show _ ≤ 9223372036854775807;omega)
theorem app1g {α:Type} {n:Nat} {s:List α} {e:α} (h:s.length ≤ 1048576) (hn:n ≤ 64):appI n s [e]=some (s ++ [e]):=by
 unfold appI
 have h1:(s.length + [e].length) * n ≤ (s.length + [e].length) * 64:=Nat.mul_le_mul_left _ hn
 rw [if_pos ⟨by simp only [List.length_cons,List.length_nil] at h1 ⊢;omega,by simp only [List.length_cons,List.length_nil];omega⟩]
def cntR (r:List Bool):Nat:=r.count true
def cntT (t:Tab):Nat:=(t.map cntR).sum
end Go.OM
namespace Go.OM
theorem eJ {α:Type} {l:List α} {v:Int} (h0:0 ≤ v) (h:v < l.length):getI l v=some (l[v.toNat]'(by omega)):=by
 have:v=((v.toNat:Nat):Int):=by omega
 conv=>lhs;rw [this]
 exact aD (by omega)
theorem app_nil {α:Type} {n:Nat} {l:List α} (h:l.length ≤ 1048576) (hn:n ≤ 64):appI n [] l=some l:=by
 unfold appI
 have h1:(([]:List α).length + l.length) * n ≤ (([]:List α).length + l.length) * 64:=Nat.mul_le_mul_left _ hn
 rw [if_pos ⟨by simp only [List.length_nil] at h1 ⊢;omega,by simp only [List.length_nil];omega⟩]
 simp
end Go.OM
namespace Go.OM
structure Dn (W L:Nat) (s s':Tab × Bool):Prop where
 ok:TabOk W L s'.1
 le:cntT s'.1 ≤ cntT s.1
 lt:s'.2=true→s.2=true ∨ cntT s'.1 < cntT s.1
 keep:s.2=true→s'.2=true
theorem Dn.trans {W L:Nat} {s s' s2:Tab × Bool} (h:Dn W L s s') (h2:Dn W L s' s2):Dn W L s s2 :=
 ⟨h2.ok,Nat.le_trans h2.le h.le,fun e=>by
  rcases h2.lt e with e | e
  ·rcases h.lt e with e | e
   ·exact .inl e
   ·exact .inr (Nat.lt_of_le_of_lt h2.le e)
  ·exact .inr (Nat.lt_of_lt_of_le e h.le),fun e=>h2.keep (h.keep e)⟩
end Go.OM
namespace Go.OM
theorem oF (l:List Int) (n:Int) (hl:l.length ≤ 1048576):eI l n=some (l.contains n):=by
 unfold eI
 rw [loopP_any l (fun e=>e == n) (eV l n) (fun k hk=>by
  simp only [eV,aB hk,if_true,aD hk,Option.bind_some,aO hk hl]
  cases l[k] == n<;>rfl) (by simp [eV])]
 have:(l.any fun e=>e == n)=l.contains n:=by
  induction l with
  | nil=>rfl
  | cons x l ih =>
   rw [List.any_cons,List.contains_cons,ih (by simp at hl;omega)]
   congr 1
   rw [Bool.eq_iff_iff,beq_iff_eq,beq_iff_eq]
   exact eq_comm
 rw [this]
 cases l.contains n<;>rfl
theorem find_range {ρ:Type} (n:Nat) (q:Nat→Option ρ) (f:Int→Option (Int ⊕ (Unit ⊕ ρ)))
  (hf:∀ (k:Nat),k < n→f k=some (match q k with | none=>.inl ((k + 1:Nat):Int) | some r=>.inr (.inr r)))
  (he:f n=some (.inr (.inl ()))):aG f 0=some (match (List.range n).findSome? q with | some r=>.inr r | none=>.inl ()) :=
 oP (List.range n) q f (fun k hk=>by
  have hk':k < n:=by simpa using hk
  rw [hf k hk',List.getElem_range]
  all_goals (cases q k<;>rfl)) (by rw [List.length_range];exact he)
end Go.OM
namespace Go.OM
def valueB (k:Int):Bool:=inB k 1 12
def stepKB (k:Int):Bool:=inB k 13 19
theorem oC (k:Int):gP k=some (valueB k):=by simp only [gP,cN,Option.bind_some,valueB]
theorem impl_isStep_eq (k:Int):kR k=some (stepKB k):=by simp only [kR,cN,Option.bind_some,stepKB]
theorem mX (k:Int):eG k=some (valueB k):=by simp only [eG,cI,Option.bind_some,valueB]
theorem oW (k:Int):dV k=some (stepKB k):=by simp only [dV,cI,Option.bind_some,stepKB]
def lC (k:Int):Int × Int:=if k=8 ∨ k=13 ∨ k=14 ∨ k=15 ∨ k=18 ∨ k=19 then (1,1) else if k=9 ∨ k=10 ∨ k=11 ∨ k=17 then (2,2) else if k=16 then (3,3) else if k=12 then (0,3) else if k=20 then (0,12) else (0,0)
theorem impl_shape_eq (k:Int):mE k=some (lC k):=by
 unfold mE lC
 by_cases h8:k=8
 ·simp [h8]
 by_cases h13:k=13
 ·simp [h13]
 by_cases h14:k=14
 ·simp [h14]
 by_cases h15:k=15
 ·simp [h15]
 by_cases h18:k=18
 ·simp [h18]
 by_cases h19:k=19
 ·simp [h19]
 by_cases h9:k=9
 ·simp [h9]
 by_cases h10:k=10
 ·simp [h10]
 by_cases h11:k=11
 ·simp [h11]
 by_cases h17:k=17
 ·simp [h17]
 by_cases h16:k=16
 ·simp [h16]
 by_cases h12:k=12
 ·simp [h12]
 by_cases h20:k=20
 ·simp [h20]
 simp [h8,h13,h14,h15,h18,h19,h9,h10,h11,h17,h16,h12,h20]
theorem spec_l04Kids_eq (k:Int):iP k=some (lC k):=by
 unfold iP lC
 by_cases h8:k=8
 ·simp [h8]
 by_cases h13:k=13
 ·simp [h13]
 by_cases h14:k=14
 ·simp [h14]
 by_cases h15:k=15
 ·simp [h15]
 by_cases h18:k=18
 ·simp [h18]
 by_cases h19:k=19
 ·simp [h19]
 by_cases h9:k=9
 ·simp [h9]
 by_cases h10:k=10
 ·simp [h10]
 by_cases h11:k=11
 ·simp [h11]
 by_cases h17:k=17
 ·simp [h17]
 by_cases h16:k=16
 ·simp [h16]
 by_cases h12:k=12
 ·simp [h12]
 by_cases h20:k=20
 ·simp [h20]
 simp [h8,h13,h14,h15,h18,h19,h9,h10,h11,h17,h16,h12,h20]
def fitsB (kind i kid:Int):Bool:=if kind=20 then stepKB kid else if (kind=16 ∨ kind=17)∧0 < i then kid == 20 else if kind=19 then kid == 12 else valueB kid
theorem impl_kidFits_eq (kind i kid:Int):jC kind i kid=some (fitsB kind i kid):=by
 unfold jC fitsB
 simp only [impl_isStep_eq,oC,Option.bind_some,gt_iff_lt]
 by_cases h20:kind=20
 ·simp [h20]
 by_cases h16:kind=16
 ·by_cases hi:0 < i<;>simp [h16,hi]
 by_cases h17:kind=17
 ·by_cases hi:0 < i<;>simp [h17,hi]
 by_cases h19:kind=19
 ·simp [h19]
 simp [h20,h16,h17,h19]
theorem spec_l04Fits_eq (kind i kid:Int):iQ kind i kid=some (fitsB kind i kid):=by
 unfold iQ fitsB
 simp only [oW,mX,Option.bind_some,gt_iff_lt]
 by_cases h20:kind=20
 ·simp [h20]
 by_cases h16:kind=16
 ·by_cases hi:0 < i<;>simp [h16,hi]
 by_cases h17:kind=17
 ·by_cases hi:0 < i<;>simp [h17,hi]
 by_cases h19:kind=19
 ·simp [h19]
 simp [h20,h16,h17,h19]
def mZ (k:Int):Bool:=inB k 2 6 || inB k 12 15
theorem impl_hasName_eq (k:Int):jD k=some (mZ k):=by
 unfold jD mZ
 simp only [cN,Option.bind_some]
 cases inB k 2 6<;>rfl
theorem spec_l04Named_eq (k:Int):gX k=some (mZ k):=by
 unfold gX mZ
 by_cases h:inB k 2 6=true
 ·have h':=inB_iff.1 h
  rw [h]
  have:k=2 ∨ k=3 ∨ k=4 ∨ k=5 ∨ k=6:=by omega
  rcases this with e | e | e | e | e<;>simp [e]
 ·by_cases h2:inB k 12 15=true
  ·have h':=inB_iff.1 h2
   rw [h2]
   have:k=12 ∨ k=13 ∨ k=14 ∨ k=15:=by omega
   rcases this with e | e | e | e<;>simp [e]
  ·have h':=inB_false.1 (Bool.eq_false_iff.2 h)
   have h2':=inB_false.1 (Bool.eq_false_iff.2 h2)
   have n2:¬ k=2:=by omega
   have n3:¬ k=3:=by omega
   have n4:¬ k=4:=by omega
   have n5:¬ k=5:=by omega
   have n6:¬ k=6:=by omega
   have n12:¬ k=12:=by omega
   have n13:¬ k=13:=by omega
   have n14:¬ k=14:=by omega
   have n15:¬ k=15:=by omega
   simp [Bool.eq_false_iff.2 h,Bool.eq_false_iff.2 h2,n2,n3,n4,n5,n6,n12,n13,n14,n15]
def kidB (nodes:List GNode) (k:Nat) (x:GNode) (i:Nat):Bool:=match x.Kids[i]? with
 | none=>false
 | some kid=>inB kid 0 ((k:Int) - 1) && (!((x.Kids.take i).contains kid) && (match nodes[kid.toNat]? with | some y=>fitsB x.Kind i y.Kind | none=>false))
theorem kidB_at {nodes:List GNode} {k:Nat} {x:GNode} {i:Nat} (h:i < x.Kids.length):kidB nodes k x i=(inB x.Kids[i] 0 ((k:Int) - 1) && (!((x.Kids.take i).contains x.Kids[i]) && (match nodes[(x.Kids[i]).toNat]? with | some y=>fitsB x.Kind i y.Kind | none=>false))):=by
 unfold kidB;rw [List.getElem?_eq_getElem h]
def kidsB (nodes:List GNode) (k:Nat) (x:GNode):Bool:=(List.range x.Kids.length).all (kidB nodes k x)
def numNB (x:GNode):Bool:=if x.Kind=1 then inB x.Num 0 1000000000 else x.Num == 0
def nameNB (x:GNode):Bool:=if mZ x.Kind=true then oX x.Name else sEq x.Name ⟨#[]⟩
def kX (nodes:List GNode) (k:Nat):Bool:=match nodes[k]? with
 | none=>false
 | some x=>inB x.Kind 1 20 && (inB x.Kids.length (lC x.Kind).1 (lC x.Kind).2 && (kidsB nodes k x && (numNB x && nameNB x)))
theorem range_all {ρ:Type} (n:Nat) (hn:n ≤ 1048576) (p:Nat→Bool) (b:ρ) (f:Int→Option (Int ⊕ (Unit ⊕ ρ)))
  (hf:∀ (k:Nat),k < n→f k=some (if p k=true then .inl (IntKind.wrap .i64 ((k:Int) + 1)) else .inr (.inr b)))
  (he:f n=some (.inr (.inl ()))):aG f 0=some (if (List.range n).all p=true then .inl () else .inr b):=by
 rw [find_range n (fun k=>if p k=true then none else some b) f (fun k hk=>by
  rw [hf k hk,aO hk hn]
  cases p k<;>rfl) he]
 have key:∀ l:List Nat,l.findSome? (fun k=>if p k=true then none else some b)=if l.all p=true then none else some b:=by
  intro l
  induction l with
  | nil=>rfl
  | cons x l ih =>
   rw [List.findSome?_cons,List.all_cons]
   cases hp:p x
   ·simp
   ·simp only [if_true,Bool.true_and];exact ih
 rw [key]
 cases (List.range n).all p<;>rfl
theorem shape_hi (k:Int):(lC k).2 ≤ 12:=by
 unfold lC
 repeat' split
 all_goals simp
theorem nameB_empty:oX ⟨#[]⟩=false:=by
 unfold oX
 have:inB ((⟨#[]⟩:ByteArray).size:Int) 1 8=false:=rfl
 rw [this];rfl
theorem impl_NodeOk_eq (nodes:List GNode) (hn:nodes.length ≤ 1048576) (k:Int):kU nodes k=some (decide (0 ≤ k) && kX nodes k.toNat):=by
 unfold kU
 simp only [cN,Option.bind_some,dQ hn]
 by_cases hi:inB k 0 ((nodes.length:Int) - 1)=true
 ·have hi':=inB_iff.1 hi
  have hk:k.toNat < nodes.length:=by omega
  have hkk:k=((k.toNat:Nat):Int):=by omega
  rw [decide_eq_true hi'.1,Bool.true_and]
  generalize k.toNat=m at *
  subst hkk
  unfold kX
  rw [List.getElem?_eq_getElem hk,aD hk]
  simp only [hi,Bool.not_true,Bool.false_eq_true,if_false,Option.bind_some,impl_shape_eq]
  generalize nodes[m]=x
  cases h1:inB x.Kind 1 20
  ·rfl
  cases h2:inB x.Kids.length (lC x.Kind).1 (lC x.Kind).2
  ·rfl
  have h2':=inB_iff.1 h2
  have hs:=shape_hi x.Kind
  have hkl:x.Kids.length ≤ 1048576:=by omega
  have hw:IntKind.wrap .i64 ((m:Int) - 1)=(m:Int) - 1:=w64 (by omega) (by omega)
  rw [range_all x.Kids.length hkl (kidB nodes m x) false (eX nodes m x) (fun i hi=>by
   have hsub:subI x.Kids 0 (i:Int)=some (x.Kids.take i):=by
    unfold subI;rw [if_pos ⟨by omega,by omega,by omega⟩];simp
   simp only [eX,aB hi,if_true,aD hi,Option.bind_some,cN,hw,hsub,oF (x.Kids.take i) _ (by simp;omega),impl_kidFits_eq]
   rw [kidB_at hi]
   cases h3:inB x.Kids[i] 0 ((m:Int) - 1)
   ·rfl
   have h3':=inB_iff.1 h3
   cases h4:(x.Kids.take i).contains x.Kids[i]
   ·have hlt:x.Kids[i].toNat < nodes.length:=by omega
    rw [eJ h3'.1 (by omega),List.getElem?_eq_getElem hlt]
    simp only [Bool.not_true,Bool.false_eq_true,if_false,Option.bind_some,Bool.not_false,Bool.true_and]
    cases fitsB x.Kind i nodes[x.Kids[i].toNat].Kind<;>rfl
   ·rfl) (by simp [eX])]
  have hkk:(List.range x.Kids.length).all (kidB nodes m x)=kidsB nodes m x:=rfl
  rw [hkk]
  cases kidsB nodes m x
  ·rfl
  unfold numNB nameNB
  simp only [impl_hasName_eq,lO,Option.bind_some,Bool.not_true,Bool.false_eq_true,if_false,if_true]
  by_cases hkd:x.Kind=1
  ·have e:(x.Kind == 1)=true:=by simpa using hkd
   rw [if_pos hkd,if_pos e]
   cases inB x.Num 0 1000000000
   ·rfl
   cases mZ x.Kind<;>rfl
  ·have e:¬ (x.Kind == 1)=true:=by simpa using hkd
   have e2:(x.Num != 0) = !(x.Num == 0):=rfl
   rw [if_neg hkd,if_neg e,e2]
   cases x.Num == 0
   ·rfl
   cases mZ x.Kind<;>rfl
 ·simp only [Bool.eq_false_iff.2 hi,Bool.not_false,if_true]
  have hi':=inB_false.1 (Bool.eq_false_iff.2 hi)
  congr 1
  by_cases h0:0 ≤ k
  ·unfold kX
   rw [List.getElem?_eq_none (by omega)];simp
  ·simp [h0]
theorem spec_NodeOk_eq (nodes:List GNode) (hn:nodes.length ≤ 1048576) (k:Int):kF nodes k=some (decide (0 ≤ k) && kX nodes k.toNat):=by
 unfold kF
 simp only [cI,Option.bind_some,dQ hn]
 by_cases hi:inB k 0 ((nodes.length:Int) - 1)=true
 ·have hi':=inB_iff.1 hi
  have hk:k.toNat < nodes.length:=by omega
  have hkk:k=((k.toNat:Nat):Int):=by omega
  rw [decide_eq_true hi'.1,Bool.true_and]
  generalize k.toNat=m at *
  subst hkk
  unfold kX
  rw [List.getElem?_eq_getElem hk,aD hk]
  simp only [hi,Bool.not_true,Bool.false_eq_true,if_false,Option.bind_some,spec_l04Kids_eq]
  generalize nodes[m]=x
  cases h1:inB x.Kind 1 20
  ·rfl
  simp only [Bool.not_true,Bool.false_eq_true,if_false,Bool.true_and]
  cases h2:inB x.Kids.length (lC x.Kind).1 (lC x.Kind).2
  ·rfl
  have h2':=inB_iff.1 h2
  have hs:=shape_hi x.Kind
  have hkl:x.Kids.length ≤ 1048576:=by omega
  have hw:IntKind.wrap .i64 ((m:Int) - 1)=(m:Int) - 1:=w64 (by omega) (by omega)
  rw [range_all x.Kids.length hkl (kidB nodes m x) false (eP nodes m x) (fun i hi=>by
   simp only [eP,aB hi,if_true,aD hi,Option.bind_some,cI,hw,spec_l04Fits_eq]
   rw [range_all i (by omega) (fun j=>!(x.Kids[i] == (x.Kids[j]?).getD 0)) (.inr (.inr false)) (eN x i) (fun j hj=>by
    have hjl:j < x.Kids.length:=by omega
    simp only [eN,aB hj,if_true,aD hi,aD hjl,Option.bind_some,List.getElem?_eq_getElem hjl,Option.getD_some]
    cases x.Kids[i] == x.Kids[j]<;>rfl) (by simp [eN])]
   have hall:(List.range i).all (fun j=>!(x.Kids[i] == (x.Kids[j]?).getD 0)) = !((x.Kids.take i).contains x.Kids[i]):=by
    rw [Bool.eq_iff_iff]
    simp only [List.all_eq_true,List.mem_range,Bool.not_eq_true',List.contains_eq_mem,decide_eq_false_iff_not,beq_eq_false_iff_ne,ne_eq]
    constructor
    ·intro h hm
     obtain ⟨j,hj,e⟩:=List.mem_iff_getElem.1 hm
     simp only [List.length_take] at hj
     rw [List.getElem_take] at e
     refine h j (by omega) ?_
     rw [List.getElem?_eq_getElem (by omega)]
     exact e.symm
    ·intro h j hj e
     rw [List.getElem?_eq_getElem (show j < x.Kids.length by omega)] at e
     refine h ?_
     rw [e]
     refine List.mem_iff_getElem.2 ⟨j,by simp only [List.length_take];omega,?_⟩
     rw [List.getElem_take];rfl
   rw [hall]
   rw [kidB_at hi]
   cases h3:inB x.Kids[i] 0 ((m:Int) - 1)
   ·rfl
   have h3':=inB_iff.1 h3
   have hlt:x.Kids[i].toNat < nodes.length:=by omega
   rw [eJ h3'.1 (by omega),List.getElem?_eq_getElem hlt]
   simp only [Bool.not_true,Bool.false_eq_true,if_false,Option.bind_some,Bool.true_and]
   cases fitsB x.Kind i nodes[x.Kids[i].toNat].Kind<;>cases (x.Kids.take i).contains x.Kids[i]<;>rfl) (by simp [eP])]
  have hkk:(List.range x.Kids.length).all (kidB nodes m x)=kidsB nodes m x:=rfl
  rw [hkk]
  unfold numNB nameNB
  simp only [spec_l04Named_eq,lK,Option.bind_some,Bool.not_true,Bool.false_eq_true,if_false,if_true]
  have hname:(if (!(mZ x.Kind == (!(sEq x.Name (⟨#[]⟩:ByteArray)))))=true then some true else if (!(sEq x.Name (⟨#[]⟩:ByteArray)))=true then some (!(oX x.Name)) else some false)=some (!(if mZ x.Kind=true then oX x.Name else sEq x.Name ⟨#[]⟩)):=by
   cases he:sEq x.Name ⟨#[]⟩ with
   | true =>
    have:x.Name=⟨#[]⟩:=by rw [mN] at he;simpa using he
    cases mZ x.Kind
    ·rfl
    ·rw [this,nameB_empty];rfl
   | false =>
    cases mZ x.Kind<;>rfl
  rw [hname]
  have hnum:(if (!(inB x.Num 0 1000000000))=true then some true else if (x.Kind != 1)=true then some (x.Num != 0) else some false)=some (!(if x.Kind=1 then inB x.Num 0 1000000000 else x.Num == 0)):=by
   have e2:(x.Num != 0) = !(x.Num == 0):=rfl
   by_cases hkd:x.Kind=1
   ·have e:(x.Kind != 1)=false:=by simp [hkd]
    rw [if_pos hkd,e]
    cases inB x.Num 0 1000000000<;>rfl
   ·have e:(x.Kind != 1)=true:=by simpa using hkd
    rw [if_neg hkd,e,e2]
    cases hz:x.Num == 0 with
    | true =>
     have:x.Num=0:=by simpa using hz
     rw [this];rfl
    | false=>cases inB x.Num 0 1000000000<;>rfl
  rw [hnum]
  generalize (if x.Kind=1 then inB x.Num 0 1000000000 else x.Num == 0)=u
  generalize (if mZ x.Kind=true then oX x.Name else sEq x.Name ⟨#[]⟩)=v
  cases u<;>cases v<;>cases kidsB nodes m x<;>rfl
 ·simp only [Bool.eq_false_iff.2 hi,Bool.not_false,if_true,Option.bind_some]
  have hi':=inB_false.1 (Bool.eq_false_iff.2 hi)
  congr 1
  by_cases h0:0 ≤ k
  ·unfold kX
   rw [List.getElem?_eq_none (by omega)];simp
  ·simp [h0]
end Go.OM
namespace Go.OM
def mx (a b:Int):Int:=if b > a then b else a
def dstep (nodes:List GNode) (out:List Int) (i:Nat):Int:=match nodes[i]? with
 | some x=>x.Kids.foldl (fun d kid=>mx d (out.getD kid.toNat 0 + 1)) 1
 | none=>1
def gM (nodes:List GNode):Nat→List Int
 | 0=>[]
 | n + 1=>gM nodes n ++ [dstep nodes (gM nodes n) n]
def okU (nodes:List GNode):Nat→Bool
 | 0=>true
 | n + 1=>okU nodes n && (kX nodes n && decide (dstep nodes (gM nodes n) n ≤ 10))
def dval (nodes:List GNode) (k:Nat):Int:=dstep nodes (gM nodes k) k
theorem eK (nodes:List GNode):∀ n,(gM nodes n).length=n
 | 0=>rfl
 | n + 1=>by simp [gM,eK nodes n]
theorem jI (nodes:List GNode):∀ (n j:Nat),j < n→(gM nodes n)[j]? = some (dval nodes j)
 | 0,j,h=>by omega
 | n + 1,j,h=>by
  simp only [gM]
  rcases Nat.lt_or_ge j n with h1 | h1
  ·rw [List.getElem?_append_left (by rw [eK];exact h1)]
   exact jI nodes n j h1
  ·have:j=n:=by omega
   subst this
   rw [List.getElem?_append_right (by rw [eK];omega),eK]
   simp [dval]
theorem okU_mono {nodes : List GNode} : ∀ {n m : Nat}, m ≤ n → okU nodes n = true → okU nodes m = true
  | 0, m, h, h1 => by have : m = 0 := by omega
                      subst this; rfl
  | n + 1, m, h, h1 => by
    by_cases e : m = n + 1
    · subst e; exact h1
    · simp only [okU, Bool.and_eq_true] at h1
      exact okU_mono (by omega) h1.1
theorem pG {nodes:List GNode} {n j:Nat} (h:okU nodes n=true) (hj:j < n):kX nodes j=true∧dval nodes j ≤ 10:=by
 have:=okU_mono (show j + 1 ≤ n by omega) h
 simp only [okU,Bool.and_eq_true,decide_eq_true_eq] at this
 exact this.2
theorem mx_ge (l:List Int) (g:Int→Int):∀ d,d ≤ l.foldl (fun d kid=>mx d (g kid)) d∧∀ kid ∈ l,g kid ≤ l.foldl (fun d kid=>mx d (g kid)) d:=by
 induction l with
 | nil=>intro d;simp
 | cons x l ih =>
  intro d
  rw [List.foldl_cons]
  obtain ⟨h1,h2⟩:=ih (mx d (g x))
  have h3:d ≤ mx d (g x)∧g x ≤ mx d (g x):=by unfold mx;split<;>omega
  refine ⟨by omega,fun kid hk=>?_⟩
  rcases List.mem_cons.1 hk with rfl | hk
  ·omega
  ·exact h2 kid hk
theorem oT (nodes:List GNode) (k:Nat):1 ≤ dval nodes k:=by
 unfold dval dstep
 split
 ·exact (mx_ge _ _ 1).1
 ·omega
theorem nP {nodes:List GNode} {k:Nat} (h:kX nodes k=true):∃ (hk:k < nodes.length),inB nodes[k].Kind 1 20=true∧inB nodes[k].Kids.length (lC nodes[k].Kind).1 (lC nodes[k].Kind).2=true∧(∀ (i:Nat) (hi:i < nodes[k].Kids.length),(0 ≤ nodes[k].Kids[i]∧nodes[k].Kids[i] < k)∧¬ nodes[k].Kids[i] ∈ nodes[k].Kids.take i∧∃ y,nodes[(nodes[k].Kids[i]).toNat]? = some y∧fitsB nodes[k].Kind i y.Kind=true)∧numNB nodes[k]=true∧nameNB nodes[k]=true:=by
 unfold kX at h
 split at h
 ·cases h
 ·rename_i x hx
  obtain ⟨hk,hxe⟩:=List.getElem?_eq_some_iff.1 hx
  subst hxe
  simp only [Bool.and_eq_true] at h
  obtain ⟨h1,h2,h3,h4,h5⟩:=h
  refine ⟨hk,h1,h2,fun i hi=>?_,h4,h5⟩
  have:=List.all_eq_true.1 h3 i (List.mem_range.2 hi)
  rw [kidB_at hi] at this
  simp only [Bool.and_eq_true,inB_iff,Bool.not_eq_true',List.contains_eq_mem,decide_eq_false_iff_not] at this
  obtain ⟨g1,g2,g3⟩:=this
  refine ⟨⟨g1.1,by omega⟩,g2,?_⟩
  split at g3
  ·rename_i y hy;exact ⟨y,hy,g3⟩
  ·cases g3
theorem lX {nodes:List GNode} {k:Nat} (h:kX nodes k=true) {x:GNode} (hx:nodes[k]? = some x):∀ kid ∈ x.Kids,0 ≤ kid∧kid < k:=by
 obtain ⟨hk,_,_,h3,_⟩:=nP h
 obtain ⟨_,hxe⟩:=List.getElem?_eq_some_iff.1 hx
 subst hxe
 intro kid hm
 obtain ⟨i,hi,rfl⟩:=List.mem_iff_getElem.1 hm
 exact (h3 i hi).1
theorem lD {nodes:List GNode} {k:Nat} (h:kX nodes k=true) {x:GNode} (hx:nodes[k]? = some x):x.Kids.length ≤ 12:=by
 obtain ⟨hk,_,h2,_⟩:=nP h
 obtain ⟨_,hxe⟩:=List.getElem?_eq_some_iff.1 hx
 subst hxe
 have:=inB_iff.1 h2
 have:=shape_hi nodes[k].Kind
 omega
theorem dval_kid {nodes:List GNode} {k:Nat} (h:kX nodes k=true) {x:GNode} (hx:nodes[k]? = some x) {kid:Int} (hm:kid ∈ x.Kids):dval nodes kid.toNat < dval nodes k:=by
 have hb:=lX h hx kid hm
 have:dval nodes k=x.Kids.foldl (fun d kid=>mx d ((gM nodes k).getD kid.toNat 0 + 1)) 1:=by unfold dval dstep;rw [hx]
 rw [this]
 have h2:=(mx_ge x.Kids (fun kid=>(gM nodes k).getD kid.toNat 0 + 1) 1).2 kid hm
 have h3:(gM nodes k).getD kid.toNat 0=dval nodes kid.toNat:=by
  rw [List.getD_eq_getElem?_getD,jI nodes k kid.toNat (by omega)];rfl
 rw [h3] at h2
 omega
theorem impl_dloop (nodes:List GNode) (k:Nat) (x:GNode) (hx:nodes[k]? = some x) (hok:okU nodes k=true) (hn:kX nodes k=true):aG (dO (gM nodes k) x) (1,0)=some (dval nodes k):=by
 have hkl:=lD hn hx
 have hkb:=lX hn hx
 have hg:∀ kid ∈ x.Kids,(gM nodes k).getD kid.toNat 0=dval nodes kid.toNat:=fun kid hm=>by
  have:=hkb kid hm
  rw [List.getD_eq_getElem?_getD,jI nodes k kid.toNat (by omega)];rfl
 have:=fJ x.Kids (fun (d:Int) j=>(d,(j:Int))) (fun j d=>True) (fun d kid=>.inl (mx d ((gM nodes k).getD kid.toNat 0 + 1))) id (dO (gM nodes k) x) (fun d j hj _=>by
  left
  have hm:=List.getElem_mem hj
  have hb:=hkb _ hm
  have hd:=pG hok (show x.Kids[j].toNat < k by omega)
  have hp:=oT nodes x.Kids[j].toNat
  refine ⟨_,rfl,?_,trivial⟩
  have hlt:x.Kids[j].toNat < (gM nodes k).length:=by rw [eK];omega
  have hge:(gM nodes k)[x.Kids[j].toNat]=dval nodes x.Kids[j].toNat:=by
   have:=jI nodes k x.Kids[j].toNat (by omega)
   rw [List.getElem?_eq_getElem hlt] at this
   exact Option.some.inj this
  simp only [dO,aB hj,if_true,aD hj,Option.bind_some]
  rw [eJ hb.1 (by rw [eK];omega),hge]
  simp only [Option.bind_some,w64 (n:=dval nodes x.Kids[j].toNat + 1) (by omega) (by omega),aO hj (by omega),hg _ hm]
  rfl) (fun d _=>by simp [dO]) 1 trivial
 rw [gF] at this
 unfold dval dstep
 rw [hx]
 exact this
theorem impl_depths_eq (nodes:List GNode) (hn:nodes.length ≤ 1048576) (k:Int):kS nodes k=some (if 0 ≤ k∧k < nodes.length∧okU nodes (k.toNat + 1)=true then (gM nodes (k.toNat + 1),true) else ([],false)):=by
 unfold kS
 simp only [cN,Option.bind_some,dQ hn]
 by_cases hi:inB k 0 ((nodes.length:Int) - 1)=true
 ·have hi':=inB_iff.1 hi
  have hkk:k=((k.toNat:Nat):Int):=by omega
  have hk:k.toNat < nodes.length:=by omega
  generalize k.toNat=m at *
  subst hkk
  simp only [hi,Bool.not_true,Bool.false_eq_true,if_false]
  obtain ⟨r,h1,h2⟩:=bC (f:=eW nodes m) (fun s:List Int × Int=>∃ i:Nat,s.2=i∧i ≤ m + 1∧s.1=gM nodes i∧okU nodes i=true) (fun s=>m + 1 - s.2.toNat) (fun r=>r=if okU nodes (m + 1)=true then Sum.inl (gM nodes (m + 1)) else Sum.inr ([],false)) (by
   rintro ⟨out,i⟩ ⟨i,rfl,hle,ho,hok⟩
   simp only at ho hle
   subst ho
   by_cases hlt:i ≤ m
   ·have hd:decide ((i:Int) ≤ (m:Int))=true:=by simp only [decide_eq_true_eq];omega
    have hil:i < nodes.length:=by omega
    simp only [eW,hd,if_true,impl_NodeOk_eq nodes hn,Option.bind_some,Int.toNat_natCast]
    have h0:decide ((0:Int) ≤ (i:Int))=true:=by simp
    rw [h0,Bool.true_and]
    cases hnb:kX nodes i with
    | false =>
     right
     refine ⟨.inr ([],false),by simp,?_⟩
     have:okU nodes (m + 1)=false:=by
      rw [Bool.eq_false_iff]
      intro h
      rw [(pG h (show i < m + 1 by omega)).1] at hnb
      cases hnb
     rw [this];rfl
    | true =>
     simp only [Bool.not_true,Bool.false_eq_true,if_false,aD hil,Option.bind_some]
     rw [impl_dloop nodes i _ (List.getElem?_eq_getElem hil) hok hnb]
     simp only [Option.bind_some]
     by_cases hd10:dval nodes i > 10
     ·right
      rw [if_pos (by simpa using hd10)]
      refine ⟨.inr ([],false),rfl,?_⟩
      have:okU nodes (m + 1)=false:=by
       rw [Bool.eq_false_iff]
       intro h
       have:=(pG h (show i < m + 1 by omega)).2
       omega
      rw [this];rfl
     ·left
      rw [if_neg (by simpa using hd10),app1 (by rw [eK];omega) (by omega)]
      refine ⟨(gM nodes (i + 1),((i + 1:Nat):Int)),?_,⟨i + 1,rfl,by omega,rfl,?_⟩,by simp only [Int.toNat_natCast];omega⟩
      ·simp only [Option.bind_some,aO hil hn]
       rfl
      ·simp only [okU,hok,hnb,Bool.true_and,decide_eq_true_eq]
       show dval nodes i ≤ 10
       omega
   ·right
    have:i=m + 1:=by omega
    subst this
    have hd:decide (((m + 1:Nat):Int) ≤ (m:Int))=false:=by simp only [decide_eq_false_iff_not];omega
    refine ⟨.inl (gM nodes (m + 1)),by simp only [eW,hd,Bool.false_eq_true,if_false],?_⟩
    rw [hok];rfl) ([],0) ⟨0,rfl,by omega,rfl,rfl⟩
  rw [h1,h2]
  by_cases hok:okU nodes (m + 1)=true
  ·rw [if_pos hok,if_pos (show 0 ≤ (m:Int)∧(m:Int) < nodes.length∧okU nodes (m + 1)=true from ⟨by omega,by omega,hok⟩)];rfl
  ·rw [if_neg hok,if_neg (show ¬ (0 ≤ (m:Int)∧(m:Int) < nodes.length∧okU nodes (m + 1)=true) from fun h=>hok h.2.2)];rfl
 ·have hi':=inB_false.1 (Bool.eq_false_iff.2 hi)
  simp only [Bool.eq_false_iff.2 hi,Bool.not_false,if_true]
  rw [if_neg (show ¬ (0 ≤ k∧k < nodes.length∧okU nodes (k.toNat + 1)=true) from fun h=>hi' ⟨h.1,by omega⟩)]
def deepB (nodes:List GNode) (k:Int):Int:=if 0 ≤ k∧k < nodes.length∧okU nodes (k.toNat + 1)=true then dval nodes k.toNat else 0
theorem pI (nodes:List GNode) (hn:nodes.length ≤ 1048576) (k:Int):iL nodes k=some (deepB nodes k):=by
 unfold iL deepB
 rw [impl_depths_eq nodes hn]
 by_cases h:0 ≤ k∧k < nodes.length∧okU nodes (k.toNat + 1)=true
 ·rw [if_pos h,if_pos h]
  have hlt:k.toNat < (gM nodes (k.toNat + 1)).length:=by rw [eK];omega
  simp only [Option.bind_some,Bool.not_true,Bool.false_eq_true,if_false]
  rw [eJ h.1 (by rw [eK];omega)]
  have:=jI nodes (k.toNat + 1) k.toNat (by omega)
  rw [List.getElem?_eq_getElem hlt] at this
  simp only [Option.bind_some]
  exact this
 ·rw [if_neg h,if_neg h];rfl
def iI (nodes:List GNode) (n:Nat):List Int:=(List.range n).map fun j=>if okU nodes (j + 1)=true then dval nodes j else 0
theorem sdeeps_len (nodes:List GNode) (n:Nat):(iI nodes n).length=n:=by simp [iI]
theorem oL (nodes:List GNode) {n j:Nat} (h:j < n):(iI nodes n)[j]? = some (if okU nodes (j + 1)=true then dval nodes j else 0):=by
 unfold iI
 rw [List.getElem?_map,List.getElem?_range h];rfl
theorem sdeeps_ok {nodes:List GNode} {n:Nat} (h:okU nodes n=true):iI nodes n=gM nodes n:=by
 apply List.ext_getElem?
 intro j
 by_cases hj:j < n
 ·rw [oL nodes hj,jI nodes n j hj,if_pos (okU_mono (by omega) h)]
 ·rw [List.getElem?_eq_none (by rw [sdeeps_len];omega),List.getElem?_eq_none (by rw [eK];omega)]
theorem spec_dloop (nodes:List GNode) (k:Nat) (hk:k < nodes.length) (hok:okU nodes k=true) (hn:kX nodes k=true):aG (bA nodes (gM nodes k) k) (1,0)=some (dval nodes k):=by
 have hx:nodes[k]? = some nodes[k]:=List.getElem?_eq_getElem hk
 generalize hgx:nodes[k]=x at *
 have hkl:=lD hn hx
 have hkb:=lX hn hx
 have hg:∀ kid ∈ x.Kids,(gM nodes k).getD kid.toNat 0=dval nodes kid.toNat:=fun kid hm=>by
  have:=hkb kid hm
  rw [List.getD_eq_getElem?_getD,jI nodes k kid.toNat (by omega)];rfl
 have hgk:getI nodes (k:Int)=some x:=by rw [aD hk,hgx]
 have:=fJ x.Kids (fun (d:Int) j=>(d,(j:Int))) (fun j d=>0 < d) (fun d kid=>.inl (mx d ((gM nodes k).getD kid.toNat 0 + 1))) id (bA nodes (gM nodes k) k) (fun d j hj hpos=>by
  left
  have hm:=List.getElem_mem hj
  have hb:=hkb _ hm
  have hd:=pG hok (show x.Kids[j].toNat < k by omega)
  have hp:=oT nodes x.Kids[j].toNat
  refine ⟨_,rfl,?_,by unfold mx;split<;>omega⟩
  have hlt:x.Kids[j].toNat < (gM nodes k).length:=by rw [eK];omega
  have hge:(gM nodes k)[x.Kids[j].toNat]=dval nodes x.Kids[j].toNat:=by
   have:=jI nodes k x.Kids[j].toNat (by omega)
   rw [List.getElem?_eq_getElem hlt] at this
   exact Option.some.inj this
  have hp0:decide (d > 0)=true:=by simpa using hpos
  have hgi:getI (gM nodes k) x.Kids[j]=some (dval nodes x.Kids[j].toNat):=by rw [eJ hb.1 (by rw [eK];omega),hge]
  simp only [bA,hp0,if_true,hgk,Option.bind_some,aB hj,aD hj,hgi,w64 (n:=dval nodes x.Kids[j].toNat + 1) (by omega) (by omega),aO hj (by omega),hg _ hm]
  unfold mx
  by_cases hgt:dval nodes x.Kids[j].toNat + 1 > d
  ·rw [if_pos (by simpa using hgt),if_pos hgt]
  ·rw [if_neg (by simpa using hgt),if_neg hgt]) (fun d hd=>by
  have hp0:decide (d > 0)=true:=by simpa using hd
  simp [bA,hp0,hgk]) 1 (by omega)
 rw [gF] at this
 unfold dval dstep
 rw [hx]
 exact this
theorem pZ (nodes:List GNode) (hn:nodes.length ≤ 1048576) (k:Nat) (hk:k < nodes.length):fG nodes k=some (iI nodes (k + 1)):=by
 unfold fG
 obtain ⟨r,h1,h2⟩:=bC (f:=cZ nodes k) (fun s:List Int × Int=>∃ i:Nat,s.2=i∧i ≤ k + 1∧s.1=iI nodes i) (fun s=>k + 1 - s.2.toNat) (fun r=>r=iI nodes (k + 1)) (by
  rintro ⟨out,i⟩ ⟨i,rfl,hle,ho⟩
  simp only at ho hle
  subst ho
  by_cases hlt:i ≤ k
  ·left
   have hd:decide ((i:Int) ≤ (k:Int))=true:=by simp only [decide_eq_true_eq];omega
   have hil:i < nodes.length:=by omega
   have hd2:decide ((i:Int) < (nodes.length:Int))=true:=by simp only [decide_eq_true_eq];omega
   have h0:decide ((0:Int) ≤ (i:Int))=true:=by simp
   refine ⟨(iI nodes (i + 1),((i + 1:Nat):Int)),?_,⟨i + 1,rfl,by omega,rfl⟩,by simp only [Int.toNat_natCast];omega⟩
   simp only [cZ,hd,hd2,if_true,spec_NodeOk_eq nodes hn,Option.bind_some,Int.toNat_natCast,h0,Bool.true_and]
   -- is it right so far?
   have hflag:(if (!(kX nodes i))=true then some true else if (decide ((i:Int) > 0))=true then (getI (iI nodes i) (IntKind.wrap .i64 ((i:Int) - 1))).bind fun e32=>some (e32 == 0) else some false)=some (!(kX nodes i && okU nodes i)):=by
    cases hnb:kX nodes i with
    | false=>rfl
    | true =>
     simp only [Bool.not_true,Bool.false_eq_true,if_false,Bool.true_and]
     by_cases hz:i=0
     ·subst hz;rfl
     ·have hp:decide ((i:Int) > 0)=true:=by simp only [decide_eq_true_eq];omega
      have hw:IntKind.wrap .i64 ((i:Int) - 1)=((i - 1:Nat):Int):=by rw [w64 (by omega) (by omega)];omega
      rw [if_pos hp,hw,getI_nat,oL nodes (show i - 1 < i by omega),show i - 1 + 1=i by omega]
      simp only [Option.bind_some]
      cases hok:okU nodes i with
      | true =>
       have:=oT nodes (i - 1)
       have hne:¬ dval nodes (i - 1)=0:=by omega
       simp [hne]
      | false=>simp
   rw [hflag]
   simp only [Option.bind_some]
   have hfin:(Option.bind (if (!(kX nodes i && okU nodes i))=true then some 0 else some (1:Int)) fun deep36=>Option.bind (aG (bA nodes (iI nodes i) i) (deep36,0)) fun deep62=>Option.bind (if (decide (deep62 > 10))=true then some 0 else some deep62) fun deep68=>(appI 8 (iI nodes i) [deep68]).bind fun l69=>some l69)=some (iI nodes (i + 1)):=by
    have hsucc:iI nodes (i + 1)=iI nodes i ++ [if okU nodes (i + 1)=true then dval nodes i else 0]:=by
     unfold iI;rw [List.range_succ,List.map_append];rfl
    have happ:∀ z:Int,appI 8 (iI nodes i) [z]=some (iI nodes i ++ [z]):=fun z=>app1 (by rw [sdeeps_len];omega) (by omega)
    cases hb:(kX nodes i && okU nodes i) with
    | true =>
     simp only [Bool.and_eq_true] at hb
     simp only [Bool.not_true,Bool.false_eq_true,if_false,Option.bind_some]
     rw [sdeeps_ok hb.2,spec_dloop nodes i hil hb.2 hb.1,← sdeeps_ok hb.2]
     simp only [Option.bind_some]
     rw [hsucc]
     by_cases hd10:dval nodes i > 10
     ·have hf:okU nodes (i + 1)=false:=by
       rw [Bool.eq_false_iff]
       intro h
       have:=(pG h (Nat.lt_succ_self i)).2
       omega
      rw [if_pos (by simpa using hd10),hf]
      simp only [Option.bind_some,happ,Bool.false_eq_true,if_false]
     ·have hf:okU nodes (i + 1)=true:=by
       simp only [okU,hb.1,hb.2,Bool.true_and,decide_eq_true_eq]
       show dval nodes i ≤ 10
       omega
      rw [if_neg (by simpa using hd10),hf]
      simp only [Option.bind_some,happ,if_true]
    | false =>
     have hf:okU nodes (i + 1)=false:=by
      rw [Bool.eq_false_iff]
      intro h
      simp only [okU,Bool.and_eq_true] at h
      rw [h.1,h.2.1] at hb
      cases hb
     simp only [Bool.not_false,if_true,Option.bind_some]
     rw [fZ (r:=(0:Int)) (by simp [bA])]
     simp only [Option.bind_some]
     rw [hsucc,hf]
     simp [happ]
   have:=congrArg (fun z=>Option.bind z fun out70:List Int=>(some (Sum.inl (out70,IntKind.wrap .i64 ((i:Int) + 1))):Option ((List Int × Int) ⊕ List Int))) hfin
   simp only [Option.bind_some,aO hil hn] at this
   rw [aO hil hn]
   exact this
  ·right
   have:i=k + 1:=by omega
   subst this
   have hd:decide (((k + 1:Nat):Int) ≤ (k:Int))=false:=by simp only [decide_eq_false_iff_not];omega
   exact ⟨_,by simp only [cZ,hd,Bool.false_eq_true,if_false,Option.bind_some],rfl⟩) ([],0) ⟨0,rfl,by omega,rfl⟩
 rw [h1,h2]
 rfl
theorem spec_DeepOf_eq (nodes:List GNode) (hn:nodes.length ≤ 1048576) (k:Int):kG nodes k=some (deepB nodes k):=by
 unfold kG deepB
 simp only [cI,Option.bind_some,dQ hn]
 by_cases hi:inB k 0 ((nodes.length:Int) - 1)=true
 ·have hi':=inB_iff.1 hi
  have hkk:k=((k.toNat:Nat):Int):=by omega
  have hk:k.toNat < nodes.length:=by omega
  generalize k.toNat=m at *
  subst hkk
  simp only [hi,Bool.not_true,Bool.false_eq_true,if_false]
  rw [pZ nodes hn m hk]
  simp only [Option.bind_some,getI_nat]
  rw [oL nodes (Nat.lt_succ_self m)]
  by_cases hok:okU nodes (m + 1)=true
  ·rw [if_pos hok,if_pos (show 0 ≤ (m:Int)∧(m:Int) < nodes.length∧okU nodes (m + 1)=true from ⟨by omega,by omega,hok⟩)];rfl
  ·rw [if_neg hok,if_neg (show ¬ (0 ≤ (m:Int)∧(m:Int) < nodes.length∧okU nodes (m + 1)=true) from fun h=>hok h.2.2)];rfl
 ·have hi':=inB_false.1 (Bool.eq_false_iff.2 hi)
  simp only [Bool.eq_false_iff.2 hi,Bool.not_false,if_true]
  rw [if_neg (show ¬ (0 ≤ k∧k < nodes.length∧okU nodes (k.toNat + 1)=true) from fun h=>hi' ⟨h.1,by omega⟩)]
end Go.OM
namespace Go.OM
theorem recFuel_eq:dN=1048576:=rfl
theorem deepB_zero {nodes:List GNode} {k:Int} (h:deepB nodes k ≠ 0):0 ≤ k∧k < nodes.length∧okU nodes (k.toNat + 1)=true:=by
 unfold deepB at h
 split at h
 ·assumption
 ·exact absurd rfl h
end Go.OM
