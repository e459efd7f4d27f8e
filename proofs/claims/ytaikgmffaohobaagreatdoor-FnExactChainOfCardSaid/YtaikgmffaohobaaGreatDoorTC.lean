import Derived.Test.YtaikgmffaohobaaGreatDoorTB
import Derived.KernelRfl
set_option linter.unusedVariables false
set_option linter.unusedSimpArgs false
set_option linter.unusedVariables false
set_option linter.unusedSimpArgs false
set_option maxHeartbeats 8000000
namespace Go.Proofs.T
open Go.OM
theorem res28:Tryz.f28.results.toList=[.tmp 2]:=rfl
theorem ent28:aF E.P 28:=eO Tryz.func28 (by simp [Tryz.f28]) rfl
theorem impl_ProgramOk_ok (p1:GProgram) {r0:Bool} (h:fX p1=some r0):Ok E 28 [.val (GProgram.enc false p1)] [vb r0] []:=by
 refine oB (fn:=Tryz.f28) Tryz.func28 rfl (by simp [Tryz.f28]) fun C hN hP=>?_
 have hPB:∀ l,pinK [] l=true→pinB C.pin l=true:=pO (by rw [hP];rfl)
 have hN':C.N=115:=hN
 clear hN
 unfold fX at h
 refine SWp.sR rfl (hPB _ rfl) fun K hK=>?_
 iterate 2 (refine wC rfl fun K hK=>?_;simp [hN'];refine hK _ ?_;clear hK)
 refine wN (hK _ ?_);clear hK
 refine SWp.sR rfl (hPB _ rfl) fun K hK=>?_
 iterate 4 (refine wC rfl fun K hK=>?_;simp [hN'];refine hK _ ?_;clear hK)
 refine wN (hK _ ?_);clear hK
 refine SWp.seq ?_
 obtain ⟨v14,hj2,h⟩:=bS h
 refine SWp.seqRC rfl (hPB _ rfl) [1,3,35] [1] (fun _:Unit=>⟨[(1,.ref (.box 1) 0 []),(3,.t (vi (p1.Nodes.length:Int))),(35,.t (vb v14))],[(1,[.sl false 4 (List.map (GNode.enc false) p1.Nodes),.sl false 5 (List.map (GFn.enc false) p1.Fns)])]⟩) (fun _=>True) (fun _ _=>?_) fun K3 hK3=>?_
 rotate_left
 ·refine wC rfl fun K hK=>?_;simp [hN'];refine hK _ ?_;clear hK
  obtain ⟨r4,hc5,hj2⟩:=bS hj2
  refine wL [(.take,.tmp 18),(.take,.const (.int .i64 1)),(.take,.const (.int .i64 300))] rfl rfl kO (aQ _ _ _ hc5) fun K hK=>?_;simp [hN'];refine hK _ ?_;clear hK
  iterate 2 (refine wC rfl fun K hK=>?_;simp [hN'];refine hK _ ?_;clear hK)
  rcases aA hj2 with ⟨hb6,hj2⟩ | ⟨hb7,hj2⟩
  ·have hb6s:=hb6
   try simp at hb6s
   iterate 5 (refine wO fun K hK=>?_;simp [hN',hb6,hb6s];refine hK _ ?_;clear hK)
   iterate 2 (refine wC rfl fun K hK=>?_;simp [hN',hb6,hb6s];refine hK _ ?_;clear hK)
   iterate 6 (refine wO fun K hK=>?_;simp [hN',hb6,hb6s];refine hK _ ?_;clear hK)
   refine wC rfl fun K hK=>?_;simp [hN',hb6,hb6s];refine hK _ ?_;clear hK
   refine wN ?_
   cases hj2
   exact hK3 _ () [] trivial (by simp [hN',hb6,hb6s])
  ·have hb7s:=hb7
   try simp at hb7s
   iterate 3 (refine wC rfl fun K hK=>?_;simp [hN',hb7,hb7s];refine hK _ ?_;clear hK)
   obtain ⟨r8,hc9,hj2⟩:=bS hj2
   refine wL [(.take,.tmp 24),(.take,.const (.int .i64 1)),(.take,.const (.int .i64 8))] rfl rfl kO (aQ _ _ _ hc9) fun K hK=>?_;simp [hN',hb7,hb7s];refine hK _ ?_;clear hK
   iterate 3 (refine wC rfl fun K hK=>?_;simp [hN',hb7,hb7s];refine hK _ ?_;clear hK)
   rcases aA hj2 with ⟨hb10,hj2⟩ | ⟨hb11,hj2⟩
   ·have hb10s:=hb10
    try simp at hb10s
    iterate 6 (refine wO fun K hK=>?_;simp [hN',hb7,hb7s,hb10,hb10s];refine hK _ ?_;clear hK)
    refine wC rfl fun K hK=>?_;simp [hN',hb7,hb7s,hb10,hb10s];refine hK _ ?_;clear hK
    refine wN ?_
    cases hj2
    exact hK3 _ () [] trivial (by simp [hN',hb7,hb7s,hb10,hb10s])
   ·have hb11s:=hb11
    try simp at hb11s
    iterate 4 (refine wC rfl fun K hK=>?_;simp [hN',hb7,hb7s,hb11,hb11s];refine hK _ ?_;clear hK)
    obtain ⟨r12,hc13,hj2⟩:=bS hj2
    refine wL [(.take,.tmp 30),(.take,.tmp 32)] rfl rfl ent60 (pK _ _ hc13) fun K hK=>?_;simp [hN',hb7,hb7s,hb11,hb11s];refine hK _ ?_;clear hK
    iterate 2 (refine wC rfl fun K hK=>?_;simp [hN',hb7,hb7s,hb11,hb11s];refine hK _ ?_;clear hK)
    refine wN ?_
    cases hj2
    exact hK3 _ () [] trivial (by simp [hN',hb7,hb7s,hb11,hb11s])
 rcases aA h with ⟨hb15,h⟩ | ⟨hb16,h⟩
 ·refine SWp.cT' (b:=v14) (by simp) hb15 ?_
  refine SWp.sR rfl (hPB _ rfl) fun K hK=>?_
  refine wC rfl fun K hK=>?_;simp [hN'];refine hK _ ?_;clear hK
  refine wN (hK _ ?_);clear hK
  cases h
  refine SWp.ret ?_
  simp [aC,iB,res28]
 ·refine SWp.cF' (b:=v14) (by simp) hb16 ?_
  refine SWp.skip ?_
  show SWp E C _ _ _
  refine SWp.sR rfl (hPB _ rfl) fun K hK=>?_
  refine wC rfl fun K hK=>?_;simp [hN'];refine hK _ ?_;clear hK
  obtain ⟨l17,hl17,h⟩:=bS h
  obtain ⟨hl17a,hl17b,hl17c,hl17d⟩:=mS hl17
  have hl17f:List.replicate (p1.Nodes.length:Int).toNat (vi 0)=List.map vi l17:=nN (f:=vi) hl17d
  try simp only [Int.toNat_natCast] at hl17f
  iterate 2 (refine wC rfl fun K hK=>?_;simp [hN',hl17a,hl17b,hl17c,hl17f];refine hK _ ?_;clear hK)
  refine wN (hK _ ?_);clear hK
  obtain ⟨met45,hj18,h⟩:=bS h
  refine SWp.seqC [1,4] [1] (fun _:Unit=>⟨[(1,.ref (.box 1) 0 []),(4,.t (.sl true 1 (List.map vi met45)))],[(1,[.sl false 4 (List.map (GNode.enc false) p1.Nodes),.sl false 5 (List.map (GFn.enc false) p1.Fns)])]⟩) (fun _=>True) (fun _ _=>?_) fun K19 hK19=>?_
  rotate_left
  ·refine SWp.sR rfl (hPB _ rfl) fun K hK=>?_
   iterate 4 (refine wC rfl fun K hK=>?_;simp [hN'];refine hK _ ?_;clear hK)
   refine wN (hK _ ?_);clear hK
   refine SWp.block ?_
   refine SWp.loopO [] [1,4,39,40,41] [1] (fun v:(List Int) × Int=>⟨[(1,.ref (.box 1) 0 []),(4,.t (.sl true 1 (List.map vi v.1))),(39,.t (.sl false 4 (List.map (GNode.enc false) p1.Nodes))),(40,.t (vi (p1.Nodes.length:Int))),(41,.t (vi v.2))],[(1,[.sl false 4 (List.map (GNode.enc false) p1.Nodes),.sl false 5 (List.map (GFn.enc false) p1.Fns)])]⟩) (cH p1) _ (l17,0) hj18 (by simp [hN']) ?_
   intro g s25 h23 ho24
   obtain ⟨met21,v22⟩:=g
   simp only [cH] at h23
   try dsimp only
   refine SWp.sR rfl (hPB _ rfl) fun K hK=>?_
   refine wC rfl fun K hK=>?_;simp [hN'];refine hK _ ?_;clear hK
   refine wN (hK _ ?_);clear hK
   refine SWp.seq ?_
   rcases aA h23 with ⟨hb26,h23⟩ | ⟨hb27,h23⟩
   ·refine SWp.cT' (b:=decide (v22 < (p1.Nodes.length:Int))) (by simp) hb26 ?_
    refine SWp.skip ?_
    show SWp E C _ _ _
    obtain ⟨met43,hj28,h23⟩:=bS h23
    refine SWp.seqC [1,4,39,40,41] [1] (fun _:Unit=>⟨[(1,.ref (.box 1) 0 []),(4,.t (.sl true 1 (List.map vi met43))),(39,.t (.sl false 4 (List.map (GNode.enc false) p1.Nodes))),(40,.t (vi (p1.Nodes.length:Int))),(41,.t (vi v22))],[(1,[.sl false 4 (List.map (GNode.enc false) p1.Nodes),.sl false 5 (List.map (GFn.enc false) p1.Fns)])]⟩) (fun _=>True) (fun _ _=>?_) fun K29 hK29=>?_
    rotate_left
    ·refine SWp.block ?_
     refine SWp.sR rfl (hPB _ rfl) fun K hK=>?_
     obtain ⟨e31,he31,hj28⟩:=bS hj28
     obtain ⟨he31a,he31b,he31c,he31d⟩:=gS he31
     iterate 4 (refine wC rfl fun K hK=>?_;simp [hN',he31a,he31b,he31c,he31d];refine hK _ ?_;clear hK)
     refine wN (hK _ ?_);clear hK
     refine SWp.sR rfl (hPB _ rfl) fun K hK=>?_
     iterate 4 (refine wC rfl fun K hK=>?_;simp [hN'];refine hK _ ?_;clear hK)
     refine wN (hK _ ?_);clear hK
     refine SWp.block ?_
     refine SWp.loopO [] [1,4,39,40,41,46,47,48] [1] (fun v:(List Int) × Int=>⟨[(1,.ref (.box 1) 0 []),(4,.t (.sl true 1 (List.map vi v.1))),(39,.t (.sl false 4 (List.map (GNode.enc false) p1.Nodes))),(40,.t (vi (p1.Nodes.length:Int))),(41,.t (vi v22)),(46,.t (.sl false 1 (List.map vi e31.Kids))),(47,.t (vi (e31.Kids.length:Int))),(48,.t (vi v.2))],[(1,[.sl false 4 (List.map (GNode.enc false) p1.Nodes),.sl false 5 (List.map (GFn.enc false) p1.Fns)])]⟩) (cG e31) _ (met21,0) hj28 (by simp [hN']) ?_
     intro g s36 h34 ho35
     obtain ⟨met32,v33⟩:=g
     simp only [cG] at h34
     try dsimp only
     refine SWp.sR rfl (hPB _ rfl) fun K hK=>?_
     refine wC rfl fun K hK=>?_;simp [hN'];refine hK _ ?_;clear hK
     refine wN (hK _ ?_);clear hK
     refine SWp.seq ?_
     rcases aA h34 with ⟨hb37,h34⟩ | ⟨hb38,h34⟩
     ·refine SWp.cT' (b:=decide (v33 < (e31.Kids.length:Int))) (by simp) hb37 ?_
      refine SWp.skip ?_
      show SWp E C _ _ _
      refine SWp.seq ?_
      refine SWp.block ?_
      refine SWp.sR rfl (hPB _ rfl) fun K hK=>?_
      obtain ⟨e39,he39,h34⟩:=bS h34
      obtain ⟨he39a,he39b,he39c,he39d⟩:=gS he39
      iterate 3 (refine wC rfl fun K hK=>?_;simp [hN',he39a,he39b,he39c,he39d];refine hK _ ?_;clear hK)
      refine wN (hK _ ?_);clear hK
      refine SWp.reg rfl (hPB _ rfl) fun K hK=>?_
      iterate 2 (refine wC rfl fun K hK=>?_;simp [hN'];refine hK _ ?_;clear hK)
      obtain ⟨e40,he40,h34⟩:=bS h34
      obtain ⟨he40a,he40b,he40c,he40d⟩:=gS he40
      iterate 4 (refine wC rfl fun K hK=>?_;simp [hN',he40a,he40b,he40c,he40d];refine hK _ ?_;clear hK)
      obtain ⟨l41,hl41,h34⟩:=bZ h34
      have hl41f:(List.map vi met32).set e39.toNat (vi (IntKind.wrap .i64 (e40 + 1)))=List.map vi l41:=jH (f:=vi) hl41
      try simp only [Int.toNat_natCast] at hl41f
      refine wC rfl fun K hK=>?_;simp [hN',he40a,he40b,he40c,he40d,hl41f];refine hK _ ?_;clear hK
      refine wN (hK _ ?_);clear hK
      show SWp E C _ _ _
      refine SWp.reg rfl (hPB _ rfl) fun K hK=>?_
      iterate 2 (refine wC rfl fun K hK=>?_;simp [hN'];refine hK _ ?_;clear hK)
      refine wN (hK _ ?_);clear hK
      cases h34
      exact ⟨_,[],rfl,by simp [hN']⟩
     ·refine SWp.cF' (b:=decide (v33 < (e31.Kids.length:Int))) (by simp) hb38 ?_
      refine SWp.exit ?_
      have h42:=congrArg some (ho35 _ (Option.some.inj h34).symm)
      cases h42
      exact hK29 _ () [] trivial (by simp [hN'])
    refine SWp.reg rfl (hPB _ rfl) fun K hK=>?_
    iterate 2 (refine wC rfl fun K hK=>?_;simp [hN'];refine hK _ ?_;clear hK)
    refine wN (hK _ ?_);clear hK
    cases h23
    exact ⟨_,[],rfl,by simp [hN']⟩
   ·refine SWp.cF' (b:=decide (v22 < (p1.Nodes.length:Int))) (by simp) hb27 ?_
    refine SWp.exit ?_
    have h44:=congrArg some (ho24 _ (Option.some.inj h23).symm)
    cases h44
    exact hK19 _ () [] trivial (by simp [hN'])
  obtain ⟨j48,hj46,h⟩:=bS h
  refine SWp.seqC [4] [] (fun v:List Int=>⟨[(4,.t (.sl true 1 (List.map vi v)))],[]⟩) (fun v=>j48=Sum.inl v) (fun v hv=>?_) fun K47 hK47=>?_
  rotate_left
  ·refine SWp.sR rfl (hPB _ rfl) fun K hK=>?_
   iterate 4 (refine wC rfl fun K hK=>?_;simp [hN'];refine hK _ ?_;clear hK)
   refine wN (hK _ ?_);clear hK
   refine SWp.block ?_
   refine SWp.loopO [] [1,4,61,62,63] [1] (fun v:(List Int) × Int=>⟨[(1,.ref (.box 1) 0 []),(4,.t (.sl true 1 (List.map vi v.1))),(61,.t (.sl false 5 (List.map (GFn.enc false) p1.Fns))),(62,.t (vi (p1.Fns.length:Int))),(63,.t (vi v.2))],[(1,[.sl false 4 (List.map (GNode.enc false) p1.Nodes),.sl false 5 (List.map (GFn.enc false) p1.Fns)])]⟩) (bK p1) _ (met45,0) hj46 (by simp [hN']) ?_
   intro g s53 h51 ho52
   obtain ⟨met49,v50⟩:=g
   simp only [bK] at h51
   try dsimp only
   refine SWp.sR rfl (hPB _ rfl) fun K hK=>?_
   refine wC rfl fun K hK=>?_;simp [hN'];refine hK _ ?_;clear hK
   refine wN (hK _ ?_);clear hK
   refine SWp.seq ?_
   rcases aA h51 with ⟨hb54,h51⟩ | ⟨hb55,h51⟩
   ·refine SWp.cT' (b:=decide (v50 < (p1.Fns.length:Int))) (by simp) hb54 ?_
    refine SWp.skip ?_
    show SWp E C _ _ _
    obtain ⟨j58,hj56,h51⟩:=bS h51
    refine SWp.seqC [1,4,61,62,63] [1] (fun v:List Int=>⟨[(1,.ref (.box 1) 0 []),(4,.t (.sl true 1 (List.map vi v))),(61,.t (.sl false 5 (List.map (GFn.enc false) p1.Fns))),(62,.t (vi (p1.Fns.length:Int))),(63,.t (vi v50))],[(1,[.sl false 4 (List.map (GNode.enc false) p1.Nodes),.sl false 5 (List.map (GFn.enc false) p1.Fns)])]⟩) (fun v=>j58=Sum.inl v) (fun v hv=>?_) fun K57 hK57=>?_
    rotate_left
    ·refine SWp.block ?_
     refine SWp.sR rfl (hPB _ rfl) fun K hK=>?_
     refine wC rfl fun K hK=>?_;simp [hN'];refine hK _ ?_;clear hK
     obtain ⟨e59,he59,hj56⟩:=bS hj56
     obtain ⟨he59a,he59b,he59c,he59d⟩:=gS he59
     iterate 5 (refine wC rfl fun K hK=>?_;simp [hN',he59a,he59b,he59c,he59d];refine hK _ ?_;clear hK)
     refine wN (hK _ ?_);clear hK
     refine SWp.seq ?_
     obtain ⟨v68,hj60,hj56⟩:=bS hj56
     refine SWp.seqRC rfl (hPB _ rfl) [1,4,10,61,62,63,79] [1,10] (fun _:Unit=>⟨[(1,.ref (.box 1) 0 []),(4,.t (.sl true 1 (List.map vi met49))),(10,.ref (.box 10) 0 []),(61,.t (.sl false 5 (List.map (GFn.enc false) p1.Fns))),(62,.t (vi (p1.Fns.length:Int))),(63,.t (vi v50)),(79,.t (vb v68))],[(1,[.sl false 4 (List.map (GNode.enc false) p1.Nodes),.sl false 5 (List.map (GFn.enc false) p1.Fns)]),(10,[vs e59.Name,.sl false 2 (List.map GParam.enc e59.Params),vi e59.Res,vi e59.Body,vi e59.Ret])]⟩) (fun _=>True) (fun _ _=>?_) fun K61 hK61=>?_
     rotate_left
     ·refine wC rfl fun K hK=>?_;simp [hN'];refine hK _ ?_;clear hK
      refine wC rfl fun K hK=>?_;simp [hN'];refine hK _ ?_;clear hK
      obtain ⟨r62,hc63,hj60⟩:=bS hj60
      refine wL [(.take,.tmp 68),(.take,.tmp 69)] rfl rfl ent61 (impl_fnOk_ok _ _ hc63) fun K hK=>?_;simp [hN'];refine hK _ ?_;clear hK
      iterate 2 (refine wC rfl fun K hK=>?_;simp [hN'];refine hK _ ?_;clear hK)
      rcases aA hj60 with ⟨hb64,hj60⟩ | ⟨hb65,hj60⟩
      ·have hb64s:=hb64
       try simp at hb64s
       iterate 6 (refine wO fun K hK=>?_;simp [hN',hb64,hb64s];refine hK _ ?_;clear hK)
       refine wC rfl fun K hK=>?_;simp [hN',hb64,hb64s];refine hK _ ?_;clear hK
       refine wN ?_
       cases hj60
       exact hK61 _ () [] trivial (by simp [hN',hb64,hb64s])
      ·have hb65s:=hb65
       try simp at hb65s
       iterate 3 (refine wC rfl fun K hK=>?_;simp [hN',hb65,hb65s];refine hK _ ?_;clear hK)
       obtain ⟨r66,hc67,hj60⟩:=bS hj60
       refine wL [(.take,.tmp 73),(.take,.tmp 75)] rfl rfl ent62 (oG _ _ hc67) fun K hK=>?_;simp [hN',hb65,hb65s];refine hK _ ?_;clear hK
       iterate 3 (refine wC rfl fun K hK=>?_;simp [hN',hb65,hb65s];refine hK _ ?_;clear hK)
       refine wN ?_
       cases hj60
       exact hK61 _ () [] trivial (by simp [hN',hb65,hb65s])
     rcases aA hj56 with ⟨hb69,hj56⟩ | ⟨hb70,hj56⟩
     ·refine SWp.cT' (b:=v68) (by simp) hb69 ?_
      refine SWp.sR rfl (hPB _ rfl) fun K hK=>?_
      refine wC rfl fun K hK=>?_;simp [hN'];refine hK _ ?_;clear hK
      refine wN (hK _ ?_);clear hK
      cases hj56
      try dsimp only at h51
      have h71:=congrArg some (ho52 _ (Option.some.inj h51).symm)
      cases h71
      try dsimp only at h
      cases h
      refine SWp.ret ?_
      simp [aC,iB,res28]
     ·refine SWp.cF' (b:=v68) (by simp) hb70 ?_
      refine SWp.skip ?_
      show SWp E C _ _ _
      refine SWp.sR rfl (hPB _ rfl) fun K hK=>?_
      iterate 7 (refine wC rfl fun K hK=>?_;simp [hN'];refine hK _ ?_;clear hK)
      refine wN (hK _ ?_);clear hK
      refine SWp.block ?_
      refine SWp.loopO [] [1,4,61,62,63,84,85,86] [1] (fun v:(List Int) × Int=>⟨[(1,.ref (.box 1) 0 []),(4,.t (.sl true 1 (List.map vi v.1))),(61,.t (.sl false 5 (List.map (GFn.enc false) p1.Fns))),(62,.t (vi (p1.Fns.length:Int))),(63,.t (vi v50)),(84,.t (.sl true 1 (List.map vi [e59.Body,e59.Ret]))),(85,.t (vi ([e59.Body,e59.Ret].length:Int))),(86,.t (vi v.2))],[(1,[.sl false 4 (List.map (GNode.enc false) p1.Nodes),.sl false 5 (List.map (GFn.enc false) p1.Fns)])]⟩) (aH e59) _ (met49,0) hj56 (by simp [hN']) ?_
      intro g s76 h74 ho75
      obtain ⟨met72,v73⟩:=g
      simp only [aH] at h74
      try dsimp only
      refine SWp.sR rfl (hPB _ rfl) fun K hK=>?_
      refine wC rfl fun K hK=>?_;simp [hN'];refine hK _ ?_;clear hK
      refine wN (hK _ ?_);clear hK
      refine SWp.seq ?_
      rcases aA h74 with ⟨hb77,h74⟩ | ⟨hb78,h74⟩
      ·refine SWp.cT' (b:=decide (v73 < ([e59.Body,e59.Ret].length:Int))) (by simp) hb77 ?_
       refine SWp.skip ?_
       show SWp E C _ _ _
       refine SWp.seq ?_
       refine SWp.block ?_
       refine SWp.sR rfl (hPB _ rfl) fun K hK=>?_
       obtain ⟨e79,he79,h74⟩:=bS h74
       obtain ⟨he79a,he79b,he79c,he79d⟩:=gS he79
       have he79k:=he79b;try simp at he79k
       have he79l:(List.map vi [e59.Body,e59.Ret])[v73.toNat]? = some (vi e79):=by rw [List.getElem?_map,he79c];rfl
       try simp only [List.map_cons,List.map_nil] at he79l
       have he79m:=(List.getElem?_eq_some_iff.1 he79l).2
       iterate 3 (refine wC rfl fun K hK=>?_;simp [hN',he79a,he79b,he79c,he79d,he79k,he79l,he79m];refine hK _ ?_;clear hK)
       refine wN (hK _ ?_);clear hK
       refine SWp.seq ?_
       refine SWp.sR rfl (hPB _ rfl) fun K hK=>?_
       iterate 2 (refine wC rfl fun K hK=>?_;simp [hN'];refine hK _ ?_;clear hK)
       refine wN (hK _ ?_);clear hK
       rcases aA h74 with ⟨hb80,h74⟩ | ⟨hb81,h74⟩
       ·refine SWp.cT' (b:=decide (e79 < 0)) (by simp) hb80 ?_
        refine SWp.exit ?_
        show SWp E C _ _ _
        refine SWp.reg rfl (hPB _ rfl) fun K hK=>?_
        iterate 2 (refine wC rfl fun K hK=>?_;simp [hN'];refine hK _ ?_;clear hK)
        refine wN (hK _ ?_);clear hK
        cases h74
        exact ⟨_,[],rfl,by simp [hN']⟩
       ·refine SWp.cF' (b:=decide (e79 < 0)) (by simp) hb81 ?_
        refine SWp.skip ?_
        show SWp E C _ _ _
        refine SWp.seq ?_
        refine SWp.sR rfl (hPB _ rfl) fun K hK=>?_
        iterate 2 (refine wC rfl fun K hK=>?_;simp [hN'];refine hK _ ?_;clear hK)
        obtain ⟨e82,he82,h74⟩:=bS h74
        obtain ⟨he82a,he82b,he82c,he82d⟩:=gS he82
        iterate 3 (refine wC rfl fun K hK=>?_;simp [hN',he82a,he82b,he82c,he82d];refine hK _ ?_;clear hK)
        refine wN (hK _ ?_);clear hK
        rcases aA h74 with ⟨hb83,h74⟩ | ⟨hb84,h74⟩
        ·refine SWp.cT' (b:=e82 != 0) (by simp) hb83 ?_
         refine SWp.sR rfl (hPB _ rfl) fun K hK=>?_
         refine wC rfl fun K hK=>?_;simp [hN'];refine hK _ ?_;clear hK
         refine wN (hK _ ?_);clear hK
         have h85:=congrArg some (ho75 _ (Option.some.inj h74).symm)
         cases h85
         try dsimp only at h51
         have h86:=congrArg some (ho52 _ (Option.some.inj h51).symm)
         cases h86
         try dsimp only at h
         cases h
         refine SWp.ret ?_
         simp [aC,iB,res28]
        ·refine SWp.cF' (b:=e82 != 0) (by simp) hb84 ?_
         refine SWp.skip ?_
         show SWp E C _ _ _
         refine SWp.reg rfl (hPB _ rfl) fun K hK=>?_
         iterate 2 (refine wC rfl fun K hK=>?_;simp [hN'];refine hK _ ?_;clear hK)
         obtain ⟨e87,he87,h74⟩:=bS h74
         obtain ⟨he87a,he87b,he87c,he87d⟩:=gS he87
         refine wC rfl fun K hK=>?_;simp [hN',he87a,he87b,he87c,he87d];refine hK _ ?_;clear hK
         obtain ⟨l88,hl88,h74⟩:=bZ h74
         have hl88f:(List.map vi met72).set e79.toNat (vi (-1))=List.map vi l88:=jH (f:=vi) hl88
         try simp only [Int.toNat_natCast] at hl88f
         refine wC rfl fun K hK=>?_;simp [hN',he87a,he87b,he87c,he87d,hl88f];refine hK _ ?_;clear hK
         refine wN (hK _ ?_);clear hK
         show SWp E C _ _ _
         refine SWp.reg rfl (hPB _ rfl) fun K hK=>?_
         iterate 2 (refine wC rfl fun K hK=>?_;simp [hN'];refine hK _ ?_;clear hK)
         refine wN (hK _ ?_);clear hK
         cases h74
         exact ⟨_,[],rfl,by simp [hN']⟩
      ·refine SWp.cF' (b:=decide (v73 < ([e59.Body,e59.Ret].length:Int))) (by simp) hb78 ?_
       refine SWp.exit ?_
       have h89:=congrArg some (ho75 _ (Option.some.inj h74).symm)
       cases h89
       exact hK57 _ _ [] rfl (by simp [hN'])
    subst hv
    obtain ⟨met90,hv⟩:∃ y,y=v:=⟨_,rfl⟩
    subst hv
    try dsimp only at h51 ⊢
    refine SWp.reg rfl (hPB _ rfl) fun K hK=>?_
    iterate 2 (refine wC rfl fun K hK=>?_;simp [hN'];refine hK _ ?_;clear hK)
    refine wN (hK _ ?_);clear hK
    cases h51
    exact ⟨_,[],rfl,by simp [hN']⟩
   ·refine SWp.cF' (b:=decide (v50 < (p1.Fns.length:Int))) (by simp) hb55 ?_
    refine SWp.exit ?_
    have h91:=congrArg some (ho52 _ (Option.some.inj h51).symm)
    cases h91
    exact hK47 _ _ [] rfl (by simp [hN'])
  subst hv
  obtain ⟨met92,hv⟩:∃ y,y=v:=⟨_,rfl⟩
  subst hv
  try dsimp only at h ⊢
  obtain ⟨j95,hj93,h⟩:=bS h
  refine SWp.seqC [] [] (fun v:Unit=>⟨[],[]⟩) (fun v=>j95=Sum.inl v) (fun v hv=>?_) fun K94 hK94=>?_
  rotate_left
  ·refine SWp.sR rfl (hPB _ rfl) fun K hK=>?_
   iterate 3 (refine wC rfl fun K hK=>?_;simp [hN'];refine hK _ ?_;clear hK)
   refine wN (hK _ ?_);clear hK
   refine SWp.block ?_
   refine SWp.loopO [] [4,102,103,104] [] (fun v:Int=>⟨[(4,.t (.sl true 1 (List.map vi met92))),(102,.al (.slot 4) 0 [] none),(103,.t (vi (met92.length:Int))),(104,.t (vi v))],[]⟩) (cF met92) _ 0 hj93 (by simp [hN']) ?_
   intro g s99 h97 ho98
   obtain ⟨v96,hg⟩:∃ y,y=g:=⟨_,rfl⟩
   subst hg
   simp only [cF] at h97
   try dsimp only
   refine SWp.sR rfl (hPB _ rfl) fun K hK=>?_
   refine wC rfl fun K hK=>?_;simp [hN'];refine hK _ ?_;clear hK
   refine wN (hK _ ?_);clear hK
   refine SWp.seq ?_
   rcases aA h97 with ⟨hb100,h97⟩ | ⟨hb101,h97⟩
   ·refine SWp.cT' (b:=decide (v96 < (met92.length:Int))) (by simp) hb100 ?_
    refine SWp.skip ?_
    show SWp E C _ _ _
    refine SWp.seq ?_
    refine SWp.block ?_
    refine SWp.sR rfl (hPB _ rfl) fun K hK=>?_
    obtain ⟨e102,he102,h97⟩:=bS h97
    obtain ⟨he102a,he102b,he102c,he102d⟩:=gS he102
    iterate 3 (refine wC rfl fun K hK=>?_;simp [hN',he102a,he102b,he102c,he102d];refine hK _ ?_;clear hK)
    refine wN (hK _ ?_);clear hK
    obtain ⟨v107,hj103,h97⟩:=bS h97
    refine SWp.seqRC rfl (hPB _ rfl) [4,102,103,104,113] [] (fun _:Unit=>⟨[(4,.t (.sl true 1 (List.map vi met92))),(102,.al (.slot 4) 0 [] none),(103,.t (vi (met92.length:Int))),(104,.t (vi v96)),(113,.t (vb v107))],[]⟩) (fun _=>True) (fun _ _=>?_) fun K104 hK104=>?_
    rotate_left
    ·refine wC rfl fun K hK=>?_;simp [hN'];refine hK _ ?_;clear hK
     iterate 2 (refine wC rfl fun K hK=>?_;simp [hN'];refine hK _ ?_;clear hK)
     rcases aA hj103 with ⟨hb105,hj103⟩ | ⟨hb106,hj103⟩
     ·have hb105s:=hb105
      try simp at hb105s
      iterate 3 (refine wC rfl fun K hK=>?_;simp [hN',hb105,hb105s];refine hK _ ?_;clear hK)
      refine wN ?_
      cases hj103
      exact hK104 _ () [] trivial (by simp [hN',hb105,hb105s])
     ·have hb106s:=hb106
      try simp at hb106s
      iterate 2 (refine wO fun K hK=>?_;simp [hN',hb106,hb106s];refine hK _ ?_;clear hK)
      refine wC rfl fun K hK=>?_;simp [hN',hb106,hb106s];refine hK _ ?_;clear hK
      refine wN ?_
      cases hj103
      exact hK104 _ () [] trivial (by simp [hN',hb106,hb106s])
    rcases aA h97 with ⟨hb108,h97⟩ | ⟨hb109,h97⟩
    ·refine SWp.cT' (b:=v107) (by simp) hb108 ?_
     refine SWp.sR rfl (hPB _ rfl) fun K hK=>?_
     refine wC rfl fun K hK=>?_;simp [hN'];refine hK _ ?_;clear hK
     refine wN (hK _ ?_);clear hK
     have h110:=congrArg some (ho98 _ (Option.some.inj h97).symm)
     cases h110
     try dsimp only at h
     cases h
     refine SWp.ret ?_
     simp [aC,iB,res28]
    ·refine SWp.cF' (b:=v107) (by simp) hb109 ?_
     refine SWp.skip ?_
     show SWp E C _ _ _
     refine SWp.reg rfl (hPB _ rfl) fun K hK=>?_
     iterate 2 (refine wC rfl fun K hK=>?_;simp [hN'];refine hK _ ?_;clear hK)
     refine wN (hK _ ?_);clear hK
     cases h97
     exact ⟨_,[],rfl,by simp [hN']⟩
   ·refine SWp.cF' (b:=decide (v96 < (met92.length:Int))) (by simp) hb101 ?_
    refine SWp.exit ?_
    have h111:=congrArg some (ho98 _ (Option.some.inj h97).symm)
    cases h111
    exact hK94 _ _ [] rfl (by simp [hN'])
  subst hv
  obtain ⟨⟩:=v
  try dsimp only at h ⊢
  refine SWp.sR rfl (hPB _ rfl) fun K hK=>?_
  refine wC rfl fun K hK=>?_;simp [hN'];refine hK _ ?_;clear hK
  refine wN (hK _ ?_);clear hK
  cases h
  refine SWp.ret ?_
  simp [aC,iB,res28]
theorem res113:Tryz.f113.results.toList=[.tmp 4]:=rfl
theorem ent113:aF E.P 113:=eO Tryz.func113 (by simp [Tryz.f113]) rfl
theorem impl_under_ok (nodes1:List GNode) (k2:Int) {r0:List Int} (h:lU nodes1 k2=some r0):Ok E 113 [.val (.sl false 4 (List.map (GNode.enc false) nodes1)),.val (vi k2)] [.sl true 1 (List.map vi r0)] []:=by
 refine oB (fn:=Tryz.f113) Tryz.func113 rfl (by simp [Tryz.f113]) fun C hN hP=>?_
 have u:∀ l,pinK [] l=true→pinB C.pin l=true:=pO (by rw [hP];rfl)
 have y:C.N=42:=hN
 clear hN
 unfold lU at h
 refine SWp.sR rfl (u _ rfl) fun K q=>?_
 refine wC rfl fun K q=>?_;simp [y];refine q _ ?_;clear q
 refine wN (q _ ?_);clear q
 refine SWp.sR rfl (u _ rfl) fun K q=>?_
 iterate 3 (refine wC rfl fun K q=>?_;simp [y];refine q _ ?_;clear q)
 refine wN (q _ ?_);clear q
 obtain ⟨out34,hj3,h⟩:=bS h
 refine SWp.seqC [5] [] (fun _:Unit=>⟨[(5,.t (.sl true 1 (List.map vi out34)))],[]⟩) (fun _=>True) (fun _ _=>?_) fun K4 hK4=>?_
 rotate_left
 ·refine SWp.sR rfl (u _ rfl) fun K q=>?_
  refine wC rfl fun K q=>?_;simp [y];refine q _ ?_;clear q
  refine wN (q _ ?_);clear q
  refine SWp.block ?_
  refine SWp.loopO [] [0,5,6] [] (fun v:(List Int) × Int=>⟨[(0,.t (.sl false 4 (List.map (GNode.enc false) nodes1))),(5,.t (.sl true 1 (List.map vi v.1))),(6,.t (vi v.2))],[]⟩) (fK nodes1) _ ([k2],0) hj3 (by simp [y]) ?_
  intro g s10 h8 ho9
  obtain ⟨out6,i7⟩:=g
  simp only [fK] at h8
  try dsimp only
  refine SWp.seq ?_
  refine SWp.sR rfl (u _ rfl) fun K q=>?_
  iterate 4 (refine wC rfl fun K q=>?_;simp [y];refine q _ ?_;clear q)
  refine wN (q _ ?_);clear q
  rcases aA h8 with ⟨hb11,h8⟩ | ⟨hb12,h8⟩
  ·refine SWp.cT' (b:=decide (i7 < (out6.length:Int))) (by simp) hb11 ?_
   refine SWp.skip ?_
   show SWp E C _ _ _
   obtain ⟨out32,hj13,h8⟩:=bS h8
   refine SWp.seqC [0,5,6] [] (fun _:Unit=>⟨[(0,.t (.sl false 4 (List.map (GNode.enc false) nodes1))),(5,.t (.sl true 1 (List.map vi out32))),(6,.t (vi i7))],[]⟩) (fun _=>True) (fun _ _=>?_) fun K14 hK14=>?_
   rotate_left
   ·refine SWp.block ?_
    refine SWp.sR rfl (u _ rfl) fun K q=>?_
    iterate 3 (refine wC rfl fun K q=>?_;simp [y];refine q _ ?_;clear q)
    obtain ⟨e16,he16,hj13⟩:=bS hj13
    obtain ⟨he16a,he16b,he16c,he16d⟩:=gS he16
    iterate 2 (refine wC rfl fun K q=>?_;simp [y,he16a,he16b,he16c,he16d];refine q _ ?_;clear q)
    obtain ⟨e17,he17,hj13⟩:=bS hj13
    obtain ⟨he17a,he17b,he17c,he17d⟩:=gS he17
    iterate 5 (refine wC rfl fun K q=>?_;simp [y,he16a,he16b,he16c,he16d,he17a,he17b,he17c,he17d];refine q _ ?_;clear q)
    refine wN (q _ ?_);clear q
    refine SWp.block ?_
    refine SWp.loopO [] [0,5,6,24,25,26] [] (fun v:(List Int) × Int=>⟨[(0,.t (.sl false 4 (List.map (GNode.enc false) nodes1))),(5,.t (.sl true 1 (List.map vi v.1))),(6,.t (vi i7)),(24,.t (.sl false 1 (List.map vi e17.Kids))),(25,.t (vi (e17.Kids.length:Int))),(26,.t (vi v.2))],[]⟩) (fJ e17) _ (out6,0) hj13 (by simp [y]) ?_
    intro g s22 h20 ho21
    obtain ⟨out18,v19⟩:=g
    simp only [fJ] at h20
    try dsimp only
    refine SWp.sR rfl (u _ rfl) fun K q=>?_
    refine wC rfl fun K q=>?_;simp [y];refine q _ ?_;clear q
    refine wN (q _ ?_);clear q
    refine SWp.seq ?_
    rcases aA h20 with ⟨hb23,h20⟩ | ⟨hb24,h20⟩
    ·refine SWp.cT' (b:=decide (v19 < (e17.Kids.length:Int))) (by simp) hb23 ?_
     refine SWp.skip ?_
     show SWp E C _ _ _
     refine SWp.seq ?_
     refine SWp.block ?_
     refine SWp.sR rfl (u _ rfl) fun K q=>?_
     obtain ⟨e25,he25,h20⟩:=bS h20
     obtain ⟨he25a,he25b,he25c,he25d⟩:=gS he25
     iterate 3 (refine wC rfl fun K q=>?_;simp [y,he25a,he25b,he25c,he25d];refine q _ ?_;clear q)
     refine wN (q _ ?_);clear q
     refine SWp.sR rfl (u _ rfl) fun K q=>?_
     iterate 2 (refine wC rfl fun K q=>?_;simp [y];refine q _ ?_;clear q)
     obtain ⟨r26,hc27,h20⟩:=bS h20
     refine wL [(.bor,.tmp 30),(.take,.tmp 31)] rfl rfl ent64 (fW _ _ hc27) fun K q=>?_;simp [y];refine q _ ?_;clear q
     refine wC rfl fun K q=>?_;simp [y];refine q _ ?_;clear q
     refine wN (q _ ?_);clear q
     rcases aA h20 with ⟨hb28,h20⟩ | ⟨hb29,h20⟩
     ·refine SWp.cT' (b:=!r26) (by simp) hb28 ?_
      refine SWp.reg rfl (u _ rfl) fun K q=>?_
      iterate 3 (refine wC rfl fun K q=>?_;simp [y];refine q _ ?_;clear q)
      obtain ⟨l30,hl30,h20⟩:=bS h20
      obtain ⟨hl30a,hl30b,hl30d⟩:=aS hl30
      have hl30f:List.map vi out18 ++ List.map vi [e25]=List.map vi l30:=dV (f:=vi) hl30d
      simp [eSl] at hl30a hl30b hl30f
      iterate 2 (refine wC rfl fun K q=>?_;simp [y,hl30a,hl30b,hl30f];refine q _ ?_;clear q)
      refine wN (q _ ?_);clear q
      show SWp E C _ _ _
      refine SWp.reg rfl (u _ rfl) fun K q=>?_
      iterate 2 (refine wC rfl fun K q=>?_;simp [y];refine q _ ?_;clear q)
      refine wN (q _ ?_);clear q
      cases h20
      exact ⟨_,[],rfl,by simp [y]⟩
     ·refine SWp.cF' (b:=!r26) (by simp) hb29 ?_
      refine SWp.skip ?_
      show SWp E C _ _ _
      refine SWp.reg rfl (u _ rfl) fun K q=>?_
      iterate 2 (refine wC rfl fun K q=>?_;simp [y];refine q _ ?_;clear q)
      refine wN (q _ ?_);clear q
      cases h20
      exact ⟨_,[],rfl,by simp [y]⟩
    ·refine SWp.cF' (b:=decide (v19 < (e17.Kids.length:Int))) (by simp) hb24 ?_
     refine SWp.exit ?_
     have h31:=congrArg some (ho21 _ (Option.some.inj h20).symm)
     cases h31
     exact hK14 _ () [] trivial (by simp [y])
   refine SWp.reg rfl (u _ rfl) fun K q=>?_
   iterate 3 (refine wC rfl fun K q=>?_;simp [y];refine q _ ?_;clear q)
   refine wN (q _ ?_);clear q
   cases h8
   exact ⟨_,[],rfl,by simp [y]⟩
  ·refine SWp.cF' (b:=decide (i7 < (out6.length:Int))) (by simp) hb12 ?_
   refine SWp.exit ?_
   have h33:=congrArg some (ho9 _ (Option.some.inj h8).symm)
   cases h33
   exact hK4 _ () [] trivial (by simp [y])
 refine SWp.sR rfl (u _ rfl) fun K q=>?_
 refine wC rfl fun K q=>?_;simp [y];refine q _ ?_;clear q
 obtain ⟨q35,hc36,h⟩:=bS h
 refine wps_callIO rfl ent65 (sort_Ints_ok _ hc36) fun K q=>?_;simp [y];refine q _ ?_;clear q
 refine wN (q _ ?_);clear q
 refine SWp.sR rfl (u _ rfl) fun K q=>?_
 iterate 2 (refine wC rfl fun K q=>?_;simp [y];refine q _ ?_;clear q)
 refine wN (q _ ?_);clear q
 cases h
 refine SWp.ret ?_
 simp [aC,iB,res113]
theorem res98:Tryz.f98.results.toList=[.tmp 4]:=rfl
theorem ent98:aF E.P 98:=eO Tryz.func98 (by simp [Tryz.f98]) rfl
theorem qQ (p1:GProgram) (k2:Int) {r0:List Int} (h:jR p1 k2=some r0):Ok E 98 [.val (GProgram.enc false p1),.val (vi k2)] [.sl true 1 (List.map vi r0)] []:=by
 refine oB (fn:=Tryz.f98) Tryz.func98 rfl (by simp [Tryz.f98]) fun C hN hP=>?_
 have u:∀ l,pinK [] l=true→pinB C.pin l=true:=pO (by rw [hP];rfl)
 have y:C.N=14:=hN
 clear hN
 unfold jR at h
 refine SWp.sR rfl (u _ rfl) fun K q=>?_
 iterate 2 (refine wC rfl fun K q=>?_;simp [y];refine q _ ?_;clear q)
 refine wN (q _ ?_);clear q
 refine SWp.seq ?_
 refine SWp.sR rfl (u _ rfl) fun K q=>?_
 iterate 3 (refine wC rfl fun K q=>?_;simp [y];refine q _ ?_;clear q)
 obtain ⟨r3,hc4,h⟩:=bS h
 refine wL [(.take,.tmp 6),(.take,.tmp 7)] rfl rfl ent60 (pK _ _ hc4) fun K q=>?_;simp [y];refine q _ ?_;clear q
 refine wC rfl fun K q=>?_;simp [y];refine q _ ?_;clear q
 refine wN (q _ ?_);clear q
 rcases aA h with ⟨hb5,h⟩ | ⟨hb6,h⟩
 ·refine SWp.cT' (b:=r3 == 0) (by simp) hb5 ?_
  refine SWp.sR rfl (u _ rfl) fun K q=>?_
  refine wC rfl fun K q=>?_;simp [y];refine q _ ?_;clear q
  refine wN (q _ ?_);clear q
  cases h
  refine SWp.ret ?_
  simp [aC,iB,res98]
 ·refine SWp.cF' (b:=r3 == 0) (by simp) hb6 ?_
  refine SWp.skip ?_
  show SWp E C _ _ _
  refine SWp.sR rfl (u _ rfl) fun K q=>?_
  iterate 3 (refine wC rfl fun K q=>?_;simp [y];refine q _ ?_;clear q)
  obtain ⟨r7,hc8,h⟩:=bS h
  refine wL [(.take,.tmp 11),(.take,.tmp 12)] rfl rfl ent113 (impl_under_ok _ _ hc8) fun K q=>?_;simp [y];refine q _ ?_;clear q
  refine wC rfl fun K q=>?_;simp [y];refine q _ ?_;clear q
  refine wN (q _ ?_);clear q
  cases h
  refine SWp.ret ?_
  simp [aC,iB,res98]
theorem res79:Tryz.f79.results.toList=[.tmp 4]:=rfl
theorem ent79:aF E.P 79:=eO Tryz.func79 (by simp [Tryz.f79]) rfl
theorem impl_VarsOf_ok (p1:GProgram) (fn2:Int) {r0:List GVar} (h:kM p1 fn2=some r0):Ok E 79 [.val (GProgram.enc false p1),.val (vi fn2)] [.sl true 3 (List.map GVar.enc r0)] []:=by
 refine oB (fn:=Tryz.f79) Tryz.func79 rfl (by simp [Tryz.f79]) fun C hN hP=>?_
 have u:∀ l,pinK [] l=true→pinB C.pin l=true:=pO (by rw [hP];rfl)
 have y:C.N=68:=hN
 clear hN
 unfold kM at h
 refine SWp.sR rfl (u _ rfl) fun K q=>?_
 iterate 2 (refine wC rfl fun K q=>?_;simp [y];refine q _ ?_;clear q)
 refine wN (q _ ?_);clear q
 refine SWp.seq ?_
 refine SWp.sR rfl (u _ rfl) fun K q=>?_
 iterate 5 (refine wC rfl fun K q=>?_;simp [y];refine q _ ?_;clear q)
 obtain ⟨r3,hc4,h⟩:=bS h
 refine wL [(.take,.tmp 11),(.take,.const (.int .i64 0)),(.take,.tmp 15)] rfl rfl kO (aQ _ _ _ hc4) fun K q=>?_;simp [y];refine q _ ?_;clear q
 refine wC rfl fun K q=>?_;simp [y];refine q _ ?_;clear q
 refine wN (q _ ?_);clear q
 rcases aA h with ⟨hb5,h⟩ | ⟨hb6,h⟩
 ·refine SWp.cT' (b:=!r3) (by simp) hb5 ?_
  refine SWp.sR rfl (u _ rfl) fun K q=>?_
  refine wC rfl fun K q=>?_;simp [y];refine q _ ?_;clear q
  refine wN (q _ ?_);clear q
  cases h
  refine SWp.ret ?_
  simp [aC,iB,res79]
 ·refine SWp.cF' (b:=!r3) (by simp) hb6 ?_
  refine SWp.skip ?_
  show SWp E C _ _ _
  refine SWp.sR rfl (u _ rfl) fun K q=>?_
  refine wC rfl fun K q=>?_;simp [y];refine q _ ?_;clear q
  refine wN (q _ ?_);clear q
  obtain ⟨out21,hj7,h⟩:=bS h
  refine SWp.seqC [1,2,5] [2] (fun _:Unit=>⟨[(1,.t (vi fn2)),(2,.ref (.box 2) 0 []),(5,.t (.sl true 3 (List.map GVar.enc out21)))],[(2,[.sl false 4 (List.map (GNode.enc false) p1.Nodes),.sl false 5 (List.map (GFn.enc false) p1.Fns)])]⟩) (fun _=>True) (fun _ _=>?_) fun K8 hK8=>?_
  rotate_left
  ·refine SWp.sR rfl (u _ rfl) fun K q=>?_
   iterate 3 (refine wC rfl fun K q=>?_;simp [y];refine q _ ?_;clear q)
   obtain ⟨e10,he10,hj7⟩:=bS hj7
   obtain ⟨he10a,he10b,he10c,he10d⟩:=gS he10
   iterate 5 (refine wC rfl fun K q=>?_;simp [y,he10a,he10b,he10c,he10d];refine q _ ?_;clear q)
   refine wN (q _ ?_);clear q
   refine SWp.block ?_
   refine SWp.loopO [] [1,2,5,23,24,25] [2] (fun v:(List GVar) × Int=>⟨[(1,.t (vi fn2)),(2,.ref (.box 2) 0 []),(5,.t (.sl true 3 (List.map GVar.enc v.1))),(23,.t (.sl false 2 (List.map GParam.enc e10.Params))),(24,.t (vi (e10.Params.length:Int))),(25,.t (vi v.2))],[(2,[.sl false 4 (List.map (GNode.enc false) p1.Nodes),.sl false 5 (List.map (GFn.enc false) p1.Fns)])]⟩) (eP e10) _ ([],0) hj7 (by simp [y]) ?_
   intro g s15 h13 ho14
   obtain ⟨out11,v12⟩:=g
   simp only [eP] at h13
   try dsimp only
   refine SWp.sR rfl (u _ rfl) fun K q=>?_
   refine wC rfl fun K q=>?_;simp [y];refine q _ ?_;clear q
   refine wN (q _ ?_);clear q
   refine SWp.seq ?_
   rcases aA h13 with ⟨hb16,h13⟩ | ⟨hb17,h13⟩
   ·refine SWp.cT' (b:=decide (v12 < (e10.Params.length:Int))) (by simp) hb16 ?_
    refine SWp.skip ?_
    show SWp E C _ _ _
    refine SWp.seq ?_
    refine SWp.block ?_
    refine SWp.sR rfl (u _ rfl) fun K q=>?_
    obtain ⟨e18,he18,h13⟩:=bS h13
    obtain ⟨he18a,he18b,he18c,he18d⟩:=gS he18
    iterate 4 (refine wC rfl fun K q=>?_;simp [y,he18a,he18b,he18c,he18d];refine q _ ?_;clear q)
    refine wN (q _ ?_);clear q
    refine SWp.reg rfl (u _ rfl) fun K q=>?_
    iterate 7 (refine wC rfl fun K q=>?_;simp [y];refine q _ ?_;clear q)
    obtain ⟨l19,hl19,h13⟩:=bS h13
    obtain ⟨hl19a,hl19b,hl19d⟩:=aS hl19
    have hl19f:List.map GVar.enc out11 ++ List.map GVar.enc [(⟨e18.Name,e18.Typ,(-1)⟩:GVar)]=List.map GVar.enc l19:=dV (f:=GVar.enc) hl19d
    simp [eSl,GVar.enc] at hl19a hl19b hl19f
    iterate 2 (refine wC rfl fun K q=>?_;simp [y,hl19a,hl19b,hl19f];refine q _ ?_;clear q)
    refine wN (q _ ?_);clear q
    show SWp E C _ _ _
    refine SWp.reg rfl (u _ rfl) fun K q=>?_
    iterate 2 (refine wC rfl fun K q=>?_;simp [y];refine q _ ?_;clear q)
    refine wN (q _ ?_);clear q
    cases h13
    exact ⟨_,[],rfl,by simp [y]⟩
   ·refine SWp.cF' (b:=decide (v12 < (e10.Params.length:Int))) (by simp) hb17 ?_
    refine SWp.exit ?_
    have h20:=congrArg some (ho14 _ (Option.some.inj h13).symm)
    cases h20
    exact hK8 _ () [] trivial (by simp [y])
  obtain ⟨out42,hj22,h⟩:=bS h
  refine SWp.seqC [5] [] (fun _:Unit=>⟨[(5,.t (.sl true 3 (List.map GVar.enc out42)))],[]⟩) (fun _=>True) (fun _ _=>?_) fun K23 hK23=>?_
  rotate_left
  ·refine SWp.seq ?_
   obtain ⟨e26,he26,hj22⟩:=bS hj22
   obtain ⟨he26a,he26b,he26c,he26d⟩:=gS he26
   obtain ⟨r27,hc28,hj22⟩:=bS hj22
   refine SWp.dT rfl (u _ rfl) [(38,.t (GProgram.enc false p1)),(39,.ref (.box 2) 1 []),(40,.t (.sl false 5 (List.map (GFn.enc false) p1.Fns))),(41,.t (vi fn2)),(42,.rop [vs e26.Name,.sl false 2 (List.map GParam.enc e26.Params),vi e26.Res,vi e26.Body,vi e26.Ret] 0),(43,.rop [vs e26.Name,.sl false 2 (List.map GParam.enc e26.Params),vi e26.Res,vi e26.Body,vi e26.Ret] 3),(44,.t (vi e26.Body)),(45,.t (.sl true 1 (List.map vi r27))),(46,.t (vi (r27.length:Int))),(47,.t (vi 0))] [[],[],[1],[],[1,2,3],[1,2,3,4],[1,2,3,4,5],[0,1,2,3,4,5,6],[0,1,2,3,4,5,6,7],[]] (by simp) (by simp) (by simp [look]) rfl rfl rfl ?_ fun K q=>?_
   ·refine ⟨?_,?_,?_,?_,?_,?_,?_,?_,?_,?_,trivial⟩
    all_goals (intro τ hbx hb hd hf K q;try simp [vsAt] at hd;simp [vsAt] at hf;first | (refine wC rfl fun K' q'=>?_;simp [y,hbx,hb,hd,hf,he26a,he26b,he26c,he26d];exact q' _ (wN (q _ (by simp [vsAt,hbx,he26a,he26b,he26c,he26d])))) | (refine wL [(.take,.tmp 38),(.take,.tmp 44)] rfl rfl ent98 (qQ _ _ hc28) fun K' q'=>?_;simp [y,hbx,hb,hd,hf,he26a,he26b,he26c,he26d];exact q' _ (wN (q _ (by simp [vsAt,hbx,he26a,he26b,he26c,he26d])))))
   refine wN (q _ ?_);clear q
   show SWp E C _ _ _
   refine SWp.block ?_
   refine SWp.loopO [] [2,5,45,46,47] [2] (fun v:(List GVar) × Int=>⟨[(2,.ref (.box 2) 0 []),(5,.t (.sl true 3 (List.map GVar.enc v.1))),(45,.t (.sl true 1 (List.map vi r27))),(46,.t (vi (r27.length:Int))),(47,.t (vi v.2))],[(2,[.sl false 4 (List.map (GNode.enc false) p1.Nodes),.sl false 5 (List.map (GFn.enc false) p1.Fns)])]⟩) (eN p1 r27) _ (out21,0) hj22 (by simp [y]) ?_
   intro g s33 h31 ho32
   obtain ⟨out29,v30⟩:=g
   simp only [eN] at h31
   try dsimp only
   refine SWp.sR rfl (u _ rfl) fun K q=>?_
   refine wC rfl fun K q=>?_;simp [y];refine q _ ?_;clear q
   refine wN (q _ ?_);clear q
   refine SWp.seq ?_
   rcases aA h31 with ⟨hb34,h31⟩ | ⟨hb35,h31⟩
   ·refine SWp.cT' (b:=decide (v30 < (r27.length:Int))) (by simp) hb34 ?_
    refine SWp.skip ?_
    show SWp E C _ _ _
    refine SWp.seq ?_
    refine SWp.block ?_
    refine SWp.sR rfl (u _ rfl) fun K q=>?_
    obtain ⟨e36,he36,h31⟩:=bS h31
    obtain ⟨he36a,he36b,he36c,he36d⟩:=gS he36
    iterate 3 (refine wC rfl fun K q=>?_;simp [y,he36a,he36b,he36c,he36d];refine q _ ?_;clear q)
    refine wN (q _ ?_);clear q
    refine SWp.sR rfl (u _ rfl) fun K q=>?_
    iterate 3 (refine wC rfl fun K q=>?_;simp [y];refine q _ ?_;clear q)
    obtain ⟨e37,he37,h31⟩:=bS h31
    obtain ⟨he37a,he37b,he37c,he37d⟩:=gS he37
    iterate 4 (refine wC rfl fun K q=>?_;simp [y,he37a,he37b,he37c,he37d];refine q _ ?_;clear q)
    refine wN (q _ ?_);clear q
    refine SWp.sR rfl (u _ rfl) fun K q=>?_
    iterate 3 (refine wC rfl fun K q=>?_;simp [y];refine q _ ?_;clear q)
    refine wN (q _ ?_);clear q
    rcases aA h31 with ⟨hb38,h31⟩ | ⟨hb39,h31⟩
    ·refine SWp.cT' (b:=e37.Kind == 13) (by simp) hb38 ?_
     refine SWp.reg rfl (u _ rfl) fun K q=>?_
     iterate 6 (refine wC rfl fun K q=>?_;simp [y];refine q _ ?_;clear q)
     obtain ⟨l40,hl40,h31⟩:=bS h31
     obtain ⟨hl40a,hl40b,hl40d⟩:=aS hl40
     have hl40f:List.map GVar.enc out29 ++ List.map GVar.enc [(⟨e37.Name,0,e36⟩:GVar)]=List.map GVar.enc l40:=dV (f:=GVar.enc) hl40d
     simp [eSl,GVar.enc] at hl40a hl40b hl40f
     iterate 2 (refine wC rfl fun K q=>?_;simp [y,hl40a,hl40b,hl40f];refine q _ ?_;clear q)
     refine wN (q _ ?_);clear q
     show SWp E C _ _ _
     refine SWp.reg rfl (u _ rfl) fun K q=>?_
     iterate 2 (refine wC rfl fun K q=>?_;simp [y];refine q _ ?_;clear q)
     refine wN (q _ ?_);clear q
     cases h31
     exact ⟨_,[],rfl,by simp [y]⟩
    ·refine SWp.cF' (b:=e37.Kind == 13) (by simp) hb39 ?_
     refine SWp.skip ?_
     show SWp E C _ _ _
     refine SWp.reg rfl (u _ rfl) fun K q=>?_
     iterate 2 (refine wC rfl fun K q=>?_;simp [y];refine q _ ?_;clear q)
     refine wN (q _ ?_);clear q
     cases h31
     exact ⟨_,[],rfl,by simp [y]⟩
   ·refine SWp.cF' (b:=decide (v30 < (r27.length:Int))) (by simp) hb35 ?_
    refine SWp.exit ?_
    have h41:=congrArg some (ho32 _ (Option.some.inj h31).symm)
    cases h41
    exact hK23 _ () [] trivial (by simp [y])
  refine SWp.sR rfl (u _ rfl) fun K q=>?_
  iterate 2 (refine wC rfl fun K q=>?_;simp [y];refine q _ ?_;clear q)
  refine wN (q _ ?_);clear q
  cases h
  refine SWp.ret ?_
  simp [aC,iB,res79]
theorem res80:Tryz.f80.results.toList=[.tmp 4]:=rfl
theorem ent80:aF E.P 80:=eO Tryz.func80 (by simp [Tryz.f80]) rfl
theorem impl_VarAt_ok (list1:List GVar) (name2:ByteArray) {r0:Int} (h:lY list1 name2=some r0):Ok E 80 [.val (.sl false 3 (List.map GVar.enc list1)),.val (vs name2)] [vi r0] []:=by
 refine oB (fn:=Tryz.f80) Tryz.func80 rfl (by simp [Tryz.f80]) fun C hN hP=>?_
 have hPB:∀ l,pinK [] l=true→pinB C.pin l=true:=pO (by rw [hP];rfl)
 have hN':C.N=20:=hN
 clear hN
 unfold lY at h
 refine SWp.sR rfl (hPB _ rfl) fun K hK=>?_
 refine wC rfl fun K hK=>?_;simp [hN'];refine hK _ ?_;clear hK
 refine wN (hK _ ?_);clear hK
 obtain ⟨j5,hj3,h⟩:=bS h
 refine SWp.seqC [] [] (fun v:Unit=>⟨[],[]⟩) (fun v=>j5=Sum.inl v) (fun v hv=>?_) fun K4 hK4=>?_
 rotate_left
 ·refine SWp.sR rfl (hPB _ rfl) fun K hK=>?_
  iterate 3 (refine wC rfl fun K hK=>?_;simp [hN'];refine hK _ ?_;clear hK)
  refine wN (hK _ ?_);clear hK
  refine SWp.block ?_
  refine SWp.loopO [] [1,7,8,9] [] (fun v:Int=>⟨[(1,.t (vs name2)),(7,.t (.sl false 3 (List.map GVar.enc list1))),(8,.t (vi (list1.length:Int))),(9,.t (vi v))],[]⟩) (fM list1 name2) _ 0 hj3 (by simp [hN']) ?_
  intro g s9 h7 ho8
  obtain ⟨v6,hg⟩:∃ y,y=g:=⟨_,rfl⟩
  subst hg
  simp only [fM] at h7
  try dsimp only
  refine SWp.sR rfl (hPB _ rfl) fun K hK=>?_
  refine wC rfl fun K hK=>?_;simp [hN'];refine hK _ ?_;clear hK
  refine wN (hK _ ?_);clear hK
  refine SWp.seq ?_
  rcases aA h7 with ⟨hb10,h7⟩ | ⟨hb11,h7⟩
  ·refine SWp.cT' (b:=decide (v6 < (list1.length:Int))) (by simp) hb10 ?_
   refine SWp.skip ?_
   show SWp E C _ _ _
   refine SWp.seq ?_
   refine SWp.block ?_
   refine SWp.sR rfl (hPB _ rfl) fun K hK=>?_
   refine wC rfl fun K hK=>?_;simp [hN'];refine hK _ ?_;clear hK
   obtain ⟨e12,he12,h7⟩:=bS h7
   obtain ⟨he12a,he12b,he12c,he12d⟩:=gS he12
   iterate 5 (refine wC rfl fun K hK=>?_;simp [hN',he12a,he12b,he12c,he12d];refine hK _ ?_;clear hK)
   refine wN (hK _ ?_);clear hK
   refine SWp.sR rfl (hPB _ rfl) fun K hK=>?_
   iterate 4 (refine wC rfl fun K hK=>?_;simp [hN'];refine hK _ ?_;clear hK)
   refine wN (hK _ ?_);clear hK
   rcases aA h7 with ⟨hb13,h7⟩ | ⟨hb14,h7⟩
   ·refine SWp.cT' (b:=sEq e12.Name name2) (by simp) hb13 ?_
    refine SWp.sR rfl (hPB _ rfl) fun K hK=>?_
    iterate 2 (refine wC rfl fun K hK=>?_;simp [hN'];refine hK _ ?_;clear hK)
    refine wN (hK _ ?_);clear hK
    have h15:=congrArg some (ho8 _ (Option.some.inj h7).symm)
    cases h15
    try dsimp only at h
    cases h
    refine SWp.ret ?_
    simp [aC,iB,res80]
   ·refine SWp.cF' (b:=sEq e12.Name name2) (by simp) hb14 ?_
    refine SWp.skip ?_
    show SWp E C _ _ _
    refine SWp.reg rfl (hPB _ rfl) fun K hK=>?_
    iterate 2 (refine wC rfl fun K hK=>?_;simp [hN'];refine hK _ ?_;clear hK)
    refine wN (hK _ ?_);clear hK
    cases h7
    exact ⟨_,[],rfl,by simp [hN']⟩
  ·refine SWp.cF' (b:=decide (v6 < (list1.length:Int))) (by simp) hb11 ?_
   refine SWp.exit ?_
   have h16:=congrArg some (ho8 _ (Option.some.inj h7).symm)
   cases h16
   exact hK4 _ _ [] rfl (by simp [hN'])
 subst hv
 obtain ⟨⟩:=v
 try dsimp only at h ⊢
 refine SWp.sR rfl (hPB _ rfl) fun K hK=>?_
 refine wC rfl fun K hK=>?_;simp [hN'];refine hK _ ?_;clear hK
 refine wN (hK _ ?_);clear hK
 cases h
 refine SWp.ret ?_
 simp [aC,iB,res80]
theorem res48:Tryz.f48.results.toList=[.tmp 4]:=rfl
theorem ent48:aF E.P 48:=eO Tryz.func48 (by simp [Tryz.f48]) rfl
theorem impl_namesOf_ok (p1:GProgram) (fn2:Int) {r0:Bool} (h:iU p1 fn2=some r0):Ok E 48 [.val (GProgram.enc false p1),.val (vi fn2)] [vb r0] []:=by
 refine oB (fn:=Tryz.f48) Tryz.func48 rfl (by simp [Tryz.f48]) fun C hN hP=>?_
 have hPB:∀ l,pinK [] l=true→pinB C.pin l=true:=pO (by rw [hP];rfl)
 have hN':C.N=25:=hN
 clear hN
 unfold iU at h
 refine SWp.sR rfl (hPB _ rfl) fun K hK=>?_
 iterate 2 (refine wC rfl fun K hK=>?_;simp [hN'];refine hK _ ?_;clear hK)
 refine wN (hK _ ?_);clear hK
 refine SWp.sR rfl (hPB _ rfl) fun K hK=>?_
 iterate 2 (refine wC rfl fun K hK=>?_;simp [hN'];refine hK _ ?_;clear hK)
 obtain ⟨r3,hc4,h⟩:=bS h
 refine wL [(.take,.tmp 8),(.take,.tmp 9)] rfl rfl ent79 (impl_VarsOf_ok _ _ hc4) fun K hK=>?_;simp [hN'];refine hK _ ?_;clear hK
 refine wC rfl fun K hK=>?_;simp [hN'];refine hK _ ?_;clear hK
 refine wN (hK _ ?_);clear hK
 obtain ⟨j7,hj5,h⟩:=bS h
 refine SWp.seqC [] [] (fun v:Unit=>⟨[],[]⟩) (fun v=>j7=Sum.inl v) (fun v hv=>?_) fun K6 hK6=>?_
 rotate_left
 ·refine SWp.sR rfl (hPB _ rfl) fun K hK=>?_
  iterate 3 (refine wC rfl fun K hK=>?_;simp [hN'];refine hK _ ?_;clear hK)
  refine wN (hK _ ?_);clear hK
  refine SWp.block ?_
  refine SWp.loopO [] [5,11,12,13] [] (fun v:Int=>⟨[(5,.t (.sl true 3 (List.map GVar.enc r3))),(11,.al (.slot 5) 0 [] none),(12,.t (vi (r3.length:Int))),(13,.t (vi v))],[]⟩) (dJ r3) _ 0 hj5 (by simp [hN']) ?_
  intro g s11 h9 ho10
  obtain ⟨v8,hg⟩:∃ y,y=g:=⟨_,rfl⟩
  subst hg
  simp only [dJ] at h9
  try dsimp only
  refine SWp.sR rfl (hPB _ rfl) fun K hK=>?_
  refine wC rfl fun K hK=>?_;simp [hN'];refine hK _ ?_;clear hK
  refine wN (hK _ ?_);clear hK
  refine SWp.seq ?_
  rcases aA h9 with ⟨hb12,h9⟩ | ⟨hb13,h9⟩
  ·refine SWp.cT' (b:=decide (v8 < (r3.length:Int))) (by simp) hb12 ?_
   refine SWp.skip ?_
   show SWp E C _ _ _
   refine SWp.seq ?_
   refine SWp.block ?_
   refine SWp.sR rfl (hPB _ rfl) fun K hK=>?_
   refine wC rfl fun K hK=>?_;simp [hN'];refine hK _ ?_;clear hK
   obtain ⟨e14,he14,h9⟩:=bS h9
   obtain ⟨he14a,he14b,he14c,he14d⟩:=gS he14
   iterate 5 (refine wC rfl fun K hK=>?_;simp [hN',he14a,he14b,he14c,he14d];refine hK _ ?_;clear hK)
   refine wN (hK _ ?_);clear hK
   refine SWp.sR rfl (hPB _ rfl) fun K hK=>?_
   iterate 3 (refine wC rfl fun K hK=>?_;simp [hN'];refine hK _ ?_;clear hK)
   obtain ⟨r15,hc16,h9⟩:=bS h9
   refine wL [(.bor,.tmp 18),(.take,.tmp 20)] rfl rfl ent80 (impl_VarAt_ok _ _ hc16) fun K hK=>?_;simp [hN'];refine hK _ ?_;clear hK
   iterate 2 (refine wC rfl fun K hK=>?_;simp [hN'];refine hK _ ?_;clear hK)
   refine wN (hK _ ?_);clear hK
   rcases aA h9 with ⟨hb17,h9⟩ | ⟨hb18,h9⟩
   ·refine SWp.cT' (b:=r15 != v8) (by simp) hb17 ?_
    refine SWp.sR rfl (hPB _ rfl) fun K hK=>?_
    refine wC rfl fun K hK=>?_;simp [hN'];refine hK _ ?_;clear hK
    refine wN (hK _ ?_);clear hK
    have h19:=congrArg some (ho10 _ (Option.some.inj h9).symm)
    cases h19
    try dsimp only at h
    cases h
    refine SWp.ret ?_
    simp [aC,iB,res48]
   ·refine SWp.cF' (b:=r15 != v8) (by simp) hb18 ?_
    refine SWp.skip ?_
    show SWp E C _ _ _
    refine SWp.reg rfl (hPB _ rfl) fun K hK=>?_
    iterate 2 (refine wC rfl fun K hK=>?_;simp [hN'];refine hK _ ?_;clear hK)
    refine wN (hK _ ?_);clear hK
    cases h9
    exact ⟨_,[],rfl,by simp [hN']⟩
  ·refine SWp.cF' (b:=decide (v8 < (r3.length:Int))) (by simp) hb13 ?_
   refine SWp.exit ?_
   have h20:=congrArg some (ho10 _ (Option.some.inj h9).symm)
   cases h20
   exact hK6 _ _ [] rfl (by simp [hN'])
 subst hv
 obtain ⟨⟩:=v
 try dsimp only at h ⊢
 refine SWp.sR rfl (hPB _ rfl) fun K hK=>?_
 refine wC rfl fun K hK=>?_;simp [hN'];refine hK _ ?_;clear hK
 refine wN (hK _ ?_);clear hK
 cases h
 refine SWp.ret ?_
 simp [aC,iB,res48]
theorem res81:Tryz.f81.results.toList=[.tmp 2]:=rfl
theorem ent81:aF E.P 81:=eO Tryz.func81 (by simp [Tryz.f81]) rfl
theorem impl_uses_ok (kind1:Int) {r0:Bool} (h:nZ kind1=some r0):Ok E 81 [.val (vi kind1)] [vb r0] []:=by
 refine oB (fn:=Tryz.f81) Tryz.func81 rfl (by simp [Tryz.f81]) fun C hN hP=>?_
 have u:∀ l,pinK [] l=true→pinB C.pin l=true:=pO (by rw [hP];rfl)
 have y:C.N=13:=hN
 clear hN
 unfold nZ at h
 refine SWp.sR rfl (u _ rfl) fun K q=>?_
 refine wC rfl fun K q=>?_;simp [y];refine q _ ?_;clear q
 refine wN (q _ ?_);clear q
 obtain ⟨v10,hj2,h⟩:=bS h
 refine SWp.seqRC rfl (u _ rfl) [2] [] (fun _:Unit=>⟨[(2,.t (vb v10))],[]⟩) (fun _=>True) (fun _ _=>?_) fun K3 hK3=>?_
 rotate_left
 ·refine wC rfl fun K q=>?_;simp [y];refine q _ ?_;clear q
  obtain ⟨r4,hc5,hj2⟩:=bS hj2
  refine wL [(.take,.tmp 3),(.take,.const (.int .i64 2)),(.take,.const (.int .i64 6))] rfl rfl kO (aQ _ _ _ hc5) fun K q=>?_;simp [y];refine q _ ?_;clear q
  refine wC rfl fun K q=>?_;simp [y];refine q _ ?_;clear q
  rcases aA hj2 with ⟨hb6,hj2⟩ | ⟨hb7,hj2⟩
  ·have hb6s:=hb6
   try simp at hb6s
   iterate 2 (refine wO fun K q=>?_;simp [y,hb6,hb6s];refine q _ ?_;clear q)
   iterate 2 (refine wC rfl fun K q=>?_;simp [y,hb6,hb6s];refine q _ ?_;clear q)
   iterate 2 (refine wO fun K q=>?_;simp [y,hb6,hb6s];refine q _ ?_;clear q)
   iterate 2 (refine wC rfl fun K q=>?_;simp [y,hb6,hb6s];refine q _ ?_;clear q)
   refine wN ?_
   cases hj2
   exact hK3 _ () [] trivial (by simp [y,hb6,hb6s])
  ·have hb7s:=hb7
   try simp at hb7s
   iterate 4 (refine wC rfl fun K q=>?_;simp [y,hb7,hb7s];refine q _ ?_;clear q)
   rcases aA hj2 with ⟨hb8,hj2⟩ | ⟨hb9,hj2⟩
   ·have hb8s:=hb8
    try simp at hb8s
    iterate 2 (refine wO fun K q=>?_;simp [y,hb7,hb7s,hb8,hb8s];refine q _ ?_;clear q)
    iterate 2 (refine wC rfl fun K q=>?_;simp [y,hb7,hb7s,hb8,hb8s];refine q _ ?_;clear q)
    refine wN ?_
    cases hj2
    exact hK3 _ () [] trivial (by simp [y,hb7,hb7s,hb8,hb8s])
   ·have hb9s:=hb9
    try simp at hb9s
    iterate 4 (refine wC rfl fun K q=>?_;simp [y,hb7,hb7s,hb9,hb9s];refine q _ ?_;clear q)
    refine wN ?_
    cases hj2
    exact hK3 _ () [] trivial (by simp [y,hb7,hb7s,hb9,hb9s])
 cases h
 refine SWp.ret ?_
 simp [aC,iB,res81]
theorem res82:Tryz.f82.results.toList=[.tmp 4]:=rfl
theorem ent82:aF E.P 82:=eO Tryz.func82 (by simp [Tryz.f82]) rfl
theorem impl_hasText_ok (l1:List ByteArray) (s2:ByteArray) {r0:Bool} (h:iW l1 s2=some r0):Ok E 82 [.val (.sl false 1 (List.map vs l1)),.val (vs s2)] [vb r0] []:=by
 refine oB (fn:=Tryz.f82) Tryz.func82 rfl (by simp [Tryz.f82]) fun C hN hP=>?_
 have hPB:∀ l,pinK [] l=true→pinB C.pin l=true:=pO (by rw [hP];rfl)
 have hN':C.N=17:=hN
 clear hN
 unfold iW at h
 refine SWp.sR rfl (hPB _ rfl) fun K hK=>?_
 refine wC rfl fun K hK=>?_;simp [hN'];refine hK _ ?_;clear hK
 refine wN (hK _ ?_);clear hK
 obtain ⟨j5,hj3,h⟩:=bS h
 refine SWp.seqC [] [] (fun v:Unit=>⟨[],[]⟩) (fun v=>j5=Sum.inl v) (fun v hv=>?_) fun K4 hK4=>?_
 rotate_left
 ·refine SWp.sR rfl (hPB _ rfl) fun K hK=>?_
  iterate 3 (refine wC rfl fun K hK=>?_;simp [hN'];refine hK _ ?_;clear hK)
  refine wN (hK _ ?_);clear hK
  refine SWp.block ?_
  refine SWp.loopO [] [1,7,8,9] [] (fun v:Int=>⟨[(1,.t (vs s2)),(7,.t (.sl false 1 (List.map vs l1))),(8,.t (vi (l1.length:Int))),(9,.t (vi v))],[]⟩) (dK l1 s2) _ 0 hj3 (by simp [hN']) ?_
  intro g s9 h7 ho8
  obtain ⟨v6,hg⟩:∃ y,y=g:=⟨_,rfl⟩
  subst hg
  simp only [dK] at h7
  try dsimp only
  refine SWp.sR rfl (hPB _ rfl) fun K hK=>?_
  refine wC rfl fun K hK=>?_;simp [hN'];refine hK _ ?_;clear hK
  refine wN (hK _ ?_);clear hK
  refine SWp.seq ?_
  rcases aA h7 with ⟨hb10,h7⟩ | ⟨hb11,h7⟩
  ·refine SWp.cT' (b:=decide (v6 < (l1.length:Int))) (by simp) hb10 ?_
   refine SWp.skip ?_
   show SWp E C _ _ _
   refine SWp.seq ?_
   refine SWp.block ?_
   refine SWp.sR rfl (hPB _ rfl) fun K hK=>?_
   obtain ⟨e12,he12,h7⟩:=bS h7
   obtain ⟨he12a,he12b,he12c,he12d⟩:=gS he12
   iterate 3 (refine wC rfl fun K hK=>?_;simp [hN',he12a,he12b,he12c,he12d];refine hK _ ?_;clear hK)
   refine wN (hK _ ?_);clear hK
   refine SWp.sR rfl (hPB _ rfl) fun K hK=>?_
   iterate 3 (refine wC rfl fun K hK=>?_;simp [hN'];refine hK _ ?_;clear hK)
   refine wN (hK _ ?_);clear hK
   rcases aA h7 with ⟨hb13,h7⟩ | ⟨hb14,h7⟩
   ·refine SWp.cT' (b:=sEq e12 s2) (by simp) hb13 ?_
    refine SWp.sR rfl (hPB _ rfl) fun K hK=>?_
    refine wC rfl fun K hK=>?_;simp [hN'];refine hK _ ?_;clear hK
    refine wN (hK _ ?_);clear hK
    have h15:=congrArg some (ho8 _ (Option.some.inj h7).symm)
    cases h15
    try dsimp only at h
    cases h
    refine SWp.ret ?_
    simp [aC,iB,res82]
   ·refine SWp.cF' (b:=sEq e12 s2) (by simp) hb14 ?_
    refine SWp.skip ?_
    show SWp E C _ _ _
    refine SWp.reg rfl (hPB _ rfl) fun K hK=>?_
    iterate 2 (refine wC rfl fun K hK=>?_;simp [hN'];refine hK _ ?_;clear hK)
    refine wN (hK _ ?_);clear hK
    cases h7
    exact ⟨_,[],rfl,by simp [hN']⟩
  ·refine SWp.cF' (b:=decide (v6 < (l1.length:Int))) (by simp) hb11 ?_
   refine SWp.exit ?_
   have h16:=congrArg some (ho8 _ (Option.some.inj h7).symm)
   cases h16
   exact hK4 _ _ [] rfl (by simp [hN'])
 subst hv
 obtain ⟨⟩:=v
 try dsimp only at h ⊢
 refine SWp.sR rfl (hPB _ rfl) fun K hK=>?_
 refine wC rfl fun K hK=>?_;simp [hN'];refine hK _ ?_;clear hK
 refine wN (hK _ ?_);clear hK
 cases h
 refine SWp.ret ?_
 simp [aC,iB,res82]
theorem res49:Tryz.f49.results.toList=[.tmp 8]:=rfl
theorem ent49:aF E.P 49:=eO Tryz.func49 (by simp [Tryz.f49]) rfl
theorem impl_seen_b_ok (rec_impl_seen:GProgram→Int→Int→(List ByteArray)→Option (Bool)) (hrec_impl_seen:∀ (a0:GProgram) (a1:Int) (a2:Int) (a3:List ByteArray) {r0:Bool},rec_impl_seen a0 a1 a2 a3=some r0→Ok E 49 [.val (GProgram.enc false a0),.val (vi a1),.val (vi a2),.val (.sl false 1 (List.map vs a3))] [vb r0] []) (p1:GProgram) (fn2:Int) (k3:Int) (names4:List ByteArray) {r0:Bool} (h:kJ rec_impl_seen p1 fn2 k3 names4=some r0):Ok E 49 [.val (GProgram.enc false p1),.val (vi fn2),.val (vi k3),.val (.sl false 1 (List.map vs names4))] [vb r0] []:=by
 refine oB (fn:=Tryz.f49) Tryz.func49 rfl (by simp [Tryz.f49]) fun C hN hP=>?_
 have u:∀ l,pinK [] l=true→pinB C.pin l=true:=pO (by rw [hP];rfl)
 have y:C.N=91:=hN
 clear hN
 unfold kJ at h
 refine SWp.sR rfl (u _ rfl) fun K q=>?_
 iterate 2 (refine wC rfl fun K q=>?_;simp [y];refine q _ ?_;clear q)
 refine wN (q _ ?_);clear q
 refine SWp.sR rfl (u _ rfl) fun K q=>?_
 iterate 3 (refine wC rfl fun K q=>?_;simp [y];refine q _ ?_;clear q)
 obtain ⟨e5,he5,h⟩:=bS h
 obtain ⟨he5a,he5b,he5c,he5d⟩:=gS he5
 iterate 4 (refine wC rfl fun K q=>?_;simp [y,he5a,he5b,he5c,he5d];refine q _ ?_;clear q)
 refine wN (q _ ?_);clear q
 refine SWp.seq ?_
 obtain ⟨v14,hj6,h⟩:=bS h
 refine SWp.seqRC rfl (u _ rfl) [1,3,4,9,28] [4,9] (fun _:Unit=>⟨[(1,.t (vi fn2)),(3,.t (.sl false 1 (List.map vs names4))),(4,.ref (.box 4) 0 []),(9,.ref (.box 9) 0 []),(28,.t (vb v14))],[(4,[.sl false 4 (List.map (GNode.enc false) p1.Nodes),.sl false 5 (List.map (GFn.enc false) p1.Fns)]),(9,[vi e5.Kind,vi e5.Num,vs e5.Name,.sl false 1 (List.map vi e5.Kids)])]⟩) (fun _=>True) (fun _ _=>?_) fun K7 hK7=>?_
 rotate_left
 ·refine wC rfl fun K q=>?_;simp [y];refine q _ ?_;clear q
  refine wC rfl fun K q=>?_;simp [y];refine q _ ?_;clear q
  obtain ⟨r8,hc9,hj6⟩:=bS hj6
  refine wL [(.take,.tmp 20)] rfl rfl ent81 (impl_uses_ok _ hc9) fun K q=>?_;simp [y];refine q _ ?_;clear q
  refine wC rfl fun K q=>?_;simp [y];refine q _ ?_;clear q
  rcases aA hj6 with ⟨hb10,hj6⟩ | ⟨hb11,hj6⟩
  ·have hb10s:=hb10
   try simp at hb10s
   iterate 3 (refine wC rfl fun K q=>?_;simp [y,hb10,hb10s];refine q _ ?_;clear q)
   obtain ⟨r12,hc13,hj6⟩:=bS hj6
   refine wL [(.take,.tmp 23),(.take,.tmp 25)] rfl rfl ent82 (impl_hasText_ok _ _ hc13) fun K q=>?_;simp [y,hb10,hb10s];refine q _ ?_;clear q
   iterate 2 (refine wC rfl fun K q=>?_;simp [y,hb10,hb10s];refine q _ ?_;clear q)
   refine wN ?_
   cases hj6
   exact hK7 _ () [] trivial (by simp [y,hb10,hb10s])
  ·have hb11s:=hb11
   try simp at hb11s
   iterate 5 (refine wO fun K q=>?_;simp [y,hb11,hb11s];refine q _ ?_;clear q)
   refine wC rfl fun K q=>?_;simp [y,hb11,hb11s];refine q _ ?_;clear q
   refine wN ?_
   cases hj6
   exact hK7 _ () [] trivial (by simp [y,hb11,hb11s])
 rcases aA h with ⟨hb15,h⟩ | ⟨hb16,h⟩
 ·refine SWp.cT' (b:=v14) (by simp) hb15 ?_
  refine SWp.sR rfl (u _ rfl) fun K q=>?_
  refine wC rfl fun K q=>?_;simp [y];refine q _ ?_;clear q
  refine wN (q _ ?_);clear q
  cases h
  refine SWp.ret ?_
  simp [aC,iB,res49]
 ·refine SWp.cF' (b:=v14) (by simp) hb16 ?_
  refine SWp.skip ?_
  show SWp E C _ _ _
  obtain ⟨j19,hj17,h⟩:=bS h
  refine SWp.seqC [1,3,4,9] [4,9] (fun v:Unit=>⟨[(1,.t (vi fn2)),(3,.t (.sl false 1 (List.map vs names4))),(4,.ref (.box 4) 0 []),(9,.ref (.box 9) 0 [])],[(4,[.sl false 4 (List.map (GNode.enc false) p1.Nodes),.sl false 5 (List.map (GFn.enc false) p1.Fns)]),(9,[vi e5.Kind,vi e5.Num,vs e5.Name,.sl false 1 (List.map vi e5.Kids)])]⟩) (fun v=>j19=Sum.inl v) (fun v hv=>?_) fun K18 hK18=>?_
  rotate_left
  ·refine SWp.sR rfl (u _ rfl) fun K q=>?_
   iterate 3 (refine wC rfl fun K q=>?_;simp [y];refine q _ ?_;clear q)
   refine wN (q _ ?_);clear q
   rcases aA hj17 with ⟨hb20,hj17⟩ | ⟨hb21,hj17⟩
   ·refine SWp.cT' (b:=e5.Kind == 12) (by simp) hb20 ?_
    refine SWp.sR rfl (u _ rfl) fun K q=>?_
    iterate 3 (refine wC rfl fun K q=>?_;simp [y];refine q _ ?_;clear q)
    obtain ⟨r22,hc23,hj17⟩:=bS hj17
    refine wL [(.take,.tmp 32),(.take,.tmp 34)] rfl rfl ent62 (oG _ _ hc23) fun K q=>?_;simp [y];refine q _ ?_;clear q
    refine wC rfl fun K q=>?_;simp [y];refine q _ ?_;clear q
    refine wN (q _ ?_);clear q
    obtain ⟨v31,hj24,hj17⟩:=bS hj17
    refine SWp.seqC [1,3,4,9,53] [4,9] (fun _:Unit=>⟨[(1,.t (vi fn2)),(3,.t (.sl false 1 (List.map vs names4))),(4,.ref (.box 4) 0 []),(9,.ref (.box 9) 0 []),(53,.t (vb v31))],[(4,[.sl false 4 (List.map (GNode.enc false) p1.Nodes),.sl false 5 (List.map (GFn.enc false) p1.Fns)]),(9,[vi e5.Kind,vi e5.Num,vs e5.Name,.sl false 1 (List.map vi e5.Kids)])]⟩) (fun _=>True) (fun _ _=>?_) fun K25 hK25=>?_
    rotate_left
    ·obtain ⟨r26,hc27,hj24⟩:=bS hj24
     rcases aA hj24 with ⟨hb28,hj24⟩ | ⟨hb29,hj24⟩
     ·have hb28s:=hb28
      try simp at hb28s
      refine SWp.dT rfl (u _ rfl) [(36,.t (vi r22)),(37,.t (vi fn2)),(38,.t (vi (IntKind.wrap .i64 (fn2 - 1)))),(39,.t (vb r26)),(40,.t (vb (!r26))),(41,.t (vb (!r26))),(42,.tup []),(43,.tup []),(44,.tup []),(45,.tup []),(46,.tup []),(47,.tup []),(48,.tup []),(49,.tup []),(50,.tup []),(51,.tup [])] [[],[],[1],[0,1,2],[0,1,2,3],[0,1,2,3,4],[0,1,2,3,4,5],[0,1,2,3,4,5,6],[0,1,2,3,4,5],[0,1,2,3,4,5,6,7,8],[0,1,2,3,4,5,6,7,8,9],[0,1,2,3,4,5,6,7,8,9,10],[0,1,2,3,4,5,6,7,8,9,10,11],[0,1,2,3,4,5],[0,1,2,3,4,5,13],[0,1,2,3,4,5,13,14],[0,1,2,3,4,5,6,7,8,9,10,11,12,13,14,15],[0,1,2,3,4,5,6,7,8,9,10,11,12,13,14,15,16]] (by simp) (by simp) (by simp [look]) rfl rfl rfl ?_ fun K q=>?_
      ·refine ⟨?_,?_,?_,?_,?_,?_,?_,?_,?_,?_,?_,?_,?_,?_,?_,?_,trivial⟩
       all_goals (intro τ hbx hb hd hf K q;try simp [vsAt] at hd;simp [vsAt] at hf;first | (refine wC rfl fun K' q'=>?_;simp [y,hbx,hb,hd,hf,hb28,hb28s];exact q' _ (wN (q _ (by simp [vsAt,hbx,hb28,hb28s])))) | (refine wL [(.take,.tmp 36),(.take,.const (.int .i64 0)),(.take,.tmp 38)] rfl rfl kO (aQ _ _ _ hc27) fun K' q'=>?_;simp [y,hbx,hb,hd,hf,hb28,hb28s];exact q' _ (wN (q _ (by simp [vsAt,hbx,hb28,hb28s])))) | (refine wO fun K' q'=>?_;simp [y,hbx,hb,hd,hf,hb28,hb28s];exact q' _ (wN (q _ (by simp [vsAt,hbx,hb28,hb28s])))))
      refine wO fun K q=>?_;simp [y,hb28,hb28s];refine q _ ?_;clear q
      refine wC rfl fun K q=>?_;simp [y,hb28,hb28s];refine q _ ?_;clear q
      refine wN (q _ ?_);clear q
      cases hj24
      exact hK25 _ () [] trivial (by simp [y,hb28,hb28s])
     ·have hb29s:=hb29
      try simp at hb29s
      obtain ⟨e30,he30,hj24⟩:=bS hj24
      obtain ⟨he30a,he30b,he30c,he30d⟩:=gS he30
      refine SWp.dT rfl (u _ rfl) [(36,.t (vi r22)),(37,.t (vi fn2)),(38,.t (vi (IntKind.wrap .i64 (fn2 - 1)))),(39,.t (vb r26)),(40,.t (vb (!r26))),(41,.t (vb (!r26))),(42,.ref (.box 4) 1 []),(43,.t (.sl false 5 (List.map (GFn.enc false) p1.Fns))),(44,.t (vi r22)),(45,.rop [vs e30.Name,.sl false 2 (List.map GParam.enc e30.Params),vi e30.Res,vi e30.Body,vi e30.Ret] 0),(46,.rop [vs e30.Name,.sl false 2 (List.map GParam.enc e30.Params),vi e30.Res,vi e30.Body,vi e30.Ret] 1),(47,.t (.sl false 2 (List.map GParam.enc e30.Params))),(48,.t (vi (e30.Params.length:Int))),(49,.ref (.box 9) 3 []),(50,.t (.sl false 1 (List.map vi e5.Kids))),(51,.t (vi (e5.Kids.length:Int)))] [[],[],[1],[0,1,2],[0,1,2,3],[0,1,2,3,4],[0,1,2,3,4,5],[0,1,2,3,4,5,6],[0,1,2,3,4,5],[0,1,2,3,4,5,6,7,8],[0,1,2,3,4,5,6,7,8,9],[0,1,2,3,4,5,6,7,8,9,10],[0,1,2,3,4,5,6,7,8,9,10,11],[0,1,2,3,4,5],[0,1,2,3,4,5,13],[0,1,2,3,4,5,13,14],[0,1,2,3,4,5,6,7,8,9,10,11,12,13,14,15],[0,1,2,3,4,5,6,7,8,9,10,11,12,13,14,15,16]] (by simp) (by simp) (by simp [look]) rfl rfl rfl ?_ fun K q=>?_
      ·refine ⟨?_,?_,?_,?_,?_,?_,?_,?_,?_,?_,?_,?_,?_,?_,?_,?_,trivial⟩
       all_goals (intro τ hbx hb hd hf K q;try simp [vsAt] at hd;simp [vsAt] at hf;first | (refine wC rfl fun K' q'=>?_;simp [y,hbx,hb,hd,hf,hb29,hb29s,he30a,he30b,he30c,he30d];exact q' _ (wN (q _ (by simp [vsAt,hbx,hb29,hb29s,he30a,he30b,he30c,he30d])))) | (refine wL [(.take,.tmp 36),(.take,.const (.int .i64 0)),(.take,.tmp 38)] rfl rfl kO (aQ _ _ _ hc27) fun K' q'=>?_;simp [y,hbx,hb,hd,hf,hb29,hb29s,he30a,he30b,he30c,he30d];exact q' _ (wN (q _ (by simp [vsAt,hbx,hb29,hb29s,he30a,he30b,he30c,he30d])))))
      iterate 2 (refine wC rfl fun K q=>?_;simp [y,hb29,hb29s,he30a,he30b,he30c,he30d];refine q _ ?_;clear q)
      refine wN (q _ ?_);clear q
      cases hj24
      exact hK25 _ () [] trivial (by simp [y,hb29,hb29s,he30a,he30b,he30c,he30d])
    rcases aA hj17 with ⟨hb32,hj17⟩ | ⟨hb33,hj17⟩
    ·refine SWp.cT' (b:=v31) (by simp) hb32 ?_
     refine SWp.sR rfl (u _ rfl) fun K q=>?_
     refine wC rfl fun K q=>?_;simp [y];refine q _ ?_;clear q
     refine wN (q _ ?_);clear q
     cases hj17
     try dsimp only at h
     cases h
     refine SWp.ret ?_
     simp [aC,iB,res49]
    ·refine SWp.cF' (b:=v31) (by simp) hb33 ?_
     refine SWp.skip ?_
     cases hj17
     exact hK18 _ _ [] rfl (by simp [y])
   ·refine SWp.cF' (b:=e5.Kind == 12) (by simp) hb21 ?_
    refine SWp.skip ?_
    cases hj17
    exact hK18 _ _ [] rfl (by simp [y])
  subst hv
  obtain ⟨⟩:=v
  try dsimp only at h ⊢
  refine SWp.sR rfl (u _ rfl) fun K q=>?_
  refine wC rfl fun K q=>?_;simp [y];refine q _ ?_;clear q
  obtain ⟨l34,hl34,h⟩:=bS h
  obtain ⟨hl34a,hl34b,hl34d⟩:=aS hl34
  simp [eSl] at hl34a hl34b
  iterate 2 (refine wC rfl fun K q=>?_;simp [y,hl34a,hl34b];refine q _ ?_;clear q)
  refine wN (q _ ?_);clear q
  obtain ⟨j37,hj35,h⟩:=bS h
  refine SWp.seqC [] [] (fun v:Unit=>⟨[],[]⟩) (fun v=>j37=Sum.inl v) (fun v hv=>?_) fun K36 hK36=>?_
  rotate_left
  ·refine SWp.sR rfl (u _ rfl) fun K q=>?_
   iterate 4 (refine wC rfl fun K q=>?_;simp [y];refine q _ ?_;clear q)
   refine wN (q _ ?_);clear q
   refine SWp.block ?_
   refine SWp.loopO [] [1,4,9,11,57,58,59] [4,9] (fun v:(List ByteArray) × Int=>⟨[(1,.t (vi fn2)),(4,.ref (.box 4) 0 []),(9,.ref (.box 9) 0 []),(11,.t (.sl true 1 (List.map vs v.1))),(57,.t (.sl false 1 (List.map vi e5.Kids))),(58,.t (vi (e5.Kids.length:Int))),(59,.t (vi v.2))],[(4,[.sl false 4 (List.map (GNode.enc false) p1.Nodes),.sl false 5 (List.map (GFn.enc false) p1.Fns)]),(9,[vi e5.Kind,vi e5.Num,vs e5.Name,.sl false 1 (List.map vi e5.Kids)])]⟩) (eY rec_impl_seen p1 fn2 e5) _ (names4,0) hj35 (by simp [y]) ?_
   intro g s42 h40 ho41
   obtain ⟨inner38,v39⟩:=g
   simp only [eY] at h40
   try dsimp only
   refine SWp.sR rfl (u _ rfl) fun K q=>?_
   refine wC rfl fun K q=>?_;simp [y];refine q _ ?_;clear q
   refine wN (q _ ?_);clear q
   refine SWp.seq ?_
   rcases aA h40 with ⟨hb43,h40⟩ | ⟨hb44,h40⟩
   ·refine SWp.cT' (b:=decide (v39 < (e5.Kids.length:Int))) (by simp) hb43 ?_
    refine SWp.skip ?_
    show SWp E C _ _ _
    refine SWp.seq ?_
    refine SWp.block ?_
    refine SWp.sR rfl (u _ rfl) fun K q=>?_
    obtain ⟨e45,he45,h40⟩:=bS h40
    obtain ⟨he45a,he45b,he45c,he45d⟩:=gS he45
    iterate 3 (refine wC rfl fun K q=>?_;simp [y,he45a,he45b,he45c,he45d];refine q _ ?_;clear q)
    refine wN (q _ ?_);clear q
    refine SWp.seq ?_
    refine SWp.sR rfl (u _ rfl) fun K q=>?_
    iterate 4 (refine wC rfl fun K q=>?_;simp [y];refine q _ ?_;clear q)
    obtain ⟨r46,hc47,h40⟩:=bS h40
    refine wL [(.take,.tmp 63),(.take,.tmp 64),(.take,.tmp 65),(.bor,.tmp 66)] rfl rfl ent49 (hrec_impl_seen _ _ _ _ hc47) fun K q=>?_;simp [y];refine q _ ?_;clear q
    refine wC rfl fun K q=>?_;simp [y];refine q _ ?_;clear q
    refine wN (q _ ?_);clear q
    rcases aA h40 with ⟨hb48,h40⟩ | ⟨hb49,h40⟩
    ·refine SWp.cT' (b:=!r46) (by simp) hb48 ?_
     refine SWp.sR rfl (u _ rfl) fun K q=>?_
     refine wC rfl fun K q=>?_;simp [y];refine q _ ?_;clear q
     refine wN (q _ ?_);clear q
     have h50:=congrArg some (ho41 _ (Option.some.inj h40).symm)
     cases h50
     try dsimp only at h
     cases h
     refine SWp.ret ?_
     simp [aC,iB,res49]
    ·refine SWp.cF' (b:=!r46) (by simp) hb49 ?_
     refine SWp.skip ?_
     show SWp E C _ _ _
     obtain ⟨v56,hj51,h40⟩:=bS h40
     refine SWp.seqRC rfl (u _ rfl) [1,4,9,11,13,57,58,59,80] [4,9] (fun _:Unit=>⟨[(1,.t (vi fn2)),(4,.ref (.box 4) 0 []),(9,.ref (.box 9) 0 []),(11,.t (.sl true 1 (List.map vs inner38))),(13,.t (vi e45)),(57,.t (.sl false 1 (List.map vi e5.Kids))),(58,.t (vi (e5.Kids.length:Int))),(59,.t (vi v39)),(80,.t (vb v56))],[(4,[.sl false 4 (List.map (GNode.enc false) p1.Nodes),.sl false 5 (List.map (GFn.enc false) p1.Fns)]),(9,[vi e5.Kind,vi e5.Num,vs e5.Name,.sl false 1 (List.map vi e5.Kids)])]⟩) (fun _=>True) (fun _ _=>?_) fun K52 hK52=>?_
     rotate_left
     ·refine wC rfl fun K q=>?_;simp [y];refine q _ ?_;clear q
      iterate 3 (refine wC rfl fun K q=>?_;simp [y];refine q _ ?_;clear q)
      rcases aA hj51 with ⟨hb53,hj51⟩ | ⟨hb54,hj51⟩
      ·have hb53s:=hb53
       try simp at hb53s
       iterate 3 (refine wC rfl fun K q=>?_;simp [y,hb53,hb53s];refine q _ ?_;clear q)
       obtain ⟨e55,he55,hj51⟩:=bS hj51
       obtain ⟨he55a,he55b,he55c,he55d⟩:=gS he55
       iterate 5 (refine wC rfl fun K q=>?_;simp [y,hb53,hb53s,he55a,he55b,he55c,he55d];refine q _ ?_;clear q)
       refine wN ?_
       cases hj51
       exact hK52 _ () [] trivial (by simp [y,hb53,hb53s,he55a,he55b,he55c,he55d])
      ·have hb54s:=hb54
       try simp at hb54s
       iterate 7 (refine wO fun K q=>?_;simp [y,hb54,hb54s];refine q _ ?_;clear q)
       refine wC rfl fun K q=>?_;simp [y,hb54,hb54s];refine q _ ?_;clear q
       refine wN ?_
       cases hj51
       exact hK52 _ () [] trivial (by simp [y,hb54,hb54s])
     rcases aA h40 with ⟨hb57,h40⟩ | ⟨hb58,h40⟩
     ·refine SWp.cT' (b:=v56) (by simp) hb57 ?_
      refine SWp.reg rfl (u _ rfl) fun K q=>?_
      iterate 4 (refine wC rfl fun K q=>?_;simp [y];refine q _ ?_;clear q)
      obtain ⟨e59,he59,h40⟩:=bS h40
      obtain ⟨he59a,he59b,he59c,he59d⟩:=gS he59
      iterate 4 (refine wC rfl fun K q=>?_;simp [y,he59a,he59b,he59c,he59d];refine q _ ?_;clear q)
      obtain ⟨l60,hl60,h40⟩:=bS h40
      obtain ⟨hl60a,hl60b,hl60d⟩:=aS hl60
      have hl60f:List.map vs inner38 ++ List.map vs [e59.Name]=List.map vs l60:=dV (f:=vs) hl60d
      simp [eSl] at hl60a hl60b hl60f
      iterate 2 (refine wC rfl fun K q=>?_;simp [y,he59a,he59b,he59c,he59d,hl60a,hl60b,hl60f];refine q _ ?_;clear q)
      refine wN (q _ ?_);clear q
      show SWp E C _ _ _
      refine SWp.reg rfl (u _ rfl) fun K q=>?_
      iterate 2 (refine wC rfl fun K q=>?_;simp [y];refine q _ ?_;clear q)
      refine wN (q _ ?_);clear q
      cases h40
      exact ⟨_,[],rfl,by simp [y]⟩
     ·refine SWp.cF' (b:=v56) (by simp) hb58 ?_
      refine SWp.skip ?_
      show SWp E C _ _ _
      refine SWp.reg rfl (u _ rfl) fun K q=>?_
      iterate 2 (refine wC rfl fun K q=>?_;simp [y];refine q _ ?_;clear q)
      refine wN (q _ ?_);clear q
      cases h40
      exact ⟨_,[],rfl,by simp [y]⟩
   ·refine SWp.cF' (b:=decide (v39 < (e5.Kids.length:Int))) (by simp) hb44 ?_
    refine SWp.exit ?_
    have h61:=congrArg some (ho41 _ (Option.some.inj h40).symm)
    cases h61
    exact hK36 _ _ [] rfl (by simp [y])
  subst hv
  obtain ⟨⟩:=v
  try dsimp only at h ⊢
  refine SWp.sR rfl (u _ rfl) fun K q=>?_
  refine wC rfl fun K q=>?_;simp [y];refine q _ ?_;clear q
  refine wN (q _ ?_);clear q
  cases h
  refine SWp.ret ?_
  simp [aC,iB,res49]
theorem mU:∀ n:Nat,(∀ (a0:GProgram) (a1:Int) (a2:Int) (a3:List ByteArray) {r0:Bool},(cT n) a0 a1 a2 a3=some r0→Ok E 49 [.val (GProgram.enc false a0),.val (vi a1),.val (vi a2),.val (.sl false 1 (List.map vs a3))] [vb r0] [])
 | 0=>(by intros;rename_i h;cases h)
 | n + 1=>impl_seen_b_ok (cT n) (mU n)
theorem impl_seen_ok:∀ (a0:GProgram) (a1:Int) (a2:Int) (a3:List ByteArray) {r0:Bool},oA a0 a1 a2 a3=some r0→Ok E 49 [.val (GProgram.enc false a0),.val (vi a1),.val (vi a2),.val (.sl false 1 (List.map vs a3))] [vb r0] []:=(mU dG)
theorem res20:Tryz.f20.results.toList=[.tmp 2]:=rfl
theorem ent20:aF E.P 20:=eO Tryz.func20 (by simp [Tryz.f20]) rfl
theorem qS (p1:GProgram) {r0:Bool} (h:fA p1=some r0):Ok E 20 [.val (GProgram.enc false p1)] [vb r0] []:=by
 refine oB (fn:=Tryz.f20) Tryz.func20 rfl (by simp [Tryz.f20]) fun C hN hP=>?_
 have hPB:∀ l,pinK [] l=true→pinB C.pin l=true:=pO (by rw [hP];rfl)
 have hN':C.N=87:=hN
 clear hN
 unfold fA at h
 refine SWp.sR rfl (hPB _ rfl) fun K hK=>?_
 iterate 2 (refine wC rfl fun K hK=>?_;simp [hN'];refine hK _ ?_;clear hK)
 refine wN (hK _ ?_);clear hK
 refine SWp.seq ?_
 refine SWp.sR rfl (hPB _ rfl) fun K hK=>?_
 refine wC rfl fun K hK=>?_;simp [hN'];refine hK _ ?_;clear hK
 obtain ⟨r2,hc3,h⟩:=bS h
 refine wL [(.take,.tmp 10)] rfl rfl ent28 (impl_ProgramOk_ok _ hc3) fun K hK=>?_;simp [hN'];refine hK _ ?_;clear hK
 refine wC rfl fun K hK=>?_;simp [hN'];refine hK _ ?_;clear hK
 refine wN (hK _ ?_);clear hK
 rcases aA h with ⟨hb4,h⟩ | ⟨hb5,h⟩
 ·refine SWp.cT' (b:=!r2) (by simp) hb4 ?_
  refine SWp.sR rfl (hPB _ rfl) fun K hK=>?_
  refine wC rfl fun K hK=>?_;simp [hN'];refine hK _ ?_;clear hK
  refine wN (hK _ ?_);clear hK
  cases h
  refine SWp.ret ?_
  simp [aC,iB,res20]
 ·refine SWp.cF' (b:=!r2) (by simp) hb5 ?_
  refine SWp.skip ?_
  show SWp E C _ _ _
  obtain ⟨j8,hj6,h⟩:=bS h
  refine SWp.seqC [] [] (fun v:Unit=>⟨[],[]⟩) (fun v=>j8=Sum.inl v) (fun v hv=>?_) fun K7 hK7=>?_
  rotate_left
  ·refine SWp.sR rfl (hPB _ rfl) fun K hK=>?_
   iterate 4 (refine wC rfl fun K hK=>?_;simp [hN'];refine hK _ ?_;clear hK)
   refine wN (hK _ ?_);clear hK
   refine SWp.block ?_
   refine SWp.loopO [] [1,14,15,16] [1] (fun v:Int=>⟨[(1,.ref (.box 1) 0 []),(14,.t (.sl false 5 (List.map (GFn.enc false) p1.Fns))),(15,.t (vi (p1.Fns.length:Int))),(16,.t (vi v))],[(1,[.sl false 4 (List.map (GNode.enc false) p1.Nodes),.sl false 5 (List.map (GFn.enc false) p1.Fns)])]⟩) (bP p1) _ 0 hj6 (by simp [hN']) ?_
   intro g s12 h10 ho11
   obtain ⟨v9,hg⟩:∃ y,y=g:=⟨_,rfl⟩
   subst hg
   simp only [bP] at h10
   try dsimp only
   refine SWp.sR rfl (hPB _ rfl) fun K hK=>?_
   refine wC rfl fun K hK=>?_;simp [hN'];refine hK _ ?_;clear hK
   refine wN (hK _ ?_);clear hK
   refine SWp.seq ?_
   rcases aA h10 with ⟨hb13,h10⟩ | ⟨hb14,h10⟩
   ·refine SWp.cT' (b:=decide (v9 < (p1.Fns.length:Int))) (by simp) hb13 ?_
    refine SWp.skip ?_
    show SWp E C _ _ _
    obtain ⟨j17,hj15,h10⟩:=bS h10
    refine SWp.seqC [1,14,15,16] [1] (fun v:Unit=>⟨[(1,.ref (.box 1) 0 []),(14,.t (.sl false 5 (List.map (GFn.enc false) p1.Fns))),(15,.t (vi (p1.Fns.length:Int))),(16,.t (vi v9))],[(1,[.sl false 4 (List.map (GNode.enc false) p1.Nodes),.sl false 5 (List.map (GFn.enc false) p1.Fns)])]⟩) (fun v=>j17=Sum.inl v) (fun v hv=>?_) fun K16 hK16=>?_
    rotate_left
    ·refine SWp.block ?_
     refine SWp.sR rfl (hPB _ rfl) fun K hK=>?_
     refine wC rfl fun K hK=>?_;simp [hN'];refine hK _ ?_;clear hK
     obtain ⟨e18,he18,hj15⟩:=bS hj15
     obtain ⟨he18a,he18b,he18c,he18d⟩:=gS he18
     iterate 5 (refine wC rfl fun K hK=>?_;simp [hN',he18a,he18b,he18c,he18d];refine hK _ ?_;clear hK)
     refine wN (hK _ ?_);clear hK
     refine SWp.seq ?_
     refine SWp.sR rfl (hPB _ rfl) fun K hK=>?_
     iterate 2 (refine wC rfl fun K hK=>?_;simp [hN'];refine hK _ ?_;clear hK)
     obtain ⟨r19,hc20,hj15⟩:=bS hj15
     refine wL [(.take,.tmp 21),(.take,.tmp 22)] rfl rfl ent48 (impl_namesOf_ok _ _ hc20) fun K hK=>?_;simp [hN'];refine hK _ ?_;clear hK
     refine wC rfl fun K hK=>?_;simp [hN'];refine hK _ ?_;clear hK
     refine wN (hK _ ?_);clear hK
     rcases aA hj15 with ⟨hb21,hj15⟩ | ⟨hb22,hj15⟩
     ·refine SWp.cT' (b:=!r19) (by simp) hb21 ?_
      refine SWp.sR rfl (hPB _ rfl) fun K hK=>?_
      refine wC rfl fun K hK=>?_;simp [hN'];refine hK _ ?_;clear hK
      refine wN (hK _ ?_);clear hK
      cases hj15
      try dsimp only at h10
      have h23:=congrArg some (ho11 _ (Option.some.inj h10).symm)
      cases h23
      try dsimp only at h
      cases h
      refine SWp.ret ?_
      simp [aC,iB,res20]
     ·refine SWp.cF' (b:=!r19) (by simp) hb22 ?_
      refine SWp.skip ?_
      show SWp E C _ _ _
      refine SWp.sR rfl (hPB _ rfl) fun K hK=>?_
      refine wC rfl fun K hK=>?_;simp [hN'];refine hK _ ?_;clear hK
      refine wN (hK _ ?_);clear hK
      obtain ⟨names37,hj24,hj15⟩:=bS hj15
      refine SWp.seqC [1,3,4,5,14,15,16] [1,4] (fun _:Unit=>⟨[(1,.ref (.box 1) 0 []),(3,.t (vi v9)),(4,.ref (.box 4) 0 []),(5,.t (.sl true 1 (List.map vs names37))),(14,.t (.sl false 5 (List.map (GFn.enc false) p1.Fns))),(15,.t (vi (p1.Fns.length:Int))),(16,.t (vi v9))],[(1,[.sl false 4 (List.map (GNode.enc false) p1.Nodes),.sl false 5 (List.map (GFn.enc false) p1.Fns)]),(4,[vs e18.Name,.sl false 2 (List.map GParam.enc e18.Params),vi e18.Res,vi e18.Body,vi e18.Ret])]⟩) (fun _=>True) (fun _ _=>?_) fun K25 hK25=>?_
      rotate_left
      ·refine SWp.sR rfl (hPB _ rfl) fun K hK=>?_
       iterate 4 (refine wC rfl fun K hK=>?_;simp [hN'];refine hK _ ?_;clear hK)
       refine wN (hK _ ?_);clear hK
       refine SWp.block ?_
       refine SWp.loopO [] [1,3,4,5,14,15,16,26,27,28] [1,4] (fun v:(List ByteArray) × Int=>⟨[(1,.ref (.box 1) 0 []),(3,.t (vi v9)),(4,.ref (.box 4) 0 []),(5,.t (.sl true 1 (List.map vs v.1))),(14,.t (.sl false 5 (List.map (GFn.enc false) p1.Fns))),(15,.t (vi (p1.Fns.length:Int))),(16,.t (vi v9)),(26,.t (.sl false 2 (List.map GParam.enc e18.Params))),(27,.t (vi (e18.Params.length:Int))),(28,.t (vi v.2))],[(1,[.sl false 4 (List.map (GNode.enc false) p1.Nodes),.sl false 5 (List.map (GFn.enc false) p1.Fns)]),(4,[vs e18.Name,.sl false 2 (List.map GParam.enc e18.Params),vi e18.Res,vi e18.Body,vi e18.Ret])]⟩) (bF e18) _ ([],0) hj24 (by simp [hN']) ?_
       intro g s31 h29 ho30
       obtain ⟨names27,v28⟩:=g
       simp only [bF] at h29
       try dsimp only
       refine SWp.sR rfl (hPB _ rfl) fun K hK=>?_
       refine wC rfl fun K hK=>?_;simp [hN'];refine hK _ ?_;clear hK
       refine wN (hK _ ?_);clear hK
       refine SWp.seq ?_
       rcases aA h29 with ⟨hb32,h29⟩ | ⟨hb33,h29⟩
       ·refine SWp.cT' (b:=decide (v28 < (e18.Params.length:Int))) (by simp) hb32 ?_
        refine SWp.skip ?_
        show SWp E C _ _ _
        refine SWp.seq ?_
        refine SWp.block ?_
        refine SWp.sR rfl (hPB _ rfl) fun K hK=>?_
        obtain ⟨e34,he34,h29⟩:=bS h29
        obtain ⟨he34a,he34b,he34c,he34d⟩:=gS he34
        iterate 4 (refine wC rfl fun K hK=>?_;simp [hN',he34a,he34b,he34c,he34d];refine hK _ ?_;clear hK)
        refine wN (hK _ ?_);clear hK
        refine SWp.reg rfl (hPB _ rfl) fun K hK=>?_
        iterate 4 (refine wC rfl fun K hK=>?_;simp [hN'];refine hK _ ?_;clear hK)
        obtain ⟨l35,hl35,h29⟩:=bS h29
        obtain ⟨hl35a,hl35b,hl35d⟩:=aS hl35
        have hl35f:List.map vs names27 ++ List.map vs [e34.Name]=List.map vs l35:=dV (f:=vs) hl35d
        simp [eSl] at hl35a hl35b hl35f
        iterate 2 (refine wC rfl fun K hK=>?_;simp [hN',hl35a,hl35b,hl35f];refine hK _ ?_;clear hK)
        refine wN (hK _ ?_);clear hK
        show SWp E C _ _ _
        refine SWp.reg rfl (hPB _ rfl) fun K hK=>?_
        iterate 2 (refine wC rfl fun K hK=>?_;simp [hN'];refine hK _ ?_;clear hK)
        refine wN (hK _ ?_);clear hK
        cases h29
        exact ⟨_,[],rfl,by simp [hN']⟩
       ·refine SWp.cF' (b:=decide (v28 < (e18.Params.length:Int))) (by simp) hb33 ?_
        refine SWp.exit ?_
        have h36:=congrArg some (ho30 _ (Option.some.inj h29).symm)
        cases h36
        exact hK25 _ () [] trivial (by simp [hN'])
      refine SWp.seq ?_
      refine SWp.sR rfl (hPB _ rfl) fun K hK=>?_
      iterate 5 (refine wC rfl fun K hK=>?_;simp [hN'];refine hK _ ?_;clear hK)
      obtain ⟨r38,hc39,hj15⟩:=bS hj15
      refine wL [(.take,.tmp 38),(.take,.tmp 39),(.take,.tmp 41),(.bor,.tmp 42)] rfl rfl ent49 (impl_seen_ok _ _ _ _ hc39) fun K hK=>?_;simp [hN'];refine hK _ ?_;clear hK
      refine wC rfl fun K hK=>?_;simp [hN'];refine hK _ ?_;clear hK
      refine wN (hK _ ?_);clear hK
      rcases aA hj15 with ⟨hb40,hj15⟩ | ⟨hb41,hj15⟩
      ·refine SWp.cT' (b:=!r38) (by simp) hb40 ?_
       refine SWp.sR rfl (hPB _ rfl) fun K hK=>?_
       refine wC rfl fun K hK=>?_;simp [hN'];refine hK _ ?_;clear hK
       refine wN (hK _ ?_);clear hK
       cases hj15
       try dsimp only at h10
       have h42:=congrArg some (ho11 _ (Option.some.inj h10).symm)
       cases h42
       try dsimp only at h
       cases h
       refine SWp.ret ?_
       simp [aC,iB,res20]
      ·refine SWp.cF' (b:=!r38) (by simp) hb41 ?_
       refine SWp.skip ?_
       show SWp E C _ _ _
       obtain ⟨names61,hj43,hj15⟩:=bS hj15
       refine SWp.seqC [1,3,4,5,14,15,16] [1,4] (fun _:Unit=>⟨[(1,.ref (.box 1) 0 []),(3,.t (vi v9)),(4,.ref (.box 4) 0 []),(5,.t (.sl true 1 (List.map vs names61))),(14,.t (.sl false 5 (List.map (GFn.enc false) p1.Fns))),(15,.t (vi (p1.Fns.length:Int))),(16,.t (vi v9))],[(1,[.sl false 4 (List.map (GNode.enc false) p1.Nodes),.sl false 5 (List.map (GFn.enc false) p1.Fns)]),(4,[vs e18.Name,.sl false 2 (List.map GParam.enc e18.Params),vi e18.Res,vi e18.Body,vi e18.Ret])]⟩) (fun _=>True) (fun _ _=>?_) fun K44 hK44=>?_
       rotate_left
       ·refine SWp.sR rfl (hPB _ rfl) fun K hK=>?_
        iterate 4 (refine wC rfl fun K hK=>?_;simp [hN'];refine hK _ ?_;clear hK)
        obtain ⟨e46,he46,hj43⟩:=bS hj43
        obtain ⟨he46a,he46b,he46c,he46d⟩:=gS he46
        have he46j:=he46b;try simp at he46j
        try simp only [Int.toNat_natCast] at he46c he46d
        iterate 5 (refine wC rfl fun K hK=>?_;simp [hN',he46a,he46b,he46c,he46d,he46j];refine hK _ ?_;clear hK)
        refine wN (hK _ ?_);clear hK
        refine SWp.block ?_
        refine SWp.loopO [] [1,3,4,5,14,15,16,51,52,53] [1,4] (fun v:(List ByteArray) × Int=>⟨[(1,.ref (.box 1) 0 []),(3,.t (vi v9)),(4,.ref (.box 4) 0 []),(5,.t (.sl true 1 (List.map vs v.1))),(14,.t (.sl false 5 (List.map (GFn.enc false) p1.Fns))),(15,.t (vi (p1.Fns.length:Int))),(16,.t (vi v9)),(51,.t (.sl false 1 (List.map vi e46.Kids))),(52,.t (vi (e46.Kids.length:Int))),(53,.t (vi v.2))],[(1,[.sl false 4 (List.map (GNode.enc false) p1.Nodes),.sl false 5 (List.map (GFn.enc false) p1.Fns)]),(4,[vs e18.Name,.sl false 2 (List.map GParam.enc e18.Params),vi e18.Res,vi e18.Body,vi e18.Ret])]⟩) (bE p1 e46) _ (names37,0) hj43 (by simp [hN']) ?_
        intro g s51 h49 ho50
        obtain ⟨names47,v48⟩:=g
        simp only [bE] at h49
        try dsimp only
        refine SWp.sR rfl (hPB _ rfl) fun K hK=>?_
        refine wC rfl fun K hK=>?_;simp [hN'];refine hK _ ?_;clear hK
        refine wN (hK _ ?_);clear hK
        refine SWp.seq ?_
        rcases aA h49 with ⟨hb52,h49⟩ | ⟨hb53,h49⟩
        ·refine SWp.cT' (b:=decide (v48 < (e46.Kids.length:Int))) (by simp) hb52 ?_
         refine SWp.skip ?_
         show SWp E C _ _ _
         refine SWp.seq ?_
         refine SWp.block ?_
         refine SWp.sR rfl (hPB _ rfl) fun K hK=>?_
         obtain ⟨e54,he54,h49⟩:=bS h49
         obtain ⟨he54a,he54b,he54c,he54d⟩:=gS he54
         iterate 3 (refine wC rfl fun K hK=>?_;simp [hN',he54a,he54b,he54c,he54d];refine hK _ ?_;clear hK)
         refine wN (hK _ ?_);clear hK
         refine SWp.sR rfl (hPB _ rfl) fun K hK=>?_
         iterate 3 (refine wC rfl fun K hK=>?_;simp [hN'];refine hK _ ?_;clear hK)
         obtain ⟨e55,he55,h49⟩:=bS h49
         obtain ⟨he55a,he55b,he55c,he55d⟩:=gS he55
         iterate 4 (refine wC rfl fun K hK=>?_;simp [hN',he55a,he55b,he55c,he55d];refine hK _ ?_;clear hK)
         refine wN (hK _ ?_);clear hK
         rcases aA h49 with ⟨hb56,h49⟩ | ⟨hb57,h49⟩
         ·refine SWp.cT' (b:=e55.Kind == 13) (by simp) hb56 ?_
          refine SWp.reg rfl (hPB _ rfl) fun K hK=>?_
          iterate 4 (refine wC rfl fun K hK=>?_;simp [hN'];refine hK _ ?_;clear hK)
          obtain ⟨e58,he58,h49⟩:=bS h49
          obtain ⟨he58a,he58b,he58c,he58d⟩:=gS he58
          iterate 4 (refine wC rfl fun K hK=>?_;simp [hN',he58a,he58b,he58c,he58d];refine hK _ ?_;clear hK)
          obtain ⟨l59,hl59,h49⟩:=bS h49
          obtain ⟨hl59a,hl59b,hl59d⟩:=aS hl59
          have hl59f:List.map vs names47 ++ List.map vs [e58.Name]=List.map vs l59:=dV (f:=vs) hl59d
          simp [eSl] at hl59a hl59b hl59f
          iterate 2 (refine wC rfl fun K hK=>?_;simp [hN',he58a,he58b,he58c,he58d,hl59a,hl59b,hl59f];refine hK _ ?_;clear hK)
          refine wN (hK _ ?_);clear hK
          show SWp E C _ _ _
          refine SWp.reg rfl (hPB _ rfl) fun K hK=>?_
          iterate 2 (refine wC rfl fun K hK=>?_;simp [hN'];refine hK _ ?_;clear hK)
          refine wN (hK _ ?_);clear hK
          cases h49
          exact ⟨_,[],rfl,by simp [hN']⟩
         ·refine SWp.cF' (b:=e55.Kind == 13) (by simp) hb57 ?_
          refine SWp.skip ?_
          show SWp E C _ _ _
          refine SWp.reg rfl (hPB _ rfl) fun K hK=>?_
          iterate 2 (refine wC rfl fun K hK=>?_;simp [hN'];refine hK _ ?_;clear hK)
          refine wN (hK _ ?_);clear hK
          cases h49
          exact ⟨_,[],rfl,by simp [hN']⟩
        ·refine SWp.cF' (b:=decide (v48 < (e46.Kids.length:Int))) (by simp) hb53 ?_
         refine SWp.exit ?_
         have h60:=congrArg some (ho50 _ (Option.some.inj h49).symm)
         cases h60
         exact hK44 _ () [] trivial (by simp [hN'])
       obtain ⟨v68,hj62,hj15⟩:=bS hj15
       refine SWp.seqRC rfl (hPB _ rfl) [1,14,15,16,85] [1] (fun _:Unit=>⟨[(1,.ref (.box 1) 0 []),(14,.t (.sl false 5 (List.map (GFn.enc false) p1.Fns))),(15,.t (vi (p1.Fns.length:Int))),(16,.t (vi v9)),(85,.t (vb v68))],[(1,[.sl false 4 (List.map (GNode.enc false) p1.Nodes),.sl false 5 (List.map (GFn.enc false) p1.Fns)])]⟩) (fun _=>True) (fun _ _=>?_) fun K63 hK63=>?_
       rotate_left
       ·refine wC rfl fun K hK=>?_;simp [hN'];refine hK _ ?_;clear hK
        iterate 3 (refine wC rfl fun K hK=>?_;simp [hN'];refine hK _ ?_;clear hK)
        rcases aA hj62 with ⟨hb64,hj62⟩ | ⟨hb65,hj62⟩
        ·have hb64s:=hb64
         try simp at hb64s
         iterate 5 (refine wC rfl fun K hK=>?_;simp [hN',hb64,hb64s];refine hK _ ?_;clear hK)
         obtain ⟨r66,hc67,hj62⟩:=bS hj62
         refine wL [(.take,.tmp 78),(.take,.tmp 79),(.take,.tmp 81),(.bor,.tmp 82)] rfl rfl ent49 (impl_seen_ok _ _ _ _ hc67) fun K hK=>?_;simp [hN',hb64,hb64s];refine hK _ ?_;clear hK
         iterate 2 (refine wC rfl fun K hK=>?_;simp [hN',hb64,hb64s];refine hK _ ?_;clear hK)
         refine wN ?_
         cases hj62
         exact hK63 _ () [] trivial (by simp [hN',hb64,hb64s])
        ·have hb65s:=hb65
         try simp at hb65s
         iterate 7 (refine wO fun K hK=>?_;simp [hN',hb65,hb65s];refine hK _ ?_;clear hK)
         refine wC rfl fun K hK=>?_;simp [hN',hb65,hb65s];refine hK _ ?_;clear hK
         refine wN ?_
         cases hj62
         exact hK63 _ () [] trivial (by simp [hN',hb65,hb65s])
       rcases aA hj15 with ⟨hb69,hj15⟩ | ⟨hb70,hj15⟩
       ·refine SWp.cT' (b:=v68) (by simp) hb69 ?_
        refine SWp.sR rfl (hPB _ rfl) fun K hK=>?_
        refine wC rfl fun K hK=>?_;simp [hN'];refine hK _ ?_;clear hK
        refine wN (hK _ ?_);clear hK
        cases hj15
        try dsimp only at h10
        have h71:=congrArg some (ho11 _ (Option.some.inj h10).symm)
        cases h71
        try dsimp only at h
        cases h
        refine SWp.ret ?_
        simp [aC,iB,res20]
       ·refine SWp.cF' (b:=v68) (by simp) hb70 ?_
        refine SWp.skip ?_
        cases hj15
        exact hK16 _ _ [] rfl (by simp [hN'])
    subst hv
    obtain ⟨⟩:=v
    try dsimp only at h10 ⊢
    refine SWp.reg rfl (hPB _ rfl) fun K hK=>?_
    iterate 2 (refine wC rfl fun K hK=>?_;simp [hN'];refine hK _ ?_;clear hK)
    refine wN (hK _ ?_);clear hK
    cases h10
    exact ⟨_,[],rfl,by simp [hN']⟩
   ·refine SWp.cF' (b:=decide (v9 < (p1.Fns.length:Int))) (by simp) hb14 ?_
    refine SWp.exit ?_
    have h72:=congrArg some (ho11 _ (Option.some.inj h10).symm)
    cases h72
    exact hK7 _ _ [] rfl (by simp [hN'])
  subst hv
  obtain ⟨⟩:=v
  try dsimp only at h ⊢
  refine SWp.sR rfl (hPB _ rfl) fun K hK=>?_
  refine wC rfl fun K hK=>?_;simp [hN'];refine hK _ ?_;clear hK
  refine wN (hK _ ?_);clear hK
  cases h
  refine SWp.ret ?_
  simp [aC,iB,res20]
theorem res99:Tryz.f99.results.toList=[.tmp 4]:=rfl
theorem ent99:aF E.P 99:=eO Tryz.func99 (by simp [Tryz.f99]) rfl
theorem impl_roots_ok (p1:GProgram) (fn2:Int) {r0:List Int} (h:lW p1 fn2=some r0):Ok E 99 [.val (GProgram.enc false p1),.val (vi fn2)] [.sl true 1 (List.map vi r0)] []:=by
 refine oB (fn:=Tryz.f99) Tryz.func99 rfl (by simp [Tryz.f99]) fun C hN hP=>?_
 have u:∀ l,pinK [] l=true→pinB C.pin l=true:=pO (by rw [hP];rfl)
 have y:C.N=37:=hN
 clear hN
 unfold lW at h
 refine SWp.sR rfl (u _ rfl) fun K q=>?_
 iterate 2 (refine wC rfl fun K q=>?_;simp [y];refine q _ ?_;clear q)
 refine wN (q _ ?_);clear q
 refine SWp.seq ?_
 refine SWp.sR rfl (u _ rfl) fun K q=>?_
 iterate 5 (refine wC rfl fun K q=>?_;simp [y];refine q _ ?_;clear q)
 obtain ⟨r3,hc4,h⟩:=bS h
 refine wL [(.take,.tmp 6),(.take,.const (.int .i64 0)),(.take,.tmp 10)] rfl rfl kO (aQ _ _ _ hc4) fun K q=>?_;simp [y];refine q _ ?_;clear q
 refine wC rfl fun K q=>?_;simp [y];refine q _ ?_;clear q
 refine wN (q _ ?_);clear q
 rcases aA h with ⟨hb5,h⟩ | ⟨hb6,h⟩
 ·refine SWp.cT' (b:=!r3) (by simp) hb5 ?_
  refine SWp.sR rfl (u _ rfl) fun K q=>?_
  refine wC rfl fun K q=>?_;simp [y];refine q _ ?_;clear q
  refine wN (q _ ?_);clear q
  cases h
  refine SWp.ret ?_
  simp [aC,iB,res99]
 ·refine SWp.cF' (b:=!r3) (by simp) hb6 ?_
  refine SWp.skip ?_
  show SWp E C _ _ _
  refine SWp.sR rfl (u _ rfl) fun K q=>?_
  iterate 3 (refine wC rfl fun K q=>?_;simp [y];refine q _ ?_;clear q)
  obtain ⟨e7,he7,h⟩:=bS h
  obtain ⟨he7a,he7b,he7c,he7d⟩:=gS he7
  iterate 5 (refine wC rfl fun K q=>?_;simp [y,he7a,he7b,he7c,he7d];refine q _ ?_;clear q)
  refine wN (q _ ?_);clear q
  refine SWp.seq ?_
  refine SWp.sR rfl (u _ rfl) fun K q=>?_
  iterate 3 (refine wC rfl fun K q=>?_;simp [y];refine q _ ?_;clear q)
  obtain ⟨e8,he8,h⟩:=bS h
  obtain ⟨he8a,he8b,he8c,he8d⟩:=gS he8
  iterate 4 (refine wC rfl fun K q=>?_;simp [y,he8a,he8b,he8c,he8d];refine q _ ?_;clear q)
  refine wN (q _ ?_);clear q
  rcases aA h with ⟨hb9,h⟩ | ⟨hb10,h⟩
  ·refine SWp.cT' (b:=e8.Ret != (-1)) (by simp) hb9 ?_
   refine SWp.reg rfl (u _ rfl) fun K q=>?_
   iterate 4 (refine wC rfl fun K q=>?_;simp [y];refine q _ ?_;clear q)
   obtain ⟨e11,he11,h⟩:=bS h
   obtain ⟨he11a,he11b,he11c,he11d⟩:=gS he11
   iterate 4 (refine wC rfl fun K q=>?_;simp [y,he11a,he11b,he11c,he11d];refine q _ ?_;clear q)
   obtain ⟨l12,hl12,h⟩:=bS h
   obtain ⟨hl12a,hl12b,hl12d⟩:=aS hl12
   have hl12f:List.map vi [e7.Body] ++ List.map vi [e11.Ret]=List.map vi l12:=dV (f:=vi) hl12d
   simp [eSl] at hl12a hl12b hl12f
   iterate 2 (refine wC rfl fun K q=>?_;simp [y,he11a,he11b,he11c,he11d,hl12a,hl12b,hl12f];refine q _ ?_;clear q)
   refine wN (q _ ?_);clear q
   show SWp E C _ _ _
   refine SWp.sR rfl (u _ rfl) fun K q=>?_
   iterate 2 (refine wC rfl fun K q=>?_;simp [y];refine q _ ?_;clear q)
   refine wN (q _ ?_);clear q
   cases h
   refine SWp.ret ?_
   simp [aC,iB,res99]
  ·refine SWp.cF' (b:=e8.Ret != (-1)) (by simp) hb10 ?_
   refine SWp.skip ?_
   show SWp E C _ _ _
   refine SWp.sR rfl (u _ rfl) fun K q=>?_
   iterate 2 (refine wC rfl fun K q=>?_;simp [y];refine q _ ?_;clear q)
   refine wN (q _ ?_);clear q
   cases h
   refine SWp.ret ?_
   simp [aC,iB,res99]
theorem res83:Tryz.f83.results.toList=[.tmp 4]:=rfl
theorem ent83:aF E.P 83:=eO Tryz.func83 (by simp [Tryz.f83]) rfl
theorem impl_fnNodes_ok (p1:GProgram) (fn2:Int) {r0:List Int} (h:iY p1 fn2=some r0):Ok E 83 [.val (GProgram.enc false p1),.val (vi fn2)] [.sl true 1 (List.map vi r0)] []:=by
 refine oB (fn:=Tryz.f83) Tryz.func83 rfl (by simp [Tryz.f83]) fun C hN hP=>?_
 have u:∀ l,pinK [] l=true→pinB C.pin l=true:=pO (by rw [hP];rfl)
 have y:C.N=39:=hN
 clear hN
 unfold iY at h
 refine SWp.sR rfl (u _ rfl) fun K q=>?_
 iterate 2 (refine wC rfl fun K q=>?_;simp [y];refine q _ ?_;clear q)
 refine wN (q _ ?_);clear q
 refine SWp.sR rfl (u _ rfl) fun K q=>?_
 refine wC rfl fun K q=>?_;simp [y];refine q _ ?_;clear q
 refine wN (q _ ?_);clear q
 obtain ⟨out37,hj3,h⟩:=bS h
 refine SWp.seqC [5] [] (fun _:Unit=>⟨[(5,.t (.sl true 1 (List.map vi out37)))],[]⟩) (fun _=>True) (fun _ _=>?_) fun K4 hK4=>?_
 rotate_left
 ·refine SWp.sR rfl (u _ rfl) fun K q=>?_
  iterate 2 (refine wC rfl fun K q=>?_;simp [y];refine q _ ?_;clear q)
  obtain ⟨r6,hc7,hj3⟩:=bS hj3
  refine wL [(.take,.tmp 10),(.take,.tmp 11)] rfl rfl ent99 (impl_roots_ok _ _ hc7) fun K q=>?_;simp [y];refine q _ ?_;clear q
  iterate 2 (refine wC rfl fun K q=>?_;simp [y];refine q _ ?_;clear q)
  refine wN (q _ ?_);clear q
  refine SWp.block ?_
  refine SWp.loopO [] [2,5,12,13,14] [2] (fun v:(List Int) × Int=>⟨[(2,.ref (.box 2) 0 []),(5,.t (.sl true 1 (List.map vi v.1))),(12,.t (.sl true 1 (List.map vi r6))),(13,.t (vi (r6.length:Int))),(14,.t (vi v.2))],[(2,[.sl false 4 (List.map (GNode.enc false) p1.Nodes),.sl false 5 (List.map (GFn.enc false) p1.Fns)])]⟩) (cL p1 r6) _ ([],0) hj3 (by simp [y]) ?_
  intro g s12 h10 ho11
  obtain ⟨out8,v9⟩:=g
  simp only [cL] at h10
  try dsimp only
  refine SWp.sR rfl (u _ rfl) fun K q=>?_
  refine wC rfl fun K q=>?_;simp [y];refine q _ ?_;clear q
  refine wN (q _ ?_);clear q
  refine SWp.seq ?_
  rcases aA h10 with ⟨hb13,h10⟩ | ⟨hb14,h10⟩
  ·refine SWp.cT' (b:=decide (v9 < (r6.length:Int))) (by simp) hb13 ?_
   refine SWp.skip ?_
   show SWp E C _ _ _
   obtain ⟨out35,hj15,h10⟩:=bS h10
   refine SWp.seqC [2,5,12,13,14] [2] (fun _:Unit=>⟨[(2,.ref (.box 2) 0 []),(5,.t (.sl true 1 (List.map vi out35))),(12,.t (.sl true 1 (List.map vi r6))),(13,.t (vi (r6.length:Int))),(14,.t (vi v9))],[(2,[.sl false 4 (List.map (GNode.enc false) p1.Nodes),.sl false 5 (List.map (GFn.enc false) p1.Fns)])]⟩) (fun _=>True) (fun _ _=>?_) fun K16 hK16=>?_
   rotate_left
   ·refine SWp.block ?_
    refine SWp.sR rfl (u _ rfl) fun K q=>?_
    obtain ⟨e18,he18,hj15⟩:=bS hj15
    obtain ⟨he18a,he18b,he18c,he18d⟩:=gS he18
    iterate 3 (refine wC rfl fun K q=>?_;simp [y,he18a,he18b,he18c,he18d];refine q _ ?_;clear q)
    refine wN (q _ ?_);clear q
    refine SWp.sR rfl (u _ rfl) fun K q=>?_
    iterate 2 (refine wC rfl fun K q=>?_;simp [y];refine q _ ?_;clear q)
    obtain ⟨r19,hc20,hj15⟩:=bS hj15
    refine wL [(.take,.tmp 18),(.take,.tmp 19)] rfl rfl ent98 (qQ _ _ hc20) fun K q=>?_;simp [y];refine q _ ?_;clear q
    iterate 2 (refine wC rfl fun K q=>?_;simp [y];refine q _ ?_;clear q)
    refine wN (q _ ?_);clear q
    refine SWp.block ?_
    refine SWp.loopO [] [2,5,12,13,14,20,21,22] [2] (fun v:(List Int) × Int=>⟨[(2,.ref (.box 2) 0 []),(5,.t (.sl true 1 (List.map vi v.1))),(12,.t (.sl true 1 (List.map vi r6))),(13,.t (vi (r6.length:Int))),(14,.t (vi v9)),(20,.t (.sl true 1 (List.map vi r19))),(21,.t (vi (r19.length:Int))),(22,.t (vi v.2))],[(2,[.sl false 4 (List.map (GNode.enc false) p1.Nodes),.sl false 5 (List.map (GFn.enc false) p1.Fns)])]⟩) (dL r19) _ (out8,0) hj15 (by simp [y]) ?_
    intro g s25 h23 ho24
    obtain ⟨out21,v22⟩:=g
    simp only [dL] at h23
    try dsimp only
    refine SWp.sR rfl (u _ rfl) fun K q=>?_
    refine wC rfl fun K q=>?_;simp [y];refine q _ ?_;clear q
    refine wN (q _ ?_);clear q
    refine SWp.seq ?_
    rcases aA h23 with ⟨hb26,h23⟩ | ⟨hb27,h23⟩
    ·refine SWp.cT' (b:=decide (v22 < (r19.length:Int))) (by simp) hb26 ?_
     refine SWp.skip ?_
     show SWp E C _ _ _
     refine SWp.seq ?_
     refine SWp.block ?_
     refine SWp.sR rfl (u _ rfl) fun K q=>?_
     obtain ⟨e28,he28,h23⟩:=bS h23
     obtain ⟨he28a,he28b,he28c,he28d⟩:=gS he28
     iterate 3 (refine wC rfl fun K q=>?_;simp [y,he28a,he28b,he28c,he28d];refine q _ ?_;clear q)
     refine wN (q _ ?_);clear q
     refine SWp.sR rfl (u _ rfl) fun K q=>?_
     iterate 2 (refine wC rfl fun K q=>?_;simp [y];refine q _ ?_;clear q)
     obtain ⟨r29,hc30,h23⟩:=bS h23
     refine wL [(.bor,.tmp 26),(.take,.tmp 27)] rfl rfl ent64 (fW _ _ hc30) fun K q=>?_;simp [y];refine q _ ?_;clear q
     refine wC rfl fun K q=>?_;simp [y];refine q _ ?_;clear q
     refine wN (q _ ?_);clear q
     rcases aA h23 with ⟨hb31,h23⟩ | ⟨hb32,h23⟩
     ·refine SWp.cT' (b:=!r29) (by simp) hb31 ?_
      refine SWp.reg rfl (u _ rfl) fun K q=>?_
      iterate 3 (refine wC rfl fun K q=>?_;simp [y];refine q _ ?_;clear q)
      obtain ⟨l33,hl33,h23⟩:=bS h23
      obtain ⟨hl33a,hl33b,hl33d⟩:=aS hl33
      have hl33f:List.map vi out21 ++ List.map vi [e28]=List.map vi l33:=dV (f:=vi) hl33d
      simp [eSl] at hl33a hl33b hl33f
      iterate 2 (refine wC rfl fun K q=>?_;simp [y,hl33a,hl33b,hl33f];refine q _ ?_;clear q)
      refine wN (q _ ?_);clear q
      show SWp E C _ _ _
      refine SWp.reg rfl (u _ rfl) fun K q=>?_
      iterate 2 (refine wC rfl fun K q=>?_;simp [y];refine q _ ?_;clear q)
      refine wN (q _ ?_);clear q
      cases h23
      exact ⟨_,[],rfl,by simp [y]⟩
     ·refine SWp.cF' (b:=!r29) (by simp) hb32 ?_
      refine SWp.skip ?_
      show SWp E C _ _ _
      refine SWp.reg rfl (u _ rfl) fun K q=>?_
      iterate 2 (refine wC rfl fun K q=>?_;simp [y];refine q _ ?_;clear q)
      refine wN (q _ ?_);clear q
      cases h23
      exact ⟨_,[],rfl,by simp [y]⟩
    ·refine SWp.cF' (b:=decide (v22 < (r19.length:Int))) (by simp) hb27 ?_
     refine SWp.exit ?_
     have h34:=congrArg some (ho24 _ (Option.some.inj h23).symm)
     cases h34
     exact hK16 _ () [] trivial (by simp [y])
   refine SWp.reg rfl (u _ rfl) fun K q=>?_
   iterate 2 (refine wC rfl fun K q=>?_;simp [y];refine q _ ?_;clear q)
   refine wN (q _ ?_);clear q
   cases h10
   exact ⟨_,[],rfl,by simp [y]⟩
  ·refine SWp.cF' (b:=decide (v9 < (r6.length:Int))) (by simp) hb14 ?_
   refine SWp.exit ?_
   have h36:=congrArg some (ho11 _ (Option.some.inj h10).symm)
   cases h36
   exact hK4 _ () [] trivial (by simp [y])
 refine SWp.sR rfl (u _ rfl) fun K q=>?_
 refine wC rfl fun K q=>?_;simp [y];refine q _ ?_;clear q
 obtain ⟨q38,hc39,h⟩:=bS h
 refine wps_callIO rfl ent65 (sort_Ints_ok _ hc39) fun K q=>?_;simp [y];refine q _ ?_;clear q
 refine wN (q _ ?_);clear q
 refine SWp.sR rfl (u _ rfl) fun K q=>?_
 iterate 2 (refine wC rfl fun K q=>?_;simp [y];refine q _ ?_;clear q)
 refine wN (q _ ?_);clear q
 cases h
 refine SWp.ret ?_
 simp [aC,iB,res83]
theorem res50:Tryz.f50.results.toList=[.tmp 4]:=rfl
theorem ent50:aF E.P 50:=eO Tryz.func50 (by simp [Tryz.f50]) rfl
theorem impl_CallsOf_ok (p1:GProgram) (fn2:Int) {r0:List Int} (h:jD p1 fn2=some r0):Ok E 50 [.val (GProgram.enc false p1),.val (vi fn2)] [.sl true 1 (List.map vi r0)] []:=by
 refine oB (fn:=Tryz.f50) Tryz.func50 rfl (by simp [Tryz.f50]) fun C hN hP=>?_
 have u:∀ l,pinK [] l=true→pinB C.pin l=true:=pO (by rw [hP];rfl)
 have y:C.N=44:=hN
 clear hN
 unfold jD at h
 refine SWp.sR rfl (u _ rfl) fun K q=>?_
 iterate 2 (refine wC rfl fun K q=>?_;simp [y];refine q _ ?_;clear q)
 refine wN (q _ ?_);clear q
 refine SWp.sR rfl (u _ rfl) fun K q=>?_
 refine wC rfl fun K q=>?_;simp [y];refine q _ ?_;clear q
 refine wN (q _ ?_);clear q
 obtain ⟨out32,hj3,h⟩:=bS h
 refine SWp.seqC [5] [] (fun _:Unit=>⟨[(5,.t (.sl true 1 (List.map vi out32)))],[]⟩) (fun _=>True) (fun _ _=>?_) fun K4 hK4=>?_
 rotate_left
 ·refine SWp.sR rfl (u _ rfl) fun K q=>?_
  iterate 2 (refine wC rfl fun K q=>?_;simp [y];refine q _ ?_;clear q)
  obtain ⟨r6,hc7,hj3⟩:=bS hj3
  refine wL [(.take,.tmp 10),(.take,.tmp 11)] rfl rfl ent83 (impl_fnNodes_ok _ _ hc7) fun K q=>?_;simp [y];refine q _ ?_;clear q
  iterate 2 (refine wC rfl fun K q=>?_;simp [y];refine q _ ?_;clear q)
  refine wN (q _ ?_);clear q
  refine SWp.block ?_
  refine SWp.loopO [] [2,5,12,13,14] [2] (fun v:(List Int) × Int=>⟨[(2,.ref (.box 2) 0 []),(5,.t (.sl true 1 (List.map vi v.1))),(12,.t (.sl true 1 (List.map vi r6))),(13,.t (vi (r6.length:Int))),(14,.t (vi v.2))],[(2,[.sl false 4 (List.map (GNode.enc false) p1.Nodes),.sl false 5 (List.map (GFn.enc false) p1.Fns)])]⟩) (dM p1 r6) _ ([],0) hj3 (by simp [y]) ?_
  intro g s12 h10 ho11
  obtain ⟨out8,v9⟩:=g
  simp only [dM] at h10
  try dsimp only
  refine SWp.sR rfl (u _ rfl) fun K q=>?_
  refine wC rfl fun K q=>?_;simp [y];refine q _ ?_;clear q
  refine wN (q _ ?_);clear q
  refine SWp.seq ?_
  rcases aA h10 with ⟨hb13,h10⟩ | ⟨hb14,h10⟩
  ·refine SWp.cT' (b:=decide (v9 < (r6.length:Int))) (by simp) hb13 ?_
   refine SWp.skip ?_
   show SWp E C _ _ _
   refine SWp.seq ?_
   refine SWp.block ?_
   refine SWp.sR rfl (u _ rfl) fun K q=>?_
   obtain ⟨e15,he15,h10⟩:=bS h10
   obtain ⟨he15a,he15b,he15c,he15d⟩:=gS he15
   iterate 3 (refine wC rfl fun K q=>?_;simp [y,he15a,he15b,he15c,he15d];refine q _ ?_;clear q)
   refine wN (q _ ?_);clear q
   refine SWp.sR rfl (u _ rfl) fun K q=>?_
   iterate 3 (refine wC rfl fun K q=>?_;simp [y];refine q _ ?_;clear q)
   obtain ⟨e16,he16,h10⟩:=bS h10
   obtain ⟨he16a,he16b,he16c,he16d⟩:=gS he16
   iterate 4 (refine wC rfl fun K q=>?_;simp [y,he16a,he16b,he16c,he16d];refine q _ ?_;clear q)
   refine wN (q _ ?_);clear q
   refine SWp.sR rfl (u _ rfl) fun K q=>?_
   iterate 3 (refine wC rfl fun K q=>?_;simp [y];refine q _ ?_;clear q)
   refine wN (q _ ?_);clear q
   rcases aA h10 with ⟨hb17,h10⟩ | ⟨hb18,h10⟩
   ·refine SWp.cT' (b:=e16.Kind == 12) (by simp) hb17 ?_
    refine SWp.sR rfl (u _ rfl) fun K q=>?_
    iterate 3 (refine wC rfl fun K q=>?_;simp [y];refine q _ ?_;clear q)
    obtain ⟨r19,hc20,h10⟩:=bS h10
    refine wL [(.take,.tmp 26),(.take,.tmp 28)] rfl rfl ent62 (oG _ _ hc20) fun K q=>?_;simp [y];refine q _ ?_;clear q
    refine wC rfl fun K q=>?_;simp [y];refine q _ ?_;clear q
    refine wN (q _ ?_);clear q
    obtain ⟨v27,hj21,h10⟩:=bS h10
    refine SWp.seqRC rfl (u _ rfl) [2,5,9,12,13,14,37] [2] (fun _:Unit=>⟨[(2,.ref (.box 2) 0 []),(5,.t (.sl true 1 (List.map vi out8))),(9,.t (vi r19)),(12,.t (.sl true 1 (List.map vi r6))),(13,.t (vi (r6.length:Int))),(14,.t (vi v9)),(37,.t (vb v27))],[(2,[.sl false 4 (List.map (GNode.enc false) p1.Nodes),.sl false 5 (List.map (GFn.enc false) p1.Fns)])]⟩) (fun _=>True) (fun _ _=>?_) fun K22 hK22=>?_
    rotate_left
    ·refine wC rfl fun K q=>?_;simp [y];refine q _ ?_;clear q
     iterate 2 (refine wC rfl fun K q=>?_;simp [y];refine q _ ?_;clear q)
     rcases aA hj21 with ⟨hb23,hj21⟩ | ⟨hb24,hj21⟩
     ·have hb23s:=hb23
      try simp at hb23s
      iterate 2 (refine wC rfl fun K q=>?_;simp [y,hb23,hb23s];refine q _ ?_;clear q)
      obtain ⟨r25,hc26,hj21⟩:=bS hj21
      refine wL [(.bor,.tmp 33),(.take,.tmp 34)] rfl rfl ent64 (fW _ _ hc26) fun K q=>?_;simp [y,hb23,hb23s];refine q _ ?_;clear q
      iterate 2 (refine wC rfl fun K q=>?_;simp [y,hb23,hb23s];refine q _ ?_;clear q)
      refine wN ?_
      cases hj21
      exact hK22 _ () [] trivial (by simp [y,hb23,hb23s])
     ·have hb24s:=hb24
      try simp at hb24s
      iterate 4 (refine wO fun K q=>?_;simp [y,hb24,hb24s];refine q _ ?_;clear q)
      refine wC rfl fun K q=>?_;simp [y,hb24,hb24s];refine q _ ?_;clear q
      refine wN ?_
      cases hj21
      exact hK22 _ () [] trivial (by simp [y,hb24,hb24s])
    rcases aA h10 with ⟨hb28,h10⟩ | ⟨hb29,h10⟩
    ·refine SWp.cT' (b:=v27) (by simp) hb28 ?_
     refine SWp.reg rfl (u _ rfl) fun K q=>?_
     iterate 3 (refine wC rfl fun K q=>?_;simp [y];refine q _ ?_;clear q)
     obtain ⟨l30,hl30,h10⟩:=bS h10
     obtain ⟨hl30a,hl30b,hl30d⟩:=aS hl30
     have hl30f:List.map vi out8 ++ List.map vi [r19]=List.map vi l30:=dV (f:=vi) hl30d
     simp [eSl] at hl30a hl30b hl30f
     iterate 2 (refine wC rfl fun K q=>?_;simp [y,hl30a,hl30b,hl30f];refine q _ ?_;clear q)
     refine wN (q _ ?_);clear q
     show SWp E C _ _ _
     refine SWp.reg rfl (u _ rfl) fun K q=>?_
     iterate 2 (refine wC rfl fun K q=>?_;simp [y];refine q _ ?_;clear q)
     refine wN (q _ ?_);clear q
     cases h10
     exact ⟨_,[],rfl,by simp [y]⟩
    ·refine SWp.cF' (b:=v27) (by simp) hb29 ?_
     refine SWp.skip ?_
     show SWp E C _ _ _
     refine SWp.reg rfl (u _ rfl) fun K q=>?_
     iterate 2 (refine wC rfl fun K q=>?_;simp [y];refine q _ ?_;clear q)
     refine wN (q _ ?_);clear q
     cases h10
     exact ⟨_,[],rfl,by simp [y]⟩
   ·refine SWp.cF' (b:=e16.Kind == 12) (by simp) hb18 ?_
    refine SWp.skip ?_
    show SWp E C _ _ _
    refine SWp.reg rfl (u _ rfl) fun K q=>?_
    iterate 2 (refine wC rfl fun K q=>?_;simp [y];refine q _ ?_;clear q)
    refine wN (q _ ?_);clear q
    cases h10
    exact ⟨_,[],rfl,by simp [y]⟩
  ·refine SWp.cF' (b:=decide (v9 < (r6.length:Int))) (by simp) hb14 ?_
   refine SWp.exit ?_
   have h31:=congrArg some (ho11 _ (Option.some.inj h10).symm)
   cases h31
   exact hK4 _ () [] trivial (by simp [y])
 refine SWp.sR rfl (u _ rfl) fun K q=>?_
 iterate 2 (refine wC rfl fun K q=>?_;simp [y];refine q _ ?_;clear q)
 refine wN (q _ ?_);clear q
 cases h
 refine SWp.ret ?_
 simp [aC,iB,res50]
theorem res21:Tryz.f21.results.toList=[.tmp 4]:=rfl
theorem ent21:aF E.P 21:=eO Tryz.func21 (by simp [Tryz.f21]) rfl
theorem impl_chain_b_ok (rec_impl_chain:GProgram→Int→Option (Int)) (hrec_impl_chain:∀ (a0:GProgram) (a1:Int) {r0:Int},rec_impl_chain a0 a1=some r0→Ok E 21 [.val (GProgram.enc false a0),.val (vi a1)] [vi r0] []) (p1:GProgram) (fn2:Int) {r0:Int} (h:iZ rec_impl_chain p1 fn2=some r0):Ok E 21 [.val (GProgram.enc false p1),.val (vi fn2)] [vi r0] []:=by
 refine oB (fn:=Tryz.f21) Tryz.func21 rfl (by simp [Tryz.f21]) fun C hN hP=>?_
 have u:∀ l,pinK [] l=true→pinB C.pin l=true:=pO (by rw [hP];rfl)
 have y:C.N=24:=hN
 clear hN
 unfold iZ at h
 refine SWp.sR rfl (u _ rfl) fun K q=>?_
 iterate 2 (refine wC rfl fun K q=>?_;simp [y];refine q _ ?_;clear q)
 refine wN (q _ ?_);clear q
 refine SWp.sR rfl (u _ rfl) fun K q=>?_
 refine wC rfl fun K q=>?_;simp [y];refine q _ ?_;clear q
 refine wN (q _ ?_);clear q
 obtain ⟨n19,hj3,h⟩:=bS h
 refine SWp.seqC [5] [] (fun _:Unit=>⟨[(5,.t (vi n19))],[]⟩) (fun _=>True) (fun _ _=>?_) fun K4 hK4=>?_
 rotate_left
 ·refine SWp.sR rfl (u _ rfl) fun K q=>?_
  iterate 2 (refine wC rfl fun K q=>?_;simp [y];refine q _ ?_;clear q)
  obtain ⟨r6,hc7,hj3⟩:=bS hj3
  refine wL [(.take,.tmp 8),(.take,.tmp 9)] rfl rfl ent50 (impl_CallsOf_ok _ _ hc7) fun K q=>?_;simp [y];refine q _ ?_;clear q
  iterate 2 (refine wC rfl fun K q=>?_;simp [y];refine q _ ?_;clear q)
  refine wN (q _ ?_);clear q
  refine SWp.block ?_
  refine SWp.loopO [] [2,5,10,11,12] [2] (fun v:Int × Int=>⟨[(2,.ref (.box 2) 0 []),(5,.t (vi v.1)),(10,.t (.sl true 1 (List.map vi r6))),(11,.t (vi (r6.length:Int))),(12,.t (vi v.2))],[(2,[.sl false 4 (List.map (GNode.enc false) p1.Nodes),.sl false 5 (List.map (GFn.enc false) p1.Fns)])]⟩) (dU rec_impl_chain p1 r6) _ (0,0) hj3 (by simp [y]) ?_
  intro g s12 h10 ho11
  obtain ⟨n8,v9⟩:=g
  simp only [dU] at h10
  try dsimp only
  refine SWp.sR rfl (u _ rfl) fun K q=>?_
  refine wC rfl fun K q=>?_;simp [y];refine q _ ?_;clear q
  refine wN (q _ ?_);clear q
  refine SWp.seq ?_
  rcases aA h10 with ⟨hb13,h10⟩ | ⟨hb14,h10⟩
  ·refine SWp.cT' (b:=decide (v9 < (r6.length:Int))) (by simp) hb13 ?_
   refine SWp.skip ?_
   show SWp E C _ _ _
   refine SWp.seq ?_
   refine SWp.block ?_
   refine SWp.sR rfl (u _ rfl) fun K q=>?_
   obtain ⟨e15,he15,h10⟩:=bS h10
   obtain ⟨he15a,he15b,he15c,he15d⟩:=gS he15
   iterate 3 (refine wC rfl fun K q=>?_;simp [y,he15a,he15b,he15c,he15d];refine q _ ?_;clear q)
   refine wN (q _ ?_);clear q
   refine SWp.reg rfl (u _ rfl) fun K q=>?_
   iterate 3 (refine wC rfl fun K q=>?_;simp [y];refine q _ ?_;clear q)
   obtain ⟨r16,hc17,h10⟩:=bS h10
   refine wL [(.take,.tmp 17),(.take,.tmp 18)] rfl rfl ent21 (hrec_impl_chain _ _ hc17) fun K q=>?_;simp [y];refine q _ ?_;clear q
   iterate 2 (refine wC rfl fun K q=>?_;simp [y];refine q _ ?_;clear q)
   refine wN (q _ ?_);clear q
   show SWp E C _ _ _
   refine SWp.reg rfl (u _ rfl) fun K q=>?_
   iterate 2 (refine wC rfl fun K q=>?_;simp [y];refine q _ ?_;clear q)
   refine wN (q _ ?_);clear q
   cases h10
   exact ⟨_,[],rfl,by simp [y]⟩
  ·refine SWp.cF' (b:=decide (v9 < (r6.length:Int))) (by simp) hb14 ?_
   refine SWp.exit ?_
   have h18:=congrArg some (ho11 _ (Option.some.inj h10).symm)
   cases h18
   exact hK4 _ () [] trivial (by simp [y])
 refine SWp.sR rfl (u _ rfl) fun K q=>?_
 iterate 3 (refine wC rfl fun K q=>?_;simp [y];refine q _ ?_;clear q)
 refine wN (q _ ?_);clear q
 cases h
 refine SWp.ret ?_
 simp [aC,iB,res21]
theorem lX:∀ n:Nat,(∀ (a0:GProgram) (a1:Int) {r0:Int},(bL n) a0 a1=some r0→Ok E 21 [.val (GProgram.enc false a0),.val (vi a1)] [vi r0] [])
 | 0=>(by intros;rename_i h;cases h)
 | n + 1=>impl_chain_b_ok (bL n) (lX n)
theorem impl_chain_ok:∀ (a0:GProgram) (a1:Int) {r0:Int},impl_chain a0 a1=some r0→Ok E 21 [.val (GProgram.enc false a0),.val (vi a1)] [vi r0] []:=(lX dG)
theorem res8:Tryz.f8.results.toList=[.tmp 2]:=rfl
theorem ent8:aF E.P 8:=eO Tryz.func8 (by simp [Tryz.f8]) rfl
theorem impl_ChainOf_ok (p1:GProgram) {r0:Int} (h:jC p1=some r0):Ok E 8 [.val (GProgram.enc false p1)] [vi r0] []:=by
 refine oB (fn:=Tryz.f8) Tryz.func8 rfl (by simp [Tryz.f8]) fun C hN hP=>?_
 have u:∀ l,pinK [] l=true→pinB C.pin l=true:=pO (by rw [hP];rfl)
 have y:C.N=12:=hN
 clear hN
 unfold jC at h
 refine SWp.sR rfl (u _ rfl) fun K q=>?_
 iterate 2 (refine wC rfl fun K q=>?_;simp [y];refine q _ ?_;clear q)
 refine wN (q _ ?_);clear q
 refine SWp.seq ?_
 refine SWp.sR rfl (u _ rfl) fun K q=>?_
 refine wC rfl fun K q=>?_;simp [y];refine q _ ?_;clear q
 obtain ⟨r2,hc3,h⟩:=bS h
 refine wL [(.take,.tmp 3)] rfl rfl ent20 (qS _ hc3) fun K q=>?_;simp [y];refine q _ ?_;clear q
 refine wC rfl fun K q=>?_;simp [y];refine q _ ?_;clear q
 refine wN (q _ ?_);clear q
 rcases aA h with ⟨hb4,h⟩ | ⟨hb5,h⟩
 ·refine SWp.cT' (b:=!r2) (by simp) hb4 ?_
  refine SWp.sR rfl (u _ rfl) fun K q=>?_
  refine wC rfl fun K q=>?_;simp [y];refine q _ ?_;clear q
  refine wN (q _ ?_);clear q
  cases h
  refine SWp.ret ?_
  simp [aC,iB,res8]
 ·refine SWp.cF' (b:=!r2) (by simp) hb5 ?_
  refine SWp.skip ?_
  show SWp E C _ _ _
  refine SWp.sR rfl (u _ rfl) fun K q=>?_
  iterate 5 (refine wC rfl fun K q=>?_;simp [y];refine q _ ?_;clear q)
  obtain ⟨r6,hc7,h⟩:=bS h
  refine wL [(.take,.tmp 6),(.take,.tmp 10)] rfl rfl ent21 (impl_chain_ok _ _ hc7) fun K q=>?_;simp [y];refine q _ ?_;clear q
  refine wC rfl fun K q=>?_;simp [y];refine q _ ?_;clear q
  refine wN (q _ ?_);clear q
  cases h
  refine SWp.ret ?_
  simp [aC,iB,res8]
theorem res84:Tryz.f84.results.toList=[.tmp 4]:=rfl
theorem ent84:aF E.P 84:=eO Tryz.func84 (by simp [Tryz.f84]) rfl
theorem laws_eqIntS_ok (a1:List Int) (b2:List Int) {r0:Bool} (h:kH a1 b2=some r0):Ok E 84 [.val (.sl false 1 (List.map vi a1)),.val (.sl false 1 (List.map vi b2))] [vb r0] []:=by
 refine oB (fn:=Tryz.f84) Tryz.func84 rfl (by simp [Tryz.f84]) fun C hN hP=>?_
 have hPB:∀ l,pinK [] l=true→pinB C.pin l=true:=pO (by rw [hP];rfl)
 have hN':C.N=26:=hN
 clear hN
 unfold kH at h
 refine SWp.sR rfl (hPB _ rfl) fun K hK=>?_
 refine wC rfl fun K hK=>?_;simp [hN'];refine hK _ ?_;clear hK
 refine wN (hK _ ?_);clear hK
 refine SWp.seq ?_
 refine SWp.sR rfl (hPB _ rfl) fun K hK=>?_
 iterate 5 (refine wC rfl fun K hK=>?_;simp [hN'];refine hK _ ?_;clear hK)
 refine wN (hK _ ?_);clear hK
 rcases aA h with ⟨hb3,h⟩ | ⟨hb4,h⟩
 ·refine SWp.cT' (b:=(a1.length:Int) != (b2.length:Int)) (by simp) hb3 ?_
  refine SWp.sR rfl (hPB _ rfl) fun K hK=>?_
  refine wC rfl fun K hK=>?_;simp [hN'];refine hK _ ?_;clear hK
  refine wN (hK _ ?_);clear hK
  cases h
  refine SWp.ret ?_
  simp [aC,iB,res84]
 ·refine SWp.cF' (b:=(a1.length:Int) != (b2.length:Int)) (by simp) hb4 ?_
  refine SWp.skip ?_
  show SWp E C _ _ _
  obtain ⟨j7,hj5,h⟩:=bS h
  refine SWp.seqC [] [] (fun v:Unit=>⟨[],[]⟩) (fun v=>j7=Sum.inl v) (fun v hv=>?_) fun K6 hK6=>?_
  rotate_left
  ·refine SWp.sR rfl (hPB _ rfl) fun K hK=>?_
   refine wC rfl fun K hK=>?_;simp [hN'];refine hK _ ?_;clear hK
   refine wN (hK _ ?_);clear hK
   refine SWp.block ?_
   refine SWp.loopO [] [0,1,5] [] (fun v:Int=>⟨[(0,.t (.sl false 1 (List.map vi a1))),(1,.t (.sl false 1 (List.map vi b2))),(5,.t (vi v))],[]⟩) (eK a1 b2) _ 0 hj5 (by simp [hN']) ?_
   intro g s11 h9 ho10
   obtain ⟨i8,hg⟩:∃ y,y=g:=⟨_,rfl⟩
   subst hg
   simp only [eK] at h9
   try dsimp only
   refine SWp.seq ?_
   refine SWp.sR rfl (hPB _ rfl) fun K hK=>?_
   iterate 4 (refine wC rfl fun K hK=>?_;simp [hN'];refine hK _ ?_;clear hK)
   refine wN (hK _ ?_);clear hK
   rcases aA h9 with ⟨hb12,h9⟩ | ⟨hb13,h9⟩
   ·refine SWp.cT' (b:=decide (i8 < (a1.length:Int))) (by simp) hb12 ?_
    refine SWp.skip ?_
    show SWp E C _ _ _
    refine SWp.seq ?_
    refine SWp.block ?_
    refine SWp.seq ?_
    obtain ⟨e15,he15,h9⟩:=bS h9
    obtain ⟨he15a,he15b,he15c,he15d⟩:=gS he15
    obtain ⟨e16,he16,h9⟩:=bS h9
    obtain ⟨he16a,he16b,he16c,he16d⟩:=gS he16
    refine SWp.dT rfl (hPB _ rfl) [(17,.t (.sl false 1 (List.map vi a1))),(18,.t (vi i8)),(19,.rop [vi e15] 0),(20,.t (vi e15)),(21,.t (.sl false 1 (List.map vi b2))),(22,.t (vi i8)),(23,.rop [vi e16] 0),(24,.t (vi e16))] [[],[],[0,1],[0,1,2],[],[],[4,5],[4,5,6],[0,1,2,3,4,5,6,7]] (by simp) (by simp) (by simp [look]) rfl rfl rfl ?_ fun K hK=>?_
    ·refine ⟨?_,?_,?_,?_,?_,?_,?_,?_,trivial⟩
     all_goals (intro τ hbx hb hd hf K hK;try simp [vsAt] at hd;simp [vsAt] at hf;first | (refine wC rfl fun K' hK'=>?_;simp [hN',hbx,hb,hd,hf,he15a,he15b,he15c,he15d,he16a,he16b,he16c,he16d];exact hK' _ (wN (hK _ (by simp [vsAt,hbx,he15a,he15b,he15c,he15d,he16a,he16b,he16c,he16d])))))
    refine wC rfl fun K hK=>?_;simp [hN',he15a,he15b,he15c,he15d,he16a,he16b,he16c,he16d];refine hK _ ?_;clear hK
    refine wN (hK _ ?_);clear hK
    show SWp E C _ _ _
    rcases aA h9 with ⟨hb17,h9⟩ | ⟨hb18,h9⟩
    ·refine SWp.cT' (b:=e15 != e16) (by simp) hb17 ?_
     refine SWp.sR rfl (hPB _ rfl) fun K hK=>?_
     refine wC rfl fun K hK=>?_;simp [hN'];refine hK _ ?_;clear hK
     refine wN (hK _ ?_);clear hK
     have h19:=congrArg some (ho10 _ (Option.some.inj h9).symm)
     cases h19
     try dsimp only at h
     cases h
     refine SWp.ret ?_
     simp [aC,iB,res84]
    ·refine SWp.cF' (b:=e15 != e16) (by simp) hb18 ?_
     refine SWp.skip ?_
     show SWp E C _ _ _
     refine SWp.reg rfl (hPB _ rfl) fun K hK=>?_
     iterate 3 (refine wC rfl fun K hK=>?_;simp [hN'];refine hK _ ?_;clear hK)
     refine wN (hK _ ?_);clear hK
     cases h9
     exact ⟨_,[],rfl,by simp [hN']⟩
   ·refine SWp.cF' (b:=decide (i8 < (a1.length:Int))) (by simp) hb13 ?_
    refine SWp.exit ?_
    have h20:=congrArg some (ho10 _ (Option.some.inj h9).symm)
    cases h20
    exact hK6 _ _ [] rfl (by simp [hN'])
  subst hv
  obtain ⟨⟩:=v
  try dsimp only at h ⊢
  refine SWp.sR rfl (hPB _ rfl) fun K hK=>?_
  refine wC rfl fun K hK=>?_;simp [hN'];refine hK _ ?_;clear hK
  refine wN (hK _ ?_);clear hK
  cases h
  refine SWp.ret ?_
  simp [aC,iB,res84]
theorem res51:Tryz.f51.results.toList=[.tmp 4]:=rfl
theorem ent51:aF E.P 51:=eO Tryz.func51 (by simp [Tryz.f51]) rfl
theorem laws_eqNode_ok (a1:GNode) (b2:GNode) {r0:Bool} (h:kG a1 b2=some r0):Ok E 51 [.val (GNode.enc false a1),.val (GNode.enc false b2)] [vb r0] []:=by
 refine oB (fn:=Tryz.f51) Tryz.func51 rfl (by simp [Tryz.f51]) fun C hN hP=>?_
 have u:∀ l,pinK [] l=true→pinB C.pin l=true:=pO (by rw [hP];rfl)
 have y:C.N=26:=hN
 clear hN
 unfold kG at h
 refine SWp.sR rfl (u _ rfl) fun K q=>?_
 iterate 3 (refine wC rfl fun K q=>?_;simp [y];refine q _ ?_;clear q)
 refine wN (q _ ?_);clear q
 refine SWp.seq ?_
 refine SWp.sR rfl (u _ rfl) fun K q=>?_
 iterate 5 (refine wC rfl fun K q=>?_;simp [y];refine q _ ?_;clear q)
 refine wN (q _ ?_);clear q
 rcases aA h with ⟨hb3,h⟩ | ⟨hb4,h⟩
 ·refine SWp.cT' (b:=a1.Kind != b2.Kind) (by simp) hb3 ?_
  refine SWp.sR rfl (u _ rfl) fun K q=>?_
  refine wC rfl fun K q=>?_;simp [y];refine q _ ?_;clear q
  refine wN (q _ ?_);clear q
  cases h
  refine SWp.ret ?_
  simp [aC,iB,res51]
 ·refine SWp.cF' (b:=a1.Kind != b2.Kind) (by simp) hb4 ?_
  refine SWp.skip ?_
  show SWp E C _ _ _
  refine SWp.seq ?_
  refine SWp.sR rfl (u _ rfl) fun K q=>?_
  iterate 5 (refine wC rfl fun K q=>?_;simp [y];refine q _ ?_;clear q)
  refine wN (q _ ?_);clear q
  rcases aA h with ⟨hb5,h⟩ | ⟨hb6,h⟩
  ·refine SWp.cT' (b:=a1.Num != b2.Num) (by simp) hb5 ?_
   refine SWp.sR rfl (u _ rfl) fun K q=>?_
   refine wC rfl fun K q=>?_;simp [y];refine q _ ?_;clear q
   refine wN (q _ ?_);clear q
   cases h
   refine SWp.ret ?_
   simp [aC,iB,res51]
  ·refine SWp.cF' (b:=a1.Num != b2.Num) (by simp) hb6 ?_
   refine SWp.skip ?_
   show SWp E C _ _ _
   refine SWp.seq ?_
   refine SWp.sR rfl (u _ rfl) fun K q=>?_
   iterate 5 (refine wC rfl fun K q=>?_;simp [y];refine q _ ?_;clear q)
   refine wN (q _ ?_);clear q
   rcases aA h with ⟨hb7,h⟩ | ⟨hb8,h⟩
   ·refine SWp.cT' (b:=!(sEq a1.Name b2.Name)) (by simp) hb7 ?_
    refine SWp.sR rfl (u _ rfl) fun K q=>?_
    refine wC rfl fun K q=>?_;simp [y];refine q _ ?_;clear q
    refine wN (q _ ?_);clear q
    cases h
    refine SWp.ret ?_
    simp [aC,iB,res51]
   ·refine SWp.cF' (b:=!(sEq a1.Name b2.Name)) (by simp) hb8 ?_
    refine SWp.skip ?_
    show SWp E C _ _ _
    refine SWp.seq ?_
    refine SWp.sR rfl (u _ rfl) fun K q=>?_
    iterate 4 (refine wC rfl fun K q=>?_;simp [y];refine q _ ?_;clear q)
    obtain ⟨r9,hc10,h⟩:=bS h
    refine wL [(.take,.tmp 21),(.take,.tmp 23)] rfl rfl ent84 (laws_eqIntS_ok _ _ hc10) fun K q=>?_;simp [y];refine q _ ?_;clear q
    refine wC rfl fun K q=>?_;simp [y];refine q _ ?_;clear q
    refine wN (q _ ?_);clear q
    rcases aA h with ⟨hb11,h⟩ | ⟨hb12,h⟩
    ·refine SWp.cT' (b:=!r9) (by simp) hb11 ?_
     refine SWp.sR rfl (u _ rfl) fun K q=>?_
     refine wC rfl fun K q=>?_;simp [y];refine q _ ?_;clear q
     refine wN (q _ ?_);clear q
     cases h
     refine SWp.ret ?_
     simp [aC,iB,res51]
    ·refine SWp.cF' (b:=!r9) (by simp) hb12 ?_
     refine SWp.skip ?_
     show SWp E C _ _ _
     refine SWp.sR rfl (u _ rfl) fun K q=>?_
     refine wC rfl fun K q=>?_;simp [y];refine q _ ?_;clear q
     refine wN (q _ ?_);clear q
     cases h
     refine SWp.ret ?_
     simp [aC,iB,res51]
theorem res22:Tryz.f22.results.toList=[.tmp 4]:=rfl
theorem ent22:aF E.P 22:=eO Tryz.func22 (by simp [Tryz.f22]) rfl
theorem laws_eqNodeS_ok (a1:List GNode) (b2:List GNode) {r0:Bool} (h:iT a1 b2=some r0):Ok E 22 [.val (.sl false 4 (List.map (GNode.enc false) a1)),.val (.sl false 4 (List.map (GNode.enc false) b2))] [vb r0] []:=by
 refine oB (fn:=Tryz.f22) Tryz.func22 rfl (by simp [Tryz.f22]) fun C hN hP=>?_
 have hPB:∀ l,pinK [] l=true→pinB C.pin l=true:=pO (by rw [hP];rfl)
 have hN':C.N=27:=hN
 clear hN
 unfold iT at h
 refine SWp.sR rfl (hPB _ rfl) fun K hK=>?_
 refine wC rfl fun K hK=>?_;simp [hN'];refine hK _ ?_;clear hK
 refine wN (hK _ ?_);clear hK
 refine SWp.seq ?_
 refine SWp.sR rfl (hPB _ rfl) fun K hK=>?_
 iterate 5 (refine wC rfl fun K hK=>?_;simp [hN'];refine hK _ ?_;clear hK)
 refine wN (hK _ ?_);clear hK
 rcases aA h with ⟨hb3,h⟩ | ⟨hb4,h⟩
 ·refine SWp.cT' (b:=(a1.length:Int) != (b2.length:Int)) (by simp) hb3 ?_
  refine SWp.sR rfl (hPB _ rfl) fun K hK=>?_
  refine wC rfl fun K hK=>?_;simp [hN'];refine hK _ ?_;clear hK
  refine wN (hK _ ?_);clear hK
  cases h
  refine SWp.ret ?_
  simp [aC,iB,res22]
 ·refine SWp.cF' (b:=(a1.length:Int) != (b2.length:Int)) (by simp) hb4 ?_
  refine SWp.skip ?_
  show SWp E C _ _ _
  obtain ⟨j7,hj5,h⟩:=bS h
  refine SWp.seqC [] [] (fun v:Unit=>⟨[],[]⟩) (fun v=>j7=Sum.inl v) (fun v hv=>?_) fun K6 hK6=>?_
  rotate_left
  ·refine SWp.sR rfl (hPB _ rfl) fun K hK=>?_
   refine wC rfl fun K hK=>?_;simp [hN'];refine hK _ ?_;clear hK
   refine wN (hK _ ?_);clear hK
   refine SWp.block ?_
   refine SWp.loopO [] [0,1,5] [] (fun v:Int=>⟨[(0,.t (.sl false 4 (List.map (GNode.enc false) a1))),(1,.t (.sl false 4 (List.map (GNode.enc false) b2))),(5,.t (vi v))],[]⟩) (dI a1 b2) _ 0 hj5 (by simp [hN']) ?_
   intro g s11 h9 ho10
   obtain ⟨i8,hg⟩:∃ y,y=g:=⟨_,rfl⟩
   subst hg
   simp only [dI] at h9
   try dsimp only
   refine SWp.seq ?_
   refine SWp.sR rfl (hPB _ rfl) fun K hK=>?_
   iterate 4 (refine wC rfl fun K hK=>?_;simp [hN'];refine hK _ ?_;clear hK)
   refine wN (hK _ ?_);clear hK
   rcases aA h9 with ⟨hb12,h9⟩ | ⟨hb13,h9⟩
   ·refine SWp.cT' (b:=decide (i8 < (a1.length:Int))) (by simp) hb12 ?_
    refine SWp.skip ?_
    show SWp E C _ _ _
    refine SWp.seq ?_
    refine SWp.block ?_
    refine SWp.seq ?_
    obtain ⟨e15,he15,h9⟩:=bS h9
    obtain ⟨he15a,he15b,he15c,he15d⟩:=gS he15
    obtain ⟨e16,he16,h9⟩:=bS h9
    obtain ⟨he16a,he16b,he16c,he16d⟩:=gS he16
    refine SWp.dT rfl (hPB _ rfl) [(17,.t (.sl false 4 (List.map (GNode.enc false) a1))),(18,.t (vi i8)),(19,.rop [vi e15.Kind,vi e15.Num,vs e15.Name,.sl false 1 (List.map vi e15.Kids)] 0),(20,.t (GNode.enc false e15)),(21,.t (.sl false 4 (List.map (GNode.enc false) b2))),(22,.t (vi i8)),(23,.rop [vi e16.Kind,vi e16.Num,vs e16.Name,.sl false 1 (List.map vi e16.Kids)] 0),(24,.t (GNode.enc false e16))] [[],[],[0,1],[0,1,2],[],[],[4,5],[4,5,6],[0,1,2,3,4,5,6,7],[0,1,2,3,4,5,6,7,8]] (by simp) (by simp) (by simp [look]) rfl rfl rfl ?_ fun K hK=>?_
    ·refine ⟨?_,?_,?_,?_,?_,?_,?_,?_,trivial⟩
     all_goals (intro τ hbx hb hd hf K hK;try simp [vsAt] at hd;simp [vsAt] at hf;first | (refine wC rfl fun K' hK'=>?_;simp [hN',hbx,hb,hd,hf,he15a,he15b,he15c,he15d,he16a,he16b,he16c,he16d];exact hK' _ (wN (hK _ (by simp [vsAt,hbx,he15a,he15b,he15c,he15d,he16a,he16b,he16c,he16d])))))
    obtain ⟨r17,hc18,h9⟩:=bS h9
    refine wL [(.take,.tmp 20),(.take,.tmp 24)] rfl rfl ent51 (laws_eqNode_ok _ _ hc18) fun K hK=>?_;simp [hN',he15a,he15b,he15c,he15d,he16a,he16b,he16c,he16d];refine hK _ ?_;clear hK
    refine wC rfl fun K hK=>?_;simp [hN',he15a,he15b,he15c,he15d,he16a,he16b,he16c,he16d];refine hK _ ?_;clear hK
    refine wN (hK _ ?_);clear hK
    show SWp E C _ _ _
    rcases aA h9 with ⟨hb19,h9⟩ | ⟨hb20,h9⟩
    ·refine SWp.cT' (b:=!r17) (by simp) hb19 ?_
     refine SWp.sR rfl (hPB _ rfl) fun K hK=>?_
     refine wC rfl fun K hK=>?_;simp [hN'];refine hK _ ?_;clear hK
     refine wN (hK _ ?_);clear hK
     have h21:=congrArg some (ho10 _ (Option.some.inj h9).symm)
     cases h21
     try dsimp only at h
     cases h
     refine SWp.ret ?_
     simp [aC,iB,res22]
    ·refine SWp.cF' (b:=!r17) (by simp) hb20 ?_
     refine SWp.skip ?_
     show SWp E C _ _ _
     refine SWp.reg rfl (hPB _ rfl) fun K hK=>?_
     iterate 3 (refine wC rfl fun K hK=>?_;simp [hN'];refine hK _ ?_;clear hK)
     refine wN (hK _ ?_);clear hK
     cases h9
     exact ⟨_,[],rfl,by simp [hN']⟩
   ·refine SWp.cF' (b:=decide (i8 < (a1.length:Int))) (by simp) hb13 ?_
    refine SWp.exit ?_
    have h22:=congrArg some (ho10 _ (Option.some.inj h9).symm)
    cases h22
    exact hK6 _ _ [] rfl (by simp [hN'])
  subst hv
  obtain ⟨⟩:=v
  try dsimp only at h ⊢
  refine SWp.sR rfl (hPB _ rfl) fun K hK=>?_
  refine wC rfl fun K hK=>?_;simp [hN'];refine hK _ ?_;clear hK
  refine wN (hK _ ?_);clear hK
  cases h
  refine SWp.ret ?_
  simp [aC,iB,res22]
theorem res100:Tryz.f100.results.toList=[.tmp 4]:=rfl
theorem ent100:aF E.P 100:=eO Tryz.func100 (by simp [Tryz.f100]) rfl
theorem laws_eqParam_ok (a1:GParam) (b2:GParam) {r0:Bool} (h:iS a1 b2=some r0):Ok E 100 [.val (GParam.enc a1),.val (GParam.enc b2)] [vb r0] []:=by
 refine oB (fn:=Tryz.f100) Tryz.func100 rfl (by simp [Tryz.f100]) fun C hN hP=>?_
 have u:∀ l,pinK [] l=true→pinB C.pin l=true:=pO (by rw [hP];rfl)
 have y:C.N=15:=hN
 clear hN
 unfold iS at h
 refine SWp.sR rfl (u _ rfl) fun K q=>?_
 iterate 3 (refine wC rfl fun K q=>?_;simp [y];refine q _ ?_;clear q)
 refine wN (q _ ?_);clear q
 refine SWp.seq ?_
 refine SWp.sR rfl (u _ rfl) fun K q=>?_
 iterate 5 (refine wC rfl fun K q=>?_;simp [y];refine q _ ?_;clear q)
 refine wN (q _ ?_);clear q
 rcases aA h with ⟨hb3,h⟩ | ⟨hb4,h⟩
 ·refine SWp.cT' (b:=!(sEq a1.Name b2.Name)) (by simp) hb3 ?_
  refine SWp.sR rfl (u _ rfl) fun K q=>?_
  refine wC rfl fun K q=>?_;simp [y];refine q _ ?_;clear q
  refine wN (q _ ?_);clear q
  cases h
  refine SWp.ret ?_
  simp [aC,iB,res100]
 ·refine SWp.cF' (b:=!(sEq a1.Name b2.Name)) (by simp) hb4 ?_
  refine SWp.skip ?_
  show SWp E C _ _ _
  refine SWp.seq ?_
  refine SWp.sR rfl (u _ rfl) fun K q=>?_
  iterate 5 (refine wC rfl fun K q=>?_;simp [y];refine q _ ?_;clear q)
  refine wN (q _ ?_);clear q
  rcases aA h with ⟨hb5,h⟩ | ⟨hb6,h⟩
  ·refine SWp.cT' (b:=a1.Typ != b2.Typ) (by simp) hb5 ?_
   refine SWp.sR rfl (u _ rfl) fun K q=>?_
   refine wC rfl fun K q=>?_;simp [y];refine q _ ?_;clear q
   refine wN (q _ ?_);clear q
   cases h
   refine SWp.ret ?_
   simp [aC,iB,res100]
  ·refine SWp.cF' (b:=a1.Typ != b2.Typ) (by simp) hb6 ?_
   refine SWp.skip ?_
   show SWp E C _ _ _
   refine SWp.sR rfl (u _ rfl) fun K q=>?_
   refine wC rfl fun K q=>?_;simp [y];refine q _ ?_;clear q
   refine wN (q _ ?_);clear q
   cases h
   refine SWp.ret ?_
   simp [aC,iB,res100]
theorem res85:Tryz.f85.results.toList=[.tmp 4]:=rfl
theorem ent85:aF E.P 85:=eO Tryz.func85 (by simp [Tryz.f85]) rfl
theorem laws_eqParamS_ok (a1:List GParam) (b2:List GParam) {r0:Bool} (h:gR a1 b2=some r0):Ok E 85 [.val (.sl false 2 (List.map GParam.enc a1)),.val (.sl false 2 (List.map GParam.enc b2))] [vb r0] []:=by
 refine oB (fn:=Tryz.f85) Tryz.func85 rfl (by simp [Tryz.f85]) fun C hN hP=>?_
 have hPB:∀ l,pinK [] l=true→pinB C.pin l=true:=pO (by rw [hP];rfl)
 have hN':C.N=27:=hN
 clear hN
 unfold gR at h
 refine SWp.sR rfl (hPB _ rfl) fun K hK=>?_
 refine wC rfl fun K hK=>?_;simp [hN'];refine hK _ ?_;clear hK
 refine wN (hK _ ?_);clear hK
 refine SWp.seq ?_
 refine SWp.sR rfl (hPB _ rfl) fun K hK=>?_
 iterate 5 (refine wC rfl fun K hK=>?_;simp [hN'];refine hK _ ?_;clear hK)
 refine wN (hK _ ?_);clear hK
 rcases aA h with ⟨hb3,h⟩ | ⟨hb4,h⟩
 ·refine SWp.cT' (b:=(a1.length:Int) != (b2.length:Int)) (by simp) hb3 ?_
  refine SWp.sR rfl (hPB _ rfl) fun K hK=>?_
  refine wC rfl fun K hK=>?_;simp [hN'];refine hK _ ?_;clear hK
  refine wN (hK _ ?_);clear hK
  cases h
  refine SWp.ret ?_
  simp [aC,iB,res85]
 ·refine SWp.cF' (b:=(a1.length:Int) != (b2.length:Int)) (by simp) hb4 ?_
  refine SWp.skip ?_
  show SWp E C _ _ _
  obtain ⟨j7,hj5,h⟩:=bS h
  refine SWp.seqC [] [] (fun v:Unit=>⟨[],[]⟩) (fun v=>j7=Sum.inl v) (fun v hv=>?_) fun K6 hK6=>?_
  rotate_left
  ·refine SWp.sR rfl (hPB _ rfl) fun K hK=>?_
   refine wC rfl fun K hK=>?_;simp [hN'];refine hK _ ?_;clear hK
   refine wN (hK _ ?_);clear hK
   refine SWp.block ?_
   refine SWp.loopO [] [0,1,5] [] (fun v:Int=>⟨[(0,.t (.sl false 2 (List.map GParam.enc a1))),(1,.t (.sl false 2 (List.map GParam.enc b2))),(5,.t (vi v))],[]⟩) (cP a1 b2) _ 0 hj5 (by simp [hN']) ?_
   intro g s11 h9 ho10
   obtain ⟨i8,hg⟩:∃ y,y=g:=⟨_,rfl⟩
   subst hg
   simp only [cP] at h9
   try dsimp only
   refine SWp.seq ?_
   refine SWp.sR rfl (hPB _ rfl) fun K hK=>?_
   iterate 4 (refine wC rfl fun K hK=>?_;simp [hN'];refine hK _ ?_;clear hK)
   refine wN (hK _ ?_);clear hK
   rcases aA h9 with ⟨hb12,h9⟩ | ⟨hb13,h9⟩
   ·refine SWp.cT' (b:=decide (i8 < (a1.length:Int))) (by simp) hb12 ?_
    refine SWp.skip ?_
    show SWp E C _ _ _
    refine SWp.seq ?_
    refine SWp.block ?_
    refine SWp.seq ?_
    obtain ⟨e15,he15,h9⟩:=bS h9
    obtain ⟨he15a,he15b,he15c,he15d⟩:=gS he15
    obtain ⟨e16,he16,h9⟩:=bS h9
    obtain ⟨he16a,he16b,he16c,he16d⟩:=gS he16
    refine SWp.dT rfl (hPB _ rfl) [(17,.t (.sl false 2 (List.map GParam.enc a1))),(18,.t (vi i8)),(19,.rop [vs e15.Name,vi e15.Typ] 0),(20,.t (GParam.enc e15)),(21,.t (.sl false 2 (List.map GParam.enc b2))),(22,.t (vi i8)),(23,.rop [vs e16.Name,vi e16.Typ] 0),(24,.t (GParam.enc e16))] [[],[],[0,1],[0,1,2],[],[],[4,5],[4,5,6],[0,1,2,3,4,5,6,7],[0,1,2,3,4,5,6,7,8]] (by simp) (by simp) (by simp [look]) rfl rfl rfl ?_ fun K hK=>?_
    ·refine ⟨?_,?_,?_,?_,?_,?_,?_,?_,trivial⟩
     all_goals (intro τ hbx hb hd hf K hK;try simp [vsAt] at hd;simp [vsAt] at hf;first | (refine wC rfl fun K' hK'=>?_;simp [hN',hbx,hb,hd,hf,he15a,he15b,he15c,he15d,he16a,he16b,he16c,he16d];exact hK' _ (wN (hK _ (by simp [vsAt,hbx,he15a,he15b,he15c,he15d,he16a,he16b,he16c,he16d])))))
    obtain ⟨r17,hc18,h9⟩:=bS h9
    refine wL [(.take,.tmp 20),(.take,.tmp 24)] rfl rfl ent100 (laws_eqParam_ok _ _ hc18) fun K hK=>?_;simp [hN',he15a,he15b,he15c,he15d,he16a,he16b,he16c,he16d];refine hK _ ?_;clear hK
    refine wC rfl fun K hK=>?_;simp [hN',he15a,he15b,he15c,he15d,he16a,he16b,he16c,he16d];refine hK _ ?_;clear hK
    refine wN (hK _ ?_);clear hK
    show SWp E C _ _ _
    rcases aA h9 with ⟨hb19,h9⟩ | ⟨hb20,h9⟩
    ·refine SWp.cT' (b:=!r17) (by simp) hb19 ?_
     refine SWp.sR rfl (hPB _ rfl) fun K hK=>?_
     refine wC rfl fun K hK=>?_;simp [hN'];refine hK _ ?_;clear hK
     refine wN (hK _ ?_);clear hK
     have h21:=congrArg some (ho10 _ (Option.some.inj h9).symm)
     cases h21
     try dsimp only at h
     cases h
     refine SWp.ret ?_
     simp [aC,iB,res85]
    ·refine SWp.cF' (b:=!r17) (by simp) hb20 ?_
     refine SWp.skip ?_
     show SWp E C _ _ _
     refine SWp.reg rfl (hPB _ rfl) fun K hK=>?_
     iterate 3 (refine wC rfl fun K hK=>?_;simp [hN'];refine hK _ ?_;clear hK)
     refine wN (hK _ ?_);clear hK
     cases h9
     exact ⟨_,[],rfl,by simp [hN']⟩
   ·refine SWp.cF' (b:=decide (i8 < (a1.length:Int))) (by simp) hb13 ?_
    refine SWp.exit ?_
    have h22:=congrArg some (ho10 _ (Option.some.inj h9).symm)
    cases h22
    exact hK6 _ _ [] rfl (by simp [hN'])
  subst hv
  obtain ⟨⟩:=v
  try dsimp only at h ⊢
  refine SWp.sR rfl (hPB _ rfl) fun K hK=>?_
  refine wC rfl fun K hK=>?_;simp [hN'];refine hK _ ?_;clear hK
  refine wN (hK _ ?_);clear hK
  cases h
  refine SWp.ret ?_
  simp [aC,iB,res85]
theorem res52:Tryz.f52.results.toList=[.tmp 4]:=rfl
theorem ent52:aF E.P 52:=eO Tryz.func52 (by simp [Tryz.f52]) rfl
theorem laws_eqFn_ok (a1:GFn) (b2:GFn) {r0:Bool} (h:nX a1 b2=some r0):Ok E 52 [.val (GFn.enc false a1),.val (GFn.enc false b2)] [vb r0] []:=by
 refine oB (fn:=Tryz.f52) Tryz.func52 rfl (by simp [Tryz.f52]) fun C hN hP=>?_
 have u:∀ l,pinK [] l=true→pinB C.pin l=true:=pO (by rw [hP];rfl)
 have y:C.N=31:=hN
 clear hN
 unfold nX at h
 refine SWp.sR rfl (u _ rfl) fun K q=>?_
 iterate 3 (refine wC rfl fun K q=>?_;simp [y];refine q _ ?_;clear q)
 refine wN (q _ ?_);clear q
 refine SWp.seq ?_
 refine SWp.sR rfl (u _ rfl) fun K q=>?_
 iterate 5 (refine wC rfl fun K q=>?_;simp [y];refine q _ ?_;clear q)
 refine wN (q _ ?_);clear q
 rcases aA h with ⟨hb3,h⟩ | ⟨hb4,h⟩
 ·refine SWp.cT' (b:=!(sEq a1.Name b2.Name)) (by simp) hb3 ?_
  refine SWp.sR rfl (u _ rfl) fun K q=>?_
  refine wC rfl fun K q=>?_;simp [y];refine q _ ?_;clear q
  refine wN (q _ ?_);clear q
  cases h
  refine SWp.ret ?_
  simp [aC,iB,res52]
 ·refine SWp.cF' (b:=!(sEq a1.Name b2.Name)) (by simp) hb4 ?_
  refine SWp.skip ?_
  show SWp E C _ _ _
  refine SWp.seq ?_
  refine SWp.sR rfl (u _ rfl) fun K q=>?_
  iterate 4 (refine wC rfl fun K q=>?_;simp [y];refine q _ ?_;clear q)
  obtain ⟨r5,hc6,h⟩:=bS h
  refine wL [(.take,.tmp 11),(.take,.tmp 13)] rfl rfl ent85 (laws_eqParamS_ok _ _ hc6) fun K q=>?_;simp [y];refine q _ ?_;clear q
  refine wC rfl fun K q=>?_;simp [y];refine q _ ?_;clear q
  refine wN (q _ ?_);clear q
  rcases aA h with ⟨hb7,h⟩ | ⟨hb8,h⟩
  ·refine SWp.cT' (b:=!r5) (by simp) hb7 ?_
   refine SWp.sR rfl (u _ rfl) fun K q=>?_
   refine wC rfl fun K q=>?_;simp [y];refine q _ ?_;clear q
   refine wN (q _ ?_);clear q
   cases h
   refine SWp.ret ?_
   simp [aC,iB,res52]
  ·refine SWp.cF' (b:=!r5) (by simp) hb8 ?_
   refine SWp.skip ?_
   show SWp E C _ _ _
   refine SWp.seq ?_
   refine SWp.sR rfl (u _ rfl) fun K q=>?_
   iterate 5 (refine wC rfl fun K q=>?_;simp [y];refine q _ ?_;clear q)
   refine wN (q _ ?_);clear q
   rcases aA h with ⟨hb9,h⟩ | ⟨hb10,h⟩
   ·refine SWp.cT' (b:=a1.Res != b2.Res) (by simp) hb9 ?_
    refine SWp.sR rfl (u _ rfl) fun K q=>?_
    refine wC rfl fun K q=>?_;simp [y];refine q _ ?_;clear q
    refine wN (q _ ?_);clear q
    cases h
    refine SWp.ret ?_
    simp [aC,iB,res52]
   ·refine SWp.cF' (b:=a1.Res != b2.Res) (by simp) hb10 ?_
    refine SWp.skip ?_
    show SWp E C _ _ _
    refine SWp.seq ?_
    refine SWp.sR rfl (u _ rfl) fun K q=>?_
    iterate 5 (refine wC rfl fun K q=>?_;simp [y];refine q _ ?_;clear q)
    refine wN (q _ ?_);clear q
    rcases aA h with ⟨hb11,h⟩ | ⟨hb12,h⟩
    ·refine SWp.cT' (b:=a1.Body != b2.Body) (by simp) hb11 ?_
     refine SWp.sR rfl (u _ rfl) fun K q=>?_
     refine wC rfl fun K q=>?_;simp [y];refine q _ ?_;clear q
     refine wN (q _ ?_);clear q
     cases h
     refine SWp.ret ?_
     simp [aC,iB,res52]
    ·refine SWp.cF' (b:=a1.Body != b2.Body) (by simp) hb12 ?_
     refine SWp.skip ?_
     show SWp E C _ _ _
     refine SWp.seq ?_
     refine SWp.sR rfl (u _ rfl) fun K q=>?_
     iterate 5 (refine wC rfl fun K q=>?_;simp [y];refine q _ ?_;clear q)
     refine wN (q _ ?_);clear q
     rcases aA h with ⟨hb13,h⟩ | ⟨hb14,h⟩
     ·refine SWp.cT' (b:=a1.Ret != b2.Ret) (by simp) hb13 ?_
      refine SWp.sR rfl (u _ rfl) fun K q=>?_
      refine wC rfl fun K q=>?_;simp [y];refine q _ ?_;clear q
      refine wN (q _ ?_);clear q
      cases h
      refine SWp.ret ?_
      simp [aC,iB,res52]
     ·refine SWp.cF' (b:=a1.Ret != b2.Ret) (by simp) hb14 ?_
      refine SWp.skip ?_
      show SWp E C _ _ _
      refine SWp.sR rfl (u _ rfl) fun K q=>?_
      refine wC rfl fun K q=>?_;simp [y];refine q _ ?_;clear q
      refine wN (q _ ?_);clear q
      cases h
      refine SWp.ret ?_
      simp [aC,iB,res52]
theorem res23:Tryz.f23.results.toList=[.tmp 4]:=rfl
theorem ent23:aF E.P 23:=eO Tryz.func23 (by simp [Tryz.f23]) rfl
theorem laws_eqFnS_ok (a1:List GFn) (b2:List GFn) {r0:Bool} (h:lS a1 b2=some r0):Ok E 23 [.val (.sl false 5 (List.map (GFn.enc false) a1)),.val (.sl false 5 (List.map (GFn.enc false) b2))] [vb r0] []:=by
 refine oB (fn:=Tryz.f23) Tryz.func23 rfl (by simp [Tryz.f23]) fun C hN hP=>?_
 have hPB:∀ l,pinK [] l=true→pinB C.pin l=true:=pO (by rw [hP];rfl)
 have hN':C.N=27:=hN
 clear hN
 unfold lS at h
 refine SWp.sR rfl (hPB _ rfl) fun K hK=>?_
 refine wC rfl fun K hK=>?_;simp [hN'];refine hK _ ?_;clear hK
 refine wN (hK _ ?_);clear hK
 refine SWp.seq ?_
 refine SWp.sR rfl (hPB _ rfl) fun K hK=>?_
 iterate 5 (refine wC rfl fun K hK=>?_;simp [hN'];refine hK _ ?_;clear hK)
 refine wN (hK _ ?_);clear hK
 rcases aA h with ⟨hb3,h⟩ | ⟨hb4,h⟩
 ·refine SWp.cT' (b:=(a1.length:Int) != (b2.length:Int)) (by simp) hb3 ?_
  refine SWp.sR rfl (hPB _ rfl) fun K hK=>?_
  refine wC rfl fun K hK=>?_;simp [hN'];refine hK _ ?_;clear hK
  refine wN (hK _ ?_);clear hK
  cases h
  refine SWp.ret ?_
  simp [aC,iB,res23]
 ·refine SWp.cF' (b:=(a1.length:Int) != (b2.length:Int)) (by simp) hb4 ?_
  refine SWp.skip ?_
  show SWp E C _ _ _
  obtain ⟨j7,hj5,h⟩:=bS h
  refine SWp.seqC [] [] (fun v:Unit=>⟨[],[]⟩) (fun v=>j7=Sum.inl v) (fun v hv=>?_) fun K6 hK6=>?_
  rotate_left
  ·refine SWp.sR rfl (hPB _ rfl) fun K hK=>?_
   refine wC rfl fun K hK=>?_;simp [hN'];refine hK _ ?_;clear hK
   refine wN (hK _ ?_);clear hK
   refine SWp.block ?_
   refine SWp.loopO [] [0,1,5] [] (fun v:Int=>⟨[(0,.t (.sl false 5 (List.map (GFn.enc false) a1))),(1,.t (.sl false 5 (List.map (GFn.enc false) b2))),(5,.t (vi v))],[]⟩) (fI a1 b2) _ 0 hj5 (by simp [hN']) ?_
   intro g s11 h9 ho10
   obtain ⟨i8,hg⟩:∃ y,y=g:=⟨_,rfl⟩
   subst hg
   simp only [fI] at h9
   try dsimp only
   refine SWp.seq ?_
   refine SWp.sR rfl (hPB _ rfl) fun K hK=>?_
   iterate 4 (refine wC rfl fun K hK=>?_;simp [hN'];refine hK _ ?_;clear hK)
   refine wN (hK _ ?_);clear hK
   rcases aA h9 with ⟨hb12,h9⟩ | ⟨hb13,h9⟩
   ·refine SWp.cT' (b:=decide (i8 < (a1.length:Int))) (by simp) hb12 ?_
    refine SWp.skip ?_
    show SWp E C _ _ _
    refine SWp.seq ?_
    refine SWp.block ?_
    refine SWp.seq ?_
    obtain ⟨e15,he15,h9⟩:=bS h9
    obtain ⟨he15a,he15b,he15c,he15d⟩:=gS he15
    obtain ⟨e16,he16,h9⟩:=bS h9
    obtain ⟨he16a,he16b,he16c,he16d⟩:=gS he16
    refine SWp.dT rfl (hPB _ rfl) [(17,.t (.sl false 5 (List.map (GFn.enc false) a1))),(18,.t (vi i8)),(19,.rop [vs e15.Name,.sl false 2 (List.map GParam.enc e15.Params),vi e15.Res,vi e15.Body,vi e15.Ret] 0),(20,.t (GFn.enc false e15)),(21,.t (.sl false 5 (List.map (GFn.enc false) b2))),(22,.t (vi i8)),(23,.rop [vs e16.Name,.sl false 2 (List.map GParam.enc e16.Params),vi e16.Res,vi e16.Body,vi e16.Ret] 0),(24,.t (GFn.enc false e16))] [[],[],[0,1],[0,1,2],[],[],[4,5],[4,5,6],[0,1,2,3,4,5,6,7],[0,1,2,3,4,5,6,7,8]] (by simp) (by simp) (by simp [look]) rfl rfl rfl ?_ fun K hK=>?_
    ·refine ⟨?_,?_,?_,?_,?_,?_,?_,?_,trivial⟩
     all_goals (intro τ hbx hb hd hf K hK;try simp [vsAt] at hd;simp [vsAt] at hf;first | (refine wC rfl fun K' hK'=>?_;simp [hN',hbx,hb,hd,hf,he15a,he15b,he15c,he15d,he16a,he16b,he16c,he16d];exact hK' _ (wN (hK _ (by simp [vsAt,hbx,he15a,he15b,he15c,he15d,he16a,he16b,he16c,he16d])))))
    obtain ⟨r17,hc18,h9⟩:=bS h9
    refine wL [(.take,.tmp 20),(.take,.tmp 24)] rfl rfl ent52 (laws_eqFn_ok _ _ hc18) fun K hK=>?_;simp [hN',he15a,he15b,he15c,he15d,he16a,he16b,he16c,he16d];refine hK _ ?_;clear hK
    refine wC rfl fun K hK=>?_;simp [hN',he15a,he15b,he15c,he15d,he16a,he16b,he16c,he16d];refine hK _ ?_;clear hK
    refine wN (hK _ ?_);clear hK
    show SWp E C _ _ _
    rcases aA h9 with ⟨hb19,h9⟩ | ⟨hb20,h9⟩
    ·refine SWp.cT' (b:=!r17) (by simp) hb19 ?_
     refine SWp.sR rfl (hPB _ rfl) fun K hK=>?_
     refine wC rfl fun K hK=>?_;simp [hN'];refine hK _ ?_;clear hK
     refine wN (hK _ ?_);clear hK
     have h21:=congrArg some (ho10 _ (Option.some.inj h9).symm)
     cases h21
     try dsimp only at h
     cases h
     refine SWp.ret ?_
     simp [aC,iB,res23]
    ·refine SWp.cF' (b:=!r17) (by simp) hb20 ?_
     refine SWp.skip ?_
     show SWp E C _ _ _
     refine SWp.reg rfl (hPB _ rfl) fun K hK=>?_
     iterate 3 (refine wC rfl fun K hK=>?_;simp [hN'];refine hK _ ?_;clear hK)
     refine wN (hK _ ?_);clear hK
     cases h9
     exact ⟨_,[],rfl,by simp [hN']⟩
   ·refine SWp.cF' (b:=decide (i8 < (a1.length:Int))) (by simp) hb13 ?_
    refine SWp.exit ?_
    have h22:=congrArg some (ho10 _ (Option.some.inj h9).symm)
    cases h22
    exact hK6 _ _ [] rfl (by simp [hN'])
  subst hv
  obtain ⟨⟩:=v
  try dsimp only at h ⊢
  refine SWp.sR rfl (hPB _ rfl) fun K hK=>?_
  refine wC rfl fun K hK=>?_;simp [hN'];refine hK _ ?_;clear hK
  refine wN (hK _ ?_);clear hK
  cases h
  refine SWp.ret ?_
  simp [aC,iB,res23]
theorem res9:Tryz.f9.results.toList=[.tmp 4]:=rfl
theorem ent9:aF E.P 9:=eO Tryz.func9 (by simp [Tryz.f9]) rfl
theorem laws_eqProgram_ok (a1:GProgram) (b2:GProgram) {r0:Bool} (h:fV a1 b2=some r0):Ok E 9 [.val (GProgram.enc false a1),.val (GProgram.enc false b2)] [vb r0] []:=by
 refine oB (fn:=Tryz.f9) Tryz.func9 rfl (by simp [Tryz.f9]) fun C hN hP=>?_
 have u:∀ l,pinK [] l=true→pinB C.pin l=true:=pO (by rw [hP];rfl)
 have y:C.N=17:=hN
 clear hN
 unfold fV at h
 refine SWp.sR rfl (u _ rfl) fun K q=>?_
 iterate 3 (refine wC rfl fun K q=>?_;simp [y];refine q _ ?_;clear q)
 refine wN (q _ ?_);clear q
 refine SWp.seq ?_
 refine SWp.sR rfl (u _ rfl) fun K q=>?_
 iterate 4 (refine wC rfl fun K q=>?_;simp [y];refine q _ ?_;clear q)
 obtain ⟨r3,hc4,h⟩:=bS h
 refine wL [(.take,.tmp 6),(.take,.tmp 8)] rfl rfl ent22 (laws_eqNodeS_ok _ _ hc4) fun K q=>?_;simp [y];refine q _ ?_;clear q
 refine wC rfl fun K q=>?_;simp [y];refine q _ ?_;clear q
 refine wN (q _ ?_);clear q
 rcases aA h with ⟨hb5,h⟩ | ⟨hb6,h⟩
 ·refine SWp.cT' (b:=!r3) (by simp) hb5 ?_
  refine SWp.sR rfl (u _ rfl) fun K q=>?_
  refine wC rfl fun K q=>?_;simp [y];refine q _ ?_;clear q
  refine wN (q _ ?_);clear q
  cases h
  refine SWp.ret ?_
  simp [aC,iB,res9]
 ·refine SWp.cF' (b:=!r3) (by simp) hb6 ?_
  refine SWp.skip ?_
  show SWp E C _ _ _
  refine SWp.seq ?_
  refine SWp.sR rfl (u _ rfl) fun K q=>?_
  iterate 4 (refine wC rfl fun K q=>?_;simp [y];refine q _ ?_;clear q)
  obtain ⟨r7,hc8,h⟩:=bS h
  refine wL [(.take,.tmp 12),(.take,.tmp 14)] rfl rfl ent23 (laws_eqFnS_ok _ _ hc8) fun K q=>?_;simp [y];refine q _ ?_;clear q
  refine wC rfl fun K q=>?_;simp [y];refine q _ ?_;clear q
  refine wN (q _ ?_);clear q
  rcases aA h with ⟨hb9,h⟩ | ⟨hb10,h⟩
  ·refine SWp.cT' (b:=!r7) (by simp) hb9 ?_
   refine SWp.sR rfl (u _ rfl) fun K q=>?_
   refine wC rfl fun K q=>?_;simp [y];refine q _ ?_;clear q
   refine wN (q _ ?_);clear q
   cases h
   refine SWp.ret ?_
   simp [aC,iB,res9]
  ·refine SWp.cF' (b:=!r7) (by simp) hb10 ?_
   refine SWp.skip ?_
   show SWp E C _ _ _
   refine SWp.sR rfl (u _ rfl) fun K q=>?_
   refine wC rfl fun K q=>?_;simp [y];refine q _ ?_;clear q
   refine wN (q _ ?_);clear q
   cases h
   refine SWp.ret ?_
   simp [aC,iB,res9]
theorem res3:Tryz.f3.results.toList=[.tmp 2]:=rfl
theorem mZ (aP1:GProgram) {r0:Bool} (h:dS aP1=some r0):Ok E 3 [.val (GProgram.enc false aP1)] [vb r0] []:=by
 refine oB (fn:=Tryz.f3) Tryz.func3 rfl (by simp [Tryz.f3]) fun C hN hP=>?_
 have u:∀ l,pinK [] l=true→pinB C.pin l=true:=pO (by rw [hP];rfl)
 have y:C.N=27:=hN
 clear hN
 unfold dS at h
 refine SWp.sR rfl (u _ rfl) fun K q=>?_
 iterate 2 (refine wC rfl fun K q=>?_;simp [y];refine q _ ?_;clear q)
 refine wN (q _ ?_);clear q
 refine SWp.sR rfl (u _ rfl) fun K q=>?_
 refine wC rfl fun K q=>?_;simp [y];refine q _ ?_;clear q
 refine wN (q _ ?_);clear q
 refine SWp.sR rfl (u _ rfl) fun K q=>?_
 iterate 2 (refine wC rfl fun K q=>?_;simp [y];refine q _ ?_;clear q)
 obtain ⟨r2,hc3,h⟩:=bS h
 refine wL [(.take,.tmp 7),(.take,.tmp 8)] rfl rfl ent5 (laws_szProgram_ok _ _ hc3) fun K q=>?_;simp [y];refine q _ ?_;clear q
 refine wC rfl fun K q=>?_;simp [y];refine q _ ?_;clear q
 refine wN (q _ ?_);clear q
 refine SWp.seq ?_
 refine SWp.sR rfl (u _ rfl) fun K q=>?_
 iterate 2 (refine wC rfl fun K q=>?_;simp [y];refine q _ ?_;clear q)
 refine wN (q _ ?_);clear q
 rcases aA h with ⟨hb4,h⟩ | ⟨hb5,h⟩
 ·refine SWp.cT' (b:=decide (r2 < 0)) (by simp) hb4 ?_
  refine SWp.sR rfl (u _ rfl) fun K q=>?_
  refine wC rfl fun K q=>?_;simp [y];refine q _ ?_;clear q
  refine wN (q _ ?_);clear q
  cases h
  refine SWp.ret ?_
  simp [aC,iB,res3]
 ·refine SWp.cF' (b:=decide (r2 < 0)) (by simp) hb5 ?_
  refine SWp.skip ?_
  show SWp E C _ _ _
  refine SWp.sR rfl (u _ rfl) fun K q=>?_
  refine wC rfl fun K q=>?_;simp [y];refine q _ ?_;clear q
  obtain ⟨r6,hc7,h⟩:=bS h
  refine wL [(.take,.tmp 12)] rfl rfl ent7 (iA _ hc7) fun K q=>?_;simp [y];refine q _ ?_;clear q
  obtain ⟨r8,hc9,h⟩:=bS h
  refine wL [(.bor,.tmp 13)] rfl rfl ent6 (spec_ChainOf_ok _ hc9) fun K q=>?_;simp [y];refine q _ ?_;clear q
  refine wC rfl fun K q=>?_;simp [y];refine q _ ?_;clear q
  refine wN (q _ ?_);clear q
  refine SWp.sR rfl (u _ rfl) fun K q=>?_
  refine wC rfl fun K q=>?_;simp [y];refine q _ ?_;clear q
  obtain ⟨r10,hc11,h⟩:=bS h
  refine wL [(.take,.tmp 15)] rfl rfl ent7 (iA _ hc11) fun K q=>?_;simp [y];refine q _ ?_;clear q
  iterate 2 (refine wC rfl fun K q=>?_;simp [y];refine q _ ?_;clear q)
  refine wN (q _ ?_);clear q
  refine SWp.sR rfl (u _ rfl) fun K q=>?_
  refine wC rfl fun K q=>?_;simp [y];refine q _ ?_;clear q
  obtain ⟨r12,hc13,h⟩:=bS h
  refine wL [(.bor,.tmp 17)] rfl rfl ent8 (impl_ChainOf_ok _ hc13) fun K q=>?_;simp [y];refine q _ ?_;clear q
  refine wC rfl fun K q=>?_;simp [y];refine q _ ?_;clear q
  refine wN (q _ ?_);clear q
  refine SWp.seq ?_
  refine SWp.sR rfl (u _ rfl) fun K q=>?_
  iterate 3 (refine wC rfl fun K q=>?_;simp [y];refine q _ ?_;clear q)
  refine wN (q _ ?_);clear q
  rcases aA h with ⟨hb14,h⟩ | ⟨hb15,h⟩
  ·refine SWp.cT' (b:=r12 != r8) (by simp) hb14 ?_
   refine SWp.sR rfl (u _ rfl) fun K q=>?_
   refine wC rfl fun K q=>?_;simp [y];refine q _ ?_;clear q
   refine wN (q _ ?_);clear q
   cases h
   refine SWp.ret ?_
   simp [aC,iB,res3]
  ·refine SWp.cF' (b:=r12 != r8) (by simp) hb15 ?_
   refine SWp.skip ?_
   show SWp E C _ _ _
   refine SWp.seq ?_
   refine SWp.seq ?_
   obtain ⟨r17,hc18,h⟩:=bS h
   refine SWp.dT rfl (u _ rfl) [(22,.al (.box 5) 0 [] (some 2)),(23,.t (GProgram.enc false aP1)),(24,.t (GProgram.enc true r17))] [[],[],[1],[0,1,2],[0,1,2,3]] (by simp) (by simp) (by simp [look]) rfl rfl rfl ?_ fun K q=>?_
   ·refine ⟨?_,?_,?_,trivial⟩
    all_goals (intro τ hbx hb hd hf K q;try simp [vsAt] at hd;simp [vsAt] at hf;first | (refine wC rfl fun K' q'=>?_;simp [y,hbx,hb,hd,hf];exact q' _ (wN (q _ (by simp [vsAt,hbx])))) | (refine wL [(.take,.tmp 23)] rfl rfl ent7 (iA _ hc18) fun K' q'=>?_;simp [y,hbx,hb,hd,hf];exact q' _ (wN (q _ (by simp [vsAt,hbx])))))
   obtain ⟨r19,hc20,h⟩:=bS h
   refine wL [(.bor,.tmp 22),(.bor,.tmp 24)] rfl rfl ent9 (laws_eqProgram_ok _ _ hc20) fun K q=>?_;simp [y];refine q _ ?_;clear q
   refine wC rfl fun K q=>?_;simp [y];refine q _ ?_;clear q
   refine wN (q _ ?_);clear q
   show SWp E C _ _ _
   rcases aA h with ⟨hb21,h⟩ | ⟨hb22,h⟩
   ·refine SWp.cT' (b:=!r19) (by simp) hb21 ?_
    refine SWp.sR rfl (u _ rfl) fun K q=>?_
    refine wC rfl fun K q=>?_;simp [y];refine q _ ?_;clear q
    refine wN (q _ ?_);clear q
    cases h
    refine SWp.ret ?_
    simp [aC,iB,res3]
   ·refine SWp.cF' (b:=!r19) (by simp) hb22 ?_
    refine SWp.skip ?_
    show SWp E C _ _ _
    refine SWp.sR rfl (u _ rfl) fun K q=>?_
    refine wC rfl fun K q=>?_;simp [y];refine q _ ?_;clear q
    refine wN (q _ ?_);clear q
    cases h
    refine SWp.ret ?_
    simp [aC,iB,res3]
end Go.Proofs.T
namespace Go.OM
theorem w64 {n:Int} (h1 : -9223372036854775808 ≤ n) (h2:n ≤ 9223372036854775807):IntKind.wrap .i64 n=n:=wrap64 h1 h2
theorem dP {k n:Nat} (hk:k < n) (hn:n ≤ maxLen):IntKind.wrap .i64 ((k:Int) + 1)=((k + 1:Nat):Int):=by
 have hn':n ≤ 9223372036854775807:=hn
 rw [w64 (by omega) (by omega)];omega
@[simp] theorem getI_nat {α:Type} (l:List α) (k:Nat):getI l (k:Int)=l[k]?:=by simp [getI]
theorem aE {α:Type} {l:List α} {k:Nat} (hk:k < l.length):getI l (k:Int)=some l[k]:=by simp [hk]
theorem getI_zero {α:Type} (l:List α):getI l 0=l[0]?:=by simp [getI]
theorem sEq_iff (x y : ByteArray) : sEq x y = decide (x = y) := by
  unfold sEq
  have hxy : x.toList = y.toList ↔ x = y := by
    constructor
    · intro h
      have hx : ∀ z : ByteArray, z.toList = z.data.toList := by
        intro z
        have loop : ∀ (n i : Nat) (r : List UInt8), z.size - i = n → ByteArray.toList.loop z i r = r.reverse ++ z.data.toList.drop i := by
          intro n
          induction n with
          | zero =>
            intro i r hn
            unfold ByteArray.toList.loop
            rw [if_neg (by omega), List.drop_eq_nil_of_le (by have : z.data.toList.length = z.size := Array.length_toList
                                                              omega)]
            simp
          | succ n ih =>
            intro i r hn
            unfold ByteArray.toList.loop
            rw [if_pos (by omega), ih (i + 1) _ (by omega)]
            have hlt : i < z.data.toList.length := by have : z.data.toList.length = z.size := Array.length_toList
                                                      omega
            rw [List.drop_eq_getElem_cons hlt]
            have hz : i < z.size := by omega
            simp [ByteArray.get!, Array.getElem!_eq_getD, Array.getD, hz]
        unfold ByteArray.toList
        rw [loop _ 0 [] rfl]; simp
      rw [hx, hx] at h
      cases x; cases y
      simp only [ByteArray.mk.injEq]
      exact Array.toList_inj.1 h
    · intro h; rw [h]
  by_cases h : x = y
  · simp [h]
  · have : ¬ (x.toList = y.toList) := fun e => h (hxy.1 e)
    simp [h, this]
theorem aB {k n:Nat} (h:k < n):decide ((k:Int) < (n:Int))=true:=by simpa using h
theorem szS_gen {α:Type} (ok:α→Prop) (a:List α) (f:Int × Int→Option ((Int × Int) ⊕ (Int ⊕ Int))) (B:Int)
  (hf:∀ (m:Int) (k:Nat) (h0:0 ≤ m) (h1:m ≤ B) (hk:k < a.length),∃ r,r ≤ m∧(0 ≤ r→ok a[k])∧f (m,k)=some (if r < 0 then .inr (.inr (-1)) else .inl (r,((k + 1:Nat):Int))))
  (he:∀ m,f (m,a.length)=some (.inr (.inl m))) (n:Int) (h0:0 ≤ n) (h1:n ≤ B) :
  ∃ j,aI f (n,0)=some j∧(j = .inr (-1) ∨ ∃ m,j = .inl m∧0 ≤ m∧m ≤ n∧∀ x ∈ a,ok x):=by
 refine dW (f:=f) (fun s:Int × Int=>∃ k:Nat,s.2=k∧k ≤ a.length∧0 ≤ s.1∧s.1 ≤ n∧∀ (j:Nat) (h:j < a.length),j < k→ok a[j]) (fun s=>a.length - s.2.toNat) _ ?_ (n,0) ⟨0,rfl,by omega,h0,by simp,fun j _ h=>by omega⟩
 rintro ⟨m,i⟩ ⟨k,hi,hk,h2,h3,h4⟩
 simp only at hi h2 h3
 subst hi
 by_cases hlt:k < a.length
 ·obtain ⟨r,r1,r2,r3⟩:=hf m k h2 (by omega) hlt
  rw [r3]
  by_cases hr:r < 0
  ·right
   rw [if_pos hr]
   exact ⟨_,rfl,.inl rfl⟩
  ·left
   rw [if_neg hr]
   refine ⟨_,rfl,⟨k + 1,rfl,by omega,by simp only;omega,by simp only;omega,fun j h hj=>?_⟩,?_⟩
   ·by_cases e:j=k
    ·subst e;exact r2 (by omega)
    ·exact h4 j h (by omega)
   ·simp only [Int.toNat_natCast];omega
 ·right
  have hke:k=a.length:=by omega
  subst hke
  rw [he]
  refine ⟨_,rfl,.inr ⟨m,rfl,h2,h3,fun x hx=>?_⟩⟩
  obtain ⟨j,hj,rfl⟩:=List.mem_iff_getElem.1 hx
  exact h4 j hj hj
theorem toS_gen {α:Type} (a:List α) (z:α) (f:List α × Int→Option ((List α × Int) ⊕ List α))
  (hf:∀ (out:List α) (k:Nat) (hk:k < a.length),out.length=a.length→f (out,k)=some (.inl (out.set k a[k],((k + 1:Nat):Int))))
  (he:∀ out,f (out,a.length)=some (.inr out)):aI f (List.replicate a.length z,0)=some a:=by
 obtain ⟨r,h1,h2⟩:=dW (fun s:List α × Int=>∃ k:Nat,s.2=k∧k ≤ a.length∧s.1.length=a.length∧∀ j,j < k→s.1[j]? = a[j]?) (fun s=>a.length - s.2.toNat) (fun r=>r=a) (f:=f) (by
  rintro ⟨out,i⟩ ⟨k,hi,hk,h2,h3⟩
  simp only at hi h2 h3
  subst hi
  by_cases hlt:k < a.length
  ·left
   rw [hf out k hlt h2]
   refine ⟨_,rfl,⟨k + 1,rfl,by omega,by simpa using h2,fun j hj=>?_⟩,by simp only [Int.toNat_natCast];omega⟩
   simp only [List.getElem?_set]
   by_cases e:k=j
   ·subst e;simp [h2,hlt]
   ·rw [if_neg e];exact h3 j (by omega)
  ·right
   have hke:k=a.length:=by omega
   subst hke
   rw [he]
   refine ⟨_,rfl,?_⟩
   apply List.ext_getElem?
   intro j
   by_cases hj:j < a.length
   ·exact h3 j hj
   ·rw [List.getElem?_eq_none (by omega),List.getElem?_eq_none (by omega)]) (List.replicate a.length z,0) ⟨0,rfl,by omega,by simp,fun j h=>by omega⟩
 rw [h1,h2]
theorem eqS_gen {α:Type} (a b:List α) (p:α→α→Bool) (hp:∀ x ∈ a,∀ y,y ∈ b→(p x y=true ↔ x=y)) (hlen:a.length=b.length) (f:Int→Option (Int ⊕ (Unit ⊕ Bool)))
  (hf:∀ (k:Nat) (hk:k < a.length) (hk2:k < b.length),f k=some (if p a[k] b[k]=true then .inl ((k + 1:Nat):Int) else .inr (.inr false)))
  (he:f a.length=some (.inr (.inl ()))):(a=b→aI f 0=some (.inl ()))∧(a ≠ b→aI f 0=some (.inr false)):=by
 obtain ⟨r,h1,h2⟩:=dW (fun i:Int=>∃ k:Nat,i=k∧k ≤ a.length∧∀ j,j < k→a[j]? = b[j]?) (fun i=>a.length - i.toNat) (fun r=>(r = .inl ()∧a=b) ∨ (r = .inr false∧a ≠ b)) (f:=f) (by
  rintro i ⟨k,rfl,hk,h3⟩
  by_cases hlt:k < a.length
  ·have hlt2:k < b.length:=by omega
   rw [hf k hlt hlt2]
   by_cases hpk:p a[k] b[k]=true
   ·left
    rw [if_pos hpk]
    refine ⟨_,rfl,⟨k + 1,rfl,by omega,fun j hj=>?_⟩,by simp only [Int.toNat_natCast];omega⟩
    by_cases e:j=k
    ·subst e
     rw [List.getElem?_eq_getElem hlt,List.getElem?_eq_getElem hlt2,(hp _ (List.getElem_mem hlt) _ (List.getElem_mem hlt2)).1 hpk]
    ·exact h3 j (by omega)
   ·right
    rw [if_neg hpk]
    refine ⟨_,rfl,.inr ⟨rfl,fun e=>hpk ?_⟩⟩
    subst e
    exact (hp _ (List.getElem_mem hlt) _ (List.getElem_mem hlt)).2 rfl
  ·right
   have hke:k=a.length:=by omega
   subst hke
   rw [he]
   refine ⟨_,rfl,.inl ⟨rfl,?_⟩⟩
   apply List.ext_getElem?
   intro j
   by_cases hj:j < a.length
   ·exact h3 j hj
   ·rw [List.getElem?_eq_none (by omega),List.getElem?_eq_none (by omega)]) 0 ⟨0,rfl,by omega,fun j h=>by omega⟩
 rcases h2 with ⟨e,hab⟩ | ⟨e,hab⟩
 ·exact ⟨fun _=>by rw [h1,e],fun h=>absurd hab h⟩
 ·exact ⟨fun h=>absurd h hab,fun _=>by rw [h1,e]⟩
theorem nO {α:Type} (b:Int) (n:Nat) (z:α) (h1:b * n ≤ 140737488355328) (h2:(n:Int) ≤ 140737488355328):mkI b (n:Int) z=some (List.replicate n z):=by
 unfold mkI
 rw [if_pos ⟨by omega,h1,h2⟩]
 simp
theorem dN {α β:Type} (x:α) (f:α→β):rG x f=f x:=rfl
end Go.OM
namespace Go.OM
theorem gO {α ρ:Type} {f:α→Option (α ⊕ ρ)} {a:α} {r:ρ} (h:f a=some (.inr r)):aI f a=some r:=by rw [loopP_eq,h];rfl
theorem nQ {α ρ:Type} {f:α→Option (α ⊕ ρ)} {a b:α} (h:f a=some (.inl b)):aI f a=aI f b:=by rw [loopP_eq,h];rfl
theorem oS {α ρ:Type} (l:List α) (q:α→Option ρ) (f:Int→Option (Int ⊕ (Unit ⊕ ρ)))
  (hf:∀ (k:Nat) (h:k < l.length),f k=some (match q l[k] with | none=>.inl ((k + 1:Nat):Int) | some r=>.inr (.inr r)))
  (he:f l.length=some (.inr (.inl ()))):aI f 0=some (match l.findSome? q with | some r=>.inr r | none=>.inl ()):=by
 have key:∀ (n k:Nat),n=l.length - k→k ≤ l.length→aI f k=some (match (l.drop k).findSome? q with | some r=>.inr r | none=>.inl ()):=by
  intro n
  induction n with
  | zero =>
   intro k hn hk
   have:k=l.length:=by omega
   subst this
   rw [gO he,List.drop_length];rfl
  | succ n ih =>
   intro k hn hk
   have hlt:k < l.length:=by omega
   rw [List.drop_eq_getElem_cons hlt,List.findSome?_cons]
   cases hq:q l[k] with
   | none =>
    have h1:=hf k hlt
    rw [hq] at h1
    rw [nQ h1]
    exact ih (k + 1) (by omega) (by omega)
   | some r =>
    have h1:=hf k hlt
    rw [hq] at h1
    rw [gO h1]
 have:=key l.length 0 (by omega) (by omega)
 simpa using this
theorem find_all {α:Type} (l:List α) (p:α→Bool) (b:Bool):l.findSome? (fun x=>if p x=true then none else some b)=if l.all p=true then none else some b:=by
 induction l with
 | nil=>rfl
 | cons x l ih =>
  rw [List.findSome?_cons,List.all_cons]
  cases hp:p x<;>simp [ih]
theorem find_any {α:Type} (l:List α) (p:α→Bool) (b:Bool):l.findSome? (fun x=>if p x=true then some b else none)=if l.any p=true then some b else none:=by
 induction l with
 | nil=>rfl
 | cons x l ih =>
  rw [List.findSome?_cons,List.any_cons]
  cases hp:p x<;>simp [ih]
theorem nR {α:Type} (l:List α) (p:α→Bool) (f:Int→Option (Int ⊕ (Unit ⊕ Bool)))
  (hf:∀ (k:Nat) (h:k < l.length),f k=some (if p l[k]=true then .inl ((k + 1:Nat):Int) else .inr (.inr false)))
  (he:f l.length=some (.inr (.inl ()))):aI f 0=some (if l.all p=true then .inl () else .inr false):=by
 rw [oS l (fun x=>if p x=true then none else some false) f (fun k h=>by rw [hf k h];cases p l[k]<;>rfl) he,find_all]
 cases l.all p<;>rfl
theorem qM {α:Type} (l:List α) (p:α→Bool) (f:Int→Option (Int ⊕ (Unit ⊕ Bool)))
  (hf:∀ (k:Nat) (h:k < l.length),f k=some (if p l[k]=true then .inr (.inr true) else .inl ((k + 1:Nat):Int)))
  (he:f l.length=some (.inr (.inl ()))):aI f 0=some (if l.any p=true then .inr true else .inl ()):=by
 rw [oS l (fun x=>if p x=true then some true else none) f (fun k h=>by rw [hf k h];cases p l[k]<;>rfl) he,find_any]
 cases l.any p<;>rfl
def foldE {α σ ρ:Type} (g:σ→α→σ ⊕ ρ) (fin:σ→ρ):List α→σ→ρ
 | [],s=>fin s
 | x :: l,s=>match g s x with
  | .inl s'=>foldE g fin l s'
  | .inr r=>r
theorem bB {α σ τ ρ:Type} (l:List α) (mk:σ→Nat→τ) (I:Nat→σ→Prop) (g:σ→α→σ ⊕ ρ) (fin:σ→ρ) (f:τ→Option (τ ⊕ ρ))
  (hf:∀ (s:σ) (k:Nat) (h:k < l.length),I k s→(∃ s',g s l[k] = .inl s'∧f (mk s k)=some (.inl (mk s' (k + 1)))∧I (k + 1) s') ∨ ∃ r,g s l[k] = .inr r∧f (mk s k)=some (.inr r))
  (he:∀ s,I l.length s→f (mk s l.length)=some (.inr (fin s))) (s:σ) (h0:I 0 s):aI f (mk s 0)=some (foldE g fin l s):=by
 have key:∀ (n k:Nat) (s:σ),n=l.length - k→k ≤ l.length→I k s→aI f (mk s k)=some (foldE g fin (l.drop k) s):=by
  intro n
  induction n with
  | zero =>
   intro k s hn hk hI
   have:k=l.length:=by omega
   subst this
   rw [gO (he s hI),List.drop_length];rfl
  | succ n ih =>
   intro k s hn hk hI
   have hlt:k < l.length:=by omega
   rw [List.drop_eq_getElem_cons hlt]
   rcases hf s k hlt hI with ⟨s',h1,h2,h3⟩ | ⟨r,h1,h2⟩
   ·rw [nQ h2,ih (k + 1) s' (by omega) (by omega) h3]
    simp only [foldE,h1]
   ·rw [gO h2]
    simp only [foldE,h1]
 have:=key l.length 0 s (by omega) (by omega) h0
 simpa using this
end Go.OM
set_option maxHeartbeats 1000000
namespace Go.OM
def GNode.le (n:Nat) (a:GNode):Prop:=(a.Name.size ≤ n)∧(a.Kids.length ≤ n)
theorem GNode.ext' (a b:GNode):a=b ↔ a.Kind=b.Kind∧a.Num=b.Num∧a.Name=b.Name∧a.Kids=b.Kids:=by cases a;cases b;simp
def GParam.le (n:Nat) (a:GParam):Prop:=(a.Name.size ≤ n)
theorem GParam.ext' (a b:GParam):a=b ↔ a.Name=b.Name∧a.Typ=b.Typ:=by cases a;cases b;simp
def GFn.le (n:Nat) (a:GFn):Prop:=(a.Name.size ≤ n)∧(a.Params.length ≤ n∧∀ x ∈ a.Params,GParam.le n x)
theorem GFn.ext' (a b:GFn):a=b ↔ a.Name=b.Name∧a.Params=b.Params∧a.Res=b.Res∧a.Body=b.Body∧a.Ret=b.Ret:=by cases a;cases b;simp
def GProgram.le (n:Nat) (a:GProgram):Prop:=(a.Nodes.length ≤ n∧∀ x ∈ a.Nodes,GNode.le n x)∧(a.Fns.length ≤ n∧∀ x ∈ a.Fns,GFn.le n x)
theorem GProgram.ext' (a b:GProgram):a=b ↔ a.Nodes=b.Nodes∧a.Fns=b.Fns:=by cases a;cases b;simp
def GVar.le (n:Nat) (a:GVar):Prop:=(a.Name.size ≤ n)
theorem GVar.ext' (a b:GVar):a=b ↔ a.Name=b.Name∧a.Typ=b.Typ∧a.Node=b.Node:=by cases a;cases b;simp
def Gl07Seen.le (n:Nat) (a:Gl07Seen):Prop:=(GProgram.le n a.p)∧(a.there.length ≤ n∧∀ x ∈ a.there,x.size ≤ n)
theorem Gl07Seen.ext' (a b:Gl07Seen):a=b ↔ a.p=b.p∧a.fn=b.fn∧a.there=b.there∧a.bad=b.bad:=by cases a;cases b;simp
def Gl04Pack.le (n:Nat) (a:Gl04Pack):Prop:=(a.from_.length ≤ n∧∀ x ∈ a.from_,GNode.le n x)∧(a.to_.length ≤ n∧∀ x ∈ a.to_,GNode.le n x)
theorem Gl04Pack.ext' (a b:Gl04Pack):a=b ↔ a.from_=b.from_∧a.to_=b.to_∧a.bad=b.bad:=by cases a;cases b;simp
def Gpacker.le (n:Nat) (a:Gpacker):Prop:=(a.from_.length ≤ n∧∀ x ∈ a.from_,GNode.le n x)∧(a.to_.length ≤ n∧∀ x ∈ a.to_,GNode.le n x)
theorem Gpacker.ext' (a b:Gpacker):a=b ↔ a.from_=b.from_∧a.to_=b.to_∧a.bad=b.bad:=by cases a;cases b;simp
theorem laws_szIntS_p (a:List Int) (hw:a.length ≤ maxLen) (n:Int) (h0:0 ≤ n) (h1:n ≤ 1048576):∃ r,kF a n=some r∧r ≤ n∧(0 ≤ r→a.length ≤ 1048576):=by
 have hw':a.length ≤ 9223372036854775807:=hw
 unfold kF
 rw [w64 (by omega) (by omega)]
 split
 ·exact ⟨_,rfl,by omega,fun h=>by omega⟩
 ·rename_i h;simp only [decide_eq_true_eq] at h;exact ⟨_,rfl,by omega,fun h=>by omega⟩
theorem laws_toIntS_p (a:List Int) (h:a.length ≤ 1048576):kD a=some a:=by
 have hl:a.length ≤ 1048576:=h
 unfold kD
 rw [nO _ _ _ (by omega) (by omega)]
 simp only [Option.bind_some]
 rw [toS_gen a _ (eJ a) (fun out k hk ho=>?_) (fun out=>by simp [eJ])]
 ·rfl
 ·simp only [eJ,aB hk,if_true,aE hk,Option.bind_some,aE (show k < out.length by omega),dN,Int.toNat_natCast,dP hk (show a.length ≤ maxLen by show _ ≤ 9223372036854775807;omega)]
theorem laws_eqIntS_p (a b:List Int) (ha:a.length ≤ 1048576) (hb:b.length ≤ 1048576):kH a b=some (decide (a=b)):=by
 have hl:a.length ≤ 1048576:=ha
 unfold kH
 by_cases hlen:a.length=b.length
 ·have hlen':((a.length:Int) != (b.length:Int))=false:=by simp [hlen]
  simp only [hlen',Bool.false_eq_true,if_false]
  have key:=eqS_gen a b (fun x y=>!(x != y)) (fun x _ y _=>by simp) hlen (eK a b) (fun k hk hk2=>?_) (by simp [eK])
  ·by_cases e:a=b
   ·rw [key.1 e];simp [e]
   ·rw [key.2 e];simp [e]
  simp only [eK,aB hk,if_true,aE hk,aE hk2,Option.bind_some,dP hk (show a.length ≤ maxLen by show _ ≤ 9223372036854775807;omega)]
  try (by_cases e:a[k]=b[k]<;>simp [e])
 ·have hlen':((a.length:Int) != (b.length:Int))=true:=by simp;omega
  have hne:a ≠ b:=fun e=>hlen (by rw [e])
  simp [hlen',hne]
theorem laws_szNode_p (a:GNode) (hw:GNode.le maxLen a) (n:Int) (h0:0 ≤ n) (h1:n ≤ 1048576):∃ r,kE a n=some r∧r ≤ n∧(0 ≤ r→GNode.le 1048576 a):=by
 obtain ⟨hw0,hw1⟩:=hw
 unfold kE
 have hs0:a.Name.size ≤ 9223372036854775807:=hw0
 simp only [w64 (n:=n - (a.Name.size:Int)) (by omega) (by omega)]
 by_cases hn0:(n - (a.Name.size:Int)) < 0
 ·simp only [hn0,decide_true,if_true];exact ⟨_,rfl,by omega,fun h=>by omega⟩
 simp only [hn0,decide_false,Bool.false_eq_true,if_false]
 obtain ⟨r1,q1a,q1b,q1c⟩:=laws_szIntS_p a.Kids hw1 (n - (a.Name.size:Int)) (by omega) (by omega)
 simp only [q1a,Option.bind_some]
 by_cases hn1:r1 < 0
 ·simp only [hn1,decide_true,if_true];exact ⟨_,rfl,by omega,fun h=>by omega⟩
 simp only [hn1,decide_false,Bool.false_eq_true,if_false]
 exact ⟨_,rfl,by omega,fun _=>⟨by omega,q1c (by omega)⟩⟩
theorem laws_toNode_p (a:GNode) (h:GNode.le 1048576 a):kC a=some a:=by
 obtain ⟨h0,h1⟩:=h
 unfold kC
 simp only [laws_toIntS_p a.Kids h1,Option.bind_some]
theorem laws_eqNode_p (a b:GNode) (ha:GNode.le 1048576 a) (hb:GNode.le 1048576 b):kG a b=some (decide (a=b)):=by
 obtain ⟨ha0,ha1⟩:=ha
 obtain ⟨hb0,hb1⟩:=hb
 unfold kG
 try simp only [sEq_iff,Option.bind_some,laws_eqIntS_p a.Kids b.Kids ha1 hb1]
 rw [show decide (a=b)=decide (a.Kind=b.Kind∧a.Num=b.Num∧a.Name=b.Name∧a.Kids=b.Kids) from by simp only [GNode.ext' a b]]
 by_cases e0:a.Kind=b.Kind<;>by_cases e1:a.Num=b.Num<;>by_cases e2:a.Name=b.Name<;>by_cases e3:a.Kids=b.Kids<;>simp [e0,e1,e2,e3]
theorem laws_szNodeS_p (a:List GNode) (hw:a.length ≤ maxLen∧∀ x ∈ a,GNode.le maxLen x) (n:Int) (h0:0 ≤ n) (h1:n ≤ 1048576):∃ r,iR a n=some r∧r ≤ n∧(0 ≤ r→a.length ≤ 1048576∧∀ x ∈ a,GNode.le 1048576 x):=by
 have hw':a.length ≤ 9223372036854775807:=hw.1
 unfold iR
 rw [w64 (by omega) (by omega)]
 split
 ·exact ⟨_,rfl,by omega,fun h=>by omega⟩
 ·rename_i h
  simp only [decide_eq_true_eq] at h
  have hf:∀ (m:Int) (k:Nat) (g0:0 ≤ m) (g1:m ≤ 1048576) (hk:k < a.length),∃ r,r ≤ m∧(0 ≤ r→(fun x:GNode=>GNode.le 1048576 x) a[k])∧cK a (m,k)=some (if r < 0 then .inr (.inr (-1)) else .inl (r,((k + 1:Nat):Int))):=by
   intro m k g0 g1 hk
   obtain ⟨r,r1,r2,r3⟩:=laws_szNode_p a[k] (hw.2 _ (List.getElem_mem hk)) m g0 g1
   refine ⟨r,r2,r3,?_⟩
   simp only [cK,aB hk,if_true,aE hk,Option.bind_some,r1,dP hk hw.1]
   by_cases hr:r < 0<;>simp [hr]
  obtain ⟨j,hj,hj2⟩:=szS_gen _ a (cK a) 1048576 hf (fun m=>by simp [cK]) (n - a.length) (by omega) (by omega)
  rcases hj2 with rfl | ⟨m,rfl,q1,q2,q3⟩
  ·exact ⟨-1,by rw [hj];rfl,by omega,fun h=>by omega⟩
  ·exact ⟨m,by rw [hj];rfl,by omega,fun _=>⟨by omega,q3⟩⟩
theorem laws_toNodeS_p (a:List GNode) (h:a.length ≤ 1048576∧∀ x ∈ a,GNode.le 1048576 x):iP a=some a:=by
 have hl:a.length ≤ 1048576:=h.1
 unfold iP
 rw [nO _ _ _ (by omega) (by omega)]
 simp only [Option.bind_some]
 rw [toS_gen a _ (dH a) (fun out k hk ho=>?_) (fun out=>by simp [dH])]
 ·rfl
 ·simp only [dH,aB hk,if_true,aE hk,Option.bind_some,laws_toNode_p a[k] (h.2 _ (List.getElem_mem hk)),aE (show k < out.length by omega),dN,Int.toNat_natCast,dP hk (show a.length ≤ maxLen by show _ ≤ 9223372036854775807;omega)]
theorem laws_eqNodeS_p (a b:List GNode) (ha:a.length ≤ 1048576∧∀ x ∈ a,GNode.le 1048576 x) (hb:b.length ≤ 1048576∧∀ x ∈ b,GNode.le 1048576 x):iT a b=some (decide (a=b)):=by
 have hl:a.length ≤ 1048576:=ha.1
 unfold iT
 by_cases hlen:a.length=b.length
 ·have hlen':((a.length:Int) != (b.length:Int))=false:=by simp [hlen]
  simp only [hlen',Bool.false_eq_true,if_false]
  have key:=eqS_gen a b (fun x y=>decide (x=y)) (fun x _ y _=>by simp) hlen (dI a b) (fun k hk hk2=>?_) (by simp [dI])
  ·by_cases e:a=b
   ·rw [key.1 e];simp [e]
   ·rw [key.2 e];simp [e]
  simp only [dI,aB hk,if_true,aE hk,aE hk2,Option.bind_some,laws_eqNode_p a[k] b[k] (ha.2 _ (List.getElem_mem hk)) (hb.2 _ (List.getElem_mem hk2)),dP hk (show a.length ≤ maxLen by show _ ≤ 9223372036854775807;omega)]
  try (by_cases e:a[k]=b[k]<;>simp [e])
 ·have hlen':((a.length:Int) != (b.length:Int))=true:=by simp;omega
  have hne:a ≠ b:=fun e=>hlen (by rw [e])
  simp [hlen',hne]
theorem laws_szParam_p (a:GParam) (hw:GParam.le maxLen a) (n:Int) (h0:0 ≤ n) (h1:n ≤ 1048576):∃ r,iQ a n=some r∧r ≤ n∧(0 ≤ r→GParam.le 1048576 a):=by
 have hw0:=hw;unfold GParam.le at hw0
 unfold iQ
 have hs0:a.Name.size ≤ 9223372036854775807:=hw0
 simp only [w64 (n:=n - (a.Name.size:Int)) (by omega) (by omega)]
 by_cases hn0:(n - (a.Name.size:Int)) < 0
 ·simp only [hn0,decide_true,if_true];exact ⟨_,rfl,by omega,fun h=>by omega⟩
 simp only [hn0,decide_false,Bool.false_eq_true,if_false]
 exact ⟨_,rfl,by omega,fun _=>(by unfold GParam.le;first | omega | exact trivial)⟩
theorem laws_toParam_p (a:GParam) (h:GParam.le 1048576 a):iO a=some a:=by
 have h0:=h;unfold GParam.le at h0
 unfold iO
 rfl
theorem laws_eqParam_p (a b:GParam) (ha:GParam.le 1048576 a) (hb:GParam.le 1048576 b):iS a b=some (decide (a=b)):=by
 have ha0:=ha;have hb0:=hb;unfold GParam.le at ha0 hb0
 unfold iS
 try simp only [sEq_iff,Option.bind_some]
 rw [show decide (a=b)=decide (a.Name=b.Name∧a.Typ=b.Typ) from by simp only [GParam.ext' a b]]
 by_cases e0:a.Name=b.Name<;>by_cases e1:a.Typ=b.Typ<;>simp [e0,e1]
theorem laws_szParamS_p (a:List GParam) (hw:a.length ≤ maxLen∧∀ x ∈ a,GParam.le maxLen x) (n:Int) (h0:0 ≤ n) (h1:n ≤ 1048576):∃ r,gQ a n=some r∧r ≤ n∧(0 ≤ r→a.length ≤ 1048576∧∀ x ∈ a,GParam.le 1048576 x):=by
 have hw':a.length ≤ 9223372036854775807:=hw.1
 unfold gQ
 rw [w64 (by omega) (by omega)]
 split
 ·exact ⟨_,rfl,by omega,fun h=>by omega⟩
 ·rename_i h
  simp only [decide_eq_true_eq] at h
  have hf:∀ (m:Int) (k:Nat) (g0:0 ≤ m) (g1:m ≤ 1048576) (hk:k < a.length),∃ r,r ≤ m∧(0 ≤ r→(fun x:GParam=>GParam.le 1048576 x) a[k])∧bR a (m,k)=some (if r < 0 then .inr (.inr (-1)) else .inl (r,((k + 1:Nat):Int))):=by
   intro m k g0 g1 hk
   obtain ⟨r,r1,r2,r3⟩:=laws_szParam_p a[k] (hw.2 _ (List.getElem_mem hk)) m g0 g1
   refine ⟨r,r2,r3,?_⟩
   simp only [bR,aB hk,if_true,aE hk,Option.bind_some,r1,dP hk hw.1]
   by_cases hr:r < 0<;>simp [hr]
  obtain ⟨j,hj,hj2⟩:=szS_gen _ a (bR a) 1048576 hf (fun m=>by simp [bR]) (n - a.length) (by omega) (by omega)
  rcases hj2 with rfl | ⟨m,rfl,q1,q2,q3⟩
  ·exact ⟨-1,by rw [hj];rfl,by omega,fun h=>by omega⟩
  ·exact ⟨m,by rw [hj];rfl,by omega,fun _=>⟨by omega,q3⟩⟩
theorem laws_toParamS_p (a:List GParam) (h:a.length ≤ 1048576∧∀ x ∈ a,GParam.le 1048576 x):gP a=some a:=by
 have hl:a.length ≤ 1048576:=h.1
 unfold gP
 rw [nO _ _ _ (by omega) (by omega)]
 simp only [Option.bind_some]
 rw [toS_gen a _ (cO a) (fun out k hk ho=>?_) (fun out=>by simp [cO])]
 ·rfl
 ·simp only [cO,aB hk,if_true,aE hk,Option.bind_some,laws_toParam_p a[k] (h.2 _ (List.getElem_mem hk)),aE (show k < out.length by omega),dN,Int.toNat_natCast,dP hk (show a.length ≤ maxLen by show _ ≤ 9223372036854775807;omega)]
theorem laws_eqParamS_p (a b:List GParam) (ha:a.length ≤ 1048576∧∀ x ∈ a,GParam.le 1048576 x) (hb:b.length ≤ 1048576∧∀ x ∈ b,GParam.le 1048576 x):gR a b=some (decide (a=b)):=by
 have hl:a.length ≤ 1048576:=ha.1
 unfold gR
 by_cases hlen:a.length=b.length
 ·have hlen':((a.length:Int) != (b.length:Int))=false:=by simp [hlen]
  simp only [hlen',Bool.false_eq_true,if_false]
  have key:=eqS_gen a b (fun x y=>decide (x=y)) (fun x _ y _=>by simp) hlen (cP a b) (fun k hk hk2=>?_) (by simp [cP])
  ·by_cases e:a=b
   ·rw [key.1 e];simp [e]
   ·rw [key.2 e];simp [e]
  simp only [cP,aB hk,if_true,aE hk,aE hk2,Option.bind_some,laws_eqParam_p a[k] b[k] (ha.2 _ (List.getElem_mem hk)) (hb.2 _ (List.getElem_mem hk2)),dP hk (show a.length ≤ maxLen by show _ ≤ 9223372036854775807;omega)]
  try (by_cases e:a[k]=b[k]<;>simp [e])
 ·have hlen':((a.length:Int) != (b.length:Int))=true:=by simp;omega
  have hne:a ≠ b:=fun e=>hlen (by rw [e])
  simp [hlen',hne]
theorem laws_szFn_p (a:GFn) (hw:GFn.le maxLen a) (n:Int) (h0:0 ≤ n) (h1:n ≤ 1048576):∃ r,nW a n=some r∧r ≤ n∧(0 ≤ r→GFn.le 1048576 a):=by
 obtain ⟨hw0,hw1⟩:=hw
 unfold nW
 have hs0:a.Name.size ≤ 9223372036854775807:=hw0
 simp only [w64 (n:=n - (a.Name.size:Int)) (by omega) (by omega)]
 by_cases hn0:(n - (a.Name.size:Int)) < 0
 ·simp only [hn0,decide_true,if_true];exact ⟨_,rfl,by omega,fun h=>by omega⟩
 simp only [hn0,decide_false,Bool.false_eq_true,if_false]
 obtain ⟨r1,q1a,q1b,q1c⟩:=laws_szParamS_p a.Params hw1 (n - (a.Name.size:Int)) (by omega) (by omega)
 simp only [q1a,Option.bind_some]
 by_cases hn1:r1 < 0
 ·simp only [hn1,decide_true,if_true];exact ⟨_,rfl,by omega,fun h=>by omega⟩
 simp only [hn1,decide_false,Bool.false_eq_true,if_false]
 exact ⟨_,rfl,by omega,fun _=>⟨by omega,q1c (by omega)⟩⟩
theorem laws_toFn_p (a:GFn) (h:GFn.le 1048576 a):nV a=some a:=by
 obtain ⟨h0,h1⟩:=h
 unfold nV
 simp only [laws_toParamS_p a.Params h1,Option.bind_some]
theorem laws_eqFn_p (a b:GFn) (ha:GFn.le 1048576 a) (hb:GFn.le 1048576 b):nX a b=some (decide (a=b)):=by
 obtain ⟨ha0,ha1⟩:=ha
 obtain ⟨hb0,hb1⟩:=hb
 unfold nX
 try simp only [sEq_iff,Option.bind_some,laws_eqParamS_p a.Params b.Params ha1 hb1]
 rw [show decide (a=b)=decide (a.Name=b.Name∧a.Params=b.Params∧a.Res=b.Res∧a.Body=b.Body∧a.Ret=b.Ret) from by simp only [GFn.ext' a b]]
 by_cases e0:a.Name=b.Name<;>by_cases e1:a.Params=b.Params<;>by_cases e2:a.Res=b.Res<;>by_cases e3:a.Body=b.Body<;>by_cases e4:a.Ret=b.Ret<;>simp [e0,e1,e2,e3,e4]
theorem laws_szFnS_p (a:List GFn) (hw:a.length ≤ maxLen∧∀ x ∈ a,GFn.le maxLen x) (n:Int) (h0:0 ≤ n) (h1:n ≤ 1048576):∃ r,lR a n=some r∧r ≤ n∧(0 ≤ r→a.length ≤ 1048576∧∀ x ∈ a,GFn.le 1048576 x):=by
 have hw':a.length ≤ 9223372036854775807:=hw.1
 unfold lR
 rw [w64 (by omega) (by omega)]
 split
 ·exact ⟨_,rfl,by omega,fun h=>by omega⟩
 ·rename_i h
  simp only [decide_eq_true_eq] at h
  have hf:∀ (m:Int) (k:Nat) (g0:0 ≤ m) (g1:m ≤ 1048576) (hk:k < a.length),∃ r,r ≤ m∧(0 ≤ r→(fun x:GFn=>GFn.le 1048576 x) a[k])∧dR a (m,k)=some (if r < 0 then .inr (.inr (-1)) else .inl (r,((k + 1:Nat):Int))):=by
   intro m k g0 g1 hk
   obtain ⟨r,r1,r2,r3⟩:=laws_szFn_p a[k] (hw.2 _ (List.getElem_mem hk)) m g0 g1
   refine ⟨r,r2,r3,?_⟩
   simp only [dR,aB hk,if_true,aE hk,Option.bind_some,r1,dP hk hw.1]
   by_cases hr:r < 0<;>simp [hr]
  obtain ⟨j,hj,hj2⟩:=szS_gen _ a (dR a) 1048576 hf (fun m=>by simp [dR]) (n - a.length) (by omega) (by omega)
  rcases hj2 with rfl | ⟨m,rfl,q1,q2,q3⟩
  ·exact ⟨-1,by rw [hj];rfl,by omega,fun h=>by omega⟩
  ·exact ⟨m,by rw [hj];rfl,by omega,fun _=>⟨by omega,q3⟩⟩
theorem laws_toFnS_p (a:List GFn) (h:a.length ≤ 1048576∧∀ x ∈ a,GFn.le 1048576 x):lQ a=some a:=by
 have hl:a.length ≤ 1048576:=h.1
 unfold lQ
 rw [nO _ _ _ (by omega) (by omega)]
 simp only [Option.bind_some]
 rw [toS_gen a _ (fH a) (fun out k hk ho=>?_) (fun out=>by simp [fH])]
 ·rfl
 ·simp only [fH,aB hk,if_true,aE hk,Option.bind_some,laws_toFn_p a[k] (h.2 _ (List.getElem_mem hk)),aE (show k < out.length by omega),dN,Int.toNat_natCast,dP hk (show a.length ≤ maxLen by show _ ≤ 9223372036854775807;omega)]
theorem laws_eqFnS_p (a b:List GFn) (ha:a.length ≤ 1048576∧∀ x ∈ a,GFn.le 1048576 x) (hb:b.length ≤ 1048576∧∀ x ∈ b,GFn.le 1048576 x):lS a b=some (decide (a=b)):=by
 have hl:a.length ≤ 1048576:=ha.1
 unfold lS
 by_cases hlen:a.length=b.length
 ·have hlen':((a.length:Int) != (b.length:Int))=false:=by simp [hlen]
  simp only [hlen',Bool.false_eq_true,if_false]
  have key:=eqS_gen a b (fun x y=>decide (x=y)) (fun x _ y _=>by simp) hlen (fI a b) (fun k hk hk2=>?_) (by simp [fI])
  ·by_cases e:a=b
   ·rw [key.1 e];simp [e]
   ·rw [key.2 e];simp [e]
  simp only [fI,aB hk,if_true,aE hk,aE hk2,Option.bind_some,laws_eqFn_p a[k] b[k] (ha.2 _ (List.getElem_mem hk)) (hb.2 _ (List.getElem_mem hk2)),dP hk (show a.length ≤ maxLen by show _ ≤ 9223372036854775807;omega)]
  try (by_cases e:a[k]=b[k]<;>simp [e])
 ·have hlen':((a.length:Int) != (b.length:Int))=true:=by simp;omega
  have hne:a ≠ b:=fun e=>hlen (by rw [e])
  simp [hlen',hne]
theorem laws_szProgram_p (a:GProgram) (hw:GProgram.le maxLen a) (n:Int) (h0:0 ≤ n) (h1:n ≤ 1048576):∃ r,fU a n=some r∧r ≤ n∧(0 ≤ r→GProgram.le 1048576 a):=by
 obtain ⟨hw0,hw1⟩:=hw
 unfold fU
 obtain ⟨r0,q0a,q0b,q0c⟩:=laws_szNodeS_p a.Nodes hw0 n (by omega) (by omega)
 simp only [q0a,Option.bind_some]
 by_cases hn0:r0 < 0
 ·simp only [hn0,decide_true,if_true];exact ⟨_,rfl,by omega,fun h=>by omega⟩
 simp only [hn0,decide_false,Bool.false_eq_true,if_false]
 obtain ⟨r1,q1a,q1b,q1c⟩:=laws_szFnS_p a.Fns hw1 r0 (by omega) (by omega)
 simp only [q1a,Option.bind_some]
 by_cases hn1:r1 < 0
 ·simp only [hn1,decide_true,if_true];exact ⟨_,rfl,by omega,fun h=>by omega⟩
 simp only [hn1,decide_false,Bool.false_eq_true,if_false]
 exact ⟨_,rfl,by omega,fun _=>⟨q0c (by omega),q1c (by omega)⟩⟩
theorem laws_toProgram_p (a:GProgram) (h:GProgram.le 1048576 a):cV a=some a:=by
 obtain ⟨h0,h1⟩:=h
 unfold cV
 simp only [laws_toNodeS_p a.Nodes h0,laws_toFnS_p a.Fns h1,Option.bind_some]
theorem laws_eqProgram_p (a b:GProgram) (ha:GProgram.le 1048576 a) (hb:GProgram.le 1048576 b):fV a b=some (decide (a=b)):=by
 obtain ⟨ha0,ha1⟩:=ha
 obtain ⟨hb0,hb1⟩:=hb
 unfold fV
 try simp only [sEq_iff,Option.bind_some,laws_eqNodeS_p a.Nodes b.Nodes ha0 hb0,laws_eqFnS_p a.Fns b.Fns ha1 hb1]
 rw [show decide (a=b)=decide (a.Nodes=b.Nodes∧a.Fns=b.Fns) from by simp only [GProgram.ext' a b]]
 by_cases e0:a.Nodes=b.Nodes<;>by_cases e1:a.Fns=b.Fns<;>simp [e0,e1]
end Go.OM
namespace Go.OM
theorem ite_some {α:Type} {c:Prop} [Decidable c] (a b:α):(if c then some a else some b)=some (if c then a else b):=by split<;>rfl
def inB (x a b:Int):Bool:=decide (a ≤ x) && decide (x ≤ b)
theorem inB_iff {x a b:Int}:inB x a b=true ↔ a ≤ x∧x ≤ b:=by simp [inB]
theorem inB_false {x a b:Int}:inB x a b=false ↔ ¬ (a ≤ x∧x ≤ b):=by rw [← inB_iff];simp
theorem bO (x a b:Int):bT x a b=some (inB x a b):=by
 unfold bT inB
 by_cases h:a ≤ x<;>simp [h]
theorem dC (x a b:Int):aR x a b=some (inB x a b):=by
 unfold aR inB
 by_cases h:a ≤ x<;>simp [h]
def bI (z:ByteArray):List Int:=z.data.toList.map fun x=>((x.toNat:Nat):Int)
theorem lZ (z:ByteArray):(bI z).length=z.size:=by rw [bI,List.length_map];exact Array.length_toList
theorem sAt_bI {z:ByteArray} {k:Nat} (h:k < (bI z).length):sAt z k=some (bI z)[k]:=by
 have h1:k < z.size:=by rw [← lZ];exact h
 unfold sAt
 rw [if_pos ⟨by omega,by omega⟩]
 simp only [byteAt,Int.toNat_natCast,bI]
 have e:z.data.toList.length=z.size:=Array.length_toList
 have h2:k < z.data.toList.length:=by omega
 rw [List.getD_eq_getElem?_getD,List.getElem?_eq_getElem h2]
 simp only [Option.getD_some,List.getElem_map]
def jL (b:Int):Bool:=inB b 97 122
def mN (b:Int):Bool:=inB b 48 57
theorem mW (b:Int):fL b=some (jL b):=by
 unfold fL jL inB
 by_cases h:97 ≤ b<;>simp [h]
theorem impl_isFigure_eq (b:Int):gU b=some (mN b):=by
 unfold gU mN inB
 by_cases h:48 ≤ b<;>simp [h]
theorem lK (b:Int):eC b=some (jL b):=by
 unfold eC jL inB
 by_cases h:97 ≤ b<;>simp [h]
theorem spec_l03Figure_eq (b:Int):fR b=some (mN b):=by
 unfold fR mN inB
 by_cases h:48 ≤ b<;>simp [h]
def keys:List ByteArray:=[⟨#[102,110]⟩,⟨#[108,101,116]⟩,⟨#[105,102]⟩,⟨#[101,108,115,101]⟩,⟨#[119,104,105,108,101]⟩,⟨#[112,114,105,110,116]⟩,⟨#[100,111]⟩,⟨#[110,101,119]⟩,⟨#[99,108,111,110,101]⟩,⟨#[109,117,116]⟩,⟨#[105,110,112,117,116]⟩,⟨#[105,110,116]⟩,⟨#[98,111,120]⟩,⟨#[114,101,116]⟩]
def keyB (s:ByteArray):Bool:=keys.any fun w=>sEq w s
theorem keys_split:strings_Split (⟨#[102,110,32,108,101,116,32,105,102,32,101,108,115,101,32,119,104,105,108,101,32,112,114,105,110,116,32,100,111,32,110,101,119,32,99,108,111,110,101,32,109,117,116,32,105,110,112,117,116,32,105,110,116,32,98,111,120,32,114,101,116]⟩:ByteArray) (⟨#[32]⟩:ByteArray)=some keys:=by kernel_rfl
theorem any_loop (l:List ByteArray) (s:ByteArray) (hl:l.length ≤ 1048576) (f:Int→Option (Int ⊕ (Unit ⊕ Bool)))
  (hf:∀ i,f i=if (decide (i < (l.length:Int)))=true then (getI l i).bind fun e=>if (sEq e s)=true then some (Sum.inr (Sum.inr true)) else some (Sum.inl (IntKind.wrap .i64 (i + 1))) else some (Sum.inr (Sum.inl ()))) :
  aI f 0=some (if (l.any fun w=>sEq w s)=true then .inr true else .inl ()):=by
 refine qM l (fun w=>sEq w s) f (fun k hk=>?_) (by rw [hf];simp)
 rw [hf]
 simp only [aB hk,if_true,aE hk,Option.bind_some,dP hk (show l.length ≤ maxLen by show _ ≤ 9223372036854775807;omega),ite_some]
theorem spec_KeyWord_eq (s:ByteArray):iJ s=some (keyB s):=by
 unfold iJ kT
 simp only [Option.bind_some]
 have h:=any_loop keys s (by decide) (eV s keys) (fun i=>by simp only [eV])
 unfold keys at h
 rw [h]
 unfold keyB keys
 simp only [Option.bind_some]
 split<;>rename_i h2<;>split at h2<;>simp_all
theorem impl_KeyWord_eq (s:ByteArray):jA s=some (keyB s):=by
 unfold jA oU
 rw [keys_split]
 simp only [Option.bind_some]
 rw [any_loop keys s (by decide) (gT s keys) (fun i=>by simp only [gT])]
 unfold keyB
 simp only [Option.bind_some]
 cases keys.any fun w=>sEq w s<;>rfl
def charB (b:Int):Bool:=jL b || mN b
def pA (s:ByteArray):Bool:=inB s.size 1 8 && (jL ((bI s).getD 0 0) && ((bI s).all charB && !keyB s))
theorem name_loop (s:ByteArray) (hs:s.size ≤ 8) (f:Int→Option (Int ⊕ (Unit ⊕ Bool)))
  (hf:∀ (k:Nat) (h:k < (bI s).length),f k=some (if charB (bI s)[k]=true then .inl (IntKind.wrap .i64 ((k:Int) + 1)) else .inr (.inr false)))
  (he:f s.size=some (.inr (.inl ()))):aI f 0=some (if (bI s).all charB=true then .inl () else .inr false):=by
 refine nR (bI s) charB f (fun k hk=>?_) (by rw [lZ];exact he)
 rw [hf k hk,dP hk (show (bI s).length ≤ maxLen by rw [lZ];show _ ≤ 9223372036854775807;omega)]
theorem bI_zero {s:ByteArray} (h:1 ≤ s.size):sAt s 0=some ((bI s).getD 0 0):=by
 have h1:0 < (bI s).length:=by rw [lZ];omega
 have:=sAt_bI h1
 rw [show ((0:Nat):Int)=0 from rfl] at this
 rw [this,List.getD_eq_getElem?_getD,List.getElem?_eq_getElem h1];rfl
theorem lG (s:ByteArray):fZ s=some (pA s):=by
 unfold fZ pA
 simp only [bO,Option.bind_some]
 by_cases hi:inB s.size 1 8=true
 ·have hi':=inB_iff.1 hi
  rw [bI_zero (by omega),name_loop s (by omega) (eR s) (fun k hk=>?_) (by simp [eR])]
  ·simp only [hi,mW,impl_KeyWord_eq,Option.bind_some,Bool.not_true,Bool.false_eq_true,if_false,Bool.true_and]
   cases jL ((bI s).getD 0 0)<;>cases (bI s).all charB<;>cases keyB s<;>rfl
  ·have hk2:k < s.size:=by rw [← lZ];exact hk
   simp only [eR,aB hk2,if_true,sAt_bI hk,mW,impl_isFigure_eq,Option.bind_some]
   rw [show charB (bI s)[k]=(jL (bI s)[k] || mN (bI s)[k]) from rfl]
   cases jL (bI s)[k]<;>cases mN (bI s)[k]<;>rfl
 ·simp [Bool.eq_false_iff.2 hi]
theorem kZ (s:ByteArray):fY s=some (pA s):=by
 unfold fY pA
 simp only [dC,Option.bind_some]
 by_cases hi:inB s.size 1 8=true
 ·have hi':=inB_iff.1 hi
  rw [bI_zero (by omega),name_loop s (by omega) (eH s) (fun k hk=>?_) (by simp [eH])]
  ·simp only [hi,lK,spec_KeyWord_eq,Option.bind_some,Bool.not_true,Bool.false_eq_true,if_false,Bool.true_and]
   cases jL ((bI s).getD 0 0)<;>cases (bI s).all charB<;>cases keyB s<;>rfl
  ·have hk2:k < s.size:=by rw [← lZ];exact hk
   simp only [eH,aB hk2,if_true,sAt_bI hk,lK,spec_l03Figure_eq,Option.bind_some]
   rw [show charB (bI s)[k]=(jL (bI s)[k] || mN (bI s)[k]) from rfl]
   cases jL (bI s)[k]<;>cases mN (bI s)[k]<;>rfl
 ·simp [Bool.eq_false_iff.2 hi]
end Go.OM
namespace Go.OM
theorem gI {n:Nat} (h:n ≤ 1048576):IntKind.wrap .i64 ((n:Int) - 1)=(n:Int) - 1:=w64 (by omega) (by omega)
end Go.OM
namespace Go.OM
theorem bM {α σ ρ:Type} (h:σ→α→σ) (fin:σ→ρ):∀ (l:List α) (s:σ),foldE (fun s x=>(.inl (h s x):σ ⊕ ρ)) fin l s=fin (l.foldl h s)
 | [],s=>rfl
 | x :: l,s=>by simp only [foldE,List.foldl_cons];exact bM h fin l _
theorem app1 {n:Nat} {s:List Int} {e:Int} (h:s.length ≤ 1048576) (hn:n ≤ 64):appI n s [e]=some (s ++ [e]):=by
 unfold appI
 have h1:(s.length + [e].length) * n ≤ (s.length + [e].length) * 64:=Nat.mul_le_mul_left _ hn
 rw [if_pos ⟨by simp only [List.length_cons,List.length_nil] at h1 ⊢;omega,by simp only [List.length_cons,List.length_nil];omega⟩]
def addL (out:List Int) (n:Int):List Int:=if out.contains n=true then out else out ++ [n]
theorem spec_l11Add_eq (out:List Int) (n:Int) (h:out.length ≤ 1048576):jV out n=some (addL out n):=by
 unfold jV addL
 rw [oS out (fun e=>if (e == n)=true then some out else none) (dZ out n) (fun k hk=>by
  simp only [dZ,aB hk,if_true,aE hk,Option.bind_some,dP hk (show out.length ≤ maxLen by show _ ≤ 9223372036854775807;omega)]
  cases out[k] == n<;>rfl) (by simp [dZ])]
 have key:∀ l:List Int,l.findSome? (fun e=>if (e == n)=true then some out else none)=if l.contains n=true then some out else none:=by
  intro l
  induction l with
  | nil=>rfl
  | cons x l ih =>
   rw [List.findSome?_cons,List.contains_cons]
   by_cases hx:x=n
   ·simp [hx]
   ·have h1:(x == n)=false:=by simpa using hx
    have h2:(n == x)=false:=by simpa using fun e=>hx e.symm
    rw [h1,h2,Bool.false_or,← ih]
    rfl
 rw [key]
 cases out.contains n
 ·simp only [Bool.false_eq_true,if_false,Option.bind_some,app1 (n:=8) h (by omega)]
 ·rfl
theorem mem_addL {out:List Int} {n m:Int}:m ∈ addL out n ↔ m ∈ out ∨ m=n:=by
 unfold addL
 by_cases h:out.contains n=true
 ·rw [if_pos h]
  have:=List.contains_iff_mem.1 h
  constructor
  ·exact .inl
  ·rintro (h | rfl)
   ·exact h
   ·exact this
 ·rw [if_neg h];simp
theorem eI (m:Int):∀ (l s:List Int),m ∈ l.foldl addL s ↔ m ∈ s ∨ m ∈ l
 | [],s=>by simp
 | x :: l,s=>by rw [List.foldl_cons,eI m l,mem_addL,List.mem_cons,or_assoc]
end Go.OM
namespace Go.OM
inductive Reach (next:Nat→List Int) (root:Nat):Nat→Prop
 | base:Reach next root root
 | step {i:Nat} {m:Int}:Reach next root i→m ∈ next i→Reach next root m.toNat
theorem Reach.congr {next next':Nat→List Int} {root:Nat} (h:∀ i m,m ∈ next i ↔ m ∈ next' i) {n:Nat}:Reach next root n ↔ Reach next' root n:=by
 constructor
 ·intro r
  induction r with
  | base=>exact .base
  | step _ hm ih=>exact .step ih ((h _ _).1 hm)
 ·intro r
  induction r with
  | base=>exact .base
  | step _ hm ih=>exact .step ih ((h _ _).2 hm)
end Go.OM
namespace Go.OM
abbrev Tab:=List (List Bool)
structure TabOk (W L:Nat) (t:Tab):Prop where
 len:t.length=W
 row:∀ r ∈ t,r.length=L
theorem TabOk.set {W L:Nat} {t:Tab} (h:TabOk W L t) (n:Nat) {r:List Bool} (hr:r.length=L):TabOk W L (t.set n r) :=
 ⟨by simpa using h.len,fun x hx=>by
  rcases List.mem_or_eq_of_mem_set hx with h1 | h1
  ·exact h.row x h1
  ·rw [h1];exact hr⟩
theorem aN {k n:Nat} (hk:k < n) (hn:n ≤ 1048576):IntKind.wrap .i64 ((k:Int) + 1)=((k + 1:Nat):Int):=dP hk (show n ≤ maxLen by show _ ≤ 9223372036854775807;omega)
theorem app1g {α:Type} {n:Nat} {s:List α} {e:α} (h:s.length ≤ 1048576) (hn:n ≤ 64):appI n s [e]=some (s ++ [e]):=by
 unfold appI
 have h1:(s.length + [e].length) * n ≤ (s.length + [e].length) * 64:=Nat.mul_le_mul_left _ hn
 rw [if_pos ⟨by simp only [List.length_cons,List.length_nil] at h1 ⊢;omega,by simp only [List.length_cons,List.length_nil];omega⟩]
def cntR (r:List Bool):Nat:=r.count true
def cntT (t:Tab):Nat:=(t.map cntR).sum
end Go.OM
namespace Go.OM
theorem bU {α:Type} {l:List α} {v:Int} (h0:0 ≤ v) (h:v < l.length):getI l v=some (l[v.toNat]'(by omega)):=by
 have:v=((v.toNat:Nat):Int):=by omega
 conv=>lhs;rw [this]
 exact aE (by omega)
theorem app_nil {α:Type} {n:Nat} {l:List α} (h:l.length ≤ 1048576) (hn:n ≤ 64):appI n [] l=some l:=by
 unfold appI
 have h1:(([]:List α).length + l.length) * n ≤ (([]:List α).length + l.length) * 64:=Nat.mul_le_mul_left _ hn
 rw [if_pos ⟨by simp only [List.length_nil] at h1 ⊢;omega,by simp only [List.length_nil];omega⟩]
 simp
end Go.OM
namespace Go.OM
structure Dn (W L:Nat) (s s':Tab × Bool):Prop where
 ok:TabOk W L s'.1
 le:cntT s'.1 ≤ cntT s.1
 lt:s'.2=true→s.2=true ∨ cntT s'.1 < cntT s.1
 keep:s.2=true→s'.2=true
theorem Dn.trans {W L:Nat} {s s' s2:Tab × Bool} (h:Dn W L s s') (h2:Dn W L s' s2):Dn W L s s2 :=
 ⟨h2.ok,Nat.le_trans h2.le h.le,fun e=>by
  rcases h2.lt e with e | e
  ·rcases h.lt e with e | e
   ·exact .inl e
   ·exact .inr (Nat.lt_of_le_of_lt h2.le e)
  ·exact .inr (Nat.lt_of_lt_of_le e h.le),fun e=>h2.keep (h.keep e)⟩
end Go.OM
namespace Go.OM
theorem qU (l:List Int) (n:Int) (hl:l.length ≤ 1048576):eZ l n=some (l.contains n):=by
 unfold eZ
 rw [qM l (fun e=>e == n) (eL l n) (fun k hk=>by
  simp only [eL,aB hk,if_true,aE hk,Option.bind_some,aN hk hl]
  cases l[k] == n<;>rfl) (by simp [eL])]
 have:(l.any fun e=>e == n)=l.contains n:=by
  induction l with
  | nil=>rfl
  | cons x l ih =>
   rw [List.any_cons,List.contains_cons,ih (by simp at hl;omega)]
   congr 1
   rw [Bool.eq_iff_iff,beq_iff_eq,beq_iff_eq]
   exact eq_comm
 rw [this]
 cases l.contains n<;>rfl
theorem find_range {ρ:Type} (n:Nat) (q:Nat→Option ρ) (f:Int→Option (Int ⊕ (Unit ⊕ ρ)))
  (hf:∀ (k:Nat),k < n→f k=some (match q k with | none=>.inl ((k + 1:Nat):Int) | some r=>.inr (.inr r)))
  (he:f n=some (.inr (.inl ()))):aI f 0=some (match (List.range n).findSome? q with | some r=>.inr r | none=>.inl ()) :=
 oS (List.range n) q f (fun k hk=>by
  have hk':k < n:=by simpa using hk
  rw [hf k hk',List.getElem_range]
  all_goals (cases q k<;>rfl)) (by rw [List.length_range];exact he)
end Go.OM
namespace Go.OM
def nD (k:Int):Bool:=inB k 1 12
def stepKB (k:Int):Bool:=inB k 13 19
theorem oD (k:Int):gF k=some (nD k):=by simp only [gF,bO,Option.bind_some,nD]
theorem impl_isStep_eq (k:Int):kK k=some (stepKB k):=by simp only [kK,bO,Option.bind_some,stepKB]
theorem mP (k:Int):dQ k=some (nD k):=by simp only [dQ,dC,Option.bind_some,nD]
theorem oZ (k:Int):dA k=some (stepKB k):=by simp only [dA,dC,Option.bind_some,stepKB]
def gC (k:Int):Int × Int:=if k=8 ∨ k=13 ∨ k=14 ∨ k=15 ∨ k=18 ∨ k=19 then (1,1) else if k=9 ∨ k=10 ∨ k=11 ∨ k=17 then (2,2) else if k=16 then (3,3) else if k=12 then (0,3) else if k=20 then (0,12) else (0,0)
theorem impl_shape_eq (k:Int):lV k=some (gC k):=by
 unfold lV gC
 by_cases h8:k=8
 ·simp [h8]
 by_cases h13:k=13
 ·simp [h13]
 by_cases h14:k=14
 ·simp [h14]
 by_cases h15:k=15
 ·simp [h15]
 by_cases h18:k=18
 ·simp [h18]
 by_cases h19:k=19
 ·simp [h19]
 by_cases h9:k=9
 ·simp [h9]
 by_cases h10:k=10
 ·simp [h10]
 by_cases h11:k=11
 ·simp [h11]
 by_cases h17:k=17
 ·simp [h17]
 by_cases h16:k=16
 ·simp [h16]
 by_cases h12:k=12
 ·simp [h12]
 by_cases h20:k=20
 ·simp [h20]
 simp [h8,h13,h14,h15,h18,h19,h9,h10,h11,h17,h16,h12,h20]
theorem spec_l04Kids_eq (k:Int):iH k=some (gC k):=by
 unfold iH gC
 by_cases h8:k=8
 ·simp [h8]
 by_cases h13:k=13
 ·simp [h13]
 by_cases h14:k=14
 ·simp [h14]
 by_cases h15:k=15
 ·simp [h15]
 by_cases h18:k=18
 ·simp [h18]
 by_cases h19:k=19
 ·simp [h19]
 by_cases h9:k=9
 ·simp [h9]
 by_cases h10:k=10
 ·simp [h10]
 by_cases h11:k=11
 ·simp [h11]
 by_cases h17:k=17
 ·simp [h17]
 by_cases h16:k=16
 ·simp [h16]
 by_cases h12:k=12
 ·simp [h12]
 by_cases h20:k=20
 ·simp [h20]
 simp [h8,h13,h14,h15,h18,h19,h9,h10,h11,h17,h16,h12,h20]
def qY (kind i kid:Int):Bool:=if kind=20 then stepKB kid else if (kind=16 ∨ kind=17)∧0 < i then kid == 20 else if kind=19 then kid == 12 else nD kid
theorem impl_kidFits_eq (kind i kid:Int):iV kind i kid=some (qY kind i kid):=by
 unfold iV qY
 simp only [impl_isStep_eq,oD,Option.bind_some,gt_iff_lt]
 by_cases h20:kind=20
 ·simp [h20]
 by_cases h16:kind=16
 ·by_cases hi:0 < i<;>simp [h16,hi]
 by_cases h17:kind=17
 ·by_cases hi:0 < i<;>simp [h17,hi]
 by_cases h19:kind=19
 ·simp [h19]
 simp [h20,h16,h17,h19]
theorem spec_l04Fits_eq (kind i kid:Int):iI kind i kid=some (qY kind i kid):=by
 unfold iI qY
 simp only [oZ,mP,Option.bind_some,gt_iff_lt]
 by_cases h20:kind=20
 ·simp [h20]
 by_cases h16:kind=16
 ·by_cases hi:0 < i<;>simp [h16,hi]
 by_cases h17:kind=17
 ·by_cases hi:0 < i<;>simp [h17,hi]
 by_cases h19:kind=19
 ·simp [h19]
 simp [h20,h16,h17,h19]
def mT (k:Int):Bool:=inB k 2 6 || inB k 12 15
theorem impl_hasName_eq (k:Int):iX k=some (mT k):=by
 unfold iX mT
 simp only [bO,Option.bind_some]
 cases inB k 2 6<;>rfl
theorem spec_l04Named_eq (k:Int):gL k=some (mT k):=by
 unfold gL mT
 by_cases h:inB k 2 6=true
 ·have h':=inB_iff.1 h
  rw [h]
  have:k=2 ∨ k=3 ∨ k=4 ∨ k=5 ∨ k=6:=by omega
  rcases this with e | e | e | e | e<;>simp [e]
 ·by_cases h2:inB k 12 15=true
  ·have h':=inB_iff.1 h2
   rw [h2]
   have:k=12 ∨ k=13 ∨ k=14 ∨ k=15:=by omega
   rcases this with e | e | e | e<;>simp [e]
  ·have h':=inB_false.1 (Bool.eq_false_iff.2 h)
   have h2':=inB_false.1 (Bool.eq_false_iff.2 h2)
   have n2:¬ k=2:=by omega
   have n3:¬ k=3:=by omega
   have n4:¬ k=4:=by omega
   have n5:¬ k=5:=by omega
   have n6:¬ k=6:=by omega
   have n12:¬ k=12:=by omega
   have n13:¬ k=13:=by omega
   have n14:¬ k=14:=by omega
   have n15:¬ k=15:=by omega
   simp [Bool.eq_false_iff.2 h,Bool.eq_false_iff.2 h2,n2,n3,n4,n5,n6,n12,n13,n14,n15]
def kidB (nodes:List GNode) (k:Nat) (x:GNode) (i:Nat):Bool:=match x.Kids[i]? with
 | none=>false
 | some kid=>inB kid 0 ((k:Int) - 1) && (!((x.Kids.take i).contains kid) && (match nodes[kid.toNat]? with | some y=>qY x.Kind i y.Kind | none=>false))
theorem kidB_at {nodes:List GNode} {k:Nat} {x:GNode} {i:Nat} (h:i < x.Kids.length):kidB nodes k x i=(inB x.Kids[i] 0 ((k:Int) - 1) && (!((x.Kids.take i).contains x.Kids[i]) && (match nodes[(x.Kids[i]).toNat]? with | some y=>qY x.Kind i y.Kind | none=>false))):=by
 unfold kidB;rw [List.getElem?_eq_getElem h]
def kidsB (nodes:List GNode) (k:Nat) (x:GNode):Bool:=(List.range x.Kids.length).all (kidB nodes k x)
def numNB (x:GNode):Bool:=if x.Kind=1 then inB x.Num 0 1000000000 else x.Num == 0
def nameNB (x:GNode):Bool:=if mT x.Kind=true then pA x.Name else sEq x.Name ⟨#[]⟩
def kQ (nodes:List GNode) (k:Nat):Bool:=match nodes[k]? with
 | none=>false
 | some x=>inB x.Kind 1 20 && (inB x.Kids.length (gC x.Kind).1 (gC x.Kind).2 && (kidsB nodes k x && (numNB x && nameNB x)))
theorem lN {ρ:Type} (n:Nat) (hn:n ≤ 1048576) (p:Nat→Bool) (b:ρ) (f:Int→Option (Int ⊕ (Unit ⊕ ρ)))
  (hf:∀ (k:Nat),k < n→f k=some (if p k=true then .inl (IntKind.wrap .i64 ((k:Int) + 1)) else .inr (.inr b)))
  (he:f n=some (.inr (.inl ()))):aI f 0=some (if (List.range n).all p=true then .inl () else .inr b):=by
 rw [find_range n (fun k=>if p k=true then none else some b) f (fun k hk=>by
  rw [hf k hk,aN hk hn]
  cases p k<;>rfl) he]
 have key:∀ l:List Nat,l.findSome? (fun k=>if p k=true then none else some b)=if l.all p=true then none else some b:=by
  intro l
  induction l with
  | nil=>rfl
  | cons x l ih =>
   rw [List.findSome?_cons,List.all_cons]
   cases hp:p x
   ·simp
   ·simp only [if_true,Bool.true_and];exact ih
 rw [key]
 cases (List.range n).all p<;>rfl
theorem shape_hi (k:Int):(gC k).2 ≤ 12:=by
 unfold gC
 repeat' split
 all_goals simp
theorem nameB_empty:pA ⟨#[]⟩=false:=by
 unfold pA
 have:inB ((⟨#[]⟩:ByteArray).size:Int) 1 8=false:=rfl
 rw [this];rfl
theorem impl_NodeOk_eq (nodes:List GNode) (hn:nodes.length ≤ 1048576) (k:Int):kN nodes k=some (decide (0 ≤ k) && kQ nodes k.toNat):=by
 unfold kN
 simp only [bO,Option.bind_some,gI hn]
 by_cases hi:inB k 0 ((nodes.length:Int) - 1)=true
 ·have hi':=inB_iff.1 hi
  have hk:k.toNat < nodes.length:=by omega
  have hkk:k=((k.toNat:Nat):Int):=by omega
  rw [decide_eq_true hi'.1,Bool.true_and]
  generalize k.toNat=m at *
  subst hkk
  unfold kQ
  rw [List.getElem?_eq_getElem hk,aE hk]
  simp only [hi,Bool.not_true,Bool.false_eq_true,if_false,Option.bind_some,impl_shape_eq]
  generalize nodes[m]=x
  cases h1:inB x.Kind 1 20
  ·rfl
  cases h2:inB x.Kids.length (gC x.Kind).1 (gC x.Kind).2
  ·rfl
  have h2':=inB_iff.1 h2
  have hs:=shape_hi x.Kind
  have hkl:x.Kids.length ≤ 1048576:=by omega
  have hw:IntKind.wrap .i64 ((m:Int) - 1)=(m:Int) - 1:=w64 (by omega) (by omega)
  rw [lN x.Kids.length hkl (kidB nodes m x) false (eQ nodes m x) (fun i hi=>by
   have hsub:subI x.Kids 0 (i:Int)=some (x.Kids.take i):=by
    unfold subI;rw [if_pos ⟨by omega,by omega,by omega⟩];simp
   simp only [eQ,aB hi,if_true,aE hi,Option.bind_some,bO,hw,hsub,qU (x.Kids.take i) _ (by simp;omega),impl_kidFits_eq]
   rw [kidB_at hi]
   cases h3:inB x.Kids[i] 0 ((m:Int) - 1)
   ·rfl
   have h3':=inB_iff.1 h3
   cases h4:(x.Kids.take i).contains x.Kids[i]
   ·have hlt:x.Kids[i].toNat < nodes.length:=by omega
    rw [bU h3'.1 (by omega),List.getElem?_eq_getElem hlt]
    simp only [Bool.not_true,Bool.false_eq_true,if_false,Option.bind_some,Bool.not_false,Bool.true_and]
    cases qY x.Kind i nodes[x.Kids[i].toNat].Kind<;>rfl
   ·rfl) (by simp [eQ])]
  have hkk:(List.range x.Kids.length).all (kidB nodes m x)=kidsB nodes m x:=rfl
  rw [hkk]
  cases kidsB nodes m x
  ·rfl
  unfold numNB nameNB
  simp only [impl_hasName_eq,lG,Option.bind_some,Bool.not_true,Bool.false_eq_true,if_false,if_true]
  by_cases hkd:x.Kind=1
  ·have e:(x.Kind == 1)=true:=by simpa using hkd
   rw [if_pos hkd,if_pos e]
   cases inB x.Num 0 1000000000
   ·rfl
   cases mT x.Kind<;>rfl
  ·have e:¬ (x.Kind == 1)=true:=by simpa using hkd
   have e2:(x.Num != 0) = !(x.Num == 0):=rfl
   rw [if_neg hkd,if_neg e,e2]
   cases x.Num == 0
   ·rfl
   cases mT x.Kind<;>rfl
 ·simp only [Bool.eq_false_iff.2 hi,Bool.not_false,if_true]
  have hi':=inB_false.1 (Bool.eq_false_iff.2 hi)
  congr 1
  by_cases h0:0 ≤ k
  ·unfold kQ
   rw [List.getElem?_eq_none (by omega)];simp
  ·simp [h0]
theorem spec_NodeOk_eq (nodes:List GNode) (hn:nodes.length ≤ 1048576) (k:Int):jZ nodes k=some (decide (0 ≤ k) && kQ nodes k.toNat):=by
 unfold jZ
 simp only [dC,Option.bind_some,gI hn]
 by_cases hi:inB k 0 ((nodes.length:Int) - 1)=true
 ·have hi':=inB_iff.1 hi
  have hk:k.toNat < nodes.length:=by omega
  have hkk:k=((k.toNat:Nat):Int):=by omega
  rw [decide_eq_true hi'.1,Bool.true_and]
  generalize k.toNat=m at *
  subst hkk
  unfold kQ
  rw [List.getElem?_eq_getElem hk,aE hk]
  simp only [hi,Bool.not_true,Bool.false_eq_true,if_false,Option.bind_some,spec_l04Kids_eq]
  generalize nodes[m]=x
  cases h1:inB x.Kind 1 20
  ·rfl
  simp only [Bool.not_true,Bool.false_eq_true,if_false,Bool.true_and]
  cases h2:inB x.Kids.length (gC x.Kind).1 (gC x.Kind).2
  ·rfl
  have h2':=inB_iff.1 h2
  have hs:=shape_hi x.Kind
  have hkl:x.Kids.length ≤ 1048576:=by omega
  have hw:IntKind.wrap .i64 ((m:Int) - 1)=(m:Int) - 1:=w64 (by omega) (by omega)
  rw [lN x.Kids.length hkl (kidB nodes m x) false (eG nodes m x) (fun i hi=>by
   simp only [eG,aB hi,if_true,aE hi,Option.bind_some,dC,hw,spec_l04Fits_eq]
   rw [lN i (by omega) (fun j=>!(x.Kids[i] == (x.Kids[j]?).getD 0)) (.inr (.inr false)) (eF x i) (fun j hj=>by
    have hjl:j < x.Kids.length:=by omega
    simp only [eF,aB hj,if_true,aE hi,aE hjl,Option.bind_some,List.getElem?_eq_getElem hjl,Option.getD_some]
    cases x.Kids[i] == x.Kids[j]<;>rfl) (by simp [eF])]
   have hall:(List.range i).all (fun j=>!(x.Kids[i] == (x.Kids[j]?).getD 0)) = !((x.Kids.take i).contains x.Kids[i]):=by
    rw [Bool.eq_iff_iff]
    simp only [List.all_eq_true,List.mem_range,Bool.not_eq_true',List.contains_eq_mem,decide_eq_false_iff_not,beq_eq_false_iff_ne,ne_eq]
    constructor
    ·intro h hm
     obtain ⟨j,hj,e⟩:=List.mem_iff_getElem.1 hm
     simp only [List.length_take] at hj
     rw [List.getElem_take] at e
     refine h j (by omega) ?_
     rw [List.getElem?_eq_getElem (by omega)]
     exact e.symm
    ·intro h j hj e
     rw [List.getElem?_eq_getElem (show j < x.Kids.length by omega)] at e
     refine h ?_
     rw [e]
     refine List.mem_iff_getElem.2 ⟨j,by simp only [List.length_take];omega,?_⟩
     rw [List.getElem_take];rfl
   rw [hall]
   rw [kidB_at hi]
   cases h3:inB x.Kids[i] 0 ((m:Int) - 1)
   ·rfl
   have h3':=inB_iff.1 h3
   have hlt:x.Kids[i].toNat < nodes.length:=by omega
   rw [bU h3'.1 (by omega),List.getElem?_eq_getElem hlt]
   simp only [Bool.not_true,Bool.false_eq_true,if_false,Option.bind_some,Bool.true_and]
   cases qY x.Kind i nodes[x.Kids[i].toNat].Kind<;>cases (x.Kids.take i).contains x.Kids[i]<;>rfl) (by simp [eG])]
  have hkk:(List.range x.Kids.length).all (kidB nodes m x)=kidsB nodes m x:=rfl
  rw [hkk]
  unfold numNB nameNB
  simp only [spec_l04Named_eq,kZ,Option.bind_some,Bool.not_true,Bool.false_eq_true,if_false,if_true]
  have hname:(if (!(mT x.Kind == (!(sEq x.Name (⟨#[]⟩:ByteArray)))))=true then some true else if (!(sEq x.Name (⟨#[]⟩:ByteArray)))=true then some (!(pA x.Name)) else some false)=some (!(if mT x.Kind=true then pA x.Name else sEq x.Name ⟨#[]⟩)):=by
   cases he:sEq x.Name ⟨#[]⟩ with
   | true =>
    have:x.Name=⟨#[]⟩:=by rw [sEq_iff] at he;simpa using he
    cases mT x.Kind
    ·rfl
    ·rw [this,nameB_empty];rfl
   | false =>
    cases mT x.Kind<;>rfl
  rw [hname]
  have hnum:(if (!(inB x.Num 0 1000000000))=true then some true else if (x.Kind != 1)=true then some (x.Num != 0) else some false)=some (!(if x.Kind=1 then inB x.Num 0 1000000000 else x.Num == 0)):=by
   have e2:(x.Num != 0) = !(x.Num == 0):=rfl
   by_cases hkd:x.Kind=1
   ·have e:(x.Kind != 1)=false:=by simp [hkd]
    rw [if_pos hkd,e]
    cases inB x.Num 0 1000000000<;>rfl
   ·have e:(x.Kind != 1)=true:=by simpa using hkd
    rw [if_neg hkd,e,e2]
    cases hz:x.Num == 0 with
    | true =>
     have:x.Num=0:=by simpa using hz
     rw [this];rfl
    | false=>cases inB x.Num 0 1000000000<;>rfl
  rw [hnum]
  generalize (if x.Kind=1 then inB x.Num 0 1000000000 else x.Num == 0)=u
  generalize (if mT x.Kind=true then pA x.Name else sEq x.Name ⟨#[]⟩)=v
  cases u<;>cases v<;>cases kidsB nodes m x<;>rfl
 ·simp only [Bool.eq_false_iff.2 hi,Bool.not_false,if_true,Option.bind_some]
  have hi':=inB_false.1 (Bool.eq_false_iff.2 hi)
  congr 1
  by_cases h0:0 ≤ k
  ·unfold kQ
   rw [List.getElem?_eq_none (by omega)];simp
  ·simp [h0]
end Go.OM
namespace Go.OM
def mx (a b:Int):Int:=if b > a then b else a
def dstep (nodes:List GNode) (out:List Int) (i:Nat):Int:=match nodes[i]? with
 | some x=>x.Kids.foldl (fun d kid=>mx d (out.getD kid.toNat 0 + 1)) 1
 | none=>1
def gB (nodes:List GNode):Nat→List Int
 | 0=>[]
 | n + 1=>gB nodes n ++ [dstep nodes (gB nodes n) n]
def okU (nodes:List GNode):Nat→Bool
 | 0=>true
 | n + 1=>okU nodes n && (kQ nodes n && decide (dstep nodes (gB nodes n) n ≤ 10))
def dval (nodes:List GNode) (k:Nat):Int:=dstep nodes (gB nodes k) k
theorem dY (nodes:List GNode):∀ n,(gB nodes n).length=n
 | 0=>rfl
 | n + 1=>by simp [gB,dY nodes n]
theorem jE (nodes:List GNode):∀ (n j:Nat),j < n→(gB nodes n)[j]? = some (dval nodes j)
 | 0,j,h=>by omega
 | n + 1,j,h=>by
  simp only [gB]
  rcases Nat.lt_or_ge j n with h1 | h1
  ·rw [List.getElem?_append_left (by rw [dY];exact h1)]
   exact jE nodes n j h1
  ·have:j=n:=by omega
   subst this
   rw [List.getElem?_append_right (by rw [dY];omega),dY]
   simp [dval]
theorem okU_mono {nodes : List GNode} : ∀ {n m : Nat}, m ≤ n → okU nodes n = true → okU nodes m = true
  | 0, m, h, h1 => by have : m = 0 := by omega
                      subst this; rfl
  | n + 1, m, h, h1 => by
    by_cases e : m = n + 1
    · subst e; exact h1
    · simp only [okU, Bool.and_eq_true] at h1
      exact okU_mono (by omega) h1.1
theorem gM {nodes:List GNode} {n j:Nat} (h:okU nodes n=true) (hj:j < n):kQ nodes j=true∧dval nodes j ≤ 10:=by
 have:=okU_mono (show j + 1 ≤ n by omega) h
 simp only [okU,Bool.and_eq_true,decide_eq_true_eq] at this
 exact this.2
theorem mx_ge (l:List Int) (g:Int→Int):∀ d,d ≤ l.foldl (fun d kid=>mx d (g kid)) d∧∀ kid ∈ l,g kid ≤ l.foldl (fun d kid=>mx d (g kid)) d:=by
 induction l with
 | nil=>intro d;simp
 | cons x l ih =>
  intro d
  rw [List.foldl_cons]
  obtain ⟨h1,h2⟩:=ih (mx d (g x))
  have h3:d ≤ mx d (g x)∧g x ≤ mx d (g x):=by unfold mx;split<;>omega
  refine ⟨by omega,fun kid hk=>?_⟩
  rcases List.mem_cons.1 hk with rfl | hk
  ·omega
  ·exact h2 kid hk
theorem eT (nodes:List GNode) (k:Nat):1 ≤ dval nodes k:=by
 unfold dval dstep
 split
 ·exact (mx_ge _ _ 1).1
 ·omega
theorem kB {nodes:List GNode} {k:Nat} (h:kQ nodes k=true):∃ (hk:k < nodes.length),inB nodes[k].Kind 1 20=true∧inB nodes[k].Kids.length (gC nodes[k].Kind).1 (gC nodes[k].Kind).2=true∧(∀ (i:Nat) (hi:i < nodes[k].Kids.length),(0 ≤ nodes[k].Kids[i]∧nodes[k].Kids[i] < k)∧¬ nodes[k].Kids[i] ∈ nodes[k].Kids.take i∧∃ y,nodes[(nodes[k].Kids[i]).toNat]? = some y∧qY nodes[k].Kind i y.Kind=true)∧numNB nodes[k]=true∧nameNB nodes[k]=true:=by
 unfold kQ at h
 split at h
 ·cases h
 ·rename_i x hx
  obtain ⟨hk,hxe⟩:=List.getElem?_eq_some_iff.1 hx
  subst hxe
  simp only [Bool.and_eq_true] at h
  obtain ⟨h1,h2,h3,h4,h5⟩:=h
  refine ⟨hk,h1,h2,fun i hi=>?_,h4,h5⟩
  have:=List.all_eq_true.1 h3 i (List.mem_range.2 hi)
  rw [kidB_at hi] at this
  simp only [Bool.and_eq_true,inB_iff,Bool.not_eq_true',List.contains_eq_mem,decide_eq_false_iff_not] at this
  obtain ⟨g1,g2,g3⟩:=this
  refine ⟨⟨g1.1,by omega⟩,g2,?_⟩
  split at g3
  ·rename_i y hy;exact ⟨y,hy,g3⟩
  ·cases g3
theorem fG {nodes:List GNode} {k:Nat} (h:kQ nodes k=true) {x:GNode} (hx:nodes[k]? = some x):∀ kid ∈ x.Kids,0 ≤ kid∧kid < k:=by
 obtain ⟨hk,_,_,h3,_⟩:=kB h
 obtain ⟨_,hxe⟩:=List.getElem?_eq_some_iff.1 hx
 subst hxe
 intro kid hm
 obtain ⟨i,hi,rfl⟩:=List.mem_iff_getElem.1 hm
 exact (h3 i hi).1
theorem cR {nodes:List GNode} {k:Nat} (h:kQ nodes k=true) {x:GNode} (hx:nodes[k]? = some x):x.Kids.length ≤ 12:=by
 obtain ⟨hk,_,h2,_⟩:=kB h
 obtain ⟨_,hxe⟩:=List.getElem?_eq_some_iff.1 hx
 subst hxe
 have:=inB_iff.1 h2
 have:=shape_hi nodes[k].Kind
 omega
theorem rC {nodes:List GNode} {k:Nat} (h:kQ nodes k=true) {x:GNode} (hx:nodes[k]? = some x) {kid:Int} (hm:kid ∈ x.Kids):dval nodes kid.toNat < dval nodes k:=by
 have hb:=fG h hx kid hm
 have:dval nodes k=x.Kids.foldl (fun d kid=>mx d ((gB nodes k).getD kid.toNat 0 + 1)) 1:=by unfold dval dstep;rw [hx]
 rw [this]
 have h2:=(mx_ge x.Kids (fun kid=>(gB nodes k).getD kid.toNat 0 + 1) 1).2 kid hm
 have h3:(gB nodes k).getD kid.toNat 0=dval nodes kid.toNat:=by
  rw [List.getD_eq_getElem?_getD,jE nodes k kid.toNat (by omega)];rfl
 rw [h3] at h2
 omega
theorem impl_dloop (nodes:List GNode) (k:Nat) (x:GNode) (hx:nodes[k]? = some x) (hok:okU nodes k=true) (hn:kQ nodes k=true):aI (cW (gB nodes k) x) (1,0)=some (dval nodes k):=by
 have hkl:=cR hn hx
 have hkb:=fG hn hx
 have hg:∀ kid ∈ x.Kids,(gB nodes k).getD kid.toNat 0=dval nodes kid.toNat:=fun kid hm=>by
  have:=hkb kid hm
  rw [List.getD_eq_getElem?_getD,jE nodes k kid.toNat (by omega)];rfl
 have:=bB x.Kids (fun (d:Int) j=>(d,(j:Int))) (fun j d=>True) (fun d kid=>.inl (mx d ((gB nodes k).getD kid.toNat 0 + 1))) id (cW (gB nodes k) x) (fun d j hj _=>by
  left
  have hm:=List.getElem_mem hj
  have hb:=hkb _ hm
  have hd:=gM hok (show x.Kids[j].toNat < k by omega)
  have hp:=eT nodes x.Kids[j].toNat
  refine ⟨_,rfl,?_,trivial⟩
  have hlt:x.Kids[j].toNat < (gB nodes k).length:=by rw [dY];omega
  have hge:(gB nodes k)[x.Kids[j].toNat]=dval nodes x.Kids[j].toNat:=by
   have:=jE nodes k x.Kids[j].toNat (by omega)
   rw [List.getElem?_eq_getElem hlt] at this
   exact Option.some.inj this
  simp only [cW,aB hj,if_true,aE hj,Option.bind_some]
  rw [bU hb.1 (by rw [dY];omega),hge]
  simp only [Option.bind_some,w64 (n:=dval nodes x.Kids[j].toNat + 1) (by omega) (by omega),aN hj (by omega),hg _ hm]
  rfl) (fun d _=>by simp [cW]) 1 trivial
 rw [bM] at this
 unfold dval dstep
 rw [hx]
 exact this
theorem impl_depths_eq (nodes:List GNode) (hn:nodes.length ≤ 1048576) (k:Int):kL nodes k=some (if 0 ≤ k∧k < nodes.length∧okU nodes (k.toNat + 1)=true then (gB nodes (k.toNat + 1),true) else ([],false)):=by
 unfold kL
 simp only [bO,Option.bind_some,gI hn]
 by_cases hi:inB k 0 ((nodes.length:Int) - 1)=true
 ·have hi':=inB_iff.1 hi
  have hkk:k=((k.toNat:Nat):Int):=by omega
  have hk:k.toNat < nodes.length:=by omega
  generalize k.toNat=m at *
  subst hkk
  simp only [hi,Bool.not_true,Bool.false_eq_true,if_false]
  obtain ⟨r,h1,h2⟩:=dW (f:=eM nodes m) (fun s:List Int × Int=>∃ i:Nat,s.2=i∧i ≤ m + 1∧s.1=gB nodes i∧okU nodes i=true) (fun s=>m + 1 - s.2.toNat) (fun r=>r=if okU nodes (m + 1)=true then Sum.inl (gB nodes (m + 1)) else Sum.inr ([],false)) (by
   rintro ⟨out,i⟩ ⟨i,rfl,hle,ho,hok⟩
   simp only at ho hle
   subst ho
   by_cases hlt:i ≤ m
   ·have hd:decide ((i:Int) ≤ (m:Int))=true:=by simp only [decide_eq_true_eq];omega
    have hil:i < nodes.length:=by omega
    simp only [eM,hd,if_true,impl_NodeOk_eq nodes hn,Option.bind_some,Int.toNat_natCast]
    have h0:decide ((0:Int) ≤ (i:Int))=true:=by simp
    rw [h0,Bool.true_and]
    cases hnb:kQ nodes i with
    | false =>
     right
     refine ⟨.inr ([],false),by simp,?_⟩
     have:okU nodes (m + 1)=false:=by
      rw [Bool.eq_false_iff]
      intro h
      rw [(gM h (show i < m + 1 by omega)).1] at hnb
      cases hnb
     rw [this];rfl
    | true =>
     simp only [Bool.not_true,Bool.false_eq_true,if_false,aE hil,Option.bind_some]
     rw [impl_dloop nodes i _ (List.getElem?_eq_getElem hil) hok hnb]
     simp only [Option.bind_some]
     by_cases hd10:dval nodes i > 10
     ·right
      rw [if_pos (by simpa using hd10)]
      refine ⟨.inr ([],false),rfl,?_⟩
      have:okU nodes (m + 1)=false:=by
       rw [Bool.eq_false_iff]
       intro h
       have:=(gM h (show i < m + 1 by omega)).2
       omega
      rw [this];rfl
     ·left
      rw [if_neg (by simpa using hd10),app1 (by rw [dY];omega) (by omega)]
      refine ⟨(gB nodes (i + 1),((i + 1:Nat):Int)),?_,⟨i + 1,rfl,by omega,rfl,?_⟩,by simp only [Int.toNat_natCast];omega⟩
      ·simp only [Option.bind_some,aN hil hn]
       rfl
      ·simp only [okU,hok,hnb,Bool.true_and,decide_eq_true_eq]
       show dval nodes i ≤ 10
       omega
   ·right
    have:i=m + 1:=by omega
    subst this
    have hd:decide (((m + 1:Nat):Int) ≤ (m:Int))=false:=by simp only [decide_eq_false_iff_not];omega
    refine ⟨.inl (gB nodes (m + 1)),by simp only [eM,hd,Bool.false_eq_true,if_false],?_⟩
    rw [hok];rfl) ([],0) ⟨0,rfl,by omega,rfl,rfl⟩
  rw [h1,h2]
  by_cases hok:okU nodes (m + 1)=true
  ·rw [if_pos hok,if_pos (show 0 ≤ (m:Int)∧(m:Int) < nodes.length∧okU nodes (m + 1)=true from ⟨by omega,by omega,hok⟩)];rfl
  ·rw [if_neg hok,if_neg (show ¬ (0 ≤ (m:Int)∧(m:Int) < nodes.length∧okU nodes (m + 1)=true) from fun h=>hok h.2.2)];rfl
 ·have hi':=inB_false.1 (Bool.eq_false_iff.2 hi)
  simp only [Bool.eq_false_iff.2 hi,Bool.not_false,if_true]
  rw [if_neg (show ¬ (0 ≤ k∧k < nodes.length∧okU nodes (k.toNat + 1)=true) from fun h=>hi' ⟨h.1,by omega⟩)]
def rE (nodes:List GNode) (k:Int):Int:=if 0 ≤ k∧k < nodes.length∧okU nodes (k.toNat + 1)=true then dval nodes k.toNat else 0
theorem pL (nodes:List GNode) (hn:nodes.length ≤ 1048576) (k:Int):iC nodes k=some (rE nodes k):=by
 unfold iC rE
 rw [impl_depths_eq nodes hn]
 by_cases h:0 ≤ k∧k < nodes.length∧okU nodes (k.toNat + 1)=true
 ·rw [if_pos h,if_pos h]
  have hlt:k.toNat < (gB nodes (k.toNat + 1)).length:=by rw [dY];omega
  simp only [Option.bind_some,Bool.not_true,Bool.false_eq_true,if_false]
  rw [bU h.1 (by rw [dY];omega)]
  have:=jE nodes (k.toNat + 1) k.toNat (by omega)
  rw [List.getElem?_eq_getElem hlt] at this
  simp only [Option.bind_some]
  exact this
 ·rw [if_neg h,if_neg h];rfl
def gY (nodes:List GNode) (n:Nat):List Int:=(List.range n).map fun j=>if okU nodes (j + 1)=true then dval nodes j else 0
theorem sdeeps_len (nodes:List GNode) (n:Nat):(gY nodes n).length=n:=by simp [gY]
theorem oN (nodes:List GNode) {n j:Nat} (h:j < n):(gY nodes n)[j]? = some (if okU nodes (j + 1)=true then dval nodes j else 0):=by
 unfold gY
 rw [List.getElem?_map,List.getElem?_range h];rfl
theorem sdeeps_ok {nodes:List GNode} {n:Nat} (h:okU nodes n=true):gY nodes n=gB nodes n:=by
 apply List.ext_getElem?
 intro j
 by_cases hj:j < n
 ·rw [oN nodes hj,jE nodes n j hj,if_pos (okU_mono (by omega) h)]
 ·rw [List.getElem?_eq_none (by rw [sdeeps_len];omega),List.getElem?_eq_none (by rw [dY];omega)]
theorem spec_dloop (nodes:List GNode) (k:Nat) (hk:k < nodes.length) (hok:okU nodes k=true) (hn:kQ nodes k=true):aI (aY nodes (gB nodes k) k) (1,0)=some (dval nodes k):=by
 have hx:nodes[k]? = some nodes[k]:=List.getElem?_eq_getElem hk
 generalize hgx:nodes[k]=x at *
 have hkl:=cR hn hx
 have hkb:=fG hn hx
 have hg:∀ kid ∈ x.Kids,(gB nodes k).getD kid.toNat 0=dval nodes kid.toNat:=fun kid hm=>by
  have:=hkb kid hm
  rw [List.getD_eq_getElem?_getD,jE nodes k kid.toNat (by omega)];rfl
 have hgk:getI nodes (k:Int)=some x:=by rw [aE hk,hgx]
 have:=bB x.Kids (fun (d:Int) j=>(d,(j:Int))) (fun j d=>0 < d) (fun d kid=>.inl (mx d ((gB nodes k).getD kid.toNat 0 + 1))) id (aY nodes (gB nodes k) k) (fun d j hj hpos=>by
  left
  have hm:=List.getElem_mem hj
  have hb:=hkb _ hm
  have hd:=gM hok (show x.Kids[j].toNat < k by omega)
  have hp:=eT nodes x.Kids[j].toNat
  refine ⟨_,rfl,?_,by unfold mx;split<;>omega⟩
  have hlt:x.Kids[j].toNat < (gB nodes k).length:=by rw [dY];omega
  have hge:(gB nodes k)[x.Kids[j].toNat]=dval nodes x.Kids[j].toNat:=by
   have:=jE nodes k x.Kids[j].toNat (by omega)
   rw [List.getElem?_eq_getElem hlt] at this
   exact Option.some.inj this
  have hp0:decide (d > 0)=true:=by simpa using hpos
  have hgi:getI (gB nodes k) x.Kids[j]=some (dval nodes x.Kids[j].toNat):=by rw [bU hb.1 (by rw [dY];omega),hge]
  simp only [aY,hp0,if_true,hgk,Option.bind_some,aB hj,aE hj,hgi,w64 (n:=dval nodes x.Kids[j].toNat + 1) (by omega) (by omega),aN hj (by omega),hg _ hm]
  unfold mx
  by_cases hgt:dval nodes x.Kids[j].toNat + 1 > d
  ·rw [if_pos (by simpa using hgt),if_pos hgt]
  ·rw [if_neg (by simpa using hgt),if_neg hgt]) (fun d hd=>by
  have hp0:decide (d > 0)=true:=by simpa using hd
  simp [aY,hp0,hgk]) 1 (by omega)
 rw [bM] at this
 unfold dval dstep
 rw [hx]
 exact this
theorem qC (nodes:List GNode) (hn:nodes.length ≤ 1048576) (k:Nat) (hk:k < nodes.length):fD nodes k=some (gY nodes (k + 1)):=by
 unfold fD
 obtain ⟨r,h1,h2⟩:=dW (f:=cM nodes k) (fun s:List Int × Int=>∃ i:Nat,s.2=i∧i ≤ k + 1∧s.1=gY nodes i) (fun s=>k + 1 - s.2.toNat) (fun r=>r=gY nodes (k + 1)) (by
  rintro ⟨out,i⟩ ⟨i,rfl,hle,ho⟩
  simp only at ho hle
  subst ho
  by_cases hlt:i ≤ k
  ·left
   have hd:decide ((i:Int) ≤ (k:Int))=true:=by simp only [decide_eq_true_eq];omega
   have hil:i < nodes.length:=by omega
   have hd2:decide ((i:Int) < (nodes.length:Int))=true:=by simp only [decide_eq_true_eq];omega
   have h0:decide ((0:Int) ≤ (i:Int))=true:=by simp
   refine ⟨(gY nodes (i + 1),((i + 1:Nat):Int)),?_,⟨i + 1,rfl,by omega,rfl⟩,by simp only [Int.toNat_natCast];omega⟩
   simp only [cM,hd,hd2,if_true,spec_NodeOk_eq nodes hn,Option.bind_some,Int.toNat_natCast,h0,Bool.true_and]
   -- is it right so far?
   have hflag:(if (!(kQ nodes i))=true then some true else if (decide ((i:Int) > 0))=true then (getI (gY nodes i) (IntKind.wrap .i64 ((i:Int) - 1))).bind fun e32=>some (e32 == 0) else some false)=some (!(kQ nodes i && okU nodes i)):=by
    cases hnb:kQ nodes i with
    | false=>rfl
    | true =>
     simp only [Bool.not_true,Bool.false_eq_true,if_false,Bool.true_and]
     by_cases hz:i=0
     ·subst hz;rfl
     ·have hp:decide ((i:Int) > 0)=true:=by simp only [decide_eq_true_eq];omega
      have hw:IntKind.wrap .i64 ((i:Int) - 1)=((i - 1:Nat):Int):=by rw [w64 (by omega) (by omega)];omega
      rw [if_pos hp,hw,getI_nat,oN nodes (show i - 1 < i by omega),show i - 1 + 1=i by omega]
      simp only [Option.bind_some]
      cases hok:okU nodes i with
      | true =>
       have:=eT nodes (i - 1)
       have hne:¬ dval nodes (i - 1)=0:=by omega
       simp [hne]
      | false=>simp
   rw [hflag]
   simp only [Option.bind_some]
   have hfin:(Option.bind (if (!(kQ nodes i && okU nodes i))=true then some 0 else some (1:Int)) fun deep36=>Option.bind (aI (aY nodes (gY nodes i) i) (deep36,0)) fun deep62=>Option.bind (if (decide (deep62 > 10))=true then some 0 else some deep62) fun deep68=>(appI 8 (gY nodes i) [deep68]).bind fun l69=>some l69)=some (gY nodes (i + 1)):=by
    have hsucc:gY nodes (i + 1)=gY nodes i ++ [if okU nodes (i + 1)=true then dval nodes i else 0]:=by
     unfold gY;rw [List.range_succ,List.map_append];rfl
    have happ:∀ z:Int,appI 8 (gY nodes i) [z]=some (gY nodes i ++ [z]):=fun z=>app1 (by rw [sdeeps_len];omega) (by omega)
    cases hb:(kQ nodes i && okU nodes i) with
    | true =>
     simp only [Bool.and_eq_true] at hb
     simp only [Bool.not_true,Bool.false_eq_true,if_false,Option.bind_some]
     rw [sdeeps_ok hb.2,spec_dloop nodes i hil hb.2 hb.1,← sdeeps_ok hb.2]
     simp only [Option.bind_some]
     rw [hsucc]
     by_cases hd10:dval nodes i > 10
     ·have hf:okU nodes (i + 1)=false:=by
       rw [Bool.eq_false_iff]
       intro h
       have:=(gM h (Nat.lt_succ_self i)).2
       omega
      rw [if_pos (by simpa using hd10),hf]
      simp only [Option.bind_some,happ,Bool.false_eq_true,if_false]
     ·have hf:okU nodes (i + 1)=true:=by
       simp only [okU,hb.1,hb.2,Bool.true_and,decide_eq_true_eq]
       show dval nodes i ≤ 10
       omega
      rw [if_neg (by simpa using hd10),hf]
      simp only [Option.bind_some,happ,if_true]
    | false =>
     have hf:okU nodes (i + 1)=false:=by
      rw [Bool.eq_false_iff]
      intro h
      simp only [okU,Bool.and_eq_true] at h
      rw [h.1,h.2.1] at hb
      cases hb
     simp only [Bool.not_false,if_true,Option.bind_some]
     rw [gO (r:=(0:Int)) (by simp [aY])]
     simp only [Option.bind_some]
     rw [hsucc,hf]
     simp [happ]
   have:=congrArg (fun z=>Option.bind z fun out70:List Int=>(some (Sum.inl (out70,IntKind.wrap .i64 ((i:Int) + 1))):Option ((List Int × Int) ⊕ List Int))) hfin
   simp only [Option.bind_some,aN hil hn] at this
   rw [aN hil hn]
   exact this
  ·right
   have:i=k + 1:=by omega
   subst this
   have hd:decide (((k + 1:Nat):Int) ≤ (k:Int))=false:=by simp only [decide_eq_false_iff_not];omega
   exact ⟨_,by simp only [cM,hd,Bool.false_eq_true,if_false,Option.bind_some],rfl⟩) ([],0) ⟨0,rfl,by omega,rfl⟩
 rw [h1,h2]
 rfl
theorem spec_DeepOf_eq (nodes:List GNode) (hn:nodes.length ≤ 1048576) (k:Int):kA nodes k=some (rE nodes k):=by
 unfold kA rE
 simp only [dC,Option.bind_some,gI hn]
 by_cases hi:inB k 0 ((nodes.length:Int) - 1)=true
 ·have hi':=inB_iff.1 hi
  have hkk:k=((k.toNat:Nat):Int):=by omega
  have hk:k.toNat < nodes.length:=by omega
  generalize k.toNat=m at *
  subst hkk
  simp only [hi,Bool.not_true,Bool.false_eq_true,if_false]
  rw [qC nodes hn m hk]
  simp only [Option.bind_some,getI_nat]
  rw [oN nodes (Nat.lt_succ_self m)]
  by_cases hok:okU nodes (m + 1)=true
  ·rw [if_pos hok,if_pos (show 0 ≤ (m:Int)∧(m:Int) < nodes.length∧okU nodes (m + 1)=true from ⟨by omega,by omega,hok⟩)];rfl
  ·rw [if_neg hok,if_neg (show ¬ (0 ≤ (m:Int)∧(m:Int) < nodes.length∧okU nodes (m + 1)=true) from fun h=>hok h.2.2)];rfl
 ·have hi':=inB_false.1 (Bool.eq_false_iff.2 hi)
  simp only [Bool.eq_false_iff.2 hi,Bool.not_false,if_true]
  rw [if_neg (show ¬ (0 ≤ k∧k < nodes.length∧okU nodes (k.toNat + 1)=true) from fun h=>hi' ⟨h.1,by omega⟩)]
end Go.OM
namespace Go.OM
theorem recFuel_eq:dG=1048576:=rfl
theorem deepB_zero {nodes:List GNode} {k:Int} (h:rE nodes k ≠ 0):0 ≤ k∧k < nodes.length∧okU nodes (k.toNat + 1)=true:=by
 unfold rE at h
 split at h
 ·assumption
 ·exact absurd rfl h
end Go.OM
namespace Go.OM
def paramB (x:GParam):Bool:=pA x.Name && inB x.Typ 1 4
def bodyB (p:GProgram) (f:GFn):Bool:=inB f.Body 0 ((p.Nodes.length:Int) - 1) && (match p.Nodes[f.Body.toNat]? with | some x=>x.Kind == 20 | none=>false)
def retB (p:GProgram) (f:GFn):Bool:=if f.Res=0 then f.Ret == -1 else inB f.Ret 0 ((p.Nodes.length:Int) - 1) && (match p.Nodes[f.Ret.toNat]? with | some x=>nD x.Kind | none=>false)
def fnB (p:GProgram) (f:GFn):Bool:=pA f.Name && (!decide ((f.Params.length:Int) > 3) && (inB f.Res 0 2 && (f.Params.all paramB && (bodyB p f && retB p f))))
theorem bodyB_iff {p:GProgram} {f:GFn}:bodyB p f=true ↔ 0 ≤ f.Body∧f.Body < p.Nodes.length∧∃ x,p.Nodes[f.Body.toNat]? = some x∧x.Kind=20:=by
 unfold bodyB
 rw [Bool.and_eq_true,inB_iff]
 constructor
 ·rintro ⟨⟨h1,h2⟩,h3⟩
  refine ⟨h1,by omega,?_⟩
  split at h3
  ·rename_i x hx;exact ⟨x,hx,by simpa using h3⟩
  ·cases h3
 ·rintro ⟨h1,h2,x,hx,hk⟩
  refine ⟨⟨h1,by omega⟩,?_⟩
  rw [hx];simpa using hk
theorem body_step (p:GProgram) (f:GFn) (hn:p.Nodes.length ≤ 1048576) (g:Bool→Option Bool):(Option.bind (if (!(inB f.Body 0 ((p.Nodes.length:Int) - 1)))=true then some true else (getI p.Nodes f.Body).bind fun e=>some (e.Kind != 20)) fun v=>g v)=g (!(bodyB p f)):=by
 unfold bodyB
 cases h:inB f.Body 0 ((p.Nodes.length:Int) - 1) with
 | false=>rfl
 | true =>
  have h':=inB_iff.1 h
  have hlt:f.Body.toNat < p.Nodes.length:=by omega
  rw [bU h'.1 (by omega),List.getElem?_eq_getElem hlt]
  rfl
theorem ret_step (p:GProgram) (f:GFn) (hn:p.Nodes.length ≤ 1048576):(if (f.Res == 0)=true then some (f.Ret == (-1)) else Option.bind (if inB f.Ret 0 ((p.Nodes.length:Int) - 1)=true then (getI p.Nodes f.Ret).bind fun e=>some (nD e.Kind) else some false) fun v=>some v)=some (retB p f):=by
 unfold retB
 by_cases h0:f.Res=0
 ·rw [if_pos (by simpa using h0),if_pos h0]
 ·rw [if_neg (by simpa using h0),if_neg h0]
  cases h:inB f.Ret 0 ((p.Nodes.length:Int) - 1) with
  | false=>rfl
  | true =>
   have h':=inB_iff.1 h
   have hlt:f.Ret.toNat < p.Nodes.length:=by omega
   rw [bU h'.1 (by omega),List.getElem?_eq_getElem hlt]
   rfl
theorem impl_fnOk_eq (p:GProgram) (f:GFn) (hn:p.Nodes.length ≤ 1048576):oE p f=some (fnB p f):=by
 unfold oE fnB
 simp only [lG,bO,oD,Option.bind_some,gI hn]
 cases hnm:pA f.Name with
 | false=>rfl
 | true =>
  simp only [Bool.not_true,Bool.false_eq_true,if_false,Bool.true_and]
  by_cases hp3:(f.Params.length:Int) > 3
  ·rw [if_pos (by simpa using hp3),decide_eq_true hp3];rfl
  ·rw [if_neg (by simpa using hp3),decide_eq_false hp3]
   simp only [Bool.not_false,Bool.true_and]
   have hres:(if (f.Res != 0)=true then if (f.Res != 1)=true then some (f.Res != 2) else some false else some false)=some (!(inB f.Res 0 2)):=by
    by_cases h0:f.Res=0
    ·rw [h0];rfl
    ·by_cases h1:f.Res=1
     ·rw [h1];rfl
     ·by_cases h2:f.Res=2
      ·rw [h2];rfl
      ·have:inB f.Res 0 2=false:=inB_false.2 (by omega)
       simp [this,h0,h1,h2]
   rw [hres]
   cases hin:inB f.Res 0 2 with
   | false=>rfl
   | true =>
    simp only [Option.bind_some,Bool.not_true,Bool.false_eq_true,if_false,Bool.true_and]
    rw [nR f.Params paramB (gG f) (fun k hk=>by
     simp only [gG,aB hk,if_true,aE hk,Option.bind_some,lG,bO,aN hk (by omega)]
     unfold paramB
     cases pA f.Params[k].Name
     ·rfl
     ·cases inB f.Params[k].Typ 1 4<;>rfl) (by simp [gG])]
    cases f.Params.all paramB with
    | false=>rfl
    | true =>
     simp only [if_true,Option.bind_some,Bool.true_and]
     rw [body_step p f hn]
     cases bodyB p f with
     | false=>rfl
     | true =>
      simp only [Bool.not_true,Bool.false_eq_true,if_false,Bool.true_and]
      exact ret_step p f hn
def fnAtQ (p:GProgram) (nm:ByteArray) (k:Nat):Option Int:=match p.Fns[k]? with
 | some f=>if sEq f.Name nm=true then some (k:Int) else none
 | none=>none
def dX (p:GProgram) (nm:ByteArray):Int:=((List.range p.Fns.length).findSome? (fnAtQ p nm)).getD (-1)
theorem kU (p:GProgram) (nm:ByteArray) (hp:p.Fns.length ≤ 1048576):jB p nm=some (dX p nm):=by
 unfold jB dX
 rw [find_range p.Fns.length (fnAtQ p nm) (gH p nm) (fun k hk=>by
  simp only [gH,aB hk,if_true,aE hk,Option.bind_some,aN hk hp]
  unfold fnAtQ
  rw [List.getElem?_eq_getElem hk]
  cases h:sEq p.Fns[k].Name nm<;>simp [h]) (by simp [gH])]
 cases (List.range p.Fns.length).findSome? (fnAtQ p nm)<;>rfl
theorem nM (p:GProgram) (nm:ByteArray) (hp:p.Fns.length ≤ 1048576):lL p nm=some (dX p nm):=kU p nm hp
theorem spec_l04Fn_eq (p:GProgram) (i:Nat) (hi:i < p.Fns.length) (hn:p.Nodes.length ≤ 1048576) (hp:p.Fns.length ≤ 1048576):lI p i=some (fnB p p.Fns[i] && dX p p.Fns[i].Name == i):=by
 unfold lI fnB
 simp only [aE hi,kZ,dC,mP,nM p _ hp,Option.bind_some,gI hn]
 generalize p.Fns[i]=f
 cases hnm:pA f.Name with
 | false=>rfl
 | true =>
  simp only [Bool.not_true,Bool.false_eq_true,if_false,Bool.true_and]
  cases hat:dX p f.Name == i with
  | false =>
   have:(dX p f.Name != i)=true:=by simp only [bne,hat,Bool.not_false]
   rw [this,Bool.and_false];rfl
  | true =>
   have:(dX p f.Name != i)=false:=by simp only [bne,hat,Bool.not_true]
   rw [this,Bool.and_true]
   simp only [Bool.false_eq_true,if_false]
   by_cases hp3:(f.Params.length:Int) > 3
   ·rw [if_pos (by simpa using hp3),decide_eq_true hp3];rfl
   ·rw [if_neg (by simpa using hp3),decide_eq_false hp3]
    simp only [Bool.not_false,Bool.true_and]
    cases hin:inB f.Res 0 2 with
    | false=>rfl
    | true =>
     simp only [Option.bind_some,Bool.not_true,Bool.false_eq_true,if_false,Bool.true_and]
     rw [nR f.Params paramB (fC f) (fun k hk=>by
      simp only [fC,aB hk,if_true,aE hk,Option.bind_some,kZ,dC,aN hk (by omega)]
      unfold paramB
      cases pA f.Params[k].Name
      ·rfl
      ·cases inB f.Params[k].Typ 1 4<;>rfl) (by simp [fC])]
     cases f.Params.all paramB with
     | false=>rfl
     | true =>
      simp only [if_true,Option.bind_some,Bool.true_and]
      rw [body_step p f hn]
      cases bodyB p f with
      | false=>rfl
      | true =>
       simp only [Bool.not_true,Bool.false_eq_true,if_false,Bool.true_and]
       exact ret_step p f hn
def incs (d:Int) (l:List Int) (m:List Int):List Int:=l.foldl (fun m e=>m.set e.toNat (m.getD e.toNat 0 + d)) m
theorem incs_len (d:Int):∀ (l m:List Int),(incs d l m).length=m.length
 | [],m=>rfl
 | e :: l,m=>by
  show (incs d l (m.set e.toNat (m.getD e.toNat 0 + d))).length=_
  rw [incs_len d l];simp
theorem incs_append (d:Int) (a b m:List Int):incs d (a ++ b) m=incs d b (incs d a m):=by unfold incs;rw [List.foldl_append]
theorem incs_get (d:Int) (k:Nat):∀ (l m:List Int),(∀ e ∈ l,0 ≤ e∧e < m.length)→(incs d l m).getD k 0=m.getD k 0 + d * (l.count (k:Int):Nat)
 | [],m,_=>by simp [incs]
 | e :: l,m,h=>by
  have he:=h e (by simp)
  have ih:=incs_get d k l (m.set e.toNat (m.getD e.toNat 0 + d)) (fun x hx=>by rw [List.length_set];exact h x (by simp [hx]))
  show (incs d l (m.set e.toNat (m.getD e.toNat 0 + d))).getD k 0=_
  rw [ih,List.count_cons]
  by_cases hk:e.toNat=k
  ·have:(e == (k:Int))=true:=by simp only [beq_iff_eq];omega
   rw [if_pos this]
   have hg:(m.set e.toNat (m.getD e.toNat 0 + d)).getD k 0=m.getD k 0 + d:=by
    rw [List.getD_eq_getElem?_getD,List.getElem?_set,if_pos hk,if_pos (by omega),hk];rfl
   rw [hg,Int.natCast_add,Int.mul_add]
   simp only [Int.natCast_one,Int.mul_one]
   omega
  ·have:¬ (e == (k:Int))=true:=by simp only [beq_iff_eq];omega
   rw [if_neg this]
   have hg:(m.set e.toNat (m.getD e.toNat 0 + d)).getD k 0=m.getD k 0:=by
    rw [List.getD_eq_getElem?_getD,List.getElem?_set,if_neg hk,← List.getD_eq_getElem?_getD]
   rw [hg];rfl
structure Bd (n:Nat) (C:Int) (m:List Int):Prop where
 len:m.length=n
 bnd:∀ v ∈ m,0 ≤ v∧v ≤ C
theorem Bd.mono {n:Nat} {C C':Int} {m:List Int} (h:Bd n C m) (hc:C ≤ C'):Bd n C' m:=⟨h.len,fun v hv=>by have:=h.bnd v hv;omega⟩
theorem Bd.getD {n:Nat} {C:Int} {m:List Int} (h:Bd n C m) (hC:0 ≤ C) (k:Nat):0 ≤ m.getD k 0∧m.getD k 0 ≤ C:=by
 rw [List.getD_eq_getElem?_getD]
 cases hk:m[k]? with
 | none=>exact ⟨Int.le_refl 0,hC⟩
 | some v=>exact h.bnd v (List.mem_of_getElem? hk)
theorem Bd.set {n:Nat} {C d:Int} {m:List Int} (h:Bd n C m) (hC:0 ≤ C) (hd:0 ≤ d) (k:Nat):Bd n (C + d) (m.set k (m.getD k 0 + d)):=⟨by rw [List.length_set];exact h.len,fun v hv=>by
 rcases List.mem_or_eq_of_mem_set hv with h1 | h1
 ·have:=h.bnd v h1;omega
 ·have:=h.getD hC k;omega⟩
theorem Bd.incs {n:Nat} {d:Int} (hd:0 ≤ d):∀ (l:List Int) {C:Int} {m:List Int},0 ≤ C→Bd n C m→Bd n (C + d * l.length) (Go.OM.incs d l m)
 | [],C,m,hC,h=>by simpa [Go.OM.incs] using h
 | e :: l,C,m,hC,h=>by
  have:=Bd.incs hd l (C:=C + d) (by omega) (h.set hC hd e.toNat)
  refine this.mono ?_
  rw [List.length_cons,Int.natCast_add,Int.mul_add]
  simp only [Int.natCast_one,Int.mul_one]
  omega
theorem inc_loop {ρ:Type} (n:Nat) (kids:List Int) (hk:∀ e ∈ kids,0 ≤ e∧e < n) (C:Int) (hC:0 ≤ C) (f:List Int × Int→Option ((List Int × Int) ⊕ ρ)) (fin:List Int→ρ)
  (hf:∀ (m:List Int) (j:Nat) (hj:j < kids.length),Bd n (C + kids.length) m→f (m,j)=some (.inl (m.set kids[j].toNat (m.getD kids[j].toNat 0 + 1),((j + 1:Nat):Int))))
  (he:∀ m:List Int,f (m,kids.length)=some (.inr (fin m))) (m:List Int) (hm:Bd n C m):aI f (m,0)=some (fin (incs 1 kids m)):=by
 have:=bB kids (fun (m:List Int) j=>(m,(j:Int))) (fun j m=>Bd n (C + j) m) (fun m e=>.inl (m.set e.toNat (m.getD e.toNat 0 + 1))) fin f (fun m j hj hI=>by
  left
  refine ⟨_,rfl,hf m j hj (hI.mono (by omega)),?_⟩
  have:=hI.set (by omega) (show (0:Int) ≤ 1 by omega) kids[j].toNat
  exact this.mono (by omega)) (fun m _=>he m) m (by simpa using hm)
 rw [bM] at this
 exact this
def kidAll (nodes:List GNode):List Int:=nodes.flatMap (·.Kids)
def kc (nodes:List GNode) (k:Nat):Nat:=(kidAll nodes).count (k:Int)
theorem qI {nodes:List GNode} (h:okU nodes nodes.length=true) {x:GNode} (hx:x ∈ nodes):x.Kids.length ≤ 12∧(∀ e ∈ x.Kids,0 ≤ e∧e < nodes.length)∧x.Kids.Nodup:=by
 obtain ⟨i,hi,rfl⟩:=List.mem_iff_getElem.1 hx
 have hn:=(gM h hi).1
 have hg:nodes[i]? = some nodes[i]:=List.getElem?_eq_getElem hi
 refine ⟨cR hn hg,fun e he=>?_,?_⟩
 ·have:=fG hn hg e he;omega
 ·obtain ⟨_,_,_,h3,_⟩:=kB hn
  rw [List.nodup_iff_pairwise_ne,List.pairwise_iff_getElem]
  intro a b ha hb hab e
  refine (h3 b hb).2.1 ?_
  rw [← e]
  refine List.mem_iff_getElem.2 ⟨a,by simp only [List.length_take];omega,?_⟩
  rw [List.getElem_take]
theorem kc_le {nodes:List GNode} (h:okU nodes nodes.length=true) (k:Nat):kc nodes k ≤ nodes.length:=by
 have key:∀ l:List GNode,(∀ x ∈ l,x.Kids.Nodup)→(l.flatMap (·.Kids)).count (k:Int) ≤ l.length:=by
  intro l
  induction l with
  | nil=>intro _;simp
  | cons x l ih =>
   intro hl
   rw [List.flatMap_cons,List.count_append,List.length_cons]
   have h1:=ih fun y hy=>hl y (by simp [hy])
   have h2:=List.nodup_iff_count.1 (hl x (by simp)) (k:Int)
   omega
 exact key nodes fun x hx=>(qI h hx).2.2
theorem kids_loop (nodes:List GNode) (hok:okU nodes nodes.length=true) (hn:nodes.length ≤ 300) (f:List Int × Int→Option ((List Int × Int) ⊕ List Int))
  (hf:∀ (m:List Int) (i:Nat) (hi:i < nodes.length),Bd nodes.length (12 * i) m→f (m,i)=some (.inl (incs 1 nodes[i].Kids m,((i + 1:Nat):Int))))
  (he:∀ m:List Int,f (m,nodes.length)=some (.inr m)):aI f (List.replicate nodes.length 0,0)=some (incs 1 (kidAll nodes) (List.replicate nodes.length 0)):=by
 have:=bB nodes (fun (m:List Int) j=>(m,(j:Int))) (fun j m=>Bd nodes.length (12 * j) m) (fun m x=>.inl (incs 1 x.Kids m)) id f (fun m j hj hI=>by
  left
  refine ⟨_,rfl,hf m j hj hI,?_⟩
  have h12:=(qI hok (List.getElem_mem hj)).1
  have:=Bd.incs (show (0:Int) ≤ 1 by omega) nodes[j].Kids (by omega) hI
  exact this.mono (by omega)) (fun m _=>he m) (List.replicate nodes.length 0) ⟨by simp,fun v hv=>by
   have:=(List.mem_replicate.1 hv).2
   omega⟩
 rw [bM] at this
 have e:∀ (l:List GNode) (m:List Int),l.foldl (fun m x=>incs 1 x.Kids m) m=incs 1 (l.flatMap (·.Kids)) m:=by
  intro l
  induction l with
  | nil=>intro m;rfl
  | cons x l ih=>intro m;rw [List.foldl_cons,List.flatMap_cons,incs_append,ih]
 rw [e] at this
 exact this
def met0 (nodes:List GNode):List Int:=incs 1 (kidAll nodes) (List.replicate nodes.length 0)
theorem qL (nodes:List GNode):(met0 nodes).length=nodes.length:=by unfold met0;rw [incs_len];simp
theorem oQ {nodes:List GNode} (h:okU nodes nodes.length=true) (k:Nat):(met0 nodes).getD k 0=(kc nodes k:Nat):=by
 unfold met0
 rw [incs_get 1 k _ _ (fun e he=>by
  obtain ⟨x,hx,hm⟩:=List.mem_flatMap.1 he
  rw [List.length_replicate]
  exact (qI h hx).2.1 e hm)]
 have:(List.replicate nodes.length (0:Int)).getD k 0=0:=by
  rw [List.getD_eq_getElem?_getD,List.getElem?_replicate];split<;>rfl
 rw [this]
 unfold kc
 omega
theorem impl_met (p:GProgram) (hok:okU p.Nodes p.Nodes.length=true) (hn:p.Nodes.length ≤ 300):aI (cH p) (List.replicate p.Nodes.length 0,0)=some (met0 p.Nodes):=by
 refine kids_loop p.Nodes hok hn _ (fun m i hi hI=>?_) (fun m=>by simp [cH])
 obtain ⟨h12,hb,_⟩:=qI hok (List.getElem_mem hi)
 simp only [cH,aB hi,if_true,aE hi,Option.bind_some]
 rw [inc_loop p.Nodes.length p.Nodes[i].Kids hb (12 * i) (by omega) (cG p.Nodes[i]) id (fun m j hj hm=>by
  have hbe:=hb _ (List.getElem_mem hj)
  have hg:=hm.getD (by omega) p.Nodes[i].Kids[j].toNat
  simp only [cG,aB hj,if_true,aE hj,Option.bind_some]
  rw [bU hbe.1 (by rw [hm.len];exact hbe.2)]
  have hlt:p.Nodes[i].Kids[j].toNat < m.length:=by rw [hm.len];omega
  have e:m[p.Nodes[i].Kids[j].toNat]=m.getD p.Nodes[i].Kids[j].toNat 0:=by rw [List.getD_eq_getElem?_getD,List.getElem?_eq_getElem hlt];rfl
  rw [e]
  simp only [Option.bind_some,dN,w64 (n:=m.getD p.Nodes[i].Kids[j].toNat 0 + 1) (by omega) (by omega),aN hj (show p.Nodes[i].Kids.length ≤ 1048576 by omega)]) (fun m=>by simp [cG]) m hI]
 simp only [Option.bind_some,id,aN hi (show p.Nodes.length ≤ 1048576 by omega)]
theorem spec_met (nodes:List GNode) (hok:okU nodes nodes.length=true) (hn:nodes.length ≤ 300):iG nodes=some (met0 nodes):=by
 unfold iG
 rw [nO _ _ _ (by omega) (by omega)]
 simp only [Option.bind_some]
 rw [kids_loop nodes hok hn (cZ nodes) (fun m i hi hI=>by
  obtain ⟨h12,hb,_⟩:=qI hok (List.getElem_mem hi)
  simp only [cZ,aB hi,if_true]
  rw [inc_loop nodes.length nodes[i].Kids hb (12 * i) (by omega) (cY nodes i) id (fun m j hj hm=>by
   have hbe:=hb _ (List.getElem_mem hj)
   have hg:=hm.getD (by omega) nodes[i].Kids[j].toNat
   simp only [cY,aE hi,aB hj,if_true,aE hj,Option.bind_some]
   rw [bU hbe.1 (by rw [hm.len];exact hbe.2)]
   have hlt:nodes[i].Kids[j].toNat < m.length:=by rw [hm.len];omega
   have e:m[nodes[i].Kids[j].toNat]=m.getD nodes[i].Kids[j].toNat 0:=by rw [List.getD_eq_getElem?_getD,List.getElem?_eq_getElem hlt];rfl
   rw [e]
   simp only [Option.bind_some,dN,w64 (n:=m.getD nodes[i].Kids[j].toNat 0 + 1) (by omega) (by omega),aN hj (show nodes[i].Kids.length ≤ 1048576 by omega)]) (fun m=>by simp [cY,aE hi]) m hI]
  simp only [Option.bind_some,id,aN hi (show nodes.length ≤ 1048576 by omega)]) (fun m=>by simp [cZ])]
 rfl
def jM (f:GFn):List Int:=if f.Ret < 0 then [f.Body] else [f.Body,f.Ret]
def pG (p:GProgram) (n:Nat):List Int:=(p.Fns.take n).flatMap jM
def jJ (p:GProgram):List Int:=p.Fns.flatMap jM
theorem rootsT_all (p:GProgram):pG p p.Fns.length=jJ p:=by unfold pG jJ;rw [List.take_length]
theorem rootsT_succ (p:GProgram) {n:Nat} (h:n < p.Fns.length):pG p (n + 1)=pG p n ++ jM p.Fns[n]:=by
 unfold pG
 rw [List.take_add_one,List.getElem?_eq_getElem h,List.flatMap_append];simp
def kS (p:GProgram) (i:Nat):Bool:=match p.Fns[i]? with
 | some f=>fnB p f && dX p f.Name == i
 | none=>false
theorem qV {p:GProgram} {i:Nat} (h:i < p.Fns.length):kS p i=(fnB p p.Fns[i] && dX p p.Fns[i].Name == i):=by unfold kS;rw [List.getElem?_eq_getElem h]
theorem qX {p:GProgram} {f:GFn} (h:fnB p f=true):(∀ e ∈ jM f,0 ≤ e∧e < p.Nodes.length)∧0 ≤ f.Body∧f.Body < p.Nodes.length∧f.Ret < p.Nodes.length:=by
 unfold fnB at h
 simp only [Bool.and_eq_true] at h
 obtain ⟨_,_,_,_,h5,h6⟩:=h
 obtain ⟨b1,b2,_⟩:=bodyB_iff.1 h5
 have hr:f.Ret < p.Nodes.length:=by
  unfold retB at h6
  split at h6
  ·simp only [beq_iff_eq] at h6;omega
  ·rw [Bool.and_eq_true,inB_iff] at h6;omega
 refine ⟨?_,b1,b2,hr⟩
 intro e he
 unfold jM at he
 split at he
 ·simp only [List.mem_singleton] at he;subst he;exact ⟨b1,b2⟩
 ·simp only [List.mem_cons,List.not_mem_nil,or_false] at he
  rcases he with rfl | rfl
  ·exact ⟨b1,b2⟩
  ·exact ⟨by omega,hr⟩
def kR:List Int→List Int→Option (List Int)
 | [],m=>some m
 | r :: rs,m=>if m.getD r.toNat 0=0 then kR rs (m.set r.toNat (-1)) else none
theorem nP:∀ (a b m:List Int),kR (a ++ b) m=(kR a m).bind (kR b)
 | [],b,m=>rfl
 | r :: a,b,m=>by
  simp only [List.cons_append,kR]
  split
  ·exact nP a b _
  ·rfl
theorem markR_spec (n:Nat):∀ (rs m:List Int),m.length=n→(∀ r ∈ rs,0 ≤ r∧r < n) →
  (match kR rs m with
   | some m'=>(rs.Nodup∧∀ r ∈ rs,m.getD r.toNat 0=0)∧m'.length=n∧∀ k:Nat,m'.getD k 0=if (k:Int) ∈ rs then -1 else m.getD k 0
   | none=>¬ (rs.Nodup∧∀ r ∈ rs,m.getD r.toNat 0=0))
 | [],m,hm,_=>by simp [kR,hm]
 | r :: rs,m,hm,h=>by
  have hr:=h r (by simp)
  simp only [kR]
  by_cases h0:m.getD r.toNat 0=0
  ·rw [if_pos h0]
   have ih:=markR_spec n rs (m.set r.toNat (-1)) (by rw [List.length_set];exact hm) (fun x hx=>h x (by simp [hx]))
   have hget:∀ k:Nat,(m.set r.toNat (-1)).getD k 0=if (k:Int)=r then -1 else m.getD k 0:=by
    intro k
    rw [List.getD_eq_getElem?_getD,List.getElem?_set]
    by_cases hk:r.toNat=k
    ·rw [if_pos hk,if_pos (by omega),if_pos (by omega)];rfl
    ·rw [if_neg hk,if_neg (by omega),← List.getD_eq_getElem?_getD]
   have hre:∀ x ∈ rs,((x.toNat:Nat):Int)=x:=fun x hx=>by have:=h x (by simp [hx]);omega
   split at ih
   ·rename_i m' hm'
    try rw [hm']
    obtain ⟨⟨i1,i2⟩,i3,i4⟩:=ih
    have hnr:r ∉ rs:=fun hm=>by
     have:=i2 r hm
     rw [hget,hre r hm,if_pos rfl] at this
     omega
    refine ⟨⟨List.nodup_cons.2 ⟨hnr,i1⟩,fun x hx=>?_⟩,i3,fun k=>?_⟩
    ·rcases List.mem_cons.1 hx with rfl | hx
     ·exact h0
     ·have:=i2 x hx
      rw [hget,hre x hx] at this
      split at this
      ·omega
      ·exact this
    ·rw [i4,hget]
     by_cases h1:(k:Int) ∈ rs
     ·rw [if_pos h1,if_pos (by simp [h1])]
     ·rw [if_neg h1]
      by_cases h2:(k:Int)=r
      ·rw [if_pos h2,if_pos (by simp [h2])]
      ·rw [if_neg h2,if_neg (by simp [h1,h2])]
   ·rename_i hm'
    try rw [hm']
    rintro ⟨j1,j2⟩
    rw [List.nodup_cons] at j1
    refine ih ⟨j1.2,fun x hx=>?_⟩
    rw [hget,hre x hx]
    have:¬ x=r:=fun e=>j1.1 (e ▸ hx)
    rw [if_neg this]
    exact j2 x (by simp [hx])
  ·rw [if_neg h0]
   rintro ⟨_,j2⟩
   exact h0 (j2 r (by simp))
def usedB (n:Nat):Bool:=n == 1 || n == 1000
def progB (p:GProgram):Bool:=inB p.Nodes.length 1 300 && (inB p.Fns.length 1 8 && (okU p.Nodes p.Nodes.length && ((List.range p.Fns.length).all (kS p) && (List.range p.Nodes.length).all fun k=>usedB (kc p.Nodes k + 1000 * (jJ p).count (k:Int)))))
theorem deepB_last {nodes:List GNode} (h:1 ≤ nodes.length):(rE nodes ((nodes.length:Int) - 1) == 0) = !(okU nodes nodes.length):=by
 unfold rE
 have e:((nodes.length:Int) - 1).toNat=nodes.length - 1:=by omega
 rw [e,show nodes.length - 1 + 1=nodes.length by omega]
 cases hok:okU nodes nodes.length with
 | true =>
  rw [if_pos ⟨by omega,by omega,rfl⟩]
  have:=eT nodes (nodes.length - 1)
  have hne:¬ dval nodes (nodes.length - 1)=0:=by omega
  simp [hne]
 | false=>rw [if_neg (fun h=>by cases h.2.2)];rfl
theorem impl_l4_eq (p:GProgram) (f:GFn) (hf:fnB p f=true) (m:List Int) (hm:m.length=p.Nodes.length):aI (aH f) (m,0)=some (match kR (jM f) m with | some m'=>.inl m' | none=>.inr (.inr (.inr false))):=by
 obtain ⟨_,b0,b1,r1⟩:=qX hf
 have hl:(([f.Body,f.Ret]:List Int).length:Int)=2:=rfl
 have g0:getI [f.Body,f.Ret] 0=some f.Body:=rfl
 have g1:getI [f.Body,f.Ret] 1=some f.Ret:=rfl
 have d0:decide ((0:Int) < 2)=true:=rfl
 have d1:decide ((1:Int) < 2)=true:=rfl
 have d2:decide ((2:Int) < 2)=false:=rfl
 have w0:IntKind.wrap .i64 ((0:Int) + 1)=1:=rfl
 have w1:IntKind.wrap .i64 ((1:Int) + 1)=2:=rfl
 have hgd:∀ (m:List Int) (v:Int),m.length=p.Nodes.length→0 ≤ v→v < p.Nodes.length→getI m v=some (m.getD v.toNat 0):=fun m v hm h0 h1=>by
  have hlt:v.toNat < m.length:=by omega
  rw [bU h0 (by omega),List.getD_eq_getElem?_getD,List.getElem?_eq_getElem hlt];rfl
 have step1:∀ m:List Int,m.length=p.Nodes.length→aI (aH f) (m,1)=some (match kR (if f.Ret < 0 then [] else [f.Ret]) m with | some m'=>.inl m' | none=>.inr (.inr (.inr false))):=by
  intro m hm
  by_cases hr:f.Ret < 0
  ·have:aH f (m,1)=some (.inl (m,2)):=by
    simp only [aH,hl,d1,if_true,g1,Option.bind_some,w1]
    rw [if_pos (by simpa using hr)]
   rw [nQ this,if_pos hr,gO (r:=.inl m) (by simp only [aH,hl,d2,Bool.false_eq_true,if_false])]
   rfl
  ·rw [if_neg hr]
   simp only [kR]
   by_cases hz:m.getD f.Ret.toNat 0=0
   ·have:aH f (m,1)=some (.inl (m.set f.Ret.toNat (-1),2)):=by
     simp only [aH,hl,d1,if_true,g1,Option.bind_some,w1]
     rw [if_neg (by simpa using hr),hgd m f.Ret hm (by omega) r1]
     simp only [Option.bind_some,hz,dN]
     rfl
    rw [nQ this,if_pos hz,gO (r:=.inl (m.set f.Ret.toNat (-1))) (by simp only [aH,hl,d2,Bool.false_eq_true,if_false])]
   ·have:aH f (m,1)=some (.inr (.inr (.inr (.inr false)))):=by
     simp only [aH,hl,d1,if_true,g1,Option.bind_some,w1]
     rw [if_neg (by simpa using hr),hgd m f.Ret hm (by omega) r1]
     simp only [Option.bind_some]
     rw [if_pos (by simpa using hz)]
    rw [gO this,if_neg hz]
 have hsplit:jM f=f.Body :: (if f.Ret < 0 then [] else [f.Ret]):=by unfold jM;split<;>rfl
 rw [hsplit]
 simp only [kR]
 have hb:¬ f.Body < 0:=by omega
 by_cases hz:m.getD f.Body.toNat 0=0
 ·have:aH f (m,0)=some (.inl (m.set f.Body.toNat (-1),1)):=by
   simp only [aH,hl,d0,if_true,g0,Option.bind_some,w0]
   rw [if_neg (by simpa using hb),hgd m f.Body hm b0 b1]
   simp only [Option.bind_some,hz,dN]
   rfl
  rw [nQ this,if_pos hz,step1 _ (by rw [List.length_set];exact hm)]
 ·have:aH f (m,0)=some (.inr (.inr (.inr (.inr false)))):=by
   simp only [aH,hl,d0,if_true,g0,Option.bind_some,w0]
   rw [if_neg (by simpa using hb),hgd m f.Body hm b0 b1]
   simp only [Option.bind_some]
   rw [if_pos (by simpa using hz)]
  rw [gO this,if_neg hz]
theorem markR_len:∀ (rs m:List Int) {m':List Int},kR rs m=some m'→m'.length=m.length
 | [],m,m',h=>by cases h;rfl
 | r :: rs,m,m',h=>by
  simp only [kR] at h
  split at h
  ·rw [markR_len rs _ h];simp
  ·cases h
theorem impl_l3_eq (p:GProgram) (hn:p.Nodes.length ≤ 300) (hp:p.Fns.length ≤ 8) (m0:List Int) (hm0:m0.length=p.Nodes.length):aI (bK p) (m0,0)=some (if (List.range p.Fns.length).all (kS p)=true then (match kR (jJ p) m0 with | some m=>.inl m | none=>.inr false) else .inr false):=by
 obtain ⟨r,h1,h2⟩:=dW (f:=bK p) (fun s:List Int × Int=>∃ i:Nat,s.2=i∧i ≤ p.Fns.length∧(∀ j,j < i→kS p j=true)∧kR (pG p i) m0=some s.1) (fun s=>p.Fns.length - s.2.toNat) (fun r=>r=if (List.range p.Fns.length).all (kS p)=true then (match kR (jJ p) m0 with | some m=>.inl m | none=>.inr false) else .inr false) (by
  rintro ⟨m,i⟩ ⟨i,rfl,hi,hg,hm⟩
  simp only at hm hi
  have hml:m.length=p.Nodes.length:=by rw [markR_len _ _ hm];exact hm0
  by_cases hlt:i < p.Fns.length
  ·have hbad:(kS p i=false)→(List.range p.Fns.length).all (kS p)=false:=by
    intro hb
    rw [Bool.eq_false_iff]
    intro h
    rw [List.all_eq_true.1 h i (List.mem_range.2 hlt)] at hb
    cases hb
   have hgi:=qV hlt
   have hcond:(Option.bind (if (!(fnB p p.Fns[i]))=true then some true else some (dX p p.Fns[i].Name != (i:Int))) fun v:Bool=>some v)=some (!(kS p i)):=by
    rw [hgi];cases fnB p p.Fns[i]<;>rfl
   have hcond2:(if (!(fnB p p.Fns[i]))=true then some true else some (dX p p.Fns[i].Name != (i:Int)))=some (!(kS p i)):=by
    rw [hgi];cases fnB p p.Fns[i]<;>rfl
   simp only [bK,aB hlt,if_true,aE hlt,Option.bind_some,impl_fnOk_eq p _ (show p.Nodes.length ≤ 1048576 by omega),kU p _ (show p.Fns.length ≤ 1048576 by omega),hcond2]
   cases hgb:kS p i with
   | false =>
    right
    refine ⟨.inr false,rfl,?_⟩
    rw [hbad hgb];rfl
   | true =>
    simp only [Bool.not_true,Bool.false_eq_true,if_false]
    have hfb:fnB p p.Fns[i]=true:=by rw [hgi,Bool.and_eq_true] at hgb;exact hgb.1
    rw [impl_l4_eq p _ hfb m hml]
    simp only [Option.bind_some]
    have hsucc:kR (pG p (i + 1)) m0=kR (jM p.Fns[i]) m:=by
     rw [rootsT_succ p hlt,nP,hm];rfl
    cases hmr:kR (jM p.Fns[i]) m with
    | some m' =>
     left
     refine ⟨(m',((i + 1:Nat):Int)),by simp only [aN hlt (show p.Fns.length ≤ 1048576 by omega)],⟨i + 1,rfl,by omega,fun j hj=>?_,by rw [hsucc];exact hmr⟩,by simp only [Int.toNat_natCast];omega⟩
     by_cases e:j=i
     ·subst e;exact hgb
     ·exact hg j (by omega)
    | none =>
     right
     refine ⟨.inr false,rfl,?_⟩
     have:kR (jJ p) m0=none:=by
      have hsp:jJ p=pG p (i + 1) ++ (p.Fns.drop (i + 1)).flatMap jM:=by
       unfold jJ pG
       rw [← List.flatMap_append,List.take_append_drop]
      rw [hsp,nP,hsucc,hmr];rfl
     rw [this];split<;>rfl
  ·right
   have:i=p.Fns.length:=by omega
   subst this
   refine ⟨.inl m,by simp [bK],?_⟩
   rw [if_pos (List.all_eq_true.2 fun j hj=>hg j (List.mem_range.1 hj)),← rootsT_all,hm]) (m0,0) ⟨0,rfl,by omega,fun j hj=>by omega,rfl⟩
 rw [h1,h2]
theorem range_count (n:Nat) (m:List Int) (q:Int→Bool) (hm:m.length=n):m.all q=(List.range n).all fun k=>q (m.getD k 0):=by
 rw [Bool.eq_iff_iff,List.all_eq_true,List.all_eq_true]
 constructor
 ·intro h k hk
  have hk':k < m.length:=by rw [hm];exact List.mem_range.1 hk
  rw [List.getD_eq_getElem?_getD,List.getElem?_eq_getElem hk']
  exact h _ (List.getElem_mem hk')
 ·intro h v hv
  obtain ⟨k,hk,rfl⟩:=List.mem_iff_getElem.1 hv
  have:=h k (List.mem_range.2 (by omega))
  rw [List.getD_eq_getElem?_getD,List.getElem?_eq_getElem hk] at this
  exact this
theorem roots_bnd {p:GProgram} (h:(List.range p.Fns.length).all (kS p)=true):∀ e ∈ jJ p,0 ≤ e∧e < p.Nodes.length:=by
 intro e he
 obtain ⟨f,hf,hm⟩:=List.mem_flatMap.1 he
 obtain ⟨i,hi,rfl⟩:=List.mem_iff_getElem.1 hf
 have:=List.all_eq_true.1 h i (List.mem_range.2 hi)
 rw [qV hi,Bool.and_eq_true] at this
 exact (qX this.1).1 e hm
theorem impl_ProgramOk_eq (p:GProgram) (hn:p.Nodes.length ≤ 1048576) (hp:p.Fns.length ≤ 1048576):fX p=some (progB p):=by
 unfold fX progB
 simp only [bO,Option.bind_some,gI hn,pL p.Nodes hn]
 cases h1:inB p.Nodes.length 1 300 with
 | false=>rfl
 | true =>
  have h1':=inB_iff.1 h1
  cases h2:inB p.Fns.length 1 8 with
  | false=>rfl
  | true =>
   have h2':=inB_iff.1 h2
   simp only [Bool.not_true,Bool.false_eq_true,if_false,Bool.true_and,Option.bind_some,deepB_last (show 1 ≤ p.Nodes.length by omega)]
   cases h3:okU p.Nodes p.Nodes.length with
   | false=>rfl
   | true =>
    simp only [Bool.not_true,Bool.false_eq_true,if_false,Bool.true_and]
    rw [nO _ _ _ (by omega) (by omega)]
    simp only [Option.bind_some]
    rw [impl_met p h3 (by omega)]
    simp only [Option.bind_some]
    rw [impl_l3_eq p (by omega) (by omega) _ (qL _)]
    cases h4:(List.range p.Fns.length).all (kS p) with
    | false=>rfl
    | true =>
     simp only [if_true,Option.bind_some,Bool.true_and]
     have hb:=roots_bnd h4
     have hsp:=markR_spec p.Nodes.length (jJ p) (met0 p.Nodes) (qL _) hb
     have hmet:∀ r ∈ jJ p,(met0 p.Nodes).getD r.toNat 0=(kc p.Nodes r.toNat:Nat):=fun r _=>oQ h3 _
     cases hmr:kR (jJ p) (met0 p.Nodes) with
     | none =>
      rw [hmr] at hsp
      simp only at hsp ⊢
      congr 1
      rw [eq_comm,Bool.eq_false_iff]
      intro hall
      rw [List.all_eq_true] at hall
      refine hsp ⟨List.nodup_iff_count.2 fun a=>?_,fun r hr=>?_⟩
      ·by_cases ha:a ∈ jJ p
       ·have hab:=hb a ha
        have:=hall a.toNat (List.mem_range.2 (by omega))
        rw [show ((a.toNat:Nat):Int)=a by omega] at this
        simp only [usedB,Bool.or_eq_true,beq_iff_eq] at this
        omega
       ·rw [List.count_eq_zero.2 ha];omega
      ·have hrb:=hb r hr
       have:=hall r.toNat (List.mem_range.2 (by omega))
       rw [show ((r.toNat:Nat):Int)=r by omega] at this
       simp only [usedB,Bool.or_eq_true,beq_iff_eq] at this
       have hc:=List.count_pos_iff.2 hr
       rw [oQ h3]
       omega
     | some m =>
      rw [hmr] at hsp
      obtain ⟨⟨s1,s2⟩,s3,s4⟩:=hsp
      simp only
      rw [nR m (fun v=>v == 1 || v == -1) (cF m) (fun k hk=>by
       simp only [cF,aB hk,if_true,aE hk,Option.bind_some,aN hk (show m.length ≤ 1048576 by omega)]
       by_cases e1:m[k]=1
       ·simp [e1]
       ·by_cases e2:m[k] = -1<;>simp [e1,e2]) (by simp [cF])]
      have hfin:m.all (fun v=>v == 1 || v == -1)=(List.range p.Nodes.length).all fun k=>usedB (kc p.Nodes k + 1000 * (jJ p).count (k:Int)):=by
       rw [range_count p.Nodes.length m _ s3,Bool.eq_iff_iff,List.all_eq_true,List.all_eq_true]
       have each:∀ k,k < p.Nodes.length→((m.getD k 0 == 1 || m.getD k 0 == -1)=true ↔ usedB (kc p.Nodes k + 1000 * (jJ p).count (k:Int))=true):=by
        intro k hk
        have hkc:=kc_le h3 k
        rw [s4,oQ h3]
        simp only [usedB,Bool.or_eq_true,beq_iff_eq]
        by_cases hm:(k:Int) ∈ jJ p
        ·rw [if_pos hm]
         have hc:=List.count_pos_iff.2 hm
         have hc1:=List.nodup_iff_count.1 s1 (k:Int)
         have:=s2 _ hm
         rw [Int.toNat_natCast,oQ h3] at this
         omega
        ·rw [if_neg hm,List.count_eq_zero.2 hm]
         omega
       constructor
       ·intro h k hk;exact (each k (List.mem_range.1 hk)).1 (h k hk)
       ·intro h k hk;exact (each k (List.mem_range.1 hk)).2 (h k hk)
      rw [hfin]
      cases (List.range p.Nodes.length).all fun k=>usedB (kc p.Nodes k + 1000 * (jJ p).count (k:Int))<;>rfl
theorem spec_l1_step (p:GProgram) (hn:p.Nodes.length ≤ 300) (hp:p.Fns.length ≤ 8) (C:Int) (hC:0 ≤ C) (hC2:C ≤ 1000000) (m:List Int) (hm:Bd p.Nodes.length C m) (i:Nat) (hi:i < p.Fns.length):bA p (m,i)=some (if kS p i=true then .inl (incs 1000 (jM p.Fns[i]) m,((i + 1:Nat):Int)) else .inr (.inr false)):=by
 simp only [bA,aB hi,if_true,spec_l04Fn_eq p i hi (show p.Nodes.length ≤ 1048576 by omega) (show p.Fns.length ≤ 1048576 by omega),Option.bind_some,aE hi]
 rw [← qV hi]
 cases hg:kS p i with
 | false=>rfl
 | true =>
  simp only [Bool.not_true,Bool.false_eq_true,if_false,if_true]
  have hfb:fnB p p.Fns[i]=true:=by rw [qV hi,Bool.and_eq_true] at hg;exact hg.1
  obtain ⟨_,b0,b1,r1⟩:=qX hfb
  generalize p.Fns[i]=f at *
  have hgd:∀ (m:List Int) (v:Int),m.length=p.Nodes.length→0 ≤ v→v < p.Nodes.length→getI m v=some (m.getD v.toNat 0):=fun m v hm h0 h1=>by
   have hlt:v.toNat < m.length:=by omega
   rw [bU h0 (by omega),List.getD_eq_getElem?_getD,List.getElem?_eq_getElem hlt];rfl
  have g0:=hm.getD hC f.Body.toNat
  have hm1:=hm.set hC (show (0:Int) ≤ 1000 by omega) f.Body.toNat
  have g1:=hm1.getD (by omega) f.Ret.toNat
  rw [hgd m f.Body hm.len b0 b1]
  simp only [Option.bind_some,dN,w64 (n:=m.getD f.Body.toNat 0 + 1000) (by omega) (by omega),aN hi (show p.Fns.length ≤ 1048576 by omega)]
  unfold jM
  by_cases hr:f.Ret < 0
  ·have hr':¬ f.Ret ≥ 0:=by omega
   rw [if_neg (by simpa using hr'),if_pos hr]
   rfl
  ·have hr':f.Ret ≥ 0:=by omega
   rw [if_pos (by simpa using hr'),if_neg hr,hgd _ f.Ret hm1.len (by omega) r1]
   simp only [Option.bind_some,dN]
   rw [w64 (by omega) (by omega)]
   rfl
theorem spec_l1_eq (p:GProgram) (hn:p.Nodes.length ≤ 300) (hp:p.Fns.length ≤ 8) (m0:List Int) (C:Int) (hC:0 ≤ C) (hC2:C ≤ 10000) (hm0:Bd p.Nodes.length C m0):aI (bA p) (m0,0)=some (if (List.range p.Fns.length).all (kS p)=true then .inl (incs 1000 (jJ p) m0) else .inr false):=by
 obtain ⟨r,h1,h2⟩:=dW (f:=bA p) (fun s:List Int × Int=>∃ i:Nat,s.2=i∧i ≤ p.Fns.length∧(∀ j,j < i→kS p j=true)∧s.1=incs 1000 (pG p i) m0∧Bd p.Nodes.length (C + 2000 * i) s.1) (fun s=>p.Fns.length - s.2.toNat) (fun r=>r=if (List.range p.Fns.length).all (kS p)=true then .inl (incs 1000 (jJ p) m0) else .inr false) (by
  rintro ⟨m,i⟩ ⟨i,rfl,hi,hg,hm,hb⟩
  simp only at hm hi hb
  by_cases hlt:i < p.Fns.length
  ·have hst:=spec_l1_step p hn hp (C + 2000 * i) (by omega) (by omega) m hb i hlt
   cases hgb:kS p i with
   | false =>
    right
    refine ⟨.inr false,by rw [hst,hgb];rfl,?_⟩
    have:(List.range p.Fns.length).all (kS p)=false:=by
     rw [Bool.eq_false_iff]
     intro h
     rw [List.all_eq_true.1 h i (List.mem_range.2 hlt)] at hgb
     cases hgb
    rw [this];rfl
   | true =>
    left
    refine ⟨_,by rw [hst,hgb,if_pos rfl],⟨i + 1,rfl,by omega,fun j hj=>?_,?_,?_⟩,by simp only [Int.toNat_natCast];omega⟩
    ·by_cases e:j=i
     ·subst e;exact hgb
     ·exact hg j (by omega)
    ·simp only
     rw [rootsT_succ p hlt,incs_append,← hm]
    ·have:=Bd.incs (show (0:Int) ≤ 1000 by omega) (jM p.Fns[i]) (by omega) hb
     refine this.mono ?_
     have:(jM p.Fns[i]).length ≤ 2:=by unfold jM;split<;>simp
     omega
  ·right
   have:i=p.Fns.length:=by omega
   subst this
   refine ⟨.inl m,by simp [bA],?_⟩
   rw [if_pos (List.all_eq_true.2 fun j hj=>hg j (List.mem_range.1 hj)),← rootsT_all,hm]) (m0,0) ⟨0,rfl,by omega,fun j hj=>by omega,rfl,hm0.mono (by omega)⟩
 rw [h1,h2]
theorem spec_ProgramOk_eq (p:GProgram) (hn:p.Nodes.length ≤ 1048576) (hp:p.Fns.length ≤ 1048576):fS p=some (progB p):=by
 unfold fS progB
 simp only [dC,Option.bind_some,gI hn]
 cases h1:inB p.Nodes.length 1 300 with
 | false=>rfl
 | true =>
  have h1':=inB_iff.1 h1
  cases h2:inB p.Fns.length 1 8 with
  | false=>rfl
  | true =>
   have h2':=inB_iff.1 h2
   have hc:((p.Nodes.length:Int) - 1)=((p.Nodes.length - 1:Nat):Int):=by omega
   simp only [Bool.not_true,Bool.false_eq_true,if_false,Bool.true_and,Option.bind_some]
   rw [hc,qC p.Nodes hn _ (by omega)]
   simp only [Option.bind_some,sdeeps_len]
   rw [show p.Nodes.length - 1 + 1=p.Nodes.length by omega,gI hn,hc,getI_nat,oN p.Nodes (show p.Nodes.length - 1 < p.Nodes.length by omega),show p.Nodes.length - 1 + 1=p.Nodes.length by omega]
   simp only [Option.bind_some]
   cases h3:okU p.Nodes p.Nodes.length with
   | false=>rfl
   | true =>
    have hpos:=eT p.Nodes (p.Nodes.length - 1)
    have hne:¬ dval p.Nodes (p.Nodes.length - 1)=0:=by omega
    simp only [if_true,Bool.true_and]
    rw [if_neg (by simpa using hne),spec_met p.Nodes h3 (by omega)]
    simp only [Option.bind_some]
    have hB:Bd p.Nodes.length 300 (met0 p.Nodes):=⟨qL _,fun v hv=>by
     obtain ⟨k,hk,rfl⟩:=List.mem_iff_getElem.1 hv
     have h:=oQ h3 k
     rw [List.getD_eq_getElem?_getD,List.getElem?_eq_getElem hk,Option.getD_some] at h
     have:=kc_le h3 k
     omega⟩
    rw [spec_l1_eq p (by omega) (by omega) _ 300 (by omega) (by omega) hB]
    cases h4:(List.range p.Fns.length).all (kS p) with
    | false=>rfl
    | true =>
     simp only [if_true,Option.bind_some,Bool.true_and]
     have hb:=roots_bnd h4
     have hl:(incs 1000 (jJ p) (met0 p.Nodes)).length=p.Nodes.length:=by rw [incs_len,qL]
     have hval:∀ k,(incs 1000 (jJ p) (met0 p.Nodes)).getD k 0=((kc p.Nodes k + 1000 * (jJ p).count (k:Int):Nat):Int):=by
      intro k
      rw [incs_get 1000 k _ _ (fun e he=>by rw [qL];exact hb e he),oQ h3]
      omega
     generalize hmm:incs 1000 (jJ p) (met0 p.Nodes)=m at *
     rw [nR m (fun v=>v == 1 || v == 1000) (cC m) (fun k hk=>by
      simp only [cC,aB hk,if_true,aE hk,Option.bind_some,aN hk (show m.length ≤ 1048576 by omega)]
      by_cases e1:m[k]=1
      ·simp [e1]
      ·by_cases e2:m[k]=1000<;>simp [e1,e2]) (by simp [cC])]
     have hfin:m.all (fun v=>v == 1 || v == 1000)=(List.range p.Nodes.length).all fun k=>usedB (kc p.Nodes k + 1000 * (jJ p).count (k:Int)):=by
      rw [range_count p.Nodes.length m _ hl]
      congr 1
      funext k
      rw [hval,Bool.eq_iff_iff]
      simp only [usedB,Bool.or_eq_true,beq_iff_eq]
      omega
     rw [hfin]
     cases (List.range p.Nodes.length).all fun k=>usedB (kc p.Nodes k + 1000 * (jJ p).count (k:Int))<;>rfl
end Go.OM
namespace Go.OM
end Go.OM
