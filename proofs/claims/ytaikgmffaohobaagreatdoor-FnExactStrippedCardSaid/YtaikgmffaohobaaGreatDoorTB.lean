import Derived.Test.YtaikgmffaohobaaGreatDoorTA
import Derived.Shelf.Strconv.Itoa0
import Derived.Shelf.Strings.Search1
import Derived.Shelf.Strings.Search2
import Derived.Shelf.Strings.Search3
import Derived.Shelf.Strings.Count
import Derived.Shelf.LaysM
import Derived.Shelf.Strings.Shaped
import Derived.Shelf.Sort.Plain
import Derived.Shelf.Strings.Split
import Derived.Shelf.Unicode.DecodeSlow
import Derived.Shelf.Slices.In.SortNone
import Derived.Shelf.Slices.In.SortNone2
import Derived.Test.YtaikgmffaohobaaGreatDoorProg
set_option linter.unusedVariables false
set_option linter.unusedSimpArgs false
set_option linter.unusedVariables false
set_option linter.unusedSimpArgs false
set_option maxHeartbeats 8000000
namespace Go.Proofs.T
open Go.OM
theorem res44:Tryz.f44.results.toList=[.tmp 4]:=rfl
theorem ent44:aE E.P 44:=eO Tryz.func44 (by simp [Tryz.f44]) rfl
theorem spec_FnAt_ok (p1:GProgram) (name2:ByteArray) {r0:Int} (h:nM p1 name2=some r0):Ok E 44 [.val (GProgram.enc false p1),.val (vs name2)] [vi r0] []:=by
 refine oB (fn:=Tryz.f44) Tryz.func44 rfl (by simp [Tryz.f44]) fun C hN hP=>?_
 have hPB:∀ l,pinK [] l=true→pinB C.pin l=true:=pO (by rw [hP];rfl)
 have hN':C.N=22:=hN
 clear hN
 unfold nM at h
 refine SWp.sR rfl (hPB _ rfl) fun K hK=>?_
 iterate 2 (refine wC rfl fun K hK=>?_;simp [hN'];refine hK _ ?_;clear hK)
 refine wN (hK _ ?_);clear hK
 obtain ⟨j5,hj3,h⟩:=bS h
 refine SWp.seqC [] [] (fun v:Unit=>⟨[],[]⟩) (fun v=>j5=Sum.inl v) (fun v hv=>?_) fun K4 hK4=>?_
 rotate_left
 ·refine SWp.sR rfl (hPB _ rfl) fun K hK=>?_
  refine wC rfl fun K hK=>?_;simp [hN'];refine hK _ ?_;clear hK
  refine wN (hK _ ?_);clear hK
  refine SWp.block ?_
  refine SWp.loopO [] [1,2,5] [2] (fun v:Int=>⟨[(1,.t (vs name2)),(2,.ref (.box 2) 0 []),(5,.t (vi v))],[(2,[.sl false 4 (List.map (GNode.enc false) p1.Nodes),.sl false 5 (List.map (GFn.enc false) p1.Fns)])]⟩) (nL p1 name2) _ 0 hj3 (by simp [hN']) ?_
  intro g s9 h7 ho8
  obtain ⟨i6,hg⟩:∃ y,y=g:=⟨_,rfl⟩
  subst hg
  simp only [nL] at h7
  try dsimp only
  refine SWp.seq ?_
  refine SWp.sR rfl (hPB _ rfl) fun K hK=>?_
  iterate 5 (refine wC rfl fun K hK=>?_;simp [hN'];refine hK _ ?_;clear hK)
  refine wN (hK _ ?_);clear hK
  rcases aA h7 with ⟨hb10,h7⟩ | ⟨hb11,h7⟩
  ·refine SWp.cT' (b:=decide (i6 < (p1.Fns.length:Int))) (by simp) hb10 ?_
   refine SWp.skip ?_
   show SWp E C _ _ _
   refine SWp.seq ?_
   refine SWp.block ?_
   refine SWp.sR rfl (hPB _ rfl) fun K hK=>?_
   iterate 3 (refine wC rfl fun K hK=>?_;simp [hN'];refine hK _ ?_;clear hK)
   obtain ⟨e12,he12,h7⟩:=bS h7
   obtain ⟨he12a,he12b,he12c,he12d⟩:=gS he12
   iterate 5 (refine wC rfl fun K hK=>?_;simp [hN',he12a,he12b,he12c,he12d];refine hK _ ?_;clear hK)
   refine wN (hK _ ?_);clear hK
   rcases aA h7 with ⟨hb13,h7⟩ | ⟨hb14,h7⟩
   ·refine SWp.cT' (b:=sEq e12.Name name2) (by simp) hb13 ?_
    refine SWp.sR rfl (hPB _ rfl) fun K hK=>?_
    iterate 2 (refine wC rfl fun K hK=>?_;simp [hN'];refine hK _ ?_;clear hK)
    refine wN (hK _ ?_);clear hK
    have h15:=congrArg some (ho8 _ (Option.some.inj h7).symm)
    cases h15
    try dsimp only at h
    cases h
    refine SWp.ret ?_
    simp [aC,iB,res44]
   ·refine SWp.cF' (b:=sEq e12.Name name2) (by simp) hb14 ?_
    refine SWp.skip ?_
    show SWp E C _ _ _
    refine SWp.reg rfl (hPB _ rfl) fun K hK=>?_
    iterate 3 (refine wC rfl fun K hK=>?_;simp [hN'];refine hK _ ?_;clear hK)
    refine wN (hK _ ?_);clear hK
    cases h7
    exact ⟨_,[],rfl,by simp [hN']⟩
  ·refine SWp.cF' (b:=decide (i6 < (p1.Fns.length:Int))) (by simp) hb11 ?_
   refine SWp.exit ?_
   have h16:=congrArg some (ho8 _ (Option.some.inj h7).symm)
   cases h16
   exact hK4 _ _ [] rfl (by simp [hN'])
 subst hv
 obtain ⟨⟩:=v
 try dsimp only at h ⊢
 refine SWp.sR rfl (hPB _ rfl) fun K hK=>?_
 refine wC rfl fun K hK=>?_;simp [hN'];refine hK _ ?_;clear hK
 refine wN (hK _ ?_);clear hK
 cases h
 refine SWp.ret ?_
 simp [aC,iB,res44]
theorem res56:Tryz.f56.results.toList=[.tmp 4]:=rfl
theorem ent56:aE E.P 56:=eO Tryz.func56 (by simp [Tryz.f56]) rfl
theorem spec_l04Fn_ok (p1:GProgram) (i2:Int) {r0:Bool} (h:lR p1 i2=some r0):Ok E 56 [.val (GProgram.enc false p1),.val (vi i2)] [vb r0] []:=by
 refine oB (fn:=Tryz.f56) Tryz.func56 rfl (by simp [Tryz.f56]) fun C hN hP=>?_
 have hPB:∀ l,pinK [] l=true→pinB C.pin l=true:=pO (by rw [hP];rfl)
 have hN':C.N=102:=hN
 clear hN
 unfold lR at h
 refine SWp.sR rfl (hPB _ rfl) fun K hK=>?_
 iterate 2 (refine wC rfl fun K hK=>?_;simp [hN'];refine hK _ ?_;clear hK)
 refine wN (hK _ ?_);clear hK
 refine SWp.sR rfl (hPB _ rfl) fun K hK=>?_
 iterate 3 (refine wC rfl fun K hK=>?_;simp [hN'];refine hK _ ?_;clear hK)
 obtain ⟨e3,he3,h⟩:=bS h
 obtain ⟨he3a,he3b,he3c,he3d⟩:=gS he3
 iterate 4 (refine wC rfl fun K hK=>?_;simp [hN',he3a,he3b,he3c,he3d];refine hK _ ?_;clear hK)
 refine wN (hK _ ?_);clear hK
 refine SWp.seq ?_
 obtain ⟨v18,hj4,h⟩:=bS h
 refine SWp.seqRC rfl (hPB _ rfl) [2,5,35] [2,5] (fun _:Unit=>⟨[(2,.ref (.box 2) 0 []),(5,.ref (.box 5) 0 []),(35,.t (vb v18))],[(2,[.sl false 4 (List.map (GNode.enc false) p1.Nodes),.sl false 5 (List.map (GFn.enc false) p1.Fns)]),(5,[vs e3.Name,.sl false 2 (List.map GParam.enc e3.Params),vi e3.Res,vi e3.Body,vi e3.Ret])]⟩) (fun _=>True) (fun _ _=>?_) fun K5 hK5=>?_
 rotate_left
 ·refine wC rfl fun K hK=>?_;simp [hN'];refine hK _ ?_;clear hK
  refine wC rfl fun K hK=>?_;simp [hN'];refine hK _ ?_;clear hK
  obtain ⟨r6,hc7,hj4⟩:=bS hj4
  refine wL [(.take,.tmp 13)] rfl rfl ent87 (lJ _ hc7) fun K hK=>?_;simp [hN'];refine hK _ ?_;clear hK
  iterate 2 (refine wC rfl fun K hK=>?_;simp [hN'];refine hK _ ?_;clear hK)
  rcases aA hj4 with ⟨hb8,hj4⟩ | ⟨hb9,hj4⟩
  ·have hb8s:=hb8
   try simp at hb8s
   iterate 6 (refine wO fun K hK=>?_;simp [hN',hb8,hb8s];refine hK _ ?_;clear hK)
   iterate 2 (refine wC rfl fun K hK=>?_;simp [hN',hb8,hb8s];refine hK _ ?_;clear hK)
   iterate 4 (refine wO fun K hK=>?_;simp [hN',hb8,hb8s];refine hK _ ?_;clear hK)
   iterate 2 (refine wC rfl fun K hK=>?_;simp [hN',hb8,hb8s];refine hK _ ?_;clear hK)
   iterate 4 (refine wO fun K hK=>?_;simp [hN',hb8,hb8s];refine hK _ ?_;clear hK)
   refine wC rfl fun K hK=>?_;simp [hN',hb8,hb8s];refine hK _ ?_;clear hK
   refine wN ?_
   cases hj4
   exact hK5 _ () [] trivial (by simp [hN',hb8,hb8s])
  ·have hb9s:=hb9
   try simp at hb9s
   iterate 3 (refine wC rfl fun K hK=>?_;simp [hN',hb9,hb9s];refine hK _ ?_;clear hK)
   obtain ⟨r10,hc11,hj4⟩:=bS hj4
   refine wL [(.take,.tmp 17),(.take,.tmp 19)] rfl rfl ent44 (spec_FnAt_ok _ _ hc11) fun K hK=>?_;simp [hN',hb9,hb9s];refine hK _ ?_;clear hK
   iterate 4 (refine wC rfl fun K hK=>?_;simp [hN',hb9,hb9s];refine hK _ ?_;clear hK)
   rcases aA hj4 with ⟨hb12,hj4⟩ | ⟨hb13,hj4⟩
   ·have hb12s:=hb12
    try simp at hb12s
    iterate 4 (refine wO fun K hK=>?_;simp [hN',hb9,hb9s,hb12,hb12s];refine hK _ ?_;clear hK)
    iterate 2 (refine wC rfl fun K hK=>?_;simp [hN',hb9,hb9s,hb12,hb12s];refine hK _ ?_;clear hK)
    iterate 4 (refine wO fun K hK=>?_;simp [hN',hb9,hb9s,hb12,hb12s];refine hK _ ?_;clear hK)
    refine wC rfl fun K hK=>?_;simp [hN',hb9,hb9s,hb12,hb12s];refine hK _ ?_;clear hK
    refine wN ?_
    cases hj4
    exact hK5 _ () [] trivial (by simp [hN',hb9,hb9s,hb12,hb12s])
   ·have hb13s:=hb13
    try simp at hb13s
    iterate 6 (refine wC rfl fun K hK=>?_;simp [hN',hb9,hb9s,hb13,hb13s];refine hK _ ?_;clear hK)
    rcases aA hj4 with ⟨hb14,hj4⟩ | ⟨hb15,hj4⟩
    ·have hb14s:=hb14
     try simp at hb14s
     iterate 4 (refine wO fun K hK=>?_;simp [hN',hb9,hb9s,hb13,hb13s,hb14,hb14s];refine hK _ ?_;clear hK)
     refine wC rfl fun K hK=>?_;simp [hN',hb9,hb9s,hb13,hb13s,hb14,hb14s];refine hK _ ?_;clear hK
     refine wN ?_
     cases hj4
     exact hK5 _ () [] trivial (by simp [hN',hb9,hb9s,hb13,hb13s,hb14,hb14s])
    ·have hb15s:=hb15
     try simp at hb15s
     iterate 2 (refine wC rfl fun K hK=>?_;simp [hN',hb9,hb9s,hb13,hb13s,hb15,hb15s];refine hK _ ?_;clear hK)
     obtain ⟨r16,hc17,hj4⟩:=bS hj4
     refine wL [(.take,.tmp 32),(.take,.const (.int .i64 0)),(.take,.const (.int .i64 2))] rfl rfl mW (aK _ _ _ hc17) fun K hK=>?_;simp [hN',hb9,hb9s,hb13,hb13s,hb15,hb15s];refine hK _ ?_;clear hK
     iterate 2 (refine wC rfl fun K hK=>?_;simp [hN',hb9,hb9s,hb13,hb13s,hb15,hb15s];refine hK _ ?_;clear hK)
     refine wN ?_
     cases hj4
     exact hK5 _ () [] trivial (by simp [hN',hb9,hb9s,hb13,hb13s,hb15,hb15s])
 rcases aA h with ⟨hb19,h⟩ | ⟨hb20,h⟩
 ·refine SWp.cT' (b:=v18) (by simp) hb19 ?_
  refine SWp.sR rfl (hPB _ rfl) fun K hK=>?_
  refine wC rfl fun K hK=>?_;simp [hN'];refine hK _ ?_;clear hK
  refine wN (hK _ ?_);clear hK
  cases h
  refine SWp.ret ?_
  simp [aC,iB,res56]
 ·refine SWp.cF' (b:=v18) (by simp) hb20 ?_
  refine SWp.skip ?_
  show SWp E C _ _ _
  obtain ⟨j23,hj21,h⟩:=bS h
  refine SWp.seqC [2,5] [2,5] (fun v:Unit=>⟨[(2,.ref (.box 2) 0 []),(5,.ref (.box 5) 0 [])],[(2,[.sl false 4 (List.map (GNode.enc false) p1.Nodes),.sl false 5 (List.map (GFn.enc false) p1.Fns)]),(5,[vs e3.Name,.sl false 2 (List.map GParam.enc e3.Params),vi e3.Res,vi e3.Body,vi e3.Ret])]⟩) (fun v=>j23=Sum.inl v) (fun v hv=>?_) fun K22 hK22=>?_
  rotate_left
  ·refine SWp.sR rfl (hPB _ rfl) fun K hK=>?_
   refine wC rfl fun K hK=>?_;simp [hN'];refine hK _ ?_;clear hK
   refine wN (hK _ ?_);clear hK
   refine SWp.block ?_
   refine SWp.loopO [] [2,5,6] [2,5] (fun v:Int=>⟨[(2,.ref (.box 2) 0 []),(5,.ref (.box 5) 0 []),(6,.t (vi v))],[(2,[.sl false 4 (List.map (GNode.enc false) p1.Nodes),.sl false 5 (List.map (GFn.enc false) p1.Fns)]),(5,[vs e3.Name,.sl false 2 (List.map GParam.enc e3.Params),vi e3.Res,vi e3.Body,vi e3.Ret])]⟩) (fF e3) _ 0 hj21 (by simp [hN']) ?_
   intro g s27 h25 ho26
   obtain ⟨k24,hg⟩:∃ y,y=g:=⟨_,rfl⟩
   subst hg
   simp only [fF] at h25
   try dsimp only
   refine SWp.seq ?_
   refine SWp.sR rfl (hPB _ rfl) fun K hK=>?_
   iterate 5 (refine wC rfl fun K hK=>?_;simp [hN'];refine hK _ ?_;clear hK)
   refine wN (hK _ ?_);clear hK
   rcases aA h25 with ⟨hb28,h25⟩ | ⟨hb29,h25⟩
   ·refine SWp.cT' (b:=decide (k24 < (e3.Params.length:Int))) (by simp) hb28 ?_
    refine SWp.skip ?_
    show SWp E C _ _ _
    refine SWp.seq ?_
    refine SWp.block ?_
    obtain ⟨v39,hj30,h25⟩:=bS h25
    refine SWp.seqRC rfl (hPB _ rfl) [2,5,6,60] [2,5] (fun _:Unit=>⟨[(2,.ref (.box 2) 0 []),(5,.ref (.box 5) 0 []),(6,.t (vi k24)),(60,.t (vb v39))],[(2,[.sl false 4 (List.map (GNode.enc false) p1.Nodes),.sl false 5 (List.map (GFn.enc false) p1.Fns)]),(5,[vs e3.Name,.sl false 2 (List.map GParam.enc e3.Params),vi e3.Res,vi e3.Body,vi e3.Ret])]⟩) (fun _=>True) (fun _ _=>?_) fun K31 hK31=>?_
    rotate_left
    ·refine wC rfl fun K hK=>?_;simp [hN'];refine hK _ ?_;clear hK
     iterate 2 (refine wC rfl fun K hK=>?_;simp [hN'];refine hK _ ?_;clear hK)
     obtain ⟨e32,he32,hj30⟩:=bS hj30
     obtain ⟨he32a,he32b,he32c,he32d⟩:=gS he32
     iterate 3 (refine wC rfl fun K hK=>?_;simp [hN',he32a,he32b,he32c,he32d];refine hK _ ?_;clear hK)
     obtain ⟨r33,hc34,hj30⟩:=bS hj30
     refine wL [(.take,.tmp 48)] rfl rfl ent87 (lJ _ hc34) fun K hK=>?_;simp [hN',he32a,he32b,he32c,he32d];refine hK _ ?_;clear hK
     iterate 2 (refine wC rfl fun K hK=>?_;simp [hN',he32a,he32b,he32c,he32d];refine hK _ ?_;clear hK)
     rcases aA hj30 with ⟨hb35,hj30⟩ | ⟨hb36,hj30⟩
     ·have hb35s:=hb35
      try simp at hb35s
      iterate 8 (refine wO fun K hK=>?_;simp [hN',he32a,he32b,he32c,he32d,hb35,hb35s];refine hK _ ?_;clear hK)
      refine wC rfl fun K hK=>?_;simp [hN',he32a,he32b,he32c,he32d,hb35,hb35s];refine hK _ ?_;clear hK
      refine wN ?_
      cases hj30
      exact hK31 _ () [] trivial (by simp [hN',he32a,he32b,he32c,he32d,hb35,hb35s])
     ·have hb36s:=hb36
      try simp at hb36s
      iterate 6 (refine wC rfl fun K hK=>?_;simp [hN',he32a,he32b,he32c,he32d,hb36,hb36s];refine hK _ ?_;clear hK)
      obtain ⟨r37,hc38,hj30⟩:=bS hj30
      refine wL [(.take,.tmp 57),(.take,.const (.int .i64 1)),(.take,.const (.int .i64 4))] rfl rfl mW (aK _ _ _ hc38) fun K hK=>?_;simp [hN',he32a,he32b,he32c,he32d,hb36,hb36s];refine hK _ ?_;clear hK
      iterate 2 (refine wC rfl fun K hK=>?_;simp [hN',he32a,he32b,he32c,he32d,hb36,hb36s];refine hK _ ?_;clear hK)
      refine wN ?_
      cases hj30
      exact hK31 _ () [] trivial (by simp [hN',he32a,he32b,he32c,he32d,hb36,hb36s])
    rcases aA h25 with ⟨hb40,h25⟩ | ⟨hb41,h25⟩
    ·refine SWp.cT' (b:=v39) (by simp) hb40 ?_
     refine SWp.sR rfl (hPB _ rfl) fun K hK=>?_
     refine wC rfl fun K hK=>?_;simp [hN'];refine hK _ ?_;clear hK
     refine wN (hK _ ?_);clear hK
     have h42:=congrArg some (ho26 _ (Option.some.inj h25).symm)
     cases h42
     try dsimp only at h
     cases h
     refine SWp.ret ?_
     simp [aC,iB,res56]
    ·refine SWp.cF' (b:=v39) (by simp) hb41 ?_
     refine SWp.skip ?_
     show SWp E C _ _ _
     refine SWp.reg rfl (hPB _ rfl) fun K hK=>?_
     iterate 3 (refine wC rfl fun K hK=>?_;simp [hN'];refine hK _ ?_;clear hK)
     refine wN (hK _ ?_);clear hK
     cases h25
     exact ⟨_,[],rfl,by simp [hN']⟩
   ·refine SWp.cF' (b:=decide (k24 < (e3.Params.length:Int))) (by simp) hb29 ?_
    refine SWp.exit ?_
    have h43:=congrArg some (ho26 _ (Option.some.inj h25).symm)
    cases h43
    exact hK22 _ _ [] rfl (by simp [hN'])
  subst hv
  obtain ⟨⟩:=v
  try dsimp only at h ⊢
  refine SWp.seq ?_
  obtain ⟨v51,hj44,h⟩:=bS h
  refine SWp.seqRC rfl (hPB _ rfl) [2,5,78] [2,5] (fun _:Unit=>⟨[(2,.ref (.box 2) 0 []),(5,.ref (.box 5) 0 []),(78,.t (vb v51))],[(2,[.sl false 4 (List.map (GNode.enc false) p1.Nodes),.sl false 5 (List.map (GFn.enc false) p1.Fns)]),(5,[vs e3.Name,.sl false 2 (List.map GParam.enc e3.Params),vi e3.Res,vi e3.Body,vi e3.Ret])]⟩) (fun _=>True) (fun _ _=>?_) fun K45 hK45=>?_
  rotate_left
  ·refine wC rfl fun K hK=>?_;simp [hN'];refine hK _ ?_;clear hK
   iterate 5 (refine wC rfl fun K hK=>?_;simp [hN'];refine hK _ ?_;clear hK)
   obtain ⟨r46,hc47,hj44⟩:=bS hj44
   refine wL [(.take,.tmp 62),(.take,.const (.int .i64 0)),(.take,.tmp 66)] rfl rfl mW (aK _ _ _ hc47) fun K hK=>?_;simp [hN'];refine hK _ ?_;clear hK
   iterate 2 (refine wC rfl fun K hK=>?_;simp [hN'];refine hK _ ?_;clear hK)
   rcases aA hj44 with ⟨hb48,hj44⟩ | ⟨hb49,hj44⟩
   ·have hb48s:=hb48
    try simp at hb48s
    iterate 8 (refine wO fun K hK=>?_;simp [hN',hb48,hb48s];refine hK _ ?_;clear hK)
    refine wC rfl fun K hK=>?_;simp [hN',hb48,hb48s];refine hK _ ?_;clear hK
    refine wN ?_
    cases hj44
    exact hK45 _ () [] trivial (by simp [hN',hb48,hb48s])
   ·have hb49s:=hb49
    try simp at hb49s
    iterate 4 (refine wC rfl fun K hK=>?_;simp [hN',hb49,hb49s];refine hK _ ?_;clear hK)
    obtain ⟨e50,he50,hj44⟩:=bS hj44
    obtain ⟨he50a,he50b,he50c,he50d⟩:=gS he50
    have he50j:=he50b;try simp at he50j
    try simp only [Int.toNat_natCast] at he50c he50d
    iterate 5 (refine wC rfl fun K hK=>?_;simp [hN',hb49,hb49s,he50a,he50b,he50c,he50d,he50j];refine hK _ ?_;clear hK)
    refine wN ?_
    cases hj44
    exact hK45 _ () [] trivial (by simp [hN',hb49,hb49s,he50a,he50b,he50c,he50d,he50j])
  rcases aA h with ⟨hb52,h⟩ | ⟨hb53,h⟩
  ·refine SWp.cT' (b:=v51) (by simp) hb52 ?_
   refine SWp.sR rfl (hPB _ rfl) fun K hK=>?_
   refine wC rfl fun K hK=>?_;simp [hN'];refine hK _ ?_;clear hK
   refine wN (hK _ ?_);clear hK
   cases h
   refine SWp.ret ?_
   simp [aC,iB,res56]
  ·refine SWp.cF' (b:=v51) (by simp) hb53 ?_
   refine SWp.skip ?_
   show SWp E C _ _ _
   refine SWp.seq ?_
   refine SWp.sR rfl (hPB _ rfl) fun K hK=>?_
   iterate 3 (refine wC rfl fun K hK=>?_;simp [hN'];refine hK _ ?_;clear hK)
   refine wN (hK _ ?_);clear hK
   rcases aA h with ⟨hb54,h⟩ | ⟨hb55,h⟩
   ·refine SWp.cT' (b:=e3.Res == 0) (by simp) hb54 ?_
    refine SWp.sR rfl (hPB _ rfl) fun K hK=>?_
    iterate 4 (refine wC rfl fun K hK=>?_;simp [hN'];refine hK _ ?_;clear hK)
    refine wN (hK _ ?_);clear hK
    cases h
    refine SWp.ret ?_
    simp [aC,iB,res56]
   ·refine SWp.cF' (b:=e3.Res == 0) (by simp) hb55 ?_
    refine SWp.skip ?_
    show SWp E C _ _ _
    obtain ⟨v65,hj56,h⟩:=bS h
    refine SWp.seqRC rfl (hPB _ rfl) [4] [] (fun _:Unit=>⟨[(4,.t (vb v65))],[]⟩) (fun _=>True) (fun _ _=>?_) fun K57 hK57=>?_
    rotate_left
    ·refine wC rfl fun K hK=>?_;simp [hN'];refine hK _ ?_;clear hK
     iterate 5 (refine wC rfl fun K hK=>?_;simp [hN'];refine hK _ ?_;clear hK)
     obtain ⟨r58,hc59,hj56⟩:=bS hj56
     refine wL [(.take,.tmp 86),(.take,.const (.int .i64 0)),(.take,.tmp 90)] rfl rfl mW (aK _ _ _ hc59) fun K hK=>?_;simp [hN'];refine hK _ ?_;clear hK
     refine wC rfl fun K hK=>?_;simp [hN'];refine hK _ ?_;clear hK
     rcases aA hj56 with ⟨hb60,hj56⟩ | ⟨hb61,hj56⟩
     ·have hb60s:=hb60
      try simp at hb60s
      iterate 4 (refine wC rfl fun K hK=>?_;simp [hN',hb60,hb60s];refine hK _ ?_;clear hK)
      obtain ⟨e62,he62,hj56⟩:=bS hj56
      obtain ⟨he62a,he62b,he62c,he62d⟩:=gS he62
      have he62j:=he62b;try simp at he62j
      try simp only [Int.toNat_natCast] at he62c he62d
      iterate 3 (refine wC rfl fun K hK=>?_;simp [hN',hb60,hb60s,he62a,he62b,he62c,he62d,he62j];refine hK _ ?_;clear hK)
      obtain ⟨r63,hc64,hj56⟩:=bS hj56
      refine wL [(.take,.tmp 99)] rfl rfl ent88 (jK _ hc64) fun K hK=>?_;simp [hN',hb60,hb60s,he62a,he62b,he62c,he62d,he62j];refine hK _ ?_;clear hK
      iterate 2 (refine wC rfl fun K hK=>?_;simp [hN',hb60,hb60s,he62a,he62b,he62c,he62d,he62j];refine hK _ ?_;clear hK)
      refine wN ?_
      cases hj56
      exact hK57 _ () [] trivial (by simp [hN',hb60,hb60s,he62a,he62b,he62c,he62d,he62j])
     ·have hb61s:=hb61
      try simp at hb61s
      iterate 8 (refine wO fun K hK=>?_;simp [hN',hb61,hb61s];refine hK _ ?_;clear hK)
      iterate 2 (refine wC rfl fun K hK=>?_;simp [hN',hb61,hb61s];refine hK _ ?_;clear hK)
      refine wN ?_
      cases hj56
      exact hK57 _ () [] trivial (by simp [hN',hb61,hb61s])
    cases h
    refine SWp.ret ?_
    simp [aC,iB,res56]
theorem res24:Tryz.f24.results.toList=[.tmp 2]:=rfl
theorem ent24:aE E.P 24:=eO Tryz.func24 (by simp [Tryz.f24]) rfl
theorem spec_ProgramOk_ok (p1:GProgram) {r0:Bool} (h:fW p1=some r0):Ok E 24 [.val (GProgram.enc false p1)] [vb r0] []:=by
 refine oB (fn:=Tryz.f24) Tryz.func24 rfl (by simp [Tryz.f24]) fun C hN hP=>?_
 have hPB:∀ l,pinK [] l=true→pinB C.pin l=true:=pO (by rw [hP];rfl)
 have hN':C.N=108:=hN
 clear hN
 unfold fW at h
 refine SWp.sR rfl (hPB _ rfl) fun K hK=>?_
 iterate 2 (refine wC rfl fun K hK=>?_;simp [hN'];refine hK _ ?_;clear hK)
 refine wN (hK _ ?_);clear hK
 refine SWp.seq ?_
 obtain ⟨v10,hj2,h⟩:=bS h
 refine SWp.seqRC rfl (hPB _ rfl) [1,18] [1] (fun _:Unit=>⟨[(1,.ref (.box 1) 0 []),(18,.t (vb v10))],[(1,[.sl false 4 (List.map (GNode.enc false) p1.Nodes),.sl false 5 (List.map (GFn.enc false) p1.Fns)])]⟩) (fun _=>True) (fun _ _=>?_) fun K3 hK3=>?_
 rotate_left
 ·refine wC rfl fun K hK=>?_;simp [hN'];refine hK _ ?_;clear hK
  iterate 2 (refine wC rfl fun K hK=>?_;simp [hN'];refine hK _ ?_;clear hK)
  obtain ⟨r4,hc5,hj2⟩:=bS hj2
  refine wL [(.take,.tmp 9),(.take,.const (.int .i64 1)),(.take,.const (.int .i64 300))] rfl rfl mW (aK _ _ _ hc5) fun K hK=>?_;simp [hN'];refine hK _ ?_;clear hK
  iterate 2 (refine wC rfl fun K hK=>?_;simp [hN'];refine hK _ ?_;clear hK)
  rcases aA hj2 with ⟨hb6,hj2⟩ | ⟨hb7,hj2⟩
  ·have hb6s:=hb6
   try simp at hb6s
   iterate 5 (refine wO fun K hK=>?_;simp [hN',hb6,hb6s];refine hK _ ?_;clear hK)
   refine wC rfl fun K hK=>?_;simp [hN',hb6,hb6s];refine hK _ ?_;clear hK
   refine wN ?_
   cases hj2
   exact hK3 _ () [] trivial (by simp [hN',hb6,hb6s])
  ·have hb7s:=hb7
   try simp at hb7s
   iterate 3 (refine wC rfl fun K hK=>?_;simp [hN',hb7,hb7s];refine hK _ ?_;clear hK)
   obtain ⟨r8,hc9,hj2⟩:=bS hj2
   refine wL [(.take,.tmp 15),(.take,.const (.int .i64 1)),(.take,.const (.int .i64 8))] rfl rfl mW (aK _ _ _ hc9) fun K hK=>?_;simp [hN',hb7,hb7s];refine hK _ ?_;clear hK
   iterate 2 (refine wC rfl fun K hK=>?_;simp [hN',hb7,hb7s];refine hK _ ?_;clear hK)
   refine wN ?_
   cases hj2
   exact hK3 _ () [] trivial (by simp [hN',hb7,hb7s])
 rcases aA h with ⟨hb11,h⟩ | ⟨hb12,h⟩
 ·refine SWp.cT' (b:=v10) (by simp) hb11 ?_
  refine SWp.sR rfl (hPB _ rfl) fun K hK=>?_
  refine wC rfl fun K hK=>?_;simp [hN'];refine hK _ ?_;clear hK
  refine wN (hK _ ?_);clear hK
  cases h
  refine SWp.ret ?_
  simp [aC,iB,res24]
 ·refine SWp.cF' (b:=v10) (by simp) hb12 ?_
  refine SWp.skip ?_
  show SWp E C _ _ _
  refine SWp.sR rfl (hPB _ rfl) fun K hK=>?_
  iterate 6 (refine wC rfl fun K hK=>?_;simp [hN'];refine hK _ ?_;clear hK)
  obtain ⟨r13,hc14,h⟩:=bS h
  refine wL [(.take,.tmp 20),(.take,.tmp 24)] rfl rfl ent54 (mY _ _ hc14) fun K hK=>?_;simp [hN'];refine hK _ ?_;clear hK
  refine wC rfl fun K hK=>?_;simp [hN'];refine hK _ ?_;clear hK
  refine wN (hK _ ?_);clear hK
  refine SWp.seq ?_
  refine SWp.sR rfl (hPB _ rfl) fun K hK=>?_
  iterate 4 (refine wC rfl fun K hK=>?_;simp [hN'];refine hK _ ?_;clear hK)
  obtain ⟨e15,he15,h⟩:=bS h
  obtain ⟨he15a,he15b,he15c,he15d⟩:=gS he15
  have he15j:=he15b;try simp at he15j
  try simp only [Int.toNat_natCast] at he15c he15d
  iterate 3 (refine wC rfl fun K hK=>?_;simp [hN',he15a,he15b,he15c,he15d,he15j];refine hK _ ?_;clear hK)
  refine wN (hK _ ?_);clear hK
  rcases aA h with ⟨hb16,h⟩ | ⟨hb17,h⟩
  ·refine SWp.cT' (b:=e15 == 0) (by simp) hb16 ?_
   refine SWp.sR rfl (hPB _ rfl) fun K hK=>?_
   refine wC rfl fun K hK=>?_;simp [hN'];refine hK _ ?_;clear hK
   refine wN (hK _ ?_);clear hK
   cases h
   refine SWp.ret ?_
   simp [aC,iB,res24]
  ·refine SWp.cF' (b:=e15 == 0) (by simp) hb17 ?_
   refine SWp.skip ?_
   show SWp E C _ _ _
   refine SWp.sR rfl (hPB _ rfl) fun K hK=>?_
   iterate 2 (refine wC rfl fun K hK=>?_;simp [hN'];refine hK _ ?_;clear hK)
   obtain ⟨r18,hc19,h⟩:=bS h
   refine wL [(.take,.tmp 34)] rfl rfl ent55 (spec_l04Used_ok _ hc19) fun K hK=>?_;simp [hN'];refine hK _ ?_;clear hK
   refine wC rfl fun K hK=>?_;simp [hN'];refine hK _ ?_;clear hK
   refine wN (hK _ ?_);clear hK
   obtain ⟨j22,hj20,h⟩:=bS h
   refine SWp.seqC [4] [] (fun v:List Int=>⟨[(4,.t (.sl true 1 (List.map vi v)))],[]⟩) (fun v=>j22=Sum.inl v) (fun v hv=>?_) fun K21 hK21=>?_
   rotate_left
   ·refine SWp.sR rfl (hPB _ rfl) fun K hK=>?_
    refine wC rfl fun K hK=>?_;simp [hN'];refine hK _ ?_;clear hK
    refine wN (hK _ ?_);clear hK
    refine SWp.block ?_
    refine SWp.loopO [] [1,4,5] [1] (fun v:(List Int) × Int=>⟨[(1,.ref (.box 1) 0 []),(4,.t (.sl true 1 (List.map vi v.1))),(5,.t (vi v.2))],[(1,[.sl false 4 (List.map (GNode.enc false) p1.Nodes),.sl false 5 (List.map (GFn.enc false) p1.Fns)])]⟩) (bB p1) _ (r18,0) hj20 (by simp [hN']) ?_
    intro g s27 h25 ho26
    obtain ⟨used23,i24⟩:=g
    simp only [bB] at h25
    try dsimp only
    refine SWp.seq ?_
    refine SWp.sR rfl (hPB _ rfl) fun K hK=>?_
    iterate 5 (refine wC rfl fun K hK=>?_;simp [hN'];refine hK _ ?_;clear hK)
    refine wN (hK _ ?_);clear hK
    rcases aA h25 with ⟨hb28,h25⟩ | ⟨hb29,h25⟩
    ·refine SWp.cT' (b:=decide (i24 < (p1.Fns.length:Int))) (by simp) hb28 ?_
     refine SWp.skip ?_
     show SWp E C _ _ _
     refine SWp.seq ?_
     refine SWp.block ?_
     refine SWp.seq ?_
     refine SWp.sR rfl (hPB _ rfl) fun K hK=>?_
     iterate 2 (refine wC rfl fun K hK=>?_;simp [hN'];refine hK _ ?_;clear hK)
     obtain ⟨r30,hc31,h25⟩:=bS h25
     refine wL [(.take,.tmp 43),(.take,.tmp 44)] rfl rfl ent56 (spec_l04Fn_ok _ _ hc31) fun K hK=>?_;simp [hN'];refine hK _ ?_;clear hK
     refine wC rfl fun K hK=>?_;simp [hN'];refine hK _ ?_;clear hK
     refine wN (hK _ ?_);clear hK
     rcases aA h25 with ⟨hb32,h25⟩ | ⟨hb33,h25⟩
     ·refine SWp.cT' (b:=!r30) (by simp) hb32 ?_
      refine SWp.sR rfl (hPB _ rfl) fun K hK=>?_
      refine wC rfl fun K hK=>?_;simp [hN'];refine hK _ ?_;clear hK
      refine wN (hK _ ?_);clear hK
      have h34:=congrArg some (ho26 _ (Option.some.inj h25).symm)
      cases h34
      try dsimp only at h
      cases h
      refine SWp.ret ?_
      simp [aC,iB,res24]
     ·refine SWp.cF' (b:=!r30) (by simp) hb33 ?_
      refine SWp.skip ?_
      show SWp E C _ _ _
      refine SWp.seq ?_
      obtain ⟨e36,he36,h25⟩:=bS h25
      obtain ⟨he36a,he36b,he36c,he36d⟩:=gS he36
      obtain ⟨e37,he37,h25⟩:=bS h25
      obtain ⟨he37a,he37b,he37c,he37d⟩:=gS he37
      have he37j:=he37b;try simp at he37j
      try simp only [Int.toNat_natCast] at he37c he37d
      refine SWp.dT rfl (hPB _ rfl) [(47,.al (.slot 4) 0 [] none),(48,.ref (.box 1) 1 []),(49,.t (.sl false 5 (List.map (GFn.enc false) p1.Fns))),(50,.t (vi i24)),(51,.rop [vs e36.Name,.sl false 2 (List.map GParam.enc e36.Params),vi e36.Res,vi e36.Body,vi e36.Ret] 0),(52,.rop [vs e36.Name,.sl false 2 (List.map GParam.enc e36.Params),vi e36.Res,vi e36.Body,vi e36.Ret] 3),(53,.t (vi e36.Body)),(54,.al (.slot 4) 0 [] none),(55,.ref (.box 1) 1 []),(56,.t (.sl false 5 (List.map (GFn.enc false) p1.Fns))),(57,.t (vi i24)),(58,.rop [vs e36.Name,.sl false 2 (List.map GParam.enc e36.Params),vi e36.Res,vi e36.Body,vi e36.Ret] 0),(59,.rop [vs e36.Name,.sl false 2 (List.map GParam.enc e36.Params),vi e36.Res,vi e36.Body,vi e36.Ret] 3),(60,.t (vi e36.Body)),(61,.ref (.slot 4) 0 [(e36.Body.toNat,0)]),(62,.t (vi e37)),(63,.t (vi (IntKind.wrap .i64 (e37 + 1000))))] [[],[],[1],[],[1,2,3],[1,2,3,4],[1,2,3,4,5],[],[],[8],[],[8,9,10],[8,9,10,11],[8,9,10,11,12],[7,8,9,10,11,12,13],[7,8,9,10,11,12,13,14],[7,8,9,10,11,12,13,14,15],[0,1,2,3,4,5,6,7,8,9,10,11,12,13,14,15,16],[0,1,2,3,4,5,6,7,8,9,10,11,12,13,14,15,16,17]] (by simp) (by simp) (by simp [look]) rfl rfl rfl ?_ fun K hK=>?_
      ·refine ⟨?_,?_,?_,?_,?_,?_,?_,?_,?_,?_,?_,?_,?_,?_,?_,?_,?_,trivial⟩
       all_goals (intro τ hbx hb hd hf K hK;try simp [vsAt] at hd;simp [vsAt] at hf;first | (refine wC rfl fun K' hK'=>?_;simp [hN',hbx,hb,hd,hf,he36a,he36b,he36c,he36d,he37a,he37b,he37c,he37d,he37j];exact hK' _ (wN (hK _ (by simp [vsAt,hbx,he36a,he36b,he36c,he36d,he37a,he37b,he37c,he37d,he37j])))))
      refine wC rfl fun K hK=>?_;simp [hN',he36a,he36b,he36c,he36d,he37a,he37b,he37c,he37d,he37j];refine hK _ ?_;clear hK
      obtain ⟨l38,hl38,h25⟩:=bZ h25
      have hl38f:(List.map vi used23).set e36.Body.toNat (vi (IntKind.wrap .i64 (e37 + 1000)))=List.map vi l38:=cE (f:=vi) hl38
      try simp only [Int.toNat_natCast] at hl38f
      refine wC rfl fun K hK=>?_;simp [hN',he36a,he36b,he36c,he36d,he37a,he37b,he37c,he37d,he37j,hl38f];refine hK _ ?_;clear hK
      refine wN (hK _ ?_);clear hK
      show SWp E C _ _ _
      refine SWp.sR rfl (hPB _ rfl) fun K hK=>?_
      iterate 3 (refine wC rfl fun K hK=>?_;simp [hN'];refine hK _ ?_;clear hK)
      obtain ⟨e39,he39,h25⟩:=bS h25
      obtain ⟨he39a,he39b,he39c,he39d⟩:=gS he39
      iterate 4 (refine wC rfl fun K hK=>?_;simp [hN',he39a,he39b,he39c,he39d];refine hK _ ?_;clear hK)
      refine wN (hK _ ?_);clear hK
      rcases aA h25 with ⟨hb40,h25⟩ | ⟨hb41,h25⟩
      ·refine SWp.cT' (b:=decide (e39.Ret ≥ 0)) (by simp) hb40 ?_
       obtain ⟨e43,he43,h25⟩:=bS h25
       obtain ⟨he43a,he43b,he43c,he43d⟩:=gS he43
       obtain ⟨e44,he44,h25⟩:=bS h25
       obtain ⟨he44a,he44b,he44c,he44d⟩:=gS he44
       have he44j:=he44b;try simp at he44j
       try simp only [Int.toNat_natCast] at he44c he44d
       refine SWp.dT rfl (hPB _ rfl) [(72,.al (.slot 4) 0 [] none),(73,.ref (.box 1) 1 []),(74,.t (.sl false 5 (List.map (GFn.enc false) p1.Fns))),(75,.t (vi i24)),(76,.rop [vs e43.Name,.sl false 2 (List.map GParam.enc e43.Params),vi e43.Res,vi e43.Body,vi e43.Ret] 0),(77,.rop [vs e43.Name,.sl false 2 (List.map GParam.enc e43.Params),vi e43.Res,vi e43.Body,vi e43.Ret] 4),(78,.t (vi e43.Ret)),(79,.al (.slot 4) 0 [] none),(80,.ref (.box 1) 1 []),(81,.t (.sl false 5 (List.map (GFn.enc false) p1.Fns))),(82,.t (vi i24)),(83,.rop [vs e43.Name,.sl false 2 (List.map GParam.enc e43.Params),vi e43.Res,vi e43.Body,vi e43.Ret] 0),(84,.rop [vs e43.Name,.sl false 2 (List.map GParam.enc e43.Params),vi e43.Res,vi e43.Body,vi e43.Ret] 4),(85,.t (vi e43.Ret)),(86,.ref (.slot 4) 0 [(e43.Ret.toNat,0)]),(87,.t (vi e44)),(88,.t (vi (IntKind.wrap .i64 (e44 + 1000))))] [[],[],[1],[],[1,2,3],[1,2,3,4],[1,2,3,4,5],[],[],[8],[],[8,9,10],[8,9,10,11],[8,9,10,11,12],[7,8,9,10,11,12,13],[7,8,9,10,11,12,13,14],[7,8,9,10,11,12,13,14,15],[0,1,2,3,4,5,6,7,8,9,10,11,12,13,14,15,16],[0,1,2,3,4,5,6,7,8,9,10,11,12,13,14,15,16,17]] (by simp) (by simp) (by simp [look]) rfl rfl rfl ?_ fun K hK=>?_
       ·refine ⟨?_,?_,?_,?_,?_,?_,?_,?_,?_,?_,?_,?_,?_,?_,?_,?_,?_,trivial⟩
        all_goals (intro τ hbx hb hd hf K hK;try simp [vsAt] at hd;simp [vsAt] at hf;first | (refine wC rfl fun K' hK'=>?_;simp [hN',hbx,hb,hd,hf,he43a,he43b,he43c,he43d,he44a,he44b,he44c,he44d,he44j];exact hK' _ (wN (hK _ (by simp [vsAt,hbx,he43a,he43b,he43c,he43d,he44a,he44b,he44c,he44d,he44j])))))
       refine wC rfl fun K hK=>?_;simp [hN',he43a,he43b,he43c,he43d,he44a,he44b,he44c,he44d,he44j];refine hK _ ?_;clear hK
       obtain ⟨l45,hl45,h25⟩:=bZ h25
       have hl45f:(List.map vi l38).set e43.Ret.toNat (vi (IntKind.wrap .i64 (e44 + 1000)))=List.map vi l45:=cE (f:=vi) hl45
       try simp only [Int.toNat_natCast] at hl45f
       refine wC rfl fun K hK=>?_;simp [hN',he43a,he43b,he43c,he43d,he44a,he44b,he44c,he44d,he44j,hl45f];refine hK _ ?_;clear hK
       refine wN (hK _ ?_);clear hK
       show SWp E C _ _ _
       refine SWp.reg rfl (hPB _ rfl) fun K hK=>?_
       iterate 3 (refine wC rfl fun K hK=>?_;simp [hN'];refine hK _ ?_;clear hK)
       refine wN (hK _ ?_);clear hK
       cases h25
       exact ⟨_,[],rfl,by simp [hN']⟩
      ·refine SWp.cF' (b:=decide (e39.Ret ≥ 0)) (by simp) hb41 ?_
       refine SWp.skip ?_
       show SWp E C _ _ _
       refine SWp.reg rfl (hPB _ rfl) fun K hK=>?_
       iterate 3 (refine wC rfl fun K hK=>?_;simp [hN'];refine hK _ ?_;clear hK)
       refine wN (hK _ ?_);clear hK
       cases h25
       exact ⟨_,[],rfl,by simp [hN']⟩
    ·refine SWp.cF' (b:=decide (i24 < (p1.Fns.length:Int))) (by simp) hb29 ?_
     refine SWp.exit ?_
     have h46:=congrArg some (ho26 _ (Option.some.inj h25).symm)
     cases h46
     exact hK21 _ _ [] rfl (by simp [hN'])
   subst hv
   obtain ⟨used47,hv⟩:∃ y,y=v:=⟨_,rfl⟩
   subst hv
   try dsimp only at h ⊢
   obtain ⟨j50,hj48,h⟩:=bS h
   refine SWp.seqC [] [] (fun v:Unit=>⟨[],[]⟩) (fun v=>j50=Sum.inl v) (fun v hv=>?_) fun K49 hK49=>?_
   rotate_left
   ·refine SWp.sR rfl (hPB _ rfl) fun K hK=>?_
    refine wC rfl fun K hK=>?_;simp [hN'];refine hK _ ?_;clear hK
    refine wN (hK _ ?_);clear hK
    refine SWp.block ?_
    refine SWp.loopO [] [4,6] [] (fun v:Int=>⟨[(4,.t (.sl true 1 (List.map vi used47))),(6,.t (vi v))],[]⟩) (cJ used47) _ 0 hj48 (by simp [hN']) ?_
    intro g s54 h52 ho53
    obtain ⟨i51,hg⟩:∃ y,y=g:=⟨_,rfl⟩
    subst hg
    simp only [cJ] at h52
    try dsimp only
    refine SWp.seq ?_
    refine SWp.sR rfl (hPB _ rfl) fun K hK=>?_
    iterate 4 (refine wC rfl fun K hK=>?_;simp [hN'];refine hK _ ?_;clear hK)
    refine wN (hK _ ?_);clear hK
    rcases aA h52 with ⟨hb55,h52⟩ | ⟨hb56,h52⟩
    ·refine SWp.cT' (b:=decide (i51 < (used47.length:Int))) (by simp) hb55 ?_
     refine SWp.skip ?_
     show SWp E C _ _ _
     refine SWp.seq ?_
     refine SWp.block ?_
     obtain ⟨v62,hj57,h52⟩:=bS h52
     refine SWp.seqRC rfl (hPB _ rfl) [4,6,107] [] (fun _:Unit=>⟨[(4,.t (.sl true 1 (List.map vi used47))),(6,.t (vi i51)),(107,.t (vb v62))],[]⟩) (fun _=>True) (fun _ _=>?_) fun K58 hK58=>?_
     rotate_left
     ·refine wC rfl fun K hK=>?_;simp [hN'];refine hK _ ?_;clear hK
      refine wC rfl fun K hK=>?_;simp [hN'];refine hK _ ?_;clear hK
      obtain ⟨e59,he59,hj57⟩:=bS hj57
      obtain ⟨he59a,he59b,he59c,he59d⟩:=gS he59
      iterate 4 (refine wC rfl fun K hK=>?_;simp [hN',he59a,he59b,he59c,he59d];refine hK _ ?_;clear hK)
      rcases aA hj57 with ⟨hb60,hj57⟩ | ⟨hb61,hj57⟩
      ·have hb60s:=hb60
       try simp at hb60s
       iterate 6 (refine wC rfl fun K hK=>?_;simp [hN',he59a,he59b,he59c,he59d,hb60,hb60s];refine hK _ ?_;clear hK)
       refine wN ?_
       cases hj57
       exact hK58 _ () [] trivial (by simp [hN',he59a,he59b,he59c,he59d,hb60,hb60s])
      ·have hb61s:=hb61
       try simp at hb61s
       iterate 5 (refine wO fun K hK=>?_;simp [hN',he59a,he59b,he59c,he59d,hb61,hb61s];refine hK _ ?_;clear hK)
       refine wC rfl fun K hK=>?_;simp [hN',he59a,he59b,he59c,he59d,hb61,hb61s];refine hK _ ?_;clear hK
       refine wN ?_
       cases hj57
       exact hK58 _ () [] trivial (by simp [hN',he59a,he59b,he59c,he59d,hb61,hb61s])
     rcases aA h52 with ⟨hb63,h52⟩ | ⟨hb64,h52⟩
     ·refine SWp.cT' (b:=v62) (by simp) hb63 ?_
      refine SWp.sR rfl (hPB _ rfl) fun K hK=>?_
      refine wC rfl fun K hK=>?_;simp [hN'];refine hK _ ?_;clear hK
      refine wN (hK _ ?_);clear hK
      have h65:=congrArg some (ho53 _ (Option.some.inj h52).symm)
      cases h65
      try dsimp only at h
      cases h
      refine SWp.ret ?_
      simp [aC,iB,res24]
     ·refine SWp.cF' (b:=v62) (by simp) hb64 ?_
      refine SWp.skip ?_
      show SWp E C _ _ _
      refine SWp.reg rfl (hPB _ rfl) fun K hK=>?_
      iterate 3 (refine wC rfl fun K hK=>?_;simp [hN'];refine hK _ ?_;clear hK)
      refine wN (hK _ ?_);clear hK
      cases h52
      exact ⟨_,[],rfl,by simp [hN']⟩
    ·refine SWp.cF' (b:=decide (i51 < (used47.length:Int))) (by simp) hb56 ?_
     refine SWp.exit ?_
     have h66:=congrArg some (ho53 _ (Option.some.inj h52).symm)
     cases h66
     exact hK49 _ _ [] rfl (by simp [hN'])
   subst hv
   obtain ⟨⟩:=v
   try dsimp only at h ⊢
   refine SWp.sR rfl (hPB _ rfl) fun K hK=>?_
   refine wC rfl fun K hK=>?_;simp [hN'];refine hK _ ?_;clear hK
   refine wN (hK _ ?_);clear hK
   cases h
   refine SWp.ret ?_
   simp [aC,iB,res24]
theorem res57:Tryz.f57.results.toList=[.tmp 2]:=rfl
theorem ent57:aE E.P 57:=eO Tryz.func57 (by simp [Tryz.f57]) rfl
theorem spec_l04Nodes_ok (nodes1:List GNode) {r0:List GNode} (h:gW nodes1=some r0):Ok E 57 [.val (.sl false 4 (List.map (GNode.enc false) nodes1))] [.sl true 4 (List.map (GNode.enc true) r0)] []:=by
 refine oB (fn:=Tryz.f57) Tryz.func57 rfl (by simp [Tryz.f57]) fun C hN hP=>?_
 have u:∀ l,pinK [] l=true→pinB C.pin l=true:=pO (by rw [hP];rfl)
 have y:C.N=27:=hN
 clear hN
 unfold gW at h
 refine SWp.sR rfl (u _ rfl) fun K q=>?_
 refine wC rfl fun K q=>?_;simp [y];refine q _ ?_;clear q
 refine wN (q _ ?_);clear q
 refine SWp.sR rfl (u _ rfl) fun K q=>?_
 iterate 2 (refine wC rfl fun K q=>?_;simp [y];refine q _ ?_;clear q)
 refine wN (q _ ?_);clear q
 obtain ⟨out16,hj2,h⟩:=bS h
 refine SWp.seqC [3] [] (fun _:Unit=>⟨[(3,.t (.sl true 4 (List.map (GNode.enc true) out16)))],[]⟩) (fun _=>True) (fun _ _=>?_) fun K3 hK3=>?_
 rotate_left
 ·refine SWp.sR rfl (u _ rfl) fun K q=>?_
  refine wC rfl fun K q=>?_;simp [y];refine q _ ?_;clear q
  refine wN (q _ ?_);clear q
  refine SWp.block ?_
  refine SWp.loopO [] [0,3,4] [] (fun v:(List GNode) × Int=>⟨[(0,.t (.sl false 4 (List.map (GNode.enc false) nodes1))),(3,.t (.sl true 4 (List.map (GNode.enc true) v.1))),(4,.t (vi v.2))],[]⟩) (cY nodes1) _ ([],0) hj2 (by simp [y]) ?_
  intro g s9 h7 ho8
  obtain ⟨out5,i6⟩:=g
  simp only [cY] at h7
  try dsimp only
  refine SWp.seq ?_
  refine SWp.sR rfl (u _ rfl) fun K q=>?_
  iterate 4 (refine wC rfl fun K q=>?_;simp [y];refine q _ ?_;clear q)
  refine wN (q _ ?_);clear q
  rcases aA h7 with ⟨hb10,h7⟩ | ⟨hb11,h7⟩
  ·refine SWp.cT' (b:=decide (i6 < (nodes1.length:Int))) (by simp) hb10 ?_
   refine SWp.skip ?_
   show SWp E C _ _ _
   refine SWp.seq ?_
   refine SWp.block ?_
   refine SWp.sR rfl (u _ rfl) fun K q=>?_
   iterate 2 (refine wC rfl fun K q=>?_;simp [y];refine q _ ?_;clear q)
   obtain ⟨e12,he12,h7⟩:=bS h7
   obtain ⟨he12a,he12b,he12c,he12d⟩:=gS he12
   iterate 4 (refine wC rfl fun K q=>?_;simp [y,he12a,he12b,he12c,he12d];refine q _ ?_;clear q)
   refine wN (q _ ?_);clear q
   refine SWp.sR rfl (u _ rfl) fun K q=>?_
   iterate 3 (refine wC rfl fun K q=>?_;simp [y];refine q _ ?_;clear q)
   obtain ⟨l13,hl13,h7⟩:=bS h7
   obtain ⟨hl13a,hl13b,hl13d⟩:=aS hl13
   simp [eSl] at hl13a hl13b
   iterate 3 (refine wC rfl fun K q=>?_;simp [y,hl13a,hl13b];refine q _ ?_;clear q)
   refine wN (q _ ?_);clear q
   refine SWp.reg rfl (u _ rfl) fun K q=>?_
   iterate 3 (refine wC rfl fun K q=>?_;simp [y];refine q _ ?_;clear q)
   obtain ⟨l14,hl14,h7⟩:=bS h7
   obtain ⟨hl14a,hl14b,hl14d⟩:=aS hl14
   have hl14f:List.map (GNode.enc true) out5 ++ List.map (GNode.enc true) [(⟨e12.Kind,e12.Num,e12.Name,e12.Kids⟩:GNode)]=List.map (GNode.enc true) l14:=cC (f:=(GNode.enc true)) hl14d
   simp [eSl,GNode.enc] at hl14a hl14b hl14f
   iterate 2 (refine wC rfl fun K q=>?_;simp [y,hl14a,hl14b,hl14f];refine q _ ?_;clear q)
   refine wN (q _ ?_);clear q
   show SWp E C _ _ _
   refine SWp.reg rfl (u _ rfl) fun K q=>?_
   iterate 3 (refine wC rfl fun K q=>?_;simp [y];refine q _ ?_;clear q)
   refine wN (q _ ?_);clear q
   cases h7
   exact ⟨_,[],rfl,by simp [y]⟩
  ·refine SWp.cF' (b:=decide (i6 < (nodes1.length:Int))) (by simp) hb11 ?_
   refine SWp.exit ?_
   have h15:=congrArg some (ho8 _ (Option.some.inj h7).symm)
   cases h15
   exact hK3 _ () [] trivial (by simp [y])
 refine SWp.sR rfl (u _ rfl) fun K q=>?_
 iterate 2 (refine wC rfl fun K q=>?_;simp [y];refine q _ ?_;clear q)
 refine wN (q _ ?_);clear q
 cases h
 refine SWp.ret ?_
 simp [aC,iB,res57]
theorem res25:Tryz.f25.results.toList=[.cell 2 31]:=rfl
theorem ent25:aE E.P 25:=eO Tryz.func25 (by simp [Tryz.f25]) rfl
theorem nK (p1:GProgram) {r0:GProgram} (h:gN p1=some r0):Ok E 25 [.val (GProgram.enc false p1)] [GProgram.enc true r0] []:=by
 refine oB (fn:=Tryz.f25) Tryz.func25 rfl (by simp [Tryz.f25]) fun C hN hP=>?_
 have u:∀ l,pinK [] l=true→pinB C.pin l=true:=pO (by rw [hP];rfl)
 have y:C.N=34:=hN
 clear hN
 unfold gN at h
 refine SWp.sR rfl (u _ rfl) fun K q=>?_
 iterate 2 (refine wC rfl fun K q=>?_;simp [y];refine q _ ?_;clear q)
 refine wN (q _ ?_);clear q
 refine SWp.sR rfl (u _ rfl) fun K q=>?_
 iterate 2 (refine wC rfl fun K q=>?_;simp [y];refine q _ ?_;clear q)
 obtain ⟨r2,hc3,h⟩:=bS h
 refine wL [(.take,.tmp 7)] rfl rfl ent57 (spec_l04Nodes_ok _ hc3) fun K q=>?_;simp [y];refine q _ ?_;clear q
 iterate 3 (refine wC rfl fun K q=>?_;simp [y];refine q _ ?_;clear q)
 refine wN (q _ ?_);clear q
 obtain ⟨v18,hj4,h⟩:=bS h
 refine SWp.seqC [2,3] [2,3] (fun _:Unit=>⟨[(2,.ref (.box 2) 0 []),(3,.ref (.box 3) 0 [])],[(2,[.sl true 4 [],.sl true 5 []]),(3,[.sl true 4 (List.map (GNode.enc true) v18.Nodes),.sl true 5 (List.map (GFn.enc true) v18.Fns)])]⟩) (fun _=>True) (fun _ _=>?_) fun K5 hK5=>?_
 rotate_left
 ·refine SWp.sR rfl (u _ rfl) fun K q=>?_
  refine wC rfl fun K q=>?_;simp [y];refine q _ ?_;clear q
  refine wN (q _ ?_);clear q
  refine SWp.block ?_
  refine SWp.loopO [] [1,2,3,4] [1,2,3] (fun v:Int × GProgram=>⟨[(1,.ref (.box 1) 0 []),(2,.ref (.box 2) 0 []),(3,.ref (.box 3) 0 []),(4,.t (vi v.1))],[(1,[.sl false 4 (List.map (GNode.enc false) p1.Nodes),.sl false 5 (List.map (GFn.enc false) p1.Fns)]),(2,[.sl true 4 [],.sl true 5 []]),(3,[.sl true 4 (List.map (GNode.enc true) v.2.Nodes),.sl true 5 (List.map (GFn.enc true) v.2.Fns)])]⟩) (dX p1) _ (0,(⟨r2,[]⟩:GProgram)) hj4 (by simp [y]) ?_
  intro g s11 h9 ho10
  obtain ⟨i7,v8⟩:=g
  simp only [dX] at h9
  try dsimp only
  refine SWp.seq ?_
  refine SWp.sR rfl (u _ rfl) fun K q=>?_
  iterate 5 (refine wC rfl fun K q=>?_;simp [y];refine q _ ?_;clear q)
  refine wN (q _ ?_);clear q
  rcases aA h9 with ⟨hb12,h9⟩ | ⟨hb13,h9⟩
  ·refine SWp.cT' (b:=decide (i7 < (p1.Fns.length:Int))) (by simp) hb12 ?_
   refine SWp.skip ?_
   show SWp E C _ _ _
   refine SWp.seq ?_
   refine SWp.block ?_
   refine SWp.sR rfl (u _ rfl) fun K q=>?_
   iterate 3 (refine wC rfl fun K q=>?_;simp [y];refine q _ ?_;clear q)
   obtain ⟨e14,he14,h9⟩:=bS h9
   obtain ⟨he14a,he14b,he14c,he14d⟩:=gS he14
   iterate 4 (refine wC rfl fun K q=>?_;simp [y,he14a,he14b,he14c,he14d];refine q _ ?_;clear q)
   refine wN (q _ ?_);clear q
   refine SWp.sR rfl (u _ rfl) fun K q=>?_
   iterate 3 (refine wC rfl fun K q=>?_;simp [y];refine q _ ?_;clear q)
   obtain ⟨l15,hl15,h9⟩:=bS h9
   obtain ⟨hl15a,hl15b,hl15d⟩:=aS hl15
   simp [eSl,GParam.enc] at hl15a hl15b
   iterate 3 (refine wC rfl fun K q=>?_;simp [y,hl15a,hl15b];refine q _ ?_;clear q)
   refine wN (q _ ?_);clear q
   refine SWp.reg rfl (u _ rfl) fun K q=>?_
   iterate 4 (refine wC rfl fun K q=>?_;simp [y];refine q _ ?_;clear q)
   obtain ⟨l16,hl16,h9⟩:=bS h9
   obtain ⟨hl16a,hl16b,hl16d⟩:=aS hl16
   have hl16f:List.map (GFn.enc true) v8.Fns ++ List.map (GFn.enc true) [(⟨e14.Name,e14.Params,e14.Res,e14.Body,e14.Ret⟩:GFn)]=List.map (GFn.enc true) l16:=cC (f:=(GFn.enc true)) hl16d
   simp [eSl,GFn.enc] at hl16a hl16b hl16f
   iterate 3 (refine wC rfl fun K q=>?_;simp [y,hl16a,hl16b,hl16f];refine q _ ?_;clear q)
   refine wN (q _ ?_);clear q
   show SWp E C _ _ _
   refine SWp.reg rfl (u _ rfl) fun K q=>?_
   iterate 3 (refine wC rfl fun K q=>?_;simp [y];refine q _ ?_;clear q)
   refine wN (q _ ?_);clear q
   cases h9
   exact ⟨_,[],rfl,by simp [y]⟩
  ·refine SWp.cF' (b:=decide (i7 < (p1.Fns.length:Int))) (by simp) hb13 ?_
   refine SWp.exit ?_
   have h17:=congrArg some (ho10 _ (Option.some.inj h9).symm)
   cases h17
   exact hK5 _ () [] trivial (by simp [y])
 refine SWp.sR rfl (u _ rfl) fun K q=>?_
 iterate 2 (refine wC rfl fun K q=>?_;simp [y];refine q _ ?_;clear q)
 refine wN (q _ ?_);clear q
 cases h
 refine SWp.ret ?_
 simp [aC,iB,res25]
theorem res95:Tryz.f95.results.toList=[.tmp 4]:=rfl
theorem ent95:aE E.P 95:=eO Tryz.func95 (by simp [Tryz.f95]) rfl
theorem spec_DeepOf_ok (nodes1:List GNode) (k2:Int) {r0:Int} (h:kG nodes1 k2=some r0):Ok E 95 [.val (.sl false 4 (List.map (GNode.enc false) nodes1)),.val (vi k2)] [vi r0] []:=by
 refine oB (fn:=Tryz.f95) Tryz.func95 rfl (by simp [Tryz.f95]) fun C hN hP=>?_
 have u:∀ l,pinK [] l=true→pinB C.pin l=true:=pO (by rw [hP];rfl)
 have y:C.N=17:=hN
 clear hN
 unfold kG at h
 refine SWp.sR rfl (u _ rfl) fun K q=>?_
 refine wC rfl fun K q=>?_;simp [y];refine q _ ?_;clear q
 refine wN (q _ ?_);clear q
 refine SWp.seq ?_
 refine SWp.sR rfl (u _ rfl) fun K q=>?_
 iterate 4 (refine wC rfl fun K q=>?_;simp [y];refine q _ ?_;clear q)
 obtain ⟨r3,hc4,h⟩:=bS h
 refine wL [(.take,.tmp 5),(.take,.const (.int .i64 0)),(.take,.tmp 8)] rfl rfl mW (aK _ _ _ hc4) fun K q=>?_;simp [y];refine q _ ?_;clear q
 refine wC rfl fun K q=>?_;simp [y];refine q _ ?_;clear q
 refine wN (q _ ?_);clear q
 rcases aA h with ⟨hb5,h⟩ | ⟨hb6,h⟩
 ·refine SWp.cT' (b:=!r3) (by simp) hb5 ?_
  refine SWp.sR rfl (u _ rfl) fun K q=>?_
  refine wC rfl fun K q=>?_;simp [y];refine q _ ?_;clear q
  refine wN (q _ ?_);clear q
  cases h
  refine SWp.ret ?_
  simp [aC,iB,res95]
 ·refine SWp.cF' (b:=!r3) (by simp) hb6 ?_
  refine SWp.skip ?_
  show SWp E C _ _ _
  refine SWp.sR rfl (u _ rfl) fun K q=>?_
  iterate 2 (refine wC rfl fun K q=>?_;simp [y];refine q _ ?_;clear q)
  obtain ⟨r7,hc8,h⟩:=bS h
  refine wL [(.take,.tmp 11),(.take,.tmp 12)] rfl rfl ent54 (mY _ _ hc8) fun K q=>?_;simp [y];refine q _ ?_;clear q
  refine wC rfl fun K q=>?_;simp [y];refine q _ ?_;clear q
  obtain ⟨e9,he9,h⟩:=bS h
  obtain ⟨he9a,he9b,he9c,he9d⟩:=gS he9
  iterate 3 (refine wC rfl fun K q=>?_;simp [y,he9a,he9b,he9c,he9d];refine q _ ?_;clear q)
  refine wN (q _ ?_);clear q
  cases h
  refine SWp.ret ?_
  simp [aC,iB,res95]
theorem res96:Tryz.f96.results.toList=[]:=rfl
theorem ent96:aE E.P 96:=eO Tryz.func96 (by simp [Tryz.f96]) rfl
theorem spec_l04Mark_b_ok (rec_spec_l04Mark:(List GNode)→Int→(List Bool)→Option (List Bool)) (hrec_spec_l04Mark:∀ (a0:List GNode) (a1:Int) (a2:List Bool) {q2:List Bool},rec_spec_l04Mark a0 a1 a2=some q2→OkIO E 96 [.val (.sl false 4 (List.map (GNode.enc false) a0)),.val (vi a1),.val (.sl true 1 (List.map vb a2))] [] [] [(2,.sl true 1 (List.map vb q2))]) (nodes1:List GNode) (k2:Int) (seen3:List Bool) {q2:List Bool} (h:fU rec_spec_l04Mark nodes1 k2 seen3=some q2):OkIO E 96 [.val (.sl false 4 (List.map (GNode.enc false) nodes1)),.val (vi k2),.val (.sl true 1 (List.map vb seen3))] [] [] [(2,.sl true 1 (List.map vb q2))]:=by
 refine fC (fn:=Tryz.f96) [(2,.sl true 1 (List.map vb q2))] Tryz.func96 rfl (by simp [Tryz.f96]) rfl fun C hN hP=>?_
 have u:∀ l,pinK [2] l=true→pinB C.pin l=true:=pO (by rw [hP];rfl)
 have y:C.N=35:=hN
 clear hN
 unfold fU at h
 refine SWp.seq ?_
 refine SWp.sR rfl (u _ rfl) fun K q=>?_
 iterate 2 (refine wC rfl fun K q=>?_;simp [y];refine q _ ?_;clear q)
 obtain ⟨e4,he4,h⟩:=bS h
 obtain ⟨he4a,he4b,he4c,he4d⟩:=gS he4
 iterate 2 (refine wC rfl fun K q=>?_;simp [y,he4a,he4b,he4c,he4d];refine q _ ?_;clear q)
 refine wN (q _ ?_);clear q
 rcases aA h with ⟨hb5,h⟩ | ⟨hb6,h⟩
 ·refine SWp.cT' (b:=e4) (by simp) hb5 ?_
  cases h
  refine SWp.ret ?_
  simp [aC,iB,res96]
 ·refine SWp.cF' (b:=e4) (by simp) hb6 ?_
  refine SWp.skip ?_
  show SWp E C _ _ _
  refine SWp.sR rfl (u _ rfl) fun K q=>?_
  iterate 2 (refine wC rfl fun K q=>?_;simp [y];refine q _ ?_;clear q)
  obtain ⟨e7,he7,h⟩:=bS h
  obtain ⟨he7a,he7b,he7c,he7d⟩:=gS he7
  refine wC rfl fun K q=>?_;simp [y,he7a,he7b,he7c,he7d];refine q _ ?_;clear q
  obtain ⟨l8,hl8,h⟩:=bZ h
  have hl8f:(List.map vb seen3).set k2.toNat (vb true)=List.map vb l8:=cE (f:=vb) hl8
  try simp only [Int.toNat_natCast] at hl8f
  refine wC rfl fun K q=>?_;simp [y,he7a,he7b,he7c,he7d,hl8f];refine q _ ?_;clear q
  refine wN (q _ ?_);clear q
  refine SWp.sR rfl (u _ rfl) fun K q=>?_
  refine wC rfl fun K q=>?_;simp [y];refine q _ ?_;clear q
  refine wN (q _ ?_);clear q
  refine SWp.block ?_
  refine SWp.loopO [] [0,1,2,6] [] (fun v:(List Bool) × Int=>⟨[(0,.t (.sl false 4 (List.map (GNode.enc false) nodes1))),(1,.t (vi k2)),(2,.t (.sl true 1 (List.map vb v.1))),(6,.t (vi v.2))],[]⟩) (dW rec_spec_l04Mark nodes1 k2) _ (l8,0) h (by simp [y]) ?_
  intro g s13 h11 ho12
  obtain ⟨seen9,i10⟩:=g
  simp only [dW] at h11
  try dsimp only
  refine SWp.seq ?_
  refine SWp.sR rfl (u _ rfl) fun K q=>?_
  iterate 3 (refine wC rfl fun K q=>?_;simp [y];refine q _ ?_;clear q)
  obtain ⟨e14,he14,h11⟩:=bS h11
  obtain ⟨he14a,he14b,he14c,he14d⟩:=gS he14
  iterate 5 (refine wC rfl fun K q=>?_;simp [y,he14a,he14b,he14c,he14d];refine q _ ?_;clear q)
  refine wN (q _ ?_);clear q
  rcases aA h11 with ⟨hb15,h11⟩ | ⟨hb16,h11⟩
  ·refine SWp.cT' (b:=decide (i10 < (e14.Kids.length:Int))) (by simp) hb15 ?_
   refine SWp.skip ?_
   show SWp E C _ _ _
   refine SWp.seq ?_
   refine SWp.block ?_
   refine SWp.reg rfl (u _ rfl) fun K q=>?_
   iterate 3 (refine wC rfl fun K q=>?_;simp [y];refine q _ ?_;clear q)
   obtain ⟨e17,he17,h11⟩:=bS h11
   obtain ⟨he17a,he17b,he17c,he17d⟩:=gS he17
   iterate 4 (refine wC rfl fun K q=>?_;simp [y,he17a,he17b,he17c,he17d];refine q _ ?_;clear q)
   obtain ⟨e18,he18,h11⟩:=bS h11
   obtain ⟨he18a,he18b,he18c,he18d⟩:=gS he18
   iterate 3 (refine wC rfl fun K q=>?_;simp [y,he17a,he17b,he17c,he17d,he18a,he18b,he18c,he18d];refine q _ ?_;clear q)
   obtain ⟨q19,hc20,h11⟩:=bS h11
   refine pL [.tmp 24,.tmp 32] rfl ent96 (hrec_spec_l04Mark _ _ _ hc20) fun K q=>?_;simp [y,he17a,he17b,he17c,he17d,he18a,he18b,he18c,he18d];refine q _ ?_;clear q
   refine wN (q _ ?_);clear q
   show SWp E C _ _ _
   refine SWp.reg rfl (u _ rfl) fun K q=>?_
   iterate 3 (refine wC rfl fun K q=>?_;simp [y];refine q _ ?_;clear q)
   refine wN (q _ ?_);clear q
   cases h11
   exact ⟨_,[],rfl,by simp [y]⟩
  ·refine SWp.cF' (b:=decide (i10 < (e14.Kids.length:Int))) (by simp) hb16 ?_
   refine SWp.exit ?_
   have h21:=congrArg some (ho12 _ (Option.some.inj h11).symm)
   cases h21
   simp [aC,iB,res96]
theorem kD:∀ n:Nat,(∀ (a0:List GNode) (a1:Int) (a2:List Bool) {q2:List Bool},(bW n) a0 a1 a2=some q2→OkIO E 96 [.val (.sl false 4 (List.map (GNode.enc false) a0)),.val (vi a1),.val (.sl true 1 (List.map vb a2))] [] [] [(2,.sl true 1 (List.map vb q2))])
 | 0=>(by intros;rename_i h;cases h)
 | n + 1=>spec_l04Mark_b_ok (bW n) (kD n)
theorem spec_l04Mark_ok:∀ (a0:List GNode) (a1:Int) (a2:List Bool) {q2:List Bool},nJ a0 a1 a2=some q2→OkIO E 96 [.val (.sl false 4 (List.map (GNode.enc false) a0)),.val (vi a1),.val (.sl true 1 (List.map vb a2))] [] [] [(2,.sl true 1 (List.map vb q2))]:=(kD dN)
theorem res74:Tryz.f74.results.toList=[.tmp 4]:=rfl
theorem ent74:aE E.P 74:=eO Tryz.func74 (by simp [Tryz.f74]) rfl
theorem pW (p1:GProgram) (k2:Int) {r0:List Int} (h:jW p1 k2=some r0):Ok E 74 [.val (GProgram.enc false p1),.val (vi k2)] [.sl true 1 (List.map vi r0)] []:=by
 refine oB (fn:=Tryz.f74) Tryz.func74 rfl (by simp [Tryz.f74]) fun C hN hP=>?_
 have u:∀ l,pinK [] l=true→pinB C.pin l=true:=pO (by rw [hP];rfl)
 have y:C.N=39:=hN
 clear hN
 unfold jW at h
 refine SWp.sR rfl (u _ rfl) fun K q=>?_
 iterate 2 (refine wC rfl fun K q=>?_;simp [y];refine q _ ?_;clear q)
 refine wN (q _ ?_);clear q
 refine SWp.sR rfl (u _ rfl) fun K q=>?_
 iterate 2 (refine wC rfl fun K q=>?_;simp [y];refine q _ ?_;clear q)
 refine wN (q _ ?_);clear q
 refine SWp.seq ?_
 refine SWp.sR rfl (u _ rfl) fun K q=>?_
 iterate 3 (refine wC rfl fun K q=>?_;simp [y];refine q _ ?_;clear q)
 obtain ⟨r3,hc4,h⟩:=bS h
 refine wL [(.take,.tmp 10),(.take,.tmp 11)] rfl rfl ent95 (spec_DeepOf_ok _ _ hc4) fun K q=>?_;simp [y];refine q _ ?_;clear q
 refine wC rfl fun K q=>?_;simp [y];refine q _ ?_;clear q
 refine wN (q _ ?_);clear q
 rcases aA h with ⟨hb5,h⟩ | ⟨hb6,h⟩
 ·refine SWp.cT' (b:=r3 == 0) (by simp) hb5 ?_
  refine SWp.sR rfl (u _ rfl) fun K q=>?_
  iterate 2 (refine wC rfl fun K q=>?_;simp [y];refine q _ ?_;clear q)
  refine wN (q _ ?_);clear q
  cases h
  refine SWp.ret ?_
  simp [aC,iB,res74]
 ·refine SWp.cF' (b:=r3 == 0) (by simp) hb6 ?_
  refine SWp.skip ?_
  show SWp E C _ _ _
  refine SWp.sR rfl (u _ rfl) fun K q=>?_
  iterate 3 (refine wC rfl fun K q=>?_;simp [y];refine q _ ?_;clear q)
  obtain ⟨l7,hl7,h⟩:=bS h
  obtain ⟨hl7a,hl7b,hl7c,hl7d⟩:=mS hl7
  have hl7f:List.replicate (p1.Nodes.length:Int).toNat (vb false)=List.map vb l7:=nO (f:=vb) hl7d
  try simp only [Int.toNat_natCast] at hl7f
  iterate 2 (refine wC rfl fun K q=>?_;simp [y,hl7a,hl7b,hl7c,hl7f];refine q _ ?_;clear q)
  refine wN (q _ ?_);clear q
  refine SWp.sR rfl (u _ rfl) fun K q=>?_
  iterate 4 (refine wC rfl fun K q=>?_;simp [y];refine q _ ?_;clear q)
  obtain ⟨q8,hc9,h⟩:=bS h
  refine pL [.tmp 20,.tmp 21] rfl ent96 (spec_l04Mark_ok _ _ _ hc9) fun K q=>?_;simp [y];refine q _ ?_;clear q
  refine wN (q _ ?_);clear q
  obtain ⟨out25,hj10,h⟩:=bS h
  refine SWp.seqC [5] [] (fun _:Unit=>⟨[(5,.t (.sl true 1 (List.map vi out25)))],[]⟩) (fun _=>True) (fun _ _=>?_) fun K11 hK11=>?_
  rotate_left
  ·refine SWp.sR rfl (u _ rfl) fun K q=>?_
   refine wC rfl fun K q=>?_;simp [y];refine q _ ?_;clear q
   refine wN (q _ ?_);clear q
   refine SWp.block ?_
   refine SWp.loopO [] [5,6,7] [] (fun v:(List Int) × Int=>⟨[(5,.t (.sl true 1 (List.map vi v.1))),(6,.t (.sl true 1 (List.map vb q8))),(7,.t (vi v.2))],[]⟩) (fH q8) _ ([],0) hj10 (by simp [y]) ?_
   intro g s17 h15 ho16
   obtain ⟨out13,i14⟩:=g
   simp only [fH] at h15
   try dsimp only
   refine SWp.seq ?_
   refine SWp.sR rfl (u _ rfl) fun K q=>?_
   iterate 4 (refine wC rfl fun K q=>?_;simp [y];refine q _ ?_;clear q)
   refine wN (q _ ?_);clear q
   rcases aA h15 with ⟨hb18,h15⟩ | ⟨hb19,h15⟩
   ·refine SWp.cT' (b:=decide (i14 < (q8.length:Int))) (by simp) hb18 ?_
    refine SWp.skip ?_
    show SWp E C _ _ _
    refine SWp.seq ?_
    refine SWp.block ?_
    refine SWp.sR rfl (u _ rfl) fun K q=>?_
    iterate 2 (refine wC rfl fun K q=>?_;simp [y];refine q _ ?_;clear q)
    obtain ⟨e20,he20,h15⟩:=bS h15
    obtain ⟨he20a,he20b,he20c,he20d⟩:=gS he20
    iterate 2 (refine wC rfl fun K q=>?_;simp [y,he20a,he20b,he20c,he20d];refine q _ ?_;clear q)
    refine wN (q _ ?_);clear q
    rcases aA h15 with ⟨hb21,h15⟩ | ⟨hb22,h15⟩
    ·refine SWp.cT' (b:=e20) (by simp) hb21 ?_
     refine SWp.reg rfl (u _ rfl) fun K q=>?_
     iterate 3 (refine wC rfl fun K q=>?_;simp [y];refine q _ ?_;clear q)
     obtain ⟨l23,hl23,h15⟩:=bS h15
     obtain ⟨hl23a,hl23b,hl23d⟩:=aS hl23
     have hl23f:List.map vi out13 ++ List.map vi [i14]=List.map vi l23:=cC (f:=vi) hl23d
     simp [eSl] at hl23a hl23b hl23f
     iterate 2 (refine wC rfl fun K q=>?_;simp [y,hl23a,hl23b,hl23f];refine q _ ?_;clear q)
     refine wN (q _ ?_);clear q
     show SWp E C _ _ _
     refine SWp.reg rfl (u _ rfl) fun K q=>?_
     iterate 3 (refine wC rfl fun K q=>?_;simp [y];refine q _ ?_;clear q)
     refine wN (q _ ?_);clear q
     cases h15
     exact ⟨_,[],rfl,by simp [y]⟩
    ·refine SWp.cF' (b:=e20) (by simp) hb22 ?_
     refine SWp.skip ?_
     show SWp E C _ _ _
     refine SWp.reg rfl (u _ rfl) fun K q=>?_
     iterate 3 (refine wC rfl fun K q=>?_;simp [y];refine q _ ?_;clear q)
     refine wN (q _ ?_);clear q
     cases h15
     exact ⟨_,[],rfl,by simp [y]⟩
   ·refine SWp.cF' (b:=decide (i14 < (q8.length:Int))) (by simp) hb19 ?_
    refine SWp.exit ?_
    have h24:=congrArg some (ho16 _ (Option.some.inj h15).symm)
    cases h24
    exact hK11 _ () [] trivial (by simp [y])
  refine SWp.sR rfl (u _ rfl) fun K q=>?_
  iterate 2 (refine wC rfl fun K q=>?_;simp [y];refine q _ ?_;clear q)
  refine wN (q _ ?_);clear q
  cases h
  refine SWp.ret ?_
  simp [aC,iB,res74]
theorem res43:Tryz.f43.results.toList=[.tmp 4]:=rfl
theorem ent43:aE E.P 43:=eO Tryz.func43 (by simp [Tryz.f43]) rfl
theorem spec_l07All_ok (p1:GProgram) (fn2:Int) {r0:List Int} (h:kB p1 fn2=some r0):Ok E 43 [.val (GProgram.enc false p1),.val (vi fn2)] [.sl true 1 (List.map vi r0)] []:=by
 refine oB (fn:=Tryz.f43) Tryz.func43 rfl (by simp [Tryz.f43]) fun C hN hP=>?_
 have u:∀ l,pinK [] l=true→pinB C.pin l=true:=pO (by rw [hP];rfl)
 have y:C.N=102:=hN
 clear hN
 unfold kB at h
 refine SWp.sR rfl (u _ rfl) fun K q=>?_
 iterate 2 (refine wC rfl fun K q=>?_;simp [y];refine q _ ?_;clear q)
 refine wN (q _ ?_);clear q
 refine SWp.sR rfl (u _ rfl) fun K q=>?_
 iterate 2 (refine wC rfl fun K q=>?_;simp [y];refine q _ ?_;clear q)
 refine wN (q _ ?_);clear q
 refine SWp.seq ?_
 refine SWp.sR rfl (u _ rfl) fun K q=>?_
 iterate 5 (refine wC rfl fun K q=>?_;simp [y];refine q _ ?_;clear q)
 obtain ⟨r3,hc4,h⟩:=bS h
 refine wL [(.take,.tmp 11),(.take,.const (.int .i64 0)),(.take,.tmp 15)] rfl rfl mW (aK _ _ _ hc4) fun K q=>?_;simp [y];refine q _ ?_;clear q
 refine wC rfl fun K q=>?_;simp [y];refine q _ ?_;clear q
 refine wN (q _ ?_);clear q
 rcases aA h with ⟨hb5,h⟩ | ⟨hb6,h⟩
 ·refine SWp.cT' (b:=!r3) (by simp) hb5 ?_
  refine SWp.sR rfl (u _ rfl) fun K q=>?_
  iterate 2 (refine wC rfl fun K q=>?_;simp [y];refine q _ ?_;clear q)
  refine wN (q _ ?_);clear q
  cases h
  refine SWp.ret ?_
  simp [aC,iB,res43]
 ·refine SWp.cF' (b:=!r3) (by simp) hb6 ?_
  refine SWp.skip ?_
  show SWp E C _ _ _
  refine SWp.seq ?_
  obtain ⟨e8,he8,h⟩:=bS h
  obtain ⟨he8a,he8b,he8c,he8d⟩:=gS he8
  refine SWp.dT rfl (u _ rfl) [(19,.t (GProgram.enc false p1)),(20,.ref (.box 2) 1 []),(21,.t (.sl false 5 (List.map (GFn.enc false) p1.Fns))),(22,.t (vi fn2)),(23,.rop [vs e8.Name,.sl false 2 (List.map GParam.enc e8.Params),vi e8.Res,vi e8.Body,vi e8.Ret] 0),(24,.rop [vs e8.Name,.sl false 2 (List.map GParam.enc e8.Params),vi e8.Res,vi e8.Body,vi e8.Ret] 3),(25,.t (vi e8.Body))] [[],[],[1],[],[1,2,3],[1,2,3,4],[1,2,3,4,5],[0,1,2,3,4,5,6],[0,1,2,3,4,5,6,7]] (by simp) (by simp) (by simp [look]) rfl rfl rfl ?_ fun K q=>?_
  ·refine ⟨?_,?_,?_,?_,?_,?_,?_,trivial⟩
   all_goals (intro τ hbx hb hd hf K q;try simp [vsAt] at hd;simp [vsAt] at hf;first | (refine wC rfl fun K' q'=>?_;simp [y,hbx,hb,hd,hf,he8a,he8b,he8c,he8d];exact q' _ (wN (q _ (by simp [vsAt,hbx,he8a,he8b,he8c,he8d])))))
  obtain ⟨r9,hc10,h⟩:=bS h
  refine wL [(.take,.tmp 19),(.take,.tmp 25)] rfl rfl ent74 (pW _ _ hc10) fun K q=>?_;simp [y,he8a,he8b,he8c,he8d];refine q _ ?_;clear q
  refine wC rfl fun K q=>?_;simp [y,he8a,he8b,he8c,he8d];refine q _ ?_;clear q
  refine wN (q _ ?_);clear q
  show SWp E C _ _ _
  refine SWp.seq ?_
  obtain ⟨e12,he12,h⟩:=bS h
  obtain ⟨he12a,he12b,he12c,he12d⟩:=gS he12
  refine SWp.dT rfl (u _ rfl) [(27,.t (GProgram.enc false p1)),(28,.ref (.box 2) 1 []),(29,.t (.sl false 5 (List.map (GFn.enc false) p1.Fns))),(30,.t (vi fn2)),(31,.rop [vs e12.Name,.sl false 2 (List.map GParam.enc e12.Params),vi e12.Res,vi e12.Body,vi e12.Ret] 0),(32,.rop [vs e12.Name,.sl false 2 (List.map GParam.enc e12.Params),vi e12.Res,vi e12.Body,vi e12.Ret] 4),(33,.t (vi e12.Ret))] [[],[],[1],[],[1,2,3],[1,2,3,4],[1,2,3,4,5],[0,1,2,3,4,5,6],[0,1,2,3,4,5,6,7]] (by simp) (by simp) (by simp [look]) rfl rfl rfl ?_ fun K q=>?_
  ·refine ⟨?_,?_,?_,?_,?_,?_,?_,trivial⟩
   all_goals (intro τ hbx hb hd hf K q;try simp [vsAt] at hd;simp [vsAt] at hf;first | (refine wC rfl fun K' q'=>?_;simp [y,hbx,hb,hd,hf,he12a,he12b,he12c,he12d];exact q' _ (wN (q _ (by simp [vsAt,hbx,he12a,he12b,he12c,he12d])))))
  obtain ⟨r13,hc14,h⟩:=bS h
  refine wL [(.take,.tmp 27),(.take,.tmp 33)] rfl rfl ent74 (pW _ _ hc14) fun K q=>?_;simp [y,he12a,he12b,he12c,he12d];refine q _ ?_;clear q
  refine wC rfl fun K q=>?_;simp [y,he12a,he12b,he12c,he12d];refine q _ ?_;clear q
  refine wN (q _ ?_);clear q
  show SWp E C _ _ _
  refine SWp.sR rfl (u _ rfl) fun K q=>?_
  refine wC rfl fun K q=>?_;simp [y];refine q _ ?_;clear q
  refine wN (q _ ?_);clear q
  refine SWp.sR rfl (u _ rfl) fun K q=>?_
  refine wC rfl fun K q=>?_;simp [y];refine q _ ?_;clear q
  refine wN (q _ ?_);clear q
  obtain ⟨out60,hj15,h⟩:=bS h
  refine SWp.seqC [5] [] (fun _:Unit=>⟨[(5,.t (.sl true 1 (List.map vi out60)))],[]⟩) (fun _=>True) (fun _ _=>?_) fun K16 hK16=>?_
  rotate_left
  ·refine SWp.block ?_
   refine SWp.loopO [] [5,6,7,8,9] [] (fun v:(List Int) × Int × Int=>⟨[(5,.t (.sl true 1 (List.map vi v.1))),(6,.t (.sl true 1 (List.map vi r9))),(7,.t (.sl true 1 (List.map vi r13))),(8,.t (vi v.2.1)),(9,.t (vi v.2.2))],[]⟩) (aW r9 r13) _ ([],0,0) hj15 (by simp [y]) ?_
   intro g s23 h21 ho22
   obtain ⟨out18,i19,k20⟩:=g
   simp only [aW] at h21
   try dsimp only
   refine SWp.seq ?_
   obtain ⟨v28,hj24,h21⟩:=bS h21
   refine SWp.seqRC rfl (u _ rfl) [5,6,7,8,9,44] [] (fun _:Unit=>⟨[(5,.t (.sl true 1 (List.map vi out18))),(6,.t (.sl true 1 (List.map vi r9))),(7,.t (.sl true 1 (List.map vi r13))),(8,.t (vi i19)),(9,.t (vi k20)),(44,.t (vb v28))],[]⟩) (fun _=>True) (fun _ _=>?_) fun K25 hK25=>?_
   rotate_left
   ·refine wC rfl fun K q=>?_;simp [y];refine q _ ?_;clear q
    iterate 4 (refine wC rfl fun K q=>?_;simp [y];refine q _ ?_;clear q)
    rcases aA hj24 with ⟨hb26,hj24⟩ | ⟨hb27,hj24⟩
    ·have hb26s:=hb26
     try simp at hb26s
     iterate 4 (refine wO fun K q=>?_;simp [y,hb26,hb26s];refine q _ ?_;clear q)
     refine wC rfl fun K q=>?_;simp [y,hb26,hb26s];refine q _ ?_;clear q
     refine wN ?_
     cases hj24
     exact hK25 _ () [] trivial (by simp [y,hb26,hb26s])
    ·have hb27s:=hb27
     try simp at hb27s
     iterate 5 (refine wC rfl fun K q=>?_;simp [y,hb27,hb27s];refine q _ ?_;clear q)
     refine wN ?_
     cases hj24
     exact hK25 _ () [] trivial (by simp [y,hb27,hb27s])
   rcases aA h21 with ⟨hb29,h21⟩ | ⟨hb30,h21⟩
   ·refine SWp.cT' (b:=v28) (by simp) hb29 ?_
    refine SWp.skip ?_
    show SWp E C _ _ _
    refine SWp.block ?_
    refine SWp.seq ?_
    obtain ⟨v39,hj31,h21⟩:=bS h21
    refine SWp.seqC [5,6,7,8,9,65] [] (fun _:Unit=>⟨[(5,.t (.sl true 1 (List.map vi out18))),(6,.t (.sl true 1 (List.map vi r9))),(7,.t (.sl true 1 (List.map vi r13))),(8,.t (vi i19)),(9,.t (vi k20)),(65,.t (vb v39))],[]⟩) (fun _=>True) (fun _ _=>?_) fun K32 hK32=>?_
    rotate_left
    ·rcases aA hj31 with ⟨hb33,hj31⟩ | ⟨hb34,hj31⟩
     ·have hb33s:=hb33
      try simp at hb33s
      refine SWp.dT rfl (u _ rfl) [(45,.t (vi k20)),(46,.al (.slot 7) 0 [] none),(47,.t (vi (r13.length:Int))),(48,.t (vb (decide (k20 ≥ (r13.length:Int))))),(49,.t (vb (decide (k20 ≥ (r13.length:Int))))),(50,.tup []),(51,.tup []),(52,.tup []),(53,.tup []),(54,.tup []),(55,.tup []),(56,.tup []),(57,.tup []),(58,.tup []),(59,.tup []),(60,.tup []),(61,.tup []),(62,.tup [])] [[],[],[1],[0,1,2],[0,1,2,3],[0,1,2,3,4],[0,1,2,3,4],[0,1,2,3,4,6],[0,1,2,3,4,5,6,7],[0,1,2,3,4,5,6,7,8],[0,1,2,3,4,5,6,7,8,9],[0,1,2,3,4,5,6,7,8,9],[0,1,2,3,4,5,6,7,8,9,10,11],[0,1,2,3,4,5,6,7,8,9,10,11,12],[0,1,2,3,4,5,6,7,8,9],[0,1,2,3,4,5,6,7,8,9],[0,1,2,3,4,5,6,7,8,9,14,15],[0,1,2,3,4,5,6,7,8,9,14,15,16],[0,1,2,3,4,5,6,7,8,9,10,11,12,13,14,15,16,17],[0,1,2,3,4,5,6,7,8,9,10,11,12,13,14,15,16,17,18],[0,1,2,3,4,5,6,7,8,9,10,11,12,13,14,15,16,17,18,19]] (by simp) (by simp) (by simp [look]) rfl rfl rfl ?_ fun K q=>?_
      ·refine ⟨?_,?_,?_,?_,?_,?_,?_,?_,?_,?_,?_,?_,?_,?_,?_,?_,?_,?_,trivial⟩
       all_goals (intro τ hbx hb hd hf K q;try simp [vsAt] at hd;simp [vsAt] at hf;first | (refine wC rfl fun K' q'=>?_;simp [y,hbx,hb,hd,hf,hb33,hb33s];exact q' _ (wN (q _ (by simp [vsAt,hbx,hb33,hb33s])))) | (refine wO fun K' q'=>?_;simp [y,hbx,hb,hd,hf,hb33,hb33s];exact q' _ (wN (q _ (by simp [vsAt,hbx,hb33,hb33s])))))
      iterate 2 (refine wO fun K q=>?_;simp [y,hb33,hb33s];refine q _ ?_;clear q)
      refine wC rfl fun K q=>?_;simp [y,hb33,hb33s];refine q _ ?_;clear q
      refine wN (q _ ?_);clear q
      cases hj31
      exact hK32 _ () [] trivial (by simp [y,hb33,hb33s])
     ·have hb34s:=hb34
      try simp at hb34s
      rcases aA hj31 with ⟨hb35,hj31⟩ | ⟨hb36,hj31⟩
      ·have hb35s:=hb35
       try simp at hb35s
       obtain ⟨e37,he37,hj31⟩:=bS hj31
       obtain ⟨he37a,he37b,he37c,he37d⟩:=gS he37
       obtain ⟨e38,he38,hj31⟩:=bS hj31
       obtain ⟨he38a,he38b,he38c,he38d⟩:=gS he38
       refine SWp.dT rfl (u _ rfl) [(45,.t (vi k20)),(46,.al (.slot 7) 0 [] none),(47,.t (vi (r13.length:Int))),(48,.t (vb (decide (k20 ≥ (r13.length:Int))))),(49,.t (vb (decide (k20 ≥ (r13.length:Int))))),(50,.t (vi i19)),(51,.al (.slot 6) 0 [] none),(52,.t (vi (r9.length:Int))),(53,.t (vb (decide (i19 < (r9.length:Int))))),(54,.t (vb (decide (i19 < (r9.length:Int))))),(55,.al (.slot 6) 0 [] none),(56,.t (vi i19)),(57,.ref (.slot 6) 0 [(i19.toNat,0)]),(58,.t (vi e37)),(59,.al (.slot 7) 0 [] none),(60,.t (vi k20)),(61,.ref (.slot 7) 0 [(k20.toNat,0)]),(62,.t (vi e38))] [[],[],[1],[0,1,2],[0,1,2,3],[0,1,2,3,4],[0,1,2,3,4],[0,1,2,3,4,6],[0,1,2,3,4,5,6,7],[0,1,2,3,4,5,6,7,8],[0,1,2,3,4,5,6,7,8,9],[0,1,2,3,4,5,6,7,8,9],[0,1,2,3,4,5,6,7,8,9,10,11],[0,1,2,3,4,5,6,7,8,9,10,11,12],[0,1,2,3,4,5,6,7,8,9],[0,1,2,3,4,5,6,7,8,9],[0,1,2,3,4,5,6,7,8,9,14,15],[0,1,2,3,4,5,6,7,8,9,14,15,16],[0,1,2,3,4,5,6,7,8,9,10,11,12,13,14,15,16,17],[0,1,2,3,4,5,6,7,8,9,10,11,12,13,14,15,16,17,18],[0,1,2,3,4,5,6,7,8,9,10,11,12,13,14,15,16,17,18,19]] (by simp) (by simp) (by simp [look]) rfl rfl rfl ?_ fun K q=>?_
       ·refine ⟨?_,?_,?_,?_,?_,?_,?_,?_,?_,?_,?_,?_,?_,?_,?_,?_,?_,?_,trivial⟩
        all_goals (intro τ hbx hb hd hf K q;try simp [vsAt] at hd;simp [vsAt] at hf;first | (refine wC rfl fun K' q'=>?_;simp [y,hbx,hb,hd,hf,hb34,hb34s,hb35,hb35s,he37a,he37b,he37c,he37d,he38a,he38b,he38c,he38d];exact q' _ (wN (q _ (by simp [vsAt,hbx,hb34,hb34s,hb35,hb35s,he37a,he37b,he37c,he37d,he38a,he38b,he38c,he38d])))))
       iterate 3 (refine wC rfl fun K q=>?_;simp [y,hb34,hb34s,hb35,hb35s,he37a,he37b,he37c,he37d,he38a,he38b,he38c,he38d];refine q _ ?_;clear q)
       refine wN (q _ ?_);clear q
       cases hj31
       exact hK32 _ () [] trivial (by simp [y,hb34,hb34s,hb35,hb35s,he37a,he37b,he37c,he37d,he38a,he38b,he38c,he38d])
      ·have hb36s:=hb36
       try simp at hb36s
       refine SWp.dT rfl (u _ rfl) [(45,.t (vi k20)),(46,.al (.slot 7) 0 [] none),(47,.t (vi (r13.length:Int))),(48,.t (vb (decide (k20 ≥ (r13.length:Int))))),(49,.t (vb (decide (k20 ≥ (r13.length:Int))))),(50,.t (vi i19)),(51,.al (.slot 6) 0 [] none),(52,.t (vi (r9.length:Int))),(53,.t (vb (decide (i19 < (r9.length:Int))))),(54,.t (vb (decide (i19 < (r9.length:Int))))),(55,.tup []),(56,.tup []),(57,.tup []),(58,.tup []),(59,.tup []),(60,.tup []),(61,.tup []),(62,.tup [])] [[],[],[1],[0,1,2],[0,1,2,3],[0,1,2,3,4],[0,1,2,3,4],[0,1,2,3,4,6],[0,1,2,3,4,5,6,7],[0,1,2,3,4,5,6,7,8],[0,1,2,3,4,5,6,7,8,9],[0,1,2,3,4,5,6,7,8,9],[0,1,2,3,4,5,6,7,8,9,10,11],[0,1,2,3,4,5,6,7,8,9,10,11,12],[0,1,2,3,4,5,6,7,8,9],[0,1,2,3,4,5,6,7,8,9],[0,1,2,3,4,5,6,7,8,9,14,15],[0,1,2,3,4,5,6,7,8,9,14,15,16],[0,1,2,3,4,5,6,7,8,9,10,11,12,13,14,15,16,17],[0,1,2,3,4,5,6,7,8,9,10,11,12,13,14,15,16,17,18],[0,1,2,3,4,5,6,7,8,9,10,11,12,13,14,15,16,17,18,19]] (by simp) (by simp) (by simp [look]) rfl rfl rfl ?_ fun K q=>?_
       ·refine ⟨?_,?_,?_,?_,?_,?_,?_,?_,?_,?_,?_,?_,?_,?_,?_,?_,?_,?_,trivial⟩
        all_goals (intro τ hbx hb hd hf K q;try simp [vsAt] at hd;simp [vsAt] at hf;first | (refine wC rfl fun K' q'=>?_;simp [y,hbx,hb,hd,hf,hb34,hb34s,hb36,hb36s];exact q' _ (wN (q _ (by simp [vsAt,hbx,hb34,hb34s,hb36,hb36s])))) | (refine wO fun K' q'=>?_;simp [y,hbx,hb,hd,hf,hb34,hb34s,hb36,hb36s];exact q' _ (wN (q _ (by simp [vsAt,hbx,hb34,hb34s,hb36,hb36s])))))
       refine wO fun K q=>?_;simp [y,hb34,hb34s,hb36,hb36s];refine q _ ?_;clear q
       iterate 2 (refine wC rfl fun K q=>?_;simp [y,hb34,hb34s,hb36,hb36s];refine q _ ?_;clear q)
       refine wN (q _ ?_);clear q
       cases hj31
       exact hK32 _ () [] trivial (by simp [y,hb34,hb34s,hb36,hb36s])
    rcases aA h21 with ⟨hb40,h21⟩ | ⟨hb41,h21⟩
    ·refine SWp.cT' (b:=v39) (by simp) hb40 ?_
     refine SWp.sR rfl (u _ rfl) fun K q=>?_
     iterate 3 (refine wC rfl fun K q=>?_;simp [y];refine q _ ?_;clear q)
     obtain ⟨e42,he42,h21⟩:=bS h21
     obtain ⟨he42a,he42b,he42c,he42d⟩:=gS he42
     iterate 3 (refine wC rfl fun K q=>?_;simp [y,he42a,he42b,he42c,he42d];refine q _ ?_;clear q)
     obtain ⟨l43,hl43,h21⟩:=bS h21
     obtain ⟨hl43a,hl43b,hl43d⟩:=aS hl43
     have hl43f:List.map vi out18 ++ List.map vi [e42]=List.map vi l43:=cC (f:=vi) hl43d
     simp [eSl] at hl43a hl43b hl43f
     iterate 2 (refine wC rfl fun K q=>?_;simp [y,he42a,he42b,he42c,he42d,hl43a,hl43b,hl43f];refine q _ ?_;clear q)
     refine wN (q _ ?_);clear q
     refine SWp.sR rfl (u _ rfl) fun K q=>?_
     iterate 3 (refine wC rfl fun K q=>?_;simp [y];refine q _ ?_;clear q)
     refine wN (q _ ?_);clear q
     refine SWp.exit ?_
     cases h21
     exact ⟨_,[],rfl,by simp [y]⟩
    ·refine SWp.cF' (b:=v39) (by simp) hb41 ?_
     refine SWp.skip ?_
     show SWp E C _ _ _
     obtain ⟨i56,hj44,h21⟩:=bS h21
     refine SWp.seqC [5,6,7,8,9] [] (fun _:Unit=>⟨[(5,.t (.sl true 1 (List.map vi out18))),(6,.t (.sl true 1 (List.map vi r9))),(7,.t (.sl true 1 (List.map vi r13))),(8,.t (vi i56)),(9,.t (vi k20))],[]⟩) (fun _=>True) (fun _ _=>?_) fun K45 hK45=>?_
     rotate_left
     ·obtain ⟨v53,hj47,hj44⟩:=bS hj44
      refine SWp.seqC [5,6,7,8,9,89] [] (fun _:Unit=>⟨[(5,.t (.sl true 1 (List.map vi out18))),(6,.t (.sl true 1 (List.map vi r9))),(7,.t (.sl true 1 (List.map vi r13))),(8,.t (vi i19)),(9,.t (vi k20)),(89,.t (vb v53))],[]⟩) (fun _=>True) (fun _ _=>?_) fun K48 hK48=>?_
      rotate_left
      ·rcases aA hj47 with ⟨hb49,hj47⟩ | ⟨hb50,hj47⟩
       ·have hb49s:=hb49
        try simp at hb49s
        obtain ⟨e51,he51,hj47⟩:=bS hj47
        obtain ⟨he51a,he51b,he51c,he51d⟩:=gS he51
        obtain ⟨e52,he52,hj47⟩:=bS hj47
        obtain ⟨he52a,he52b,he52c,he52d⟩:=gS he52
        refine SWp.dT rfl (u _ rfl) [(75,.t (vi i19)),(76,.al (.slot 6) 0 [] none),(77,.t (vi (r9.length:Int))),(78,.t (vb (decide (i19 < (r9.length:Int))))),(79,.t (vb (decide (i19 < (r9.length:Int))))),(80,.al (.slot 6) 0 [] none),(81,.t (vi i19)),(82,.ref (.slot 6) 0 [(i19.toNat,0)]),(83,.t (vi e51)),(84,.al (.slot 7) 0 [] none),(85,.t (vi k20)),(86,.ref (.slot 7) 0 [(k20.toNat,0)]),(87,.t (vi e52))] [[],[],[1],[0,1,2],[0,1,2,3],[0,1,2,3,4],[0,1,2,3,4],[0,1,2,3,4,5,6],[0,1,2,3,4,5,6,7],[0,1,2,3,4],[0,1,2,3,4],[0,1,2,3,4,9,10],[0,1,2,3,4,9,10,11],[0,1,2,3,4,5,6,7,8,9,10,11,12],[0,1,2,3,4,5,6,7,8,9,10,11,12,13]] (by simp) (by simp) (by simp [look]) rfl rfl rfl ?_ fun K q=>?_
        ·refine ⟨?_,?_,?_,?_,?_,?_,?_,?_,?_,?_,?_,?_,?_,trivial⟩
         all_goals (intro τ hbx hb hd hf K q;try simp [vsAt] at hd;simp [vsAt] at hf;first | (refine wC rfl fun K' q'=>?_;simp [y,hbx,hb,hd,hf,hb49,hb49s,he51a,he51b,he51c,he51d,he52a,he52b,he52c,he52d];exact q' _ (wN (q _ (by simp [vsAt,hbx,hb49,hb49s,he51a,he51b,he51c,he51d,he52a,he52b,he52c,he52d])))))
        iterate 2 (refine wC rfl fun K q=>?_;simp [y,hb49,hb49s,he51a,he51b,he51c,he51d,he52a,he52b,he52c,he52d];refine q _ ?_;clear q)
        refine wN (q _ ?_);clear q
        cases hj47
        exact hK48 _ () [] trivial (by simp [y,hb49,hb49s,he51a,he51b,he51c,he51d,he52a,he52b,he52c,he52d])
       ·have hb50s:=hb50
        try simp at hb50s
        refine SWp.dT rfl (u _ rfl) [(75,.t (vi i19)),(76,.al (.slot 6) 0 [] none),(77,.t (vi (r9.length:Int))),(78,.t (vb (decide (i19 < (r9.length:Int))))),(79,.t (vb (decide (i19 < (r9.length:Int))))),(80,.tup []),(81,.tup []),(82,.tup []),(83,.tup []),(84,.tup []),(85,.tup []),(86,.tup []),(87,.tup [])] [[],[],[1],[0,1,2],[0,1,2,3],[0,1,2,3,4],[0,1,2,3,4],[0,1,2,3,4,5,6],[0,1,2,3,4,5,6,7],[0,1,2,3,4],[0,1,2,3,4],[0,1,2,3,4,9,10],[0,1,2,3,4,9,10,11],[0,1,2,3,4,5,6,7,8,9,10,11,12],[0,1,2,3,4,5,6,7,8,9,10,11,12,13]] (by simp) (by simp) (by simp [look]) rfl rfl rfl ?_ fun K q=>?_
        ·refine ⟨?_,?_,?_,?_,?_,?_,?_,?_,?_,?_,?_,?_,?_,trivial⟩
         all_goals (intro τ hbx hb hd hf K q;try simp [vsAt] at hd;simp [vsAt] at hf;first | (refine wC rfl fun K' q'=>?_;simp [y,hbx,hb,hd,hf,hb50,hb50s];exact q' _ (wN (q _ (by simp [vsAt,hbx,hb50,hb50s])))) | (refine wO fun K' q'=>?_;simp [y,hbx,hb,hd,hf,hb50,hb50s];exact q' _ (wN (q _ (by simp [vsAt,hbx,hb50,hb50s])))))
        refine wO fun K q=>?_;simp [y,hb50,hb50s];refine q _ ?_;clear q
        refine wC rfl fun K q=>?_;simp [y,hb50,hb50s];refine q _ ?_;clear q
        refine wN (q _ ?_);clear q
        cases hj47
        exact hK48 _ () [] trivial (by simp [y,hb50,hb50s])
      rcases aA hj44 with ⟨hb54,hj44⟩ | ⟨hb55,hj44⟩
      ·refine SWp.cT' (b:=v53) (by simp) hb54 ?_
       refine SWp.reg rfl (u _ rfl) fun K q=>?_
       iterate 3 (refine wC rfl fun K q=>?_;simp [y];refine q _ ?_;clear q)
       refine wN (q _ ?_);clear q
       cases hj44
       exact hK45 _ () [] trivial (by simp [y])
      ·refine SWp.cF' (b:=v53) (by simp) hb55 ?_
       refine SWp.skip ?_
       cases hj44
       exact hK45 _ () [] trivial (by simp [y])
     refine SWp.sR rfl (u _ rfl) fun K q=>?_
     iterate 3 (refine wC rfl fun K q=>?_;simp [y];refine q _ ?_;clear q)
     obtain ⟨e57,he57,h21⟩:=bS h21
     obtain ⟨he57a,he57b,he57c,he57d⟩:=gS he57
     iterate 3 (refine wC rfl fun K q=>?_;simp [y,he57a,he57b,he57c,he57d];refine q _ ?_;clear q)
     obtain ⟨l58,hl58,h21⟩:=bS h21
     obtain ⟨hl58a,hl58b,hl58d⟩:=aS hl58
     have hl58f:List.map vi out18 ++ List.map vi [e57]=List.map vi l58:=cC (f:=vi) hl58d
     simp [eSl] at hl58a hl58b hl58f
     iterate 2 (refine wC rfl fun K q=>?_;simp [y,he57a,he57b,he57c,he57d,hl58a,hl58b,hl58f];refine q _ ?_;clear q)
     refine wN (q _ ?_);clear q
     refine SWp.reg rfl (u _ rfl) fun K q=>?_
     iterate 3 (refine wC rfl fun K q=>?_;simp [y];refine q _ ?_;clear q)
     refine wN (q _ ?_);clear q
     cases h21
     exact ⟨_,[],rfl,by simp [y]⟩
   ·refine SWp.cF' (b:=v28) (by simp) hb30 ?_
    refine SWp.exit ?_
    have h59:=congrArg some (ho22 _ (Option.some.inj h21).symm)
    cases h59
    exact hK16 _ () [] trivial (by simp [y])
  refine SWp.sR rfl (u _ rfl) fun K q=>?_
  iterate 2 (refine wC rfl fun K q=>?_;simp [y];refine q _ ?_;clear q)
  refine wN (q _ ?_);clear q
  cases h
  refine SWp.ret ?_
  simp [aC,iB,res43]
theorem res45:Tryz.f45.results.toList=[.tmp 4]:=rfl
theorem ent45:aE E.P 45:=eO Tryz.func45 (by simp [Tryz.f45]) rfl
theorem spec_l11Add_ok (list1:List Int) (n2:Int) {r0:List Int} (h:kA list1 n2=some r0):Ok E 45 [.val (.sl true 1 (List.map vi list1)),.val (vi n2)] [.sl true 1 (List.map vi r0)] []:=by
 refine oB (fn:=Tryz.f45) Tryz.func45 rfl (by simp [Tryz.f45]) fun C hN hP=>?_
 have hPB:∀ l,pinK [] l=true→pinB C.pin l=true:=pO (by rw [hP];rfl)
 have hN':C.N=23:=hN
 clear hN
 unfold kA at h
 refine SWp.sR rfl (hPB _ rfl) fun K hK=>?_
 refine wC rfl fun K hK=>?_;simp [hN'];refine hK _ ?_;clear hK
 refine wN (hK _ ?_);clear hK
 obtain ⟨j5,hj3,h⟩:=bS h
 refine SWp.seqC [0,1] [] (fun v:Unit=>⟨[(0,.t (.sl true 1 (List.map vi list1))),(1,.t (vi n2))],[]⟩) (fun v=>j5=Sum.inl v) (fun v hv=>?_) fun K4 hK4=>?_
 rotate_left
 ·refine SWp.sR rfl (hPB _ rfl) fun K hK=>?_
  refine wC rfl fun K hK=>?_;simp [hN'];refine hK _ ?_;clear hK
  refine wN (hK _ ?_);clear hK
  refine SWp.block ?_
  refine SWp.loopO [] [0,1,5] [] (fun v:Int=>⟨[(0,.t (.sl true 1 (List.map vi list1))),(1,.t (vi n2)),(5,.t (vi v))],[]⟩) (eL list1 n2) _ 0 hj3 (by simp [hN']) ?_
  intro g s9 h7 ho8
  obtain ⟨i6,hg⟩:∃ y,y=g:=⟨_,rfl⟩
  subst hg
  simp only [eL] at h7
  try dsimp only
  refine SWp.seq ?_
  refine SWp.sR rfl (hPB _ rfl) fun K hK=>?_
  iterate 4 (refine wC rfl fun K hK=>?_;simp [hN'];refine hK _ ?_;clear hK)
  refine wN (hK _ ?_);clear hK
  rcases aA h7 with ⟨hb10,h7⟩ | ⟨hb11,h7⟩
  ·refine SWp.cT' (b:=decide (i6 < (list1.length:Int))) (by simp) hb10 ?_
   refine SWp.skip ?_
   show SWp E C _ _ _
   refine SWp.seq ?_
   refine SWp.block ?_
   refine SWp.sR rfl (hPB _ rfl) fun K hK=>?_
   iterate 2 (refine wC rfl fun K hK=>?_;simp [hN'];refine hK _ ?_;clear hK)
   obtain ⟨e12,he12,h7⟩:=bS h7
   obtain ⟨he12a,he12b,he12c,he12d⟩:=gS he12
   iterate 4 (refine wC rfl fun K hK=>?_;simp [hN',he12a,he12b,he12c,he12d];refine hK _ ?_;clear hK)
   refine wN (hK _ ?_);clear hK
   rcases aA h7 with ⟨hb13,h7⟩ | ⟨hb14,h7⟩
   ·refine SWp.cT' (b:=e12 == n2) (by simp) hb13 ?_
    refine SWp.sR rfl (hPB _ rfl) fun K hK=>?_
    iterate 2 (refine wC rfl fun K hK=>?_;simp [hN'];refine hK _ ?_;clear hK)
    refine wN (hK _ ?_);clear hK
    have h15:=congrArg some (ho8 _ (Option.some.inj h7).symm)
    cases h15
    try dsimp only at h
    cases h
    refine SWp.ret ?_
    simp [aC,iB,res45]
   ·refine SWp.cF' (b:=e12 == n2) (by simp) hb14 ?_
    refine SWp.skip ?_
    show SWp E C _ _ _
    refine SWp.reg rfl (hPB _ rfl) fun K hK=>?_
    iterate 3 (refine wC rfl fun K hK=>?_;simp [hN'];refine hK _ ?_;clear hK)
    refine wN (hK _ ?_);clear hK
    cases h7
    exact ⟨_,[],rfl,by simp [hN']⟩
  ·refine SWp.cF' (b:=decide (i6 < (list1.length:Int))) (by simp) hb11 ?_
   refine SWp.exit ?_
   have h16:=congrArg some (ho8 _ (Option.some.inj h7).symm)
   cases h16
   exact hK4 _ _ [] rfl (by simp [hN'])
 subst hv
 obtain ⟨⟩:=v
 try dsimp only at h ⊢
 refine SWp.sR rfl (hPB _ rfl) fun K hK=>?_
 iterate 3 (refine wC rfl fun K hK=>?_;simp [hN'];refine hK _ ?_;clear hK)
 obtain ⟨l17,hl17,h⟩:=bS h
 obtain ⟨hl17a,hl17b,hl17d⟩:=aS hl17
 have hl17f:List.map vi list1 ++ List.map vi [n2]=List.map vi l17:=cC (f:=vi) hl17d
 simp [eSl] at hl17a hl17b hl17f
 iterate 2 (refine wC rfl fun K hK=>?_;simp [hN',hl17a,hl17b,hl17f];refine hK _ ?_;clear hK)
 refine wN (hK _ ?_);clear hK
 cases h
 refine SWp.ret ?_
 simp [aC,iB,res45]
theorem res17:Tryz.f17.results.toList=[.tmp 4]:=rfl
theorem ent17:aE E.P 17:=eO Tryz.func17 (by simp [Tryz.f17]) rfl
theorem spec_CallsOf_ok (p1:GProgram) (fn2:Int) {r0:List Int} (h:iS p1 fn2=some r0):Ok E 17 [.val (GProgram.enc false p1),.val (vi fn2)] [.sl true 1 (List.map vi r0)] []:=by
 refine oB (fn:=Tryz.f17) Tryz.func17 rfl (by simp [Tryz.f17]) fun C hN hP=>?_
 have u:∀ l,pinK [] l=true→pinB C.pin l=true:=pO (by rw [hP];rfl)
 have y:C.N=46:=hN
 clear hN
 unfold iS at h
 refine SWp.sR rfl (u _ rfl) fun K q=>?_
 iterate 2 (refine wC rfl fun K q=>?_;simp [y];refine q _ ?_;clear q)
 refine wN (q _ ?_);clear q
 refine SWp.sR rfl (u _ rfl) fun K q=>?_
 iterate 2 (refine wC rfl fun K q=>?_;simp [y];refine q _ ?_;clear q)
 refine wN (q _ ?_);clear q
 refine SWp.sR rfl (u _ rfl) fun K q=>?_
 iterate 2 (refine wC rfl fun K q=>?_;simp [y];refine q _ ?_;clear q)
 obtain ⟨r3,hc4,h⟩:=bS h
 refine wL [(.take,.tmp 10),(.take,.tmp 11)] rfl rfl ent43 (spec_l07All_ok _ _ hc4) fun K q=>?_;simp [y];refine q _ ?_;clear q
 refine wC rfl fun K q=>?_;simp [y];refine q _ ?_;clear q
 refine wN (q _ ?_);clear q
 obtain ⟨out30,hj5,h⟩:=bS h
 refine SWp.seqC [5] [] (fun _:Unit=>⟨[(5,.t (.sl true 1 (List.map vi out30)))],[]⟩) (fun _=>True) (fun _ _=>?_) fun K6 hK6=>?_
 rotate_left
 ·refine SWp.sR rfl (u _ rfl) fun K q=>?_
  refine wC rfl fun K q=>?_;simp [y];refine q _ ?_;clear q
  refine wN (q _ ?_);clear q
  refine SWp.block ?_
  refine SWp.loopO [] [2,5,6,7] [2] (fun v:(List Int) × Int=>⟨[(2,.ref (.box 2) 0 []),(5,.t (.sl true 1 (List.map vi v.1))),(6,.t (.sl true 1 (List.map vi r3))),(7,.t (vi v.2))],[(2,[.sl false 4 (List.map (GNode.enc false) p1.Nodes),.sl false 5 (List.map (GFn.enc false) p1.Fns)])]⟩) (dY p1 r3) _ ([],0) hj5 (by simp [y]) ?_
  intro g s12 h10 ho11
  obtain ⟨out8,i9⟩:=g
  simp only [dY] at h10
  try dsimp only
  refine SWp.seq ?_
  refine SWp.sR rfl (u _ rfl) fun K q=>?_
  iterate 4 (refine wC rfl fun K q=>?_;simp [y];refine q _ ?_;clear q)
  refine wN (q _ ?_);clear q
  rcases aA h10 with ⟨hb13,h10⟩ | ⟨hb14,h10⟩
  ·refine SWp.cT' (b:=decide (i9 < (r3.length:Int))) (by simp) hb13 ?_
   refine SWp.skip ?_
   show SWp E C _ _ _
   refine SWp.seq ?_
   refine SWp.block ?_
   refine SWp.seq ?_
   refine SWp.seq ?_
   obtain ⟨e16,he16,h10⟩:=bS h10
   obtain ⟨he16a,he16b,he16c,he16d⟩:=gS he16
   refine SWp.dT rfl (u _ rfl) [(19,.ref (.box 2) 0 []),(20,.t (.sl false 4 (List.map (GNode.enc false) p1.Nodes))),(21,.al (.slot 6) 0 [] none),(22,.t (vi i9)),(23,.ref (.slot 6) 0 [(i9.toNat,0)]),(24,.t (vi e16))] [[],[0],[],[],[2,3],[2,3,4],[0,1,2,3,4,5],[0,1,2,3,4,5,6],[0,1,2,3,4,5,6,7],[0,1,2,3,4,5,6,7,8]] (by simp) (by simp) (by simp [look]) rfl rfl rfl ?_ fun K q=>?_
   ·refine ⟨?_,?_,?_,?_,?_,?_,trivial⟩
    all_goals (intro τ hbx hb hd hf K q;try simp [vsAt] at hd;simp [vsAt] at hf;first | (refine wC rfl fun K' q'=>?_;simp [y,hbx,hb,hd,hf,he16a,he16b,he16c,he16d];exact q' _ (wN (q _ (by simp [vsAt,hbx,he16a,he16b,he16c,he16d])))))
   obtain ⟨e17,he17,h10⟩:=bS h10
   obtain ⟨he17a,he17b,he17c,he17d⟩:=gS he17
   iterate 4 (refine wC rfl fun K q=>?_;simp [y,he16a,he16b,he16c,he16d,he17a,he17b,he17c,he17d];refine q _ ?_;clear q)
   refine wN (q _ ?_);clear q
   show SWp E C _ _ _
   rcases aA h10 with ⟨hb18,h10⟩ | ⟨hb19,h10⟩
   ·refine SWp.cT' (b:=e17.Kind != 12) (by simp) hb18 ?_
    refine SWp.exit ?_
    show SWp E C _ _ _
    refine SWp.reg rfl (u _ rfl) fun K q=>?_
    iterate 3 (refine wC rfl fun K q=>?_;simp [y];refine q _ ?_;clear q)
    refine wN (q _ ?_);clear q
    cases h10
    exact ⟨_,[],rfl,by simp [y]⟩
   ·refine SWp.cF' (b:=e17.Kind != 12) (by simp) hb19 ?_
    refine SWp.skip ?_
    show SWp E C _ _ _
    refine SWp.seq ?_
    obtain ⟨e21,he21,h10⟩:=bS h10
    obtain ⟨he21a,he21b,he21c,he21d⟩:=gS he21
    obtain ⟨e22,he22,h10⟩:=bS h10
    obtain ⟨he22a,he22b,he22c,he22d⟩:=gS he22
    refine SWp.dT rfl (u _ rfl) [(29,.t (GProgram.enc false p1)),(30,.ref (.box 2) 0 []),(31,.t (.sl false 4 (List.map (GNode.enc false) p1.Nodes))),(32,.al (.slot 6) 0 [] none),(33,.t (vi i9)),(34,.ref (.slot 6) 0 [(i9.toNat,0)]),(35,.t (vi e21)),(36,.rop [vi e22.Kind,vi e22.Num,vs e22.Name,.sl false 1 (List.map vi e22.Kids)] 0),(37,.rop [vi e22.Kind,vi e22.Num,vs e22.Name,.sl false 1 (List.map vi e22.Kids)] 2),(38,.t (vs e22.Name))] [[],[],[1],[],[],[3,4],[3,4,5],[1,2,3,4,5,6],[1,2,3,4,5,6,7],[1,2,3,4,5,6,7,8],[0,1,2,3,4,5,6,7,8,9],[0,1,2,3,4,5,6,7,8,9,10]] (by simp) (by simp) (by simp [look]) rfl rfl rfl ?_ fun K q=>?_
    ·refine ⟨?_,?_,?_,?_,?_,?_,?_,?_,?_,?_,trivial⟩
     all_goals (intro τ hbx hb hd hf K q;try simp [vsAt] at hd;simp [vsAt] at hf;first | (refine wC rfl fun K' q'=>?_;simp [y,hbx,hb,hd,hf,he21a,he21b,he21c,he21d,he22a,he22b,he22c,he22d];exact q' _ (wN (q _ (by simp [vsAt,hbx,he21a,he21b,he21c,he21d,he22a,he22b,he22c,he22d])))))
    obtain ⟨r23,hc24,h10⟩:=bS h10
    refine wL [(.take,.tmp 29),(.take,.tmp 38)] rfl rfl ent44 (spec_FnAt_ok _ _ hc24) fun K q=>?_;simp [y,he21a,he21b,he21c,he21d,he22a,he22b,he22c,he22d];refine q _ ?_;clear q
    refine wC rfl fun K q=>?_;simp [y,he21a,he21b,he21c,he21d,he22a,he22b,he22c,he22d];refine q _ ?_;clear q
    refine wN (q _ ?_);clear q
    show SWp E C _ _ _
    refine SWp.sR rfl (u _ rfl) fun K q=>?_
    iterate 2 (refine wC rfl fun K q=>?_;simp [y];refine q _ ?_;clear q)
    refine wN (q _ ?_);clear q
    rcases aA h10 with ⟨hb25,h10⟩ | ⟨hb26,h10⟩
    ·refine SWp.cT' (b:=decide (r23 ≥ 0)) (by simp) hb25 ?_
     refine SWp.reg rfl (u _ rfl) fun K q=>?_
     iterate 2 (refine wC rfl fun K q=>?_;simp [y];refine q _ ?_;clear q)
     obtain ⟨r27,hc28,h10⟩:=bS h10
     refine wL [(.take,.tmp 42),(.take,.tmp 43)] rfl rfl ent45 (spec_l11Add_ok _ _ hc28) fun K q=>?_;simp [y];refine q _ ?_;clear q
     refine wC rfl fun K q=>?_;simp [y];refine q _ ?_;clear q
     refine wN (q _ ?_);clear q
     show SWp E C _ _ _
     refine SWp.reg rfl (u _ rfl) fun K q=>?_
     iterate 3 (refine wC rfl fun K q=>?_;simp [y];refine q _ ?_;clear q)
     refine wN (q _ ?_);clear q
     cases h10
     exact ⟨_,[],rfl,by simp [y]⟩
    ·refine SWp.cF' (b:=decide (r23 ≥ 0)) (by simp) hb26 ?_
     refine SWp.skip ?_
     show SWp E C _ _ _
     refine SWp.reg rfl (u _ rfl) fun K q=>?_
     iterate 3 (refine wC rfl fun K q=>?_;simp [y];refine q _ ?_;clear q)
     refine wN (q _ ?_);clear q
     cases h10
     exact ⟨_,[],rfl,by simp [y]⟩
  ·refine SWp.cF' (b:=decide (i9 < (r3.length:Int))) (by simp) hb14 ?_
   refine SWp.exit ?_
   have h29:=congrArg some (ho11 _ (Option.some.inj h10).symm)
   cases h29
   exact hK6 _ () [] trivial (by simp [y])
 refine SWp.sR rfl (u _ rfl) fun K q=>?_
 iterate 2 (refine wC rfl fun K q=>?_;simp [y];refine q _ ?_;clear q)
 refine wN (q _ ?_);clear q
 cases h
 refine SWp.ret ?_
 simp [aC,iB,res17]
theorem res26:Tryz.f26.results.toList=[.tmp 4]:=rfl
theorem ent26:aE E.P 26:=eO Tryz.func26 (by simp [Tryz.f26]) rfl
theorem pX (p1:GProgram) (fn2:Int) {r0:List Int} (h:fA p1 fn2=some r0):Ok E 26 [.val (GProgram.enc false p1),.val (vi fn2)] [.sl true 1 (List.map vi r0)] []:=by
 refine oB (fn:=Tryz.f26) Tryz.func26 rfl (by simp [Tryz.f26]) fun C hN hP=>?_
 have u:∀ l,pinK [] l=true→pinB C.pin l=true:=pO (by rw [hP];rfl)
 have y:C.N=84:=hN
 clear hN
 unfold fA at h
 refine SWp.sR rfl (u _ rfl) fun K q=>?_
 iterate 2 (refine wC rfl fun K q=>?_;simp [y];refine q _ ?_;clear q)
 refine wN (q _ ?_);clear q
 refine SWp.sR rfl (u _ rfl) fun K q=>?_
 iterate 2 (refine wC rfl fun K q=>?_;simp [y];refine q _ ?_;clear q)
 refine wN (q _ ?_);clear q
 refine SWp.seq ?_
 refine SWp.sR rfl (u _ rfl) fun K q=>?_
 iterate 5 (refine wC rfl fun K q=>?_;simp [y];refine q _ ?_;clear q)
 obtain ⟨r3,hc4,h⟩:=bS h
 refine wL [(.take,.tmp 13),(.take,.const (.int .i64 0)),(.take,.tmp 17)] rfl rfl mW (aK _ _ _ hc4) fun K q=>?_;simp [y];refine q _ ?_;clear q
 refine wC rfl fun K q=>?_;simp [y];refine q _ ?_;clear q
 refine wN (q _ ?_);clear q
 rcases aA h with ⟨hb5,h⟩ | ⟨hb6,h⟩
 ·refine SWp.cT' (b:=!r3) (by simp) hb5 ?_
  refine SWp.sR rfl (u _ rfl) fun K q=>?_
  iterate 2 (refine wC rfl fun K q=>?_;simp [y];refine q _ ?_;clear q)
  refine wN (q _ ?_);clear q
  cases h
  refine SWp.ret ?_
  simp [aC,iB,res26]
 ·refine SWp.cF' (b:=!r3) (by simp) hb6 ?_
  refine SWp.skip ?_
  show SWp E C _ _ _
  refine SWp.sR rfl (u _ rfl) fun K q=>?_
  iterate 3 (refine wC rfl fun K q=>?_;simp [y];refine q _ ?_;clear q)
  obtain ⟨l7,hl7,h⟩:=bS h
  obtain ⟨hl7a,hl7b,hl7c,hl7d⟩:=mS hl7
  have hl7f:List.replicate (p1.Fns.length:Int).toNat (vb false)=List.map vb l7:=nO (f:=vb) hl7d
  try simp only [Int.toNat_natCast] at hl7f
  iterate 2 (refine wC rfl fun K q=>?_;simp [y,hl7a,hl7b,hl7c,hl7f];refine q _ ?_;clear q)
  refine wN (q _ ?_);clear q
  refine SWp.sR rfl (u _ rfl) fun K q=>?_
  iterate 2 (refine wC rfl fun K q=>?_;simp [y];refine q _ ?_;clear q)
  obtain ⟨e8,he8,h⟩:=bS h
  obtain ⟨he8a,he8b,he8c,he8d⟩:=gS he8
  refine wC rfl fun K q=>?_;simp [y,he8a,he8b,he8c,he8d];refine q _ ?_;clear q
  obtain ⟨l9,hl9,h⟩:=bZ h
  have hl9f:(List.map vb l7).set fn2.toNat (vb true)=List.map vb l9:=cE (f:=vb) hl9
  try simp only [Int.toNat_natCast] at hl9f
  refine wC rfl fun K q=>?_;simp [y,he8a,he8b,he8c,he8d,hl9f];refine q _ ?_;clear q
  refine wN (q _ ?_);clear q
  refine SWp.sR rfl (u _ rfl) fun K q=>?_
  iterate 3 (refine wC rfl fun K q=>?_;simp [y];refine q _ ?_;clear q)
  refine wN (q _ ?_);clear q
  obtain ⟨has49,hj10,h⟩:=bS h
  refine SWp.seqC [5,6] [] (fun _:Unit=>⟨[(5,.t (.sl true 1 [])),(6,.t (.sl true 1 (List.map vb has49)))],[]⟩) (fun _=>True) (fun _ _=>?_) fun K11 hK11=>?_
  rotate_left
  ·refine SWp.sR rfl (u _ rfl) fun K q=>?_
   refine wC rfl fun K q=>?_;simp [y];refine q _ ?_;clear q
   refine wN (q _ ?_);clear q
   refine SWp.block ?_
   refine SWp.loopO [] [2,5,6,7,8] [2] (fun v:(List Bool) × (List Int) × Int=>⟨[(2,.ref (.box 2) 0 []),(5,.t (.sl true 1 [])),(6,.t (.sl true 1 (List.map vb v.1))),(7,.t (.sl true 1 (List.map vi v.2.1))),(8,.t (vi v.2.2))],[(2,[.sl false 4 (List.map (GNode.enc false) p1.Nodes),.sl false 5 (List.map (GFn.enc false) p1.Fns)])]⟩) (bT p1) _ (l9,[fn2],0) hj10 (by simp [y]) ?_
   intro g s18 h16 ho17
   obtain ⟨has13,list14,i15⟩:=g
   simp only [bT] at h16
   try dsimp only
   refine SWp.seq ?_
   refine SWp.sR rfl (u _ rfl) fun K q=>?_
   iterate 4 (refine wC rfl fun K q=>?_;simp [y];refine q _ ?_;clear q)
   refine wN (q _ ?_);clear q
   rcases aA h16 with ⟨hb19,h16⟩ | ⟨hb20,h16⟩
   ·refine SWp.cT' (b:=decide (i15 < (list14.length:Int))) (by simp) hb19 ?_
    refine SWp.skip ?_
    show SWp E C _ _ _
    obtain ⟨⟨has46,list47⟩,hj21,h16⟩:=bS h16
    try dsimp only at h16
    refine SWp.seqC [2,5,6,7,8] [2] (fun _:Unit=>⟨[(2,.ref (.box 2) 0 []),(5,.t (.sl true 1 [])),(6,.t (.sl true 1 (List.map vb has46))),(7,.t (.sl true 1 (List.map vi list47))),(8,.t (vi i15))],[(2,[.sl false 4 (List.map (GNode.enc false) p1.Nodes),.sl false 5 (List.map (GFn.enc false) p1.Fns)])]⟩) (fun _=>True) (fun _ _=>?_) fun K22 hK22=>?_
    rotate_left
    ·refine SWp.block ?_
     refine SWp.seq ?_
     obtain ⟨e25,he25,hj21⟩:=bS hj21
     obtain ⟨he25a,he25b,he25c,he25d⟩:=gS he25
     refine SWp.dT rfl (u _ rfl) [(36,.t (GProgram.enc false p1)),(37,.al (.slot 7) 0 [] none),(38,.t (vi i15)),(39,.ref (.slot 7) 0 [(i15.toNat,0)]),(40,.t (vi e25))] [[],[],[],[1,2],[1,2,3],[0,1,2,3,4],[0,1,2,3,4,5]] (by simp) (by simp) (by simp [look]) rfl rfl rfl ?_ fun K q=>?_
     ·refine ⟨?_,?_,?_,?_,?_,trivial⟩
      all_goals (intro τ hbx hb hd hf K q;try simp [vsAt] at hd;simp [vsAt] at hf;first | (refine wC rfl fun K' q'=>?_;simp [y,hbx,hb,hd,hf,he25a,he25b,he25c,he25d];exact q' _ (wN (q _ (by simp [vsAt,hbx,he25a,he25b,he25c,he25d])))))
     obtain ⟨r26,hc27,hj21⟩:=bS hj21
     refine wL [(.take,.tmp 36),(.take,.tmp 40)] rfl rfl ent17 (spec_CallsOf_ok _ _ hc27) fun K q=>?_;simp [y,he25a,he25b,he25c,he25d];refine q _ ?_;clear q
     refine wC rfl fun K q=>?_;simp [y,he25a,he25b,he25c,he25d];refine q _ ?_;clear q
     refine wN (q _ ?_);clear q
     show SWp E C _ _ _
     refine SWp.sR rfl (u _ rfl) fun K q=>?_
     refine wC rfl fun K q=>?_;simp [y];refine q _ ?_;clear q
     refine wN (q _ ?_);clear q
     refine SWp.block ?_
     refine SWp.loopO [] [2,5,6,7,8,9,10] [2] (fun v:(List Bool) × (List Int) × Int=>⟨[(2,.ref (.box 2) 0 []),(5,.t (.sl true 1 [])),(6,.t (.sl true 1 (List.map vb v.1))),(7,.t (.sl true 1 (List.map vi v.2.1))),(8,.t (vi i15)),(9,.t (.sl true 1 (List.map vi r26))),(10,.t (vi v.2.2))],[(2,[.sl false 4 (List.map (GNode.enc false) p1.Nodes),.sl false 5 (List.map (GFn.enc false) p1.Fns)])]⟩) (bR r26) _ (has13,list14,0) hj21 (by simp [y]) ?_
     intro g s33 h31 ho32
     obtain ⟨has28,list29,k30⟩:=g
     simp only [bR] at h31
     try dsimp only
     refine SWp.seq ?_
     refine SWp.sR rfl (u _ rfl) fun K q=>?_
     iterate 4 (refine wC rfl fun K q=>?_;simp [y];refine q _ ?_;clear q)
     refine wN (q _ ?_);clear q
     rcases aA h31 with ⟨hb34,h31⟩ | ⟨hb35,h31⟩
     ·refine SWp.cT' (b:=decide (k30 < (r26.length:Int))) (by simp) hb34 ?_
      refine SWp.skip ?_
      show SWp E C _ _ _
      refine SWp.seq ?_
      refine SWp.block ?_
      refine SWp.sR rfl (u _ rfl) fun K q=>?_
      iterate 3 (refine wC rfl fun K q=>?_;simp [y];refine q _ ?_;clear q)
      obtain ⟨e36,he36,h31⟩:=bS h31
      obtain ⟨he36a,he36b,he36c,he36d⟩:=gS he36
      iterate 2 (refine wC rfl fun K q=>?_;simp [y,he36a,he36b,he36c,he36d];refine q _ ?_;clear q)
      obtain ⟨e37,he37,h31⟩:=bS h31
      obtain ⟨he37a,he37b,he37c,he37d⟩:=gS he37
      iterate 3 (refine wC rfl fun K q=>?_;simp [y,he36a,he36b,he36c,he36d,he37a,he37b,he37c,he37d];refine q _ ?_;clear q)
      refine wN (q _ ?_);clear q
      rcases aA h31 with ⟨hb38,h31⟩ | ⟨hb39,h31⟩
      ·refine SWp.cT' (b:=!e37) (by simp) hb38 ?_
       refine SWp.sR rfl (u _ rfl) fun K q=>?_
       iterate 3 (refine wC rfl fun K q=>?_;simp [y];refine q _ ?_;clear q)
       obtain ⟨e40,he40,h31⟩:=bS h31
       obtain ⟨he40a,he40b,he40c,he40d⟩:=gS he40
       iterate 2 (refine wC rfl fun K q=>?_;simp [y,he40a,he40b,he40c,he40d];refine q _ ?_;clear q)
       obtain ⟨e41,he41,h31⟩:=bS h31
       obtain ⟨he41a,he41b,he41c,he41d⟩:=gS he41
       refine wC rfl fun K q=>?_;simp [y,he40a,he40b,he40c,he40d,he41a,he41b,he41c,he41d];refine q _ ?_;clear q
       obtain ⟨l42,hl42,h31⟩:=bZ h31
       have hl42f:(List.map vb has28).set e40.toNat (vb true)=List.map vb l42:=cE (f:=vb) hl42
       try simp only [Int.toNat_natCast] at hl42f
       refine wC rfl fun K q=>?_;simp [y,he40a,he40b,he40c,he40d,he41a,he41b,he41c,he41d,hl42f];refine q _ ?_;clear q
       refine wN (q _ ?_);clear q
       refine SWp.reg rfl (u _ rfl) fun K q=>?_
       iterate 3 (refine wC rfl fun K q=>?_;simp [y];refine q _ ?_;clear q)
       obtain ⟨e43,he43,h31⟩:=bS h31
       obtain ⟨he43a,he43b,he43c,he43d⟩:=gS he43
       iterate 3 (refine wC rfl fun K q=>?_;simp [y,he43a,he43b,he43c,he43d];refine q _ ?_;clear q)
       obtain ⟨l44,hl44,h31⟩:=bS h31
       obtain ⟨hl44a,hl44b,hl44d⟩:=aS hl44
       have hl44f:List.map vi list29 ++ List.map vi [e43]=List.map vi l44:=cC (f:=vi) hl44d
       simp [eSl] at hl44a hl44b hl44f
       iterate 2 (refine wC rfl fun K q=>?_;simp [y,he43a,he43b,he43c,he43d,hl44a,hl44b,hl44f];refine q _ ?_;clear q)
       refine wN (q _ ?_);clear q
       show SWp E C _ _ _
       refine SWp.reg rfl (u _ rfl) fun K q=>?_
       iterate 3 (refine wC rfl fun K q=>?_;simp [y];refine q _ ?_;clear q)
       refine wN (q _ ?_);clear q
       cases h31
       exact ⟨_,[],rfl,by simp [y]⟩
      ·refine SWp.cF' (b:=!e37) (by simp) hb39 ?_
       refine SWp.skip ?_
       show SWp E C _ _ _
       refine SWp.reg rfl (u _ rfl) fun K q=>?_
       iterate 3 (refine wC rfl fun K q=>?_;simp [y];refine q _ ?_;clear q)
       refine wN (q _ ?_);clear q
       cases h31
       exact ⟨_,[],rfl,by simp [y]⟩
     ·refine SWp.cF' (b:=decide (k30 < (r26.length:Int))) (by simp) hb35 ?_
      refine SWp.exit ?_
      have h45:=congrArg some (ho32 _ (Option.some.inj h31).symm)
      cases h45
      exact hK22 _ () [] trivial (by simp [y])
    refine SWp.reg rfl (u _ rfl) fun K q=>?_
    iterate 3 (refine wC rfl fun K q=>?_;simp [y];refine q _ ?_;clear q)
    refine wN (q _ ?_);clear q
    cases h16
    exact ⟨_,[],rfl,by simp [y]⟩
   ·refine SWp.cF' (b:=decide (i15 < (list14.length:Int))) (by simp) hb20 ?_
    refine SWp.exit ?_
    have h48:=congrArg some (ho17 _ (Option.some.inj h16).symm)
    cases h48
    exact hK11 _ () [] trivial (by simp [y])
  obtain ⟨out65,hj50,h⟩:=bS h
  refine SWp.seqC [5] [] (fun _:Unit=>⟨[(5,.t (.sl true 1 (List.map vi out65)))],[]⟩) (fun _=>True) (fun _ _=>?_) fun K51 hK51=>?_
  rotate_left
  ·refine SWp.sR rfl (u _ rfl) fun K q=>?_
   refine wC rfl fun K q=>?_;simp [y];refine q _ ?_;clear q
   refine wN (q _ ?_);clear q
   refine SWp.block ?_
   refine SWp.loopO [] [5,6,11] [] (fun v:(List Int) × Int=>⟨[(5,.t (.sl true 1 (List.map vi v.1))),(6,.t (.sl true 1 (List.map vb has49))),(11,.t (vi v.2))],[]⟩) (bQ has49) _ ([],0) hj50 (by simp [y]) ?_
   intro g s57 h55 ho56
   obtain ⟨out53,i54⟩:=g
   simp only [bQ] at h55
   try dsimp only
   refine SWp.seq ?_
   refine SWp.sR rfl (u _ rfl) fun K q=>?_
   iterate 4 (refine wC rfl fun K q=>?_;simp [y];refine q _ ?_;clear q)
   refine wN (q _ ?_);clear q
   rcases aA h55 with ⟨hb58,h55⟩ | ⟨hb59,h55⟩
   ·refine SWp.cT' (b:=decide (i54 < (has49.length:Int))) (by simp) hb58 ?_
    refine SWp.skip ?_
    show SWp E C _ _ _
    refine SWp.seq ?_
    refine SWp.block ?_
    refine SWp.sR rfl (u _ rfl) fun K q=>?_
    iterate 2 (refine wC rfl fun K q=>?_;simp [y];refine q _ ?_;clear q)
    obtain ⟨e60,he60,h55⟩:=bS h55
    obtain ⟨he60a,he60b,he60c,he60d⟩:=gS he60
    iterate 2 (refine wC rfl fun K q=>?_;simp [y,he60a,he60b,he60c,he60d];refine q _ ?_;clear q)
    refine wN (q _ ?_);clear q
    rcases aA h55 with ⟨hb61,h55⟩ | ⟨hb62,h55⟩
    ·refine SWp.cT' (b:=e60) (by simp) hb61 ?_
     refine SWp.reg rfl (u _ rfl) fun K q=>?_
     iterate 3 (refine wC rfl fun K q=>?_;simp [y];refine q _ ?_;clear q)
     obtain ⟨l63,hl63,h55⟩:=bS h55
     obtain ⟨hl63a,hl63b,hl63d⟩:=aS hl63
     have hl63f:List.map vi out53 ++ List.map vi [i54]=List.map vi l63:=cC (f:=vi) hl63d
     simp [eSl] at hl63a hl63b hl63f
     iterate 2 (refine wC rfl fun K q=>?_;simp [y,hl63a,hl63b,hl63f];refine q _ ?_;clear q)
     refine wN (q _ ?_);clear q
     show SWp E C _ _ _
     refine SWp.reg rfl (u _ rfl) fun K q=>?_
     iterate 3 (refine wC rfl fun K q=>?_;simp [y];refine q _ ?_;clear q)
     refine wN (q _ ?_);clear q
     cases h55
     exact ⟨_,[],rfl,by simp [y]⟩
    ·refine SWp.cF' (b:=e60) (by simp) hb62 ?_
     refine SWp.skip ?_
     show SWp E C _ _ _
     refine SWp.reg rfl (u _ rfl) fun K q=>?_
     iterate 3 (refine wC rfl fun K q=>?_;simp [y];refine q _ ?_;clear q)
     refine wN (q _ ?_);clear q
     cases h55
     exact ⟨_,[],rfl,by simp [y]⟩
   ·refine SWp.cF' (b:=decide (i54 < (has49.length:Int))) (by simp) hb59 ?_
    refine SWp.exit ?_
    have h64:=congrArg some (ho56 _ (Option.some.inj h55).symm)
    cases h64
    exact hK51 _ () [] trivial (by simp [y])
  refine SWp.sR rfl (u _ rfl) fun K q=>?_
  iterate 2 (refine wC rfl fun K q=>?_;simp [y];refine q _ ?_;clear q)
  refine wN (q _ ?_);clear q
  cases h
  refine SWp.ret ?_
  simp [aC,iB,res26]
theorem res58:Tryz.f58.results.toList=[.tmp 6]:=rfl
theorem ent58:aE E.P 58:=eO Tryz.func58 (by simp [Tryz.f58]) rfl
theorem nI (rec_spec_l04Pack_put:Gl04Pack→Int→Int→Option (Int × Gl04Pack)) (hrec_spec_l04Pack_put:∀ (a0:Gl04Pack) (a1:Int) (a2:Int) {r0:Int} {q0:Gl04Pack},rec_spec_l04Pack_put a0 a1 a2=some (r0,q0)→Ok E 58 [.ptr [.sl false 4 (List.map (GNode.enc false) a0.from_),.sl true 4 (List.map (GNode.enc true) a0.to_),vb a0.bad],.val (vi a1),.val (vi a2)] [vi r0] [[.sl false 4 (List.map (GNode.enc false) q0.from_),.sl true 4 (List.map (GNode.enc true) q0.to_),vb q0.bad]]) (x1:Gl04Pack) (k2:Int) (deep3:Int) {r0:Int} {q0:Gl04Pack} (h:aZ rec_spec_l04Pack_put x1 k2 deep3=some (r0,q0)):Ok E 58 [.ptr [.sl false 4 (List.map (GNode.enc false) x1.from_),.sl true 4 (List.map (GNode.enc true) x1.to_),vb x1.bad],.val (vi k2),.val (vi deep3)] [vi r0] [[.sl false 4 (List.map (GNode.enc false) q0.from_),.sl true 4 (List.map (GNode.enc true) q0.to_),vb q0.bad]]:=by
 refine oB (fn:=Tryz.f58) Tryz.func58 rfl (by simp [Tryz.f58]) fun C hN hP=>?_
 have u:∀ l,pinK [] l=true→pinB C.pin l=true:=pO (by rw [hP];rfl)
 have y:C.N=122:=hN
 clear hN
 unfold aZ at h
 refine SWp.sR rfl (u _ rfl) fun K q=>?_
 refine wC rfl fun K q=>?_;simp [y];refine q _ ?_;clear q
 refine wN (q _ ?_);clear q
 refine SWp.seq ?_
 obtain ⟨v14,hj4,h⟩:=bS h
 refine SWp.seqRC rfl (u _ rfl) [0,1,2,36] [122] (fun _:Unit=>⟨[(0,.ref (.box 122) 0 []),(1,.t (vi k2)),(2,.t (vi deep3)),(36,.t (vb v14))],[(122,[.sl false 4 (List.map (GNode.enc false) x1.from_),.sl true 4 (List.map (GNode.enc true) x1.to_),vb x1.bad])]⟩) (fun _=>True) (fun _ _=>?_) fun K5 hK5=>?_
 rotate_left
 ·refine wC rfl fun K q=>?_;simp [y];refine q _ ?_;clear q
  iterate 4 (refine wC rfl fun K q=>?_;simp [y];refine q _ ?_;clear q)
  rcases aA hj4 with ⟨hb6,hj4⟩ | ⟨hb7,hj4⟩
  ·have hb6s:=hb6
   try simp at hb6s
   iterate 2 (refine wO fun K q=>?_;simp [y,hb6,hb6s];refine q _ ?_;clear q)
   iterate 2 (refine wC rfl fun K q=>?_;simp [y,hb6,hb6s];refine q _ ?_;clear q)
   iterate 9 (refine wO fun K q=>?_;simp [y,hb6,hb6s];refine q _ ?_;clear q)
   iterate 2 (refine wC rfl fun K q=>?_;simp [y,hb6,hb6s];refine q _ ?_;clear q)
   iterate 6 (refine wO fun K q=>?_;simp [y,hb6,hb6s];refine q _ ?_;clear q)
   refine wC rfl fun K q=>?_;simp [y,hb6,hb6s];refine q _ ?_;clear q
   refine wN ?_
   cases hj4
   exact hK5 _ () [] trivial (by simp [y,hb6,hb6s])
  ·have hb7s:=hb7
   try simp at hb7s
   iterate 4 (refine wC rfl fun K q=>?_;simp [y,hb7,hb7s];refine q _ ?_;clear q)
   rcases aA hj4 with ⟨hb8,hj4⟩ | ⟨hb9,hj4⟩
   ·have hb8s:=hb8
    try simp at hb8s
    iterate 9 (refine wO fun K q=>?_;simp [y,hb7,hb7s,hb8,hb8s];refine q _ ?_;clear q)
    iterate 2 (refine wC rfl fun K q=>?_;simp [y,hb7,hb7s,hb8,hb8s];refine q _ ?_;clear q)
    iterate 6 (refine wO fun K q=>?_;simp [y,hb7,hb7s,hb8,hb8s];refine q _ ?_;clear q)
    refine wC rfl fun K q=>?_;simp [y,hb7,hb7s,hb8,hb8s];refine q _ ?_;clear q
    refine wN ?_
    cases hj4
    exact hK5 _ () [] trivial (by simp [y,hb7,hb7s,hb8,hb8s])
   ·have hb9s:=hb9
    try simp at hb9s
    iterate 7 (refine wC rfl fun K q=>?_;simp [y,hb7,hb7s,hb9,hb9s];refine q _ ?_;clear q)
    obtain ⟨r10,hc11,hj4⟩:=bS hj4
    refine wL [(.take,.tmp 19),(.take,.const (.int .i64 0)),(.take,.tmp 25)] rfl rfl mW (aK _ _ _ hc11) fun K q=>?_;simp [y,hb7,hb7s,hb9,hb9s];refine q _ ?_;clear q
    iterate 3 (refine wC rfl fun K q=>?_;simp [y,hb7,hb7s,hb9,hb9s];refine q _ ?_;clear q)
    rcases aA hj4 with ⟨hb12,hj4⟩ | ⟨hb13,hj4⟩
    ·have hb12s:=hb12
     try simp at hb12s
     iterate 6 (refine wO fun K q=>?_;simp [y,hb7,hb7s,hb9,hb9s,hb12,hb12s];refine q _ ?_;clear q)
     refine wC rfl fun K q=>?_;simp [y,hb7,hb7s,hb9,hb9s,hb12,hb12s];refine q _ ?_;clear q
     refine wN ?_
     cases hj4
     exact hK5 _ () [] trivial (by simp [y,hb7,hb7s,hb9,hb9s,hb12,hb12s])
    ·have hb13s:=hb13
     try simp at hb13s
     iterate 7 (refine wC rfl fun K q=>?_;simp [y,hb7,hb7s,hb9,hb9s,hb13,hb13s];refine q _ ?_;clear q)
     refine wN ?_
     cases hj4
     exact hK5 _ () [] trivial (by simp [y,hb7,hb7s,hb9,hb9s,hb13,hb13s])
 rcases aA h with ⟨hb15,h⟩ | ⟨hb16,h⟩
 ·refine SWp.cT' (b:=v14) (by simp) hb15 ?_
  refine SWp.sR rfl (u _ rfl) fun K q=>?_
  iterate 4 (refine wC rfl fun K q=>?_;simp [y];refine q _ ?_;clear q)
  refine wN (q _ ?_);clear q
  refine SWp.sR rfl (u _ rfl) fun K q=>?_
  refine wC rfl fun K q=>?_;simp [y];refine q _ ?_;clear q
  refine wN (q _ ?_);clear q
  cases h
  refine SWp.ret ?_
  simp [aC,iB,res58]
 ·refine SWp.cF' (b:=v14) (by simp) hb16 ?_
  refine SWp.skip ?_
  show SWp E C _ _ _
  refine SWp.seq ?_
  obtain ⟨e17,he17,h⟩:=bS h
  obtain ⟨he17a,he17b,he17c,he17d⟩:=gS he17
  refine SWp.drawY rfl (u _ rfl) [(40,.ref (.box 122) 0 []),(41,.ref (.box 122) 0 []),(42,.ref (.box 122) 0 []),(43,.t (.sl false 4 (List.map (GNode.enc false) x1.from_))),(44,.t (vi k2)),(45,.rop [vi e17.Kind,vi e17.Num,vs e17.Name,.sl false 1 (List.map vi e17.Kids)] 0),(46,.rop [vi e17.Kind,vi e17.Num,vs e17.Name,.sl false 1 (List.map vi e17.Kids)] 0),(47,.t (vi e17.Kind)),(48,.ref (.box 122) 0 []),(49,.ref (.box 122) 0 []),(50,.ref (.box 122) 0 []),(51,.t (.sl false 4 (List.map (GNode.enc false) x1.from_))),(52,.t (vi k2)),(53,.rop [vi e17.Kind,vi e17.Num,vs e17.Name,.sl false 1 (List.map vi e17.Kids)] 0),(54,.rop [vi e17.Kind,vi e17.Num,vs e17.Name,.sl false 1 (List.map vi e17.Kids)] 1),(55,.t (vi e17.Num)),(56,.ref (.box 122) 0 []),(57,.ref (.box 122) 0 []),(58,.ref (.box 122) 0 []),(59,.t (.sl false 4 (List.map (GNode.enc false) x1.from_))),(60,.t (vi k2)),(61,.rop [vi e17.Kind,vi e17.Num,vs e17.Name,.sl false 1 (List.map vi e17.Kids)] 0),(62,.rop [vi e17.Kind,vi e17.Num,vs e17.Name,.sl false 1 (List.map vi e17.Kids)] 2),(63,.t (vs e17.Name)),(64,.t (.agg [vi e17.Kind,vi e17.Num,vs e17.Name,.sl true 1 []])),(7,.ref (.box 7) 0 [])] [[],[],[],[],[],[],[],[],[],[],[],[],[],[],[],[],[],[],[],[],[],[],[],[],[],[(7,[vi 0,vi 0,vs ByteArray.empty,.sl true 1 []])]] [[],[0],[0,1],[0,1,2],[],[0,1,2,3,4],[0,1,2,3,4,5],[0,1,2,3,4,5,6],[],[8],[8,9],[8,9,10],[],[8,9,10,11,12],[8,9,10,11,12,13],[8,9,10,11,12,13,14],[],[16],[16,17],[16,17,18],[],[16,17,18,19,20],[16,17,18,19,20,21],[16,17,18,19,20,21,22],[0,1,2,3,4,5,6,7,8,9,10,11,12,13,14,15,16,17,18,19,20,21,22,23],[],[0,1,2,3,4,5,6,7,8,9,10,11,12,13,14,15,16,17,18,19,20,21,22,23,24,25]] rfl (by simp) (by simp) (by simp [look]) rfl rfl rfl ?_ fun K q=>?_
  ·refine ⟨?_,?_,?_,?_,?_,?_,?_,?_,?_,?_,?_,?_,?_,?_,?_,?_,?_,?_,?_,?_,?_,?_,?_,?_,?_,?_,trivial⟩
   ·intro τ D hbx hb hd hf d0 g1 g2 hT
    cases d25:D 25<;>(intro K q;try simp [vsAt] at hd;simp [vsAt] at hf;simp [famX,putX,d0,d25] at hbx;refine wC rfl fun K' q'=>?_;simp [y,hbx,hb,hd,hf,he17a,he17b,he17c,he17d];exact q' _ (wN (q _ (by simp [vsAt,famX,putX,upd1,hbx,d0,d25,he17a,he17b,he17c,he17d]))))
   ·intro τ D hbx hb hd hf d1 g1 g2 hT
    cases d25:D 25<;>(intro K q;try simp [vsAt] at hd;simp [vsAt] at hf;simp [famX,putX,d1,d25] at hbx;refine wC rfl fun K' q'=>?_;simp [y,hbx,hb,hd,hf,he17a,he17b,he17c,he17d];exact q' _ (wN (q _ (by simp [vsAt,famX,putX,upd1,hbx,d1,d25,he17a,he17b,he17c,he17d]))))
   ·intro τ D hbx hb hd hf d2 g1 g2 hT
    cases d25:D 25<;>(intro K q;try simp [vsAt] at hd;simp [vsAt] at hf;simp [famX,putX,d2,d25] at hbx;refine wC rfl fun K' q'=>?_;simp [y,hbx,hb,hd,hf,he17a,he17b,he17c,he17d];exact q' _ (wN (q _ (by simp [vsAt,famX,putX,upd1,hbx,d2,d25,he17a,he17b,he17c,he17d]))))
   ·intro τ D hbx hb hd hf d3 g1 g2 hT
    cases d25:D 25<;>(intro K q;try simp [vsAt] at hd;simp [vsAt] at hf;simp [famX,putX,d3,d25] at hbx;refine wC rfl fun K' q'=>?_;simp [y,hbx,hb,hd,hf,he17a,he17b,he17c,he17d];exact q' _ (wN (q _ (by simp [vsAt,famX,putX,upd1,hbx,d3,d25,he17a,he17b,he17c,he17d]))))
   ·intro τ D hbx hb hd hf d4 g1 g2 hT
    cases d25:D 25<;>(intro K q;try simp [vsAt] at hd;simp [vsAt] at hf;simp [famX,putX,d4,d25] at hbx;refine wC rfl fun K' q'=>?_;simp [y,hbx,hb,hd,hf,he17a,he17b,he17c,he17d];exact q' _ (wN (q _ (by simp [vsAt,famX,putX,upd1,hbx,d4,d25,he17a,he17b,he17c,he17d]))))
   ·intro τ D hbx hb hd hf d5 g1 g2 hT
    cases d25:D 25<;>(intro K q;try simp [vsAt] at hd;simp [vsAt] at hf;simp [famX,putX,d5,d25] at hbx;refine wC rfl fun K' q'=>?_;simp [y,hbx,hb,hd,hf,he17a,he17b,he17c,he17d];exact q' _ (wN (q _ (by simp [vsAt,famX,putX,upd1,hbx,d5,d25,he17a,he17b,he17c,he17d]))))
   ·intro τ D hbx hb hd hf d6 g1 g2 hT
    cases d25:D 25<;>(intro K q;try simp [vsAt] at hd;simp [vsAt] at hf;simp [famX,putX,d6,d25] at hbx;refine wC rfl fun K' q'=>?_;simp [y,hbx,hb,hd,hf,he17a,he17b,he17c,he17d];exact q' _ (wN (q _ (by simp [vsAt,famX,putX,upd1,hbx,d6,d25,he17a,he17b,he17c,he17d]))))
   ·intro τ D hbx hb hd hf d7 g1 g2 hT
    cases d25:D 25<;>(intro K q;try simp [vsAt] at hd;simp [vsAt] at hf;simp [famX,putX,d7,d25] at hbx;refine wC rfl fun K' q'=>?_;simp [y,hbx,hb,hd,hf,he17a,he17b,he17c,he17d];exact q' _ (wN (q _ (by simp [vsAt,famX,putX,upd1,hbx,d7,d25,he17a,he17b,he17c,he17d]))))
   ·intro τ D hbx hb hd hf d8 g1 g2 hT
    cases d25:D 25<;>(intro K q;try simp [vsAt] at hd;simp [vsAt] at hf;simp [famX,putX,d8,d25] at hbx;refine wC rfl fun K' q'=>?_;simp [y,hbx,hb,hd,hf,he17a,he17b,he17c,he17d];exact q' _ (wN (q _ (by simp [vsAt,famX,putX,upd1,hbx,d8,d25,he17a,he17b,he17c,he17d]))))
   ·intro τ D hbx hb hd hf d9 g1 g2 hT
    cases d25:D 25<;>(intro K q;try simp [vsAt] at hd;simp [vsAt] at hf;simp [famX,putX,d9,d25] at hbx;refine wC rfl fun K' q'=>?_;simp [y,hbx,hb,hd,hf,he17a,he17b,he17c,he17d];exact q' _ (wN (q _ (by simp [vsAt,famX,putX,upd1,hbx,d9,d25,he17a,he17b,he17c,he17d]))))
   ·intro τ D hbx hb hd hf d10 g1 g2 hT
    cases d25:D 25<;>(intro K q;try simp [vsAt] at hd;simp [vsAt] at hf;simp [famX,putX,d10,d25] at hbx;refine wC rfl fun K' q'=>?_;simp [y,hbx,hb,hd,hf,he17a,he17b,he17c,he17d];exact q' _ (wN (q _ (by simp [vsAt,famX,putX,upd1,hbx,d10,d25,he17a,he17b,he17c,he17d]))))
   ·intro τ D hbx hb hd hf d11 g1 g2 hT
    cases d25:D 25<;>(intro K q;try simp [vsAt] at hd;simp [vsAt] at hf;simp [famX,putX,d11,d25] at hbx;refine wC rfl fun K' q'=>?_;simp [y,hbx,hb,hd,hf,he17a,he17b,he17c,he17d];exact q' _ (wN (q _ (by simp [vsAt,famX,putX,upd1,hbx,d11,d25,he17a,he17b,he17c,he17d]))))
   ·intro τ D hbx hb hd hf d12 g1 g2 hT
    cases d25:D 25<;>(intro K q;try simp [vsAt] at hd;simp [vsAt] at hf;simp [famX,putX,d12,d25] at hbx;refine wC rfl fun K' q'=>?_;simp [y,hbx,hb,hd,hf,he17a,he17b,he17c,he17d];exact q' _ (wN (q _ (by simp [vsAt,famX,putX,upd1,hbx,d12,d25,he17a,he17b,he17c,he17d]))))
   ·intro τ D hbx hb hd hf d13 g1 g2 hT
    cases d25:D 25<;>(intro K q;try simp [vsAt] at hd;simp [vsAt] at hf;simp [famX,putX,d13,d25] at hbx;refine wC rfl fun K' q'=>?_;simp [y,hbx,hb,hd,hf,he17a,he17b,he17c,he17d];exact q' _ (wN (q _ (by simp [vsAt,famX,putX,upd1,hbx,d13,d25,he17a,he17b,he17c,he17d]))))
   ·intro τ D hbx hb hd hf d14 g1 g2 hT
    cases d25:D 25<;>(intro K q;try simp [vsAt] at hd;simp [vsAt] at hf;simp [famX,putX,d14,d25] at hbx;refine wC rfl fun K' q'=>?_;simp [y,hbx,hb,hd,hf,he17a,he17b,he17c,he17d];exact q' _ (wN (q _ (by simp [vsAt,famX,putX,upd1,hbx,d14,d25,he17a,he17b,he17c,he17d]))))
   ·intro τ D hbx hb hd hf d15 g1 g2 hT
    cases d25:D 25<;>(intro K q;try simp [vsAt] at hd;simp [vsAt] at hf;simp [famX,putX,d15,d25] at hbx;refine wC rfl fun K' q'=>?_;simp [y,hbx,hb,hd,hf,he17a,he17b,he17c,he17d];exact q' _ (wN (q _ (by simp [vsAt,famX,putX,upd1,hbx,d15,d25,he17a,he17b,he17c,he17d]))))
   ·intro τ D hbx hb hd hf d16 g1 g2 hT
    cases d25:D 25<;>(intro K q;try simp [vsAt] at hd;simp [vsAt] at hf;simp [famX,putX,d16,d25] at hbx;refine wC rfl fun K' q'=>?_;simp [y,hbx,hb,hd,hf,he17a,he17b,he17c,he17d];exact q' _ (wN (q _ (by simp [vsAt,famX,putX,upd1,hbx,d16,d25,he17a,he17b,he17c,he17d]))))
   ·intro τ D hbx hb hd hf d17 g1 g2 hT
    cases d25:D 25<;>(intro K q;try simp [vsAt] at hd;simp [vsAt] at hf;simp [famX,putX,d17,d25] at hbx;refine wC rfl fun K' q'=>?_;simp [y,hbx,hb,hd,hf,he17a,he17b,he17c,he17d];exact q' _ (wN (q _ (by simp [vsAt,famX,putX,upd1,hbx,d17,d25,he17a,he17b,he17c,he17d]))))
   ·intro τ D hbx hb hd hf d18 g1 g2 hT
    cases d25:D 25<;>(intro K q;try simp [vsAt] at hd;simp [vsAt] at hf;simp [famX,putX,d18,d25] at hbx;refine wC rfl fun K' q'=>?_;simp [y,hbx,hb,hd,hf,he17a,he17b,he17c,he17d];exact q' _ (wN (q _ (by simp [vsAt,famX,putX,upd1,hbx,d18,d25,he17a,he17b,he17c,he17d]))))
   ·intro τ D hbx hb hd hf d19 g1 g2 hT
    cases d25:D 25<;>(intro K q;try simp [vsAt] at hd;simp [vsAt] at hf;simp [famX,putX,d19,d25] at hbx;refine wC rfl fun K' q'=>?_;simp [y,hbx,hb,hd,hf,he17a,he17b,he17c,he17d];exact q' _ (wN (q _ (by simp [vsAt,famX,putX,upd1,hbx,d19,d25,he17a,he17b,he17c,he17d]))))
   ·intro τ D hbx hb hd hf d20 g1 g2 hT
    cases d25:D 25<;>(intro K q;try simp [vsAt] at hd;simp [vsAt] at hf;simp [famX,putX,d20,d25] at hbx;refine wC rfl fun K' q'=>?_;simp [y,hbx,hb,hd,hf,he17a,he17b,he17c,he17d];exact q' _ (wN (q _ (by simp [vsAt,famX,putX,upd1,hbx,d20,d25,he17a,he17b,he17c,he17d]))))
   ·intro τ D hbx hb hd hf d21 g1 g2 hT
    cases d25:D 25<;>(intro K q;try simp [vsAt] at hd;simp [vsAt] at hf;simp [famX,putX,d21,d25] at hbx;refine wC rfl fun K' q'=>?_;simp [y,hbx,hb,hd,hf,he17a,he17b,he17c,he17d];exact q' _ (wN (q _ (by simp [vsAt,famX,putX,upd1,hbx,d21,d25,he17a,he17b,he17c,he17d]))))
   ·intro τ D hbx hb hd hf d22 g1 g2 hT
    cases d25:D 25<;>(intro K q;try simp [vsAt] at hd;simp [vsAt] at hf;simp [famX,putX,d22,d25] at hbx;refine wC rfl fun K' q'=>?_;simp [y,hbx,hb,hd,hf,he17a,he17b,he17c,he17d];exact q' _ (wN (q _ (by simp [vsAt,famX,putX,upd1,hbx,d22,d25,he17a,he17b,he17c,he17d]))))
   ·intro τ D hbx hb hd hf d23 g1 g2 hT
    cases d25:D 25<;>(intro K q;try simp [vsAt] at hd;simp [vsAt] at hf;simp [famX,putX,d23,d25] at hbx;refine wC rfl fun K' q'=>?_;simp [y,hbx,hb,hd,hf,he17a,he17b,he17c,he17d];exact q' _ (wN (q _ (by simp [vsAt,famX,putX,upd1,hbx,d23,d25,he17a,he17b,he17c,he17d]))))
   ·intro τ D hbx hb hd hf d24 g1 g2 hT
    cases d25:D 25<;>(intro K q;try simp [vsAt] at hd;simp [vsAt] at hf;simp [famX,putX,d24,d25] at hbx;refine wC rfl fun K' q'=>?_;simp [y,hbx,hb,hd,hf,he17a,he17b,he17c,he17d];exact q' _ (wN (q _ (by simp [vsAt,famX,putX,upd1,hbx,d24,d25,he17a,he17b,he17c,he17d]))))
   ·intro τ D hbx hb hd hf d25 g1 g2 hT
    have hkl:=killAll_id (.box 7) [25] hT rfl rfl (by simp [d25])
    simp only [AV.killAll,List.any_eq_true] at hkl
    (intro K q;try simp [vsAt] at hd;simp [vsAt] at hf;simp [famX,putX,d25] at hbx;refine wC rfl fun K' q'=>?_;simp [y,hbx,hb,hd,hf,he17a,he17b,he17c,he17d,hkl];exact q' _ (wN (q _ (by simp [vsAt,famX,putX,upd1,hbx,d25,he17a,he17b,he17c,he17d,hkl]))))
  simp [famD,putL,famX,putX]
  refine wC rfl fun K q=>?_;simp [y,he17a,he17b,he17c,he17d];refine q _ ?_;clear q
  refine wN (q _ ?_);clear q
  show SWp E C _ _ _
  obtain ⟨⟨v42,v43⟩,hj18,h⟩:=bS h
  try dsimp only at h
  refine SWp.seqC [0,7] [7,122] (fun _:Unit=>⟨[(0,.ref (.box 122) 0 []),(7,.ref (.box 7) 0 [])],[(7,[vi v42.Kind,vi v42.Num,vs v42.Name,.sl true 1 (List.map vi v42.Kids)]),(122,[.sl false 4 (List.map (GNode.enc false) v43.from_),.sl true 4 (List.map (GNode.enc true) v43.to_),vb v43.bad])]⟩) (fun _=>True) (fun _ _=>?_) fun K19 hK19=>?_
  rotate_left
  ·refine SWp.sR rfl (u _ rfl) fun K q=>?_
   refine wC rfl fun K q=>?_;simp [y];refine q _ ?_;clear q
   refine wN (q _ ?_);clear q
   refine SWp.block ?_
   refine SWp.loopO [] [0,1,2,7,8] [7,122] (fun v:Int × GNode × Gl04Pack=>⟨[(0,.ref (.box 122) 0 []),(1,.t (vi k2)),(2,.t (vi deep3)),(7,.ref (.box 7) 0 []),(8,.t (vi v.1))],[(7,[vi v.2.1.Kind,vi v.2.1.Num,vs v.2.1.Name,.sl true 1 (List.map vi v.2.1.Kids)]),(122,[.sl false 4 (List.map (GNode.enc false) v.2.2.from_),.sl true 4 (List.map (GNode.enc true) v.2.2.to_),vb v.2.2.bad])]⟩) (aV rec_spec_l04Pack_put k2 deep3) _ (0,(⟨e17.Kind,e17.Num,e17.Name,[]⟩:GNode),(⟨x1.from_,x1.to_,x1.bad⟩:Gl04Pack)) hj18 (by simp [y]) ?_
   intro g s26 h24 ho25
   obtain ⟨i21,v22,v23⟩:=g
   simp only [aV] at h24
   try dsimp only
   refine SWp.seq ?_
   obtain ⟨v32,hj27,h24⟩:=bS h24
   refine SWp.seqRC rfl (u _ rfl) [0,1,2,7,8,82] [7,122] (fun _:Unit=>⟨[(0,.ref (.box 122) 0 []),(1,.t (vi k2)),(2,.t (vi deep3)),(7,.ref (.box 7) 0 []),(8,.t (vi i21)),(82,.t (vb v32))],[(7,[vi v22.Kind,vi v22.Num,vs v22.Name,.sl true 1 (List.map vi v22.Kids)]),(122,[.sl false 4 (List.map (GNode.enc false) v23.from_),.sl true 4 (List.map (GNode.enc true) v23.to_),vb v23.bad])]⟩) (fun _=>True) (fun _ _=>?_) fun K28 hK28=>?_
   rotate_left
   ·refine wC rfl fun K q=>?_;simp [y];refine q _ ?_;clear q
    iterate 5 (refine wC rfl fun K q=>?_;simp [y];refine q _ ?_;clear q)
    obtain ⟨e29,he29,hj27⟩:=bS hj27
    obtain ⟨he29a,he29b,he29c,he29d⟩:=gS he29
    iterate 6 (refine wC rfl fun K q=>?_;simp [y,he29a,he29b,he29c,he29d];refine q _ ?_;clear q)
    rcases aA hj27 with ⟨hb30,hj27⟩ | ⟨hb31,hj27⟩
    ·have hb30s:=hb30
     try simp at hb30s
     iterate 6 (refine wC rfl fun K q=>?_;simp [y,he29a,he29b,he29c,he29d,hb30,hb30s];refine q _ ?_;clear q)
     refine wN ?_
     cases hj27
     exact hK28 _ () [] trivial (by simp [y,he29a,he29b,he29c,he29d,hb30,hb30s])
    ·have hb31s:=hb31
     try simp at hb31s
     iterate 5 (refine wO fun K q=>?_;simp [y,he29a,he29b,he29c,he29d,hb31,hb31s];refine q _ ?_;clear q)
     refine wC rfl fun K q=>?_;simp [y,he29a,he29b,he29c,he29d,hb31,hb31s];refine q _ ?_;clear q
     refine wN ?_
     cases hj27
     exact hK28 _ () [] trivial (by simp [y,he29a,he29b,he29c,he29d,hb31,hb31s])
   rcases aA h24 with ⟨hb33,h24⟩ | ⟨hb34,h24⟩
   ·refine SWp.cT' (b:=v32) (by simp) hb33 ?_
    refine SWp.skip ?_
    show SWp E C _ _ _
    refine SWp.seq ?_
    refine SWp.block ?_
    refine SWp.sR rfl (u _ rfl) fun K q=>?_
    iterate 6 (refine wC rfl fun K q=>?_;simp [y];refine q _ ?_;clear q)
    obtain ⟨e35,he35,h24⟩:=bS h24
    obtain ⟨he35a,he35b,he35c,he35d⟩:=gS he35
    iterate 4 (refine wC rfl fun K q=>?_;simp [y,he35a,he35b,he35c,he35d];refine q _ ?_;clear q)
    obtain ⟨e36,he36,h24⟩:=bS h24
    obtain ⟨he36a,he36b,he36c,he36d⟩:=gS he36
    iterate 4 (refine wC rfl fun K q=>?_;simp [y,he35a,he35b,he35c,he35d,he36a,he36b,he36c,he36d];refine q _ ?_;clear q)
    obtain ⟨⟨r37,q38⟩,hc39,h24⟩:=bS h24
    try dsimp only at h24
    refine wL [((.ptr 3),.tmp 85),(.take,.tmp 96),(.take,.tmp 98)] rfl rfl ent58 (hrec_spec_l04Pack_put _ _ _ hc39) fun K q=>?_;simp [y,he35a,he35b,he35c,he35d,he36a,he36b,he36c,he36d];refine q _ ?_;clear q
    refine wC rfl fun K q=>?_;simp [y,he35a,he35b,he35c,he35d,he36a,he36b,he36c,he36d];refine q _ ?_;clear q
    refine wN (q _ ?_);clear q
    refine SWp.reg rfl (u _ rfl) fun K q=>?_
    iterate 4 (refine wC rfl fun K q=>?_;simp [y];refine q _ ?_;clear q)
    obtain ⟨l40,hl40,h24⟩:=bS h24
    obtain ⟨hl40a,hl40b,hl40d⟩:=aS hl40
    have hl40f:List.map vi v22.Kids ++ List.map vi [r37]=List.map vi l40:=cC (f:=vi) hl40d
    simp [eSl] at hl40a hl40b hl40f
    iterate 3 (refine wC rfl fun K q=>?_;simp [y,hl40a,hl40b,hl40f];refine q _ ?_;clear q)
    refine wN (q _ ?_);clear q
    show SWp E C _ _ _
    refine SWp.reg rfl (u _ rfl) fun K q=>?_
    iterate 3 (refine wC rfl fun K q=>?_;simp [y];refine q _ ?_;clear q)
    refine wN (q _ ?_);clear q
    cases h24
    exact ⟨_,[],rfl,by simp [y]⟩
   ·refine SWp.cF' (b:=v32) (by simp) hb34 ?_
    refine SWp.exit ?_
    have h41:=congrArg some (ho25 _ (Option.some.inj h24).symm)
    cases h41
    exact hK19 _ () [] trivial (by simp [y])
  refine SWp.seq ?_
  obtain ⟨l44,hl44,h⟩:=bS h
  obtain ⟨hl44a,hl44b,hl44d⟩:=aS hl44
  have hl44f:List.map (GNode.enc true) v43.to_ ++ List.map (GNode.enc true) [v42]=List.map (GNode.enc true) l44:=cC (f:=(GNode.enc true)) hl44d
  simp [eSl,GNode.enc] at hl44a hl44b hl44f
  refine SWp.drawX rfl (u _ rfl) [106,107,108,109,110,111,112,113] [[(106,.ref (.box 122) 0 [])],[(107,.ref (.box 122) 0 [])],[(108,.ref (.box 122) 0 [])],[(109,.ref (.box 122) 1 [])],[(110,.al (.box 122) 1 [] none)],[(111,.al (.box 7) 0 [] (some 4))],[(112,.t (.sl true 4 (List.map (GNode.enc true) [v42]))),(111,.u)],[(113,.t (.sl true 4 (List.map (GNode.enc true) l44))),(110,.u),(112,.u)]] [[],[],[],[],[],[],[(7,[vi v42.Kind,vi v42.Num,vs v42.Name,.dead])],[(122,[.sl false 4 (List.map (GNode.enc false) v43.from_),.dead,vb v43.bad])]] [[],[],[1],[1,2],[1,2,3],[],[5],[1,2,3,4,5,6],[0,1,2,3,4,5,6,7],[0,1,2,3,4,5,6,7,8],[0,1,2,3,4,5,6,7,8,9]] rfl (by simp) rfl rfl rfl ?_ fun K q=>?_
  ·refine ⟨?_,?_,?_,?_,?_,?_,?_,?_,trivial⟩
   ·intro D d0 g1 g2
    cases d1:D 1<;>cases d2:D 2<;>cases d3:D 3<;>cases d4:D 4<;>cases d5:D 5<;>cases d6:D 6<;>cases d7:D 7<;>(intro K q;simp [famD,putL,upd1,famX,putX,d0,d1,d2,d3,d4,d5,d6,d7] at q ⊢;refine wC rfl fun K' q'=>?_;simp [y,hl44a,hl44b,hl44f];refine q' _ (wN ?_);first | exact q | simpa [hl44a,hl44b,hl44f] using q)
   ·intro D d1 g1 g2
    have d2:D 2=false:=g2 2 (by simp) (by simp)
    have d3:D 3=false:=g2 3 (by simp) (by simp)
    have d4:D 4=false:=g2 4 (by simp) (by simp)
    have d7:D 7=false:=g2 7 (by simp) (by simp)
    cases d0:D 0<;>cases d5:D 5<;>cases d6:D 6<;>(intro K q;simp [famD,putL,upd1,famX,putX,d0,d1,d2,d3,d4,d5,d6,d7] at q ⊢;refine wC rfl fun K' q'=>?_;simp [y,hl44a,hl44b,hl44f];refine q' _ (wN ?_);first | exact q | simpa [hl44a,hl44b,hl44f] using q)
   ·intro D d2 g1 g2
    have d1:D 1=true:=g1 1 (by simp)
    have d3:D 3=false:=g2 3 (by simp) (by simp)
    have d4:D 4=false:=g2 4 (by simp) (by simp)
    have d7:D 7=false:=g2 7 (by simp) (by simp)
    cases d0:D 0<;>cases d5:D 5<;>cases d6:D 6<;>(intro K q;simp [famD,putL,upd1,famX,putX,d0,d1,d2,d3,d4,d5,d6,d7] at q ⊢;refine wC rfl fun K' q'=>?_;simp [y,hl44a,hl44b,hl44f];refine q' _ (wN ?_);first | exact q | simpa [hl44a,hl44b,hl44f] using q)
   ·intro D d3 g1 g2
    have d1:D 1=true:=g1 1 (by simp)
    have d2:D 2=true:=g1 2 (by simp)
    have d4:D 4=false:=g2 4 (by simp) (by simp)
    have d7:D 7=false:=g2 7 (by simp) (by simp)
    cases d0:D 0<;>cases d5:D 5<;>cases d6:D 6<;>(intro K q;simp [famD,putL,upd1,famX,putX,d0,d1,d2,d3,d4,d5,d6,d7] at q ⊢;refine wC rfl fun K' q'=>?_;simp [y,hl44a,hl44b,hl44f];refine q' _ (wN ?_);first | exact q | simpa [hl44a,hl44b,hl44f] using q)
   ·intro D d4 g1 g2
    have d1:D 1=true:=g1 1 (by simp)
    have d2:D 2=true:=g1 2 (by simp)
    have d3:D 3=true:=g1 3 (by simp)
    have d7:D 7=false:=g2 7 (by simp) (by simp)
    cases d0:D 0<;>cases d5:D 5<;>cases d6:D 6<;>(intro K q;simp [famD,putL,upd1,famX,putX,d0,d1,d2,d3,d4,d5,d6,d7] at q ⊢;refine wC rfl fun K' q'=>?_;simp [y,hl44a,hl44b,hl44f];refine q' _ (wN ?_);first | exact q | simpa [hl44a,hl44b,hl44f] using q)
   ·intro D d5 g1 g2
    have d6:D 6=false:=g2 6 (by simp) (by simp)
    have d7:D 7=false:=g2 7 (by simp) (by simp)
    cases d0:D 0<;>cases d1:D 1<;>cases d2:D 2<;>cases d3:D 3<;>cases d4:D 4<;>(intro K q;simp [famD,putL,upd1,famX,putX,d0,d1,d2,d3,d4,d5,d6,d7] at q ⊢;refine wC rfl fun K' q'=>?_;simp [y,hl44a,hl44b,hl44f];refine q' _ (wN ?_);first | exact q | simpa [hl44a,hl44b,hl44f] using q)
   ·intro D d6 g1 g2
    have d5:D 5=true:=g1 5 (by simp)
    have d7:D 7=false:=g2 7 (by simp) (by simp)
    cases d0:D 0<;>cases d1:D 1<;>cases d2:D 2<;>cases d3:D 3<;>cases d4:D 4<;>(intro K q;simp [famD,putL,upd1,famX,putX,d0,d1,d2,d3,d4,d5,d6,d7] at q ⊢;refine wC rfl fun K' q'=>?_;simp [y,hl44a,hl44b,hl44f];refine q' _ (wN ?_);first | exact q | simpa [hl44a,hl44b,hl44f] using q)
   ·intro D d7 g1 g2
    have d1:D 1=true:=g1 1 (by simp)
    have d2:D 2=true:=g1 2 (by simp)
    have d3:D 3=true:=g1 3 (by simp)
    have d4:D 4=true:=g1 4 (by simp)
    have d5:D 5=true:=g1 5 (by simp)
    have d6:D 6=true:=g1 6 (by simp)
    cases d0:D 0<;>(intro K q;simp [famD,putL,upd1,famX,putX,d0,d1,d2,d3,d4,d5,d6,d7] at q ⊢;refine wC rfl fun K' q'=>?_;simp [y,hl44a,hl44b,hl44f];refine q' _ (wN ?_);first | exact q | simpa [hl44a,hl44b,hl44f] using q)
  simp [famD,putL,famX,putX]
  iterate 3 (refine wC rfl fun K q=>?_;simp [y,hl44a,hl44b,hl44f];refine q _ ?_;clear q)
  refine wN (q _ ?_);clear q
  show SWp E C _ _ _
  refine SWp.sR rfl (u _ rfl) fun K q=>?_
  iterate 7 (refine wC rfl fun K q=>?_;simp [y];refine q _ ?_;clear q)
  refine wN (q _ ?_);clear q
  cases h
  refine SWp.ret ?_
  simp [aC,iB,res58]
theorem gV:∀ n:Nat,(∀ (a0:Gl04Pack) (a1:Int) (a2:Int) {r0:Int} {q0:Gl04Pack},(aH n) a0 a1 a2=some (r0,q0)→Ok E 58 [.ptr [.sl false 4 (List.map (GNode.enc false) a0.from_),.sl true 4 (List.map (GNode.enc true) a0.to_),vb a0.bad],.val (vi a1),.val (vi a2)] [vi r0] [[.sl false 4 (List.map (GNode.enc false) q0.from_),.sl true 4 (List.map (GNode.enc true) q0.to_),vb q0.bad]])
 | 0=>(by intros;rename_i h;cases h)
 | n + 1=>nI (aH n) (gV n)
theorem kC:∀ (a0:Gl04Pack) (a1:Int) (a2:Int) {r0:Int} {q0:Gl04Pack},cX a0 a1 a2=some (r0,q0)→Ok E 58 [.ptr [.sl false 4 (List.map (GNode.enc false) a0.from_),.sl true 4 (List.map (GNode.enc true) a0.to_),vb a0.bad],.val (vi a1),.val (vi a2)] [vi r0] [[.sl false 4 (List.map (GNode.enc false) q0.from_),.sl true 4 (List.map (GNode.enc true) q0.to_),vb q0.bad]]:=(gV dN)
theorem res27:Tryz.f27.results.toList=[.cell 2 31,.tmp 3]:=rfl
theorem ent27:aE E.P 27:=eO Tryz.func27 (by simp [Tryz.f27]) rfl
theorem spec_Packed_ok (p1:GProgram) {r0:GProgram} {r1:Bool} (h:kE p1=some (r0,r1)):Ok E 27 [.val (GProgram.enc false p1)] [GProgram.enc true r0,vb r1] []:=by
 refine oB (fn:=Tryz.f27) Tryz.func27 rfl (by simp [Tryz.f27]) fun C hN hP=>?_
 have u:∀ l,pinK [] l=true→pinB C.pin l=true:=pO (by rw [hP];rfl)
 have y:C.N=68:=hN
 clear hN
 unfold kE at h
 refine SWp.sR rfl (u _ rfl) fun K q=>?_
 iterate 3 (refine wC rfl fun K q=>?_;simp [y];refine q _ ?_;clear q)
 refine wN (q _ ?_);clear q
 refine SWp.sR rfl (u _ rfl) fun K q=>?_
 iterate 5 (refine wC rfl fun K q=>?_;simp [y];refine q _ ?_;clear q)
 refine wN (q _ ?_);clear q
 refine SWp.sR rfl (u _ rfl) fun K q=>?_
 iterate 3 (refine wC rfl fun K q=>?_;simp [y];refine q _ ?_;clear q)
 refine wN (q _ ?_);clear q
 obtain ⟨⟨v30,v31⟩,hj2,h⟩:=bS h
 try dsimp only at h
 refine SWp.seqC [2,4,5] [2,5,11] (fun _:Unit=>⟨[(2,.ref (.box 2) 0 []),(4,.ref (.box 11) 0 []),(5,.ref (.box 5) 0 [])],[(2,[.sl true 4 [],.sl true 5 []]),(5,[.sl true 4 (List.map (GNode.enc true) v30.Nodes),.sl true 5 (List.map (GFn.enc true) v30.Fns)]),(11,[.sl false 4 (List.map (GNode.enc false) v31.from_),.sl true 4 (List.map (GNode.enc true) v31.to_),vb v31.bad])]⟩) (fun _=>True) (fun _ _=>?_) fun K3 hK3=>?_
 rotate_left
 ·refine SWp.sR rfl (u _ rfl) fun K q=>?_
  refine wC rfl fun K q=>?_;simp [y];refine q _ ?_;clear q
  refine wN (q _ ?_);clear q
  refine SWp.block ?_
  refine SWp.loopO [] [1,2,4,5,6] [1,2,5,11] (fun v:Int × GProgram × Gl04Pack=>⟨[(1,.ref (.box 1) 0 []),(2,.ref (.box 2) 0 []),(4,.ref (.box 11) 0 []),(5,.ref (.box 5) 0 []),(6,.t (vi v.1))],[(1,[.sl false 4 (List.map (GNode.enc false) p1.Nodes),.sl false 5 (List.map (GFn.enc false) p1.Fns)]),(2,[.sl true 4 [],.sl true 5 []]),(5,[.sl true 4 (List.map (GNode.enc true) v.2.1.Nodes),.sl true 5 (List.map (GFn.enc true) v.2.1.Fns)]),(11,[.sl false 4 (List.map (GNode.enc false) v.2.2.from_),.sl true 4 (List.map (GNode.enc true) v.2.2.to_),vb v.2.2.bad])]⟩) (aX p1) _ (0,(⟨[],[]⟩:GProgram),(⟨p1.Nodes,[],false⟩:Gl04Pack)) hj2 (by simp [y]) ?_
  intro g s10 h8 ho9
  obtain ⟨i5,v6,v7⟩:=g
  simp only [aX] at h8
  try dsimp only
  refine SWp.seq ?_
  refine SWp.sR rfl (u _ rfl) fun K q=>?_
  iterate 5 (refine wC rfl fun K q=>?_;simp [y];refine q _ ?_;clear q)
  refine wN (q _ ?_);clear q
  rcases aA h8 with ⟨hb11,h8⟩ | ⟨hb12,h8⟩
  ·refine SWp.cT' (b:=decide (i5 < (p1.Fns.length:Int))) (by simp) hb11 ?_
   refine SWp.skip ?_
   show SWp E C _ _ _
   refine SWp.seq ?_
   refine SWp.block ?_
   refine SWp.sR rfl (u _ rfl) fun K q=>?_
   iterate 3 (refine wC rfl fun K q=>?_;simp [y];refine q _ ?_;clear q)
   obtain ⟨e13,he13,h8⟩:=bS h8
   obtain ⟨he13a,he13b,he13c,he13d⟩:=gS he13
   iterate 4 (refine wC rfl fun K q=>?_;simp [y,he13a,he13b,he13c,he13d];refine q _ ?_;clear q)
   refine wN (q _ ?_);clear q
   refine SWp.sR rfl (u _ rfl) fun K q=>?_
   iterate 3 (refine wC rfl fun K q=>?_;simp [y];refine q _ ?_;clear q)
   obtain ⟨l14,hl14,h8⟩:=bS h8
   obtain ⟨hl14a,hl14b,hl14d⟩:=aS hl14
   simp [eSl,GParam.enc] at hl14a hl14b
   iterate 3 (refine wC rfl fun K q=>?_;simp [y,hl14a,hl14b];refine q _ ?_;clear q)
   refine wN (q _ ?_);clear q
   refine SWp.sR rfl (u _ rfl) fun K q=>?_
   iterate 3 (refine wC rfl fun K q=>?_;simp [y];refine q _ ?_;clear q)
   obtain ⟨⟨r15,q16⟩,hc17,h8⟩:=bS h8
   try dsimp only at h8
   refine wL [((.ptr 3),.tmp 30),(.take,.tmp 32),(.take,.const (.int .i64 1))] rfl rfl ent58 (kC _ _ _ hc17) fun K q=>?_;simp [y];refine q _ ?_;clear q
   iterate 2 (refine wC rfl fun K q=>?_;simp [y];refine q _ ?_;clear q)
   refine wN (q _ ?_);clear q
   obtain ⟨⟨v26,v27⟩,hj18,h8⟩:=bS h8
   try dsimp only at h8
   refine SWp.seqC [1,2,4,5,6,7] [1,2,5,7,11] (fun _:Unit=>⟨[(1,.ref (.box 1) 0 []),(2,.ref (.box 2) 0 []),(4,.ref (.box 11) 0 []),(5,.ref (.box 5) 0 []),(6,.t (vi i5)),(7,.ref (.box 7) 0 [])],[(1,[.sl false 4 (List.map (GNode.enc false) p1.Nodes),.sl false 5 (List.map (GFn.enc false) p1.Fns)]),(2,[.sl true 4 [],.sl true 5 []]),(5,[.sl true 4 (List.map (GNode.enc true) v6.Nodes),.sl true 5 (List.map (GFn.enc true) v6.Fns)]),(7,[vs v26.Name,.sl true 2 (List.map GParam.enc v26.Params),vi v26.Res,vi v26.Body,vi v26.Ret]),(11,[.sl false 4 (List.map (GNode.enc false) v27.from_),.sl true 4 (List.map (GNode.enc true) v27.to_),vb v27.bad])]⟩) (fun _=>True) (fun _ _=>?_) fun K19 hK19=>?_
   rotate_left
   ·refine SWp.sR rfl (u _ rfl) fun K q=>?_
    iterate 3 (refine wC rfl fun K q=>?_;simp [y];refine q _ ?_;clear q)
    refine wN (q _ ?_);clear q
    rcases aA hj18 with ⟨hb21,hj18⟩ | ⟨hb22,hj18⟩
    ·refine SWp.cT' (b:=decide (e13.Ret ≥ 0)) (by simp) hb21 ?_
     refine SWp.reg rfl (u _ rfl) fun K q=>?_
     iterate 3 (refine wC rfl fun K q=>?_;simp [y];refine q _ ?_;clear q)
     obtain ⟨⟨r23,q24⟩,hc25,hj18⟩:=bS hj18
     try dsimp only at hj18
     refine wL [((.ptr 3),.tmp 38),(.take,.tmp 40),(.take,.const (.int .i64 1))] rfl rfl ent58 (kC _ _ _ hc25) fun K q=>?_;simp [y];refine q _ ?_;clear q
     iterate 2 (refine wC rfl fun K q=>?_;simp [y];refine q _ ?_;clear q)
     refine wN (q _ ?_);clear q
     cases hj18
     exact hK19 _ () [] trivial (by simp [y])
    ·refine SWp.cF' (b:=decide (e13.Ret ≥ 0)) (by simp) hb22 ?_
     refine SWp.skip ?_
     cases hj18
     exact hK19 _ () [] trivial (by simp [y])
   refine SWp.reg rfl (u _ rfl) fun K q=>?_
   iterate 4 (refine wC rfl fun K q=>?_;simp [y];refine q _ ?_;clear q)
   obtain ⟨l28,hl28,h8⟩:=bS h8
   obtain ⟨hl28a,hl28b,hl28d⟩:=aS hl28
   have hl28f:List.map (GFn.enc true) v6.Fns ++ List.map (GFn.enc true) [v26]=List.map (GFn.enc true) l28:=cC (f:=(GFn.enc true)) hl28d
   simp [eSl,GFn.enc] at hl28a hl28b hl28f
   iterate 3 (refine wC rfl fun K q=>?_;simp [y,hl28a,hl28b,hl28f];refine q _ ?_;clear q)
   refine wN (q _ ?_);clear q
   show SWp E C _ _ _
   refine SWp.reg rfl (u _ rfl) fun K q=>?_
   iterate 3 (refine wC rfl fun K q=>?_;simp [y];refine q _ ?_;clear q)
   refine wN (q _ ?_);clear q
   cases h8
   exact ⟨_,[],rfl,by simp [y]⟩
  ·refine SWp.cF' (b:=decide (i5 < (p1.Fns.length:Int))) (by simp) hb12 ?_
   refine SWp.exit ?_
   have h29:=congrArg some (ho9 _ (Option.some.inj h8).symm)
   cases h29
   exact hK3 _ () [] trivial (by simp [y])
 refine SWp.seq ?_
 obtain ⟨v36,hj32,h⟩:=bS h
 refine SWp.seqRC rfl (u _ rfl) [2,4,5,60] [2,5,11] (fun _:Unit=>⟨[(2,.ref (.box 2) 0 []),(4,.ref (.box 11) 0 []),(5,.ref (.box 5) 0 []),(60,.t (vb v36))],[(2,[.sl true 4 [],.sl true 5 []]),(5,[.sl true 4 (List.map (GNode.enc true) v30.Nodes),.sl true 5 (List.map (GFn.enc true) v30.Fns)]),(11,[.sl false 4 (List.map (GNode.enc false) v31.from_),.sl true 4 (List.map (GNode.enc true) v31.to_),vb v31.bad])]⟩) (fun _=>True) (fun _ _=>?_) fun K33 hK33=>?_
 rotate_left
 ·refine wC rfl fun K q=>?_;simp [y];refine q _ ?_;clear q
  iterate 4 (refine wC rfl fun K q=>?_;simp [y];refine q _ ?_;clear q)
  rcases aA hj32 with ⟨hb34,hj32⟩ | ⟨hb35,hj32⟩
  ·have hb34s:=hb34
   try simp at hb34s
   iterate 6 (refine wO fun K q=>?_;simp [y,hb34,hb34s];refine q _ ?_;clear q)
   refine wC rfl fun K q=>?_;simp [y,hb34,hb34s];refine q _ ?_;clear q
   refine wN ?_
   cases hj32
   exact hK33 _ () [] trivial (by simp [y,hb34,hb34s])
  ·have hb35s:=hb35
   try simp at hb35s
   iterate 7 (refine wC rfl fun K q=>?_;simp [y,hb35,hb35s];refine q _ ?_;clear q)
   refine wN ?_
   cases hj32
   exact hK33 _ () [] trivial (by simp [y,hb35,hb35s])
 rcases aA h with ⟨hb37,h⟩ | ⟨hb38,h⟩
 ·refine SWp.cT' (b:=v36) (by simp) hb37 ?_
  refine SWp.sR rfl (u _ rfl) fun K q=>?_
  iterate 3 (refine wC rfl fun K q=>?_;simp [y];refine q _ ?_;clear q)
  refine wN (q _ ?_);clear q
  cases h
  refine SWp.ret ?_
  simp [aC,iB,res27]
 ·refine SWp.cF' (b:=v36) (by simp) hb38 ?_
  refine SWp.skip ?_
  show SWp E C _ _ _
  refine SWp.sR rfl (u _ rfl) fun K q=>?_
  iterate 6 (refine wC rfl fun K q=>?_;simp [y];refine q _ ?_;clear q)
  refine wN (q _ ?_);clear q
  refine SWp.sR rfl (u _ rfl) fun K q=>?_
  iterate 3 (refine wC rfl fun K q=>?_;simp [y];refine q _ ?_;clear q)
  refine wN (q _ ?_);clear q
  cases h
  refine SWp.ret ?_
  simp [aC,iB,res27]
theorem res10:Tryz.f10.results.toList=[.cell 2 31,.tmp 3]:=rfl
theorem ent10:aE E.P 10:=eO Tryz.func10 (by simp [Tryz.f10]) rfl
theorem spec_Stripped_ok (p1:GProgram) {r0:GProgram} {r1:Bool} (h:gY p1=some (r0,r1)):Ok E 10 [.val (GProgram.enc false p1)] [GProgram.enc true r0,vb r1] []:=by
 refine oB (fn:=Tryz.f10) Tryz.func10 rfl (by simp [Tryz.f10]) fun C hN hP=>?_
 have u:∀ l,pinK [] l=true→pinB C.pin l=true:=pO (by rw [hP];rfl)
 have y:C.N=52:=hN
 clear hN
 unfold gY at h
 refine SWp.sR rfl (u _ rfl) fun K q=>?_
 iterate 3 (refine wC rfl fun K q=>?_;simp [y];refine q _ ?_;clear q)
 refine wN (q _ ?_);clear q
 refine SWp.seq ?_
 refine SWp.sR rfl (u _ rfl) fun K q=>?_
 refine wC rfl fun K q=>?_;simp [y];refine q _ ?_;clear q
 obtain ⟨r2,hc3,h⟩:=bS h
 refine wL [(.take,.tmp 9)] rfl rfl ent24 (spec_ProgramOk_ok _ hc3) fun K q=>?_;simp [y];refine q _ ?_;clear q
 refine wC rfl fun K q=>?_;simp [y];refine q _ ?_;clear q
 refine wN (q _ ?_);clear q
 rcases aA h with ⟨hb4,h⟩ | ⟨hb5,h⟩
 ·refine SWp.cT' (b:=!r2) (by simp) hb4 ?_
  refine SWp.sR rfl (u _ rfl) fun K q=>?_
  refine wC rfl fun K q=>?_;simp [y];refine q _ ?_;clear q
  obtain ⟨r6,hc7,h⟩:=bS h
  refine wL [(.take,.tmp 12)] rfl rfl ent25 (nK _ hc7) fun K q=>?_;simp [y];refine q _ ?_;clear q
  iterate 2 (refine wC rfl fun K q=>?_;simp [y];refine q _ ?_;clear q)
  refine wN (q _ ?_);clear q
  cases h
  refine SWp.ret ?_
  simp [aC,iB,res10]
 ·refine SWp.cF' (b:=!r2) (by simp) hb5 ?_
  refine SWp.skip ?_
  show SWp E C _ _ _
  refine SWp.sR rfl (u _ rfl) fun K q=>?_
  iterate 5 (refine wC rfl fun K q=>?_;simp [y];refine q _ ?_;clear q)
  refine wN (q _ ?_);clear q
  refine SWp.sR rfl (u _ rfl) fun K q=>?_
  iterate 5 (refine wC rfl fun K q=>?_;simp [y];refine q _ ?_;clear q)
  obtain ⟨r8,hc9,h⟩:=bS h
  refine wL [(.take,.tmp 17),(.take,.tmp 21)] rfl rfl ent26 (pX _ _ hc9) fun K q=>?_;simp [y];refine q _ ?_;clear q
  refine wC rfl fun K q=>?_;simp [y];refine q _ ?_;clear q
  refine wN (q _ ?_);clear q
  obtain ⟨v25,hj10,h⟩:=bS h
  refine SWp.seqC [1,2,4] [1,2,4] (fun _:Unit=>⟨[(1,.ref (.box 1) 0 []),(2,.ref (.box 2) 0 []),(4,.ref (.box 4) 0 [])],[(1,[.sl false 4 (List.map (GNode.enc false) p1.Nodes),.sl false 5 (List.map (GFn.enc false) p1.Fns)]),(2,[.sl true 4 [],.sl true 5 []]),(4,[.sl false 4 (List.map (GNode.enc false) v25.Nodes),.sl true 5 (List.map (GFn.enc false) v25.Fns)])]⟩) (fun _=>True) (fun _ _=>?_) fun K11 hK11=>?_
  rotate_left
  ·refine SWp.sR rfl (u _ rfl) fun K q=>?_
   refine wC rfl fun K q=>?_;simp [y];refine q _ ?_;clear q
   refine wN (q _ ?_);clear q
   refine SWp.block ?_
   refine SWp.loopO [] [1,2,4,5,6] [1,2,4] (fun v:Int × GProgram=>⟨[(1,.ref (.box 1) 0 []),(2,.ref (.box 2) 0 []),(4,.ref (.box 4) 0 []),(5,.t (.sl true 1 (List.map vi r8))),(6,.t (vi v.1))],[(1,[.sl false 4 (List.map (GNode.enc false) p1.Nodes),.sl false 5 (List.map (GFn.enc false) p1.Fns)]),(2,[.sl true 4 [],.sl true 5 []]),(4,[.sl false 4 (List.map (GNode.enc false) v.2.Nodes),.sl true 5 (List.map (GFn.enc false) v.2.Fns)])]⟩) (dA p1 r8) _ (0,(⟨p1.Nodes,[]⟩:GProgram)) hj10 (by simp [y]) ?_
   intro g s17 h15 ho16
   obtain ⟨i13,v14⟩:=g
   simp only [dA] at h15
   try dsimp only
   refine SWp.seq ?_
   refine SWp.sR rfl (u _ rfl) fun K q=>?_
   iterate 4 (refine wC rfl fun K q=>?_;simp [y];refine q _ ?_;clear q)
   refine wN (q _ ?_);clear q
   rcases aA h15 with ⟨hb18,h15⟩ | ⟨hb19,h15⟩
   ·refine SWp.cT' (b:=decide (i13 < (r8.length:Int))) (by simp) hb18 ?_
    refine SWp.skip ?_
    show SWp E C _ _ _
    refine SWp.seq ?_
    refine SWp.block ?_
    obtain ⟨e21,he21,h15⟩:=bS h15
    obtain ⟨he21a,he21b,he21c,he21d⟩:=gS he21
    obtain ⟨e22,he22,h15⟩:=bS h15
    obtain ⟨he22a,he22b,he22c,he22d⟩:=gS he22
    refine SWp.dT rfl (u _ rfl) [(29,.ref (.box 4) 1 []),(30,.al (.box 4) 1 [] none),(31,.ref (.box 1) 1 []),(32,.t (.sl false 5 (List.map (GFn.enc false) p1.Fns))),(33,.al (.slot 5) 0 [] none),(34,.t (vi i13)),(35,.ref (.slot 5) 0 [(i13.toNat,0)]),(36,.t (vi e21)),(37,.rop [vs e22.Name,.sl false 2 (List.map GParam.enc e22.Params),vi e22.Res,vi e22.Body,vi e22.Ret] 0),(38,.t (GFn.enc false e22)),(39,.t (.sl true 5 (List.map (GFn.enc false) [e22])))] [[],[0],[],[2],[],[],[4,5],[4,5,6],[2,3,4,5,6,7],[2,3,4,5,6,7,8],[2,3,4,5,6,7,8,9],[0,1,2,3,4,5,6,7,8,9,10],[0,1,2,3,4,5,6,7,8,9,10,11],[0,1,2,3,4,5,6,7,8,9,10,11,12]] (by simp) (by simp) (by simp [look]) rfl rfl rfl ?_ fun K q=>?_
    ·refine ⟨?_,?_,?_,?_,?_,?_,?_,?_,?_,?_,?_,trivial⟩
     all_goals (intro τ hbx hb hd hf K q;try simp [vsAt] at hd;simp [vsAt] at hf;first | (refine wC rfl fun K' q'=>?_;simp [y,hbx,hb,hd,hf,he21a,he21b,he21c,he21d,he22a,he22b,he22c,he22d];exact q' _ (wN (q _ (by simp [vsAt,hbx,he21a,he21b,he21c,he21d,he22a,he22b,he22c,he22d])))))
    obtain ⟨l23,hl23,h15⟩:=bS h15
    obtain ⟨hl23a,hl23b,hl23d⟩:=aS hl23
    have hl23f:List.map (GFn.enc false) v14.Fns ++ List.map (GFn.enc false) [e22]=List.map (GFn.enc false) l23:=cC (f:=(GFn.enc false)) hl23d
    simp [eSl,GFn.enc] at hl23a hl23b hl23f
    iterate 3 (refine wC rfl fun K q=>?_;simp [y,he21a,he21b,he21c,he21d,he22a,he22b,he22c,he22d,hl23a,hl23b,hl23f];refine q _ ?_;clear q)
    refine wN (q _ ?_);clear q
    show SWp E C _ _ _
    refine SWp.reg rfl (u _ rfl) fun K q=>?_
    iterate 3 (refine wC rfl fun K q=>?_;simp [y];refine q _ ?_;clear q)
    refine wN (q _ ?_);clear q
    cases h15
    exact ⟨_,[],rfl,by simp [y]⟩
   ·refine SWp.cF' (b:=decide (i13 < (r8.length:Int))) (by simp) hb19 ?_
    refine SWp.exit ?_
    have h24:=congrArg some (ho16 _ (Option.some.inj h15).symm)
    cases h24
    exact hK11 _ () [] trivial (by simp [y])
  refine SWp.sR rfl (u _ rfl) fun K q=>?_
  refine wC rfl fun K q=>?_;simp [y];refine q _ ?_;clear q
  obtain ⟨⟨r26,r27⟩,hc28,h⟩:=bS h
  try dsimp only at h
  refine wL [(.bor,.tmp 43)] rfl rfl ent27 (spec_Packed_ok _ hc28) fun K q=>?_;simp [y];refine q _ ?_;clear q
  iterate 6 (refine wC rfl fun K q=>?_;simp [y];refine q _ ?_;clear q)
  refine wN (q _ ?_);clear q
  refine SWp.seq ?_
  refine SWp.sR rfl (u _ rfl) fun K q=>?_
  iterate 2 (refine wC rfl fun K q=>?_;simp [y];refine q _ ?_;clear q)
  refine wN (q _ ?_);clear q
  rcases aA h with ⟨hb29,h⟩ | ⟨hb30,h⟩
  ·refine SWp.cT' (b:=!r27) (by simp) hb29 ?_
   refine SWp.sR rfl (u _ rfl) fun K q=>?_
   refine wC rfl fun K q=>?_;simp [y];refine q _ ?_;clear q
   obtain ⟨r31,hc32,h⟩:=bS h
   refine wL [(.take,.tmp 49)] rfl rfl ent25 (nK _ hc32) fun K q=>?_;simp [y];refine q _ ?_;clear q
   iterate 2 (refine wC rfl fun K q=>?_;simp [y];refine q _ ?_;clear q)
   refine wN (q _ ?_);clear q
   cases h
   refine SWp.ret ?_
   simp [aC,iB,res10]
  ·refine SWp.cF' (b:=!r27) (by simp) hb30 ?_
   refine SWp.skip ?_
   show SWp E C _ _ _
   refine SWp.sR rfl (u _ rfl) fun K q=>?_
   iterate 3 (refine wC rfl fun K q=>?_;simp [y];refine q _ ?_;clear q)
   refine wN (q _ ?_);clear q
   cases h
   refine SWp.ret ?_
   simp [aC,iB,res10]
theorem res59:Tryz.f59.results.toList=[.tmp 6]:=rfl
theorem lQ:aE E.P 59:=eO Tryz.func59 (by simp [Tryz.f59]) rfl
theorem aQ (n1:Int) (low2:Int) (high3:Int) {r0:Bool} (h:cV n1 low2 high3=some r0):Ok E 59 [.val (vi n1),.val (vi low2),.val (vi high3)] [vb r0] []:=by
 refine oB (fn:=Tryz.f59) Tryz.func59 rfl (by simp [Tryz.f59]) fun C hN hP=>?_
 have u:∀ l,pinK [] l=true→pinB C.pin l=true:=pO (by rw [hP];rfl)
 have y:C.N=15:=hN
 clear hN
 unfold cV at h
 refine SWp.sR rfl (u _ rfl) fun K q=>?_
 refine wC rfl fun K q=>?_;simp [y];refine q _ ?_;clear q
 refine wN (q _ ?_);clear q
 obtain ⟨v8,hj4,h⟩:=bS h
 refine SWp.seqRC rfl (u _ rfl) [6] [] (fun _:Unit=>⟨[(6,.t (vb v8))],[]⟩) (fun _=>True) (fun _ _=>?_) fun K5 hK5=>?_
 rotate_left
 ·refine wC rfl fun K q=>?_;simp [y];refine q _ ?_;clear q
  iterate 3 (refine wC rfl fun K q=>?_;simp [y];refine q _ ?_;clear q)
  rcases aA hj4 with ⟨hb6,hj4⟩ | ⟨hb7,hj4⟩
  ·have hb6s:=hb6
   try simp at hb6s
   iterate 5 (refine wC rfl fun K q=>?_;simp [y,hb6,hb6s];refine q _ ?_;clear q)
   refine wN ?_
   cases hj4
   exact hK5 _ () [] trivial (by simp [y,hb6,hb6s])
  ·have hb7s:=hb7
   try simp at hb7s
   iterate 3 (refine wO fun K q=>?_;simp [y,hb7,hb7s];refine q _ ?_;clear q)
   iterate 2 (refine wC rfl fun K q=>?_;simp [y,hb7,hb7s];refine q _ ?_;clear q)
   refine wN ?_
   cases hj4
   exact hK5 _ () [] trivial (by simp [y,hb7,hb7s])
 cases h
 refine SWp.ret ?_
 simp [aC,iB,res59]
theorem res64:Tryz.f64.results.toList=[.tmp 4]:=rfl
theorem ent64:aE E.P 64:=eO Tryz.func64 (by simp [Tryz.f64]) rfl
theorem eU (l1:List Int) (n2:Int) {r0:Bool} (h:eI l1 n2=some r0):Ok E 64 [.val (.sl false 1 (List.map vi l1)),.val (vi n2)] [vb r0] []:=by
 refine oB (fn:=Tryz.f64) Tryz.func64 rfl (by simp [Tryz.f64]) fun C hN hP=>?_
 have hPB:∀ l,pinK [] l=true→pinB C.pin l=true:=pO (by rw [hP];rfl)
 have hN':C.N=17:=hN
 clear hN
 unfold eI at h
 refine SWp.sR rfl (hPB _ rfl) fun K hK=>?_
 refine wC rfl fun K hK=>?_;simp [hN'];refine hK _ ?_;clear hK
 refine wN (hK _ ?_);clear hK
 obtain ⟨j5,hj3,h⟩:=bS h
 refine SWp.seqC [] [] (fun v:Unit=>⟨[],[]⟩) (fun v=>j5=Sum.inl v) (fun v hv=>?_) fun K4 hK4=>?_
 rotate_left
 ·refine SWp.sR rfl (hPB _ rfl) fun K hK=>?_
  iterate 3 (refine wC rfl fun K hK=>?_;simp [hN'];refine hK _ ?_;clear hK)
  refine wN (hK _ ?_);clear hK
  refine SWp.block ?_
  refine SWp.loopO [] [1,7,8,9] [] (fun v:Int=>⟨[(1,.t (vi n2)),(7,.t (.sl false 1 (List.map vi l1))),(8,.t (vi (l1.length:Int))),(9,.t (vi v))],[]⟩) (eV l1 n2) _ 0 hj3 (by simp [hN']) ?_
  intro g s9 h7 ho8
  obtain ⟨v6,hg⟩:∃ y,y=g:=⟨_,rfl⟩
  subst hg
  simp only [eV] at h7
  try dsimp only
  refine SWp.sR rfl (hPB _ rfl) fun K hK=>?_
  refine wC rfl fun K hK=>?_;simp [hN'];refine hK _ ?_;clear hK
  refine wN (hK _ ?_);clear hK
  refine SWp.seq ?_
  rcases aA h7 with ⟨hb10,h7⟩ | ⟨hb11,h7⟩
  ·refine SWp.cT' (b:=decide (v6 < (l1.length:Int))) (by simp) hb10 ?_
   refine SWp.skip ?_
   show SWp E C _ _ _
   refine SWp.seq ?_
   refine SWp.block ?_
   refine SWp.sR rfl (hPB _ rfl) fun K hK=>?_
   obtain ⟨e12,he12,h7⟩:=bS h7
   obtain ⟨he12a,he12b,he12c,he12d⟩:=gS he12
   iterate 3 (refine wC rfl fun K hK=>?_;simp [hN',he12a,he12b,he12c,he12d];refine hK _ ?_;clear hK)
   refine wN (hK _ ?_);clear hK
   refine SWp.sR rfl (hPB _ rfl) fun K hK=>?_
   iterate 3 (refine wC rfl fun K hK=>?_;simp [hN'];refine hK _ ?_;clear hK)
   refine wN (hK _ ?_);clear hK
   rcases aA h7 with ⟨hb13,h7⟩ | ⟨hb14,h7⟩
   ·refine SWp.cT' (b:=e12 == n2) (by simp) hb13 ?_
    refine SWp.sR rfl (hPB _ rfl) fun K hK=>?_
    refine wC rfl fun K hK=>?_;simp [hN'];refine hK _ ?_;clear hK
    refine wN (hK _ ?_);clear hK
    have h15:=congrArg some (ho8 _ (Option.some.inj h7).symm)
    cases h15
    try dsimp only at h
    cases h
    refine SWp.ret ?_
    simp [aC,iB,res64]
   ·refine SWp.cF' (b:=e12 == n2) (by simp) hb14 ?_
    refine SWp.skip ?_
    show SWp E C _ _ _
    refine SWp.reg rfl (hPB _ rfl) fun K hK=>?_
    iterate 2 (refine wC rfl fun K hK=>?_;simp [hN'];refine hK _ ?_;clear hK)
    refine wN (hK _ ?_);clear hK
    cases h7
    exact ⟨_,[],rfl,by simp [hN']⟩
  ·refine SWp.cF' (b:=decide (v6 < (l1.length:Int))) (by simp) hb11 ?_
   refine SWp.exit ?_
   have h16:=congrArg some (ho8 _ (Option.some.inj h7).symm)
   cases h16
   exact hK4 _ _ [] rfl (by simp [hN'])
 subst hv
 obtain ⟨⟩:=v
 try dsimp only at h ⊢
 refine SWp.sR rfl (hPB _ rfl) fun K hK=>?_
 refine wC rfl fun K hK=>?_;simp [hN'];refine hK _ ?_;clear hK
 refine wN (hK _ ?_);clear hK
 cases h
 refine SWp.ret ?_
 simp [aC,iB,res64]
theorem res108:Tryz.f108.results.toList=[.tmp 2]:=rfl
theorem ent108:aE E.P 108:=eO Tryz.func108 (by simp [Tryz.f108]) rfl
theorem nB (b1:Int) {r0:Bool} (h:fQ b1=some r0):Ok E 108 [.val (vk .u8 b1)] [vb r0] []:=by
 refine oB (fn:=Tryz.f108) Tryz.func108 rfl (by simp [Tryz.f108]) fun C hN hP=>?_
 have u:∀ l,pinK [] l=true→pinB C.pin l=true:=pO (by rw [hP];rfl)
 have y:C.N=9:=hN
 clear hN
 unfold fQ at h
 refine SWp.sR rfl (u _ rfl) fun K q=>?_
 refine wC rfl fun K q=>?_;simp [y];refine q _ ?_;clear q
 refine wN (q _ ?_);clear q
 obtain ⟨v6,hj2,h⟩:=bS h
 refine SWp.seqRC rfl (u _ rfl) [2] [] (fun _:Unit=>⟨[(2,.t (vb v6))],[]⟩) (fun _=>True) (fun _ _=>?_) fun K3 hK3=>?_
 rotate_left
 ·refine wC rfl fun K q=>?_;simp [y];refine q _ ?_;clear q
  iterate 2 (refine wC rfl fun K q=>?_;simp [y];refine q _ ?_;clear q)
  rcases aA hj2 with ⟨hb4,hj2⟩ | ⟨hb5,hj2⟩
  ·have hb4s:=hb4
   try simp at hb4s
   iterate 4 (refine wC rfl fun K q=>?_;simp [y,hb4,hb4s];refine q _ ?_;clear q)
   refine wN ?_
   cases hj2
   exact hK3 _ () [] trivial (by simp [y,hb4,hb4s])
  ·have hb5s:=hb5
   try simp at hb5s
   iterate 2 (refine wO fun K q=>?_;simp [y,hb5,hb5s];refine q _ ?_;clear q)
   iterate 2 (refine wC rfl fun K q=>?_;simp [y,hb5,hb5s];refine q _ ?_;clear q)
   refine wN ?_
   cases hj2
   exact hK3 _ () [] trivial (by simp [y,hb5,hb5s])
 cases h
 refine SWp.ret ?_
 simp [aC,iB,res108]
theorem res109:Tryz.f109.results.toList=[.tmp 2]:=rfl
theorem ent109:aE E.P 109:=eO Tryz.func109 (by simp [Tryz.f109]) rfl
theorem impl_isFigure_ok (b1:Int) {r0:Bool} (h:iE b1=some r0):Ok E 109 [.val (vk .u8 b1)] [vb r0] []:=by
 refine oB (fn:=Tryz.f109) Tryz.func109 rfl (by simp [Tryz.f109]) fun C hN hP=>?_
 have u:∀ l,pinK [] l=true→pinB C.pin l=true:=pO (by rw [hP];rfl)
 have y:C.N=9:=hN
 clear hN
 unfold iE at h
 refine SWp.sR rfl (u _ rfl) fun K q=>?_
 refine wC rfl fun K q=>?_;simp [y];refine q _ ?_;clear q
 refine wN (q _ ?_);clear q
 obtain ⟨v6,hj2,h⟩:=bS h
 refine SWp.seqRC rfl (u _ rfl) [2] [] (fun _:Unit=>⟨[(2,.t (vb v6))],[]⟩) (fun _=>True) (fun _ _=>?_) fun K3 hK3=>?_
 rotate_left
 ·refine wC rfl fun K q=>?_;simp [y];refine q _ ?_;clear q
  iterate 2 (refine wC rfl fun K q=>?_;simp [y];refine q _ ?_;clear q)
  rcases aA hj2 with ⟨hb4,hj2⟩ | ⟨hb5,hj2⟩
  ·have hb4s:=hb4
   try simp at hb4s
   iterate 4 (refine wC rfl fun K q=>?_;simp [y,hb4,hb4s];refine q _ ?_;clear q)
   refine wN ?_
   cases hj2
   exact hK3 _ () [] trivial (by simp [y,hb4,hb4s])
  ·have hb5s:=hb5
   try simp at hb5s
   iterate 2 (refine wO fun K q=>?_;simp [y,hb5,hb5s];refine q _ ?_;clear q)
   iterate 2 (refine wC rfl fun K q=>?_;simp [y,hb5,hb5s];refine q _ ?_;clear q)
   refine wN ?_
   cases hj2
   exact hK3 _ () [] trivial (by simp [y,hb5,hb5s])
 cases h
 refine SWp.ret ?_
 simp [aC,iB,res109]
end Go.Proofs.T
namespace Go.Proofs
open Go.Shelf
def Tryz.lays191_ren:Go.Shelf.Ren:=⟨fun | 191=>65 | 189=>93 | 125=>112 | 257=>111 | 128=>129 | 129=>130 | 294=>120 | 295=>121 | 296=>122 | 297=>123 | 298=>124 | 299=>125 | 216=>126 | 300=>127 | 301=>128 | 328=>133 | 329=>134 | 330=>135 | 331=>136 | 332=>137 | 215=>138 | 343=>140 | n=>n,fun | 28=>41 | 0=>0 | 3=>3 | 46=>122 | 51=>135 | 53=>137 | 4=>4 | 183=>127 | 182=>126 | 131=>132 | 5=>5 | 9=>9 | 218=>139 | 222=>143 | 228=>146 | 229=>117 | n=>n,fun | n=>n⟩
theorem Tryz.lays191:Go.Proofs.Lays.n191 Tryz.prog Tryz.lays191_ren:={
 mixed:=by kernel_rfl
 f125:=Tryz.func112.trans (congrArg some (by kernel_rfl))
 f128:=Tryz.func129.trans (congrArg some (by kernel_rfl))
 f129:=Tryz.func130.trans (congrArg some (by kernel_rfl))
 f189:=Tryz.func93.trans (congrArg some (by kernel_rfl))
 f191:=Tryz.func65.trans (congrArg some (by kernel_rfl))
 f215:=Tryz.func138.trans (congrArg some (by kernel_rfl))
 f216:=Tryz.func126.trans (congrArg some (by kernel_rfl))
 f257:=Tryz.func111.trans (congrArg some (by kernel_rfl))
 f294:=Tryz.func120.trans (congrArg some (by kernel_rfl))
 f295:=Tryz.func121.trans (congrArg some (by kernel_rfl))
 f296:=Tryz.func122.trans (congrArg some (by kernel_rfl))
 f297:=Tryz.func123.trans (congrArg some (by kernel_rfl))
 f298:=Tryz.func124.trans (congrArg some (by kernel_rfl))
 f299:=Tryz.func125.trans (congrArg some (by kernel_rfl))
 f300:=Tryz.func127.trans (congrArg some (by kernel_rfl))
 f301:=Tryz.func128.trans (congrArg some (by kernel_rfl))
 f328:=Tryz.func133.trans (congrArg some (by kernel_rfl))
 f329:=Tryz.func134.trans (congrArg some (by kernel_rfl))
 f330:=Tryz.func135.trans (congrArg some (by kernel_rfl))
 f331:=Tryz.func136.trans (congrArg some (by kernel_rfl))
 f332:=Tryz.func137.trans (congrArg some (by kernel_rfl))
 f343:=Tryz.func140.trans (congrArg some (by kernel_rfl))
 t0:=Tryz.underlying0
 a0:=Tryz.isAgg0
 z0:=Tryz.sizeOf0
 v0:=Tryz.zeroValue0
 t3:=Tryz.underlying3
 a3:=Tryz.isAgg3
 z3:=Tryz.sizeOf3
 v3:=Tryz.zeroValue3
 t4:=Tryz.underlying4
 a4:=Tryz.isAgg4
 z4:=Tryz.sizeOf4
 v4:=Tryz.zeroValue4
 t5:=Tryz.underlying5
 a5:=Tryz.isAgg5
 z5:=Tryz.sizeOf5
 v5:=Tryz.zeroValue5
 t9:=Tryz.underlying9
 a9:=Tryz.isAgg9
 z9:=Tryz.sizeOf9
 v9:=Tryz.zeroValue9
 t28:=Tryz.underlying41
 a28:=Tryz.isAgg41
 z28:=Tryz.sizeOf41
 v28:=Tryz.zeroValue41
 t46:=Tryz.underlying122
 a46:=Tryz.isAgg122
 z46:=Tryz.sizeOf122
 v46:=Tryz.zeroValue122
 t51:=Tryz.underlying135
 a51:=Tryz.isAgg135
 z51:=Tryz.sizeOf135
 v51:=Tryz.zeroValue135
 t53:=Tryz.underlying137
 a53:=Tryz.isAgg137
 z53:=Tryz.sizeOf137
 v53:=Tryz.zeroValue137
 t131:=Tryz.underlying132
 a131:=Tryz.isAgg132
 z131:=Tryz.sizeOf132
 v131:=Tryz.zeroValue132
 t182:=Tryz.underlying126
 a182:=Tryz.isAgg126
 z182:=Tryz.sizeOf126
 v182:=Tryz.zeroValue126
 t183:=Tryz.underlying127
 a183:=Tryz.isAgg127
 z183:=Tryz.sizeOf127
 v183:=Tryz.zeroValue127
 t218:=Tryz.underlying139
 a218:=Tryz.isAgg139
 z218:=Tryz.sizeOf139
 v218:=Tryz.zeroValue139
 t222:=Tryz.underlying143
 a222:=Tryz.isAgg143
 z222:=Tryz.sizeOf143
 v222:=Tryz.zeroValue143
 t228:=Tryz.underlying146
 a228:=Tryz.isAgg146
 z228:=Tryz.sizeOf146
 v228:=Tryz.zeroValue146
 t229:=Tryz.underlying117
 a229:=Tryz.isAgg117
 z229:=Tryz.sizeOf117
 v229:=Tryz.zeroValue117 }
open Go.Sort Go.RowKit in
theorem Tryz.sort_Ints (blk off cap:Nat) (zs:List Int) (w:World) (hH:Holds (Value.int .i64) w blk off zs.toArray) (hblk:blk < w.heap.size) (hsz:zs.length < 4611686018427387904) :
  Calls Tryz.prog 65 #[.slice (some ⟨blk,off,none⟩) zs.length cap] w fun e w' =>
   e = .returned (.tuple #[])∧∃ n os,w'=grow (putRow (Value.int .i64) (Sort.ahead w n) blk off (zs.mergeSort fun x y=>decide (x ≤ y)).toArray) os:=Any.sort_Ints Tryz.lays191 blk off cap zs w hH hblk hsz
def Tryz.lays146_ren:Go.Shelf.Ren:=⟨fun | 146=>132 | 221=>139 | 268=>141 | 138=>142 | 143=>143 | 195=>144 | 197=>145 | 218=>146 | 219=>147 | 260=>148 | 217=>149 | 225=>150 | 224=>151 | 267=>152 | 266=>153 | 314=>154 | n=>n,fun | 9=>9 | 31=>67 | 3=>3 | 4=>4 | 0=>0 | 105=>151 | 21=>21 | 5=>5 | 46=>122 | 119=>155 | 139=>158 | 138=>157 | 146=>159 | 51=>135 | n=>n,fun | 1=>0 | 3=>1 | 4=>2 | n=>n⟩
theorem Tryz.lays146:Go.Proofs.Lays.n146 Tryz.prog Tryz.lays146_ren:={
 mixed:=by kernel_rfl
 f138:=Tryz.func142.trans (congrArg some (by kernel_rfl))
 f143:=Tryz.func143.trans (congrArg some (by kernel_rfl))
 f146:=Tryz.func132.trans (congrArg some (by kernel_rfl))
 f195:=Tryz.func144.trans (congrArg some (by kernel_rfl))
 f197:=Tryz.func145.trans (congrArg some (by kernel_rfl))
 f217:=Tryz.func149.trans (congrArg some (by kernel_rfl))
 f218:=Tryz.func146.trans (congrArg some (by kernel_rfl))
 f219:=Tryz.func147.trans (congrArg some (by kernel_rfl))
 f221:=Tryz.func139.trans (congrArg some (by kernel_rfl))
 f224:=Tryz.func151.trans (congrArg some (by kernel_rfl))
 f225:=Tryz.func150.trans (congrArg some (by kernel_rfl))
 f260:=Tryz.func148.trans (congrArg some (by kernel_rfl))
 f266:=Tryz.func153.trans (congrArg some (by kernel_rfl))
 f267:=Tryz.func152.trans (congrArg some (by kernel_rfl))
 f268:=Tryz.func141.trans (congrArg some (by kernel_rfl))
 f314:=Tryz.func154.trans (congrArg some (by kernel_rfl))
 t0:=Tryz.underlying0
 a0:=Tryz.isAgg0
 z0:=Tryz.sizeOf0
 v0:=Tryz.zeroValue0
 t3:=Tryz.underlying3
 a3:=Tryz.isAgg3
 z3:=Tryz.sizeOf3
 v3:=Tryz.zeroValue3
 t4:=Tryz.underlying4
 a4:=Tryz.isAgg4
 z4:=Tryz.sizeOf4
 v4:=Tryz.zeroValue4
 t5:=Tryz.underlying5
 a5:=Tryz.isAgg5
 z5:=Tryz.sizeOf5
 v5:=Tryz.zeroValue5
 t9:=Tryz.underlying9
 a9:=Tryz.isAgg9
 z9:=Tryz.sizeOf9
 v9:=Tryz.zeroValue9
 t21:=Tryz.underlying21
 a21:=Tryz.isAgg21
 z21:=Tryz.sizeOf21
 v21:=Tryz.zeroValue21
 t31:=Tryz.underlying67
 a31:=Tryz.isAgg67
 z31:=Tryz.sizeOf67
 v31:=Tryz.zeroValue67
 t46:=Tryz.underlying122
 a46:=Tryz.isAgg122
 z46:=Tryz.sizeOf122
 v46:=Tryz.zeroValue122
 t51:=Tryz.underlying135
 a51:=Tryz.isAgg135
 z51:=Tryz.sizeOf135
 v51:=Tryz.zeroValue135
 t105:=Tryz.underlying151
 a105:=Tryz.isAgg151
 z105:=Tryz.sizeOf151
 v105:=Tryz.zeroValue151
 t119:=Tryz.underlying155
 a119:=Tryz.isAgg155
 z119:=Tryz.sizeOf155
 t138:=Tryz.underlying157
 a138:=Tryz.isAgg157
 z138:=Tryz.sizeOf157
 v138:=Tryz.zeroValue157
 t139:=Tryz.underlying158
 a139:=Tryz.isAgg158
 z139:=Tryz.sizeOf158
 v139:=Tryz.zeroValue158
 t146:=Tryz.underlying159
 a146:=Tryz.isAgg159
 z146:=Tryz.sizeOf159
 v146:=Tryz.zeroValue159
 g1:=by kernel_rfl
 g3:=by kernel_rfl
 g4:=by kernel_rfl }
open Go.RowKit Go.Lib in
theorem Tryz.strings_Split (s sep:ByteArray) (m:Int) (w:World) (hs:s.size < 4294967281) (hm:w.cell? ⟨0,0,none⟩=some (.int .i64 m)) (h1:1 ≤ sep.size) :
  Calls Tryz.prog 132 #[.string s,.string sep] w fun e w' =>
   e = .returned (.slice (some ⟨w.heap.size,0,none⟩) (Lib.countB s sep + 1) (Lib.countB s sep + 1))∧w'=w.alloc (.cells ((Lib.splitB sep 0 (Lib.countB s sep) s).map Value.string).toArray 9):=Any.strings_Split Tryz.lays146 (by kernel_rfl) s sep m w hs hm h1
open Go.RowKit Go.Sort in
theorem Tryz.sort_Ints_none (p:Option Addr) (cap:Nat) (w:World) :
  Calls Tryz.prog 65 #[.slice p 0 cap] w fun e w'=>e = .returned (.tuple #[])∧w'=w:=Any.sort_Ints_none Tryz.lays191 p cap w
end Go.Proofs
namespace Go.Proofs.T
open Go.OM
theorem ent132:aE E.P 132:=eO Tryz.func132 (by simp [Tryz.f132]) rfl
theorem maxLen_cell {w:World} (h:E.Gl w):∃ m,w.cell? ⟨0,0,none⟩=some (.int .i64 m):=by
 obtain ⟨cs,t,fr,h1,m,h2⟩:=h _ (List.mem_singleton.2 rfl)
 refine ⟨m,?_⟩
 have h1':w.heap[0]? = some (.cells cs t fr):=h1
 simp [World.cell?,h1',h2]
theorem strings_Split_ok (s sep:ByteArray) {r0:List ByteArray} (h:strings_Split s sep=some r0):Ok E 132 [.val (vs s),.val (vs sep)] [.sl true 1 (List.map vs r0)] []:=by
 unfold strings_Split at h
 split at h
 case isFalse=>cases h
 rename_i hr
 injection h with h
 subst h
 have:=ok_fresh (E:=E) (f:=132) (ty:=9) (xs:=[.string s,.string sep]) (es:=(Lib.splitB sep 0 (Lib.countB s sep) s).map Value.string) (by simp [TA.OneCell]) fun w hw=>by
  obtain ⟨m,hm⟩:=maxLen_cell hw
  have h1:=Tryz.strings_Split s sep m w hr.1 hm hr.2.1
  refine h1.mono fun e w' ⟨h2,h3⟩=>⟨?_,h3⟩
  rw [h2,List.length_map,hr.2.2]
  try rfl
 rw [List.map_map] at this
 exact this
theorem ent65:aE E.P 65:=eO Tryz.func65 (by simp [Tryz.f65]) rfl
theorem nN (l:List Int) {r0:List Int} (h:sort_Ints l=some r0):OkIO E 65 [.val (.sl true 1 (List.map vi l))] [] [] [(0,.sl true 1 (List.map vi r0))]:=by
 unfold sort_Ints at h
 split at h
 case isFalse=>cases h
 rename_i hr
 injection h with h
 subst h
 exact ok_sorts (fun blk off cap zs w h1 h2 h3=>Tryz.sort_Ints blk off cap zs w h1 h2 h3) (fun p cap w=>Tryz.sort_Ints_none p cap w) l hr
theorem res119:Tryz.f119.results.toList=[.tmp 4]:=rfl
theorem ent119:aE E.P 119:=eO Tryz.func119 (by simp [Tryz.f119]) rfl
theorem impl_oneOf_ok (s1:ByteArray) (words2:ByteArray) {r0:Bool} (h:oR s1 words2=some r0):Ok E 119 [.val (vs s1),.val (vs words2)] [vb r0] []:=by
 refine oB (fn:=Tryz.f119) Tryz.func119 rfl (by simp [Tryz.f119]) fun C hN hP=>?_
 have hPB:∀ l,pinK [] l=true→pinB C.pin l=true:=pO (by rw [hP];rfl)
 have hN':C.N=18:=hN
 clear hN
 unfold oR at h
 refine SWp.sR rfl (hPB _ rfl) fun K hK=>?_
 refine wC rfl fun K hK=>?_;simp [hN'];refine hK _ ?_;clear hK
 refine wN (hK _ ?_);clear hK
 obtain ⟨j5,hj3,h⟩:=bS h
 refine SWp.seqC [] [] (fun v:Unit=>⟨[],[]⟩) (fun v=>j5=Sum.inl v) (fun v hv=>?_) fun K4 hK4=>?_
 rotate_left
 ·refine SWp.sR rfl (hPB _ rfl) fun K hK=>?_
  refine wC rfl fun K hK=>?_;simp [hN'];refine hK _ ?_;clear hK
  obtain ⟨r6,hc7,hj3⟩:=bS hj3
  refine wL [(.take,.tmp 7),(.take,.const (.string (⟨#[32]⟩:ByteArray)))] rfl rfl ent132 (strings_Split_ok _ _ hc7) fun K hK=>?_;simp [hN'];refine hK _ ?_;clear hK
  iterate 2 (refine wC rfl fun K hK=>?_;simp [hN'];refine hK _ ?_;clear hK)
  refine wN (hK _ ?_);clear hK
  refine SWp.block ?_
  refine SWp.loopO [] [0,8,9,10] [] (fun v:Int=>⟨[(0,.t (vs s1)),(8,.t (.sl true 1 (List.map vs r6))),(9,.t (vi (r6.length:Int))),(10,.t (vi v))],[]⟩) (iD s1 r6) _ 0 hj3 (by simp [hN']) ?_
  intro g s11 h9 ho10
  obtain ⟨v8,hg⟩:∃ y,y=g:=⟨_,rfl⟩
  subst hg
  simp only [iD] at h9
  try dsimp only
  refine SWp.sR rfl (hPB _ rfl) fun K hK=>?_
  refine wC rfl fun K hK=>?_;simp [hN'];refine hK _ ?_;clear hK
  refine wN (hK _ ?_);clear hK
  refine SWp.seq ?_
  rcases aA h9 with ⟨hb12,h9⟩ | ⟨hb13,h9⟩
  ·refine SWp.cT' (b:=decide (v8 < (r6.length:Int))) (by simp) hb12 ?_
   refine SWp.skip ?_
   show SWp E C _ _ _
   refine SWp.seq ?_
   refine SWp.block ?_
   refine SWp.sR rfl (hPB _ rfl) fun K hK=>?_
   obtain ⟨e14,he14,h9⟩:=bS h9
   obtain ⟨he14a,he14b,he14c,he14d⟩:=gS he14
   iterate 3 (refine wC rfl fun K hK=>?_;simp [hN',he14a,he14b,he14c,he14d];refine hK _ ?_;clear hK)
   refine wN (hK _ ?_);clear hK
   refine SWp.sR rfl (hPB _ rfl) fun K hK=>?_
   iterate 3 (refine wC rfl fun K hK=>?_;simp [hN'];refine hK _ ?_;clear hK)
   refine wN (hK _ ?_);clear hK
   rcases aA h9 with ⟨hb15,h9⟩ | ⟨hb16,h9⟩
   ·refine SWp.cT' (b:=sEq e14 s1) (by simp) hb15 ?_
    refine SWp.sR rfl (hPB _ rfl) fun K hK=>?_
    refine wC rfl fun K hK=>?_;simp [hN'];refine hK _ ?_;clear hK
    refine wN (hK _ ?_);clear hK
    have h17:=congrArg some (ho10 _ (Option.some.inj h9).symm)
    cases h17
    try dsimp only at h
    cases h
    refine SWp.ret ?_
    simp [aC,iB,res119]
   ·refine SWp.cF' (b:=sEq e14 s1) (by simp) hb16 ?_
    refine SWp.skip ?_
    show SWp E C _ _ _
    refine SWp.reg rfl (hPB _ rfl) fun K hK=>?_
    iterate 2 (refine wC rfl fun K hK=>?_;simp [hN'];refine hK _ ?_;clear hK)
    refine wN (hK _ ?_);clear hK
    cases h9
    exact ⟨_,[],rfl,by simp [hN']⟩
  ·refine SWp.cF' (b:=decide (v8 < (r6.length:Int))) (by simp) hb13 ?_
   refine SWp.exit ?_
   have h18:=congrArg some (ho10 _ (Option.some.inj h9).symm)
   cases h18
   exact hK4 _ _ [] rfl (by simp [hN'])
 subst hv
 obtain ⟨⟩:=v
 try dsimp only at h ⊢
 refine SWp.sR rfl (hPB _ rfl) fun K hK=>?_
 refine wC rfl fun K hK=>?_;simp [hN'];refine hK _ ?_;clear hK
 refine wN (hK _ ?_);clear hK
 cases h
 refine SWp.ret ?_
 simp [aC,iB,res119]
theorem res110:Tryz.f110.results.toList=[.tmp 2]:=rfl
theorem ent110:aE E.P 110:=eO Tryz.func110 (by simp [Tryz.f110]) rfl
theorem impl_KeyWord_ok (s1:ByteArray) {r0:Bool} (h:jF s1=some r0):Ok E 110 [.val (vs s1)] [vb r0] []:=by
 refine oB (fn:=Tryz.f110) Tryz.func110 rfl (by simp [Tryz.f110]) fun C hN hP=>?_
 have u:∀ l,pinK [] l=true→pinB C.pin l=true:=pO (by rw [hP];rfl)
 have y:C.N=5:=hN
 clear hN
 unfold jF at h
 refine SWp.sR rfl (u _ rfl) fun K q=>?_
 refine wC rfl fun K q=>?_;simp [y];refine q _ ?_;clear q
 refine wN (q _ ?_);clear q
 refine SWp.sR rfl (u _ rfl) fun K q=>?_
 refine wC rfl fun K q=>?_;simp [y];refine q _ ?_;clear q
 obtain ⟨r2,hc3,h⟩:=bS h
 refine wL [(.take,.tmp 3),(.take,.const (.string (⟨#[102,110,32,108,101,116,32,105,102,32,101,108,115,101,32,119,104,105,108,101,32,112,114,105,110,116,32,100,111,32,110,101,119,32,99,108,111,110,101,32,109,117,116,32,105,110,112,117,116,32,105,110,116,32,98,111,120,32,114,101,116]⟩:ByteArray)))] rfl rfl ent119 (impl_oneOf_ok _ _ hc3) fun K q=>?_;simp [y];refine q _ ?_;clear q
 refine wC rfl fun K q=>?_;simp [y];refine q _ ?_;clear q
 refine wN (q _ ?_);clear q
 cases h
 refine SWp.ret ?_
 simp [aC,iB,res110]
theorem res90:Tryz.f90.results.toList=[.tmp 2]:=rfl
theorem ent90:aE E.P 90:=eO Tryz.func90 (by simp [Tryz.f90]) rfl
theorem lN (s1:ByteArray) {r0:Bool} (h:gK s1=some r0):Ok E 90 [.val (vs s1)] [vb r0] []:=by
 refine oB (fn:=Tryz.f90) Tryz.func90 rfl (by simp [Tryz.f90]) fun C hN hP=>?_
 have hPB:∀ l,pinK [] l=true→pinB C.pin l=true:=pO (by rw [hP];rfl)
 have hN':C.N=35:=hN
 clear hN
 unfold gK at h
 refine SWp.sR rfl (hPB _ rfl) fun K hK=>?_
 refine wC rfl fun K hK=>?_;simp [hN'];refine hK _ ?_;clear hK
 refine wN (hK _ ?_);clear hK
 refine SWp.seq ?_
 obtain ⟨v11,hj2,h⟩:=bS h
 refine SWp.seqRC rfl (hPB _ rfl) [0,13] [] (fun _:Unit=>⟨[(0,.t (vs s1)),(13,.t (vb v11))],[]⟩) (fun _=>True) (fun _ _=>?_) fun K3 hK3=>?_
 rotate_left
 ·refine wC rfl fun K hK=>?_;simp [hN'];refine hK _ ?_;clear hK
  refine wC rfl fun K hK=>?_;simp [hN'];refine hK _ ?_;clear hK
  obtain ⟨r4,hc5,hj2⟩:=bS hj2
  refine wL [(.take,.tmp 5),(.take,.const (.int .i64 1)),(.take,.const (.int .i64 8))] rfl rfl lQ (aQ _ _ _ hc5) fun K hK=>?_;simp [hN'];refine hK _ ?_;clear hK
  iterate 2 (refine wC rfl fun K hK=>?_;simp [hN'];refine hK _ ?_;clear hK)
  rcases aA hj2 with ⟨hb6,hj2⟩ | ⟨hb7,hj2⟩
  ·have hb6s:=hb6
   try simp at hb6s
   iterate 4 (refine wO fun K hK=>?_;simp [hN',hb6,hb6s];refine hK _ ?_;clear hK)
   refine wC rfl fun K hK=>?_;simp [hN',hb6,hb6s];refine hK _ ?_;clear hK
   refine wN ?_
   cases hj2
   exact hK3 _ () [] trivial (by simp [hN',hb6,hb6s])
  ·have hb7s:=hb7
   try simp at hb7s
   refine wC rfl fun K hK=>?_;simp [hN',hb7,hb7s];refine hK _ ?_;clear hK
   obtain ⟨c8,hc8,hj2⟩:=bS hj2
   obtain ⟨hc8a,hc8b,hc8c⟩:=sAt_some hc8
   have hc8e:0 < s1.size:=by omega
   refine wC rfl fun K hK=>?_;simp [hN',hb7,hb7s,hc8a,hc8b,hc8c,hc8e];refine hK _ ?_;clear hK
   obtain ⟨r9,hc10,hj2⟩:=bS hj2
   refine wL [(.take,.tmp 10)] rfl rfl ent108 (nB _ hc10) fun K hK=>?_;simp [hN',hb7,hb7s,hc8a,hc8b,hc8c,hc8e];refine hK _ ?_;clear hK
   iterate 2 (refine wC rfl fun K hK=>?_;simp [hN',hb7,hb7s,hc8a,hc8b,hc8c,hc8e];refine hK _ ?_;clear hK)
   refine wN ?_
   cases hj2
   exact hK3 _ () [] trivial (by simp [hN',hb7,hb7s,hc8a,hc8b,hc8c,hc8e])
 rcases aA h with ⟨hb12,h⟩ | ⟨hb13,h⟩
 ·refine SWp.cT' (b:=v11) (by simp) hb12 ?_
  refine SWp.sR rfl (hPB _ rfl) fun K hK=>?_
  refine wC rfl fun K hK=>?_;simp [hN'];refine hK _ ?_;clear hK
  refine wN (hK _ ?_);clear hK
  cases h
  refine SWp.ret ?_
  simp [aC,iB,res90]
 ·refine SWp.cF' (b:=v11) (by simp) hb13 ?_
  refine SWp.skip ?_
  show SWp E C _ _ _
  obtain ⟨j16,hj14,h⟩:=bS h
  refine SWp.seqC [0] [] (fun v:Unit=>⟨[(0,.t (vs s1))],[]⟩) (fun v=>j16=Sum.inl v) (fun v hv=>?_) fun K15 hK15=>?_
  rotate_left
  ·refine SWp.sR rfl (hPB _ rfl) fun K hK=>?_
   refine wC rfl fun K hK=>?_;simp [hN'];refine hK _ ?_;clear hK
   refine wN (hK _ ?_);clear hK
   refine SWp.block ?_
   refine SWp.loopO [] [0,3] [] (fun v:Int=>⟨[(0,.t (vs s1)),(3,.t (vi v))],[]⟩) (eY s1) _ 0 hj14 (by simp [hN']) ?_
   intro g s20 h18 ho19
   obtain ⟨i17,hg⟩:∃ y,y=g:=⟨_,rfl⟩
   subst hg
   simp only [eY] at h18
   try dsimp only
   refine SWp.seq ?_
   refine SWp.sR rfl (hPB _ rfl) fun K hK=>?_
   iterate 4 (refine wC rfl fun K hK=>?_;simp [hN'];refine hK _ ?_;clear hK)
   refine wN (hK _ ?_);clear hK
   rcases aA h18 with ⟨hb21,h18⟩ | ⟨hb22,h18⟩
   ·refine SWp.cT' (b:=decide (i17 < (s1.size:Int))) (by simp) hb21 ?_
    refine SWp.skip ?_
    show SWp E C _ _ _
    refine SWp.seq ?_
    refine SWp.block ?_
    obtain ⟨v32,hj23,h18⟩:=bS h18
    refine SWp.seqRC rfl (hPB _ rfl) [0,3,31] [] (fun _:Unit=>⟨[(0,.t (vs s1)),(3,.t (vi i17)),(31,.t (vb v32))],[]⟩) (fun _=>True) (fun _ _=>?_) fun K24 hK24=>?_
    rotate_left
    ·refine wC rfl fun K hK=>?_;simp [hN'];refine hK _ ?_;clear hK
     refine wC rfl fun K hK=>?_;simp [hN'];refine hK _ ?_;clear hK
     obtain ⟨c25,hc25,hj23⟩:=bS hj23
     obtain ⟨hc25a,hc25b,hc25c⟩:=sAt_some hc25
     refine wC rfl fun K hK=>?_;simp [hN',hc25a,hc25b,hc25c];refine hK _ ?_;clear hK
     obtain ⟨r26,hc27,hj23⟩:=bS hj23
     refine wL [(.take,.tmp 22)] rfl rfl ent108 (nB _ hc27) fun K hK=>?_;simp [hN',hc25a,hc25b,hc25c];refine hK _ ?_;clear hK
     iterate 2 (refine wC rfl fun K hK=>?_;simp [hN',hc25a,hc25b,hc25c];refine hK _ ?_;clear hK)
     rcases aA hj23 with ⟨hb28,hj23⟩ | ⟨hb29,hj23⟩
     ·have hb28s:=hb28
      try simp at hb28s
      iterate 3 (refine wC rfl fun K hK=>?_;simp [hN',hc25a,hc25b,hc25c,hb28,hb28s];refine hK _ ?_;clear hK)
      obtain ⟨r30,hc31,hj23⟩:=bS hj23
      refine wL [(.take,.tmp 28)] rfl rfl ent109 (impl_isFigure_ok _ hc31) fun K hK=>?_;simp [hN',hc25a,hc25b,hc25c,hb28,hb28s];refine hK _ ?_;clear hK
      iterate 2 (refine wC rfl fun K hK=>?_;simp [hN',hc25a,hc25b,hc25c,hb28,hb28s];refine hK _ ?_;clear hK)
      refine wN ?_
      cases hj23
      exact hK24 _ () [] trivial (by simp [hN',hc25a,hc25b,hc25c,hb28,hb28s])
     ·have hb29s:=hb29
      try simp at hb29s
      iterate 5 (refine wO fun K hK=>?_;simp [hN',hc25a,hc25b,hc25c,hb29,hb29s];refine hK _ ?_;clear hK)
      refine wC rfl fun K hK=>?_;simp [hN',hc25a,hc25b,hc25c,hb29,hb29s];refine hK _ ?_;clear hK
      refine wN ?_
      cases hj23
      exact hK24 _ () [] trivial (by simp [hN',hc25a,hc25b,hc25c,hb29,hb29s])
    rcases aA h18 with ⟨hb33,h18⟩ | ⟨hb34,h18⟩
    ·refine SWp.cT' (b:=v32) (by simp) hb33 ?_
     refine SWp.sR rfl (hPB _ rfl) fun K hK=>?_
     refine wC rfl fun K hK=>?_;simp [hN'];refine hK _ ?_;clear hK
     refine wN (hK _ ?_);clear hK
     have h35:=congrArg some (ho19 _ (Option.some.inj h18).symm)
     cases h35
     try dsimp only at h
     cases h
     refine SWp.ret ?_
     simp [aC,iB,res90]
    ·refine SWp.cF' (b:=v32) (by simp) hb34 ?_
     refine SWp.skip ?_
     show SWp E C _ _ _
     refine SWp.reg rfl (hPB _ rfl) fun K hK=>?_
     iterate 3 (refine wC rfl fun K hK=>?_;simp [hN'];refine hK _ ?_;clear hK)
     refine wN (hK _ ?_);clear hK
     cases h18
     exact ⟨_,[],rfl,by simp [hN']⟩
   ·refine SWp.cF' (b:=decide (i17 < (s1.size:Int))) (by simp) hb22 ?_
    refine SWp.exit ?_
    have h36:=congrArg some (ho19 _ (Option.some.inj h18).symm)
    cases h36
    exact hK15 _ _ [] rfl (by simp [hN'])
  subst hv
  obtain ⟨⟩:=v
  try dsimp only at h ⊢
  refine SWp.sR rfl (hPB _ rfl) fun K hK=>?_
  refine wC rfl fun K hK=>?_;simp [hN'];refine hK _ ?_;clear hK
  obtain ⟨r37,hc38,h⟩:=bS h
  refine wL [(.take,.tmp 32)] rfl rfl ent110 (impl_KeyWord_ok _ hc38) fun K hK=>?_;simp [hN'];refine hK _ ?_;clear hK
  iterate 2 (refine wC rfl fun K hK=>?_;simp [hN'];refine hK _ ?_;clear hK)
  refine wN (hK _ ?_);clear hK
  cases h
  refine SWp.ret ?_
  simp [aC,iB,res90]
theorem res116:Tryz.f116.results.toList=[.tmp 2,.tmp 3]:=rfl
theorem ent116:aE E.P 116:=eO Tryz.func116 (by simp [Tryz.f116]) rfl
theorem impl_shape_ok (kind1:Int) {r0:Int} {r1:Int} (h:mE kind1=some (r0,r1)):Ok E 116 [.val (vi kind1)] [vi r0,vi r1] []:=by
 refine oB (fn:=Tryz.f116) Tryz.func116 rfl (by simp [Tryz.f116]) fun C hN hP=>?_
 have u:∀ l,pinK [] l=true→pinB C.pin l=true:=pO (by rw [hP];rfl)
 have y:C.N=23:=hN
 clear hN
 unfold mE at h
 refine SWp.sR rfl (u _ rfl) fun K q=>?_
 iterate 2 (refine wC rfl fun K q=>?_;simp [y];refine q _ ?_;clear q)
 refine wN (q _ ?_);clear q
 refine SWp.seq ?_
 refine SWp.sR rfl (u _ rfl) fun K q=>?_
 refine wC rfl fun K q=>?_;simp [y];refine q _ ?_;clear q
 refine wN (q _ ?_);clear q
 refine SWp.block ?_
 obtain ⟨v15,hj2,h⟩:=bS h
 refine SWp.seqC [4,5] [] (fun _:Unit=>⟨[(4,.t (vi kind1)),(5,.t (vb v15))],[]⟩) (fun _=>True) (fun _ _=>?_) fun K3 hK3=>?_
 rotate_left
 ·refine SWp.sR rfl (u _ rfl) fun K q=>?_
  iterate 2 (refine wC rfl fun K q=>?_;simp [y];refine q _ ?_;clear q)
  refine wN (q _ ?_);clear q
  rcases aA hj2 with ⟨hb5,hj2⟩ | ⟨hb6,hj2⟩
  ·refine SWp.cT' (b:=kind1 == 8) (by simp) hb5 ?_
   refine SWp.skip ?_
   cases hj2
   exact hK3 _ () [] trivial (by simp [y])
  ·refine SWp.cF' (b:=kind1 == 8) (by simp) hb6 ?_
   refine SWp.sR rfl (u _ rfl) fun K q=>?_
   iterate 2 (refine wC rfl fun K q=>?_;simp [y];refine q _ ?_;clear q)
   refine wN (q _ ?_);clear q
   rcases aA hj2 with ⟨hb7,hj2⟩ | ⟨hb8,hj2⟩
   ·refine SWp.cT' (b:=kind1 == 13) (by simp) hb7 ?_
    refine SWp.skip ?_
    cases hj2
    exact hK3 _ () [] trivial (by simp [y])
   ·refine SWp.cF' (b:=kind1 == 13) (by simp) hb8 ?_
    refine SWp.sR rfl (u _ rfl) fun K q=>?_
    iterate 2 (refine wC rfl fun K q=>?_;simp [y];refine q _ ?_;clear q)
    refine wN (q _ ?_);clear q
    rcases aA hj2 with ⟨hb9,hj2⟩ | ⟨hb10,hj2⟩
    ·refine SWp.cT' (b:=kind1 == 14) (by simp) hb9 ?_
     refine SWp.skip ?_
     cases hj2
     exact hK3 _ () [] trivial (by simp [y])
    ·refine SWp.cF' (b:=kind1 == 14) (by simp) hb10 ?_
     refine SWp.sR rfl (u _ rfl) fun K q=>?_
     iterate 2 (refine wC rfl fun K q=>?_;simp [y];refine q _ ?_;clear q)
     refine wN (q _ ?_);clear q
     rcases aA hj2 with ⟨hb11,hj2⟩ | ⟨hb12,hj2⟩
     ·refine SWp.cT' (b:=kind1 == 15) (by simp) hb11 ?_
      refine SWp.skip ?_
      cases hj2
      exact hK3 _ () [] trivial (by simp [y])
     ·refine SWp.cF' (b:=kind1 == 15) (by simp) hb12 ?_
      refine SWp.sR rfl (u _ rfl) fun K q=>?_
      iterate 2 (refine wC rfl fun K q=>?_;simp [y];refine q _ ?_;clear q)
      refine wN (q _ ?_);clear q
      rcases aA hj2 with ⟨hb13,hj2⟩ | ⟨hb14,hj2⟩
      ·refine SWp.cT' (b:=kind1 == 18) (by simp) hb13 ?_
       refine SWp.skip ?_
       cases hj2
       exact hK3 _ () [] trivial (by simp [y])
      ·refine SWp.cF' (b:=kind1 == 18) (by simp) hb14 ?_
       refine SWp.reg rfl (u _ rfl) fun K q=>?_
       iterate 2 (refine wC rfl fun K q=>?_;simp [y];refine q _ ?_;clear q)
       refine wN (q _ ?_);clear q
       cases hj2
       exact hK3 _ () [] trivial (by simp [y])
 rcases aA h with ⟨hb16,h⟩ | ⟨hb17,h⟩
 ·refine SWp.cT' (b:=v15) (by simp) hb16 ?_
  refine SWp.sR rfl (u _ rfl) fun K q=>?_
  iterate 2 (refine wC rfl fun K q=>?_;simp [y];refine q _ ?_;clear q)
  refine wN (q _ ?_);clear q
  cases h
  refine SWp.ret ?_
  simp [aC,iB,res116]
 ·refine SWp.cF' (b:=v15) (by simp) hb17 ?_
  obtain ⟨v27,hj18,h⟩:=bS h
  refine SWp.seqC [4,12] [] (fun _:Unit=>⟨[(4,.t (vi kind1)),(12,.t (vb v27))],[]⟩) (fun _=>True) (fun _ _=>?_) fun K19 hK19=>?_
  rotate_left
  ·refine SWp.sR rfl (u _ rfl) fun K q=>?_
   iterate 2 (refine wC rfl fun K q=>?_;simp [y];refine q _ ?_;clear q)
   refine wN (q _ ?_);clear q
   rcases aA hj18 with ⟨hb21,hj18⟩ | ⟨hb22,hj18⟩
   ·refine SWp.cT' (b:=kind1 == 9) (by simp) hb21 ?_
    refine SWp.skip ?_
    cases hj18
    exact hK19 _ () [] trivial (by simp [y])
   ·refine SWp.cF' (b:=kind1 == 9) (by simp) hb22 ?_
    refine SWp.sR rfl (u _ rfl) fun K q=>?_
    iterate 2 (refine wC rfl fun K q=>?_;simp [y];refine q _ ?_;clear q)
    refine wN (q _ ?_);clear q
    rcases aA hj18 with ⟨hb23,hj18⟩ | ⟨hb24,hj18⟩
    ·refine SWp.cT' (b:=kind1 == 10) (by simp) hb23 ?_
     refine SWp.skip ?_
     cases hj18
     exact hK19 _ () [] trivial (by simp [y])
    ·refine SWp.cF' (b:=kind1 == 10) (by simp) hb24 ?_
     refine SWp.sR rfl (u _ rfl) fun K q=>?_
     iterate 2 (refine wC rfl fun K q=>?_;simp [y];refine q _ ?_;clear q)
     refine wN (q _ ?_);clear q
     rcases aA hj18 with ⟨hb25,hj18⟩ | ⟨hb26,hj18⟩
     ·refine SWp.cT' (b:=kind1 == 11) (by simp) hb25 ?_
      refine SWp.skip ?_
      cases hj18
      exact hK19 _ () [] trivial (by simp [y])
     ·refine SWp.cF' (b:=kind1 == 11) (by simp) hb26 ?_
      refine SWp.reg rfl (u _ rfl) fun K q=>?_
      iterate 2 (refine wC rfl fun K q=>?_;simp [y];refine q _ ?_;clear q)
      refine wN (q _ ?_);clear q
      cases hj18
      exact hK19 _ () [] trivial (by simp [y])
  rcases aA h with ⟨hb28,h⟩ | ⟨hb29,h⟩
  ·refine SWp.cT' (b:=v27) (by simp) hb28 ?_
   refine SWp.sR rfl (u _ rfl) fun K q=>?_
   iterate 2 (refine wC rfl fun K q=>?_;simp [y];refine q _ ?_;clear q)
   refine wN (q _ ?_);clear q
   cases h
   refine SWp.ret ?_
   simp [aC,iB,res116]
  ·refine SWp.cF' (b:=v27) (by simp) hb29 ?_
   refine SWp.sR rfl (u _ rfl) fun K q=>?_
   iterate 2 (refine wC rfl fun K q=>?_;simp [y];refine q _ ?_;clear q)
   refine wN (q _ ?_);clear q
   rcases aA h with ⟨hb30,h⟩ | ⟨hb31,h⟩
   ·refine SWp.cT' (b:=kind1 == 16) (by simp) hb30 ?_
    refine SWp.sR rfl (u _ rfl) fun K q=>?_
    iterate 2 (refine wC rfl fun K q=>?_;simp [y];refine q _ ?_;clear q)
    refine wN (q _ ?_);clear q
    cases h
    refine SWp.ret ?_
    simp [aC,iB,res116]
   ·refine SWp.cF' (b:=kind1 == 16) (by simp) hb31 ?_
    refine SWp.sR rfl (u _ rfl) fun K q=>?_
    iterate 2 (refine wC rfl fun K q=>?_;simp [y];refine q _ ?_;clear q)
    refine wN (q _ ?_);clear q
    rcases aA h with ⟨hb32,h⟩ | ⟨hb33,h⟩
    ·refine SWp.cT' (b:=kind1 == 12) (by simp) hb32 ?_
     refine SWp.sR rfl (u _ rfl) fun K q=>?_
     iterate 2 (refine wC rfl fun K q=>?_;simp [y];refine q _ ?_;clear q)
     refine wN (q _ ?_);clear q
     cases h
     refine SWp.ret ?_
     simp [aC,iB,res116]
    ·refine SWp.cF' (b:=kind1 == 12) (by simp) hb33 ?_
     refine SWp.sR rfl (u _ rfl) fun K q=>?_
     iterate 2 (refine wC rfl fun K q=>?_;simp [y];refine q _ ?_;clear q)
     refine wN (q _ ?_);clear q
     rcases aA h with ⟨hb34,h⟩ | ⟨hb35,h⟩
     ·refine SWp.cT' (b:=kind1 == 20) (by simp) hb34 ?_
      refine SWp.sR rfl (u _ rfl) fun K q=>?_
      iterate 2 (refine wC rfl fun K q=>?_;simp [y];refine q _ ?_;clear q)
      refine wN (q _ ?_);clear q
      cases h
      refine SWp.ret ?_
      simp [aC,iB,res116]
     ·refine SWp.cF' (b:=kind1 == 20) (by simp) hb35 ?_
      refine SWp.skip ?_
      show SWp E C _ _ _
      refine SWp.sR rfl (u _ rfl) fun K q=>?_
      iterate 2 (refine wC rfl fun K q=>?_;simp [y];refine q _ ?_;clear q)
      refine wN (q _ ?_);clear q
      cases h
      refine SWp.ret ?_
      simp [aC,iB,res116]
theorem res91:Tryz.f91.results.toList=[.tmp 2]:=rfl
theorem ent91:aE E.P 91:=eO Tryz.func91 (by simp [Tryz.f91]) rfl
theorem oA (kind1:Int) {r0:Bool} (h:gP kind1=some r0):Ok E 91 [.val (vi kind1)] [vb r0] []:=by
 refine oB (fn:=Tryz.f91) Tryz.func91 rfl (by simp [Tryz.f91]) fun C hN hP=>?_
 have u:∀ l,pinK [] l=true→pinB C.pin l=true:=pO (by rw [hP];rfl)
 have y:C.N=5:=hN
 clear hN
 unfold gP at h
 refine SWp.sR rfl (u _ rfl) fun K q=>?_
 refine wC rfl fun K q=>?_;simp [y];refine q _ ?_;clear q
 refine wN (q _ ?_);clear q
 refine SWp.sR rfl (u _ rfl) fun K q=>?_
 refine wC rfl fun K q=>?_;simp [y];refine q _ ?_;clear q
 obtain ⟨r2,hc3,h⟩:=bS h
 refine wL [(.take,.tmp 3),(.take,.const (.int .i64 1)),(.take,.const (.int .i64 12))] rfl rfl lQ (aQ _ _ _ hc3) fun K q=>?_;simp [y];refine q _ ?_;clear q
 refine wC rfl fun K q=>?_;simp [y];refine q _ ?_;clear q
 refine wN (q _ ?_);clear q
 cases h
 refine SWp.ret ?_
 simp [aC,iB,res91]
theorem res131:Tryz.f131.results.toList=[.tmp 2]:=rfl
theorem ent131:aE E.P 131:=eO Tryz.func131 (by simp [Tryz.f131]) rfl
theorem impl_isStep_ok (kind1:Int) {r0:Bool} (h:kR kind1=some r0):Ok E 131 [.val (vi kind1)] [vb r0] []:=by
 refine oB (fn:=Tryz.f131) Tryz.func131 rfl (by simp [Tryz.f131]) fun C hN hP=>?_
 have u:∀ l,pinK [] l=true→pinB C.pin l=true:=pO (by rw [hP];rfl)
 have y:C.N=5:=hN
 clear hN
 unfold kR at h
 refine SWp.sR rfl (u _ rfl) fun K q=>?_
 refine wC rfl fun K q=>?_;simp [y];refine q _ ?_;clear q
 refine wN (q _ ?_);clear q
 refine SWp.sR rfl (u _ rfl) fun K q=>?_
 refine wC rfl fun K q=>?_;simp [y];refine q _ ?_;clear q
 obtain ⟨r2,hc3,h⟩:=bS h
 refine wL [(.take,.tmp 3),(.take,.const (.int .i64 13)),(.take,.const (.int .i64 19))] rfl rfl lQ (aQ _ _ _ hc3) fun K q=>?_;simp [y];refine q _ ?_;clear q
 refine wC rfl fun K q=>?_;simp [y];refine q _ ?_;clear q
 refine wN (q _ ?_);clear q
 cases h
 refine SWp.ret ?_
 simp [aC,iB,res131]
theorem res117:Tryz.f117.results.toList=[.tmp 6]:=rfl
theorem ent117:aE E.P 117:=eO Tryz.func117 (by simp [Tryz.f117]) rfl
theorem impl_kidFits_ok (kind1:Int) (i2:Int) (kid3:Int) {r0:Bool} (h:jC kind1 i2 kid3=some r0):Ok E 117 [.val (vi kind1),.val (vi i2),.val (vi kid3)] [vb r0] []:=by
 refine oB (fn:=Tryz.f117) Tryz.func117 rfl (by simp [Tryz.f117]) fun C hN hP=>?_
 have u:∀ l,pinK [] l=true→pinB C.pin l=true:=pO (by rw [hP];rfl)
 have y:C.N=32:=hN
 clear hN
 unfold jC at h
 refine SWp.sR rfl (u _ rfl) fun K q=>?_
 refine wC rfl fun K q=>?_;simp [y];refine q _ ?_;clear q
 refine wN (q _ ?_);clear q
 refine SWp.seq ?_
 refine SWp.block ?_
 refine SWp.sR rfl (u _ rfl) fun K q=>?_
 iterate 3 (refine wC rfl fun K q=>?_;simp [y];refine q _ ?_;clear q)
 refine wN (q _ ?_);clear q
 rcases aA h with ⟨hb4,h⟩ | ⟨hb5,h⟩
 ·refine SWp.cT' (b:=kind1 == 20) (by simp) hb4 ?_
  refine SWp.sR rfl (u _ rfl) fun K q=>?_
  refine wC rfl fun K q=>?_;simp [y];refine q _ ?_;clear q
  obtain ⟨r6,hc7,h⟩:=bS h
  refine wL [(.take,.tmp 10)] rfl rfl ent131 (impl_isStep_ok _ hc7) fun K q=>?_;simp [y];refine q _ ?_;clear q
  refine wC rfl fun K q=>?_;simp [y];refine q _ ?_;clear q
  refine wN (q _ ?_);clear q
  cases h
  refine SWp.ret ?_
  simp [aC,iB,res117]
 ·refine SWp.cF' (b:=kind1 == 20) (by simp) hb5 ?_
  obtain ⟨v14,hj8,h⟩:=bS h
  refine SWp.seqRC rfl (u _ rfl) [0,2,12] [] (fun _:Unit=>⟨[(0,.t (vi kind1)),(2,.t (vi kid3)),(12,.t (vb v14))],[]⟩) (fun _=>True) (fun _ _=>?_) fun K9 hK9=>?_
  rotate_left
  ·refine wC rfl fun K q=>?_;simp [y];refine q _ ?_;clear q
   iterate 2 (refine wC rfl fun K q=>?_;simp [y];refine q _ ?_;clear q)
   rcases aA hj8 with ⟨hb10,hj8⟩ | ⟨hb11,hj8⟩
   ·have hb10s:=hb10
    try simp at hb10s
    iterate 2 (refine wO fun K q=>?_;simp [y,hb10,hb10s];refine q _ ?_;clear q)
    iterate 6 (refine wC rfl fun K q=>?_;simp [y,hb10,hb10s];refine q _ ?_;clear q)
    refine wN ?_
    cases hj8
    exact hK9 _ () [] trivial (by simp [y,hb10,hb10s])
   ·have hb11s:=hb11
    try simp at hb11s
    iterate 4 (refine wC rfl fun K q=>?_;simp [y,hb11,hb11s];refine q _ ?_;clear q)
    rcases aA hj8 with ⟨hb12,hj8⟩ | ⟨hb13,hj8⟩
    ·have hb12s:=hb12
     try simp at hb12s
     iterate 4 (refine wC rfl fun K q=>?_;simp [y,hb11,hb11s,hb12,hb12s];refine q _ ?_;clear q)
     refine wN ?_
     cases hj8
     exact hK9 _ () [] trivial (by simp [y,hb11,hb11s,hb12,hb12s])
    ·have hb13s:=hb13
     try simp at hb13s
     iterate 2 (refine wO fun K q=>?_;simp [y,hb11,hb11s,hb13,hb13s];refine q _ ?_;clear q)
     iterate 2 (refine wC rfl fun K q=>?_;simp [y,hb11,hb11s,hb13,hb13s];refine q _ ?_;clear q)
     refine wN ?_
     cases hj8
     exact hK9 _ () [] trivial (by simp [y,hb11,hb11s,hb13,hb13s])
  rcases aA h with ⟨hb15,h⟩ | ⟨hb16,h⟩
  ·refine SWp.cT' (b:=v14) (by simp) hb15 ?_
   refine SWp.sR rfl (u _ rfl) fun K q=>?_
   iterate 3 (refine wC rfl fun K q=>?_;simp [y];refine q _ ?_;clear q)
   refine wN (q _ ?_);clear q
   cases h
   refine SWp.ret ?_
   simp [aC,iB,res117]
  ·refine SWp.cF' (b:=v14) (by simp) hb16 ?_
   refine SWp.sR rfl (u _ rfl) fun K q=>?_
   iterate 3 (refine wC rfl fun K q=>?_;simp [y];refine q _ ?_;clear q)
   refine wN (q _ ?_);clear q
   rcases aA h with ⟨hb17,h⟩ | ⟨hb18,h⟩
   ·refine SWp.cT' (b:=kind1 == 19) (by simp) hb17 ?_
    refine SWp.sR rfl (u _ rfl) fun K q=>?_
    iterate 3 (refine wC rfl fun K q=>?_;simp [y];refine q _ ?_;clear q)
    refine wN (q _ ?_);clear q
    cases h
    refine SWp.ret ?_
    simp [aC,iB,res117]
   ·refine SWp.cF' (b:=kind1 == 19) (by simp) hb18 ?_
    refine SWp.skip ?_
    show SWp E C _ _ _
    refine SWp.sR rfl (u _ rfl) fun K q=>?_
    refine wC rfl fun K q=>?_;simp [y];refine q _ ?_;clear q
    obtain ⟨r19,hc20,h⟩:=bS h
    refine wL [(.take,.tmp 30)] rfl rfl ent91 (oA _ hc20) fun K q=>?_;simp [y];refine q _ ?_;clear q
    refine wC rfl fun K q=>?_;simp [y];refine q _ ?_;clear q
    refine wN (q _ ?_);clear q
    cases h
    refine SWp.ret ?_
    simp [aC,iB,res117]
theorem res118:Tryz.f118.results.toList=[.tmp 2]:=rfl
theorem ent118:aE E.P 118:=eO Tryz.func118 (by simp [Tryz.f118]) rfl
theorem impl_hasName_ok (kind1:Int) {r0:Bool} (h:jD kind1=some r0):Ok E 118 [.val (vi kind1)] [vb r0] []:=by
 refine oB (fn:=Tryz.f118) Tryz.func118 rfl (by simp [Tryz.f118]) fun C hN hP=>?_
 have u:∀ l,pinK [] l=true→pinB C.pin l=true:=pO (by rw [hP];rfl)
 have y:C.N=9:=hN
 clear hN
 unfold jD at h
 refine SWp.sR rfl (u _ rfl) fun K q=>?_
 refine wC rfl fun K q=>?_;simp [y];refine q _ ?_;clear q
 refine wN (q _ ?_);clear q
 obtain ⟨v10,hj2,h⟩:=bS h
 refine SWp.seqRC rfl (u _ rfl) [2] [] (fun _:Unit=>⟨[(2,.t (vb v10))],[]⟩) (fun _=>True) (fun _ _=>?_) fun K3 hK3=>?_
 rotate_left
 ·refine wC rfl fun K q=>?_;simp [y];refine q _ ?_;clear q
  obtain ⟨r4,hc5,hj2⟩:=bS hj2
  refine wL [(.take,.tmp 3),(.take,.const (.int .i64 2)),(.take,.const (.int .i64 6))] rfl rfl lQ (aQ _ _ _ hc5) fun K q=>?_;simp [y];refine q _ ?_;clear q
  refine wC rfl fun K q=>?_;simp [y];refine q _ ?_;clear q
  rcases aA hj2 with ⟨hb6,hj2⟩ | ⟨hb7,hj2⟩
  ·have hb6s:=hb6
   try simp at hb6s
   iterate 2 (refine wO fun K q=>?_;simp [y,hb6,hb6s];refine q _ ?_;clear q)
   iterate 2 (refine wC rfl fun K q=>?_;simp [y,hb6,hb6s];refine q _ ?_;clear q)
   refine wN ?_
   cases hj2
   exact hK3 _ () [] trivial (by simp [y,hb6,hb6s])
  ·have hb7s:=hb7
   try simp at hb7s
   refine wC rfl fun K q=>?_;simp [y,hb7,hb7s];refine q _ ?_;clear q
   obtain ⟨r8,hc9,hj2⟩:=bS hj2
   refine wL [(.take,.tmp 6),(.take,.const (.int .i64 12)),(.take,.const (.int .i64 15))] rfl rfl lQ (aQ _ _ _ hc9) fun K q=>?_;simp [y,hb7,hb7s];refine q _ ?_;clear q
   iterate 2 (refine wC rfl fun K q=>?_;simp [y,hb7,hb7s];refine q _ ?_;clear q)
   refine wN ?_
   cases hj2
   exact hK3 _ () [] trivial (by simp [y,hb7,hb7s])
 cases h
 refine SWp.ret ?_
 simp [aC,iB,res118]
theorem res107:Tryz.f107.results.toList=[.tmp 4]:=rfl
theorem ent107:aE E.P 107:=eO Tryz.func107 (by simp [Tryz.f107]) rfl
theorem impl_NodeOk_ok (nodes1:List GNode) (k2:Int) {r0:Bool} (h:kU nodes1 k2=some r0):Ok E 107 [.val (.sl false 4 (List.map (GNode.enc false) nodes1)),.val (vi k2)] [vb r0] []:=by
 refine oB (fn:=Tryz.f107) Tryz.func107 rfl (by simp [Tryz.f107]) fun C hN hP=>?_
 have hPB:∀ l,pinK [] l=true→pinB C.pin l=true:=pO (by rw [hP];rfl)
 have hN':C.N=101:=hN
 clear hN
 unfold kU at h
 refine SWp.sR rfl (hPB _ rfl) fun K hK=>?_
 refine wC rfl fun K hK=>?_;simp [hN'];refine hK _ ?_;clear hK
 refine wN (hK _ ?_);clear hK
 refine SWp.seq ?_
 refine SWp.sR rfl (hPB _ rfl) fun K hK=>?_
 iterate 4 (refine wC rfl fun K hK=>?_;simp [hN'];refine hK _ ?_;clear hK)
 obtain ⟨r3,hc4,h⟩:=bS h
 refine wL [(.take,.tmp 10),(.take,.const (.int .i64 0)),(.take,.tmp 13)] rfl rfl lQ (aQ _ _ _ hc4) fun K hK=>?_;simp [hN'];refine hK _ ?_;clear hK
 refine wC rfl fun K hK=>?_;simp [hN'];refine hK _ ?_;clear hK
 refine wN (hK _ ?_);clear hK
 rcases aA h with ⟨hb5,h⟩ | ⟨hb6,h⟩
 ·refine SWp.cT' (b:=!r3) (by simp) hb5 ?_
  refine SWp.sR rfl (hPB _ rfl) fun K hK=>?_
  refine wC rfl fun K hK=>?_;simp [hN'];refine hK _ ?_;clear hK
  refine wN (hK _ ?_);clear hK
  cases h
  refine SWp.ret ?_
  simp [aC,iB,res107]
 ·refine SWp.cF' (b:=!r3) (by simp) hb6 ?_
  refine SWp.skip ?_
  show SWp E C _ _ _
  refine SWp.sR rfl (hPB _ rfl) fun K hK=>?_
  iterate 2 (refine wC rfl fun K hK=>?_;simp [hN'];refine hK _ ?_;clear hK)
  obtain ⟨e7,he7,h⟩:=bS h
  obtain ⟨he7a,he7b,he7c,he7d⟩:=gS he7
  iterate 4 (refine wC rfl fun K hK=>?_;simp [hN',he7a,he7b,he7c,he7d];refine hK _ ?_;clear hK)
  refine wN (hK _ ?_);clear hK
  refine SWp.sR rfl (hPB _ rfl) fun K hK=>?_
  iterate 2 (refine wC rfl fun K hK=>?_;simp [hN'];refine hK _ ?_;clear hK)
  obtain ⟨⟨r8,r9⟩,hc10,h⟩:=bS h
  try dsimp only at h
  refine wL [(.take,.tmp 22)] rfl rfl ent116 (impl_shape_ok _ hc10) fun K hK=>?_;simp [hN'];refine hK _ ?_;clear hK
  iterate 5 (refine wC rfl fun K hK=>?_;simp [hN'];refine hK _ ?_;clear hK)
  refine wN (hK _ ?_);clear hK
  refine SWp.seq ?_
  obtain ⟨v19,hj11,h⟩:=bS h
  refine SWp.seqRC rfl (hPB _ rfl) [0,1,5,38] [5] (fun _:Unit=>⟨[(0,.t (.sl false 4 (List.map (GNode.enc false) nodes1))),(1,.t (vi k2)),(5,.ref (.box 5) 0 []),(38,.t (vb v19))],[(5,[vi e7.Kind,vi e7.Num,vs e7.Name,.sl false 1 (List.map vi e7.Kids)])]⟩) (fun _=>True) (fun _ _=>?_) fun K12 hK12=>?_
  rotate_left
  ·refine wC rfl fun K hK=>?_;simp [hN'];refine hK _ ?_;clear hK
   refine wC rfl fun K hK=>?_;simp [hN'];refine hK _ ?_;clear hK
   obtain ⟨r13,hc14,hj11⟩:=bS hj11
   refine wL [(.take,.tmp 27),(.take,.const (.int .i64 1)),(.take,.const (.int .i64 20))] rfl rfl lQ (aQ _ _ _ hc14) fun K hK=>?_;simp [hN'];refine hK _ ?_;clear hK
   iterate 2 (refine wC rfl fun K hK=>?_;simp [hN'];refine hK _ ?_;clear hK)
   rcases aA hj11 with ⟨hb15,hj11⟩ | ⟨hb16,hj11⟩
   ·have hb15s:=hb15
    try simp at hb15s
    iterate 7 (refine wO fun K hK=>?_;simp [hN',hb15,hb15s];refine hK _ ?_;clear hK)
    refine wC rfl fun K hK=>?_;simp [hN',hb15,hb15s];refine hK _ ?_;clear hK
    refine wN ?_
    cases hj11
    exact hK12 _ () [] trivial (by simp [hN',hb15,hb15s])
   ·have hb16s:=hb16
    try simp at hb16s
    iterate 5 (refine wC rfl fun K hK=>?_;simp [hN',hb16,hb16s];refine hK _ ?_;clear hK)
    obtain ⟨r17,hc18,hj11⟩:=bS hj11
    refine wL [(.take,.tmp 33),(.take,.tmp 34),(.take,.tmp 35)] rfl rfl lQ (aQ _ _ _ hc18) fun K hK=>?_;simp [hN',hb16,hb16s];refine hK _ ?_;clear hK
    iterate 2 (refine wC rfl fun K hK=>?_;simp [hN',hb16,hb16s];refine hK _ ?_;clear hK)
    refine wN ?_
    cases hj11
    exact hK12 _ () [] trivial (by simp [hN',hb16,hb16s])
  rcases aA h with ⟨hb20,h⟩ | ⟨hb21,h⟩
  ·refine SWp.cT' (b:=v19) (by simp) hb20 ?_
   refine SWp.sR rfl (hPB _ rfl) fun K hK=>?_
   refine wC rfl fun K hK=>?_;simp [hN'];refine hK _ ?_;clear hK
   refine wN (hK _ ?_);clear hK
   cases h
   refine SWp.ret ?_
   simp [aC,iB,res107]
  ·refine SWp.cF' (b:=v19) (by simp) hb21 ?_
   refine SWp.skip ?_
   show SWp E C _ _ _
   obtain ⟨j24,hj22,h⟩:=bS h
   refine SWp.seqC [5] [5] (fun v:Unit=>⟨[(5,.ref (.box 5) 0 [])],[(5,[vi e7.Kind,vi e7.Num,vs e7.Name,.sl false 1 (List.map vi e7.Kids)])]⟩) (fun v=>j24=Sum.inl v) (fun v hv=>?_) fun K23 hK23=>?_
   rotate_left
   ·refine SWp.sR rfl (hPB _ rfl) fun K hK=>?_
    iterate 4 (refine wC rfl fun K hK=>?_;simp [hN'];refine hK _ ?_;clear hK)
    refine wN (hK _ ?_);clear hK
    refine SWp.block ?_
    refine SWp.loopO [] [0,1,5,40,41,42] [5] (fun v:Int=>⟨[(0,.t (.sl false 4 (List.map (GNode.enc false) nodes1))),(1,.t (vi k2)),(5,.ref (.box 5) 0 []),(40,.t (.sl false 1 (List.map vi e7.Kids))),(41,.t (vi (e7.Kids.length:Int))),(42,.t (vi v))],[(5,[vi e7.Kind,vi e7.Num,vs e7.Name,.sl false 1 (List.map vi e7.Kids)])]⟩) (eX nodes1 k2 e7) _ 0 hj22 (by simp [hN']) ?_
    intro g s28 h26 ho27
    obtain ⟨v25,hg⟩:∃ y,y=g:=⟨_,rfl⟩
    subst hg
    simp only [eX] at h26
    try dsimp only
    refine SWp.sR rfl (hPB _ rfl) fun K hK=>?_
    refine wC rfl fun K hK=>?_;simp [hN'];refine hK _ ?_;clear hK
    refine wN (hK _ ?_);clear hK
    refine SWp.seq ?_
    rcases aA h26 with ⟨hb29,h26⟩ | ⟨hb30,h26⟩
    ·refine SWp.cT' (b:=decide (v25 < (e7.Kids.length:Int))) (by simp) hb29 ?_
     refine SWp.skip ?_
     show SWp E C _ _ _
     refine SWp.seq ?_
     refine SWp.block ?_
     refine SWp.sR rfl (hPB _ rfl) fun K hK=>?_
     refine wC rfl fun K hK=>?_;simp [hN'];refine hK _ ?_;clear hK
     obtain ⟨e31,he31,h26⟩:=bS h26
     obtain ⟨he31a,he31b,he31c,he31d⟩:=gS he31
     iterate 4 (refine wC rfl fun K hK=>?_;simp [hN',he31a,he31b,he31c,he31d];refine hK _ ?_;clear hK)
     refine wN (hK _ ?_);clear hK
     obtain ⟨v46,hj32,h26⟩:=bS h26
     refine SWp.seqC [0,1,5,40,41,42,71] [5] (fun _:Unit=>⟨[(0,.t (.sl false 4 (List.map (GNode.enc false) nodes1))),(1,.t (vi k2)),(5,.ref (.box 5) 0 []),(40,.t (.sl false 1 (List.map vi e7.Kids))),(41,.t (vi (e7.Kids.length:Int))),(42,.t (vi v25)),(71,.t (vb v46))],[(5,[vi e7.Kind,vi e7.Num,vs e7.Name,.sl false 1 (List.map vi e7.Kids)])]⟩) (fun _=>True) (fun _ _=>?_) fun K33 hK33=>?_
     rotate_left
     ·obtain ⟨r34,hc35,hj32⟩:=bS hj32
      rcases aA hj32 with ⟨hb36,hj32⟩ | ⟨hb37,hj32⟩
      ·have hb36s:=hb36
       try simp at hb36s
       refine SWp.dT rfl (hPB _ rfl) [(47,.t (vi e31)),(48,.t (vi k2)),(49,.t (vi (IntKind.wrap .i64 (k2 - 1)))),(50,.t (vb r34)),(51,.t (vb (!r34))),(52,.t (vb (!r34))),(53,.tup []),(54,.tup []),(55,.tup []),(56,.tup []),(57,.tup []),(58,.tup []),(59,.t (vb true)),(60,.t (vb true)),(61,.tup []),(62,.tup []),(63,.tup []),(64,.tup []),(65,.tup []),(66,.tup []),(67,.tup []),(68,.tup [])] [[],[],[1],[0,1,2],[0,1,2,3],[0,1,2,3,4],[0,1,2,3,4,5],[0,1,2,3,4,5,6],[0,1,2,3,4,5],[0,1,2,3,4,5,6,7,8],[0,1,2,3,4,5],[0,1,2,3,4,5,6,7,8,9,10],[0,1,2,3,4,5,6,7,8,9,10,11],[0,1,2,3,4,5,6,7,8,9,10,11,12],[0,1,2,3,4,5,6,7,8,9,10,11,12,13],[0,1,2,3,4,5,6,7,8,9,10,11,12,13,14],[0,1,2,3,4,5,6,7,8,9,10,11,12,13],[0,1,2,3,4,5,6,7,8,9,10,11,12,13],[0,1,2,3,4,5,6,7,8,9,10,11,12,13],[0,1,2,3,4,5,6,7,8,9,10,11,12,13,17,18],[0,1,2,3,4,5,6,7,8,9,10,11,12,13,17,18,19],[0,1,2,3,4,5,6,7,8,9,10,11,12,13,17,18,19,20],[0,1,2,3,4,5,6,7,8,9,10,11,12,13,14,15,16,17,18,19,20,21],[0,1,2,3,4,5,6,7,8,9,10,11,12,13,14,15,16,17,18,19,20,21,22],[0,1,2,3,4,5,6,7,8,9,10,11,12,13,14,15,16,17,18,19,20,21,22,23]] (by simp) (by simp) (by simp [look]) rfl rfl rfl ?_ fun K hK=>?_
       ·refine ⟨?_,?_,?_,?_,?_,?_,?_,?_,?_,?_,?_,?_,?_,?_,?_,?_,?_,?_,?_,?_,?_,?_,trivial⟩
        all_goals (intro τ hbx hb hd hf K hK;try simp [vsAt] at hd;simp [vsAt] at hf;first | (refine wC rfl fun K' hK'=>?_;simp [hN',hbx,hb,hd,hf,hb36,hb36s];exact hK' _ (wN (hK _ (by simp [vsAt,hbx,hb36,hb36s])))) | (refine wL [(.take,.tmp 47),(.take,.const (.int .i64 0)),(.take,.tmp 49)] rfl rfl lQ (aQ _ _ _ hc35) fun K' hK'=>?_;simp [hN',hbx,hb,hd,hf,hb36,hb36s];exact hK' _ (wN (hK _ (by simp [vsAt,hbx,hb36,hb36s])))) | (refine wO fun K' hK'=>?_;simp [hN',hbx,hb,hd,hf,hb36,hb36s];exact hK' _ (wN (hK _ (by simp [vsAt,hbx,hb36,hb36s])))))
       iterate 2 (refine wO fun K hK=>?_;simp [hN',hb36,hb36s];refine hK _ ?_;clear hK)
       refine wC rfl fun K hK=>?_;simp [hN',hb36,hb36s];refine hK _ ?_;clear hK
       refine wN (hK _ ?_);clear hK
       cases hj32
       exact hK33 _ () [] trivial (by simp [hN',hb36,hb36s])
      ·have hb37s:=hb37
       try simp at hb37s
       obtain ⟨l38,hl38,hj32⟩:=bS hj32
       obtain ⟨hl38a,hl38b,hl38c,hl38d,hl38e,hl38g,hl38i,hl38j⟩:=subI_some hl38
       have hl38f:(List.map vi e7.Kids).take v25.toNat=List.map vi l38:=by subst hl38e;simp
       have hl38m:=hl38f;try simp at hl38m
       have hl38k:0 ≤ e7.Kids.length:=by omega
       obtain ⟨r39,hc40,hj32⟩:=bS hj32
       rcases aA hj32 with ⟨hb41,hj32⟩ | ⟨hb42,hj32⟩
       ·have hb41s:=hb41
        try simp at hb41s
        refine SWp.dT rfl (hPB _ rfl) [(47,.t (vi e31)),(48,.t (vi k2)),(49,.t (vi (IntKind.wrap .i64 (k2 - 1)))),(50,.t (vb r34)),(51,.t (vb (!r34))),(52,.t (vb (!r34))),(53,.ref (.box 5) 3 []),(54,.t (.sl false 1 (List.map vi e7.Kids))),(55,.t (vi v25)),(56,.t (.sl false 1 (List.map vi l38))),(57,.t (vi e31)),(58,.t (vb r39)),(59,.t (vb r39)),(60,.t (vb r39)),(61,.tup []),(62,.tup []),(63,.tup []),(64,.tup []),(65,.tup []),(66,.tup []),(67,.tup []),(68,.tup [])] [[],[],[1],[0,1,2],[0,1,2,3],[0,1,2,3,4],[0,1,2,3,4,5],[0,1,2,3,4,5,6],[0,1,2,3,4,5],[0,1,2,3,4,5,6,7,8],[0,1,2,3,4,5],[0,1,2,3,4,5,6,7,8,9,10],[0,1,2,3,4,5,6,7,8,9,10,11],[0,1,2,3,4,5,6,7,8,9,10,11,12],[0,1,2,3,4,5,6,7,8,9,10,11,12,13],[0,1,2,3,4,5,6,7,8,9,10,11,12,13,14],[0,1,2,3,4,5,6,7,8,9,10,11,12,13],[0,1,2,3,4,5,6,7,8,9,10,11,12,13],[0,1,2,3,4,5,6,7,8,9,10,11,12,13],[0,1,2,3,4,5,6,7,8,9,10,11,12,13,17,18],[0,1,2,3,4,5,6,7,8,9,10,11,12,13,17,18,19],[0,1,2,3,4,5,6,7,8,9,10,11,12,13,17,18,19,20],[0,1,2,3,4,5,6,7,8,9,10,11,12,13,14,15,16,17,18,19,20,21],[0,1,2,3,4,5,6,7,8,9,10,11,12,13,14,15,16,17,18,19,20,21,22],[0,1,2,3,4,5,6,7,8,9,10,11,12,13,14,15,16,17,18,19,20,21,22,23]] (by simp) (by simp) (by simp [look]) rfl rfl rfl ?_ fun K hK=>?_
        ·refine ⟨?_,?_,?_,?_,?_,?_,?_,?_,?_,?_,?_,?_,?_,?_,?_,?_,?_,?_,?_,?_,?_,?_,trivial⟩
         all_goals (intro τ hbx hb hd hf K hK;try simp [vsAt] at hd;simp [vsAt] at hf;first | (refine wC rfl fun K' hK'=>?_;simp [hN',hbx,hb,hd,hf,hb37,hb37s,hl38a,hl38b,hl38c,hl38d,hl38f,hl38g,hl38i,hl38j,hl38m,hl38k,hb41,hb41s];exact hK' _ (wN (hK _ (by simp [vsAt,hbx,hb37,hb37s,hl38a,hl38b,hl38c,hl38d,hl38f,hl38g,hl38i,hl38j,hl38m,hl38k,hb41,hb41s])))) | (refine wL [(.take,.tmp 47),(.take,.const (.int .i64 0)),(.take,.tmp 49)] rfl rfl lQ (aQ _ _ _ hc35) fun K' hK'=>?_;simp [hN',hbx,hb,hd,hf,hb37,hb37s,hl38a,hl38b,hl38c,hl38d,hl38f,hl38g,hl38i,hl38j,hl38m,hl38k,hb41,hb41s];exact hK' _ (wN (hK _ (by simp [vsAt,hbx,hb37,hb37s,hl38a,hl38b,hl38c,hl38d,hl38f,hl38g,hl38i,hl38j,hl38m,hl38k,hb41,hb41s])))) | (refine wL [(.take,.tmp 56),(.take,.tmp 57)] rfl rfl ent64 (eU _ _ hc40) fun K' hK'=>?_;simp [hN',hbx,hb,hd,hf,hb37,hb37s,hl38a,hl38b,hl38c,hl38d,hl38f,hl38g,hl38i,hl38j,hl38m,hl38k,hb41,hb41s];exact hK' _ (wN (hK _ (by simp [vsAt,hbx,hb37,hb37s,hl38a,hl38b,hl38c,hl38d,hl38f,hl38g,hl38i,hl38j,hl38m,hl38k,hb41,hb41s])))) | (refine wO fun K' hK'=>?_;simp [hN',hbx,hb,hd,hf,hb37,hb37s,hl38a,hl38b,hl38c,hl38d,hl38f,hl38g,hl38i,hl38j,hl38m,hl38k,hb41,hb41s];exact hK' _ (wN (hK _ (by simp [vsAt,hbx,hb37,hb37s,hl38a,hl38b,hl38c,hl38d,hl38f,hl38g,hl38i,hl38j,hl38m,hl38k,hb41,hb41s])))))
        iterate 2 (refine wO fun K hK=>?_;simp [hN',hb37,hb37s,hl38a,hl38b,hl38c,hl38d,hl38f,hl38g,hl38i,hl38j,hl38m,hl38k,hb41,hb41s];refine hK _ ?_;clear hK)
        refine wC rfl fun K hK=>?_;simp [hN',hb37,hb37s,hl38a,hl38b,hl38c,hl38d,hl38f,hl38g,hl38i,hl38j,hl38m,hl38k,hb41,hb41s];refine hK _ ?_;clear hK
        refine wN (hK _ ?_);clear hK
        cases hj32
        exact hK33 _ () [] trivial (by simp [hN',hb37,hb37s,hl38a,hl38b,hl38c,hl38d,hl38f,hl38g,hl38i,hl38j,hl38m,hl38k,hb41,hb41s])
       ·have hb42s:=hb42
        try simp at hb42s
        obtain ⟨e43,he43,hj32⟩:=bS hj32
        obtain ⟨he43a,he43b,he43c,he43d⟩:=gS he43
        refine SWp.dT rfl (hPB _ rfl) [(47,.t (vi e31)),(48,.t (vi k2)),(49,.t (vi (IntKind.wrap .i64 (k2 - 1)))),(50,.t (vb r34)),(51,.t (vb (!r34))),(52,.t (vb (!r34))),(53,.ref (.box 5) 3 []),(54,.t (.sl false 1 (List.map vi e7.Kids))),(55,.t (vi v25)),(56,.t (.sl false 1 (List.map vi l38))),(57,.t (vi e31)),(58,.t (vb r39)),(59,.t (vb r39)),(60,.t (vb r39)),(61,.ref (.box 5) 0 []),(62,.t (vi e7.Kind)),(63,.t (vi v25)),(64,.t (.sl false 4 (List.map (GNode.enc false) nodes1))),(65,.t (vi e31)),(66,.rop [vi e43.Kind,vi e43.Num,vs e43.Name,.sl false 1 (List.map vi e43.Kids)] 0),(67,.rop [vi e43.Kind,vi e43.Num,vs e43.Name,.sl false 1 (List.map vi e43.Kids)] 0),(68,.t (vi e43.Kind))] [[],[],[1],[0,1,2],[0,1,2,3],[0,1,2,3,4],[0,1,2,3,4,5],[0,1,2,3,4,5,6],[0,1,2,3,4,5],[0,1,2,3,4,5,6,7,8],[0,1,2,3,4,5],[0,1,2,3,4,5,6,7,8,9,10],[0,1,2,3,4,5,6,7,8,9,10,11],[0,1,2,3,4,5,6,7,8,9,10,11,12],[0,1,2,3,4,5,6,7,8,9,10,11,12,13],[0,1,2,3,4,5,6,7,8,9,10,11,12,13,14],[0,1,2,3,4,5,6,7,8,9,10,11,12,13],[0,1,2,3,4,5,6,7,8,9,10,11,12,13],[0,1,2,3,4,5,6,7,8,9,10,11,12,13],[0,1,2,3,4,5,6,7,8,9,10,11,12,13,17,18],[0,1,2,3,4,5,6,7,8,9,10,11,12,13,17,18,19],[0,1,2,3,4,5,6,7,8,9,10,11,12,13,17,18,19,20],[0,1,2,3,4,5,6,7,8,9,10,11,12,13,14,15,16,17,18,19,20,21],[0,1,2,3,4,5,6,7,8,9,10,11,12,13,14,15,16,17,18,19,20,21,22],[0,1,2,3,4,5,6,7,8,9,10,11,12,13,14,15,16,17,18,19,20,21,22,23]] (by simp) (by simp) (by simp [look]) rfl rfl rfl ?_ fun K hK=>?_
        ·refine ⟨?_,?_,?_,?_,?_,?_,?_,?_,?_,?_,?_,?_,?_,?_,?_,?_,?_,?_,?_,?_,?_,?_,trivial⟩
         all_goals (intro τ hbx hb hd hf K hK;try simp [vsAt] at hd;simp [vsAt] at hf;first | (refine wC rfl fun K' hK'=>?_;simp [hN',hbx,hb,hd,hf,hb37,hb37s,hl38a,hl38b,hl38c,hl38d,hl38f,hl38g,hl38i,hl38j,hl38m,hl38k,hb42,hb42s,he43a,he43b,he43c,he43d];exact hK' _ (wN (hK _ (by simp [vsAt,hbx,hb37,hb37s,hl38a,hl38b,hl38c,hl38d,hl38f,hl38g,hl38i,hl38j,hl38m,hl38k,hb42,hb42s,he43a,he43b,he43c,he43d])))) | (refine wL [(.take,.tmp 47),(.take,.const (.int .i64 0)),(.take,.tmp 49)] rfl rfl lQ (aQ _ _ _ hc35) fun K' hK'=>?_;simp [hN',hbx,hb,hd,hf,hb37,hb37s,hl38a,hl38b,hl38c,hl38d,hl38f,hl38g,hl38i,hl38j,hl38m,hl38k,hb42,hb42s,he43a,he43b,he43c,he43d];exact hK' _ (wN (hK _ (by simp [vsAt,hbx,hb37,hb37s,hl38a,hl38b,hl38c,hl38d,hl38f,hl38g,hl38i,hl38j,hl38m,hl38k,hb42,hb42s,he43a,he43b,he43c,he43d])))) | (refine wL [(.take,.tmp 56),(.take,.tmp 57)] rfl rfl ent64 (eU _ _ hc40) fun K' hK'=>?_;simp [hN',hbx,hb,hd,hf,hb37,hb37s,hl38a,hl38b,hl38c,hl38d,hl38f,hl38g,hl38i,hl38j,hl38m,hl38k,hb42,hb42s,he43a,he43b,he43c,he43d];exact hK' _ (wN (hK _ (by simp [vsAt,hbx,hb37,hb37s,hl38a,hl38b,hl38c,hl38d,hl38f,hl38g,hl38i,hl38j,hl38m,hl38k,hb42,hb42s,he43a,he43b,he43c,he43d])))))
        obtain ⟨r44,hc45,hj32⟩:=bS hj32
        refine wL [(.take,.tmp 62),(.take,.tmp 63),(.take,.tmp 68)] rfl rfl ent117 (impl_kidFits_ok _ _ _ hc45) fun K hK=>?_;simp [hN',hb37,hb37s,hl38a,hl38b,hl38c,hl38d,hl38f,hl38g,hl38i,hl38j,hl38m,hl38k,hb42,hb42s,he43a,he43b,he43c,he43d];refine hK _ ?_;clear hK
        iterate 2 (refine wC rfl fun K hK=>?_;simp [hN',hb37,hb37s,hl38a,hl38b,hl38c,hl38d,hl38f,hl38g,hl38i,hl38j,hl38m,hl38k,hb42,hb42s,he43a,he43b,he43c,he43d];refine hK _ ?_;clear hK)
        refine wN (hK _ ?_);clear hK
        cases hj32
        exact hK33 _ () [] trivial (by simp [hN',hb37,hb37s,hl38a,hl38b,hl38c,hl38d,hl38f,hl38g,hl38i,hl38j,hl38m,hl38k,hb42,hb42s,he43a,he43b,he43c,he43d])
     rcases aA h26 with ⟨hb47,h26⟩ | ⟨hb48,h26⟩
     ·refine SWp.cT' (b:=v46) (by simp) hb47 ?_
      refine SWp.sR rfl (hPB _ rfl) fun K hK=>?_
      refine wC rfl fun K hK=>?_;simp [hN'];refine hK _ ?_;clear hK
      refine wN (hK _ ?_);clear hK
      have h49:=congrArg some (ho27 _ (Option.some.inj h26).symm)
      cases h49
      try dsimp only at h
      cases h
      refine SWp.ret ?_
      simp [aC,iB,res107]
     ·refine SWp.cF' (b:=v46) (by simp) hb48 ?_
      refine SWp.skip ?_
      show SWp E C _ _ _
      refine SWp.reg rfl (hPB _ rfl) fun K hK=>?_
      iterate 2 (refine wC rfl fun K hK=>?_;simp [hN'];refine hK _ ?_;clear hK)
      refine wN (hK _ ?_);clear hK
      cases h26
      exact ⟨_,[],rfl,by simp [hN']⟩
    ·refine SWp.cF' (b:=decide (v25 < (e7.Kids.length:Int))) (by simp) hb30 ?_
     refine SWp.exit ?_
     have h50:=congrArg some (ho27 _ (Option.some.inj h26).symm)
     cases h50
     exact hK23 _ _ [] rfl (by simp [hN'])
   subst hv
   obtain ⟨⟩:=v
   try dsimp only at h ⊢
   refine SWp.seq ?_
   obtain ⟨v61,hj51,h⟩:=bS h
   refine SWp.seqRC rfl (hPB _ rfl) [5,91] [5] (fun _:Unit=>⟨[(5,.ref (.box 5) 0 []),(91,.t (vb v61))],[(5,[vi e7.Kind,vi e7.Num,vs e7.Name,.sl false 1 (List.map vi e7.Kids)])]⟩) (fun _=>True) (fun _ _=>?_) fun K52 hK52=>?_
   rotate_left
   ·refine wC rfl fun K hK=>?_;simp [hN'];refine hK _ ?_;clear hK
    iterate 3 (refine wC rfl fun K hK=>?_;simp [hN'];refine hK _ ?_;clear hK)
    rcases aA hj51 with ⟨hb53,hj51⟩ | ⟨hb54,hj51⟩
    ·have hb53s:=hb53
     try simp at hb53s
     iterate 2 (refine wC rfl fun K hK=>?_;simp [hN',hb53,hb53s];refine hK _ ?_;clear hK)
     obtain ⟨r55,hc56,hj51⟩:=bS hj51
     refine wL [(.take,.tmp 78),(.take,.const (.int .i64 0)),(.take,.const (.int .i64 1000000000))] rfl rfl lQ (aQ _ _ _ hc56) fun K hK=>?_;simp [hN',hb53,hb53s];refine hK _ ?_;clear hK
     iterate 3 (refine wC rfl fun K hK=>?_;simp [hN',hb53,hb53s];refine hK _ ?_;clear hK)
     rcases aA hj51 with ⟨hb57,hj51⟩ | ⟨hb58,hj51⟩
     ·have hb57s:=hb57
      try simp at hb57s
      iterate 8 (refine wO fun K hK=>?_;simp [hN',hb53,hb53s,hb57,hb57s];refine hK _ ?_;clear hK)
      refine wC rfl fun K hK=>?_;simp [hN',hb53,hb53s,hb57,hb57s];refine hK _ ?_;clear hK
      refine wN ?_
      cases hj51
      exact hK52 _ () [] trivial (by simp [hN',hb53,hb53s,hb57,hb57s])
     ·have hb58s:=hb58
      try simp at hb58s
      iterate 4 (refine wC rfl fun K hK=>?_;simp [hN',hb53,hb53s,hb58,hb58s];refine hK _ ?_;clear hK)
      have hk59:(e7.Kind != 1)=false:=by simp [hb53,hb53s,hb58,hb58s]
      iterate 3 (refine wO fun K hK=>?_;simp [hN',hb53,hb53s,hb58,hb58s,hk59];refine hK _ ?_;clear hK)
      iterate 2 (refine wC rfl fun K hK=>?_;simp [hN',hb53,hb53s,hb58,hb58s,hk59];refine hK _ ?_;clear hK)
      refine wN ?_
      cases hj51
      exact hK52 _ () [] trivial (by simp [hN',hb53,hb53s,hb58,hb58s,hk59])
    ·have hb54s:=hb54
     try simp at hb54s
     iterate 4 (refine wO fun K hK=>?_;simp [hN',hb54,hb54s];refine hK _ ?_;clear hK)
     iterate 6 (refine wC rfl fun K hK=>?_;simp [hN',hb54,hb54s];refine hK _ ?_;clear hK)
     have hk60:(e7.Kind != 1)=true:=by simp [hb54,hb54s]
     iterate 5 (refine wC rfl fun K hK=>?_;simp [hN',hb54,hb54s,hk60];refine hK _ ?_;clear hK)
     refine wN ?_
     cases hj51
     exact hK52 _ () [] trivial (by simp [hN',hb54,hb54s,hk60])
   rcases aA h with ⟨hb62,h⟩ | ⟨hb63,h⟩
   ·refine SWp.cT' (b:=v61) (by simp) hb62 ?_
    refine SWp.sR rfl (hPB _ rfl) fun K hK=>?_
    refine wC rfl fun K hK=>?_;simp [hN'];refine hK _ ?_;clear hK
    refine wN (hK _ ?_);clear hK
    cases h
    refine SWp.ret ?_
    simp [aC,iB,res107]
   ·refine SWp.cF' (b:=v61) (by simp) hb63 ?_
    refine SWp.skip ?_
    show SWp E C _ _ _
    refine SWp.seq ?_
    refine SWp.sR rfl (hPB _ rfl) fun K hK=>?_
    iterate 2 (refine wC rfl fun K hK=>?_;simp [hN'];refine hK _ ?_;clear hK)
    obtain ⟨r64,hc65,h⟩:=bS h
    refine wL [(.take,.tmp 93)] rfl rfl ent118 (impl_hasName_ok _ hc65) fun K hK=>?_;simp [hN'];refine hK _ ?_;clear hK
    refine wN (hK _ ?_);clear hK
    rcases aA h with ⟨hb66,h⟩ | ⟨hb67,h⟩
    ·refine SWp.cT' (b:=r64) (by simp) hb66 ?_
     refine SWp.sR rfl (hPB _ rfl) fun K hK=>?_
     iterate 2 (refine wC rfl fun K hK=>?_;simp [hN'];refine hK _ ?_;clear hK)
     obtain ⟨r68,hc69,h⟩:=bS h
     refine wL [(.take,.tmp 96)] rfl rfl ent90 (lN _ hc69) fun K hK=>?_;simp [hN'];refine hK _ ?_;clear hK
     refine wC rfl fun K hK=>?_;simp [hN'];refine hK _ ?_;clear hK
     refine wN (hK _ ?_);clear hK
     cases h
     refine SWp.ret ?_
     simp [aC,iB,res107]
    ·refine SWp.cF' (b:=r64) (by simp) hb67 ?_
     refine SWp.skip ?_
     show SWp E C _ _ _
     refine SWp.sR rfl (hPB _ rfl) fun K hK=>?_
     iterate 4 (refine wC rfl fun K hK=>?_;simp [hN'];refine hK _ ?_;clear hK)
     refine wN (hK _ ?_);clear hK
     cases h
     refine SWp.ret ?_
     simp [aC,iB,res107]
theorem res89:Tryz.f89.results.toList=[.tmp 4,.tmp 5]:=rfl
theorem ent89:aE E.P 89:=eO Tryz.func89 (by simp [Tryz.f89]) rfl
theorem impl_depths_ok (nodes1:List GNode) (k2:Int) {r0:List Int} {r1:Bool} (h:kS nodes1 k2=some (r0,r1)):Ok E 89 [.val (.sl false 4 (List.map (GNode.enc false) nodes1)),.val (vi k2)] [.sl true 1 (List.map vi r0),vb r1] []:=by
 refine oB (fn:=Tryz.f89) Tryz.func89 rfl (by simp [Tryz.f89]) fun C hN hP=>?_
 have hPB:∀ l,pinK [] l=true→pinB C.pin l=true:=pO (by rw [hP];rfl)
 have hN':C.N=51:=hN
 clear hN
 unfold kS at h
 refine SWp.sR rfl (hPB _ rfl) fun K hK=>?_
 iterate 2 (refine wC rfl fun K hK=>?_;simp [hN'];refine hK _ ?_;clear hK)
 refine wN (hK _ ?_);clear hK
 refine SWp.seq ?_
 refine SWp.sR rfl (hPB _ rfl) fun K hK=>?_
 iterate 4 (refine wC rfl fun K hK=>?_;simp [hN'];refine hK _ ?_;clear hK)
 obtain ⟨r3,hc4,h⟩:=bS h
 refine wL [(.take,.tmp 11),(.take,.const (.int .i64 0)),(.take,.tmp 14)] rfl rfl lQ (aQ _ _ _ hc4) fun K hK=>?_;simp [hN'];refine hK _ ?_;clear hK
 refine wC rfl fun K hK=>?_;simp [hN'];refine hK _ ?_;clear hK
 refine wN (hK _ ?_);clear hK
 rcases aA h with ⟨hb5,h⟩ | ⟨hb6,h⟩
 ·refine SWp.cT' (b:=!r3) (by simp) hb5 ?_
  refine SWp.sR rfl (hPB _ rfl) fun K hK=>?_
  iterate 2 (refine wC rfl fun K hK=>?_;simp [hN'];refine hK _ ?_;clear hK)
  refine wN (hK _ ?_);clear hK
  cases h
  refine SWp.ret ?_
  simp [aC,iB,res89]
 ·refine SWp.cF' (b:=!r3) (by simp) hb6 ?_
  refine SWp.skip ?_
  show SWp E C _ _ _
  refine SWp.sR rfl (hPB _ rfl) fun K hK=>?_
  refine wC rfl fun K hK=>?_;simp [hN'];refine hK _ ?_;clear hK
  refine wN (hK _ ?_);clear hK
  obtain ⟨j9,hj7,h⟩:=bS h
  refine SWp.seqC [6] [] (fun v:List Int=>⟨[(6,.t (.sl true 1 (List.map vi v)))],[]⟩) (fun v=>j9=Sum.inl v) (fun v hv=>?_) fun K8 hK8=>?_
  rotate_left
  ·refine SWp.sR rfl (hPB _ rfl) fun K hK=>?_
   refine wC rfl fun K hK=>?_;simp [hN'];refine hK _ ?_;clear hK
   refine wN (hK _ ?_);clear hK
   refine SWp.block ?_
   refine SWp.loopO [] [0,1,6,7] [] (fun v:(List Int) × Int=>⟨[(0,.t (.sl false 4 (List.map (GNode.enc false) nodes1))),(1,.t (vi k2)),(6,.t (.sl true 1 (List.map vi v.1))),(7,.t (vi v.2))],[]⟩) (eW nodes1 k2) _ ([],0) hj7 (by simp [hN']) ?_
   intro g s14 h12 ho13
   obtain ⟨out10,i11⟩:=g
   simp only [eW] at h12
   try dsimp only
   refine SWp.seq ?_
   refine SWp.sR rfl (hPB _ rfl) fun K hK=>?_
   iterate 3 (refine wC rfl fun K hK=>?_;simp [hN'];refine hK _ ?_;clear hK)
   refine wN (hK _ ?_);clear hK
   rcases aA h12 with ⟨hb15,h12⟩ | ⟨hb16,h12⟩
   ·refine SWp.cT' (b:=decide (i11 ≤ k2)) (by simp) hb15 ?_
    refine SWp.skip ?_
    show SWp E C _ _ _
    obtain ⟨j19,hj17,h12⟩:=bS h12
    refine SWp.seqC [0,1,6,7] [] (fun v:List Int=>⟨[(0,.t (.sl false 4 (List.map (GNode.enc false) nodes1))),(1,.t (vi k2)),(6,.t (.sl true 1 (List.map vi v))),(7,.t (vi i11))],[]⟩) (fun v=>j19=Sum.inl v) (fun v hv=>?_) fun K18 hK18=>?_
    rotate_left
    ·refine SWp.block ?_
     refine SWp.seq ?_
     refine SWp.sR rfl (hPB _ rfl) fun K hK=>?_
     iterate 2 (refine wC rfl fun K hK=>?_;simp [hN'];refine hK _ ?_;clear hK)
     obtain ⟨r20,hc21,hj17⟩:=bS hj17
     refine wL [(.take,.tmp 22),(.take,.tmp 23)] rfl rfl ent107 (impl_NodeOk_ok _ _ hc21) fun K hK=>?_;simp [hN'];refine hK _ ?_;clear hK
     refine wC rfl fun K hK=>?_;simp [hN'];refine hK _ ?_;clear hK
     refine wN (hK _ ?_);clear hK
     rcases aA hj17 with ⟨hb22,hj17⟩ | ⟨hb23,hj17⟩
     ·refine SWp.cT' (b:=!r20) (by simp) hb22 ?_
      refine SWp.sR rfl (hPB _ rfl) fun K hK=>?_
      iterate 2 (refine wC rfl fun K hK=>?_;simp [hN'];refine hK _ ?_;clear hK)
      refine wN (hK _ ?_);clear hK
      cases hj17
      try dsimp only at h12
      have h24:=congrArg some (ho13 _ (Option.some.inj h12).symm)
      cases h24
      try dsimp only at h
      cases h
      refine SWp.ret ?_
      simp [aC,iB,res89]
     ·refine SWp.cF' (b:=!r20) (by simp) hb23 ?_
      refine SWp.skip ?_
      show SWp E C _ _ _
      refine SWp.sR rfl (hPB _ rfl) fun K hK=>?_
      refine wC rfl fun K hK=>?_;simp [hN'];refine hK _ ?_;clear hK
      refine wN (hK _ ?_);clear hK
      obtain ⟨d39,hj25,hj17⟩:=bS hj17
      refine SWp.seqC [0,1,6,7,8] [] (fun _:Unit=>⟨[(0,.t (.sl false 4 (List.map (GNode.enc false) nodes1))),(1,.t (vi k2)),(6,.t (.sl true 1 (List.map vi out10))),(7,.t (vi i11)),(8,.t (vi d39))],[]⟩) (fun _=>True) (fun _ _=>?_) fun K26 hK26=>?_
      rotate_left
      ·refine SWp.sR rfl (hPB _ rfl) fun K hK=>?_
       iterate 2 (refine wC rfl fun K hK=>?_;simp [hN'];refine hK _ ?_;clear hK)
       obtain ⟨e28,he28,hj25⟩:=bS hj25
       obtain ⟨he28a,he28b,he28c,he28d⟩:=gS he28
       iterate 5 (refine wC rfl fun K hK=>?_;simp [hN',he28a,he28b,he28c,he28d];refine hK _ ?_;clear hK)
       refine wN (hK _ ?_);clear hK
       refine SWp.block ?_
       refine SWp.loopO [] [0,1,6,7,8,30,31,32] [] (fun v:Int × Int=>⟨[(0,.t (.sl false 4 (List.map (GNode.enc false) nodes1))),(1,.t (vi k2)),(6,.t (.sl true 1 (List.map vi out10))),(7,.t (vi i11)),(8,.t (vi v.1)),(30,.t (.sl false 1 (List.map vi e28.Kids))),(31,.t (vi (e28.Kids.length:Int))),(32,.t (vi v.2))],[]⟩) (dO out10 e28) _ (1,0) hj25 (by simp [hN']) ?_
       intro g s33 h31 ho32
       obtain ⟨d29,v30⟩:=g
       simp only [dO] at h31
       try dsimp only
       refine SWp.sR rfl (hPB _ rfl) fun K hK=>?_
       refine wC rfl fun K hK=>?_;simp [hN'];refine hK _ ?_;clear hK
       refine wN (hK _ ?_);clear hK
       refine SWp.seq ?_
       rcases aA h31 with ⟨hb34,h31⟩ | ⟨hb35,h31⟩
       ·refine SWp.cT' (b:=decide (v30 < (e28.Kids.length:Int))) (by simp) hb34 ?_
        refine SWp.skip ?_
        show SWp E C _ _ _
        refine SWp.seq ?_
        refine SWp.block ?_
        refine SWp.sR rfl (hPB _ rfl) fun K hK=>?_
        obtain ⟨e36,he36,h31⟩:=bS h31
        obtain ⟨he36a,he36b,he36c,he36d⟩:=gS he36
        iterate 3 (refine wC rfl fun K hK=>?_;simp [hN',he36a,he36b,he36c,he36d];refine hK _ ?_;clear hK)
        refine wN (hK _ ?_);clear hK
        refine SWp.reg rfl (hPB _ rfl) fun K hK=>?_
        iterate 3 (refine wC rfl fun K hK=>?_;simp [hN'];refine hK _ ?_;clear hK)
        obtain ⟨e37,he37,h31⟩:=bS h31
        obtain ⟨he37a,he37b,he37c,he37d⟩:=gS he37
        iterate 5 (refine wC rfl fun K hK=>?_;simp [hN',he37a,he37b,he37c,he37d];refine hK _ ?_;clear hK)
        refine wN (hK _ ?_);clear hK
        show SWp E C _ _ _
        refine SWp.reg rfl (hPB _ rfl) fun K hK=>?_
        iterate 2 (refine wC rfl fun K hK=>?_;simp [hN'];refine hK _ ?_;clear hK)
        refine wN (hK _ ?_);clear hK
        cases h31
        exact ⟨_,[],rfl,by simp [hN']⟩
       ·refine SWp.cF' (b:=decide (v30 < (e28.Kids.length:Int))) (by simp) hb35 ?_
        refine SWp.exit ?_
        have h38:=congrArg some (ho32 _ (Option.some.inj h31).symm)
        cases h38
        exact hK26 _ () [] trivial (by simp [hN'])
      refine SWp.seq ?_
      refine SWp.sR rfl (hPB _ rfl) fun K hK=>?_
      iterate 2 (refine wC rfl fun K hK=>?_;simp [hN'];refine hK _ ?_;clear hK)
      refine wN (hK _ ?_);clear hK
      rcases aA hj17 with ⟨hb40,hj17⟩ | ⟨hb41,hj17⟩
      ·refine SWp.cT' (b:=decide (d39 > 10)) (by simp) hb40 ?_
       refine SWp.sR rfl (hPB _ rfl) fun K hK=>?_
       iterate 2 (refine wC rfl fun K hK=>?_;simp [hN'];refine hK _ ?_;clear hK)
       refine wN (hK _ ?_);clear hK
       cases hj17
       try dsimp only at h12
       have h42:=congrArg some (ho13 _ (Option.some.inj h12).symm)
       cases h42
       try dsimp only at h
       cases h
       refine SWp.ret ?_
       simp [aC,iB,res89]
      ·refine SWp.cF' (b:=decide (d39 > 10)) (by simp) hb41 ?_
       refine SWp.skip ?_
       show SWp E C _ _ _
       refine SWp.reg rfl (hPB _ rfl) fun K hK=>?_
       iterate 3 (refine wC rfl fun K hK=>?_;simp [hN'];refine hK _ ?_;clear hK)
       obtain ⟨l43,hl43,hj17⟩:=bS hj17
       obtain ⟨hl43a,hl43b,hl43d⟩:=aS hl43
       have hl43f:List.map vi out10 ++ List.map vi [d39]=List.map vi l43:=cC (f:=vi) hl43d
       simp [eSl] at hl43a hl43b hl43f
       iterate 2 (refine wC rfl fun K hK=>?_;simp [hN',hl43a,hl43b,hl43f];refine hK _ ?_;clear hK)
       refine wN (hK _ ?_);clear hK
       cases hj17
       exact hK18 _ _ [] rfl (by simp [hN'])
    subst hv
    obtain ⟨out44,hv⟩:∃ y,y=v:=⟨_,rfl⟩
    subst hv
    try dsimp only at h12 ⊢
    refine SWp.reg rfl (hPB _ rfl) fun K hK=>?_
    iterate 3 (refine wC rfl fun K hK=>?_;simp [hN'];refine hK _ ?_;clear hK)
    refine wN (hK _ ?_);clear hK
    cases h12
    exact ⟨_,[],rfl,by simp [hN']⟩
   ·refine SWp.cF' (b:=decide (i11 ≤ k2)) (by simp) hb16 ?_
    refine SWp.exit ?_
    have h45:=congrArg some (ho13 _ (Option.some.inj h12).symm)
    cases h45
    exact hK8 _ _ [] rfl (by simp [hN'])
  subst hv
  obtain ⟨out46,hv⟩:∃ y,y=v:=⟨_,rfl⟩
  subst hv
  try dsimp only at h ⊢
  refine SWp.sR rfl (hPB _ rfl) fun K hK=>?_
  iterate 3 (refine wC rfl fun K hK=>?_;simp [hN'];refine hK _ ?_;clear hK)
  refine wN (hK _ ?_);clear hK
  cases h
  refine SWp.ret ?_
  simp [aC,iB,res89]
theorem res60:Tryz.f60.results.toList=[.tmp 4]:=rfl
theorem ent60:aE E.P 60:=eO Tryz.func60 (by simp [Tryz.f60]) rfl
theorem pH (nodes1:List GNode) (k2:Int) {r0:Int} (h:iL nodes1 k2=some r0):Ok E 60 [.val (.sl false 4 (List.map (GNode.enc false) nodes1)),.val (vi k2)] [vi r0] []:=by
 refine oB (fn:=Tryz.f60) Tryz.func60 rfl (by simp [Tryz.f60]) fun C hN hP=>?_
 have u:∀ l,pinK [] l=true→pinB C.pin l=true:=pO (by rw [hP];rfl)
 have y:C.N=19:=hN
 clear hN
 unfold iL at h
 refine SWp.sR rfl (u _ rfl) fun K q=>?_
 refine wC rfl fun K q=>?_;simp [y];refine q _ ?_;clear q
 refine wN (q _ ?_);clear q
 refine SWp.sR rfl (u _ rfl) fun K q=>?_
 iterate 2 (refine wC rfl fun K q=>?_;simp [y];refine q _ ?_;clear q)
 obtain ⟨⟨r3,r4⟩,hc5,h⟩:=bS h
 try dsimp only at h
 refine wL [(.take,.tmp 8),(.take,.tmp 9)] rfl rfl ent89 (impl_depths_ok _ _ hc5) fun K q=>?_;simp [y];refine q _ ?_;clear q
 iterate 5 (refine wC rfl fun K q=>?_;simp [y];refine q _ ?_;clear q)
 refine wN (q _ ?_);clear q
 refine SWp.seq ?_
 refine SWp.sR rfl (u _ rfl) fun K q=>?_
 iterate 2 (refine wC rfl fun K q=>?_;simp [y];refine q _ ?_;clear q)
 refine wN (q _ ?_);clear q
 rcases aA h with ⟨hb6,h⟩ | ⟨hb7,h⟩
 ·refine SWp.cT' (b:=!r4) (by simp) hb6 ?_
  refine SWp.sR rfl (u _ rfl) fun K q=>?_
  refine wC rfl fun K q=>?_;simp [y];refine q _ ?_;clear q
  refine wN (q _ ?_);clear q
  cases h
  refine SWp.ret ?_
  simp [aC,iB,res60]
 ·refine SWp.cF' (b:=!r4) (by simp) hb7 ?_
  refine SWp.skip ?_
  show SWp E C _ _ _
  refine SWp.sR rfl (u _ rfl) fun K q=>?_
  iterate 2 (refine wC rfl fun K q=>?_;simp [y];refine q _ ?_;clear q)
  obtain ⟨e8,he8,h⟩:=bS h
  obtain ⟨he8a,he8b,he8c,he8d⟩:=gS he8
  iterate 3 (refine wC rfl fun K q=>?_;simp [y,he8a,he8b,he8c,he8d];refine q _ ?_;clear q)
  refine wN (q _ ?_);clear q
  cases h
  refine SWp.ret ?_
  simp [aC,iB,res60]
theorem res61:Tryz.f61.results.toList=[.tmp 4]:=rfl
theorem ent61:aE E.P 61:=eO Tryz.func61 (by simp [Tryz.f61]) rfl
theorem impl_fnOk_ok (p1:GProgram) (f2:GFn) {r0:Bool} (h:oD p1 f2=some r0):Ok E 61 [.val (GProgram.enc false p1),.val (GFn.enc false f2)] [vb r0] []:=by
 refine oB (fn:=Tryz.f61) Tryz.func61 rfl (by simp [Tryz.f61]) fun C hN hP=>?_
 have hPB:∀ l,pinK [] l=true→pinB C.pin l=true:=pO (by rw [hP];rfl)
 have hN':C.N=91:=hN
 clear hN
 unfold oD at h
 refine SWp.sR rfl (hPB _ rfl) fun K hK=>?_
 iterate 3 (refine wC rfl fun K hK=>?_;simp [hN'];refine hK _ ?_;clear hK)
 refine wN (hK _ ?_);clear hK
 refine SWp.seq ?_
 obtain ⟨v15,hj3,h⟩:=bS h
 refine SWp.seqRC rfl (hPB _ rfl) [2,3,31] [2,3] (fun _:Unit=>⟨[(2,.ref (.box 2) 0 []),(3,.ref (.box 3) 0 []),(31,.t (vb v15))],[(2,[.sl false 4 (List.map (GNode.enc false) p1.Nodes),.sl false 5 (List.map (GFn.enc false) p1.Fns)]),(3,[vs f2.Name,.sl false 2 (List.map GParam.enc f2.Params),vi f2.Res,vi f2.Body,vi f2.Ret])]⟩) (fun _=>True) (fun _ _=>?_) fun K4 hK4=>?_
 rotate_left
 ·refine wC rfl fun K hK=>?_;simp [hN'];refine hK _ ?_;clear hK
  refine wC rfl fun K hK=>?_;simp [hN'];refine hK _ ?_;clear hK
  obtain ⟨r5,hc6,hj3⟩:=bS hj3
  refine wL [(.take,.tmp 8)] rfl rfl ent90 (lN _ hc6) fun K hK=>?_;simp [hN'];refine hK _ ?_;clear hK
  iterate 2 (refine wC rfl fun K hK=>?_;simp [hN'];refine hK _ ?_;clear hK)
  rcases aA hj3 with ⟨hb7,hj3⟩ | ⟨hb8,hj3⟩
  ·have hb7s:=hb7
   try simp at hb7s
   iterate 4 (refine wO fun K hK=>?_;simp [hN',hb7,hb7s];refine hK _ ?_;clear hK)
   iterate 2 (refine wC rfl fun K hK=>?_;simp [hN',hb7,hb7s];refine hK _ ?_;clear hK)
   iterate 13 (refine wO fun K hK=>?_;simp [hN',hb7,hb7s];refine hK _ ?_;clear hK)
   refine wC rfl fun K hK=>?_;simp [hN',hb7,hb7s];refine hK _ ?_;clear hK
   refine wN ?_
   cases hj3
   exact hK4 _ () [] trivial (by simp [hN',hb7,hb7s])
  ·have hb8s:=hb8
   try simp at hb8s
   iterate 6 (refine wC rfl fun K hK=>?_;simp [hN',hb8,hb8s];refine hK _ ?_;clear hK)
   rcases aA hj3 with ⟨hb9,hj3⟩ | ⟨hb10,hj3⟩
   ·have hb9s:=hb9
    try simp at hb9s
    iterate 13 (refine wO fun K hK=>?_;simp [hN',hb8,hb8s,hb9,hb9s];refine hK _ ?_;clear hK)
    refine wC rfl fun K hK=>?_;simp [hN',hb8,hb8s,hb9,hb9s];refine hK _ ?_;clear hK
    refine wN ?_
    cases hj3
    exact hK4 _ () [] trivial (by simp [hN',hb8,hb8s,hb9,hb9s])
   ·have hb10s:=hb10
    try simp at hb10s
    iterate 4 (refine wC rfl fun K hK=>?_;simp [hN',hb8,hb8s,hb10,hb10s];refine hK _ ?_;clear hK)
    rcases aA hj3 with ⟨hb11,hj3⟩ | ⟨hb12,hj3⟩
    ·have hb11s:=hb11
     try simp at hb11s
     iterate 5 (refine wC rfl fun K hK=>?_;simp [hN',hb8,hb8s,hb10,hb10s,hb11,hb11s];refine hK _ ?_;clear hK)
     rcases aA hj3 with ⟨hb13,hj3⟩ | ⟨hb14,hj3⟩
     ·have hb13s:=hb13
      try simp at hb13s
      iterate 5 (refine wC rfl fun K hK=>?_;simp [hN',hb8,hb8s,hb10,hb10s,hb11,hb11s,hb13,hb13s];refine hK _ ?_;clear hK)
      refine wN ?_
      cases hj3
      exact hK4 _ () [] trivial (by simp [hN',hb8,hb8s,hb10,hb10s,hb11,hb11s,hb13,hb13s])
     ·have hb14s:=hb14
      try simp at hb14s
      iterate 3 (refine wO fun K hK=>?_;simp [hN',hb8,hb8s,hb10,hb10s,hb11,hb11s,hb14,hb14s];refine hK _ ?_;clear hK)
      iterate 2 (refine wC rfl fun K hK=>?_;simp [hN',hb8,hb8s,hb10,hb10s,hb11,hb11s,hb14,hb14s];refine hK _ ?_;clear hK)
      refine wN ?_
      cases hj3
      exact hK4 _ () [] trivial (by simp [hN',hb8,hb8s,hb10,hb10s,hb11,hb11s,hb14,hb14s])
    ·have hb12s:=hb12
     try simp at hb12s
     iterate 3 (refine wO fun K hK=>?_;simp [hN',hb8,hb8s,hb10,hb10s,hb12,hb12s];refine hK _ ?_;clear hK)
     iterate 2 (refine wC rfl fun K hK=>?_;simp [hN',hb8,hb8s,hb10,hb10s,hb12,hb12s];refine hK _ ?_;clear hK)
     iterate 3 (refine wO fun K hK=>?_;simp [hN',hb8,hb8s,hb10,hb10s,hb12,hb12s];refine hK _ ?_;clear hK)
     iterate 2 (refine wC rfl fun K hK=>?_;simp [hN',hb8,hb8s,hb10,hb10s,hb12,hb12s];refine hK _ ?_;clear hK)
     refine wN ?_
     cases hj3
     exact hK4 _ () [] trivial (by simp [hN',hb8,hb8s,hb10,hb10s,hb12,hb12s])
 rcases aA h with ⟨hb16,h⟩ | ⟨hb17,h⟩
 ·refine SWp.cT' (b:=v15) (by simp) hb16 ?_
  refine SWp.sR rfl (hPB _ rfl) fun K hK=>?_
  refine wC rfl fun K hK=>?_;simp [hN'];refine hK _ ?_;clear hK
  refine wN (hK _ ?_);clear hK
  cases h
  refine SWp.ret ?_
  simp [aC,iB,res61]
 ·refine SWp.cF' (b:=v15) (by simp) hb17 ?_
  refine SWp.skip ?_
  show SWp E C _ _ _
  obtain ⟨j20,hj18,h⟩:=bS h
  refine SWp.seqC [2,3] [2,3] (fun v:Unit=>⟨[(2,.ref (.box 2) 0 []),(3,.ref (.box 3) 0 [])],[(2,[.sl false 4 (List.map (GNode.enc false) p1.Nodes),.sl false 5 (List.map (GFn.enc false) p1.Fns)]),(3,[vs f2.Name,.sl false 2 (List.map GParam.enc f2.Params),vi f2.Res,vi f2.Body,vi f2.Ret])]⟩) (fun v=>j20=Sum.inl v) (fun v hv=>?_) fun K19 hK19=>?_
  rotate_left
  ·refine SWp.sR rfl (hPB _ rfl) fun K hK=>?_
   iterate 4 (refine wC rfl fun K hK=>?_;simp [hN'];refine hK _ ?_;clear hK)
   refine wN (hK _ ?_);clear hK
   refine SWp.block ?_
   refine SWp.loopO [] [2,3,33,34,35] [2,3] (fun v:Int=>⟨[(2,.ref (.box 2) 0 []),(3,.ref (.box 3) 0 []),(33,.t (.sl false 2 (List.map GParam.enc f2.Params))),(34,.t (vi (f2.Params.length:Int))),(35,.t (vi v))],[(2,[.sl false 4 (List.map (GNode.enc false) p1.Nodes),.sl false 5 (List.map (GFn.enc false) p1.Fns)]),(3,[vs f2.Name,.sl false 2 (List.map GParam.enc f2.Params),vi f2.Res,vi f2.Body,vi f2.Ret])]⟩) (gQ f2) _ 0 hj18 (by simp [hN']) ?_
   intro g s24 h22 ho23
   obtain ⟨v21,hg⟩:∃ y,y=g:=⟨_,rfl⟩
   subst hg
   simp only [gQ] at h22
   try dsimp only
   refine SWp.sR rfl (hPB _ rfl) fun K hK=>?_
   refine wC rfl fun K hK=>?_;simp [hN'];refine hK _ ?_;clear hK
   refine wN (hK _ ?_);clear hK
   refine SWp.seq ?_
   rcases aA h22 with ⟨hb25,h22⟩ | ⟨hb26,h22⟩
   ·refine SWp.cT' (b:=decide (v21 < (f2.Params.length:Int))) (by simp) hb25 ?_
    refine SWp.skip ?_
    show SWp E C _ _ _
    refine SWp.seq ?_
    refine SWp.block ?_
    refine SWp.sR rfl (hPB _ rfl) fun K hK=>?_
    obtain ⟨e27,he27,h22⟩:=bS h22
    obtain ⟨he27a,he27b,he27c,he27d⟩:=gS he27
    iterate 4 (refine wC rfl fun K hK=>?_;simp [hN',he27a,he27b,he27c,he27d];refine hK _ ?_;clear hK)
    refine wN (hK _ ?_);clear hK
    obtain ⟨v36,hj28,h22⟩:=bS h22
    refine SWp.seqRC rfl (hPB _ rfl) [2,3,33,34,35,48] [2,3] (fun _:Unit=>⟨[(2,.ref (.box 2) 0 []),(3,.ref (.box 3) 0 []),(33,.t (.sl false 2 (List.map GParam.enc f2.Params))),(34,.t (vi (f2.Params.length:Int))),(35,.t (vi v21)),(48,.t (vb v36))],[(2,[.sl false 4 (List.map (GNode.enc false) p1.Nodes),.sl false 5 (List.map (GFn.enc false) p1.Fns)]),(3,[vs f2.Name,.sl false 2 (List.map GParam.enc f2.Params),vi f2.Res,vi f2.Body,vi f2.Ret])]⟩) (fun _=>True) (fun _ _=>?_) fun K29 hK29=>?_
    rotate_left
    ·refine wC rfl fun K hK=>?_;simp [hN'];refine hK _ ?_;clear hK
     refine wC rfl fun K hK=>?_;simp [hN'];refine hK _ ?_;clear hK
     obtain ⟨r30,hc31,hj28⟩:=bS hj28
     refine wL [(.take,.tmp 40)] rfl rfl ent90 (lN _ hc31) fun K hK=>?_;simp [hN'];refine hK _ ?_;clear hK
     iterate 2 (refine wC rfl fun K hK=>?_;simp [hN'];refine hK _ ?_;clear hK)
     rcases aA hj28 with ⟨hb32,hj28⟩ | ⟨hb33,hj28⟩
     ·have hb32s:=hb32
      try simp at hb32s
      iterate 4 (refine wO fun K hK=>?_;simp [hN',hb32,hb32s];refine hK _ ?_;clear hK)
      refine wC rfl fun K hK=>?_;simp [hN',hb32,hb32s];refine hK _ ?_;clear hK
      refine wN ?_
      cases hj28
      exact hK29 _ () [] trivial (by simp [hN',hb32,hb32s])
     ·have hb33s:=hb33
      try simp at hb33s
      iterate 2 (refine wC rfl fun K hK=>?_;simp [hN',hb33,hb33s];refine hK _ ?_;clear hK)
      obtain ⟨r34,hc35,hj28⟩:=bS hj28
      refine wL [(.take,.tmp 45),(.take,.const (.int .i64 1)),(.take,.const (.int .i64 4))] rfl rfl lQ (aQ _ _ _ hc35) fun K hK=>?_;simp [hN',hb33,hb33s];refine hK _ ?_;clear hK
      iterate 2 (refine wC rfl fun K hK=>?_;simp [hN',hb33,hb33s];refine hK _ ?_;clear hK)
      refine wN ?_
      cases hj28
      exact hK29 _ () [] trivial (by simp [hN',hb33,hb33s])
    rcases aA h22 with ⟨hb37,h22⟩ | ⟨hb38,h22⟩
    ·refine SWp.cT' (b:=v36) (by simp) hb37 ?_
     refine SWp.sR rfl (hPB _ rfl) fun K hK=>?_
     refine wC rfl fun K hK=>?_;simp [hN'];refine hK _ ?_;clear hK
     refine wN (hK _ ?_);clear hK
     have h39:=congrArg some (ho23 _ (Option.some.inj h22).symm)
     cases h39
     try dsimp only at h
     cases h
     refine SWp.ret ?_
     simp [aC,iB,res61]
    ·refine SWp.cF' (b:=v36) (by simp) hb38 ?_
     refine SWp.skip ?_
     show SWp E C _ _ _
     refine SWp.reg rfl (hPB _ rfl) fun K hK=>?_
     iterate 2 (refine wC rfl fun K hK=>?_;simp [hN'];refine hK _ ?_;clear hK)
     refine wN (hK _ ?_);clear hK
     cases h22
     exact ⟨_,[],rfl,by simp [hN']⟩
   ·refine SWp.cF' (b:=decide (v21 < (f2.Params.length:Int))) (by simp) hb26 ?_
    refine SWp.exit ?_
    have h40:=congrArg some (ho23 _ (Option.some.inj h22).symm)
    cases h40
    exact hK19 _ _ [] rfl (by simp [hN'])
  subst hv
  obtain ⟨⟩:=v
  try dsimp only at h ⊢
  refine SWp.seq ?_
  obtain ⟨v48,hj41,h⟩:=bS h
  refine SWp.seqRC rfl (hPB _ rfl) [2,3,67] [2,3] (fun _:Unit=>⟨[(2,.ref (.box 2) 0 []),(3,.ref (.box 3) 0 []),(67,.t (vb v48))],[(2,[.sl false 4 (List.map (GNode.enc false) p1.Nodes),.sl false 5 (List.map (GFn.enc false) p1.Fns)]),(3,[vs f2.Name,.sl false 2 (List.map GParam.enc f2.Params),vi f2.Res,vi f2.Body,vi f2.Ret])]⟩) (fun _=>True) (fun _ _=>?_) fun K42 hK42=>?_
  rotate_left
  ·refine wC rfl fun K hK=>?_;simp [hN'];refine hK _ ?_;clear hK
   iterate 5 (refine wC rfl fun K hK=>?_;simp [hN'];refine hK _ ?_;clear hK)
   obtain ⟨r43,hc44,hj41⟩:=bS hj41
   refine wL [(.take,.tmp 51),(.take,.const (.int .i64 0)),(.take,.tmp 55)] rfl rfl lQ (aQ _ _ _ hc44) fun K hK=>?_;simp [hN'];refine hK _ ?_;clear hK
   iterate 2 (refine wC rfl fun K hK=>?_;simp [hN'];refine hK _ ?_;clear hK)
   rcases aA hj41 with ⟨hb45,hj41⟩ | ⟨hb46,hj41⟩
   ·have hb45s:=hb45
    try simp at hb45s
    iterate 8 (refine wO fun K hK=>?_;simp [hN',hb45,hb45s];refine hK _ ?_;clear hK)
    refine wC rfl fun K hK=>?_;simp [hN',hb45,hb45s];refine hK _ ?_;clear hK
    refine wN ?_
    cases hj41
    exact hK42 _ () [] trivial (by simp [hN',hb45,hb45s])
   ·have hb46s:=hb46
    try simp at hb46s
    iterate 4 (refine wC rfl fun K hK=>?_;simp [hN',hb46,hb46s];refine hK _ ?_;clear hK)
    obtain ⟨e47,he47,hj41⟩:=bS hj41
    obtain ⟨he47a,he47b,he47c,he47d⟩:=gS he47
    have he47j:=he47b;try simp at he47j
    try simp only [Int.toNat_natCast] at he47c he47d
    iterate 5 (refine wC rfl fun K hK=>?_;simp [hN',hb46,hb46s,he47a,he47b,he47c,he47d,he47j];refine hK _ ?_;clear hK)
    refine wN ?_
    cases hj41
    exact hK42 _ () [] trivial (by simp [hN',hb46,hb46s,he47a,he47b,he47c,he47d,he47j])
  rcases aA h with ⟨hb49,h⟩ | ⟨hb50,h⟩
  ·refine SWp.cT' (b:=v48) (by simp) hb49 ?_
   refine SWp.sR rfl (hPB _ rfl) fun K hK=>?_
   refine wC rfl fun K hK=>?_;simp [hN'];refine hK _ ?_;clear hK
   refine wN (hK _ ?_);clear hK
   cases h
   refine SWp.ret ?_
   simp [aC,iB,res61]
  ·refine SWp.cF' (b:=v48) (by simp) hb50 ?_
   refine SWp.skip ?_
   show SWp E C _ _ _
   refine SWp.seq ?_
   refine SWp.sR rfl (hPB _ rfl) fun K hK=>?_
   iterate 3 (refine wC rfl fun K hK=>?_;simp [hN'];refine hK _ ?_;clear hK)
   refine wN (hK _ ?_);clear hK
   rcases aA h with ⟨hb51,h⟩ | ⟨hb52,h⟩
   ·refine SWp.cT' (b:=f2.Res == 0) (by simp) hb51 ?_
    refine SWp.sR rfl (hPB _ rfl) fun K hK=>?_
    iterate 4 (refine wC rfl fun K hK=>?_;simp [hN'];refine hK _ ?_;clear hK)
    refine wN (hK _ ?_);clear hK
    cases h
    refine SWp.ret ?_
    simp [aC,iB,res61]
   ·refine SWp.cF' (b:=f2.Res == 0) (by simp) hb52 ?_
    refine SWp.skip ?_
    show SWp E C _ _ _
    obtain ⟨v62,hj53,h⟩:=bS h
    refine SWp.seqRC rfl (hPB _ rfl) [4] [] (fun _:Unit=>⟨[(4,.t (vb v62))],[]⟩) (fun _=>True) (fun _ _=>?_) fun K54 hK54=>?_
    rotate_left
    ·refine wC rfl fun K hK=>?_;simp [hN'];refine hK _ ?_;clear hK
     iterate 5 (refine wC rfl fun K hK=>?_;simp [hN'];refine hK _ ?_;clear hK)
     obtain ⟨r55,hc56,hj53⟩:=bS hj53
     refine wL [(.take,.tmp 75),(.take,.const (.int .i64 0)),(.take,.tmp 79)] rfl rfl lQ (aQ _ _ _ hc56) fun K hK=>?_;simp [hN'];refine hK _ ?_;clear hK
     refine wC rfl fun K hK=>?_;simp [hN'];refine hK _ ?_;clear hK
     rcases aA hj53 with ⟨hb57,hj53⟩ | ⟨hb58,hj53⟩
     ·have hb57s:=hb57
      try simp at hb57s
      iterate 4 (refine wC rfl fun K hK=>?_;simp [hN',hb57,hb57s];refine hK _ ?_;clear hK)
      obtain ⟨e59,he59,hj53⟩:=bS hj53
      obtain ⟨he59a,he59b,he59c,he59d⟩:=gS he59
      have he59j:=he59b;try simp at he59j
      try simp only [Int.toNat_natCast] at he59c he59d
      iterate 3 (refine wC rfl fun K hK=>?_;simp [hN',hb57,hb57s,he59a,he59b,he59c,he59d,he59j];refine hK _ ?_;clear hK)
      obtain ⟨r60,hc61,hj53⟩:=bS hj53
      refine wL [(.take,.tmp 88)] rfl rfl ent91 (oA _ hc61) fun K hK=>?_;simp [hN',hb57,hb57s,he59a,he59b,he59c,he59d,he59j];refine hK _ ?_;clear hK
      iterate 2 (refine wC rfl fun K hK=>?_;simp [hN',hb57,hb57s,he59a,he59b,he59c,he59d,he59j];refine hK _ ?_;clear hK)
      refine wN ?_
      cases hj53
      exact hK54 _ () [] trivial (by simp [hN',hb57,hb57s,he59a,he59b,he59c,he59d,he59j])
     ·have hb58s:=hb58
      try simp at hb58s
      iterate 8 (refine wO fun K hK=>?_;simp [hN',hb58,hb58s];refine hK _ ?_;clear hK)
      iterate 2 (refine wC rfl fun K hK=>?_;simp [hN',hb58,hb58s];refine hK _ ?_;clear hK)
      refine wN ?_
      cases hj53
      exact hK54 _ () [] trivial (by simp [hN',hb58,hb58s])
    cases h
    refine SWp.ret ?_
    simp [aC,iB,res61]
theorem res62:Tryz.f62.results.toList=[.tmp 4]:=rfl
theorem ent62:aE E.P 62:=eO Tryz.func62 (by simp [Tryz.f62]) rfl
theorem impl_FnAt_ok (p1:GProgram) (name2:ByteArray) {r0:Int} (h:mH p1 name2=some r0):Ok E 62 [.val (GProgram.enc false p1),.val (vs name2)] [vi r0] []:=by
 refine oB (fn:=Tryz.f62) Tryz.func62 rfl (by simp [Tryz.f62]) fun C hN hP=>?_
 have hPB:∀ l,pinK [] l=true→pinB C.pin l=true:=pO (by rw [hP];rfl)
 have hN':C.N=21:=hN
 clear hN
 unfold mH at h
 refine SWp.sR rfl (hPB _ rfl) fun K hK=>?_
 iterate 2 (refine wC rfl fun K hK=>?_;simp [hN'];refine hK _ ?_;clear hK)
 refine wN (hK _ ?_);clear hK
 obtain ⟨j5,hj3,h⟩:=bS h
 refine SWp.seqC [] [] (fun v:Unit=>⟨[],[]⟩) (fun v=>j5=Sum.inl v) (fun v hv=>?_) fun K4 hK4=>?_
 rotate_left
 ·refine SWp.sR rfl (hPB _ rfl) fun K hK=>?_
  iterate 4 (refine wC rfl fun K hK=>?_;simp [hN'];refine hK _ ?_;clear hK)
  refine wN (hK _ ?_);clear hK
  refine SWp.block ?_
  refine SWp.loopO [] [1,8,9,10] [] (fun v:Int=>⟨[(1,.t (vs name2)),(8,.t (.sl false 5 (List.map (GFn.enc false) p1.Fns))),(9,.t (vi (p1.Fns.length:Int))),(10,.t (vi v))],[]⟩) (gR p1 name2) _ 0 hj3 (by simp [hN']) ?_
  intro g s9 h7 ho8
  obtain ⟨v6,hg⟩:∃ y,y=g:=⟨_,rfl⟩
  subst hg
  simp only [gR] at h7
  try dsimp only
  refine SWp.sR rfl (hPB _ rfl) fun K hK=>?_
  refine wC rfl fun K hK=>?_;simp [hN'];refine hK _ ?_;clear hK
  refine wN (hK _ ?_);clear hK
  refine SWp.seq ?_
  rcases aA h7 with ⟨hb10,h7⟩ | ⟨hb11,h7⟩
  ·refine SWp.cT' (b:=decide (v6 < (p1.Fns.length:Int))) (by simp) hb10 ?_
   refine SWp.skip ?_
   show SWp E C _ _ _
   refine SWp.seq ?_
   refine SWp.block ?_
   refine SWp.sR rfl (hPB _ rfl) fun K hK=>?_
   refine wC rfl fun K hK=>?_;simp [hN'];refine hK _ ?_;clear hK
   obtain ⟨e12,he12,h7⟩:=bS h7
   obtain ⟨he12a,he12b,he12c,he12d⟩:=gS he12
   iterate 5 (refine wC rfl fun K hK=>?_;simp [hN',he12a,he12b,he12c,he12d];refine hK _ ?_;clear hK)
   refine wN (hK _ ?_);clear hK
   refine SWp.sR rfl (hPB _ rfl) fun K hK=>?_
   iterate 4 (refine wC rfl fun K hK=>?_;simp [hN'];refine hK _ ?_;clear hK)
   refine wN (hK _ ?_);clear hK
   rcases aA h7 with ⟨hb13,h7⟩ | ⟨hb14,h7⟩
   ·refine SWp.cT' (b:=sEq e12.Name name2) (by simp) hb13 ?_
    refine SWp.sR rfl (hPB _ rfl) fun K hK=>?_
    iterate 2 (refine wC rfl fun K hK=>?_;simp [hN'];refine hK _ ?_;clear hK)
    refine wN (hK _ ?_);clear hK
    have h15:=congrArg some (ho8 _ (Option.some.inj h7).symm)
    cases h15
    try dsimp only at h
    cases h
    refine SWp.ret ?_
    simp [aC,iB,res62]
   ·refine SWp.cF' (b:=sEq e12.Name name2) (by simp) hb14 ?_
    refine SWp.skip ?_
    show SWp E C _ _ _
    refine SWp.reg rfl (hPB _ rfl) fun K hK=>?_
    iterate 2 (refine wC rfl fun K hK=>?_;simp [hN'];refine hK _ ?_;clear hK)
    refine wN (hK _ ?_);clear hK
    cases h7
    exact ⟨_,[],rfl,by simp [hN']⟩
  ·refine SWp.cF' (b:=decide (v6 < (p1.Fns.length:Int))) (by simp) hb11 ?_
   refine SWp.exit ?_
   have h16:=congrArg some (ho8 _ (Option.some.inj h7).symm)
   cases h16
   exact hK4 _ _ [] rfl (by simp [hN'])
 subst hv
 obtain ⟨⟩:=v
 try dsimp only at h ⊢
 refine SWp.sR rfl (hPB _ rfl) fun K hK=>?_
 refine wC rfl fun K hK=>?_;simp [hN'];refine hK _ ?_;clear hK
 refine wN (hK _ ?_);clear hK
 cases h
 refine SWp.ret ?_
 simp [aC,iB,res62]
theorem res28:Tryz.f28.results.toList=[.tmp 2]:=rfl
theorem ent28:aE E.P 28:=eO Tryz.func28 (by simp [Tryz.f28]) rfl
theorem impl_ProgramOk_ok (p1:GProgram) {r0:Bool} (h:gE p1=some r0):Ok E 28 [.val (GProgram.enc false p1)] [vb r0] []:=by
 refine oB (fn:=Tryz.f28) Tryz.func28 rfl (by simp [Tryz.f28]) fun C hN hP=>?_
 have hPB:∀ l,pinK [] l=true→pinB C.pin l=true:=pO (by rw [hP];rfl)
 have hN':C.N=115:=hN
 clear hN
 unfold gE at h
 refine SWp.sR rfl (hPB _ rfl) fun K hK=>?_
 iterate 2 (refine wC rfl fun K hK=>?_;simp [hN'];refine hK _ ?_;clear hK)
 refine wN (hK _ ?_);clear hK
 refine SWp.sR rfl (hPB _ rfl) fun K hK=>?_
 iterate 4 (refine wC rfl fun K hK=>?_;simp [hN'];refine hK _ ?_;clear hK)
 refine wN (hK _ ?_);clear hK
 refine SWp.seq ?_
 obtain ⟨v14,hj2,h⟩:=bS h
 refine SWp.seqRC rfl (hPB _ rfl) [1,3,35] [1] (fun _:Unit=>⟨[(1,.ref (.box 1) 0 []),(3,.t (vi (p1.Nodes.length:Int))),(35,.t (vb v14))],[(1,[.sl false 4 (List.map (GNode.enc false) p1.Nodes),.sl false 5 (List.map (GFn.enc false) p1.Fns)])]⟩) (fun _=>True) (fun _ _=>?_) fun K3 hK3=>?_
 rotate_left
 ·refine wC rfl fun K hK=>?_;simp [hN'];refine hK _ ?_;clear hK
  obtain ⟨r4,hc5,hj2⟩:=bS hj2
  refine wL [(.take,.tmp 18),(.take,.const (.int .i64 1)),(.take,.const (.int .i64 300))] rfl rfl lQ (aQ _ _ _ hc5) fun K hK=>?_;simp [hN'];refine hK _ ?_;clear hK
  iterate 2 (refine wC rfl fun K hK=>?_;simp [hN'];refine hK _ ?_;clear hK)
  rcases aA hj2 with ⟨hb6,hj2⟩ | ⟨hb7,hj2⟩
  ·have hb6s:=hb6
   try simp at hb6s
   iterate 5 (refine wO fun K hK=>?_;simp [hN',hb6,hb6s];refine hK _ ?_;clear hK)
   iterate 2 (refine wC rfl fun K hK=>?_;simp [hN',hb6,hb6s];refine hK _ ?_;clear hK)
   iterate 6 (refine wO fun K hK=>?_;simp [hN',hb6,hb6s];refine hK _ ?_;clear hK)
   refine wC rfl fun K hK=>?_;simp [hN',hb6,hb6s];refine hK _ ?_;clear hK
   refine wN ?_
   cases hj2
   exact hK3 _ () [] trivial (by simp [hN',hb6,hb6s])
  ·have hb7s:=hb7
   try simp at hb7s
   iterate 3 (refine wC rfl fun K hK=>?_;simp [hN',hb7,hb7s];refine hK _ ?_;clear hK)
   obtain ⟨r8,hc9,hj2⟩:=bS hj2
   refine wL [(.take,.tmp 24),(.take,.const (.int .i64 1)),(.take,.const (.int .i64 8))] rfl rfl lQ (aQ _ _ _ hc9) fun K hK=>?_;simp [hN',hb7,hb7s];refine hK _ ?_;clear hK
   iterate 3 (refine wC rfl fun K hK=>?_;simp [hN',hb7,hb7s];refine hK _ ?_;clear hK)
   rcases aA hj2 with ⟨hb10,hj2⟩ | ⟨hb11,hj2⟩
   ·have hb10s:=hb10
    try simp at hb10s
    iterate 6 (refine wO fun K hK=>?_;simp [hN',hb7,hb7s,hb10,hb10s];refine hK _ ?_;clear hK)
    refine wC rfl fun K hK=>?_;simp [hN',hb7,hb7s,hb10,hb10s];refine hK _ ?_;clear hK
    refine wN ?_
    cases hj2
    exact hK3 _ () [] trivial (by simp [hN',hb7,hb7s,hb10,hb10s])
   ·have hb11s:=hb11
    try simp at hb11s
    iterate 4 (refine wC rfl fun K hK=>?_;simp [hN',hb7,hb7s,hb11,hb11s];refine hK _ ?_;clear hK)
    obtain ⟨r12,hc13,hj2⟩:=bS hj2
    refine wL [(.take,.tmp 30),(.take,.tmp 32)] rfl rfl ent60 (pH _ _ hc13) fun K hK=>?_;simp [hN',hb7,hb7s,hb11,hb11s];refine hK _ ?_;clear hK
    iterate 2 (refine wC rfl fun K hK=>?_;simp [hN',hb7,hb7s,hb11,hb11s];refine hK _ ?_;clear hK)
    refine wN ?_
    cases hj2
    exact hK3 _ () [] trivial (by simp [hN',hb7,hb7s,hb11,hb11s])
 rcases aA h with ⟨hb15,h⟩ | ⟨hb16,h⟩
 ·refine SWp.cT' (b:=v14) (by simp) hb15 ?_
  refine SWp.sR rfl (hPB _ rfl) fun K hK=>?_
  refine wC rfl fun K hK=>?_;simp [hN'];refine hK _ ?_;clear hK
  refine wN (hK _ ?_);clear hK
  cases h
  refine SWp.ret ?_
  simp [aC,iB,res28]
 ·refine SWp.cF' (b:=v14) (by simp) hb16 ?_
  refine SWp.skip ?_
  show SWp E C _ _ _
  refine SWp.sR rfl (hPB _ rfl) fun K hK=>?_
  refine wC rfl fun K hK=>?_;simp [hN'];refine hK _ ?_;clear hK
  obtain ⟨l17,hl17,h⟩:=bS h
  obtain ⟨hl17a,hl17b,hl17c,hl17d⟩:=mS hl17
  have hl17f:List.replicate (p1.Nodes.length:Int).toNat (vi 0)=List.map vi l17:=nO (f:=vi) hl17d
  try simp only [Int.toNat_natCast] at hl17f
  iterate 2 (refine wC rfl fun K hK=>?_;simp [hN',hl17a,hl17b,hl17c,hl17f];refine hK _ ?_;clear hK)
  refine wN (hK _ ?_);clear hK
  obtain ⟨met45,hj18,h⟩:=bS h
  refine SWp.seqC [1,4] [1] (fun _:Unit=>⟨[(1,.ref (.box 1) 0 []),(4,.t (.sl true 1 (List.map vi met45)))],[(1,[.sl false 4 (List.map (GNode.enc false) p1.Nodes),.sl false 5 (List.map (GFn.enc false) p1.Fns)])]⟩) (fun _=>True) (fun _ _=>?_) fun K19 hK19=>?_
  rotate_left
  ·refine SWp.sR rfl (hPB _ rfl) fun K hK=>?_
   iterate 4 (refine wC rfl fun K hK=>?_;simp [hN'];refine hK _ ?_;clear hK)
   refine wN (hK _ ?_);clear hK
   refine SWp.block ?_
   refine SWp.loopO [] [1,4,39,40,41] [1] (fun v:(List Int) × Int=>⟨[(1,.ref (.box 1) 0 []),(4,.t (.sl true 1 (List.map vi v.1))),(39,.t (.sl false 4 (List.map (GNode.enc false) p1.Nodes))),(40,.t (vi (p1.Nodes.length:Int))),(41,.t (vi v.2))],[(1,[.sl false 4 (List.map (GNode.enc false) p1.Nodes),.sl false 5 (List.map (GFn.enc false) p1.Fns)])]⟩) (cR p1) _ (l17,0) hj18 (by simp [hN']) ?_
   intro g s25 h23 ho24
   obtain ⟨met21,v22⟩:=g
   simp only [cR] at h23
   try dsimp only
   refine SWp.sR rfl (hPB _ rfl) fun K hK=>?_
   refine wC rfl fun K hK=>?_;simp [hN'];refine hK _ ?_;clear hK
   refine wN (hK _ ?_);clear hK
   refine SWp.seq ?_
   rcases aA h23 with ⟨hb26,h23⟩ | ⟨hb27,h23⟩
   ·refine SWp.cT' (b:=decide (v22 < (p1.Nodes.length:Int))) (by simp) hb26 ?_
    refine SWp.skip ?_
    show SWp E C _ _ _
    obtain ⟨met43,hj28,h23⟩:=bS h23
    refine SWp.seqC [1,4,39,40,41] [1] (fun _:Unit=>⟨[(1,.ref (.box 1) 0 []),(4,.t (.sl true 1 (List.map vi met43))),(39,.t (.sl false 4 (List.map (GNode.enc false) p1.Nodes))),(40,.t (vi (p1.Nodes.length:Int))),(41,.t (vi v22))],[(1,[.sl false 4 (List.map (GNode.enc false) p1.Nodes),.sl false 5 (List.map (GFn.enc false) p1.Fns)])]⟩) (fun _=>True) (fun _ _=>?_) fun K29 hK29=>?_
    rotate_left
    ·refine SWp.block ?_
     refine SWp.sR rfl (hPB _ rfl) fun K hK=>?_
     obtain ⟨e31,he31,hj28⟩:=bS hj28
     obtain ⟨he31a,he31b,he31c,he31d⟩:=gS he31
     iterate 4 (refine wC rfl fun K hK=>?_;simp [hN',he31a,he31b,he31c,he31d];refine hK _ ?_;clear hK)
     refine wN (hK _ ?_);clear hK
     refine SWp.sR rfl (hPB _ rfl) fun K hK=>?_
     iterate 4 (refine wC rfl fun K hK=>?_;simp [hN'];refine hK _ ?_;clear hK)
     refine wN (hK _ ?_);clear hK
     refine SWp.block ?_
     refine SWp.loopO [] [1,4,39,40,41,46,47,48] [1] (fun v:(List Int) × Int=>⟨[(1,.ref (.box 1) 0 []),(4,.t (.sl true 1 (List.map vi v.1))),(39,.t (.sl false 4 (List.map (GNode.enc false) p1.Nodes))),(40,.t (vi (p1.Nodes.length:Int))),(41,.t (vi v22)),(46,.t (.sl false 1 (List.map vi e31.Kids))),(47,.t (vi (e31.Kids.length:Int))),(48,.t (vi v.2))],[(1,[.sl false 4 (List.map (GNode.enc false) p1.Nodes),.sl false 5 (List.map (GFn.enc false) p1.Fns)])]⟩) (cQ e31) _ (met21,0) hj28 (by simp [hN']) ?_
     intro g s36 h34 ho35
     obtain ⟨met32,v33⟩:=g
     simp only [cQ] at h34
     try dsimp only
     refine SWp.sR rfl (hPB _ rfl) fun K hK=>?_
     refine wC rfl fun K hK=>?_;simp [hN'];refine hK _ ?_;clear hK
     refine wN (hK _ ?_);clear hK
     refine SWp.seq ?_
     rcases aA h34 with ⟨hb37,h34⟩ | ⟨hb38,h34⟩
     ·refine SWp.cT' (b:=decide (v33 < (e31.Kids.length:Int))) (by simp) hb37 ?_
      refine SWp.skip ?_
      show SWp E C _ _ _
      refine SWp.seq ?_
      refine SWp.block ?_
      refine SWp.sR rfl (hPB _ rfl) fun K hK=>?_
      obtain ⟨e39,he39,h34⟩:=bS h34
      obtain ⟨he39a,he39b,he39c,he39d⟩:=gS he39
      iterate 3 (refine wC rfl fun K hK=>?_;simp [hN',he39a,he39b,he39c,he39d];refine hK _ ?_;clear hK)
      refine wN (hK _ ?_);clear hK
      refine SWp.reg rfl (hPB _ rfl) fun K hK=>?_
      iterate 2 (refine wC rfl fun K hK=>?_;simp [hN'];refine hK _ ?_;clear hK)
      obtain ⟨e40,he40,h34⟩:=bS h34
      obtain ⟨he40a,he40b,he40c,he40d⟩:=gS he40
      iterate 4 (refine wC rfl fun K hK=>?_;simp [hN',he40a,he40b,he40c,he40d];refine hK _ ?_;clear hK)
      obtain ⟨l41,hl41,h34⟩:=bZ h34
      have hl41f:(List.map vi met32).set e39.toNat (vi (IntKind.wrap .i64 (e40 + 1)))=List.map vi l41:=cE (f:=vi) hl41
      try simp only [Int.toNat_natCast] at hl41f
      refine wC rfl fun K hK=>?_;simp [hN',he40a,he40b,he40c,he40d,hl41f];refine hK _ ?_;clear hK
      refine wN (hK _ ?_);clear hK
      show SWp E C _ _ _
      refine SWp.reg rfl (hPB _ rfl) fun K hK=>?_
      iterate 2 (refine wC rfl fun K hK=>?_;simp [hN'];refine hK _ ?_;clear hK)
      refine wN (hK _ ?_);clear hK
      cases h34
      exact ⟨_,[],rfl,by simp [hN']⟩
     ·refine SWp.cF' (b:=decide (v33 < (e31.Kids.length:Int))) (by simp) hb38 ?_
      refine SWp.exit ?_
      have h42:=congrArg some (ho35 _ (Option.some.inj h34).symm)
      cases h42
      exact hK29 _ () [] trivial (by simp [hN'])
    refine SWp.reg rfl (hPB _ rfl) fun K hK=>?_
    iterate 2 (refine wC rfl fun K hK=>?_;simp [hN'];refine hK _ ?_;clear hK)
    refine wN (hK _ ?_);clear hK
    cases h23
    exact ⟨_,[],rfl,by simp [hN']⟩
   ·refine SWp.cF' (b:=decide (v22 < (p1.Nodes.length:Int))) (by simp) hb27 ?_
    refine SWp.exit ?_
    have h44:=congrArg some (ho24 _ (Option.some.inj h23).symm)
    cases h44
    exact hK19 _ () [] trivial (by simp [hN'])
  obtain ⟨j48,hj46,h⟩:=bS h
  refine SWp.seqC [4] [] (fun v:List Int=>⟨[(4,.t (.sl true 1 (List.map vi v)))],[]⟩) (fun v=>j48=Sum.inl v) (fun v hv=>?_) fun K47 hK47=>?_
  rotate_left
  ·refine SWp.sR rfl (hPB _ rfl) fun K hK=>?_
   iterate 4 (refine wC rfl fun K hK=>?_;simp [hN'];refine hK _ ?_;clear hK)
   refine wN (hK _ ?_);clear hK
   refine SWp.block ?_
   refine SWp.loopO [] [1,4,61,62,63] [1] (fun v:(List Int) × Int=>⟨[(1,.ref (.box 1) 0 []),(4,.t (.sl true 1 (List.map vi v.1))),(61,.t (.sl false 5 (List.map (GFn.enc false) p1.Fns))),(62,.t (vi (p1.Fns.length:Int))),(63,.t (vi v.2))],[(1,[.sl false 4 (List.map (GNode.enc false) p1.Nodes),.sl false 5 (List.map (GFn.enc false) p1.Fns)])]⟩) (bM p1) _ (met45,0) hj46 (by simp [hN']) ?_
   intro g s53 h51 ho52
   obtain ⟨met49,v50⟩:=g
   simp only [bM] at h51
   try dsimp only
   refine SWp.sR rfl (hPB _ rfl) fun K hK=>?_
   refine wC rfl fun K hK=>?_;simp [hN'];refine hK _ ?_;clear hK
   refine wN (hK _ ?_);clear hK
   refine SWp.seq ?_
   rcases aA h51 with ⟨hb54,h51⟩ | ⟨hb55,h51⟩
   ·refine SWp.cT' (b:=decide (v50 < (p1.Fns.length:Int))) (by simp) hb54 ?_
    refine SWp.skip ?_
    show SWp E C _ _ _
    obtain ⟨j58,hj56,h51⟩:=bS h51
    refine SWp.seqC [1,4,61,62,63] [1] (fun v:List Int=>⟨[(1,.ref (.box 1) 0 []),(4,.t (.sl true 1 (List.map vi v))),(61,.t (.sl false 5 (List.map (GFn.enc false) p1.Fns))),(62,.t (vi (p1.Fns.length:Int))),(63,.t (vi v50))],[(1,[.sl false 4 (List.map (GNode.enc false) p1.Nodes),.sl false 5 (List.map (GFn.enc false) p1.Fns)])]⟩) (fun v=>j58=Sum.inl v) (fun v hv=>?_) fun K57 hK57=>?_
    rotate_left
    ·refine SWp.block ?_
     refine SWp.sR rfl (hPB _ rfl) fun K hK=>?_
     refine wC rfl fun K hK=>?_;simp [hN'];refine hK _ ?_;clear hK
     obtain ⟨e59,he59,hj56⟩:=bS hj56
     obtain ⟨he59a,he59b,he59c,he59d⟩:=gS he59
     iterate 5 (refine wC rfl fun K hK=>?_;simp [hN',he59a,he59b,he59c,he59d];refine hK _ ?_;clear hK)
     refine wN (hK _ ?_);clear hK
     refine SWp.seq ?_
     obtain ⟨v68,hj60,hj56⟩:=bS hj56
     refine SWp.seqRC rfl (hPB _ rfl) [1,4,10,61,62,63,79] [1,10] (fun _:Unit=>⟨[(1,.ref (.box 1) 0 []),(4,.t (.sl true 1 (List.map vi met49))),(10,.ref (.box 10) 0 []),(61,.t (.sl false 5 (List.map (GFn.enc false) p1.Fns))),(62,.t (vi (p1.Fns.length:Int))),(63,.t (vi v50)),(79,.t (vb v68))],[(1,[.sl false 4 (List.map (GNode.enc false) p1.Nodes),.sl false 5 (List.map (GFn.enc false) p1.Fns)]),(10,[vs e59.Name,.sl false 2 (List.map GParam.enc e59.Params),vi e59.Res,vi e59.Body,vi e59.Ret])]⟩) (fun _=>True) (fun _ _=>?_) fun K61 hK61=>?_
     rotate_left
     ·refine wC rfl fun K hK=>?_;simp [hN'];refine hK _ ?_;clear hK
      refine wC rfl fun K hK=>?_;simp [hN'];refine hK _ ?_;clear hK
      obtain ⟨r62,hc63,hj60⟩:=bS hj60
      refine wL [(.take,.tmp 68),(.take,.tmp 69)] rfl rfl ent61 (impl_fnOk_ok _ _ hc63) fun K hK=>?_;simp [hN'];refine hK _ ?_;clear hK
      iterate 2 (refine wC rfl fun K hK=>?_;simp [hN'];refine hK _ ?_;clear hK)
      rcases aA hj60 with ⟨hb64,hj60⟩ | ⟨hb65,hj60⟩
      ·have hb64s:=hb64
       try simp at hb64s
       iterate 6 (refine wO fun K hK=>?_;simp [hN',hb64,hb64s];refine hK _ ?_;clear hK)
       refine wC rfl fun K hK=>?_;simp [hN',hb64,hb64s];refine hK _ ?_;clear hK
       refine wN ?_
       cases hj60
       exact hK61 _ () [] trivial (by simp [hN',hb64,hb64s])
      ·have hb65s:=hb65
       try simp at hb65s
       iterate 3 (refine wC rfl fun K hK=>?_;simp [hN',hb65,hb65s];refine hK _ ?_;clear hK)
       obtain ⟨r66,hc67,hj60⟩:=bS hj60
       refine wL [(.take,.tmp 73),(.take,.tmp 75)] rfl rfl ent62 (impl_FnAt_ok _ _ hc67) fun K hK=>?_;simp [hN',hb65,hb65s];refine hK _ ?_;clear hK
       iterate 3 (refine wC rfl fun K hK=>?_;simp [hN',hb65,hb65s];refine hK _ ?_;clear hK)
       refine wN ?_
       cases hj60
       exact hK61 _ () [] trivial (by simp [hN',hb65,hb65s])
     rcases aA hj56 with ⟨hb69,hj56⟩ | ⟨hb70,hj56⟩
     ·refine SWp.cT' (b:=v68) (by simp) hb69 ?_
      refine SWp.sR rfl (hPB _ rfl) fun K hK=>?_
      refine wC rfl fun K hK=>?_;simp [hN'];refine hK _ ?_;clear hK
      refine wN (hK _ ?_);clear hK
      cases hj56
      try dsimp only at h51
      have h71:=congrArg some (ho52 _ (Option.some.inj h51).symm)
      cases h71
      try dsimp only at h
      cases h
      refine SWp.ret ?_
      simp [aC,iB,res28]
     ·refine SWp.cF' (b:=v68) (by simp) hb70 ?_
      refine SWp.skip ?_
      show SWp E C _ _ _
      refine SWp.sR rfl (hPB _ rfl) fun K hK=>?_
      iterate 7 (refine wC rfl fun K hK=>?_;simp [hN'];refine hK _ ?_;clear hK)
      refine wN (hK _ ?_);clear hK
      refine SWp.block ?_
      refine SWp.loopO [] [1,4,61,62,63,84,85,86] [1] (fun v:(List Int) × Int=>⟨[(1,.ref (.box 1) 0 []),(4,.t (.sl true 1 (List.map vi v.1))),(61,.t (.sl false 5 (List.map (GFn.enc false) p1.Fns))),(62,.t (vi (p1.Fns.length:Int))),(63,.t (vi v50)),(84,.t (.sl true 1 (List.map vi [e59.Body,e59.Ret]))),(85,.t (vi ([e59.Body,e59.Ret].length:Int))),(86,.t (vi v.2))],[(1,[.sl false 4 (List.map (GNode.enc false) p1.Nodes),.sl false 5 (List.map (GFn.enc false) p1.Fns)])]⟩) (aI e59) _ (met49,0) hj56 (by simp [hN']) ?_
      intro g s76 h74 ho75
      obtain ⟨met72,v73⟩:=g
      simp only [aI] at h74
      try dsimp only
      refine SWp.sR rfl (hPB _ rfl) fun K hK=>?_
      refine wC rfl fun K hK=>?_;simp [hN'];refine hK _ ?_;clear hK
      refine wN (hK _ ?_);clear hK
      refine SWp.seq ?_
      rcases aA h74 with ⟨hb77,h74⟩ | ⟨hb78,h74⟩
      ·refine SWp.cT' (b:=decide (v73 < ([e59.Body,e59.Ret].length:Int))) (by simp) hb77 ?_
       refine SWp.skip ?_
       show SWp E C _ _ _
       refine SWp.seq ?_
       refine SWp.block ?_
       refine SWp.sR rfl (hPB _ rfl) fun K hK=>?_
       obtain ⟨e79,he79,h74⟩:=bS h74
       obtain ⟨he79a,he79b,he79c,he79d⟩:=gS he79
       have he79k:=he79b;try simp at he79k
       have he79l:(List.map vi [e59.Body,e59.Ret])[v73.toNat]? = some (vi e79):=by rw [List.getElem?_map,he79c];rfl
       try simp only [List.map_cons,List.map_nil] at he79l
       have he79m:=(List.getElem?_eq_some_iff.1 he79l).2
       iterate 3 (refine wC rfl fun K hK=>?_;simp [hN',he79a,he79b,he79c,he79d,he79k,he79l,he79m];refine hK _ ?_;clear hK)
       refine wN (hK _ ?_);clear hK
       refine SWp.seq ?_
       refine SWp.sR rfl (hPB _ rfl) fun K hK=>?_
       iterate 2 (refine wC rfl fun K hK=>?_;simp [hN'];refine hK _ ?_;clear hK)
       refine wN (hK _ ?_);clear hK
       rcases aA h74 with ⟨hb80,h74⟩ | ⟨hb81,h74⟩
       ·refine SWp.cT' (b:=decide (e79 < 0)) (by simp) hb80 ?_
        refine SWp.exit ?_
        show SWp E C _ _ _
        refine SWp.reg rfl (hPB _ rfl) fun K hK=>?_
        iterate 2 (refine wC rfl fun K hK=>?_;simp [hN'];refine hK _ ?_;clear hK)
        refine wN (hK _ ?_);clear hK
        cases h74
        exact ⟨_,[],rfl,by simp [hN']⟩
       ·refine SWp.cF' (b:=decide (e79 < 0)) (by simp) hb81 ?_
        refine SWp.skip ?_
        show SWp E C _ _ _
        refine SWp.seq ?_
        refine SWp.sR rfl (hPB _ rfl) fun K hK=>?_
        iterate 2 (refine wC rfl fun K hK=>?_;simp [hN'];refine hK _ ?_;clear hK)
        obtain ⟨e82,he82,h74⟩:=bS h74
        obtain ⟨he82a,he82b,he82c,he82d⟩:=gS he82
        iterate 3 (refine wC rfl fun K hK=>?_;simp [hN',he82a,he82b,he82c,he82d];refine hK _ ?_;clear hK)
        refine wN (hK _ ?_);clear hK
        rcases aA h74 with ⟨hb83,h74⟩ | ⟨hb84,h74⟩
        ·refine SWp.cT' (b:=e82 != 0) (by simp) hb83 ?_
         refine SWp.sR rfl (hPB _ rfl) fun K hK=>?_
         refine wC rfl fun K hK=>?_;simp [hN'];refine hK _ ?_;clear hK
         refine wN (hK _ ?_);clear hK
         have h85:=congrArg some (ho75 _ (Option.some.inj h74).symm)
         cases h85
         try dsimp only at h51
         have h86:=congrArg some (ho52 _ (Option.some.inj h51).symm)
         cases h86
         try dsimp only at h
         cases h
         refine SWp.ret ?_
         simp [aC,iB,res28]
        ·refine SWp.cF' (b:=e82 != 0) (by simp) hb84 ?_
         refine SWp.skip ?_
         show SWp E C _ _ _
         refine SWp.reg rfl (hPB _ rfl) fun K hK=>?_
         iterate 2 (refine wC rfl fun K hK=>?_;simp [hN'];refine hK _ ?_;clear hK)
         obtain ⟨e87,he87,h74⟩:=bS h74
         obtain ⟨he87a,he87b,he87c,he87d⟩:=gS he87
         refine wC rfl fun K hK=>?_;simp [hN',he87a,he87b,he87c,he87d];refine hK _ ?_;clear hK
         obtain ⟨l88,hl88,h74⟩:=bZ h74
         have hl88f:(List.map vi met72).set e79.toNat (vi (-1))=List.map vi l88:=cE (f:=vi) hl88
         try simp only [Int.toNat_natCast] at hl88f
         refine wC rfl fun K hK=>?_;simp [hN',he87a,he87b,he87c,he87d,hl88f];refine hK _ ?_;clear hK
         refine wN (hK _ ?_);clear hK
         show SWp E C _ _ _
         refine SWp.reg rfl (hPB _ rfl) fun K hK=>?_
         iterate 2 (refine wC rfl fun K hK=>?_;simp [hN'];refine hK _ ?_;clear hK)
         refine wN (hK _ ?_);clear hK
         cases h74
         exact ⟨_,[],rfl,by simp [hN']⟩
      ·refine SWp.cF' (b:=decide (v73 < ([e59.Body,e59.Ret].length:Int))) (by simp) hb78 ?_
       refine SWp.exit ?_
       have h89:=congrArg some (ho75 _ (Option.some.inj h74).symm)
       cases h89
       exact hK57 _ _ [] rfl (by simp [hN'])
    subst hv
    obtain ⟨met90,hv⟩:∃ y,y=v:=⟨_,rfl⟩
    subst hv
    try dsimp only at h51 ⊢
    refine SWp.reg rfl (hPB _ rfl) fun K hK=>?_
    iterate 2 (refine wC rfl fun K hK=>?_;simp [hN'];refine hK _ ?_;clear hK)
    refine wN (hK _ ?_);clear hK
    cases h51
    exact ⟨_,[],rfl,by simp [hN']⟩
   ·refine SWp.cF' (b:=decide (v50 < (p1.Fns.length:Int))) (by simp) hb55 ?_
    refine SWp.exit ?_
    have h91:=congrArg some (ho52 _ (Option.some.inj h51).symm)
    cases h91
    exact hK47 _ _ [] rfl (by simp [hN'])
  subst hv
  obtain ⟨met92,hv⟩:∃ y,y=v:=⟨_,rfl⟩
  subst hv
  try dsimp only at h ⊢
  obtain ⟨j95,hj93,h⟩:=bS h
  refine SWp.seqC [] [] (fun v:Unit=>⟨[],[]⟩) (fun v=>j95=Sum.inl v) (fun v hv=>?_) fun K94 hK94=>?_
  rotate_left
  ·refine SWp.sR rfl (hPB _ rfl) fun K hK=>?_
   iterate 3 (refine wC rfl fun K hK=>?_;simp [hN'];refine hK _ ?_;clear hK)
   refine wN (hK _ ?_);clear hK
   refine SWp.block ?_
   refine SWp.loopO [] [4,102,103,104] [] (fun v:Int=>⟨[(4,.t (.sl true 1 (List.map vi met92))),(102,.al (.slot 4) 0 [] none),(103,.t (vi (met92.length:Int))),(104,.t (vi v))],[]⟩) (cP met92) _ 0 hj93 (by simp [hN']) ?_
   intro g s99 h97 ho98
   obtain ⟨v96,hg⟩:∃ y,y=g:=⟨_,rfl⟩
   subst hg
   simp only [cP] at h97
   try dsimp only
   refine SWp.sR rfl (hPB _ rfl) fun K hK=>?_
   refine wC rfl fun K hK=>?_;simp [hN'];refine hK _ ?_;clear hK
   refine wN (hK _ ?_);clear hK
   refine SWp.seq ?_
   rcases aA h97 with ⟨hb100,h97⟩ | ⟨hb101,h97⟩
   ·refine SWp.cT' (b:=decide (v96 < (met92.length:Int))) (by simp) hb100 ?_
    refine SWp.skip ?_
    show SWp E C _ _ _
    refine SWp.seq ?_
    refine SWp.block ?_
    refine SWp.sR rfl (hPB _ rfl) fun K hK=>?_
    obtain ⟨e102,he102,h97⟩:=bS h97
    obtain ⟨he102a,he102b,he102c,he102d⟩:=gS he102
    iterate 3 (refine wC rfl fun K hK=>?_;simp [hN',he102a,he102b,he102c,he102d];refine hK _ ?_;clear hK)
    refine wN (hK _ ?_);clear hK
    obtain ⟨v107,hj103,h97⟩:=bS h97
    refine SWp.seqRC rfl (hPB _ rfl) [4,102,103,104,113] [] (fun _:Unit=>⟨[(4,.t (.sl true 1 (List.map vi met92))),(102,.al (.slot 4) 0 [] none),(103,.t (vi (met92.length:Int))),(104,.t (vi v96)),(113,.t (vb v107))],[]⟩) (fun _=>True) (fun _ _=>?_) fun K104 hK104=>?_
    rotate_left
    ·refine wC rfl fun K hK=>?_;simp [hN'];refine hK _ ?_;clear hK
     iterate 2 (refine wC rfl fun K hK=>?_;simp [hN'];refine hK _ ?_;clear hK)
     rcases aA hj103 with ⟨hb105,hj103⟩ | ⟨hb106,hj103⟩
     ·have hb105s:=hb105
      try simp at hb105s
      iterate 3 (refine wC rfl fun K hK=>?_;simp [hN',hb105,hb105s];refine hK _ ?_;clear hK)
      refine wN ?_
      cases hj103
      exact hK104 _ () [] trivial (by simp [hN',hb105,hb105s])
     ·have hb106s:=hb106
      try simp at hb106s
      iterate 2 (refine wO fun K hK=>?_;simp [hN',hb106,hb106s];refine hK _ ?_;clear hK)
      refine wC rfl fun K hK=>?_;simp [hN',hb106,hb106s];refine hK _ ?_;clear hK
      refine wN ?_
      cases hj103
      exact hK104 _ () [] trivial (by simp [hN',hb106,hb106s])
    rcases aA h97 with ⟨hb108,h97⟩ | ⟨hb109,h97⟩
    ·refine SWp.cT' (b:=v107) (by simp) hb108 ?_
     refine SWp.sR rfl (hPB _ rfl) fun K hK=>?_
     refine wC rfl fun K hK=>?_;simp [hN'];refine hK _ ?_;clear hK
     refine wN (hK _ ?_);clear hK
     have h110:=congrArg some (ho98 _ (Option.some.inj h97).symm)
     cases h110
     try dsimp only at h
     cases h
     refine SWp.ret ?_
     simp [aC,iB,res28]
    ·refine SWp.cF' (b:=v107) (by simp) hb109 ?_
     refine SWp.skip ?_
     show SWp E C _ _ _
     refine SWp.reg rfl (hPB _ rfl) fun K hK=>?_
     iterate 2 (refine wC rfl fun K hK=>?_;simp [hN'];refine hK _ ?_;clear hK)
     refine wN (hK _ ?_);clear hK
     cases h97
     exact ⟨_,[],rfl,by simp [hN']⟩
   ·refine SWp.cF' (b:=decide (v96 < (met92.length:Int))) (by simp) hb101 ?_
    refine SWp.exit ?_
    have h111:=congrArg some (ho98 _ (Option.some.inj h97).symm)
    cases h111
    exact hK94 _ _ [] rfl (by simp [hN'])
  subst hv
  obtain ⟨⟩:=v
  try dsimp only at h ⊢
  refine SWp.sR rfl (hPB _ rfl) fun K hK=>?_
  refine wC rfl fun K hK=>?_;simp [hN'];refine hK _ ?_;clear hK
  refine wN (hK _ ?_);clear hK
  cases h
  refine SWp.ret ?_
  simp [aC,iB,res28]
theorem res31:Tryz.f31.results.toList=[.cell 2 50]:=rfl
theorem ent31:aE E.P 31:=eO Tryz.func31 (by simp [Tryz.f31]) rfl
theorem lM (f1:GFn) {r0:GFn} (h:gJ f1=some r0):Ok E 31 [.val (GFn.enc false f1)] [GFn.enc true r0] []:=by
 refine oB (fn:=Tryz.f31) Tryz.func31 rfl (by simp [Tryz.f31]) fun C hN hP=>?_
 have u:∀ l,pinK [] l=true→pinB C.pin l=true:=pO (by rw [hP];rfl)
 have y:C.N=8:=hN
 clear hN
 unfold gJ at h
 refine SWp.sR rfl (u _ rfl) fun K q=>?_
 iterate 2 (refine wC rfl fun K q=>?_;simp [y];refine q _ ?_;clear q)
 refine wN (q _ ?_);clear q
 refine SWp.sR rfl (u _ rfl) fun K q=>?_
 iterate 2 (refine wC rfl fun K q=>?_;simp [y];refine q _ ?_;clear q)
 obtain ⟨l2,hl2,h⟩:=bS h
 obtain ⟨hl2a,hl2b,hl2d⟩:=aS hl2
 simp [eSl,GParam.enc] at hl2a hl2b
 iterate 3 (refine wC rfl fun K q=>?_;simp [y,hl2a,hl2b];refine q _ ?_;clear q)
 refine wN (q _ ?_);clear q
 refine SWp.sR rfl (u _ rfl) fun K q=>?_
 iterate 2 (refine wC rfl fun K q=>?_;simp [y];refine q _ ?_;clear q)
 refine wN (q _ ?_);clear q
 cases h
 refine SWp.ret ?_
 simp [aC,iB,res31]
theorem res92:Tryz.f92.results.toList=[.tmp 2]:=rfl
theorem ent92:aE E.P 92:=eO Tryz.func92 (by simp [Tryz.f92]) rfl
theorem impl_copyInts_ok (l1:List Int) {r0:List Int} (h:iF l1=some r0):Ok E 92 [.val (.sl false 1 (List.map vi l1))] [.sl true 1 (List.map vi r0)] []:=by
 refine oB (fn:=Tryz.f92) Tryz.func92 rfl (by simp [Tryz.f92]) fun C hN hP=>?_
 have u:∀ l,pinK [] l=true→pinB C.pin l=true:=pO (by rw [hP];rfl)
 have y:C.N=5:=hN
 clear hN
 unfold iF at h
 refine SWp.sR rfl (u _ rfl) fun K q=>?_
 refine wC rfl fun K q=>?_;simp [y];refine q _ ?_;clear q
 refine wN (q _ ?_);clear q
 refine SWp.sR rfl (u _ rfl) fun K q=>?_
 refine wC rfl fun K q=>?_;simp [y];refine q _ ?_;clear q
 obtain ⟨l2,hl2,h⟩:=bS h
 obtain ⟨hl2a,hl2b,hl2d⟩:=aS hl2
 simp [eSl] at hl2a hl2b
 iterate 2 (refine wC rfl fun K q=>?_;simp [y,hl2a,hl2b];refine q _ ?_;clear q)
 refine wN (q _ ?_);clear q
 cases h
 refine SWp.ret ?_
 simp [aC,iB,res92]
theorem res63:Tryz.f63.results.toList=[.tmp 2]:=rfl
theorem ent63:aE E.P 63:=eO Tryz.func63 (by simp [Tryz.f63]) rfl
theorem impl_copyNodes_ok (l1:List GNode) {r0:List GNode} (h:gD l1=some r0):Ok E 63 [.val (.sl false 4 (List.map (GNode.enc false) l1))] [.sl true 4 (List.map (GNode.enc true) r0)] []:=by
 refine oB (fn:=Tryz.f63) Tryz.func63 rfl (by simp [Tryz.f63]) fun C hN hP=>?_
 have u:∀ l,pinK [] l=true→pinB C.pin l=true:=pO (by rw [hP];rfl)
 have y:C.N=22:=hN
 clear hN
 unfold gD at h
 refine SWp.sR rfl (u _ rfl) fun K q=>?_
 refine wC rfl fun K q=>?_;simp [y];refine q _ ?_;clear q
 refine wN (q _ ?_);clear q
 refine SWp.sR rfl (u _ rfl) fun K q=>?_
 refine wC rfl fun K q=>?_;simp [y];refine q _ ?_;clear q
 refine wN (q _ ?_);clear q
 obtain ⟨out17,hj2,h⟩:=bS h
 refine SWp.seqC [3] [] (fun _:Unit=>⟨[(3,.t (.sl true 4 (List.map (GNode.enc true) out17)))],[]⟩) (fun _=>True) (fun _ _=>?_) fun K3 hK3=>?_
 rotate_left
 ·refine SWp.sR rfl (u _ rfl) fun K q=>?_
  iterate 3 (refine wC rfl fun K q=>?_;simp [y];refine q _ ?_;clear q)
  refine wN (q _ ?_);clear q
  refine SWp.block ?_
  refine SWp.loopO [] [3,6,7,8] [] (fun v:(List GNode) × Int=>⟨[(3,.t (.sl true 4 (List.map (GNode.enc true) v.1))),(6,.t (.sl false 4 (List.map (GNode.enc false) l1))),(7,.t (vi (l1.length:Int))),(8,.t (vi v.2))],[]⟩) (cO l1) _ ([],0) hj2 (by simp [y]) ?_
  intro g s9 h7 ho8
  obtain ⟨out5,v6⟩:=g
  simp only [cO] at h7
  try dsimp only
  refine SWp.sR rfl (u _ rfl) fun K q=>?_
  refine wC rfl fun K q=>?_;simp [y];refine q _ ?_;clear q
  refine wN (q _ ?_);clear q
  refine SWp.seq ?_
  rcases aA h7 with ⟨hb10,h7⟩ | ⟨hb11,h7⟩
  ·refine SWp.cT' (b:=decide (v6 < (l1.length:Int))) (by simp) hb10 ?_
   refine SWp.skip ?_
   show SWp E C _ _ _
   refine SWp.seq ?_
   refine SWp.block ?_
   refine SWp.sR rfl (u _ rfl) fun K q=>?_
   obtain ⟨e12,he12,h7⟩:=bS h7
   obtain ⟨he12a,he12b,he12c,he12d⟩:=gS he12
   iterate 4 (refine wC rfl fun K q=>?_;simp [y,he12a,he12b,he12c,he12d];refine q _ ?_;clear q)
   refine wN (q _ ?_);clear q
   refine SWp.sR rfl (u _ rfl) fun K q=>?_
   iterate 2 (refine wC rfl fun K q=>?_;simp [y];refine q _ ?_;clear q)
   obtain ⟨r13,hc14,h7⟩:=bS h7
   refine wL [(.take,.tmp 13)] rfl rfl ent92 (impl_copyInts_ok _ hc14) fun K q=>?_;simp [y];refine q _ ?_;clear q
   iterate 2 (refine wC rfl fun K q=>?_;simp [y];refine q _ ?_;clear q)
   refine wN (q _ ?_);clear q
   refine SWp.reg rfl (u _ rfl) fun K q=>?_
   iterate 3 (refine wC rfl fun K q=>?_;simp [y];refine q _ ?_;clear q)
   obtain ⟨l15,hl15,h7⟩:=bS h7
   obtain ⟨hl15a,hl15b,hl15d⟩:=aS hl15
   have hl15f:List.map (GNode.enc true) out5 ++ List.map (GNode.enc true) [(⟨e12.Kind,e12.Num,e12.Name,r13⟩:GNode)]=List.map (GNode.enc true) l15:=cC (f:=(GNode.enc true)) hl15d
   simp [eSl,GNode.enc] at hl15a hl15b hl15f
   iterate 2 (refine wC rfl fun K q=>?_;simp [y,hl15a,hl15b,hl15f];refine q _ ?_;clear q)
   refine wN (q _ ?_);clear q
   show SWp E C _ _ _
   refine SWp.reg rfl (u _ rfl) fun K q=>?_
   iterate 2 (refine wC rfl fun K q=>?_;simp [y];refine q _ ?_;clear q)
   refine wN (q _ ?_);clear q
   cases h7
   exact ⟨_,[],rfl,by simp [y]⟩
  ·refine SWp.cF' (b:=decide (v6 < (l1.length:Int))) (by simp) hb11 ?_
   refine SWp.exit ?_
   have h16:=congrArg some (ho8 _ (Option.some.inj h7).symm)
   cases h16
   exact hK3 _ () [] trivial (by simp [y])
 refine SWp.sR rfl (u _ rfl) fun K q=>?_
 iterate 2 (refine wC rfl fun K q=>?_;simp [y];refine q _ ?_;clear q)
 refine wN (q _ ?_);clear q
 cases h
 refine SWp.ret ?_
 simp [aC,iB,res63]
theorem res29:Tryz.f29.results.toList=[.cell 2 31]:=rfl
theorem ent29:aE E.P 29:=eO Tryz.func29 (by simp [Tryz.f29]) rfl
theorem gI (p1:GProgram) {r0:GProgram} (h:cB p1=some r0):Ok E 29 [.val (GProgram.enc false p1)] [GProgram.enc true r0] []:=by
 refine oB (fn:=Tryz.f29) Tryz.func29 rfl (by simp [Tryz.f29]) fun C hN hP=>?_
 have u:∀ l,pinK [] l=true→pinB C.pin l=true:=pO (by rw [hP];rfl)
 have y:C.N=26:=hN
 clear hN
 unfold cB at h
 refine SWp.sR rfl (u _ rfl) fun K q=>?_
 iterate 2 (refine wC rfl fun K q=>?_;simp [y];refine q _ ?_;clear q)
 refine wN (q _ ?_);clear q
 refine SWp.sR rfl (u _ rfl) fun K q=>?_
 iterate 2 (refine wC rfl fun K q=>?_;simp [y];refine q _ ?_;clear q)
 obtain ⟨r2,hc3,h⟩:=bS h
 refine wL [(.take,.tmp 7)] rfl rfl ent63 (impl_copyNodes_ok _ hc3) fun K q=>?_;simp [y];refine q _ ?_;clear q
 iterate 3 (refine wC rfl fun K q=>?_;simp [y];refine q _ ?_;clear q)
 refine wN (q _ ?_);clear q
 obtain ⟨v19,hj4,h⟩:=bS h
 refine SWp.seqC [2,3] [2,3] (fun _:Unit=>⟨[(2,.ref (.box 2) 0 []),(3,.ref (.box 3) 0 [])],[(2,[.sl true 4 [],.sl true 5 []]),(3,[.sl true 4 (List.map (GNode.enc true) v19.Nodes),.sl true 5 (List.map (GFn.enc true) v19.Fns)])]⟩) (fun _=>True) (fun _ _=>?_) fun K5 hK5=>?_
 rotate_left
 ·refine SWp.sR rfl (u _ rfl) fun K q=>?_
  iterate 4 (refine wC rfl fun K q=>?_;simp [y];refine q _ ?_;clear q)
  refine wN (q _ ?_);clear q
  refine SWp.block ?_
  refine SWp.loopO [] [2,3,11,12,13] [2,3] (fun v:Int × GProgram=>⟨[(2,.ref (.box 2) 0 []),(3,.ref (.box 3) 0 []),(11,.t (.sl false 5 (List.map (GFn.enc false) p1.Fns))),(12,.t (vi (p1.Fns.length:Int))),(13,.t (vi v.1))],[(2,[.sl true 4 [],.sl true 5 []]),(3,[.sl true 4 (List.map (GNode.enc true) v.2.Nodes),.sl true 5 (List.map (GFn.enc true) v.2.Fns)])]⟩) (bL p1) _ (0,(⟨r2,[]⟩:GProgram)) hj4 (by simp [y]) ?_
  intro g s11 h9 ho10
  obtain ⟨v7,v8⟩:=g
  simp only [bL] at h9
  try dsimp only
  refine SWp.sR rfl (u _ rfl) fun K q=>?_
  refine wC rfl fun K q=>?_;simp [y];refine q _ ?_;clear q
  refine wN (q _ ?_);clear q
  refine SWp.seq ?_
  rcases aA h9 with ⟨hb12,h9⟩ | ⟨hb13,h9⟩
  ·refine SWp.cT' (b:=decide (v7 < (p1.Fns.length:Int))) (by simp) hb12 ?_
   refine SWp.skip ?_
   show SWp E C _ _ _
   refine SWp.seq ?_
   refine SWp.block ?_
   refine SWp.sR rfl (u _ rfl) fun K q=>?_
   obtain ⟨e14,he14,h9⟩:=bS h9
   obtain ⟨he14a,he14b,he14c,he14d⟩:=gS he14
   iterate 4 (refine wC rfl fun K q=>?_;simp [y,he14a,he14b,he14c,he14d];refine q _ ?_;clear q)
   refine wN (q _ ?_);clear q
   obtain ⟨r15,hc16,h9⟩:=bS h9
   refine SWp.drawD rfl (u _ rfl) [17,18,19,20,21] [[(17,.ref (.box 3) 1 [])],[(18,.al (.box 3) 1 [] none)],[(19,.t (GFn.enc false e14))],[(20,.t (GFn.enc true r15))],[(21,.t (.sl true 5 (List.map (GFn.enc true) [r15]))),(20,.u)]] [[],[0],[],[2],[2,3],[0,1,2,3,4],[0,1,2,3,4,5],[0,1,2,3,4,5,6]] (by simp) rfl rfl rfl ?_ fun K q=>?_
   ·refine ⟨?_,?_,?_,?_,?_,trivial⟩
    ·intro D d0 g1 g2
     have d1:D 1=false:=g2 1 (by simp) (by simp)
     cases d2:D 2<;>cases d3:D 3<;>cases d4:D 4<;>(intro K q;simp [famD,putL,upd1,d0,d1,d2,d3,d4] at q ⊢;refine wC rfl fun K' q'=>?_;simp [y];refine q' _ (wN ?_);first | exact q | simpa using q)
    ·intro D d1 g1 g2
     have d0:D 0=true:=g1 0 (by simp)
     cases d2:D 2<;>cases d3:D 3<;>cases d4:D 4<;>(intro K q;simp [famD,putL,upd1,d0,d1,d2,d3,d4] at q ⊢;refine wC rfl fun K' q'=>?_;simp [y];refine q' _ (wN ?_);first | exact q | simpa using q)
    ·intro D d2 g1 g2
     have d3:D 3=false:=g2 3 (by simp) (by simp)
     have d4:D 4=false:=g2 4 (by simp) (by simp)
     cases d0:D 0<;>cases d1:D 1<;>(intro K q;simp [famD,putL,upd1,d0,d1,d2,d3,d4] at q ⊢;refine wC rfl fun K' q'=>?_;simp [y];refine q' _ (wN ?_);first | exact q | simpa using q)
    ·intro D d3 g1 g2
     have d2:D 2=true:=g1 2 (by simp)
     have d4:D 4=false:=g2 4 (by simp) (by simp)
     cases d0:D 0<;>cases d1:D 1<;>(intro K q;simp [famD,putL,upd1,d0,d1,d2,d3,d4] at q ⊢;refine wL [(.take,.tmp 19)] rfl rfl ent31 (lM _ hc16) fun K' q'=>?_;simp [y];refine q' _ (wN ?_);first | exact q | simpa using q)
    ·intro D d4 g1 g2
     have d2:D 2=true:=g1 2 (by simp)
     have d3:D 3=true:=g1 3 (by simp)
     cases d0:D 0<;>cases d1:D 1<;>(intro K q;simp [famD,putL,upd1,d0,d1,d2,d3,d4] at q ⊢;refine wC rfl fun K' q'=>?_;simp [y];refine q' _ (wN ?_);first | exact q | simpa using q)
   simp [famD,putL]
   obtain ⟨l17,hl17,h9⟩:=bS h9
   obtain ⟨hl17a,hl17b,hl17d⟩:=aS hl17
   have hl17f:List.map (GFn.enc true) v8.Fns ++ List.map (GFn.enc true) [r15]=List.map (GFn.enc true) l17:=cC (f:=(GFn.enc true)) hl17d
   simp [eSl,GFn.enc] at hl17a hl17b hl17f
   iterate 3 (refine wC rfl fun K q=>?_;simp [y,hl17a,hl17b,hl17f];refine q _ ?_;clear q)
   refine wN (q _ ?_);clear q
   show SWp E C _ _ _
   refine SWp.reg rfl (u _ rfl) fun K q=>?_
   iterate 2 (refine wC rfl fun K q=>?_;simp [y];refine q _ ?_;clear q)
   refine wN (q _ ?_);clear q
   cases h9
   exact ⟨_,[],rfl,by simp [y]⟩
  ·refine SWp.cF' (b:=decide (v7 < (p1.Fns.length:Int))) (by simp) hb13 ?_
   refine SWp.exit ?_
   have h18:=congrArg some (ho10 _ (Option.some.inj h9).symm)
   cases h18
   exact hK5 _ () [] trivial (by simp [y])
 refine SWp.sR rfl (u _ rfl) fun K q=>?_
 iterate 2 (refine wC rfl fun K q=>?_;simp [y];refine q _ ?_;clear q)
 refine wN (q _ ?_);clear q
 cases h
 refine SWp.ret ?_
 simp [aC,iB,res29]
end Go.Proofs.T
