import Derived.Test.YtaikgmffaohobaaGreatDoorTA
import Derived.Shelf.Strconv.Itoa0
import Derived.Shelf.Strings.Search1
import Derived.Shelf.Strings.Search2
import Derived.Shelf.Strings.Search3
import Derived.Shelf.Strings.Count
import Derived.Shelf.LaysM
import Derived.Shelf.Strings.Shaped
import Derived.Shelf.Sort.Plain
import Derived.Shelf.Strings.Split
import Derived.Shelf.Unicode.DecodeSlow
import Derived.Shelf.Slices.In.SortNone
import Derived.Shelf.Slices.In.SortNone2
import Derived.Test.YtaikgmffaohobaaGreatDoorProg
set_option linter.unusedVariables false
set_option linter.unusedSimpArgs false
set_option linter.unusedVariables false
set_option linter.unusedSimpArgs false
set_option maxHeartbeats 8000000
namespace Go.Proofs.T
open Go.OM
theorem res40:Tryz.f40.results.toList=[.tmp 4]:=rfl
theorem ent40:aF E.P 40:=eO Tryz.func40 (by simp [Tryz.f40]) rfl
theorem spec_VarAt_ok (list1:List GVar) (name2:ByteArray) {r0:Int} (h:oL list1 name2=some r0):Ok E 40 [.val (.sl false 3 (List.map GVar.enc list1)),.val (vs name2)] [vi r0] []:=by
 refine oB (fn:=Tryz.f40) Tryz.func40 rfl (by simp [Tryz.f40]) fun C hN hP=>?_
 have hPB:∀ l,pinK [] l=true→pinB C.pin l=true:=pO (by rw [hP];rfl)
 have hN':C.N=20:=hN
 clear hN
 unfold oL at h
 refine SWp.sR rfl (hPB _ rfl) fun K hK=>?_
 refine wC rfl fun K hK=>?_;simp [hN'];refine hK _ ?_;clear hK
 refine wN (hK _ ?_);clear hK
 obtain ⟨j5,hj3,h⟩:=bS h
 refine SWp.seqC [] [] (fun v:Unit=>⟨[],[]⟩) (fun v=>j5=Sum.inl v) (fun v hv=>?_) fun K4 hK4=>?_
 rotate_left
 ·refine SWp.sR rfl (hPB _ rfl) fun K hK=>?_
  refine wC rfl fun K hK=>?_;simp [hN'];refine hK _ ?_;clear hK
  refine wN (hK _ ?_);clear hK
  refine SWp.block ?_
  refine SWp.loopO [] [0,1,5] [] (fun v:Int=>⟨[(0,.t (.sl false 3 (List.map GVar.enc list1))),(1,.t (vs name2)),(5,.t (vi v))],[]⟩) (mF list1 name2) _ 0 hj3 (by simp [hN']) ?_
  intro g s9 h7 ho8
  obtain ⟨i6,hg⟩:∃ y,y=g:=⟨_,rfl⟩
  subst hg
  simp only [mF] at h7
  try dsimp only
  refine SWp.seq ?_
  refine SWp.sR rfl (hPB _ rfl) fun K hK=>?_
  iterate 4 (refine wC rfl fun K hK=>?_;simp [hN'];refine hK _ ?_;clear hK)
  refine wN (hK _ ?_);clear hK
  rcases aA h7 with ⟨hb10,h7⟩ | ⟨hb11,h7⟩
  ·refine SWp.cT' (b:=decide (i6 < (list1.length:Int))) (by simp) hb10 ?_
   refine SWp.skip ?_
   show SWp E C _ _ _
   refine SWp.seq ?_
   refine SWp.block ?_
   refine SWp.sR rfl (hPB _ rfl) fun K hK=>?_
   iterate 2 (refine wC rfl fun K hK=>?_;simp [hN'];refine hK _ ?_;clear hK)
   obtain ⟨e12,he12,h7⟩:=bS h7
   obtain ⟨he12a,he12b,he12c,he12d⟩:=gS he12
   iterate 5 (refine wC rfl fun K hK=>?_;simp [hN',he12a,he12b,he12c,he12d];refine hK _ ?_;clear hK)
   refine wN (hK _ ?_);clear hK
   rcases aA h7 with ⟨hb13,h7⟩ | ⟨hb14,h7⟩
   ·refine SWp.cT' (b:=sEq e12.Name name2) (by simp) hb13 ?_
    refine SWp.sR rfl (hPB _ rfl) fun K hK=>?_
    iterate 2 (refine wC rfl fun K hK=>?_;simp [hN'];refine hK _ ?_;clear hK)
    refine wN (hK _ ?_);clear hK
    have h15:=congrArg some (ho8 _ (Option.some.inj h7).symm)
    cases h15
    try dsimp only at h
    cases h
    refine SWp.ret ?_
    simp [aC,iB,res40]
   ·refine SWp.cF' (b:=sEq e12.Name name2) (by simp) hb14 ?_
    refine SWp.skip ?_
    show SWp E C _ _ _
    refine SWp.reg rfl (hPB _ rfl) fun K hK=>?_
    iterate 3 (refine wC rfl fun K hK=>?_;simp [hN'];refine hK _ ?_;clear hK)
    refine wN (hK _ ?_);clear hK
    cases h7
    exact ⟨_,[],rfl,by simp [hN']⟩
  ·refine SWp.cF' (b:=decide (i6 < (list1.length:Int))) (by simp) hb11 ?_
   refine SWp.exit ?_
   have h16:=congrArg some (ho8 _ (Option.some.inj h7).symm)
   cases h16
   exact hK4 _ _ [] rfl (by simp [hN'])
 subst hv
 obtain ⟨⟩:=v
 try dsimp only at h ⊢
 refine SWp.sR rfl (hPB _ rfl) fun K hK=>?_
 refine wC rfl fun K hK=>?_;simp [hN'];refine hK _ ?_;clear hK
 refine wN (hK _ ?_);clear hK
 cases h
 refine SWp.ret ?_
 simp [aC,iB,res40]
theorem res76:Tryz.f76.results.toList=[.tmp 4]:=rfl
theorem ent76:aF E.P 76:=eO Tryz.func76 (by simp [Tryz.f76]) rfl
theorem pB (list1:List ByteArray) (s2:ByteArray) {r0:Bool} (h:hE list1 s2=some r0):Ok E 76 [.val (.sl false 1 (List.map vs list1)),.val (vs s2)] [vb r0] []:=by
 refine oB (fn:=Tryz.f76) Tryz.func76 rfl (by simp [Tryz.f76]) fun C hN hP=>?_
 have hPB:∀ l,pinK [] l=true→pinB C.pin l=true:=pO (by rw [hP];rfl)
 have hN':C.N=18:=hN
 clear hN
 unfold hE at h
 refine SWp.sR rfl (hPB _ rfl) fun K hK=>?_
 refine wC rfl fun K hK=>?_;simp [hN'];refine hK _ ?_;clear hK
 refine wN (hK _ ?_);clear hK
 obtain ⟨j5,hj3,h⟩:=bS h
 refine SWp.seqC [] [] (fun v:Unit=>⟨[],[]⟩) (fun v=>j5=Sum.inl v) (fun v hv=>?_) fun K4 hK4=>?_
 rotate_left
 ·refine SWp.sR rfl (hPB _ rfl) fun K hK=>?_
  refine wC rfl fun K hK=>?_;simp [hN'];refine hK _ ?_;clear hK
  refine wN (hK _ ?_);clear hK
  refine SWp.block ?_
  refine SWp.loopO [] [0,1,5] [] (fun v:Int=>⟨[(0,.t (.sl false 1 (List.map vs list1))),(1,.t (vs s2)),(5,.t (vi v))],[]⟩) (eB list1 s2) _ 0 hj3 (by simp [hN']) ?_
  intro g s9 h7 ho8
  obtain ⟨i6,hg⟩:∃ y,y=g:=⟨_,rfl⟩
  subst hg
  simp only [eB] at h7
  try dsimp only
  refine SWp.seq ?_
  refine SWp.sR rfl (hPB _ rfl) fun K hK=>?_
  iterate 4 (refine wC rfl fun K hK=>?_;simp [hN'];refine hK _ ?_;clear hK)
  refine wN (hK _ ?_);clear hK
  rcases aA h7 with ⟨hb10,h7⟩ | ⟨hb11,h7⟩
  ·refine SWp.cT' (b:=decide (i6 < (list1.length:Int))) (by simp) hb10 ?_
   refine SWp.skip ?_
   show SWp E C _ _ _
   refine SWp.seq ?_
   refine SWp.block ?_
   refine SWp.sR rfl (hPB _ rfl) fun K hK=>?_
   iterate 2 (refine wC rfl fun K hK=>?_;simp [hN'];refine hK _ ?_;clear hK)
   obtain ⟨e12,he12,h7⟩:=bS h7
   obtain ⟨he12a,he12b,he12c,he12d⟩:=gS he12
   iterate 4 (refine wC rfl fun K hK=>?_;simp [hN',he12a,he12b,he12c,he12d];refine hK _ ?_;clear hK)
   refine wN (hK _ ?_);clear hK
   rcases aA h7 with ⟨hb13,h7⟩ | ⟨hb14,h7⟩
   ·refine SWp.cT' (b:=sEq e12 s2) (by simp) hb13 ?_
    refine SWp.sR rfl (hPB _ rfl) fun K hK=>?_
    refine wC rfl fun K hK=>?_;simp [hN'];refine hK _ ?_;clear hK
    refine wN (hK _ ?_);clear hK
    have h15:=congrArg some (ho8 _ (Option.some.inj h7).symm)
    cases h15
    try dsimp only at h
    cases h
    refine SWp.ret ?_
    simp [aC,iB,res76]
   ·refine SWp.cF' (b:=sEq e12 s2) (by simp) hb14 ?_
    refine SWp.skip ?_
    show SWp E C _ _ _
    refine SWp.reg rfl (hPB _ rfl) fun K hK=>?_
    iterate 3 (refine wC rfl fun K hK=>?_;simp [hN'];refine hK _ ?_;clear hK)
    refine wN (hK _ ?_);clear hK
    cases h7
    exact ⟨_,[],rfl,by simp [hN']⟩
  ·refine SWp.cF' (b:=decide (i6 < (list1.length:Int))) (by simp) hb11 ?_
   refine SWp.exit ?_
   have h16:=congrArg some (ho8 _ (Option.some.inj h7).symm)
   cases h16
   exact hK4 _ _ [] rfl (by simp [hN'])
 subst hv
 obtain ⟨⟩:=v
 try dsimp only at h ⊢
 refine SWp.sR rfl (hPB _ rfl) fun K hK=>?_
 refine wC rfl fun K hK=>?_;simp [hN'];refine hK _ ?_;clear hK
 refine wN (hK _ ?_);clear hK
 cases h
 refine SWp.ret ?_
 simp [aC,iB,res76]
theorem res42:Tryz.f42.results.toList=[]:=rfl
theorem ent42:aF E.P 42:=eO Tryz.func42 (by simp [Tryz.f42]) rfl
theorem mD (rec_spec_l07Seen_value:Gl07Seen→Int→Option (Gl07Seen)) (hrec_spec_l07Seen_value:∀ (a0:Gl07Seen) (a1:Int) {q0:Gl07Seen},rec_spec_l07Seen_value a0 a1=some q0→Ok E 42 [.ptr [.sl false 4 (List.map (GNode.enc false) a0.p.Nodes),.sl false 5 (List.map (GFn.enc false) a0.p.Fns),vi a0.fn,.sl false 1 (List.map vs a0.there),vb a0.bad],.val (vi a1)] [] [[.sl false 4 (List.map (GNode.enc false) q0.p.Nodes),.sl false 5 (List.map (GFn.enc false) q0.p.Fns),vi q0.fn,.sl false 1 (List.map vs q0.there),vb q0.bad]]) (s1:Gl07Seen) (k2:Int) {q0:Gl07Seen} (h:bW rec_spec_l07Seen_value s1 k2=some q0):Ok E 42 [.ptr [.sl false 4 (List.map (GNode.enc false) s1.p.Nodes),.sl false 5 (List.map (GFn.enc false) s1.p.Fns),vi s1.fn,.sl false 1 (List.map vs s1.there),vb s1.bad],.val (vi k2)] [] [[.sl false 4 (List.map (GNode.enc false) q0.p.Nodes),.sl false 5 (List.map (GFn.enc false) q0.p.Fns),vi q0.fn,.sl false 1 (List.map vs q0.there),vb q0.bad]]:=by
 refine oB (fn:=Tryz.f42) Tryz.func42 rfl (by simp [Tryz.f42]) fun C hN hP=>?_
 have u:∀ l,pinK [] l=true→pinB C.pin l=true:=pO (by rw [hP];rfl)
 have y:C.N=98:=hN
 clear hN
 unfold bW at h
 refine SWp.sR rfl (u _ rfl) fun K q=>?_
 iterate 6 (refine wC rfl fun K q=>?_;simp [y];refine q _ ?_;clear q)
 obtain ⟨e3,he3,h⟩:=bS h
 obtain ⟨he3a,he3b,he3c,he3d⟩:=gS he3
 iterate 4 (refine wC rfl fun K q=>?_;simp [y,he3a,he3b,he3c,he3d];refine q _ ?_;clear q)
 refine wN (q _ ?_);clear q
 obtain ⟨v18,hj4,h⟩:=bS h
 refine SWp.seqC [0,4] [4,98] (fun _:Unit=>⟨[(0,.ref (.box 98) 0 []),(4,.ref (.box 4) 0 [])],[(4,[vi e3.Kind,vi e3.Num,vs e3.Name,.sl false 1 (List.map vi e3.Kids)]),(98,[.sl false 4 (List.map (GNode.enc false) v18.p.Nodes),.sl false 5 (List.map (GFn.enc false) v18.p.Fns),vi v18.fn,.sl false 1 (List.map vs v18.there),vb v18.bad])]⟩) (fun _=>True) (fun _ _=>?_) fun K5 hK5=>?_
 rotate_left
 ·refine SWp.sR rfl (u _ rfl) fun K q=>?_
  refine wC rfl fun K q=>?_;simp [y];refine q _ ?_;clear q
  refine wN (q _ ?_);clear q
  refine SWp.block ?_
  refine SWp.loopO [] [0,4,5] [4,98] (fun v:Int × Gl07Seen=>⟨[(0,.ref (.box 98) 0 []),(4,.ref (.box 4) 0 []),(5,.t (vi v.1))],[(4,[vi e3.Kind,vi e3.Num,vs e3.Name,.sl false 1 (List.map vi e3.Kids)]),(98,[.sl false 4 (List.map (GNode.enc false) v.2.p.Nodes),.sl false 5 (List.map (GFn.enc false) v.2.p.Fns),vi v.2.fn,.sl false 1 (List.map vs v.2.there),vb v.2.bad])]⟩) (aV rec_spec_l07Seen_value e3) _ (0,(⟨s1.p,s1.fn,s1.there,s1.bad⟩:Gl07Seen)) hj4 (by simp [y]) ?_
  intro g s11 h9 ho10
  obtain ⟨i7,v8⟩:=g
  simp only [aV] at h9
  try dsimp only
  refine SWp.seq ?_
  refine SWp.sR rfl (u _ rfl) fun K q=>?_
  iterate 5 (refine wC rfl fun K q=>?_;simp [y];refine q _ ?_;clear q)
  refine wN (q _ ?_);clear q
  rcases aA h9 with ⟨hb12,h9⟩ | ⟨hb13,h9⟩
  ·refine SWp.cT' (b:=decide (i7 < (e3.Kids.length:Int))) (by simp) hb12 ?_
   refine SWp.skip ?_
   show SWp E C _ _ _
   refine SWp.seq ?_
   refine SWp.block ?_
   refine SWp.reg rfl (u _ rfl) fun K q=>?_
   iterate 4 (refine wC rfl fun K q=>?_;simp [y];refine q _ ?_;clear q)
   obtain ⟨e14,he14,h9⟩:=bS h9
   obtain ⟨he14a,he14b,he14c,he14d⟩:=gS he14
   iterate 2 (refine wC rfl fun K q=>?_;simp [y,he14a,he14b,he14c,he14d];refine q _ ?_;clear q)
   obtain ⟨q15,hc16,h9⟩:=bS h9
   refine wL [((.ptr 5),.tmp 22),(.take,.tmp 27)] rfl rfl ent42 (hrec_spec_l07Seen_value _ _ hc16) fun K q=>?_;simp [y,he14a,he14b,he14c,he14d];refine q _ ?_;clear q
   refine wN (q _ ?_);clear q
   show SWp E C _ _ _
   refine SWp.reg rfl (u _ rfl) fun K q=>?_
   iterate 3 (refine wC rfl fun K q=>?_;simp [y];refine q _ ?_;clear q)
   refine wN (q _ ?_);clear q
   cases h9
   exact ⟨_,[],rfl,by simp [y]⟩
  ·refine SWp.cF' (b:=decide (i7 < (e3.Kids.length:Int))) (by simp) hb13 ?_
   refine SWp.exit ?_
   have h17:=congrArg some (ho10 _ (Option.some.inj h9).symm)
   cases h17
   exact hK5 _ () [] trivial (by simp [y])
 refine SWp.sR rfl (u _ rfl) fun K q=>?_
 iterate 2 (refine wC rfl fun K q=>?_;simp [y];refine q _ ?_;clear q)
 refine wN (q _ ?_);clear q
 refine SWp.block ?_
 obtain ⟨v30,hj19,h⟩:=bS h
 refine SWp.seqC [0,4,30,31] [4,98] (fun _:Unit=>⟨[(0,.ref (.box 98) 0 []),(4,.ref (.box 4) 0 []),(30,.t (vi e3.Kind)),(31,.t (vb v30))],[(4,[vi e3.Kind,vi e3.Num,vs e3.Name,.sl false 1 (List.map vi e3.Kids)]),(98,[.sl false 4 (List.map (GNode.enc false) v18.p.Nodes),.sl false 5 (List.map (GFn.enc false) v18.p.Fns),vi v18.fn,.sl false 1 (List.map vs v18.there),vb v18.bad])]⟩) (fun _=>True) (fun _ _=>?_) fun K20 hK20=>?_
 rotate_left
 ·refine SWp.sR rfl (u _ rfl) fun K q=>?_
  iterate 2 (refine wC rfl fun K q=>?_;simp [y];refine q _ ?_;clear q)
  refine wN (q _ ?_);clear q
  rcases aA hj19 with ⟨hb22,hj19⟩ | ⟨hb23,hj19⟩
  ·refine SWp.cT' (b:=e3.Kind == 2) (by simp) hb22 ?_
   refine SWp.skip ?_
   cases hj19
   exact hK20 _ () [] trivial (by simp [y])
  ·refine SWp.cF' (b:=e3.Kind == 2) (by simp) hb23 ?_
   refine SWp.sR rfl (u _ rfl) fun K q=>?_
   iterate 2 (refine wC rfl fun K q=>?_;simp [y];refine q _ ?_;clear q)
   refine wN (q _ ?_);clear q
   rcases aA hj19 with ⟨hb24,hj19⟩ | ⟨hb25,hj19⟩
   ·refine SWp.cT' (b:=e3.Kind == 3) (by simp) hb24 ?_
    refine SWp.skip ?_
    cases hj19
    exact hK20 _ () [] trivial (by simp [y])
   ·refine SWp.cF' (b:=e3.Kind == 3) (by simp) hb25 ?_
    refine SWp.sR rfl (u _ rfl) fun K q=>?_
    iterate 2 (refine wC rfl fun K q=>?_;simp [y];refine q _ ?_;clear q)
    refine wN (q _ ?_);clear q
    rcases aA hj19 with ⟨hb26,hj19⟩ | ⟨hb27,hj19⟩
    ·refine SWp.cT' (b:=e3.Kind == 4) (by simp) hb26 ?_
     refine SWp.skip ?_
     cases hj19
     exact hK20 _ () [] trivial (by simp [y])
    ·refine SWp.cF' (b:=e3.Kind == 4) (by simp) hb27 ?_
     refine SWp.sR rfl (u _ rfl) fun K q=>?_
     iterate 2 (refine wC rfl fun K q=>?_;simp [y];refine q _ ?_;clear q)
     refine wN (q _ ?_);clear q
     rcases aA hj19 with ⟨hb28,hj19⟩ | ⟨hb29,hj19⟩
     ·refine SWp.cT' (b:=e3.Kind == 5) (by simp) hb28 ?_
      refine SWp.skip ?_
      cases hj19
      exact hK20 _ () [] trivial (by simp [y])
     ·refine SWp.cF' (b:=e3.Kind == 5) (by simp) hb29 ?_
      refine SWp.reg rfl (u _ rfl) fun K q=>?_
      iterate 2 (refine wC rfl fun K q=>?_;simp [y];refine q _ ?_;clear q)
      refine wN (q _ ?_);clear q
      cases hj19
      exact hK20 _ () [] trivial (by simp [y])
 rcases aA h with ⟨hb31,h⟩ | ⟨hb32,h⟩
 ·refine SWp.cT' (b:=v30) (by simp) hb31 ?_
  rcases aA h with ⟨hb35,h⟩ | ⟨hb36,h⟩
  ·have hb35s:=hb35
   try simp at hb35s
   refine SWp.dT rfl (u _ rfl) [(37,.ref (.box 98) 0 []),(38,.ref (.box 98) 0 []),(39,.ref (.box 98) 0 []),(40,.ref (.box 98) 4 []),(41,.t (vb v18.bad)),(42,.t (vb v18.bad)),(43,.tup []),(44,.tup []),(45,.tup []),(46,.tup []),(47,.tup []),(48,.tup []),(49,.tup []),(50,.tup []),(51,.t (vb true))] [[],[],[1],[1,2],[1,2,3],[1,2,3,4],[1,2,3,4,5],[1,2,3,4,5,6],[1,2,3,4,5,6,7],[1,2,3,4,5,6,7,8],[1,2,3,4,5],[1,2,3,4,5,10],[1,2,3,4,5,6,7,8,9,10,11],[1,2,3,4,5,6,7,8,9,10,11,12],[1,2,3,4,5,6,7,8,9,10,11,12,13],[0,1,2,3,4,5,6,7,8,9,10,11,12,13,14],[0,1,2,3,4,5,6,7,8,9,10,11,12,13,14,15],[0,1,2,3,4,5,6,7,8,9,10,11,12,13,14,15,16]] (by simp) (by simp) (by simp [look]) rfl rfl rfl ?_ fun K q=>?_
   ·refine ⟨?_,?_,?_,?_,?_,?_,?_,?_,?_,?_,?_,?_,?_,?_,?_,trivial⟩
    all_goals (intro τ hbx hb hd hf K q;try simp [vsAt] at hd;simp [vsAt] at hf;first | (refine wC rfl fun K' q'=>?_;simp [y,hbx,hb,hd,hf,hb35,hb35s];exact q' _ (wN (q _ (by simp [vsAt,hbx,hb35,hb35s])))) | (refine wO fun K' q'=>?_;simp [y,hbx,hb,hd,hf,hb35,hb35s];exact q' _ (wN (q _ (by simp [vsAt,hbx,hb35,hb35s])))))
   iterate 3 (refine wC rfl fun K q=>?_;simp [y,hb35,hb35s];refine q _ ?_;clear q)
   refine wN (q _ ?_);clear q
   cases h
   simp [aC,iB,res42]
  ·have hb36s:=hb36
   try simp at hb36s
   obtain ⟨r37,hc38,h⟩:=bS h
   refine SWp.dT rfl (u _ rfl) [(37,.ref (.box 98) 0 []),(38,.ref (.box 98) 0 []),(39,.ref (.box 98) 0 []),(40,.ref (.box 98) 4 []),(41,.t (vb v18.bad)),(42,.t (vb v18.bad)),(43,.ref (.box 98) 0 []),(44,.ref (.box 98) 0 []),(45,.ref (.box 98) 3 []),(46,.t (.sl false 1 (List.map vs v18.there))),(47,.ref (.box 4) 2 []),(48,.t (vs e3.Name)),(49,.t (vb r37)),(50,.t (vb (!r37))),(51,.t (vb (!r37)))] [[],[],[1],[1,2],[1,2,3],[1,2,3,4],[1,2,3,4,5],[1,2,3,4,5,6],[1,2,3,4,5,6,7],[1,2,3,4,5,6,7,8],[1,2,3,4,5],[1,2,3,4,5,10],[1,2,3,4,5,6,7,8,9,10,11],[1,2,3,4,5,6,7,8,9,10,11,12],[1,2,3,4,5,6,7,8,9,10,11,12,13],[0,1,2,3,4,5,6,7,8,9,10,11,12,13,14],[0,1,2,3,4,5,6,7,8,9,10,11,12,13,14,15],[0,1,2,3,4,5,6,7,8,9,10,11,12,13,14,15,16]] (by simp) (by simp) (by simp [look]) rfl rfl rfl ?_ fun K q=>?_
   ·refine ⟨?_,?_,?_,?_,?_,?_,?_,?_,?_,?_,?_,?_,?_,?_,?_,trivial⟩
    all_goals (intro τ hbx hb hd hf K q;try simp [vsAt] at hd;simp [vsAt] at hf;first | (refine wC rfl fun K' q'=>?_;simp [y,hbx,hb,hd,hf,hb36,hb36s];exact q' _ (wN (q _ (by simp [vsAt,hbx,hb36,hb36s])))) | (refine wL [(.take,.tmp 46),(.take,.tmp 48)] rfl rfl ent76 (pB _ _ hc38) fun K' q'=>?_;simp [y,hbx,hb,hd,hf,hb36,hb36s];exact q' _ (wN (q _ (by simp [vsAt,hbx,hb36,hb36s])))))
   iterate 3 (refine wC rfl fun K q=>?_;simp [y,hb36,hb36s];refine q _ ?_;clear q)
   refine wN (q _ ?_);clear q
   cases h
   simp [aC,iB,res42]
 ·refine SWp.cF' (b:=v30) (by simp) hb32 ?_
  refine SWp.sR rfl (u _ rfl) fun K q=>?_
  iterate 2 (refine wC rfl fun K q=>?_;simp [y];refine q _ ?_;clear q)
  refine wN (q _ ?_);clear q
  rcases aA h with ⟨hb39,h⟩ | ⟨hb40,h⟩
  ·refine SWp.cT' (b:=e3.Kind == 12) (by simp) hb39 ?_
   refine SWp.seq ?_
   refine SWp.dT rfl (u _ rfl) [(56,.ref (.box 98) 0 []),(57,.ref (.box 98) 0 []),(58,.ref (.box 98) 0 []),(59,.t (GProgram.enc false v18.p)),(60,.ref (.box 4) 2 []),(61,.t (vs e3.Name))] [[],[0],[0,1],[0,1,2],[],[4],[0,1,2,3,4,5],[0,1,2,3,4,5,6]] (by simp) (by simp) (by simp [look]) rfl rfl rfl ?_ fun K q=>?_
   ·refine ⟨?_,?_,?_,?_,?_,?_,trivial⟩
    all_goals (intro τ hbx hb hd hf K q;try simp [vsAt] at hd;simp [vsAt] at hf;first | (refine wC rfl fun K' q'=>?_;simp [y,hbx,hb,hd,hf];exact q' _ (wN (q _ (by simp [vsAt,hbx])))))
   obtain ⟨r42,hc43,h⟩:=bS h
   refine wL [(.take,.tmp 59),(.take,.tmp 61)] rfl rfl ent44 (nK _ _ hc43) fun K q=>?_;simp [y];refine q _ ?_;clear q
   refine wC rfl fun K q=>?_;simp [y];refine q _ ?_;clear q
   refine wN (q _ ?_);clear q
   show SWp E C _ _ _
   rcases aA h with ⟨hb46,h⟩ | ⟨hb47,h⟩
   ·have hb46s:=hb46
    try simp at hb46s
    refine SWp.dT rfl (u _ rfl) [(63,.ref (.box 98) 0 []),(64,.ref (.box 98) 0 []),(65,.ref (.box 98) 0 []),(66,.ref (.box 98) 4 []),(67,.t (vb v18.bad)),(68,.t (vb v18.bad)),(69,.tup []),(70,.tup []),(71,.t (vb true)),(72,.t (vb true)),(73,.tup []),(74,.tup []),(75,.tup []),(76,.tup []),(77,.tup []),(78,.tup []),(79,.t (vb true)),(80,.t (vb true)),(81,.tup []),(82,.tup []),(83,.tup []),(84,.tup []),(85,.tup []),(86,.tup []),(87,.tup []),(88,.tup []),(89,.tup []),(90,.tup []),(91,.tup []),(92,.tup []),(93,.tup []),(94,.tup []),(95,.t (vb true))] [[],[],[1],[1,2],[1,2,3],[1,2,3,4],[1,2,3,4,5],[1,2,3,4,5,6],[1,2,3,4,5,6,7],[1,2,3,4,5,6,7,8],[1,2,3,4,5,6,7,8,9],[1,2,3,4,5,6,7,8,9],[1,2,3,4,5,6,7,8,9,11],[1,2,3,4,5,6,7,8,9,11,12],[1,2,3,4,5,6,7,8,9,11,12,13],[1,2,3,4,5,6,7,8,9,10,11,12,13,14],[1,2,3,4,5,6,7,8,9,10,11,12,13,14,15],[1,2,3,4,5,6,7,8,9,10,11,12,13,14,15,16],[1,2,3,4,5,6,7,8,9,10,11,12,13,14,15,16,17],[1,2,3,4,5,6,7,8,9,10,11,12,13,14,15,16,17,18],[1,2,3,4,5,6,7,8,9,10,11,12,13,14,15,16,17,18,19],[1,2,3,4,5,6,7,8,9,10,11,12,13,14,15,16,17,18,19,20],[1,2,3,4,5,6,7,8,9,10,11,12,13,14,15,16,17,18,19,20,21],[1,2,3,4,5,6,7,8,9,10,11,12,13,14,15,16,17],[1,2,3,4,5,6,7,8,9,10,11,12,13,14,15,16,17,18,19,20,21,22,23],[1,2,3,4,5,6,7,8,9,10,11,12,13,14,15,16,17,18,19,20,21,22,23,24],[1,2,3,4,5,6,7,8,9,10,11,12,13,14,15,16,17,18,19,20,21,22,23,24,25],[1,2,3,4,5,6,7,8,9,10,11,12,13,14,15,16,17,18,19,20,21,22,23,24,25,26],[1,2,3,4,5,6,7,8,9,10,11,12,13,14,15,16,17],[1,2,3,4,5,6,7,8,9,10,11,12,13,14,15,16,17,28],[1,2,3,4,5,6,7,8,9,10,11,12,13,14,15,16,17,28,29],[1,2,3,4,5,6,7,8,9,10,11,12,13,14,15,16,17,18,19,20,21,22,23,24,25,26,27,28,29,30],[1,2,3,4,5,6,7,8,9,10,11,12,13,14,15,16,17,18,19,20,21,22,23,24,25,26,27,28,29,30,31],[0,1,2,3,4,5,6,7,8,9,10,11,12,13,14,15,16,17,18,19,20,21,22,23,24,25,26,27,28,29,30,31,32],[0,1,2,3,4,5,6,7,8,9,10,11,12,13,14,15,16,17,18,19,20,21,22,23,24,25,26,27,28,29,30,31,32,33],[0,1,2,3,4,5,6,7,8,9,10,11,12,13,14,15,16,17,18,19,20,21,22,23,24,25,26,27,28,29,30,31,32,33,34]] (by simp) (by simp) (by simp [look]) rfl rfl rfl ?_ fun K q=>?_
    ·refine ⟨?_,?_,?_,?_,?_,?_,?_,?_,?_,?_,?_,?_,?_,?_,?_,?_,?_,?_,?_,?_,?_,?_,?_,?_,?_,?_,?_,?_,?_,?_,?_,?_,?_,trivial⟩
     all_goals (intro τ hbx hb hd hf K q;try simp [vsAt] at hd;simp [vsAt] at hf;first | (refine wC rfl fun K' q'=>?_;simp [y,hbx,hb,hd,hf,hb46,hb46s];exact q' _ (wN (q _ (by simp [vsAt,hbx,hb46,hb46s])))) | (refine wO fun K' q'=>?_;simp [y,hbx,hb,hd,hf,hb46,hb46s];exact q' _ (wN (q _ (by simp [vsAt,hbx,hb46,hb46s])))))
    iterate 3 (refine wC rfl fun K q=>?_;simp [y,hb46,hb46s];refine q _ ?_;clear q)
    refine wN (q _ ?_);clear q
    cases h
    simp [aC,iB,res42]
   ·have hb47s:=hb47
    try simp at hb47s
    rcases aA h with ⟨hb48,h⟩ | ⟨hb49,h⟩
    ·have hb48s:=hb48
     try simp at hb48s
     refine SWp.dT rfl (u _ rfl) [(63,.ref (.box 98) 0 []),(64,.ref (.box 98) 0 []),(65,.ref (.box 98) 0 []),(66,.ref (.box 98) 4 []),(67,.t (vb v18.bad)),(68,.t (vb v18.bad)),(69,.t (vi r42)),(70,.t (vb (decide (r42 < 0)))),(71,.t (vb (decide (r42 < 0)))),(72,.t (vb (decide (r42 < 0)))),(73,.tup []),(74,.tup []),(75,.tup []),(76,.tup []),(77,.tup []),(78,.tup []),(79,.t (vb true)),(80,.t (vb true)),(81,.tup []),(82,.tup []),(83,.tup []),(84,.tup []),(85,.tup []),(86,.tup []),(87,.tup []),(88,.tup []),(89,.tup []),(90,.tup []),(91,.tup []),(92,.tup []),(93,.tup []),(94,.tup []),(95,.t (vb true))] [[],[],[1],[1,2],[1,2,3],[1,2,3,4],[1,2,3,4,5],[1,2,3,4,5,6],[1,2,3,4,5,6,7],[1,2,3,4,5,6,7,8],[1,2,3,4,5,6,7,8,9],[1,2,3,4,5,6,7,8,9],[1,2,3,4,5,6,7,8,9,11],[1,2,3,4,5,6,7,8,9,11,12],[1,2,3,4,5,6,7,8,9,11,12,13],[1,2,3,4,5,6,7,8,9,10,11,12,13,14],[1,2,3,4,5,6,7,8,9,10,11,12,13,14,15],[1,2,3,4,5,6,7,8,9,10,11,12,13,14,15,16],[1,2,3,4,5,6,7,8,9,10,11,12,13,14,15,16,17],[1,2,3,4,5,6,7,8,9,10,11,12,13,14,15,16,17,18],[1,2,3,4,5,6,7,8,9,10,11,12,13,14,15,16,17,18,19],[1,2,3,4,5,6,7,8,9,10,11,12,13,14,15,16,17,18,19,20],[1,2,3,4,5,6,7,8,9,10,11,12,13,14,15,16,17,18,19,20,21],[1,2,3,4,5,6,7,8,9,10,11,12,13,14,15,16,17],[1,2,3,4,5,6,7,8,9,10,11,12,13,14,15,16,17,18,19,20,21,22,23],[1,2,3,4,5,6,7,8,9,10,11,12,13,14,15,16,17,18,19,20,21,22,23,24],[1,2,3,4,5,6,7,8,9,10,11,12,13,14,15,16,17,18,19,20,21,22,23,24,25],[1,2,3,4,5,6,7,8,9,10,11,12,13,14,15,16,17,18,19,20,21,22,23,24,25,26],[1,2,3,4,5,6,7,8,9,10,11,12,13,14,15,16,17],[1,2,3,4,5,6,7,8,9,10,11,12,13,14,15,16,17,28],[1,2,3,4,5,6,7,8,9,10,11,12,13,14,15,16,17,28,29],[1,2,3,4,5,6,7,8,9,10,11,12,13,14,15,16,17,18,19,20,21,22,23,24,25,26,27,28,29,30],[1,2,3,4,5,6,7,8,9,10,11,12,13,14,15,16,17,18,19,20,21,22,23,24,25,26,27,28,29,30,31],[0,1,2,3,4,5,6,7,8,9,10,11,12,13,14,15,16,17,18,19,20,21,22,23,24,25,26,27,28,29,30,31,32],[0,1,2,3,4,5,6,7,8,9,10,11,12,13,14,15,16,17,18,19,20,21,22,23,24,25,26,27,28,29,30,31,32,33],[0,1,2,3,4,5,6,7,8,9,10,11,12,13,14,15,16,17,18,19,20,21,22,23,24,25,26,27,28,29,30,31,32,33,34]] (by simp) (by simp) (by simp [look]) rfl rfl rfl ?_ fun K q=>?_
     ·refine ⟨?_,?_,?_,?_,?_,?_,?_,?_,?_,?_,?_,?_,?_,?_,?_,?_,?_,?_,?_,?_,?_,?_,?_,?_,?_,?_,?_,?_,?_,?_,?_,?_,?_,trivial⟩
      all_goals (intro τ hbx hb hd hf K q;try simp [vsAt] at hd;simp [vsAt] at hf;first | (refine wC rfl fun K' q'=>?_;simp [y,hbx,hb,hd,hf,hb47,hb47s,hb48,hb48s];exact q' _ (wN (q _ (by simp [vsAt,hbx,hb47,hb47s,hb48,hb48s])))) | (refine wO fun K' q'=>?_;simp [y,hbx,hb,hd,hf,hb47,hb47s,hb48,hb48s];exact q' _ (wN (q _ (by simp [vsAt,hbx,hb47,hb47s,hb48,hb48s])))))
     iterate 3 (refine wC rfl fun K q=>?_;simp [y,hb47,hb47s,hb48,hb48s];refine q _ ?_;clear q)
     refine wN (q _ ?_);clear q
     cases h
     simp [aC,iB,res42]
    ·have hb49s:=hb49
     try simp at hb49s
     rcases aA h with ⟨hb50,h⟩ | ⟨hb51,h⟩
     ·have hb50s:=hb50
      try simp at hb50s
      refine SWp.dT rfl (u _ rfl) [(63,.ref (.box 98) 0 []),(64,.ref (.box 98) 0 []),(65,.ref (.box 98) 0 []),(66,.ref (.box 98) 4 []),(67,.t (vb v18.bad)),(68,.t (vb v18.bad)),(69,.t (vi r42)),(70,.t (vb (decide (r42 < 0)))),(71,.t (vb (decide (r42 < 0)))),(72,.t (vb (decide (r42 < 0)))),(73,.t (vi r42)),(74,.ref (.box 98) 0 []),(75,.ref (.box 98) 0 []),(76,.ref (.box 98) 2 []),(77,.t (vi v18.fn)),(78,.t (vb (decide (r42 ≥ v18.fn)))),(79,.t (vb (decide (r42 ≥ v18.fn)))),(80,.t (vb (decide (r42 ≥ v18.fn)))),(81,.tup []),(82,.tup []),(83,.tup []),(84,.tup []),(85,.tup []),(86,.tup []),(87,.tup []),(88,.tup []),(89,.tup []),(90,.tup []),(91,.tup []),(92,.tup []),(93,.tup []),(94,.tup []),(95,.t (vb true))] [[],[],[1],[1,2],[1,2,3],[1,2,3,4],[1,2,3,4,5],[1,2,3,4,5,6],[1,2,3,4,5,6,7],[1,2,3,4,5,6,7,8],[1,2,3,4,5,6,7,8,9],[1,2,3,4,5,6,7,8,9],[1,2,3,4,5,6,7,8,9,11],[1,2,3,4,5,6,7,8,9,11,12],[1,2,3,4,5,6,7,8,9,11,12,13],[1,2,3,4,5,6,7,8,9,10,11,12,13,14],[1,2,3,4,5,6,7,8,9,10,11,12,13,14,15],[1,2,3,4,5,6,7,8,9,10,11,12,13,14,15,16],[1,2,3,4,5,6,7,8,9,10,11,12,13,14,15,16,17],[1,2,3,4,5,6,7,8,9,10,11,12,13,14,15,16,17,18],[1,2,3,4,5,6,7,8,9,10,11,12,13,14,15,16,17,18,19],[1,2,3,4,5,6,7,8,9,10,11,12,13,14,15,16,17,18,19,20],[1,2,3,4,5,6,7,8,9,10,11,12,13,14,15,16,17,18,19,20,21],[1,2,3,4,5,6,7,8,9,10,11,12,13,14,15,16,17],[1,2,3,4,5,6,7,8,9,10,11,12,13,14,15,16,17,18,19,20,21,22,23],[1,2,3,4,5,6,7,8,9,10,11,12,13,14,15,16,17,18,19,20,21,22,23,24],[1,2,3,4,5,6,7,8,9,10,11,12,13,14,15,16,17,18,19,20,21,22,23,24,25],[1,2,3,4,5,6,7,8,9,10,11,12,13,14,15,16,17,18,19,20,21,22,23,24,25,26],[1,2,3,4,5,6,7,8,9,10,11,12,13,14,15,16,17],[1,2,3,4,5,6,7,8,9,10,11,12,13,14,15,16,17,28],[1,2,3,4,5,6,7,8,9,10,11,12,13,14,15,16,17,28,29],[1,2,3,4,5,6,7,8,9,10,11,12,13,14,15,16,17,18,19,20,21,22,23,24,25,26,27,28,29,30],[1,2,3,4,5,6,7,8,9,10,11,12,13,14,15,16,17,18,19,20,21,22,23,24,25,26,27,28,29,30,31],[0,1,2,3,4,5,6,7,8,9,10,11,12,13,14,15,16,17,18,19,20,21,22,23,24,25,26,27,28,29,30,31,32],[0,1,2,3,4,5,6,7,8,9,10,11,12,13,14,15,16,17,18,19,20,21,22,23,24,25,26,27,28,29,30,31,32,33],[0,1,2,3,4,5,6,7,8,9,10,11,12,13,14,15,16,17,18,19,20,21,22,23,24,25,26,27,28,29,30,31,32,33,34]] (by simp) (by simp) (by simp [look]) rfl rfl rfl ?_ fun K q=>?_
      ·refine ⟨?_,?_,?_,?_,?_,?_,?_,?_,?_,?_,?_,?_,?_,?_,?_,?_,?_,?_,?_,?_,?_,?_,?_,?_,?_,?_,?_,?_,?_,?_,?_,?_,?_,trivial⟩
       all_goals (intro τ hbx hb hd hf K q;try simp [vsAt] at hd;simp [vsAt] at hf;first | (refine wC rfl fun K' q'=>?_;simp [y,hbx,hb,hd,hf,hb47,hb47s,hb49,hb49s,hb50,hb50s];exact q' _ (wN (q _ (by simp [vsAt,hbx,hb47,hb47s,hb49,hb49s,hb50,hb50s])))) | (refine wO fun K' q'=>?_;simp [y,hbx,hb,hd,hf,hb47,hb47s,hb49,hb49s,hb50,hb50s];exact q' _ (wN (q _ (by simp [vsAt,hbx,hb47,hb47s,hb49,hb49s,hb50,hb50s])))))
      iterate 3 (refine wC rfl fun K q=>?_;simp [y,hb47,hb47s,hb49,hb49s,hb50,hb50s];refine q _ ?_;clear q)
      refine wN (q _ ?_);clear q
      cases h
      simp [aC,iB,res42]
     ·have hb51s:=hb51
      try simp at hb51s
      obtain ⟨e52,he52,h⟩:=bS h
      obtain ⟨he52a,he52b,he52c,he52d⟩:=gS he52
      refine SWp.dT rfl (u _ rfl) [(63,.ref (.box 98) 0 []),(64,.ref (.box 98) 0 []),(65,.ref (.box 98) 0 []),(66,.ref (.box 98) 4 []),(67,.t (vb v18.bad)),(68,.t (vb v18.bad)),(69,.t (vi r42)),(70,.t (vb (decide (r42 < 0)))),(71,.t (vb (decide (r42 < 0)))),(72,.t (vb (decide (r42 < 0)))),(73,.t (vi r42)),(74,.ref (.box 98) 0 []),(75,.ref (.box 98) 0 []),(76,.ref (.box 98) 2 []),(77,.t (vi v18.fn)),(78,.t (vb (decide (r42 ≥ v18.fn)))),(79,.t (vb (decide (r42 ≥ v18.fn)))),(80,.t (vb (decide (r42 ≥ v18.fn)))),(81,.ref (.box 98) 0 []),(82,.ref (.box 98) 0 []),(83,.ref (.box 98) 0 []),(84,.ref (.box 98) 1 []),(85,.t (.sl false 5 (List.map (GFn.enc false) v18.p.Fns))),(86,.t (vi r42)),(87,.rop [vs e52.Name,.sl false 2 (List.map GParam.enc e52.Params),vi e52.Res,vi e52.Body,vi e52.Ret] 0),(88,.rop [vs e52.Name,.sl false 2 (List.map GParam.enc e52.Params),vi e52.Res,vi e52.Body,vi e52.Ret] 1),(89,.t (.sl false 2 (List.map GParam.enc e52.Params))),(90,.t (vi (e52.Params.length:Int))),(91,.ref (.box 4) 3 []),(92,.t (.sl false 1 (List.map vi e3.Kids))),(93,.t (vi (e3.Kids.length:Int))),(94,.t (vb ((e52.Params.length:Int) != (e3.Kids.length:Int)))),(95,.t (vb ((e52.Params.length:Int) != (e3.Kids.length:Int))))] [[],[],[1],[1,2],[1,2,3],[1,2,3,4],[1,2,3,4,5],[1,2,3,4,5,6],[1,2,3,4,5,6,7],[1,2,3,4,5,6,7,8],[1,2,3,4,5,6,7,8,9],[1,2,3,4,5,6,7,8,9],[1,2,3,4,5,6,7,8,9,11],[1,2,3,4,5,6,7,8,9,11,12],[1,2,3,4,5,6,7,8,9,11,12,13],[1,2,3,4,5,6,7,8,9,10,11,12,13,14],[1,2,3,4,5,6,7,8,9,10,11,12,13,14,15],[1,2,3,4,5,6,7,8,9,10,11,12,13,14,15,16],[1,2,3,4,5,6,7,8,9,10,11,12,13,14,15,16,17],[1,2,3,4,5,6,7,8,9,10,11,12,13,14,15,16,17,18],[1,2,3,4,5,6,7,8,9,10,11,12,13,14,15,16,17,18,19],[1,2,3,4,5,6,7,8,9,10,11,12,13,14,15,16,17,18,19,20],[1,2,3,4,5,6,7,8,9,10,11,12,13,14,15,16,17,18,19,20,21],[1,2,3,4,5,6,7,8,9,10,11,12,13,14,15,16,17],[1,2,3,4,5,6,7,8,9,10,11,12,13,14,15,16,17,18,19,20,21,22,23],[1,2,3,4,5,6,7,8,9,10,11,12,13,14,15,16,17,18,19,20,21,22,23,24],[1,2,3,4,5,6,7,8,9,10,11,12,13,14,15,16,17,18,19,20,21,22,23,24,25],[1,2,3,4,5,6,7,8,9,10,11,12,13,14,15,16,17,18,19,20,21,22,23,24,25,26],[1,2,3,4,5,6,7,8,9,10,11,12,13,14,15,16,17],[1,2,3,4,5,6,7,8,9,10,11,12,13,14,15,16,17,28],[1,2,3,4,5,6,7,8,9,10,11,12,13,14,15,16,17,28,29],[1,2,3,4,5,6,7,8,9,10,11,12,13,14,15,16,17,18,19,20,21,22,23,24,25,26,27,28,29,30],[1,2,3,4,5,6,7,8,9,10,11,12,13,14,15,16,17,18,19,20,21,22,23,24,25,26,27,28,29,30,31],[0,1,2,3,4,5,6,7,8,9,10,11,12,13,14,15,16,17,18,19,20,21,22,23,24,25,26,27,28,29,30,31,32],[0,1,2,3,4,5,6,7,8,9,10,11,12,13,14,15,16,17,18,19,20,21,22,23,24,25,26,27,28,29,30,31,32,33],[0,1,2,3,4,5,6,7,8,9,10,11,12,13,14,15,16,17,18,19,20,21,22,23,24,25,26,27,28,29,30,31,32,33,34]] (by simp) (by simp) (by simp [look]) rfl rfl rfl ?_ fun K q=>?_
      ·refine ⟨?_,?_,?_,?_,?_,?_,?_,?_,?_,?_,?_,?_,?_,?_,?_,?_,?_,?_,?_,?_,?_,?_,?_,?_,?_,?_,?_,?_,?_,?_,?_,?_,?_,trivial⟩
       all_goals (intro τ hbx hb hd hf K q;try simp [vsAt] at hd;simp [vsAt] at hf;first | (refine wC rfl fun K' q'=>?_;simp [y,hbx,hb,hd,hf,hb47,hb47s,hb49,hb49s,hb51,hb51s,he52a,he52b,he52c,he52d];exact q' _ (wN (q _ (by simp [vsAt,hbx,hb47,hb47s,hb49,hb49s,hb51,hb51s,he52a,he52b,he52c,he52d])))))
      iterate 3 (refine wC rfl fun K q=>?_;simp [y,hb47,hb47s,hb49,hb49s,hb51,hb51s,he52a,he52b,he52c,he52d];refine q _ ?_;clear q)
      refine wN (q _ ?_);clear q
      cases h
      simp [aC,iB,res42]
  ·refine SWp.cF' (b:=e3.Kind == 12) (by simp) hb40 ?_
   refine SWp.skip ?_
   cases h
   simp [aC,iB,res42]
theorem fP:∀ n:Nat,(∀ (a0:Gl07Seen) (a1:Int) {q0:Gl07Seen},(aP n) a0 a1=some q0→Ok E 42 [.ptr [.sl false 4 (List.map (GNode.enc false) a0.p.Nodes),.sl false 5 (List.map (GFn.enc false) a0.p.Fns),vi a0.fn,.sl false 1 (List.map vs a0.there),vb a0.bad],.val (vi a1)] [] [[.sl false 4 (List.map (GNode.enc false) q0.p.Nodes),.sl false 5 (List.map (GFn.enc false) q0.p.Fns),vi q0.fn,.sl false 1 (List.map vs q0.there),vb q0.bad]])
 | 0=>(by intros;rename_i h;cases h)
 | n + 1=>mD (aP n) (fP n)
theorem iF:∀ (a0:Gl07Seen) (a1:Int) {q0:Gl07Seen},cQ a0 a1=some q0→Ok E 42 [.ptr [.sl false 4 (List.map (GNode.enc false) a0.p.Nodes),.sl false 5 (List.map (GFn.enc false) a0.p.Fns),vi a0.fn,.sl false 1 (List.map vs a0.there),vb a0.bad],.val (vi a1)] [] [[.sl false 4 (List.map (GNode.enc false) q0.p.Nodes),.sl false 5 (List.map (GFn.enc false) q0.p.Fns),vi q0.fn,.sl false 1 (List.map vs q0.there),vb q0.bad]]:=(fP dG)
theorem res41:Tryz.f41.results.toList=[]:=rfl
theorem ent41:aF E.P 41:=eO Tryz.func41 (by simp [Tryz.f41]) rfl
theorem res75:Tryz.f75.results.toList=[]:=rfl
theorem ent75:aF E.P 75:=eO Tryz.func75 (by simp [Tryz.f75]) rfl
theorem mE (rec_spec_l07Seen_block:Gl07Seen→Int→Option (Gl07Seen)) (hrec_spec_l07Seen_block:∀ (a0:Gl07Seen) (a1:Int) {q0:Gl07Seen},rec_spec_l07Seen_block a0 a1=some q0→Ok E 41 [.ptr [.sl false 4 (List.map (GNode.enc false) a0.p.Nodes),.sl false 5 (List.map (GFn.enc false) a0.p.Fns),vi a0.fn,.sl false 1 (List.map vs a0.there),vb a0.bad],.val (vi a1)] [] [[.sl false 4 (List.map (GNode.enc false) q0.p.Nodes),.sl false 5 (List.map (GFn.enc false) q0.p.Fns),vi q0.fn,.sl false 1 (List.map vs q0.there),vb q0.bad]]) (rec_spec_l07Seen_step:Gl07Seen→Int→Option (Gl07Seen)) (hrec_spec_l07Seen_step:∀ (a0:Gl07Seen) (a1:Int) {q0:Gl07Seen},rec_spec_l07Seen_step a0 a1=some q0→Ok E 75 [.ptr [.sl false 4 (List.map (GNode.enc false) a0.p.Nodes),.sl false 5 (List.map (GFn.enc false) a0.p.Fns),vi a0.fn,.sl false 1 (List.map vs a0.there),vb a0.bad],.val (vi a1)] [] [[.sl false 4 (List.map (GNode.enc false) q0.p.Nodes),.sl false 5 (List.map (GFn.enc false) q0.p.Fns),vi q0.fn,.sl false 1 (List.map vs q0.there),vb q0.bad]]) (s1:Gl07Seen) (k2:Int) {q0:Gl07Seen} (h:bX rec_spec_l07Seen_block rec_spec_l07Seen_step s1 k2=some q0):Ok E 41 [.ptr [.sl false 4 (List.map (GNode.enc false) s1.p.Nodes),.sl false 5 (List.map (GFn.enc false) s1.p.Fns),vi s1.fn,.sl false 1 (List.map vs s1.there),vb s1.bad],.val (vi k2)] [] [[.sl false 4 (List.map (GNode.enc false) q0.p.Nodes),.sl false 5 (List.map (GFn.enc false) q0.p.Fns),vi q0.fn,.sl false 1 (List.map vs q0.there),vb q0.bad]]:=by
 refine oB (fn:=Tryz.f41) Tryz.func41 rfl (by simp [Tryz.f41]) fun C hN hP=>?_
 have u:∀ l,pinK [] l=true→pinB C.pin l=true:=pO (by rw [hP];rfl)
 have y:C.N=33:=hN
 clear hN
 unfold bX at h
 refine SWp.sR rfl (u _ rfl) fun K q=>?_
 refine wC rfl fun K q=>?_;simp [y];refine q _ ?_;clear q
 refine wN (q _ ?_);clear q
 refine SWp.block ?_
 refine SWp.loopO [] [0,1,4] [33] (fun v:Int × Gl07Seen=>⟨[(0,.ref (.box 33) 0 []),(1,.t (vi k2)),(4,.t (vi v.1))],[(33,[.sl false 4 (List.map (GNode.enc false) v.2.p.Nodes),.sl false 5 (List.map (GFn.enc false) v.2.p.Fns),vi v.2.fn,.sl false 1 (List.map vs v.2.there),vb v.2.bad])]⟩) (aZ rec_spec_l07Seen_step k2) _ (0,(⟨s1.p,s1.fn,s1.there,s1.bad⟩:Gl07Seen)) h (by simp [y]) ?_
 intro g s7 h5 ho6
 obtain ⟨i3,v4⟩:=g
 simp only [aZ] at h5
 try dsimp only
 refine SWp.seq ?_
 refine SWp.sR rfl (u _ rfl) fun K q=>?_
 iterate 7 (refine wC rfl fun K q=>?_;simp [y];refine q _ ?_;clear q)
 obtain ⟨e8,he8,h5⟩:=bS h5
 obtain ⟨he8a,he8b,he8c,he8d⟩:=gS he8
 iterate 5 (refine wC rfl fun K q=>?_;simp [y,he8a,he8b,he8c,he8d];refine q _ ?_;clear q)
 refine wN (q _ ?_);clear q
 rcases aA h5 with ⟨hb9,h5⟩ | ⟨hb10,h5⟩
 ·refine SWp.cT' (b:=decide (i3 < (e8.Kids.length:Int))) (by simp) hb9 ?_
  refine SWp.skip ?_
  show SWp E C _ _ _
  refine SWp.seq ?_
  refine SWp.block ?_
  refine SWp.reg rfl (u _ rfl) fun K q=>?_
  iterate 7 (refine wC rfl fun K q=>?_;simp [y];refine q _ ?_;clear q)
  obtain ⟨e11,he11,h5⟩:=bS h5
  obtain ⟨he11a,he11b,he11c,he11d⟩:=gS he11
  iterate 4 (refine wC rfl fun K q=>?_;simp [y,he11a,he11b,he11c,he11d];refine q _ ?_;clear q)
  obtain ⟨e12,he12,h5⟩:=bS h5
  obtain ⟨he12a,he12b,he12c,he12d⟩:=gS he12
  iterate 2 (refine wC rfl fun K q=>?_;simp [y,he11a,he11b,he11c,he11d,he12a,he12b,he12c,he12d];refine q _ ?_;clear q)
  obtain ⟨q13,hc14,h5⟩:=bS h5
  refine wL [((.ptr 5),.tmp 19),(.take,.tmp 31)] rfl rfl ent75 (hrec_spec_l07Seen_step _ _ hc14) fun K q=>?_;simp [y,he11a,he11b,he11c,he11d,he12a,he12b,he12c,he12d];refine q _ ?_;clear q
  refine wN (q _ ?_);clear q
  show SWp E C _ _ _
  refine SWp.reg rfl (u _ rfl) fun K q=>?_
  iterate 3 (refine wC rfl fun K q=>?_;simp [y];refine q _ ?_;clear q)
  refine wN (q _ ?_);clear q
  cases h5
  exact ⟨_,[],rfl,by simp [y]⟩
 ·refine SWp.cF' (b:=decide (i3 < (e8.Kids.length:Int))) (by simp) hb10 ?_
  refine SWp.exit ?_
  have h15:=congrArg some (ho6 _ (Option.some.inj h5).symm)
  cases h15
  simp [aC,iB,res41]
theorem mY (rec_spec_l07Seen_block:Gl07Seen→Int→Option (Gl07Seen)) (hrec_spec_l07Seen_block:∀ (a0:Gl07Seen) (a1:Int) {q0:Gl07Seen},rec_spec_l07Seen_block a0 a1=some q0→Ok E 41 [.ptr [.sl false 4 (List.map (GNode.enc false) a0.p.Nodes),.sl false 5 (List.map (GFn.enc false) a0.p.Fns),vi a0.fn,.sl false 1 (List.map vs a0.there),vb a0.bad],.val (vi a1)] [] [[.sl false 4 (List.map (GNode.enc false) q0.p.Nodes),.sl false 5 (List.map (GFn.enc false) q0.p.Fns),vi q0.fn,.sl false 1 (List.map vs q0.there),vb q0.bad]]) (rec_spec_l07Seen_step:Gl07Seen→Int→Option (Gl07Seen)) (hrec_spec_l07Seen_step:∀ (a0:Gl07Seen) (a1:Int) {q0:Gl07Seen},rec_spec_l07Seen_step a0 a1=some q0→Ok E 75 [.ptr [.sl false 4 (List.map (GNode.enc false) a0.p.Nodes),.sl false 5 (List.map (GFn.enc false) a0.p.Fns),vi a0.fn,.sl false 1 (List.map vs a0.there),vb a0.bad],.val (vi a1)] [] [[.sl false 4 (List.map (GNode.enc false) q0.p.Nodes),.sl false 5 (List.map (GFn.enc false) q0.p.Fns),vi q0.fn,.sl false 1 (List.map vs q0.there),vb q0.bad]]) (s1:Gl07Seen) (k2:Int) {q0:Gl07Seen} (h:cI rec_spec_l07Seen_block rec_spec_l07Seen_step s1 k2=some q0):Ok E 75 [.ptr [.sl false 4 (List.map (GNode.enc false) s1.p.Nodes),.sl false 5 (List.map (GFn.enc false) s1.p.Fns),vi s1.fn,.sl false 1 (List.map vs s1.there),vb s1.bad],.val (vi k2)] [] [[.sl false 4 (List.map (GNode.enc false) q0.p.Nodes),.sl false 5 (List.map (GFn.enc false) q0.p.Fns),vi q0.fn,.sl false 1 (List.map vs q0.there),vb q0.bad]]:=by
 refine oB (fn:=Tryz.f75) Tryz.func75 rfl (by simp [Tryz.f75]) fun C hN hP=>?_
 have u:∀ l,pinK [] l=true→pinB C.pin l=true:=pO (by rw [hP];rfl)
 have y:C.N=83:=hN
 clear hN
 unfold cI at h
 refine SWp.sR rfl (u _ rfl) fun K q=>?_
 iterate 6 (refine wC rfl fun K q=>?_;simp [y];refine q _ ?_;clear q)
 obtain ⟨e3,he3,h⟩:=bS h
 obtain ⟨he3a,he3b,he3c,he3d⟩:=gS he3
 iterate 4 (refine wC rfl fun K q=>?_;simp [y,he3a,he3b,he3c,he3d];refine q _ ?_;clear q)
 refine wN (q _ ?_);clear q
 refine SWp.sR rfl (u _ rfl) fun K q=>?_
 iterate 3 (refine wC rfl fun K q=>?_;simp [y];refine q _ ?_;clear q)
 obtain ⟨e4,he4,h⟩:=bS h
 obtain ⟨he4a,he4b,he4c,he4d⟩:=gS he4
 have he4e:0 < e3.Kids.length:=by omega
 have he4g:e3.Kids[0]? = some e4:=he4c
 have he4i:e3.Kids[0]=e4:=he4d he4e
 iterate 2 (refine wC rfl fun K q=>?_;simp [y,he4a,he4b,he4c,he4d,he4e,he4g,he4i];refine q _ ?_;clear q)
 obtain ⟨q5,hc6,h⟩:=bS h
 refine wL [((.ptr 5),.tmp 15),(.take,.tmp 19)] rfl rfl ent42 (iF _ _ hc6) fun K q=>?_;simp [y,he4a,he4b,he4c,he4d,he4e,he4g,he4i];refine q _ ?_;clear q
 refine wN (q _ ?_);clear q
 refine SWp.sR rfl (u _ rfl) fun K q=>?_
 iterate 2 (refine wC rfl fun K q=>?_;simp [y];refine q _ ?_;clear q)
 refine wN (q _ ?_);clear q
 refine SWp.block ?_
 refine SWp.sR rfl (u _ rfl) fun K q=>?_
 iterate 2 (refine wC rfl fun K q=>?_;simp [y];refine q _ ?_;clear q)
 refine wN (q _ ?_);clear q
 rcases aA h with ⟨hb7,h⟩ | ⟨hb8,h⟩
 ·refine SWp.cT' (b:=e3.Kind == 13) (by simp) hb7 ?_
  refine SWp.postB 83 3 ?_
  obtain ⟨l9,hl9,h⟩:=bS h
  obtain ⟨hl9a,hl9b,hl9d⟩:=aS hl9
  simp [eSl] at hl9a hl9b
  obtain ⟨l10,hl10,h⟩:=bS h
  obtain ⟨hl10a,hl10b,hl10d⟩:=aS hl10
  have hl10f:List.map vs q5.there ++ List.map vs [e3.Name]=List.map vs l10:=dV (f:=vs) hl10d
  simp [eSl] at hl10a hl10b hl10f
  refine SWp.drawX2 rfl (u _ rfl) [25,26,27,28,29,30,31,32,33,34,35] [[(25,.ref (.box 83) 0 [])],[(26,.t (.sl true 1 []))],[(27,.ref (.box 83) 0 [])],[(28,.ref (.box 83) 0 [])],[(29,.ref (.box 83) 3 [])],[(30,.t (.sl false 1 (List.map vs q5.there)))],[(31,.t (.sl true 1 (List.map vs q5.there))),(26,.u)],[(32,.ref (.box 4) 2 [])],[(33,.t (vs e3.Name))],[(34,.t (.sl true 1 (List.map vs [e3.Name])))],[(35,.t (.sl true 1 (List.map vs l10))),(31,.u),(34,.u)]] [[],[],[],[],[],[],[],[],[],[],[]] [[],[],[],[2],[2,3],[2,3,4],[1,2,3,4,5],[],[7],[7,8],[1,2,3,4,5,6,7,8,9],[0,1,2,3,4,5,6,7,8,9,10],[0,1,2,3,4,5,6,7,8,9,10,11],[0,1,2,3,4,5,6,7,8,9,10,11,12]] rfl (by simp) rfl rfl rfl ?_ fun K q=>?_
  ·refine ⟨?_,?_,?_,?_,?_,?_,?_,?_,?_,?_,?_,trivial⟩
   ·intro D d0 g1 g2 gc
    have p3_2:D 3=true→D 2=true:=fun h=>gc 3 2 h (by simp) (by simp)
    have p4_3:D 4=true→D 3=true:=fun h=>gc 4 3 h (by simp) (by simp)
    have p5_4:D 5=true→D 4=true:=fun h=>gc 5 4 h (by simp) (by simp)
    have p6_1:D 6=true→D 1=true:=fun h=>gc 6 1 h (by simp) (by simp)
    have p6_5:D 6=true→D 5=true:=fun h=>gc 6 5 h (by simp) (by simp)
    have p8_7:D 8=true→D 7=true:=fun h=>gc 8 7 h (by simp) (by simp)
    have p9_8:D 9=true→D 8=true:=fun h=>gc 9 8 h (by simp) (by simp)
    have p10_6:D 10=true→D 6=true:=fun h=>gc 10 6 h (by simp) (by simp)
    have p10_9:D 10=true→D 9=true:=fun h=>gc 10 9 h (by simp) (by simp)
    cases d1:D 1<;>cases d2:D 2<;>cases d3:D 3<;>(simp [d3,d2] at p3_2)<;>cases d4:D 4<;>(simp [d4,d3] at p4_3)<;>cases d5:D 5<;>(simp [d5,d4] at p5_4)<;>cases d6:D 6<;>(simp [d6,d1] at p6_1)<;>(simp [d6,d5] at p6_5)<;>cases d7:D 7<;>cases d8:D 8<;>(simp [d8,d7] at p8_7)<;>cases d9:D 9<;>(simp [d9,d8] at p9_8)<;>cases d10:D 10<;>(simp [d10,d6] at p10_6)<;>(simp [d10,d9] at p10_9)<;>(intro K q;simp [famD,putL,upd1,famX,putX,d0,d1,d2,d3,d4,d5,d6,d7,d8,d9,d10] at q ⊢;refine wC rfl fun K' q'=>?_;simp [y,hl9a,hl9b,hl10a,hl10b,hl10f];refine q' _ (wN ?_);first | exact q | simpa [hl9a,hl9b,hl10a,hl10b,hl10f] using q)
   ·intro D d1 g1 g2 gc
    have d6:D 6=false:=g2 6 (by simp) (by simp)
    have d10:D 10=false:=g2 10 (by simp) (by simp)
    have p3_2:D 3=true→D 2=true:=fun h=>gc 3 2 h (by simp) (by simp)
    have p4_3:D 4=true→D 3=true:=fun h=>gc 4 3 h (by simp) (by simp)
    have p5_4:D 5=true→D 4=true:=fun h=>gc 5 4 h (by simp) (by simp)
    have p8_7:D 8=true→D 7=true:=fun h=>gc 8 7 h (by simp) (by simp)
    have p9_8:D 9=true→D 8=true:=fun h=>gc 9 8 h (by simp) (by simp)
    cases d0:D 0<;>cases d2:D 2<;>cases d3:D 3<;>(simp [d3,d2] at p3_2)<;>cases d4:D 4<;>(simp [d4,d3] at p4_3)<;>cases d5:D 5<;>(simp [d5,d4] at p5_4)<;>cases d7:D 7<;>cases d8:D 8<;>(simp [d8,d7] at p8_7)<;>cases d9:D 9<;>(simp [d9,d8] at p9_8)<;>(intro K q;simp [famD,putL,upd1,famX,putX,d0,d1,d2,d3,d4,d5,d6,d7,d8,d9,d10] at q ⊢;refine wC rfl fun K' q'=>?_;simp [y,hl9a,hl9b,hl10a,hl10b,hl10f];refine q' _ (wN ?_);first | exact q | simpa [hl9a,hl9b,hl10a,hl10b,hl10f] using q)
   ·intro D d2 g1 g2 gc
    have d3:D 3=false:=g2 3 (by simp) (by simp)
    have d4:D 4=false:=g2 4 (by simp) (by simp)
    have d5:D 5=false:=g2 5 (by simp) (by simp)
    have d6:D 6=false:=g2 6 (by simp) (by simp)
    have d10:D 10=false:=g2 10 (by simp) (by simp)
    have p8_7:D 8=true→D 7=true:=fun h=>gc 8 7 h (by simp) (by simp)
    have p9_8:D 9=true→D 8=true:=fun h=>gc 9 8 h (by simp) (by simp)
    cases d0:D 0<;>cases d1:D 1<;>cases d7:D 7<;>cases d8:D 8<;>(simp [d8,d7] at p8_7)<;>cases d9:D 9<;>(simp [d9,d8] at p9_8)<;>(intro K q;simp [famD,putL,upd1,famX,putX,d0,d1,d2,d3,d4,d5,d6,d7,d8,d9,d10] at q ⊢;refine wC rfl fun K' q'=>?_;simp [y,hl9a,hl9b,hl10a,hl10b,hl10f];refine q' _ (wN ?_);first | exact q | simpa [hl9a,hl9b,hl10a,hl10b,hl10f] using q)
   ·intro D d3 g1 g2 gc
    have d2:D 2=true:=g1 2 (by simp)
    have d4:D 4=false:=g2 4 (by simp) (by simp)
    have d5:D 5=false:=g2 5 (by simp) (by simp)
    have d6:D 6=false:=g2 6 (by simp) (by simp)
    have d10:D 10=false:=g2 10 (by simp) (by simp)
    have p8_7:D 8=true→D 7=true:=fun h=>gc 8 7 h (by simp) (by simp)
    have p9_8:D 9=true→D 8=true:=fun h=>gc 9 8 h (by simp) (by simp)
    cases d0:D 0<;>cases d1:D 1<;>cases d7:D 7<;>cases d8:D 8<;>(simp [d8,d7] at p8_7)<;>cases d9:D 9<;>(simp [d9,d8] at p9_8)<;>(intro K q;simp [famD,putL,upd1,famX,putX,d0,d1,d2,d3,d4,d5,d6,d7,d8,d9,d10] at q ⊢;refine wC rfl fun K' q'=>?_;simp [y,hl9a,hl9b,hl10a,hl10b,hl10f];refine q' _ (wN ?_);first | exact q | simpa [hl9a,hl9b,hl10a,hl10b,hl10f] using q)
   ·intro D d4 g1 g2 gc
    have d2:D 2=true:=g1 2 (by simp)
    have d3:D 3=true:=g1 3 (by simp)
    have d5:D 5=false:=g2 5 (by simp) (by simp)
    have d6:D 6=false:=g2 6 (by simp) (by simp)
    have d10:D 10=false:=g2 10 (by simp) (by simp)
    have p8_7:D 8=true→D 7=true:=fun h=>gc 8 7 h (by simp) (by simp)
    have p9_8:D 9=true→D 8=true:=fun h=>gc 9 8 h (by simp) (by simp)
    cases d0:D 0<;>cases d1:D 1<;>cases d7:D 7<;>cases d8:D 8<;>(simp [d8,d7] at p8_7)<;>cases d9:D 9<;>(simp [d9,d8] at p9_8)<;>(intro K q;simp [famD,putL,upd1,famX,putX,d0,d1,d2,d3,d4,d5,d6,d7,d8,d9,d10] at q ⊢;refine wC rfl fun K' q'=>?_;simp [y,hl9a,hl9b,hl10a,hl10b,hl10f];refine q' _ (wN ?_);first | exact q | simpa [hl9a,hl9b,hl10a,hl10b,hl10f] using q)
   ·intro D d5 g1 g2 gc
    have d2:D 2=true:=g1 2 (by simp)
    have d3:D 3=true:=g1 3 (by simp)
    have d4:D 4=true:=g1 4 (by simp)
    have d6:D 6=false:=g2 6 (by simp) (by simp)
    have d10:D 10=false:=g2 10 (by simp) (by simp)
    have p8_7:D 8=true→D 7=true:=fun h=>gc 8 7 h (by simp) (by simp)
    have p9_8:D 9=true→D 8=true:=fun h=>gc 9 8 h (by simp) (by simp)
    cases d0:D 0<;>cases d1:D 1<;>cases d7:D 7<;>cases d8:D 8<;>(simp [d8,d7] at p8_7)<;>cases d9:D 9<;>(simp [d9,d8] at p9_8)<;>(intro K q;simp [famD,putL,upd1,famX,putX,d0,d1,d2,d3,d4,d5,d6,d7,d8,d9,d10] at q ⊢;refine wC rfl fun K' q'=>?_;simp [y,hl9a,hl9b,hl10a,hl10b,hl10f];refine q' _ (wN ?_);first | exact q | simpa [hl9a,hl9b,hl10a,hl10b,hl10f] using q)
   ·intro D d6 g1 g2 gc
    have d1:D 1=true:=g1 1 (by simp)
    have d2:D 2=true:=g1 2 (by simp)
    have d3:D 3=true:=g1 3 (by simp)
    have d4:D 4=true:=g1 4 (by simp)
    have d5:D 5=true:=g1 5 (by simp)
    have d10:D 10=false:=g2 10 (by simp) (by simp)
    have p8_7:D 8=true→D 7=true:=fun h=>gc 8 7 h (by simp) (by simp)
    have p9_8:D 9=true→D 8=true:=fun h=>gc 9 8 h (by simp) (by simp)
    cases d0:D 0<;>cases d7:D 7<;>cases d8:D 8<;>(simp [d8,d7] at p8_7)<;>cases d9:D 9<;>(simp [d9,d8] at p9_8)<;>(intro K q;simp [famD,putL,upd1,famX,putX,d0,d1,d2,d3,d4,d5,d6,d7,d8,d9,d10] at q ⊢;refine wC rfl fun K' q'=>?_;simp [y,hl9a,hl9b,hl10a,hl10b,hl10f];refine q' _ (wN ?_);first | exact q | simpa [hl9a,hl9b,hl10a,hl10b,hl10f] using q)
   ·intro D d7 g1 g2 gc
    have d8:D 8=false:=g2 8 (by simp) (by simp)
    have d9:D 9=false:=g2 9 (by simp) (by simp)
    have d10:D 10=false:=g2 10 (by simp) (by simp)
    have p3_2:D 3=true→D 2=true:=fun h=>gc 3 2 h (by simp) (by simp)
    have p4_3:D 4=true→D 3=true:=fun h=>gc 4 3 h (by simp) (by simp)
    have p5_4:D 5=true→D 4=true:=fun h=>gc 5 4 h (by simp) (by simp)
    have p6_1:D 6=true→D 1=true:=fun h=>gc 6 1 h (by simp) (by simp)
    have p6_5:D 6=true→D 5=true:=fun h=>gc 6 5 h (by simp) (by simp)
    cases d0:D 0<;>cases d1:D 1<;>cases d2:D 2<;>cases d3:D 3<;>(simp [d3,d2] at p3_2)<;>cases d4:D 4<;>(simp [d4,d3] at p4_3)<;>cases d5:D 5<;>(simp [d5,d4] at p5_4)<;>cases d6:D 6<;>(simp [d6,d1] at p6_1)<;>(simp [d6,d5] at p6_5)<;>(intro K q;simp [famD,putL,upd1,famX,putX,d0,d1,d2,d3,d4,d5,d6,d7,d8,d9,d10] at q ⊢;refine wC rfl fun K' q'=>?_;simp [y,hl9a,hl9b,hl10a,hl10b,hl10f];refine q' _ (wN ?_);first | exact q | simpa [hl9a,hl9b,hl10a,hl10b,hl10f] using q)
   ·intro D d8 g1 g2 gc
    have d7:D 7=true:=g1 7 (by simp)
    have d9:D 9=false:=g2 9 (by simp) (by simp)
    have d10:D 10=false:=g2 10 (by simp) (by simp)
    have p3_2:D 3=true→D 2=true:=fun h=>gc 3 2 h (by simp) (by simp)
    have p4_3:D 4=true→D 3=true:=fun h=>gc 4 3 h (by simp) (by simp)
    have p5_4:D 5=true→D 4=true:=fun h=>gc 5 4 h (by simp) (by simp)
    have p6_1:D 6=true→D 1=true:=fun h=>gc 6 1 h (by simp) (by simp)
    have p6_5:D 6=true→D 5=true:=fun h=>gc 6 5 h (by simp) (by simp)
    cases d0:D 0<;>cases d1:D 1<;>cases d2:D 2<;>cases d3:D 3<;>(simp [d3,d2] at p3_2)<;>cases d4:D 4<;>(simp [d4,d3] at p4_3)<;>cases d5:D 5<;>(simp [d5,d4] at p5_4)<;>cases d6:D 6<;>(simp [d6,d1] at p6_1)<;>(simp [d6,d5] at p6_5)<;>(intro K q;simp [famD,putL,upd1,famX,putX,d0,d1,d2,d3,d4,d5,d6,d7,d8,d9,d10] at q ⊢;refine wC rfl fun K' q'=>?_;simp [y,hl9a,hl9b,hl10a,hl10b,hl10f];refine q' _ (wN ?_);first | exact q | simpa [hl9a,hl9b,hl10a,hl10b,hl10f] using q)
   ·intro D d9 g1 g2 gc
    have d7:D 7=true:=g1 7 (by simp)
    have d8:D 8=true:=g1 8 (by simp)
    have d10:D 10=false:=g2 10 (by simp) (by simp)
    have p3_2:D 3=true→D 2=true:=fun h=>gc 3 2 h (by simp) (by simp)
    have p4_3:D 4=true→D 3=true:=fun h=>gc 4 3 h (by simp) (by simp)
    have p5_4:D 5=true→D 4=true:=fun h=>gc 5 4 h (by simp) (by simp)
    have p6_1:D 6=true→D 1=true:=fun h=>gc 6 1 h (by simp) (by simp)
    have p6_5:D 6=true→D 5=true:=fun h=>gc 6 5 h (by simp) (by simp)
    cases d0:D 0<;>cases d1:D 1<;>cases d2:D 2<;>cases d3:D 3<;>(simp [d3,d2] at p3_2)<;>cases d4:D 4<;>(simp [d4,d3] at p4_3)<;>cases d5:D 5<;>(simp [d5,d4] at p5_4)<;>cases d6:D 6<;>(simp [d6,d1] at p6_1)<;>(simp [d6,d5] at p6_5)<;>(intro K q;simp [famD,putL,upd1,famX,putX,d0,d1,d2,d3,d4,d5,d6,d7,d8,d9,d10] at q ⊢;refine wC rfl fun K' q'=>?_;simp [y,hl9a,hl9b,hl10a,hl10b,hl10f];refine q' _ (wN ?_);first | exact q | simpa [hl9a,hl9b,hl10a,hl10b,hl10f] using q)
   ·intro D d10 g1 g2 gc
    have d1:D 1=true:=g1 1 (by simp)
    have d2:D 2=true:=g1 2 (by simp)
    have d3:D 3=true:=g1 3 (by simp)
    have d4:D 4=true:=g1 4 (by simp)
    have d5:D 5=true:=g1 5 (by simp)
    have d6:D 6=true:=g1 6 (by simp)
    have d7:D 7=true:=g1 7 (by simp)
    have d8:D 8=true:=g1 8 (by simp)
    have d9:D 9=true:=g1 9 (by simp)
    cases d0:D 0<;>(intro K q;simp [famD,putL,upd1,famX,putX,d0,d1,d2,d3,d4,d5,d6,d7,d8,d9,d10] at q ⊢;refine wC rfl fun K' q'=>?_;simp [y,hl9a,hl9b,hl10a,hl10b,hl10f];refine q' _ (wN ?_);first | exact q | simpa [hl9a,hl9b,hl10a,hl10b,hl10f] using q)
  simp [famD,putL,famX,putX]
  iterate 3 (refine wC rfl fun K q=>?_;simp [y,hl9a,hl9b,hl10a,hl10b,hl10f];refine q _ ?_;clear q)
  refine wN (q _ ?_);clear q
  intro K2 hK2;simp [y];refine hK2 _ ?_;clear hK2
  cases h
  simp [aC,iB,res75]
 ·refine SWp.cF' (b:=e3.Kind == 13) (by simp) hb8 ?_
  obtain ⟨v16,hj11,h⟩:=bS h
  refine SWp.seqC [0,4,22,38] [4,83] (fun _:Unit=>⟨[(0,.ref (.box 83) 0 []),(4,.ref (.box 4) 0 []),(22,.t (vi e3.Kind)),(38,.t (vb v16))],[(4,[vi e3.Kind,vi e3.Num,vs e3.Name,.sl false 1 (List.map vi e3.Kids)]),(83,[.sl false 4 (List.map (GNode.enc false) q5.p.Nodes),.sl false 5 (List.map (GFn.enc false) q5.p.Fns),vi q5.fn,.sl false 1 (List.map vs q5.there),vb q5.bad])]⟩) (fun _=>True) (fun _ _=>?_) fun K12 hK12=>?_
  rotate_left
  ·refine SWp.sR rfl (u _ rfl) fun K q=>?_
   iterate 2 (refine wC rfl fun K q=>?_;simp [y];refine q _ ?_;clear q)
   refine wN (q _ ?_);clear q
   rcases aA hj11 with ⟨hb14,hj11⟩ | ⟨hb15,hj11⟩
   ·refine SWp.cT' (b:=e3.Kind == 14) (by simp) hb14 ?_
    refine SWp.skip ?_
    cases hj11
    exact hK12 _ () [] trivial (by simp [y])
   ·refine SWp.cF' (b:=e3.Kind == 14) (by simp) hb15 ?_
    refine SWp.reg rfl (u _ rfl) fun K q=>?_
    iterate 2 (refine wC rfl fun K q=>?_;simp [y];refine q _ ?_;clear q)
    refine wN (q _ ?_);clear q
    cases hj11
    exact hK12 _ () [] trivial (by simp [y])
  rcases aA h with ⟨hb17,h⟩ | ⟨hb18,h⟩
  ·refine SWp.cT' (b:=v16) (by simp) hb17 ?_
   rcases aA h with ⟨hb21,h⟩ | ⟨hb22,h⟩
   ·have hb21s:=hb21
    try simp at hb21s
    refine SWp.dT rfl (u _ rfl) [(41,.ref (.box 83) 0 []),(42,.ref (.box 83) 0 []),(43,.ref (.box 83) 0 []),(44,.ref (.box 83) 4 []),(45,.t (vb q5.bad)),(46,.t (vb q5.bad)),(47,.tup []),(48,.tup []),(49,.tup []),(50,.tup []),(51,.tup []),(52,.tup []),(53,.tup []),(54,.tup []),(55,.t (vb true))] [[],[],[1],[1,2],[1,2,3],[1,2,3,4],[1,2,3,4,5],[1,2,3,4,5,6],[1,2,3,4,5,6,7],[1,2,3,4,5,6,7,8],[1,2,3,4,5],[1,2,3,4,5,10],[1,2,3,4,5,6,7,8,9,10,11],[1,2,3,4,5,6,7,8,9,10,11,12],[1,2,3,4,5,6,7,8,9,10,11,12,13],[0,1,2,3,4,5,6,7,8,9,10,11,12,13,14],[0,1,2,3,4,5,6,7,8,9,10,11,12,13,14,15],[0,1,2,3,4,5,6,7,8,9,10,11,12,13,14,15,16]] (by simp) (by simp) (by simp [look]) rfl rfl rfl ?_ fun K q=>?_
    ·refine ⟨?_,?_,?_,?_,?_,?_,?_,?_,?_,?_,?_,?_,?_,?_,?_,trivial⟩
     all_goals (intro τ hbx hb hd hf K q;try simp [vsAt] at hd;simp [vsAt] at hf;first | (refine wC rfl fun K' q'=>?_;simp [y,hbx,hb,hd,hf,hb21,hb21s];exact q' _ (wN (q _ (by simp [vsAt,hbx,hb21,hb21s])))) | (refine wO fun K' q'=>?_;simp [y,hbx,hb,hd,hf,hb21,hb21s];exact q' _ (wN (q _ (by simp [vsAt,hbx,hb21,hb21s])))))
    iterate 3 (refine wC rfl fun K q=>?_;simp [y,hb21,hb21s];refine q _ ?_;clear q)
    refine wN (q _ ?_);clear q
    cases h
    simp [aC,iB,res75]
   ·have hb22s:=hb22
    try simp at hb22s
    obtain ⟨r23,hc24,h⟩:=bS h
    refine SWp.dT rfl (u _ rfl) [(41,.ref (.box 83) 0 []),(42,.ref (.box 83) 0 []),(43,.ref (.box 83) 0 []),(44,.ref (.box 83) 4 []),(45,.t (vb q5.bad)),(46,.t (vb q5.bad)),(47,.ref (.box 83) 0 []),(48,.ref (.box 83) 0 []),(49,.ref (.box 83) 3 []),(50,.t (.sl false 1 (List.map vs q5.there))),(51,.ref (.box 4) 2 []),(52,.t (vs e3.Name)),(53,.t (vb r23)),(54,.t (vb (!r23))),(55,.t (vb (!r23)))] [[],[],[1],[1,2],[1,2,3],[1,2,3,4],[1,2,3,4,5],[1,2,3,4,5,6],[1,2,3,4,5,6,7],[1,2,3,4,5,6,7,8],[1,2,3,4,5],[1,2,3,4,5,10],[1,2,3,4,5,6,7,8,9,10,11],[1,2,3,4,5,6,7,8,9,10,11,12],[1,2,3,4,5,6,7,8,9,10,11,12,13],[0,1,2,3,4,5,6,7,8,9,10,11,12,13,14],[0,1,2,3,4,5,6,7,8,9,10,11,12,13,14,15],[0,1,2,3,4,5,6,7,8,9,10,11,12,13,14,15,16]] (by simp) (by simp) (by simp [look]) rfl rfl rfl ?_ fun K q=>?_
    ·refine ⟨?_,?_,?_,?_,?_,?_,?_,?_,?_,?_,?_,?_,?_,?_,?_,trivial⟩
     all_goals (intro τ hbx hb hd hf K q;try simp [vsAt] at hd;simp [vsAt] at hf;first | (refine wC rfl fun K' q'=>?_;simp [y,hbx,hb,hd,hf,hb22,hb22s];exact q' _ (wN (q _ (by simp [vsAt,hbx,hb22,hb22s])))) | (refine wL [(.take,.tmp 50),(.take,.tmp 52)] rfl rfl ent76 (pB _ _ hc24) fun K' q'=>?_;simp [y,hbx,hb,hd,hf,hb22,hb22s];exact q' _ (wN (q _ (by simp [vsAt,hbx,hb22,hb22s])))))
    iterate 3 (refine wC rfl fun K q=>?_;simp [y,hb22,hb22s];refine q _ ?_;clear q)
    refine wN (q _ ?_);clear q
    cases h
    simp [aC,iB,res75]
  ·refine SWp.cF' (b:=v16) (by simp) hb18 ?_
   obtain ⟨v30,hj25,h⟩:=bS h
   refine SWp.seqC [0,4,58] [4,83] (fun _:Unit=>⟨[(0,.ref (.box 83) 0 []),(4,.ref (.box 4) 0 []),(58,.t (vb v30))],[(4,[vi e3.Kind,vi e3.Num,vs e3.Name,.sl false 1 (List.map vi e3.Kids)]),(83,[.sl false 4 (List.map (GNode.enc false) q5.p.Nodes),.sl false 5 (List.map (GFn.enc false) q5.p.Fns),vi q5.fn,.sl false 1 (List.map vs q5.there),vb q5.bad])]⟩) (fun _=>True) (fun _ _=>?_) fun K26 hK26=>?_
   rotate_left
   ·refine SWp.sR rfl (u _ rfl) fun K q=>?_
    iterate 2 (refine wC rfl fun K q=>?_;simp [y];refine q _ ?_;clear q)
    refine wN (q _ ?_);clear q
    rcases aA hj25 with ⟨hb28,hj25⟩ | ⟨hb29,hj25⟩
    ·refine SWp.cT' (b:=e3.Kind == 16) (by simp) hb28 ?_
     refine SWp.skip ?_
     cases hj25
     exact hK26 _ () [] trivial (by simp [y])
    ·refine SWp.cF' (b:=e3.Kind == 16) (by simp) hb29 ?_
     refine SWp.reg rfl (u _ rfl) fun K q=>?_
     iterate 2 (refine wC rfl fun K q=>?_;simp [y];refine q _ ?_;clear q)
     refine wN (q _ ?_);clear q
     cases hj25
     exact hK26 _ () [] trivial (by simp [y])
   rcases aA h with ⟨hb31,h⟩ | ⟨hb32,h⟩
   ·refine SWp.cT' (b:=v30) (by simp) hb31 ?_
    refine SWp.sR rfl (u _ rfl) fun K q=>?_
    refine wC rfl fun K q=>?_;simp [y];refine q _ ?_;clear q
    refine wN (q _ ?_);clear q
    refine SWp.block ?_
    refine SWp.loopO [] [0,4,5] [4,83] (fun v:Int × Gl07Seen=>⟨[(0,.ref (.box 83) 0 []),(4,.ref (.box 4) 0 []),(5,.t (vi v.1))],[(4,[vi e3.Kind,vi e3.Num,vs e3.Name,.sl false 1 (List.map vi e3.Kids)]),(83,[.sl false 4 (List.map (GNode.enc false) v.2.p.Nodes),.sl false 5 (List.map (GFn.enc false) v.2.p.Fns),vi v.2.fn,.sl false 1 (List.map vs v.2.there),vb v.2.bad])]⟩) (bH rec_spec_l07Seen_block e3) _ (1,(⟨q5.p,q5.fn,q5.there,q5.bad⟩:Gl07Seen)) h (by simp [y]) ?_
    intro g s37 h35 ho36
    obtain ⟨i33,v34⟩:=g
    simp only [bH] at h35
    try dsimp only
    refine SWp.seq ?_
    refine SWp.sR rfl (u _ rfl) fun K q=>?_
    iterate 5 (refine wC rfl fun K q=>?_;simp [y];refine q _ ?_;clear q)
    refine wN (q _ ?_);clear q
    rcases aA h35 with ⟨hb38,h35⟩ | ⟨hb39,h35⟩
    ·refine SWp.cT' (b:=decide (i33 < (e3.Kids.length:Int))) (by simp) hb38 ?_
     refine SWp.skip ?_
     show SWp E C _ _ _
     refine SWp.seq ?_
     refine SWp.block ?_
     refine SWp.sR rfl (u _ rfl) fun K q=>?_
     iterate 5 (refine wC rfl fun K q=>?_;simp [y];refine q _ ?_;clear q)
     refine wN (q _ ?_);clear q
     refine SWp.sR rfl (u _ rfl) fun K q=>?_
     iterate 4 (refine wC rfl fun K q=>?_;simp [y];refine q _ ?_;clear q)
     obtain ⟨e40,he40,h35⟩:=bS h35
     obtain ⟨he40a,he40b,he40c,he40d⟩:=gS he40
     iterate 2 (refine wC rfl fun K q=>?_;simp [y,he40a,he40b,he40c,he40d];refine q _ ?_;clear q)
     obtain ⟨q41,hc42,h35⟩:=bS h35
     refine wL [((.ptr 5),.tmp 72),(.take,.tmp 77)] rfl rfl ent41 (hrec_spec_l07Seen_block _ _ hc42) fun K q=>?_;simp [y,he40a,he40b,he40c,he40d];refine q _ ?_;clear q
     refine wN (q _ ?_);clear q
     refine SWp.reg rfl (u _ rfl) fun K q=>?_
     iterate 5 (refine wC rfl fun K q=>?_;simp [y];refine q _ ?_;clear q)
     refine wN (q _ ?_);clear q
     show SWp E C _ _ _
     refine SWp.reg rfl (u _ rfl) fun K q=>?_
     iterate 3 (refine wC rfl fun K q=>?_;simp [y];refine q _ ?_;clear q)
     refine wN (q _ ?_);clear q
     cases h35
     exact ⟨_,[],rfl,by simp [y]⟩
    ·refine SWp.cF' (b:=decide (i33 < (e3.Kids.length:Int))) (by simp) hb39 ?_
     refine SWp.exit ?_
     have h43:=congrArg some (ho36 _ (Option.some.inj h35).symm)
     cases h43
     simp [aC,iB,res75]
   ·refine SWp.cF' (b:=v30) (by simp) hb32 ?_
    refine SWp.skip ?_
    cases h
    simp [aC,iB,res75]
theorem aX:∀ n:Nat,(∀ (a0:Gl07Seen) (a1:Int) {q0:Gl07Seen},(aD n).1 a0 a1=some q0→Ok E 41 [.ptr [.sl false 4 (List.map (GNode.enc false) a0.p.Nodes),.sl false 5 (List.map (GFn.enc false) a0.p.Fns),vi a0.fn,.sl false 1 (List.map vs a0.there),vb a0.bad],.val (vi a1)] [] [[.sl false 4 (List.map (GNode.enc false) q0.p.Nodes),.sl false 5 (List.map (GFn.enc false) q0.p.Fns),vi q0.fn,.sl false 1 (List.map vs q0.there),vb q0.bad]])∧(∀ (a0:Gl07Seen) (a1:Int) {q0:Gl07Seen},(aD n).2 a0 a1=some q0→Ok E 75 [.ptr [.sl false 4 (List.map (GNode.enc false) a0.p.Nodes),.sl false 5 (List.map (GFn.enc false) a0.p.Fns),vi a0.fn,.sl false 1 (List.map vs a0.there),vb a0.bad],.val (vi a1)] [] [[.sl false 4 (List.map (GNode.enc false) q0.p.Nodes),.sl false 5 (List.map (GFn.enc false) q0.p.Fns),vi q0.fn,.sl false 1 (List.map vs q0.there),vb q0.bad]])
 | 0=>⟨(by intros;rename_i h;cases h),(by intros;rename_i h;cases h)⟩
 | n + 1=>⟨mE ((aD n).1) ((aX n).1) ((aD n).2) ((aX n).2),mY ((aD n).1) ((aX n).1) ((aD n).2) ((aX n).2)⟩
theorem nI:∀ (a0:Gl07Seen) (a1:Int) {q0:Gl07Seen},gK a0 a1=some q0→Ok E 41 [.ptr [.sl false 4 (List.map (GNode.enc false) a0.p.Nodes),.sl false 5 (List.map (GFn.enc false) a0.p.Fns),vi a0.fn,.sl false 1 (List.map vs a0.there),vb a0.bad],.val (vi a1)] [] [[.sl false 4 (List.map (GNode.enc false) q0.p.Nodes),.sl false 5 (List.map (GFn.enc false) q0.p.Fns),vi q0.fn,.sl false 1 (List.map vs q0.there),vb q0.bad]]:=(aX dG).1
theorem res16:Tryz.f16.results.toList=[.tmp 2]:=rfl
theorem ent16:aF E.P 16:=eO Tryz.func16 (by simp [Tryz.f16]) rfl
theorem qA (p1:GProgram) {r0:Bool} (h:eU p1=some r0):Ok E 16 [.val (GProgram.enc false p1)] [vb r0] []:=by
 refine oB (fn:=Tryz.f16) Tryz.func16 rfl (by simp [Tryz.f16]) fun C hN hP=>?_
 have hPB:∀ l,pinK [] l=true→pinB C.pin l=true:=pO (by rw [hP];rfl)
 have hN':C.N=97:=hN
 clear hN
 unfold eU at h
 refine SWp.sR rfl (hPB _ rfl) fun K hK=>?_
 iterate 2 (refine wC rfl fun K hK=>?_;simp [hN'];refine hK _ ?_;clear hK)
 refine wN (hK _ ?_);clear hK
 refine SWp.seq ?_
 refine SWp.sR rfl (hPB _ rfl) fun K hK=>?_
 refine wC rfl fun K hK=>?_;simp [hN'];refine hK _ ?_;clear hK
 obtain ⟨r2,hc3,h⟩:=bS h
 refine wL [(.take,.tmp 8)] rfl rfl ent24 (spec_ProgramOk_ok _ hc3) fun K hK=>?_;simp [hN'];refine hK _ ?_;clear hK
 refine wC rfl fun K hK=>?_;simp [hN'];refine hK _ ?_;clear hK
 refine wN (hK _ ?_);clear hK
 rcases aA h with ⟨hb4,h⟩ | ⟨hb5,h⟩
 ·refine SWp.cT' (b:=!r2) (by simp) hb4 ?_
  refine SWp.sR rfl (hPB _ rfl) fun K hK=>?_
  refine wC rfl fun K hK=>?_;simp [hN'];refine hK _ ?_;clear hK
  refine wN (hK _ ?_);clear hK
  cases h
  refine SWp.ret ?_
  simp [aC,iB,res16]
 ·refine SWp.cF' (b:=!r2) (by simp) hb5 ?_
  refine SWp.skip ?_
  show SWp E C _ _ _
  obtain ⟨j8,hj6,h⟩:=bS h
  refine SWp.seqC [] [] (fun v:Unit=>⟨[],[]⟩) (fun v=>j8=Sum.inl v) (fun v hv=>?_) fun K7 hK7=>?_
  rotate_left
  ·refine SWp.sR rfl (hPB _ rfl) fun K hK=>?_
   refine wC rfl fun K hK=>?_;simp [hN'];refine hK _ ?_;clear hK
   refine wN (hK _ ?_);clear hK
   refine SWp.block ?_
   refine SWp.loopO [] [1,3] [1] (fun v:Int=>⟨[(1,.ref (.box 1) 0 []),(3,.t (vi v))],[(1,[.sl false 4 (List.map (GNode.enc false) p1.Nodes),.sl false 5 (List.map (GFn.enc false) p1.Fns)])]⟩) (bN p1) _ 0 hj6 (by simp [hN']) ?_
   intro g s12 h10 ho11
   obtain ⟨i9,hg⟩:∃ y,y=g:=⟨_,rfl⟩
   subst hg
   simp only [bN] at h10
   try dsimp only
   refine SWp.seq ?_
   refine SWp.sR rfl (hPB _ rfl) fun K hK=>?_
   iterate 5 (refine wC rfl fun K hK=>?_;simp [hN'];refine hK _ ?_;clear hK)
   refine wN (hK _ ?_);clear hK
   rcases aA h10 with ⟨hb13,h10⟩ | ⟨hb14,h10⟩
   ·refine SWp.cT' (b:=decide (i9 < (p1.Fns.length:Int))) (by simp) hb13 ?_
    refine SWp.skip ?_
    show SWp E C _ _ _
    obtain ⟨j17,hj15,h10⟩:=bS h10
    refine SWp.seqC [1,3] [1] (fun v:Unit=>⟨[(1,.ref (.box 1) 0 []),(3,.t (vi i9))],[(1,[.sl false 4 (List.map (GNode.enc false) p1.Nodes),.sl false 5 (List.map (GFn.enc false) p1.Fns)])]⟩) (fun v=>j17=Sum.inl v) (fun v hv=>?_) fun K16 hK16=>?_
    rotate_left
    ·refine SWp.block ?_
     refine SWp.sR rfl (hPB _ rfl) fun K hK=>?_
     iterate 2 (refine wC rfl fun K hK=>?_;simp [hN'];refine hK _ ?_;clear hK)
     obtain ⟨r18,hc19,hj15⟩:=bS hj15
     refine wL [(.take,.tmp 18),(.take,.tmp 19)] rfl rfl ent39 (spec_VarsOf_ok _ _ hc19) fun K hK=>?_;simp [hN'];refine hK _ ?_;clear hK
     refine wC rfl fun K hK=>?_;simp [hN'];refine hK _ ?_;clear hK
     refine wN (hK _ ?_);clear hK
     obtain ⟨j22,hj20,hj15⟩:=bS hj15
     refine SWp.seqC [1,3] [1] (fun v:Unit=>⟨[(1,.ref (.box 1) 0 []),(3,.t (vi i9))],[(1,[.sl false 4 (List.map (GNode.enc false) p1.Nodes),.sl false 5 (List.map (GFn.enc false) p1.Fns)])]⟩) (fun v=>j22=Sum.inl v) (fun v hv=>?_) fun K21 hK21=>?_
     rotate_left
     ·refine SWp.sR rfl (hPB _ rfl) fun K hK=>?_
      refine wC rfl fun K hK=>?_;simp [hN'];refine hK _ ?_;clear hK
      refine wN (hK _ ?_);clear hK
      refine SWp.block ?_
      refine SWp.loopO [] [1,3,4,5] [1] (fun v:Int=>⟨[(1,.ref (.box 1) 0 []),(3,.t (vi i9)),(4,.t (.sl true 3 (List.map GVar.enc r18))),(5,.t (vi v))],[(1,[.sl false 4 (List.map (GNode.enc false) p1.Nodes),.sl false 5 (List.map (GFn.enc false) p1.Fns)])]⟩) (bD r18) _ 0 hj20 (by simp [hN']) ?_
      intro g s26 h24 ho25
      obtain ⟨k23,hg⟩:∃ y,y=g:=⟨_,rfl⟩
      subst hg
      simp only [bD] at h24
      try dsimp only
      refine SWp.seq ?_
      refine SWp.sR rfl (hPB _ rfl) fun K hK=>?_
      iterate 4 (refine wC rfl fun K hK=>?_;simp [hN'];refine hK _ ?_;clear hK)
      refine wN (hK _ ?_);clear hK
      rcases aA h24 with ⟨hb27,h24⟩ | ⟨hb28,h24⟩
      ·refine SWp.cT' (b:=decide (k23 < (r18.length:Int))) (by simp) hb27 ?_
       refine SWp.skip ?_
       show SWp E C _ _ _
       refine SWp.seq ?_
       refine SWp.block ?_
       refine SWp.sR rfl (hPB _ rfl) fun K hK=>?_
       iterate 3 (refine wC rfl fun K hK=>?_;simp [hN'];refine hK _ ?_;clear hK)
       obtain ⟨e29,he29,h24⟩:=bS h24
       obtain ⟨he29a,he29b,he29c,he29d⟩:=gS he29
       iterate 3 (refine wC rfl fun K hK=>?_;simp [hN',he29a,he29b,he29c,he29d];refine hK _ ?_;clear hK)
       obtain ⟨r30,hc31,h24⟩:=bS h24
       refine wL [(.bor,.tmp 27),(.take,.tmp 32)] rfl rfl ent40 (spec_VarAt_ok _ _ hc31) fun K hK=>?_;simp [hN',he29a,he29b,he29c,he29d];refine hK _ ?_;clear hK
       iterate 2 (refine wC rfl fun K hK=>?_;simp [hN',he29a,he29b,he29c,he29d];refine hK _ ?_;clear hK)
       refine wN (hK _ ?_);clear hK
       rcases aA h24 with ⟨hb32,h24⟩ | ⟨hb33,h24⟩
       ·refine SWp.cT' (b:=r30 != k23) (by simp) hb32 ?_
        refine SWp.sR rfl (hPB _ rfl) fun K hK=>?_
        refine wC rfl fun K hK=>?_;simp [hN'];refine hK _ ?_;clear hK
        refine wN (hK _ ?_);clear hK
        have h34:=congrArg some (ho25 _ (Option.some.inj h24).symm)
        cases h34
        try dsimp only at hj15
        cases hj15
        try dsimp only at h10
        have h35:=congrArg some (ho11 _ (Option.some.inj h10).symm)
        cases h35
        try dsimp only at h
        cases h
        refine SWp.ret ?_
        simp [aC,iB,res16]
       ·refine SWp.cF' (b:=r30 != k23) (by simp) hb33 ?_
        refine SWp.skip ?_
        show SWp E C _ _ _
        refine SWp.reg rfl (hPB _ rfl) fun K hK=>?_
        iterate 3 (refine wC rfl fun K hK=>?_;simp [hN'];refine hK _ ?_;clear hK)
        refine wN (hK _ ?_);clear hK
        cases h24
        exact ⟨_,[],rfl,by simp [hN']⟩
      ·refine SWp.cF' (b:=decide (k23 < (r18.length:Int))) (by simp) hb28 ?_
       refine SWp.exit ?_
       have h36:=congrArg some (ho25 _ (Option.some.inj h24).symm)
       cases h36
       exact hK21 _ _ [] rfl (by simp [hN'])
     subst hv
     obtain ⟨⟩:=v
     try dsimp only at hj15 ⊢
     refine SWp.sR rfl (hPB _ rfl) fun K hK=>?_
     iterate 5 (refine wC rfl fun K hK=>?_;simp [hN'];refine hK _ ?_;clear hK)
     refine wN (hK _ ?_);clear hK
     obtain ⟨v52,hj37,hj15⟩:=bS hj15
     refine SWp.seqC [1,3,6] [1,39] (fun _:Unit=>⟨[(1,.ref (.box 1) 0 []),(3,.t (vi i9)),(6,.ref (.box 39) 0 [])],[(1,[.sl false 4 (List.map (GNode.enc false) p1.Nodes),.sl false 5 (List.map (GFn.enc false) p1.Fns)]),(39,[.sl false 4 (List.map (GNode.enc false) v52.p.Nodes),.sl false 5 (List.map (GFn.enc false) v52.p.Fns),vi v52.fn,.sl true 1 (List.map vs v52.there),vb v52.bad])]⟩) (fun _=>True) (fun _ _=>?_) fun K38 hK38=>?_
     rotate_left
     ·refine SWp.sR rfl (hPB _ rfl) fun K hK=>?_
      refine wC rfl fun K hK=>?_;simp [hN'];refine hK _ ?_;clear hK
      refine wN (hK _ ?_);clear hK
      refine SWp.block ?_
      refine SWp.loopO [] [1,3,6,7] [1,39] (fun v:Int × Gl07Seen=>⟨[(1,.ref (.box 1) 0 []),(3,.t (vi i9)),(6,.ref (.box 39) 0 []),(7,.t (vi v.1))],[(1,[.sl false 4 (List.map (GNode.enc false) p1.Nodes),.sl false 5 (List.map (GFn.enc false) p1.Fns)]),(39,[.sl false 4 (List.map (GNode.enc false) v.2.p.Nodes),.sl false 5 (List.map (GFn.enc false) v.2.p.Fns),vi v.2.fn,.sl true 1 (List.map vs v.2.there),vb v.2.bad])]⟩) (bC p1 i9) _ (0,(⟨p1,i9,[],false⟩:Gl07Seen)) hj37 (by simp [hN']) ?_
      intro g s44 h42 ho43
      obtain ⟨k40,v41⟩:=g
      simp only [bC] at h42
      try dsimp only
      refine SWp.seq ?_
      refine SWp.sR rfl (hPB _ rfl) fun K hK=>?_
      iterate 4 (refine wC rfl fun K hK=>?_;simp [hN'];refine hK _ ?_;clear hK)
      obtain ⟨e45,he45,h42⟩:=bS h42
      obtain ⟨he45a,he45b,he45c,he45d⟩:=gS he45
      iterate 5 (refine wC rfl fun K hK=>?_;simp [hN',he45a,he45b,he45c,he45d];refine hK _ ?_;clear hK)
      refine wN (hK _ ?_);clear hK
      rcases aA h42 with ⟨hb46,h42⟩ | ⟨hb47,h42⟩
      ·refine SWp.cT' (b:=decide (k40 < (e45.Params.length:Int))) (by simp) hb46 ?_
       refine SWp.skip ?_
       show SWp E C _ _ _
       refine SWp.seq ?_
       refine SWp.block ?_
       obtain ⟨e48,he48,h42⟩:=bS h42
       obtain ⟨he48a,he48b,he48c,he48d⟩:=gS he48
       obtain ⟨e49,he49,h42⟩:=bS h42
       obtain ⟨he49a,he49b,he49c,he49d⟩:=gS he49
       obtain ⟨l50,hl50,h42⟩:=bS h42
       obtain ⟨hl50a,hl50b,hl50d⟩:=aS hl50
       have hl50f:List.map vs v41.there ++ List.map vs [e49.Name]=List.map vs l50:=dV (f:=vs) hl50d
       simp [eSl] at hl50a hl50b hl50f
       refine SWp.drawX2 rfl (hPB _ rfl) [51,52,53,54,55,56,57,58,59,60,61,62,63,64,65,66,67] [[(51,.ref (.box 39) 0 [])],[(52,.ref (.box 39) 0 [])],[(53,.ref (.box 39) 0 [])],[(54,.ref (.box 39) 3 [])],[(55,.al (.box 39) 3 [] none)],[(56,.ref (.box 1) 1 [])],[(57,.t (.sl false 5 (List.map (GFn.enc false) p1.Fns)))],[(58,.t (vi i9))],[(59,.rop [vs e48.Name,.sl false 2 (List.map GParam.enc e48.Params),vi e48.Res,vi e48.Body,vi e48.Ret] 0)],[(60,.rop [vs e48.Name,.sl false 2 (List.map GParam.enc e48.Params),vi e48.Res,vi e48.Body,vi e48.Ret] 1)],[(61,.t (.sl false 2 (List.map GParam.enc e48.Params)))],[(62,.t (vi k40))],[(63,.rop [vs e49.Name,vi e49.Typ] 0)],[(64,.rop [vs e49.Name,vi e49.Typ] 0)],[(65,.t (vs e49.Name))],[(66,.t (.sl true 1 (List.map vs [e49.Name])))],[(67,.t (.sl true 1 (List.map vs l50))),(55,.u),(66,.u)]] [[],[],[],[],[],[],[],[],[],[],[],[],[],[],[],[],[(39,[.sl false 4 (List.map (GNode.enc false) v41.p.Nodes),.sl false 5 (List.map (GFn.enc false) v41.p.Fns),vi v41.fn,.dead,vb v41.bad])]] [[],[],[1],[1,2],[1,2,3],[],[5],[],[5,6,7],[5,6,7,8],[5,6,7,8,9],[],[5,6,7,8,9,10,11],[5,6,7,8,9,10,11,12],[5,6,7,8,9,10,11,12,13],[5,6,7,8,9,10,11,12,13,14],[1,2,3,4,5,6,7,8,9,10,11,12,13,14,15],[0,1,2,3,4,5,6,7,8,9,10,11,12,13,14,15,16],[0,1,2,3,4,5,6,7,8,9,10,11,12,13,14,15,16,17],[0,1,2,3,4,5,6,7,8,9,10,11,12,13,14,15,16,17,18]] rfl (by simp) rfl rfl rfl ?_ fun K hK=>?_
       ·refine ⟨?_,?_,?_,?_,?_,?_,?_,?_,?_,?_,?_,?_,?_,?_,?_,?_,?_,trivial⟩
        ·intro D d0 g1 g2 gc
         have p2_1:D 2=true→D 1=true:=fun h=>gc 2 1 h (by simp) (by simp)
         have p3_2:D 3=true→D 2=true:=fun h=>gc 3 2 h (by simp) (by simp)
         have p4_3:D 4=true→D 3=true:=fun h=>gc 4 3 h (by simp) (by simp)
         have p6_5:D 6=true→D 5=true:=fun h=>gc 6 5 h (by simp) (by simp)
         have p8_6:D 8=true→D 6=true:=fun h=>gc 8 6 h (by simp) (by simp)
         have p8_7:D 8=true→D 7=true:=fun h=>gc 8 7 h (by simp) (by simp)
         have p9_8:D 9=true→D 8=true:=fun h=>gc 9 8 h (by simp) (by simp)
         have p10_9:D 10=true→D 9=true:=fun h=>gc 10 9 h (by simp) (by simp)
         have p12_10:D 12=true→D 10=true:=fun h=>gc 12 10 h (by simp) (by simp)
         have p12_11:D 12=true→D 11=true:=fun h=>gc 12 11 h (by simp) (by simp)
         have p13_12:D 13=true→D 12=true:=fun h=>gc 13 12 h (by simp) (by simp)
         have p14_13:D 14=true→D 13=true:=fun h=>gc 14 13 h (by simp) (by simp)
         have p15_14:D 15=true→D 14=true:=fun h=>gc 15 14 h (by simp) (by simp)
         have p16_4:D 16=true→D 4=true:=fun h=>gc 16 4 h (by simp) (by simp)
         have p16_15:D 16=true→D 15=true:=fun h=>gc 16 15 h (by simp) (by simp)
         cases d1:D 1<;>cases d2:D 2<;>(simp [d2,d1] at p2_1)<;>cases d3:D 3<;>(simp [d3,d2] at p3_2)<;>cases d4:D 4<;>(simp [d4,d3] at p4_3)<;>cases d5:D 5<;>cases d6:D 6<;>(simp [d6,d5] at p6_5)<;>cases d7:D 7<;>cases d8:D 8<;>(simp [d8,d6] at p8_6)<;>(simp [d8,d7] at p8_7)<;>cases d9:D 9<;>(simp [d9,d8] at p9_8)<;>cases d10:D 10<;>(simp [d10,d9] at p10_9)<;>cases d11:D 11<;>cases d12:D 12<;>(simp [d12,d10] at p12_10)<;>(simp [d12,d11] at p12_11)<;>cases d13:D 13<;>(simp [d13,d12] at p13_12)<;>cases d14:D 14<;>(simp [d14,d13] at p14_13)<;>cases d15:D 15<;>(simp [d15,d14] at p15_14)<;>cases d16:D 16<;>(simp [d16,d4] at p16_4)<;>(simp [d16,d15] at p16_15)<;>(intro K hK;simp [famD,putL,upd1,famX,putX,d0,d1,d2,d3,d4,d5,d6,d7,d8,d9,d10,d11,d12,d13,d14,d15,d16] at hK ⊢;refine wC rfl fun K' hK'=>?_;simp [hN',he48a,he48b,he48c,he48d,he49a,he49b,he49c,he49d,hl50a,hl50b,hl50f];refine hK' _ (wN ?_);first | exact hK | simpa [he48a,he48b,he48c,he48d,he49a,he49b,he49c,he49d,hl50a,hl50b,hl50f] using hK)
        ·intro D d1 g1 g2 gc
         have d2:D 2=false:=g2 2 (by simp) (by simp)
         have d3:D 3=false:=g2 3 (by simp) (by simp)
         have d4:D 4=false:=g2 4 (by simp) (by simp)
         have d16:D 16=false:=g2 16 (by simp) (by simp)
         have p6_5:D 6=true→D 5=true:=fun h=>gc 6 5 h (by simp) (by simp)
         have p8_6:D 8=true→D 6=true:=fun h=>gc 8 6 h (by simp) (by simp)
         have p8_7:D 8=true→D 7=true:=fun h=>gc 8 7 h (by simp) (by simp)
         have p9_8:D 9=true→D 8=true:=fun h=>gc 9 8 h (by simp) (by simp)
         have p10_9:D 10=true→D 9=true:=fun h=>gc 10 9 h (by simp) (by simp)
         have p12_10:D 12=true→D 10=true:=fun h=>gc 12 10 h (by simp) (by simp)
         have p12_11:D 12=true→D 11=true:=fun h=>gc 12 11 h (by simp) (by simp)
         have p13_12:D 13=true→D 12=true:=fun h=>gc 13 12 h (by simp) (by simp)
         have p14_13:D 14=true→D 13=true:=fun h=>gc 14 13 h (by simp) (by simp)
         have p15_14:D 15=true→D 14=true:=fun h=>gc 15 14 h (by simp) (by simp)
         cases d0:D 0<;>cases d5:D 5<;>cases d6:D 6<;>(simp [d6,d5] at p6_5)<;>cases d7:D 7<;>cases d8:D 8<;>(simp [d8,d6] at p8_6)<;>(simp [d8,d7] at p8_7)<;>cases d9:D 9<;>(simp [d9,d8] at p9_8)<;>cases d10:D 10<;>(simp [d10,d9] at p10_9)<;>cases d11:D 11<;>cases d12:D 12<;>(simp [d12,d10] at p12_10)<;>(simp [d12,d11] at p12_11)<;>cases d13:D 13<;>(simp [d13,d12] at p13_12)<;>cases d14:D 14<;>(simp [d14,d13] at p14_13)<;>cases d15:D 15<;>(simp [d15,d14] at p15_14)<;>(intro K hK;simp [famD,putL,upd1,famX,putX,d0,d1,d2,d3,d4,d5,d6,d7,d8,d9,d10,d11,d12,d13,d14,d15,d16] at hK ⊢;refine wC rfl fun K' hK'=>?_;simp [hN',he48a,he48b,he48c,he48d,he49a,he49b,he49c,he49d,hl50a,hl50b,hl50f];refine hK' _ (wN ?_);first | exact hK | simpa [he48a,he48b,he48c,he48d,he49a,he49b,he49c,he49d,hl50a,hl50b,hl50f] using hK)
        ·intro D d2 g1 g2 gc
         have d1:D 1=true:=g1 1 (by simp)
         have d3:D 3=false:=g2 3 (by simp) (by simp)
         have d4:D 4=false:=g2 4 (by simp) (by simp)
         have d16:D 16=false:=g2 16 (by simp) (by simp)
         have p6_5:D 6=true→D 5=true:=fun h=>gc 6 5 h (by simp) (by simp)
         have p8_6:D 8=true→D 6=true:=fun h=>gc 8 6 h (by simp) (by simp)
         have p8_7:D 8=true→D 7=true:=fun h=>gc 8 7 h (by simp) (by simp)
         have p9_8:D 9=true→D 8=true:=fun h=>gc 9 8 h (by simp) (by simp)
         have p10_9:D 10=true→D 9=true:=fun h=>gc 10 9 h (by simp) (by simp)
         have p12_10:D 12=true→D 10=true:=fun h=>gc 12 10 h (by simp) (by simp)
         have p12_11:D 12=true→D 11=true:=fun h=>gc 12 11 h (by simp) (by simp)
         have p13_12:D 13=true→D 12=true:=fun h=>gc 13 12 h (by simp) (by simp)
         have p14_13:D 14=true→D 13=true:=fun h=>gc 14 13 h (by simp) (by simp)
         have p15_14:D 15=true→D 14=true:=fun h=>gc 15 14 h (by simp) (by simp)
         cases d0:D 0<;>cases d5:D 5<;>cases d6:D 6<;>(simp [d6,d5] at p6_5)<;>cases d7:D 7<;>cases d8:D 8<;>(simp [d8,d6] at p8_6)<;>(simp [d8,d7] at p8_7)<;>cases d9:D 9<;>(simp [d9,d8] at p9_8)<;>cases d10:D 10<;>(simp [d10,d9] at p10_9)<;>cases d11:D 11<;>cases d12:D 12<;>(simp [d12,d10] at p12_10)<;>(simp [d12,d11] at p12_11)<;>cases d13:D 13<;>(simp [d13,d12] at p13_12)<;>cases d14:D 14<;>(simp [d14,d13] at p14_13)<;>cases d15:D 15<;>(simp [d15,d14] at p15_14)<;>(intro K hK;simp [famD,putL,upd1,famX,putX,d0,d1,d2,d3,d4,d5,d6,d7,d8,d9,d10,d11,d12,d13,d14,d15,d16] at hK ⊢;refine wC rfl fun K' hK'=>?_;simp [hN',he48a,he48b,he48c,he48d,he49a,he49b,he49c,he49d,hl50a,hl50b,hl50f];refine hK' _ (wN ?_);first | exact hK | simpa [he48a,he48b,he48c,he48d,he49a,he49b,he49c,he49d,hl50a,hl50b,hl50f] using hK)
        ·intro D d3 g1 g2 gc
         have d1:D 1=true:=g1 1 (by simp)
         have d2:D 2=true:=g1 2 (by simp)
         have d4:D 4=false:=g2 4 (by simp) (by simp)
         have d16:D 16=false:=g2 16 (by simp) (by simp)
         have p6_5:D 6=true→D 5=true:=fun h=>gc 6 5 h (by simp) (by simp)
         have p8_6:D 8=true→D 6=true:=fun h=>gc 8 6 h (by simp) (by simp)
         have p8_7:D 8=true→D 7=true:=fun h=>gc 8 7 h (by simp) (by simp)
         have p9_8:D 9=true→D 8=true:=fun h=>gc 9 8 h (by simp) (by simp)
         have p10_9:D 10=true→D 9=true:=fun h=>gc 10 9 h (by simp) (by simp)
         have p12_10:D 12=true→D 10=true:=fun h=>gc 12 10 h (by simp) (by simp)
         have p12_11:D 12=true→D 11=true:=fun h=>gc 12 11 h (by simp) (by simp)
         have p13_12:D 13=true→D 12=true:=fun h=>gc 13 12 h (by simp) (by simp)
         have p14_13:D 14=true→D 13=true:=fun h=>gc 14 13 h (by simp) (by simp)
         have p15_14:D 15=true→D 14=true:=fun h=>gc 15 14 h (by simp) (by simp)
         cases d0:D 0<;>cases d5:D 5<;>cases d6:D 6<;>(simp [d6,d5] at p6_5)<;>cases d7:D 7<;>cases d8:D 8<;>(simp [d8,d6] at p8_6)<;>(simp [d8,d7] at p8_7)<;>cases d9:D 9<;>(simp [d9,d8] at p9_8)<;>cases d10:D 10<;>(simp [d10,d9] at p10_9)<;>cases d11:D 11<;>cases d12:D 12<;>(simp [d12,d10] at p12_10)<;>(simp [d12,d11] at p12_11)<;>cases d13:D 13<;>(simp [d13,d12] at p13_12)<;>cases d14:D 14<;>(simp [d14,d13] at p14_13)<;>cases d15:D 15<;>(simp [d15,d14] at p15_14)<;>(intro K hK;simp [famD,putL,upd1,famX,putX,d0,d1,d2,d3,d4,d5,d6,d7,d8,d9,d10,d11,d12,d13,d14,d15,d16] at hK ⊢;refine wC rfl fun K' hK'=>?_;simp [hN',he48a,he48b,he48c,he48d,he49a,he49b,he49c,he49d,hl50a,hl50b,hl50f];refine hK' _ (wN ?_);first | exact hK | simpa [he48a,he48b,he48c,he48d,he49a,he49b,he49c,he49d,hl50a,hl50b,hl50f] using hK)
        ·intro D d4 g1 g2 gc
         have d1:D 1=true:=g1 1 (by simp)
         have d2:D 2=true:=g1 2 (by simp)
         have d3:D 3=true:=g1 3 (by simp)
         have d16:D 16=false:=g2 16 (by simp) (by simp)
         have p6_5:D 6=true→D 5=true:=fun h=>gc 6 5 h (by simp) (by simp)
         have p8_6:D 8=true→D 6=true:=fun h=>gc 8 6 h (by simp) (by simp)
         have p8_7:D 8=true→D 7=true:=fun h=>gc 8 7 h (by simp) (by simp)
         have p9_8:D 9=true→D 8=true:=fun h=>gc 9 8 h (by simp) (by simp)
         have p10_9:D 10=true→D 9=true:=fun h=>gc 10 9 h (by simp) (by simp)
         have p12_10:D 12=true→D 10=true:=fun h=>gc 12 10 h (by simp) (by simp)
         have p12_11:D 12=true→D 11=true:=fun h=>gc 12 11 h (by simp) (by simp)
         have p13_12:D 13=true→D 12=true:=fun h=>gc 13 12 h (by simp) (by simp)
         have p14_13:D 14=true→D 13=true:=fun h=>gc 14 13 h (by simp) (by simp)
         have p15_14:D 15=true→D 14=true:=fun h=>gc 15 14 h (by simp) (by simp)
         cases d0:D 0<;>cases d5:D 5<;>cases d6:D 6<;>(simp [d6,d5] at p6_5)<;>cases d7:D 7<;>cases d8:D 8<;>(simp [d8,d6] at p8_6)<;>(simp [d8,d7] at p8_7)<;>cases d9:D 9<;>(simp [d9,d8] at p9_8)<;>cases d10:D 10<;>(simp [d10,d9] at p10_9)<;>cases d11:D 11<;>cases d12:D 12<;>(simp [d12,d10] at p12_10)<;>(simp [d12,d11] at p12_11)<;>cases d13:D 13<;>(simp [d13,d12] at p13_12)<;>cases d14:D 14<;>(simp [d14,d13] at p14_13)<;>cases d15:D 15<;>(simp [d15,d14] at p15_14)<;>(intro K hK;simp [famD,putL,upd1,famX,putX,d0,d1,d2,d3,d4,d5,d6,d7,d8,d9,d10,d11,d12,d13,d14,d15,d16] at hK ⊢;refine wC rfl fun K' hK'=>?_;simp [hN',he48a,he48b,he48c,he48d,he49a,he49b,he49c,he49d,hl50a,hl50b,hl50f];refine hK' _ (wN ?_);first | exact hK | simpa [he48a,he48b,he48c,he48d,he49a,he49b,he49c,he49d,hl50a,hl50b,hl50f] using hK)
        ·intro D d5 g1 g2 gc
         have d6:D 6=false:=g2 6 (by simp) (by simp)
         have d8:D 8=false:=g2 8 (by simp) (by simp)
         have d9:D 9=false:=g2 9 (by simp) (by simp)
         have d10:D 10=false:=g2 10 (by simp) (by simp)
         have d12:D 12=false:=g2 12 (by simp) (by simp)
         have d13:D 13=false:=g2 13 (by simp) (by simp)
         have d14:D 14=false:=g2 14 (by simp) (by simp)
         have d15:D 15=false:=g2 15 (by simp) (by simp)
         have d16:D 16=false:=g2 16 (by simp) (by simp)
         have p2_1:D 2=true→D 1=true:=fun h=>gc 2 1 h (by simp) (by simp)
         have p3_2:D 3=true→D 2=true:=fun h=>gc 3 2 h (by simp) (by simp)
         have p4_3:D 4=true→D 3=true:=fun h=>gc 4 3 h (by simp) (by simp)
         cases d0:D 0<;>cases d1:D 1<;>cases d2:D 2<;>(simp [d2,d1] at p2_1)<;>cases d3:D 3<;>(simp [d3,d2] at p3_2)<;>cases d4:D 4<;>(simp [d4,d3] at p4_3)<;>cases d7:D 7<;>cases d11:D 11<;>(intro K hK;simp [famD,putL,upd1,famX,putX,d0,d1,d2,d3,d4,d5,d6,d7,d8,d9,d10,d11,d12,d13,d14,d15,d16] at hK ⊢;refine wC rfl fun K' hK'=>?_;simp [hN',he48a,he48b,he48c,he48d,he49a,he49b,he49c,he49d,hl50a,hl50b,hl50f];refine hK' _ (wN ?_);first | exact hK | simpa [he48a,he48b,he48c,he48d,he49a,he49b,he49c,he49d,hl50a,hl50b,hl50f] using hK)
        ·intro D d6 g1 g2 gc
         have d5:D 5=true:=g1 5 (by simp)
         have d8:D 8=false:=g2 8 (by simp) (by simp)
         have d9:D 9=false:=g2 9 (by simp) (by simp)
         have d10:D 10=false:=g2 10 (by simp) (by simp)
         have d12:D 12=false:=g2 12 (by simp) (by simp)
         have d13:D 13=false:=g2 13 (by simp) (by simp)
         have d14:D 14=false:=g2 14 (by simp) (by simp)
         have d15:D 15=false:=g2 15 (by simp) (by simp)
         have d16:D 16=false:=g2 16 (by simp) (by simp)
         have p2_1:D 2=true→D 1=true:=fun h=>gc 2 1 h (by simp) (by simp)
         have p3_2:D 3=true→D 2=true:=fun h=>gc 3 2 h (by simp) (by simp)
         have p4_3:D 4=true→D 3=true:=fun h=>gc 4 3 h (by simp) (by simp)
         cases d0:D 0<;>cases d1:D 1<;>cases d2:D 2<;>(simp [d2,d1] at p2_1)<;>cases d3:D 3<;>(simp [d3,d2] at p3_2)<;>cases d4:D 4<;>(simp [d4,d3] at p4_3)<;>cases d7:D 7<;>cases d11:D 11<;>(intro K hK;simp [famD,putL,upd1,famX,putX,d0,d1,d2,d3,d4,d5,d6,d7,d8,d9,d10,d11,d12,d13,d14,d15,d16] at hK ⊢;refine wC rfl fun K' hK'=>?_;simp [hN',he48a,he48b,he48c,he48d,he49a,he49b,he49c,he49d,hl50a,hl50b,hl50f];refine hK' _ (wN ?_);first | exact hK | simpa [he48a,he48b,he48c,he48d,he49a,he49b,he49c,he49d,hl50a,hl50b,hl50f] using hK)
        ·intro D d7 g1 g2 gc
         have d8:D 8=false:=g2 8 (by simp) (by simp)
         have d9:D 9=false:=g2 9 (by simp) (by simp)
         have d10:D 10=false:=g2 10 (by simp) (by simp)
         have d12:D 12=false:=g2 12 (by simp) (by simp)
         have d13:D 13=false:=g2 13 (by simp) (by simp)
         have d14:D 14=false:=g2 14 (by simp) (by simp)
         have d15:D 15=false:=g2 15 (by simp) (by simp)
         have d16:D 16=false:=g2 16 (by simp) (by simp)
         have p2_1:D 2=true→D 1=true:=fun h=>gc 2 1 h (by simp) (by simp)
         have p3_2:D 3=true→D 2=true:=fun h=>gc 3 2 h (by simp) (by simp)
         have p4_3:D 4=true→D 3=true:=fun h=>gc 4 3 h (by simp) (by simp)
         have p6_5:D 6=true→D 5=true:=fun h=>gc 6 5 h (by simp) (by simp)
         cases d0:D 0<;>cases d1:D 1<;>cases d2:D 2<;>(simp [d2,d1] at p2_1)<;>cases d3:D 3<;>(simp [d3,d2] at p3_2)<;>cases d4:D 4<;>(simp [d4,d3] at p4_3)<;>cases d5:D 5<;>cases d6:D 6<;>(simp [d6,d5] at p6_5)<;>cases d11:D 11<;>(intro K hK;simp [famD,putL,upd1,famX,putX,d0,d1,d2,d3,d4,d5,d6,d7,d8,d9,d10,d11,d12,d13,d14,d15,d16] at hK ⊢;refine wC rfl fun K' hK'=>?_;simp [hN',he48a,he48b,he48c,he48d,he49a,he49b,he49c,he49d,hl50a,hl50b,hl50f];refine hK' _ (wN ?_);first | exact hK | simpa [he48a,he48b,he48c,he48d,he49a,he49b,he49c,he49d,hl50a,hl50b,hl50f] using hK)
        ·intro D d8 g1 g2 gc
         have d5:D 5=true:=g1 5 (by simp)
         have d6:D 6=true:=g1 6 (by simp)
         have d7:D 7=true:=g1 7 (by simp)
         have d9:D 9=false:=g2 9 (by simp) (by simp)
         have d10:D 10=false:=g2 10 (by simp) (by simp)
         have d12:D 12=false:=g2 12 (by simp) (by simp)
         have d13:D 13=false:=g2 13 (by simp) (by simp)
         have d14:D 14=false:=g2 14 (by simp) (by simp)
         have d15:D 15=false:=g2 15 (by simp) (by simp)
         have d16:D 16=false:=g2 16 (by simp) (by simp)
         have p2_1:D 2=true→D 1=true:=fun h=>gc 2 1 h (by simp) (by simp)
         have p3_2:D 3=true→D 2=true:=fun h=>gc 3 2 h (by simp) (by simp)
         have p4_3:D 4=true→D 3=true:=fun h=>gc 4 3 h (by simp) (by simp)
         cases d0:D 0<;>cases d1:D 1<;>cases d2:D 2<;>(simp [d2,d1] at p2_1)<;>cases d3:D 3<;>(simp [d3,d2] at p3_2)<;>cases d4:D 4<;>(simp [d4,d3] at p4_3)<;>cases d11:D 11<;>(intro K hK;simp [famD,putL,upd1,famX,putX,d0,d1,d2,d3,d4,d5,d6,d7,d8,d9,d10,d11,d12,d13,d14,d15,d16] at hK ⊢;refine wC rfl fun K' hK'=>?_;simp [hN',he48a,he48b,he48c,he48d,he49a,he49b,he49c,he49d,hl50a,hl50b,hl50f];refine hK' _ (wN ?_);first | exact hK | simpa [he48a,he48b,he48c,he48d,he49a,he49b,he49c,he49d,hl50a,hl50b,hl50f] using hK)
        ·intro D d9 g1 g2 gc
         have d5:D 5=true:=g1 5 (by simp)
         have d6:D 6=true:=g1 6 (by simp)
         have d7:D 7=true:=g1 7 (by simp)
         have d8:D 8=true:=g1 8 (by simp)
         have d10:D 10=false:=g2 10 (by simp) (by simp)
         have d12:D 12=false:=g2 12 (by simp) (by simp)
         have d13:D 13=false:=g2 13 (by simp) (by simp)
         have d14:D 14=false:=g2 14 (by simp) (by simp)
         have d15:D 15=false:=g2 15 (by simp) (by simp)
         have d16:D 16=false:=g2 16 (by simp) (by simp)
         have p2_1:D 2=true→D 1=true:=fun h=>gc 2 1 h (by simp) (by simp)
         have p3_2:D 3=true→D 2=true:=fun h=>gc 3 2 h (by simp) (by simp)
         have p4_3:D 4=true→D 3=true:=fun h=>gc 4 3 h (by simp) (by simp)
         cases d0:D 0<;>cases d1:D 1<;>cases d2:D 2<;>(simp [d2,d1] at p2_1)<;>cases d3:D 3<;>(simp [d3,d2] at p3_2)<;>cases d4:D 4<;>(simp [d4,d3] at p4_3)<;>cases d11:D 11<;>(intro K hK;simp [famD,putL,upd1,famX,putX,d0,d1,d2,d3,d4,d5,d6,d7,d8,d9,d10,d11,d12,d13,d14,d15,d16] at hK ⊢;refine wC rfl fun K' hK'=>?_;simp [hN',he48a,he48b,he48c,he48d,he49a,he49b,he49c,he49d,hl50a,hl50b,hl50f];refine hK' _ (wN ?_);first | exact hK | simpa [he48a,he48b,he48c,he48d,he49a,he49b,he49c,he49d,hl50a,hl50b,hl50f] using hK)
        ·intro D d10 g1 g2 gc
         have d5:D 5=true:=g1 5 (by simp)
         have d6:D 6=true:=g1 6 (by simp)
         have d7:D 7=true:=g1 7 (by simp)
         have d8:D 8=true:=g1 8 (by simp)
         have d9:D 9=true:=g1 9 (by simp)
         have d12:D 12=false:=g2 12 (by simp) (by simp)
         have d13:D 13=false:=g2 13 (by simp) (by simp)
         have d14:D 14=false:=g2 14 (by simp) (by simp)
         have d15:D 15=false:=g2 15 (by simp) (by simp)
         have d16:D 16=false:=g2 16 (by simp) (by simp)
         have p2_1:D 2=true→D 1=true:=fun h=>gc 2 1 h (by simp) (by simp)
         have p3_2:D 3=true→D 2=true:=fun h=>gc 3 2 h (by simp) (by simp)
         have p4_3:D 4=true→D 3=true:=fun h=>gc 4 3 h (by simp) (by simp)
         cases d0:D 0<;>cases d1:D 1<;>cases d2:D 2<;>(simp [d2,d1] at p2_1)<;>cases d3:D 3<;>(simp [d3,d2] at p3_2)<;>cases d4:D 4<;>(simp [d4,d3] at p4_3)<;>cases d11:D 11<;>(intro K hK;simp [famD,putL,upd1,famX,putX,d0,d1,d2,d3,d4,d5,d6,d7,d8,d9,d10,d11,d12,d13,d14,d15,d16] at hK ⊢;refine wC rfl fun K' hK'=>?_;simp [hN',he48a,he48b,he48c,he48d,he49a,he49b,he49c,he49d,hl50a,hl50b,hl50f];refine hK' _ (wN ?_);first | exact hK | simpa [he48a,he48b,he48c,he48d,he49a,he49b,he49c,he49d,hl50a,hl50b,hl50f] using hK)
        ·intro D d11 g1 g2 gc
         have d12:D 12=false:=g2 12 (by simp) (by simp)
         have d13:D 13=false:=g2 13 (by simp) (by simp)
         have d14:D 14=false:=g2 14 (by simp) (by simp)
         have d15:D 15=false:=g2 15 (by simp) (by simp)
         have d16:D 16=false:=g2 16 (by simp) (by simp)
         have p2_1:D 2=true→D 1=true:=fun h=>gc 2 1 h (by simp) (by simp)
         have p3_2:D 3=true→D 2=true:=fun h=>gc 3 2 h (by simp) (by simp)
         have p4_3:D 4=true→D 3=true:=fun h=>gc 4 3 h (by simp) (by simp)
         have p6_5:D 6=true→D 5=true:=fun h=>gc 6 5 h (by simp) (by simp)
         have p8_6:D 8=true→D 6=true:=fun h=>gc 8 6 h (by simp) (by simp)
         have p8_7:D 8=true→D 7=true:=fun h=>gc 8 7 h (by simp) (by simp)
         have p9_8:D 9=true→D 8=true:=fun h=>gc 9 8 h (by simp) (by simp)
         have p10_9:D 10=true→D 9=true:=fun h=>gc 10 9 h (by simp) (by simp)
         cases d0:D 0<;>cases d1:D 1<;>cases d2:D 2<;>(simp [d2,d1] at p2_1)<;>cases d3:D 3<;>(simp [d3,d2] at p3_2)<;>cases d4:D 4<;>(simp [d4,d3] at p4_3)<;>cases d5:D 5<;>cases d6:D 6<;>(simp [d6,d5] at p6_5)<;>cases d7:D 7<;>cases d8:D 8<;>(simp [d8,d6] at p8_6)<;>(simp [d8,d7] at p8_7)<;>cases d9:D 9<;>(simp [d9,d8] at p9_8)<;>cases d10:D 10<;>(simp [d10,d9] at p10_9)<;>(intro K hK;simp [famD,putL,upd1,famX,putX,d0,d1,d2,d3,d4,d5,d6,d7,d8,d9,d10,d11,d12,d13,d14,d15,d16] at hK ⊢;refine wC rfl fun K' hK'=>?_;simp [hN',he48a,he48b,he48c,he48d,he49a,he49b,he49c,he49d,hl50a,hl50b,hl50f];refine hK' _ (wN ?_);first | exact hK | simpa [he48a,he48b,he48c,he48d,he49a,he49b,he49c,he49d,hl50a,hl50b,hl50f] using hK)
        ·intro D d12 g1 g2 gc
         have d5:D 5=true:=g1 5 (by simp)
         have d6:D 6=true:=g1 6 (by simp)
         have d7:D 7=true:=g1 7 (by simp)
         have d8:D 8=true:=g1 8 (by simp)
         have d9:D 9=true:=g1 9 (by simp)
         have d10:D 10=true:=g1 10 (by simp)
         have d11:D 11=true:=g1 11 (by simp)
         have d13:D 13=false:=g2 13 (by simp) (by simp)
         have d14:D 14=false:=g2 14 (by simp) (by simp)
         have d15:D 15=false:=g2 15 (by simp) (by simp)
         have d16:D 16=false:=g2 16 (by simp) (by simp)
         have p2_1:D 2=true→D 1=true:=fun h=>gc 2 1 h (by simp) (by simp)
         have p3_2:D 3=true→D 2=true:=fun h=>gc 3 2 h (by simp) (by simp)
         have p4_3:D 4=true→D 3=true:=fun h=>gc 4 3 h (by simp) (by simp)
         cases d0:D 0<;>cases d1:D 1<;>cases d2:D 2<;>(simp [d2,d1] at p2_1)<;>cases d3:D 3<;>(simp [d3,d2] at p3_2)<;>cases d4:D 4<;>(simp [d4,d3] at p4_3)<;>(intro K hK;simp [famD,putL,upd1,famX,putX,d0,d1,d2,d3,d4,d5,d6,d7,d8,d9,d10,d11,d12,d13,d14,d15,d16] at hK ⊢;refine wC rfl fun K' hK'=>?_;simp [hN',he48a,he48b,he48c,he48d,he49a,he49b,he49c,he49d,hl50a,hl50b,hl50f];refine hK' _ (wN ?_);first | exact hK | simpa [he48a,he48b,he48c,he48d,he49a,he49b,he49c,he49d,hl50a,hl50b,hl50f] using hK)
        ·intro D d13 g1 g2 gc
         have d5:D 5=true:=g1 5 (by simp)
         have d6:D 6=true:=g1 6 (by simp)
         have d7:D 7=true:=g1 7 (by simp)
         have d8:D 8=true:=g1 8 (by simp)
         have d9:D 9=true:=g1 9 (by simp)
         have d10:D 10=true:=g1 10 (by simp)
         have d11:D 11=true:=g1 11 (by simp)
         have d12:D 12=true:=g1 12 (by simp)
         have d14:D 14=false:=g2 14 (by simp) (by simp)
         have d15:D 15=false:=g2 15 (by simp) (by simp)
         have d16:D 16=false:=g2 16 (by simp) (by simp)
         have p2_1:D 2=true→D 1=true:=fun h=>gc 2 1 h (by simp) (by simp)
         have p3_2:D 3=true→D 2=true:=fun h=>gc 3 2 h (by simp) (by simp)
         have p4_3:D 4=true→D 3=true:=fun h=>gc 4 3 h (by simp) (by simp)
         cases d0:D 0<;>cases d1:D 1<;>cases d2:D 2<;>(simp [d2,d1] at p2_1)<;>cases d3:D 3<;>(simp [d3,d2] at p3_2)<;>cases d4:D 4<;>(simp [d4,d3] at p4_3)<;>(intro K hK;simp [famD,putL,upd1,famX,putX,d0,d1,d2,d3,d4,d5,d6,d7,d8,d9,d10,d11,d12,d13,d14,d15,d16] at hK ⊢;refine wC rfl fun K' hK'=>?_;simp [hN',he48a,he48b,he48c,he48d,he49a,he49b,he49c,he49d,hl50a,hl50b,hl50f];refine hK' _ (wN ?_);first | exact hK | simpa [he48a,he48b,he48c,he48d,he49a,he49b,he49c,he49d,hl50a,hl50b,hl50f] using hK)
        ·intro D d14 g1 g2 gc
         have d5:D 5=true:=g1 5 (by simp)
         have d6:D 6=true:=g1 6 (by simp)
         have d7:D 7=true:=g1 7 (by simp)
         have d8:D 8=true:=g1 8 (by simp)
         have d9:D 9=true:=g1 9 (by simp)
         have d10:D 10=true:=g1 10 (by simp)
         have d11:D 11=true:=g1 11 (by simp)
         have d12:D 12=true:=g1 12 (by simp)
         have d13:D 13=true:=g1 13 (by simp)
         have d15:D 15=false:=g2 15 (by simp) (by simp)
         have d16:D 16=false:=g2 16 (by simp) (by simp)
         have p2_1:D 2=true→D 1=true:=fun h=>gc 2 1 h (by simp) (by simp)
         have p3_2:D 3=true→D 2=true:=fun h=>gc 3 2 h (by simp) (by simp)
         have p4_3:D 4=true→D 3=true:=fun h=>gc 4 3 h (by simp) (by simp)
         cases d0:D 0<;>cases d1:D 1<;>cases d2:D 2<;>(simp [d2,d1] at p2_1)<;>cases d3:D 3<;>(simp [d3,d2] at p3_2)<;>cases d4:D 4<;>(simp [d4,d3] at p4_3)<;>(intro K hK;simp [famD,putL,upd1,famX,putX,d0,d1,d2,d3,d4,d5,d6,d7,d8,d9,d10,d11,d12,d13,d14,d15,d16] at hK ⊢;refine wC rfl fun K' hK'=>?_;simp [hN',he48a,he48b,he48c,he48d,he49a,he49b,he49c,he49d,hl50a,hl50b,hl50f];refine hK' _ (wN ?_);first | exact hK | simpa [he48a,he48b,he48c,he48d,he49a,he49b,he49c,he49d,hl50a,hl50b,hl50f] using hK)
        ·intro D d15 g1 g2 gc
         have d5:D 5=true:=g1 5 (by simp)
         have d6:D 6=true:=g1 6 (by simp)
         have d7:D 7=true:=g1 7 (by simp)
         have d8:D 8=true:=g1 8 (by simp)
         have d9:D 9=true:=g1 9 (by simp)
         have d10:D 10=true:=g1 10 (by simp)
         have d11:D 11=true:=g1 11 (by simp)
         have d12:D 12=true:=g1 12 (by simp)
         have d13:D 13=true:=g1 13 (by simp)
         have d14:D 14=true:=g1 14 (by simp)
         have d16:D 16=false:=g2 16 (by simp) (by simp)
         have p2_1:D 2=true→D 1=true:=fun h=>gc 2 1 h (by simp) (by simp)
         have p3_2:D 3=true→D 2=true:=fun h=>gc 3 2 h (by simp) (by simp)
         have p4_3:D 4=true→D 3=true:=fun h=>gc 4 3 h (by simp) (by simp)
         cases d0:D 0<;>cases d1:D 1<;>cases d2:D 2<;>(simp [d2,d1] at p2_1)<;>cases d3:D 3<;>(simp [d3,d2] at p3_2)<;>cases d4:D 4<;>(simp [d4,d3] at p4_3)<;>(intro K hK;simp [famD,putL,upd1,famX,putX,d0,d1,d2,d3,d4,d5,d6,d7,d8,d9,d10,d11,d12,d13,d14,d15,d16] at hK ⊢;refine wC rfl fun K' hK'=>?_;simp [hN',he48a,he48b,he48c,he48d,he49a,he49b,he49c,he49d,hl50a,hl50b,hl50f];refine hK' _ (wN ?_);first | exact hK | simpa [he48a,he48b,he48c,he48d,he49a,he49b,he49c,he49d,hl50a,hl50b,hl50f] using hK)
        ·intro D d16 g1 g2 gc
         have d1:D 1=true:=g1 1 (by simp)
         have d2:D 2=true:=g1 2 (by simp)
         have d3:D 3=true:=g1 3 (by simp)
         have d4:D 4=true:=g1 4 (by simp)
         have d5:D 5=true:=g1 5 (by simp)
         have d6:D 6=true:=g1 6 (by simp)
         have d7:D 7=true:=g1 7 (by simp)
         have d8:D 8=true:=g1 8 (by simp)
         have d9:D 9=true:=g1 9 (by simp)
         have d10:D 10=true:=g1 10 (by simp)
         have d11:D 11=true:=g1 11 (by simp)
         have d12:D 12=true:=g1 12 (by simp)
         have d13:D 13=true:=g1 13 (by simp)
         have d14:D 14=true:=g1 14 (by simp)
         have d15:D 15=true:=g1 15 (by simp)
         cases d0:D 0<;>(intro K hK;simp [famD,putL,upd1,famX,putX,d0,d1,d2,d3,d4,d5,d6,d7,d8,d9,d10,d11,d12,d13,d14,d15,d16] at hK ⊢;refine wC rfl fun K' hK'=>?_;simp [hN',he48a,he48b,he48c,he48d,he49a,he49b,he49c,he49d,hl50a,hl50b,hl50f];refine hK' _ (wN ?_);first | exact hK | simpa [he48a,he48b,he48c,he48d,he49a,he49b,he49c,he49d,hl50a,hl50b,hl50f] using hK)
       simp [famD,putL,famX,putX]
       iterate 3 (refine wC rfl fun K hK=>?_;simp [hN',he48a,he48b,he48c,he48d,he49a,he49b,he49c,he49d,hl50a,hl50b,hl50f];refine hK _ ?_;clear hK)
       refine wN (hK _ ?_);clear hK
       show SWp E C _ _ _
       refine SWp.reg rfl (hPB _ rfl) fun K hK=>?_
       iterate 3 (refine wC rfl fun K hK=>?_;simp [hN'];refine hK _ ?_;clear hK)
       refine wN (hK _ ?_);clear hK
       cases h42
       exact ⟨_,[],rfl,by simp [hN']⟩
      ·refine SWp.cF' (b:=decide (k40 < (e45.Params.length:Int))) (by simp) hb47 ?_
       refine SWp.exit ?_
       have h51:=congrArg some (ho43 _ (Option.some.inj h42).symm)
       cases h51
       exact hK38 _ () [] trivial (by simp [hN'])
     refine SWp.freezeB 39 3 fun K hK=>?_;simp [hN'];refine hK _ ?_;clear hK
     refine SWp.sR rfl (hPB _ rfl) fun K hK=>?_
     iterate 4 (refine wC rfl fun K hK=>?_;simp [hN'];refine hK _ ?_;clear hK)
     obtain ⟨e53,he53,hj15⟩:=bS hj15
     obtain ⟨he53a,he53b,he53c,he53d⟩:=gS he53
     iterate 3 (refine wC rfl fun K hK=>?_;simp [hN',he53a,he53b,he53c,he53d];refine hK _ ?_;clear hK)
     obtain ⟨q54,hc55,hj15⟩:=bS hj15
     refine wL [((.ptr 5),.tmp 70),(.take,.tmp 76)] rfl rfl ent41 (nI _ _ hc55) fun K hK=>?_;simp [hN',he53a,he53b,he53c,he53d];refine hK _ ?_;clear hK
     refine wN (hK _ ?_);clear hK
     obtain ⟨v65,hj56,hj15⟩:=bS hj15
     refine SWp.seqC [1,3,6] [1,39] (fun _:Unit=>⟨[(1,.ref (.box 1) 0 []),(3,.t (vi i9)),(6,.ref (.box 39) 0 [])],[(1,[.sl false 4 (List.map (GNode.enc false) p1.Nodes),.sl false 5 (List.map (GFn.enc false) p1.Fns)]),(39,[.sl false 4 (List.map (GNode.enc false) v65.p.Nodes),.sl false 5 (List.map (GFn.enc false) v65.p.Fns),vi v65.fn,.sl false 1 (List.map vs v65.there),vb v65.bad])]⟩) (fun _=>True) (fun _ _=>?_) fun K57 hK57=>?_
     rotate_left
     ·refine SWp.sR rfl (hPB _ rfl) fun K hK=>?_
      iterate 3 (refine wC rfl fun K hK=>?_;simp [hN'];refine hK _ ?_;clear hK)
      obtain ⟨e59,he59,hj56⟩:=bS hj56
      obtain ⟨he59a,he59b,he59c,he59d⟩:=gS he59
      iterate 4 (refine wC rfl fun K hK=>?_;simp [hN',he59a,he59b,he59c,he59d];refine hK _ ?_;clear hK)
      refine wN (hK _ ?_);clear hK
      rcases aA hj56 with ⟨hb60,hj56⟩ | ⟨hb61,hj56⟩
      ·refine SWp.cT' (b:=decide (e59.Ret ≥ 0)) (by simp) hb60 ?_
       refine SWp.reg rfl (hPB _ rfl) fun K hK=>?_
       iterate 4 (refine wC rfl fun K hK=>?_;simp [hN'];refine hK _ ?_;clear hK)
       obtain ⟨e62,he62,hj56⟩:=bS hj56
       obtain ⟨he62a,he62b,he62c,he62d⟩:=gS he62
       iterate 3 (refine wC rfl fun K hK=>?_;simp [hN',he62a,he62b,he62c,he62d];refine hK _ ?_;clear hK)
       obtain ⟨q63,hc64,hj56⟩:=bS hj56
       refine wL [((.ptr 5),.tmp 85),(.take,.tmp 91)] rfl rfl ent42 (iF _ _ hc64) fun K hK=>?_;simp [hN',he62a,he62b,he62c,he62d];refine hK _ ?_;clear hK
       refine wN (hK _ ?_);clear hK
       cases hj56
       exact hK57 _ () [] trivial (by simp [hN'])
      ·refine SWp.cF' (b:=decide (e59.Ret ≥ 0)) (by simp) hb61 ?_
       refine SWp.skip ?_
       cases hj56
       exact hK57 _ () [] trivial (by simp [hN'])
     refine SWp.sR rfl (hPB _ rfl) fun K hK=>?_
     iterate 4 (refine wC rfl fun K hK=>?_;simp [hN'];refine hK _ ?_;clear hK)
     refine wN (hK _ ?_);clear hK
     rcases aA hj15 with ⟨hb66,hj15⟩ | ⟨hb67,hj15⟩
     ·refine SWp.cT' (b:=v65.bad) (by simp) hb66 ?_
      refine SWp.sR rfl (hPB _ rfl) fun K hK=>?_
      refine wC rfl fun K hK=>?_;simp [hN'];refine hK _ ?_;clear hK
      refine wN (hK _ ?_);clear hK
      cases hj15
      try dsimp only at h10
      have h68:=congrArg some (ho11 _ (Option.some.inj h10).symm)
      cases h68
      try dsimp only at h
      cases h
      refine SWp.ret ?_
      simp [aC,iB,res16]
     ·refine SWp.cF' (b:=v65.bad) (by simp) hb67 ?_
      refine SWp.skip ?_
      cases hj15
      exact hK16 _ _ [] rfl (by simp [hN'])
    subst hv
    obtain ⟨⟩:=v
    try dsimp only at h10 ⊢
    refine SWp.reg rfl (hPB _ rfl) fun K hK=>?_
    iterate 3 (refine wC rfl fun K hK=>?_;simp [hN'];refine hK _ ?_;clear hK)
    refine wN (hK _ ?_);clear hK
    cases h10
    exact ⟨_,[],rfl,by simp [hN']⟩
   ·refine SWp.cF' (b:=decide (i9 < (p1.Fns.length:Int))) (by simp) hb14 ?_
    refine SWp.exit ?_
    have h69:=congrArg some (ho11 _ (Option.some.inj h10).symm)
    cases h69
    exact hK7 _ _ [] rfl (by simp [hN'])
  subst hv
  obtain ⟨⟩:=v
  try dsimp only at h ⊢
  refine SWp.sR rfl (hPB _ rfl) fun K hK=>?_
  refine wC rfl fun K hK=>?_;simp [hN'];refine hK _ ?_;clear hK
  refine wN (hK _ ?_);clear hK
  cases h
  refine SWp.ret ?_
  simp [aC,iB,res16]
theorem res43:Tryz.f43.results.toList=[.tmp 4]:=rfl
theorem ent43:aF E.P 43:=eO Tryz.func43 (by simp [Tryz.f43]) rfl
theorem spec_l07All_ok (p1:GProgram) (fn2:Int) {r0:List Int} (h:jW p1 fn2=some r0):Ok E 43 [.val (GProgram.enc false p1),.val (vi fn2)] [.sl true 1 (List.map vi r0)] []:=by
 refine oB (fn:=Tryz.f43) Tryz.func43 rfl (by simp [Tryz.f43]) fun C hN hP=>?_
 have u:∀ l,pinK [] l=true→pinB C.pin l=true:=pO (by rw [hP];rfl)
 have y:C.N=102:=hN
 clear hN
 unfold jW at h
 refine SWp.sR rfl (u _ rfl) fun K q=>?_
 iterate 2 (refine wC rfl fun K q=>?_;simp [y];refine q _ ?_;clear q)
 refine wN (q _ ?_);clear q
 refine SWp.sR rfl (u _ rfl) fun K q=>?_
 iterate 2 (refine wC rfl fun K q=>?_;simp [y];refine q _ ?_;clear q)
 refine wN (q _ ?_);clear q
 refine SWp.seq ?_
 refine SWp.sR rfl (u _ rfl) fun K q=>?_
 iterate 5 (refine wC rfl fun K q=>?_;simp [y];refine q _ ?_;clear q)
 obtain ⟨r3,hc4,h⟩:=bS h
 refine wL [(.take,.tmp 11),(.take,.const (.int .i64 0)),(.take,.tmp 15)] rfl rfl nB (aM _ _ _ hc4) fun K q=>?_;simp [y];refine q _ ?_;clear q
 refine wC rfl fun K q=>?_;simp [y];refine q _ ?_;clear q
 refine wN (q _ ?_);clear q
 rcases aA h with ⟨hb5,h⟩ | ⟨hb6,h⟩
 ·refine SWp.cT' (b:=!r3) (by simp) hb5 ?_
  refine SWp.sR rfl (u _ rfl) fun K q=>?_
  iterate 2 (refine wC rfl fun K q=>?_;simp [y];refine q _ ?_;clear q)
  refine wN (q _ ?_);clear q
  cases h
  refine SWp.ret ?_
  simp [aC,iB,res43]
 ·refine SWp.cF' (b:=!r3) (by simp) hb6 ?_
  refine SWp.skip ?_
  show SWp E C _ _ _
  refine SWp.seq ?_
  obtain ⟨e8,he8,h⟩:=bS h
  obtain ⟨he8a,he8b,he8c,he8d⟩:=gS he8
  refine SWp.dT rfl (u _ rfl) [(19,.t (GProgram.enc false p1)),(20,.ref (.box 2) 1 []),(21,.t (.sl false 5 (List.map (GFn.enc false) p1.Fns))),(22,.t (vi fn2)),(23,.rop [vs e8.Name,.sl false 2 (List.map GParam.enc e8.Params),vi e8.Res,vi e8.Body,vi e8.Ret] 0),(24,.rop [vs e8.Name,.sl false 2 (List.map GParam.enc e8.Params),vi e8.Res,vi e8.Body,vi e8.Ret] 3),(25,.t (vi e8.Body))] [[],[],[1],[],[1,2,3],[1,2,3,4],[1,2,3,4,5],[0,1,2,3,4,5,6],[0,1,2,3,4,5,6,7]] (by simp) (by simp) (by simp [look]) rfl rfl rfl ?_ fun K q=>?_
  ·refine ⟨?_,?_,?_,?_,?_,?_,?_,trivial⟩
   all_goals (intro τ hbx hb hd hf K q;try simp [vsAt] at hd;simp [vsAt] at hf;first | (refine wC rfl fun K' q'=>?_;simp [y,hbx,hb,hd,hf,he8a,he8b,he8c,he8d];exact q' _ (wN (q _ (by simp [vsAt,hbx,he8a,he8b,he8c,he8d])))))
  obtain ⟨r9,hc10,h⟩:=bS h
  refine wL [(.take,.tmp 19),(.take,.tmp 25)] rfl rfl ent74 (mG _ _ hc10) fun K q=>?_;simp [y,he8a,he8b,he8c,he8d];refine q _ ?_;clear q
  refine wC rfl fun K q=>?_;simp [y,he8a,he8b,he8c,he8d];refine q _ ?_;clear q
  refine wN (q _ ?_);clear q
  show SWp E C _ _ _
  refine SWp.seq ?_
  obtain ⟨e12,he12,h⟩:=bS h
  obtain ⟨he12a,he12b,he12c,he12d⟩:=gS he12
  refine SWp.dT rfl (u _ rfl) [(27,.t (GProgram.enc false p1)),(28,.ref (.box 2) 1 []),(29,.t (.sl false 5 (List.map (GFn.enc false) p1.Fns))),(30,.t (vi fn2)),(31,.rop [vs e12.Name,.sl false 2 (List.map GParam.enc e12.Params),vi e12.Res,vi e12.Body,vi e12.Ret] 0),(32,.rop [vs e12.Name,.sl false 2 (List.map GParam.enc e12.Params),vi e12.Res,vi e12.Body,vi e12.Ret] 4),(33,.t (vi e12.Ret))] [[],[],[1],[],[1,2,3],[1,2,3,4],[1,2,3,4,5],[0,1,2,3,4,5,6],[0,1,2,3,4,5,6,7]] (by simp) (by simp) (by simp [look]) rfl rfl rfl ?_ fun K q=>?_
  ·refine ⟨?_,?_,?_,?_,?_,?_,?_,trivial⟩
   all_goals (intro τ hbx hb hd hf K q;try simp [vsAt] at hd;simp [vsAt] at hf;first | (refine wC rfl fun K' q'=>?_;simp [y,hbx,hb,hd,hf,he12a,he12b,he12c,he12d];exact q' _ (wN (q _ (by simp [vsAt,hbx,he12a,he12b,he12c,he12d])))))
  obtain ⟨r13,hc14,h⟩:=bS h
  refine wL [(.take,.tmp 27),(.take,.tmp 33)] rfl rfl ent74 (mG _ _ hc14) fun K q=>?_;simp [y,he12a,he12b,he12c,he12d];refine q _ ?_;clear q
  refine wC rfl fun K q=>?_;simp [y,he12a,he12b,he12c,he12d];refine q _ ?_;clear q
  refine wN (q _ ?_);clear q
  show SWp E C _ _ _
  refine SWp.sR rfl (u _ rfl) fun K q=>?_
  refine wC rfl fun K q=>?_;simp [y];refine q _ ?_;clear q
  refine wN (q _ ?_);clear q
  refine SWp.sR rfl (u _ rfl) fun K q=>?_
  refine wC rfl fun K q=>?_;simp [y];refine q _ ?_;clear q
  refine wN (q _ ?_);clear q
  obtain ⟨out60,hj15,h⟩:=bS h
  refine SWp.seqC [5] [] (fun _:Unit=>⟨[(5,.t (.sl true 1 (List.map vi out60)))],[]⟩) (fun _=>True) (fun _ _=>?_) fun K16 hK16=>?_
  rotate_left
  ·refine SWp.block ?_
   refine SWp.loopO [] [5,6,7,8,9] [] (fun v:(List Int) × Int × Int=>⟨[(5,.t (.sl true 1 (List.map vi v.1))),(6,.t (.sl true 1 (List.map vi r9))),(7,.t (.sl true 1 (List.map vi r13))),(8,.t (vi v.2.1)),(9,.t (vi v.2.2))],[]⟩) (aW r9 r13) _ ([],0,0) hj15 (by simp [y]) ?_
   intro g s23 h21 ho22
   obtain ⟨out18,i19,k20⟩:=g
   simp only [aW] at h21
   try dsimp only
   refine SWp.seq ?_
   obtain ⟨v28,hj24,h21⟩:=bS h21
   refine SWp.seqRC rfl (u _ rfl) [5,6,7,8,9,44] [] (fun _:Unit=>⟨[(5,.t (.sl true 1 (List.map vi out18))),(6,.t (.sl true 1 (List.map vi r9))),(7,.t (.sl true 1 (List.map vi r13))),(8,.t (vi i19)),(9,.t (vi k20)),(44,.t (vb v28))],[]⟩) (fun _=>True) (fun _ _=>?_) fun K25 hK25=>?_
   rotate_left
   ·refine wC rfl fun K q=>?_;simp [y];refine q _ ?_;clear q
    iterate 4 (refine wC rfl fun K q=>?_;simp [y];refine q _ ?_;clear q)
    rcases aA hj24 with ⟨hb26,hj24⟩ | ⟨hb27,hj24⟩
    ·have hb26s:=hb26
     try simp at hb26s
     iterate 4 (refine wO fun K q=>?_;simp [y,hb26,hb26s];refine q _ ?_;clear q)
     refine wC rfl fun K q=>?_;simp [y,hb26,hb26s];refine q _ ?_;clear q
     refine wN ?_
     cases hj24
     exact hK25 _ () [] trivial (by simp [y,hb26,hb26s])
    ·have hb27s:=hb27
     try simp at hb27s
     iterate 5 (refine wC rfl fun K q=>?_;simp [y,hb27,hb27s];refine q _ ?_;clear q)
     refine wN ?_
     cases hj24
     exact hK25 _ () [] trivial (by simp [y,hb27,hb27s])
   rcases aA h21 with ⟨hb29,h21⟩ | ⟨hb30,h21⟩
   ·refine SWp.cT' (b:=v28) (by simp) hb29 ?_
    refine SWp.skip ?_
    show SWp E C _ _ _
    refine SWp.block ?_
    refine SWp.seq ?_
    obtain ⟨v39,hj31,h21⟩:=bS h21
    refine SWp.seqC [5,6,7,8,9,65] [] (fun _:Unit=>⟨[(5,.t (.sl true 1 (List.map vi out18))),(6,.t (.sl true 1 (List.map vi r9))),(7,.t (.sl true 1 (List.map vi r13))),(8,.t (vi i19)),(9,.t (vi k20)),(65,.t (vb v39))],[]⟩) (fun _=>True) (fun _ _=>?_) fun K32 hK32=>?_
    rotate_left
    ·rcases aA hj31 with ⟨hb33,hj31⟩ | ⟨hb34,hj31⟩
     ·have hb33s:=hb33
      try simp at hb33s
      refine SWp.dT rfl (u _ rfl) [(45,.t (vi k20)),(46,.al (.slot 7) 0 [] none),(47,.t (vi (r13.length:Int))),(48,.t (vb (decide (k20 ≥ (r13.length:Int))))),(49,.t (vb (decide (k20 ≥ (r13.length:Int))))),(50,.tup []),(51,.tup []),(52,.tup []),(53,.tup []),(54,.tup []),(55,.tup []),(56,.tup []),(57,.tup []),(58,.tup []),(59,.tup []),(60,.tup []),(61,.tup []),(62,.tup [])] [[],[],[1],[0,1,2],[0,1,2,3],[0,1,2,3,4],[0,1,2,3,4],[0,1,2,3,4,6],[0,1,2,3,4,5,6,7],[0,1,2,3,4,5,6,7,8],[0,1,2,3,4,5,6,7,8,9],[0,1,2,3,4,5,6,7,8,9],[0,1,2,3,4,5,6,7,8,9,10,11],[0,1,2,3,4,5,6,7,8,9,10,11,12],[0,1,2,3,4,5,6,7,8,9],[0,1,2,3,4,5,6,7,8,9],[0,1,2,3,4,5,6,7,8,9,14,15],[0,1,2,3,4,5,6,7,8,9,14,15,16],[0,1,2,3,4,5,6,7,8,9,10,11,12,13,14,15,16,17],[0,1,2,3,4,5,6,7,8,9,10,11,12,13,14,15,16,17,18],[0,1,2,3,4,5,6,7,8,9,10,11,12,13,14,15,16,17,18,19]] (by simp) (by simp) (by simp [look]) rfl rfl rfl ?_ fun K q=>?_
      ·refine ⟨?_,?_,?_,?_,?_,?_,?_,?_,?_,?_,?_,?_,?_,?_,?_,?_,?_,?_,trivial⟩
       all_goals (intro τ hbx hb hd hf K q;try simp [vsAt] at hd;simp [vsAt] at hf;first | (refine wC rfl fun K' q'=>?_;simp [y,hbx,hb,hd,hf,hb33,hb33s];exact q' _ (wN (q _ (by simp [vsAt,hbx,hb33,hb33s])))) | (refine wO fun K' q'=>?_;simp [y,hbx,hb,hd,hf,hb33,hb33s];exact q' _ (wN (q _ (by simp [vsAt,hbx,hb33,hb33s])))))
      iterate 2 (refine wO fun K q=>?_;simp [y,hb33,hb33s];refine q _ ?_;clear q)
      refine wC rfl fun K q=>?_;simp [y,hb33,hb33s];refine q _ ?_;clear q
      refine wN (q _ ?_);clear q
      cases hj31
      exact hK32 _ () [] trivial (by simp [y,hb33,hb33s])
     ·have hb34s:=hb34
      try simp at hb34s
      rcases aA hj31 with ⟨hb35,hj31⟩ | ⟨hb36,hj31⟩
      ·have hb35s:=hb35
       try simp at hb35s
       obtain ⟨e37,he37,hj31⟩:=bS hj31
       obtain ⟨he37a,he37b,he37c,he37d⟩:=gS he37
       obtain ⟨e38,he38,hj31⟩:=bS hj31
       obtain ⟨he38a,he38b,he38c,he38d⟩:=gS he38
       refine SWp.dT rfl (u _ rfl) [(45,.t (vi k20)),(46,.al (.slot 7) 0 [] none),(47,.t (vi (r13.length:Int))),(48,.t (vb (decide (k20 ≥ (r13.length:Int))))),(49,.t (vb (decide (k20 ≥ (r13.length:Int))))),(50,.t (vi i19)),(51,.al (.slot 6) 0 [] none),(52,.t (vi (r9.length:Int))),(53,.t (vb (decide (i19 < (r9.length:Int))))),(54,.t (vb (decide (i19 < (r9.length:Int))))),(55,.al (.slot 6) 0 [] none),(56,.t (vi i19)),(57,.ref (.slot 6) 0 [(i19.toNat,0)]),(58,.t (vi e37)),(59,.al (.slot 7) 0 [] none),(60,.t (vi k20)),(61,.ref (.slot 7) 0 [(k20.toNat,0)]),(62,.t (vi e38))] [[],[],[1],[0,1,2],[0,1,2,3],[0,1,2,3,4],[0,1,2,3,4],[0,1,2,3,4,6],[0,1,2,3,4,5,6,7],[0,1,2,3,4,5,6,7,8],[0,1,2,3,4,5,6,7,8,9],[0,1,2,3,4,5,6,7,8,9],[0,1,2,3,4,5,6,7,8,9,10,11],[0,1,2,3,4,5,6,7,8,9,10,11,12],[0,1,2,3,4,5,6,7,8,9],[0,1,2,3,4,5,6,7,8,9],[0,1,2,3,4,5,6,7,8,9,14,15],[0,1,2,3,4,5,6,7,8,9,14,15,16],[0,1,2,3,4,5,6,7,8,9,10,11,12,13,14,15,16,17],[0,1,2,3,4,5,6,7,8,9,10,11,12,13,14,15,16,17,18],[0,1,2,3,4,5,6,7,8,9,10,11,12,13,14,15,16,17,18,19]] (by simp) (by simp) (by simp [look]) rfl rfl rfl ?_ fun K q=>?_
       ·refine ⟨?_,?_,?_,?_,?_,?_,?_,?_,?_,?_,?_,?_,?_,?_,?_,?_,?_,?_,trivial⟩
        all_goals (intro τ hbx hb hd hf K q;try simp [vsAt] at hd;simp [vsAt] at hf;first | (refine wC rfl fun K' q'=>?_;simp [y,hbx,hb,hd,hf,hb34,hb34s,hb35,hb35s,he37a,he37b,he37c,he37d,he38a,he38b,he38c,he38d];exact q' _ (wN (q _ (by simp [vsAt,hbx,hb34,hb34s,hb35,hb35s,he37a,he37b,he37c,he37d,he38a,he38b,he38c,he38d])))))
       iterate 3 (refine wC rfl fun K q=>?_;simp [y,hb34,hb34s,hb35,hb35s,he37a,he37b,he37c,he37d,he38a,he38b,he38c,he38d];refine q _ ?_;clear q)
       refine wN (q _ ?_);clear q
       cases hj31
       exact hK32 _ () [] trivial (by simp [y,hb34,hb34s,hb35,hb35s,he37a,he37b,he37c,he37d,he38a,he38b,he38c,he38d])
      ·have hb36s:=hb36
       try simp at hb36s
       refine SWp.dT rfl (u _ rfl) [(45,.t (vi k20)),(46,.al (.slot 7) 0 [] none),(47,.t (vi (r13.length:Int))),(48,.t (vb (decide (k20 ≥ (r13.length:Int))))),(49,.t (vb (decide (k20 ≥ (r13.length:Int))))),(50,.t (vi i19)),(51,.al (.slot 6) 0 [] none),(52,.t (vi (r9.length:Int))),(53,.t (vb (decide (i19 < (r9.length:Int))))),(54,.t (vb (decide (i19 < (r9.length:Int))))),(55,.tup []),(56,.tup []),(57,.tup []),(58,.tup []),(59,.tup []),(60,.tup []),(61,.tup []),(62,.tup [])] [[],[],[1],[0,1,2],[0,1,2,3],[0,1,2,3,4],[0,1,2,3,4],[0,1,2,3,4,6],[0,1,2,3,4,5,6,7],[0,1,2,3,4,5,6,7,8],[0,1,2,3,4,5,6,7,8,9],[0,1,2,3,4,5,6,7,8,9],[0,1,2,3,4,5,6,7,8,9,10,11],[0,1,2,3,4,5,6,7,8,9,10,11,12],[0,1,2,3,4,5,6,7,8,9],[0,1,2,3,4,5,6,7,8,9],[0,1,2,3,4,5,6,7,8,9,14,15],[0,1,2,3,4,5,6,7,8,9,14,15,16],[0,1,2,3,4,5,6,7,8,9,10,11,12,13,14,15,16,17],[0,1,2,3,4,5,6,7,8,9,10,11,12,13,14,15,16,17,18],[0,1,2,3,4,5,6,7,8,9,10,11,12,13,14,15,16,17,18,19]] (by simp) (by simp) (by simp [look]) rfl rfl rfl ?_ fun K q=>?_
       ·refine ⟨?_,?_,?_,?_,?_,?_,?_,?_,?_,?_,?_,?_,?_,?_,?_,?_,?_,?_,trivial⟩
        all_goals (intro τ hbx hb hd hf K q;try simp [vsAt] at hd;simp [vsAt] at hf;first | (refine wC rfl fun K' q'=>?_;simp [y,hbx,hb,hd,hf,hb34,hb34s,hb36,hb36s];exact q' _ (wN (q _ (by simp [vsAt,hbx,hb34,hb34s,hb36,hb36s])))) | (refine wO fun K' q'=>?_;simp [y,hbx,hb,hd,hf,hb34,hb34s,hb36,hb36s];exact q' _ (wN (q _ (by simp [vsAt,hbx,hb34,hb34s,hb36,hb36s])))))
       refine wO fun K q=>?_;simp [y,hb34,hb34s,hb36,hb36s];refine q _ ?_;clear q
       iterate 2 (refine wC rfl fun K q=>?_;simp [y,hb34,hb34s,hb36,hb36s];refine q _ ?_;clear q)
       refine wN (q _ ?_);clear q
       cases hj31
       exact hK32 _ () [] trivial (by simp [y,hb34,hb34s,hb36,hb36s])
    rcases aA h21 with ⟨hb40,h21⟩ | ⟨hb41,h21⟩
    ·refine SWp.cT' (b:=v39) (by simp) hb40 ?_
     refine SWp.sR rfl (u _ rfl) fun K q=>?_
     iterate 3 (refine wC rfl fun K q=>?_;simp [y];refine q _ ?_;clear q)
     obtain ⟨e42,he42,h21⟩:=bS h21
     obtain ⟨he42a,he42b,he42c,he42d⟩:=gS he42
     iterate 3 (refine wC rfl fun K q=>?_;simp [y,he42a,he42b,he42c,he42d];refine q _ ?_;clear q)
     obtain ⟨l43,hl43,h21⟩:=bS h21
     obtain ⟨hl43a,hl43b,hl43d⟩:=aS hl43
     have hl43f:List.map vi out18 ++ List.map vi [e42]=List.map vi l43:=dV (f:=vi) hl43d
     simp [eSl] at hl43a hl43b hl43f
     iterate 2 (refine wC rfl fun K q=>?_;simp [y,he42a,he42b,he42c,he42d,hl43a,hl43b,hl43f];refine q _ ?_;clear q)
     refine wN (q _ ?_);clear q
     refine SWp.sR rfl (u _ rfl) fun K q=>?_
     iterate 3 (refine wC rfl fun K q=>?_;simp [y];refine q _ ?_;clear q)
     refine wN (q _ ?_);clear q
     refine SWp.exit ?_
     cases h21
     exact ⟨_,[],rfl,by simp [y]⟩
    ·refine SWp.cF' (b:=v39) (by simp) hb41 ?_
     refine SWp.skip ?_
     show SWp E C _ _ _
     obtain ⟨i56,hj44,h21⟩:=bS h21
     refine SWp.seqC [5,6,7,8,9] [] (fun _:Unit=>⟨[(5,.t (.sl true 1 (List.map vi out18))),(6,.t (.sl true 1 (List.map vi r9))),(7,.t (.sl true 1 (List.map vi r13))),(8,.t (vi i56)),(9,.t (vi k20))],[]⟩) (fun _=>True) (fun _ _=>?_) fun K45 hK45=>?_
     rotate_left
     ·obtain ⟨v53,hj47,hj44⟩:=bS hj44
      refine SWp.seqC [5,6,7,8,9,89] [] (fun _:Unit=>⟨[(5,.t (.sl true 1 (List.map vi out18))),(6,.t (.sl true 1 (List.map vi r9))),(7,.t (.sl true 1 (List.map vi r13))),(8,.t (vi i19)),(9,.t (vi k20)),(89,.t (vb v53))],[]⟩) (fun _=>True) (fun _ _=>?_) fun K48 hK48=>?_
      rotate_left
      ·rcases aA hj47 with ⟨hb49,hj47⟩ | ⟨hb50,hj47⟩
       ·have hb49s:=hb49
        try simp at hb49s
        obtain ⟨e51,he51,hj47⟩:=bS hj47
        obtain ⟨he51a,he51b,he51c,he51d⟩:=gS he51
        obtain ⟨e52,he52,hj47⟩:=bS hj47
        obtain ⟨he52a,he52b,he52c,he52d⟩:=gS he52
        refine SWp.dT rfl (u _ rfl) [(75,.t (vi i19)),(76,.al (.slot 6) 0 [] none),(77,.t (vi (r9.length:Int))),(78,.t (vb (decide (i19 < (r9.length:Int))))),(79,.t (vb (decide (i19 < (r9.length:Int))))),(80,.al (.slot 6) 0 [] none),(81,.t (vi i19)),(82,.ref (.slot 6) 0 [(i19.toNat,0)]),(83,.t (vi e51)),(84,.al (.slot 7) 0 [] none),(85,.t (vi k20)),(86,.ref (.slot 7) 0 [(k20.toNat,0)]),(87,.t (vi e52))] [[],[],[1],[0,1,2],[0,1,2,3],[0,1,2,3,4],[0,1,2,3,4],[0,1,2,3,4,5,6],[0,1,2,3,4,5,6,7],[0,1,2,3,4],[0,1,2,3,4],[0,1,2,3,4,9,10],[0,1,2,3,4,9,10,11],[0,1,2,3,4,5,6,7,8,9,10,11,12],[0,1,2,3,4,5,6,7,8,9,10,11,12,13]] (by simp) (by simp) (by simp [look]) rfl rfl rfl ?_ fun K q=>?_
        ·refine ⟨?_,?_,?_,?_,?_,?_,?_,?_,?_,?_,?_,?_,?_,trivial⟩
         all_goals (intro τ hbx hb hd hf K q;try simp [vsAt] at hd;simp [vsAt] at hf;first | (refine wC rfl fun K' q'=>?_;simp [y,hbx,hb,hd,hf,hb49,hb49s,he51a,he51b,he51c,he51d,he52a,he52b,he52c,he52d];exact q' _ (wN (q _ (by simp [vsAt,hbx,hb49,hb49s,he51a,he51b,he51c,he51d,he52a,he52b,he52c,he52d])))))
        iterate 2 (refine wC rfl fun K q=>?_;simp [y,hb49,hb49s,he51a,he51b,he51c,he51d,he52a,he52b,he52c,he52d];refine q _ ?_;clear q)
        refine wN (q _ ?_);clear q
        cases hj47
        exact hK48 _ () [] trivial (by simp [y,hb49,hb49s,he51a,he51b,he51c,he51d,he52a,he52b,he52c,he52d])
       ·have hb50s:=hb50
        try simp at hb50s
        refine SWp.dT rfl (u _ rfl) [(75,.t (vi i19)),(76,.al (.slot 6) 0 [] none),(77,.t (vi (r9.length:Int))),(78,.t (vb (decide (i19 < (r9.length:Int))))),(79,.t (vb (decide (i19 < (r9.length:Int))))),(80,.tup []),(81,.tup []),(82,.tup []),(83,.tup []),(84,.tup []),(85,.tup []),(86,.tup []),(87,.tup [])] [[],[],[1],[0,1,2],[0,1,2,3],[0,1,2,3,4],[0,1,2,3,4],[0,1,2,3,4,5,6],[0,1,2,3,4,5,6,7],[0,1,2,3,4],[0,1,2,3,4],[0,1,2,3,4,9,10],[0,1,2,3,4,9,10,11],[0,1,2,3,4,5,6,7,8,9,10,11,12],[0,1,2,3,4,5,6,7,8,9,10,11,12,13]] (by simp) (by simp) (by simp [look]) rfl rfl rfl ?_ fun K q=>?_
        ·refine ⟨?_,?_,?_,?_,?_,?_,?_,?_,?_,?_,?_,?_,?_,trivial⟩
         all_goals (intro τ hbx hb hd hf K q;try simp [vsAt] at hd;simp [vsAt] at hf;first | (refine wC rfl fun K' q'=>?_;simp [y,hbx,hb,hd,hf,hb50,hb50s];exact q' _ (wN (q _ (by simp [vsAt,hbx,hb50,hb50s])))) | (refine wO fun K' q'=>?_;simp [y,hbx,hb,hd,hf,hb50,hb50s];exact q' _ (wN (q _ (by simp [vsAt,hbx,hb50,hb50s])))))
        refine wO fun K q=>?_;simp [y,hb50,hb50s];refine q _ ?_;clear q
        refine wC rfl fun K q=>?_;simp [y,hb50,hb50s];refine q _ ?_;clear q
        refine wN (q _ ?_);clear q
        cases hj47
        exact hK48 _ () [] trivial (by simp [y,hb50,hb50s])
      rcases aA hj44 with ⟨hb54,hj44⟩ | ⟨hb55,hj44⟩
      ·refine SWp.cT' (b:=v53) (by simp) hb54 ?_
       refine SWp.reg rfl (u _ rfl) fun K q=>?_
       iterate 3 (refine wC rfl fun K q=>?_;simp [y];refine q _ ?_;clear q)
       refine wN (q _ ?_);clear q
       cases hj44
       exact hK45 _ () [] trivial (by simp [y])
      ·refine SWp.cF' (b:=v53) (by simp) hb55 ?_
       refine SWp.skip ?_
       cases hj44
       exact hK45 _ () [] trivial (by simp [y])
     refine SWp.sR rfl (u _ rfl) fun K q=>?_
     iterate 3 (refine wC rfl fun K q=>?_;simp [y];refine q _ ?_;clear q)
     obtain ⟨e57,he57,h21⟩:=bS h21
     obtain ⟨he57a,he57b,he57c,he57d⟩:=gS he57
     iterate 3 (refine wC rfl fun K q=>?_;simp [y,he57a,he57b,he57c,he57d];refine q _ ?_;clear q)
     obtain ⟨l58,hl58,h21⟩:=bS h21
     obtain ⟨hl58a,hl58b,hl58d⟩:=aS hl58
     have hl58f:List.map vi out18 ++ List.map vi [e57]=List.map vi l58:=dV (f:=vi) hl58d
     simp [eSl] at hl58a hl58b hl58f
     iterate 2 (refine wC rfl fun K q=>?_;simp [y,he57a,he57b,he57c,he57d,hl58a,hl58b,hl58f];refine q _ ?_;clear q)
     refine wN (q _ ?_);clear q
     refine SWp.reg rfl (u _ rfl) fun K q=>?_
     iterate 3 (refine wC rfl fun K q=>?_;simp [y];refine q _ ?_;clear q)
     refine wN (q _ ?_);clear q
     cases h21
     exact ⟨_,[],rfl,by simp [y]⟩
   ·refine SWp.cF' (b:=v28) (by simp) hb30 ?_
    refine SWp.exit ?_
    have h59:=congrArg some (ho22 _ (Option.some.inj h21).symm)
    cases h59
    exact hK16 _ () [] trivial (by simp [y])
  refine SWp.sR rfl (u _ rfl) fun K q=>?_
  iterate 2 (refine wC rfl fun K q=>?_;simp [y];refine q _ ?_;clear q)
  refine wN (q _ ?_);clear q
  cases h
  refine SWp.ret ?_
  simp [aC,iB,res43]
theorem res45:Tryz.f45.results.toList=[.tmp 4]:=rfl
theorem ent45:aF E.P 45:=eO Tryz.func45 (by simp [Tryz.f45]) rfl
theorem spec_l11Add_ok (list1:List Int) (n2:Int) {r0:List Int} (h:jV list1 n2=some r0):Ok E 45 [.val (.sl true 1 (List.map vi list1)),.val (vi n2)] [.sl true 1 (List.map vi r0)] []:=by
 refine oB (fn:=Tryz.f45) Tryz.func45 rfl (by simp [Tryz.f45]) fun C hN hP=>?_
 have hPB:∀ l,pinK [] l=true→pinB C.pin l=true:=pO (by rw [hP];rfl)
 have hN':C.N=23:=hN
 clear hN
 unfold jV at h
 refine SWp.sR rfl (hPB _ rfl) fun K hK=>?_
 refine wC rfl fun K hK=>?_;simp [hN'];refine hK _ ?_;clear hK
 refine wN (hK _ ?_);clear hK
 obtain ⟨j5,hj3,h⟩:=bS h
 refine SWp.seqC [0,1] [] (fun v:Unit=>⟨[(0,.t (.sl true 1 (List.map vi list1))),(1,.t (vi n2))],[]⟩) (fun v=>j5=Sum.inl v) (fun v hv=>?_) fun K4 hK4=>?_
 rotate_left
 ·refine SWp.sR rfl (hPB _ rfl) fun K hK=>?_
  refine wC rfl fun K hK=>?_;simp [hN'];refine hK _ ?_;clear hK
  refine wN (hK _ ?_);clear hK
  refine SWp.block ?_
  refine SWp.loopO [] [0,1,5] [] (fun v:Int=>⟨[(0,.t (.sl true 1 (List.map vi list1))),(1,.t (vi n2)),(5,.t (vi v))],[]⟩) (dZ list1 n2) _ 0 hj3 (by simp [hN']) ?_
  intro g s9 h7 ho8
  obtain ⟨i6,hg⟩:∃ y,y=g:=⟨_,rfl⟩
  subst hg
  simp only [dZ] at h7
  try dsimp only
  refine SWp.seq ?_
  refine SWp.sR rfl (hPB _ rfl) fun K hK=>?_
  iterate 4 (refine wC rfl fun K hK=>?_;simp [hN'];refine hK _ ?_;clear hK)
  refine wN (hK _ ?_);clear hK
  rcases aA h7 with ⟨hb10,h7⟩ | ⟨hb11,h7⟩
  ·refine SWp.cT' (b:=decide (i6 < (list1.length:Int))) (by simp) hb10 ?_
   refine SWp.skip ?_
   show SWp E C _ _ _
   refine SWp.seq ?_
   refine SWp.block ?_
   refine SWp.sR rfl (hPB _ rfl) fun K hK=>?_
   iterate 2 (refine wC rfl fun K hK=>?_;simp [hN'];refine hK _ ?_;clear hK)
   obtain ⟨e12,he12,h7⟩:=bS h7
   obtain ⟨he12a,he12b,he12c,he12d⟩:=gS he12
   iterate 4 (refine wC rfl fun K hK=>?_;simp [hN',he12a,he12b,he12c,he12d];refine hK _ ?_;clear hK)
   refine wN (hK _ ?_);clear hK
   rcases aA h7 with ⟨hb13,h7⟩ | ⟨hb14,h7⟩
   ·refine SWp.cT' (b:=e12 == n2) (by simp) hb13 ?_
    refine SWp.sR rfl (hPB _ rfl) fun K hK=>?_
    iterate 2 (refine wC rfl fun K hK=>?_;simp [hN'];refine hK _ ?_;clear hK)
    refine wN (hK _ ?_);clear hK
    have h15:=congrArg some (ho8 _ (Option.some.inj h7).symm)
    cases h15
    try dsimp only at h
    cases h
    refine SWp.ret ?_
    simp [aC,iB,res45]
   ·refine SWp.cF' (b:=e12 == n2) (by simp) hb14 ?_
    refine SWp.skip ?_
    show SWp E C _ _ _
    refine SWp.reg rfl (hPB _ rfl) fun K hK=>?_
    iterate 3 (refine wC rfl fun K hK=>?_;simp [hN'];refine hK _ ?_;clear hK)
    refine wN (hK _ ?_);clear hK
    cases h7
    exact ⟨_,[],rfl,by simp [hN']⟩
  ·refine SWp.cF' (b:=decide (i6 < (list1.length:Int))) (by simp) hb11 ?_
   refine SWp.exit ?_
   have h16:=congrArg some (ho8 _ (Option.some.inj h7).symm)
   cases h16
   exact hK4 _ _ [] rfl (by simp [hN'])
 subst hv
 obtain ⟨⟩:=v
 try dsimp only at h ⊢
 refine SWp.sR rfl (hPB _ rfl) fun K hK=>?_
 iterate 3 (refine wC rfl fun K hK=>?_;simp [hN'];refine hK _ ?_;clear hK)
 obtain ⟨l17,hl17,h⟩:=bS h
 obtain ⟨hl17a,hl17b,hl17d⟩:=aS hl17
 have hl17f:List.map vi list1 ++ List.map vi [n2]=List.map vi l17:=dV (f:=vi) hl17d
 simp [eSl] at hl17a hl17b hl17f
 iterate 2 (refine wC rfl fun K hK=>?_;simp [hN',hl17a,hl17b,hl17f];refine hK _ ?_;clear hK)
 refine wN (hK _ ?_);clear hK
 cases h
 refine SWp.ret ?_
 simp [aC,iB,res45]
theorem res17:Tryz.f17.results.toList=[.tmp 4]:=rfl
theorem ent17:aF E.P 17:=eO Tryz.func17 (by simp [Tryz.f17]) rfl
theorem spec_CallsOf_ok (p1:GProgram) (fn2:Int) {r0:List Int} (h:iL p1 fn2=some r0):Ok E 17 [.val (GProgram.enc false p1),.val (vi fn2)] [.sl true 1 (List.map vi r0)] []:=by
 refine oB (fn:=Tryz.f17) Tryz.func17 rfl (by simp [Tryz.f17]) fun C hN hP=>?_
 have u:∀ l,pinK [] l=true→pinB C.pin l=true:=pO (by rw [hP];rfl)
 have y:C.N=46:=hN
 clear hN
 unfold iL at h
 refine SWp.sR rfl (u _ rfl) fun K q=>?_
 iterate 2 (refine wC rfl fun K q=>?_;simp [y];refine q _ ?_;clear q)
 refine wN (q _ ?_);clear q
 refine SWp.sR rfl (u _ rfl) fun K q=>?_
 iterate 2 (refine wC rfl fun K q=>?_;simp [y];refine q _ ?_;clear q)
 refine wN (q _ ?_);clear q
 refine SWp.sR rfl (u _ rfl) fun K q=>?_
 iterate 2 (refine wC rfl fun K q=>?_;simp [y];refine q _ ?_;clear q)
 obtain ⟨r3,hc4,h⟩:=bS h
 refine wL [(.take,.tmp 10),(.take,.tmp 11)] rfl rfl ent43 (spec_l07All_ok _ _ hc4) fun K q=>?_;simp [y];refine q _ ?_;clear q
 refine wC rfl fun K q=>?_;simp [y];refine q _ ?_;clear q
 refine wN (q _ ?_);clear q
 obtain ⟨out30,hj5,h⟩:=bS h
 refine SWp.seqC [5] [] (fun _:Unit=>⟨[(5,.t (.sl true 1 (List.map vi out30)))],[]⟩) (fun _=>True) (fun _ _=>?_) fun K6 hK6=>?_
 rotate_left
 ·refine SWp.sR rfl (u _ rfl) fun K q=>?_
  refine wC rfl fun K q=>?_;simp [y];refine q _ ?_;clear q
  refine wN (q _ ?_);clear q
  refine SWp.block ?_
  refine SWp.loopO [] [2,5,6,7] [2] (fun v:(List Int) × Int=>⟨[(2,.ref (.box 2) 0 []),(5,.t (.sl true 1 (List.map vi v.1))),(6,.t (.sl true 1 (List.map vi r3))),(7,.t (vi v.2))],[(2,[.sl false 4 (List.map (GNode.enc false) p1.Nodes),.sl false 5 (List.map (GFn.enc false) p1.Fns)])]⟩) (dE p1 r3) _ ([],0) hj5 (by simp [y]) ?_
  intro g s12 h10 ho11
  obtain ⟨out8,i9⟩:=g
  simp only [dE] at h10
  try dsimp only
  refine SWp.seq ?_
  refine SWp.sR rfl (u _ rfl) fun K q=>?_
  iterate 4 (refine wC rfl fun K q=>?_;simp [y];refine q _ ?_;clear q)
  refine wN (q _ ?_);clear q
  rcases aA h10 with ⟨hb13,h10⟩ | ⟨hb14,h10⟩
  ·refine SWp.cT' (b:=decide (i9 < (r3.length:Int))) (by simp) hb13 ?_
   refine SWp.skip ?_
   show SWp E C _ _ _
   refine SWp.seq ?_
   refine SWp.block ?_
   refine SWp.seq ?_
   refine SWp.seq ?_
   obtain ⟨e16,he16,h10⟩:=bS h10
   obtain ⟨he16a,he16b,he16c,he16d⟩:=gS he16
   refine SWp.dT rfl (u _ rfl) [(19,.ref (.box 2) 0 []),(20,.t (.sl false 4 (List.map (GNode.enc false) p1.Nodes))),(21,.al (.slot 6) 0 [] none),(22,.t (vi i9)),(23,.ref (.slot 6) 0 [(i9.toNat,0)]),(24,.t (vi e16))] [[],[0],[],[],[2,3],[2,3,4],[0,1,2,3,4,5],[0,1,2,3,4,5,6],[0,1,2,3,4,5,6,7],[0,1,2,3,4,5,6,7,8]] (by simp) (by simp) (by simp [look]) rfl rfl rfl ?_ fun K q=>?_
   ·refine ⟨?_,?_,?_,?_,?_,?_,trivial⟩
    all_goals (intro τ hbx hb hd hf K q;try simp [vsAt] at hd;simp [vsAt] at hf;first | (refine wC rfl fun K' q'=>?_;simp [y,hbx,hb,hd,hf,he16a,he16b,he16c,he16d];exact q' _ (wN (q _ (by simp [vsAt,hbx,he16a,he16b,he16c,he16d])))))
   obtain ⟨e17,he17,h10⟩:=bS h10
   obtain ⟨he17a,he17b,he17c,he17d⟩:=gS he17
   iterate 4 (refine wC rfl fun K q=>?_;simp [y,he16a,he16b,he16c,he16d,he17a,he17b,he17c,he17d];refine q _ ?_;clear q)
   refine wN (q _ ?_);clear q
   show SWp E C _ _ _
   rcases aA h10 with ⟨hb18,h10⟩ | ⟨hb19,h10⟩
   ·refine SWp.cT' (b:=e17.Kind != 12) (by simp) hb18 ?_
    refine SWp.exit ?_
    show SWp E C _ _ _
    refine SWp.reg rfl (u _ rfl) fun K q=>?_
    iterate 3 (refine wC rfl fun K q=>?_;simp [y];refine q _ ?_;clear q)
    refine wN (q _ ?_);clear q
    cases h10
    exact ⟨_,[],rfl,by simp [y]⟩
   ·refine SWp.cF' (b:=e17.Kind != 12) (by simp) hb19 ?_
    refine SWp.skip ?_
    show SWp E C _ _ _
    refine SWp.seq ?_
    obtain ⟨e21,he21,h10⟩:=bS h10
    obtain ⟨he21a,he21b,he21c,he21d⟩:=gS he21
    obtain ⟨e22,he22,h10⟩:=bS h10
    obtain ⟨he22a,he22b,he22c,he22d⟩:=gS he22
    refine SWp.dT rfl (u _ rfl) [(29,.t (GProgram.enc false p1)),(30,.ref (.box 2) 0 []),(31,.t (.sl false 4 (List.map (GNode.enc false) p1.Nodes))),(32,.al (.slot 6) 0 [] none),(33,.t (vi i9)),(34,.ref (.slot 6) 0 [(i9.toNat,0)]),(35,.t (vi e21)),(36,.rop [vi e22.Kind,vi e22.Num,vs e22.Name,.sl false 1 (List.map vi e22.Kids)] 0),(37,.rop [vi e22.Kind,vi e22.Num,vs e22.Name,.sl false 1 (List.map vi e22.Kids)] 2),(38,.t (vs e22.Name))] [[],[],[1],[],[],[3,4],[3,4,5],[1,2,3,4,5,6],[1,2,3,4,5,6,7],[1,2,3,4,5,6,7,8],[0,1,2,3,4,5,6,7,8,9],[0,1,2,3,4,5,6,7,8,9,10]] (by simp) (by simp) (by simp [look]) rfl rfl rfl ?_ fun K q=>?_
    ·refine ⟨?_,?_,?_,?_,?_,?_,?_,?_,?_,?_,trivial⟩
     all_goals (intro τ hbx hb hd hf K q;try simp [vsAt] at hd;simp [vsAt] at hf;first | (refine wC rfl fun K' q'=>?_;simp [y,hbx,hb,hd,hf,he21a,he21b,he21c,he21d,he22a,he22b,he22c,he22d];exact q' _ (wN (q _ (by simp [vsAt,hbx,he21a,he21b,he21c,he21d,he22a,he22b,he22c,he22d])))))
    obtain ⟨r23,hc24,h10⟩:=bS h10
    refine wL [(.take,.tmp 29),(.take,.tmp 38)] rfl rfl ent44 (nK _ _ hc24) fun K q=>?_;simp [y,he21a,he21b,he21c,he21d,he22a,he22b,he22c,he22d];refine q _ ?_;clear q
    refine wC rfl fun K q=>?_;simp [y,he21a,he21b,he21c,he21d,he22a,he22b,he22c,he22d];refine q _ ?_;clear q
    refine wN (q _ ?_);clear q
    show SWp E C _ _ _
    refine SWp.sR rfl (u _ rfl) fun K q=>?_
    iterate 2 (refine wC rfl fun K q=>?_;simp [y];refine q _ ?_;clear q)
    refine wN (q _ ?_);clear q
    rcases aA h10 with ⟨hb25,h10⟩ | ⟨hb26,h10⟩
    ·refine SWp.cT' (b:=decide (r23 ≥ 0)) (by simp) hb25 ?_
     refine SWp.reg rfl (u _ rfl) fun K q=>?_
     iterate 2 (refine wC rfl fun K q=>?_;simp [y];refine q _ ?_;clear q)
     obtain ⟨r27,hc28,h10⟩:=bS h10
     refine wL [(.take,.tmp 42),(.take,.tmp 43)] rfl rfl ent45 (spec_l11Add_ok _ _ hc28) fun K q=>?_;simp [y];refine q _ ?_;clear q
     refine wC rfl fun K q=>?_;simp [y];refine q _ ?_;clear q
     refine wN (q _ ?_);clear q
     show SWp E C _ _ _
     refine SWp.reg rfl (u _ rfl) fun K q=>?_
     iterate 3 (refine wC rfl fun K q=>?_;simp [y];refine q _ ?_;clear q)
     refine wN (q _ ?_);clear q
     cases h10
     exact ⟨_,[],rfl,by simp [y]⟩
    ·refine SWp.cF' (b:=decide (r23 ≥ 0)) (by simp) hb26 ?_
     refine SWp.skip ?_
     show SWp E C _ _ _
     refine SWp.reg rfl (u _ rfl) fun K q=>?_
     iterate 3 (refine wC rfl fun K q=>?_;simp [y];refine q _ ?_;clear q)
     refine wN (q _ ?_);clear q
     cases h10
     exact ⟨_,[],rfl,by simp [y]⟩
  ·refine SWp.cF' (b:=decide (i9 < (r3.length:Int))) (by simp) hb14 ?_
   refine SWp.exit ?_
   have h29:=congrArg some (ho11 _ (Option.some.inj h10).symm)
   cases h29
   exact hK6 _ () [] trivial (by simp [y])
 refine SWp.sR rfl (u _ rfl) fun K q=>?_
 iterate 2 (refine wC rfl fun K q=>?_;simp [y];refine q _ ?_;clear q)
 refine wN (q _ ?_);clear q
 cases h
 refine SWp.ret ?_
 simp [aC,iB,res17]
theorem res6:Tryz.f6.results.toList=[.tmp 2]:=rfl
theorem ent6:aF E.P 6:=eO Tryz.func6 (by simp [Tryz.f6]) rfl
theorem spec_ChainOf_ok (p1:GProgram) {r0:Int} (h:iK p1=some r0):Ok E 6 [.val (GProgram.enc false p1)] [vi r0] []:=by
 refine oB (fn:=Tryz.f6) Tryz.func6 rfl (by simp [Tryz.f6]) fun C hN hP=>?_
 have u:∀ l,pinK [] l=true→pinB C.pin l=true:=pO (by rw [hP];rfl)
 have y:C.N=71:=hN
 clear hN
 unfold iK at h
 refine SWp.sR rfl (u _ rfl) fun K q=>?_
 iterate 2 (refine wC rfl fun K q=>?_;simp [y];refine q _ ?_;clear q)
 refine wN (q _ ?_);clear q
 refine SWp.seq ?_
 refine SWp.sR rfl (u _ rfl) fun K q=>?_
 refine wC rfl fun K q=>?_;simp [y];refine q _ ?_;clear q
 obtain ⟨r2,hc3,h⟩:=bS h
 refine wL [(.take,.tmp 7)] rfl rfl ent16 (qA _ hc3) fun K q=>?_;simp [y];refine q _ ?_;clear q
 refine wC rfl fun K q=>?_;simp [y];refine q _ ?_;clear q
 refine wN (q _ ?_);clear q
 rcases aA h with ⟨hb4,h⟩ | ⟨hb5,h⟩
 ·refine SWp.cT' (b:=!r2) (by simp) hb4 ?_
  refine SWp.sR rfl (u _ rfl) fun K q=>?_
  refine wC rfl fun K q=>?_;simp [y];refine q _ ?_;clear q
  refine wN (q _ ?_);clear q
  cases h
  refine SWp.ret ?_
  simp [aC,iB,res6]
 ·refine SWp.cF' (b:=!r2) (by simp) hb5 ?_
  refine SWp.skip ?_
  show SWp E C _ _ _
  refine SWp.sR rfl (u _ rfl) fun K q=>?_
  iterate 3 (refine wC rfl fun K q=>?_;simp [y];refine q _ ?_;clear q)
  obtain ⟨l6,hl6,h⟩:=bS h
  obtain ⟨hl6a,hl6b,hl6c,hl6d⟩:=mS hl6
  have hl6f:List.replicate (p1.Fns.length:Int).toNat (vi 0)=List.map vi l6:=nN (f:=vi) hl6d
  try simp only [Int.toNat_natCast] at hl6f
  iterate 2 (refine wC rfl fun K q=>?_;simp [y,hl6a,hl6b,hl6c,hl6f];refine q _ ?_;clear q)
  refine wN (q _ ?_);clear q
  obtain ⟨long48,hj7,h⟩:=bS h
  refine SWp.seqC [3] [] (fun _:Unit=>⟨[(3,.t (.sl true 1 (List.map vi long48)))],[]⟩) (fun _=>True) (fun _ _=>?_) fun K8 hK8=>?_
  rotate_left
  ·refine SWp.sR rfl (u _ rfl) fun K q=>?_
   refine wC rfl fun K q=>?_;simp [y];refine q _ ?_;clear q
   refine wN (q _ ?_);clear q
   refine SWp.block ?_
   refine SWp.loopO [] [1,3,4] [1] (fun v:(List Int) × Int=>⟨[(1,.ref (.box 1) 0 []),(3,.t (.sl true 1 (List.map vi v.1))),(4,.t (vi v.2))],[(1,[.sl false 4 (List.map (GNode.enc false) p1.Nodes),.sl false 5 (List.map (GFn.enc false) p1.Fns)])]⟩) (dD p1) _ (l6,0) hj7 (by simp [y]) ?_
   intro g s14 h12 ho13
   obtain ⟨long10,i11⟩:=g
   simp only [dD] at h12
   try dsimp only
   refine SWp.seq ?_
   refine SWp.sR rfl (u _ rfl) fun K q=>?_
   iterate 5 (refine wC rfl fun K q=>?_;simp [y];refine q _ ?_;clear q)
   refine wN (q _ ?_);clear q
   rcases aA h12 with ⟨hb15,h12⟩ | ⟨hb16,h12⟩
   ·refine SWp.cT' (b:=decide (i11 < (p1.Fns.length:Int))) (by simp) hb15 ?_
    refine SWp.skip ?_
    show SWp E C _ _ _
    obtain ⟨long46,hj17,h12⟩:=bS h12
    refine SWp.seqC [1,3,4] [1] (fun _:Unit=>⟨[(1,.ref (.box 1) 0 []),(3,.t (.sl true 1 (List.map vi long46))),(4,.t (vi i11))],[(1,[.sl false 4 (List.map (GNode.enc false) p1.Nodes),.sl false 5 (List.map (GFn.enc false) p1.Fns)])]⟩) (fun _=>True) (fun _ _=>?_) fun K18 hK18=>?_
    rotate_left
    ·refine SWp.block ?_
     refine SWp.sR rfl (u _ rfl) fun K q=>?_
     iterate 2 (refine wC rfl fun K q=>?_;simp [y];refine q _ ?_;clear q)
     obtain ⟨e20,he20,hj17⟩:=bS hj17
     obtain ⟨he20a,he20b,he20c,he20d⟩:=gS he20
     refine wC rfl fun K q=>?_;simp [y,he20a,he20b,he20c,he20d];refine q _ ?_;clear q
     obtain ⟨l21,hl21,hj17⟩:=bZ hj17
     have hl21f:(List.map vi long10).set i11.toNat (vi 1)=List.map vi l21:=jH (f:=vi) hl21
     try simp only [Int.toNat_natCast] at hl21f
     refine wC rfl fun K q=>?_;simp [y,he20a,he20b,he20c,he20d,hl21f];refine q _ ?_;clear q
     refine wN (q _ ?_);clear q
     refine SWp.sR rfl (u _ rfl) fun K q=>?_
     iterate 2 (refine wC rfl fun K q=>?_;simp [y];refine q _ ?_;clear q)
     obtain ⟨r22,hc23,hj17⟩:=bS hj17
     refine wL [(.take,.tmp 24),(.take,.tmp 25)] rfl rfl ent17 (spec_CallsOf_ok _ _ hc23) fun K q=>?_;simp [y];refine q _ ?_;clear q
     refine wC rfl fun K q=>?_;simp [y];refine q _ ?_;clear q
     refine wN (q _ ?_);clear q
     refine SWp.sR rfl (u _ rfl) fun K q=>?_
     refine wC rfl fun K q=>?_;simp [y];refine q _ ?_;clear q
     refine wN (q _ ?_);clear q
     refine SWp.block ?_
     refine SWp.loopO [] [1,3,4,5,6] [1] (fun v:(List Int) × Int=>⟨[(1,.ref (.box 1) 0 []),(3,.t (.sl true 1 (List.map vi v.1))),(4,.t (vi i11)),(5,.t (.sl true 1 (List.map vi r22))),(6,.t (vi v.2))],[(1,[.sl false 4 (List.map (GNode.enc false) p1.Nodes),.sl false 5 (List.map (GFn.enc false) p1.Fns)])]⟩) (cJ i11 r22) _ (l21,0) hj17 (by simp [y]) ?_
     intro g s28 h26 ho27
     obtain ⟨long24,k25⟩:=g
     simp only [cJ] at h26
     try dsimp only
     refine SWp.seq ?_
     refine SWp.sR rfl (u _ rfl) fun K q=>?_
     iterate 4 (refine wC rfl fun K q=>?_;simp [y];refine q _ ?_;clear q)
     refine wN (q _ ?_);clear q
     rcases aA h26 with ⟨hb29,h26⟩ | ⟨hb30,h26⟩
     ·refine SWp.cT' (b:=decide (k25 < (r22.length:Int))) (by simp) hb29 ?_
      refine SWp.skip ?_
      show SWp E C _ _ _
      refine SWp.seq ?_
      refine SWp.block ?_
      obtain ⟨v38,hj31,h26⟩:=bS h26
      refine SWp.seqC [1,3,4,5,6,53] [1] (fun _:Unit=>⟨[(1,.ref (.box 1) 0 []),(3,.t (.sl true 1 (List.map vi long24))),(4,.t (vi i11)),(5,.t (.sl true 1 (List.map vi r22))),(6,.t (vi k25)),(53,.t (vb v38))],[(1,[.sl false 4 (List.map (GNode.enc false) p1.Nodes),.sl false 5 (List.map (GFn.enc false) p1.Fns)])]⟩) (fun _=>True) (fun _ _=>?_) fun K32 hK32=>?_
      rotate_left
      ·obtain ⟨e33,he33,hj31⟩:=bS hj31
       obtain ⟨he33a,he33b,he33c,he33d⟩:=gS he33
       rcases aA hj31 with ⟨hb34,hj31⟩ | ⟨hb35,hj31⟩
       ·have hb34s:=hb34
        try simp at hb34s
        obtain ⟨e36,he36,hj31⟩:=bS hj31
        obtain ⟨he36a,he36b,he36c,he36d⟩:=gS he36
        obtain ⟨e37,he37,hj31⟩:=bS hj31
        obtain ⟨he37a,he37b,he37c,he37d⟩:=gS he37
        refine SWp.dT rfl (u _ rfl) [(33,.al (.slot 5) 0 [] none),(34,.t (vi k25)),(35,.ref (.slot 5) 0 [(k25.toNat,0)]),(36,.t (vi e33)),(37,.t (vi i11)),(38,.t (vb (decide (e33 < i11)))),(39,.t (vb (decide (e33 < i11)))),(40,.al (.slot 3) 0 [] none),(41,.al (.slot 5) 0 [] none),(42,.t (vi k25)),(43,.ref (.slot 5) 0 [(k25.toNat,0)]),(44,.t (vi e33)),(45,.ref (.slot 3) 0 [(e33.toNat,0)]),(46,.t (vi e36)),(47,.t (vi (IntKind.wrap .i64 (e36 + 1)))),(48,.al (.slot 3) 0 [] none),(49,.t (vi i11)),(50,.ref (.slot 3) 0 [(i11.toNat,0)]),(51,.t (vi e37))] [[],[],[0,1],[0,1,2],[],[0,1,2,3,4],[0,1,2,3,4,5],[0,1,2,3,4,5,6],[0,1,2,3,4,5,6],[0,1,2,3,4,5,6],[0,1,2,3,4,5,6,8,9],[0,1,2,3,4,5,6,8,9,10],[0,1,2,3,4,5,6,7,8,9,10,11],[0,1,2,3,4,5,6,7,8,9,10,11,12],[0,1,2,3,4,5,6,7,8,9,10,11,12,13],[0,1,2,3,4,5,6],[0,1,2,3,4,5,6],[0,1,2,3,4,5,6,15,16],[0,1,2,3,4,5,6,15,16,17],[0,1,2,3,4,5,6,7,8,9,10,11,12,13,14,15,16,17,18],[0,1,2,3,4,5,6,7,8,9,10,11,12,13,14,15,16,17,18,19]] (by simp) (by simp) (by simp [look]) rfl rfl rfl ?_ fun K q=>?_
        ·refine ⟨?_,?_,?_,?_,?_,?_,?_,?_,?_,?_,?_,?_,?_,?_,?_,?_,?_,?_,?_,trivial⟩
         all_goals (intro τ hbx hb hd hf K q;try simp [vsAt] at hd;simp [vsAt] at hf;first | (refine wC rfl fun K' q'=>?_;simp [y,hbx,hb,hd,hf,he33a,he33b,he33c,he33d,hb34,hb34s,he36a,he36b,he36c,he36d,he37a,he37b,he37c,he37d];exact q' _ (wN (q _ (by simp [vsAt,hbx,he33a,he33b,he33c,he33d,hb34,hb34s,he36a,he36b,he36c,he36d,he37a,he37b,he37c,he37d])))))
        iterate 2 (refine wC rfl fun K q=>?_;simp [y,he33a,he33b,he33c,he33d,hb34,hb34s,he36a,he36b,he36c,he36d,he37a,he37b,he37c,he37d];refine q _ ?_;clear q)
        refine wN (q _ ?_);clear q
        cases hj31
        exact hK32 _ () [] trivial (by simp [y,he33a,he33b,he33c,he33d,hb34,hb34s,he36a,he36b,he36c,he36d,he37a,he37b,he37c,he37d])
       ·have hb35s:=hb35
        try simp at hb35s
        refine SWp.dT rfl (u _ rfl) [(33,.al (.slot 5) 0 [] none),(34,.t (vi k25)),(35,.ref (.slot 5) 0 [(k25.toNat,0)]),(36,.t (vi e33)),(37,.t (vi i11)),(38,.t (vb (decide (e33 < i11)))),(39,.t (vb (decide (e33 < i11)))),(40,.tup []),(41,.tup []),(42,.tup []),(43,.tup []),(44,.tup []),(45,.tup []),(46,.tup []),(47,.tup []),(48,.tup []),(49,.tup []),(50,.tup []),(51,.tup [])] [[],[],[0,1],[0,1,2],[],[0,1,2,3,4],[0,1,2,3,4,5],[0,1,2,3,4,5,6],[0,1,2,3,4,5,6],[0,1,2,3,4,5,6],[0,1,2,3,4,5,6,8,9],[0,1,2,3,4,5,6,8,9,10],[0,1,2,3,4,5,6,7,8,9,10,11],[0,1,2,3,4,5,6,7,8,9,10,11,12],[0,1,2,3,4,5,6,7,8,9,10,11,12,13],[0,1,2,3,4,5,6],[0,1,2,3,4,5,6],[0,1,2,3,4,5,6,15,16],[0,1,2,3,4,5,6,15,16,17],[0,1,2,3,4,5,6,7,8,9,10,11,12,13,14,15,16,17,18],[0,1,2,3,4,5,6,7,8,9,10,11,12,13,14,15,16,17,18,19]] (by simp) (by simp) (by simp [look]) rfl rfl rfl ?_ fun K q=>?_
        ·refine ⟨?_,?_,?_,?_,?_,?_,?_,?_,?_,?_,?_,?_,?_,?_,?_,?_,?_,?_,?_,trivial⟩
         all_goals (intro τ hbx hb hd hf K q;try simp [vsAt] at hd;simp [vsAt] at hf;first | (refine wC rfl fun K' q'=>?_;simp [y,hbx,hb,hd,hf,he33a,he33b,he33c,he33d,hb35,hb35s];exact q' _ (wN (q _ (by simp [vsAt,hbx,he33a,he33b,he33c,he33d,hb35,hb35s])))) | (refine wO fun K' q'=>?_;simp [y,hbx,hb,hd,hf,he33a,he33b,he33c,he33d,hb35,hb35s];exact q' _ (wN (q _ (by simp [vsAt,hbx,he33a,he33b,he33c,he33d,hb35,hb35s])))))
        refine wO fun K q=>?_;simp [y,he33a,he33b,he33c,he33d,hb35,hb35s];refine q _ ?_;clear q
        refine wC rfl fun K q=>?_;simp [y,he33a,he33b,he33c,he33d,hb35,hb35s];refine q _ ?_;clear q
        refine wN (q _ ?_);clear q
        cases hj31
        exact hK32 _ () [] trivial (by simp [y,he33a,he33b,he33c,he33d,hb35,hb35s])
      rcases aA h26 with ⟨hb39,h26⟩ | ⟨hb40,h26⟩
      ·refine SWp.cT' (b:=v38) (by simp) hb39 ?_
       refine SWp.reg rfl (u _ rfl) fun K q=>?_
       iterate 5 (refine wC rfl fun K q=>?_;simp [y];refine q _ ?_;clear q)
       obtain ⟨e41,he41,h26⟩:=bS h26
       obtain ⟨he41a,he41b,he41c,he41d⟩:=gS he41
       iterate 2 (refine wC rfl fun K q=>?_;simp [y,he41a,he41b,he41c,he41d];refine q _ ?_;clear q)
       obtain ⟨e42,he42,h26⟩:=bS h26
       obtain ⟨he42a,he42b,he42c,he42d⟩:=gS he42
       iterate 3 (refine wC rfl fun K q=>?_;simp [y,he41a,he41b,he41c,he41d,he42a,he42b,he42c,he42d];refine q _ ?_;clear q)
       obtain ⟨e43,he43,h26⟩:=bS h26
       obtain ⟨he43a,he43b,he43c,he43d⟩:=gS he43
       refine wC rfl fun K q=>?_;simp [y,he41a,he41b,he41c,he41d,he42a,he42b,he42c,he42d,he43a,he43b,he43c,he43d];refine q _ ?_;clear q
       obtain ⟨l44,hl44,h26⟩:=bZ h26
       have hl44f:(List.map vi long24).set i11.toNat (vi (IntKind.wrap .i64 (e42 + 1)))=List.map vi l44:=jH (f:=vi) hl44
       try simp only [Int.toNat_natCast] at hl44f
       refine wC rfl fun K q=>?_;simp [y,he41a,he41b,he41c,he41d,he42a,he42b,he42c,he42d,he43a,he43b,he43c,he43d,hl44f];refine q _ ?_;clear q
       refine wN (q _ ?_);clear q
       show SWp E C _ _ _
       refine SWp.reg rfl (u _ rfl) fun K q=>?_
       iterate 3 (refine wC rfl fun K q=>?_;simp [y];refine q _ ?_;clear q)
       refine wN (q _ ?_);clear q
       cases h26
       exact ⟨_,[],rfl,by simp [y]⟩
      ·refine SWp.cF' (b:=v38) (by simp) hb40 ?_
       refine SWp.skip ?_
       show SWp E C _ _ _
       refine SWp.reg rfl (u _ rfl) fun K q=>?_
       iterate 3 (refine wC rfl fun K q=>?_;simp [y];refine q _ ?_;clear q)
       refine wN (q _ ?_);clear q
       cases h26
       exact ⟨_,[],rfl,by simp [y]⟩
     ·refine SWp.cF' (b:=decide (k25 < (r22.length:Int))) (by simp) hb30 ?_
      refine SWp.exit ?_
      have h45:=congrArg some (ho27 _ (Option.some.inj h26).symm)
      cases h45
      exact hK18 _ () [] trivial (by simp [y])
    refine SWp.reg rfl (u _ rfl) fun K q=>?_
    iterate 3 (refine wC rfl fun K q=>?_;simp [y];refine q _ ?_;clear q)
    refine wN (q _ ?_);clear q
    cases h12
    exact ⟨_,[],rfl,by simp [y]⟩
   ·refine SWp.cF' (b:=decide (i11 < (p1.Fns.length:Int))) (by simp) hb16 ?_
    refine SWp.exit ?_
    have h47:=congrArg some (ho13 _ (Option.some.inj h12).symm)
    cases h47
    exact hK8 _ () [] trivial (by simp [y])
  refine SWp.sR rfl (u _ rfl) fun K q=>?_
  iterate 4 (refine wC rfl fun K q=>?_;simp [y];refine q _ ?_;clear q)
  obtain ⟨e49,he49,h⟩:=bS h
  obtain ⟨he49a,he49b,he49c,he49d⟩:=gS he49
  have he49j:=he49b;try simp at he49j
  try simp only [Int.toNat_natCast] at he49c he49d
  iterate 3 (refine wC rfl fun K q=>?_;simp [y,he49a,he49b,he49c,he49d,he49j];refine q _ ?_;clear q)
  refine wN (q _ ?_);clear q
  cases h
  refine SWp.ret ?_
  simp [aC,iB,res6]
theorem res77:Tryz.f77.results.toList=[.tmp 2]:=rfl
theorem ent77:aF E.P 77:=eO Tryz.func77 (by simp [Tryz.f77]) rfl
theorem laws_toIntS_ok (a1:List Int) {r0:List Int} (h:kD a1=some r0):Ok E 77 [.val (.sl false 1 (List.map vi a1))] [.sl true 1 (List.map vi r0)] []:=by
 refine oB (fn:=Tryz.f77) Tryz.func77 rfl (by simp [Tryz.f77]) fun C hN hP=>?_
 have u:∀ l,pinK [] l=true→pinB C.pin l=true:=pO (by rw [hP];rfl)
 have y:C.N=22:=hN
 clear hN
 unfold kD at h
 refine SWp.sR rfl (u _ rfl) fun K q=>?_
 refine wC rfl fun K q=>?_;simp [y];refine q _ ?_;clear q
 refine wN (q _ ?_);clear q
 refine SWp.sR rfl (u _ rfl) fun K q=>?_
 iterate 2 (refine wC rfl fun K q=>?_;simp [y];refine q _ ?_;clear q)
 obtain ⟨l2,hl2,h⟩:=bS h
 obtain ⟨hl2a,hl2b,hl2c,hl2d⟩:=mS hl2
 have hl2f:List.replicate (a1.length:Int).toNat (vi 0)=List.map vi l2:=nN (f:=vi) hl2d
 try simp only [Int.toNat_natCast] at hl2f
 iterate 2 (refine wC rfl fun K q=>?_;simp [y,hl2a,hl2b,hl2c,hl2f];refine q _ ?_;clear q)
 refine wN (q _ ?_);clear q
 obtain ⟨out17,hj3,h⟩:=bS h
 refine SWp.seqC [3] [] (fun _:Unit=>⟨[(3,.t (.sl true 1 (List.map vi out17)))],[]⟩) (fun _=>True) (fun _ _=>?_) fun K4 hK4=>?_
 rotate_left
 ·refine SWp.sR rfl (u _ rfl) fun K q=>?_
  refine wC rfl fun K q=>?_;simp [y];refine q _ ?_;clear q
  refine wN (q _ ?_);clear q
  refine SWp.block ?_
  refine SWp.loopO [] [0,3,4] [] (fun v:(List Int) × Int=>⟨[(0,.t (.sl false 1 (List.map vi a1))),(3,.t (.sl true 1 (List.map vi v.1))),(4,.t (vi v.2))],[]⟩) (eJ a1) _ (l2,0) hj3 (by simp [y]) ?_
  intro g s10 h8 ho9
  obtain ⟨out6,i7⟩:=g
  simp only [eJ] at h8
  try dsimp only
  refine SWp.seq ?_
  refine SWp.sR rfl (u _ rfl) fun K q=>?_
  iterate 4 (refine wC rfl fun K q=>?_;simp [y];refine q _ ?_;clear q)
  refine wN (q _ ?_);clear q
  rcases aA h8 with ⟨hb11,h8⟩ | ⟨hb12,h8⟩
  ·refine SWp.cT' (b:=decide (i7 < (a1.length:Int))) (by simp) hb11 ?_
   refine SWp.skip ?_
   show SWp E C _ _ _
   refine SWp.seq ?_
   refine SWp.block ?_
   refine SWp.reg rfl (u _ rfl) fun K q=>?_
   iterate 4 (refine wC rfl fun K q=>?_;simp [y];refine q _ ?_;clear q)
   obtain ⟨e13,he13,h8⟩:=bS h8
   obtain ⟨he13a,he13b,he13c,he13d⟩:=gS he13
   iterate 2 (refine wC rfl fun K q=>?_;simp [y,he13a,he13b,he13c,he13d];refine q _ ?_;clear q)
   obtain ⟨e14,he14,h8⟩:=bS h8
   obtain ⟨he14a,he14b,he14c,he14d⟩:=gS he14
   refine wC rfl fun K q=>?_;simp [y,he13a,he13b,he13c,he13d,he14a,he14b,he14c,he14d];refine q _ ?_;clear q
   obtain ⟨l15,hl15,h8⟩:=bZ h8
   have hl15f:(List.map vi out6).set i7.toNat (vi e13)=List.map vi l15:=jH (f:=vi) hl15
   try simp only [Int.toNat_natCast] at hl15f
   refine wC rfl fun K q=>?_;simp [y,he13a,he13b,he13c,he13d,he14a,he14b,he14c,he14d,hl15f];refine q _ ?_;clear q
   refine wN (q _ ?_);clear q
   show SWp E C _ _ _
   refine SWp.reg rfl (u _ rfl) fun K q=>?_
   iterate 3 (refine wC rfl fun K q=>?_;simp [y];refine q _ ?_;clear q)
   refine wN (q _ ?_);clear q
   cases h8
   exact ⟨_,[],rfl,by simp [y]⟩
  ·refine SWp.cF' (b:=decide (i7 < (a1.length:Int))) (by simp) hb12 ?_
   refine SWp.exit ?_
   have h16:=congrArg some (ho9 _ (Option.some.inj h8).symm)
   cases h16
   exact hK4 _ () [] trivial (by simp [y])
 refine SWp.sR rfl (u _ rfl) fun K q=>?_
 iterate 2 (refine wC rfl fun K q=>?_;simp [y];refine q _ ?_;clear q)
 refine wN (q _ ?_);clear q
 cases h
 refine SWp.ret ?_
 simp [aC,iB,res77]
theorem res46:Tryz.f46.results.toList=[.cell 2 73]:=rfl
theorem ent46:aF E.P 46:=eO Tryz.func46 (by simp [Tryz.f46]) rfl
theorem laws_toNode_ok (a1:GNode) {r0:GNode} (h:kC a1=some r0):Ok E 46 [.val (GNode.enc false a1)] [GNode.enc true r0] []:=by
 refine oB (fn:=Tryz.f46) Tryz.func46 rfl (by simp [Tryz.f46]) fun C hN hP=>?_
 have u:∀ l,pinK [] l=true→pinB C.pin l=true:=pO (by rw [hP];rfl)
 have y:C.N=18:=hN
 clear hN
 unfold kC at h
 refine SWp.sR rfl (u _ rfl) fun K q=>?_
 iterate 2 (refine wC rfl fun K q=>?_;simp [y];refine q _ ?_;clear q)
 refine wN (q _ ?_);clear q
 refine SWp.sR rfl (u _ rfl) fun K q=>?_
 refine wC rfl fun K q=>?_;simp [y];refine q _ ?_;clear q
 refine wN (q _ ?_);clear q
 refine SWp.sR rfl (u _ rfl) fun K q=>?_
 iterate 4 (refine wC rfl fun K q=>?_;simp [y];refine q _ ?_;clear q)
 refine wN (q _ ?_);clear q
 refine SWp.sR rfl (u _ rfl) fun K q=>?_
 iterate 4 (refine wC rfl fun K q=>?_;simp [y];refine q _ ?_;clear q)
 refine wN (q _ ?_);clear q
 refine SWp.sR rfl (u _ rfl) fun K q=>?_
 iterate 4 (refine wC rfl fun K q=>?_;simp [y];refine q _ ?_;clear q)
 refine wN (q _ ?_);clear q
 refine SWp.sR rfl (u _ rfl) fun K q=>?_
 iterate 2 (refine wC rfl fun K q=>?_;simp [y];refine q _ ?_;clear q)
 obtain ⟨r2,hc3,h⟩:=bS h
 refine wL [(.take,.tmp 14)] rfl rfl ent77 (laws_toIntS_ok _ hc3) fun K q=>?_;simp [y];refine q _ ?_;clear q
 iterate 2 (refine wC rfl fun K q=>?_;simp [y];refine q _ ?_;clear q)
 refine wN (q _ ?_);clear q
 refine SWp.sR rfl (u _ rfl) fun K q=>?_
 iterate 2 (refine wC rfl fun K q=>?_;simp [y];refine q _ ?_;clear q)
 refine wN (q _ ?_);clear q
 cases h
 refine SWp.ret ?_
 simp [aC,iB,res46]
theorem res18:Tryz.f18.results.toList=[.tmp 2]:=rfl
theorem ent18:aF E.P 18:=eO Tryz.func18 (by simp [Tryz.f18]) rfl
theorem laws_toNodeS_ok (a1:List GNode) {r0:List GNode} (h:iP a1=some r0):Ok E 18 [.val (.sl false 4 (List.map (GNode.enc false) a1))] [.sl true 4 (List.map (GNode.enc true) r0)] []:=by
 refine oB (fn:=Tryz.f18) Tryz.func18 rfl (by simp [Tryz.f18]) fun C hN hP=>?_
 have u:∀ l,pinK [] l=true→pinB C.pin l=true:=pO (by rw [hP];rfl)
 have y:C.N=23:=hN
 clear hN
 unfold iP at h
 refine SWp.sR rfl (u _ rfl) fun K q=>?_
 refine wC rfl fun K q=>?_;simp [y];refine q _ ?_;clear q
 refine wN (q _ ?_);clear q
 refine SWp.sR rfl (u _ rfl) fun K q=>?_
 iterate 2 (refine wC rfl fun K q=>?_;simp [y];refine q _ ?_;clear q)
 obtain ⟨l2,hl2,h⟩:=bS h
 obtain ⟨hl2a,hl2b,hl2c,hl2d⟩:=mS hl2
 have hl2f:List.replicate (a1.length:Int).toNat (.agg [vi 0,vi 0,vs ByteArray.empty,.sl true 1 []])=List.map (GNode.enc true) l2:=nN (f:=(GNode.enc true)) hl2d
 try simp only [Int.toNat_natCast] at hl2f
 iterate 2 (refine wC rfl fun K q=>?_;simp [y,hl2a,hl2b,hl2c,hl2f];refine q _ ?_;clear q)
 refine wN (q _ ?_);clear q
 obtain ⟨out19,hj3,h⟩:=bS h
 refine SWp.seqC [3] [] (fun _:Unit=>⟨[(3,.t (.sl true 4 (List.map (GNode.enc true) out19)))],[]⟩) (fun _=>True) (fun _ _=>?_) fun K4 hK4=>?_
 rotate_left
 ·refine SWp.sR rfl (u _ rfl) fun K q=>?_
  refine wC rfl fun K q=>?_;simp [y];refine q _ ?_;clear q
  refine wN (q _ ?_);clear q
  refine SWp.block ?_
  refine SWp.loopO [] [0,3,4] [] (fun v:(List GNode) × Int=>⟨[(0,.t (.sl false 4 (List.map (GNode.enc false) a1))),(3,.t (.sl true 4 (List.map (GNode.enc true) v.1))),(4,.t (vi v.2))],[]⟩) (dH a1) _ (l2,0) hj3 (by simp [y]) ?_
  intro g s10 h8 ho9
  obtain ⟨out6,i7⟩:=g
  simp only [dH] at h8
  try dsimp only
  refine SWp.seq ?_
  refine SWp.sR rfl (u _ rfl) fun K q=>?_
  iterate 4 (refine wC rfl fun K q=>?_;simp [y];refine q _ ?_;clear q)
  refine wN (q _ ?_);clear q
  rcases aA h8 with ⟨hb11,h8⟩ | ⟨hb12,h8⟩
  ·refine SWp.cT' (b:=decide (i7 < (a1.length:Int))) (by simp) hb11 ?_
   refine SWp.skip ?_
   show SWp E C _ _ _
   refine SWp.seq ?_
   refine SWp.block ?_
   refine SWp.reg rfl (u _ rfl) fun K q=>?_
   iterate 4 (refine wC rfl fun K q=>?_;simp [y];refine q _ ?_;clear q)
   obtain ⟨e13,he13,h8⟩:=bS h8
   obtain ⟨he13a,he13b,he13c,he13d⟩:=gS he13
   iterate 2 (refine wC rfl fun K q=>?_;simp [y,he13a,he13b,he13c,he13d];refine q _ ?_;clear q)
   obtain ⟨r14,hc15,h8⟩:=bS h8
   refine wL [(.take,.tmp 19)] rfl rfl ent46 (laws_toNode_ok _ hc15) fun K q=>?_;simp [y,he13a,he13b,he13c,he13d];refine q _ ?_;clear q
   obtain ⟨e16,he16,h8⟩:=bS h8
   obtain ⟨he16a,he16b,he16c,he16d⟩:=gS he16
   refine wC rfl fun K q=>?_;simp [y,he13a,he13b,he13c,he13d,he16a,he16b,he16c,he16d];refine q _ ?_;clear q
   obtain ⟨l17,hl17,h8⟩:=bZ h8
   have hl17f:(List.map (GNode.enc true) out6).set i7.toNat (.agg [vi r14.Kind,vi r14.Num,vs r14.Name,.sl true 1 (List.map vi r14.Kids)])=List.map (GNode.enc true) l17:=jH (f:=(GNode.enc true)) hl17
   try simp only [Int.toNat_natCast] at hl17f
   refine wC rfl fun K q=>?_;simp [y,he13a,he13b,he13c,he13d,he16a,he16b,he16c,he16d,hl17f];refine q _ ?_;clear q
   refine wN (q _ ?_);clear q
   show SWp E C _ _ _
   refine SWp.reg rfl (u _ rfl) fun K q=>?_
   iterate 3 (refine wC rfl fun K q=>?_;simp [y];refine q _ ?_;clear q)
   refine wN (q _ ?_);clear q
   cases h8
   exact ⟨_,[],rfl,by simp [y]⟩
  ·refine SWp.cF' (b:=decide (i7 < (a1.length:Int))) (by simp) hb12 ?_
   refine SWp.exit ?_
   have h18:=congrArg some (ho9 _ (Option.some.inj h8).symm)
   cases h18
   exact hK4 _ () [] trivial (by simp [y])
 refine SWp.sR rfl (u _ rfl) fun K q=>?_
 iterate 2 (refine wC rfl fun K q=>?_;simp [y];refine q _ ?_;clear q)
 refine wN (q _ ?_);clear q
 cases h
 refine SWp.ret ?_
 simp [aC,iB,res18]
theorem res97:Tryz.f97.results.toList=[.cell 2 71]:=rfl
theorem ent97:aF E.P 97:=eO Tryz.func97 (by simp [Tryz.f97]) rfl
theorem laws_toParam_ok (a1:GParam) {r0:GParam} (h:iO a1=some r0):Ok E 97 [.val (GParam.enc a1)] [GParam.enc r0] []:=by
 refine oB (fn:=Tryz.f97) Tryz.func97 rfl (by simp [Tryz.f97]) fun C hN hP=>?_
 have u:∀ l,pinK [] l=true→pinB C.pin l=true:=pO (by rw [hP];rfl)
 have y:C.N=11:=hN
 clear hN
 unfold iO at h
 refine SWp.sR rfl (u _ rfl) fun K q=>?_
 iterate 2 (refine wC rfl fun K q=>?_;simp [y];refine q _ ?_;clear q)
 refine wN (q _ ?_);clear q
 refine SWp.sR rfl (u _ rfl) fun K q=>?_
 refine wC rfl fun K q=>?_;simp [y];refine q _ ?_;clear q
 refine wN (q _ ?_);clear q
 refine SWp.sR rfl (u _ rfl) fun K q=>?_
 iterate 4 (refine wC rfl fun K q=>?_;simp [y];refine q _ ?_;clear q)
 refine wN (q _ ?_);clear q
 refine SWp.sR rfl (u _ rfl) fun K q=>?_
 iterate 4 (refine wC rfl fun K q=>?_;simp [y];refine q _ ?_;clear q)
 refine wN (q _ ?_);clear q
 refine SWp.sR rfl (u _ rfl) fun K q=>?_
 iterate 2 (refine wC rfl fun K q=>?_;simp [y];refine q _ ?_;clear q)
 refine wN (q _ ?_);clear q
 cases h
 refine SWp.ret ?_
 simp [aC,iB,res97]
theorem res78:Tryz.f78.results.toList=[.tmp 2]:=rfl
theorem ent78:aF E.P 78:=eO Tryz.func78 (by simp [Tryz.f78]) rfl
theorem laws_toParamS_ok (a1:List GParam) {r0:List GParam} (h:gP a1=some r0):Ok E 78 [.val (.sl false 2 (List.map GParam.enc a1))] [.sl true 2 (List.map GParam.enc r0)] []:=by
 refine oB (fn:=Tryz.f78) Tryz.func78 rfl (by simp [Tryz.f78]) fun C hN hP=>?_
 have u:∀ l,pinK [] l=true→pinB C.pin l=true:=pO (by rw [hP];rfl)
 have y:C.N=23:=hN
 clear hN
 unfold gP at h
 refine SWp.sR rfl (u _ rfl) fun K q=>?_
 refine wC rfl fun K q=>?_;simp [y];refine q _ ?_;clear q
 refine wN (q _ ?_);clear q
 refine SWp.sR rfl (u _ rfl) fun K q=>?_
 iterate 2 (refine wC rfl fun K q=>?_;simp [y];refine q _ ?_;clear q)
 obtain ⟨l2,hl2,h⟩:=bS h
 obtain ⟨hl2a,hl2b,hl2c,hl2d⟩:=mS hl2
 have hl2f:List.replicate (a1.length:Int).toNat (.agg [vs ByteArray.empty,vi 0])=List.map GParam.enc l2:=nN (f:=GParam.enc) hl2d
 try simp only [Int.toNat_natCast] at hl2f
 iterate 2 (refine wC rfl fun K q=>?_;simp [y,hl2a,hl2b,hl2c,hl2f];refine q _ ?_;clear q)
 refine wN (q _ ?_);clear q
 obtain ⟨out19,hj3,h⟩:=bS h
 refine SWp.seqC [3] [] (fun _:Unit=>⟨[(3,.t (.sl true 2 (List.map GParam.enc out19)))],[]⟩) (fun _=>True) (fun _ _=>?_) fun K4 hK4=>?_
 rotate_left
 ·refine SWp.sR rfl (u _ rfl) fun K q=>?_
  refine wC rfl fun K q=>?_;simp [y];refine q _ ?_;clear q
  refine wN (q _ ?_);clear q
  refine SWp.block ?_
  refine SWp.loopO [] [0,3,4] [] (fun v:(List GParam) × Int=>⟨[(0,.t (.sl false 2 (List.map GParam.enc a1))),(3,.t (.sl true 2 (List.map GParam.enc v.1))),(4,.t (vi v.2))],[]⟩) (cO a1) _ (l2,0) hj3 (by simp [y]) ?_
  intro g s10 h8 ho9
  obtain ⟨out6,i7⟩:=g
  simp only [cO] at h8
  try dsimp only
  refine SWp.seq ?_
  refine SWp.sR rfl (u _ rfl) fun K q=>?_
  iterate 4 (refine wC rfl fun K q=>?_;simp [y];refine q _ ?_;clear q)
  refine wN (q _ ?_);clear q
  rcases aA h8 with ⟨hb11,h8⟩ | ⟨hb12,h8⟩
  ·refine SWp.cT' (b:=decide (i7 < (a1.length:Int))) (by simp) hb11 ?_
   refine SWp.skip ?_
   show SWp E C _ _ _
   refine SWp.seq ?_
   refine SWp.block ?_
   refine SWp.reg rfl (u _ rfl) fun K q=>?_
   iterate 4 (refine wC rfl fun K q=>?_;simp [y];refine q _ ?_;clear q)
   obtain ⟨e13,he13,h8⟩:=bS h8
   obtain ⟨he13a,he13b,he13c,he13d⟩:=gS he13
   iterate 2 (refine wC rfl fun K q=>?_;simp [y,he13a,he13b,he13c,he13d];refine q _ ?_;clear q)
   obtain ⟨r14,hc15,h8⟩:=bS h8
   refine wL [(.take,.tmp 19)] rfl rfl ent97 (laws_toParam_ok _ hc15) fun K q=>?_;simp [y,he13a,he13b,he13c,he13d];refine q _ ?_;clear q
   obtain ⟨e16,he16,h8⟩:=bS h8
   obtain ⟨he16a,he16b,he16c,he16d⟩:=gS he16
   refine wC rfl fun K q=>?_;simp [y,he13a,he13b,he13c,he13d,he16a,he16b,he16c,he16d];refine q _ ?_;clear q
   obtain ⟨l17,hl17,h8⟩:=bZ h8
   have hl17f:(List.map GParam.enc out6).set i7.toNat (.agg [vs r14.Name,vi r14.Typ])=List.map GParam.enc l17:=jH (f:=GParam.enc) hl17
   try simp only [Int.toNat_natCast] at hl17f
   refine wC rfl fun K q=>?_;simp [y,he13a,he13b,he13c,he13d,he16a,he16b,he16c,he16d,hl17f];refine q _ ?_;clear q
   refine wN (q _ ?_);clear q
   show SWp E C _ _ _
   refine SWp.reg rfl (u _ rfl) fun K q=>?_
   iterate 3 (refine wC rfl fun K q=>?_;simp [y];refine q _ ?_;clear q)
   refine wN (q _ ?_);clear q
   cases h8
   exact ⟨_,[],rfl,by simp [y]⟩
  ·refine SWp.cF' (b:=decide (i7 < (a1.length:Int))) (by simp) hb12 ?_
   refine SWp.exit ?_
   have h18:=congrArg some (ho9 _ (Option.some.inj h8).symm)
   cases h18
   exact hK4 _ () [] trivial (by simp [y])
 refine SWp.sR rfl (u _ rfl) fun K q=>?_
 iterate 2 (refine wC rfl fun K q=>?_;simp [y];refine q _ ?_;clear q)
 refine wN (q _ ?_);clear q
 cases h
 refine SWp.ret ?_
 simp [aC,iB,res78]
theorem res47:Tryz.f47.results.toList=[.cell 2 50]:=rfl
theorem ent47:aF E.P 47:=eO Tryz.func47 (by simp [Tryz.f47]) rfl
theorem laws_toFn_ok (a1:GFn) {r0:GFn} (h:nV a1=some r0):Ok E 47 [.val (GFn.enc false a1)] [GFn.enc true r0] []:=by
 refine oB (fn:=Tryz.f47) Tryz.func47 rfl (by simp [Tryz.f47]) fun C hN hP=>?_
 have u:∀ l,pinK [] l=true→pinB C.pin l=true:=pO (by rw [hP];rfl)
 have y:C.N=21:=hN
 clear hN
 unfold nV at h
 refine SWp.sR rfl (u _ rfl) fun K q=>?_
 iterate 2 (refine wC rfl fun K q=>?_;simp [y];refine q _ ?_;clear q)
 refine wN (q _ ?_);clear q
 refine SWp.sR rfl (u _ rfl) fun K q=>?_
 refine wC rfl fun K q=>?_;simp [y];refine q _ ?_;clear q
 refine wN (q _ ?_);clear q
 refine SWp.sR rfl (u _ rfl) fun K q=>?_
 iterate 4 (refine wC rfl fun K q=>?_;simp [y];refine q _ ?_;clear q)
 refine wN (q _ ?_);clear q
 refine SWp.sR rfl (u _ rfl) fun K q=>?_
 iterate 2 (refine wC rfl fun K q=>?_;simp [y];refine q _ ?_;clear q)
 obtain ⟨r2,hc3,h⟩:=bS h
 refine wL [(.take,.tmp 8)] rfl rfl ent78 (laws_toParamS_ok _ hc3) fun K q=>?_;simp [y];refine q _ ?_;clear q
 iterate 2 (refine wC rfl fun K q=>?_;simp [y];refine q _ ?_;clear q)
 refine wN (q _ ?_);clear q
 refine SWp.sR rfl (u _ rfl) fun K q=>?_
 iterate 4 (refine wC rfl fun K q=>?_;simp [y];refine q _ ?_;clear q)
 refine wN (q _ ?_);clear q
 refine SWp.sR rfl (u _ rfl) fun K q=>?_
 iterate 4 (refine wC rfl fun K q=>?_;simp [y];refine q _ ?_;clear q)
 refine wN (q _ ?_);clear q
 refine SWp.sR rfl (u _ rfl) fun K q=>?_
 iterate 4 (refine wC rfl fun K q=>?_;simp [y];refine q _ ?_;clear q)
 refine wN (q _ ?_);clear q
 refine SWp.sR rfl (u _ rfl) fun K q=>?_
 iterate 2 (refine wC rfl fun K q=>?_;simp [y];refine q _ ?_;clear q)
 refine wN (q _ ?_);clear q
 cases h
 refine SWp.ret ?_
 simp [aC,iB,res47]
theorem res19:Tryz.f19.results.toList=[.tmp 2]:=rfl
theorem ent19:aF E.P 19:=eO Tryz.func19 (by simp [Tryz.f19]) rfl
theorem laws_toFnS_ok (a1:List GFn) {r0:List GFn} (h:lQ a1=some r0):Ok E 19 [.val (.sl false 5 (List.map (GFn.enc false) a1))] [.sl true 5 (List.map (GFn.enc true) r0)] []:=by
 refine oB (fn:=Tryz.f19) Tryz.func19 rfl (by simp [Tryz.f19]) fun C hN hP=>?_
 have u:∀ l,pinK [] l=true→pinB C.pin l=true:=pO (by rw [hP];rfl)
 have y:C.N=23:=hN
 clear hN
 unfold lQ at h
 refine SWp.sR rfl (u _ rfl) fun K q=>?_
 refine wC rfl fun K q=>?_;simp [y];refine q _ ?_;clear q
 refine wN (q _ ?_);clear q
 refine SWp.sR rfl (u _ rfl) fun K q=>?_
 iterate 2 (refine wC rfl fun K q=>?_;simp [y];refine q _ ?_;clear q)
 obtain ⟨l2,hl2,h⟩:=bS h
 obtain ⟨hl2a,hl2b,hl2c,hl2d⟩:=mS hl2
 have hl2f:List.replicate (a1.length:Int).toNat (.agg [vs ByteArray.empty,.sl true 2 [],vi 0,vi 0,vi 0])=List.map (GFn.enc true) l2:=nN (f:=(GFn.enc true)) hl2d
 try simp only [Int.toNat_natCast] at hl2f
 iterate 2 (refine wC rfl fun K q=>?_;simp [y,hl2a,hl2b,hl2c,hl2f];refine q _ ?_;clear q)
 refine wN (q _ ?_);clear q
 obtain ⟨out19,hj3,h⟩:=bS h
 refine SWp.seqC [3] [] (fun _:Unit=>⟨[(3,.t (.sl true 5 (List.map (GFn.enc true) out19)))],[]⟩) (fun _=>True) (fun _ _=>?_) fun K4 hK4=>?_
 rotate_left
 ·refine SWp.sR rfl (u _ rfl) fun K q=>?_
  refine wC rfl fun K q=>?_;simp [y];refine q _ ?_;clear q
  refine wN (q _ ?_);clear q
  refine SWp.block ?_
  refine SWp.loopO [] [0,3,4] [] (fun v:(List GFn) × Int=>⟨[(0,.t (.sl false 5 (List.map (GFn.enc false) a1))),(3,.t (.sl true 5 (List.map (GFn.enc true) v.1))),(4,.t (vi v.2))],[]⟩) (fH a1) _ (l2,0) hj3 (by simp [y]) ?_
  intro g s10 h8 ho9
  obtain ⟨out6,i7⟩:=g
  simp only [fH] at h8
  try dsimp only
  refine SWp.seq ?_
  refine SWp.sR rfl (u _ rfl) fun K q=>?_
  iterate 4 (refine wC rfl fun K q=>?_;simp [y];refine q _ ?_;clear q)
  refine wN (q _ ?_);clear q
  rcases aA h8 with ⟨hb11,h8⟩ | ⟨hb12,h8⟩
  ·refine SWp.cT' (b:=decide (i7 < (a1.length:Int))) (by simp) hb11 ?_
   refine SWp.skip ?_
   show SWp E C _ _ _
   refine SWp.seq ?_
   refine SWp.block ?_
   refine SWp.reg rfl (u _ rfl) fun K q=>?_
   iterate 4 (refine wC rfl fun K q=>?_;simp [y];refine q _ ?_;clear q)
   obtain ⟨e13,he13,h8⟩:=bS h8
   obtain ⟨he13a,he13b,he13c,he13d⟩:=gS he13
   iterate 2 (refine wC rfl fun K q=>?_;simp [y,he13a,he13b,he13c,he13d];refine q _ ?_;clear q)
   obtain ⟨r14,hc15,h8⟩:=bS h8
   refine wL [(.take,.tmp 19)] rfl rfl ent47 (laws_toFn_ok _ hc15) fun K q=>?_;simp [y,he13a,he13b,he13c,he13d];refine q _ ?_;clear q
   obtain ⟨e16,he16,h8⟩:=bS h8
   obtain ⟨he16a,he16b,he16c,he16d⟩:=gS he16
   refine wC rfl fun K q=>?_;simp [y,he13a,he13b,he13c,he13d,he16a,he16b,he16c,he16d];refine q _ ?_;clear q
   obtain ⟨l17,hl17,h8⟩:=bZ h8
   have hl17f:(List.map (GFn.enc true) out6).set i7.toNat (.agg [vs r14.Name,.sl true 2 (List.map GParam.enc r14.Params),vi r14.Res,vi r14.Body,vi r14.Ret])=List.map (GFn.enc true) l17:=jH (f:=(GFn.enc true)) hl17
   try simp only [Int.toNat_natCast] at hl17f
   refine wC rfl fun K q=>?_;simp [y,he13a,he13b,he13c,he13d,he16a,he16b,he16c,he16d,hl17f];refine q _ ?_;clear q
   refine wN (q _ ?_);clear q
   show SWp E C _ _ _
   refine SWp.reg rfl (u _ rfl) fun K q=>?_
   iterate 3 (refine wC rfl fun K q=>?_;simp [y];refine q _ ?_;clear q)
   refine wN (q _ ?_);clear q
   cases h8
   exact ⟨_,[],rfl,by simp [y]⟩
  ·refine SWp.cF' (b:=decide (i7 < (a1.length:Int))) (by simp) hb12 ?_
   refine SWp.exit ?_
   have h18:=congrArg some (ho9 _ (Option.some.inj h8).symm)
   cases h18
   exact hK4 _ () [] trivial (by simp [y])
 refine SWp.sR rfl (u _ rfl) fun K q=>?_
 iterate 2 (refine wC rfl fun K q=>?_;simp [y];refine q _ ?_;clear q)
 refine wN (q _ ?_);clear q
 cases h
 refine SWp.ret ?_
 simp [aC,iB,res19]
theorem res7:Tryz.f7.results.toList=[.cell 2 31]:=rfl
theorem ent7:aF E.P 7:=eO Tryz.func7 (by simp [Tryz.f7]) rfl
theorem iA (a1:GProgram) {r0:GProgram} (h:cV a1=some r0):Ok E 7 [.val (GProgram.enc false a1)] [GProgram.enc true r0] []:=by
 refine oB (fn:=Tryz.f7) Tryz.func7 rfl (by simp [Tryz.f7]) fun C hN hP=>?_
 have u:∀ l,pinK [] l=true→pinB C.pin l=true:=pO (by rw [hP];rfl)
 have y:C.N=13:=hN
 clear hN
 unfold cV at h
 refine SWp.sR rfl (u _ rfl) fun K q=>?_
 iterate 2 (refine wC rfl fun K q=>?_;simp [y];refine q _ ?_;clear q)
 refine wN (q _ ?_);clear q
 refine SWp.sR rfl (u _ rfl) fun K q=>?_
 refine wC rfl fun K q=>?_;simp [y];refine q _ ?_;clear q
 refine wN (q _ ?_);clear q
 refine SWp.sR rfl (u _ rfl) fun K q=>?_
 iterate 2 (refine wC rfl fun K q=>?_;simp [y];refine q _ ?_;clear q)
 obtain ⟨r2,hc3,h⟩:=bS h
 refine wL [(.take,.tmp 5)] rfl rfl ent18 (laws_toNodeS_ok _ hc3) fun K q=>?_;simp [y];refine q _ ?_;clear q
 iterate 2 (refine wC rfl fun K q=>?_;simp [y];refine q _ ?_;clear q)
 refine wN (q _ ?_);clear q
 refine SWp.sR rfl (u _ rfl) fun K q=>?_
 iterate 2 (refine wC rfl fun K q=>?_;simp [y];refine q _ ?_;clear q)
 obtain ⟨r4,hc5,h⟩:=bS h
 refine wL [(.take,.tmp 9)] rfl rfl ent19 (laws_toFnS_ok _ hc5) fun K q=>?_;simp [y];refine q _ ?_;clear q
 iterate 2 (refine wC rfl fun K q=>?_;simp [y];refine q _ ?_;clear q)
 refine wN (q _ ?_);clear q
 refine SWp.sR rfl (u _ rfl) fun K q=>?_
 iterate 2 (refine wC rfl fun K q=>?_;simp [y];refine q _ ?_;clear q)
 refine wN (q _ ?_);clear q
 cases h
 refine SWp.ret ?_
 simp [aC,iB,res7]
theorem res59:Tryz.f59.results.toList=[.tmp 6]:=rfl
theorem kO:aF E.P 59:=eO Tryz.func59 (by simp [Tryz.f59]) rfl
theorem aQ (n1:Int) (low2:Int) (high3:Int) {r0:Bool} (h:bT n1 low2 high3=some r0):Ok E 59 [.val (vi n1),.val (vi low2),.val (vi high3)] [vb r0] []:=by
 refine oB (fn:=Tryz.f59) Tryz.func59 rfl (by simp [Tryz.f59]) fun C hN hP=>?_
 have u:∀ l,pinK [] l=true→pinB C.pin l=true:=pO (by rw [hP];rfl)
 have y:C.N=15:=hN
 clear hN
 unfold bT at h
 refine SWp.sR rfl (u _ rfl) fun K q=>?_
 refine wC rfl fun K q=>?_;simp [y];refine q _ ?_;clear q
 refine wN (q _ ?_);clear q
 obtain ⟨v8,hj4,h⟩:=bS h
 refine SWp.seqRC rfl (u _ rfl) [6] [] (fun _:Unit=>⟨[(6,.t (vb v8))],[]⟩) (fun _=>True) (fun _ _=>?_) fun K5 hK5=>?_
 rotate_left
 ·refine wC rfl fun K q=>?_;simp [y];refine q _ ?_;clear q
  iterate 3 (refine wC rfl fun K q=>?_;simp [y];refine q _ ?_;clear q)
  rcases aA hj4 with ⟨hb6,hj4⟩ | ⟨hb7,hj4⟩
  ·have hb6s:=hb6
   try simp at hb6s
   iterate 5 (refine wC rfl fun K q=>?_;simp [y,hb6,hb6s];refine q _ ?_;clear q)
   refine wN ?_
   cases hj4
   exact hK5 _ () [] trivial (by simp [y,hb6,hb6s])
  ·have hb7s:=hb7
   try simp at hb7s
   iterate 3 (refine wO fun K q=>?_;simp [y,hb7,hb7s];refine q _ ?_;clear q)
   iterate 2 (refine wC rfl fun K q=>?_;simp [y,hb7,hb7s];refine q _ ?_;clear q)
   refine wN ?_
   cases hj4
   exact hK5 _ () [] trivial (by simp [y,hb7,hb7s])
 cases h
 refine SWp.ret ?_
 simp [aC,iB,res59]
theorem res64:Tryz.f64.results.toList=[.tmp 4]:=rfl
theorem ent64:aF E.P 64:=eO Tryz.func64 (by simp [Tryz.f64]) rfl
theorem fW (l1:List Int) (n2:Int) {r0:Bool} (h:eZ l1 n2=some r0):Ok E 64 [.val (.sl false 1 (List.map vi l1)),.val (vi n2)] [vb r0] []:=by
 refine oB (fn:=Tryz.f64) Tryz.func64 rfl (by simp [Tryz.f64]) fun C hN hP=>?_
 have hPB:∀ l,pinK [] l=true→pinB C.pin l=true:=pO (by rw [hP];rfl)
 have hN':C.N=17:=hN
 clear hN
 unfold eZ at h
 refine SWp.sR rfl (hPB _ rfl) fun K hK=>?_
 refine wC rfl fun K hK=>?_;simp [hN'];refine hK _ ?_;clear hK
 refine wN (hK _ ?_);clear hK
 obtain ⟨j5,hj3,h⟩:=bS h
 refine SWp.seqC [] [] (fun v:Unit=>⟨[],[]⟩) (fun v=>j5=Sum.inl v) (fun v hv=>?_) fun K4 hK4=>?_
 rotate_left
 ·refine SWp.sR rfl (hPB _ rfl) fun K hK=>?_
  iterate 3 (refine wC rfl fun K hK=>?_;simp [hN'];refine hK _ ?_;clear hK)
  refine wN (hK _ ?_);clear hK
  refine SWp.block ?_
  refine SWp.loopO [] [1,7,8,9] [] (fun v:Int=>⟨[(1,.t (vi n2)),(7,.t (.sl false 1 (List.map vi l1))),(8,.t (vi (l1.length:Int))),(9,.t (vi v))],[]⟩) (eL l1 n2) _ 0 hj3 (by simp [hN']) ?_
  intro g s9 h7 ho8
  obtain ⟨v6,hg⟩:∃ y,y=g:=⟨_,rfl⟩
  subst hg
  simp only [eL] at h7
  try dsimp only
  refine SWp.sR rfl (hPB _ rfl) fun K hK=>?_
  refine wC rfl fun K hK=>?_;simp [hN'];refine hK _ ?_;clear hK
  refine wN (hK _ ?_);clear hK
  refine SWp.seq ?_
  rcases aA h7 with ⟨hb10,h7⟩ | ⟨hb11,h7⟩
  ·refine SWp.cT' (b:=decide (v6 < (l1.length:Int))) (by simp) hb10 ?_
   refine SWp.skip ?_
   show SWp E C _ _ _
   refine SWp.seq ?_
   refine SWp.block ?_
   refine SWp.sR rfl (hPB _ rfl) fun K hK=>?_
   obtain ⟨e12,he12,h7⟩:=bS h7
   obtain ⟨he12a,he12b,he12c,he12d⟩:=gS he12
   iterate 3 (refine wC rfl fun K hK=>?_;simp [hN',he12a,he12b,he12c,he12d];refine hK _ ?_;clear hK)
   refine wN (hK _ ?_);clear hK
   refine SWp.sR rfl (hPB _ rfl) fun K hK=>?_
   iterate 3 (refine wC rfl fun K hK=>?_;simp [hN'];refine hK _ ?_;clear hK)
   refine wN (hK _ ?_);clear hK
   rcases aA h7 with ⟨hb13,h7⟩ | ⟨hb14,h7⟩
   ·refine SWp.cT' (b:=e12 == n2) (by simp) hb13 ?_
    refine SWp.sR rfl (hPB _ rfl) fun K hK=>?_
    refine wC rfl fun K hK=>?_;simp [hN'];refine hK _ ?_;clear hK
    refine wN (hK _ ?_);clear hK
    have h15:=congrArg some (ho8 _ (Option.some.inj h7).symm)
    cases h15
    try dsimp only at h
    cases h
    refine SWp.ret ?_
    simp [aC,iB,res64]
   ·refine SWp.cF' (b:=e12 == n2) (by simp) hb14 ?_
    refine SWp.skip ?_
    show SWp E C _ _ _
    refine SWp.reg rfl (hPB _ rfl) fun K hK=>?_
    iterate 2 (refine wC rfl fun K hK=>?_;simp [hN'];refine hK _ ?_;clear hK)
    refine wN (hK _ ?_);clear hK
    cases h7
    exact ⟨_,[],rfl,by simp [hN']⟩
  ·refine SWp.cF' (b:=decide (v6 < (l1.length:Int))) (by simp) hb11 ?_
   refine SWp.exit ?_
   have h16:=congrArg some (ho8 _ (Option.some.inj h7).symm)
   cases h16
   exact hK4 _ _ [] rfl (by simp [hN'])
 subst hv
 obtain ⟨⟩:=v
 try dsimp only at h ⊢
 refine SWp.sR rfl (hPB _ rfl) fun K hK=>?_
 refine wC rfl fun K hK=>?_;simp [hN'];refine hK _ ?_;clear hK
 refine wN (hK _ ?_);clear hK
 cases h
 refine SWp.ret ?_
 simp [aC,iB,res64]
theorem res108:Tryz.f108.results.toList=[.tmp 2]:=rfl
theorem ent108:aF E.P 108:=eO Tryz.func108 (by simp [Tryz.f108]) rfl
theorem mV (b1:Int) {r0:Bool} (h:fL b1=some r0):Ok E 108 [.val (vk .u8 b1)] [vb r0] []:=by
 refine oB (fn:=Tryz.f108) Tryz.func108 rfl (by simp [Tryz.f108]) fun C hN hP=>?_
 have u:∀ l,pinK [] l=true→pinB C.pin l=true:=pO (by rw [hP];rfl)
 have y:C.N=9:=hN
 clear hN
 unfold fL at h
 refine SWp.sR rfl (u _ rfl) fun K q=>?_
 refine wC rfl fun K q=>?_;simp [y];refine q _ ?_;clear q
 refine wN (q _ ?_);clear q
 obtain ⟨v6,hj2,h⟩:=bS h
 refine SWp.seqRC rfl (u _ rfl) [2] [] (fun _:Unit=>⟨[(2,.t (vb v6))],[]⟩) (fun _=>True) (fun _ _=>?_) fun K3 hK3=>?_
 rotate_left
 ·refine wC rfl fun K q=>?_;simp [y];refine q _ ?_;clear q
  iterate 2 (refine wC rfl fun K q=>?_;simp [y];refine q _ ?_;clear q)
  rcases aA hj2 with ⟨hb4,hj2⟩ | ⟨hb5,hj2⟩
  ·have hb4s:=hb4
   try simp at hb4s
   iterate 4 (refine wC rfl fun K q=>?_;simp [y,hb4,hb4s];refine q _ ?_;clear q)
   refine wN ?_
   cases hj2
   exact hK3 _ () [] trivial (by simp [y,hb4,hb4s])
  ·have hb5s:=hb5
   try simp at hb5s
   iterate 2 (refine wO fun K q=>?_;simp [y,hb5,hb5s];refine q _ ?_;clear q)
   iterate 2 (refine wC rfl fun K q=>?_;simp [y,hb5,hb5s];refine q _ ?_;clear q)
   refine wN ?_
   cases hj2
   exact hK3 _ () [] trivial (by simp [y,hb5,hb5s])
 cases h
 refine SWp.ret ?_
 simp [aC,iB,res108]
theorem res109:Tryz.f109.results.toList=[.tmp 2]:=rfl
theorem ent109:aF E.P 109:=eO Tryz.func109 (by simp [Tryz.f109]) rfl
theorem impl_isFigure_ok (b1:Int) {r0:Bool} (h:gU b1=some r0):Ok E 109 [.val (vk .u8 b1)] [vb r0] []:=by
 refine oB (fn:=Tryz.f109) Tryz.func109 rfl (by simp [Tryz.f109]) fun C hN hP=>?_
 have u:∀ l,pinK [] l=true→pinB C.pin l=true:=pO (by rw [hP];rfl)
 have y:C.N=9:=hN
 clear hN
 unfold gU at h
 refine SWp.sR rfl (u _ rfl) fun K q=>?_
 refine wC rfl fun K q=>?_;simp [y];refine q _ ?_;clear q
 refine wN (q _ ?_);clear q
 obtain ⟨v6,hj2,h⟩:=bS h
 refine SWp.seqRC rfl (u _ rfl) [2] [] (fun _:Unit=>⟨[(2,.t (vb v6))],[]⟩) (fun _=>True) (fun _ _=>?_) fun K3 hK3=>?_
 rotate_left
 ·refine wC rfl fun K q=>?_;simp [y];refine q _ ?_;clear q
  iterate 2 (refine wC rfl fun K q=>?_;simp [y];refine q _ ?_;clear q)
  rcases aA hj2 with ⟨hb4,hj2⟩ | ⟨hb5,hj2⟩
  ·have hb4s:=hb4
   try simp at hb4s
   iterate 4 (refine wC rfl fun K q=>?_;simp [y,hb4,hb4s];refine q _ ?_;clear q)
   refine wN ?_
   cases hj2
   exact hK3 _ () [] trivial (by simp [y,hb4,hb4s])
  ·have hb5s:=hb5
   try simp at hb5s
   iterate 2 (refine wO fun K q=>?_;simp [y,hb5,hb5s];refine q _ ?_;clear q)
   iterate 2 (refine wC rfl fun K q=>?_;simp [y,hb5,hb5s];refine q _ ?_;clear q)
   refine wN ?_
   cases hj2
   exact hK3 _ () [] trivial (by simp [y,hb5,hb5s])
 cases h
 refine SWp.ret ?_
 simp [aC,iB,res109]
end Go.Proofs.T
namespace Go.Proofs
open Go.Shelf
def Tryz.lays191_ren:Go.Shelf.Ren:=⟨fun | 191=>65 | 189=>93 | 125=>112 | 257=>111 | 128=>129 | 129=>130 | 294=>120 | 295=>121 | 296=>122 | 297=>123 | 298=>124 | 299=>125 | 216=>126 | 300=>127 | 301=>128 | 328=>133 | 329=>134 | 330=>135 | 331=>136 | 332=>137 | 215=>138 | 343=>140 | n=>n,fun | 28=>41 | 0=>0 | 3=>3 | 46=>122 | 51=>135 | 53=>137 | 4=>4 | 183=>127 | 182=>126 | 131=>132 | 5=>5 | 9=>9 | 218=>139 | 222=>143 | 228=>146 | 229=>117 | n=>n,fun | n=>n⟩
theorem Tryz.lays191:Go.Proofs.Lays.n191 Tryz.prog Tryz.lays191_ren:={
 mixed:=by kernel_rfl
 f125:=Tryz.func112.trans (congrArg some (by kernel_rfl))
 f128:=Tryz.func129.trans (congrArg some (by kernel_rfl))
 f129:=Tryz.func130.trans (congrArg some (by kernel_rfl))
 f189:=Tryz.func93.trans (congrArg some (by kernel_rfl))
 f191:=Tryz.func65.trans (congrArg some (by kernel_rfl))
 f215:=Tryz.func138.trans (congrArg some (by kernel_rfl))
 f216:=Tryz.func126.trans (congrArg some (by kernel_rfl))
 f257:=Tryz.func111.trans (congrArg some (by kernel_rfl))
 f294:=Tryz.func120.trans (congrArg some (by kernel_rfl))
 f295:=Tryz.func121.trans (congrArg some (by kernel_rfl))
 f296:=Tryz.func122.trans (congrArg some (by kernel_rfl))
 f297:=Tryz.func123.trans (congrArg some (by kernel_rfl))
 f298:=Tryz.func124.trans (congrArg some (by kernel_rfl))
 f299:=Tryz.func125.trans (congrArg some (by kernel_rfl))
 f300:=Tryz.func127.trans (congrArg some (by kernel_rfl))
 f301:=Tryz.func128.trans (congrArg some (by kernel_rfl))
 f328:=Tryz.func133.trans (congrArg some (by kernel_rfl))
 f329:=Tryz.func134.trans (congrArg some (by kernel_rfl))
 f330:=Tryz.func135.trans (congrArg some (by kernel_rfl))
 f331:=Tryz.func136.trans (congrArg some (by kernel_rfl))
 f332:=Tryz.func137.trans (congrArg some (by kernel_rfl))
 f343:=Tryz.func140.trans (congrArg some (by kernel_rfl))
 t0:=Tryz.underlying0
 a0:=Tryz.isAgg0
 z0:=Tryz.sizeOf0
 v0:=Tryz.zeroValue0
 t3:=Tryz.underlying3
 a3:=Tryz.isAgg3
 z3:=Tryz.sizeOf3
 v3:=Tryz.zeroValue3
 t4:=Tryz.underlying4
 a4:=Tryz.isAgg4
 z4:=Tryz.sizeOf4
 v4:=Tryz.zeroValue4
 t5:=Tryz.underlying5
 a5:=Tryz.isAgg5
 z5:=Tryz.sizeOf5
 v5:=Tryz.zeroValue5
 t9:=Tryz.underlying9
 a9:=Tryz.isAgg9
 z9:=Tryz.sizeOf9
 v9:=Tryz.zeroValue9
 t28:=Tryz.underlying41
 a28:=Tryz.isAgg41
 z28:=Tryz.sizeOf41
 v28:=Tryz.zeroValue41
 t46:=Tryz.underlying122
 a46:=Tryz.isAgg122
 z46:=Tryz.sizeOf122
 v46:=Tryz.zeroValue122
 t51:=Tryz.underlying135
 a51:=Tryz.isAgg135
 z51:=Tryz.sizeOf135
 v51:=Tryz.zeroValue135
 t53:=Tryz.underlying137
 a53:=Tryz.isAgg137
 z53:=Tryz.sizeOf137
 v53:=Tryz.zeroValue137
 t131:=Tryz.underlying132
 a131:=Tryz.isAgg132
 z131:=Tryz.sizeOf132
 v131:=Tryz.zeroValue132
 t182:=Tryz.underlying126
 a182:=Tryz.isAgg126
 z182:=Tryz.sizeOf126
 v182:=Tryz.zeroValue126
 t183:=Tryz.underlying127
 a183:=Tryz.isAgg127
 z183:=Tryz.sizeOf127
 v183:=Tryz.zeroValue127
 t218:=Tryz.underlying139
 a218:=Tryz.isAgg139
 z218:=Tryz.sizeOf139
 v218:=Tryz.zeroValue139
 t222:=Tryz.underlying143
 a222:=Tryz.isAgg143
 z222:=Tryz.sizeOf143
 v222:=Tryz.zeroValue143
 t228:=Tryz.underlying146
 a228:=Tryz.isAgg146
 z228:=Tryz.sizeOf146
 v228:=Tryz.zeroValue146
 t229:=Tryz.underlying117
 a229:=Tryz.isAgg117
 z229:=Tryz.sizeOf117
 v229:=Tryz.zeroValue117 }
open Go.Sort Go.RowKit in
theorem Tryz.sort_Ints (blk off cap:Nat) (zs:List Int) (w:World) (hH:Holds (Value.int .i64) w blk off zs.toArray) (hblk:blk < w.heap.size) (hsz:zs.length < 4611686018427387904) :
  Calls Tryz.prog 65 #[.slice (some ⟨blk,off,none⟩) zs.length cap] w fun e w' =>
   e = .returned (.tuple #[])∧∃ n os,w'=grow (putRow (Value.int .i64) (Sort.ahead w n) blk off (zs.mergeSort fun x y=>decide (x ≤ y)).toArray) os:=Any.sort_Ints Tryz.lays191 blk off cap zs w hH hblk hsz
def Tryz.lays146_ren:Go.Shelf.Ren:=⟨fun | 146=>132 | 221=>139 | 268=>141 | 138=>142 | 143=>143 | 195=>144 | 197=>145 | 218=>146 | 219=>147 | 260=>148 | 217=>149 | 225=>150 | 224=>151 | 267=>152 | 266=>153 | 314=>154 | n=>n,fun | 9=>9 | 31=>67 | 3=>3 | 4=>4 | 0=>0 | 105=>151 | 21=>21 | 5=>5 | 46=>122 | 119=>155 | 139=>158 | 138=>157 | 146=>159 | 51=>135 | n=>n,fun | 1=>0 | 3=>1 | 4=>2 | n=>n⟩
theorem Tryz.lays146:Go.Proofs.Lays.n146 Tryz.prog Tryz.lays146_ren:={
 mixed:=by kernel_rfl
 f138:=Tryz.func142.trans (congrArg some (by kernel_rfl))
 f143:=Tryz.func143.trans (congrArg some (by kernel_rfl))
 f146:=Tryz.func132.trans (congrArg some (by kernel_rfl))
 f195:=Tryz.func144.trans (congrArg some (by kernel_rfl))
 f197:=Tryz.func145.trans (congrArg some (by kernel_rfl))
 f217:=Tryz.func149.trans (congrArg some (by kernel_rfl))
 f218:=Tryz.func146.trans (congrArg some (by kernel_rfl))
 f219:=Tryz.func147.trans (congrArg some (by kernel_rfl))
 f221:=Tryz.func139.trans (congrArg some (by kernel_rfl))
 f224:=Tryz.func151.trans (congrArg some (by kernel_rfl))
 f225:=Tryz.func150.trans (congrArg some (by kernel_rfl))
 f260:=Tryz.func148.trans (congrArg some (by kernel_rfl))
 f266:=Tryz.func153.trans (congrArg some (by kernel_rfl))
 f267:=Tryz.func152.trans (congrArg some (by kernel_rfl))
 f268:=Tryz.func141.trans (congrArg some (by kernel_rfl))
 f314:=Tryz.func154.trans (congrArg some (by kernel_rfl))
 t0:=Tryz.underlying0
 a0:=Tryz.isAgg0
 z0:=Tryz.sizeOf0
 v0:=Tryz.zeroValue0
 t3:=Tryz.underlying3
 a3:=Tryz.isAgg3
 z3:=Tryz.sizeOf3
 v3:=Tryz.zeroValue3
 t4:=Tryz.underlying4
 a4:=Tryz.isAgg4
 z4:=Tryz.sizeOf4
 v4:=Tryz.zeroValue4
 t5:=Tryz.underlying5
 a5:=Tryz.isAgg5
 z5:=Tryz.sizeOf5
 v5:=Tryz.zeroValue5
 t9:=Tryz.underlying9
 a9:=Tryz.isAgg9
 z9:=Tryz.sizeOf9
 v9:=Tryz.zeroValue9
 t21:=Tryz.underlying21
 a21:=Tryz.isAgg21
 z21:=Tryz.sizeOf21
 v21:=Tryz.zeroValue21
 t31:=Tryz.underlying67
 a31:=Tryz.isAgg67
 z31:=Tryz.sizeOf67
 v31:=Tryz.zeroValue67
 t46:=Tryz.underlying122
 a46:=Tryz.isAgg122
 z46:=Tryz.sizeOf122
 v46:=Tryz.zeroValue122
 t51:=Tryz.underlying135
 a51:=Tryz.isAgg135
 z51:=Tryz.sizeOf135
 v51:=Tryz.zeroValue135
 t105:=Tryz.underlying151
 a105:=Tryz.isAgg151
 z105:=Tryz.sizeOf151
 v105:=Tryz.zeroValue151
 t119:=Tryz.underlying155
 a119:=Tryz.isAgg155
 z119:=Tryz.sizeOf155
 t138:=Tryz.underlying157
 a138:=Tryz.isAgg157
 z138:=Tryz.sizeOf157
 v138:=Tryz.zeroValue157
 t139:=Tryz.underlying158
 a139:=Tryz.isAgg158
 z139:=Tryz.sizeOf158
 v139:=Tryz.zeroValue158
 t146:=Tryz.underlying159
 a146:=Tryz.isAgg159
 z146:=Tryz.sizeOf159
 v146:=Tryz.zeroValue159
 g1:=by kernel_rfl
 g3:=by kernel_rfl
 g4:=by kernel_rfl }
open Go.RowKit Go.Lib in
theorem Tryz.strings_Split (s sep:ByteArray) (m:Int) (w:World) (hs:s.size < 4294967281) (hm:w.cell? ⟨0,0,none⟩=some (.int .i64 m)) (h1:1 ≤ sep.size) :
  Calls Tryz.prog 132 #[.string s,.string sep] w fun e w' =>
   e = .returned (.slice (some ⟨w.heap.size,0,none⟩) (Lib.countB s sep + 1) (Lib.countB s sep + 1))∧w'=w.alloc (.cells ((Lib.splitB sep 0 (Lib.countB s sep) s).map Value.string).toArray 9):=Any.strings_Split Tryz.lays146 (by kernel_rfl) s sep m w hs hm h1
open Go.RowKit Go.Sort in
theorem Tryz.sort_Ints_none (p:Option Addr) (cap:Nat) (w:World) :
  Calls Tryz.prog 65 #[.slice p 0 cap] w fun e w'=>e = .returned (.tuple #[])∧w'=w:=Any.sort_Ints_none Tryz.lays191 p cap w
end Go.Proofs
namespace Go.Proofs.T
open Go.OM
theorem ent132:aF E.P 132:=eO Tryz.func132 (by simp [Tryz.f132]) rfl
theorem maxLen_cell {w:World} (h:E.Gl w):∃ m,w.cell? ⟨0,0,none⟩=some (.int .i64 m):=by
 obtain ⟨cs,t,fr,h1,m,h2⟩:=h _ (List.mem_singleton.2 rfl)
 refine ⟨m,?_⟩
 have h1':w.heap[0]? = some (.cells cs t fr):=h1
 simp [World.cell?,h1',h2]
theorem strings_Split_ok (s sep:ByteArray) {r0:List ByteArray} (h:strings_Split s sep=some r0):Ok E 132 [.val (vs s),.val (vs sep)] [.sl true 1 (List.map vs r0)] []:=by
 unfold strings_Split at h
 split at h
 case isFalse=>cases h
 rename_i hr
 injection h with h
 subst h
 have:=ok_fresh (E:=E) (f:=132) (ty:=9) (xs:=[.string s,.string sep]) (es:=(Lib.splitB sep 0 (Lib.countB s sep) s).map Value.string) (by simp [TA.OneCell]) fun w hw=>by
  obtain ⟨m,hm⟩:=maxLen_cell hw
  have h1:=Tryz.strings_Split s sep m w hr.1 hm hr.2.1
  refine h1.mono fun e w' ⟨h2,h3⟩=>⟨?_,h3⟩
  rw [h2,List.length_map,hr.2.2]
  try rfl
 rw [List.map_map] at this
 exact this
theorem ent65:aF E.P 65:=eO Tryz.func65 (by simp [Tryz.f65]) rfl
theorem sort_Ints_ok (l:List Int) {r0:List Int} (h:sort_Ints l=some r0):OkIO E 65 [.val (.sl true 1 (List.map vi l))] [] [] [(0,.sl true 1 (List.map vi r0))]:=by
 unfold sort_Ints at h
 split at h
 case isFalse=>cases h
 rename_i hr
 injection h with h
 subst h
 exact ok_sorts (fun blk off cap zs w h1 h2 h3=>Tryz.sort_Ints blk off cap zs w h1 h2 h3) (fun p cap w=>Tryz.sort_Ints_none p cap w) l hr
theorem res119:Tryz.f119.results.toList=[.tmp 4]:=rfl
theorem ent119:aF E.P 119:=eO Tryz.func119 (by simp [Tryz.f119]) rfl
theorem impl_oneOf_ok (s1:ByteArray) (words2:ByteArray) {r0:Bool} (h:oU s1 words2=some r0):Ok E 119 [.val (vs s1),.val (vs words2)] [vb r0] []:=by
 refine oB (fn:=Tryz.f119) Tryz.func119 rfl (by simp [Tryz.f119]) fun C hN hP=>?_
 have hPB:∀ l,pinK [] l=true→pinB C.pin l=true:=pO (by rw [hP];rfl)
 have hN':C.N=18:=hN
 clear hN
 unfold oU at h
 refine SWp.sR rfl (hPB _ rfl) fun K hK=>?_
 refine wC rfl fun K hK=>?_;simp [hN'];refine hK _ ?_;clear hK
 refine wN (hK _ ?_);clear hK
 obtain ⟨j5,hj3,h⟩:=bS h
 refine SWp.seqC [] [] (fun v:Unit=>⟨[],[]⟩) (fun v=>j5=Sum.inl v) (fun v hv=>?_) fun K4 hK4=>?_
 rotate_left
 ·refine SWp.sR rfl (hPB _ rfl) fun K hK=>?_
  refine wC rfl fun K hK=>?_;simp [hN'];refine hK _ ?_;clear hK
  obtain ⟨r6,hc7,hj3⟩:=bS hj3
  refine wL [(.take,.tmp 7),(.take,.const (.string (⟨#[32]⟩:ByteArray)))] rfl rfl ent132 (strings_Split_ok _ _ hc7) fun K hK=>?_;simp [hN'];refine hK _ ?_;clear hK
  iterate 2 (refine wC rfl fun K hK=>?_;simp [hN'];refine hK _ ?_;clear hK)
  refine wN (hK _ ?_);clear hK
  refine SWp.block ?_
  refine SWp.loopO [] [0,8,9,10] [] (fun v:Int=>⟨[(0,.t (vs s1)),(8,.t (.sl true 1 (List.map vs r6))),(9,.t (vi (r6.length:Int))),(10,.t (vi v))],[]⟩) (gT s1 r6) _ 0 hj3 (by simp [hN']) ?_
  intro g s11 h9 ho10
  obtain ⟨v8,hg⟩:∃ y,y=g:=⟨_,rfl⟩
  subst hg
  simp only [gT] at h9
  try dsimp only
  refine SWp.sR rfl (hPB _ rfl) fun K hK=>?_
  refine wC rfl fun K hK=>?_;simp [hN'];refine hK _ ?_;clear hK
  refine wN (hK _ ?_);clear hK
  refine SWp.seq ?_
  rcases aA h9 with ⟨hb12,h9⟩ | ⟨hb13,h9⟩
  ·refine SWp.cT' (b:=decide (v8 < (r6.length:Int))) (by simp) hb12 ?_
   refine SWp.skip ?_
   show SWp E C _ _ _
   refine SWp.seq ?_
   refine SWp.block ?_
   refine SWp.sR rfl (hPB _ rfl) fun K hK=>?_
   obtain ⟨e14,he14,h9⟩:=bS h9
   obtain ⟨he14a,he14b,he14c,he14d⟩:=gS he14
   iterate 3 (refine wC rfl fun K hK=>?_;simp [hN',he14a,he14b,he14c,he14d];refine hK _ ?_;clear hK)
   refine wN (hK _ ?_);clear hK
   refine SWp.sR rfl (hPB _ rfl) fun K hK=>?_
   iterate 3 (refine wC rfl fun K hK=>?_;simp [hN'];refine hK _ ?_;clear hK)
   refine wN (hK _ ?_);clear hK
   rcases aA h9 with ⟨hb15,h9⟩ | ⟨hb16,h9⟩
   ·refine SWp.cT' (b:=sEq e14 s1) (by simp) hb15 ?_
    refine SWp.sR rfl (hPB _ rfl) fun K hK=>?_
    refine wC rfl fun K hK=>?_;simp [hN'];refine hK _ ?_;clear hK
    refine wN (hK _ ?_);clear hK
    have h17:=congrArg some (ho10 _ (Option.some.inj h9).symm)
    cases h17
    try dsimp only at h
    cases h
    refine SWp.ret ?_
    simp [aC,iB,res119]
   ·refine SWp.cF' (b:=sEq e14 s1) (by simp) hb16 ?_
    refine SWp.skip ?_
    show SWp E C _ _ _
    refine SWp.reg rfl (hPB _ rfl) fun K hK=>?_
    iterate 2 (refine wC rfl fun K hK=>?_;simp [hN'];refine hK _ ?_;clear hK)
    refine wN (hK _ ?_);clear hK
    cases h9
    exact ⟨_,[],rfl,by simp [hN']⟩
  ·refine SWp.cF' (b:=decide (v8 < (r6.length:Int))) (by simp) hb13 ?_
   refine SWp.exit ?_
   have h18:=congrArg some (ho10 _ (Option.some.inj h9).symm)
   cases h18
   exact hK4 _ _ [] rfl (by simp [hN'])
 subst hv
 obtain ⟨⟩:=v
 try dsimp only at h ⊢
 refine SWp.sR rfl (hPB _ rfl) fun K hK=>?_
 refine wC rfl fun K hK=>?_;simp [hN'];refine hK _ ?_;clear hK
 refine wN (hK _ ?_);clear hK
 cases h
 refine SWp.ret ?_
 simp [aC,iB,res119]
theorem res110:Tryz.f110.results.toList=[.tmp 2]:=rfl
theorem ent110:aF E.P 110:=eO Tryz.func110 (by simp [Tryz.f110]) rfl
theorem impl_KeyWord_ok (s1:ByteArray) {r0:Bool} (h:jA s1=some r0):Ok E 110 [.val (vs s1)] [vb r0] []:=by
 refine oB (fn:=Tryz.f110) Tryz.func110 rfl (by simp [Tryz.f110]) fun C hN hP=>?_
 have u:∀ l,pinK [] l=true→pinB C.pin l=true:=pO (by rw [hP];rfl)
 have y:C.N=5:=hN
 clear hN
 unfold jA at h
 refine SWp.sR rfl (u _ rfl) fun K q=>?_
 refine wC rfl fun K q=>?_;simp [y];refine q _ ?_;clear q
 refine wN (q _ ?_);clear q
 refine SWp.sR rfl (u _ rfl) fun K q=>?_
 refine wC rfl fun K q=>?_;simp [y];refine q _ ?_;clear q
 obtain ⟨r2,hc3,h⟩:=bS h
 refine wL [(.take,.tmp 3),(.take,.const (.string (⟨#[102,110,32,108,101,116,32,105,102,32,101,108,115,101,32,119,104,105,108,101,32,112,114,105,110,116,32,100,111,32,110,101,119,32,99,108,111,110,101,32,109,117,116,32,105,110,112,117,116,32,105,110,116,32,98,111,120,32,114,101,116]⟩:ByteArray)))] rfl rfl ent119 (impl_oneOf_ok _ _ hc3) fun K q=>?_;simp [y];refine q _ ?_;clear q
 refine wC rfl fun K q=>?_;simp [y];refine q _ ?_;clear q
 refine wN (q _ ?_);clear q
 cases h
 refine SWp.ret ?_
 simp [aC,iB,res110]
theorem res90:Tryz.f90.results.toList=[.tmp 2]:=rfl
theorem ent90:aF E.P 90:=eO Tryz.func90 (by simp [Tryz.f90]) rfl
theorem lF (s1:ByteArray) {r0:Bool} (h:fZ s1=some r0):Ok E 90 [.val (vs s1)] [vb r0] []:=by
 refine oB (fn:=Tryz.f90) Tryz.func90 rfl (by simp [Tryz.f90]) fun C hN hP=>?_
 have hPB:∀ l,pinK [] l=true→pinB C.pin l=true:=pO (by rw [hP];rfl)
 have hN':C.N=35:=hN
 clear hN
 unfold fZ at h
 refine SWp.sR rfl (hPB _ rfl) fun K hK=>?_
 refine wC rfl fun K hK=>?_;simp [hN'];refine hK _ ?_;clear hK
 refine wN (hK _ ?_);clear hK
 refine SWp.seq ?_
 obtain ⟨v11,hj2,h⟩:=bS h
 refine SWp.seqRC rfl (hPB _ rfl) [0,13] [] (fun _:Unit=>⟨[(0,.t (vs s1)),(13,.t (vb v11))],[]⟩) (fun _=>True) (fun _ _=>?_) fun K3 hK3=>?_
 rotate_left
 ·refine wC rfl fun K hK=>?_;simp [hN'];refine hK _ ?_;clear hK
  refine wC rfl fun K hK=>?_;simp [hN'];refine hK _ ?_;clear hK
  obtain ⟨r4,hc5,hj2⟩:=bS hj2
  refine wL [(.take,.tmp 5),(.take,.const (.int .i64 1)),(.take,.const (.int .i64 8))] rfl rfl kO (aQ _ _ _ hc5) fun K hK=>?_;simp [hN'];refine hK _ ?_;clear hK
  iterate 2 (refine wC rfl fun K hK=>?_;simp [hN'];refine hK _ ?_;clear hK)
  rcases aA hj2 with ⟨hb6,hj2⟩ | ⟨hb7,hj2⟩
  ·have hb6s:=hb6
   try simp at hb6s
   iterate 4 (refine wO fun K hK=>?_;simp [hN',hb6,hb6s];refine hK _ ?_;clear hK)
   refine wC rfl fun K hK=>?_;simp [hN',hb6,hb6s];refine hK _ ?_;clear hK
   refine wN ?_
   cases hj2
   exact hK3 _ () [] trivial (by simp [hN',hb6,hb6s])
  ·have hb7s:=hb7
   try simp at hb7s
   refine wC rfl fun K hK=>?_;simp [hN',hb7,hb7s];refine hK _ ?_;clear hK
   obtain ⟨c8,hc8,hj2⟩:=bS hj2
   obtain ⟨hc8a,hc8b,hc8c⟩:=sAt_some hc8
   have hc8e:0 < s1.size:=by omega
   refine wC rfl fun K hK=>?_;simp [hN',hb7,hb7s,hc8a,hc8b,hc8c,hc8e];refine hK _ ?_;clear hK
   obtain ⟨r9,hc10,hj2⟩:=bS hj2
   refine wL [(.take,.tmp 10)] rfl rfl ent108 (mV _ hc10) fun K hK=>?_;simp [hN',hb7,hb7s,hc8a,hc8b,hc8c,hc8e];refine hK _ ?_;clear hK
   iterate 2 (refine wC rfl fun K hK=>?_;simp [hN',hb7,hb7s,hc8a,hc8b,hc8c,hc8e];refine hK _ ?_;clear hK)
   refine wN ?_
   cases hj2
   exact hK3 _ () [] trivial (by simp [hN',hb7,hb7s,hc8a,hc8b,hc8c,hc8e])
 rcases aA h with ⟨hb12,h⟩ | ⟨hb13,h⟩
 ·refine SWp.cT' (b:=v11) (by simp) hb12 ?_
  refine SWp.sR rfl (hPB _ rfl) fun K hK=>?_
  refine wC rfl fun K hK=>?_;simp [hN'];refine hK _ ?_;clear hK
  refine wN (hK _ ?_);clear hK
  cases h
  refine SWp.ret ?_
  simp [aC,iB,res90]
 ·refine SWp.cF' (b:=v11) (by simp) hb13 ?_
  refine SWp.skip ?_
  show SWp E C _ _ _
  obtain ⟨j16,hj14,h⟩:=bS h
  refine SWp.seqC [0] [] (fun v:Unit=>⟨[(0,.t (vs s1))],[]⟩) (fun v=>j16=Sum.inl v) (fun v hv=>?_) fun K15 hK15=>?_
  rotate_left
  ·refine SWp.sR rfl (hPB _ rfl) fun K hK=>?_
   refine wC rfl fun K hK=>?_;simp [hN'];refine hK _ ?_;clear hK
   refine wN (hK _ ?_);clear hK
   refine SWp.block ?_
   refine SWp.loopO [] [0,3] [] (fun v:Int=>⟨[(0,.t (vs s1)),(3,.t (vi v))],[]⟩) (eR s1) _ 0 hj14 (by simp [hN']) ?_
   intro g s20 h18 ho19
   obtain ⟨i17,hg⟩:∃ y,y=g:=⟨_,rfl⟩
   subst hg
   simp only [eR] at h18
   try dsimp only
   refine SWp.seq ?_
   refine SWp.sR rfl (hPB _ rfl) fun K hK=>?_
   iterate 4 (refine wC rfl fun K hK=>?_;simp [hN'];refine hK _ ?_;clear hK)
   refine wN (hK _ ?_);clear hK
   rcases aA h18 with ⟨hb21,h18⟩ | ⟨hb22,h18⟩
   ·refine SWp.cT' (b:=decide (i17 < (s1.size:Int))) (by simp) hb21 ?_
    refine SWp.skip ?_
    show SWp E C _ _ _
    refine SWp.seq ?_
    refine SWp.block ?_
    obtain ⟨v32,hj23,h18⟩:=bS h18
    refine SWp.seqRC rfl (hPB _ rfl) [0,3,31] [] (fun _:Unit=>⟨[(0,.t (vs s1)),(3,.t (vi i17)),(31,.t (vb v32))],[]⟩) (fun _=>True) (fun _ _=>?_) fun K24 hK24=>?_
    rotate_left
    ·refine wC rfl fun K hK=>?_;simp [hN'];refine hK _ ?_;clear hK
     refine wC rfl fun K hK=>?_;simp [hN'];refine hK _ ?_;clear hK
     obtain ⟨c25,hc25,hj23⟩:=bS hj23
     obtain ⟨hc25a,hc25b,hc25c⟩:=sAt_some hc25
     refine wC rfl fun K hK=>?_;simp [hN',hc25a,hc25b,hc25c];refine hK _ ?_;clear hK
     obtain ⟨r26,hc27,hj23⟩:=bS hj23
     refine wL [(.take,.tmp 22)] rfl rfl ent108 (mV _ hc27) fun K hK=>?_;simp [hN',hc25a,hc25b,hc25c];refine hK _ ?_;clear hK
     iterate 2 (refine wC rfl fun K hK=>?_;simp [hN',hc25a,hc25b,hc25c];refine hK _ ?_;clear hK)
     rcases aA hj23 with ⟨hb28,hj23⟩ | ⟨hb29,hj23⟩
     ·have hb28s:=hb28
      try simp at hb28s
      iterate 3 (refine wC rfl fun K hK=>?_;simp [hN',hc25a,hc25b,hc25c,hb28,hb28s];refine hK _ ?_;clear hK)
      obtain ⟨r30,hc31,hj23⟩:=bS hj23
      refine wL [(.take,.tmp 28)] rfl rfl ent109 (impl_isFigure_ok _ hc31) fun K hK=>?_;simp [hN',hc25a,hc25b,hc25c,hb28,hb28s];refine hK _ ?_;clear hK
      iterate 2 (refine wC rfl fun K hK=>?_;simp [hN',hc25a,hc25b,hc25c,hb28,hb28s];refine hK _ ?_;clear hK)
      refine wN ?_
      cases hj23
      exact hK24 _ () [] trivial (by simp [hN',hc25a,hc25b,hc25c,hb28,hb28s])
     ·have hb29s:=hb29
      try simp at hb29s
      iterate 5 (refine wO fun K hK=>?_;simp [hN',hc25a,hc25b,hc25c,hb29,hb29s];refine hK _ ?_;clear hK)
      refine wC rfl fun K hK=>?_;simp [hN',hc25a,hc25b,hc25c,hb29,hb29s];refine hK _ ?_;clear hK
      refine wN ?_
      cases hj23
      exact hK24 _ () [] trivial (by simp [hN',hc25a,hc25b,hc25c,hb29,hb29s])
    rcases aA h18 with ⟨hb33,h18⟩ | ⟨hb34,h18⟩
    ·refine SWp.cT' (b:=v32) (by simp) hb33 ?_
     refine SWp.sR rfl (hPB _ rfl) fun K hK=>?_
     refine wC rfl fun K hK=>?_;simp [hN'];refine hK _ ?_;clear hK
     refine wN (hK _ ?_);clear hK
     have h35:=congrArg some (ho19 _ (Option.some.inj h18).symm)
     cases h35
     try dsimp only at h
     cases h
     refine SWp.ret ?_
     simp [aC,iB,res90]
    ·refine SWp.cF' (b:=v32) (by simp) hb34 ?_
     refine SWp.skip ?_
     show SWp E C _ _ _
     refine SWp.reg rfl (hPB _ rfl) fun K hK=>?_
     iterate 3 (refine wC rfl fun K hK=>?_;simp [hN'];refine hK _ ?_;clear hK)
     refine wN (hK _ ?_);clear hK
     cases h18
     exact ⟨_,[],rfl,by simp [hN']⟩
   ·refine SWp.cF' (b:=decide (i17 < (s1.size:Int))) (by simp) hb22 ?_
    refine SWp.exit ?_
    have h36:=congrArg some (ho19 _ (Option.some.inj h18).symm)
    cases h36
    exact hK15 _ _ [] rfl (by simp [hN'])
  subst hv
  obtain ⟨⟩:=v
  try dsimp only at h ⊢
  refine SWp.sR rfl (hPB _ rfl) fun K hK=>?_
  refine wC rfl fun K hK=>?_;simp [hN'];refine hK _ ?_;clear hK
  obtain ⟨r37,hc38,h⟩:=bS h
  refine wL [(.take,.tmp 32)] rfl rfl ent110 (impl_KeyWord_ok _ hc38) fun K hK=>?_;simp [hN'];refine hK _ ?_;clear hK
  iterate 2 (refine wC rfl fun K hK=>?_;simp [hN'];refine hK _ ?_;clear hK)
  refine wN (hK _ ?_);clear hK
  cases h
  refine SWp.ret ?_
  simp [aC,iB,res90]
theorem res116:Tryz.f116.results.toList=[.tmp 2,.tmp 3]:=rfl
theorem ent116:aF E.P 116:=eO Tryz.func116 (by simp [Tryz.f116]) rfl
theorem impl_shape_ok (kind1:Int) {r0:Int} {r1:Int} (h:lV kind1=some (r0,r1)):Ok E 116 [.val (vi kind1)] [vi r0,vi r1] []:=by
 refine oB (fn:=Tryz.f116) Tryz.func116 rfl (by simp [Tryz.f116]) fun C hN hP=>?_
 have u:∀ l,pinK [] l=true→pinB C.pin l=true:=pO (by rw [hP];rfl)
 have y:C.N=23:=hN
 clear hN
 unfold lV at h
 refine SWp.sR rfl (u _ rfl) fun K q=>?_
 iterate 2 (refine wC rfl fun K q=>?_;simp [y];refine q _ ?_;clear q)
 refine wN (q _ ?_);clear q
 refine SWp.seq ?_
 refine SWp.sR rfl (u _ rfl) fun K q=>?_
 refine wC rfl fun K q=>?_;simp [y];refine q _ ?_;clear q
 refine wN (q _ ?_);clear q
 refine SWp.block ?_
 obtain ⟨v15,hj2,h⟩:=bS h
 refine SWp.seqC [4,5] [] (fun _:Unit=>⟨[(4,.t (vi kind1)),(5,.t (vb v15))],[]⟩) (fun _=>True) (fun _ _=>?_) fun K3 hK3=>?_
 rotate_left
 ·refine SWp.sR rfl (u _ rfl) fun K q=>?_
  iterate 2 (refine wC rfl fun K q=>?_;simp [y];refine q _ ?_;clear q)
  refine wN (q _ ?_);clear q
  rcases aA hj2 with ⟨hb5,hj2⟩ | ⟨hb6,hj2⟩
  ·refine SWp.cT' (b:=kind1 == 8) (by simp) hb5 ?_
   refine SWp.skip ?_
   cases hj2
   exact hK3 _ () [] trivial (by simp [y])
  ·refine SWp.cF' (b:=kind1 == 8) (by simp) hb6 ?_
   refine SWp.sR rfl (u _ rfl) fun K q=>?_
   iterate 2 (refine wC rfl fun K q=>?_;simp [y];refine q _ ?_;clear q)
   refine wN (q _ ?_);clear q
   rcases aA hj2 with ⟨hb7,hj2⟩ | ⟨hb8,hj2⟩
   ·refine SWp.cT' (b:=kind1 == 13) (by simp) hb7 ?_
    refine SWp.skip ?_
    cases hj2
    exact hK3 _ () [] trivial (by simp [y])
   ·refine SWp.cF' (b:=kind1 == 13) (by simp) hb8 ?_
    refine SWp.sR rfl (u _ rfl) fun K q=>?_
    iterate 2 (refine wC rfl fun K q=>?_;simp [y];refine q _ ?_;clear q)
    refine wN (q _ ?_);clear q
    rcases aA hj2 with ⟨hb9,hj2⟩ | ⟨hb10,hj2⟩
    ·refine SWp.cT' (b:=kind1 == 14) (by simp) hb9 ?_
     refine SWp.skip ?_
     cases hj2
     exact hK3 _ () [] trivial (by simp [y])
    ·refine SWp.cF' (b:=kind1 == 14) (by simp) hb10 ?_
     refine SWp.sR rfl (u _ rfl) fun K q=>?_
     iterate 2 (refine wC rfl fun K q=>?_;simp [y];refine q _ ?_;clear q)
     refine wN (q _ ?_);clear q
     rcases aA hj2 with ⟨hb11,hj2⟩ | ⟨hb12,hj2⟩
     ·refine SWp.cT' (b:=kind1 == 15) (by simp) hb11 ?_
      refine SWp.skip ?_
      cases hj2
      exact hK3 _ () [] trivial (by simp [y])
     ·refine SWp.cF' (b:=kind1 == 15) (by simp) hb12 ?_
      refine SWp.sR rfl (u _ rfl) fun K q=>?_
      iterate 2 (refine wC rfl fun K q=>?_;simp [y];refine q _ ?_;clear q)
      refine wN (q _ ?_);clear q
      rcases aA hj2 with ⟨hb13,hj2⟩ | ⟨hb14,hj2⟩
      ·refine SWp.cT' (b:=kind1 == 18) (by simp) hb13 ?_
       refine SWp.skip ?_
       cases hj2
       exact hK3 _ () [] trivial (by simp [y])
      ·refine SWp.cF' (b:=kind1 == 18) (by simp) hb14 ?_
       refine SWp.reg rfl (u _ rfl) fun K q=>?_
       iterate 2 (refine wC rfl fun K q=>?_;simp [y];refine q _ ?_;clear q)
       refine wN (q _ ?_);clear q
       cases hj2
       exact hK3 _ () [] trivial (by simp [y])
 rcases aA h with ⟨hb16,h⟩ | ⟨hb17,h⟩
 ·refine SWp.cT' (b:=v15) (by simp) hb16 ?_
  refine SWp.sR rfl (u _ rfl) fun K q=>?_
  iterate 2 (refine wC rfl fun K q=>?_;simp [y];refine q _ ?_;clear q)
  refine wN (q _ ?_);clear q
  cases h
  refine SWp.ret ?_
  simp [aC,iB,res116]
 ·refine SWp.cF' (b:=v15) (by simp) hb17 ?_
  obtain ⟨v27,hj18,h⟩:=bS h
  refine SWp.seqC [4,12] [] (fun _:Unit=>⟨[(4,.t (vi kind1)),(12,.t (vb v27))],[]⟩) (fun _=>True) (fun _ _=>?_) fun K19 hK19=>?_
  rotate_left
  ·refine SWp.sR rfl (u _ rfl) fun K q=>?_
   iterate 2 (refine wC rfl fun K q=>?_;simp [y];refine q _ ?_;clear q)
   refine wN (q _ ?_);clear q
   rcases aA hj18 with ⟨hb21,hj18⟩ | ⟨hb22,hj18⟩
   ·refine SWp.cT' (b:=kind1 == 9) (by simp) hb21 ?_
    refine SWp.skip ?_
    cases hj18
    exact hK19 _ () [] trivial (by simp [y])
   ·refine SWp.cF' (b:=kind1 == 9) (by simp) hb22 ?_
    refine SWp.sR rfl (u _ rfl) fun K q=>?_
    iterate 2 (refine wC rfl fun K q=>?_;simp [y];refine q _ ?_;clear q)
    refine wN (q _ ?_);clear q
    rcases aA hj18 with ⟨hb23,hj18⟩ | ⟨hb24,hj18⟩
    ·refine SWp.cT' (b:=kind1 == 10) (by simp) hb23 ?_
     refine SWp.skip ?_
     cases hj18
     exact hK19 _ () [] trivial (by simp [y])
    ·refine SWp.cF' (b:=kind1 == 10) (by simp) hb24 ?_
     refine SWp.sR rfl (u _ rfl) fun K q=>?_
     iterate 2 (refine wC rfl fun K q=>?_;simp [y];refine q _ ?_;clear q)
     refine wN (q _ ?_);clear q
     rcases aA hj18 with ⟨hb25,hj18⟩ | ⟨hb26,hj18⟩
     ·refine SWp.cT' (b:=kind1 == 11) (by simp) hb25 ?_
      refine SWp.skip ?_
      cases hj18
      exact hK19 _ () [] trivial (by simp [y])
     ·refine SWp.cF' (b:=kind1 == 11) (by simp) hb26 ?_
      refine SWp.reg rfl (u _ rfl) fun K q=>?_
      iterate 2 (refine wC rfl fun K q=>?_;simp [y];refine q _ ?_;clear q)
      refine wN (q _ ?_);clear q
      cases hj18
      exact hK19 _ () [] trivial (by simp [y])
  rcases aA h with ⟨hb28,h⟩ | ⟨hb29,h⟩
  ·refine SWp.cT' (b:=v27) (by simp) hb28 ?_
   refine SWp.sR rfl (u _ rfl) fun K q=>?_
   iterate 2 (refine wC rfl fun K q=>?_;simp [y];refine q _ ?_;clear q)
   refine wN (q _ ?_);clear q
   cases h
   refine SWp.ret ?_
   simp [aC,iB,res116]
  ·refine SWp.cF' (b:=v27) (by simp) hb29 ?_
   refine SWp.sR rfl (u _ rfl) fun K q=>?_
   iterate 2 (refine wC rfl fun K q=>?_;simp [y];refine q _ ?_;clear q)
   refine wN (q _ ?_);clear q
   rcases aA h with ⟨hb30,h⟩ | ⟨hb31,h⟩
   ·refine SWp.cT' (b:=kind1 == 16) (by simp) hb30 ?_
    refine SWp.sR rfl (u _ rfl) fun K q=>?_
    iterate 2 (refine wC rfl fun K q=>?_;simp [y];refine q _ ?_;clear q)
    refine wN (q _ ?_);clear q
    cases h
    refine SWp.ret ?_
    simp [aC,iB,res116]
   ·refine SWp.cF' (b:=kind1 == 16) (by simp) hb31 ?_
    refine SWp.sR rfl (u _ rfl) fun K q=>?_
    iterate 2 (refine wC rfl fun K q=>?_;simp [y];refine q _ ?_;clear q)
    refine wN (q _ ?_);clear q
    rcases aA h with ⟨hb32,h⟩ | ⟨hb33,h⟩
    ·refine SWp.cT' (b:=kind1 == 12) (by simp) hb32 ?_
     refine SWp.sR rfl (u _ rfl) fun K q=>?_
     iterate 2 (refine wC rfl fun K q=>?_;simp [y];refine q _ ?_;clear q)
     refine wN (q _ ?_);clear q
     cases h
     refine SWp.ret ?_
     simp [aC,iB,res116]
    ·refine SWp.cF' (b:=kind1 == 12) (by simp) hb33 ?_
     refine SWp.sR rfl (u _ rfl) fun K q=>?_
     iterate 2 (refine wC rfl fun K q=>?_;simp [y];refine q _ ?_;clear q)
     refine wN (q _ ?_);clear q
     rcases aA h with ⟨hb34,h⟩ | ⟨hb35,h⟩
     ·refine SWp.cT' (b:=kind1 == 20) (by simp) hb34 ?_
      refine SWp.sR rfl (u _ rfl) fun K q=>?_
      iterate 2 (refine wC rfl fun K q=>?_;simp [y];refine q _ ?_;clear q)
      refine wN (q _ ?_);clear q
      cases h
      refine SWp.ret ?_
      simp [aC,iB,res116]
     ·refine SWp.cF' (b:=kind1 == 20) (by simp) hb35 ?_
      refine SWp.skip ?_
      show SWp E C _ _ _
      refine SWp.sR rfl (u _ rfl) fun K q=>?_
      iterate 2 (refine wC rfl fun K q=>?_;simp [y];refine q _ ?_;clear q)
      refine wN (q _ ?_);clear q
      cases h
      refine SWp.ret ?_
      simp [aC,iB,res116]
theorem res91:Tryz.f91.results.toList=[.tmp 2]:=rfl
theorem ent91:aF E.P 91:=eO Tryz.func91 (by simp [Tryz.f91]) rfl
theorem oC (kind1:Int) {r0:Bool} (h:gF kind1=some r0):Ok E 91 [.val (vi kind1)] [vb r0] []:=by
 refine oB (fn:=Tryz.f91) Tryz.func91 rfl (by simp [Tryz.f91]) fun C hN hP=>?_
 have u:∀ l,pinK [] l=true→pinB C.pin l=true:=pO (by rw [hP];rfl)
 have y:C.N=5:=hN
 clear hN
 unfold gF at h
 refine SWp.sR rfl (u _ rfl) fun K q=>?_
 refine wC rfl fun K q=>?_;simp [y];refine q _ ?_;clear q
 refine wN (q _ ?_);clear q
 refine SWp.sR rfl (u _ rfl) fun K q=>?_
 refine wC rfl fun K q=>?_;simp [y];refine q _ ?_;clear q
 obtain ⟨r2,hc3,h⟩:=bS h
 refine wL [(.take,.tmp 3),(.take,.const (.int .i64 1)),(.take,.const (.int .i64 12))] rfl rfl kO (aQ _ _ _ hc3) fun K q=>?_;simp [y];refine q _ ?_;clear q
 refine wC rfl fun K q=>?_;simp [y];refine q _ ?_;clear q
 refine wN (q _ ?_);clear q
 cases h
 refine SWp.ret ?_
 simp [aC,iB,res91]
theorem res131:Tryz.f131.results.toList=[.tmp 2]:=rfl
theorem ent131:aF E.P 131:=eO Tryz.func131 (by simp [Tryz.f131]) rfl
theorem impl_isStep_ok (kind1:Int) {r0:Bool} (h:kK kind1=some r0):Ok E 131 [.val (vi kind1)] [vb r0] []:=by
 refine oB (fn:=Tryz.f131) Tryz.func131 rfl (by simp [Tryz.f131]) fun C hN hP=>?_
 have u:∀ l,pinK [] l=true→pinB C.pin l=true:=pO (by rw [hP];rfl)
 have y:C.N=5:=hN
 clear hN
 unfold kK at h
 refine SWp.sR rfl (u _ rfl) fun K q=>?_
 refine wC rfl fun K q=>?_;simp [y];refine q _ ?_;clear q
 refine wN (q _ ?_);clear q
 refine SWp.sR rfl (u _ rfl) fun K q=>?_
 refine wC rfl fun K q=>?_;simp [y];refine q _ ?_;clear q
 obtain ⟨r2,hc3,h⟩:=bS h
 refine wL [(.take,.tmp 3),(.take,.const (.int .i64 13)),(.take,.const (.int .i64 19))] rfl rfl kO (aQ _ _ _ hc3) fun K q=>?_;simp [y];refine q _ ?_;clear q
 refine wC rfl fun K q=>?_;simp [y];refine q _ ?_;clear q
 refine wN (q _ ?_);clear q
 cases h
 refine SWp.ret ?_
 simp [aC,iB,res131]
theorem res117:Tryz.f117.results.toList=[.tmp 6]:=rfl
theorem ent117:aF E.P 117:=eO Tryz.func117 (by simp [Tryz.f117]) rfl
theorem impl_kidFits_ok (kind1:Int) (i2:Int) (kid3:Int) {r0:Bool} (h:iV kind1 i2 kid3=some r0):Ok E 117 [.val (vi kind1),.val (vi i2),.val (vi kid3)] [vb r0] []:=by
 refine oB (fn:=Tryz.f117) Tryz.func117 rfl (by simp [Tryz.f117]) fun C hN hP=>?_
 have u:∀ l,pinK [] l=true→pinB C.pin l=true:=pO (by rw [hP];rfl)
 have y:C.N=32:=hN
 clear hN
 unfold iV at h
 refine SWp.sR rfl (u _ rfl) fun K q=>?_
 refine wC rfl fun K q=>?_;simp [y];refine q _ ?_;clear q
 refine wN (q _ ?_);clear q
 refine SWp.seq ?_
 refine SWp.block ?_
 refine SWp.sR rfl (u _ rfl) fun K q=>?_
 iterate 3 (refine wC rfl fun K q=>?_;simp [y];refine q _ ?_;clear q)
 refine wN (q _ ?_);clear q
 rcases aA h with ⟨hb4,h⟩ | ⟨hb5,h⟩
 ·refine SWp.cT' (b:=kind1 == 20) (by simp) hb4 ?_
  refine SWp.sR rfl (u _ rfl) fun K q=>?_
  refine wC rfl fun K q=>?_;simp [y];refine q _ ?_;clear q
  obtain ⟨r6,hc7,h⟩:=bS h
  refine wL [(.take,.tmp 10)] rfl rfl ent131 (impl_isStep_ok _ hc7) fun K q=>?_;simp [y];refine q _ ?_;clear q
  refine wC rfl fun K q=>?_;simp [y];refine q _ ?_;clear q
  refine wN (q _ ?_);clear q
  cases h
  refine SWp.ret ?_
  simp [aC,iB,res117]
 ·refine SWp.cF' (b:=kind1 == 20) (by simp) hb5 ?_
  obtain ⟨v14,hj8,h⟩:=bS h
  refine SWp.seqRC rfl (u _ rfl) [0,2,12] [] (fun _:Unit=>⟨[(0,.t (vi kind1)),(2,.t (vi kid3)),(12,.t (vb v14))],[]⟩) (fun _=>True) (fun _ _=>?_) fun K9 hK9=>?_
  rotate_left
  ·refine wC rfl fun K q=>?_;simp [y];refine q _ ?_;clear q
   iterate 2 (refine wC rfl fun K q=>?_;simp [y];refine q _ ?_;clear q)
   rcases aA hj8 with ⟨hb10,hj8⟩ | ⟨hb11,hj8⟩
   ·have hb10s:=hb10
    try simp at hb10s
    iterate 2 (refine wO fun K q=>?_;simp [y,hb10,hb10s];refine q _ ?_;clear q)
    iterate 6 (refine wC rfl fun K q=>?_;simp [y,hb10,hb10s];refine q _ ?_;clear q)
    refine wN ?_
    cases hj8
    exact hK9 _ () [] trivial (by simp [y,hb10,hb10s])
   ·have hb11s:=hb11
    try simp at hb11s
    iterate 4 (refine wC rfl fun K q=>?_;simp [y,hb11,hb11s];refine q _ ?_;clear q)
    rcases aA hj8 with ⟨hb12,hj8⟩ | ⟨hb13,hj8⟩
    ·have hb12s:=hb12
     try simp at hb12s
     iterate 4 (refine wC rfl fun K q=>?_;simp [y,hb11,hb11s,hb12,hb12s];refine q _ ?_;clear q)
     refine wN ?_
     cases hj8
     exact hK9 _ () [] trivial (by simp [y,hb11,hb11s,hb12,hb12s])
    ·have hb13s:=hb13
     try simp at hb13s
     iterate 2 (refine wO fun K q=>?_;simp [y,hb11,hb11s,hb13,hb13s];refine q _ ?_;clear q)
     iterate 2 (refine wC rfl fun K q=>?_;simp [y,hb11,hb11s,hb13,hb13s];refine q _ ?_;clear q)
     refine wN ?_
     cases hj8
     exact hK9 _ () [] trivial (by simp [y,hb11,hb11s,hb13,hb13s])
  rcases aA h with ⟨hb15,h⟩ | ⟨hb16,h⟩
  ·refine SWp.cT' (b:=v14) (by simp) hb15 ?_
   refine SWp.sR rfl (u _ rfl) fun K q=>?_
   iterate 3 (refine wC rfl fun K q=>?_;simp [y];refine q _ ?_;clear q)
   refine wN (q _ ?_);clear q
   cases h
   refine SWp.ret ?_
   simp [aC,iB,res117]
  ·refine SWp.cF' (b:=v14) (by simp) hb16 ?_
   refine SWp.sR rfl (u _ rfl) fun K q=>?_
   iterate 3 (refine wC rfl fun K q=>?_;simp [y];refine q _ ?_;clear q)
   refine wN (q _ ?_);clear q
   rcases aA h with ⟨hb17,h⟩ | ⟨hb18,h⟩
   ·refine SWp.cT' (b:=kind1 == 19) (by simp) hb17 ?_
    refine SWp.sR rfl (u _ rfl) fun K q=>?_
    iterate 3 (refine wC rfl fun K q=>?_;simp [y];refine q _ ?_;clear q)
    refine wN (q _ ?_);clear q
    cases h
    refine SWp.ret ?_
    simp [aC,iB,res117]
   ·refine SWp.cF' (b:=kind1 == 19) (by simp) hb18 ?_
    refine SWp.skip ?_
    show SWp E C _ _ _
    refine SWp.sR rfl (u _ rfl) fun K q=>?_
    refine wC rfl fun K q=>?_;simp [y];refine q _ ?_;clear q
    obtain ⟨r19,hc20,h⟩:=bS h
    refine wL [(.take,.tmp 30)] rfl rfl ent91 (oC _ hc20) fun K q=>?_;simp [y];refine q _ ?_;clear q
    refine wC rfl fun K q=>?_;simp [y];refine q _ ?_;clear q
    refine wN (q _ ?_);clear q
    cases h
    refine SWp.ret ?_
    simp [aC,iB,res117]
theorem res118:Tryz.f118.results.toList=[.tmp 2]:=rfl
theorem ent118:aF E.P 118:=eO Tryz.func118 (by simp [Tryz.f118]) rfl
theorem impl_hasName_ok (kind1:Int) {r0:Bool} (h:iX kind1=some r0):Ok E 118 [.val (vi kind1)] [vb r0] []:=by
 refine oB (fn:=Tryz.f118) Tryz.func118 rfl (by simp [Tryz.f118]) fun C hN hP=>?_
 have u:∀ l,pinK [] l=true→pinB C.pin l=true:=pO (by rw [hP];rfl)
 have y:C.N=9:=hN
 clear hN
 unfold iX at h
 refine SWp.sR rfl (u _ rfl) fun K q=>?_
 refine wC rfl fun K q=>?_;simp [y];refine q _ ?_;clear q
 refine wN (q _ ?_);clear q
 obtain ⟨v10,hj2,h⟩:=bS h
 refine SWp.seqRC rfl (u _ rfl) [2] [] (fun _:Unit=>⟨[(2,.t (vb v10))],[]⟩) (fun _=>True) (fun _ _=>?_) fun K3 hK3=>?_
 rotate_left
 ·refine wC rfl fun K q=>?_;simp [y];refine q _ ?_;clear q
  obtain ⟨r4,hc5,hj2⟩:=bS hj2
  refine wL [(.take,.tmp 3),(.take,.const (.int .i64 2)),(.take,.const (.int .i64 6))] rfl rfl kO (aQ _ _ _ hc5) fun K q=>?_;simp [y];refine q _ ?_;clear q
  refine wC rfl fun K q=>?_;simp [y];refine q _ ?_;clear q
  rcases aA hj2 with ⟨hb6,hj2⟩ | ⟨hb7,hj2⟩
  ·have hb6s:=hb6
   try simp at hb6s
   iterate 2 (refine wO fun K q=>?_;simp [y,hb6,hb6s];refine q _ ?_;clear q)
   iterate 2 (refine wC rfl fun K q=>?_;simp [y,hb6,hb6s];refine q _ ?_;clear q)
   refine wN ?_
   cases hj2
   exact hK3 _ () [] trivial (by simp [y,hb6,hb6s])
  ·have hb7s:=hb7
   try simp at hb7s
   refine wC rfl fun K q=>?_;simp [y,hb7,hb7s];refine q _ ?_;clear q
   obtain ⟨r8,hc9,hj2⟩:=bS hj2
   refine wL [(.take,.tmp 6),(.take,.const (.int .i64 12)),(.take,.const (.int .i64 15))] rfl rfl kO (aQ _ _ _ hc9) fun K q=>?_;simp [y,hb7,hb7s];refine q _ ?_;clear q
   iterate 2 (refine wC rfl fun K q=>?_;simp [y,hb7,hb7s];refine q _ ?_;clear q)
   refine wN ?_
   cases hj2
   exact hK3 _ () [] trivial (by simp [y,hb7,hb7s])
 cases h
 refine SWp.ret ?_
 simp [aC,iB,res118]
theorem res107:Tryz.f107.results.toList=[.tmp 4]:=rfl
theorem ent107:aF E.P 107:=eO Tryz.func107 (by simp [Tryz.f107]) rfl
theorem impl_NodeOk_ok (nodes1:List GNode) (k2:Int) {r0:Bool} (h:kN nodes1 k2=some r0):Ok E 107 [.val (.sl false 4 (List.map (GNode.enc false) nodes1)),.val (vi k2)] [vb r0] []:=by
 refine oB (fn:=Tryz.f107) Tryz.func107 rfl (by simp [Tryz.f107]) fun C hN hP=>?_
 have hPB:∀ l,pinK [] l=true→pinB C.pin l=true:=pO (by rw [hP];rfl)
 have hN':C.N=101:=hN
 clear hN
 unfold kN at h
 refine SWp.sR rfl (hPB _ rfl) fun K hK=>?_
 refine wC rfl fun K hK=>?_;simp [hN'];refine hK _ ?_;clear hK
 refine wN (hK _ ?_);clear hK
 refine SWp.seq ?_
 refine SWp.sR rfl (hPB _ rfl) fun K hK=>?_
 iterate 4 (refine wC rfl fun K hK=>?_;simp [hN'];refine hK _ ?_;clear hK)
 obtain ⟨r3,hc4,h⟩:=bS h
 refine wL [(.take,.tmp 10),(.take,.const (.int .i64 0)),(.take,.tmp 13)] rfl rfl kO (aQ _ _ _ hc4) fun K hK=>?_;simp [hN'];refine hK _ ?_;clear hK
 refine wC rfl fun K hK=>?_;simp [hN'];refine hK _ ?_;clear hK
 refine wN (hK _ ?_);clear hK
 rcases aA h with ⟨hb5,h⟩ | ⟨hb6,h⟩
 ·refine SWp.cT' (b:=!r3) (by simp) hb5 ?_
  refine SWp.sR rfl (hPB _ rfl) fun K hK=>?_
  refine wC rfl fun K hK=>?_;simp [hN'];refine hK _ ?_;clear hK
  refine wN (hK _ ?_);clear hK
  cases h
  refine SWp.ret ?_
  simp [aC,iB,res107]
 ·refine SWp.cF' (b:=!r3) (by simp) hb6 ?_
  refine SWp.skip ?_
  show SWp E C _ _ _
  refine SWp.sR rfl (hPB _ rfl) fun K hK=>?_
  iterate 2 (refine wC rfl fun K hK=>?_;simp [hN'];refine hK _ ?_;clear hK)
  obtain ⟨e7,he7,h⟩:=bS h
  obtain ⟨he7a,he7b,he7c,he7d⟩:=gS he7
  iterate 4 (refine wC rfl fun K hK=>?_;simp [hN',he7a,he7b,he7c,he7d];refine hK _ ?_;clear hK)
  refine wN (hK _ ?_);clear hK
  refine SWp.sR rfl (hPB _ rfl) fun K hK=>?_
  iterate 2 (refine wC rfl fun K hK=>?_;simp [hN'];refine hK _ ?_;clear hK)
  obtain ⟨⟨r8,r9⟩,hc10,h⟩:=bS h
  try dsimp only at h
  refine wL [(.take,.tmp 22)] rfl rfl ent116 (impl_shape_ok _ hc10) fun K hK=>?_;simp [hN'];refine hK _ ?_;clear hK
  iterate 5 (refine wC rfl fun K hK=>?_;simp [hN'];refine hK _ ?_;clear hK)
  refine wN (hK _ ?_);clear hK
  refine SWp.seq ?_
  obtain ⟨v19,hj11,h⟩:=bS h
  refine SWp.seqRC rfl (hPB _ rfl) [0,1,5,38] [5] (fun _:Unit=>⟨[(0,.t (.sl false 4 (List.map (GNode.enc false) nodes1))),(1,.t (vi k2)),(5,.ref (.box 5) 0 []),(38,.t (vb v19))],[(5,[vi e7.Kind,vi e7.Num,vs e7.Name,.sl false 1 (List.map vi e7.Kids)])]⟩) (fun _=>True) (fun _ _=>?_) fun K12 hK12=>?_
  rotate_left
  ·refine wC rfl fun K hK=>?_;simp [hN'];refine hK _ ?_;clear hK
   refine wC rfl fun K hK=>?_;simp [hN'];refine hK _ ?_;clear hK
   obtain ⟨r13,hc14,hj11⟩:=bS hj11
   refine wL [(.take,.tmp 27),(.take,.const (.int .i64 1)),(.take,.const (.int .i64 20))] rfl rfl kO (aQ _ _ _ hc14) fun K hK=>?_;simp [hN'];refine hK _ ?_;clear hK
   iterate 2 (refine wC rfl fun K hK=>?_;simp [hN'];refine hK _ ?_;clear hK)
   rcases aA hj11 with ⟨hb15,hj11⟩ | ⟨hb16,hj11⟩
   ·have hb15s:=hb15
    try simp at hb15s
    iterate 7 (refine wO fun K hK=>?_;simp [hN',hb15,hb15s];refine hK _ ?_;clear hK)
    refine wC rfl fun K hK=>?_;simp [hN',hb15,hb15s];refine hK _ ?_;clear hK
    refine wN ?_
    cases hj11
    exact hK12 _ () [] trivial (by simp [hN',hb15,hb15s])
   ·have hb16s:=hb16
    try simp at hb16s
    iterate 5 (refine wC rfl fun K hK=>?_;simp [hN',hb16,hb16s];refine hK _ ?_;clear hK)
    obtain ⟨r17,hc18,hj11⟩:=bS hj11
    refine wL [(.take,.tmp 33),(.take,.tmp 34),(.take,.tmp 35)] rfl rfl kO (aQ _ _ _ hc18) fun K hK=>?_;simp [hN',hb16,hb16s];refine hK _ ?_;clear hK
    iterate 2 (refine wC rfl fun K hK=>?_;simp [hN',hb16,hb16s];refine hK _ ?_;clear hK)
    refine wN ?_
    cases hj11
    exact hK12 _ () [] trivial (by simp [hN',hb16,hb16s])
  rcases aA h with ⟨hb20,h⟩ | ⟨hb21,h⟩
  ·refine SWp.cT' (b:=v19) (by simp) hb20 ?_
   refine SWp.sR rfl (hPB _ rfl) fun K hK=>?_
   refine wC rfl fun K hK=>?_;simp [hN'];refine hK _ ?_;clear hK
   refine wN (hK _ ?_);clear hK
   cases h
   refine SWp.ret ?_
   simp [aC,iB,res107]
  ·refine SWp.cF' (b:=v19) (by simp) hb21 ?_
   refine SWp.skip ?_
   show SWp E C _ _ _
   obtain ⟨j24,hj22,h⟩:=bS h
   refine SWp.seqC [5] [5] (fun v:Unit=>⟨[(5,.ref (.box 5) 0 [])],[(5,[vi e7.Kind,vi e7.Num,vs e7.Name,.sl false 1 (List.map vi e7.Kids)])]⟩) (fun v=>j24=Sum.inl v) (fun v hv=>?_) fun K23 hK23=>?_
   rotate_left
   ·refine SWp.sR rfl (hPB _ rfl) fun K hK=>?_
    iterate 4 (refine wC rfl fun K hK=>?_;simp [hN'];refine hK _ ?_;clear hK)
    refine wN (hK _ ?_);clear hK
    refine SWp.block ?_
    refine SWp.loopO [] [0,1,5,40,41,42] [5] (fun v:Int=>⟨[(0,.t (.sl false 4 (List.map (GNode.enc false) nodes1))),(1,.t (vi k2)),(5,.ref (.box 5) 0 []),(40,.t (.sl false 1 (List.map vi e7.Kids))),(41,.t (vi (e7.Kids.length:Int))),(42,.t (vi v))],[(5,[vi e7.Kind,vi e7.Num,vs e7.Name,.sl false 1 (List.map vi e7.Kids)])]⟩) (eQ nodes1 k2 e7) _ 0 hj22 (by simp [hN']) ?_
    intro g s28 h26 ho27
    obtain ⟨v25,hg⟩:∃ y,y=g:=⟨_,rfl⟩
    subst hg
    simp only [eQ] at h26
    try dsimp only
    refine SWp.sR rfl (hPB _ rfl) fun K hK=>?_
    refine wC rfl fun K hK=>?_;simp [hN'];refine hK _ ?_;clear hK
    refine wN (hK _ ?_);clear hK
    refine SWp.seq ?_
    rcases aA h26 with ⟨hb29,h26⟩ | ⟨hb30,h26⟩
    ·refine SWp.cT' (b:=decide (v25 < (e7.Kids.length:Int))) (by simp) hb29 ?_
     refine SWp.skip ?_
     show SWp E C _ _ _
     refine SWp.seq ?_
     refine SWp.block ?_
     refine SWp.sR rfl (hPB _ rfl) fun K hK=>?_
     refine wC rfl fun K hK=>?_;simp [hN'];refine hK _ ?_;clear hK
     obtain ⟨e31,he31,h26⟩:=bS h26
     obtain ⟨he31a,he31b,he31c,he31d⟩:=gS he31
     iterate 4 (refine wC rfl fun K hK=>?_;simp [hN',he31a,he31b,he31c,he31d];refine hK _ ?_;clear hK)
     refine wN (hK _ ?_);clear hK
     obtain ⟨v46,hj32,h26⟩:=bS h26
     refine SWp.seqC [0,1,5,40,41,42,71] [5] (fun _:Unit=>⟨[(0,.t (.sl false 4 (List.map (GNode.enc false) nodes1))),(1,.t (vi k2)),(5,.ref (.box 5) 0 []),(40,.t (.sl false 1 (List.map vi e7.Kids))),(41,.t (vi (e7.Kids.length:Int))),(42,.t (vi v25)),(71,.t (vb v46))],[(5,[vi e7.Kind,vi e7.Num,vs e7.Name,.sl false 1 (List.map vi e7.Kids)])]⟩) (fun _=>True) (fun _ _=>?_) fun K33 hK33=>?_
     rotate_left
     ·obtain ⟨r34,hc35,hj32⟩:=bS hj32
      rcases aA hj32 with ⟨hb36,hj32⟩ | ⟨hb37,hj32⟩
      ·have hb36s:=hb36
       try simp at hb36s
       refine SWp.dT rfl (hPB _ rfl) [(47,.t (vi e31)),(48,.t (vi k2)),(49,.t (vi (IntKind.wrap .i64 (k2 - 1)))),(50,.t (vb r34)),(51,.t (vb (!r34))),(52,.t (vb (!r34))),(53,.tup []),(54,.tup []),(55,.tup []),(56,.tup []),(57,.tup []),(58,.tup []),(59,.t (vb true)),(60,.t (vb true)),(61,.tup []),(62,.tup []),(63,.tup []),(64,.tup []),(65,.tup []),(66,.tup []),(67,.tup []),(68,.tup [])] [[],[],[1],[0,1,2],[0,1,2,3],[0,1,2,3,4],[0,1,2,3,4,5],[0,1,2,3,4,5,6],[0,1,2,3,4,5],[0,1,2,3,4,5,6,7,8],[0,1,2,3,4,5],[0,1,2,3,4,5,6,7,8,9,10],[0,1,2,3,4,5,6,7,8,9,10,11],[0,1,2,3,4,5,6,7,8,9,10,11,12],[0,1,2,3,4,5,6,7,8,9,10,11,12,13],[0,1,2,3,4,5,6,7,8,9,10,11,12,13,14],[0,1,2,3,4,5,6,7,8,9,10,11,12,13],[0,1,2,3,4,5,6,7,8,9,10,11,12,13],[0,1,2,3,4,5,6,7,8,9,10,11,12,13],[0,1,2,3,4,5,6,7,8,9,10,11,12,13,17,18],[0,1,2,3,4,5,6,7,8,9,10,11,12,13,17,18,19],[0,1,2,3,4,5,6,7,8,9,10,11,12,13,17,18,19,20],[0,1,2,3,4,5,6,7,8,9,10,11,12,13,14,15,16,17,18,19,20,21],[0,1,2,3,4,5,6,7,8,9,10,11,12,13,14,15,16,17,18,19,20,21,22],[0,1,2,3,4,5,6,7,8,9,10,11,12,13,14,15,16,17,18,19,20,21,22,23]] (by simp) (by simp) (by simp [look]) rfl rfl rfl ?_ fun K hK=>?_
       ·refine ⟨?_,?_,?_,?_,?_,?_,?_,?_,?_,?_,?_,?_,?_,?_,?_,?_,?_,?_,?_,?_,?_,?_,trivial⟩
        all_goals (intro τ hbx hb hd hf K hK;try simp [vsAt] at hd;simp [vsAt] at hf;first | (refine wC rfl fun K' hK'=>?_;simp [hN',hbx,hb,hd,hf,hb36,hb36s];exact hK' _ (wN (hK _ (by simp [vsAt,hbx,hb36,hb36s])))) | (refine wL [(.take,.tmp 47),(.take,.const (.int .i64 0)),(.take,.tmp 49)] rfl rfl kO (aQ _ _ _ hc35) fun K' hK'=>?_;simp [hN',hbx,hb,hd,hf,hb36,hb36s];exact hK' _ (wN (hK _ (by simp [vsAt,hbx,hb36,hb36s])))) | (refine wO fun K' hK'=>?_;simp [hN',hbx,hb,hd,hf,hb36,hb36s];exact hK' _ (wN (hK _ (by simp [vsAt,hbx,hb36,hb36s])))))
       iterate 2 (refine wO fun K hK=>?_;simp [hN',hb36,hb36s];refine hK _ ?_;clear hK)
       refine wC rfl fun K hK=>?_;simp [hN',hb36,hb36s];refine hK _ ?_;clear hK
       refine wN (hK _ ?_);clear hK
       cases hj32
       exact hK33 _ () [] trivial (by simp [hN',hb36,hb36s])
      ·have hb37s:=hb37
       try simp at hb37s
       obtain ⟨l38,hl38,hj32⟩:=bS hj32
       obtain ⟨hl38a,hl38b,hl38c,hl38d,hl38e,hl38g,hl38i,hl38j⟩:=subI_some hl38
       have hl38f:(List.map vi e7.Kids).take v25.toNat=List.map vi l38:=by subst hl38e;simp
       have hl38m:=hl38f;try simp at hl38m
       have hl38k:0 ≤ e7.Kids.length:=by omega
       obtain ⟨r39,hc40,hj32⟩:=bS hj32
       rcases aA hj32 with ⟨hb41,hj32⟩ | ⟨hb42,hj32⟩
       ·have hb41s:=hb41
        try simp at hb41s
        refine SWp.dT rfl (hPB _ rfl) [(47,.t (vi e31)),(48,.t (vi k2)),(49,.t (vi (IntKind.wrap .i64 (k2 - 1)))),(50,.t (vb r34)),(51,.t (vb (!r34))),(52,.t (vb (!r34))),(53,.ref (.box 5) 3 []),(54,.t (.sl false 1 (List.map vi e7.Kids))),(55,.t (vi v25)),(56,.t (.sl false 1 (List.map vi l38))),(57,.t (vi e31)),(58,.t (vb r39)),(59,.t (vb r39)),(60,.t (vb r39)),(61,.tup []),(62,.tup []),(63,.tup []),(64,.tup []),(65,.tup []),(66,.tup []),(67,.tup []),(68,.tup [])] [[],[],[1],[0,1,2],[0,1,2,3],[0,1,2,3,4],[0,1,2,3,4,5],[0,1,2,3,4,5,6],[0,1,2,3,4,5],[0,1,2,3,4,5,6,7,8],[0,1,2,3,4,5],[0,1,2,3,4,5,6,7,8,9,10],[0,1,2,3,4,5,6,7,8,9,10,11],[0,1,2,3,4,5,6,7,8,9,10,11,12],[0,1,2,3,4,5,6,7,8,9,10,11,12,13],[0,1,2,3,4,5,6,7,8,9,10,11,12,13,14],[0,1,2,3,4,5,6,7,8,9,10,11,12,13],[0,1,2,3,4,5,6,7,8,9,10,11,12,13],[0,1,2,3,4,5,6,7,8,9,10,11,12,13],[0,1,2,3,4,5,6,7,8,9,10,11,12,13,17,18],[0,1,2,3,4,5,6,7,8,9,10,11,12,13,17,18,19],[0,1,2,3,4,5,6,7,8,9,10,11,12,13,17,18,19,20],[0,1,2,3,4,5,6,7,8,9,10,11,12,13,14,15,16,17,18,19,20,21],[0,1,2,3,4,5,6,7,8,9,10,11,12,13,14,15,16,17,18,19,20,21,22],[0,1,2,3,4,5,6,7,8,9,10,11,12,13,14,15,16,17,18,19,20,21,22,23]] (by simp) (by simp) (by simp [look]) rfl rfl rfl ?_ fun K hK=>?_
        ·refine ⟨?_,?_,?_,?_,?_,?_,?_,?_,?_,?_,?_,?_,?_,?_,?_,?_,?_,?_,?_,?_,?_,?_,trivial⟩
         all_goals (intro τ hbx hb hd hf K hK;try simp [vsAt] at hd;simp [vsAt] at hf;first | (refine wC rfl fun K' hK'=>?_;simp [hN',hbx,hb,hd,hf,hb37,hb37s,hl38a,hl38b,hl38c,hl38d,hl38f,hl38g,hl38i,hl38j,hl38m,hl38k,hb41,hb41s];exact hK' _ (wN (hK _ (by simp [vsAt,hbx,hb37,hb37s,hl38a,hl38b,hl38c,hl38d,hl38f,hl38g,hl38i,hl38j,hl38m,hl38k,hb41,hb41s])))) | (refine wL [(.take,.tmp 47),(.take,.const (.int .i64 0)),(.take,.tmp 49)] rfl rfl kO (aQ _ _ _ hc35) fun K' hK'=>?_;simp [hN',hbx,hb,hd,hf,hb37,hb37s,hl38a,hl38b,hl38c,hl38d,hl38f,hl38g,hl38i,hl38j,hl38m,hl38k,hb41,hb41s];exact hK' _ (wN (hK _ (by simp [vsAt,hbx,hb37,hb37s,hl38a,hl38b,hl38c,hl38d,hl38f,hl38g,hl38i,hl38j,hl38m,hl38k,hb41,hb41s])))) | (refine wL [(.take,.tmp 56),(.take,.tmp 57)] rfl rfl ent64 (fW _ _ hc40) fun K' hK'=>?_;simp [hN',hbx,hb,hd,hf,hb37,hb37s,hl38a,hl38b,hl38c,hl38d,hl38f,hl38g,hl38i,hl38j,hl38m,hl38k,hb41,hb41s];exact hK' _ (wN (hK _ (by simp [vsAt,hbx,hb37,hb37s,hl38a,hl38b,hl38c,hl38d,hl38f,hl38g,hl38i,hl38j,hl38m,hl38k,hb41,hb41s])))) | (refine wO fun K' hK'=>?_;simp [hN',hbx,hb,hd,hf,hb37,hb37s,hl38a,hl38b,hl38c,hl38d,hl38f,hl38g,hl38i,hl38j,hl38m,hl38k,hb41,hb41s];exact hK' _ (wN (hK _ (by simp [vsAt,hbx,hb37,hb37s,hl38a,hl38b,hl38c,hl38d,hl38f,hl38g,hl38i,hl38j,hl38m,hl38k,hb41,hb41s])))))
        iterate 2 (refine wO fun K hK=>?_;simp [hN',hb37,hb37s,hl38a,hl38b,hl38c,hl38d,hl38f,hl38g,hl38i,hl38j,hl38m,hl38k,hb41,hb41s];refine hK _ ?_;clear hK)
        refine wC rfl fun K hK=>?_;simp [hN',hb37,hb37s,hl38a,hl38b,hl38c,hl38d,hl38f,hl38g,hl38i,hl38j,hl38m,hl38k,hb41,hb41s];refine hK _ ?_;clear hK
        refine wN (hK _ ?_);clear hK
        cases hj32
        exact hK33 _ () [] trivial (by simp [hN',hb37,hb37s,hl38a,hl38b,hl38c,hl38d,hl38f,hl38g,hl38i,hl38j,hl38m,hl38k,hb41,hb41s])
       ·have hb42s:=hb42
        try simp at hb42s
        obtain ⟨e43,he43,hj32⟩:=bS hj32
        obtain ⟨he43a,he43b,he43c,he43d⟩:=gS he43
        refine SWp.dT rfl (hPB _ rfl) [(47,.t (vi e31)),(48,.t (vi k2)),(49,.t (vi (IntKind.wrap .i64 (k2 - 1)))),(50,.t (vb r34)),(51,.t (vb (!r34))),(52,.t (vb (!r34))),(53,.ref (.box 5) 3 []),(54,.t (.sl false 1 (List.map vi e7.Kids))),(55,.t (vi v25)),(56,.t (.sl false 1 (List.map vi l38))),(57,.t (vi e31)),(58,.t (vb r39)),(59,.t (vb r39)),(60,.t (vb r39)),(61,.ref (.box 5) 0 []),(62,.t (vi e7.Kind)),(63,.t (vi v25)),(64,.t (.sl false 4 (List.map (GNode.enc false) nodes1))),(65,.t (vi e31)),(66,.rop [vi e43.Kind,vi e43.Num,vs e43.Name,.sl false 1 (List.map vi e43.Kids)] 0),(67,.rop [vi e43.Kind,vi e43.Num,vs e43.Name,.sl false 1 (List.map vi e43.Kids)] 0),(68,.t (vi e43.Kind))] [[],[],[1],[0,1,2],[0,1,2,3],[0,1,2,3,4],[0,1,2,3,4,5],[0,1,2,3,4,5,6],[0,1,2,3,4,5],[0,1,2,3,4,5,6,7,8],[0,1,2,3,4,5],[0,1,2,3,4,5,6,7,8,9,10],[0,1,2,3,4,5,6,7,8,9,10,11],[0,1,2,3,4,5,6,7,8,9,10,11,12],[0,1,2,3,4,5,6,7,8,9,10,11,12,13],[0,1,2,3,4,5,6,7,8,9,10,11,12,13,14],[0,1,2,3,4,5,6,7,8,9,10,11,12,13],[0,1,2,3,4,5,6,7,8,9,10,11,12,13],[0,1,2,3,4,5,6,7,8,9,10,11,12,13],[0,1,2,3,4,5,6,7,8,9,10,11,12,13,17,18],[0,1,2,3,4,5,6,7,8,9,10,11,12,13,17,18,19],[0,1,2,3,4,5,6,7,8,9,10,11,12,13,17,18,19,20],[0,1,2,3,4,5,6,7,8,9,10,11,12,13,14,15,16,17,18,19,20,21],[0,1,2,3,4,5,6,7,8,9,10,11,12,13,14,15,16,17,18,19,20,21,22],[0,1,2,3,4,5,6,7,8,9,10,11,12,13,14,15,16,17,18,19,20,21,22,23]] (by simp) (by simp) (by simp [look]) rfl rfl rfl ?_ fun K hK=>?_
        ·refine ⟨?_,?_,?_,?_,?_,?_,?_,?_,?_,?_,?_,?_,?_,?_,?_,?_,?_,?_,?_,?_,?_,?_,trivial⟩
         all_goals (intro τ hbx hb hd hf K hK;try simp [vsAt] at hd;simp [vsAt] at hf;first | (refine wC rfl fun K' hK'=>?_;simp [hN',hbx,hb,hd,hf,hb37,hb37s,hl38a,hl38b,hl38c,hl38d,hl38f,hl38g,hl38i,hl38j,hl38m,hl38k,hb42,hb42s,he43a,he43b,he43c,he43d];exact hK' _ (wN (hK _ (by simp [vsAt,hbx,hb37,hb37s,hl38a,hl38b,hl38c,hl38d,hl38f,hl38g,hl38i,hl38j,hl38m,hl38k,hb42,hb42s,he43a,he43b,he43c,he43d])))) | (refine wL [(.take,.tmp 47),(.take,.const (.int .i64 0)),(.take,.tmp 49)] rfl rfl kO (aQ _ _ _ hc35) fun K' hK'=>?_;simp [hN',hbx,hb,hd,hf,hb37,hb37s,hl38a,hl38b,hl38c,hl38d,hl38f,hl38g,hl38i,hl38j,hl38m,hl38k,hb42,hb42s,he43a,he43b,he43c,he43d];exact hK' _ (wN (hK _ (by simp [vsAt,hbx,hb37,hb37s,hl38a,hl38b,hl38c,hl38d,hl38f,hl38g,hl38i,hl38j,hl38m,hl38k,hb42,hb42s,he43a,he43b,he43c,he43d])))) | (refine wL [(.take,.tmp 56),(.take,.tmp 57)] rfl rfl ent64 (fW _ _ hc40) fun K' hK'=>?_;simp [hN',hbx,hb,hd,hf,hb37,hb37s,hl38a,hl38b,hl38c,hl38d,hl38f,hl38g,hl38i,hl38j,hl38m,hl38k,hb42,hb42s,he43a,he43b,he43c,he43d];exact hK' _ (wN (hK _ (by simp [vsAt,hbx,hb37,hb37s,hl38a,hl38b,hl38c,hl38d,hl38f,hl38g,hl38i,hl38j,hl38m,hl38k,hb42,hb42s,he43a,he43b,he43c,he43d])))))
        obtain ⟨r44,hc45,hj32⟩:=bS hj32
        refine wL [(.take,.tmp 62),(.take,.tmp 63),(.take,.tmp 68)] rfl rfl ent117 (impl_kidFits_ok _ _ _ hc45) fun K hK=>?_;simp [hN',hb37,hb37s,hl38a,hl38b,hl38c,hl38d,hl38f,hl38g,hl38i,hl38j,hl38m,hl38k,hb42,hb42s,he43a,he43b,he43c,he43d];refine hK _ ?_;clear hK
        iterate 2 (refine wC rfl fun K hK=>?_;simp [hN',hb37,hb37s,hl38a,hl38b,hl38c,hl38d,hl38f,hl38g,hl38i,hl38j,hl38m,hl38k,hb42,hb42s,he43a,he43b,he43c,he43d];refine hK _ ?_;clear hK)
        refine wN (hK _ ?_);clear hK
        cases hj32
        exact hK33 _ () [] trivial (by simp [hN',hb37,hb37s,hl38a,hl38b,hl38c,hl38d,hl38f,hl38g,hl38i,hl38j,hl38m,hl38k,hb42,hb42s,he43a,he43b,he43c,he43d])
     rcases aA h26 with ⟨hb47,h26⟩ | ⟨hb48,h26⟩
     ·refine SWp.cT' (b:=v46) (by simp) hb47 ?_
      refine SWp.sR rfl (hPB _ rfl) fun K hK=>?_
      refine wC rfl fun K hK=>?_;simp [hN'];refine hK _ ?_;clear hK
      refine wN (hK _ ?_);clear hK
      have h49:=congrArg some (ho27 _ (Option.some.inj h26).symm)
      cases h49
      try dsimp only at h
      cases h
      refine SWp.ret ?_
      simp [aC,iB,res107]
     ·refine SWp.cF' (b:=v46) (by simp) hb48 ?_
      refine SWp.skip ?_
      show SWp E C _ _ _
      refine SWp.reg rfl (hPB _ rfl) fun K hK=>?_
      iterate 2 (refine wC rfl fun K hK=>?_;simp [hN'];refine hK _ ?_;clear hK)
      refine wN (hK _ ?_);clear hK
      cases h26
      exact ⟨_,[],rfl,by simp [hN']⟩
    ·refine SWp.cF' (b:=decide (v25 < (e7.Kids.length:Int))) (by simp) hb30 ?_
     refine SWp.exit ?_
     have h50:=congrArg some (ho27 _ (Option.some.inj h26).symm)
     cases h50
     exact hK23 _ _ [] rfl (by simp [hN'])
   subst hv
   obtain ⟨⟩:=v
   try dsimp only at h ⊢
   refine SWp.seq ?_
   obtain ⟨v61,hj51,h⟩:=bS h
   refine SWp.seqRC rfl (hPB _ rfl) [5,91] [5] (fun _:Unit=>⟨[(5,.ref (.box 5) 0 []),(91,.t (vb v61))],[(5,[vi e7.Kind,vi e7.Num,vs e7.Name,.sl false 1 (List.map vi e7.Kids)])]⟩) (fun _=>True) (fun _ _=>?_) fun K52 hK52=>?_
   rotate_left
   ·refine wC rfl fun K hK=>?_;simp [hN'];refine hK _ ?_;clear hK
    iterate 3 (refine wC rfl fun K hK=>?_;simp [hN'];refine hK _ ?_;clear hK)
    rcases aA hj51 with ⟨hb53,hj51⟩ | ⟨hb54,hj51⟩
    ·have hb53s:=hb53
     try simp at hb53s
     iterate 2 (refine wC rfl fun K hK=>?_;simp [hN',hb53,hb53s];refine hK _ ?_;clear hK)
     obtain ⟨r55,hc56,hj51⟩:=bS hj51
     refine wL [(.take,.tmp 78),(.take,.const (.int .i64 0)),(.take,.const (.int .i64 1000000000))] rfl rfl kO (aQ _ _ _ hc56) fun K hK=>?_;simp [hN',hb53,hb53s];refine hK _ ?_;clear hK
     iterate 3 (refine wC rfl fun K hK=>?_;simp [hN',hb53,hb53s];refine hK _ ?_;clear hK)
     rcases aA hj51 with ⟨hb57,hj51⟩ | ⟨hb58,hj51⟩
     ·have hb57s:=hb57
      try simp at hb57s
      iterate 8 (refine wO fun K hK=>?_;simp [hN',hb53,hb53s,hb57,hb57s];refine hK _ ?_;clear hK)
      refine wC rfl fun K hK=>?_;simp [hN',hb53,hb53s,hb57,hb57s];refine hK _ ?_;clear hK
      refine wN ?_
      cases hj51
      exact hK52 _ () [] trivial (by simp [hN',hb53,hb53s,hb57,hb57s])
     ·have hb58s:=hb58
      try simp at hb58s
      iterate 4 (refine wC rfl fun K hK=>?_;simp [hN',hb53,hb53s,hb58,hb58s];refine hK _ ?_;clear hK)
      have hk59:(e7.Kind != 1)=false:=by simp [hb53,hb53s,hb58,hb58s]
      iterate 3 (refine wO fun K hK=>?_;simp [hN',hb53,hb53s,hb58,hb58s,hk59];refine hK _ ?_;clear hK)
      iterate 2 (refine wC rfl fun K hK=>?_;simp [hN',hb53,hb53s,hb58,hb58s,hk59];refine hK _ ?_;clear hK)
      refine wN ?_
      cases hj51
      exact hK52 _ () [] trivial (by simp [hN',hb53,hb53s,hb58,hb58s,hk59])
    ·have hb54s:=hb54
     try simp at hb54s
     iterate 4 (refine wO fun K hK=>?_;simp [hN',hb54,hb54s];refine hK _ ?_;clear hK)
     iterate 6 (refine wC rfl fun K hK=>?_;simp [hN',hb54,hb54s];refine hK _ ?_;clear hK)
     have hk60:(e7.Kind != 1)=true:=by simp [hb54,hb54s]
     iterate 5 (refine wC rfl fun K hK=>?_;simp [hN',hb54,hb54s,hk60];refine hK _ ?_;clear hK)
     refine wN ?_
     cases hj51
     exact hK52 _ () [] trivial (by simp [hN',hb54,hb54s,hk60])
   rcases aA h with ⟨hb62,h⟩ | ⟨hb63,h⟩
   ·refine SWp.cT' (b:=v61) (by simp) hb62 ?_
    refine SWp.sR rfl (hPB _ rfl) fun K hK=>?_
    refine wC rfl fun K hK=>?_;simp [hN'];refine hK _ ?_;clear hK
    refine wN (hK _ ?_);clear hK
    cases h
    refine SWp.ret ?_
    simp [aC,iB,res107]
   ·refine SWp.cF' (b:=v61) (by simp) hb63 ?_
    refine SWp.skip ?_
    show SWp E C _ _ _
    refine SWp.seq ?_
    refine SWp.sR rfl (hPB _ rfl) fun K hK=>?_
    iterate 2 (refine wC rfl fun K hK=>?_;simp [hN'];refine hK _ ?_;clear hK)
    obtain ⟨r64,hc65,h⟩:=bS h
    refine wL [(.take,.tmp 93)] rfl rfl ent118 (impl_hasName_ok _ hc65) fun K hK=>?_;simp [hN'];refine hK _ ?_;clear hK
    refine wN (hK _ ?_);clear hK
    rcases aA h with ⟨hb66,h⟩ | ⟨hb67,h⟩
    ·refine SWp.cT' (b:=r64) (by simp) hb66 ?_
     refine SWp.sR rfl (hPB _ rfl) fun K hK=>?_
     iterate 2 (refine wC rfl fun K hK=>?_;simp [hN'];refine hK _ ?_;clear hK)
     obtain ⟨r68,hc69,h⟩:=bS h
     refine wL [(.take,.tmp 96)] rfl rfl ent90 (lF _ hc69) fun K hK=>?_;simp [hN'];refine hK _ ?_;clear hK
     refine wC rfl fun K hK=>?_;simp [hN'];refine hK _ ?_;clear hK
     refine wN (hK _ ?_);clear hK
     cases h
     refine SWp.ret ?_
     simp [aC,iB,res107]
    ·refine SWp.cF' (b:=r64) (by simp) hb67 ?_
     refine SWp.skip ?_
     show SWp E C _ _ _
     refine SWp.sR rfl (hPB _ rfl) fun K hK=>?_
     iterate 4 (refine wC rfl fun K hK=>?_;simp [hN'];refine hK _ ?_;clear hK)
     refine wN (hK _ ?_);clear hK
     cases h
     refine SWp.ret ?_
     simp [aC,iB,res107]
theorem res89:Tryz.f89.results.toList=[.tmp 4,.tmp 5]:=rfl
theorem ent89:aF E.P 89:=eO Tryz.func89 (by simp [Tryz.f89]) rfl
theorem impl_depths_ok (nodes1:List GNode) (k2:Int) {r0:List Int} {r1:Bool} (h:kL nodes1 k2=some (r0,r1)):Ok E 89 [.val (.sl false 4 (List.map (GNode.enc false) nodes1)),.val (vi k2)] [.sl true 1 (List.map vi r0),vb r1] []:=by
 refine oB (fn:=Tryz.f89) Tryz.func89 rfl (by simp [Tryz.f89]) fun C hN hP=>?_
 have hPB:∀ l,pinK [] l=true→pinB C.pin l=true:=pO (by rw [hP];rfl)
 have hN':C.N=51:=hN
 clear hN
 unfold kL at h
 refine SWp.sR rfl (hPB _ rfl) fun K hK=>?_
 iterate 2 (refine wC rfl fun K hK=>?_;simp [hN'];refine hK _ ?_;clear hK)
 refine wN (hK _ ?_);clear hK
 refine SWp.seq ?_
 refine SWp.sR rfl (hPB _ rfl) fun K hK=>?_
 iterate 4 (refine wC rfl fun K hK=>?_;simp [hN'];refine hK _ ?_;clear hK)
 obtain ⟨r3,hc4,h⟩:=bS h
 refine wL [(.take,.tmp 11),(.take,.const (.int .i64 0)),(.take,.tmp 14)] rfl rfl kO (aQ _ _ _ hc4) fun K hK=>?_;simp [hN'];refine hK _ ?_;clear hK
 refine wC rfl fun K hK=>?_;simp [hN'];refine hK _ ?_;clear hK
 refine wN (hK _ ?_);clear hK
 rcases aA h with ⟨hb5,h⟩ | ⟨hb6,h⟩
 ·refine SWp.cT' (b:=!r3) (by simp) hb5 ?_
  refine SWp.sR rfl (hPB _ rfl) fun K hK=>?_
  iterate 2 (refine wC rfl fun K hK=>?_;simp [hN'];refine hK _ ?_;clear hK)
  refine wN (hK _ ?_);clear hK
  cases h
  refine SWp.ret ?_
  simp [aC,iB,res89]
 ·refine SWp.cF' (b:=!r3) (by simp) hb6 ?_
  refine SWp.skip ?_
  show SWp E C _ _ _
  refine SWp.sR rfl (hPB _ rfl) fun K hK=>?_
  refine wC rfl fun K hK=>?_;simp [hN'];refine hK _ ?_;clear hK
  refine wN (hK _ ?_);clear hK
  obtain ⟨j9,hj7,h⟩:=bS h
  refine SWp.seqC [6] [] (fun v:List Int=>⟨[(6,.t (.sl true 1 (List.map vi v)))],[]⟩) (fun v=>j9=Sum.inl v) (fun v hv=>?_) fun K8 hK8=>?_
  rotate_left
  ·refine SWp.sR rfl (hPB _ rfl) fun K hK=>?_
   refine wC rfl fun K hK=>?_;simp [hN'];refine hK _ ?_;clear hK
   refine wN (hK _ ?_);clear hK
   refine SWp.block ?_
   refine SWp.loopO [] [0,1,6,7] [] (fun v:(List Int) × Int=>⟨[(0,.t (.sl false 4 (List.map (GNode.enc false) nodes1))),(1,.t (vi k2)),(6,.t (.sl true 1 (List.map vi v.1))),(7,.t (vi v.2))],[]⟩) (eM nodes1 k2) _ ([],0) hj7 (by simp [hN']) ?_
   intro g s14 h12 ho13
   obtain ⟨out10,i11⟩:=g
   simp only [eM] at h12
   try dsimp only
   refine SWp.seq ?_
   refine SWp.sR rfl (hPB _ rfl) fun K hK=>?_
   iterate 3 (refine wC rfl fun K hK=>?_;simp [hN'];refine hK _ ?_;clear hK)
   refine wN (hK _ ?_);clear hK
   rcases aA h12 with ⟨hb15,h12⟩ | ⟨hb16,h12⟩
   ·refine SWp.cT' (b:=decide (i11 ≤ k2)) (by simp) hb15 ?_
    refine SWp.skip ?_
    show SWp E C _ _ _
    obtain ⟨j19,hj17,h12⟩:=bS h12
    refine SWp.seqC [0,1,6,7] [] (fun v:List Int=>⟨[(0,.t (.sl false 4 (List.map (GNode.enc false) nodes1))),(1,.t (vi k2)),(6,.t (.sl true 1 (List.map vi v))),(7,.t (vi i11))],[]⟩) (fun v=>j19=Sum.inl v) (fun v hv=>?_) fun K18 hK18=>?_
    rotate_left
    ·refine SWp.block ?_
     refine SWp.seq ?_
     refine SWp.sR rfl (hPB _ rfl) fun K hK=>?_
     iterate 2 (refine wC rfl fun K hK=>?_;simp [hN'];refine hK _ ?_;clear hK)
     obtain ⟨r20,hc21,hj17⟩:=bS hj17
     refine wL [(.take,.tmp 22),(.take,.tmp 23)] rfl rfl ent107 (impl_NodeOk_ok _ _ hc21) fun K hK=>?_;simp [hN'];refine hK _ ?_;clear hK
     refine wC rfl fun K hK=>?_;simp [hN'];refine hK _ ?_;clear hK
     refine wN (hK _ ?_);clear hK
     rcases aA hj17 with ⟨hb22,hj17⟩ | ⟨hb23,hj17⟩
     ·refine SWp.cT' (b:=!r20) (by simp) hb22 ?_
      refine SWp.sR rfl (hPB _ rfl) fun K hK=>?_
      iterate 2 (refine wC rfl fun K hK=>?_;simp [hN'];refine hK _ ?_;clear hK)
      refine wN (hK _ ?_);clear hK
      cases hj17
      try dsimp only at h12
      have h24:=congrArg some (ho13 _ (Option.some.inj h12).symm)
      cases h24
      try dsimp only at h
      cases h
      refine SWp.ret ?_
      simp [aC,iB,res89]
     ·refine SWp.cF' (b:=!r20) (by simp) hb23 ?_
      refine SWp.skip ?_
      show SWp E C _ _ _
      refine SWp.sR rfl (hPB _ rfl) fun K hK=>?_
      refine wC rfl fun K hK=>?_;simp [hN'];refine hK _ ?_;clear hK
      refine wN (hK _ ?_);clear hK
      obtain ⟨d39,hj25,hj17⟩:=bS hj17
      refine SWp.seqC [0,1,6,7,8] [] (fun _:Unit=>⟨[(0,.t (.sl false 4 (List.map (GNode.enc false) nodes1))),(1,.t (vi k2)),(6,.t (.sl true 1 (List.map vi out10))),(7,.t (vi i11)),(8,.t (vi d39))],[]⟩) (fun _=>True) (fun _ _=>?_) fun K26 hK26=>?_
      rotate_left
      ·refine SWp.sR rfl (hPB _ rfl) fun K hK=>?_
       iterate 2 (refine wC rfl fun K hK=>?_;simp [hN'];refine hK _ ?_;clear hK)
       obtain ⟨e28,he28,hj25⟩:=bS hj25
       obtain ⟨he28a,he28b,he28c,he28d⟩:=gS he28
       iterate 5 (refine wC rfl fun K hK=>?_;simp [hN',he28a,he28b,he28c,he28d];refine hK _ ?_;clear hK)
       refine wN (hK _ ?_);clear hK
       refine SWp.block ?_
       refine SWp.loopO [] [0,1,6,7,8,30,31,32] [] (fun v:Int × Int=>⟨[(0,.t (.sl false 4 (List.map (GNode.enc false) nodes1))),(1,.t (vi k2)),(6,.t (.sl true 1 (List.map vi out10))),(7,.t (vi i11)),(8,.t (vi v.1)),(30,.t (.sl false 1 (List.map vi e28.Kids))),(31,.t (vi (e28.Kids.length:Int))),(32,.t (vi v.2))],[]⟩) (cW out10 e28) _ (1,0) hj25 (by simp [hN']) ?_
       intro g s33 h31 ho32
       obtain ⟨d29,v30⟩:=g
       simp only [cW] at h31
       try dsimp only
       refine SWp.sR rfl (hPB _ rfl) fun K hK=>?_
       refine wC rfl fun K hK=>?_;simp [hN'];refine hK _ ?_;clear hK
       refine wN (hK _ ?_);clear hK
       refine SWp.seq ?_
       rcases aA h31 with ⟨hb34,h31⟩ | ⟨hb35,h31⟩
       ·refine SWp.cT' (b:=decide (v30 < (e28.Kids.length:Int))) (by simp) hb34 ?_
        refine SWp.skip ?_
        show SWp E C _ _ _
        refine SWp.seq ?_
        refine SWp.block ?_
        refine SWp.sR rfl (hPB _ rfl) fun K hK=>?_
        obtain ⟨e36,he36,h31⟩:=bS h31
        obtain ⟨he36a,he36b,he36c,he36d⟩:=gS he36
        iterate 3 (refine wC rfl fun K hK=>?_;simp [hN',he36a,he36b,he36c,he36d];refine hK _ ?_;clear hK)
        refine wN (hK _ ?_);clear hK
        refine SWp.reg rfl (hPB _ rfl) fun K hK=>?_
        iterate 3 (refine wC rfl fun K hK=>?_;simp [hN'];refine hK _ ?_;clear hK)
        obtain ⟨e37,he37,h31⟩:=bS h31
        obtain ⟨he37a,he37b,he37c,he37d⟩:=gS he37
        iterate 5 (refine wC rfl fun K hK=>?_;simp [hN',he37a,he37b,he37c,he37d];refine hK _ ?_;clear hK)
        refine wN (hK _ ?_);clear hK
        show SWp E C _ _ _
        refine SWp.reg rfl (hPB _ rfl) fun K hK=>?_
        iterate 2 (refine wC rfl fun K hK=>?_;simp [hN'];refine hK _ ?_;clear hK)
        refine wN (hK _ ?_);clear hK
        cases h31
        exact ⟨_,[],rfl,by simp [hN']⟩
       ·refine SWp.cF' (b:=decide (v30 < (e28.Kids.length:Int))) (by simp) hb35 ?_
        refine SWp.exit ?_
        have h38:=congrArg some (ho32 _ (Option.some.inj h31).symm)
        cases h38
        exact hK26 _ () [] trivial (by simp [hN'])
      refine SWp.seq ?_
      refine SWp.sR rfl (hPB _ rfl) fun K hK=>?_
      iterate 2 (refine wC rfl fun K hK=>?_;simp [hN'];refine hK _ ?_;clear hK)
      refine wN (hK _ ?_);clear hK
      rcases aA hj17 with ⟨hb40,hj17⟩ | ⟨hb41,hj17⟩
      ·refine SWp.cT' (b:=decide (d39 > 10)) (by simp) hb40 ?_
       refine SWp.sR rfl (hPB _ rfl) fun K hK=>?_
       iterate 2 (refine wC rfl fun K hK=>?_;simp [hN'];refine hK _ ?_;clear hK)
       refine wN (hK _ ?_);clear hK
       cases hj17
       try dsimp only at h12
       have h42:=congrArg some (ho13 _ (Option.some.inj h12).symm)
       cases h42
       try dsimp only at h
       cases h
       refine SWp.ret ?_
       simp [aC,iB,res89]
      ·refine SWp.cF' (b:=decide (d39 > 10)) (by simp) hb41 ?_
       refine SWp.skip ?_
       show SWp E C _ _ _
       refine SWp.reg rfl (hPB _ rfl) fun K hK=>?_
       iterate 3 (refine wC rfl fun K hK=>?_;simp [hN'];refine hK _ ?_;clear hK)
       obtain ⟨l43,hl43,hj17⟩:=bS hj17
       obtain ⟨hl43a,hl43b,hl43d⟩:=aS hl43
       have hl43f:List.map vi out10 ++ List.map vi [d39]=List.map vi l43:=dV (f:=vi) hl43d
       simp [eSl] at hl43a hl43b hl43f
       iterate 2 (refine wC rfl fun K hK=>?_;simp [hN',hl43a,hl43b,hl43f];refine hK _ ?_;clear hK)
       refine wN (hK _ ?_);clear hK
       cases hj17
       exact hK18 _ _ [] rfl (by simp [hN'])
    subst hv
    obtain ⟨out44,hv⟩:∃ y,y=v:=⟨_,rfl⟩
    subst hv
    try dsimp only at h12 ⊢
    refine SWp.reg rfl (hPB _ rfl) fun K hK=>?_
    iterate 3 (refine wC rfl fun K hK=>?_;simp [hN'];refine hK _ ?_;clear hK)
    refine wN (hK _ ?_);clear hK
    cases h12
    exact ⟨_,[],rfl,by simp [hN']⟩
   ·refine SWp.cF' (b:=decide (i11 ≤ k2)) (by simp) hb16 ?_
    refine SWp.exit ?_
    have h45:=congrArg some (ho13 _ (Option.some.inj h12).symm)
    cases h45
    exact hK8 _ _ [] rfl (by simp [hN'])
  subst hv
  obtain ⟨out46,hv⟩:∃ y,y=v:=⟨_,rfl⟩
  subst hv
  try dsimp only at h ⊢
  refine SWp.sR rfl (hPB _ rfl) fun K hK=>?_
  iterate 3 (refine wC rfl fun K hK=>?_;simp [hN'];refine hK _ ?_;clear hK)
  refine wN (hK _ ?_);clear hK
  cases h
  refine SWp.ret ?_
  simp [aC,iB,res89]
theorem res60:Tryz.f60.results.toList=[.tmp 4]:=rfl
theorem ent60:aF E.P 60:=eO Tryz.func60 (by simp [Tryz.f60]) rfl
theorem pK (nodes1:List GNode) (k2:Int) {r0:Int} (h:iC nodes1 k2=some r0):Ok E 60 [.val (.sl false 4 (List.map (GNode.enc false) nodes1)),.val (vi k2)] [vi r0] []:=by
 refine oB (fn:=Tryz.f60) Tryz.func60 rfl (by simp [Tryz.f60]) fun C hN hP=>?_
 have u:∀ l,pinK [] l=true→pinB C.pin l=true:=pO (by rw [hP];rfl)
 have y:C.N=19:=hN
 clear hN
 unfold iC at h
 refine SWp.sR rfl (u _ rfl) fun K q=>?_
 refine wC rfl fun K q=>?_;simp [y];refine q _ ?_;clear q
 refine wN (q _ ?_);clear q
 refine SWp.sR rfl (u _ rfl) fun K q=>?_
 iterate 2 (refine wC rfl fun K q=>?_;simp [y];refine q _ ?_;clear q)
 obtain ⟨⟨r3,r4⟩,hc5,h⟩:=bS h
 try dsimp only at h
 refine wL [(.take,.tmp 8),(.take,.tmp 9)] rfl rfl ent89 (impl_depths_ok _ _ hc5) fun K q=>?_;simp [y];refine q _ ?_;clear q
 iterate 5 (refine wC rfl fun K q=>?_;simp [y];refine q _ ?_;clear q)
 refine wN (q _ ?_);clear q
 refine SWp.seq ?_
 refine SWp.sR rfl (u _ rfl) fun K q=>?_
 iterate 2 (refine wC rfl fun K q=>?_;simp [y];refine q _ ?_;clear q)
 refine wN (q _ ?_);clear q
 rcases aA h with ⟨hb6,h⟩ | ⟨hb7,h⟩
 ·refine SWp.cT' (b:=!r4) (by simp) hb6 ?_
  refine SWp.sR rfl (u _ rfl) fun K q=>?_
  refine wC rfl fun K q=>?_;simp [y];refine q _ ?_;clear q
  refine wN (q _ ?_);clear q
  cases h
  refine SWp.ret ?_
  simp [aC,iB,res60]
 ·refine SWp.cF' (b:=!r4) (by simp) hb7 ?_
  refine SWp.skip ?_
  show SWp E C _ _ _
  refine SWp.sR rfl (u _ rfl) fun K q=>?_
  iterate 2 (refine wC rfl fun K q=>?_;simp [y];refine q _ ?_;clear q)
  obtain ⟨e8,he8,h⟩:=bS h
  obtain ⟨he8a,he8b,he8c,he8d⟩:=gS he8
  iterate 3 (refine wC rfl fun K q=>?_;simp [y,he8a,he8b,he8c,he8d];refine q _ ?_;clear q)
  refine wN (q _ ?_);clear q
  cases h
  refine SWp.ret ?_
  simp [aC,iB,res60]
theorem res61:Tryz.f61.results.toList=[.tmp 4]:=rfl
theorem ent61:aF E.P 61:=eO Tryz.func61 (by simp [Tryz.f61]) rfl
theorem impl_fnOk_ok (p1:GProgram) (f2:GFn) {r0:Bool} (h:oE p1 f2=some r0):Ok E 61 [.val (GProgram.enc false p1),.val (GFn.enc false f2)] [vb r0] []:=by
 refine oB (fn:=Tryz.f61) Tryz.func61 rfl (by simp [Tryz.f61]) fun C hN hP=>?_
 have hPB:∀ l,pinK [] l=true→pinB C.pin l=true:=pO (by rw [hP];rfl)
 have hN':C.N=91:=hN
 clear hN
 unfold oE at h
 refine SWp.sR rfl (hPB _ rfl) fun K hK=>?_
 iterate 3 (refine wC rfl fun K hK=>?_;simp [hN'];refine hK _ ?_;clear hK)
 refine wN (hK _ ?_);clear hK
 refine SWp.seq ?_
 obtain ⟨v15,hj3,h⟩:=bS h
 refine SWp.seqRC rfl (hPB _ rfl) [2,3,31] [2,3] (fun _:Unit=>⟨[(2,.ref (.box 2) 0 []),(3,.ref (.box 3) 0 []),(31,.t (vb v15))],[(2,[.sl false 4 (List.map (GNode.enc false) p1.Nodes),.sl false 5 (List.map (GFn.enc false) p1.Fns)]),(3,[vs f2.Name,.sl false 2 (List.map GParam.enc f2.Params),vi f2.Res,vi f2.Body,vi f2.Ret])]⟩) (fun _=>True) (fun _ _=>?_) fun K4 hK4=>?_
 rotate_left
 ·refine wC rfl fun K hK=>?_;simp [hN'];refine hK _ ?_;clear hK
  refine wC rfl fun K hK=>?_;simp [hN'];refine hK _ ?_;clear hK
  obtain ⟨r5,hc6,hj3⟩:=bS hj3
  refine wL [(.take,.tmp 8)] rfl rfl ent90 (lF _ hc6) fun K hK=>?_;simp [hN'];refine hK _ ?_;clear hK
  iterate 2 (refine wC rfl fun K hK=>?_;simp [hN'];refine hK _ ?_;clear hK)
  rcases aA hj3 with ⟨hb7,hj3⟩ | ⟨hb8,hj3⟩
  ·have hb7s:=hb7
   try simp at hb7s
   iterate 4 (refine wO fun K hK=>?_;simp [hN',hb7,hb7s];refine hK _ ?_;clear hK)
   iterate 2 (refine wC rfl fun K hK=>?_;simp [hN',hb7,hb7s];refine hK _ ?_;clear hK)
   iterate 13 (refine wO fun K hK=>?_;simp [hN',hb7,hb7s];refine hK _ ?_;clear hK)
   refine wC rfl fun K hK=>?_;simp [hN',hb7,hb7s];refine hK _ ?_;clear hK
   refine wN ?_
   cases hj3
   exact hK4 _ () [] trivial (by simp [hN',hb7,hb7s])
  ·have hb8s:=hb8
   try simp at hb8s
   iterate 6 (refine wC rfl fun K hK=>?_;simp [hN',hb8,hb8s];refine hK _ ?_;clear hK)
   rcases aA hj3 with ⟨hb9,hj3⟩ | ⟨hb10,hj3⟩
   ·have hb9s:=hb9
    try simp at hb9s
    iterate 13 (refine wO fun K hK=>?_;simp [hN',hb8,hb8s,hb9,hb9s];refine hK _ ?_;clear hK)
    refine wC rfl fun K hK=>?_;simp [hN',hb8,hb8s,hb9,hb9s];refine hK _ ?_;clear hK
    refine wN ?_
    cases hj3
    exact hK4 _ () [] trivial (by simp [hN',hb8,hb8s,hb9,hb9s])
   ·have hb10s:=hb10
    try simp at hb10s
    iterate 4 (refine wC rfl fun K hK=>?_;simp [hN',hb8,hb8s,hb10,hb10s];refine hK _ ?_;clear hK)
    rcases aA hj3 with ⟨hb11,hj3⟩ | ⟨hb12,hj3⟩
    ·have hb11s:=hb11
     try simp at hb11s
     iterate 5 (refine wC rfl fun K hK=>?_;simp [hN',hb8,hb8s,hb10,hb10s,hb11,hb11s];refine hK _ ?_;clear hK)
     rcases aA hj3 with ⟨hb13,hj3⟩ | ⟨hb14,hj3⟩
     ·have hb13s:=hb13
      try simp at hb13s
      iterate 5 (refine wC rfl fun K hK=>?_;simp [hN',hb8,hb8s,hb10,hb10s,hb11,hb11s,hb13,hb13s];refine hK _ ?_;clear hK)
      refine wN ?_
      cases hj3
      exact hK4 _ () [] trivial (by simp [hN',hb8,hb8s,hb10,hb10s,hb11,hb11s,hb13,hb13s])
     ·have hb14s:=hb14
      try simp at hb14s
      iterate 3 (refine wO fun K hK=>?_;simp [hN',hb8,hb8s,hb10,hb10s,hb11,hb11s,hb14,hb14s];refine hK _ ?_;clear hK)
      iterate 2 (refine wC rfl fun K hK=>?_;simp [hN',hb8,hb8s,hb10,hb10s,hb11,hb11s,hb14,hb14s];refine hK _ ?_;clear hK)
      refine wN ?_
      cases hj3
      exact hK4 _ () [] trivial (by simp [hN',hb8,hb8s,hb10,hb10s,hb11,hb11s,hb14,hb14s])
    ·have hb12s:=hb12
     try simp at hb12s
     iterate 3 (refine wO fun K hK=>?_;simp [hN',hb8,hb8s,hb10,hb10s,hb12,hb12s];refine hK _ ?_;clear hK)
     iterate 2 (refine wC rfl fun K hK=>?_;simp [hN',hb8,hb8s,hb10,hb10s,hb12,hb12s];refine hK _ ?_;clear hK)
     iterate 3 (refine wO fun K hK=>?_;simp [hN',hb8,hb8s,hb10,hb10s,hb12,hb12s];refine hK _ ?_;clear hK)
     iterate 2 (refine wC rfl fun K hK=>?_;simp [hN',hb8,hb8s,hb10,hb10s,hb12,hb12s];refine hK _ ?_;clear hK)
     refine wN ?_
     cases hj3
     exact hK4 _ () [] trivial (by simp [hN',hb8,hb8s,hb10,hb10s,hb12,hb12s])
 rcases aA h with ⟨hb16,h⟩ | ⟨hb17,h⟩
 ·refine SWp.cT' (b:=v15) (by simp) hb16 ?_
  refine SWp.sR rfl (hPB _ rfl) fun K hK=>?_
  refine wC rfl fun K hK=>?_;simp [hN'];refine hK _ ?_;clear hK
  refine wN (hK _ ?_);clear hK
  cases h
  refine SWp.ret ?_
  simp [aC,iB,res61]
 ·refine SWp.cF' (b:=v15) (by simp) hb17 ?_
  refine SWp.skip ?_
  show SWp E C _ _ _
  obtain ⟨j20,hj18,h⟩:=bS h
  refine SWp.seqC [2,3] [2,3] (fun v:Unit=>⟨[(2,.ref (.box 2) 0 []),(3,.ref (.box 3) 0 [])],[(2,[.sl false 4 (List.map (GNode.enc false) p1.Nodes),.sl false 5 (List.map (GFn.enc false) p1.Fns)]),(3,[vs f2.Name,.sl false 2 (List.map GParam.enc f2.Params),vi f2.Res,vi f2.Body,vi f2.Ret])]⟩) (fun v=>j20=Sum.inl v) (fun v hv=>?_) fun K19 hK19=>?_
  rotate_left
  ·refine SWp.sR rfl (hPB _ rfl) fun K hK=>?_
   iterate 4 (refine wC rfl fun K hK=>?_;simp [hN'];refine hK _ ?_;clear hK)
   refine wN (hK _ ?_);clear hK
   refine SWp.block ?_
   refine SWp.loopO [] [2,3,33,34,35] [2,3] (fun v:Int=>⟨[(2,.ref (.box 2) 0 []),(3,.ref (.box 3) 0 []),(33,.t (.sl false 2 (List.map GParam.enc f2.Params))),(34,.t (vi (f2.Params.length:Int))),(35,.t (vi v))],[(2,[.sl false 4 (List.map (GNode.enc false) p1.Nodes),.sl false 5 (List.map (GFn.enc false) p1.Fns)]),(3,[vs f2.Name,.sl false 2 (List.map GParam.enc f2.Params),vi f2.Res,vi f2.Body,vi f2.Ret])]⟩) (gG f2) _ 0 hj18 (by simp [hN']) ?_
   intro g s24 h22 ho23
   obtain ⟨v21,hg⟩:∃ y,y=g:=⟨_,rfl⟩
   subst hg
   simp only [gG] at h22
   try dsimp only
   refine SWp.sR rfl (hPB _ rfl) fun K hK=>?_
   refine wC rfl fun K hK=>?_;simp [hN'];refine hK _ ?_;clear hK
   refine wN (hK _ ?_);clear hK
   refine SWp.seq ?_
   rcases aA h22 with ⟨hb25,h22⟩ | ⟨hb26,h22⟩
   ·refine SWp.cT' (b:=decide (v21 < (f2.Params.length:Int))) (by simp) hb25 ?_
    refine SWp.skip ?_
    show SWp E C _ _ _
    refine SWp.seq ?_
    refine SWp.block ?_
    refine SWp.sR rfl (hPB _ rfl) fun K hK=>?_
    obtain ⟨e27,he27,h22⟩:=bS h22
    obtain ⟨he27a,he27b,he27c,he27d⟩:=gS he27
    iterate 4 (refine wC rfl fun K hK=>?_;simp [hN',he27a,he27b,he27c,he27d];refine hK _ ?_;clear hK)
    refine wN (hK _ ?_);clear hK
    obtain ⟨v36,hj28,h22⟩:=bS h22
    refine SWp.seqRC rfl (hPB _ rfl) [2,3,33,34,35,48] [2,3] (fun _:Unit=>⟨[(2,.ref (.box 2) 0 []),(3,.ref (.box 3) 0 []),(33,.t (.sl false 2 (List.map GParam.enc f2.Params))),(34,.t (vi (f2.Params.length:Int))),(35,.t (vi v21)),(48,.t (vb v36))],[(2,[.sl false 4 (List.map (GNode.enc false) p1.Nodes),.sl false 5 (List.map (GFn.enc false) p1.Fns)]),(3,[vs f2.Name,.sl false 2 (List.map GParam.enc f2.Params),vi f2.Res,vi f2.Body,vi f2.Ret])]⟩) (fun _=>True) (fun _ _=>?_) fun K29 hK29=>?_
    rotate_left
    ·refine wC rfl fun K hK=>?_;simp [hN'];refine hK _ ?_;clear hK
     refine wC rfl fun K hK=>?_;simp [hN'];refine hK _ ?_;clear hK
     obtain ⟨r30,hc31,hj28⟩:=bS hj28
     refine wL [(.take,.tmp 40)] rfl rfl ent90 (lF _ hc31) fun K hK=>?_;simp [hN'];refine hK _ ?_;clear hK
     iterate 2 (refine wC rfl fun K hK=>?_;simp [hN'];refine hK _ ?_;clear hK)
     rcases aA hj28 with ⟨hb32,hj28⟩ | ⟨hb33,hj28⟩
     ·have hb32s:=hb32
      try simp at hb32s
      iterate 4 (refine wO fun K hK=>?_;simp [hN',hb32,hb32s];refine hK _ ?_;clear hK)
      refine wC rfl fun K hK=>?_;simp [hN',hb32,hb32s];refine hK _ ?_;clear hK
      refine wN ?_
      cases hj28
      exact hK29 _ () [] trivial (by simp [hN',hb32,hb32s])
     ·have hb33s:=hb33
      try simp at hb33s
      iterate 2 (refine wC rfl fun K hK=>?_;simp [hN',hb33,hb33s];refine hK _ ?_;clear hK)
      obtain ⟨r34,hc35,hj28⟩:=bS hj28
      refine wL [(.take,.tmp 45),(.take,.const (.int .i64 1)),(.take,.const (.int .i64 4))] rfl rfl kO (aQ _ _ _ hc35) fun K hK=>?_;simp [hN',hb33,hb33s];refine hK _ ?_;clear hK
      iterate 2 (refine wC rfl fun K hK=>?_;simp [hN',hb33,hb33s];refine hK _ ?_;clear hK)
      refine wN ?_
      cases hj28
      exact hK29 _ () [] trivial (by simp [hN',hb33,hb33s])
    rcases aA h22 with ⟨hb37,h22⟩ | ⟨hb38,h22⟩
    ·refine SWp.cT' (b:=v36) (by simp) hb37 ?_
     refine SWp.sR rfl (hPB _ rfl) fun K hK=>?_
     refine wC rfl fun K hK=>?_;simp [hN'];refine hK _ ?_;clear hK
     refine wN (hK _ ?_);clear hK
     have h39:=congrArg some (ho23 _ (Option.some.inj h22).symm)
     cases h39
     try dsimp only at h
     cases h
     refine SWp.ret ?_
     simp [aC,iB,res61]
    ·refine SWp.cF' (b:=v36) (by simp) hb38 ?_
     refine SWp.skip ?_
     show SWp E C _ _ _
     refine SWp.reg rfl (hPB _ rfl) fun K hK=>?_
     iterate 2 (refine wC rfl fun K hK=>?_;simp [hN'];refine hK _ ?_;clear hK)
     refine wN (hK _ ?_);clear hK
     cases h22
     exact ⟨_,[],rfl,by simp [hN']⟩
   ·refine SWp.cF' (b:=decide (v21 < (f2.Params.length:Int))) (by simp) hb26 ?_
    refine SWp.exit ?_
    have h40:=congrArg some (ho23 _ (Option.some.inj h22).symm)
    cases h40
    exact hK19 _ _ [] rfl (by simp [hN'])
  subst hv
  obtain ⟨⟩:=v
  try dsimp only at h ⊢
  refine SWp.seq ?_
  obtain ⟨v48,hj41,h⟩:=bS h
  refine SWp.seqRC rfl (hPB _ rfl) [2,3,67] [2,3] (fun _:Unit=>⟨[(2,.ref (.box 2) 0 []),(3,.ref (.box 3) 0 []),(67,.t (vb v48))],[(2,[.sl false 4 (List.map (GNode.enc false) p1.Nodes),.sl false 5 (List.map (GFn.enc false) p1.Fns)]),(3,[vs f2.Name,.sl false 2 (List.map GParam.enc f2.Params),vi f2.Res,vi f2.Body,vi f2.Ret])]⟩) (fun _=>True) (fun _ _=>?_) fun K42 hK42=>?_
  rotate_left
  ·refine wC rfl fun K hK=>?_;simp [hN'];refine hK _ ?_;clear hK
   iterate 5 (refine wC rfl fun K hK=>?_;simp [hN'];refine hK _ ?_;clear hK)
   obtain ⟨r43,hc44,hj41⟩:=bS hj41
   refine wL [(.take,.tmp 51),(.take,.const (.int .i64 0)),(.take,.tmp 55)] rfl rfl kO (aQ _ _ _ hc44) fun K hK=>?_;simp [hN'];refine hK _ ?_;clear hK
   iterate 2 (refine wC rfl fun K hK=>?_;simp [hN'];refine hK _ ?_;clear hK)
   rcases aA hj41 with ⟨hb45,hj41⟩ | ⟨hb46,hj41⟩
   ·have hb45s:=hb45
    try simp at hb45s
    iterate 8 (refine wO fun K hK=>?_;simp [hN',hb45,hb45s];refine hK _ ?_;clear hK)
    refine wC rfl fun K hK=>?_;simp [hN',hb45,hb45s];refine hK _ ?_;clear hK
    refine wN ?_
    cases hj41
    exact hK42 _ () [] trivial (by simp [hN',hb45,hb45s])
   ·have hb46s:=hb46
    try simp at hb46s
    iterate 4 (refine wC rfl fun K hK=>?_;simp [hN',hb46,hb46s];refine hK _ ?_;clear hK)
    obtain ⟨e47,he47,hj41⟩:=bS hj41
    obtain ⟨he47a,he47b,he47c,he47d⟩:=gS he47
    have he47j:=he47b;try simp at he47j
    try simp only [Int.toNat_natCast] at he47c he47d
    iterate 5 (refine wC rfl fun K hK=>?_;simp [hN',hb46,hb46s,he47a,he47b,he47c,he47d,he47j];refine hK _ ?_;clear hK)
    refine wN ?_
    cases hj41
    exact hK42 _ () [] trivial (by simp [hN',hb46,hb46s,he47a,he47b,he47c,he47d,he47j])
  rcases aA h with ⟨hb49,h⟩ | ⟨hb50,h⟩
  ·refine SWp.cT' (b:=v48) (by simp) hb49 ?_
   refine SWp.sR rfl (hPB _ rfl) fun K hK=>?_
   refine wC rfl fun K hK=>?_;simp [hN'];refine hK _ ?_;clear hK
   refine wN (hK _ ?_);clear hK
   cases h
   refine SWp.ret ?_
   simp [aC,iB,res61]
  ·refine SWp.cF' (b:=v48) (by simp) hb50 ?_
   refine SWp.skip ?_
   show SWp E C _ _ _
   refine SWp.seq ?_
   refine SWp.sR rfl (hPB _ rfl) fun K hK=>?_
   iterate 3 (refine wC rfl fun K hK=>?_;simp [hN'];refine hK _ ?_;clear hK)
   refine wN (hK _ ?_);clear hK
   rcases aA h with ⟨hb51,h⟩ | ⟨hb52,h⟩
   ·refine SWp.cT' (b:=f2.Res == 0) (by simp) hb51 ?_
    refine SWp.sR rfl (hPB _ rfl) fun K hK=>?_
    iterate 4 (refine wC rfl fun K hK=>?_;simp [hN'];refine hK _ ?_;clear hK)
    refine wN (hK _ ?_);clear hK
    cases h
    refine SWp.ret ?_
    simp [aC,iB,res61]
   ·refine SWp.cF' (b:=f2.Res == 0) (by simp) hb52 ?_
    refine SWp.skip ?_
    show SWp E C _ _ _
    obtain ⟨v62,hj53,h⟩:=bS h
    refine SWp.seqRC rfl (hPB _ rfl) [4] [] (fun _:Unit=>⟨[(4,.t (vb v62))],[]⟩) (fun _=>True) (fun _ _=>?_) fun K54 hK54=>?_
    rotate_left
    ·refine wC rfl fun K hK=>?_;simp [hN'];refine hK _ ?_;clear hK
     iterate 5 (refine wC rfl fun K hK=>?_;simp [hN'];refine hK _ ?_;clear hK)
     obtain ⟨r55,hc56,hj53⟩:=bS hj53
     refine wL [(.take,.tmp 75),(.take,.const (.int .i64 0)),(.take,.tmp 79)] rfl rfl kO (aQ _ _ _ hc56) fun K hK=>?_;simp [hN'];refine hK _ ?_;clear hK
     refine wC rfl fun K hK=>?_;simp [hN'];refine hK _ ?_;clear hK
     rcases aA hj53 with ⟨hb57,hj53⟩ | ⟨hb58,hj53⟩
     ·have hb57s:=hb57
      try simp at hb57s
      iterate 4 (refine wC rfl fun K hK=>?_;simp [hN',hb57,hb57s];refine hK _ ?_;clear hK)
      obtain ⟨e59,he59,hj53⟩:=bS hj53
      obtain ⟨he59a,he59b,he59c,he59d⟩:=gS he59
      have he59j:=he59b;try simp at he59j
      try simp only [Int.toNat_natCast] at he59c he59d
      iterate 3 (refine wC rfl fun K hK=>?_;simp [hN',hb57,hb57s,he59a,he59b,he59c,he59d,he59j];refine hK _ ?_;clear hK)
      obtain ⟨r60,hc61,hj53⟩:=bS hj53
      refine wL [(.take,.tmp 88)] rfl rfl ent91 (oC _ hc61) fun K hK=>?_;simp [hN',hb57,hb57s,he59a,he59b,he59c,he59d,he59j];refine hK _ ?_;clear hK
      iterate 2 (refine wC rfl fun K hK=>?_;simp [hN',hb57,hb57s,he59a,he59b,he59c,he59d,he59j];refine hK _ ?_;clear hK)
      refine wN ?_
      cases hj53
      exact hK54 _ () [] trivial (by simp [hN',hb57,hb57s,he59a,he59b,he59c,he59d,he59j])
     ·have hb58s:=hb58
      try simp at hb58s
      iterate 8 (refine wO fun K hK=>?_;simp [hN',hb58,hb58s];refine hK _ ?_;clear hK)
      iterate 2 (refine wC rfl fun K hK=>?_;simp [hN',hb58,hb58s];refine hK _ ?_;clear hK)
      refine wN ?_
      cases hj53
      exact hK54 _ () [] trivial (by simp [hN',hb58,hb58s])
    cases h
    refine SWp.ret ?_
    simp [aC,iB,res61]
theorem res62:Tryz.f62.results.toList=[.tmp 4]:=rfl
theorem ent62:aF E.P 62:=eO Tryz.func62 (by simp [Tryz.f62]) rfl
theorem oG (p1:GProgram) (name2:ByteArray) {r0:Int} (h:jB p1 name2=some r0):Ok E 62 [.val (GProgram.enc false p1),.val (vs name2)] [vi r0] []:=by
 refine oB (fn:=Tryz.f62) Tryz.func62 rfl (by simp [Tryz.f62]) fun C hN hP=>?_
 have hPB:∀ l,pinK [] l=true→pinB C.pin l=true:=pO (by rw [hP];rfl)
 have hN':C.N=21:=hN
 clear hN
 unfold jB at h
 refine SWp.sR rfl (hPB _ rfl) fun K hK=>?_
 iterate 2 (refine wC rfl fun K hK=>?_;simp [hN'];refine hK _ ?_;clear hK)
 refine wN (hK _ ?_);clear hK
 obtain ⟨j5,hj3,h⟩:=bS h
 refine SWp.seqC [] [] (fun v:Unit=>⟨[],[]⟩) (fun v=>j5=Sum.inl v) (fun v hv=>?_) fun K4 hK4=>?_
 rotate_left
 ·refine SWp.sR rfl (hPB _ rfl) fun K hK=>?_
  iterate 4 (refine wC rfl fun K hK=>?_;simp [hN'];refine hK _ ?_;clear hK)
  refine wN (hK _ ?_);clear hK
  refine SWp.block ?_
  refine SWp.loopO [] [1,8,9,10] [] (fun v:Int=>⟨[(1,.t (vs name2)),(8,.t (.sl false 5 (List.map (GFn.enc false) p1.Fns))),(9,.t (vi (p1.Fns.length:Int))),(10,.t (vi v))],[]⟩) (gH p1 name2) _ 0 hj3 (by simp [hN']) ?_
  intro g s9 h7 ho8
  obtain ⟨v6,hg⟩:∃ y,y=g:=⟨_,rfl⟩
  subst hg
  simp only [gH] at h7
  try dsimp only
  refine SWp.sR rfl (hPB _ rfl) fun K hK=>?_
  refine wC rfl fun K hK=>?_;simp [hN'];refine hK _ ?_;clear hK
  refine wN (hK _ ?_);clear hK
  refine SWp.seq ?_
  rcases aA h7 with ⟨hb10,h7⟩ | ⟨hb11,h7⟩
  ·refine SWp.cT' (b:=decide (v6 < (p1.Fns.length:Int))) (by simp) hb10 ?_
   refine SWp.skip ?_
   show SWp E C _ _ _
   refine SWp.seq ?_
   refine SWp.block ?_
   refine SWp.sR rfl (hPB _ rfl) fun K hK=>?_
   refine wC rfl fun K hK=>?_;simp [hN'];refine hK _ ?_;clear hK
   obtain ⟨e12,he12,h7⟩:=bS h7
   obtain ⟨he12a,he12b,he12c,he12d⟩:=gS he12
   iterate 5 (refine wC rfl fun K hK=>?_;simp [hN',he12a,he12b,he12c,he12d];refine hK _ ?_;clear hK)
   refine wN (hK _ ?_);clear hK
   refine SWp.sR rfl (hPB _ rfl) fun K hK=>?_
   iterate 4 (refine wC rfl fun K hK=>?_;simp [hN'];refine hK _ ?_;clear hK)
   refine wN (hK _ ?_);clear hK
   rcases aA h7 with ⟨hb13,h7⟩ | ⟨hb14,h7⟩
   ·refine SWp.cT' (b:=sEq e12.Name name2) (by simp) hb13 ?_
    refine SWp.sR rfl (hPB _ rfl) fun K hK=>?_
    iterate 2 (refine wC rfl fun K hK=>?_;simp [hN'];refine hK _ ?_;clear hK)
    refine wN (hK _ ?_);clear hK
    have h15:=congrArg some (ho8 _ (Option.some.inj h7).symm)
    cases h15
    try dsimp only at h
    cases h
    refine SWp.ret ?_
    simp [aC,iB,res62]
   ·refine SWp.cF' (b:=sEq e12.Name name2) (by simp) hb14 ?_
    refine SWp.skip ?_
    show SWp E C _ _ _
    refine SWp.reg rfl (hPB _ rfl) fun K hK=>?_
    iterate 2 (refine wC rfl fun K hK=>?_;simp [hN'];refine hK _ ?_;clear hK)
    refine wN (hK _ ?_);clear hK
    cases h7
    exact ⟨_,[],rfl,by simp [hN']⟩
  ·refine SWp.cF' (b:=decide (v6 < (p1.Fns.length:Int))) (by simp) hb11 ?_
   refine SWp.exit ?_
   have h16:=congrArg some (ho8 _ (Option.some.inj h7).symm)
   cases h16
   exact hK4 _ _ [] rfl (by simp [hN'])
 subst hv
 obtain ⟨⟩:=v
 try dsimp only at h ⊢
 refine SWp.sR rfl (hPB _ rfl) fun K hK=>?_
 refine wC rfl fun K hK=>?_;simp [hN'];refine hK _ ?_;clear hK
 refine wN (hK _ ?_);clear hK
 cases h
 refine SWp.ret ?_
 simp [aC,iB,res62]
end Go.Proofs.T
