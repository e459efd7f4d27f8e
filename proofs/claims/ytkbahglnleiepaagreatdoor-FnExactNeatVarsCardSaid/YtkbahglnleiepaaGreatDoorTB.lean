import Derived.Test.YtkbahglnleiepaaGreatDoorTA
import Derived.Shelf.Strconv.Itoa0
import Derived.Shelf.Strconv.Itoa1
import Derived.Shelf.LaysM
import Derived.Shelf.Strconv.Itoa2
import Derived.Shelf.Strconv.Itoa3
import Derived.Shelf.Strings.Search1
import Derived.Shelf.Strings.Search2
import Derived.Shelf.Strings.Search3
import Derived.Shelf.Strings.Count
import Derived.Shelf.Strings.Shaped
import Derived.Shelf.Sort.Plain
import Derived.Shelf.Strings.Split
import Derived.Shelf.Unicode.DecodeSlow
import Derived.Shelf.Slices.In.SortNone
import Derived.Shelf.Slices.In.SortNone2
import Derived.Test.YtkbahglnleiepaaGreatDoorProg
set_option linter.unusedVariables false
set_option linter.unusedSimpArgs false
set_option linter.unusedVariables false
set_option linter.unusedSimpArgs false
set_option maxHeartbeats 8000000
namespace Go.Proofs.T
open Go.OM
theorem aFx:Tryz.f49.results.toList=[]:=rfl
theorem aOo:aF E.P 49:=eO Tryz.func49 (by simp [Tryz.f49]) rfl
theorem oG (a2:Gl07Seen→Int→Option (Gl07Seen)) (a4:∀ (a0:Gl07Seen) (a1:Int) {q0:Gl07Seen},a2 a0 a1=some q0→Ok E 49 [.ptr [.sl false 4 (List.map (GNode.enc false) a0.p.Nodes),.sl false 5 (List.map (GFn.enc false) a0.p.Fns),vi a0.fn,.sl false 1 (List.map vs a0.there),vb a0.bad],.val (vi a1)] [] [[.sl false 4 (List.map (GNode.enc false) q0.p.Nodes),.sl false 5 (List.map (GFn.enc false) q0.p.Fns),vi q0.fn,.sl false 1 (List.map vs q0.there),vb q0.bad]]) (s1:Gl07Seen) (k2:Int) {q0:Gl07Seen} (h:cO a2 s1 k2=some q0):Ok E 49 [.ptr [.sl false 4 (List.map (GNode.enc false) s1.p.Nodes),.sl false 5 (List.map (GFn.enc false) s1.p.Fns),vi s1.fn,.sl false 1 (List.map vs s1.there),vb s1.bad],.val (vi k2)] [] [[.sl false 4 (List.map (GNode.enc false) q0.p.Nodes),.sl false 5 (List.map (GFn.enc false) q0.p.Fns),vi q0.fn,.sl false 1 (List.map vs q0.there),vb q0.bad]]:=by
 refine oB Tryz.func49 rfl (by simp [Tryz.f49]) fun C (q:C.N=98) hP=>?_
 have y:=aL hP
 unfold cO at h
 refine O.zR y fun K u=>?_
 iterate 6 (refine wC rfl fun K z=>?_;simp [q];apply z)
 obtain ⟨e3,g9,h⟩:=bS h
 obtain ⟨d3,d4,d5,d6⟩:=gS g9
 iterate 4 (refine wC rfl fun K z=>?_;simp [q,d3,d4,d5,d6];apply z)
 apply wN;apply u
 obtain ⟨a6,h0,h⟩:=bS h
 refine O.seqC [0,4] [4,98] (fun _:Unit=>⟨[(0,.ref (.box 98) 0 []),(4,.ref (.box 4) 0 [])],[(4,[vi e3.Kind,vi e3.Num,vs e3.Name,.sl false 1 (List.map vi e3.Kids)]),(98,[.sl false 4 (List.map (GNode.enc false) a6.p.Nodes),.sl false 5 (List.map (GFn.enc false) a6.p.Fns),vi a6.fn,.sl false 1 (List.map vs a6.there),vb a6.bad])]⟩) (fun _=>True) (fun _ _=>?_) fun K5 h1=>?_
 rotate_left
 ·refine O.zR y fun K u=>?_
  refine wC rfl fun K z=>?_;simp [q];apply z
  apply wN;apply u
  refine O.block ?_
  refine O.loopO [] [0,4,5] [4,98] (fun v:Int × Gl07Seen=>⟨[(0,.ref (.box 98) 0 []),(4,.ref (.box 4) 0 []),(5,.t (vi v.1))],[(4,[vi e3.Kind,vi e3.Num,vs e3.Name,.sl false 1 (List.map vi e3.Kids)]),(98,[.sl false 4 (List.map (GNode.enc false) v.2.p.Nodes),.sl false 5 (List.map (GFn.enc false) v.2.p.Fns),vi v.2.fn,.sl false 1 (List.map vs v.2.there),vb v.2.bad])]⟩) (aZ a2 e3) _ (0,(⟨s1.p,s1.fn,s1.there,s1.bad⟩:Gl07Seen)) h0 (by simp [q]) ?_
  intro g h4 h9 d7
  obtain ⟨i7,v8⟩:=g
  simp only [aZ] at h9
  try dsimp only
  refine O.seq ?_
  refine O.zR y fun K u=>?_
  iterate 5 (refine wC rfl fun K z=>?_;simp [q];apply z)
  apply wN;apply u
  rcases aA h9 with ⟨d8,h9⟩ | ⟨d9,h9⟩
  ·refine O.cT' (by simp) d8 ?_
   refine O.skip ?_
   refine O.seq ?_
   refine O.block ?_
   refine O.zG y fun K u=>?_
   iterate 4 (refine wC rfl fun K z=>?_;simp [q];apply z)
   obtain ⟨h5,e0,h9⟩:=bS h9
   obtain ⟨c9,d0,d1,d2⟩:=gS e0
   iterate 2 (refine wC rfl fun K z=>?_;simp [q,c9,d0,d1,d2];apply z)
   obtain ⟨h6,e1,h9⟩:=bS h9
   refine wL [((.ptr 5),.tmp 22),(.take,.tmp 27)] rfl rfl aOo (a4 _ _ e1) fun K z=>?_;simp [q,c9,d0,d1,d2];apply z
   apply wN;apply u
   refine O.zG y fun K u=>?_
   iterate 3 (refine wC rfl fun K z=>?_;simp [q];apply z)
   apply wN;apply u
   cases h9
   exact ⟨_,[],rfl,by simp [q]⟩
  ·refine O.cF' (by simp) d9 ?_
   refine O.exit ?_
   have h2:=congrArg some (d7 _ (Option.some.inj h9).symm)
   cases h2
   exact h1 _ () [] trivial (by simp [q])
 refine O.zR y fun K u=>?_
 iterate 2 (refine wC rfl fun K z=>?_;simp [q];apply z)
 apply wN;apply u
 refine O.block ?_
 obtain ⟨h3,a5,h⟩:=bS h
 refine O.seqC [0,4,30,31] [4,98] (fun _:Unit=>⟨[(0,.ref (.box 98) 0 []),(4,.ref (.box 4) 0 []),(30,.t (vi e3.Kind)),(31,.t (vb h3))],[(4,[vi e3.Kind,vi e3.Num,vs e3.Name,.sl false 1 (List.map vi e3.Kids)]),(98,[.sl false 4 (List.map (GNode.enc false) a6.p.Nodes),.sl false 5 (List.map (GFn.enc false) a6.p.Fns),vi a6.fn,.sl false 1 (List.map vs a6.there),vb a6.bad])]⟩) (fun _=>True) (fun _ _=>?_) fun h7 c3=>?_
 rotate_left
 ·refine O.zR y fun K u=>?_
  iterate 2 (refine wC rfl fun K z=>?_;simp [q];apply z)
  apply wN;apply u
  rcases aA a5 with ⟨e2,a5⟩ | ⟨e4,a5⟩
  ·refine O.cT' (by simp) e2 ?_
   refine O.skip ?_
   cases a5
   exact c3 _ () [] trivial (by simp [q])
  ·refine O.cF' (by simp) e4 ?_
   refine O.zR y fun K u=>?_
   iterate 2 (refine wC rfl fun K z=>?_;simp [q];apply z)
   apply wN;apply u
   rcases aA a5 with ⟨e5,a5⟩ | ⟨e6,a5⟩
   ·refine O.cT' (by simp) e5 ?_
    refine O.skip ?_
    cases a5
    exact c3 _ () [] trivial (by simp [q])
   ·refine O.cF' (by simp) e6 ?_
    refine O.zR y fun K u=>?_
    iterate 2 (refine wC rfl fun K z=>?_;simp [q];apply z)
    apply wN;apply u
    rcases aA a5 with ⟨e7,a5⟩ | ⟨e8,a5⟩
    ·refine O.cT' (by simp) e7 ?_
     refine O.skip ?_
     cases a5
     exact c3 _ () [] trivial (by simp [q])
    ·refine O.cF' (by simp) e8 ?_
     refine O.zR y fun K u=>?_
     iterate 2 (refine wC rfl fun K z=>?_;simp [q];apply z)
     apply wN;apply u
     rcases aA a5 with ⟨e9,a5⟩ | ⟨g0,a5⟩
     ·refine O.cT' (by simp) e9 ?_
      refine O.skip ?_
      cases a5
      exact c3 _ () [] trivial (by simp [q])
     ·refine O.cF' (by simp) g0 ?_
      refine O.zG y fun K u=>?_
      iterate 2 (refine wC rfl fun K z=>?_;simp [q];apply z)
      apply wN;apply u
      cases a5
      exact c3 _ () [] trivial (by simp [q])
 rcases aA h with ⟨g1,h⟩ | ⟨g2,h⟩
 ·refine O.cT' (by simp) g1 ?_
  rcases aA h with ⟨b8,h⟩ | ⟨b9,h⟩
  ·have b0:=b8
   try simp at b0
   refine O.dT rfl (y _ rfl) [(37,.ref (.box 98) 0 []),(38,.ref (.box 98) 0 []),(39,.ref (.box 98) 0 []),(40,.ref (.box 98) 4 []),(41,.t (vb a6.bad)),(42,.t (vb a6.bad)),(43,.tup []),(44,.tup []),(45,.tup []),(46,.tup []),(47,.tup []),(48,.tup []),(49,.tup []),(50,.tup []),(51,.t (vb true))] [[],[],[1],[1,2],[1,2,3],[1,2,3,4],[1,2,3,4,5],[1,2,3,4,5,6],[1,2,3,4,5,6,7],[1,2,3,4,5,6,7,8],[1,2,3,4,5],[1,2,3,4,5,10],[1,2,3,4,5,6,7,8,9,10,11],[1,2,3,4,5,6,7,8,9,10,11,12],[1,2,3,4,5,6,7,8,9,10,11,12,13],[0,1,2,3,4,5,6,7,8,9,10,11,12,13,14],[0,1,2,3,4,5,6,7,8,9,10,11,12,13,14,15],[0,1,2,3,4,5,6,7,8,9,10,11,12,13,14,15,16]] (by simp) (by simp) (by simp [look]) rfl rfl rfl ?_ fun K u=>?_
   ·refine ⟨?_,?_,?_,?_,?_,?_,?_,?_,?_,?_,?_,?_,?_,?_,?_,trivial⟩
    all_goals (intro τ hbx hb hd hf K u;try simp [aJ] at hd;simp [aJ] at hf;first | (refine wC rfl fun K' w=>?_;simp [q,hbx,hb,hd,hf,b8,b0];exact w _ (wN (u _ (by simp [aJ,hbx,b8,b0])))) | (refine wO fun K' w=>?_;simp [q,hbx,hb,hd,hf,b8,b0];exact w _ (wN (u _ (by simp [aJ,hbx,b8,b0])))))
   iterate 3 (refine wC rfl fun K z=>?_;simp [q,b8,b0];apply z)
   apply wN;apply u
   cases h
   simp [aC,iB,aFx]
  ·have b1:=b9
   try simp at b1
   obtain ⟨g3,g4,h⟩:=bS h
   refine O.dT rfl (y _ rfl) [(37,.ref (.box 98) 0 []),(38,.ref (.box 98) 0 []),(39,.ref (.box 98) 0 []),(40,.ref (.box 98) 4 []),(41,.t (vb a6.bad)),(42,.t (vb a6.bad)),(43,.ref (.box 98) 0 []),(44,.ref (.box 98) 0 []),(45,.ref (.box 98) 3 []),(46,.t (.sl false 1 (List.map vs a6.there))),(47,.ref (.box 4) 2 []),(48,.t (vs e3.Name)),(49,.t (vb g3)),(50,.t (vb (!g3))),(51,.t (vb (!g3)))] [[],[],[1],[1,2],[1,2,3],[1,2,3,4],[1,2,3,4,5],[1,2,3,4,5,6],[1,2,3,4,5,6,7],[1,2,3,4,5,6,7,8],[1,2,3,4,5],[1,2,3,4,5,10],[1,2,3,4,5,6,7,8,9,10,11],[1,2,3,4,5,6,7,8,9,10,11,12],[1,2,3,4,5,6,7,8,9,10,11,12,13],[0,1,2,3,4,5,6,7,8,9,10,11,12,13,14],[0,1,2,3,4,5,6,7,8,9,10,11,12,13,14,15],[0,1,2,3,4,5,6,7,8,9,10,11,12,13,14,15,16]] (by simp) (by simp) (by simp [look]) rfl rfl rfl ?_ fun K u=>?_
   ·refine ⟨?_,?_,?_,?_,?_,?_,?_,?_,?_,?_,?_,?_,?_,?_,?_,trivial⟩
    all_goals (intro τ hbx hb hd hf K u;try simp [aJ] at hd;simp [aJ] at hf;first | (refine wC rfl fun K' w=>?_;simp [q,hbx,hb,hd,hf,b9,b1];exact w _ (wN (u _ (by simp [aJ,hbx,b9,b1])))) | (refine wL [(.take,.tmp 46),(.take,.tmp 48)] rfl rfl ent82 (rB _ _ g4) fun K' w=>?_;simp [q,hbx,hb,hd,hf,b9,b1];exact w _ (wN (u _ (by simp [aJ,hbx,b9,b1])))))
   iterate 3 (refine wC rfl fun K z=>?_;simp [q,b9,b1];apply z)
   apply wN;apply u
   cases h
   simp [aC,iB,aFx]
 ·refine O.cF' (by simp) g2 ?_
  refine O.zR y fun K u=>?_
  iterate 2 (refine wC rfl fun K z=>?_;simp [q];apply z)
  apply wN;apply u
  rcases aA h with ⟨g5,h⟩ | ⟨g6,h⟩
  ·refine O.cT' (by simp) g5 ?_
   refine O.seq ?_
   refine O.dT rfl (y _ rfl) [(56,.ref (.box 98) 0 []),(57,.ref (.box 98) 0 []),(58,.ref (.box 98) 0 []),(59,.t (GProgram.enc false a6.p)),(60,.ref (.box 4) 2 []),(61,.t (vs e3.Name))] [[],[0],[0,1],[0,1,2],[],[4],[0,1,2,3,4,5],[0,1,2,3,4,5,6]] (by simp) (by simp) (by simp [look]) rfl rfl rfl ?_ fun K u=>?_
   ·refine ⟨?_,?_,?_,?_,?_,?_,trivial⟩
    all_goals (intro τ hbx hb hd hf K u;try simp [aJ] at hd;simp [aJ] at hf;first | (refine wC rfl fun K' w=>?_;simp [q,hbx,hb,hd,hf];exact w _ (wN (u _ (by simp [aJ,hbx])))))
   obtain ⟨a9,g7,h⟩:=bS h
   refine wL [(.take,.tmp 59),(.take,.tmp 61)] rfl rfl ent38 (vJ _ _ g7) fun K z=>?_;simp [q];apply z
   refine wC rfl fun K z=>?_;simp [q];apply z
   apply wN;apply u
   rcases aA h with ⟨c0,h⟩ | ⟨a7,h⟩
   ·have b2:=c0
    try simp at b2
    refine O.dT rfl (y _ rfl) [(63,.ref (.box 98) 0 []),(64,.ref (.box 98) 0 []),(65,.ref (.box 98) 0 []),(66,.ref (.box 98) 4 []),(67,.t (vb a6.bad)),(68,.t (vb a6.bad)),(69,.tup []),(70,.tup []),(71,.t (vb true)),(72,.t (vb true)),(73,.tup []),(74,.tup []),(75,.tup []),(76,.tup []),(77,.tup []),(78,.tup []),(79,.t (vb true)),(80,.t (vb true)),(81,.tup []),(82,.tup []),(83,.tup []),(84,.tup []),(85,.tup []),(86,.tup []),(87,.tup []),(88,.tup []),(89,.tup []),(90,.tup []),(91,.tup []),(92,.tup []),(93,.tup []),(94,.tup []),(95,.t (vb true))] [[],[],[1],[1,2],[1,2,3],[1,2,3,4],[1,2,3,4,5],[1,2,3,4,5,6],[1,2,3,4,5,6,7],[1,2,3,4,5,6,7,8],[1,2,3,4,5,6,7,8,9],[1,2,3,4,5,6,7,8,9],[1,2,3,4,5,6,7,8,9,11],[1,2,3,4,5,6,7,8,9,11,12],[1,2,3,4,5,6,7,8,9,11,12,13],[1,2,3,4,5,6,7,8,9,10,11,12,13,14],[1,2,3,4,5,6,7,8,9,10,11,12,13,14,15],[1,2,3,4,5,6,7,8,9,10,11,12,13,14,15,16],[1,2,3,4,5,6,7,8,9,10,11,12,13,14,15,16,17],[1,2,3,4,5,6,7,8,9,10,11,12,13,14,15,16,17,18],[1,2,3,4,5,6,7,8,9,10,11,12,13,14,15,16,17,18,19],[1,2,3,4,5,6,7,8,9,10,11,12,13,14,15,16,17,18,19,20],[1,2,3,4,5,6,7,8,9,10,11,12,13,14,15,16,17,18,19,20,21],[1,2,3,4,5,6,7,8,9,10,11,12,13,14,15,16,17],[1,2,3,4,5,6,7,8,9,10,11,12,13,14,15,16,17,18,19,20,21,22,23],[1,2,3,4,5,6,7,8,9,10,11,12,13,14,15,16,17,18,19,20,21,22,23,24],[1,2,3,4,5,6,7,8,9,10,11,12,13,14,15,16,17,18,19,20,21,22,23,24,25],[1,2,3,4,5,6,7,8,9,10,11,12,13,14,15,16,17,18,19,20,21,22,23,24,25,26],[1,2,3,4,5,6,7,8,9,10,11,12,13,14,15,16,17],[1,2,3,4,5,6,7,8,9,10,11,12,13,14,15,16,17,28],[1,2,3,4,5,6,7,8,9,10,11,12,13,14,15,16,17,28,29],[1,2,3,4,5,6,7,8,9,10,11,12,13,14,15,16,17,18,19,20,21,22,23,24,25,26,27,28,29,30],[1,2,3,4,5,6,7,8,9,10,11,12,13,14,15,16,17,18,19,20,21,22,23,24,25,26,27,28,29,30,31],[0,1,2,3,4,5,6,7,8,9,10,11,12,13,14,15,16,17,18,19,20,21,22,23,24,25,26,27,28,29,30,31,32],[0,1,2,3,4,5,6,7,8,9,10,11,12,13,14,15,16,17,18,19,20,21,22,23,24,25,26,27,28,29,30,31,32,33],[0,1,2,3,4,5,6,7,8,9,10,11,12,13,14,15,16,17,18,19,20,21,22,23,24,25,26,27,28,29,30,31,32,33,34]] (by simp) (by simp) (by simp [look]) rfl rfl rfl ?_ fun K u=>?_
    ·refine ⟨?_,?_,?_,?_,?_,?_,?_,?_,?_,?_,?_,?_,?_,?_,?_,?_,?_,?_,?_,?_,?_,?_,?_,?_,?_,?_,?_,?_,?_,?_,?_,?_,?_,trivial⟩
     all_goals (intro τ hbx hb hd hf K u;try simp [aJ] at hd;simp [aJ] at hf;first | (refine wC rfl fun K' w=>?_;simp [q,hbx,hb,hd,hf,c0,b2];exact w _ (wN (u _ (by simp [aJ,hbx,c0,b2])))) | (refine wO fun K' w=>?_;simp [q,hbx,hb,hd,hf,c0,b2];exact w _ (wN (u _ (by simp [aJ,hbx,c0,b2])))))
    iterate 3 (refine wC rfl fun K z=>?_;simp [q,c0,b2];apply z)
    apply wN;apply u
    cases h
    simp [aC,iB,aFx]
   ·have a3:=a7
    try simp at a3
    rcases aA h with ⟨c1,h⟩ | ⟨b5,h⟩
    ·have b3:=c1
     try simp at b3
     refine O.dT rfl (y _ rfl) [(63,.ref (.box 98) 0 []),(64,.ref (.box 98) 0 []),(65,.ref (.box 98) 0 []),(66,.ref (.box 98) 4 []),(67,.t (vb a6.bad)),(68,.t (vb a6.bad)),(69,.t (vi a9)),(70,.t (vb (decide (a9 < 0)))),(71,.t (vb (decide (a9 < 0)))),(72,.t (vb (decide (a9 < 0)))),(73,.tup []),(74,.tup []),(75,.tup []),(76,.tup []),(77,.tup []),(78,.tup []),(79,.t (vb true)),(80,.t (vb true)),(81,.tup []),(82,.tup []),(83,.tup []),(84,.tup []),(85,.tup []),(86,.tup []),(87,.tup []),(88,.tup []),(89,.tup []),(90,.tup []),(91,.tup []),(92,.tup []),(93,.tup []),(94,.tup []),(95,.t (vb true))] [[],[],[1],[1,2],[1,2,3],[1,2,3,4],[1,2,3,4,5],[1,2,3,4,5,6],[1,2,3,4,5,6,7],[1,2,3,4,5,6,7,8],[1,2,3,4,5,6,7,8,9],[1,2,3,4,5,6,7,8,9],[1,2,3,4,5,6,7,8,9,11],[1,2,3,4,5,6,7,8,9,11,12],[1,2,3,4,5,6,7,8,9,11,12,13],[1,2,3,4,5,6,7,8,9,10,11,12,13,14],[1,2,3,4,5,6,7,8,9,10,11,12,13,14,15],[1,2,3,4,5,6,7,8,9,10,11,12,13,14,15,16],[1,2,3,4,5,6,7,8,9,10,11,12,13,14,15,16,17],[1,2,3,4,5,6,7,8,9,10,11,12,13,14,15,16,17,18],[1,2,3,4,5,6,7,8,9,10,11,12,13,14,15,16,17,18,19],[1,2,3,4,5,6,7,8,9,10,11,12,13,14,15,16,17,18,19,20],[1,2,3,4,5,6,7,8,9,10,11,12,13,14,15,16,17,18,19,20,21],[1,2,3,4,5,6,7,8,9,10,11,12,13,14,15,16,17],[1,2,3,4,5,6,7,8,9,10,11,12,13,14,15,16,17,18,19,20,21,22,23],[1,2,3,4,5,6,7,8,9,10,11,12,13,14,15,16,17,18,19,20,21,22,23,24],[1,2,3,4,5,6,7,8,9,10,11,12,13,14,15,16,17,18,19,20,21,22,23,24,25],[1,2,3,4,5,6,7,8,9,10,11,12,13,14,15,16,17,18,19,20,21,22,23,24,25,26],[1,2,3,4,5,6,7,8,9,10,11,12,13,14,15,16,17],[1,2,3,4,5,6,7,8,9,10,11,12,13,14,15,16,17,28],[1,2,3,4,5,6,7,8,9,10,11,12,13,14,15,16,17,28,29],[1,2,3,4,5,6,7,8,9,10,11,12,13,14,15,16,17,18,19,20,21,22,23,24,25,26,27,28,29,30],[1,2,3,4,5,6,7,8,9,10,11,12,13,14,15,16,17,18,19,20,21,22,23,24,25,26,27,28,29,30,31],[0,1,2,3,4,5,6,7,8,9,10,11,12,13,14,15,16,17,18,19,20,21,22,23,24,25,26,27,28,29,30,31,32],[0,1,2,3,4,5,6,7,8,9,10,11,12,13,14,15,16,17,18,19,20,21,22,23,24,25,26,27,28,29,30,31,32,33],[0,1,2,3,4,5,6,7,8,9,10,11,12,13,14,15,16,17,18,19,20,21,22,23,24,25,26,27,28,29,30,31,32,33,34]] (by simp) (by simp) (by simp [look]) rfl rfl rfl ?_ fun K u=>?_
     ·refine ⟨?_,?_,?_,?_,?_,?_,?_,?_,?_,?_,?_,?_,?_,?_,?_,?_,?_,?_,?_,?_,?_,?_,?_,?_,?_,?_,?_,?_,?_,?_,?_,?_,?_,trivial⟩
      all_goals (intro τ hbx hb hd hf K u;try simp [aJ] at hd;simp [aJ] at hf;first | (refine wC rfl fun K' w=>?_;simp [q,hbx,hb,hd,hf,a7,a3,c1,b3];exact w _ (wN (u _ (by simp [aJ,hbx,a7,a3,c1,b3])))) | (refine wO fun K' w=>?_;simp [q,hbx,hb,hd,hf,a7,a3,c1,b3];exact w _ (wN (u _ (by simp [aJ,hbx,a7,a3,c1,b3])))))
     iterate 3 (refine wC rfl fun K z=>?_;simp [q,a7,a3,c1,b3];apply z)
     apply wN;apply u
     cases h
     simp [aC,iB,aFx]
    ·have a8:=b5
     try simp at a8
     rcases aA h with ⟨c2,h⟩ | ⟨c8,h⟩
     ·have b4:=c2
      try simp at b4
      refine O.dT rfl (y _ rfl) [(63,.ref (.box 98) 0 []),(64,.ref (.box 98) 0 []),(65,.ref (.box 98) 0 []),(66,.ref (.box 98) 4 []),(67,.t (vb a6.bad)),(68,.t (vb a6.bad)),(69,.t (vi a9)),(70,.t (vb (decide (a9 < 0)))),(71,.t (vb (decide (a9 < 0)))),(72,.t (vb (decide (a9 < 0)))),(73,.t (vi a9)),(74,.ref (.box 98) 0 []),(75,.ref (.box 98) 0 []),(76,.ref (.box 98) 2 []),(77,.t (vi a6.fn)),(78,.t (vb (decide (a9 ≥ a6.fn)))),(79,.t (vb (decide (a9 ≥ a6.fn)))),(80,.t (vb (decide (a9 ≥ a6.fn)))),(81,.tup []),(82,.tup []),(83,.tup []),(84,.tup []),(85,.tup []),(86,.tup []),(87,.tup []),(88,.tup []),(89,.tup []),(90,.tup []),(91,.tup []),(92,.tup []),(93,.tup []),(94,.tup []),(95,.t (vb true))] [[],[],[1],[1,2],[1,2,3],[1,2,3,4],[1,2,3,4,5],[1,2,3,4,5,6],[1,2,3,4,5,6,7],[1,2,3,4,5,6,7,8],[1,2,3,4,5,6,7,8,9],[1,2,3,4,5,6,7,8,9],[1,2,3,4,5,6,7,8,9,11],[1,2,3,4,5,6,7,8,9,11,12],[1,2,3,4,5,6,7,8,9,11,12,13],[1,2,3,4,5,6,7,8,9,10,11,12,13,14],[1,2,3,4,5,6,7,8,9,10,11,12,13,14,15],[1,2,3,4,5,6,7,8,9,10,11,12,13,14,15,16],[1,2,3,4,5,6,7,8,9,10,11,12,13,14,15,16,17],[1,2,3,4,5,6,7,8,9,10,11,12,13,14,15,16,17,18],[1,2,3,4,5,6,7,8,9,10,11,12,13,14,15,16,17,18,19],[1,2,3,4,5,6,7,8,9,10,11,12,13,14,15,16,17,18,19,20],[1,2,3,4,5,6,7,8,9,10,11,12,13,14,15,16,17,18,19,20,21],[1,2,3,4,5,6,7,8,9,10,11,12,13,14,15,16,17],[1,2,3,4,5,6,7,8,9,10,11,12,13,14,15,16,17,18,19,20,21,22,23],[1,2,3,4,5,6,7,8,9,10,11,12,13,14,15,16,17,18,19,20,21,22,23,24],[1,2,3,4,5,6,7,8,9,10,11,12,13,14,15,16,17,18,19,20,21,22,23,24,25],[1,2,3,4,5,6,7,8,9,10,11,12,13,14,15,16,17,18,19,20,21,22,23,24,25,26],[1,2,3,4,5,6,7,8,9,10,11,12,13,14,15,16,17],[1,2,3,4,5,6,7,8,9,10,11,12,13,14,15,16,17,28],[1,2,3,4,5,6,7,8,9,10,11,12,13,14,15,16,17,28,29],[1,2,3,4,5,6,7,8,9,10,11,12,13,14,15,16,17,18,19,20,21,22,23,24,25,26,27,28,29,30],[1,2,3,4,5,6,7,8,9,10,11,12,13,14,15,16,17,18,19,20,21,22,23,24,25,26,27,28,29,30,31],[0,1,2,3,4,5,6,7,8,9,10,11,12,13,14,15,16,17,18,19,20,21,22,23,24,25,26,27,28,29,30,31,32],[0,1,2,3,4,5,6,7,8,9,10,11,12,13,14,15,16,17,18,19,20,21,22,23,24,25,26,27,28,29,30,31,32,33],[0,1,2,3,4,5,6,7,8,9,10,11,12,13,14,15,16,17,18,19,20,21,22,23,24,25,26,27,28,29,30,31,32,33,34]] (by simp) (by simp) (by simp [look]) rfl rfl rfl ?_ fun K u=>?_
      ·refine ⟨?_,?_,?_,?_,?_,?_,?_,?_,?_,?_,?_,?_,?_,?_,?_,?_,?_,?_,?_,?_,?_,?_,?_,?_,?_,?_,?_,?_,?_,?_,?_,?_,?_,trivial⟩
       all_goals (intro τ hbx hb hd hf K u;try simp [aJ] at hd;simp [aJ] at hf;first | (refine wC rfl fun K' w=>?_;simp [q,hbx,hb,hd,hf,a7,a3,b5,a8,c2,b4];exact w _ (wN (u _ (by simp [aJ,hbx,a7,a3,b5,a8,c2,b4])))) | (refine wO fun K' w=>?_;simp [q,hbx,hb,hd,hf,a7,a3,b5,a8,c2,b4];exact w _ (wN (u _ (by simp [aJ,hbx,a7,a3,b5,a8,c2,b4])))))
      iterate 3 (refine wC rfl fun K z=>?_;simp [q,a7,a3,b5,a8,c2,b4];apply z)
      apply wN;apply u
      cases h
      simp [aC,iB,aFx]
     ·have b6:=c8
      try simp at b6
      obtain ⟨b7,g8,h⟩:=bS h
      obtain ⟨c4,c5,c6,c7⟩:=gS g8
      refine O.dT rfl (y _ rfl) [(63,.ref (.box 98) 0 []),(64,.ref (.box 98) 0 []),(65,.ref (.box 98) 0 []),(66,.ref (.box 98) 4 []),(67,.t (vb a6.bad)),(68,.t (vb a6.bad)),(69,.t (vi a9)),(70,.t (vb (decide (a9 < 0)))),(71,.t (vb (decide (a9 < 0)))),(72,.t (vb (decide (a9 < 0)))),(73,.t (vi a9)),(74,.ref (.box 98) 0 []),(75,.ref (.box 98) 0 []),(76,.ref (.box 98) 2 []),(77,.t (vi a6.fn)),(78,.t (vb (decide (a9 ≥ a6.fn)))),(79,.t (vb (decide (a9 ≥ a6.fn)))),(80,.t (vb (decide (a9 ≥ a6.fn)))),(81,.ref (.box 98) 0 []),(82,.ref (.box 98) 0 []),(83,.ref (.box 98) 0 []),(84,.ref (.box 98) 1 []),(85,.t (.sl false 5 (List.map (GFn.enc false) a6.p.Fns))),(86,.t (vi a9)),(87,.rop [vs b7.Name,.sl false 2 (List.map GParam.enc b7.Params),vi b7.Res,vi b7.Body,vi b7.Ret] 0),(88,.rop [vs b7.Name,.sl false 2 (List.map GParam.enc b7.Params),vi b7.Res,vi b7.Body,vi b7.Ret] 1),(89,.t (.sl false 2 (List.map GParam.enc b7.Params))),(90,.t (vi (b7.Params.length:Int))),(91,.ref (.box 4) 3 []),(92,.t (.sl false 1 (List.map vi e3.Kids))),(93,.t (vi (e3.Kids.length:Int))),(94,.t (vb ((b7.Params.length:Int) != (e3.Kids.length:Int)))),(95,.t (vb ((b7.Params.length:Int) != (e3.Kids.length:Int))))] [[],[],[1],[1,2],[1,2,3],[1,2,3,4],[1,2,3,4,5],[1,2,3,4,5,6],[1,2,3,4,5,6,7],[1,2,3,4,5,6,7,8],[1,2,3,4,5,6,7,8,9],[1,2,3,4,5,6,7,8,9],[1,2,3,4,5,6,7,8,9,11],[1,2,3,4,5,6,7,8,9,11,12],[1,2,3,4,5,6,7,8,9,11,12,13],[1,2,3,4,5,6,7,8,9,10,11,12,13,14],[1,2,3,4,5,6,7,8,9,10,11,12,13,14,15],[1,2,3,4,5,6,7,8,9,10,11,12,13,14,15,16],[1,2,3,4,5,6,7,8,9,10,11,12,13,14,15,16,17],[1,2,3,4,5,6,7,8,9,10,11,12,13,14,15,16,17,18],[1,2,3,4,5,6,7,8,9,10,11,12,13,14,15,16,17,18,19],[1,2,3,4,5,6,7,8,9,10,11,12,13,14,15,16,17,18,19,20],[1,2,3,4,5,6,7,8,9,10,11,12,13,14,15,16,17,18,19,20,21],[1,2,3,4,5,6,7,8,9,10,11,12,13,14,15,16,17],[1,2,3,4,5,6,7,8,9,10,11,12,13,14,15,16,17,18,19,20,21,22,23],[1,2,3,4,5,6,7,8,9,10,11,12,13,14,15,16,17,18,19,20,21,22,23,24],[1,2,3,4,5,6,7,8,9,10,11,12,13,14,15,16,17,18,19,20,21,22,23,24,25],[1,2,3,4,5,6,7,8,9,10,11,12,13,14,15,16,17,18,19,20,21,22,23,24,25,26],[1,2,3,4,5,6,7,8,9,10,11,12,13,14,15,16,17],[1,2,3,4,5,6,7,8,9,10,11,12,13,14,15,16,17,28],[1,2,3,4,5,6,7,8,9,10,11,12,13,14,15,16,17,28,29],[1,2,3,4,5,6,7,8,9,10,11,12,13,14,15,16,17,18,19,20,21,22,23,24,25,26,27,28,29,30],[1,2,3,4,5,6,7,8,9,10,11,12,13,14,15,16,17,18,19,20,21,22,23,24,25,26,27,28,29,30,31],[0,1,2,3,4,5,6,7,8,9,10,11,12,13,14,15,16,17,18,19,20,21,22,23,24,25,26,27,28,29,30,31,32],[0,1,2,3,4,5,6,7,8,9,10,11,12,13,14,15,16,17,18,19,20,21,22,23,24,25,26,27,28,29,30,31,32,33],[0,1,2,3,4,5,6,7,8,9,10,11,12,13,14,15,16,17,18,19,20,21,22,23,24,25,26,27,28,29,30,31,32,33,34]] (by simp) (by simp) (by simp [look]) rfl rfl rfl ?_ fun K u=>?_
      ·refine ⟨?_,?_,?_,?_,?_,?_,?_,?_,?_,?_,?_,?_,?_,?_,?_,?_,?_,?_,?_,?_,?_,?_,?_,?_,?_,?_,?_,?_,?_,?_,?_,?_,?_,trivial⟩
       all_goals (intro τ hbx hb hd hf K u;try simp [aJ] at hd;simp [aJ] at hf;first | (refine wC rfl fun K' w=>?_;simp [q,hbx,hb,hd,hf,a7,a3,b5,a8,c8,b6,c4,c5,c6,c7];exact w _ (wN (u _ (by simp [aJ,hbx,a7,a3,b5,a8,c8,b6,c4,c5,c6,c7])))))
      iterate 3 (refine wC rfl fun K z=>?_;simp [q,a7,a3,b5,a8,c8,b6,c4,c5,c6,c7];apply z)
      apply wN;apply u
      cases h
      simp [aC,iB,aFx]
  ·refine O.cF' (by simp) g6 ?_
   refine O.skip ?_
   cases h
   simp [aC,iB,aFx]
theorem gN:∀ n:Nat,(∀ (a0:Gl07Seen) (a1:Int) {q0:Gl07Seen},(aV n) a0 a1=some q0→Ok E 49 [.ptr [.sl false 4 (List.map (GNode.enc false) a0.p.Nodes),.sl false 5 (List.map (GFn.enc false) a0.p.Fns),vi a0.fn,.sl false 1 (List.map vs a0.there),vb a0.bad],.val (vi a1)] [] [[.sl false 4 (List.map (GNode.enc false) q0.p.Nodes),.sl false 5 (List.map (GFn.enc false) q0.p.Fns),vi q0.fn,.sl false 1 (List.map vs q0.there),vb q0.bad]])
 | 0=>(by intros;rename_i h;cases h)
 | n + 1=>oG (aV n) (gN n)
theorem jY:∀ (a0:Gl07Seen) (a1:Int) {q0:Gl07Seen},dW a0 a1=some q0→Ok E 49 [.ptr [.sl false 4 (List.map (GNode.enc false) a0.p.Nodes),.sl false 5 (List.map (GFn.enc false) a0.p.Fns),vi a0.fn,.sl false 1 (List.map vs a0.there),vb a0.bad],.val (vi a1)] [] [[.sl false 4 (List.map (GNode.enc false) q0.p.Nodes),.sl false 5 (List.map (GFn.enc false) q0.p.Fns),vi q0.fn,.sl false 1 (List.map vs q0.there),vb q0.bad]]:=(gN iA)
theorem res48:Tryz.f48.results.toList=[]:=rfl
theorem ent48:aF E.P 48:=eO Tryz.func48 (by simp [Tryz.f48]) rfl
theorem aK1:Tryz.f81.results.toList=[]:=rfl
theorem ent81:aF E.P 81:=eO Tryz.func81 (by simp [Tryz.f81]) rfl
theorem oH (a3:Gl07Seen→Int→Option (Gl07Seen)) (a5:∀ (a0:Gl07Seen) (a1:Int) {q0:Gl07Seen},a3 a0 a1=some q0→Ok E 48 [.ptr [.sl false 4 (List.map (GNode.enc false) a0.p.Nodes),.sl false 5 (List.map (GFn.enc false) a0.p.Fns),vi a0.fn,.sl false 1 (List.map vs a0.there),vb a0.bad],.val (vi a1)] [] [[.sl false 4 (List.map (GNode.enc false) q0.p.Nodes),.sl false 5 (List.map (GFn.enc false) q0.p.Fns),vi q0.fn,.sl false 1 (List.map vs q0.there),vb q0.bad]]) (a2:Gl07Seen→Int→Option (Gl07Seen)) (a4:∀ (a0:Gl07Seen) (a1:Int) {q0:Gl07Seen},a2 a0 a1=some q0→Ok E 81 [.ptr [.sl false 4 (List.map (GNode.enc false) a0.p.Nodes),.sl false 5 (List.map (GFn.enc false) a0.p.Fns),vi a0.fn,.sl false 1 (List.map vs a0.there),vb a0.bad],.val (vi a1)] [] [[.sl false 4 (List.map (GNode.enc false) q0.p.Nodes),.sl false 5 (List.map (GFn.enc false) q0.p.Fns),vi q0.fn,.sl false 1 (List.map vs q0.there),vb q0.bad]]) (s1:Gl07Seen) (k2:Int) {q0:Gl07Seen} (h:cP a3 a2 s1 k2=some q0):Ok E 48 [.ptr [.sl false 4 (List.map (GNode.enc false) s1.p.Nodes),.sl false 5 (List.map (GFn.enc false) s1.p.Fns),vi s1.fn,.sl false 1 (List.map vs s1.there),vb s1.bad],.val (vi k2)] [] [[.sl false 4 (List.map (GNode.enc false) q0.p.Nodes),.sl false 5 (List.map (GFn.enc false) q0.p.Fns),vi q0.fn,.sl false 1 (List.map vs q0.there),vb q0.bad]]:=by
 refine oB Tryz.func48 rfl (by simp [Tryz.f48]) fun C (q:C.N=33) hP=>?_
 have y:=aL hP
 unfold cP at h
 refine O.zR y fun K u=>?_
 refine wC rfl fun K w=>?_;simp [q];apply w
 apply wN;apply u
 refine O.block ?_
 refine O.loopO [] [0,1,4] [33] (fun v:Int × Gl07Seen=>⟨[(0,.ref (.box 33) 0 []),(1,.t (vi k2)),(4,.t (vi v.1))],[(33,[.sl false 4 (List.map (GNode.enc false) v.2.p.Nodes),.sl false 5 (List.map (GFn.enc false) v.2.p.Fns),vi v.2.fn,.sl false 1 (List.map vs v.2.there),vb v.2.bad])]⟩) (bF a2 k2) _ (0,(⟨s1.p,s1.fn,s1.there,s1.bad⟩:Gl07Seen)) h (by simp [q]) ?_
 intro g s7 h5 c2
 obtain ⟨i3,v4⟩:=g
 simp only [bF] at h5
 try dsimp only
 refine O.seq ?_
 refine O.zR y fun K u=>?_
 iterate 7 (refine wC rfl fun K w=>?_;simp [q];apply w)
 obtain ⟨e8,c3,h5⟩:=bS h5
 obtain ⟨b4,b5,b6,b7⟩:=gS c3
 iterate 5 (refine wC rfl fun K w=>?_;simp [q,b4,b5,b6,b7];apply w)
 apply wN;apply u
 rcases aA h5 with ⟨c4,h5⟩ | ⟨b8,h5⟩
 ·refine O.cT' (by simp) c4 ?_
  refine O.skip ?_
  refine O.seq ?_
  refine O.block ?_
  refine O.zG y fun K u=>?_
  iterate 7 (refine wC rfl fun K w=>?_;simp [q];apply w)
  obtain ⟨c6,b9,h5⟩:=bS h5
  obtain ⟨a6,a7,a8,a9⟩:=gS b9
  iterate 4 (refine wC rfl fun K w=>?_;simp [q,a6,a7,a8,a9];apply w)
  obtain ⟨c7,c0,h5⟩:=bS h5
  obtain ⟨b0,b1,b2,b3⟩:=gS c0
  iterate 2 (refine wC rfl fun K w=>?_;simp [q,a6,a7,a8,a9,b0,b1,b2,b3];apply w)
  obtain ⟨c8,c1,h5⟩:=bS h5
  refine wL [((.ptr 5),.tmp 19),(.take,.tmp 31)] rfl rfl ent81 (a4 _ _ c1) fun K w=>?_;simp [q,a6,a7,a8,a9,b0,b1,b2,b3];apply w
  apply wN;apply u
  refine O.zG y fun K u=>?_
  iterate 3 (refine wC rfl fun K w=>?_;simp [q];apply w)
  apply wN;apply u
  cases h5
  exact ⟨_,[],rfl,by simp [q]⟩
 ·refine O.cF' (by simp) b8 ?_
  refine O.exit ?_
  have c5:=congrArg some (c2 _ (Option.some.inj h5).symm)
  cases c5
  simp [aC,iB,res48]
theorem pH (a2:Gl07Seen→Int→Option (Gl07Seen)) (a9:∀ (a0:Gl07Seen) (a1:Int) {q0:Gl07Seen},a2 a0 a1=some q0→Ok E 48 [.ptr [.sl false 4 (List.map (GNode.enc false) a0.p.Nodes),.sl false 5 (List.map (GFn.enc false) a0.p.Fns),vi a0.fn,.sl false 1 (List.map vs a0.there),vb a0.bad],.val (vi a1)] [] [[.sl false 4 (List.map (GNode.enc false) q0.p.Nodes),.sl false 5 (List.map (GFn.enc false) q0.p.Fns),vi q0.fn,.sl false 1 (List.map vs q0.there),vb q0.bad]]) (a6:Gl07Seen→Int→Option (Gl07Seen)) (b3:∀ (a0:Gl07Seen) (a1:Int) {q0:Gl07Seen},a6 a0 a1=some q0→Ok E 81 [.ptr [.sl false 4 (List.map (GNode.enc false) a0.p.Nodes),.sl false 5 (List.map (GFn.enc false) a0.p.Fns),vi a0.fn,.sl false 1 (List.map vs a0.there),vb a0.bad],.val (vi a1)] [] [[.sl false 4 (List.map (GNode.enc false) q0.p.Nodes),.sl false 5 (List.map (GFn.enc false) q0.p.Fns),vi q0.fn,.sl false 1 (List.map vs q0.there),vb q0.bad]]) (s1:Gl07Seen) (k2:Int) {q0:Gl07Seen} (h:dD a2 a6 s1 k2=some q0):Ok E 81 [.ptr [.sl false 4 (List.map (GNode.enc false) s1.p.Nodes),.sl false 5 (List.map (GFn.enc false) s1.p.Fns),vi s1.fn,.sl false 1 (List.map vs s1.there),vb s1.bad],.val (vi k2)] [] [[.sl false 4 (List.map (GNode.enc false) q0.p.Nodes),.sl false 5 (List.map (GFn.enc false) q0.p.Fns),vi q0.fn,.sl false 1 (List.map vs q0.there),vb q0.bad]]:=by
 refine oB Tryz.func81 rfl (by simp [Tryz.f81]) fun C (q:C.N=83) hP=>?_
 have y:=aL hP
 unfold dD at h
 refine O.zR y fun K w=>?_
 iterate 6 (refine wC rfl fun K r=>?_;simp [q];apply r)
 obtain ⟨e3,h9,h⟩:=bS h
 obtain ⟨e5,e6,e7,e8⟩:=gS h9
 iterate 4 (refine wC rfl fun K r=>?_;simp [q,e5,e6,e7,e8];apply r)
 apply wN;apply w
 refine O.zR y fun K w=>?_
 iterate 3 (refine wC rfl fun K r=>?_;simp [q];apply r)
 obtain ⟨e4,i0,h⟩:=bS h
 obtain ⟨c6,c7,c3,c4⟩:=gS i0
 have c5:0 < e3.Kids.length:=by omega
 have c8:e3.Kids[0]? = some e4:=c3
 have c9:e3.Kids[0]=e4:=c4 c5
 iterate 2 (refine wC rfl fun K r=>?_;simp [q,c6,c7,c3,c4,c5,c8,c9];apply r)
 obtain ⟨q5,i1,h⟩:=bS h
 refine wL [((.ptr 5),.tmp 15),(.take,.tmp 19)] rfl rfl aOo (jY _ _ i1) fun K r=>?_;simp [q,c6,c7,c3,c4,c5,c8,c9];apply r
 apply wN;apply w
 refine O.zR y fun K w=>?_
 iterate 2 (refine wC rfl fun K r=>?_;simp [q];apply r)
 apply wN;apply w
 refine O.block ?_
 refine O.zR y fun K w=>?_
 iterate 2 (refine wC rfl fun K r=>?_;simp [q];apply r)
 apply wN;apply w
 rcases aA h with ⟨i2,h⟩ | ⟨i3,h⟩
 ·refine O.cT' (by simp) i2 ?_
  refine O.postB 83 3 ?_
  obtain ⟨l9,i4,h⟩:=bS h
  obtain ⟨a7,a8,i5⟩:=aS i4
  simp [eSl] at a7 a8
  obtain ⟨h7,e9,h⟩:=bS h
  obtain ⟨a3,a4,e0⟩:=aS e9
  have a5:List.map vs q5.there ++ List.map vs [e3.Name]=List.map vs h7:=dJ (f:=vs) e0
  simp [eSl] at a3 a4 a5
  refine O.drawX2 rfl (y _ rfl) [25,26,27,28,29,30,31,32,33,34,35] [[(25,.ref (.box 83) 0 [])],[(26,.t (.sl true 1 []))],[(27,.ref (.box 83) 0 [])],[(28,.ref (.box 83) 0 [])],[(29,.ref (.box 83) 3 [])],[(30,.t (.sl false 1 (List.map vs q5.there)))],[(31,.t (.sl true 1 (List.map vs q5.there))),(26,.u)],[(32,.ref (.box 4) 2 [])],[(33,.t (vs e3.Name))],[(34,.t (.sl true 1 (List.map vs [e3.Name])))],[(35,.t (.sl true 1 (List.map vs h7))),(31,.u),(34,.u)]] [[],[],[],[],[],[],[],[],[],[],[]] [[],[],[],[2],[2,3],[2,3,4],[1,2,3,4,5],[],[7],[7,8],[1,2,3,4,5,6,7,8,9],[0,1,2,3,4,5,6,7,8,9,10],[0,1,2,3,4,5,6,7,8,9,10,11],[0,1,2,3,4,5,6,7,8,9,10,11,12]] rfl (by simp) rfl rfl rfl ?_ fun K w=>?_
  ·refine ⟨?_,?_,?_,?_,?_,?_,?_,?_,?_,?_,?_,trivial⟩
   ·intro D d0 g1 g2 gc
    have p3_2:D 3=true→D 2=true:=fun h=>gc 3 2 h (by simp) (by simp)
    have p4_3:D 4=true→D 3=true:=fun h=>gc 4 3 h (by simp) (by simp)
    have p5_4:D 5=true→D 4=true:=fun h=>gc 5 4 h (by simp) (by simp)
    have p6_1:D 6=true→D 1=true:=fun h=>gc 6 1 h (by simp) (by simp)
    have p6_5:D 6=true→D 5=true:=fun h=>gc 6 5 h (by simp) (by simp)
    have p8_7:D 8=true→D 7=true:=fun h=>gc 8 7 h (by simp) (by simp)
    have p9_8:D 9=true→D 8=true:=fun h=>gc 9 8 h (by simp) (by simp)
    have p10_6:D 10=true→D 6=true:=fun h=>gc 10 6 h (by simp) (by simp)
    have p10_9:D 10=true→D 9=true:=fun h=>gc 10 9 h (by simp) (by simp)
    cases d1:D 1<;>cases d2:D 2<;>cases d3:D 3<;>(simp [d3,d2] at p3_2)<;>cases d4:D 4<;>(simp [d4,d3] at p4_3)<;>cases d5:D 5<;>(simp [d5,d4] at p5_4)<;>cases d6:D 6<;>(simp [d6,d1] at p6_1)<;>(simp [d6,d5] at p6_5)<;>cases d7:D 7<;>cases d8:D 8<;>(simp [d8,d7] at p8_7)<;>cases d9:D 9<;>(simp [d9,d8] at p9_8)<;>cases b0:D 10<;>(simp [b0,d6] at p10_6)<;>(simp [b0,d9] at p10_9)<;>(intro K w;simp [jT,oM,hJ,fQ,jQ,d0,d1,d2,d3,d4,d5,d6,d7,d8,d9,b0] at w ⊢;refine wC rfl fun K' z=>?_;simp [q,a7,a8,a3,a4,a5];refine z _ (wN ?_);first | exact w | simpa [a7,a8,a3,a4,a5] using w)
   ·intro D d1 g1 g2 gc
    have d6:D 6=false:=g2 6 (by simp) (by simp)
    have b0:D 10=false:=g2 10 (by simp) (by simp)
    have p3_2:D 3=true→D 2=true:=fun h=>gc 3 2 h (by simp) (by simp)
    have p4_3:D 4=true→D 3=true:=fun h=>gc 4 3 h (by simp) (by simp)
    have p5_4:D 5=true→D 4=true:=fun h=>gc 5 4 h (by simp) (by simp)
    have p8_7:D 8=true→D 7=true:=fun h=>gc 8 7 h (by simp) (by simp)
    have p9_8:D 9=true→D 8=true:=fun h=>gc 9 8 h (by simp) (by simp)
    cases d0:D 0<;>cases d2:D 2<;>cases d3:D 3<;>(simp [d3,d2] at p3_2)<;>cases d4:D 4<;>(simp [d4,d3] at p4_3)<;>cases d5:D 5<;>(simp [d5,d4] at p5_4)<;>cases d7:D 7<;>cases d8:D 8<;>(simp [d8,d7] at p8_7)<;>cases d9:D 9<;>(simp [d9,d8] at p9_8)<;>(intro K w;simp [jT,oM,hJ,fQ,jQ,d0,d1,d2,d3,d4,d5,d6,d7,d8,d9,b0] at w ⊢;refine wC rfl fun K' z=>?_;simp [q,a7,a8,a3,a4,a5];refine z _ (wN ?_);first | exact w | simpa [a7,a8,a3,a4,a5] using w)
   ·intro D d2 g1 g2 gc
    have d3:D 3=false:=g2 3 (by simp) (by simp)
    have d4:D 4=false:=g2 4 (by simp) (by simp)
    have d5:D 5=false:=g2 5 (by simp) (by simp)
    have d6:D 6=false:=g2 6 (by simp) (by simp)
    have b0:D 10=false:=g2 10 (by simp) (by simp)
    have p8_7:D 8=true→D 7=true:=fun h=>gc 8 7 h (by simp) (by simp)
    have p9_8:D 9=true→D 8=true:=fun h=>gc 9 8 h (by simp) (by simp)
    cases d0:D 0<;>cases d1:D 1<;>cases d7:D 7<;>cases d8:D 8<;>(simp [d8,d7] at p8_7)<;>cases d9:D 9<;>(simp [d9,d8] at p9_8)<;>(intro K w;simp [jT,oM,hJ,fQ,jQ,d0,d1,d2,d3,d4,d5,d6,d7,d8,d9,b0] at w ⊢;refine wC rfl fun K' z=>?_;simp [q,a7,a8,a3,a4,a5];refine z _ (wN ?_);first | exact w | simpa [a7,a8,a3,a4,a5] using w)
   ·intro D d3 g1 g2 gc
    have d2:D 2=true:=g1 2 (by simp)
    have d4:D 4=false:=g2 4 (by simp) (by simp)
    have d5:D 5=false:=g2 5 (by simp) (by simp)
    have d6:D 6=false:=g2 6 (by simp) (by simp)
    have b0:D 10=false:=g2 10 (by simp) (by simp)
    have p8_7:D 8=true→D 7=true:=fun h=>gc 8 7 h (by simp) (by simp)
    have p9_8:D 9=true→D 8=true:=fun h=>gc 9 8 h (by simp) (by simp)
    cases d0:D 0<;>cases d1:D 1<;>cases d7:D 7<;>cases d8:D 8<;>(simp [d8,d7] at p8_7)<;>cases d9:D 9<;>(simp [d9,d8] at p9_8)<;>(intro K w;simp [jT,oM,hJ,fQ,jQ,d0,d1,d2,d3,d4,d5,d6,d7,d8,d9,b0] at w ⊢;refine wC rfl fun K' z=>?_;simp [q,a7,a8,a3,a4,a5];refine z _ (wN ?_);first | exact w | simpa [a7,a8,a3,a4,a5] using w)
   ·intro D d4 g1 g2 gc
    have d2:D 2=true:=g1 2 (by simp)
    have d3:D 3=true:=g1 3 (by simp)
    have d5:D 5=false:=g2 5 (by simp) (by simp)
    have d6:D 6=false:=g2 6 (by simp) (by simp)
    have b0:D 10=false:=g2 10 (by simp) (by simp)
    have p8_7:D 8=true→D 7=true:=fun h=>gc 8 7 h (by simp) (by simp)
    have p9_8:D 9=true→D 8=true:=fun h=>gc 9 8 h (by simp) (by simp)
    cases d0:D 0<;>cases d1:D 1<;>cases d7:D 7<;>cases d8:D 8<;>(simp [d8,d7] at p8_7)<;>cases d9:D 9<;>(simp [d9,d8] at p9_8)<;>(intro K w;simp [jT,oM,hJ,fQ,jQ,d0,d1,d2,d3,d4,d5,d6,d7,d8,d9,b0] at w ⊢;refine wC rfl fun K' z=>?_;simp [q,a7,a8,a3,a4,a5];refine z _ (wN ?_);first | exact w | simpa [a7,a8,a3,a4,a5] using w)
   ·intro D d5 g1 g2 gc
    have d2:D 2=true:=g1 2 (by simp)
    have d3:D 3=true:=g1 3 (by simp)
    have d4:D 4=true:=g1 4 (by simp)
    have d6:D 6=false:=g2 6 (by simp) (by simp)
    have b0:D 10=false:=g2 10 (by simp) (by simp)
    have p8_7:D 8=true→D 7=true:=fun h=>gc 8 7 h (by simp) (by simp)
    have p9_8:D 9=true→D 8=true:=fun h=>gc 9 8 h (by simp) (by simp)
    cases d0:D 0<;>cases d1:D 1<;>cases d7:D 7<;>cases d8:D 8<;>(simp [d8,d7] at p8_7)<;>cases d9:D 9<;>(simp [d9,d8] at p9_8)<;>(intro K w;simp [jT,oM,hJ,fQ,jQ,d0,d1,d2,d3,d4,d5,d6,d7,d8,d9,b0] at w ⊢;refine wC rfl fun K' z=>?_;simp [q,a7,a8,a3,a4,a5];refine z _ (wN ?_);first | exact w | simpa [a7,a8,a3,a4,a5] using w)
   ·intro D d6 g1 g2 gc
    have d1:D 1=true:=g1 1 (by simp)
    have d2:D 2=true:=g1 2 (by simp)
    have d3:D 3=true:=g1 3 (by simp)
    have d4:D 4=true:=g1 4 (by simp)
    have d5:D 5=true:=g1 5 (by simp)
    have b0:D 10=false:=g2 10 (by simp) (by simp)
    have p8_7:D 8=true→D 7=true:=fun h=>gc 8 7 h (by simp) (by simp)
    have p9_8:D 9=true→D 8=true:=fun h=>gc 9 8 h (by simp) (by simp)
    cases d0:D 0<;>cases d7:D 7<;>cases d8:D 8<;>(simp [d8,d7] at p8_7)<;>cases d9:D 9<;>(simp [d9,d8] at p9_8)<;>(intro K w;simp [jT,oM,hJ,fQ,jQ,d0,d1,d2,d3,d4,d5,d6,d7,d8,d9,b0] at w ⊢;refine wC rfl fun K' z=>?_;simp [q,a7,a8,a3,a4,a5];refine z _ (wN ?_);first | exact w | simpa [a7,a8,a3,a4,a5] using w)
   ·intro D d7 g1 g2 gc
    have d8:D 8=false:=g2 8 (by simp) (by simp)
    have d9:D 9=false:=g2 9 (by simp) (by simp)
    have b0:D 10=false:=g2 10 (by simp) (by simp)
    have p3_2:D 3=true→D 2=true:=fun h=>gc 3 2 h (by simp) (by simp)
    have p4_3:D 4=true→D 3=true:=fun h=>gc 4 3 h (by simp) (by simp)
    have p5_4:D 5=true→D 4=true:=fun h=>gc 5 4 h (by simp) (by simp)
    have p6_1:D 6=true→D 1=true:=fun h=>gc 6 1 h (by simp) (by simp)
    have p6_5:D 6=true→D 5=true:=fun h=>gc 6 5 h (by simp) (by simp)
    cases d0:D 0<;>cases d1:D 1<;>cases d2:D 2<;>cases d3:D 3<;>(simp [d3,d2] at p3_2)<;>cases d4:D 4<;>(simp [d4,d3] at p4_3)<;>cases d5:D 5<;>(simp [d5,d4] at p5_4)<;>cases d6:D 6<;>(simp [d6,d1] at p6_1)<;>(simp [d6,d5] at p6_5)<;>(intro K w;simp [jT,oM,hJ,fQ,jQ,d0,d1,d2,d3,d4,d5,d6,d7,d8,d9,b0] at w ⊢;refine wC rfl fun K' z=>?_;simp [q,a7,a8,a3,a4,a5];refine z _ (wN ?_);first | exact w | simpa [a7,a8,a3,a4,a5] using w)
   ·intro D d8 g1 g2 gc
    have d7:D 7=true:=g1 7 (by simp)
    have d9:D 9=false:=g2 9 (by simp) (by simp)
    have b0:D 10=false:=g2 10 (by simp) (by simp)
    have p3_2:D 3=true→D 2=true:=fun h=>gc 3 2 h (by simp) (by simp)
    have p4_3:D 4=true→D 3=true:=fun h=>gc 4 3 h (by simp) (by simp)
    have p5_4:D 5=true→D 4=true:=fun h=>gc 5 4 h (by simp) (by simp)
    have p6_1:D 6=true→D 1=true:=fun h=>gc 6 1 h (by simp) (by simp)
    have p6_5:D 6=true→D 5=true:=fun h=>gc 6 5 h (by simp) (by simp)
    cases d0:D 0<;>cases d1:D 1<;>cases d2:D 2<;>cases d3:D 3<;>(simp [d3,d2] at p3_2)<;>cases d4:D 4<;>(simp [d4,d3] at p4_3)<;>cases d5:D 5<;>(simp [d5,d4] at p5_4)<;>cases d6:D 6<;>(simp [d6,d1] at p6_1)<;>(simp [d6,d5] at p6_5)<;>(intro K w;simp [jT,oM,hJ,fQ,jQ,d0,d1,d2,d3,d4,d5,d6,d7,d8,d9,b0] at w ⊢;refine wC rfl fun K' z=>?_;simp [q,a7,a8,a3,a4,a5];refine z _ (wN ?_);first | exact w | simpa [a7,a8,a3,a4,a5] using w)
   ·intro D d9 g1 g2 gc
    have d7:D 7=true:=g1 7 (by simp)
    have d8:D 8=true:=g1 8 (by simp)
    have b0:D 10=false:=g2 10 (by simp) (by simp)
    have p3_2:D 3=true→D 2=true:=fun h=>gc 3 2 h (by simp) (by simp)
    have p4_3:D 4=true→D 3=true:=fun h=>gc 4 3 h (by simp) (by simp)
    have p5_4:D 5=true→D 4=true:=fun h=>gc 5 4 h (by simp) (by simp)
    have p6_1:D 6=true→D 1=true:=fun h=>gc 6 1 h (by simp) (by simp)
    have p6_5:D 6=true→D 5=true:=fun h=>gc 6 5 h (by simp) (by simp)
    cases d0:D 0<;>cases d1:D 1<;>cases d2:D 2<;>cases d3:D 3<;>(simp [d3,d2] at p3_2)<;>cases d4:D 4<;>(simp [d4,d3] at p4_3)<;>cases d5:D 5<;>(simp [d5,d4] at p5_4)<;>cases d6:D 6<;>(simp [d6,d1] at p6_1)<;>(simp [d6,d5] at p6_5)<;>(intro K w;simp [jT,oM,hJ,fQ,jQ,d0,d1,d2,d3,d4,d5,d6,d7,d8,d9,b0] at w ⊢;refine wC rfl fun K' z=>?_;simp [q,a7,a8,a3,a4,a5];refine z _ (wN ?_);first | exact w | simpa [a7,a8,a3,a4,a5] using w)
   ·intro D b0 g1 g2 gc
    have d1:D 1=true:=g1 1 (by simp)
    have d2:D 2=true:=g1 2 (by simp)
    have d3:D 3=true:=g1 3 (by simp)
    have d4:D 4=true:=g1 4 (by simp)
    have d5:D 5=true:=g1 5 (by simp)
    have d6:D 6=true:=g1 6 (by simp)
    have d7:D 7=true:=g1 7 (by simp)
    have d8:D 8=true:=g1 8 (by simp)
    have d9:D 9=true:=g1 9 (by simp)
    cases d0:D 0<;>(intro K w;simp [jT,oM,hJ,fQ,jQ,d0,d1,d2,d3,d4,d5,d6,d7,d8,d9,b0] at w ⊢;refine wC rfl fun K' z=>?_;simp [q,a7,a8,a3,a4,a5];refine z _ (wN ?_);first | exact w | simpa [a7,a8,a3,a4,a5] using w)
  simp [jT,oM,fQ,jQ]
  iterate 3 (refine wC rfl fun K r=>?_;simp [q,a7,a8,a3,a4,a5];apply r)
  apply wN;apply w
  intro K2 h8;simp [q];refine h8 _ ?_;clear h8
  cases h
  simp [aC,iB,aK1]
 ·refine O.cF' (by simp) i3 ?_
  obtain ⟨i6,b6,h⟩:=bS h
  refine O.seqC [0,4,22,38] [4,83] (fun _:Unit=>⟨[(0,.ref (.box 83) 0 []),(4,.ref (.box 4) 0 []),(22,.t (vi e3.Kind)),(38,.t (vb i6))],[(4,[vi e3.Kind,vi e3.Num,vs e3.Name,.sl false 1 (List.map vi e3.Kids)]),(83,[.sl false 4 (List.map (GNode.enc false) q5.p.Nodes),.sl false 5 (List.map (GFn.enc false) q5.p.Fns),vi q5.fn,.sl false 1 (List.map vs q5.there),vb q5.bad])]⟩) (fun _=>True) (fun _ _=>?_) fun i9 e1=>?_
  rotate_left
  ·refine O.zR y fun K w=>?_
   iterate 2 (refine wC rfl fun K r=>?_;simp [q];apply r)
   apply wN;apply w
   rcases aA b6 with ⟨g0,b6⟩ | ⟨g3,b6⟩
   ·refine O.cT' (by simp) g0 ?_
    refine O.skip ?_
    cases b6
    exact e1 _ () [] trivial (by simp [q])
   ·refine O.cF' (by simp) g3 ?_
    refine O.zG y fun K w=>?_
    iterate 2 (refine wC rfl fun K r=>?_;simp [q];apply r)
    apply wN;apply w
    cases b6
    exact e1 _ () [] trivial (by simp [q])
  rcases aA h with ⟨g4,h⟩ | ⟨g5,h⟩
  ·refine O.cT' (by simp) g4 ?_
   rcases aA h with ⟨b4,h⟩ | ⟨b5,h⟩
   ·have b1:=b4
    try simp at b1
    refine O.dT rfl (y _ rfl) [(41,.ref (.box 83) 0 []),(42,.ref (.box 83) 0 []),(43,.ref (.box 83) 0 []),(44,.ref (.box 83) 4 []),(45,.t (vb q5.bad)),(46,.t (vb q5.bad)),(47,.tup []),(48,.tup []),(49,.tup []),(50,.tup []),(51,.tup []),(52,.tup []),(53,.tup []),(54,.tup []),(55,.t (vb true))] [[],[],[1],[1,2],[1,2,3],[1,2,3,4],[1,2,3,4,5],[1,2,3,4,5,6],[1,2,3,4,5,6,7],[1,2,3,4,5,6,7,8],[1,2,3,4,5],[1,2,3,4,5,10],[1,2,3,4,5,6,7,8,9,10,11],[1,2,3,4,5,6,7,8,9,10,11,12],[1,2,3,4,5,6,7,8,9,10,11,12,13],[0,1,2,3,4,5,6,7,8,9,10,11,12,13,14],[0,1,2,3,4,5,6,7,8,9,10,11,12,13,14,15],[0,1,2,3,4,5,6,7,8,9,10,11,12,13,14,15,16]] (by simp) (by simp) (by simp [look]) rfl rfl rfl ?_ fun K w=>?_
    ·refine ⟨?_,?_,?_,?_,?_,?_,?_,?_,?_,?_,?_,?_,?_,?_,?_,trivial⟩
     all_goals (intro τ hbx hb hd hf K w;try simp [aJ] at hd;simp [aJ] at hf;first | (refine wC rfl fun K' z=>?_;simp [q,hbx,hb,hd,hf,b4,b1];exact z _ (wN (w _ (by simp [aJ,hbx,b4,b1])))) | (refine wO fun K' z=>?_;simp [q,hbx,hb,hd,hf,b4,b1];exact z _ (wN (w _ (by simp [aJ,hbx,b4,b1])))))
    iterate 3 (refine wC rfl fun K r=>?_;simp [q,b4,b1];apply r)
    apply wN;apply w
    cases h
    simp [aC,iB,aK1]
   ·have b2:=b5
    try simp at b2
    obtain ⟨g6,g7,h⟩:=bS h
    refine O.dT rfl (y _ rfl) [(41,.ref (.box 83) 0 []),(42,.ref (.box 83) 0 []),(43,.ref (.box 83) 0 []),(44,.ref (.box 83) 4 []),(45,.t (vb q5.bad)),(46,.t (vb q5.bad)),(47,.ref (.box 83) 0 []),(48,.ref (.box 83) 0 []),(49,.ref (.box 83) 3 []),(50,.t (.sl false 1 (List.map vs q5.there))),(51,.ref (.box 4) 2 []),(52,.t (vs e3.Name)),(53,.t (vb g6)),(54,.t (vb (!g6))),(55,.t (vb (!g6)))] [[],[],[1],[1,2],[1,2,3],[1,2,3,4],[1,2,3,4,5],[1,2,3,4,5,6],[1,2,3,4,5,6,7],[1,2,3,4,5,6,7,8],[1,2,3,4,5],[1,2,3,4,5,10],[1,2,3,4,5,6,7,8,9,10,11],[1,2,3,4,5,6,7,8,9,10,11,12],[1,2,3,4,5,6,7,8,9,10,11,12,13],[0,1,2,3,4,5,6,7,8,9,10,11,12,13,14],[0,1,2,3,4,5,6,7,8,9,10,11,12,13,14,15],[0,1,2,3,4,5,6,7,8,9,10,11,12,13,14,15,16]] (by simp) (by simp) (by simp [look]) rfl rfl rfl ?_ fun K w=>?_
    ·refine ⟨?_,?_,?_,?_,?_,?_,?_,?_,?_,?_,?_,?_,?_,?_,?_,trivial⟩
     all_goals (intro τ hbx hb hd hf K w;try simp [aJ] at hd;simp [aJ] at hf;first | (refine wC rfl fun K' z=>?_;simp [q,hbx,hb,hd,hf,b5,b2];exact z _ (wN (w _ (by simp [aJ,hbx,b5,b2])))) | (refine wL [(.take,.tmp 50),(.take,.tmp 52)] rfl rfl ent82 (rB _ _ g7) fun K' z=>?_;simp [q,hbx,hb,hd,hf,b5,b2];exact z _ (wN (w _ (by simp [aJ,hbx,b5,b2])))))
    iterate 3 (refine wC rfl fun K r=>?_;simp [q,b5,b2];apply r)
    apply wN;apply w
    cases h
    simp [aC,iB,aK1]
  ·refine O.cF' (by simp) g5 ?_
   obtain ⟨i7,b7,h⟩:=bS h
   refine O.seqC [0,4,58] [4,83] (fun _:Unit=>⟨[(0,.ref (.box 83) 0 []),(4,.ref (.box 4) 0 []),(58,.t (vb i7))],[(4,[vi e3.Kind,vi e3.Num,vs e3.Name,.sl false 1 (List.map vi e3.Kids)]),(83,[.sl false 4 (List.map (GNode.enc false) q5.p.Nodes),.sl false 5 (List.map (GFn.enc false) q5.p.Fns),vi q5.fn,.sl false 1 (List.map vs q5.there),vb q5.bad])]⟩) (fun _=>True) (fun _ _=>?_) fun j0 e2=>?_
   rotate_left
   ·refine O.zR y fun K w=>?_
    iterate 2 (refine wC rfl fun K r=>?_;simp [q];apply r)
    apply wN;apply w
    rcases aA b7 with ⟨g8,b7⟩ | ⟨g9,b7⟩
    ·refine O.cT' (by simp) g8 ?_
     refine O.skip ?_
     cases b7
     exact e2 _ () [] trivial (by simp [q])
    ·refine O.cF' (by simp) g9 ?_
     refine O.zG y fun K w=>?_
     iterate 2 (refine wC rfl fun K r=>?_;simp [q];apply r)
     apply wN;apply w
     cases b7
     exact e2 _ () [] trivial (by simp [q])
   rcases aA h with ⟨h0,h⟩ | ⟨h1,h⟩
   ·refine O.cT' (by simp) h0 ?_
    refine O.zR y fun K w=>?_
    refine wC rfl fun K r=>?_;simp [q];apply r
    apply wN;apply w
    refine O.block ?_
    refine O.loopO [] [0,4,5] [4,83] (fun v:Int × Gl07Seen=>⟨[(0,.ref (.box 83) 0 []),(4,.ref (.box 4) 0 []),(5,.t (vi v.1))],[(4,[vi e3.Kind,vi e3.Num,vs e3.Name,.sl false 1 (List.map vi e3.Kids)]),(83,[.sl false 4 (List.map (GNode.enc false) v.2.p.Nodes),.sl false 5 (List.map (GFn.enc false) v.2.p.Fns),vi v.2.fn,.sl false 1 (List.map vs v.2.there),vb v.2.bad])]⟩) (bP a2 e3) _ (1,(⟨q5.p,q5.fn,q5.there,q5.bad⟩:Gl07Seen)) h (by simp [q]) ?_
    intro g j1 b8 h2
    obtain ⟨j2,j3⟩:=g
    simp only [bP] at b8
    try dsimp only
    refine O.seq ?_
    refine O.zR y fun K w=>?_
    iterate 5 (refine wC rfl fun K r=>?_;simp [q];apply r)
    apply wN;apply w
    rcases aA b8 with ⟨h3,b8⟩ | ⟨h4,b8⟩
    ·refine O.cT' (by simp) h3 ?_
     refine O.skip ?_
     refine O.seq ?_
     refine O.block ?_
     refine O.zR y fun K w=>?_
     iterate 5 (refine wC rfl fun K r=>?_;simp [q];apply r)
     apply wN;apply w
     refine O.zR y fun K w=>?_
     iterate 4 (refine wC rfl fun K r=>?_;simp [q];apply r)
     obtain ⟨j4,h5,b8⟩:=bS b8
     obtain ⟨b9,c0,c1,c2⟩:=gS h5
     iterate 2 (refine wC rfl fun K r=>?_;simp [q,b9,c0,c1,c2];apply r)
     obtain ⟨j5,h6,b8⟩:=bS b8
     refine wL [((.ptr 5),.tmp 72),(.take,.tmp 77)] rfl rfl ent48 (a9 _ _ h6) fun K r=>?_;simp [q,b9,c0,c1,c2];apply r
     apply wN;apply w
     refine O.zG y fun K w=>?_
     iterate 5 (refine wC rfl fun K r=>?_;simp [q];apply r)
     apply wN;apply w
     refine O.zG y fun K w=>?_
     iterate 3 (refine wC rfl fun K r=>?_;simp [q];apply r)
     apply wN;apply w
     cases b8
     exact ⟨_,[],rfl,by simp [q]⟩
    ·refine O.cF' (by simp) h4 ?_
     refine O.exit ?_
     have i8:=congrArg some (h2 _ (Option.some.inj b8).symm)
     cases i8
     simp [aC,iB,aK1]
   ·refine O.cF' (by simp) h1 ?_
    refine O.skip ?_
    cases h
    simp [aC,iB,aK1]
theorem bC:∀ n:Nat,(∀ (a0:Gl07Seen) (a1:Int) {q0:Gl07Seen},(aE n).1 a0 a1=some q0→Ok E 48 [.ptr [.sl false 4 (List.map (GNode.enc false) a0.p.Nodes),.sl false 5 (List.map (GFn.enc false) a0.p.Fns),vi a0.fn,.sl false 1 (List.map vs a0.there),vb a0.bad],.val (vi a1)] [] [[.sl false 4 (List.map (GNode.enc false) q0.p.Nodes),.sl false 5 (List.map (GFn.enc false) q0.p.Fns),vi q0.fn,.sl false 1 (List.map vs q0.there),vb q0.bad]])∧(∀ (a0:Gl07Seen) (a1:Int) {q0:Gl07Seen},(aE n).2 a0 a1=some q0→Ok E 81 [.ptr [.sl false 4 (List.map (GNode.enc false) a0.p.Nodes),.sl false 5 (List.map (GFn.enc false) a0.p.Fns),vi a0.fn,.sl false 1 (List.map vs a0.there),vb a0.bad],.val (vi a1)] [] [[.sl false 4 (List.map (GNode.enc false) q0.p.Nodes),.sl false 5 (List.map (GFn.enc false) q0.p.Fns),vi q0.fn,.sl false 1 (List.map vs q0.there),vb q0.bad]])
 | 0=>⟨(by intros;rename_i h;cases h),(by intros;rename_i h;cases h)⟩
 | n + 1=>⟨oH ((aE n).1) ((bC n).1) ((aE n).2) ((bC n).2),pH ((aE n).1) ((bC n).1) ((aE n).2) ((bC n).2)⟩
theorem pQ:∀ (a0:Gl07Seen) (a1:Int) {q0:Gl07Seen},iQ a0 a1=some q0→Ok E 48 [.ptr [.sl false 4 (List.map (GNode.enc false) a0.p.Nodes),.sl false 5 (List.map (GFn.enc false) a0.p.Fns),vi a0.fn,.sl false 1 (List.map vs a0.there),vb a0.bad],.val (vi a1)] [] [[.sl false 4 (List.map (GNode.enc false) q0.p.Nodes),.sl false 5 (List.map (GFn.enc false) q0.p.Fns),vi q0.fn,.sl false 1 (List.map vs q0.there),vb q0.bad]]:=(bC iA).1
theorem aMd:Tryz.f19.results.toList=[.tmp 2]:=rfl
theorem ent19:aF E.P 19:=eO Tryz.func19 (by simp [Tryz.f19]) rfl
theorem sI (p1:GProgram) {r0:Bool} (h:fR p1=some r0):Ok E 19 [.val (GProgram.enc false p1)] [vb r0] []:=by
 refine oB Tryz.func19 rfl (by simp [Tryz.f19]) fun C (q:C.N=97) hP=>?_
 have w:=aL hP
 unfold fR at h
 refine O.zR w fun K z=>?_
 iterate 2 (refine wC rfl fun K n=>?_;simp [q];apply n)
 apply wN;apply z
 refine O.seq ?_
 refine O.zR w fun K z=>?_
 refine wC rfl fun K n=>?_;simp [q];apply n
 obtain ⟨r2,k8,h⟩:=bS h
 refine wL [(.take,.tmp 8)] rfl rfl ent45 (uE _ k8) fun K n=>?_;simp [q];apply n
 refine wC rfl fun K n=>?_;simp [q];apply n
 apply wN;apply z
 rcases aA h with ⟨k9,h⟩ | ⟨l0,h⟩
 ·refine O.cT' (by simp) k9 ?_
  refine O.zR w fun K z=>?_
  refine wC rfl fun K n=>?_;simp [q];apply n
  apply wN;apply z
  cases h
  refine O.ret ?_
  simp [aC,iB,aMd]
 ·refine O.cF' (by simp) l0 ?_
  refine O.skip ?_
  obtain ⟨j8,l1,h⟩:=bS h
  refine O.seqC [] [] (fun v:Unit=>⟨[],[]⟩) (fun v=>j8=Sum.inl v) (fun v hv=>?_) fun K7 l2=>?_
  rotate_left
  ·refine O.zR w fun K z=>?_
   refine wC rfl fun K n=>?_;simp [q];apply n
   apply wN;apply z
   refine O.block ?_
   refine O.loopO [] [1,3] [1] (fun v:Int=>⟨[(1,.ref (.box 1) 0 []),(3,.t (vi v))],[(1,[.sl false 4 (List.map (GNode.enc false) p1.Nodes),.sl false 5 (List.map (GFn.enc false) p1.Fns)])]⟩) (cG p1) _ 0 l1 (by simp [q]) ?_
   intro g m2 c2 e6
   obtain ⟨i9,hg⟩:∃ y,y=g:=⟨_,rfl⟩
   subst hg
   simp only [cG] at c2
   try dsimp only
   refine O.seq ?_
   refine O.zR w fun K z=>?_
   iterate 5 (refine wC rfl fun K n=>?_;simp [q];apply n)
   apply wN;apply z
   rcases aA c2 with ⟨h4,c2⟩ | ⟨h5,c2⟩
   ·refine O.cT' (by simp) h4 ?_
    refine O.skip ?_
    obtain ⟨l3,b5,c2⟩:=bS c2
    refine O.seqC [1,3] [1] (fun v:Unit=>⟨[(1,.ref (.box 1) 0 []),(3,.t (vi i9))],[(1,[.sl false 4 (List.map (GNode.enc false) p1.Nodes),.sl false 5 (List.map (GFn.enc false) p1.Fns)])]⟩) (fun v=>l3=Sum.inl v) (fun v hv=>?_) fun m3 h6=>?_
    rotate_left
    ·refine O.block ?_
     refine O.zR w fun K z=>?_
     iterate 2 (refine wC rfl fun K n=>?_;simp [q];apply n)
     obtain ⟨k6,h7,b5⟩:=bS b5
     refine wL [(.take,.tmp 18),(.take,.tmp 19)] rfl rfl ent46 (rD _ _ h7) fun K n=>?_;simp [q];apply n
     refine wC rfl fun K n=>?_;simp [q];apply n
     apply wN;apply z
     obtain ⟨l4,h8,b5⟩:=bS b5
     refine O.seqC [1,3] [1] (fun v:Unit=>⟨[(1,.ref (.box 1) 0 []),(3,.t (vi i9))],[(1,[.sl false 4 (List.map (GNode.enc false) p1.Nodes),.sl false 5 (List.map (GFn.enc false) p1.Fns)])]⟩) (fun v=>l4=Sum.inl v) (fun v hv=>?_) fun m4 h9=>?_
     rotate_left
     ·refine O.zR w fun K z=>?_
      refine wC rfl fun K n=>?_;simp [q];apply n
      apply wN;apply z
      refine O.block ?_
      refine O.loopO [] [1,3,4,5] [1] (fun v:Int=>⟨[(1,.ref (.box 1) 0 []),(3,.t (vi i9)),(4,.t (.sl true 3 (List.map GVar.enc k6))),(5,.t (vi v))],[(1,[.sl false 4 (List.map (GNode.enc false) p1.Nodes),.sl false 5 (List.map (GFn.enc false) p1.Fns)])]⟩) (bJ k6) _ 0 h8 (by simp [q]) ?_
      intro g m5 c0 e8
      obtain ⟨m6,hg⟩:∃ y,y=g:=⟨_,rfl⟩
      subst hg
      simp only [bJ] at c0
      try dsimp only
      refine O.seq ?_
      refine O.zR w fun K z=>?_
      iterate 4 (refine wC rfl fun K n=>?_;simp [q];apply n)
      apply wN;apply z
      rcases aA c0 with ⟨i0,c0⟩ | ⟨i1,c0⟩
      ·refine O.cT' (by simp) i0 ?_
       refine O.skip ?_
       refine O.seq ?_
       refine O.block ?_
       refine O.zR w fun K z=>?_
       iterate 3 (refine wC rfl fun K n=>?_;simp [q];apply n)
       obtain ⟨m7,i2,c0⟩:=bS c0
       obtain ⟨c3,c4,c5,c6⟩:=gS i2
       iterate 3 (refine wC rfl fun K n=>?_;simp [q,c3,c4,c5,c6];apply n)
       obtain ⟨m8,i3,c0⟩:=bS c0
       refine wL [(.bor,.tmp 27),(.take,.tmp 32)] rfl rfl ent47 (sF _ _ i3) fun K n=>?_;simp [q,c3,c4,c5,c6];apply n
       iterate 2 (refine wC rfl fun K n=>?_;simp [q,c3,c4,c5,c6];apply n)
       apply wN;apply z
       rcases aA c0 with ⟨i4,c0⟩ | ⟨i5,c0⟩
       ·refine O.cT' (by simp) i4 ?_
        refine O.zR w fun K z=>?_
        refine wC rfl fun K n=>?_;simp [q];apply n
        apply wN;apply z
        have l5:=congrArg some (e8 _ (Option.some.inj c0).symm)
        cases l5
        try dsimp only at b5
        cases b5
        try dsimp only at c2
        have l6:=congrArg some (e6 _ (Option.some.inj c2).symm)
        cases l6
        try dsimp only at h
        cases h
        refine O.ret ?_
        simp [aC,iB,aMd]
       ·refine O.cF' (by simp) i5 ?_
        refine O.skip ?_
        refine O.zG w fun K z=>?_
        iterate 3 (refine wC rfl fun K n=>?_;simp [q];apply n)
        apply wN;apply z
        cases c0
        exact ⟨_,[],rfl,by simp [q]⟩
      ·refine O.cF' (by simp) i1 ?_
       refine O.exit ?_
       have l7:=congrArg some (e8 _ (Option.some.inj c0).symm)
       cases l7
       exact h9 _ _ [] rfl (by simp [q])
     subst hv
     obtain ⟨⟩:=v
     try dsimp only at b5 ⊢
     refine O.zR w fun K z=>?_
     iterate 5 (refine wC rfl fun K n=>?_;simp [q];apply n)
     apply wN;apply z
     obtain ⟨e9,i6,b5⟩:=bS b5
     refine O.seqC [1,3,6] [1,39] (fun _:Unit=>⟨[(1,.ref (.box 1) 0 []),(3,.t (vi i9)),(6,.ref (.box 39) 0 [])],[(1,[.sl false 4 (List.map (GNode.enc false) p1.Nodes),.sl false 5 (List.map (GFn.enc false) p1.Fns)]),(39,[.sl false 4 (List.map (GNode.enc false) e9.p.Nodes),.sl false 5 (List.map (GFn.enc false) e9.p.Fns),vi e9.fn,.sl true 1 (List.map vs e9.there),vb e9.bad])]⟩) (fun _=>True) (fun _ _=>?_) fun m9 i7=>?_
     rotate_left
     ·refine O.zR w fun K z=>?_
      refine wC rfl fun K n=>?_;simp [q];apply n
      apply wN;apply z
      refine O.block ?_
      refine O.loopO [] [1,3,6,7] [1,39] (fun v:Int × Gl07Seen=>⟨[(1,.ref (.box 1) 0 []),(3,.t (vi i9)),(6,.ref (.box 39) 0 []),(7,.t (vi v.1))],[(1,[.sl false 4 (List.map (GNode.enc false) p1.Nodes),.sl false 5 (List.map (GFn.enc false) p1.Fns)]),(39,[.sl false 4 (List.map (GNode.enc false) v.2.p.Nodes),.sl false 5 (List.map (GFn.enc false) v.2.p.Fns),vi v.2.fn,.sl true 1 (List.map vs v.2.there),vb v.2.bad])]⟩) (bH p1 i9) _ (0,(⟨p1,i9,[],false⟩:Gl07Seen)) i6 (by simp [q]) ?_
      intro g n0 c1 i8
      obtain ⟨l8,g0⟩:=g
      simp only [bH] at c1
      try dsimp only
      refine O.seq ?_
      refine O.zR w fun K z=>?_
      iterate 4 (refine wC rfl fun K n=>?_;simp [q];apply n)
      obtain ⟨n1,j0,c1⟩:=bS c1
      obtain ⟨g3,g4,g5,g6⟩:=gS j0
      iterate 5 (refine wC rfl fun K n=>?_;simp [q,g3,g4,g5,g6];apply n)
      apply wN;apply z
      rcases aA c1 with ⟨j1,c1⟩ | ⟨j2,c1⟩
      ·refine O.cT' (by simp) j1 ?_
       refine O.skip ?_
       refine O.seq ?_
       refine O.block ?_
       obtain ⟨c7,j3,c1⟩:=bS c1
       obtain ⟨a3,a4,a5,a6⟩:=gS j3
       obtain ⟨e7,j4,c1⟩:=bS c1
       obtain ⟨a7,a8,a9,b0⟩:=gS j4
       obtain ⟨k7,j5,c1⟩:=bS c1
       obtain ⟨a0,a1,g7⟩:=aS j5
       have a2:List.map vs g0.there ++ List.map vs [e7.Name]=List.map vs k7:=dJ (f:=vs) g7
       simp [eSl] at a0 a1 a2
       refine O.drawX2 rfl (w _ rfl) [51,52,53,54,55,56,57,58,59,60,61,62,63,64,65,66,67] [[(51,.ref (.box 39) 0 [])],[(52,.ref (.box 39) 0 [])],[(53,.ref (.box 39) 0 [])],[(54,.ref (.box 39) 3 [])],[(55,.al (.box 39) 3 [] none)],[(56,.ref (.box 1) 1 [])],[(57,.t (.sl false 5 (List.map (GFn.enc false) p1.Fns)))],[(58,.t (vi i9))],[(59,.rop [vs c7.Name,.sl false 2 (List.map GParam.enc c7.Params),vi c7.Res,vi c7.Body,vi c7.Ret] 0)],[(60,.rop [vs c7.Name,.sl false 2 (List.map GParam.enc c7.Params),vi c7.Res,vi c7.Body,vi c7.Ret] 1)],[(61,.t (.sl false 2 (List.map GParam.enc c7.Params)))],[(62,.t (vi l8))],[(63,.rop [vs e7.Name,vi e7.Typ] 0)],[(64,.rop [vs e7.Name,vi e7.Typ] 0)],[(65,.t (vs e7.Name))],[(66,.t (.sl true 1 (List.map vs [e7.Name])))],[(67,.t (.sl true 1 (List.map vs k7))),(55,.u),(66,.u)]] [[],[],[],[],[],[],[],[],[],[],[],[],[],[],[],[],[(39,[.sl false 4 (List.map (GNode.enc false) g0.p.Nodes),.sl false 5 (List.map (GFn.enc false) g0.p.Fns),vi g0.fn,.dead,vb g0.bad])]] [[],[],[1],[1,2],[1,2,3],[],[5],[],[5,6,7],[5,6,7,8],[5,6,7,8,9],[],[5,6,7,8,9,10,11],[5,6,7,8,9,10,11,12],[5,6,7,8,9,10,11,12,13],[5,6,7,8,9,10,11,12,13,14],[1,2,3,4,5,6,7,8,9,10,11,12,13,14,15],[0,1,2,3,4,5,6,7,8,9,10,11,12,13,14,15,16],[0,1,2,3,4,5,6,7,8,9,10,11,12,13,14,15,16,17],[0,1,2,3,4,5,6,7,8,9,10,11,12,13,14,15,16,17,18]] rfl (by simp) rfl rfl rfl ?_ fun K z=>?_
       ·refine ⟨?_,?_,?_,?_,?_,?_,?_,?_,?_,?_,?_,?_,?_,?_,?_,?_,?_,trivial⟩
        ·intro D d0 g1 g2 gc
         have p2_1:D 2=true→D 1=true:=fun h=>gc 2 1 h (by simp) (by simp)
         have p3_2:D 3=true→D 2=true:=fun h=>gc 3 2 h (by simp) (by simp)
         have p4_3:D 4=true→D 3=true:=fun h=>gc 4 3 h (by simp) (by simp)
         have p6_5:D 6=true→D 5=true:=fun h=>gc 6 5 h (by simp) (by simp)
         have p8_6:D 8=true→D 6=true:=fun h=>gc 8 6 h (by simp) (by simp)
         have p8_7:D 8=true→D 7=true:=fun h=>gc 8 7 h (by simp) (by simp)
         have p9_8:D 9=true→D 8=true:=fun h=>gc 9 8 h (by simp) (by simp)
         have p10_9:D 10=true→D 9=true:=fun h=>gc 10 9 h (by simp) (by simp)
         have p12_10:D 12=true→D 10=true:=fun h=>gc 12 10 h (by simp) (by simp)
         have p12_11:D 12=true→D 11=true:=fun h=>gc 12 11 h (by simp) (by simp)
         have p13_12:D 13=true→D 12=true:=fun h=>gc 13 12 h (by simp) (by simp)
         have p14_13:D 14=true→D 13=true:=fun h=>gc 14 13 h (by simp) (by simp)
         have p15_14:D 15=true→D 14=true:=fun h=>gc 15 14 h (by simp) (by simp)
         have p16_4:D 16=true→D 4=true:=fun h=>gc 16 4 h (by simp) (by simp)
         have p16_15:D 16=true→D 15=true:=fun h=>gc 16 15 h (by simp) (by simp)
         cases d1:D 1<;>cases d2:D 2<;>(simp [d2,d1] at p2_1)<;>cases d3:D 3<;>(simp [d3,d2] at p3_2)<;>cases d4:D 4<;>(simp [d4,d3] at p4_3)<;>cases d5:D 5<;>cases d6:D 6<;>(simp [d6,d5] at p6_5)<;>cases d7:D 7<;>cases d8:D 8<;>(simp [d8,d6] at p8_6)<;>(simp [d8,d7] at p8_7)<;>cases d9:D 9<;>(simp [d9,d8] at p9_8)<;>cases b2:D 10<;>(simp [b2,d9] at p10_9)<;>cases b7:D 11<;>cases b1:D 12<;>(simp [b1,b2] at p12_10)<;>(simp [b1,b7] at p12_11)<;>cases b3:D 13<;>(simp [b3,b1] at p13_12)<;>cases b4:D 14<;>(simp [b4,b3] at p14_13)<;>cases b6:D 15<;>(simp [b6,b4] at p15_14)<;>cases b8:D 16<;>(simp [b8,d4] at p16_4)<;>(simp [b8,b6] at p16_15)<;>(intro K z;simp [jT,oM,hJ,fQ,jQ,d0,d1,d2,d3,d4,d5,d6,d7,d8,d9,b2,b7,b1,b3,b4,b6,b8] at z ⊢;refine wC rfl fun K' r=>?_;simp [q,a3,a4,a5,a6,a7,a8,a9,b0,a0,a1,a2];refine r _ (wN ?_);first | exact z | simpa [a3,a4,a5,a6,a7,a8,a9,b0,a0,a1,a2] using z)
        ·intro D d1 g1 g2 gc
         have d2:D 2=false:=g2 2 (by simp) (by simp)
         have d3:D 3=false:=g2 3 (by simp) (by simp)
         have d4:D 4=false:=g2 4 (by simp) (by simp)
         have b8:D 16=false:=g2 16 (by simp) (by simp)
         have p6_5:D 6=true→D 5=true:=fun h=>gc 6 5 h (by simp) (by simp)
         have p8_6:D 8=true→D 6=true:=fun h=>gc 8 6 h (by simp) (by simp)
         have p8_7:D 8=true→D 7=true:=fun h=>gc 8 7 h (by simp) (by simp)
         have p9_8:D 9=true→D 8=true:=fun h=>gc 9 8 h (by simp) (by simp)
         have p10_9:D 10=true→D 9=true:=fun h=>gc 10 9 h (by simp) (by simp)
         have p12_10:D 12=true→D 10=true:=fun h=>gc 12 10 h (by simp) (by simp)
         have p12_11:D 12=true→D 11=true:=fun h=>gc 12 11 h (by simp) (by simp)
         have p13_12:D 13=true→D 12=true:=fun h=>gc 13 12 h (by simp) (by simp)
         have p14_13:D 14=true→D 13=true:=fun h=>gc 14 13 h (by simp) (by simp)
         have p15_14:D 15=true→D 14=true:=fun h=>gc 15 14 h (by simp) (by simp)
         cases d0:D 0<;>cases d5:D 5<;>cases d6:D 6<;>(simp [d6,d5] at p6_5)<;>cases d7:D 7<;>cases d8:D 8<;>(simp [d8,d6] at p8_6)<;>(simp [d8,d7] at p8_7)<;>cases d9:D 9<;>(simp [d9,d8] at p9_8)<;>cases b2:D 10<;>(simp [b2,d9] at p10_9)<;>cases b7:D 11<;>cases b1:D 12<;>(simp [b1,b2] at p12_10)<;>(simp [b1,b7] at p12_11)<;>cases b3:D 13<;>(simp [b3,b1] at p13_12)<;>cases b4:D 14<;>(simp [b4,b3] at p14_13)<;>cases b6:D 15<;>(simp [b6,b4] at p15_14)<;>(intro K z;simp [jT,oM,hJ,fQ,jQ,d0,d1,d2,d3,d4,d5,d6,d7,d8,d9,b2,b7,b1,b3,b4,b6,b8] at z ⊢;refine wC rfl fun K' r=>?_;simp [q,a3,a4,a5,a6,a7,a8,a9,b0,a0,a1,a2];refine r _ (wN ?_);first | exact z | simpa [a3,a4,a5,a6,a7,a8,a9,b0,a0,a1,a2] using z)
        ·intro D d2 g1 g2 gc
         have d1:D 1=true:=g1 1 (by simp)
         have d3:D 3=false:=g2 3 (by simp) (by simp)
         have d4:D 4=false:=g2 4 (by simp) (by simp)
         have b8:D 16=false:=g2 16 (by simp) (by simp)
         have p6_5:D 6=true→D 5=true:=fun h=>gc 6 5 h (by simp) (by simp)
         have p8_6:D 8=true→D 6=true:=fun h=>gc 8 6 h (by simp) (by simp)
         have p8_7:D 8=true→D 7=true:=fun h=>gc 8 7 h (by simp) (by simp)
         have p9_8:D 9=true→D 8=true:=fun h=>gc 9 8 h (by simp) (by simp)
         have p10_9:D 10=true→D 9=true:=fun h=>gc 10 9 h (by simp) (by simp)
         have p12_10:D 12=true→D 10=true:=fun h=>gc 12 10 h (by simp) (by simp)
         have p12_11:D 12=true→D 11=true:=fun h=>gc 12 11 h (by simp) (by simp)
         have p13_12:D 13=true→D 12=true:=fun h=>gc 13 12 h (by simp) (by simp)
         have p14_13:D 14=true→D 13=true:=fun h=>gc 14 13 h (by simp) (by simp)
         have p15_14:D 15=true→D 14=true:=fun h=>gc 15 14 h (by simp) (by simp)
         cases d0:D 0<;>cases d5:D 5<;>cases d6:D 6<;>(simp [d6,d5] at p6_5)<;>cases d7:D 7<;>cases d8:D 8<;>(simp [d8,d6] at p8_6)<;>(simp [d8,d7] at p8_7)<;>cases d9:D 9<;>(simp [d9,d8] at p9_8)<;>cases b2:D 10<;>(simp [b2,d9] at p10_9)<;>cases b7:D 11<;>cases b1:D 12<;>(simp [b1,b2] at p12_10)<;>(simp [b1,b7] at p12_11)<;>cases b3:D 13<;>(simp [b3,b1] at p13_12)<;>cases b4:D 14<;>(simp [b4,b3] at p14_13)<;>cases b6:D 15<;>(simp [b6,b4] at p15_14)<;>(intro K z;simp [jT,oM,hJ,fQ,jQ,d0,d1,d2,d3,d4,d5,d6,d7,d8,d9,b2,b7,b1,b3,b4,b6,b8] at z ⊢;refine wC rfl fun K' r=>?_;simp [q,a3,a4,a5,a6,a7,a8,a9,b0,a0,a1,a2];refine r _ (wN ?_);first | exact z | simpa [a3,a4,a5,a6,a7,a8,a9,b0,a0,a1,a2] using z)
        ·intro D d3 g1 g2 gc
         have d1:D 1=true:=g1 1 (by simp)
         have d2:D 2=true:=g1 2 (by simp)
         have d4:D 4=false:=g2 4 (by simp) (by simp)
         have b8:D 16=false:=g2 16 (by simp) (by simp)
         have p6_5:D 6=true→D 5=true:=fun h=>gc 6 5 h (by simp) (by simp)
         have p8_6:D 8=true→D 6=true:=fun h=>gc 8 6 h (by simp) (by simp)
         have p8_7:D 8=true→D 7=true:=fun h=>gc 8 7 h (by simp) (by simp)
         have p9_8:D 9=true→D 8=true:=fun h=>gc 9 8 h (by simp) (by simp)
         have p10_9:D 10=true→D 9=true:=fun h=>gc 10 9 h (by simp) (by simp)
         have p12_10:D 12=true→D 10=true:=fun h=>gc 12 10 h (by simp) (by simp)
         have p12_11:D 12=true→D 11=true:=fun h=>gc 12 11 h (by simp) (by simp)
         have p13_12:D 13=true→D 12=true:=fun h=>gc 13 12 h (by simp) (by simp)
         have p14_13:D 14=true→D 13=true:=fun h=>gc 14 13 h (by simp) (by simp)
         have p15_14:D 15=true→D 14=true:=fun h=>gc 15 14 h (by simp) (by simp)
         cases d0:D 0<;>cases d5:D 5<;>cases d6:D 6<;>(simp [d6,d5] at p6_5)<;>cases d7:D 7<;>cases d8:D 8<;>(simp [d8,d6] at p8_6)<;>(simp [d8,d7] at p8_7)<;>cases d9:D 9<;>(simp [d9,d8] at p9_8)<;>cases b2:D 10<;>(simp [b2,d9] at p10_9)<;>cases b7:D 11<;>cases b1:D 12<;>(simp [b1,b2] at p12_10)<;>(simp [b1,b7] at p12_11)<;>cases b3:D 13<;>(simp [b3,b1] at p13_12)<;>cases b4:D 14<;>(simp [b4,b3] at p14_13)<;>cases b6:D 15<;>(simp [b6,b4] at p15_14)<;>(intro K z;simp [jT,oM,hJ,fQ,jQ,d0,d1,d2,d3,d4,d5,d6,d7,d8,d9,b2,b7,b1,b3,b4,b6,b8] at z ⊢;refine wC rfl fun K' r=>?_;simp [q,a3,a4,a5,a6,a7,a8,a9,b0,a0,a1,a2];refine r _ (wN ?_);first | exact z | simpa [a3,a4,a5,a6,a7,a8,a9,b0,a0,a1,a2] using z)
        ·intro D d4 g1 g2 gc
         have d1:D 1=true:=g1 1 (by simp)
         have d2:D 2=true:=g1 2 (by simp)
         have d3:D 3=true:=g1 3 (by simp)
         have b8:D 16=false:=g2 16 (by simp) (by simp)
         have p6_5:D 6=true→D 5=true:=fun h=>gc 6 5 h (by simp) (by simp)
         have p8_6:D 8=true→D 6=true:=fun h=>gc 8 6 h (by simp) (by simp)
         have p8_7:D 8=true→D 7=true:=fun h=>gc 8 7 h (by simp) (by simp)
         have p9_8:D 9=true→D 8=true:=fun h=>gc 9 8 h (by simp) (by simp)
         have p10_9:D 10=true→D 9=true:=fun h=>gc 10 9 h (by simp) (by simp)
         have p12_10:D 12=true→D 10=true:=fun h=>gc 12 10 h (by simp) (by simp)
         have p12_11:D 12=true→D 11=true:=fun h=>gc 12 11 h (by simp) (by simp)
         have p13_12:D 13=true→D 12=true:=fun h=>gc 13 12 h (by simp) (by simp)
         have p14_13:D 14=true→D 13=true:=fun h=>gc 14 13 h (by simp) (by simp)
         have p15_14:D 15=true→D 14=true:=fun h=>gc 15 14 h (by simp) (by simp)
         cases d0:D 0<;>cases d5:D 5<;>cases d6:D 6<;>(simp [d6,d5] at p6_5)<;>cases d7:D 7<;>cases d8:D 8<;>(simp [d8,d6] at p8_6)<;>(simp [d8,d7] at p8_7)<;>cases d9:D 9<;>(simp [d9,d8] at p9_8)<;>cases b2:D 10<;>(simp [b2,d9] at p10_9)<;>cases b7:D 11<;>cases b1:D 12<;>(simp [b1,b2] at p12_10)<;>(simp [b1,b7] at p12_11)<;>cases b3:D 13<;>(simp [b3,b1] at p13_12)<;>cases b4:D 14<;>(simp [b4,b3] at p14_13)<;>cases b6:D 15<;>(simp [b6,b4] at p15_14)<;>(intro K z;simp [jT,oM,hJ,fQ,jQ,d0,d1,d2,d3,d4,d5,d6,d7,d8,d9,b2,b7,b1,b3,b4,b6,b8] at z ⊢;refine wC rfl fun K' r=>?_;simp [q,a3,a4,a5,a6,a7,a8,a9,b0,a0,a1,a2];refine r _ (wN ?_);first | exact z | simpa [a3,a4,a5,a6,a7,a8,a9,b0,a0,a1,a2] using z)
        ·intro D d5 g1 g2 gc
         have d6:D 6=false:=g2 6 (by simp) (by simp)
         have d8:D 8=false:=g2 8 (by simp) (by simp)
         have d9:D 9=false:=g2 9 (by simp) (by simp)
         have b2:D 10=false:=g2 10 (by simp) (by simp)
         have b1:D 12=false:=g2 12 (by simp) (by simp)
         have b3:D 13=false:=g2 13 (by simp) (by simp)
         have b4:D 14=false:=g2 14 (by simp) (by simp)
         have b6:D 15=false:=g2 15 (by simp) (by simp)
         have b8:D 16=false:=g2 16 (by simp) (by simp)
         have p2_1:D 2=true→D 1=true:=fun h=>gc 2 1 h (by simp) (by simp)
         have p3_2:D 3=true→D 2=true:=fun h=>gc 3 2 h (by simp) (by simp)
         have p4_3:D 4=true→D 3=true:=fun h=>gc 4 3 h (by simp) (by simp)
         cases d0:D 0<;>cases d1:D 1<;>cases d2:D 2<;>(simp [d2,d1] at p2_1)<;>cases d3:D 3<;>(simp [d3,d2] at p3_2)<;>cases d4:D 4<;>(simp [d4,d3] at p4_3)<;>cases d7:D 7<;>cases b7:D 11<;>(intro K z;simp [jT,oM,hJ,fQ,jQ,d0,d1,d2,d3,d4,d5,d6,d7,d8,d9,b2,b7,b1,b3,b4,b6,b8] at z ⊢;refine wC rfl fun K' r=>?_;simp [q,a3,a4,a5,a6,a7,a8,a9,b0,a0,a1,a2];refine r _ (wN ?_);first | exact z | simpa [a3,a4,a5,a6,a7,a8,a9,b0,a0,a1,a2] using z)
        ·intro D d6 g1 g2 gc
         have d5:D 5=true:=g1 5 (by simp)
         have d8:D 8=false:=g2 8 (by simp) (by simp)
         have d9:D 9=false:=g2 9 (by simp) (by simp)
         have b2:D 10=false:=g2 10 (by simp) (by simp)
         have b1:D 12=false:=g2 12 (by simp) (by simp)
         have b3:D 13=false:=g2 13 (by simp) (by simp)
         have b4:D 14=false:=g2 14 (by simp) (by simp)
         have b6:D 15=false:=g2 15 (by simp) (by simp)
         have b8:D 16=false:=g2 16 (by simp) (by simp)
         have p2_1:D 2=true→D 1=true:=fun h=>gc 2 1 h (by simp) (by simp)
         have p3_2:D 3=true→D 2=true:=fun h=>gc 3 2 h (by simp) (by simp)
         have p4_3:D 4=true→D 3=true:=fun h=>gc 4 3 h (by simp) (by simp)
         cases d0:D 0<;>cases d1:D 1<;>cases d2:D 2<;>(simp [d2,d1] at p2_1)<;>cases d3:D 3<;>(simp [d3,d2] at p3_2)<;>cases d4:D 4<;>(simp [d4,d3] at p4_3)<;>cases d7:D 7<;>cases b7:D 11<;>(intro K z;simp [jT,oM,hJ,fQ,jQ,d0,d1,d2,d3,d4,d5,d6,d7,d8,d9,b2,b7,b1,b3,b4,b6,b8] at z ⊢;refine wC rfl fun K' r=>?_;simp [q,a3,a4,a5,a6,a7,a8,a9,b0,a0,a1,a2];refine r _ (wN ?_);first | exact z | simpa [a3,a4,a5,a6,a7,a8,a9,b0,a0,a1,a2] using z)
        ·intro D d7 g1 g2 gc
         have d8:D 8=false:=g2 8 (by simp) (by simp)
         have d9:D 9=false:=g2 9 (by simp) (by simp)
         have b2:D 10=false:=g2 10 (by simp) (by simp)
         have b1:D 12=false:=g2 12 (by simp) (by simp)
         have b3:D 13=false:=g2 13 (by simp) (by simp)
         have b4:D 14=false:=g2 14 (by simp) (by simp)
         have b6:D 15=false:=g2 15 (by simp) (by simp)
         have b8:D 16=false:=g2 16 (by simp) (by simp)
         have p2_1:D 2=true→D 1=true:=fun h=>gc 2 1 h (by simp) (by simp)
         have p3_2:D 3=true→D 2=true:=fun h=>gc 3 2 h (by simp) (by simp)
         have p4_3:D 4=true→D 3=true:=fun h=>gc 4 3 h (by simp) (by simp)
         have p6_5:D 6=true→D 5=true:=fun h=>gc 6 5 h (by simp) (by simp)
         cases d0:D 0<;>cases d1:D 1<;>cases d2:D 2<;>(simp [d2,d1] at p2_1)<;>cases d3:D 3<;>(simp [d3,d2] at p3_2)<;>cases d4:D 4<;>(simp [d4,d3] at p4_3)<;>cases d5:D 5<;>cases d6:D 6<;>(simp [d6,d5] at p6_5)<;>cases b7:D 11<;>(intro K z;simp [jT,oM,hJ,fQ,jQ,d0,d1,d2,d3,d4,d5,d6,d7,d8,d9,b2,b7,b1,b3,b4,b6,b8] at z ⊢;refine wC rfl fun K' r=>?_;simp [q,a3,a4,a5,a6,a7,a8,a9,b0,a0,a1,a2];refine r _ (wN ?_);first | exact z | simpa [a3,a4,a5,a6,a7,a8,a9,b0,a0,a1,a2] using z)
        ·intro D d8 g1 g2 gc
         have d5:D 5=true:=g1 5 (by simp)
         have d6:D 6=true:=g1 6 (by simp)
         have d7:D 7=true:=g1 7 (by simp)
         have d9:D 9=false:=g2 9 (by simp) (by simp)
         have b2:D 10=false:=g2 10 (by simp) (by simp)
         have b1:D 12=false:=g2 12 (by simp) (by simp)
         have b3:D 13=false:=g2 13 (by simp) (by simp)
         have b4:D 14=false:=g2 14 (by simp) (by simp)
         have b6:D 15=false:=g2 15 (by simp) (by simp)
         have b8:D 16=false:=g2 16 (by simp) (by simp)
         have p2_1:D 2=true→D 1=true:=fun h=>gc 2 1 h (by simp) (by simp)
         have p3_2:D 3=true→D 2=true:=fun h=>gc 3 2 h (by simp) (by simp)
         have p4_3:D 4=true→D 3=true:=fun h=>gc 4 3 h (by simp) (by simp)
         cases d0:D 0<;>cases d1:D 1<;>cases d2:D 2<;>(simp [d2,d1] at p2_1)<;>cases d3:D 3<;>(simp [d3,d2] at p3_2)<;>cases d4:D 4<;>(simp [d4,d3] at p4_3)<;>cases b7:D 11<;>(intro K z;simp [jT,oM,hJ,fQ,jQ,d0,d1,d2,d3,d4,d5,d6,d7,d8,d9,b2,b7,b1,b3,b4,b6,b8] at z ⊢;refine wC rfl fun K' r=>?_;simp [q,a3,a4,a5,a6,a7,a8,a9,b0,a0,a1,a2];refine r _ (wN ?_);first | exact z | simpa [a3,a4,a5,a6,a7,a8,a9,b0,a0,a1,a2] using z)
        ·intro D d9 g1 g2 gc
         have d5:D 5=true:=g1 5 (by simp)
         have d6:D 6=true:=g1 6 (by simp)
         have d7:D 7=true:=g1 7 (by simp)
         have d8:D 8=true:=g1 8 (by simp)
         have b2:D 10=false:=g2 10 (by simp) (by simp)
         have b1:D 12=false:=g2 12 (by simp) (by simp)
         have b3:D 13=false:=g2 13 (by simp) (by simp)
         have b4:D 14=false:=g2 14 (by simp) (by simp)
         have b6:D 15=false:=g2 15 (by simp) (by simp)
         have b8:D 16=false:=g2 16 (by simp) (by simp)
         have p2_1:D 2=true→D 1=true:=fun h=>gc 2 1 h (by simp) (by simp)
         have p3_2:D 3=true→D 2=true:=fun h=>gc 3 2 h (by simp) (by simp)
         have p4_3:D 4=true→D 3=true:=fun h=>gc 4 3 h (by simp) (by simp)
         cases d0:D 0<;>cases d1:D 1<;>cases d2:D 2<;>(simp [d2,d1] at p2_1)<;>cases d3:D 3<;>(simp [d3,d2] at p3_2)<;>cases d4:D 4<;>(simp [d4,d3] at p4_3)<;>cases b7:D 11<;>(intro K z;simp [jT,oM,hJ,fQ,jQ,d0,d1,d2,d3,d4,d5,d6,d7,d8,d9,b2,b7,b1,b3,b4,b6,b8] at z ⊢;refine wC rfl fun K' r=>?_;simp [q,a3,a4,a5,a6,a7,a8,a9,b0,a0,a1,a2];refine r _ (wN ?_);first | exact z | simpa [a3,a4,a5,a6,a7,a8,a9,b0,a0,a1,a2] using z)
        ·intro D b2 g1 g2 gc
         have d5:D 5=true:=g1 5 (by simp)
         have d6:D 6=true:=g1 6 (by simp)
         have d7:D 7=true:=g1 7 (by simp)
         have d8:D 8=true:=g1 8 (by simp)
         have d9:D 9=true:=g1 9 (by simp)
         have b1:D 12=false:=g2 12 (by simp) (by simp)
         have b3:D 13=false:=g2 13 (by simp) (by simp)
         have b4:D 14=false:=g2 14 (by simp) (by simp)
         have b6:D 15=false:=g2 15 (by simp) (by simp)
         have b8:D 16=false:=g2 16 (by simp) (by simp)
         have p2_1:D 2=true→D 1=true:=fun h=>gc 2 1 h (by simp) (by simp)
         have p3_2:D 3=true→D 2=true:=fun h=>gc 3 2 h (by simp) (by simp)
         have p4_3:D 4=true→D 3=true:=fun h=>gc 4 3 h (by simp) (by simp)
         cases d0:D 0<;>cases d1:D 1<;>cases d2:D 2<;>(simp [d2,d1] at p2_1)<;>cases d3:D 3<;>(simp [d3,d2] at p3_2)<;>cases d4:D 4<;>(simp [d4,d3] at p4_3)<;>cases b7:D 11<;>(intro K z;simp [jT,oM,hJ,fQ,jQ,d0,d1,d2,d3,d4,d5,d6,d7,d8,d9,b2,b7,b1,b3,b4,b6,b8] at z ⊢;refine wC rfl fun K' r=>?_;simp [q,a3,a4,a5,a6,a7,a8,a9,b0,a0,a1,a2];refine r _ (wN ?_);first | exact z | simpa [a3,a4,a5,a6,a7,a8,a9,b0,a0,a1,a2] using z)
        ·intro D b7 g1 g2 gc
         have b1:D 12=false:=g2 12 (by simp) (by simp)
         have b3:D 13=false:=g2 13 (by simp) (by simp)
         have b4:D 14=false:=g2 14 (by simp) (by simp)
         have b6:D 15=false:=g2 15 (by simp) (by simp)
         have b8:D 16=false:=g2 16 (by simp) (by simp)
         have p2_1:D 2=true→D 1=true:=fun h=>gc 2 1 h (by simp) (by simp)
         have p3_2:D 3=true→D 2=true:=fun h=>gc 3 2 h (by simp) (by simp)
         have p4_3:D 4=true→D 3=true:=fun h=>gc 4 3 h (by simp) (by simp)
         have p6_5:D 6=true→D 5=true:=fun h=>gc 6 5 h (by simp) (by simp)
         have p8_6:D 8=true→D 6=true:=fun h=>gc 8 6 h (by simp) (by simp)
         have p8_7:D 8=true→D 7=true:=fun h=>gc 8 7 h (by simp) (by simp)
         have p9_8:D 9=true→D 8=true:=fun h=>gc 9 8 h (by simp) (by simp)
         have p10_9:D 10=true→D 9=true:=fun h=>gc 10 9 h (by simp) (by simp)
         cases d0:D 0<;>cases d1:D 1<;>cases d2:D 2<;>(simp [d2,d1] at p2_1)<;>cases d3:D 3<;>(simp [d3,d2] at p3_2)<;>cases d4:D 4<;>(simp [d4,d3] at p4_3)<;>cases d5:D 5<;>cases d6:D 6<;>(simp [d6,d5] at p6_5)<;>cases d7:D 7<;>cases d8:D 8<;>(simp [d8,d6] at p8_6)<;>(simp [d8,d7] at p8_7)<;>cases d9:D 9<;>(simp [d9,d8] at p9_8)<;>cases b2:D 10<;>(simp [b2,d9] at p10_9)<;>(intro K z;simp [jT,oM,hJ,fQ,jQ,d0,d1,d2,d3,d4,d5,d6,d7,d8,d9,b2,b7,b1,b3,b4,b6,b8] at z ⊢;refine wC rfl fun K' r=>?_;simp [q,a3,a4,a5,a6,a7,a8,a9,b0,a0,a1,a2];refine r _ (wN ?_);first | exact z | simpa [a3,a4,a5,a6,a7,a8,a9,b0,a0,a1,a2] using z)
        ·intro D b1 g1 g2 gc
         have d5:D 5=true:=g1 5 (by simp)
         have d6:D 6=true:=g1 6 (by simp)
         have d7:D 7=true:=g1 7 (by simp)
         have d8:D 8=true:=g1 8 (by simp)
         have d9:D 9=true:=g1 9 (by simp)
         have b2:D 10=true:=g1 10 (by simp)
         have b7:D 11=true:=g1 11 (by simp)
         have b3:D 13=false:=g2 13 (by simp) (by simp)
         have b4:D 14=false:=g2 14 (by simp) (by simp)
         have b6:D 15=false:=g2 15 (by simp) (by simp)
         have b8:D 16=false:=g2 16 (by simp) (by simp)
         have p2_1:D 2=true→D 1=true:=fun h=>gc 2 1 h (by simp) (by simp)
         have p3_2:D 3=true→D 2=true:=fun h=>gc 3 2 h (by simp) (by simp)
         have p4_3:D 4=true→D 3=true:=fun h=>gc 4 3 h (by simp) (by simp)
         cases d0:D 0<;>cases d1:D 1<;>cases d2:D 2<;>(simp [d2,d1] at p2_1)<;>cases d3:D 3<;>(simp [d3,d2] at p3_2)<;>cases d4:D 4<;>(simp [d4,d3] at p4_3)<;>(intro K z;simp [jT,oM,hJ,fQ,jQ,d0,d1,d2,d3,d4,d5,d6,d7,d8,d9,b2,b7,b1,b3,b4,b6,b8] at z ⊢;refine wC rfl fun K' r=>?_;simp [q,a3,a4,a5,a6,a7,a8,a9,b0,a0,a1,a2];refine r _ (wN ?_);first | exact z | simpa [a3,a4,a5,a6,a7,a8,a9,b0,a0,a1,a2] using z)
        ·intro D b3 g1 g2 gc
         have d5:D 5=true:=g1 5 (by simp)
         have d6:D 6=true:=g1 6 (by simp)
         have d7:D 7=true:=g1 7 (by simp)
         have d8:D 8=true:=g1 8 (by simp)
         have d9:D 9=true:=g1 9 (by simp)
         have b2:D 10=true:=g1 10 (by simp)
         have b7:D 11=true:=g1 11 (by simp)
         have b1:D 12=true:=g1 12 (by simp)
         have b4:D 14=false:=g2 14 (by simp) (by simp)
         have b6:D 15=false:=g2 15 (by simp) (by simp)
         have b8:D 16=false:=g2 16 (by simp) (by simp)
         have p2_1:D 2=true→D 1=true:=fun h=>gc 2 1 h (by simp) (by simp)
         have p3_2:D 3=true→D 2=true:=fun h=>gc 3 2 h (by simp) (by simp)
         have p4_3:D 4=true→D 3=true:=fun h=>gc 4 3 h (by simp) (by simp)
         cases d0:D 0<;>cases d1:D 1<;>cases d2:D 2<;>(simp [d2,d1] at p2_1)<;>cases d3:D 3<;>(simp [d3,d2] at p3_2)<;>cases d4:D 4<;>(simp [d4,d3] at p4_3)<;>(intro K z;simp [jT,oM,hJ,fQ,jQ,d0,d1,d2,d3,d4,d5,d6,d7,d8,d9,b2,b7,b1,b3,b4,b6,b8] at z ⊢;refine wC rfl fun K' r=>?_;simp [q,a3,a4,a5,a6,a7,a8,a9,b0,a0,a1,a2];refine r _ (wN ?_);first | exact z | simpa [a3,a4,a5,a6,a7,a8,a9,b0,a0,a1,a2] using z)
        ·intro D b4 g1 g2 gc
         have d5:D 5=true:=g1 5 (by simp)
         have d6:D 6=true:=g1 6 (by simp)
         have d7:D 7=true:=g1 7 (by simp)
         have d8:D 8=true:=g1 8 (by simp)
         have d9:D 9=true:=g1 9 (by simp)
         have b2:D 10=true:=g1 10 (by simp)
         have b7:D 11=true:=g1 11 (by simp)
         have b1:D 12=true:=g1 12 (by simp)
         have b3:D 13=true:=g1 13 (by simp)
         have b6:D 15=false:=g2 15 (by simp) (by simp)
         have b8:D 16=false:=g2 16 (by simp) (by simp)
         have p2_1:D 2=true→D 1=true:=fun h=>gc 2 1 h (by simp) (by simp)
         have p3_2:D 3=true→D 2=true:=fun h=>gc 3 2 h (by simp) (by simp)
         have p4_3:D 4=true→D 3=true:=fun h=>gc 4 3 h (by simp) (by simp)
         cases d0:D 0<;>cases d1:D 1<;>cases d2:D 2<;>(simp [d2,d1] at p2_1)<;>cases d3:D 3<;>(simp [d3,d2] at p3_2)<;>cases d4:D 4<;>(simp [d4,d3] at p4_3)<;>(intro K z;simp [jT,oM,hJ,fQ,jQ,d0,d1,d2,d3,d4,d5,d6,d7,d8,d9,b2,b7,b1,b3,b4,b6,b8] at z ⊢;refine wC rfl fun K' r=>?_;simp [q,a3,a4,a5,a6,a7,a8,a9,b0,a0,a1,a2];refine r _ (wN ?_);first | exact z | simpa [a3,a4,a5,a6,a7,a8,a9,b0,a0,a1,a2] using z)
        ·intro D b6 g1 g2 gc
         have d5:D 5=true:=g1 5 (by simp)
         have d6:D 6=true:=g1 6 (by simp)
         have d7:D 7=true:=g1 7 (by simp)
         have d8:D 8=true:=g1 8 (by simp)
         have d9:D 9=true:=g1 9 (by simp)
         have b2:D 10=true:=g1 10 (by simp)
         have b7:D 11=true:=g1 11 (by simp)
         have b1:D 12=true:=g1 12 (by simp)
         have b3:D 13=true:=g1 13 (by simp)
         have b4:D 14=true:=g1 14 (by simp)
         have b8:D 16=false:=g2 16 (by simp) (by simp)
         have p2_1:D 2=true→D 1=true:=fun h=>gc 2 1 h (by simp) (by simp)
         have p3_2:D 3=true→D 2=true:=fun h=>gc 3 2 h (by simp) (by simp)
         have p4_3:D 4=true→D 3=true:=fun h=>gc 4 3 h (by simp) (by simp)
         cases d0:D 0<;>cases d1:D 1<;>cases d2:D 2<;>(simp [d2,d1] at p2_1)<;>cases d3:D 3<;>(simp [d3,d2] at p3_2)<;>cases d4:D 4<;>(simp [d4,d3] at p4_3)<;>(intro K z;simp [jT,oM,hJ,fQ,jQ,d0,d1,d2,d3,d4,d5,d6,d7,d8,d9,b2,b7,b1,b3,b4,b6,b8] at z ⊢;refine wC rfl fun K' r=>?_;simp [q,a3,a4,a5,a6,a7,a8,a9,b0,a0,a1,a2];refine r _ (wN ?_);first | exact z | simpa [a3,a4,a5,a6,a7,a8,a9,b0,a0,a1,a2] using z)
        ·intro D b8 g1 g2 gc
         have d1:D 1=true:=g1 1 (by simp)
         have d2:D 2=true:=g1 2 (by simp)
         have d3:D 3=true:=g1 3 (by simp)
         have d4:D 4=true:=g1 4 (by simp)
         have d5:D 5=true:=g1 5 (by simp)
         have d6:D 6=true:=g1 6 (by simp)
         have d7:D 7=true:=g1 7 (by simp)
         have d8:D 8=true:=g1 8 (by simp)
         have d9:D 9=true:=g1 9 (by simp)
         have b2:D 10=true:=g1 10 (by simp)
         have b7:D 11=true:=g1 11 (by simp)
         have b1:D 12=true:=g1 12 (by simp)
         have b3:D 13=true:=g1 13 (by simp)
         have b4:D 14=true:=g1 14 (by simp)
         have b6:D 15=true:=g1 15 (by simp)
         cases d0:D 0<;>(intro K z;simp [jT,oM,hJ,fQ,jQ,d0,d1,d2,d3,d4,d5,d6,d7,d8,d9,b2,b7,b1,b3,b4,b6,b8] at z ⊢;refine wC rfl fun K' r=>?_;simp [q,a3,a4,a5,a6,a7,a8,a9,b0,a0,a1,a2];refine r _ (wN ?_);first | exact z | simpa [a3,a4,a5,a6,a7,a8,a9,b0,a0,a1,a2] using z)
       simp [jT,oM,fQ,jQ]
       iterate 3 (refine wC rfl fun K n=>?_;simp [q,a3,a4,a5,a6,a7,a8,a9,b0,a0,a1,a2];apply n)
       apply wN;apply z
       refine O.zG w fun K z=>?_
       iterate 3 (refine wC rfl fun K n=>?_;simp [q];apply n)
       apply wN;apply z
       cases c1
       exact ⟨_,[],rfl,by simp [q]⟩
      ·refine O.cF' (by simp) j2 ?_
       refine O.exit ?_
       have l9:=congrArg some (i8 _ (Option.some.inj c1).symm)
       cases l9
       exact i7 _ () [] trivial (by simp [q])
     refine O.freezeB 39 3 fun K n=>?_;simp [q];apply n
     refine O.zR w fun K z=>?_
     iterate 4 (refine wC rfl fun K n=>?_;simp [q];apply n)
     obtain ⟨n2,j6,b5⟩:=bS b5
     obtain ⟨c8,c9,e0,e1⟩:=gS j6
     iterate 3 (refine wC rfl fun K n=>?_;simp [q,c8,c9,e0,e1];apply n)
     obtain ⟨n3,j7,b5⟩:=bS b5
     refine wL [((.ptr 5),.tmp 70),(.take,.tmp 76)] rfl rfl ent48 (pQ _ _ j7) fun K n=>?_;simp [q,c8,c9,e0,e1];apply n
     apply wN;apply z
     obtain ⟨g8,b9,b5⟩:=bS b5
     refine O.seqC [1,3,6] [1,39] (fun _:Unit=>⟨[(1,.ref (.box 1) 0 []),(3,.t (vi i9)),(6,.ref (.box 39) 0 [])],[(1,[.sl false 4 (List.map (GNode.enc false) p1.Nodes),.sl false 5 (List.map (GFn.enc false) p1.Fns)]),(39,[.sl false 4 (List.map (GNode.enc false) g8.p.Nodes),.sl false 5 (List.map (GFn.enc false) g8.p.Fns),vi g8.fn,.sl false 1 (List.map vs g8.there),vb g8.bad])]⟩) (fun _=>True) (fun _ _=>?_) fun n4 g9=>?_
     rotate_left
     ·refine O.zR w fun K z=>?_
      iterate 3 (refine wC rfl fun K n=>?_;simp [q];apply n)
      obtain ⟨n5,j9,b9⟩:=bS b9
      obtain ⟨h0,h1,h2,h3⟩:=gS j9
      iterate 4 (refine wC rfl fun K n=>?_;simp [q,h0,h1,h2,h3];apply n)
      apply wN;apply z
      rcases aA b9 with ⟨k0,b9⟩ | ⟨k1,b9⟩
      ·refine O.cT' (by simp) k0 ?_
       refine O.zG w fun K z=>?_
       iterate 4 (refine wC rfl fun K n=>?_;simp [q];apply n)
       obtain ⟨n6,k2,b9⟩:=bS b9
       obtain ⟨e2,e3,e4,e5⟩:=gS k2
       iterate 3 (refine wC rfl fun K n=>?_;simp [q,e2,e3,e4,e5];apply n)
       obtain ⟨n7,k3,b9⟩:=bS b9
       refine wL [((.ptr 5),.tmp 85),(.take,.tmp 91)] rfl rfl aOo (jY _ _ k3) fun K n=>?_;simp [q,e2,e3,e4,e5];apply n
       apply wN;apply z
       cases b9
       exact g9 _ () [] trivial (by simp [q])
      ·refine O.cF' (by simp) k1 ?_
       refine O.skip ?_
       cases b9
       exact g9 _ () [] trivial (by simp [q])
     refine O.zR w fun K z=>?_
     iterate 4 (refine wC rfl fun K n=>?_;simp [q];apply n)
     apply wN;apply z
     rcases aA b5 with ⟨k4,b5⟩ | ⟨k5,b5⟩
     ·refine O.cT' (by simp) k4 ?_
      refine O.zR w fun K z=>?_
      refine wC rfl fun K n=>?_;simp [q];apply n
      apply wN;apply z
      cases b5
      try dsimp only at c2
      have m0:=congrArg some (e6 _ (Option.some.inj c2).symm)
      cases m0
      try dsimp only at h
      cases h
      refine O.ret ?_
      simp [aC,iB,aMd]
     ·refine O.cF' (by simp) k5 ?_
      refine O.skip ?_
      cases b5
      exact h6 _ _ [] rfl (by simp [q])
    subst hv
    obtain ⟨⟩:=v
    try dsimp only at c2 ⊢
    refine O.zG w fun K z=>?_
    iterate 3 (refine wC rfl fun K n=>?_;simp [q];apply n)
    apply wN;apply z
    cases c2
    exact ⟨_,[],rfl,by simp [q]⟩
   ·refine O.cF' (by simp) h5 ?_
    refine O.exit ?_
    have m1:=congrArg some (e6 _ (Option.some.inj c2).symm)
    cases m1
    exact l2 _ _ [] rfl (by simp [q])
  subst hv
  obtain ⟨⟩:=v
  try dsimp only at h ⊢
  refine O.zR w fun K z=>?_
  refine wC rfl fun K n=>?_;simp [q];apply n
  apply wN;apply z
  cases h
  refine O.ret ?_
  simp [aC,iB,aMd]
theorem res59:Tryz.f59.results.toList=[.tmp 2]:=rfl
theorem ent59:aF E.P 59:=eO Tryz.func59 (by simp [Tryz.f59]) rfl
theorem vT (a0:List GNode) {r0:List GNode} (h:iR a0=some r0):Ok E 59 [.val (.sl false 4 (List.map (GNode.enc false) a0))] [.sl true 4 (List.map (GNode.enc true) r0)] []:=by
 refine oB Tryz.func59 rfl (by simp [Tryz.f59]) fun C (q:C.N=27) hP=>?_
 have y:=aL hP
 unfold iR at h
 refine O.zR y fun K u=>?_
 refine wC rfl fun K w=>?_;simp [q];apply w
 apply wN;apply u
 refine O.zR y fun K u=>?_
 iterate 2 (refine wC rfl fun K w=>?_;simp [q];apply w)
 apply wN;apply u
 obtain ⟨a6,c0,h⟩:=bS h
 refine O.seqC [3] [] (fun _:Unit=>⟨[(3,.t (.sl true 4 (List.map (GNode.enc true) a6)))],[]⟩) (fun _=>True) (fun _ _=>?_) fun K3 c1=>?_
 rotate_left
 ·refine O.zR y fun K u=>?_
  refine wC rfl fun K w=>?_;simp [q];apply w
  apply wN;apply u
  refine O.block ?_
  refine O.loopO [] [0,3,4] [] (fun v:(List GNode) × Int=>⟨[(0,.t (.sl false 4 (List.map (GNode.enc false) a0))),(3,.t (.sl true 4 (List.map (GNode.enc true) v.1))),(4,.t (vi v.2))],[]⟩) (dK a0) _ ([],0) c0 (by simp [q]) ?_
  intro g s9 h7 c2
  obtain ⟨b3,i6⟩:=g
  simp only [dK] at h7
  try dsimp only
  refine O.seq ?_
  refine O.zR y fun K u=>?_
  iterate 4 (refine wC rfl fun K w=>?_;simp [q];apply w)
  apply wN;apply u
  rcases aA h7 with ⟨b4,h7⟩ | ⟨b5,h7⟩
  ·refine O.cT' (by simp) b4 ?_
   refine O.skip ?_
   refine O.seq ?_
   refine O.block ?_
   refine O.zR y fun K u=>?_
   iterate 2 (refine wC rfl fun K w=>?_;simp [q];apply w)
   obtain ⟨b2,b6,h7⟩:=bS h7
   obtain ⟨a7,a8,a9,b0⟩:=gS b6
   iterate 4 (refine wC rfl fun K w=>?_;simp [q,a7,a8,a9,b0];apply w)
   apply wN;apply u
   refine O.zR y fun K u=>?_
   iterate 3 (refine wC rfl fun K w=>?_;simp [q];apply w)
   obtain ⟨c5,b7,h7⟩:=bS h7
   obtain ⟨a1,a2,b9⟩:=aS b7
   simp [eSl] at a1 a2
   iterate 3 (refine wC rfl fun K w=>?_;simp [q,a1,a2];apply w)
   apply wN;apply u
   refine O.zG y fun K u=>?_
   iterate 3 (refine wC rfl fun K w=>?_;simp [q];apply w)
   obtain ⟨c3,b8,h7⟩:=bS h7
   obtain ⟨a3,a4,b1⟩:=aS b8
   have a5:List.map (GNode.enc true) b3 ++ List.map (GNode.enc true) [(⟨b2.Kind,b2.Num,b2.Name,b2.Kids⟩:GNode)]=List.map (GNode.enc true) c3:=dJ (f:=(GNode.enc true)) b1
   simp [eSl,GNode.enc] at a3 a4 a5
   iterate 2 (refine wC rfl fun K w=>?_;simp [q,a3,a4,a5];apply w)
   apply wN;apply u
   refine O.zG y fun K u=>?_
   iterate 3 (refine wC rfl fun K w=>?_;simp [q];apply w)
   apply wN;apply u
   cases h7
   exact ⟨_,[],rfl,by simp [q]⟩
  ·refine O.cF' (by simp) b5 ?_
   refine O.exit ?_
   have c4:=congrArg some (c2 _ (Option.some.inj h7).symm)
   cases c4
   exact c1 _ () [] trivial (by simp [q])
 refine O.zR y fun K u=>?_
 iterate 2 (refine wC rfl fun K w=>?_;simp [q];apply w)
 apply wN;apply u
 cases h
 refine O.ret ?_
 simp [aC,iB,res59]
theorem res27:Tryz.f27.results.toList=[.cell 2 31]:=rfl
theorem ent27:aF E.P 27:=eO Tryz.func27 (by simp [Tryz.f27]) rfl
theorem yC (p1:GProgram) {r0:GProgram} (h:kC p1=some r0):Ok E 27 [.val (GProgram.enc false p1)] [GProgram.enc true r0] []:=by
 refine oB Tryz.func27 rfl (by simp [Tryz.f27]) fun C (q:C.N=34) hP=>?_
 have y:=aL hP
 unfold kC at h
 refine O.zR y fun K u=>?_
 iterate 2 (refine wC rfl fun K w=>?_;simp [q];apply w)
 apply wN;apply u
 refine O.zR y fun K u=>?_
 iterate 2 (refine wC rfl fun K w=>?_;simp [q];apply w)
 obtain ⟨r2,b9,h⟩:=bS h
 refine wL [(.take,.tmp 7)] rfl rfl ent59 (vT _ b9) fun K w=>?_;simp [q];apply w
 iterate 3 (refine wC rfl fun K w=>?_;simp [q];apply w)
 apply wN;apply u
 obtain ⟨b7,c0,h⟩:=bS h
 refine O.seqC [2,3] [2,3] (fun _:Unit=>⟨[(2,.ref (.box 2) 0 []),(3,.ref (.box 3) 0 [])],[(2,[.sl true 4 [],.sl true 5 []]),(3,[.sl true 4 (List.map (GNode.enc true) b7.Nodes),.sl true 5 (List.map (GFn.enc true) b7.Fns)])]⟩) (fun _=>True) (fun _ _=>?_) fun K5 c1=>?_
 rotate_left
 ·refine O.zR y fun K u=>?_
  refine wC rfl fun K w=>?_;simp [q];apply w
  apply wN;apply u
  refine O.block ?_
  refine O.loopO [] [1,2,3,4] [1,2,3] (fun v:Int × GProgram=>⟨[(1,.ref (.box 1) 0 []),(2,.ref (.box 2) 0 []),(3,.ref (.box 3) 0 []),(4,.t (vi v.1))],[(1,[.sl false 4 (List.map (GNode.enc false) p1.Nodes),.sl false 5 (List.map (GFn.enc false) p1.Fns)]),(2,[.sl true 4 [],.sl true 5 []]),(3,[.sl true 4 (List.map (GNode.enc true) v.2.Nodes),.sl true 5 (List.map (GFn.enc true) v.2.Fns)])]⟩) (eJ p1) _ (0,(⟨r2,[]⟩:GProgram)) c0 (by simp [q]) ?_
  intro g c4 h9 b1
  obtain ⟨i7,v8⟩:=g
  simp only [eJ] at h9
  try dsimp only
  refine O.seq ?_
  refine O.zR y fun K u=>?_
  iterate 5 (refine wC rfl fun K w=>?_;simp [q];apply w)
  apply wN;apply u
  rcases aA h9 with ⟨b2,h9⟩ | ⟨b3,h9⟩
  ·refine O.cT' (by simp) b2 ?_
   refine O.skip ?_
   refine O.seq ?_
   refine O.block ?_
   refine O.zR y fun K u=>?_
   iterate 3 (refine wC rfl fun K w=>?_;simp [q];apply w)
   obtain ⟨a5,b4,h9⟩:=bS h9
   obtain ⟨a6,a7,a8,a9⟩:=gS b4
   iterate 4 (refine wC rfl fun K w=>?_;simp [q,a6,a7,a8,a9];apply w)
   apply wN;apply u
   refine O.zR y fun K u=>?_
   iterate 3 (refine wC rfl fun K w=>?_;simp [q];apply w)
   obtain ⟨c5,b5,h9⟩:=bS h9
   obtain ⟨a0,a1,b8⟩:=aS b5
   simp [eSl,GParam.enc] at a0 a1
   iterate 3 (refine wC rfl fun K w=>?_;simp [q,a0,a1];apply w)
   apply wN;apply u
   refine O.zG y fun K u=>?_
   iterate 4 (refine wC rfl fun K w=>?_;simp [q];apply w)
   obtain ⟨c2,b6,h9⟩:=bS h9
   obtain ⟨a2,a3,b0⟩:=aS b6
   have a4:List.map (GFn.enc true) v8.Fns ++ List.map (GFn.enc true) [(⟨a5.Name,a5.Params,a5.Res,a5.Body,a5.Ret⟩:GFn)]=List.map (GFn.enc true) c2:=dJ (f:=(GFn.enc true)) b0
   simp [eSl,GFn.enc] at a2 a3 a4
   iterate 3 (refine wC rfl fun K w=>?_;simp [q,a2,a3,a4];apply w)
   apply wN;apply u
   refine O.zG y fun K u=>?_
   iterate 3 (refine wC rfl fun K w=>?_;simp [q];apply w)
   apply wN;apply u
   cases h9
   exact ⟨_,[],rfl,by simp [q]⟩
  ·refine O.cF' (by simp) b3 ?_
   refine O.exit ?_
   have c3:=congrArg some (b1 _ (Option.some.inj h9).symm)
   cases c3
   exact c1 _ () [] trivial (by simp [q])
 refine O.zR y fun K u=>?_
 iterate 2 (refine wC rfl fun K w=>?_;simp [q];apply w)
 apply wN;apply u
 cases h
 refine O.ret ?_
 simp [aC,iB,res27]
theorem res73:Tryz.f73.results.toList=[.tmp 2]:=rfl
theorem ent73:aF E.P 73:=eO Tryz.func73 (by simp [Tryz.f73]) rfl
theorem uD (x1:Int) {r0:Int} (h:jU x1=some r0):Ok E 73 [.val (vi x1)] [vk .u8 r0] []:=by
 refine oB Tryz.func73 rfl (by simp [Tryz.f73]) fun C (q:C.N=12) hP=>?_
 have y:=aL hP
 unfold jU at h
 refine O.zR y fun K u=>?_
 refine wC rfl fun K v=>?_;simp [q];apply v
 apply wN;apply u
 refine O.seq ?_
 refine O.zR y fun K u=>?_
 iterate 2 (refine wC rfl fun K v=>?_;simp [q];apply v)
 apply wN;apply u
 rcases aA h with ⟨a0,h⟩ | ⟨a1,h⟩
 ·refine O.cT' (by simp) a0 ?_
  refine O.zR y fun K u=>?_
  iterate 4 (refine wC rfl fun K v=>?_;simp [q];apply v)
  apply wN;apply u
  cases h
  refine O.ret ?_
  simp [aC,iB,res73]
 ·refine O.cF' (by simp) a1 ?_
  refine O.skip ?_
  refine O.zR y fun K u=>?_
  iterate 5 (refine wC rfl fun K v=>?_;simp [q];apply v)
  apply wN;apply u
  cases h
  refine O.ret ?_
  simp [aC,iB,res73]
theorem aO4:Tryz.f37.results.toList=[.tmp 2]:=rfl
theorem ent37:aF E.P 37:=eO Tryz.func37 (by simp [Tryz.f37]) rfl
theorem pU (n1:Int) {r0:ByteArray} (h:fT n1=some r0):Ok E 37 [.val (vi n1)] [vs r0] []:=by
 refine oB Tryz.func37 rfl (by simp [Tryz.f37]) fun C (q:C.N=30) hP=>?_
 have y:=aL hP
 unfold fT at h
 refine O.zR y fun K u=>?_
 refine wC rfl fun K w=>?_;simp [q];apply w
 apply wN;apply u
 refine O.seq ?_
 refine O.zR y fun K u=>?_
 iterate 2 (refine wC rfl fun K w=>?_;simp [q];apply w)
 apply wN;apply u
 rcases aA h with ⟨b6,h⟩ | ⟨b7,h⟩
 ·refine O.cT' (by simp) b6 ?_
  refine O.zR y fun K u=>?_
  refine wC rfl fun K w=>?_;simp [q];apply w
  apply wN;apply u
  cases h
  refine O.ret ?_
  simp [aC,iB,aO4]
 ·refine O.cF' (by simp) b7 ?_
  refine O.skip ?_
  refine O.zR y fun K u=>?_
  iterate 3 (refine wC rfl fun K w=>?_;simp [q];apply w)
  apply wN;apply u
  refine O.zR y fun K u=>?_
  refine wC rfl fun K w=>?_;simp [q];apply w
  apply wN;apply u
  obtain ⟨b8,b9,h⟩:=bS h
  refine O.seqC [3,4] [] (fun _:Unit=>⟨[(3,.t (vb (decide (n1 < 0)))),(4,.t (vs b8))],[]⟩) (fun _=>True) (fun _ _=>?_) fun K5 c0=>?_
  rotate_left
  ·refine O.block ?_
   refine O.loopO [] [0,3,4] [] (fun v:Int × ByteArray=>⟨[(0,.t (vi v.1)),(3,.t (vb (decide (n1 < 0)))),(4,.t (vs v.2))],[]⟩) (eK) _ (n1,(⟨#[]⟩:ByteArray)) b9 (by simp [q]) ?_
   intro g c3 h9 a6
   obtain ⟨n7,s8⟩:=g
   simp only [eK] at h9
   try dsimp only
   refine O.seq ?_
   refine O.zR y fun K u=>?_
   iterate 2 (refine wC rfl fun K w=>?_;simp [q];apply w)
   apply wN;apply u
   rcases aA h9 with ⟨a7,h9⟩ | ⟨a8,h9⟩
   ·refine O.cT' (by simp) a7 ?_
    refine O.skip ?_
    refine O.block ?_
    refine O.zR y fun K u=>?_
    iterate 3 (refine wC rfl fun K w=>?_;simp [q];apply w)
    apply wN;apply u
    obtain ⟨c1,a0,h9⟩:=bS h9
    refine O.seqC [0,3,4,5] [] (fun _:Unit=>⟨[(0,.t (vi n7)),(3,.t (vb (decide (n1 < 0)))),(4,.t (vs s8)),(5,.t (vi c1))],[]⟩) (fun _=>True) (fun _ _=>?_) fun c4 a1=>?_
    rotate_left
    ·refine O.zR y fun K u=>?_
     iterate 2 (refine wC rfl fun K w=>?_;simp [q];apply w)
     apply wN;apply u
     rcases aA a0 with ⟨a9,a0⟩ | ⟨b0,a0⟩
     ·refine O.cT' (by simp) a9 ?_
      refine O.zG y fun K u=>?_
      iterate 3 (refine wC rfl fun K w=>?_;simp [q];apply w)
      apply wN;apply u
      cases a0
      exact a1 _ () [] trivial (by simp [q])
     ·refine O.cF' (by simp) b0 ?_
      refine O.skip ?_
      cases a0
      exact a1 _ () [] trivial (by simp [q])
    refine O.zR y fun K u=>?_
    refine wC rfl fun K w=>?_;simp [q];apply w
    obtain ⟨c5,b1,h9⟩:=bS h9
    refine wL [(.take,.tmp 18)] rfl rfl ent73 (uD _ b1) fun K w=>?_;simp [q];apply w
    iterate 3 (refine wC rfl fun K w=>?_;simp [q];apply w)
    obtain ⟨c6,b2,h9⟩:=bS h9
    obtain ⟨a2,a3⟩:=lV b2
    iterate 2 (refine wC rfl fun K w=>?_;simp [q,a2,a3];apply w)
    apply wN;apply u
    refine O.zG y fun K u=>?_
    iterate 3 (refine wC rfl fun K w=>?_;simp [q];apply w)
    apply wN;apply u
    cases h9
    exact ⟨_,[],rfl,by simp [q]⟩
   ·refine O.cF' (by simp) a8 ?_
    refine O.exit ?_
    have c2:=congrArg some (a6 _ (Option.some.inj h9).symm)
    cases c2
    exact c0 _ () [] trivial (by simp [q])
  refine O.seq ?_
  refine O.zR y fun K u=>?_
  refine wC rfl fun K w=>?_;simp [q];apply w
  apply wN;apply u
  rcases aA h with ⟨b3,h⟩ | ⟨b4,h⟩
  ·refine O.cT' (by simp) b3 ?_
   refine O.zR y fun K u=>?_
   refine wC rfl fun K w=>?_;simp [q];apply w
   obtain ⟨c7,b5,h⟩:=bS h
   obtain ⟨a4,a5⟩:=lV b5
   iterate 2 (refine wC rfl fun K w=>?_;simp [q,a4,a5];apply w)
   apply wN;apply u
   cases h
   refine O.ret ?_
   simp [aC,iB,aO4]
  ·refine O.cF' (by simp) b4 ?_
   refine O.skip ?_
   refine O.zR y fun K u=>?_
   iterate 2 (refine wC rfl fun K w=>?_;simp [q];apply w)
   apply wN;apply u
   cases h
   refine O.ret ?_
   simp [aC,iB,aO4]
theorem res60:Tryz.f60.results.toList=[.tmp 4]:=rfl
theorem ent60:aF E.P 60:=eO Tryz.func60 (by simp [Tryz.f60]) rfl
theorem aAb (p1:GProgram) (i2:Int) {r0:List Int} (h:lP p1 i2=some r0):Ok E 60 [.val (GProgram.enc false p1),.val (vi i2)] [.sl true 1 (List.map vi r0)] []:=by
 refine oB Tryz.func60 rfl (by simp [Tryz.f60]) fun C (q:C.N=102) hP=>?_
 have y:=aL hP
 unfold lP at h
 refine O.zR y fun K u=>?_
 iterate 2 (refine wC rfl fun K z=>?_;simp [q];apply z)
 apply wN;apply u
 refine O.zR y fun K u=>?_
 iterate 2 (refine wC rfl fun K z=>?_;simp [q];apply z)
 apply wN;apply u
 refine O.seq ?_
 refine O.zR y fun K u=>?_
 iterate 5 (refine wC rfl fun K z=>?_;simp [q];apply z)
 obtain ⟨r3,k3,h⟩:=bS h
 refine wL [(.take,.tmp 11),(.take,.const (.int .i64 0)),(.take,.tmp 15)] rfl rfl oW (aM _ _ _ k3) fun K z=>?_;simp [q];apply z
 refine wC rfl fun K z=>?_;simp [q];apply z
 apply wN;apply u
 rcases aA h with ⟨k4,h⟩ | ⟨k5,h⟩
 ·refine O.cT' (by simp) k4 ?_
  refine O.zR y fun K u=>?_
  iterate 2 (refine wC rfl fun K z=>?_;simp [q];apply z)
  apply wN;apply u
  cases h
  refine O.ret ?_
  simp [aC,iB,res60]
 ·refine O.cF' (by simp) k5 ?_
  refine O.skip ?_
  refine O.seq ?_
  obtain ⟨e8,k6,h⟩:=bS h
  obtain ⟨e4,e5,e6,e7⟩:=gS k6
  refine O.dT rfl (y _ rfl) [(19,.t (GProgram.enc false p1)),(20,.ref (.box 2) 1 []),(21,.t (.sl false 5 (List.map (GFn.enc false) p1.Fns))),(22,.t (vi i2)),(23,.rop [vs e8.Name,.sl false 2 (List.map GParam.enc e8.Params),vi e8.Res,vi e8.Body,vi e8.Ret] 0),(24,.rop [vs e8.Name,.sl false 2 (List.map GParam.enc e8.Params),vi e8.Res,vi e8.Body,vi e8.Ret] 3),(25,.t (vi e8.Body))] [[],[],[1],[],[1,2,3],[1,2,3,4],[1,2,3,4,5],[0,1,2,3,4,5,6],[0,1,2,3,4,5,6,7]] (by simp) (by simp) (by simp [look]) rfl rfl rfl ?_ fun K u=>?_
  ·refine ⟨?_,?_,?_,?_,?_,?_,?_,trivial⟩
   all_goals (intro τ hbx hb hd hf K u;try simp [aJ] at hd;simp [aJ] at hf;first | (refine wC rfl fun K' w=>?_;simp [q,hbx,hb,hd,hf,e4,e5,e6,e7];exact w _ (wN (u _ (by simp [aJ,hbx,e4,e5,e6,e7])))))
  obtain ⟨r9,i3,h⟩:=bS h
  refine wL [(.take,.tmp 19),(.take,.tmp 25)] rfl rfl aOm (oJ _ _ i3) fun K z=>?_;simp [q,e4,e5,e6,e7];apply z
  refine wC rfl fun K z=>?_;simp [q,e4,e5,e6,e7];apply z
  apply wN;apply u
  refine O.seq ?_
  obtain ⟨d9,i4,h⟩:=bS h
  obtain ⟨b8,b9,c0,c1⟩:=gS i4
  refine O.dT rfl (y _ rfl) [(27,.t (GProgram.enc false p1)),(28,.ref (.box 2) 1 []),(29,.t (.sl false 5 (List.map (GFn.enc false) p1.Fns))),(30,.t (vi i2)),(31,.rop [vs d9.Name,.sl false 2 (List.map GParam.enc d9.Params),vi d9.Res,vi d9.Body,vi d9.Ret] 0),(32,.rop [vs d9.Name,.sl false 2 (List.map GParam.enc d9.Params),vi d9.Res,vi d9.Body,vi d9.Ret] 4),(33,.t (vi d9.Ret))] [[],[],[1],[],[1,2,3],[1,2,3,4],[1,2,3,4,5],[0,1,2,3,4,5,6],[0,1,2,3,4,5,6,7]] (by simp) (by simp) (by simp [look]) rfl rfl rfl ?_ fun K u=>?_
  ·refine ⟨?_,?_,?_,?_,?_,?_,?_,trivial⟩
   all_goals (intro τ hbx hb hd hf K u;try simp [aJ] at hd;simp [aJ] at hf;first | (refine wC rfl fun K' w=>?_;simp [q,hbx,hb,hd,hf,b8,b9,c0,c1];exact w _ (wN (u _ (by simp [aJ,hbx,b8,b9,c0,c1])))))
  obtain ⟨b6,i5,h⟩:=bS h
  refine wL [(.take,.tmp 27),(.take,.tmp 33)] rfl rfl aOm (oJ _ _ i5) fun K z=>?_;simp [q,b8,b9,c0,c1];apply z
  refine wC rfl fun K z=>?_;simp [q,b8,b9,c0,c1];apply z
  apply wN;apply u
  refine O.zR y fun K u=>?_
  refine wC rfl fun K z=>?_;simp [q];apply z
  apply wN;apply u
  refine O.zR y fun K u=>?_
  refine wC rfl fun K z=>?_;simp [q];apply z
  apply wN;apply u
  obtain ⟨h6,i6,h⟩:=bS h
  refine O.seqC [5] [] (fun _:Unit=>⟨[(5,.t (.sl true 1 (List.map vi h6)))],[]⟩) (fun _=>True) (fun _ _=>?_) fun m0 i7=>?_
  rotate_left
  ·refine O.block ?_
   refine O.loopO [] [5,6,7,8,9] [] (fun v:(List Int) × Int × Int=>⟨[(5,.t (.sl true 1 (List.map vi v.1))),(6,.t (.sl true 1 (List.map vi r9))),(7,.t (.sl true 1 (List.map vi b6))),(8,.t (vi v.2.1)),(9,.t (vi v.2.2))],[]⟩) (bA r9 b6) _ ([],0,0) i6 (by simp [q]) ?_
   intro g m1 a6 i8
   obtain ⟨a7,a8,b0⟩:=g
   simp only [bA] at a6
   try dsimp only
   refine O.seq ?_
   obtain ⟨k7,e0,a6⟩:=bS a6
   refine O.seqRC rfl (y _ rfl) [5,6,7,8,9,44] [] (fun _:Unit=>⟨[(5,.t (.sl true 1 (List.map vi a7))),(6,.t (.sl true 1 (List.map vi r9))),(7,.t (.sl true 1 (List.map vi b6))),(8,.t (vi a8)),(9,.t (vi b0)),(44,.t (vb k7))],[]⟩) (fun _=>True) (fun _ _=>?_) fun m2 h7=>?_
   rotate_left
   ·refine wC rfl fun K z=>?_;simp [q];apply z
    iterate 4 (refine wC rfl fun K z=>?_;simp [q];apply z)
    rcases aA e0 with ⟨e9,e0⟩ | ⟨h4,e0⟩
    ·have c2:=e9
     try simp at c2
     iterate 4 (refine wO fun K z=>?_;simp [q,e9,c2];apply z)
     refine wC rfl fun K z=>?_;simp [q,e9,c2];apply z
     refine wN ?_
     cases e0
     exact h7 _ () [] trivial (by simp [q,e9,c2])
    ·have e1:=h4
     try simp at e1
     iterate 5 (refine wC rfl fun K z=>?_;simp [q,h4,e1];apply z)
     refine wN ?_
     cases e0
     exact h7 _ () [] trivial (by simp [q,h4,e1])
   rcases aA a6 with ⟨i9,a6⟩ | ⟨j0,a6⟩
   ·refine O.cT' (by simp) i9 ?_
    refine O.skip ?_
    refine O.block ?_
    refine O.seq ?_
    obtain ⟨k8,a1,a6⟩:=bS a6
    refine O.seqC [5,6,7,8,9,65] [] (fun _:Unit=>⟨[(5,.t (.sl true 1 (List.map vi a7))),(6,.t (.sl true 1 (List.map vi r9))),(7,.t (.sl true 1 (List.map vi b6))),(8,.t (vi a8)),(9,.t (vi b0)),(65,.t (vb k8))],[]⟩) (fun _=>True) (fun _ _=>?_) fun m3 h5=>?_
    rotate_left
    ·rcases aA a1 with ⟨b1,a1⟩ | ⟨a5,a1⟩
     ·have a2:=b1
      try simp at a2
      refine O.dT rfl (y _ rfl) [(45,.t (vi b0)),(46,.al (.slot 7) 0 [] none),(47,.t (vi (b6.length:Int))),(48,.t (vb (decide (b0 ≥ (b6.length:Int))))),(49,.t (vb (decide (b0 ≥ (b6.length:Int))))),(50,.tup []),(51,.tup []),(52,.tup []),(53,.tup []),(54,.tup []),(55,.tup []),(56,.tup []),(57,.tup []),(58,.tup []),(59,.tup []),(60,.tup []),(61,.tup []),(62,.tup [])] [[],[],[1],[0,1,2],[0,1,2,3],[0,1,2,3,4],[0,1,2,3,4],[0,1,2,3,4,6],[0,1,2,3,4,5,6,7],[0,1,2,3,4,5,6,7,8],[0,1,2,3,4,5,6,7,8,9],[0,1,2,3,4,5,6,7,8,9],[0,1,2,3,4,5,6,7,8,9,10,11],[0,1,2,3,4,5,6,7,8,9,10,11,12],[0,1,2,3,4,5,6,7,8,9],[0,1,2,3,4,5,6,7,8,9],[0,1,2,3,4,5,6,7,8,9,14,15],[0,1,2,3,4,5,6,7,8,9,14,15,16],[0,1,2,3,4,5,6,7,8,9,10,11,12,13,14,15,16,17],[0,1,2,3,4,5,6,7,8,9,10,11,12,13,14,15,16,17,18],[0,1,2,3,4,5,6,7,8,9,10,11,12,13,14,15,16,17,18,19]] (by simp) (by simp) (by simp [look]) rfl rfl rfl ?_ fun K u=>?_
      ·refine ⟨?_,?_,?_,?_,?_,?_,?_,?_,?_,?_,?_,?_,?_,?_,?_,?_,?_,?_,trivial⟩
       all_goals (intro τ hbx hb hd hf K u;try simp [aJ] at hd;simp [aJ] at hf;first | (refine wC rfl fun K' w=>?_;simp [q,hbx,hb,hd,hf,b1,a2];exact w _ (wN (u _ (by simp [aJ,hbx,b1,a2])))) | (refine wO fun K' w=>?_;simp [q,hbx,hb,hd,hf,b1,a2];exact w _ (wN (u _ (by simp [aJ,hbx,b1,a2])))))
      iterate 2 (refine wO fun K z=>?_;simp [q,b1,a2];apply z)
      refine wC rfl fun K z=>?_;simp [q,b1,a2];apply z
      apply wN;apply u
      cases a1
      exact h5 _ () [] trivial (by simp [q,b1,a2])
     ·have a0:=a5
      try simp at a0
      rcases aA a1 with ⟨e2,a1⟩ | ⟨b2,a1⟩
      ·have b3:=e2
       try simp at b3
       obtain ⟨k9,j1,a1⟩:=bS a1
       obtain ⟨c3,c4,c5,c6⟩:=gS j1
       obtain ⟨l0,j2,a1⟩:=bS a1
       obtain ⟨c7,c8,c9,d0⟩:=gS j2
       refine O.dT rfl (y _ rfl) [(45,.t (vi b0)),(46,.al (.slot 7) 0 [] none),(47,.t (vi (b6.length:Int))),(48,.t (vb (decide (b0 ≥ (b6.length:Int))))),(49,.t (vb (decide (b0 ≥ (b6.length:Int))))),(50,.t (vi a8)),(51,.al (.slot 6) 0 [] none),(52,.t (vi (r9.length:Int))),(53,.t (vb (decide (a8 < (r9.length:Int))))),(54,.t (vb (decide (a8 < (r9.length:Int))))),(55,.al (.slot 6) 0 [] none),(56,.t (vi a8)),(57,.ref (.slot 6) 0 [(a8.toNat,0)]),(58,.t (vi k9)),(59,.al (.slot 7) 0 [] none),(60,.t (vi b0)),(61,.ref (.slot 7) 0 [(b0.toNat,0)]),(62,.t (vi l0))] [[],[],[1],[0,1,2],[0,1,2,3],[0,1,2,3,4],[0,1,2,3,4],[0,1,2,3,4,6],[0,1,2,3,4,5,6,7],[0,1,2,3,4,5,6,7,8],[0,1,2,3,4,5,6,7,8,9],[0,1,2,3,4,5,6,7,8,9],[0,1,2,3,4,5,6,7,8,9,10,11],[0,1,2,3,4,5,6,7,8,9,10,11,12],[0,1,2,3,4,5,6,7,8,9],[0,1,2,3,4,5,6,7,8,9],[0,1,2,3,4,5,6,7,8,9,14,15],[0,1,2,3,4,5,6,7,8,9,14,15,16],[0,1,2,3,4,5,6,7,8,9,10,11,12,13,14,15,16,17],[0,1,2,3,4,5,6,7,8,9,10,11,12,13,14,15,16,17,18],[0,1,2,3,4,5,6,7,8,9,10,11,12,13,14,15,16,17,18,19]] (by simp) (by simp) (by simp [look]) rfl rfl rfl ?_ fun K u=>?_
       ·refine ⟨?_,?_,?_,?_,?_,?_,?_,?_,?_,?_,?_,?_,?_,?_,?_,?_,?_,?_,trivial⟩
        all_goals (intro τ hbx hb hd hf K u;try simp [aJ] at hd;simp [aJ] at hf;first | (refine wC rfl fun K' w=>?_;simp [q,hbx,hb,hd,hf,a5,a0,e2,b3,c3,c4,c5,c6,c7,c8,c9,d0];exact w _ (wN (u _ (by simp [aJ,hbx,a5,a0,e2,b3,c3,c4,c5,c6,c7,c8,c9,d0])))))
       iterate 3 (refine wC rfl fun K z=>?_;simp [q,a5,a0,e2,b3,c3,c4,c5,c6,c7,c8,c9,d0];apply z)
       apply wN;apply u
       cases a1
       exact h5 _ () [] trivial (by simp [q,a5,a0,e2,b3,c3,c4,c5,c6,c7,c8,c9,d0])
      ·have a3:=b2
       try simp at a3
       refine O.dT rfl (y _ rfl) [(45,.t (vi b0)),(46,.al (.slot 7) 0 [] none),(47,.t (vi (b6.length:Int))),(48,.t (vb (decide (b0 ≥ (b6.length:Int))))),(49,.t (vb (decide (b0 ≥ (b6.length:Int))))),(50,.t (vi a8)),(51,.al (.slot 6) 0 [] none),(52,.t (vi (r9.length:Int))),(53,.t (vb (decide (a8 < (r9.length:Int))))),(54,.t (vb (decide (a8 < (r9.length:Int))))),(55,.tup []),(56,.tup []),(57,.tup []),(58,.tup []),(59,.tup []),(60,.tup []),(61,.tup []),(62,.tup [])] [[],[],[1],[0,1,2],[0,1,2,3],[0,1,2,3,4],[0,1,2,3,4],[0,1,2,3,4,6],[0,1,2,3,4,5,6,7],[0,1,2,3,4,5,6,7,8],[0,1,2,3,4,5,6,7,8,9],[0,1,2,3,4,5,6,7,8,9],[0,1,2,3,4,5,6,7,8,9,10,11],[0,1,2,3,4,5,6,7,8,9,10,11,12],[0,1,2,3,4,5,6,7,8,9],[0,1,2,3,4,5,6,7,8,9],[0,1,2,3,4,5,6,7,8,9,14,15],[0,1,2,3,4,5,6,7,8,9,14,15,16],[0,1,2,3,4,5,6,7,8,9,10,11,12,13,14,15,16,17],[0,1,2,3,4,5,6,7,8,9,10,11,12,13,14,15,16,17,18],[0,1,2,3,4,5,6,7,8,9,10,11,12,13,14,15,16,17,18,19]] (by simp) (by simp) (by simp [look]) rfl rfl rfl ?_ fun K u=>?_
       ·refine ⟨?_,?_,?_,?_,?_,?_,?_,?_,?_,?_,?_,?_,?_,?_,?_,?_,?_,?_,trivial⟩
        all_goals (intro τ hbx hb hd hf K u;try simp [aJ] at hd;simp [aJ] at hf;first | (refine wC rfl fun K' w=>?_;simp [q,hbx,hb,hd,hf,a5,a0,b2,a3];exact w _ (wN (u _ (by simp [aJ,hbx,a5,a0,b2,a3])))) | (refine wO fun K' w=>?_;simp [q,hbx,hb,hd,hf,a5,a0,b2,a3];exact w _ (wN (u _ (by simp [aJ,hbx,a5,a0,b2,a3])))))
       refine wO fun K z=>?_;simp [q,a5,a0,b2,a3];apply z
       iterate 2 (refine wC rfl fun K z=>?_;simp [q,a5,a0,b2,a3];apply z)
       apply wN;apply u
       cases a1
       exact h5 _ () [] trivial (by simp [q,a5,a0,b2,a3])
    rcases aA a6 with ⟨j3,a6⟩ | ⟨j4,a6⟩
    ·refine O.cT' (by simp) j3 ?_
     refine O.zR y fun K u=>?_
     iterate 3 (refine wC rfl fun K z=>?_;simp [q];apply z)
     obtain ⟨l1,j5,a6⟩:=bS a6
     obtain ⟨g0,g1,g2,g3⟩:=gS j5
     iterate 3 (refine wC rfl fun K z=>?_;simp [q,g0,g1,g2,g3];apply z)
     obtain ⟨l2,j6,a6⟩:=bS a6
     obtain ⟨g4,g5,h8⟩:=aS j6
     have g6:List.map vi a7 ++ List.map vi [l1]=List.map vi l2:=dJ (f:=vi) h8
     simp [eSl] at g4 g5 g6
     iterate 2 (refine wC rfl fun K z=>?_;simp [q,g0,g1,g2,g3,g4,g5,g6];apply z)
     apply wN;apply u
     refine O.zR y fun K u=>?_
     iterate 3 (refine wC rfl fun K z=>?_;simp [q];apply z)
     apply wN;apply u
     refine O.exit ?_
     cases a6
     exact ⟨_,[],rfl,by simp [q]⟩
    ·refine O.cF' (by simp) j4 ?_
     refine O.skip ?_
     obtain ⟨l3,b7,a6⟩:=bS a6
     refine O.seqC [5,6,7,8,9] [] (fun _:Unit=>⟨[(5,.t (.sl true 1 (List.map vi a7))),(6,.t (.sl true 1 (List.map vi r9))),(7,.t (.sl true 1 (List.map vi b6))),(8,.t (vi l3)),(9,.t (vi b0))],[]⟩) (fun _=>True) (fun _ _=>?_) fun m4 h9=>?_
     rotate_left
     ·obtain ⟨l4,a9,b7⟩:=bS b7
      refine O.seqC [5,6,7,8,9,89] [] (fun _:Unit=>⟨[(5,.t (.sl true 1 (List.map vi a7))),(6,.t (.sl true 1 (List.map vi r9))),(7,.t (.sl true 1 (List.map vi b6))),(8,.t (vi a8)),(9,.t (vi b0)),(89,.t (vb l4))],[]⟩) (fun _=>True) (fun _ _=>?_) fun m5 i0=>?_
      rotate_left
      ·rcases aA a9 with ⟨e3,a9⟩ | ⟨b4,a9⟩
       ·have b5:=e3
        try simp at b5
        obtain ⟨l5,j7,a9⟩:=bS a9
        obtain ⟨d1,d2,d3,d4⟩:=gS j7
        obtain ⟨l6,j8,a9⟩:=bS a9
        obtain ⟨d5,d6,d7,d8⟩:=gS j8
        refine O.dT rfl (y _ rfl) [(75,.t (vi a8)),(76,.al (.slot 6) 0 [] none),(77,.t (vi (r9.length:Int))),(78,.t (vb (decide (a8 < (r9.length:Int))))),(79,.t (vb (decide (a8 < (r9.length:Int))))),(80,.al (.slot 6) 0 [] none),(81,.t (vi a8)),(82,.ref (.slot 6) 0 [(a8.toNat,0)]),(83,.t (vi l5)),(84,.al (.slot 7) 0 [] none),(85,.t (vi b0)),(86,.ref (.slot 7) 0 [(b0.toNat,0)]),(87,.t (vi l6))] [[],[],[1],[0,1,2],[0,1,2,3],[0,1,2,3,4],[0,1,2,3,4],[0,1,2,3,4,5,6],[0,1,2,3,4,5,6,7],[0,1,2,3,4],[0,1,2,3,4],[0,1,2,3,4,9,10],[0,1,2,3,4,9,10,11],[0,1,2,3,4,5,6,7,8,9,10,11,12],[0,1,2,3,4,5,6,7,8,9,10,11,12,13]] (by simp) (by simp) (by simp [look]) rfl rfl rfl ?_ fun K u=>?_
        ·refine ⟨?_,?_,?_,?_,?_,?_,?_,?_,?_,?_,?_,?_,?_,trivial⟩
         all_goals (intro τ hbx hb hd hf K u;try simp [aJ] at hd;simp [aJ] at hf;first | (refine wC rfl fun K' w=>?_;simp [q,hbx,hb,hd,hf,e3,b5,d1,d2,d3,d4,d5,d6,d7,d8];exact w _ (wN (u _ (by simp [aJ,hbx,e3,b5,d1,d2,d3,d4,d5,d6,d7,d8])))))
        iterate 2 (refine wC rfl fun K z=>?_;simp [q,e3,b5,d1,d2,d3,d4,d5,d6,d7,d8];apply z)
        apply wN;apply u
        cases a9
        exact i0 _ () [] trivial (by simp [q,e3,b5,d1,d2,d3,d4,d5,d6,d7,d8])
       ·have a4:=b4
        try simp at a4
        refine O.dT rfl (y _ rfl) [(75,.t (vi a8)),(76,.al (.slot 6) 0 [] none),(77,.t (vi (r9.length:Int))),(78,.t (vb (decide (a8 < (r9.length:Int))))),(79,.t (vb (decide (a8 < (r9.length:Int))))),(80,.tup []),(81,.tup []),(82,.tup []),(83,.tup []),(84,.tup []),(85,.tup []),(86,.tup []),(87,.tup [])] [[],[],[1],[0,1,2],[0,1,2,3],[0,1,2,3,4],[0,1,2,3,4],[0,1,2,3,4,5,6],[0,1,2,3,4,5,6,7],[0,1,2,3,4],[0,1,2,3,4],[0,1,2,3,4,9,10],[0,1,2,3,4,9,10,11],[0,1,2,3,4,5,6,7,8,9,10,11,12],[0,1,2,3,4,5,6,7,8,9,10,11,12,13]] (by simp) (by simp) (by simp [look]) rfl rfl rfl ?_ fun K u=>?_
        ·refine ⟨?_,?_,?_,?_,?_,?_,?_,?_,?_,?_,?_,?_,?_,trivial⟩
         all_goals (intro τ hbx hb hd hf K u;try simp [aJ] at hd;simp [aJ] at hf;first | (refine wC rfl fun K' w=>?_;simp [q,hbx,hb,hd,hf,b4,a4];exact w _ (wN (u _ (by simp [aJ,hbx,b4,a4])))) | (refine wO fun K' w=>?_;simp [q,hbx,hb,hd,hf,b4,a4];exact w _ (wN (u _ (by simp [aJ,hbx,b4,a4])))))
        refine wO fun K z=>?_;simp [q,b4,a4];apply z
        refine wC rfl fun K z=>?_;simp [q,b4,a4];apply z
        apply wN;apply u
        cases a9
        exact i0 _ () [] trivial (by simp [q,b4,a4])
      rcases aA b7 with ⟨j9,b7⟩ | ⟨k0,b7⟩
      ·refine O.cT' (by simp) j9 ?_
       refine O.zG y fun K u=>?_
       iterate 3 (refine wC rfl fun K z=>?_;simp [q];apply z)
       apply wN;apply u
       cases b7
       exact h9 _ () [] trivial (by simp [q])
      ·refine O.cF' (by simp) k0 ?_
       refine O.skip ?_
       cases b7
       exact h9 _ () [] trivial (by simp [q])
     refine O.zR y fun K u=>?_
     iterate 3 (refine wC rfl fun K z=>?_;simp [q];apply z)
     obtain ⟨l7,k1,a6⟩:=bS a6
     obtain ⟨g7,g8,g9,h0⟩:=gS k1
     iterate 3 (refine wC rfl fun K z=>?_;simp [q,g7,g8,g9,h0];apply z)
     obtain ⟨l8,k2,a6⟩:=bS a6
     obtain ⟨h1,h2,i1⟩:=aS k2
     have h3:List.map vi a7 ++ List.map vi [l7]=List.map vi l8:=dJ (f:=vi) i1
     simp [eSl] at h1 h2 h3
     iterate 2 (refine wC rfl fun K z=>?_;simp [q,g7,g8,g9,h0,h1,h2,h3];apply z)
     apply wN;apply u
     refine O.zG y fun K u=>?_
     iterate 3 (refine wC rfl fun K z=>?_;simp [q];apply z)
     apply wN;apply u
     cases a6
     exact ⟨_,[],rfl,by simp [q]⟩
   ·refine O.cF' (by simp) j0 ?_
    refine O.exit ?_
    have l9:=congrArg some (i8 _ (Option.some.inj a6).symm)
    cases l9
    exact i7 _ () [] trivial (by simp [q])
  refine O.zR y fun K u=>?_
  iterate 2 (refine wC rfl fun K z=>?_;simp [q];apply z)
  apply wN;apply u
  cases h
  refine O.ret ?_
  simp [aC,iB,res60]
theorem res61:Tryz.f61.results.toList=[.tmp 2]:=rfl
theorem ent61:aF E.P 61:=eO Tryz.func61 (by simp [Tryz.f61]) rfl
theorem xU (a1:Int) {r0:Bool} (h:iG a1=some r0):Ok E 61 [.val (vi a1)] [vb r0] []:=by
 refine oB Tryz.func61 rfl (by simp [Tryz.f61]) fun C (q:C.N=12) hP=>?_
 have y:=aL hP
 unfold iG at h
 refine O.zR y fun K u=>?_
 refine wC rfl fun K v=>?_;simp [q];apply v
 apply wN;apply u
 refine O.seq ?_
 refine O.zR y fun K u=>?_
 refine wC rfl fun K v=>?_;simp [q];apply v
 apply wN;apply u
 refine O.block ?_
 obtain ⟨b2,a0,h⟩:=bS h
 refine O.seqC [4] [] (fun _:Unit=>⟨[(4,.t (vb b2))],[]⟩) (fun _=>True) (fun _ _=>?_) fun K3 a2=>?_
 rotate_left
 ·refine O.zR y fun K u=>?_
  iterate 2 (refine wC rfl fun K v=>?_;simp [q];apply v)
  apply wN;apply u
  rcases aA a0 with ⟨b3,a0⟩ | ⟨b4,a0⟩
  ·refine O.cT' (by simp) b3 ?_
   refine O.skip ?_
   cases a0
   exact a2 _ () [] trivial (by simp [q])
  ·refine O.cF' (by simp) b4 ?_
   refine O.zR y fun K u=>?_
   iterate 2 (refine wC rfl fun K v=>?_;simp [q];apply v)
   apply wN;apply u
   rcases aA a0 with ⟨b5,a0⟩ | ⟨b6,a0⟩
   ·refine O.cT' (by simp) b5 ?_
    refine O.skip ?_
    cases a0
    exact a2 _ () [] trivial (by simp [q])
   ·refine O.cF' (by simp) b6 ?_
    refine O.zR y fun K u=>?_
    iterate 2 (refine wC rfl fun K v=>?_;simp [q];apply v)
    apply wN;apply u
    rcases aA a0 with ⟨b7,a0⟩ | ⟨a3,a0⟩
    ·refine O.cT' (by simp) b7 ?_
     refine O.skip ?_
     cases a0
     exact a2 _ () [] trivial (by simp [q])
    ·refine O.cF' (by simp) a3 ?_
     refine O.zR y fun K u=>?_
     iterate 2 (refine wC rfl fun K v=>?_;simp [q];apply v)
     apply wN;apply u
     rcases aA a0 with ⟨a4,a0⟩ | ⟨a5,a0⟩
     ·refine O.cT' (by simp) a4 ?_
      refine O.skip ?_
      cases a0
      exact a2 _ () [] trivial (by simp [q])
     ·refine O.cF' (by simp) a5 ?_
      refine O.zR y fun K u=>?_
      iterate 2 (refine wC rfl fun K v=>?_;simp [q];apply v)
      apply wN;apply u
      rcases aA a0 with ⟨a6,a0⟩ | ⟨a7,a0⟩
      ·refine O.cT' (by simp) a6 ?_
       refine O.skip ?_
       cases a0
       exact a2 _ () [] trivial (by simp [q])
      ·refine O.cF' (by simp) a7 ?_
       refine O.zR y fun K u=>?_
       iterate 2 (refine wC rfl fun K v=>?_;simp [q];apply v)
       apply wN;apply u
       rcases aA a0 with ⟨a8,a0⟩ | ⟨a9,a0⟩
       ·refine O.cT' (by simp) a8 ?_
        refine O.skip ?_
        cases a0
        exact a2 _ () [] trivial (by simp [q])
       ·refine O.cF' (by simp) a9 ?_
        refine O.zG y fun K u=>?_
        iterate 2 (refine wC rfl fun K v=>?_;simp [q];apply v)
        apply wN;apply u
        cases a0
        exact a2 _ () [] trivial (by simp [q])
 rcases aA h with ⟨b0,h⟩ | ⟨b1,h⟩
 ·refine O.cT' (by simp) b0 ?_
  refine O.zR y fun K u=>?_
  refine wC rfl fun K v=>?_;simp [q];apply v
  apply wN;apply u
  cases h
  refine O.ret ?_
  simp [aC,iB,res61]
 ·refine O.cF' (by simp) b1 ?_
  refine O.skip ?_
  refine O.zR y fun K u=>?_
  refine wC rfl fun K v=>?_;simp [q];apply v
  apply wN;apply u
  cases h
  refine O.ret ?_
  simp [aC,iB,res61]
theorem res29:Tryz.f29.results.toList=[]:=rfl
theorem ent29:aF E.P 29:=eO Tryz.func29 (by simp [Tryz.f29]) rfl
theorem xT (p1:GProgram) (c8:Int) {q0:GProgram} (h:jX p1 c8=some q0):Ok E 29 [.ptr [.sl true 4 (List.map (GNode.enc true) p1.Nodes),.sl true 5 (List.map (GFn.enc true) p1.Fns)],.val (vi c8)] [] [[.sl true 4 (List.map (GNode.enc true) q0.Nodes),.sl true 5 (List.map (GFn.enc true) q0.Fns)]]:=by
 refine oB Tryz.func29 rfl (by simp [Tryz.f29]) fun C (q:C.N=105) hP=>?_
 have y:=aL hP
 unfold jX at h
 refine O.zR y fun K u=>?_
 iterate 4 (refine wC rfl fun K z=>?_;simp [q];apply z)
 obtain ⟨r3,l7,h⟩:=bS h
 refine wL [(.bor,.tmp 13),(.take,.tmp 14)] rfl rfl ent46 (rD _ _ l7) fun K z=>?_;simp [q];apply z
 refine wC rfl fun K z=>?_;simp [q];apply z
 apply wN;apply u
 refine O.zR y fun K u=>?_
 iterate 4 (refine wC rfl fun K z=>?_;simp [q];apply z)
 obtain ⟨r5,l8,h⟩:=bS h
 refine wL [(.bor,.tmp 18),(.take,.tmp 19)] rfl rfl ent60 (aAb _ _ l8) fun K z=>?_;simp [q];apply z
 refine wC rfl fun K z=>?_;simp [q];apply z
 apply wN;apply u
 obtain ⟨e4,l9,h⟩:=bS h
 refine O.seqC [0,1] [105] (fun _:Unit=>⟨[(0,.ref (.box 105) 0 []),(1,.t (vi c8))],[(105,[.sl true 4 (List.map (GNode.enc true) e4.Nodes),.sl true 5 (List.map (GFn.enc true) e4.Fns)])]⟩) (fun _=>True) (fun _ _=>?_) fun K8 m0=>?_
 rotate_left
 ·refine O.zR y fun K u=>?_
  refine wC rfl fun K z=>?_;simp [q];apply z
  apply wN;apply u
  refine O.block ?_
  refine O.loopO [] [0,1,4,5,6] [105] (fun v:Int × GProgram=>⟨[(0,.ref (.box 105) 0 []),(1,.t (vi c8)),(4,.t (.sl true 3 (List.map GVar.enc r3))),(5,.t (.sl true 1 (List.map vi r5))),(6,.t (vi v.1))],[(105,[.sl true 4 (List.map (GNode.enc true) v.2.Nodes),.sl true 5 (List.map (GFn.enc true) v.2.Fns)])]⟩) (cB r3 r5) _ (0,p1) l9 (by simp [q]) ?_
  intro g n0 a9 i3
  obtain ⟨h2,i4⟩:=g
  simp only [cB] at a9
  try dsimp only
  refine O.seq ?_
  refine O.zR y fun K u=>?_
  iterate 4 (refine wC rfl fun K z=>?_;simp [q];apply z)
  apply wN;apply u
  rcases aA a9 with ⟨i5,a9⟩ | ⟨i6,a9⟩
  ·refine O.cT' (by simp) i5 ?_
   refine O.skip ?_
   refine O.seq ?_
   refine O.block ?_
   refine O.seq ?_
   obtain ⟨l4,i7,a9⟩:=bS a9
   obtain ⟨a0,a1,a2,a3⟩:=gS i7
   obtain ⟨h1,i8,a9⟩:=bS a9
   obtain ⟨a4,a5,a6,a7⟩:=gS i8
   refine O.drawY rfl (y _ rfl) [(27,.ref (.box 105) 0 []),(28,.ref (.box 105) 0 []),(29,.ref (.box 105) 0 []),(30,.al (.box 105) 0 [] none),(31,.al (.slot 5) 0 [] none),(32,.t (vi h2)),(33,.ref (.slot 5) 0 [(h2.toNat,0)]),(34,.t (vi l4)),(35,.ref (.box 105) 0 [(l4.toNat,0)]),(36,.t (.agg [vi h1.Kind,vi h1.Num,vs h1.Name,.dead])),(7,.ref (.box 7) 0 [])] [[],[],[],[],[],[],[],[],[],[],[(7,[vi 0,vi 0,vs ByteArray.empty,.sl true 1 []])]] [[],[0],[0,1],[0,1,2],[],[],[4,5],[4,5,6],[0,1,2,3,4,5,6,7],[0,1,2,3,4,5,6,7,8],[],[0,1,2,3,4,5,6,7,8,9,10]] rfl (by simp) (by simp) (by simp [look]) rfl rfl rfl ?_ fun K u=>?_
   ·refine ⟨?_,?_,?_,?_,?_,?_,?_,?_,?_,?_,?_,trivial⟩
    ·intro τ D hbx hb hd hf d0 g1 g2 hT
     cases a8:D 10<;>(intro K u;try simp [aJ] at hd;simp [aJ] at hf;simp [fQ,jQ,d0,a8] at hbx;refine wC rfl fun K' w=>?_;simp [q,hbx,hb,hd,hf,a0,a1,a2,a3,a4,a5,a6,a7];exact w _ (wN (u _ (by simp [aJ,fQ,jQ,hJ,hbx,d0,a8,a0,a1,a2,a3,a4,a5,a6,a7]))))
    ·intro τ D hbx hb hd hf d1 g1 g2 hT
     cases a8:D 10<;>(intro K u;try simp [aJ] at hd;simp [aJ] at hf;simp [fQ,jQ,d1,a8] at hbx;refine wC rfl fun K' w=>?_;simp [q,hbx,hb,hd,hf,a0,a1,a2,a3,a4,a5,a6,a7];exact w _ (wN (u _ (by simp [aJ,fQ,jQ,hJ,hbx,d1,a8,a0,a1,a2,a3,a4,a5,a6,a7]))))
    ·intro τ D hbx hb hd hf d2 g1 g2 hT
     cases a8:D 10<;>(intro K u;try simp [aJ] at hd;simp [aJ] at hf;simp [fQ,jQ,d2,a8] at hbx;refine wC rfl fun K' w=>?_;simp [q,hbx,hb,hd,hf,a0,a1,a2,a3,a4,a5,a6,a7];exact w _ (wN (u _ (by simp [aJ,fQ,jQ,hJ,hbx,d2,a8,a0,a1,a2,a3,a4,a5,a6,a7]))))
    ·intro τ D hbx hb hd hf d3 g1 g2 hT
     cases a8:D 10<;>(intro K u;try simp [aJ] at hd;simp [aJ] at hf;simp [fQ,jQ,d3,a8] at hbx;refine wC rfl fun K' w=>?_;simp [q,hbx,hb,hd,hf,a0,a1,a2,a3,a4,a5,a6,a7];exact w _ (wN (u _ (by simp [aJ,fQ,jQ,hJ,hbx,d3,a8,a0,a1,a2,a3,a4,a5,a6,a7]))))
    ·intro τ D hbx hb hd hf d4 g1 g2 hT
     cases a8:D 10<;>(intro K u;try simp [aJ] at hd;simp [aJ] at hf;simp [fQ,jQ,d4,a8] at hbx;refine wC rfl fun K' w=>?_;simp [q,hbx,hb,hd,hf,a0,a1,a2,a3,a4,a5,a6,a7];exact w _ (wN (u _ (by simp [aJ,fQ,jQ,hJ,hbx,d4,a8,a0,a1,a2,a3,a4,a5,a6,a7]))))
    ·intro τ D hbx hb hd hf d5 g1 g2 hT
     cases a8:D 10<;>(intro K u;try simp [aJ] at hd;simp [aJ] at hf;simp [fQ,jQ,d5,a8] at hbx;refine wC rfl fun K' w=>?_;simp [q,hbx,hb,hd,hf,a0,a1,a2,a3,a4,a5,a6,a7];exact w _ (wN (u _ (by simp [aJ,fQ,jQ,hJ,hbx,d5,a8,a0,a1,a2,a3,a4,a5,a6,a7]))))
    ·intro τ D hbx hb hd hf d6 g1 g2 hT
     cases a8:D 10<;>(intro K u;try simp [aJ] at hd;simp [aJ] at hf;simp [fQ,jQ,d6,a8] at hbx;refine wC rfl fun K' w=>?_;simp [q,hbx,hb,hd,hf,a0,a1,a2,a3,a4,a5,a6,a7];exact w _ (wN (u _ (by simp [aJ,fQ,jQ,hJ,hbx,d6,a8,a0,a1,a2,a3,a4,a5,a6,a7]))))
    ·intro τ D hbx hb hd hf d7 g1 g2 hT
     cases a8:D 10<;>(intro K u;try simp [aJ] at hd;simp [aJ] at hf;simp [fQ,jQ,d7,a8] at hbx;refine wC rfl fun K' w=>?_;simp [q,hbx,hb,hd,hf,a0,a1,a2,a3,a4,a5,a6,a7];exact w _ (wN (u _ (by simp [aJ,fQ,jQ,hJ,hbx,d7,a8,a0,a1,a2,a3,a4,a5,a6,a7]))))
    ·intro τ D hbx hb hd hf d8 g1 g2 hT
     cases a8:D 10<;>(intro K u;try simp [aJ] at hd;simp [aJ] at hf;simp [fQ,jQ,d8,a8] at hbx;refine wC rfl fun K' w=>?_;simp [q,hbx,hb,hd,hf,a0,a1,a2,a3,a4,a5,a6,a7];exact w _ (wN (u _ (by simp [aJ,fQ,jQ,hJ,hbx,d8,a8,a0,a1,a2,a3,a4,a5,a6,a7]))))
    ·intro τ D hbx hb hd hf d9 g1 g2 hT
     cases a8:D 10<;>(intro K u;try simp [aJ] at hd;simp [aJ] at hf;simp [fQ,jQ,d9,a8] at hbx;refine aJf rfl fun K' w=>?_;simp [q,hbx,hb,hd,hf,a0,a1,a2,a3,a4,a5,a6,a7];exact w _ (wN (u _ (by simp [aJ,fQ,jQ,hJ,hbx,d9,a8,a0,a1,a2,a3,a4,a5,a6,a7]))))
    ·intro τ D hbx hb hd hf a8 g1 g2 hT
     have hkl:=aIx (.box 7) [10] hT rfl rfl (by simp [a8])
     simp only [AV.killAll,List.any_eq_true] at hkl
     (intro K u;try simp [aJ] at hd;simp [aJ] at hf;simp [fQ,jQ,a8] at hbx;refine wC rfl fun K' w=>?_;simp [q,hbx,hb,hd,hf,a0,a1,a2,a3,a4,a5,a6,a7,hkl];exact w _ (wN (u _ (by simp [aJ,fQ,jQ,hJ,hbx,a8,a0,a1,a2,a3,a4,a5,a6,a7,hkl]))))
   simp [jT,oM,fQ,jQ]
   refine wC rfl fun K z=>?_;simp [q,a0,a1,a2,a3,a4,a5,a6,a7];apply z
   apply wN;apply u
   obtain ⟨m1,c9,a9⟩:=bS a9
   refine O.seqRC rfl (y _ rfl) [0,1,4,5,6,7,44] [7,105] (fun _:Unit=>⟨[(0,.ref (.box 105) 0 []),(1,.t (vi c8)),(4,.t (.sl true 3 (List.map GVar.enc r3))),(5,.t (.sl true 1 (List.map vi r5))),(6,.t (vi h2)),(7,.ref (.box 7) 0 []),(44,.t (vb m1))],[(7,[vi h1.Kind,vi h1.Num,vs h1.Name,.dead]),(105,[.sl true 4 (List.map (GNode.enc true) i4.Nodes),.sl true 5 (List.map (GFn.enc true) i4.Fns)])]⟩) (fun _=>True) (fun _ _=>?_) fun n1 h3=>?_
   rotate_left
   ·refine wC rfl fun K z=>?_;simp [q];apply z
    refine wC rfl fun K z=>?_;simp [q];apply z
    obtain ⟨n2,i9,c9⟩:=bS c9
    refine wL [(.take,.tmp 38)] rfl rfl ent61 (xU _ i9) fun K z=>?_;simp [q];apply z
    refine wC rfl fun K z=>?_;simp [q];apply z
    rcases aA c9 with ⟨e3,c9⟩ | ⟨h0,c9⟩
    ·have e0:=e3
     try simp at e0
     iterate 3 (refine wO fun K z=>?_;simp [q,e3,e0];apply z)
     refine wC rfl fun K z=>?_;simp [q,e3,e0];apply z
     refine wN ?_
     cases c9
     exact h3 _ () [] trivial (by simp [q,e3,e0])
    ·have e1:=h0
     try simp at e1
     iterate 4 (refine wC rfl fun K z=>?_;simp [q,h0,e1];apply z)
     refine wN ?_
     cases c9
     exact h3 _ () [] trivial (by simp [q,h0,e1])
   rcases aA a9 with ⟨j0,a9⟩ | ⟨j1,a9⟩
   ·refine O.cT' (by simp) j0 ?_
    refine O.zR y fun K u=>?_
    iterate 3 (refine wC rfl fun K z=>?_;simp [q];apply z)
    obtain ⟨m2,j2,a9⟩:=bS a9
    refine wL [(.bor,.tmp 45),(.take,.tmp 47)] rfl rfl ent47 (sF _ _ j2) fun K z=>?_;simp [q];apply z
    refine wC rfl fun K z=>?_;simp [q];apply z
    apply wN;apply u
    refine O.zR y fun K u=>?_
    iterate 2 (refine wC rfl fun K z=>?_;simp [q];apply z)
    apply wN;apply u
    rcases aA a9 with ⟨j3,a9⟩ | ⟨j4,a9⟩
    ·refine O.cT' (by simp) j3 ?_
     obtain ⟨l5,j5,a9⟩:=bS a9
     obtain ⟨b0,b1,b2,b3⟩:=gS j5
     obtain ⟨m3,j6,a9⟩:=bS a9
     obtain ⟨l6,j7,a9⟩:=bS a9
     obtain ⟨b4,b5⟩:=lV j7
     refine O.dT rfl (y _ rfl) [(51,.ref (.box 105) 0 []),(52,.ref (.box 105) 0 []),(53,.ref (.box 105) 0 []),(54,.al (.box 105) 0 [] none),(55,.al (.slot 5) 0 [] none),(56,.t (vi h2)),(57,.ref (.slot 5) 0 [(h2.toNat,0)]),(58,.t (vi l5)),(59,.t (vi m2)),(60,.t (vs m3)),(61,.t (vs l6))] [[],[0],[0,1],[0,1,2],[],[],[4,5],[4,5,6],[],[8],[8,9],[0,1,2,3,4,5,6,7,8,9,10],[0,1,2,3,4,5,6,7,8,9,10,11],[0,1,2,3,4,5,6,7,8,9,10,11,12]] (by simp) (by simp) (by simp [look]) rfl rfl rfl ?_ fun K u=>?_
     ·refine ⟨?_,?_,?_,?_,?_,?_,?_,?_,?_,?_,?_,trivial⟩
      all_goals (intro τ hbx hb hd hf K u;try simp [aJ] at hd;simp [aJ] at hf;first | (refine wC rfl fun K' w=>?_;simp [q,hbx,hb,hd,hf,b0,b1,b2,b3,b4,b5];exact w _ (wN (u _ (by simp [aJ,hbx,b0,b1,b2,b3,b4,b5])))) | (refine wL [(.take,.tmp 59)] rfl rfl ent37 (pU _ j6) fun K' w=>?_;simp [q,hbx,hb,hd,hf,b0,b1,b2,b3,b4,b5];exact w _ (wN (u _ (by simp [aJ,hbx,b0,b1,b2,b3,b4,b5])))))
     obtain ⟨j8,j9,a9⟩:=bS a9
     obtain ⟨e5,e6,e7,e8⟩:=gS j9
     iterate 2 (refine wC rfl fun K z=>?_;simp [q,b0,b1,b2,b3,b4,b5,e5,e6,e7,e8];apply z)
     obtain ⟨m4,k0,a9⟩:=bZ a9
     have e9:(List.map (GNode.enc true) i4.Nodes).set l5.toNat (.agg [vi j8.Kind,vi j8.Num,vs l6,.sl true 1 (List.map vi j8.Kids)])=List.map (GNode.enc true) m4:=bU (f:=(GNode.enc true)) k0
     try simp only [Int.toNat_natCast] at e9
     refine wC rfl fun K z=>?_;simp [q,b0,b1,b2,b3,b4,b5,e5,e6,e7,e8,e9];apply z
     apply wN;apply u
     refine O.zG y fun K u=>?_
     iterate 3 (refine wC rfl fun K z=>?_;simp [q];apply z)
     apply wN;apply u
     cases a9
     exact ⟨_,[],rfl,by simp [q]⟩
    ·refine O.cF' (by simp) j4 ?_
     refine O.skip ?_
     refine O.zG y fun K u=>?_
     iterate 3 (refine wC rfl fun K z=>?_;simp [q];apply z)
     apply wN;apply u
     cases a9
     exact ⟨_,[],rfl,by simp [q]⟩
   ·refine O.cF' (by simp) j1 ?_
    refine O.skip ?_
    refine O.zG y fun K u=>?_
    iterate 3 (refine wC rfl fun K z=>?_;simp [q];apply z)
    apply wN;apply u
    cases a9
    exact ⟨_,[],rfl,by simp [q]⟩
  ·refine O.cF' (by simp) i6 ?_
   refine O.exit ?_
   have m5:=congrArg some (i3 _ (Option.some.inj a9).symm)
   cases m5
   exact m0 _ () [] trivial (by simp [q])
 refine O.zR y fun K u=>?_
 iterate 2 (refine wC rfl fun K z=>?_;simp [q];apply z)
 apply wN;apply u
 obtain ⟨b7,k1,h⟩:=bS h
 refine O.seqC [0,1,9] [105] (fun _:Unit=>⟨[(0,.ref (.box 105) 0 []),(1,.t (vi c8)),(9,.t (.sl true 2 (List.map GParam.enc b7)))],[(105,[.sl true 4 (List.map (GNode.enc true) e4.Nodes),.sl true 5 (List.map (GFn.enc true) e4.Fns)])]⟩) (fun _=>True) (fun _ _=>?_) fun n3 k2=>?_
 rotate_left
 ·refine O.zR y fun K u=>?_
  refine wC rfl fun K z=>?_;simp [q];apply z
  apply wN;apply u
  refine O.block ?_
  refine O.loopO [] [0,1,9,10] [105] (fun v:(List GParam) × Int=>⟨[(0,.ref (.box 105) 0 []),(1,.t (vi c8)),(9,.t (.sl true 2 (List.map GParam.enc v.1))),(10,.t (vi v.2))],[(105,[.sl true 4 (List.map (GNode.enc true) e4.Nodes),.sl true 5 (List.map (GFn.enc true) e4.Fns)])]⟩) (dC c8 e4) _ ([],0) k1 (by simp [q]) ?_
  intro g n4 b6 k3
  obtain ⟨e2,h9⟩:=g
  simp only [dC] at b6
  try dsimp only
  refine O.seq ?_
  refine O.zR y fun K u=>?_
  iterate 6 (refine wC rfl fun K z=>?_;simp [q];apply z)
  obtain ⟨n5,k4,b6⟩:=bS b6
  obtain ⟨h4,h5,h6,h7⟩:=gS k4
  iterate 5 (refine wC rfl fun K z=>?_;simp [q,h4,h5,h6,h7];apply z)
  apply wN;apply u
  rcases aA b6 with ⟨k5,b6⟩ | ⟨k6,b6⟩
  ·refine O.cT' (by simp) k5 ?_
   refine O.skip ?_
   refine O.seq ?_
   refine O.block ?_
   obtain ⟨m6,k7,b6⟩:=bS b6
   obtain ⟨i0,k8,b6⟩:=bS b6
   obtain ⟨b8,b9⟩:=lV k8
   obtain ⟨n6,k9,b6⟩:=bS b6
   obtain ⟨c0,c1,c2,c3⟩:=gS k9
   obtain ⟨i1,l0,b6⟩:=bS b6
   obtain ⟨c4,c5,c6,c7⟩:=gS l0
   refine O.dT rfl (y _ rfl) [(78,.al (.slot 9) 0 [] none),(79,.t (vi h9)),(80,.t (vs m6)),(81,.t (vs i0)),(82,.ref (.box 105) 0 []),(83,.ref (.box 105) 0 []),(84,.ref (.box 105) 1 []),(85,.al (.box 105) 1 [] none),(86,.t (vi c8)),(87,.ref (.box 105) 1 [(c8.toNat,0)]),(88,.ref (.box 105) 1 [(c8.toNat,1)]),(89,.al (.box 105) 1 [(c8.toNat,1)] none),(90,.t (vi h9)),(91,.ref (.box 105) 1 [(c8.toNat,1),(h9.toNat,0)]),(92,.ref (.box 105) 1 [(c8.toNat,1),(h9.toNat,1)]),(93,.t (vi i1.Typ)),(94,.t (.agg [vs i0,vi i1.Typ])),(95,.t (.sl true 2 (List.map GParam.enc [(⟨i0,i1.Typ⟩:GParam)])))] [[],[],[1],[1,2],[],[4],[4,5],[4,5,6],[],[4,5,6,7,8],[4,5,6,7,8,9],[4,5,6,7,8,9,10],[],[4,5,6,7,8,9,10,11,12],[4,5,6,7,8,9,10,11,12,13],[4,5,6,7,8,9,10,11,12,13,14],[1,2,3,4,5,6,7,8,9,10,11,12,13,14,15],[1,2,3,4,5,6,7,8,9,10,11,12,13,14,15,16],[0,1,2,3,4,5,6,7,8,9,10,11,12,13,14,15,16,17],[0,1,2,3,4,5,6,7,8,9,10,11,12,13,14,15,16,17,18]] (by simp) (by simp) (by simp [look]) rfl rfl rfl ?_ fun K u=>?_
   ·refine ⟨?_,?_,?_,?_,?_,?_,?_,?_,?_,?_,?_,?_,?_,?_,?_,?_,?_,?_,trivial⟩
    all_goals (intro τ hbx hb hd hf K u;try simp [aJ] at hd;simp [aJ] at hf;first | (refine wC rfl fun K' w=>?_;simp [q,hbx,hb,hd,hf,b8,b9,c0,c1,c2,c3,c4,c5,c6,c7];exact w _ (wN (u _ (by simp [aJ,hbx,b8,b9,c0,c1,c2,c3,c4,c5,c6,c7])))) | (refine wL [(.take,.tmp 79)] rfl rfl ent37 (pU _ k7) fun K' w=>?_;simp [q,hbx,hb,hd,hf,b8,b9,c0,c1,c2,c3,c4,c5,c6,c7];exact w _ (wN (u _ (by simp [aJ,hbx,b8,b9,c0,c1,c2,c3,c4,c5,c6,c7])))))
   obtain ⟨m7,l1,b6⟩:=bS b6
   obtain ⟨g0,g3,h8⟩:=aS l1
   have g4:List.map GParam.enc e2 ++ List.map GParam.enc [(⟨i0,i1.Typ⟩:GParam)]=List.map GParam.enc m7:=dJ (f:=GParam.enc) h8
   simp [eSl,GParam.enc] at g0 g3 g4
   iterate 2 (refine wC rfl fun K z=>?_;simp [q,b8,b9,c0,c1,c2,c3,c4,c5,c6,c7,g0,g3,g4];apply z)
   apply wN;apply u
   refine O.zG y fun K u=>?_
   iterate 3 (refine wC rfl fun K z=>?_;simp [q];apply z)
   apply wN;apply u
   cases b6
   exact ⟨_,[],rfl,by simp [q]⟩
  ·refine O.cF' (by simp) k6 ?_
   refine O.exit ?_
   have m8:=congrArg some (k3 _ (Option.some.inj b6).symm)
   cases m8
   exact k2 _ () [] trivial (by simp [q])
 refine O.zG y fun K u=>?_
 iterate 6 (refine wC rfl fun K z=>?_;simp [q];apply z)
 obtain ⟨i2,l2,h⟩:=bS h
 obtain ⟨g5,g6,g7,g8⟩:=gS l2
 iterate 2 (refine wC rfl fun K z=>?_;simp [q,g5,g6,g7,g8];apply z)
 obtain ⟨m9,l3,h⟩:=bZ h
 have g9:(List.map (GFn.enc true) e4.Fns).set c8.toNat (.agg [vs i2.Name,.sl true 2 (List.map GParam.enc b7),vi i2.Res,vi i2.Body,vi i2.Ret])=List.map (GFn.enc true) m9:=bU (f:=(GFn.enc true)) l3
 try simp only [Int.toNat_natCast] at g9
 refine wC rfl fun K z=>?_;simp [q,g5,g6,g7,g8,g9];apply z
 apply wN;apply u
 cases h
 simp [aC,iB,res29]
theorem res11:Tryz.f11.results.toList=[.cell 4 31]:=rfl
theorem ent11:aF E.P 11:=eO Tryz.func11 (by simp [Tryz.f11]) rfl
theorem vW (p1:GProgram) (a5:Int) {r0:GProgram} (h:iT p1 a5=some r0):Ok E 11 [.val (GProgram.enc false p1),.val (vi a5)] [GProgram.enc true r0] []:=by
 refine oB Tryz.func11 rfl (by simp [Tryz.f11]) fun C (q:C.N=24) hP=>?_
 have y:=aL hP
 unfold iT at h
 refine O.zR y fun K u=>?_
 iterate 2 (refine wC rfl fun K v=>?_;simp [q];apply v)
 apply wN;apply u
 refine O.zR y fun K u=>?_
 refine wC rfl fun K v=>?_;simp [q];apply v
 obtain ⟨r3,b1,h⟩:=bS h
 refine wL [(.take,.tmp 6)] rfl rfl ent27 (yC _ b1) fun K v=>?_;simp [q];apply v
 iterate 2 (refine wC rfl fun K v=>?_;simp [q];apply v)
 apply wN;apply u
 refine O.seq ?_
 obtain ⟨b2,a2,h⟩:=bS h
 refine O.seqRC rfl (y _ rfl) [1,4,5,19] [4,5] (fun _:Unit=>⟨[(1,.t (vi a5)),(4,.ref (.box 4) 0 []),(5,.ref (.box 5) 0 []),(19,.t (vb b2))],[(4,[.sl true 4 [],.sl true 5 []]),(5,[.sl true 4 (List.map (GNode.enc true) r3.Nodes),.sl true 5 (List.map (GFn.enc true) r3.Fns)])]⟩) (fun _=>True) (fun _ _=>?_) fun K6 b0=>?_
 rotate_left
 ·refine wC rfl fun K v=>?_;simp [q];apply v
  obtain ⟨r7,b3,a2⟩:=bS a2
  refine wL [(.take,.tmp 8)] rfl rfl ent19 (sI _ b3) fun K v=>?_;simp [q];apply v
  iterate 2 (refine wC rfl fun K v=>?_;simp [q];apply v)
  rcases aA a2 with ⟨a4,a2⟩ | ⟨a1,a2⟩
  ·have a3:=a4
   try simp at a3
   iterate 7 (refine wO fun K v=>?_;simp [q,a4,a3];apply v)
   refine wC rfl fun K v=>?_;simp [q,a4,a3];apply v
   refine wN ?_
   cases a2
   exact b0 _ () [] trivial (by simp [q,a4,a3])
  ·have a0:=a1
   try simp at a0
   iterate 5 (refine wC rfl fun K v=>?_;simp [q,a1,a0];apply v)
   obtain ⟨b4,a6,a2⟩:=bS a2
   refine wL [(.take,.tmp 12),(.take,.const (.int .i64 0)),(.take,.tmp 16)] rfl rfl oW (aM _ _ _ a6) fun K v=>?_;simp [q,a1,a0];apply v
   iterate 2 (refine wC rfl fun K v=>?_;simp [q,a1,a0];apply v)
   refine wN ?_
   cases a2
   exact b0 _ () [] trivial (by simp [q,a1,a0])
 rcases aA h with ⟨a7,h⟩ | ⟨a8,h⟩
 ·refine O.cT' (by simp) a7 ?_
  refine O.zR y fun K u=>?_
  iterate 2 (refine wC rfl fun K v=>?_;simp [q];apply v)
  apply wN;apply u
  cases h
  refine O.ret ?_
  simp [aC,iB,res11]
 ·refine O.cF' (by simp) a8 ?_
  refine O.skip ?_
  refine O.zR y fun K u=>?_
  refine wC rfl fun K v=>?_;simp [q];apply v
  obtain ⟨b5,a9,h⟩:=bS h
  refine wL [((.ptr 2),.tmp 5),(.take,.tmp 21)] rfl rfl ent29 (xT _ _ a9) fun K v=>?_;simp [q];apply v
  apply wN;apply u
  refine O.zR y fun K u=>?_
  iterate 2 (refine wC rfl fun K v=>?_;simp [q];apply v)
  apply wN;apply u
  cases h
  refine O.ret ?_
  simp [aC,iB,res11]
theorem res30:Tryz.f30.results.toList=[.tmp 6]:=rfl
theorem lG:aF E.P 30:=eO Tryz.func30 (by simp [Tryz.f30]) rfl
theorem aU (n1:Int) (a3:Int) (a1:Int) {r0:Bool} (h:cF n1 a3 a1=some r0):Ok E 30 [.val (vi n1),.val (vi a3),.val (vi a1)] [vb r0] []:=by
 refine oB Tryz.func30 rfl (by simp [Tryz.f30]) fun C (q:C.N=15) hP=>?_
 have y:=aL hP
 unfold cF at h
 refine O.zR y fun K u=>?_
 refine wC rfl fun K v=>?_;simp [q];apply v
 apply wN;apply u
 obtain ⟨v8,a4,h⟩:=bS h
 refine O.seqRC rfl (y _ rfl) [6] [] (fun _:Unit=>⟨[(6,.t (vb v8))],[]⟩) (fun _=>True) (fun _ _=>?_) fun K5 a7=>?_
 rotate_left
 ·refine wC rfl fun K v=>?_;simp [q];apply v
  iterate 3 (refine wC rfl fun K v=>?_;simp [q];apply v)
  rcases aA a4 with ⟨a6,a4⟩ | ⟨a5,a4⟩
  ·have a2:=a6
   try simp at a2
   iterate 5 (refine wC rfl fun K v=>?_;simp [q,a6,a2];apply v)
   refine wN ?_
   cases a4
   exact a7 _ () [] trivial (by simp [q,a6,a2])
  ·have a0:=a5
   try simp at a0
   iterate 3 (refine wO fun K v=>?_;simp [q,a5,a0];apply v)
   iterate 2 (refine wC rfl fun K v=>?_;simp [q,a5,a0];apply v)
   refine wN ?_
   cases a4
   exact a7 _ () [] trivial (by simp [q,a5,a0])
 cases h
 refine O.ret ?_
 simp [aC,iB,res30]
theorem res41:Tryz.f41.results.toList=[.tmp 4]:=rfl
theorem ent41:aF E.P 41:=eO Tryz.func41 (by simp [Tryz.f41]) rfl
theorem vO (p1:GProgram) (a0:ByteArray) {r0:Int} (h:mN p1 a0=some r0):Ok E 41 [.val (GProgram.enc false p1),.val (vs a0)] [vi r0] []:=by
 refine oB Tryz.func41 rfl (by simp [Tryz.f41]) fun C (q:C.N=21) hP=>?_
 have u:=aL hP
 unfold mN at h
 refine O.zR u fun K w=>?_
 iterate 2 (refine wC rfl fun K z=>?_;simp [q];apply z)
 apply wN;apply w
 obtain ⟨j5,b1,h⟩:=bS h
 refine O.seqC [] [] (fun v:Unit=>⟨[],[]⟩) (fun v=>j5=Sum.inl v) (fun v hv=>?_) fun K4 b2=>?_
 rotate_left
 ·refine O.zR u fun K w=>?_
  iterate 4 (refine wC rfl fun K z=>?_;simp [q];apply z)
  apply wN;apply w
  refine O.block ?_
  refine O.loopO [] [1,8,9,10] [] (fun v:Int=>⟨[(1,.t (vs a0)),(8,.t (.sl false 5 (List.map (GFn.enc false) p1.Fns))),(9,.t (vi (p1.Fns.length:Int))),(10,.t (vi v))],[]⟩) (iN p1 a0) _ 0 b1 (by simp [q]) ?_
  intro g s9 h7 b0
  obtain ⟨v6,hg⟩:∃ y,y=g:=⟨_,rfl⟩
  subst hg
  simp only [iN] at h7
  try dsimp only
  refine O.zR u fun K w=>?_
  refine wC rfl fun K z=>?_;simp [q];apply z
  apply wN;apply w
  refine O.seq ?_
  rcases aA h7 with ⟨a5,h7⟩ | ⟨a6,h7⟩
  ·refine O.cT' (by simp) a5 ?_
   refine O.skip ?_
   refine O.seq ?_
   refine O.block ?_
   refine O.zR u fun K w=>?_
   refine wC rfl fun K z=>?_;simp [q];apply z
   obtain ⟨b5,a7,h7⟩:=bS h7
   obtain ⟨a1,a2,a3,a4⟩:=gS a7
   iterate 5 (refine wC rfl fun K z=>?_;simp [q,a1,a2,a3,a4];apply z)
   apply wN;apply w
   refine O.zR u fun K w=>?_
   iterate 4 (refine wC rfl fun K z=>?_;simp [q];apply z)
   apply wN;apply w
   rcases aA h7 with ⟨a8,h7⟩ | ⟨a9,h7⟩
   ·refine O.cT' (by simp) a8 ?_
    refine O.zR u fun K w=>?_
    iterate 2 (refine wC rfl fun K z=>?_;simp [q];apply z)
    apply wN;apply w
    have b3:=congrArg some (b0 _ (Option.some.inj h7).symm)
    cases b3
    try dsimp only at h
    cases h
    refine O.ret ?_
    simp [aC,iB,res41]
   ·refine O.cF' (by simp) a9 ?_
    refine O.skip ?_
    refine O.zG u fun K w=>?_
    iterate 2 (refine wC rfl fun K z=>?_;simp [q];apply z)
    apply wN;apply w
    cases h7
    exact ⟨_,[],rfl,by simp [q]⟩
  ·refine O.cF' (by simp) a6 ?_
   refine O.exit ?_
   have b4:=congrArg some (b0 _ (Option.some.inj h7).symm)
   cases b4
   exact b2 _ _ [] rfl (by simp [q])
 subst hv
 obtain ⟨⟩:=v
 try dsimp only at h ⊢
 refine O.zR u fun K w=>?_
 refine wC rfl fun K z=>?_;simp [q];apply z
 apply wN;apply w
 cases h
 refine O.ret ?_
 simp [aC,iB,res41]
theorem res98:Tryz.f98.results.toList=[.tmp 2]:=rfl
theorem ent98:aF E.P 98:=eO Tryz.func98 (by simp [Tryz.f98]) rfl
theorem qI (a3:Int) {r0:Bool} (h:eR a3=some r0):Ok E 98 [.val (vi a3)] [vb r0] []:=by
 refine oB Tryz.func98 rfl (by simp [Tryz.f98]) fun C (q:C.N=9) hP=>?_
 have y:=aL hP
 unfold eR at h
 refine O.zR y fun K u=>?_
 refine wC rfl fun K v=>?_;simp [q];apply v
 apply wN;apply u
 obtain ⟨a7,a1,h⟩:=bS h
 refine O.seqRC rfl (y _ rfl) [2] [] (fun _:Unit=>⟨[(2,.t (vb a7))],[]⟩) (fun _=>True) (fun _ _=>?_) fun K3 a6=>?_
 rotate_left
 ·refine wC rfl fun K v=>?_;simp [q];apply v
  obtain ⟨r4,a8,a1⟩:=bS a1
  refine wL [(.take,.tmp 3),(.take,.const (.int .i64 2)),(.take,.const (.int .i64 6))] rfl rfl lG (aU _ _ _ a8) fun K v=>?_;simp [q];apply v
  refine wC rfl fun K v=>?_;simp [q];apply v
  rcases aA a1 with ⟨a5,a1⟩ | ⟨a4,a1⟩
  ·have a2:=a5
   try simp at a2
   iterate 2 (refine wO fun K v=>?_;simp [q,a5,a2];apply v)
   iterate 2 (refine wC rfl fun K v=>?_;simp [q,a5,a2];apply v)
   refine wN ?_
   cases a1
   exact a6 _ () [] trivial (by simp [q,a5,a2])
  ·have a0:=a4
   try simp at a0
   refine wC rfl fun K v=>?_;simp [q,a4,a0];apply v
   obtain ⟨r8,a9,a1⟩:=bS a1
   refine wL [(.take,.tmp 6),(.take,.const (.int .i64 12)),(.take,.const (.int .i64 15))] rfl rfl lG (aU _ _ _ a9) fun K v=>?_;simp [q,a4,a0];apply v
   iterate 2 (refine wC rfl fun K v=>?_;simp [q,a4,a0];apply v)
   refine wN ?_
   cases a1
   exact a6 _ () [] trivial (by simp [q,a4,a0])
 cases h
 refine O.ret ?_
 simp [aC,iB,res98]
theorem res123:Tryz.f123.results.toList=[.tmp 2]:=rfl
theorem aNk:aF E.P 123:=eO Tryz.func123 (by simp [Tryz.f123]) rfl
theorem pD (b1:Int) {r0:Bool} (h:gH b1=some r0):Ok E 123 [.val (vk .u8 b1)] [vb r0] []:=by
 refine oB Tryz.func123 rfl (by simp [Tryz.f123]) fun C (q:C.N=9) hP=>?_
 have y:=aL hP
 unfold gH at h
 refine O.zR y fun K u=>?_
 refine wC rfl fun K v=>?_;simp [q];apply v
 apply wN;apply u
 obtain ⟨v6,a2,h⟩:=bS h
 refine O.seqRC rfl (y _ rfl) [2] [] (fun _:Unit=>⟨[(2,.t (vb v6))],[]⟩) (fun _=>True) (fun _ _=>?_) fun K3 a5=>?_
 rotate_left
 ·refine wC rfl fun K v=>?_;simp [q];apply v
  iterate 2 (refine wC rfl fun K v=>?_;simp [q];apply v)
  rcases aA a2 with ⟨a4,a2⟩ | ⟨a3,a2⟩
  ·have a1:=a4
   try simp at a1
   iterate 4 (refine wC rfl fun K v=>?_;simp [q,a4,a1];apply v)
   refine wN ?_
   cases a2
   exact a5 _ () [] trivial (by simp [q,a4,a1])
  ·have a0:=a3
   try simp at a0
   iterate 2 (refine wO fun K v=>?_;simp [q,a3,a0];apply v)
   iterate 2 (refine wC rfl fun K v=>?_;simp [q,a3,a0];apply v)
   refine wN ?_
   cases a2
   exact a5 _ () [] trivial (by simp [q,a3,a0])
 cases h
 refine O.ret ?_
 simp [aC,iB,res123]
theorem res124:Tryz.f124.results.toList=[.tmp 2]:=rfl
theorem ent124:aF E.P 124:=eO Tryz.func124 (by simp [Tryz.f124]) rfl
theorem wJ (b1:Int) {r0:Bool} (h:jD b1=some r0):Ok E 124 [.val (vk .u8 b1)] [vb r0] []:=by
 refine oB Tryz.func124 rfl (by simp [Tryz.f124]) fun C (q:C.N=9) hP=>?_
 have y:=aL hP
 unfold jD at h
 refine O.zR y fun K u=>?_
 refine wC rfl fun K v=>?_;simp [q];apply v
 apply wN;apply u
 obtain ⟨v6,a2,h⟩:=bS h
 refine O.seqRC rfl (y _ rfl) [2] [] (fun _:Unit=>⟨[(2,.t (vb v6))],[]⟩) (fun _=>True) (fun _ _=>?_) fun K3 a5=>?_
 rotate_left
 ·refine wC rfl fun K v=>?_;simp [q];apply v
  iterate 2 (refine wC rfl fun K v=>?_;simp [q];apply v)
  rcases aA a2 with ⟨a4,a2⟩ | ⟨a3,a2⟩
  ·have a1:=a4
   try simp at a1
   iterate 4 (refine wC rfl fun K v=>?_;simp [q,a4,a1];apply v)
   refine wN ?_
   cases a2
   exact a5 _ () [] trivial (by simp [q,a4,a1])
  ·have a0:=a3
   try simp at a0
   iterate 2 (refine wO fun K v=>?_;simp [q,a3,a0];apply v)
   iterate 2 (refine wC rfl fun K v=>?_;simp [q,a3,a0];apply v)
   refine wN ?_
   cases a2
   exact a5 _ () [] trivial (by simp [q,a3,a0])
 cases h
 refine O.ret ?_
 simp [aC,iB,res124]
end Go.Proofs.T
namespace Go.Proofs
open Go.Shelf
def Tryz.laysM171_ren:Go.Shelf.Ren:=⟨fun | 171=>74 | 243=>99 | 246=>115 | 283=>127 | 284=>128 | 285=>129 | 286=>130 | 129=>139 | 317=>138 | 318=>140 | 319=>141 | 320=>142 | 337=>155 | 338=>156 | n=>n,fun | 3=>3 | 9=>9 | 2=>2 | 4=>4 | 171=>124 | 0=>0 | 53=>125 | 37=>95 | 5=>5 | 173=>128 | 212=>137 | 51=>138 | 20=>20 | 213=>139 | 46=>134 | 232=>158 | 233=>159 | n=>n,fun | 17=>0 | 18=>1 | 19=>2 | n=>n⟩
theorem Tryz.laysM171:Go.Proofs.LaysM.n171 Tryz.prog Tryz.laysM171_ren:={
 mixed:=by kernel_rfl
 f129:=Tryz.func139.trans (congrArg some (by kernel_rfl))
 f171:=Tryz.func74.trans (congrArg some (by kernel_rfl))
 f243:=Tryz.func99.trans (congrArg some (by kernel_rfl))
 f246:=Tryz.func115.trans (congrArg some (by kernel_rfl))
 f283:=Tryz.func127.trans (congrArg some (by kernel_rfl))
 f284:=Tryz.func128.trans (congrArg some (by kernel_rfl))
 f285:=Tryz.func129.trans (congrArg some (by kernel_rfl))
 f286:=Tryz.func130.trans (congrArg some (by kernel_rfl))
 f317:=Tryz.func138.trans (congrArg some (by kernel_rfl))
 f318:=Tryz.func140.trans (congrArg some (by kernel_rfl))
 f319:=Tryz.func141.trans (congrArg some (by kernel_rfl))
 f320:=Tryz.func142.trans (congrArg some (by kernel_rfl))
 f337:=Tryz.func155.trans (congrArg some (by kernel_rfl))
 f338:=Tryz.func156.trans (congrArg some (by kernel_rfl))
 t0:=Tryz.underlying0
 a0:=Tryz.isAgg0
 z0:=Tryz.sizeOf0
 v0:=Tryz.zeroValue0
 t2:=Tryz.underlying2
 a2:=Tryz.isAgg2
 z2:=Tryz.sizeOf2
 v2:=Tryz.zeroValue2
 t3:=Tryz.underlying3
 a3:=Tryz.isAgg3
 z3:=Tryz.sizeOf3
 v3:=Tryz.zeroValue3
 t4:=Tryz.underlying4
 a4:=Tryz.isAgg4
 z4:=Tryz.sizeOf4
 v4:=Tryz.zeroValue4
 t5:=Tryz.underlying5
 a5:=Tryz.isAgg5
 z5:=Tryz.sizeOf5
 v5:=Tryz.zeroValue5
 t9:=Tryz.underlying9
 a9:=Tryz.isAgg9
 z9:=Tryz.sizeOf9
 v9:=Tryz.zeroValue9
 t20:=Tryz.underlying20
 a20:=Tryz.isAgg20
 z20:=Tryz.sizeOf20
 v20:=Tryz.zeroValue20
 t37:=Tryz.underlying95
 a37:=Tryz.isAgg95
 z37:=Tryz.sizeOf95
 v37:=Tryz.zeroValue95
 t46:=Tryz.underlying134
 a46:=Tryz.isAgg134
 z46:=Tryz.sizeOf134
 v46:=Tryz.zeroValue134
 t51:=Tryz.underlying138
 a51:=Tryz.isAgg138
 z51:=Tryz.sizeOf138
 v51:=Tryz.zeroValue138
 t53:=Tryz.underlying125
 a53:=Tryz.isAgg125
 z53:=Tryz.sizeOf125
 v53:=Tryz.zeroValue125
 t171:=Tryz.underlying124
 a171:=Tryz.isAgg124
 z171:=Tryz.sizeOf124
 v171:=Tryz.zeroValue124
 t173:=Tryz.underlying128
 a173:=Tryz.isAgg128
 z173:=Tryz.sizeOf128
 v173:=Tryz.zeroValue128
 t212:=Tryz.underlying137
 a212:=Tryz.isAgg137
 z212:=Tryz.sizeOf137
 v212:=Tryz.zeroValue137
 t213:=Tryz.underlying139
 a213:=Tryz.isAgg139
 z213:=Tryz.sizeOf139
 t232:=Tryz.underlying158
 a232:=Tryz.isAgg158
 z232:=Tryz.sizeOf158
 v232:=Tryz.zeroValue158
 t233:=Tryz.underlying159
 a233:=Tryz.isAgg159
 z233:=Tryz.sizeOf159
 v233:=Tryz.zeroValue159
 g17:=by kernel_rfl
 g18:=by kernel_rfl
 g19:=by kernel_rfl
 i0:=by kernel_rfl
 i2:=by kernel_rfl
 i3:=by kernel_rfl
 i4:=by kernel_rfl
 i5:=by kernel_rfl
 i9:=by kernel_rfl
 i20:=by kernel_rfl
 i37:=by kernel_rfl
 i46:=by kernel_rfl
 i51:=by kernel_rfl
 i53:=by kernel_rfl
 i171:=by kernel_rfl
 i173:=by kernel_rfl
 i212:=by kernel_rfl
 i232:=by kernel_rfl
 i233:=by kernel_rfl
 m17:=by kernel_rfl
 m18:=by kernel_rfl
 m19:=by kernel_rfl }
open Go.RowKit Go.Sort Go.Lib in
theorem Tryz.strconv_Itoa (n : Int) (h0 : -9223372036854775808 ≤ n) (h1 : n ≤ 9223372036854775807) (w : World) (htab : Lib.TabIs Tryz.prog w "internal/strconv.uint64pow10" .u64 Lib.pow10Tab) :
  Calls Tryz.prog 74 #[.int .i64 n] w fun e w'=>e = .returned (.string ⟨(Lib.itoa n).toArray⟩)∧∃ k os,w'=grow (w.drewN k) os:=Any.strconv_Itoa Tryz.laysM171 n h0 h1 w htab
def Tryz.lays191_ren:Go.Shelf.Ren:=⟨fun | 191=>114 | 189=>126 | 125=>137 | 257=>136 | 128=>154 | 129=>139 | 294=>145 | 295=>146 | 296=>147 | 297=>148 | 298=>149 | 299=>150 | 216=>151 | 300=>152 | 301=>153 | 328=>158 | 329=>159 | 330=>160 | 331=>161 | 332=>162 | 215=>163 | 343=>167 | n=>n,fun | 28=>51 | 0=>0 | 3=>3 | 46=>134 | 51=>138 | 53=>125 | 4=>4 | 183=>143 | 182=>142 | 131=>148 | 5=>5 | 9=>9 | 218=>152 | 222=>156 | 228=>162 | 229=>121 | n=>n,fun | n=>n⟩
theorem Tryz.lays191:Go.Proofs.Lays.n191 Tryz.prog Tryz.lays191_ren:={
 mixed:=by kernel_rfl
 f125:=Tryz.func137.trans (congrArg some (by kernel_rfl))
 f128:=Tryz.func154.trans (congrArg some (by kernel_rfl))
 f129:=Tryz.func139.trans (congrArg some (by kernel_rfl))
 f189:=Tryz.func126.trans (congrArg some (by kernel_rfl))
 f191:=Tryz.func114.trans (congrArg some (by kernel_rfl))
 f215:=Tryz.func163.trans (congrArg some (by kernel_rfl))
 f216:=Tryz.func151.trans (congrArg some (by kernel_rfl))
 f257:=Tryz.func136.trans (congrArg some (by kernel_rfl))
 f294:=Tryz.func145.trans (congrArg some (by kernel_rfl))
 f295:=Tryz.func146.trans (congrArg some (by kernel_rfl))
 f296:=Tryz.func147.trans (congrArg some (by kernel_rfl))
 f297:=Tryz.func148.trans (congrArg some (by kernel_rfl))
 f298:=Tryz.func149.trans (congrArg some (by kernel_rfl))
 f299:=Tryz.func150.trans (congrArg some (by kernel_rfl))
 f300:=Tryz.func152.trans (congrArg some (by kernel_rfl))
 f301:=Tryz.func153.trans (congrArg some (by kernel_rfl))
 f328:=Tryz.func158.trans (congrArg some (by kernel_rfl))
 f329:=Tryz.func159.trans (congrArg some (by kernel_rfl))
 f330:=Tryz.func160.trans (congrArg some (by kernel_rfl))
 f331:=Tryz.func161.trans (congrArg some (by kernel_rfl))
 f332:=Tryz.func162.trans (congrArg some (by kernel_rfl))
 f343:=Tryz.func167.trans (congrArg some (by kernel_rfl))
 t0:=Tryz.underlying0
 a0:=Tryz.isAgg0
 z0:=Tryz.sizeOf0
 v0:=Tryz.zeroValue0
 t3:=Tryz.underlying3
 a3:=Tryz.isAgg3
 z3:=Tryz.sizeOf3
 v3:=Tryz.zeroValue3
 t4:=Tryz.underlying4
 a4:=Tryz.isAgg4
 z4:=Tryz.sizeOf4
 v4:=Tryz.zeroValue4
 t5:=Tryz.underlying5
 a5:=Tryz.isAgg5
 z5:=Tryz.sizeOf5
 v5:=Tryz.zeroValue5
 t9:=Tryz.underlying9
 a9:=Tryz.isAgg9
 z9:=Tryz.sizeOf9
 v9:=Tryz.zeroValue9
 t28:=Tryz.underlying51
 a28:=Tryz.isAgg51
 z28:=Tryz.sizeOf51
 v28:=Tryz.zeroValue51
 t46:=Tryz.underlying134
 a46:=Tryz.isAgg134
 z46:=Tryz.sizeOf134
 v46:=Tryz.zeroValue134
 t51:=Tryz.underlying138
 a51:=Tryz.isAgg138
 z51:=Tryz.sizeOf138
 v51:=Tryz.zeroValue138
 t53:=Tryz.underlying125
 a53:=Tryz.isAgg125
 z53:=Tryz.sizeOf125
 v53:=Tryz.zeroValue125
 t131:=Tryz.underlying148
 a131:=Tryz.isAgg148
 z131:=Tryz.sizeOf148
 v131:=Tryz.zeroValue148
 t182:=Tryz.underlying142
 a182:=Tryz.isAgg142
 z182:=Tryz.sizeOf142
 v182:=Tryz.zeroValue142
 t183:=Tryz.underlying143
 a183:=Tryz.isAgg143
 z183:=Tryz.sizeOf143
 v183:=Tryz.zeroValue143
 t218:=Tryz.underlying152
 a218:=Tryz.isAgg152
 z218:=Tryz.sizeOf152
 v218:=Tryz.zeroValue152
 t222:=Tryz.underlying156
 a222:=Tryz.isAgg156
 z222:=Tryz.sizeOf156
 v222:=Tryz.zeroValue156
 t228:=Tryz.underlying162
 a228:=Tryz.isAgg162
 z228:=Tryz.sizeOf162
 v228:=Tryz.zeroValue162
 t229:=Tryz.underlying121
 a229:=Tryz.isAgg121
 z229:=Tryz.sizeOf121
 v229:=Tryz.zeroValue121 }
open Go.Sort Go.RowKit in
theorem Tryz.sort_Ints (blk off cap:Nat) (zs:List Int) (w:World) (hH:Holds (Value.int .i64) w blk off zs.toArray) (hblk:blk < w.heap.size) (hsz:zs.length < 4611686018427387904) :
  Calls Tryz.prog 114 #[.slice (some ⟨blk,off,none⟩) zs.length cap] w fun e w' =>
   e = .returned (.tuple #[])∧∃ n os,w'=grow (putRow (Value.int .i64) (Sort.ahead w n) blk off (zs.mergeSort fun x y=>decide (x ≤ y)).toArray) os:=Any.sort_Ints Tryz.lays191 blk off cap zs w hH hblk hsz
def Tryz.lays146_ren:Go.Shelf.Ren:=⟨fun | 146=>144 | 221=>157 | 268=>164 | 138=>165 | 143=>166 | 195=>168 | 197=>169 | 218=>170 | 219=>171 | 260=>172 | 217=>173 | 225=>174 | 224=>175 | 267=>176 | 266=>177 | 314=>178 | n=>n,fun | 9=>9 | 31=>73 | 3=>3 | 4=>4 | 0=>0 | 105=>165 | 21=>21 | 5=>5 | 46=>134 | 119=>168 | 139=>171 | 138=>170 | 146=>172 | 51=>138 | n=>n,fun | 1=>3 | 3=>4 | 4=>5 | n=>n⟩
theorem Tryz.lays146:Go.Proofs.Lays.n146 Tryz.prog Tryz.lays146_ren:={
 mixed:=by kernel_rfl
 f138:=Tryz.func165.trans (congrArg some (by kernel_rfl))
 f143:=Tryz.func166.trans (congrArg some (by kernel_rfl))
 f146:=Tryz.func144.trans (congrArg some (by kernel_rfl))
 f195:=Tryz.func168.trans (congrArg some (by kernel_rfl))
 f197:=Tryz.func169.trans (congrArg some (by kernel_rfl))
 f217:=Tryz.func173.trans (congrArg some (by kernel_rfl))
 f218:=Tryz.func170.trans (congrArg some (by kernel_rfl))
 f219:=Tryz.func171.trans (congrArg some (by kernel_rfl))
 f221:=Tryz.func157.trans (congrArg some (by kernel_rfl))
 f224:=Tryz.func175.trans (congrArg some (by kernel_rfl))
 f225:=Tryz.func174.trans (congrArg some (by kernel_rfl))
 f260:=Tryz.func172.trans (congrArg some (by kernel_rfl))
 f266:=Tryz.func177.trans (congrArg some (by kernel_rfl))
 f267:=Tryz.func176.trans (congrArg some (by kernel_rfl))
 f268:=Tryz.func164.trans (congrArg some (by kernel_rfl))
 f314:=Tryz.func178.trans (congrArg some (by kernel_rfl))
 t0:=Tryz.underlying0
 a0:=Tryz.isAgg0
 z0:=Tryz.sizeOf0
 v0:=Tryz.zeroValue0
 t3:=Tryz.underlying3
 a3:=Tryz.isAgg3
 z3:=Tryz.sizeOf3
 v3:=Tryz.zeroValue3
 t4:=Tryz.underlying4
 a4:=Tryz.isAgg4
 z4:=Tryz.sizeOf4
 v4:=Tryz.zeroValue4
 t5:=Tryz.underlying5
 a5:=Tryz.isAgg5
 z5:=Tryz.sizeOf5
 v5:=Tryz.zeroValue5
 t9:=Tryz.underlying9
 a9:=Tryz.isAgg9
 z9:=Tryz.sizeOf9
 v9:=Tryz.zeroValue9
 t21:=Tryz.underlying21
 a21:=Tryz.isAgg21
 z21:=Tryz.sizeOf21
 v21:=Tryz.zeroValue21
 t31:=Tryz.underlying73
 a31:=Tryz.isAgg73
 z31:=Tryz.sizeOf73
 v31:=Tryz.zeroValue73
 t46:=Tryz.underlying134
 a46:=Tryz.isAgg134
 z46:=Tryz.sizeOf134
 v46:=Tryz.zeroValue134
 t51:=Tryz.underlying138
 a51:=Tryz.isAgg138
 z51:=Tryz.sizeOf138
 v51:=Tryz.zeroValue138
 t105:=Tryz.underlying165
 a105:=Tryz.isAgg165
 z105:=Tryz.sizeOf165
 v105:=Tryz.zeroValue165
 t119:=Tryz.underlying168
 a119:=Tryz.isAgg168
 z119:=Tryz.sizeOf168
 t138:=Tryz.underlying170
 a138:=Tryz.isAgg170
 z138:=Tryz.sizeOf170
 v138:=Tryz.zeroValue170
 t139:=Tryz.underlying171
 a139:=Tryz.isAgg171
 z139:=Tryz.sizeOf171
 v139:=Tryz.zeroValue171
 t146:=Tryz.underlying172
 a146:=Tryz.isAgg172
 z146:=Tryz.sizeOf172
 v146:=Tryz.zeroValue172
 g1:=by kernel_rfl
 g3:=by kernel_rfl
 g4:=by kernel_rfl }
open Go.RowKit Go.Lib in
theorem Tryz.strings_Split (s sep:ByteArray) (m:Int) (w:World) (hs:s.size < 4294967281) (hm:w.cell? ⟨3,0,none⟩=some (.int .i64 m)) (h1:1 ≤ sep.size) :
  Calls Tryz.prog 144 #[.string s,.string sep] w fun e w' =>
   e = .returned (.slice (some ⟨w.heap.size,0,none⟩) (Lib.countB s sep + 1) (Lib.countB s sep + 1))∧w'=w.alloc (.cells ((Lib.splitB sep 0 (Lib.countB s sep) s).map Value.string).toArray 9):=Any.strings_Split Tryz.lays146 (by kernel_rfl) s sep m w hs hm h1
open Go.RowKit Go.Sort in
theorem Tryz.sort_Ints_none (p:Option Addr) (cap:Nat) (w:World) :
  Calls Tryz.prog 114 #[.slice p 0 cap] w fun e w'=>e = .returned (.tuple #[])∧w'=w:=Any.sort_Ints_none Tryz.lays191 p cap w
end Go.Proofs
namespace Go.Proofs.T
open Go.OM
theorem ent144:aF E.P 144:=eO Tryz.func144 (by simp [Tryz.f144]) rfl
theorem aG3 {w:World} (h:E.Gl w):∃ m,w.cell? ⟨3,0,none⟩=some (.int .i64 m):=by
 obtain ⟨cs,t,fr,h1,m,h2⟩:=h _ (List.mem_cons_self ..)
 refine ⟨m,?_⟩
 have h1':w.heap[3]? = some (.cells cs t fr):=h1
 simp [World.cell?,h1',h2]
theorem vR (s sep:ByteArray) {r0:List ByteArray} (h:strings_Split s sep=some r0):Ok E 144 [.val (vs s),.val (vs sep)] [.sl true 1 (List.map vs r0)] []:=by
 unfold strings_Split at h
 split at h
 case isFalse=>cases h
 rename_i hr
 injection h with h
 subst h
 have:=aMj (E:=E) (f:=144) (ty:=9) (xs:=[.string s,.string sep]) (es:=(Lib.splitB sep 0 (Lib.countB s sep) s).map Value.string) (by simp [TA.OneCell]) fun w hw=>by
  obtain ⟨m,hm⟩:=aG3 hw
  have h1:=Tryz.strings_Split s sep m w hr.1 hm hr.2.1
  refine h1.mono fun e w' ⟨h2,h3⟩=>⟨?_,h3⟩
  rw [h2,List.length_map,hr.2.2]
  try rfl
 rw [List.map_map] at this
 exact this
theorem aNm:aF E.P 114:=eO Tryz.func114 (by simp [Tryz.f114]) rfl
theorem vL (l:List Int) {r0:List Int} (h:sort_Ints l=some r0):OkIO E 114 [.val (.sl true 1 (List.map vi l))] [] [] [(0,.sl true 1 (List.map vi r0))]:=by
 unfold sort_Ints at h
 split at h
 case isFalse=>cases h
 rename_i hr
 injection h with h
 subst h
 exact aMh (fun blk off cap zs w h1 h2 h3=>Tryz.sort_Ints blk off cap zs w h1 h2 h3) (fun p cap w=>Tryz.sort_Ints_none p cap w) l hr
theorem ent74:aF E.P 74:=eO Tryz.func74 (by simp [Tryz.f74]) rfl
theorem pow10_named : Tryz.prog.globalNamed "internal/strconv.uint64pow10" = some 0 := by kernel_rfl
theorem aKf {w : World} (h : E.Gl w) : Lib.TabIs Tryz.prog w "internal/strconv.uint64pow10" .u64 Lib.pow10Tab := by
 obtain ⟨cs,t,fr,h1,h2⟩:=h _ (List.mem_cons_of_mem _ (List.mem_singleton.2 rfl))
 unfold Lib.TabIs World.var?
 rw [pow10_named]
 have h1':w.heap[0]? = some (.cells cs t fr):=h1
 simp only [Option.bind_some,h1']
 exact congrArg some h2
theorem xN (n:Int) {r0:ByteArray} (h:strconv_Itoa n=some r0):Ok E 74 [.val (vi n)] [vs r0] []:=by
 unfold strconv_Itoa at h
 split at h
 case isFalse=>cases h
 rename_i hr
 injection h with h
 subst h
 exact aMi (xs:=[.int .i64 n]) (rs:=[.string ⟨(Lib.itoa n).toArray⟩]) (by simp [TA.OneCell]) fun w hw=>Tryz.strconv_Itoa n hr.1 hr.2 w (aKf hw)
theorem aN9:Tryz.f135.results.toList=[.tmp 4]:=rfl
theorem ent135:aF E.P 135:=eO Tryz.func135 (by simp [Tryz.f135]) rfl
theorem aD4 (s1:ByteArray) (a0:ByteArray) {r0:Bool} (h:qW s1 a0=some r0):Ok E 135 [.val (vs s1),.val (vs a0)] [vb r0] []:=by
 refine oB Tryz.func135 rfl (by simp [Tryz.f135]) fun C (q:C.N=18) hP=>?_
 have u:=aL hP
 unfold qW at h
 refine O.zR u fun K w=>?_
 refine wC rfl fun K z=>?_;simp [q];apply z
 apply wN;apply w
 obtain ⟨j5,a6,h⟩:=bS h
 refine O.seqC [] [] (fun v:Unit=>⟨[],[]⟩) (fun v=>j5=Sum.inl v) (fun v hv=>?_) fun K4 b2=>?_
 rotate_left
 ·refine O.zR u fun K w=>?_
  refine wC rfl fun K z=>?_;simp [q];apply z
  obtain ⟨r6,b3,a6⟩:=bS a6
  refine wL [(.take,.tmp 7),(.take,.const (.string (⟨#[32]⟩:ByteArray)))] rfl rfl ent144 (vR _ _ b3) fun K z=>?_;simp [q];apply z
  iterate 2 (refine wC rfl fun K z=>?_;simp [q];apply z)
  apply wN;apply w
  refine O.block ?_
  refine O.loopO [] [0,8,9,10] [] (fun v:Int=>⟨[(0,.t (vs s1)),(8,.t (.sl true 1 (List.map vs r6))),(9,.t (vi (r6.length:Int))),(10,.t (vi v))],[]⟩) (jB s1 r6) _ 0 a6 (by simp [q]) ?_
  intro g b6 h9 a1
  obtain ⟨v8,hg⟩:∃ y,y=g:=⟨_,rfl⟩
  subst hg
  simp only [jB] at h9
  try dsimp only
  refine O.zR u fun K w=>?_
  refine wC rfl fun K z=>?_;simp [q];apply z
  apply wN;apply w
  refine O.seq ?_
  rcases aA h9 with ⟨a7,h9⟩ | ⟨a8,h9⟩
  ·refine O.cT' (by simp) a7 ?_
   refine O.skip ?_
   refine O.seq ?_
   refine O.block ?_
   refine O.zR u fun K w=>?_
   obtain ⟨b7,a9,h9⟩:=bS h9
   obtain ⟨a2,a3,a4,a5⟩:=gS a9
   iterate 3 (refine wC rfl fun K z=>?_;simp [q,a2,a3,a4,a5];apply z)
   apply wN;apply w
   refine O.zR u fun K w=>?_
   iterate 3 (refine wC rfl fun K z=>?_;simp [q];apply z)
   apply wN;apply w
   rcases aA h9 with ⟨b0,h9⟩ | ⟨b1,h9⟩
   ·refine O.cT' (by simp) b0 ?_
    refine O.zR u fun K w=>?_
    refine wC rfl fun K z=>?_;simp [q];apply z
    apply wN;apply w
    have b4:=congrArg some (a1 _ (Option.some.inj h9).symm)
    cases b4
    try dsimp only at h
    cases h
    refine O.ret ?_
    simp [aC,iB,aN9]
   ·refine O.cF' (by simp) b1 ?_
    refine O.skip ?_
    refine O.zG u fun K w=>?_
    iterate 2 (refine wC rfl fun K z=>?_;simp [q];apply z)
    apply wN;apply w
    cases h9
    exact ⟨_,[],rfl,by simp [q]⟩
  ·refine O.cF' (by simp) a8 ?_
   refine O.exit ?_
   have b5:=congrArg some (a1 _ (Option.some.inj h9).symm)
   cases b5
   exact b2 _ _ [] rfl (by simp [q])
 subst hv
 obtain ⟨⟩:=v
 try dsimp only at h ⊢
 refine O.zR u fun K w=>?_
 refine wC rfl fun K z=>?_;simp [q];apply z
 apply wN;apply w
 cases h
 refine O.ret ?_
 simp [aC,iB,aN9]
theorem res125:Tryz.f125.results.toList=[.tmp 2]:=rfl
theorem ent125:aF E.P 125:=eO Tryz.func125 (by simp [Tryz.f125]) rfl
theorem zT (s1:ByteArray) {r0:Bool} (h:kT s1=some r0):Ok E 125 [.val (vs s1)] [vb r0] []:=by
 refine oB Tryz.func125 rfl (by simp [Tryz.f125]) fun C (q:C.N=5) hP=>?_
 have y:=aL hP
 unfold kT at h
 refine O.zR y fun K u=>?_
 refine wC rfl fun K v=>?_;simp [q];apply v
 apply wN;apply u
 refine O.zR y fun K u=>?_
 refine wC rfl fun K v=>?_;simp [q];apply v
 obtain ⟨r2,a0,h⟩:=bS h
 refine wL [(.take,.tmp 3),(.take,.const (.string (⟨#[102,110,32,108,101,116,32,105,102,32,101,108,115,101,32,119,104,105,108,101,32,112,114,105,110,116,32,100,111,32,110,101,119,32,99,108,111,110,101,32,109,117,116,32,105,110,112,117,116,32,105,110,116,32,98,111,120,32,114,101,116]⟩:ByteArray)))] rfl rfl ent135 (aD4 _ _ a0) fun K v=>?_;simp [q];apply v
 refine wC rfl fun K v=>?_;simp [q];apply v
 apply wN;apply u
 cases h
 refine O.ret ?_
 simp [aC,iB,res125]
theorem aKa:Tryz.f107.results.toList=[.tmp 2]:=rfl
theorem aKz:aF E.P 107:=eO Tryz.func107 (by simp [Tryz.f107]) rfl
theorem nF (s1:ByteArray) {r0:Bool} (h:iD s1=some r0):Ok E 107 [.val (vs s1)] [vb r0] []:=by
 refine oB Tryz.func107 rfl (by simp [Tryz.f107]) fun C (q:C.N=35) hP=>?_
 have u:=aL hP
 unfold iD at h
 refine O.zR u fun K w=>?_
 refine wC rfl fun K z=>?_;simp [q];apply z
 apply wN;apply w
 refine O.seq ?_
 obtain ⟨d5,a8,h⟩:=bS h
 refine O.seqRC rfl (u _ rfl) [0,13] [] (fun _:Unit=>⟨[(0,.t (vs s1)),(13,.t (vb d5))],[]⟩) (fun _=>True) (fun _ _=>?_) fun K3 d4=>?_
 rotate_left
 ·refine wC rfl fun K z=>?_;simp [q];apply z
  refine wC rfl fun K z=>?_;simp [q];apply z
  obtain ⟨r4,d6,a8⟩:=bS a8
  refine wL [(.take,.tmp 5),(.take,.const (.int .i64 1)),(.take,.const (.int .i64 8))] rfl rfl lG (aU _ _ _ d6) fun K z=>?_;simp [q];apply z
  iterate 2 (refine wC rfl fun K z=>?_;simp [q];apply z)
  rcases aA a8 with ⟨b9,a8⟩ | ⟨b6,a8⟩
  ·have b0:=b9
   try simp at b0
   iterate 4 (refine wO fun K z=>?_;simp [q,b9,b0];apply z)
   refine wC rfl fun K z=>?_;simp [q,b9,b0];apply z
   refine wN ?_
   cases a8
   exact d4 _ () [] trivial (by simp [q,b9,b0])
  ·have a6:=b6
   try simp at a6
   refine wC rfl fun K z=>?_;simp [q,b6,a6];apply z
   obtain ⟨c8,d7,a8⟩:=bS a8
   obtain ⟨b1,b2,b3⟩:=wT d7
   have b4:0 < s1.size:=by omega
   refine wC rfl fun K z=>?_;simp [q,b6,a6,b1,b2,b3,b4];apply z
   obtain ⟨r9,c0,a8⟩:=bS a8
   refine wL [(.take,.tmp 10)] rfl rfl aNk (pD _ c0) fun K z=>?_;simp [q,b6,a6,b1,b2,b3,b4];apply z
   iterate 2 (refine wC rfl fun K z=>?_;simp [q,b6,a6,b1,b2,b3,b4];apply z)
   refine wN ?_
   cases a8
   exact d4 _ () [] trivial (by simp [q,b6,a6,b1,b2,b3,b4])
 rcases aA h with ⟨c1,h⟩ | ⟨c2,h⟩
 ·refine O.cT' (by simp) c1 ?_
  refine O.zR u fun K w=>?_
  refine wC rfl fun K z=>?_;simp [q];apply z
  apply wN;apply w
  cases h
  refine O.ret ?_
  simp [aC,iB,aKa]
 ·refine O.cF' (by simp) c2 ?_
  refine O.skip ?_
  obtain ⟨d8,c3,h⟩:=bS h
  refine O.seqC [0] [] (fun v:Unit=>⟨[(0,.t (vs s1))],[]⟩) (fun v=>d8=Sum.inl v) (fun v hv=>?_) fun e3 c4=>?_
  rotate_left
  ·refine O.zR u fun K w=>?_
   refine wC rfl fun K z=>?_;simp [q];apply z
   apply wN;apply w
   refine O.block ?_
   refine O.loopO [] [0,3] [] (fun v:Int=>⟨[(0,.t (vs s1)),(3,.t (vi v))],[]⟩) (fM s1) _ 0 c3 (by simp [q]) ?_
   intro g e4 a7 b7
   obtain ⟨d9,hg⟩:∃ y,y=g:=⟨_,rfl⟩
   subst hg
   simp only [fM] at a7
   try dsimp only
   refine O.seq ?_
   refine O.zR u fun K w=>?_
   iterate 4 (refine wC rfl fun K z=>?_;simp [q];apply z)
   apply wN;apply w
   rcases aA a7 with ⟨c5,a7⟩ | ⟨c6,a7⟩
   ·refine O.cT' (by simp) c5 ?_
    refine O.skip ?_
    refine O.seq ?_
    refine O.block ?_
    obtain ⟨e0,a3,a7⟩:=bS a7
    refine O.seqRC rfl (u _ rfl) [0,3,31] [] (fun _:Unit=>⟨[(0,.t (vs s1)),(3,.t (vi d9)),(31,.t (vb e0))],[]⟩) (fun _=>True) (fun _ _=>?_) fun e5 b8=>?_
    rotate_left
    ·refine wC rfl fun K z=>?_;simp [q];apply z
     refine wC rfl fun K z=>?_;simp [q];apply z
     obtain ⟨e6,c7,a3⟩:=bS a3
     obtain ⟨a0,a1,a2⟩:=wT c7
     refine wC rfl fun K z=>?_;simp [q,a0,a1,a2];apply z
     obtain ⟨e7,c9,a3⟩:=bS a3
     refine wL [(.take,.tmp 22)] rfl rfl aNk (pD _ c9) fun K z=>?_;simp [q,a0,a1,a2];apply z
     iterate 2 (refine wC rfl fun K z=>?_;simp [q,a0,a1,a2];apply z)
     rcases aA a3 with ⟨a9,a3⟩ | ⟨b5,a3⟩
     ·have a4:=a9
      try simp at a4
      iterate 3 (refine wC rfl fun K z=>?_;simp [q,a0,a1,a2,a9,a4];apply z)
      obtain ⟨e8,d0,a3⟩:=bS a3
      refine wL [(.take,.tmp 28)] rfl rfl ent124 (wJ _ d0) fun K z=>?_;simp [q,a0,a1,a2,a9,a4];apply z
      iterate 2 (refine wC rfl fun K z=>?_;simp [q,a0,a1,a2,a9,a4];apply z)
      refine wN ?_
      cases a3
      exact b8 _ () [] trivial (by simp [q,a0,a1,a2,a9,a4])
     ·have a5:=b5
      try simp at a5
      iterate 5 (refine wO fun K z=>?_;simp [q,a0,a1,a2,b5,a5];apply z)
      refine wC rfl fun K z=>?_;simp [q,a0,a1,a2,b5,a5];apply z
      refine wN ?_
      cases a3
      exact b8 _ () [] trivial (by simp [q,a0,a1,a2,b5,a5])
    rcases aA a7 with ⟨d1,a7⟩ | ⟨d2,a7⟩
    ·refine O.cT' (by simp) d1 ?_
     refine O.zR u fun K w=>?_
     refine wC rfl fun K z=>?_;simp [q];apply z
     apply wN;apply w
     have e1:=congrArg some (b7 _ (Option.some.inj a7).symm)
     cases e1
     try dsimp only at h
     cases h
     refine O.ret ?_
     simp [aC,iB,aKa]
    ·refine O.cF' (by simp) d2 ?_
     refine O.skip ?_
     refine O.zG u fun K w=>?_
     iterate 3 (refine wC rfl fun K z=>?_;simp [q];apply z)
     apply wN;apply w
     cases a7
     exact ⟨_,[],rfl,by simp [q]⟩
   ·refine O.cF' (by simp) c6 ?_
    refine O.exit ?_
    have e2:=congrArg some (b7 _ (Option.some.inj a7).symm)
    cases e2
    exact c4 _ _ [] rfl (by simp [q])
  subst hv
  obtain ⟨⟩:=v
  try dsimp only at h ⊢
  refine O.zR u fun K w=>?_
  refine wC rfl fun K z=>?_;simp [q];apply z
  obtain ⟨e9,d3,h⟩:=bS h
  refine wL [(.take,.tmp 32)] rfl rfl ent125 (zT _ d3) fun K z=>?_;simp [q];apply z
  iterate 2 (refine wC rfl fun K z=>?_;simp [q];apply z)
  apply wN;apply w
  cases h
  refine O.ret ?_
  simp [aC,iB,aKa]
theorem aNc:Tryz.f113.results.toList=[.tmp 4]:=rfl
theorem aHu:aF E.P 113:=eO Tryz.func113 (by simp [Tryz.f113]) rfl
theorem jW (l1:List Int) (n2:Int) {r0:Bool} (h:iC l1 n2=some r0):Ok E 113 [.val (.sl false 1 (List.map vi l1)),.val (vi n2)] [vb r0] []:=by
 refine oB Tryz.func113 rfl (by simp [Tryz.f113]) fun C (q:C.N=17) hP=>?_
 have u:=aL hP
 unfold iC at h
 refine O.zR u fun K w=>?_
 refine wC rfl fun K z=>?_;simp [q];apply z
 apply wN;apply w
 obtain ⟨j5,b0,h⟩:=bS h
 refine O.seqC [] [] (fun v:Unit=>⟨[],[]⟩) (fun v=>j5=Sum.inl v) (fun v hv=>?_) fun K4 b1=>?_
 rotate_left
 ·refine O.zR u fun K w=>?_
  iterate 3 (refine wC rfl fun K z=>?_;simp [q];apply z)
  apply wN;apply w
  refine O.block ?_
  refine O.loopO [] [1,7,8,9] [] (fun v:Int=>⟨[(1,.t (vi n2)),(7,.t (.sl false 1 (List.map vi l1))),(8,.t (vi (l1.length:Int))),(9,.t (vi v))],[]⟩) (fH l1 n2) _ 0 b0 (by simp [q]) ?_
  intro g s9 h7 a9
  obtain ⟨v6,hg⟩:∃ y,y=g:=⟨_,rfl⟩
  subst hg
  simp only [fH] at h7
  try dsimp only
  refine O.zR u fun K w=>?_
  refine wC rfl fun K z=>?_;simp [q];apply z
  apply wN;apply w
  refine O.seq ?_
  rcases aA h7 with ⟨a4,h7⟩ | ⟨a5,h7⟩
  ·refine O.cT' (by simp) a4 ?_
   refine O.skip ?_
   refine O.seq ?_
   refine O.block ?_
   refine O.zR u fun K w=>?_
   obtain ⟨b4,a6,h7⟩:=bS h7
   obtain ⟨a0,a1,a2,a3⟩:=gS a6
   iterate 3 (refine wC rfl fun K z=>?_;simp [q,a0,a1,a2,a3];apply z)
   apply wN;apply w
   refine O.zR u fun K w=>?_
   iterate 3 (refine wC rfl fun K z=>?_;simp [q];apply z)
   apply wN;apply w
   rcases aA h7 with ⟨a7,h7⟩ | ⟨a8,h7⟩
   ·refine O.cT' (by simp) a7 ?_
    refine O.zR u fun K w=>?_
    refine wC rfl fun K z=>?_;simp [q];apply z
    apply wN;apply w
    have b2:=congrArg some (a9 _ (Option.some.inj h7).symm)
    cases b2
    try dsimp only at h
    cases h
    refine O.ret ?_
    simp [aC,iB,aNc]
   ·refine O.cF' (by simp) a8 ?_
    refine O.skip ?_
    refine O.zG u fun K w=>?_
    iterate 2 (refine wC rfl fun K z=>?_;simp [q];apply z)
    apply wN;apply w
    cases h7
    exact ⟨_,[],rfl,by simp [q]⟩
  ·refine O.cF' (by simp) a5 ?_
   refine O.exit ?_
   have b3:=congrArg some (a9 _ (Option.some.inj h7).symm)
   cases b3
   exact b1 _ _ [] rfl (by simp [q])
 subst hv
 obtain ⟨⟩:=v
 try dsimp only at h ⊢
 refine O.zR u fun K w=>?_
 refine wC rfl fun K z=>?_;simp [q];apply z
 apply wN;apply w
 cases h
 refine O.ret ?_
 simp [aC,iB,aNc]
theorem aBc:Tryz.f133.results.toList=[.tmp 2,.tmp 3]:=rfl
theorem ent133:aF E.P 133:=eO Tryz.func133 (by simp [Tryz.f133]) rfl
theorem aD0 (a2:Int) {r0:Int} {r1:Int} (h:nX a2=some (r0,r1)):Ok E 133 [.val (vi a2)] [vi r0,vi r1] []:=by
 refine oB Tryz.func133 rfl (by simp [Tryz.f133]) fun C (q:C.N=23) hP=>?_
 have y:=aL hP
 unfold nX at h
 refine O.zR y fun K u=>?_
 iterate 2 (refine wC rfl fun K v=>?_;simp [q];apply v)
 apply wN;apply u
 refine O.seq ?_
 refine O.zR y fun K u=>?_
 refine wC rfl fun K v=>?_;simp [q];apply v
 apply wN;apply u
 refine O.block ?_
 obtain ⟨c6,a1,h⟩:=bS h
 refine O.seqC [4,5] [] (fun _:Unit=>⟨[(4,.t (vi a2)),(5,.t (vb c6))],[]⟩) (fun _=>True) (fun _ _=>?_) fun K3 a4=>?_
 rotate_left
 ·refine O.zR y fun K u=>?_
  iterate 2 (refine wC rfl fun K v=>?_;simp [q];apply v)
  apply wN;apply u
  rcases aA a1 with ⟨c7,a1⟩ | ⟨c8,a1⟩
  ·refine O.cT' (by simp) c7 ?_
   refine O.skip ?_
   cases a1
   exact a4 _ () [] trivial (by simp [q])
  ·refine O.cF' (by simp) c8 ?_
   refine O.zR y fun K u=>?_
   iterate 2 (refine wC rfl fun K v=>?_;simp [q];apply v)
   apply wN;apply u
   rcases aA a1 with ⟨c9,a1⟩ | ⟨d0,a1⟩
   ·refine O.cT' (by simp) c9 ?_
    refine O.skip ?_
    cases a1
    exact a4 _ () [] trivial (by simp [q])
   ·refine O.cF' (by simp) d0 ?_
    refine O.zR y fun K u=>?_
    iterate 2 (refine wC rfl fun K v=>?_;simp [q];apply v)
    apply wN;apply u
    rcases aA a1 with ⟨d1,a1⟩ | ⟨a5,a1⟩
    ·refine O.cT' (by simp) d1 ?_
     refine O.skip ?_
     cases a1
     exact a4 _ () [] trivial (by simp [q])
    ·refine O.cF' (by simp) a5 ?_
     refine O.zR y fun K u=>?_
     iterate 2 (refine wC rfl fun K v=>?_;simp [q];apply v)
     apply wN;apply u
     rcases aA a1 with ⟨a6,a1⟩ | ⟨a7,a1⟩
     ·refine O.cT' (by simp) a6 ?_
      refine O.skip ?_
      cases a1
      exact a4 _ () [] trivial (by simp [q])
     ·refine O.cF' (by simp) a7 ?_
      refine O.zR y fun K u=>?_
      iterate 2 (refine wC rfl fun K v=>?_;simp [q];apply v)
      apply wN;apply u
      rcases aA a1 with ⟨a8,a1⟩ | ⟨a9,a1⟩
      ·refine O.cT' (by simp) a8 ?_
       refine O.skip ?_
       cases a1
       exact a4 _ () [] trivial (by simp [q])
      ·refine O.cF' (by simp) a9 ?_
       refine O.zG y fun K u=>?_
       iterate 2 (refine wC rfl fun K v=>?_;simp [q];apply v)
       apply wN;apply u
       cases a1
       exact a4 _ () [] trivial (by simp [q])
 rcases aA h with ⟨b0,h⟩ | ⟨b1,h⟩
 ·refine O.cT' (by simp) b0 ?_
  refine O.zR y fun K u=>?_
  iterate 2 (refine wC rfl fun K v=>?_;simp [q];apply v)
  apply wN;apply u
  cases h
  refine O.ret ?_
  simp [aC,iB,aBc]
 ·refine O.cF' (by simp) b1 ?_
  obtain ⟨d2,a0,h⟩:=bS h
  refine O.seqC [4,12] [] (fun _:Unit=>⟨[(4,.t (vi a2)),(12,.t (vb d2))],[]⟩) (fun _=>True) (fun _ _=>?_) fun d3 a3=>?_
  rotate_left
  ·refine O.zR y fun K u=>?_
   iterate 2 (refine wC rfl fun K v=>?_;simp [q];apply v)
   apply wN;apply u
   rcases aA a0 with ⟨b2,a0⟩ | ⟨b3,a0⟩
   ·refine O.cT' (by simp) b2 ?_
    refine O.skip ?_
    cases a0
    exact a3 _ () [] trivial (by simp [q])
   ·refine O.cF' (by simp) b3 ?_
    refine O.zR y fun K u=>?_
    iterate 2 (refine wC rfl fun K v=>?_;simp [q];apply v)
    apply wN;apply u
    rcases aA a0 with ⟨b4,a0⟩ | ⟨b5,a0⟩
    ·refine O.cT' (by simp) b4 ?_
     refine O.skip ?_
     cases a0
     exact a3 _ () [] trivial (by simp [q])
    ·refine O.cF' (by simp) b5 ?_
     refine O.zR y fun K u=>?_
     iterate 2 (refine wC rfl fun K v=>?_;simp [q];apply v)
     apply wN;apply u
     rcases aA a0 with ⟨b6,a0⟩ | ⟨b7,a0⟩
     ·refine O.cT' (by simp) b6 ?_
      refine O.skip ?_
      cases a0
      exact a3 _ () [] trivial (by simp [q])
     ·refine O.cF' (by simp) b7 ?_
      refine O.zG y fun K u=>?_
      iterate 2 (refine wC rfl fun K v=>?_;simp [q];apply v)
      apply wN;apply u
      cases a0
      exact a3 _ () [] trivial (by simp [q])
  rcases aA h with ⟨b8,h⟩ | ⟨b9,h⟩
  ·refine O.cT' (by simp) b8 ?_
   refine O.zR y fun K u=>?_
   iterate 2 (refine wC rfl fun K v=>?_;simp [q];apply v)
   apply wN;apply u
   cases h
   refine O.ret ?_
   simp [aC,iB,aBc]
  ·refine O.cF' (by simp) b9 ?_
   refine O.zR y fun K u=>?_
   iterate 2 (refine wC rfl fun K v=>?_;simp [q];apply v)
   apply wN;apply u
   rcases aA h with ⟨c0,h⟩ | ⟨c1,h⟩
   ·refine O.cT' (by simp) c0 ?_
    refine O.zR y fun K u=>?_
    iterate 2 (refine wC rfl fun K v=>?_;simp [q];apply v)
    apply wN;apply u
    cases h
    refine O.ret ?_
    simp [aC,iB,aBc]
   ·refine O.cF' (by simp) c1 ?_
    refine O.zR y fun K u=>?_
    iterate 2 (refine wC rfl fun K v=>?_;simp [q];apply v)
    apply wN;apply u
    rcases aA h with ⟨c2,h⟩ | ⟨c3,h⟩
    ·refine O.cT' (by simp) c2 ?_
     refine O.zR y fun K u=>?_
     iterate 2 (refine wC rfl fun K v=>?_;simp [q];apply v)
     apply wN;apply u
     cases h
     refine O.ret ?_
     simp [aC,iB,aBc]
    ·refine O.cF' (by simp) c3 ?_
     refine O.zR y fun K u=>?_
     iterate 2 (refine wC rfl fun K v=>?_;simp [q];apply v)
     apply wN;apply u
     rcases aA h with ⟨c4,h⟩ | ⟨c5,h⟩
     ·refine O.cT' (by simp) c4 ?_
      refine O.zR y fun K u=>?_
      iterate 2 (refine wC rfl fun K v=>?_;simp [q];apply v)
      apply wN;apply u
      cases h
      refine O.ret ?_
      simp [aC,iB,aBc]
     ·refine O.cF' (by simp) c5 ?_
      refine O.skip ?_
      refine O.zR y fun K u=>?_
      iterate 2 (refine wC rfl fun K v=>?_;simp [q];apply v)
      apply wN;apply u
      cases h
      refine O.ret ?_
      simp [aC,iB,aBc]
theorem res108:Tryz.f108.results.toList=[.tmp 2]:=rfl
theorem aNn:aF E.P 108:=eO Tryz.func108 (by simp [Tryz.f108]) rfl
theorem qG (a0:Int) {r0:Bool} (h:iL a0=some r0):Ok E 108 [.val (vi a0)] [vb r0] []:=by
 refine oB Tryz.func108 rfl (by simp [Tryz.f108]) fun C (q:C.N=5) hP=>?_
 have y:=aL hP
 unfold iL at h
 refine O.zR y fun K u=>?_
 refine wC rfl fun K v=>?_;simp [q];apply v
 apply wN;apply u
 refine O.zR y fun K u=>?_
 refine wC rfl fun K v=>?_;simp [q];apply v
 obtain ⟨r2,a1,h⟩:=bS h
 refine wL [(.take,.tmp 3),(.take,.const (.int .i64 1)),(.take,.const (.int .i64 12))] rfl rfl lG (aU _ _ _ a1) fun K v=>?_;simp [q];apply v
 refine wC rfl fun K v=>?_;simp [q];apply v
 apply wN;apply u
 cases h
 refine O.ret ?_
 simp [aC,iB,res108]
theorem res143:Tryz.f143.results.toList=[.tmp 2]:=rfl
theorem ent143:aF E.P 143:=eO Tryz.func143 (by simp [Tryz.f143]) rfl
theorem aAw (a0:Int) {r0:Bool} (h:mI a0=some r0):Ok E 143 [.val (vi a0)] [vb r0] []:=by
 refine oB Tryz.func143 rfl (by simp [Tryz.f143]) fun C (q:C.N=5) hP=>?_
 have y:=aL hP
 unfold mI at h
 refine O.zR y fun K u=>?_
 refine wC rfl fun K v=>?_;simp [q];apply v
 apply wN;apply u
 refine O.zR y fun K u=>?_
 refine wC rfl fun K v=>?_;simp [q];apply v
 obtain ⟨r2,a1,h⟩:=bS h
 refine wL [(.take,.tmp 3),(.take,.const (.int .i64 13)),(.take,.const (.int .i64 19))] rfl rfl lG (aU _ _ _ a1) fun K v=>?_;simp [q];apply v
 refine wC rfl fun K v=>?_;simp [q];apply v
 apply wN;apply u
 cases h
 refine O.ret ?_
 simp [aC,iB,res143]
theorem aH6:Tryz.f134.results.toList=[.tmp 6]:=rfl
theorem ent134:aF E.P 134:=eO Tryz.func134 (by simp [Tryz.f134]) rfl
theorem zL (a4:Int) (i2:Int) (a9:Int) {r0:Bool} (h:kQ a4 i2 a9=some r0):Ok E 134 [.val (vi a4),.val (vi i2),.val (vi a9)] [vb r0] []:=by
 refine oB Tryz.func134 rfl (by simp [Tryz.f134]) fun C (q:C.N=32) hP=>?_
 have y:=aL hP
 unfold kQ at h
 refine O.zR y fun K u=>?_
 refine wC rfl fun K v=>?_;simp [q];apply v
 apply wN;apply u
 refine O.seq ?_
 refine O.block ?_
 refine O.zR y fun K u=>?_
 iterate 3 (refine wC rfl fun K v=>?_;simp [q];apply v)
 apply wN;apply u
 rcases aA h with ⟨b7,h⟩ | ⟨b8,h⟩
 ·refine O.cT' (by simp) b7 ?_
  refine O.zR y fun K u=>?_
  refine wC rfl fun K v=>?_;simp [q];apply v
  obtain ⟨r6,b9,h⟩:=bS h
  refine wL [(.take,.tmp 10)] rfl rfl ent143 (aAw _ b9) fun K v=>?_;simp [q];apply v
  refine wC rfl fun K v=>?_;simp [q];apply v
  apply wN;apply u
  cases h
  refine O.ret ?_
  simp [aC,iB,aH6]
 ·refine O.cF' (by simp) b8 ?_
  obtain ⟨c0,a6,h⟩:=bS h
  refine O.seqRC rfl (y _ rfl) [0,2,12] [] (fun _:Unit=>⟨[(0,.t (vi a4)),(2,.t (vi a9)),(12,.t (vb c0))],[]⟩) (fun _=>True) (fun _ _=>?_) fun K9 b1=>?_
  rotate_left
  ·refine wC rfl fun K v=>?_;simp [q];apply v
   iterate 2 (refine wC rfl fun K v=>?_;simp [q];apply v)
   rcases aA a6 with ⟨a7,a6⟩ | ⟨a1,a6⟩
   ·have a2:=a7
    try simp at a2
    iterate 2 (refine wO fun K v=>?_;simp [q,a7,a2];apply v)
    iterate 6 (refine wC rfl fun K v=>?_;simp [q,a7,a2];apply v)
    refine wN ?_
    cases a6
    exact b1 _ () [] trivial (by simp [q,a7,a2])
   ·have a0:=a1
    try simp at a0
    iterate 4 (refine wC rfl fun K v=>?_;simp [q,a1,a0];apply v)
    rcases aA a6 with ⟨b0,a6⟩ | ⟨a8,a6⟩
    ·have a5:=b0
     try simp at a5
     iterate 4 (refine wC rfl fun K v=>?_;simp [q,a1,a0,b0,a5];apply v)
     refine wN ?_
     cases a6
     exact b1 _ () [] trivial (by simp [q,a1,a0,b0,a5])
    ·have a3:=a8
     try simp at a3
     iterate 2 (refine wO fun K v=>?_;simp [q,a1,a0,a8,a3];apply v)
     iterate 2 (refine wC rfl fun K v=>?_;simp [q,a1,a0,a8,a3];apply v)
     refine wN ?_
     cases a6
     exact b1 _ () [] trivial (by simp [q,a1,a0,a8,a3])
  rcases aA h with ⟨b2,h⟩ | ⟨b3,h⟩
  ·refine O.cT' (by simp) b2 ?_
   refine O.zR y fun K u=>?_
   iterate 3 (refine wC rfl fun K v=>?_;simp [q];apply v)
   apply wN;apply u
   cases h
   refine O.ret ?_
   simp [aC,iB,aH6]
  ·refine O.cF' (by simp) b3 ?_
   refine O.zR y fun K u=>?_
   iterate 3 (refine wC rfl fun K v=>?_;simp [q];apply v)
   apply wN;apply u
   rcases aA h with ⟨b4,h⟩ | ⟨b5,h⟩
   ·refine O.cT' (by simp) b4 ?_
    refine O.zR y fun K u=>?_
    iterate 3 (refine wC rfl fun K v=>?_;simp [q];apply v)
    apply wN;apply u
    cases h
    refine O.ret ?_
    simp [aC,iB,aH6]
   ·refine O.cF' (by simp) b5 ?_
    refine O.skip ?_
    refine O.zR y fun K u=>?_
    refine wC rfl fun K v=>?_;simp [q];apply v
    obtain ⟨c1,b6,h⟩:=bS h
    refine wL [(.take,.tmp 30)] rfl rfl aNn (qG _ b6) fun K v=>?_;simp [q];apply v
    refine wC rfl fun K v=>?_;simp [q];apply v
    apply wN;apply u
    cases h
    refine O.ret ?_
    simp [aC,iB,aH6]
theorem aBd:Tryz.f122.results.toList=[.tmp 4]:=rfl
theorem ent122:aF E.P 122:=eO Tryz.func122 (by simp [Tryz.f122]) rfl
theorem aB1 (b7:List GNode) (k2:Int) {r0:Bool} (h:mM b7 k2=some r0):Ok E 122 [.val (.sl false 4 (List.map (GNode.enc false) b7)),.val (vi k2)] [vb r0] []:=by
 refine oB Tryz.func122 rfl (by simp [Tryz.f122]) fun C (q:C.N=101) hP=>?_
 have u:=aL hP
 unfold mM at h
 refine O.zR u fun K w=>?_
 refine wC rfl fun K r=>?_;simp [q];apply r
 apply wN;apply w
 refine O.seq ?_
 refine O.zR u fun K w=>?_
 iterate 4 (refine wC rfl fun K r=>?_;simp [q];apply r)
 obtain ⟨r3,j5,h⟩:=bS h
 refine wL [(.take,.tmp 10),(.take,.const (.int .i64 0)),(.take,.tmp 13)] rfl rfl lG (aU _ _ _ j5) fun K r=>?_;simp [q];apply r
 refine wC rfl fun K r=>?_;simp [q];apply r
 apply wN;apply w
 rcases aA h with ⟨j6,h⟩ | ⟨j7,h⟩
 ·refine O.cT' (by simp) j6 ?_
  refine O.zR u fun K w=>?_
  refine wC rfl fun K r=>?_;simp [q];apply r
  apply wN;apply w
  cases h
  refine O.ret ?_
  simp [aC,iB,aBd]
 ·refine O.cF' (by simp) j7 ?_
  refine O.skip ?_
  refine O.zR u fun K w=>?_
  iterate 2 (refine wC rfl fun K r=>?_;simp [q];apply r)
  obtain ⟨e7,j8,h⟩:=bS h
  obtain ⟨g8,g9,h0,h1⟩:=gS j8
  iterate 4 (refine wC rfl fun K r=>?_;simp [q,g8,g9,h0,h1];apply r)
  apply wN;apply w
  refine O.zR u fun K w=>?_
  iterate 2 (refine wC rfl fun K r=>?_;simp [q];apply r)
  obtain ⟨⟨r8,r9⟩,h2,h⟩:=bS h
  try dsimp only at h
  refine wL [(.take,.tmp 22)] rfl rfl ent133 (aD0 _ h2) fun K r=>?_;simp [q];apply r
  iterate 5 (refine wC rfl fun K r=>?_;simp [q];apply r)
  apply wN;apply w
  refine O.seq ?_
  obtain ⟨j9,c9,h⟩:=bS h
  refine O.seqRC rfl (u _ rfl) [0,1,5,38] [5] (fun _:Unit=>⟨[(0,.t (.sl false 4 (List.map (GNode.enc false) b7))),(1,.t (vi k2)),(5,.ref (.box 5) 0 []),(38,.t (vb j9))],[(5,[vi e7.Kind,vi e7.Num,vs e7.Name,.sl false 1 (List.map vi e7.Kids)])]⟩) (fun _=>True) (fun _ _=>?_) fun k6 e8=>?_
  rotate_left
  ·refine wC rfl fun K r=>?_;simp [q];apply r
   refine wC rfl fun K r=>?_;simp [q];apply r
   obtain ⟨k7,h3,c9⟩:=bS c9
   refine wL [(.take,.tmp 27),(.take,.const (.int .i64 1)),(.take,.const (.int .i64 20))] rfl rfl lG (aU _ _ _ h3) fun K r=>?_;simp [q];apply r
   iterate 2 (refine wC rfl fun K r=>?_;simp [q];apply r)
   rcases aA c9 with ⟨d7,c9⟩ | ⟨d6,c9⟩
   ·have d1:=d7
    try simp at d1
    iterate 7 (refine wO fun K r=>?_;simp [q,d7,d1];apply r)
    refine wC rfl fun K r=>?_;simp [q,d7,d1];apply r
    refine wN ?_
    cases c9
    exact e8 _ () [] trivial (by simp [q,d7,d1])
   ·have d0:=d6
    try simp at d0
    iterate 5 (refine wC rfl fun K r=>?_;simp [q,d6,d0];apply r)
    obtain ⟨k8,h4,c9⟩:=bS c9
    refine wL [(.take,.tmp 33),(.take,.tmp 34),(.take,.tmp 35)] rfl rfl lG (aU _ _ _ h4) fun K r=>?_;simp [q,d6,d0];apply r
    iterate 2 (refine wC rfl fun K r=>?_;simp [q,d6,d0];apply r)
    refine wN ?_
    cases c9
    exact e8 _ () [] trivial (by simp [q,d6,d0])
  rcases aA h with ⟨h5,h⟩ | ⟨h6,h⟩
  ·refine O.cT' (by simp) h5 ?_
   refine O.zR u fun K w=>?_
   refine wC rfl fun K r=>?_;simp [q];apply r
   apply wN;apply w
   cases h
   refine O.ret ?_
   simp [aC,iB,aBd]
  ·refine O.cF' (by simp) h6 ?_
   refine O.skip ?_
   obtain ⟨k0,h7,h⟩:=bS h
   refine O.seqC [5] [5] (fun v:Unit=>⟨[(5,.ref (.box 5) 0 [])],[(5,[vi e7.Kind,vi e7.Num,vs e7.Name,.sl false 1 (List.map vi e7.Kids)])]⟩) (fun v=>k0=Sum.inl v) (fun v hv=>?_) fun k9 h8=>?_
   rotate_left
   ·refine O.zR u fun K w=>?_
    iterate 4 (refine wC rfl fun K r=>?_;simp [q];apply r)
    apply wN;apply w
    refine O.block ?_
    refine O.loopO [] [0,1,5,40,41,42] [5] (fun v:Int=>⟨[(0,.t (.sl false 4 (List.map (GNode.enc false) b7))),(1,.t (vi k2)),(5,.ref (.box 5) 0 []),(40,.t (.sl false 1 (List.map vi e7.Kids))),(41,.t (vi (e7.Kids.length:Int))),(42,.t (vi v))],[(5,[vi e7.Kind,vi e7.Num,vs e7.Name,.sl false 1 (List.map vi e7.Kids)])]⟩) (fL b7 k2 e7) _ 0 h7 (by simp [q]) ?_
    intro g l0 d2 e9
    obtain ⟨g0,hg⟩:∃ y,y=g:=⟨_,rfl⟩
    subst hg
    simp only [fL] at d2
    try dsimp only
    refine O.zR u fun K w=>?_
    refine wC rfl fun K r=>?_;simp [q];apply r
    apply wN;apply w
    refine O.seq ?_
    rcases aA d2 with ⟨h9,d2⟩ | ⟨i0,d2⟩
    ·refine O.cT' (by simp) h9 ?_
     refine O.skip ?_
     refine O.seq ?_
     refine O.block ?_
     refine O.zR u fun K w=>?_
     refine wC rfl fun K r=>?_;simp [q];apply r
     obtain ⟨e5,i1,d2⟩:=bS d2
     obtain ⟨g1,g2,g3,g4⟩:=gS i1
     iterate 4 (refine wC rfl fun K r=>?_;simp [q,g1,g2,g3,g4];apply r)
     apply wN;apply w
     obtain ⟨k1,b2,d2⟩:=bS d2
     refine O.seqC [0,1,5,40,41,42,71] [5] (fun _:Unit=>⟨[(0,.t (.sl false 4 (List.map (GNode.enc false) b7))),(1,.t (vi k2)),(5,.ref (.box 5) 0 []),(40,.t (.sl false 1 (List.map vi e7.Kids))),(41,.t (vi (e7.Kids.length:Int))),(42,.t (vi g0)),(71,.t (vb k1))],[(5,[vi e7.Kind,vi e7.Num,vs e7.Name,.sl false 1 (List.map vi e7.Kids)])]⟩) (fun _=>True) (fun _ _=>?_) fun l1 e1=>?_
     rotate_left
     ·obtain ⟨d8,e2,b2⟩:=bS b2
      rcases aA b2 with ⟨c5,b2⟩ | ⟨b1,b2⟩
      ·have b5:=c5
       try simp at b5
       refine O.dT rfl (u _ rfl) [(47,.t (vi e5)),(48,.t (vi k2)),(49,.t (vi (IntKind.wrap .i64 (k2 - 1)))),(50,.t (vb d8)),(51,.t (vb (!d8))),(52,.t (vb (!d8))),(53,.tup []),(54,.tup []),(55,.tup []),(56,.tup []),(57,.tup []),(58,.tup []),(59,.t (vb true)),(60,.t (vb true)),(61,.tup []),(62,.tup []),(63,.tup []),(64,.tup []),(65,.tup []),(66,.tup []),(67,.tup []),(68,.tup [])] [[],[],[1],[0,1,2],[0,1,2,3],[0,1,2,3,4],[0,1,2,3,4,5],[0,1,2,3,4,5,6],[0,1,2,3,4,5],[0,1,2,3,4,5,6,7,8],[0,1,2,3,4,5],[0,1,2,3,4,5,6,7,8,9,10],[0,1,2,3,4,5,6,7,8,9,10,11],[0,1,2,3,4,5,6,7,8,9,10,11,12],[0,1,2,3,4,5,6,7,8,9,10,11,12,13],[0,1,2,3,4,5,6,7,8,9,10,11,12,13,14],[0,1,2,3,4,5,6,7,8,9,10,11,12,13],[0,1,2,3,4,5,6,7,8,9,10,11,12,13],[0,1,2,3,4,5,6,7,8,9,10,11,12,13],[0,1,2,3,4,5,6,7,8,9,10,11,12,13,17,18],[0,1,2,3,4,5,6,7,8,9,10,11,12,13,17,18,19],[0,1,2,3,4,5,6,7,8,9,10,11,12,13,17,18,19,20],[0,1,2,3,4,5,6,7,8,9,10,11,12,13,14,15,16,17,18,19,20,21],[0,1,2,3,4,5,6,7,8,9,10,11,12,13,14,15,16,17,18,19,20,21,22],[0,1,2,3,4,5,6,7,8,9,10,11,12,13,14,15,16,17,18,19,20,21,22,23]] (by simp) (by simp) (by simp [look]) rfl rfl rfl ?_ fun K w=>?_
       ·refine ⟨?_,?_,?_,?_,?_,?_,?_,?_,?_,?_,?_,?_,?_,?_,?_,?_,?_,?_,?_,?_,?_,?_,trivial⟩
        all_goals (intro τ hbx hb hd hf K w;try simp [aJ] at hd;simp [aJ] at hf;first | (refine wC rfl fun K' z=>?_;simp [q,hbx,hb,hd,hf,c5,b5];exact z _ (wN (w _ (by simp [aJ,hbx,c5,b5])))) | (refine wL [(.take,.tmp 47),(.take,.const (.int .i64 0)),(.take,.tmp 49)] rfl rfl lG (aU _ _ _ e2) fun K' z=>?_;simp [q,hbx,hb,hd,hf,c5,b5];exact z _ (wN (w _ (by simp [aJ,hbx,c5,b5])))) | (refine wO fun K' z=>?_;simp [q,hbx,hb,hd,hf,c5,b5];exact z _ (wN (w _ (by simp [aJ,hbx,c5,b5])))))
       iterate 2 (refine wO fun K r=>?_;simp [q,c5,b5];apply r)
       refine wC rfl fun K r=>?_;simp [q,c5,b5];apply r
       apply wN;apply w
       cases b2
       exact e1 _ () [] trivial (by simp [q,c5,b5])
      ·have a0:=b1
       try simp at a0
       obtain ⟨i2,i3,b2⟩:=bS b2
       obtain ⟨a3,a4,a5,a6,g5,a7,a8,a9⟩:=aJk i3
       have a1:(List.map vi e7.Kids).take g0.toNat=List.map vi i2:=by subst g5;simp
       have a2:=a1;try simp at a2
       have b0:0 ≤ e7.Kids.length:=by omega
       obtain ⟨e6,g6,b2⟩:=bS b2
       rcases aA b2 with ⟨c2,b2⟩ | ⟨c6,b2⟩
       ·have b3:=c2
        try simp at b3
        refine O.dT rfl (u _ rfl) [(47,.t (vi e5)),(48,.t (vi k2)),(49,.t (vi (IntKind.wrap .i64 (k2 - 1)))),(50,.t (vb d8)),(51,.t (vb (!d8))),(52,.t (vb (!d8))),(53,.ref (.box 5) 3 []),(54,.t (.sl false 1 (List.map vi e7.Kids))),(55,.t (vi g0)),(56,.t (.sl false 1 (List.map vi i2))),(57,.t (vi e5)),(58,.t (vb e6)),(59,.t (vb e6)),(60,.t (vb e6)),(61,.tup []),(62,.tup []),(63,.tup []),(64,.tup []),(65,.tup []),(66,.tup []),(67,.tup []),(68,.tup [])] [[],[],[1],[0,1,2],[0,1,2,3],[0,1,2,3,4],[0,1,2,3,4,5],[0,1,2,3,4,5,6],[0,1,2,3,4,5],[0,1,2,3,4,5,6,7,8],[0,1,2,3,4,5],[0,1,2,3,4,5,6,7,8,9,10],[0,1,2,3,4,5,6,7,8,9,10,11],[0,1,2,3,4,5,6,7,8,9,10,11,12],[0,1,2,3,4,5,6,7,8,9,10,11,12,13],[0,1,2,3,4,5,6,7,8,9,10,11,12,13,14],[0,1,2,3,4,5,6,7,8,9,10,11,12,13],[0,1,2,3,4,5,6,7,8,9,10,11,12,13],[0,1,2,3,4,5,6,7,8,9,10,11,12,13],[0,1,2,3,4,5,6,7,8,9,10,11,12,13,17,18],[0,1,2,3,4,5,6,7,8,9,10,11,12,13,17,18,19],[0,1,2,3,4,5,6,7,8,9,10,11,12,13,17,18,19,20],[0,1,2,3,4,5,6,7,8,9,10,11,12,13,14,15,16,17,18,19,20,21],[0,1,2,3,4,5,6,7,8,9,10,11,12,13,14,15,16,17,18,19,20,21,22],[0,1,2,3,4,5,6,7,8,9,10,11,12,13,14,15,16,17,18,19,20,21,22,23]] (by simp) (by simp) (by simp [look]) rfl rfl rfl ?_ fun K w=>?_
        ·refine ⟨?_,?_,?_,?_,?_,?_,?_,?_,?_,?_,?_,?_,?_,?_,?_,?_,?_,?_,?_,?_,?_,?_,trivial⟩
         all_goals (intro τ hbx hb hd hf K w;try simp [aJ] at hd;simp [aJ] at hf;first | (refine wC rfl fun K' z=>?_;simp [q,hbx,hb,hd,hf,b1,a0,a3,a4,a5,a6,a1,a7,a8,a9,a2,b0,c2,b3];exact z _ (wN (w _ (by simp [aJ,hbx,b1,a0,a3,a4,a5,a6,a1,a7,a8,a9,a2,b0,c2,b3])))) | (refine wL [(.take,.tmp 47),(.take,.const (.int .i64 0)),(.take,.tmp 49)] rfl rfl lG (aU _ _ _ e2) fun K' z=>?_;simp [q,hbx,hb,hd,hf,b1,a0,a3,a4,a5,a6,a1,a7,a8,a9,a2,b0,c2,b3];exact z _ (wN (w _ (by simp [aJ,hbx,b1,a0,a3,a4,a5,a6,a1,a7,a8,a9,a2,b0,c2,b3])))) | (refine wL [(.take,.tmp 56),(.take,.tmp 57)] rfl rfl aHu (jW _ _ g6) fun K' z=>?_;simp [q,hbx,hb,hd,hf,b1,a0,a3,a4,a5,a6,a1,a7,a8,a9,a2,b0,c2,b3];exact z _ (wN (w _ (by simp [aJ,hbx,b1,a0,a3,a4,a5,a6,a1,a7,a8,a9,a2,b0,c2,b3])))) | (refine wO fun K' z=>?_;simp [q,hbx,hb,hd,hf,b1,a0,a3,a4,a5,a6,a1,a7,a8,a9,a2,b0,c2,b3];exact z _ (wN (w _ (by simp [aJ,hbx,b1,a0,a3,a4,a5,a6,a1,a7,a8,a9,a2,b0,c2,b3])))))
        iterate 2 (refine wO fun K r=>?_;simp [q,b1,a0,a3,a4,a5,a6,a1,a7,a8,a9,a2,b0,c2,b3];apply r)
        refine wC rfl fun K r=>?_;simp [q,b1,a0,a3,a4,a5,a6,a1,a7,a8,a9,a2,b0,c2,b3];apply r
        apply wN;apply w
        cases b2
        exact e1 _ () [] trivial (by simp [q,b1,a0,a3,a4,a5,a6,a1,a7,a8,a9,a2,b0,c2,b3])
       ·have b6:=c6
        try simp at b6
        obtain ⟨d9,i4,b2⟩:=bS b2
        obtain ⟨b8,b9,c0,c1⟩:=gS i4
        refine O.dT rfl (u _ rfl) [(47,.t (vi e5)),(48,.t (vi k2)),(49,.t (vi (IntKind.wrap .i64 (k2 - 1)))),(50,.t (vb d8)),(51,.t (vb (!d8))),(52,.t (vb (!d8))),(53,.ref (.box 5) 3 []),(54,.t (.sl false 1 (List.map vi e7.Kids))),(55,.t (vi g0)),(56,.t (.sl false 1 (List.map vi i2))),(57,.t (vi e5)),(58,.t (vb e6)),(59,.t (vb e6)),(60,.t (vb e6)),(61,.ref (.box 5) 0 []),(62,.t (vi e7.Kind)),(63,.t (vi g0)),(64,.t (.sl false 4 (List.map (GNode.enc false) b7))),(65,.t (vi e5)),(66,.rop [vi d9.Kind,vi d9.Num,vs d9.Name,.sl false 1 (List.map vi d9.Kids)] 0),(67,.rop [vi d9.Kind,vi d9.Num,vs d9.Name,.sl false 1 (List.map vi d9.Kids)] 0),(68,.t (vi d9.Kind))] [[],[],[1],[0,1,2],[0,1,2,3],[0,1,2,3,4],[0,1,2,3,4,5],[0,1,2,3,4,5,6],[0,1,2,3,4,5],[0,1,2,3,4,5,6,7,8],[0,1,2,3,4,5],[0,1,2,3,4,5,6,7,8,9,10],[0,1,2,3,4,5,6,7,8,9,10,11],[0,1,2,3,4,5,6,7,8,9,10,11,12],[0,1,2,3,4,5,6,7,8,9,10,11,12,13],[0,1,2,3,4,5,6,7,8,9,10,11,12,13,14],[0,1,2,3,4,5,6,7,8,9,10,11,12,13],[0,1,2,3,4,5,6,7,8,9,10,11,12,13],[0,1,2,3,4,5,6,7,8,9,10,11,12,13],[0,1,2,3,4,5,6,7,8,9,10,11,12,13,17,18],[0,1,2,3,4,5,6,7,8,9,10,11,12,13,17,18,19],[0,1,2,3,4,5,6,7,8,9,10,11,12,13,17,18,19,20],[0,1,2,3,4,5,6,7,8,9,10,11,12,13,14,15,16,17,18,19,20,21],[0,1,2,3,4,5,6,7,8,9,10,11,12,13,14,15,16,17,18,19,20,21,22],[0,1,2,3,4,5,6,7,8,9,10,11,12,13,14,15,16,17,18,19,20,21,22,23]] (by simp) (by simp) (by simp [look]) rfl rfl rfl ?_ fun K w=>?_
        ·refine ⟨?_,?_,?_,?_,?_,?_,?_,?_,?_,?_,?_,?_,?_,?_,?_,?_,?_,?_,?_,?_,?_,?_,trivial⟩
         all_goals (intro τ hbx hb hd hf K w;try simp [aJ] at hd;simp [aJ] at hf;first | (refine wC rfl fun K' z=>?_;simp [q,hbx,hb,hd,hf,b1,a0,a3,a4,a5,a6,a1,a7,a8,a9,a2,b0,c6,b6,b8,b9,c0,c1];exact z _ (wN (w _ (by simp [aJ,hbx,b1,a0,a3,a4,a5,a6,a1,a7,a8,a9,a2,b0,c6,b6,b8,b9,c0,c1])))) | (refine wL [(.take,.tmp 47),(.take,.const (.int .i64 0)),(.take,.tmp 49)] rfl rfl lG (aU _ _ _ e2) fun K' z=>?_;simp [q,hbx,hb,hd,hf,b1,a0,a3,a4,a5,a6,a1,a7,a8,a9,a2,b0,c6,b6,b8,b9,c0,c1];exact z _ (wN (w _ (by simp [aJ,hbx,b1,a0,a3,a4,a5,a6,a1,a7,a8,a9,a2,b0,c6,b6,b8,b9,c0,c1])))) | (refine wL [(.take,.tmp 56),(.take,.tmp 57)] rfl rfl aHu (jW _ _ g6) fun K' z=>?_;simp [q,hbx,hb,hd,hf,b1,a0,a3,a4,a5,a6,a1,a7,a8,a9,a2,b0,c6,b6,b8,b9,c0,c1];exact z _ (wN (w _ (by simp [aJ,hbx,b1,a0,a3,a4,a5,a6,a1,a7,a8,a9,a2,b0,c6,b6,b8,b9,c0,c1])))))
        obtain ⟨l2,i5,b2⟩:=bS b2
        refine wL [(.take,.tmp 62),(.take,.tmp 63),(.take,.tmp 68)] rfl rfl ent134 (zL _ _ _ i5) fun K r=>?_;simp [q,b1,a0,a3,a4,a5,a6,a1,a7,a8,a9,a2,b0,c6,b6,b8,b9,c0,c1];apply r
        iterate 2 (refine wC rfl fun K r=>?_;simp [q,b1,a0,a3,a4,a5,a6,a1,a7,a8,a9,a2,b0,c6,b6,b8,b9,c0,c1];apply r)
        apply wN;apply w
        cases b2
        exact e1 _ () [] trivial (by simp [q,b1,a0,a3,a4,a5,a6,a1,a7,a8,a9,a2,b0,c6,b6,b8,b9,c0,c1])
     rcases aA d2 with ⟨i6,d2⟩ | ⟨i7,d2⟩
     ·refine O.cT' (by simp) i6 ?_
      refine O.zR u fun K w=>?_
      refine wC rfl fun K r=>?_;simp [q];apply r
      apply wN;apply w
      have k3:=congrArg some (e9 _ (Option.some.inj d2).symm)
      cases k3
      try dsimp only at h
      cases h
      refine O.ret ?_
      simp [aC,iB,aBd]
     ·refine O.cF' (by simp) i7 ?_
      refine O.skip ?_
      refine O.zG u fun K w=>?_
      iterate 2 (refine wC rfl fun K r=>?_;simp [q];apply r)
      apply wN;apply w
      cases d2
      exact ⟨_,[],rfl,by simp [q]⟩
    ·refine O.cF' (by simp) i0 ?_
     refine O.exit ?_
     have k4:=congrArg some (e9 _ (Option.some.inj d2).symm)
     cases k4
     exact h8 _ _ [] rfl (by simp [q])
   subst hv
   obtain ⟨⟩:=v
   try dsimp only at h ⊢
   refine O.seq ?_
   obtain ⟨k5,c4,h⟩:=bS h
   refine O.seqRC rfl (u _ rfl) [5,91] [5] (fun _:Unit=>⟨[(5,.ref (.box 5) 0 []),(91,.t (vb k5))],[(5,[vi e7.Kind,vi e7.Num,vs e7.Name,.sl false 1 (List.map vi e7.Kids)])]⟩) (fun _=>True) (fun _ _=>?_) fun l3 e3=>?_
   rotate_left
   ·refine wC rfl fun K r=>?_;simp [q];apply r
    iterate 3 (refine wC rfl fun K r=>?_;simp [q];apply r)
    rcases aA c4 with ⟨c3,c4⟩ | ⟨d4,c4⟩
    ·have b4:=c3
     try simp at b4
     iterate 2 (refine wC rfl fun K r=>?_;simp [q,c3,b4];apply r)
     obtain ⟨l4,i8,c4⟩:=bS c4
     refine wL [(.take,.tmp 78),(.take,.const (.int .i64 0)),(.take,.const (.int .i64 1000000000))] rfl rfl lG (aU _ _ _ i8) fun K r=>?_;simp [q,c3,b4];apply r
     iterate 3 (refine wC rfl fun K r=>?_;simp [q,c3,b4];apply r)
     rcases aA c4 with ⟨e0,c4⟩ | ⟨d5,c4⟩
     ·have d3:=e0
      try simp at d3
      iterate 8 (refine wO fun K r=>?_;simp [q,c3,b4,e0,d3];apply r)
      refine wC rfl fun K r=>?_;simp [q,c3,b4,e0,d3];apply r
      refine wN ?_
      cases c4
      exact e3 _ () [] trivial (by simp [q,c3,b4,e0,d3])
     ·have c7:=d5
      try simp at c7
      iterate 4 (refine wC rfl fun K r=>?_;simp [q,c3,b4,d5,c7];apply r)
      have e4:(e7.Kind != 1)=false:=by simp [c3,b4,d5,c7]
      iterate 3 (refine wO fun K r=>?_;simp [q,c3,b4,d5,c7,e4];apply r)
      iterate 2 (refine wC rfl fun K r=>?_;simp [q,c3,b4,d5,c7,e4];apply r)
      refine wN ?_
      cases c4
      exact e3 _ () [] trivial (by simp [q,c3,b4,d5,c7,e4])
    ·have c8:=d4
     try simp at c8
     iterate 4 (refine wO fun K r=>?_;simp [q,d4,c8];apply r)
     iterate 6 (refine wC rfl fun K r=>?_;simp [q,d4,c8];apply r)
     have g7:(e7.Kind != 1)=true:=by simp [d4,c8]
     iterate 5 (refine wC rfl fun K r=>?_;simp [q,d4,c8,g7];apply r)
     refine wN ?_
     cases c4
     exact e3 _ () [] trivial (by simp [q,d4,c8,g7])
   rcases aA h with ⟨i9,h⟩ | ⟨j0,h⟩
   ·refine O.cT' (by simp) i9 ?_
    refine O.zR u fun K w=>?_
    refine wC rfl fun K r=>?_;simp [q];apply r
    apply wN;apply w
    cases h
    refine O.ret ?_
    simp [aC,iB,aBd]
   ·refine O.cF' (by simp) j0 ?_
    refine O.skip ?_
    refine O.seq ?_
    refine O.zR u fun K w=>?_
    iterate 2 (refine wC rfl fun K r=>?_;simp [q];apply r)
    obtain ⟨l5,j1,h⟩:=bS h
    refine wL [(.take,.tmp 93)] rfl rfl ent98 (qI _ j1) fun K r=>?_;simp [q];apply r
    apply wN;apply w
    rcases aA h with ⟨j2,h⟩ | ⟨j3,h⟩
    ·refine O.cT' (by simp) j2 ?_
     refine O.zR u fun K w=>?_
     iterate 2 (refine wC rfl fun K r=>?_;simp [q];apply r)
     obtain ⟨l6,j4,h⟩:=bS h
     refine wL [(.take,.tmp 96)] rfl rfl aKz (nF _ j4) fun K r=>?_;simp [q];apply r
     refine wC rfl fun K r=>?_;simp [q];apply r
     apply wN;apply w
     cases h
     refine O.ret ?_
     simp [aC,iB,aBd]
    ·refine O.cF' (by simp) j3 ?_
     refine O.skip ?_
     refine O.zR u fun K w=>?_
     iterate 4 (refine wC rfl fun K r=>?_;simp [q];apply r)
     apply wN;apply w
     cases h
     refine O.ret ?_
     simp [aC,iB,aBd]
theorem aH7:Tryz.f106.results.toList=[.tmp 4,.tmp 5]:=rfl
theorem ent106:aF E.P 106:=eO Tryz.func106 (by simp [Tryz.f106]) rfl
theorem aAy (a0:List GNode) (k2:Int) {r0:List Int} {r1:Bool} (h:mJ a0 k2=some (r0,r1)):Ok E 106 [.val (.sl false 4 (List.map (GNode.enc false) a0)),.val (vi k2)] [.sl true 1 (List.map vi r0),vb r1] []:=by
 refine oB Tryz.func106 rfl (by simp [Tryz.f106]) fun C (q:C.N=51) hP=>?_
 have u:=aL hP
 unfold mJ at h
 refine O.zR u fun K w=>?_
 iterate 2 (refine wC rfl fun K z=>?_;simp [q];apply z)
 apply wN;apply w
 refine O.seq ?_
 refine O.zR u fun K w=>?_
 iterate 4 (refine wC rfl fun K z=>?_;simp [q];apply z)
 obtain ⟨r3,e4,h⟩:=bS h
 refine wL [(.take,.tmp 11),(.take,.const (.int .i64 0)),(.take,.tmp 14)] rfl rfl lG (aU _ _ _ e4) fun K z=>?_;simp [q];apply z
 refine wC rfl fun K z=>?_;simp [q];apply z
 apply wN;apply w
 rcases aA h with ⟨e5,h⟩ | ⟨e6,h⟩
 ·refine O.cT' (by simp) e5 ?_
  refine O.zR u fun K w=>?_
  iterate 2 (refine wC rfl fun K z=>?_;simp [q];apply z)
  apply wN;apply w
  cases h
  refine O.ret ?_
  simp [aC,iB,aH7]
 ·refine O.cF' (by simp) e6 ?_
  refine O.skip ?_
  refine O.zR u fun K w=>?_
  refine wC rfl fun K z=>?_;simp [q];apply z
  apply wN;apply w
  obtain ⟨j9,e7,h⟩:=bS h
  refine O.seqC [6] [] (fun v:List Int=>⟨[(6,.t (.sl true 1 (List.map vi v)))],[]⟩) (fun v=>j9=Sum.inl v) (fun v hv=>?_) fun K8 e8=>?_
  rotate_left
  ·refine O.zR u fun K w=>?_
   refine wC rfl fun K z=>?_;simp [q];apply z
   apply wN;apply w
   refine O.block ?_
   refine O.loopO [] [0,1,6,7] [] (fun v:(List Int) × Int=>⟨[(0,.t (.sl false 4 (List.map (GNode.enc false) a0))),(1,.t (vi k2)),(6,.t (.sl true 1 (List.map vi v.1))),(7,.t (vi v.2))],[]⟩) (fI a0 k2) _ ([],0) e7 (by simp [q]) ?_
   intro g g5 a3 a8
   obtain ⟨a2,c3⟩:=g
   simp only [fI] at a3
   try dsimp only
   refine O.seq ?_
   refine O.zR u fun K w=>?_
   iterate 3 (refine wC rfl fun K z=>?_;simp [q];apply z)
   apply wN;apply w
   rcases aA a3 with ⟨c4,a3⟩ | ⟨c5,a3⟩
   ·refine O.cT' (by simp) c4 ?_
    refine O.skip ?_
    obtain ⟨e9,a1,a3⟩:=bS a3
    refine O.seqC [0,1,6,7] [] (fun v:List Int=>⟨[(0,.t (.sl false 4 (List.map (GNode.enc false) a0))),(1,.t (vi k2)),(6,.t (.sl true 1 (List.map vi v))),(7,.t (vi c3))],[]⟩) (fun v=>e9=Sum.inl v) (fun v hv=>?_) fun g6 c6=>?_
    rotate_left
    ·refine O.block ?_
     refine O.seq ?_
     refine O.zR u fun K w=>?_
     iterate 2 (refine wC rfl fun K z=>?_;simp [q];apply z)
     obtain ⟨g7,c7,a1⟩:=bS a1
     refine wL [(.take,.tmp 22),(.take,.tmp 23)] rfl rfl ent122 (aB1 _ _ c7) fun K z=>?_;simp [q];apply z
     refine wC rfl fun K z=>?_;simp [q];apply z
     apply wN;apply w
     rcases aA a1 with ⟨c8,a1⟩ | ⟨c9,a1⟩
     ·refine O.cT' (by simp) c8 ?_
      refine O.zR u fun K w=>?_
      iterate 2 (refine wC rfl fun K z=>?_;simp [q];apply z)
      apply wN;apply w
      cases a1
      try dsimp only at a3
      have g0:=congrArg some (a8 _ (Option.some.inj a3).symm)
      cases g0
      try dsimp only at h
      cases h
      refine O.ret ?_
      simp [aC,iB,aH7]
     ·refine O.cF' (by simp) c9 ?_
      refine O.skip ?_
      refine O.zR u fun K w=>?_
      refine wC rfl fun K z=>?_;simp [q];apply z
      apply wN;apply w
      obtain ⟨e1,a9,a1⟩:=bS a1
      refine O.seqC [0,1,6,7,8] [] (fun _:Unit=>⟨[(0,.t (.sl false 4 (List.map (GNode.enc false) a0))),(1,.t (vi k2)),(6,.t (.sl true 1 (List.map vi a2))),(7,.t (vi c3)),(8,.t (vi e1))],[]⟩) (fun _=>True) (fun _ _=>?_) fun g8 d0=>?_
      rotate_left
      ·refine O.zR u fun K w=>?_
       iterate 2 (refine wC rfl fun K z=>?_;simp [q];apply z)
       obtain ⟨d1,d2,a9⟩:=bS a9
       obtain ⟨b0,b1,b2,b3⟩:=gS d2
       iterate 5 (refine wC rfl fun K z=>?_;simp [q,b0,b1,b2,b3];apply z)
       apply wN;apply w
       refine O.block ?_
       refine O.loopO [] [0,1,6,7,8,30,31,32] [] (fun v:Int × Int=>⟨[(0,.t (.sl false 4 (List.map (GNode.enc false) a0))),(1,.t (vi k2)),(6,.t (.sl true 1 (List.map vi a2))),(7,.t (vi c3)),(8,.t (vi v.1)),(30,.t (.sl false 1 (List.map vi d1.Kids))),(31,.t (vi (d1.Kids.length:Int))),(32,.t (vi v.2))],[]⟩) (eC a2 d1) _ (1,0) a9 (by simp [q]) ?_
       intro g g9 a4 d3
       obtain ⟨h0,h1⟩:=g
       simp only [eC] at a4
       try dsimp only
       refine O.zR u fun K w=>?_
       refine wC rfl fun K z=>?_;simp [q];apply z
       apply wN;apply w
       refine O.seq ?_
       rcases aA a4 with ⟨d4,a4⟩ | ⟨d5,a4⟩
       ·refine O.cT' (by simp) d4 ?_
        refine O.skip ?_
        refine O.seq ?_
        refine O.block ?_
        refine O.zR u fun K w=>?_
        obtain ⟨h2,d6,a4⟩:=bS a4
        obtain ⟨b4,b5,b6,b7⟩:=gS d6
        iterate 3 (refine wC rfl fun K z=>?_;simp [q,b4,b5,b6,b7];apply z)
        apply wN;apply w
        refine O.zG u fun K w=>?_
        iterate 3 (refine wC rfl fun K z=>?_;simp [q];apply z)
        obtain ⟨h3,d7,a4⟩:=bS a4
        obtain ⟨b8,b9,c0,c1⟩:=gS d7
        iterate 5 (refine wC rfl fun K z=>?_;simp [q,b8,b9,c0,c1];apply z)
        apply wN;apply w
        refine O.zG u fun K w=>?_
        iterate 2 (refine wC rfl fun K z=>?_;simp [q];apply z)
        apply wN;apply w
        cases a4
        exact ⟨_,[],rfl,by simp [q]⟩
       ·refine O.cF' (by simp) d5 ?_
        refine O.exit ?_
        have g1:=congrArg some (d3 _ (Option.some.inj a4).symm)
        cases g1
        exact d0 _ () [] trivial (by simp [q])
      refine O.seq ?_
      refine O.zR u fun K w=>?_
      iterate 2 (refine wC rfl fun K z=>?_;simp [q];apply z)
      apply wN;apply w
      rcases aA a1 with ⟨d8,a1⟩ | ⟨d9,a1⟩
      ·refine O.cT' (by simp) d8 ?_
       refine O.zR u fun K w=>?_
       iterate 2 (refine wC rfl fun K z=>?_;simp [q];apply z)
       apply wN;apply w
       cases a1
       try dsimp only at a3
       have g2:=congrArg some (a8 _ (Option.some.inj a3).symm)
       cases g2
       try dsimp only at h
       cases h
       refine O.ret ?_
       simp [aC,iB,aH7]
      ·refine O.cF' (by simp) d9 ?_
       refine O.skip ?_
       refine O.zG u fun K w=>?_
       iterate 3 (refine wC rfl fun K z=>?_;simp [q];apply z)
       obtain ⟨g3,e0,a1⟩:=bS a1
       obtain ⟨a5,a6,c2⟩:=aS e0
       have a7:List.map vi a2 ++ List.map vi [e1]=List.map vi g3:=dJ (f:=vi) c2
       simp [eSl] at a5 a6 a7
       iterate 2 (refine wC rfl fun K z=>?_;simp [q,a5,a6,a7];apply z)
       apply wN;apply w
       cases a1
       exact c6 _ _ [] rfl (by simp [q])
    subst hv
    obtain ⟨e2,hv⟩:∃ y,y=v:=⟨_,rfl⟩
    subst hv
    try dsimp only at a3 ⊢
    refine O.zG u fun K w=>?_
    iterate 3 (refine wC rfl fun K z=>?_;simp [q];apply z)
    apply wN;apply w
    cases a3
    exact ⟨_,[],rfl,by simp [q]⟩
   ·refine O.cF' (by simp) c5 ?_
    refine O.exit ?_
    have g4:=congrArg some (a8 _ (Option.some.inj a3).symm)
    cases g4
    exact e8 _ _ [] rfl (by simp [q])
  subst hv
  obtain ⟨e3,hv⟩:∃ y,y=v:=⟨_,rfl⟩
  subst hv
  try dsimp only at h ⊢
  refine O.zR u fun K w=>?_
  iterate 3 (refine wC rfl fun K z=>?_;simp [q];apply z)
  apply wN;apply w
  cases h
  refine O.ret ?_
  simp [aC,iB,aH7]
theorem res87:Tryz.f87.results.toList=[.tmp 4]:=rfl
theorem ent87:aF E.P 87:=eO Tryz.func87 (by simp [Tryz.f87]) rfl
theorem rN (a0:List GNode) (k2:Int) {r0:Int} (h:jS a0 k2=some r0):Ok E 87 [.val (.sl false 4 (List.map (GNode.enc false) a0)),.val (vi k2)] [vi r0] []:=by
 refine oB Tryz.func87 rfl (by simp [Tryz.f87]) fun C (q:C.N=19) hP=>?_
 have y:=aL hP
 unfold jS at h
 refine O.zR y fun K u=>?_
 refine wC rfl fun K v=>?_;simp [q];apply v
 apply wN;apply u
 refine O.zR y fun K u=>?_
 iterate 2 (refine wC rfl fun K v=>?_;simp [q];apply v)
 obtain ⟨⟨r3,r4⟩,a5,h⟩:=bS h
 try dsimp only at h
 refine wL [(.take,.tmp 8),(.take,.tmp 9)] rfl rfl ent106 (aAy _ _ a5) fun K v=>?_;simp [q];apply v
 iterate 5 (refine wC rfl fun K v=>?_;simp [q];apply v)
 apply wN;apply u
 refine O.seq ?_
 refine O.zR y fun K u=>?_
 iterate 2 (refine wC rfl fun K v=>?_;simp [q];apply v)
 apply wN;apply u
 rcases aA h with ⟨a6,h⟩ | ⟨a7,h⟩
 ·refine O.cT' (by simp) a6 ?_
  refine O.zR y fun K u=>?_
  refine wC rfl fun K v=>?_;simp [q];apply v
  apply wN;apply u
  cases h
  refine O.ret ?_
  simp [aC,iB,res87]
 ·refine O.cF' (by simp) a7 ?_
  refine O.skip ?_
  refine O.zR y fun K u=>?_
  iterate 2 (refine wC rfl fun K v=>?_;simp [q];apply v)
  obtain ⟨e8,a8,h⟩:=bS h
  obtain ⟨a1,a2,a3,a4⟩:=gS a8
  iterate 3 (refine wC rfl fun K v=>?_;simp [q,a1,a2,a3,a4];apply v)
  apply wN;apply u
  cases h
  refine O.ret ?_
  simp [aC,iB,res87]
theorem aK0:Tryz.f88.results.toList=[.tmp 4]:=rfl
theorem ent88:aF E.P 88:=eO Tryz.func88 (by simp [Tryz.f88]) rfl
theorem aEt (p1:GProgram) (f2:GFn) {r0:Bool} (h:qJ p1 f2=some r0):Ok E 88 [.val (GProgram.enc false p1),.val (GFn.enc false f2)] [vb r0] []:=by
 refine oB Tryz.func88 rfl (by simp [Tryz.f88]) fun C (q:C.N=91) hP=>?_
 have u:=aL hP
 unfold qJ at h
 refine O.zR u fun K w=>?_
 iterate 3 (refine wC rfl fun K z=>?_;simp [q];apply z)
 apply wN;apply w
 refine O.seq ?_
 obtain ⟨i2,a7,h⟩:=bS h
 refine O.seqRC rfl (u _ rfl) [2,3,31] [2,3] (fun _:Unit=>⟨[(2,.ref (.box 2) 0 []),(3,.ref (.box 3) 0 []),(31,.t (vb i2))],[(2,[.sl false 4 (List.map (GNode.enc false) p1.Nodes),.sl false 5 (List.map (GFn.enc false) p1.Fns)]),(3,[vs f2.Name,.sl false 2 (List.map GParam.enc f2.Params),vi f2.Res,vi f2.Body,vi f2.Ret])]⟩) (fun _=>True) (fun _ _=>?_) fun K4 e2=>?_
 rotate_left
 ·refine wC rfl fun K z=>?_;simp [q];apply z
  refine wC rfl fun K z=>?_;simp [q];apply z
  obtain ⟨r5,i3,a7⟩:=bS a7
  refine wL [(.take,.tmp 8)] rfl rfl aKz (nF _ i3) fun K z=>?_;simp [q];apply z
  iterate 2 (refine wC rfl fun K z=>?_;simp [q];apply z)
  rcases aA a7 with ⟨e1,a7⟩ | ⟨b0,a7⟩
  ·have c4:=e1
   try simp at c4
   iterate 4 (refine wO fun K z=>?_;simp [q,e1,c4];apply z)
   iterate 2 (refine wC rfl fun K z=>?_;simp [q,e1,c4];apply z)
   iterate 13 (refine wO fun K z=>?_;simp [q,e1,c4];apply z)
   refine wC rfl fun K z=>?_;simp [q,e1,c4];apply z
   refine wN ?_
   cases a7
   exact e2 _ () [] trivial (by simp [q,e1,c4])
  ·have a1:=b0
   try simp at a1
   iterate 6 (refine wC rfl fun K z=>?_;simp [q,b0,a1];apply z)
   rcases aA a7 with ⟨g1,a7⟩ | ⟨a2,a7⟩
   ·have d3:=g1
    try simp at d3
    iterate 13 (refine wO fun K z=>?_;simp [q,b0,a1,g1,d3];apply z)
    refine wC rfl fun K z=>?_;simp [q,b0,a1,g1,d3];apply z
    refine wN ?_
    cases a7
    exact e2 _ () [] trivial (by simp [q,b0,a1,g1,d3])
   ·have a0:=a2
    try simp at a0
    iterate 4 (refine wC rfl fun K z=>?_;simp [q,b0,a1,a2,a0];apply z)
    rcases aA a7 with ⟨b6,a7⟩ | ⟨c5,a7⟩
    ·have a3:=b6
     try simp at a3
     iterate 5 (refine wC rfl fun K z=>?_;simp [q,b0,a1,a2,a0,b6,a3];apply z)
     rcases aA a7 with ⟨e0,a7⟩ | ⟨d4,a7⟩
     ·have c7:=e0
      try simp at c7
      iterate 5 (refine wC rfl fun K z=>?_;simp [q,b0,a1,a2,a0,b6,a3,e0,c7];apply z)
      refine wN ?_
      cases a7
      exact e2 _ () [] trivial (by simp [q,b0,a1,a2,a0,b6,a3,e0,c7])
     ·have b7:=d4
      try simp at b7
      iterate 3 (refine wO fun K z=>?_;simp [q,b0,a1,a2,a0,b6,a3,d4,b7];apply z)
      iterate 2 (refine wC rfl fun K z=>?_;simp [q,b0,a1,a2,a0,b6,a3,d4,b7];apply z)
      refine wN ?_
      cases a7
      exact e2 _ () [] trivial (by simp [q,b0,a1,a2,a0,b6,a3,d4,b7])
    ·have a5:=c5
     try simp at a5
     iterate 3 (refine wO fun K z=>?_;simp [q,b0,a1,a2,a0,c5,a5];apply z)
     iterate 2 (refine wC rfl fun K z=>?_;simp [q,b0,a1,a2,a0,c5,a5];apply z)
     iterate 3 (refine wO fun K z=>?_;simp [q,b0,a1,a2,a0,c5,a5];apply z)
     iterate 2 (refine wC rfl fun K z=>?_;simp [q,b0,a1,a2,a0,c5,a5];apply z)
     refine wN ?_
     cases a7
     exact e2 _ () [] trivial (by simp [q,b0,a1,a2,a0,c5,a5])
 rcases aA h with ⟨g2,h⟩ | ⟨g3,h⟩
 ·refine O.cT' (by simp) g2 ?_
  refine O.zR u fun K w=>?_
  refine wC rfl fun K z=>?_;simp [q];apply z
  apply wN;apply w
  cases h
  refine O.ret ?_
  simp [aC,iB,aK0]
 ·refine O.cF' (by simp) g3 ?_
  refine O.skip ?_
  obtain ⟨i4,g4,h⟩:=bS h
  refine O.seqC [2,3] [2,3] (fun v:Unit=>⟨[(2,.ref (.box 2) 0 []),(3,.ref (.box 3) 0 [])],[(2,[.sl false 4 (List.map (GNode.enc false) p1.Nodes),.sl false 5 (List.map (GFn.enc false) p1.Fns)]),(3,[vs f2.Name,.sl false 2 (List.map GParam.enc f2.Params),vi f2.Res,vi f2.Body,vi f2.Ret])]⟩) (fun v=>i4=Sum.inl v) (fun v hv=>?_) fun j1 g5=>?_
  rotate_left
  ·refine O.zR u fun K w=>?_
   iterate 4 (refine wC rfl fun K z=>?_;simp [q];apply z)
   apply wN;apply w
   refine O.block ?_
   refine O.loopO [] [2,3,33,34,35] [2,3] (fun v:Int=>⟨[(2,.ref (.box 2) 0 []),(3,.ref (.box 3) 0 []),(33,.t (.sl false 2 (List.map GParam.enc f2.Params))),(34,.t (vi (f2.Params.length:Int))),(35,.t (vi v))],[(2,[.sl false 4 (List.map (GNode.enc false) p1.Nodes),.sl false 5 (List.map (GFn.enc false) p1.Fns)]),(3,[vs f2.Name,.sl false 2 (List.map GParam.enc f2.Params),vi f2.Res,vi f2.Body,vi f2.Ret])]⟩) (iM f2) _ 0 g4 (by simp [q]) ?_
   intro g j2 b8 e3
   obtain ⟨i5,hg⟩:∃ y,y=g:=⟨_,rfl⟩
   subst hg
   simp only [iM] at b8
   try dsimp only
   refine O.zR u fun K w=>?_
   refine wC rfl fun K z=>?_;simp [q];apply z
   apply wN;apply w
   refine O.seq ?_
   rcases aA b8 with ⟨g6,b8⟩ | ⟨g7,b8⟩
   ·refine O.cT' (by simp) g6 ?_
    refine O.skip ?_
    refine O.seq ?_
    refine O.block ?_
    refine O.zR u fun K w=>?_
    obtain ⟨j3,g8,b8⟩:=bS b8
    obtain ⟨e4,e5,e6,e7⟩:=gS g8
    iterate 4 (refine wC rfl fun K z=>?_;simp [q,e4,e5,e6,e7];apply z)
    apply wN;apply w
    obtain ⟨i6,a8,b8⟩:=bS b8
    refine O.seqRC rfl (u _ rfl) [2,3,33,34,35,48] [2,3] (fun _:Unit=>⟨[(2,.ref (.box 2) 0 []),(3,.ref (.box 3) 0 []),(33,.t (.sl false 2 (List.map GParam.enc f2.Params))),(34,.t (vi (f2.Params.length:Int))),(35,.t (vi i5)),(48,.t (vb i6))],[(2,[.sl false 4 (List.map (GNode.enc false) p1.Nodes),.sl false 5 (List.map (GFn.enc false) p1.Fns)]),(3,[vs f2.Name,.sl false 2 (List.map GParam.enc f2.Params),vi f2.Res,vi f2.Body,vi f2.Ret])]⟩) (fun _=>True) (fun _ _=>?_) fun j4 e8=>?_
    rotate_left
    ·refine wC rfl fun K z=>?_;simp [q];apply z
     refine wC rfl fun K z=>?_;simp [q];apply z
     obtain ⟨j5,g9,a8⟩:=bS a8
     refine wL [(.take,.tmp 40)] rfl rfl aKz (nF _ g9) fun K z=>?_;simp [q];apply z
     iterate 2 (refine wC rfl fun K z=>?_;simp [q];apply z)
     rcases aA a8 with ⟨d5,a8⟩ | ⟨c8,a8⟩
     ·have b9:=d5
      try simp at b9
      iterate 4 (refine wO fun K z=>?_;simp [q,d5,b9];apply z)
      refine wC rfl fun K z=>?_;simp [q,d5,b9];apply z
      refine wN ?_
      cases a8
      exact e8 _ () [] trivial (by simp [q,d5,b9])
     ·have b1:=c8
      try simp at b1
      iterate 2 (refine wC rfl fun K z=>?_;simp [q,c8,b1];apply z)
      obtain ⟨j6,h0,a8⟩:=bS a8
      refine wL [(.take,.tmp 45),(.take,.const (.int .i64 1)),(.take,.const (.int .i64 4))] rfl rfl lG (aU _ _ _ h0) fun K z=>?_;simp [q,c8,b1];apply z
      iterate 2 (refine wC rfl fun K z=>?_;simp [q,c8,b1];apply z)
      refine wN ?_
      cases a8
      exact e8 _ () [] trivial (by simp [q,c8,b1])
    rcases aA b8 with ⟨h1,b8⟩ | ⟨h2,b8⟩
    ·refine O.cT' (by simp) h1 ?_
     refine O.zR u fun K w=>?_
     refine wC rfl fun K z=>?_;simp [q];apply z
     apply wN;apply w
     have i7:=congrArg some (e3 _ (Option.some.inj b8).symm)
     cases i7
     try dsimp only at h
     cases h
     refine O.ret ?_
     simp [aC,iB,aK0]
    ·refine O.cF' (by simp) h2 ?_
     refine O.skip ?_
     refine O.zG u fun K w=>?_
     iterate 2 (refine wC rfl fun K z=>?_;simp [q];apply z)
     apply wN;apply w
     cases b8
     exact ⟨_,[],rfl,by simp [q]⟩
   ·refine O.cF' (by simp) g7 ?_
    refine O.exit ?_
    have i8:=congrArg some (e3 _ (Option.some.inj b8).symm)
    cases i8
    exact g5 _ _ [] rfl (by simp [q])
  subst hv
  obtain ⟨⟩:=v
  try dsimp only at h ⊢
  refine O.seq ?_
  obtain ⟨i9,a9,h⟩:=bS h
  refine O.seqRC rfl (u _ rfl) [2,3,67] [2,3] (fun _:Unit=>⟨[(2,.ref (.box 2) 0 []),(3,.ref (.box 3) 0 []),(67,.t (vb i9))],[(2,[.sl false 4 (List.map (GNode.enc false) p1.Nodes),.sl false 5 (List.map (GFn.enc false) p1.Fns)]),(3,[vs f2.Name,.sl false 2 (List.map GParam.enc f2.Params),vi f2.Res,vi f2.Body,vi f2.Ret])]⟩) (fun _=>True) (fun _ _=>?_) fun j7 e9=>?_
  rotate_left
  ·refine wC rfl fun K z=>?_;simp [q];apply z
   iterate 5 (refine wC rfl fun K z=>?_;simp [q];apply z)
   obtain ⟨j8,h3,a9⟩:=bS a9
   refine wL [(.take,.tmp 51),(.take,.const (.int .i64 0)),(.take,.tmp 55)] rfl rfl lG (aU _ _ _ h3) fun K z=>?_;simp [q];apply z
   iterate 2 (refine wC rfl fun K z=>?_;simp [q];apply z)
   rcases aA a9 with ⟨d6,a9⟩ | ⟨d7,a9⟩
   ·have c0:=d6
    try simp at c0
    iterate 8 (refine wO fun K z=>?_;simp [q,d6,c0];apply z)
    refine wC rfl fun K z=>?_;simp [q,d6,c0];apply z
    refine wN ?_
    cases a9
    exact e9 _ () [] trivial (by simp [q,d6,c0])
   ·have c1:=d7
    try simp at c1
    iterate 4 (refine wC rfl fun K z=>?_;simp [q,d7,c1];apply z)
    obtain ⟨j9,h4,a9⟩:=bS a9
    obtain ⟨d9,c9,d0,d1⟩:=gS h4
    have d2:=c9;try simp at d2
    try simp only [Int.toNat_natCast] at d0 d1
    iterate 5 (refine wC rfl fun K z=>?_;simp [q,d7,c1,d9,c9,d0,d1,d2];apply z)
    refine wN ?_
    cases a9
    exact e9 _ () [] trivial (by simp [q,d7,c1,d9,c9,d0,d1,d2])
  rcases aA h with ⟨h5,h⟩ | ⟨h6,h⟩
  ·refine O.cT' (by simp) h5 ?_
   refine O.zR u fun K w=>?_
   refine wC rfl fun K z=>?_;simp [q];apply z
   apply wN;apply w
   cases h
   refine O.ret ?_
   simp [aC,iB,aK0]
  ·refine O.cF' (by simp) h6 ?_
   refine O.skip ?_
   refine O.seq ?_
   refine O.zR u fun K w=>?_
   iterate 3 (refine wC rfl fun K z=>?_;simp [q];apply z)
   apply wN;apply w
   rcases aA h with ⟨h7,h⟩ | ⟨h8,h⟩
   ·refine O.cT' (by simp) h7 ?_
    refine O.zR u fun K w=>?_
    iterate 4 (refine wC rfl fun K z=>?_;simp [q];apply z)
    apply wN;apply w
    cases h
    refine O.ret ?_
    simp [aC,iB,aK0]
   ·refine O.cF' (by simp) h8 ?_
    refine O.skip ?_
    obtain ⟨j0,a4,h⟩:=bS h
    refine O.seqRC rfl (u _ rfl) [4] [] (fun _:Unit=>⟨[(4,.t (vb j0))],[]⟩) (fun _=>True) (fun _ _=>?_) fun k0 g0=>?_
    rotate_left
    ·refine wC rfl fun K z=>?_;simp [q];apply z
     iterate 5 (refine wC rfl fun K z=>?_;simp [q];apply z)
     obtain ⟨k1,h9,a4⟩:=bS a4
     refine wL [(.take,.tmp 75),(.take,.const (.int .i64 0)),(.take,.tmp 79)] rfl rfl lG (aU _ _ _ h9) fun K z=>?_;simp [q];apply z
     refine wC rfl fun K z=>?_;simp [q];apply z
     rcases aA a4 with ⟨c6,a4⟩ | ⟨d8,a4⟩
     ·have a6:=c6
      try simp at a6
      iterate 4 (refine wC rfl fun K z=>?_;simp [q,c6,a6];apply z)
      obtain ⟨k2,i0,a4⟩:=bS a4
      obtain ⟨c2,b2,b3,b4⟩:=gS i0
      have b5:=b2;try simp at b5
      try simp only [Int.toNat_natCast] at b3 b4
      iterate 3 (refine wC rfl fun K z=>?_;simp [q,c6,a6,c2,b2,b3,b4,b5];apply z)
      obtain ⟨k3,i1,a4⟩:=bS a4
      refine wL [(.take,.tmp 88)] rfl rfl aNn (qG _ i1) fun K z=>?_;simp [q,c6,a6,c2,b2,b3,b4,b5];apply z
      iterate 2 (refine wC rfl fun K z=>?_;simp [q,c6,a6,c2,b2,b3,b4,b5];apply z)
      refine wN ?_
      cases a4
      exact g0 _ () [] trivial (by simp [q,c6,a6,c2,b2,b3,b4,b5])
     ·have c3:=d8
      try simp at c3
      iterate 8 (refine wO fun K z=>?_;simp [q,d8,c3];apply z)
      iterate 2 (refine wC rfl fun K z=>?_;simp [q,d8,c3];apply z)
      refine wN ?_
      cases a4
      exact g0 _ () [] trivial (by simp [q,d8,c3])
    cases h
    refine O.ret ?_
    simp [aC,iB,aK0]
theorem aK4:Tryz.f53.results.toList=[.tmp 2]:=rfl
theorem ent53:aF E.P 53:=eO Tryz.func53 (by simp [Tryz.f53]) rfl
theorem uY (p1:GProgram) {r0:Bool} (h:gY p1=some r0):Ok E 53 [.val (GProgram.enc false p1)] [vb r0] []:=by
 refine oB Tryz.func53 rfl (by simp [Tryz.f53]) fun C (q:C.N=115) hP=>?_
 have u:=aL hP
 unfold gY at h
 refine O.zR u fun K w=>?_
 iterate 2 (refine wC rfl fun K z=>?_;simp [q];apply z)
 apply wN;apply w
 refine O.zR u fun K w=>?_
 iterate 4 (refine wC rfl fun K z=>?_;simp [q];apply z)
 apply wN;apply w
 refine O.seq ?_
 obtain ⟨o5,a9,h⟩:=bS h
 refine O.seqRC rfl (u _ rfl) [1,3,35] [1] (fun _:Unit=>⟨[(1,.ref (.box 1) 0 []),(3,.t (vi (p1.Nodes.length:Int))),(35,.t (vb o5))],[(1,[.sl false 4 (List.map (GNode.enc false) p1.Nodes),.sl false 5 (List.map (GFn.enc false) p1.Fns)])]⟩) (fun _=>True) (fun _ _=>?_) fun K3 j6=>?_
 rotate_left
 ·refine wC rfl fun K z=>?_;simp [q];apply z
  obtain ⟨r4,o6,a9⟩:=bS a9
  refine wL [(.take,.tmp 18),(.take,.const (.int .i64 1)),(.take,.const (.int .i64 300))] rfl rfl lG (aU _ _ _ o6) fun K z=>?_;simp [q];apply z
  iterate 2 (refine wC rfl fun K z=>?_;simp [q];apply z)
  rcases aA a9 with ⟨g0,a9⟩ | ⟨b9,a9⟩
  ·have b5:=g0
   try simp at b5
   iterate 5 (refine wO fun K z=>?_;simp [q,g0,b5];apply z)
   iterate 2 (refine wC rfl fun K z=>?_;simp [q,g0,b5];apply z)
   iterate 6 (refine wO fun K z=>?_;simp [q,g0,b5];apply z)
   refine wC rfl fun K z=>?_;simp [q,g0,b5];apply z
   refine wN ?_
   cases a9
   exact j6 _ () [] trivial (by simp [q,g0,b5])
  ·have a0:=b9
   try simp at a0
   iterate 3 (refine wC rfl fun K z=>?_;simp [q,b9,a0];apply z)
   obtain ⟨r8,o7,a9⟩:=bS a9
   refine wL [(.take,.tmp 24),(.take,.const (.int .i64 1)),(.take,.const (.int .i64 8))] rfl rfl lG (aU _ _ _ o7) fun K z=>?_;simp [q,b9,a0];apply z
   iterate 3 (refine wC rfl fun K z=>?_;simp [q,b9,a0];apply z)
   rcases aA a9 with ⟨c4,a9⟩ | ⟨c0,a9⟩
   ·have b1:=c4
    try simp at b1
    iterate 6 (refine wO fun K z=>?_;simp [q,b9,a0,c4,b1];apply z)
    refine wC rfl fun K z=>?_;simp [q,b9,a0,c4,b1];apply z
    refine wN ?_
    cases a9
    exact j6 _ () [] trivial (by simp [q,b9,a0,c4,b1])
   ·have a5:=c0
    try simp at a5
    iterate 4 (refine wC rfl fun K z=>?_;simp [q,b9,a0,c0,a5];apply z)
    obtain ⟨q8,j7,a9⟩:=bS a9
    refine wL [(.take,.tmp 30),(.take,.tmp 32)] rfl rfl ent87 (rN _ _ j7) fun K z=>?_;simp [q,b9,a0,c0,a5];apply z
    iterate 2 (refine wC rfl fun K z=>?_;simp [q,b9,a0,c0,a5];apply z)
    refine wN ?_
    cases a9
    exact j6 _ () [] trivial (by simp [q,b9,a0,c0,a5])
 rcases aA h with ⟨j8,h⟩ | ⟨j9,h⟩
 ·refine O.cT' (by simp) j8 ?_
  refine O.zR u fun K w=>?_
  refine wC rfl fun K z=>?_;simp [q];apply z
  apply wN;apply w
  cases h
  refine O.ret ?_
  simp [aC,iB,aK4]
 ·refine O.cF' (by simp) j9 ?_
  refine O.skip ?_
  refine O.zR u fun K w=>?_
  refine wC rfl fun K z=>?_;simp [q];apply z
  obtain ⟨o1,k0,h⟩:=bS h
  obtain ⟨g1,g2,g3,g4⟩:=mS k0
  have c6:List.replicate (p1.Nodes.length:Int).toNat (vi 0)=List.map vi o1:=rV (f:=vi) g4
  try simp only [Int.toNat_natCast] at c6
  iterate 2 (refine wC rfl fun K z=>?_;simp [q,g1,g2,g3,c6];apply z)
  apply wN;apply w
  obtain ⟨c7,k1,h⟩:=bS h
  refine O.seqC [1,4] [1] (fun _:Unit=>⟨[(1,.ref (.box 1) 0 []),(4,.t (.sl true 1 (List.map vi c7)))],[(1,[.sl false 4 (List.map (GNode.enc false) p1.Nodes),.sl false 5 (List.map (GFn.enc false) p1.Fns)])]⟩) (fun _=>True) (fun _ _=>?_) fun q9 k2=>?_
  rotate_left
  ·refine O.zR u fun K w=>?_
   iterate 4 (refine wC rfl fun K z=>?_;simp [q];apply z)
   apply wN;apply w
   refine O.block ?_
   refine O.loopO [] [1,4,39,40,41] [1] (fun v:(List Int) × Int=>⟨[(1,.ref (.box 1) 0 []),(4,.t (.sl true 1 (List.map vi v.1))),(39,.t (.sl false 4 (List.map (GNode.enc false) p1.Nodes))),(40,.t (vi (p1.Nodes.length:Int))),(41,.t (vi v.2))],[(1,[.sl false 4 (List.map (GNode.enc false) p1.Nodes),.sl false 5 (List.map (GFn.enc false) p1.Fns)])]⟩) (dB p1) _ (o1,0) k1 (by simp [q]) ?_
   intro g r1 c8 k3
   obtain ⟨g5,o2⟩:=g
   simp only [dB] at c8
   try dsimp only
   refine O.zR u fun K w=>?_
   refine wC rfl fun K z=>?_;simp [q];apply z
   apply wN;apply w
   refine O.seq ?_
   rcases aA c8 with ⟨k4,c8⟩ | ⟨k5,c8⟩
   ·refine O.cT' (by simp) k4 ?_
    refine O.skip ?_
    obtain ⟨g6,e4,c8⟩:=bS c8
    refine O.seqC [1,4,39,40,41] [1] (fun _:Unit=>⟨[(1,.ref (.box 1) 0 []),(4,.t (.sl true 1 (List.map vi g6))),(39,.t (.sl false 4 (List.map (GNode.enc false) p1.Nodes))),(40,.t (vi (p1.Nodes.length:Int))),(41,.t (vi o2))],[(1,[.sl false 4 (List.map (GNode.enc false) p1.Nodes),.sl false 5 (List.map (GFn.enc false) p1.Fns)])]⟩) (fun _=>True) (fun _ _=>?_) fun r2 k6=>?_
    rotate_left
    ·refine O.block ?_
     refine O.zR u fun K w=>?_
     obtain ⟨k7,k8,e4⟩:=bS e4
     obtain ⟨g7,g8,g9,h0⟩:=gS k8
     iterate 4 (refine wC rfl fun K z=>?_;simp [q,g7,g8,g9,h0];apply z)
     apply wN;apply w
     refine O.zR u fun K w=>?_
     iterate 4 (refine wC rfl fun K z=>?_;simp [q];apply z)
     apply wN;apply w
     refine O.block ?_
     refine O.loopO [] [1,4,39,40,41,46,47,48] [1] (fun v:(List Int) × Int=>⟨[(1,.ref (.box 1) 0 []),(4,.t (.sl true 1 (List.map vi v.1))),(39,.t (.sl false 4 (List.map (GNode.enc false) p1.Nodes))),(40,.t (vi (p1.Nodes.length:Int))),(41,.t (vi o2)),(46,.t (.sl false 1 (List.map vi k7.Kids))),(47,.t (vi (k7.Kids.length:Int))),(48,.t (vi v.2))],[(1,[.sl false 4 (List.map (GNode.enc false) p1.Nodes),.sl false 5 (List.map (GFn.enc false) p1.Fns)])]⟩) (dA k7) _ (g5,0) e4 (by simp [q]) ?_
     intro g r3 b7 k9
     obtain ⟨h1,r5⟩:=g
     simp only [dA] at b7
     try dsimp only
     refine O.zR u fun K w=>?_
     refine wC rfl fun K z=>?_;simp [q];apply z
     apply wN;apply w
     refine O.seq ?_
     rcases aA b7 with ⟨l0,b7⟩ | ⟨l1,b7⟩
     ·refine O.cT' (by simp) l0 ?_
      refine O.skip ?_
      refine O.seq ?_
      refine O.block ?_
      refine O.zR u fun K w=>?_
      obtain ⟨o8,l2,b7⟩:=bS b7
      obtain ⟨h2,h3,h4,h5⟩:=gS l2
      iterate 3 (refine wC rfl fun K z=>?_;simp [q,h2,h3,h4,h5];apply z)
      apply wN;apply w
      refine O.zG u fun K w=>?_
      iterate 2 (refine wC rfl fun K z=>?_;simp [q];apply z)
      obtain ⟨o9,l3,b7⟩:=bS b7
      obtain ⟨c9,d0,d1,d2⟩:=gS l3
      iterate 4 (refine wC rfl fun K z=>?_;simp [q,c9,d0,d1,d2];apply z)
      obtain ⟨p0,l4,b7⟩:=bZ b7
      have d3:(List.map vi h1).set o8.toNat (vi (IntKind.wrap .i64 (o9 + 1)))=List.map vi p0:=bU (f:=vi) l4
      try simp only [Int.toNat_natCast] at d3
      refine wC rfl fun K z=>?_;simp [q,c9,d0,d1,d2,d3];apply z
      apply wN;apply w
      refine O.zG u fun K w=>?_
      iterate 2 (refine wC rfl fun K z=>?_;simp [q];apply z)
      apply wN;apply w
      cases b7
      exact ⟨_,[],rfl,by simp [q]⟩
     ·refine O.cF' (by simp) l1 ?_
      refine O.exit ?_
      have p2:=congrArg some (k9 _ (Option.some.inj b7).symm)
      cases p2
      exact k6 _ () [] trivial (by simp [q])
    refine O.zG u fun K w=>?_
    iterate 2 (refine wC rfl fun K z=>?_;simp [q];apply z)
    apply wN;apply w
    cases c8
    exact ⟨_,[],rfl,by simp [q]⟩
   ·refine O.cF' (by simp) k5 ?_
    refine O.exit ?_
    have p3:=congrArg some (k3 _ (Option.some.inj c8).symm)
    cases p3
    exact k2 _ () [] trivial (by simp [q])
  obtain ⟨p4,l5,h⟩:=bS h
  refine O.seqC [4] [] (fun v:List Int=>⟨[(4,.t (.sl true 1 (List.map vi v)))],[]⟩) (fun v=>p4=Sum.inl v) (fun v hv=>?_) fun r6 l6=>?_
  rotate_left
  ·refine O.zR u fun K w=>?_
   iterate 4 (refine wC rfl fun K z=>?_;simp [q];apply z)
   apply wN;apply w
   refine O.block ?_
   refine O.loopO [] [1,4,61,62,63] [1] (fun v:(List Int) × Int=>⟨[(1,.ref (.box 1) 0 []),(4,.t (.sl true 1 (List.map vi v.1))),(61,.t (.sl false 5 (List.map (GFn.enc false) p1.Fns))),(62,.t (vi (p1.Fns.length:Int))),(63,.t (vi v.2))],[(1,[.sl false 4 (List.map (GNode.enc false) p1.Nodes),.sl false 5 (List.map (GFn.enc false) p1.Fns)])]⟩) (bY p1) _ (c7,0) l5 (by simp [q]) ?_
   intro g r7 b6 e5
   obtain ⟨d4,l7⟩:=g
   simp only [bY] at b6
   try dsimp only
   refine O.zR u fun K w=>?_
   refine wC rfl fun K z=>?_;simp [q];apply z
   apply wN;apply w
   refine O.seq ?_
   rcases aA b6 with ⟨l8,b6⟩ | ⟨l9,b6⟩
   ·refine O.cT' (by simp) l8 ?_
    refine O.skip ?_
    obtain ⟨p5,a2,b6⟩:=bS b6
    refine O.seqC [1,4,61,62,63] [1] (fun v:List Int=>⟨[(1,.ref (.box 1) 0 []),(4,.t (.sl true 1 (List.map vi v))),(61,.t (.sl false 5 (List.map (GFn.enc false) p1.Fns))),(62,.t (vi (p1.Fns.length:Int))),(63,.t (vi l7))],[(1,[.sl false 4 (List.map (GNode.enc false) p1.Nodes),.sl false 5 (List.map (GFn.enc false) p1.Fns)])]⟩) (fun v=>p5=Sum.inl v) (fun v hv=>?_) fun r9 m0=>?_
    rotate_left
    ·refine O.block ?_
     refine O.zR u fun K w=>?_
     refine wC rfl fun K z=>?_;simp [q];apply z
     obtain ⟨b8,m1,a2⟩:=bS a2
     obtain ⟨h6,h7,h8,h9⟩:=gS m1
     iterate 5 (refine wC rfl fun K z=>?_;simp [q,h6,h7,h8,h9];apply z)
     apply wN;apply w
     refine O.seq ?_
     obtain ⟨p6,a3,a2⟩:=bS a2
     refine O.seqRC rfl (u _ rfl) [1,4,10,61,62,63,79] [1,10] (fun _:Unit=>⟨[(1,.ref (.box 1) 0 []),(4,.t (.sl true 1 (List.map vi d4))),(10,.ref (.box 10) 0 []),(61,.t (.sl false 5 (List.map (GFn.enc false) p1.Fns))),(62,.t (vi (p1.Fns.length:Int))),(63,.t (vi l7)),(79,.t (vb p6))],[(1,[.sl false 4 (List.map (GNode.enc false) p1.Nodes),.sl false 5 (List.map (GFn.enc false) p1.Fns)]),(10,[vs b8.Name,.sl false 2 (List.map GParam.enc b8.Params),vi b8.Res,vi b8.Body,vi b8.Ret])]⟩) (fun _=>True) (fun _ _=>?_) fun s0 i0=>?_
     rotate_left
     ·refine wC rfl fun K z=>?_;simp [q];apply z
      refine wC rfl fun K z=>?_;simp [q];apply z
      obtain ⟨s1,m2,a3⟩:=bS a3
      refine wL [(.take,.tmp 68),(.take,.tmp 69)] rfl rfl ent88 (aEt _ _ m2) fun K z=>?_;simp [q];apply z
      iterate 2 (refine wC rfl fun K z=>?_;simp [q];apply z)
      rcases aA a3 with ⟨c5,a3⟩ | ⟨c1,a3⟩
      ·have b2:=c5
       try simp at b2
       iterate 6 (refine wO fun K z=>?_;simp [q,c5,b2];apply z)
       refine wC rfl fun K z=>?_;simp [q,c5,b2];apply z
       refine wN ?_
       cases a3
       exact i0 _ () [] trivial (by simp [q,c5,b2])
      ·have a6:=c1
       try simp at a6
       iterate 3 (refine wC rfl fun K z=>?_;simp [q,c1,a6];apply z)
       obtain ⟨s2,m3,a3⟩:=bS a3
       refine wL [(.take,.tmp 73),(.take,.tmp 75)] rfl rfl ent41 (vO _ _ m3) fun K z=>?_;simp [q,c1,a6];apply z
       iterate 3 (refine wC rfl fun K z=>?_;simp [q,c1,a6];apply z)
       refine wN ?_
       cases a3
       exact i0 _ () [] trivial (by simp [q,c1,a6])
     rcases aA a2 with ⟨m4,a2⟩ | ⟨m5,a2⟩
     ·refine O.cT' (by simp) m4 ?_
      refine O.zR u fun K w=>?_
      refine wC rfl fun K z=>?_;simp [q];apply z
      apply wN;apply w
      cases a2
      try dsimp only at b6
      have p7:=congrArg some (e5 _ (Option.some.inj b6).symm)
      cases p7
      try dsimp only at h
      cases h
      refine O.ret ?_
      simp [aC,iB,aK4]
     ·refine O.cF' (by simp) m5 ?_
      refine O.skip ?_
      refine O.zR u fun K w=>?_
      iterate 7 (refine wC rfl fun K z=>?_;simp [q];apply z)
      apply wN;apply w
      refine O.block ?_
      refine O.loopO [] [1,4,61,62,63,84,85,86] [1] (fun v:(List Int) × Int=>⟨[(1,.ref (.box 1) 0 []),(4,.t (.sl true 1 (List.map vi v.1))),(61,.t (.sl false 5 (List.map (GFn.enc false) p1.Fns))),(62,.t (vi (p1.Fns.length:Int))),(63,.t (vi l7)),(84,.t (.sl true 1 (List.map vi [b8.Body,b8.Ret]))),(85,.t (vi ([b8.Body,b8.Ret].length:Int))),(86,.t (vi v.2))],[(1,[.sl false 4 (List.map (GNode.enc false) p1.Nodes),.sl false 5 (List.map (GFn.enc false) p1.Fns)])]⟩) (aH b8) _ (d4,0) a2 (by simp [q]) ?_
      intro g s3 a1 i1
      obtain ⟨i2,p8⟩:=g
      simp only [aH] at a1
      try dsimp only
      refine O.zR u fun K w=>?_
      refine wC rfl fun K z=>?_;simp [q];apply z
      apply wN;apply w
      refine O.seq ?_
      rcases aA a1 with ⟨m6,a1⟩ | ⟨m7,a1⟩
      ·refine O.cT' (by simp) m6 ?_
       refine O.skip ?_
       refine O.seq ?_
       refine O.block ?_
       refine O.zR u fun K w=>?_
       obtain ⟨o3,m8,a1⟩:=bS a1
       obtain ⟨i3,d5,d6,i4⟩:=gS m8
       have d7:=d5;try simp at d7
       have c2:(List.map vi [b8.Body,b8.Ret])[p8.toNat]? = some (vi o3):=by rw [List.getElem?_map,d6];rfl
       try simp only [List.map_cons,List.map_nil] at c2
       have i5:=(List.getElem?_eq_some_iff.1 c2).2
       iterate 3 (refine wC rfl fun K z=>?_;simp [q,i3,d5,d6,i4,d7,c2,i5];apply z)
       apply wN;apply w
       refine O.seq ?_
       refine O.zR u fun K w=>?_
       iterate 2 (refine wC rfl fun K z=>?_;simp [q];apply z)
       apply wN;apply w
       rcases aA a1 with ⟨m9,a1⟩ | ⟨n0,a1⟩
       ·refine O.cT' (by simp) m9 ?_
        refine O.exit ?_
        refine O.zG u fun K w=>?_
        iterate 2 (refine wC rfl fun K z=>?_;simp [q];apply z)
        apply wN;apply w
        cases a1
        exact ⟨_,[],rfl,by simp [q]⟩
       ·refine O.cF' (by simp) n0 ?_
        refine O.skip ?_
        refine O.seq ?_
        refine O.zR u fun K w=>?_
        iterate 2 (refine wC rfl fun K z=>?_;simp [q];apply z)
        obtain ⟨s4,n1,a1⟩:=bS a1
        obtain ⟨i6,i7,i8,i9⟩:=gS n1
        iterate 3 (refine wC rfl fun K z=>?_;simp [q,i6,i7,i8,i9];apply z)
        apply wN;apply w
        rcases aA a1 with ⟨n2,a1⟩ | ⟨n3,a1⟩
        ·refine O.cT' (by simp) n2 ?_
         refine O.zR u fun K w=>?_
         refine wC rfl fun K z=>?_;simp [q];apply z
         apply wN;apply w
         have p9:=congrArg some (i1 _ (Option.some.inj a1).symm)
         cases p9
         try dsimp only at b6
         have q0:=congrArg some (e5 _ (Option.some.inj b6).symm)
         cases q0
         try dsimp only at h
         cases h
         refine O.ret ?_
         simp [aC,iB,aK4]
        ·refine O.cF' (by simp) n3 ?_
         refine O.skip ?_
         refine O.zG u fun K w=>?_
         iterate 2 (refine wC rfl fun K z=>?_;simp [q];apply z)
         obtain ⟨s5,n4,a1⟩:=bS a1
         obtain ⟨d8,d9,e0,e1⟩:=gS n4
         refine wC rfl fun K z=>?_;simp [q,d8,d9,e0,e1];apply z
         obtain ⟨q1,n5,a1⟩:=bZ a1
         have e2:(List.map vi i2).set o3.toNat (vi (-1))=List.map vi q1:=bU (f:=vi) n5
         try simp only [Int.toNat_natCast] at e2
         refine wC rfl fun K z=>?_;simp [q,d8,d9,e0,e1,e2];apply z
         apply wN;apply w
         refine O.zG u fun K w=>?_
         iterate 2 (refine wC rfl fun K z=>?_;simp [q];apply z)
         apply wN;apply w
         cases a1
         exact ⟨_,[],rfl,by simp [q]⟩
      ·refine O.cF' (by simp) m7 ?_
       refine O.exit ?_
       have q2:=congrArg some (i1 _ (Option.some.inj a1).symm)
       cases q2
       exact m0 _ _ [] rfl (by simp [q])
    subst hv
    obtain ⟨o4,hv⟩:∃ y,y=v:=⟨_,rfl⟩
    subst hv
    try dsimp only at b6 ⊢
    refine O.zG u fun K w=>?_
    iterate 2 (refine wC rfl fun K z=>?_;simp [q];apply z)
    apply wN;apply w
    cases b6
    exact ⟨_,[],rfl,by simp [q]⟩
   ·refine O.cF' (by simp) l9 ?_
    refine O.exit ?_
    have q3:=congrArg some (e5 _ (Option.some.inj b6).symm)
    cases q3
    exact l6 _ _ [] rfl (by simp [q])
  subst hv
  obtain ⟨a7,hv⟩:∃ y,y=v:=⟨_,rfl⟩
  subst hv
  try dsimp only at h ⊢
  obtain ⟨q4,n6,h⟩:=bS h
  refine O.seqC [] [] (fun v:Unit=>⟨[],[]⟩) (fun v=>q4=Sum.inl v) (fun v hv=>?_) fun s6 n7=>?_
  rotate_left
  ·refine O.zR u fun K w=>?_
   iterate 3 (refine wC rfl fun K z=>?_;simp [q];apply z)
   apply wN;apply w
   refine O.block ?_
   refine O.loopO [] [4,102,103,104] [] (fun v:Int=>⟨[(4,.t (.sl true 1 (List.map vi a7))),(102,.al (.slot 4) 0 [] none),(103,.t (vi (a7.length:Int))),(104,.t (vi v))],[]⟩) (cZ a7) _ 0 n6 (by simp [q]) ?_
   intro g s7 b3 j0
   obtain ⟨q5,hg⟩:∃ y,y=g:=⟨_,rfl⟩
   subst hg
   simp only [cZ] at b3
   try dsimp only
   refine O.zR u fun K w=>?_
   refine wC rfl fun K z=>?_;simp [q];apply z
   apply wN;apply w
   refine O.seq ?_
   rcases aA b3 with ⟨j1,b3⟩ | ⟨j2,b3⟩
   ·refine O.cT' (by simp) j1 ?_
    refine O.skip ?_
    refine O.seq ?_
    refine O.block ?_
    refine O.zR u fun K w=>?_
    obtain ⟨q6,j3,b3⟩:=bS b3
    obtain ⟨e6,e7,e8,e9⟩:=gS j3
    iterate 3 (refine wC rfl fun K z=>?_;simp [q,e6,e7,e8,e9];apply z)
    apply wN;apply w
    obtain ⟨n8,a8,b3⟩:=bS b3
    refine O.seqRC rfl (u _ rfl) [4,102,103,104,113] [] (fun _:Unit=>⟨[(4,.t (.sl true 1 (List.map vi a7))),(102,.al (.slot 4) 0 [] none),(103,.t (vi (a7.length:Int))),(104,.t (vi q5)),(113,.t (vb n8))],[]⟩) (fun _=>True) (fun _ _=>?_) fun q7 e3=>?_
    rotate_left
    ·refine wC rfl fun K z=>?_;simp [q];apply z
     iterate 2 (refine wC rfl fun K z=>?_;simp [q];apply z)
     rcases aA a8 with ⟨c3,a8⟩ | ⟨b4,a8⟩
     ·have b0:=c3
      try simp at b0
      iterate 3 (refine wC rfl fun K z=>?_;simp [q,c3,b0];apply z)
      refine wN ?_
      cases a8
      exact e3 _ () [] trivial (by simp [q,c3,b0])
     ·have a4:=b4
      try simp at a4
      iterate 2 (refine wO fun K z=>?_;simp [q,b4,a4];apply z)
      refine wC rfl fun K z=>?_;simp [q,b4,a4];apply z
      refine wN ?_
      cases a8
      exact e3 _ () [] trivial (by simp [q,b4,a4])
    rcases aA b3 with ⟨j4,b3⟩ | ⟨j5,b3⟩
    ·refine O.cT' (by simp) j4 ?_
     refine O.zR u fun K w=>?_
     refine wC rfl fun K z=>?_;simp [q];apply z
     apply wN;apply w
     have n9:=congrArg some (j0 _ (Option.some.inj b3).symm)
     cases n9
     try dsimp only at h
     cases h
     refine O.ret ?_
     simp [aC,iB,aK4]
    ·refine O.cF' (by simp) j5 ?_
     refine O.skip ?_
     refine O.zG u fun K w=>?_
     iterate 2 (refine wC rfl fun K z=>?_;simp [q];apply z)
     apply wN;apply w
     cases b3
     exact ⟨_,[],rfl,by simp [q]⟩
   ·refine O.cF' (by simp) j2 ?_
    refine O.exit ?_
    have o0:=congrArg some (j0 _ (Option.some.inj b3).symm)
    cases o0
    exact n7 _ _ [] rfl (by simp [q])
  subst hv
  obtain ⟨⟩:=v
  try dsimp only at h ⊢
  refine O.zR u fun K w=>?_
  refine wC rfl fun K z=>?_;simp [q];apply z
  apply wN;apply w
  cases h
  refine O.ret ?_
  simp [aC,iB,aK4]
theorem res111:Tryz.f111.results.toList=[.tmp 4]:=rfl
theorem ent111:aF E.P 111:=eO Tryz.func111 (by simp [Tryz.f111]) rfl
theorem aCy (a0:List GNode) (k2:Int) {r0:List Int} (h:nW a0 k2=some r0):Ok E 111 [.val (.sl false 4 (List.map (GNode.enc false) a0)),.val (vi k2)] [.sl true 1 (List.map vi r0)] []:=by
 refine oB Tryz.func111 rfl (by simp [Tryz.f111]) fun C (q:C.N=42) hP=>?_
 have y:=aL hP
 unfold nW at h
 refine O.zR y fun K u=>?_
 refine wC rfl fun K w=>?_;simp [q];apply w
 apply wN;apply u
 refine O.zR y fun K u=>?_
 iterate 3 (refine wC rfl fun K w=>?_;simp [q];apply w)
 apply wN;apply u
 obtain ⟨b0,d8,h⟩:=bS h
 refine O.seqC [5] [] (fun _:Unit=>⟨[(5,.t (.sl true 1 (List.map vi b0)))],[]⟩) (fun _=>True) (fun _ _=>?_) fun K4 d9=>?_
 rotate_left
 ·refine O.zR y fun K u=>?_
  refine wC rfl fun K w=>?_;simp [q];apply w
  apply wN;apply u
  refine O.block ?_
  refine O.loopO [] [0,5,6] [] (fun v:(List Int) × Int=>⟨[(0,.t (.sl false 4 (List.map (GNode.enc false) a0))),(5,.t (.sl true 1 (List.map vi v.1))),(6,.t (vi v.2))],[]⟩) (gG a0) _ ([k2],0) d8 (by simp [q]) ?_
  intro g e5 h8 e0
  obtain ⟨c2,i7⟩:=g
  simp only [gG] at h8
  try dsimp only
  refine O.seq ?_
  refine O.zR y fun K u=>?_
  iterate 4 (refine wC rfl fun K w=>?_;simp [q];apply w)
  apply wN;apply u
  rcases aA h8 with ⟨c3,h8⟩ | ⟨c4,h8⟩
  ·refine O.cT' (by simp) c3 ?_
   refine O.skip ?_
   obtain ⟨b1,a2,h8⟩:=bS h8
   refine O.seqC [0,5,6] [] (fun _:Unit=>⟨[(0,.t (.sl false 4 (List.map (GNode.enc false) a0))),(5,.t (.sl true 1 (List.map vi b1))),(6,.t (vi i7))],[]⟩) (fun _=>True) (fun _ _=>?_) fun e6 c5=>?_
   rotate_left
   ·refine O.block ?_
    refine O.zR y fun K u=>?_
    iterate 3 (refine wC rfl fun K w=>?_;simp [q];apply w)
    obtain ⟨e7,c6,a2⟩:=bS a2
    obtain ⟨a3,a4,a5,a6⟩:=gS c6
    iterate 2 (refine wC rfl fun K w=>?_;simp [q,a3,a4,a5,a6];apply w)
    obtain ⟨c7,c8,a2⟩:=bS a2
    obtain ⟨b2,b3,b4,b5⟩:=gS c8
    iterate 5 (refine wC rfl fun K w=>?_;simp [q,a3,a4,a5,a6,b2,b3,b4,b5];apply w)
    apply wN;apply u
    refine O.block ?_
    refine O.loopO [] [0,5,6,24,25,26] [] (fun v:(List Int) × Int=>⟨[(0,.t (.sl false 4 (List.map (GNode.enc false) a0))),(5,.t (.sl true 1 (List.map vi v.1))),(6,.t (vi i7)),(24,.t (.sl false 1 (List.map vi c7.Kids))),(25,.t (vi (c7.Kids.length:Int))),(26,.t (vi v.2))],[]⟩) (gF c7) _ (c2,0) a2 (by simp [q]) ?_
    intro g e8 a1 c9
    obtain ⟨b6,e9⟩:=g
    simp only [gF] at a1
    try dsimp only
    refine O.zR y fun K u=>?_
    refine wC rfl fun K w=>?_;simp [q];apply w
    apply wN;apply u
    refine O.seq ?_
    rcases aA a1 with ⟨d0,a1⟩ | ⟨d1,a1⟩
    ·refine O.cT' (by simp) d0 ?_
     refine O.skip ?_
     refine O.seq ?_
     refine O.block ?_
     refine O.zR y fun K u=>?_
     obtain ⟨e1,d2,a1⟩:=bS a1
     obtain ⟨b7,b8,b9,c0⟩:=gS d2
     iterate 3 (refine wC rfl fun K w=>?_;simp [q,b7,b8,b9,c0];apply w)
     apply wN;apply u
     refine O.zR y fun K u=>?_
     iterate 2 (refine wC rfl fun K w=>?_;simp [q];apply w)
     obtain ⟨g0,d3,a1⟩:=bS a1
     refine wL [(.bor,.tmp 30),(.take,.tmp 31)] rfl rfl aHu (jW _ _ d3) fun K w=>?_;simp [q];apply w
     refine wC rfl fun K w=>?_;simp [q];apply w
     apply wN;apply u
     rcases aA a1 with ⟨d4,a1⟩ | ⟨d5,a1⟩
     ·refine O.cT' (by simp) d4 ?_
      refine O.zG y fun K u=>?_
      iterate 3 (refine wC rfl fun K w=>?_;simp [q];apply w)
      obtain ⟨e2,d6,a1⟩:=bS a1
      obtain ⟨a7,a8,c1⟩:=aS d6
      have a9:List.map vi b6 ++ List.map vi [e1]=List.map vi e2:=dJ (f:=vi) c1
      simp [eSl] at a7 a8 a9
      iterate 2 (refine wC rfl fun K w=>?_;simp [q,a7,a8,a9];apply w)
      apply wN;apply u
      refine O.zG y fun K u=>?_
      iterate 2 (refine wC rfl fun K w=>?_;simp [q];apply w)
      apply wN;apply u
      cases a1
      exact ⟨_,[],rfl,by simp [q]⟩
     ·refine O.cF' (by simp) d5 ?_
      refine O.skip ?_
      refine O.zG y fun K u=>?_
      iterate 2 (refine wC rfl fun K w=>?_;simp [q];apply w)
      apply wN;apply u
      cases a1
      exact ⟨_,[],rfl,by simp [q]⟩
    ·refine O.cF' (by simp) d1 ?_
     refine O.exit ?_
     have e3:=congrArg some (c9 _ (Option.some.inj a1).symm)
     cases e3
     exact c5 _ () [] trivial (by simp [q])
   refine O.zG y fun K u=>?_
   iterate 3 (refine wC rfl fun K w=>?_;simp [q];apply w)
   apply wN;apply u
   cases h8
   exact ⟨_,[],rfl,by simp [q]⟩
  ·refine O.cF' (by simp) c4 ?_
   refine O.exit ?_
   have e4:=congrArg some (e0 _ (Option.some.inj h8).symm)
   cases e4
   exact d9 _ () [] trivial (by simp [q])
 refine O.zR y fun K u=>?_
 refine wC rfl fun K w=>?_;simp [q];apply w
 obtain ⟨g1,d7,h⟩:=bS h
 refine lH rfl aNm (vL _ d7) fun K w=>?_;simp [q];apply w
 apply wN;apply u
 refine O.zR y fun K u=>?_
 iterate 2 (refine wC rfl fun K w=>?_;simp [q];apply w)
 apply wN;apply u
 cases h
 refine O.ret ?_
 simp [aC,iB,res111]
theorem res96:Tryz.f96.results.toList=[.tmp 4]:=rfl
theorem ent96:aF E.P 96:=eO Tryz.func96 (by simp [Tryz.f96]) rfl
theorem tI (p1:GProgram) (k2:Int) {r0:List Int} (h:lK p1 k2=some r0):Ok E 96 [.val (GProgram.enc false p1),.val (vi k2)] [.sl true 1 (List.map vi r0)] []:=by
 refine oB Tryz.func96 rfl (by simp [Tryz.f96]) fun C (q:C.N=14) hP=>?_
 have y:=aL hP
 unfold lK at h
 refine O.zR y fun K u=>?_
 iterate 2 (refine wC rfl fun K v=>?_;simp [q];apply v)
 apply wN;apply u
 refine O.seq ?_
 refine O.zR y fun K u=>?_
 iterate 3 (refine wC rfl fun K v=>?_;simp [q];apply v)
 obtain ⟨r3,a0,h⟩:=bS h
 refine wL [(.take,.tmp 6),(.take,.tmp 7)] rfl rfl ent87 (rN _ _ a0) fun K v=>?_;simp [q];apply v
 refine wC rfl fun K v=>?_;simp [q];apply v
 apply wN;apply u
 rcases aA h with ⟨a1,h⟩ | ⟨a2,h⟩
 ·refine O.cT' (by simp) a1 ?_
  refine O.zR y fun K u=>?_
  refine wC rfl fun K v=>?_;simp [q];apply v
  apply wN;apply u
  cases h
  refine O.ret ?_
  simp [aC,iB,res96]
 ·refine O.cF' (by simp) a2 ?_
  refine O.skip ?_
  refine O.zR y fun K u=>?_
  iterate 3 (refine wC rfl fun K v=>?_;simp [q];apply v)
  obtain ⟨r7,a3,h⟩:=bS h
  refine wL [(.take,.tmp 11),(.take,.tmp 12)] rfl rfl ent111 (aCy _ _ a3) fun K v=>?_;simp [q];apply v
  refine wC rfl fun K v=>?_;simp [q];apply v
  apply wN;apply u
  cases h
  refine O.ret ?_
  simp [aC,iB,res96]
theorem res64:Tryz.f64.results.toList=[.tmp 4]:=rfl
theorem ent64:aF E.P 64:=eO Tryz.func64 (by simp [Tryz.f64]) rfl
theorem rM (p1:GProgram) (b5:Int) {r0:List GVar} (h:jR p1 b5=some r0):Ok E 64 [.val (GProgram.enc false p1),.val (vi b5)] [.sl true 3 (List.map GVar.enc r0)] []:=by
 refine oB Tryz.func64 rfl (by simp [Tryz.f64]) fun C (q:C.N=68) hP=>?_
 have y:=aL hP
 unfold jR at h
 refine O.zR y fun K u=>?_
 iterate 2 (refine wC rfl fun K z=>?_;simp [q];apply z)
 apply wN;apply u
 refine O.seq ?_
 refine O.zR y fun K u=>?_
 iterate 5 (refine wC rfl fun K z=>?_;simp [q];apply z)
 obtain ⟨r3,g8,h⟩:=bS h
 refine wL [(.take,.tmp 11),(.take,.const (.int .i64 0)),(.take,.tmp 15)] rfl rfl lG (aU _ _ _ g8) fun K z=>?_;simp [q];apply z
 refine wC rfl fun K z=>?_;simp [q];apply z
 apply wN;apply u
 rcases aA h with ⟨g9,h⟩ | ⟨h0,h⟩
 ·refine O.cT' (by simp) g9 ?_
  refine O.zR y fun K u=>?_
  refine wC rfl fun K z=>?_;simp [q];apply z
  apply wN;apply u
  cases h
  refine O.ret ?_
  simp [aC,iB,res64]
 ·refine O.cF' (by simp) h0 ?_
  refine O.skip ?_
  refine O.zR y fun K u=>?_
  refine wC rfl fun K z=>?_;simp [q];apply z
  apply wN;apply u
  obtain ⟨a8,d8,h⟩:=bS h
  refine O.seqC [1,2,5] [2] (fun _:Unit=>⟨[(1,.t (vi b5)),(2,.ref (.box 2) 0 []),(5,.t (.sl true 3 (List.map GVar.enc a8)))],[(2,[.sl false 4 (List.map (GNode.enc false) p1.Nodes),.sl false 5 (List.map (GFn.enc false) p1.Fns)])]⟩) (fun _=>True) (fun _ _=>?_) fun K8 h1=>?_
  rotate_left
  ·refine O.zR y fun K u=>?_
   iterate 3 (refine wC rfl fun K z=>?_;simp [q];apply z)
   obtain ⟨d9,e0,d8⟩:=bS d8
   obtain ⟨b6,b7,b8,b9⟩:=gS e0
   iterate 5 (refine wC rfl fun K z=>?_;simp [q,b6,b7,b8,b9];apply z)
   apply wN;apply u
   refine O.block ?_
   refine O.loopO [] [1,2,5,23,24,25] [2] (fun v:(List GVar) × Int=>⟨[(1,.t (vi b5)),(2,.ref (.box 2) 0 []),(5,.t (.sl true 3 (List.map GVar.enc v.1))),(23,.t (.sl false 2 (List.map GParam.enc d9.Params))),(24,.t (vi (d9.Params.length:Int))),(25,.t (vi v.2))],[(2,[.sl false 4 (List.map (GNode.enc false) p1.Nodes),.sl false 5 (List.map (GFn.enc false) p1.Fns)])]⟩) (fK d9) _ ([],0) d8 (by simp [q]) ?_
   intro g h8 a7 e1
   obtain ⟨c0,h9⟩:=g
   simp only [fK] at a7
   try dsimp only
   refine O.zR y fun K u=>?_
   refine wC rfl fun K z=>?_;simp [q];apply z
   apply wN;apply u
   refine O.seq ?_
   rcases aA a7 with ⟨e2,a7⟩ | ⟨e3,a7⟩
   ·refine O.cT' (by simp) e2 ?_
    refine O.skip ?_
    refine O.seq ?_
    refine O.block ?_
    refine O.zR y fun K u=>?_
    obtain ⟨g7,e4,a7⟩:=bS a7
    obtain ⟨c1,c2,c3,c4⟩:=gS e4
    iterate 4 (refine wC rfl fun K z=>?_;simp [q,c1,c2,c3,c4];apply z)
    apply wN;apply u
    refine O.zG y fun K u=>?_
    iterate 7 (refine wC rfl fun K z=>?_;simp [q];apply z)
    obtain ⟨h2,e5,a7⟩:=bS a7
    obtain ⟨a9,b0,c5⟩:=aS e5
    have b1:List.map GVar.enc c0 ++ List.map GVar.enc [(⟨g7.Name,g7.Typ,(-1)⟩:GVar)]=List.map GVar.enc h2:=dJ (f:=GVar.enc) c5
    simp [eSl,GVar.enc] at a9 b0 b1
    iterate 2 (refine wC rfl fun K z=>?_;simp [q,a9,b0,b1];apply z)
    apply wN;apply u
    refine O.zG y fun K u=>?_
    iterate 2 (refine wC rfl fun K z=>?_;simp [q];apply z)
    apply wN;apply u
    cases a7
    exact ⟨_,[],rfl,by simp [q]⟩
   ·refine O.cF' (by simp) e3 ?_
    refine O.exit ?_
    have h3:=congrArg some (e1 _ (Option.some.inj a7).symm)
    cases h3
    exact h1 _ () [] trivial (by simp [q])
  obtain ⟨c6,a5,h⟩:=bS h
  refine O.seqC [5] [] (fun _:Unit=>⟨[(5,.t (.sl true 3 (List.map GVar.enc c6)))],[]⟩) (fun _=>True) (fun _ _=>?_) fun i0 e6=>?_
  rotate_left
  ·refine O.seq ?_
   obtain ⟨a6,e7,a5⟩:=bS a5
   obtain ⟨a1,a2,a3,a4⟩:=gS e7
   obtain ⟨c7,e8,a5⟩:=bS a5
   refine O.dT rfl (y _ rfl) [(38,.t (GProgram.enc false p1)),(39,.ref (.box 2) 1 []),(40,.t (.sl false 5 (List.map (GFn.enc false) p1.Fns))),(41,.t (vi b5)),(42,.rop [vs a6.Name,.sl false 2 (List.map GParam.enc a6.Params),vi a6.Res,vi a6.Body,vi a6.Ret] 0),(43,.rop [vs a6.Name,.sl false 2 (List.map GParam.enc a6.Params),vi a6.Res,vi a6.Body,vi a6.Ret] 3),(44,.t (vi a6.Body)),(45,.t (.sl true 1 (List.map vi c7))),(46,.t (vi (c7.length:Int))),(47,.t (vi 0))] [[],[],[1],[],[1,2,3],[1,2,3,4],[1,2,3,4,5],[0,1,2,3,4,5,6],[0,1,2,3,4,5,6,7],[]] (by simp) (by simp) (by simp [look]) rfl rfl rfl ?_ fun K u=>?_
   ·refine ⟨?_,?_,?_,?_,?_,?_,?_,?_,?_,?_,trivial⟩
    all_goals (intro τ hbx hb hd hf K u;try simp [aJ] at hd;simp [aJ] at hf;first | (refine wC rfl fun K' w=>?_;simp [q,hbx,hb,hd,hf,a1,a2,a3,a4];exact w _ (wN (u _ (by simp [aJ,hbx,a1,a2,a3,a4])))) | (refine wL [(.take,.tmp 38),(.take,.tmp 44)] rfl rfl ent96 (tI _ _ e8) fun K' w=>?_;simp [q,hbx,hb,hd,hf,a1,a2,a3,a4];exact w _ (wN (u _ (by simp [aJ,hbx,a1,a2,a3,a4])))))
   apply wN;apply u
   refine O.block ?_
   refine O.loopO [] [2,5,45,46,47] [2] (fun v:(List GVar) × Int=>⟨[(2,.ref (.box 2) 0 []),(5,.t (.sl true 3 (List.map GVar.enc v.1))),(45,.t (.sl true 1 (List.map vi c7))),(46,.t (vi (c7.length:Int))),(47,.t (vi v.2))],[(2,[.sl false 4 (List.map (GNode.enc false) p1.Nodes),.sl false 5 (List.map (GFn.enc false) p1.Fns)])]⟩) (fJ p1 c7) _ (a8,0) a5 (by simp [q]) ?_
   intro g i1 a0 e9
   obtain ⟨c8,i2⟩:=g
   simp only [fJ] at a0
   try dsimp only
   refine O.zR y fun K u=>?_
   refine wC rfl fun K z=>?_;simp [q];apply z
   apply wN;apply u
   refine O.seq ?_
   rcases aA a0 with ⟨g0,a0⟩ | ⟨g1,a0⟩
   ·refine O.cT' (by simp) g0 ?_
    refine O.skip ?_
    refine O.seq ?_
    refine O.block ?_
    refine O.zR y fun K u=>?_
    obtain ⟨h4,g2,a0⟩:=bS a0
    obtain ⟨c9,d0,d1,d2⟩:=gS g2
    iterate 3 (refine wC rfl fun K z=>?_;simp [q,c9,d0,d1,d2];apply z)
    apply wN;apply u
    refine O.zR y fun K u=>?_
    iterate 3 (refine wC rfl fun K z=>?_;simp [q];apply z)
    obtain ⟨h5,g3,a0⟩:=bS a0
    obtain ⟨d3,d4,d5,d6⟩:=gS g3
    iterate 4 (refine wC rfl fun K z=>?_;simp [q,d3,d4,d5,d6];apply z)
    apply wN;apply u
    refine O.zR y fun K u=>?_
    iterate 3 (refine wC rfl fun K z=>?_;simp [q];apply z)
    apply wN;apply u
    rcases aA a0 with ⟨g4,a0⟩ | ⟨g5,a0⟩
    ·refine O.cT' (by simp) g4 ?_
     refine O.zG y fun K u=>?_
     iterate 6 (refine wC rfl fun K z=>?_;simp [q];apply z)
     obtain ⟨h6,g6,a0⟩:=bS a0
     obtain ⟨b2,b3,d7⟩:=aS g6
     have b4:List.map GVar.enc c8 ++ List.map GVar.enc [(⟨h5.Name,0,h4⟩:GVar)]=List.map GVar.enc h6:=dJ (f:=GVar.enc) d7
     simp [eSl,GVar.enc] at b2 b3 b4
     iterate 2 (refine wC rfl fun K z=>?_;simp [q,b2,b3,b4];apply z)
     apply wN;apply u
     refine O.zG y fun K u=>?_
     iterate 2 (refine wC rfl fun K z=>?_;simp [q];apply z)
     apply wN;apply u
     cases a0
     exact ⟨_,[],rfl,by simp [q]⟩
    ·refine O.cF' (by simp) g5 ?_
     refine O.skip ?_
     refine O.zG y fun K u=>?_
     iterate 2 (refine wC rfl fun K z=>?_;simp [q];apply z)
     apply wN;apply u
     cases a0
     exact ⟨_,[],rfl,by simp [q]⟩
   ·refine O.cF' (by simp) g1 ?_
    refine O.exit ?_
    have h7:=congrArg some (e9 _ (Option.some.inj a0).symm)
    cases h7
    exact e6 _ () [] trivial (by simp [q])
  refine O.zR y fun K u=>?_
  iterate 2 (refine wC rfl fun K z=>?_;simp [q];apply z)
  apply wN;apply u
  cases h
  refine O.ret ?_
  simp [aC,iB,res64]
theorem res67:Tryz.f67.results.toList=[.tmp 4]:=rfl
theorem ent67:aF E.P 67:=eO Tryz.func67 (by simp [Tryz.f67]) rfl
theorem tH (a0:List GVar) (a1:ByteArray) {r0:Int} (h:lJ a0 a1=some r0):Ok E 67 [.val (.sl false 3 (List.map GVar.enc a0)),.val (vs a1)] [vi r0] []:=by
 refine oB Tryz.func67 rfl (by simp [Tryz.f67]) fun C (q:C.N=20) hP=>?_
 have u:=aL hP
 unfold lJ at h
 refine O.zR u fun K w=>?_
 refine wC rfl fun K z=>?_;simp [q];apply z
 apply wN;apply w
 obtain ⟨j5,b2,h⟩:=bS h
 refine O.seqC [] [] (fun v:Unit=>⟨[],[]⟩) (fun v=>j5=Sum.inl v) (fun v hv=>?_) fun K4 b3=>?_
 rotate_left
 ·refine O.zR u fun K w=>?_
  iterate 3 (refine wC rfl fun K z=>?_;simp [q];apply z)
  apply wN;apply w
  refine O.block ?_
  refine O.loopO [] [1,7,8,9] [] (fun v:Int=>⟨[(1,.t (vs a1)),(7,.t (.sl false 3 (List.map GVar.enc a0))),(8,.t (vi (a0.length:Int))),(9,.t (vi v))],[]⟩) (gI a0 a1) _ 0 b2 (by simp [q]) ?_
  intro g s9 h7 b1
  obtain ⟨v6,hg⟩:∃ y,y=g:=⟨_,rfl⟩
  subst hg
  simp only [gI] at h7
  try dsimp only
  refine O.zR u fun K w=>?_
  refine wC rfl fun K z=>?_;simp [q];apply z
  apply wN;apply w
  refine O.seq ?_
  rcases aA h7 with ⟨a6,h7⟩ | ⟨a7,h7⟩
  ·refine O.cT' (by simp) a6 ?_
   refine O.skip ?_
   refine O.seq ?_
   refine O.block ?_
   refine O.zR u fun K w=>?_
   refine wC rfl fun K z=>?_;simp [q];apply z
   obtain ⟨b6,a8,h7⟩:=bS h7
   obtain ⟨a2,a3,a4,a5⟩:=gS a8
   iterate 5 (refine wC rfl fun K z=>?_;simp [q,a2,a3,a4,a5];apply z)
   apply wN;apply w
   refine O.zR u fun K w=>?_
   iterate 4 (refine wC rfl fun K z=>?_;simp [q];apply z)
   apply wN;apply w
   rcases aA h7 with ⟨a9,h7⟩ | ⟨b0,h7⟩
   ·refine O.cT' (by simp) a9 ?_
    refine O.zR u fun K w=>?_
    iterate 2 (refine wC rfl fun K z=>?_;simp [q];apply z)
    apply wN;apply w
    have b4:=congrArg some (b1 _ (Option.some.inj h7).symm)
    cases b4
    try dsimp only at h
    cases h
    refine O.ret ?_
    simp [aC,iB,res67]
   ·refine O.cF' (by simp) b0 ?_
    refine O.skip ?_
    refine O.zG u fun K w=>?_
    iterate 2 (refine wC rfl fun K z=>?_;simp [q];apply z)
    apply wN;apply w
    cases h7
    exact ⟨_,[],rfl,by simp [q]⟩
  ·refine O.cF' (by simp) a7 ?_
   refine O.exit ?_
   have b5:=congrArg some (b1 _ (Option.some.inj h7).symm)
   cases b5
   exact b3 _ _ [] rfl (by simp [q])
 subst hv
 obtain ⟨⟩:=v
 try dsimp only at h ⊢
 refine O.zR u fun K w=>?_
 refine wC rfl fun K z=>?_;simp [q];apply z
 apply wN;apply w
 cases h
 refine O.ret ?_
 simp [aC,iB,res67]
theorem res54:Tryz.f54.results.toList=[.tmp 4]:=rfl
theorem ent54:aF E.P 54:=eO Tryz.func54 (by simp [Tryz.f54]) rfl
theorem zK (p1:GProgram) (b1:Int) {r0:Bool} (h:kP p1 b1=some r0):Ok E 54 [.val (GProgram.enc false p1),.val (vi b1)] [vb r0] []:=by
 refine oB Tryz.func54 rfl (by simp [Tryz.f54]) fun C (q:C.N=25) hP=>?_
 have u:=aL hP
 unfold kP at h
 refine O.zR u fun K w=>?_
 iterate 2 (refine wC rfl fun K z=>?_;simp [q];apply z)
 apply wN;apply w
 refine O.zR u fun K w=>?_
 iterate 2 (refine wC rfl fun K z=>?_;simp [q];apply z)
 obtain ⟨r3,b2,h⟩:=bS h
 refine wL [(.take,.tmp 8),(.take,.tmp 9)] rfl rfl ent64 (rM _ _ b2) fun K z=>?_;simp [q];apply z
 refine wC rfl fun K z=>?_;simp [q];apply z
 apply wN;apply w
 obtain ⟨j7,b3,h⟩:=bS h
 refine O.seqC [] [] (fun v:Unit=>⟨[],[]⟩) (fun v=>j7=Sum.inl v) (fun v hv=>?_) fun K6 b4=>?_
 rotate_left
 ·refine O.zR u fun K w=>?_
  iterate 3 (refine wC rfl fun K z=>?_;simp [q];apply z)
  apply wN;apply w
  refine O.block ?_
  refine O.loopO [] [5,11,12,13] [] (fun v:Int=>⟨[(5,.t (.sl true 3 (List.map GVar.enc r3))),(11,.al (.slot 5) 0 [] none),(12,.t (vi (r3.length:Int))),(13,.t (vi v))],[]⟩) (eN r3) _ 0 b3 (by simp [q]) ?_
  intro g b7 h9 a0
  obtain ⟨v8,hg⟩:∃ y,y=g:=⟨_,rfl⟩
  subst hg
  simp only [eN] at h9
  try dsimp only
  refine O.zR u fun K w=>?_
  refine wC rfl fun K z=>?_;simp [q];apply z
  apply wN;apply w
  refine O.seq ?_
  rcases aA h9 with ⟨a5,h9⟩ | ⟨a6,h9⟩
  ·refine O.cT' (by simp) a5 ?_
   refine O.skip ?_
   refine O.seq ?_
   refine O.block ?_
   refine O.zR u fun K w=>?_
   refine wC rfl fun K z=>?_;simp [q];apply z
   obtain ⟨b8,a7,h9⟩:=bS h9
   obtain ⟨a1,a2,a3,a4⟩:=gS a7
   iterate 5 (refine wC rfl fun K z=>?_;simp [q,a1,a2,a3,a4];apply z)
   apply wN;apply w
   refine O.zR u fun K w=>?_
   iterate 3 (refine wC rfl fun K z=>?_;simp [q];apply z)
   obtain ⟨b9,a8,h9⟩:=bS h9
   refine wL [(.bor,.tmp 18),(.take,.tmp 20)] rfl rfl ent67 (tH _ _ a8) fun K z=>?_;simp [q];apply z
   iterate 2 (refine wC rfl fun K z=>?_;simp [q];apply z)
   apply wN;apply w
   rcases aA h9 with ⟨a9,h9⟩ | ⟨b0,h9⟩
   ·refine O.cT' (by simp) a9 ?_
    refine O.zR u fun K w=>?_
    refine wC rfl fun K z=>?_;simp [q];apply z
    apply wN;apply w
    have b5:=congrArg some (a0 _ (Option.some.inj h9).symm)
    cases b5
    try dsimp only at h
    cases h
    refine O.ret ?_
    simp [aC,iB,res54]
   ·refine O.cF' (by simp) b0 ?_
    refine O.skip ?_
    refine O.zG u fun K w=>?_
    iterate 2 (refine wC rfl fun K z=>?_;simp [q];apply z)
    apply wN;apply w
    cases h9
    exact ⟨_,[],rfl,by simp [q]⟩
  ·refine O.cF' (by simp) a6 ?_
   refine O.exit ?_
   have b6:=congrArg some (a0 _ (Option.some.inj h9).symm)
   cases b6
   exact b4 _ _ [] rfl (by simp [q])
 subst hv
 obtain ⟨⟩:=v
 try dsimp only at h ⊢
 refine O.zR u fun K w=>?_
 refine wC rfl fun K z=>?_;simp [q];apply z
 apply wN;apply w
 cases h
 refine O.ret ?_
 simp [aC,iB,res54]
theorem res89:Tryz.f89.results.toList=[.tmp 2]:=rfl
theorem ent89:aF E.P 89:=eO Tryz.func89 (by simp [Tryz.f89]) rfl
theorem aEr (a4:Int) {r0:Bool} (h:qE a4=some r0):Ok E 89 [.val (vi a4)] [vb r0] []:=by
 refine oB Tryz.func89 rfl (by simp [Tryz.f89]) fun C (q:C.N=13) hP=>?_
 have y:=aL hP
 unfold qE at h
 refine O.zR y fun K u=>?_
 refine wC rfl fun K v=>?_;simp [q];apply v
 apply wN;apply u
 obtain ⟨b1,a2,h⟩:=bS h
 refine O.seqRC rfl (y _ rfl) [2] [] (fun _:Unit=>⟨[(2,.t (vb b1))],[]⟩) (fun _=>True) (fun _ _=>?_) fun K3 a9=>?_
 rotate_left
 ·refine wC rfl fun K v=>?_;simp [q];apply v
  obtain ⟨r4,b2,a2⟩:=bS a2
  refine wL [(.take,.tmp 3),(.take,.const (.int .i64 2)),(.take,.const (.int .i64 6))] rfl rfl lG (aU _ _ _ b2) fun K v=>?_;simp [q];apply v
  refine wC rfl fun K v=>?_;simp [q];apply v
  rcases aA a2 with ⟨a7,a2⟩ | ⟨a5,a2⟩
  ·have a1:=a7
   try simp at a1
   iterate 2 (refine wO fun K v=>?_;simp [q,a7,a1];apply v)
   iterate 2 (refine wC rfl fun K v=>?_;simp [q,a7,a1];apply v)
   iterate 2 (refine wO fun K v=>?_;simp [q,a7,a1];apply v)
   iterate 2 (refine wC rfl fun K v=>?_;simp [q,a7,a1];apply v)
   refine wN ?_
   cases a2
   exact a9 _ () [] trivial (by simp [q,a7,a1])
  ·have a0:=a5
   try simp at a0
   iterate 4 (refine wC rfl fun K v=>?_;simp [q,a5,a0];apply v)
   rcases aA a2 with ⟨a8,a2⟩ | ⟨b0,a2⟩
   ·have a3:=a8
    try simp at a3
    iterate 2 (refine wO fun K v=>?_;simp [q,a5,a0,a8,a3];apply v)
    iterate 2 (refine wC rfl fun K v=>?_;simp [q,a5,a0,a8,a3];apply v)
    refine wN ?_
    cases a2
    exact a9 _ () [] trivial (by simp [q,a5,a0,a8,a3])
   ·have a6:=b0
    try simp at a6
    iterate 4 (refine wC rfl fun K v=>?_;simp [q,a5,a0,b0,a6];apply v)
    refine wN ?_
    cases a2
    exact a9 _ () [] trivial (by simp [q,a5,a0,b0,a6])
 cases h
 refine O.ret ?_
 simp [aC,iB,res89]
theorem res90:Tryz.f90.results.toList=[.tmp 4]:=rfl
theorem ent90:aF E.P 90:=eO Tryz.func90 (by simp [Tryz.f90]) rfl
theorem zN (l1:List ByteArray) (s2:ByteArray) {r0:Bool} (h:kR l1 s2=some r0):Ok E 90 [.val (.sl false 1 (List.map vs l1)),.val (vs s2)] [vb r0] []:=by
 refine oB Tryz.func90 rfl (by simp [Tryz.f90]) fun C (q:C.N=17) hP=>?_
 have u:=aL hP
 unfold kR at h
 refine O.zR u fun K w=>?_
 refine wC rfl fun K z=>?_;simp [q];apply z
 apply wN;apply w
 obtain ⟨j5,b0,h⟩:=bS h
 refine O.seqC [] [] (fun v:Unit=>⟨[],[]⟩) (fun v=>j5=Sum.inl v) (fun v hv=>?_) fun K4 b1=>?_
 rotate_left
 ·refine O.zR u fun K w=>?_
  iterate 3 (refine wC rfl fun K z=>?_;simp [q];apply z)
  apply wN;apply w
  refine O.block ?_
  refine O.loopO [] [1,7,8,9] [] (fun v:Int=>⟨[(1,.t (vs s2)),(7,.t (.sl false 1 (List.map vs l1))),(8,.t (vi (l1.length:Int))),(9,.t (vi v))],[]⟩) (eP l1 s2) _ 0 b0 (by simp [q]) ?_
  intro g s9 h7 a9
  obtain ⟨v6,hg⟩:∃ y,y=g:=⟨_,rfl⟩
  subst hg
  simp only [eP] at h7
  try dsimp only
  refine O.zR u fun K w=>?_
  refine wC rfl fun K z=>?_;simp [q];apply z
  apply wN;apply w
  refine O.seq ?_
  rcases aA h7 with ⟨a4,h7⟩ | ⟨a5,h7⟩
  ·refine O.cT' (by simp) a4 ?_
   refine O.skip ?_
   refine O.seq ?_
   refine O.block ?_
   refine O.zR u fun K w=>?_
   obtain ⟨b4,a6,h7⟩:=bS h7
   obtain ⟨a0,a1,a2,a3⟩:=gS a6
   iterate 3 (refine wC rfl fun K z=>?_;simp [q,a0,a1,a2,a3];apply z)
   apply wN;apply w
   refine O.zR u fun K w=>?_
   iterate 3 (refine wC rfl fun K z=>?_;simp [q];apply z)
   apply wN;apply w
   rcases aA h7 with ⟨a7,h7⟩ | ⟨a8,h7⟩
   ·refine O.cT' (by simp) a7 ?_
    refine O.zR u fun K w=>?_
    refine wC rfl fun K z=>?_;simp [q];apply z
    apply wN;apply w
    have b2:=congrArg some (a9 _ (Option.some.inj h7).symm)
    cases b2
    try dsimp only at h
    cases h
    refine O.ret ?_
    simp [aC,iB,res90]
   ·refine O.cF' (by simp) a8 ?_
    refine O.skip ?_
    refine O.zG u fun K w=>?_
    iterate 2 (refine wC rfl fun K z=>?_;simp [q];apply z)
    apply wN;apply w
    cases h7
    exact ⟨_,[],rfl,by simp [q]⟩
  ·refine O.cF' (by simp) a5 ?_
   refine O.exit ?_
   have b3:=congrArg some (a9 _ (Option.some.inj h7).symm)
   cases b3
   exact b1 _ _ [] rfl (by simp [q])
 subst hv
 obtain ⟨⟩:=v
 try dsimp only at h ⊢
 refine O.zR u fun K w=>?_
 refine wC rfl fun K z=>?_;simp [q];apply z
 apply wN;apply w
 cases h
 refine O.ret ?_
 simp [aC,iB,res90]
end Go.Proofs.T
