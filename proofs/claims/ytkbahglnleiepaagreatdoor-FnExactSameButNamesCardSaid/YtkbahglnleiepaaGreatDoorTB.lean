import Derived.Test.YtkbahglnleiepaaGreatDoorTA
import Derived.Shelf.Strconv.Itoa0
import Derived.Shelf.Strconv.Itoa1
import Derived.Shelf.LaysM
import Derived.Shelf.Strconv.Itoa2
import Derived.Shelf.Strconv.Itoa3
import Derived.Shelf.Strings.Search1
import Derived.Shelf.Strings.Search2
import Derived.Shelf.Strings.Search3
import Derived.Shelf.Strings.Count
import Derived.Shelf.Strings.Shaped
import Derived.Shelf.Sort.Plain
import Derived.Shelf.Strings.Split
import Derived.Shelf.Unicode.DecodeSlow
import Derived.Shelf.Slices.In.SortNone
import Derived.Shelf.Slices.In.SortNone2
import Derived.Test.YtkbahglnleiepaaGreatDoorProg
set_option linter.unusedVariables false
set_option linter.unusedSimpArgs false
set_option linter.unusedVariables false
set_option linter.unusedSimpArgs false
set_option maxHeartbeats 8000000
namespace Go.Proofs.T
open Go.OM
theorem res48:Tryz.f48.results.toList=[]:=rfl
theorem ent48:aE E.P 48:=eO Tryz.func48 (by simp [Tryz.f48]) rfl
theorem aKv:Tryz.f81.results.toList=[]:=rfl
theorem ent81:aE E.P 81:=eO Tryz.func81 (by simp [Tryz.f81]) rfl
theorem pG (a3:Gl07Seen→Int→Option (Gl07Seen)) (a5:∀ (a0:Gl07Seen) (a1:Int) {q0:Gl07Seen},a3 a0 a1=some q0→Ok E 48 [.ptr [.sl false 4 (List.map (GNode.enc false) a0.p.Nodes),.sl false 5 (List.map (GFn.enc false) a0.p.Fns),vi a0.fn,.sl false 1 (List.map vs a0.there),vb a0.bad],.val (vi a1)] [] [[.sl false 4 (List.map (GNode.enc false) q0.p.Nodes),.sl false 5 (List.map (GFn.enc false) q0.p.Fns),vi q0.fn,.sl false 1 (List.map vs q0.there),vb q0.bad]]) (a2:Gl07Seen→Int→Option (Gl07Seen)) (a4:∀ (a0:Gl07Seen) (a1:Int) {q0:Gl07Seen},a2 a0 a1=some q0→Ok E 81 [.ptr [.sl false 4 (List.map (GNode.enc false) a0.p.Nodes),.sl false 5 (List.map (GFn.enc false) a0.p.Fns),vi a0.fn,.sl false 1 (List.map vs a0.there),vb a0.bad],.val (vi a1)] [] [[.sl false 4 (List.map (GNode.enc false) q0.p.Nodes),.sl false 5 (List.map (GFn.enc false) q0.p.Fns),vi q0.fn,.sl false 1 (List.map vs q0.there),vb q0.bad]]) (s1:Gl07Seen) (k2:Int) {q0:Gl07Seen} (h:cY a3 a2 s1 k2=some q0):Ok E 48 [.ptr [.sl false 4 (List.map (GNode.enc false) s1.p.Nodes),.sl false 5 (List.map (GFn.enc false) s1.p.Fns),vi s1.fn,.sl false 1 (List.map vs s1.there),vb s1.bad],.val (vi k2)] [] [[.sl false 4 (List.map (GNode.enc false) q0.p.Nodes),.sl false 5 (List.map (GFn.enc false) q0.p.Fns),vi q0.fn,.sl false 1 (List.map vs q0.there),vb q0.bad]]:=by
 refine oB Tryz.func48 rfl (by simp [Tryz.f48]) fun C (q:C.N=33) hP=>?_
 have y:=aK hP
 unfold cY at h
 refine O.zR y fun K u=>?_
 refine wC rfl fun K w=>?_;simp [q];apply w
 apply wN;apply u
 refine O.block ?_
 refine O.loopO [] [0,1,4] [33] (fun v:Int × Gl07Seen=>⟨[(0,.ref (.box 33) 0 []),(1,.t (vi k2)),(4,.t (vi v.1))],[(33,[.sl false 4 (List.map (GNode.enc false) v.2.p.Nodes),.sl false 5 (List.map (GFn.enc false) v.2.p.Fns),vi v.2.fn,.sl false 1 (List.map vs v.2.there),vb v.2.bad])]⟩) (bK a2 k2) _ (0,(⟨s1.p,s1.fn,s1.there,s1.bad⟩:Gl07Seen)) h (by simp [q]) ?_
 intro g s7 h5 c2
 obtain ⟨i3,v4⟩:=g
 simp only [bK] at h5
 try dsimp only
 refine O.seq ?_
 refine O.zR y fun K u=>?_
 iterate 7 (refine wC rfl fun K w=>?_;simp [q];apply w)
 obtain ⟨e8,c3,h5⟩:=bS h5
 obtain ⟨b4,b5,b6,b7⟩:=gS c3
 iterate 5 (refine wC rfl fun K w=>?_;simp [q,b4,b5,b6,b7];apply w)
 apply wN;apply u
 rcases aA h5 with ⟨c4,h5⟩ | ⟨b8,h5⟩
 ·refine O.cT' (by simp) c4 ?_
  refine O.skip ?_
  refine O.seq ?_
  refine O.block ?_
  refine O.zG y fun K u=>?_
  iterate 7 (refine wC rfl fun K w=>?_;simp [q];apply w)
  obtain ⟨c6,b9,h5⟩:=bS h5
  obtain ⟨a6,a7,a8,a9⟩:=gS b9
  iterate 4 (refine wC rfl fun K w=>?_;simp [q,a6,a7,a8,a9];apply w)
  obtain ⟨c7,c0,h5⟩:=bS h5
  obtain ⟨b0,b1,b2,b3⟩:=gS c0
  iterate 2 (refine wC rfl fun K w=>?_;simp [q,a6,a7,a8,a9,b0,b1,b2,b3];apply w)
  obtain ⟨c8,c1,h5⟩:=bS h5
  refine wL [((.ptr 5),.tmp 19),(.take,.tmp 31)] rfl rfl ent81 (a4 _ _ c1) fun K w=>?_;simp [q,a6,a7,a8,a9,b0,b1,b2,b3];apply w
  apply wN;apply u
  refine O.zG y fun K u=>?_
  iterate 3 (refine wC rfl fun K w=>?_;simp [q];apply w)
  apply wN;apply u
  cases h5
  exact ⟨_,[],rfl,by simp [q]⟩
 ·refine O.cF' (by simp) b8 ?_
  refine O.exit ?_
  have c5:=congrArg some (c2 _ (Option.some.inj h5).symm)
  cases c5
  simp [aC,iB,res48]
theorem qH (a2:Gl07Seen→Int→Option (Gl07Seen)) (a9:∀ (a0:Gl07Seen) (a1:Int) {q0:Gl07Seen},a2 a0 a1=some q0→Ok E 48 [.ptr [.sl false 4 (List.map (GNode.enc false) a0.p.Nodes),.sl false 5 (List.map (GFn.enc false) a0.p.Fns),vi a0.fn,.sl false 1 (List.map vs a0.there),vb a0.bad],.val (vi a1)] [] [[.sl false 4 (List.map (GNode.enc false) q0.p.Nodes),.sl false 5 (List.map (GFn.enc false) q0.p.Fns),vi q0.fn,.sl false 1 (List.map vs q0.there),vb q0.bad]]) (a6:Gl07Seen→Int→Option (Gl07Seen)) (b3:∀ (a0:Gl07Seen) (a1:Int) {q0:Gl07Seen},a6 a0 a1=some q0→Ok E 81 [.ptr [.sl false 4 (List.map (GNode.enc false) a0.p.Nodes),.sl false 5 (List.map (GFn.enc false) a0.p.Fns),vi a0.fn,.sl false 1 (List.map vs a0.there),vb a0.bad],.val (vi a1)] [] [[.sl false 4 (List.map (GNode.enc false) q0.p.Nodes),.sl false 5 (List.map (GFn.enc false) q0.p.Fns),vi q0.fn,.sl false 1 (List.map vs q0.there),vb q0.bad]]) (s1:Gl07Seen) (k2:Int) {q0:Gl07Seen} (h:dO a2 a6 s1 k2=some q0):Ok E 81 [.ptr [.sl false 4 (List.map (GNode.enc false) s1.p.Nodes),.sl false 5 (List.map (GFn.enc false) s1.p.Fns),vi s1.fn,.sl false 1 (List.map vs s1.there),vb s1.bad],.val (vi k2)] [] [[.sl false 4 (List.map (GNode.enc false) q0.p.Nodes),.sl false 5 (List.map (GFn.enc false) q0.p.Fns),vi q0.fn,.sl false 1 (List.map vs q0.there),vb q0.bad]]:=by
 refine oB Tryz.func81 rfl (by simp [Tryz.f81]) fun C (q:C.N=83) hP=>?_
 have y:=aK hP
 unfold dO at h
 refine O.zR y fun K w=>?_
 iterate 6 (refine wC rfl fun K r=>?_;simp [q];apply r)
 obtain ⟨e3,h9,h⟩:=bS h
 obtain ⟨e5,e6,e7,e8⟩:=gS h9
 iterate 4 (refine wC rfl fun K r=>?_;simp [q,e5,e6,e7,e8];apply r)
 apply wN;apply w
 refine O.zR y fun K w=>?_
 iterate 3 (refine wC rfl fun K r=>?_;simp [q];apply r)
 obtain ⟨e4,i0,h⟩:=bS h
 obtain ⟨c6,c7,c3,c4⟩:=gS i0
 have c5:0 < e3.Kids.length:=by omega
 have c8:e3.Kids[0]? = some e4:=c3
 have c9:e3.Kids[0]=e4:=c4 c5
 iterate 2 (refine wC rfl fun K r=>?_;simp [q,c6,c7,c3,c4,c5,c8,c9];apply r)
 obtain ⟨q5,i1,h⟩:=bS h
 refine wL [((.ptr 5),.tmp 15),(.take,.tmp 19)] rfl rfl aPn (kS _ _ i1) fun K r=>?_;simp [q,c6,c7,c3,c4,c5,c8,c9];apply r
 apply wN;apply w
 refine O.zR y fun K w=>?_
 iterate 2 (refine wC rfl fun K r=>?_;simp [q];apply r)
 apply wN;apply w
 refine O.block ?_
 refine O.zR y fun K w=>?_
 iterate 2 (refine wC rfl fun K r=>?_;simp [q];apply r)
 apply wN;apply w
 rcases aA h with ⟨i2,h⟩ | ⟨i3,h⟩
 ·refine O.cT' (by simp) i2 ?_
  refine O.postB 83 3 ?_
  obtain ⟨l9,i4,h⟩:=bS h
  obtain ⟨a7,a8,i5⟩:=aS i4
  simp [eSl] at a7 a8
  obtain ⟨h7,e9,h⟩:=bS h
  obtain ⟨a3,a4,e0⟩:=aS e9
  have a5:List.map vs q5.there ++ List.map vs [e3.Name]=List.map vs h7:=dW (f:=vs) e0
  simp [eSl] at a3 a4 a5
  refine O.drawX2 rfl (y _ rfl) [25,26,27,28,29,30,31,32,33,34,35] [[(25,.ref (.box 83) 0 [])],[(26,.t (.sl true 1 []))],[(27,.ref (.box 83) 0 [])],[(28,.ref (.box 83) 0 [])],[(29,.ref (.box 83) 3 [])],[(30,.t (.sl false 1 (List.map vs q5.there)))],[(31,.t (.sl true 1 (List.map vs q5.there))),(26,.u)],[(32,.ref (.box 4) 2 [])],[(33,.t (vs e3.Name))],[(34,.t (.sl true 1 (List.map vs [e3.Name])))],[(35,.t (.sl true 1 (List.map vs h7))),(31,.u),(34,.u)]] [[],[],[],[],[],[],[],[],[],[],[]] [[],[],[],[2],[2,3],[2,3,4],[1,2,3,4,5],[],[7],[7,8],[1,2,3,4,5,6,7,8,9],[0,1,2,3,4,5,6,7,8,9,10],[0,1,2,3,4,5,6,7,8,9,10,11],[0,1,2,3,4,5,6,7,8,9,10,11,12]] rfl (by simp) rfl rfl rfl ?_ fun K w=>?_
  ·refine ⟨?_,?_,?_,?_,?_,?_,?_,?_,?_,?_,?_,trivial⟩
   ·intro D d0 g1 g2 gc
    have p3_2:D 3=true→D 2=true:=fun h=>gc 3 2 h (by simp) (by simp)
    have p4_3:D 4=true→D 3=true:=fun h=>gc 4 3 h (by simp) (by simp)
    have p5_4:D 5=true→D 4=true:=fun h=>gc 5 4 h (by simp) (by simp)
    have p6_1:D 6=true→D 1=true:=fun h=>gc 6 1 h (by simp) (by simp)
    have p6_5:D 6=true→D 5=true:=fun h=>gc 6 5 h (by simp) (by simp)
    have p8_7:D 8=true→D 7=true:=fun h=>gc 8 7 h (by simp) (by simp)
    have p9_8:D 9=true→D 8=true:=fun h=>gc 9 8 h (by simp) (by simp)
    have p10_6:D 10=true→D 6=true:=fun h=>gc 10 6 h (by simp) (by simp)
    have p10_9:D 10=true→D 9=true:=fun h=>gc 10 9 h (by simp) (by simp)
    cases d1:D 1<;>cases d2:D 2<;>cases d3:D 3<;>(simp [d3,d2] at p3_2)<;>cases d4:D 4<;>(simp [d4,d3] at p4_3)<;>cases d5:D 5<;>(simp [d5,d4] at p5_4)<;>cases d6:D 6<;>(simp [d6,d1] at p6_1)<;>(simp [d6,d5] at p6_5)<;>cases d7:D 7<;>cases d8:D 8<;>(simp [d8,d7] at p8_7)<;>cases d9:D 9<;>(simp [d9,d8] at p9_8)<;>cases b0:D 10<;>(simp [b0,d6] at p10_6)<;>(simp [b0,d9] at p10_9)<;>(intro K w;simp [iI,lD,fR,eN,hE,d0,d1,d2,d3,d4,d5,d6,d7,d8,d9,b0] at w ⊢;refine wC rfl fun K' z=>?_;simp [q,a7,a8,a3,a4,a5];refine z _ (wN ?_);first | exact w | simpa [a7,a8,a3,a4,a5] using w)
   ·intro D d1 g1 g2 gc
    have d6:D 6=false:=g2 6 (by simp) (by simp)
    have b0:D 10=false:=g2 10 (by simp) (by simp)
    have p3_2:D 3=true→D 2=true:=fun h=>gc 3 2 h (by simp) (by simp)
    have p4_3:D 4=true→D 3=true:=fun h=>gc 4 3 h (by simp) (by simp)
    have p5_4:D 5=true→D 4=true:=fun h=>gc 5 4 h (by simp) (by simp)
    have p8_7:D 8=true→D 7=true:=fun h=>gc 8 7 h (by simp) (by simp)
    have p9_8:D 9=true→D 8=true:=fun h=>gc 9 8 h (by simp) (by simp)
    cases d0:D 0<;>cases d2:D 2<;>cases d3:D 3<;>(simp [d3,d2] at p3_2)<;>cases d4:D 4<;>(simp [d4,d3] at p4_3)<;>cases d5:D 5<;>(simp [d5,d4] at p5_4)<;>cases d7:D 7<;>cases d8:D 8<;>(simp [d8,d7] at p8_7)<;>cases d9:D 9<;>(simp [d9,d8] at p9_8)<;>(intro K w;simp [iI,lD,fR,eN,hE,d0,d1,d2,d3,d4,d5,d6,d7,d8,d9,b0] at w ⊢;refine wC rfl fun K' z=>?_;simp [q,a7,a8,a3,a4,a5];refine z _ (wN ?_);first | exact w | simpa [a7,a8,a3,a4,a5] using w)
   ·intro D d2 g1 g2 gc
    have d3:D 3=false:=g2 3 (by simp) (by simp)
    have d4:D 4=false:=g2 4 (by simp) (by simp)
    have d5:D 5=false:=g2 5 (by simp) (by simp)
    have d6:D 6=false:=g2 6 (by simp) (by simp)
    have b0:D 10=false:=g2 10 (by simp) (by simp)
    have p8_7:D 8=true→D 7=true:=fun h=>gc 8 7 h (by simp) (by simp)
    have p9_8:D 9=true→D 8=true:=fun h=>gc 9 8 h (by simp) (by simp)
    cases d0:D 0<;>cases d1:D 1<;>cases d7:D 7<;>cases d8:D 8<;>(simp [d8,d7] at p8_7)<;>cases d9:D 9<;>(simp [d9,d8] at p9_8)<;>(intro K w;simp [iI,lD,fR,eN,hE,d0,d1,d2,d3,d4,d5,d6,d7,d8,d9,b0] at w ⊢;refine wC rfl fun K' z=>?_;simp [q,a7,a8,a3,a4,a5];refine z _ (wN ?_);first | exact w | simpa [a7,a8,a3,a4,a5] using w)
   ·intro D d3 g1 g2 gc
    have d2:D 2=true:=g1 2 (by simp)
    have d4:D 4=false:=g2 4 (by simp) (by simp)
    have d5:D 5=false:=g2 5 (by simp) (by simp)
    have d6:D 6=false:=g2 6 (by simp) (by simp)
    have b0:D 10=false:=g2 10 (by simp) (by simp)
    have p8_7:D 8=true→D 7=true:=fun h=>gc 8 7 h (by simp) (by simp)
    have p9_8:D 9=true→D 8=true:=fun h=>gc 9 8 h (by simp) (by simp)
    cases d0:D 0<;>cases d1:D 1<;>cases d7:D 7<;>cases d8:D 8<;>(simp [d8,d7] at p8_7)<;>cases d9:D 9<;>(simp [d9,d8] at p9_8)<;>(intro K w;simp [iI,lD,fR,eN,hE,d0,d1,d2,d3,d4,d5,d6,d7,d8,d9,b0] at w ⊢;refine wC rfl fun K' z=>?_;simp [q,a7,a8,a3,a4,a5];refine z _ (wN ?_);first | exact w | simpa [a7,a8,a3,a4,a5] using w)
   ·intro D d4 g1 g2 gc
    have d2:D 2=true:=g1 2 (by simp)
    have d3:D 3=true:=g1 3 (by simp)
    have d5:D 5=false:=g2 5 (by simp) (by simp)
    have d6:D 6=false:=g2 6 (by simp) (by simp)
    have b0:D 10=false:=g2 10 (by simp) (by simp)
    have p8_7:D 8=true→D 7=true:=fun h=>gc 8 7 h (by simp) (by simp)
    have p9_8:D 9=true→D 8=true:=fun h=>gc 9 8 h (by simp) (by simp)
    cases d0:D 0<;>cases d1:D 1<;>cases d7:D 7<;>cases d8:D 8<;>(simp [d8,d7] at p8_7)<;>cases d9:D 9<;>(simp [d9,d8] at p9_8)<;>(intro K w;simp [iI,lD,fR,eN,hE,d0,d1,d2,d3,d4,d5,d6,d7,d8,d9,b0] at w ⊢;refine wC rfl fun K' z=>?_;simp [q,a7,a8,a3,a4,a5];refine z _ (wN ?_);first | exact w | simpa [a7,a8,a3,a4,a5] using w)
   ·intro D d5 g1 g2 gc
    have d2:D 2=true:=g1 2 (by simp)
    have d3:D 3=true:=g1 3 (by simp)
    have d4:D 4=true:=g1 4 (by simp)
    have d6:D 6=false:=g2 6 (by simp) (by simp)
    have b0:D 10=false:=g2 10 (by simp) (by simp)
    have p8_7:D 8=true→D 7=true:=fun h=>gc 8 7 h (by simp) (by simp)
    have p9_8:D 9=true→D 8=true:=fun h=>gc 9 8 h (by simp) (by simp)
    cases d0:D 0<;>cases d1:D 1<;>cases d7:D 7<;>cases d8:D 8<;>(simp [d8,d7] at p8_7)<;>cases d9:D 9<;>(simp [d9,d8] at p9_8)<;>(intro K w;simp [iI,lD,fR,eN,hE,d0,d1,d2,d3,d4,d5,d6,d7,d8,d9,b0] at w ⊢;refine wC rfl fun K' z=>?_;simp [q,a7,a8,a3,a4,a5];refine z _ (wN ?_);first | exact w | simpa [a7,a8,a3,a4,a5] using w)
   ·intro D d6 g1 g2 gc
    have d1:D 1=true:=g1 1 (by simp)
    have d2:D 2=true:=g1 2 (by simp)
    have d3:D 3=true:=g1 3 (by simp)
    have d4:D 4=true:=g1 4 (by simp)
    have d5:D 5=true:=g1 5 (by simp)
    have b0:D 10=false:=g2 10 (by simp) (by simp)
    have p8_7:D 8=true→D 7=true:=fun h=>gc 8 7 h (by simp) (by simp)
    have p9_8:D 9=true→D 8=true:=fun h=>gc 9 8 h (by simp) (by simp)
    cases d0:D 0<;>cases d7:D 7<;>cases d8:D 8<;>(simp [d8,d7] at p8_7)<;>cases d9:D 9<;>(simp [d9,d8] at p9_8)<;>(intro K w;simp [iI,lD,fR,eN,hE,d0,d1,d2,d3,d4,d5,d6,d7,d8,d9,b0] at w ⊢;refine wC rfl fun K' z=>?_;simp [q,a7,a8,a3,a4,a5];refine z _ (wN ?_);first | exact w | simpa [a7,a8,a3,a4,a5] using w)
   ·intro D d7 g1 g2 gc
    have d8:D 8=false:=g2 8 (by simp) (by simp)
    have d9:D 9=false:=g2 9 (by simp) (by simp)
    have b0:D 10=false:=g2 10 (by simp) (by simp)
    have p3_2:D 3=true→D 2=true:=fun h=>gc 3 2 h (by simp) (by simp)
    have p4_3:D 4=true→D 3=true:=fun h=>gc 4 3 h (by simp) (by simp)
    have p5_4:D 5=true→D 4=true:=fun h=>gc 5 4 h (by simp) (by simp)
    have p6_1:D 6=true→D 1=true:=fun h=>gc 6 1 h (by simp) (by simp)
    have p6_5:D 6=true→D 5=true:=fun h=>gc 6 5 h (by simp) (by simp)
    cases d0:D 0<;>cases d1:D 1<;>cases d2:D 2<;>cases d3:D 3<;>(simp [d3,d2] at p3_2)<;>cases d4:D 4<;>(simp [d4,d3] at p4_3)<;>cases d5:D 5<;>(simp [d5,d4] at p5_4)<;>cases d6:D 6<;>(simp [d6,d1] at p6_1)<;>(simp [d6,d5] at p6_5)<;>(intro K w;simp [iI,lD,fR,eN,hE,d0,d1,d2,d3,d4,d5,d6,d7,d8,d9,b0] at w ⊢;refine wC rfl fun K' z=>?_;simp [q,a7,a8,a3,a4,a5];refine z _ (wN ?_);first | exact w | simpa [a7,a8,a3,a4,a5] using w)
   ·intro D d8 g1 g2 gc
    have d7:D 7=true:=g1 7 (by simp)
    have d9:D 9=false:=g2 9 (by simp) (by simp)
    have b0:D 10=false:=g2 10 (by simp) (by simp)
    have p3_2:D 3=true→D 2=true:=fun h=>gc 3 2 h (by simp) (by simp)
    have p4_3:D 4=true→D 3=true:=fun h=>gc 4 3 h (by simp) (by simp)
    have p5_4:D 5=true→D 4=true:=fun h=>gc 5 4 h (by simp) (by simp)
    have p6_1:D 6=true→D 1=true:=fun h=>gc 6 1 h (by simp) (by simp)
    have p6_5:D 6=true→D 5=true:=fun h=>gc 6 5 h (by simp) (by simp)
    cases d0:D 0<;>cases d1:D 1<;>cases d2:D 2<;>cases d3:D 3<;>(simp [d3,d2] at p3_2)<;>cases d4:D 4<;>(simp [d4,d3] at p4_3)<;>cases d5:D 5<;>(simp [d5,d4] at p5_4)<;>cases d6:D 6<;>(simp [d6,d1] at p6_1)<;>(simp [d6,d5] at p6_5)<;>(intro K w;simp [iI,lD,fR,eN,hE,d0,d1,d2,d3,d4,d5,d6,d7,d8,d9,b0] at w ⊢;refine wC rfl fun K' z=>?_;simp [q,a7,a8,a3,a4,a5];refine z _ (wN ?_);first | exact w | simpa [a7,a8,a3,a4,a5] using w)
   ·intro D d9 g1 g2 gc
    have d7:D 7=true:=g1 7 (by simp)
    have d8:D 8=true:=g1 8 (by simp)
    have b0:D 10=false:=g2 10 (by simp) (by simp)
    have p3_2:D 3=true→D 2=true:=fun h=>gc 3 2 h (by simp) (by simp)
    have p4_3:D 4=true→D 3=true:=fun h=>gc 4 3 h (by simp) (by simp)
    have p5_4:D 5=true→D 4=true:=fun h=>gc 5 4 h (by simp) (by simp)
    have p6_1:D 6=true→D 1=true:=fun h=>gc 6 1 h (by simp) (by simp)
    have p6_5:D 6=true→D 5=true:=fun h=>gc 6 5 h (by simp) (by simp)
    cases d0:D 0<;>cases d1:D 1<;>cases d2:D 2<;>cases d3:D 3<;>(simp [d3,d2] at p3_2)<;>cases d4:D 4<;>(simp [d4,d3] at p4_3)<;>cases d5:D 5<;>(simp [d5,d4] at p5_4)<;>cases d6:D 6<;>(simp [d6,d1] at p6_1)<;>(simp [d6,d5] at p6_5)<;>(intro K w;simp [iI,lD,fR,eN,hE,d0,d1,d2,d3,d4,d5,d6,d7,d8,d9,b0] at w ⊢;refine wC rfl fun K' z=>?_;simp [q,a7,a8,a3,a4,a5];refine z _ (wN ?_);first | exact w | simpa [a7,a8,a3,a4,a5] using w)
   ·intro D b0 g1 g2 gc
    have d1:D 1=true:=g1 1 (by simp)
    have d2:D 2=true:=g1 2 (by simp)
    have d3:D 3=true:=g1 3 (by simp)
    have d4:D 4=true:=g1 4 (by simp)
    have d5:D 5=true:=g1 5 (by simp)
    have d6:D 6=true:=g1 6 (by simp)
    have d7:D 7=true:=g1 7 (by simp)
    have d8:D 8=true:=g1 8 (by simp)
    have d9:D 9=true:=g1 9 (by simp)
    cases d0:D 0<;>(intro K w;simp [iI,lD,fR,eN,hE,d0,d1,d2,d3,d4,d5,d6,d7,d8,d9,b0] at w ⊢;refine wC rfl fun K' z=>?_;simp [q,a7,a8,a3,a4,a5];refine z _ (wN ?_);first | exact w | simpa [a7,a8,a3,a4,a5] using w)
  simp [iI,lD,eN,hE]
  iterate 3 (refine wC rfl fun K r=>?_;simp [q,a7,a8,a3,a4,a5];apply r)
  apply wN;apply w
  intro K2 h8;simp [q];refine h8 _ ?_;clear h8
  cases h
  simp [aC,iB,aKv]
 ·refine O.cF' (by simp) i3 ?_
  obtain ⟨i6,b6,h⟩:=bS h
  refine O.seqC [0,4,22,38] [4,83] (fun _:Unit=>⟨[(0,.ref (.box 83) 0 []),(4,.ref (.box 4) 0 []),(22,.t (vi e3.Kind)),(38,.t (vb i6))],[(4,[vi e3.Kind,vi e3.Num,vs e3.Name,.sl false 1 (List.map vi e3.Kids)]),(83,[.sl false 4 (List.map (GNode.enc false) q5.p.Nodes),.sl false 5 (List.map (GFn.enc false) q5.p.Fns),vi q5.fn,.sl false 1 (List.map vs q5.there),vb q5.bad])]⟩) (fun _=>True) (fun _ _=>?_) fun i9 e1=>?_
  rotate_left
  ·refine O.zR y fun K w=>?_
   iterate 2 (refine wC rfl fun K r=>?_;simp [q];apply r)
   apply wN;apply w
   rcases aA b6 with ⟨g0,b6⟩ | ⟨g3,b6⟩
   ·refine O.cT' (by simp) g0 ?_
    refine O.skip ?_
    cases b6
    exact e1 _ () [] trivial (by simp [q])
   ·refine O.cF' (by simp) g3 ?_
    refine O.zG y fun K w=>?_
    iterate 2 (refine wC rfl fun K r=>?_;simp [q];apply r)
    apply wN;apply w
    cases b6
    exact e1 _ () [] trivial (by simp [q])
  rcases aA h with ⟨g4,h⟩ | ⟨g5,h⟩
  ·refine O.cT' (by simp) g4 ?_
   rcases aA h with ⟨b4,h⟩ | ⟨b5,h⟩
   ·have b1:=b4
    try simp at b1
    refine O.dT rfl (y _ rfl) [(41,.ref (.box 83) 0 []),(42,.ref (.box 83) 0 []),(43,.ref (.box 83) 0 []),(44,.ref (.box 83) 4 []),(45,.t (vb q5.bad)),(46,.t (vb q5.bad)),(47,.tup []),(48,.tup []),(49,.tup []),(50,.tup []),(51,.tup []),(52,.tup []),(53,.tup []),(54,.tup []),(55,.t (vb true))] [[],[],[1],[1,2],[1,2,3],[1,2,3,4],[1,2,3,4,5],[1,2,3,4,5,6],[1,2,3,4,5,6,7],[1,2,3,4,5,6,7,8],[1,2,3,4,5],[1,2,3,4,5,10],[1,2,3,4,5,6,7,8,9,10,11],[1,2,3,4,5,6,7,8,9,10,11,12],[1,2,3,4,5,6,7,8,9,10,11,12,13],[0,1,2,3,4,5,6,7,8,9,10,11,12,13,14],[0,1,2,3,4,5,6,7,8,9,10,11,12,13,14,15],[0,1,2,3,4,5,6,7,8,9,10,11,12,13,14,15,16]] (by simp) (by simp) (by simp [look]) rfl rfl rfl ?_ fun K w=>?_
    ·refine ⟨?_,?_,?_,?_,?_,?_,?_,?_,?_,?_,?_,?_,?_,?_,?_,trivial⟩
     all_goals (intro τ hbx hb hd hf K w;try simp [aH] at hd;simp [aH] at hf;first | (refine wC rfl fun K' z=>?_;simp [q,hbx,hb,hd,hf,b4,b1];exact z _ (wN (w _ (by simp [aH,hbx,b4,b1])))) | (refine wO fun K' z=>?_;simp [q,hbx,hb,hd,hf,b4,b1];exact z _ (wN (w _ (by simp [aH,hbx,b4,b1])))))
    iterate 3 (refine wC rfl fun K r=>?_;simp [q,b4,b1];apply r)
    apply wN;apply w
    cases h
    simp [aC,iB,aKv]
   ·have b2:=b5
    try simp at b2
    obtain ⟨g6,g7,h⟩:=bS h
    refine O.dT rfl (y _ rfl) [(41,.ref (.box 83) 0 []),(42,.ref (.box 83) 0 []),(43,.ref (.box 83) 0 []),(44,.ref (.box 83) 4 []),(45,.t (vb q5.bad)),(46,.t (vb q5.bad)),(47,.ref (.box 83) 0 []),(48,.ref (.box 83) 0 []),(49,.ref (.box 83) 3 []),(50,.t (.sl false 1 (List.map vs q5.there))),(51,.ref (.box 4) 2 []),(52,.t (vs e3.Name)),(53,.t (vb g6)),(54,.t (vb (!g6))),(55,.t (vb (!g6)))] [[],[],[1],[1,2],[1,2,3],[1,2,3,4],[1,2,3,4,5],[1,2,3,4,5,6],[1,2,3,4,5,6,7],[1,2,3,4,5,6,7,8],[1,2,3,4,5],[1,2,3,4,5,10],[1,2,3,4,5,6,7,8,9,10,11],[1,2,3,4,5,6,7,8,9,10,11,12],[1,2,3,4,5,6,7,8,9,10,11,12,13],[0,1,2,3,4,5,6,7,8,9,10,11,12,13,14],[0,1,2,3,4,5,6,7,8,9,10,11,12,13,14,15],[0,1,2,3,4,5,6,7,8,9,10,11,12,13,14,15,16]] (by simp) (by simp) (by simp [look]) rfl rfl rfl ?_ fun K w=>?_
    ·refine ⟨?_,?_,?_,?_,?_,?_,?_,?_,?_,?_,?_,?_,?_,?_,?_,trivial⟩
     all_goals (intro τ hbx hb hd hf K w;try simp [aH] at hd;simp [aH] at hf;first | (refine wC rfl fun K' z=>?_;simp [q,hbx,hb,hd,hf,b5,b2];exact z _ (wN (w _ (by simp [aH,hbx,b5,b2])))) | (refine wL [(.take,.tmp 50),(.take,.tmp 52)] rfl rfl ent82 (sM _ _ g7) fun K' z=>?_;simp [q,hbx,hb,hd,hf,b5,b2];exact z _ (wN (w _ (by simp [aH,hbx,b5,b2])))))
    iterate 3 (refine wC rfl fun K r=>?_;simp [q,b5,b2];apply r)
    apply wN;apply w
    cases h
    simp [aC,iB,aKv]
  ·refine O.cF' (by simp) g5 ?_
   obtain ⟨i7,b7,h⟩:=bS h
   refine O.seqC [0,4,58] [4,83] (fun _:Unit=>⟨[(0,.ref (.box 83) 0 []),(4,.ref (.box 4) 0 []),(58,.t (vb i7))],[(4,[vi e3.Kind,vi e3.Num,vs e3.Name,.sl false 1 (List.map vi e3.Kids)]),(83,[.sl false 4 (List.map (GNode.enc false) q5.p.Nodes),.sl false 5 (List.map (GFn.enc false) q5.p.Fns),vi q5.fn,.sl false 1 (List.map vs q5.there),vb q5.bad])]⟩) (fun _=>True) (fun _ _=>?_) fun j0 e2=>?_
   rotate_left
   ·refine O.zR y fun K w=>?_
    iterate 2 (refine wC rfl fun K r=>?_;simp [q];apply r)
    apply wN;apply w
    rcases aA b7 with ⟨g8,b7⟩ | ⟨g9,b7⟩
    ·refine O.cT' (by simp) g8 ?_
     refine O.skip ?_
     cases b7
     exact e2 _ () [] trivial (by simp [q])
    ·refine O.cF' (by simp) g9 ?_
     refine O.zG y fun K w=>?_
     iterate 2 (refine wC rfl fun K r=>?_;simp [q];apply r)
     apply wN;apply w
     cases b7
     exact e2 _ () [] trivial (by simp [q])
   rcases aA h with ⟨h0,h⟩ | ⟨h1,h⟩
   ·refine O.cT' (by simp) h0 ?_
    refine O.zR y fun K w=>?_
    refine wC rfl fun K r=>?_;simp [q];apply r
    apply wN;apply w
    refine O.block ?_
    refine O.loopO [] [0,4,5] [4,83] (fun v:Int × Gl07Seen=>⟨[(0,.ref (.box 83) 0 []),(4,.ref (.box 4) 0 []),(5,.t (vi v.1))],[(4,[vi e3.Kind,vi e3.Num,vs e3.Name,.sl false 1 (List.map vi e3.Kids)]),(83,[.sl false 4 (List.map (GNode.enc false) v.2.p.Nodes),.sl false 5 (List.map (GFn.enc false) v.2.p.Fns),vi v.2.fn,.sl false 1 (List.map vs v.2.there),vb v.2.bad])]⟩) (bW a2 e3) _ (1,(⟨q5.p,q5.fn,q5.there,q5.bad⟩:Gl07Seen)) h (by simp [q]) ?_
    intro g j1 b8 h2
    obtain ⟨j2,j3⟩:=g
    simp only [bW] at b8
    try dsimp only
    refine O.seq ?_
    refine O.zR y fun K w=>?_
    iterate 5 (refine wC rfl fun K r=>?_;simp [q];apply r)
    apply wN;apply w
    rcases aA b8 with ⟨h3,b8⟩ | ⟨h4,b8⟩
    ·refine O.cT' (by simp) h3 ?_
     refine O.skip ?_
     refine O.seq ?_
     refine O.block ?_
     refine O.zR y fun K w=>?_
     iterate 5 (refine wC rfl fun K r=>?_;simp [q];apply r)
     apply wN;apply w
     refine O.zR y fun K w=>?_
     iterate 4 (refine wC rfl fun K r=>?_;simp [q];apply r)
     obtain ⟨j4,h5,b8⟩:=bS b8
     obtain ⟨b9,c0,c1,c2⟩:=gS h5
     iterate 2 (refine wC rfl fun K r=>?_;simp [q,b9,c0,c1,c2];apply r)
     obtain ⟨j5,h6,b8⟩:=bS b8
     refine wL [((.ptr 5),.tmp 72),(.take,.tmp 77)] rfl rfl ent48 (a9 _ _ h6) fun K r=>?_;simp [q,b9,c0,c1,c2];apply r
     apply wN;apply w
     refine O.zG y fun K w=>?_
     iterate 5 (refine wC rfl fun K r=>?_;simp [q];apply r)
     apply wN;apply w
     refine O.zG y fun K w=>?_
     iterate 3 (refine wC rfl fun K r=>?_;simp [q];apply r)
     apply wN;apply w
     cases b8
     exact ⟨_,[],rfl,by simp [q]⟩
    ·refine O.cF' (by simp) h4 ?_
     refine O.exit ?_
     have i8:=congrArg some (h2 _ (Option.some.inj b8).symm)
     cases i8
     simp [aC,iB,aKv]
   ·refine O.cF' (by simp) h1 ?_
    refine O.skip ?_
    cases h
    simp [aC,iB,aKv]
theorem bE:∀ n:Nat,(∀ (a0:Gl07Seen) (a1:Int) {q0:Gl07Seen},(aF n).1 a0 a1=some q0→Ok E 48 [.ptr [.sl false 4 (List.map (GNode.enc false) a0.p.Nodes),.sl false 5 (List.map (GFn.enc false) a0.p.Fns),vi a0.fn,.sl false 1 (List.map vs a0.there),vb a0.bad],.val (vi a1)] [] [[.sl false 4 (List.map (GNode.enc false) q0.p.Nodes),.sl false 5 (List.map (GFn.enc false) q0.p.Fns),vi q0.fn,.sl false 1 (List.map vs q0.there),vb q0.bad]])∧(∀ (a0:Gl07Seen) (a1:Int) {q0:Gl07Seen},(aF n).2 a0 a1=some q0→Ok E 81 [.ptr [.sl false 4 (List.map (GNode.enc false) a0.p.Nodes),.sl false 5 (List.map (GFn.enc false) a0.p.Fns),vi a0.fn,.sl false 1 (List.map vs a0.there),vb a0.bad],.val (vi a1)] [] [[.sl false 4 (List.map (GNode.enc false) q0.p.Nodes),.sl false 5 (List.map (GFn.enc false) q0.p.Fns),vi q0.fn,.sl false 1 (List.map vs q0.there),vb q0.bad]])
 | 0=>⟨(by intros;rename_i h;cases h),(by intros;rename_i h;cases h)⟩
 | n + 1=>⟨pG ((aF n).1) ((bE n).1) ((aF n).2) ((bE n).2),qH ((aF n).1) ((bE n).1) ((aF n).2) ((bE n).2)⟩
theorem qR:∀ (a0:Gl07Seen) (a1:Int) {q0:Gl07Seen},jK a0 a1=some q0→Ok E 48 [.ptr [.sl false 4 (List.map (GNode.enc false) a0.p.Nodes),.sl false 5 (List.map (GFn.enc false) a0.p.Fns),vi a0.fn,.sl false 1 (List.map vs a0.there),vb a0.bad],.val (vi a1)] [] [[.sl false 4 (List.map (GNode.enc false) q0.p.Nodes),.sl false 5 (List.map (GFn.enc false) q0.p.Fns),vi q0.fn,.sl false 1 (List.map vs q0.there),vb q0.bad]]:=(bE eK).1
theorem aN7:Tryz.f19.results.toList=[.tmp 2]:=rfl
theorem aK5:aE E.P 19:=eO Tryz.func19 (by simp [Tryz.f19]) rfl
theorem cO (p1:GProgram) {r0:Bool} (h:dP p1=some r0):Ok E 19 [.val (GProgram.enc false p1)] [vb r0] []:=by
 refine oB Tryz.func19 rfl (by simp [Tryz.f19]) fun C (q:C.N=97) hP=>?_
 have w:=aK hP
 unfold dP at h
 refine O.zR w fun K z=>?_
 iterate 2 (refine wC rfl fun K n=>?_;simp [q];apply n)
 apply wN;apply z
 refine O.seq ?_
 refine O.zR w fun K z=>?_
 refine wC rfl fun K n=>?_;simp [q];apply n
 obtain ⟨r2,k8,h⟩:=bS h
 refine wL [(.take,.tmp 8)] rfl rfl ent45 (vN _ k8) fun K n=>?_;simp [q];apply n
 refine wC rfl fun K n=>?_;simp [q];apply n
 apply wN;apply z
 rcases aA h with ⟨k9,h⟩ | ⟨l0,h⟩
 ·refine O.cT' (by simp) k9 ?_
  refine O.zR w fun K z=>?_
  refine wC rfl fun K n=>?_;simp [q];apply n
  apply wN;apply z
  cases h
  refine O.ret ?_
  simp [aC,iB,aN7]
 ·refine O.cF' (by simp) l0 ?_
  refine O.skip ?_
  obtain ⟨j8,l1,h⟩:=bS h
  refine O.seqC [] [] (fun v:Unit=>⟨[],[]⟩) (fun v=>j8=Sum.inl v) (fun v hv=>?_) fun K7 l2=>?_
  rotate_left
  ·refine O.zR w fun K z=>?_
   refine wC rfl fun K n=>?_;simp [q];apply n
   apply wN;apply z
   refine O.block ?_
   refine O.loopO [] [1,3] [1] (fun v:Int=>⟨[(1,.ref (.box 1) 0 []),(3,.t (vi v))],[(1,[.sl false 4 (List.map (GNode.enc false) p1.Nodes),.sl false 5 (List.map (GFn.enc false) p1.Fns)])]⟩) (cP p1) _ 0 l1 (by simp [q]) ?_
   intro g m2 c2 e6
   obtain ⟨i9,hg⟩:∃ y,y=g:=⟨_,rfl⟩
   subst hg
   simp only [cP] at c2
   try dsimp only
   refine O.seq ?_
   refine O.zR w fun K z=>?_
   iterate 5 (refine wC rfl fun K n=>?_;simp [q];apply n)
   apply wN;apply z
   rcases aA c2 with ⟨h4,c2⟩ | ⟨h5,c2⟩
   ·refine O.cT' (by simp) h4 ?_
    refine O.skip ?_
    obtain ⟨l3,b5,c2⟩:=bS c2
    refine O.seqC [1,3] [1] (fun v:Unit=>⟨[(1,.ref (.box 1) 0 []),(3,.t (vi i9))],[(1,[.sl false 4 (List.map (GNode.enc false) p1.Nodes),.sl false 5 (List.map (GFn.enc false) p1.Fns)])]⟩) (fun v=>l3=Sum.inl v) (fun v hv=>?_) fun m3 h6=>?_
    rotate_left
    ·refine O.block ?_
     refine O.zR w fun K z=>?_
     iterate 2 (refine wC rfl fun K n=>?_;simp [q];apply n)
     obtain ⟨k6,h7,b5⟩:=bS b5
     refine wL [(.take,.tmp 18),(.take,.tmp 19)] rfl rfl ent46 (sO _ _ h7) fun K n=>?_;simp [q];apply n
     refine wC rfl fun K n=>?_;simp [q];apply n
     apply wN;apply z
     obtain ⟨l4,h8,b5⟩:=bS b5
     refine O.seqC [1,3] [1] (fun v:Unit=>⟨[(1,.ref (.box 1) 0 []),(3,.t (vi i9))],[(1,[.sl false 4 (List.map (GNode.enc false) p1.Nodes),.sl false 5 (List.map (GFn.enc false) p1.Fns)])]⟩) (fun v=>l4=Sum.inl v) (fun v hv=>?_) fun m4 h9=>?_
     rotate_left
     ·refine O.zR w fun K z=>?_
      refine wC rfl fun K n=>?_;simp [q];apply n
      apply wN;apply z
      refine O.block ?_
      refine O.loopO [] [1,3,4,5] [1] (fun v:Int=>⟨[(1,.ref (.box 1) 0 []),(3,.t (vi i9)),(4,.t (.sl true 3 (List.map GVar.enc k6))),(5,.t (vi v))],[(1,[.sl false 4 (List.map (GNode.enc false) p1.Nodes),.sl false 5 (List.map (GFn.enc false) p1.Fns)])]⟩) (bP k6) _ 0 h8 (by simp [q]) ?_
      intro g m5 c0 e8
      obtain ⟨m6,hg⟩:∃ y,y=g:=⟨_,rfl⟩
      subst hg
      simp only [bP] at c0
      try dsimp only
      refine O.seq ?_
      refine O.zR w fun K z=>?_
      iterate 4 (refine wC rfl fun K n=>?_;simp [q];apply n)
      apply wN;apply z
      rcases aA c0 with ⟨i0,c0⟩ | ⟨i1,c0⟩
      ·refine O.cT' (by simp) i0 ?_
       refine O.skip ?_
       refine O.seq ?_
       refine O.block ?_
       refine O.zR w fun K z=>?_
       iterate 3 (refine wC rfl fun K n=>?_;simp [q];apply n)
       obtain ⟨m7,i2,c0⟩:=bS c0
       obtain ⟨c3,c4,c5,c6⟩:=gS i2
       iterate 3 (refine wC rfl fun K n=>?_;simp [q,c3,c4,c5,c6];apply n)
       obtain ⟨m8,i3,c0⟩:=bS c0
       refine wL [(.bor,.tmp 27),(.take,.tmp 32)] rfl rfl ent47 (tW _ _ i3) fun K n=>?_;simp [q,c3,c4,c5,c6];apply n
       iterate 2 (refine wC rfl fun K n=>?_;simp [q,c3,c4,c5,c6];apply n)
       apply wN;apply z
       rcases aA c0 with ⟨i4,c0⟩ | ⟨i5,c0⟩
       ·refine O.cT' (by simp) i4 ?_
        refine O.zR w fun K z=>?_
        refine wC rfl fun K n=>?_;simp [q];apply n
        apply wN;apply z
        have l5:=congrArg some (e8 _ (Option.some.inj c0).symm)
        cases l5
        try dsimp only at b5
        cases b5
        try dsimp only at c2
        have l6:=congrArg some (e6 _ (Option.some.inj c2).symm)
        cases l6
        try dsimp only at h
        cases h
        refine O.ret ?_
        simp [aC,iB,aN7]
       ·refine O.cF' (by simp) i5 ?_
        refine O.skip ?_
        refine O.zG w fun K z=>?_
        iterate 3 (refine wC rfl fun K n=>?_;simp [q];apply n)
        apply wN;apply z
        cases c0
        exact ⟨_,[],rfl,by simp [q]⟩
      ·refine O.cF' (by simp) i1 ?_
       refine O.exit ?_
       have l7:=congrArg some (e8 _ (Option.some.inj c0).symm)
       cases l7
       exact h9 _ _ [] rfl (by simp [q])
     subst hv
     obtain ⟨⟩:=v
     try dsimp only at b5 ⊢
     refine O.zR w fun K z=>?_
     iterate 5 (refine wC rfl fun K n=>?_;simp [q];apply n)
     apply wN;apply z
     obtain ⟨e9,i6,b5⟩:=bS b5
     refine O.seqC [1,3,6] [1,39] (fun _:Unit=>⟨[(1,.ref (.box 1) 0 []),(3,.t (vi i9)),(6,.ref (.box 39) 0 [])],[(1,[.sl false 4 (List.map (GNode.enc false) p1.Nodes),.sl false 5 (List.map (GFn.enc false) p1.Fns)]),(39,[.sl false 4 (List.map (GNode.enc false) e9.p.Nodes),.sl false 5 (List.map (GFn.enc false) e9.p.Fns),vi e9.fn,.sl true 1 (List.map vs e9.there),vb e9.bad])]⟩) (fun _=>True) (fun _ _=>?_) fun m9 i7=>?_
     rotate_left
     ·refine O.zR w fun K z=>?_
      refine wC rfl fun K n=>?_;simp [q];apply n
      apply wN;apply z
      refine O.block ?_
      refine O.loopO [] [1,3,6,7] [1,39] (fun v:Int × Gl07Seen=>⟨[(1,.ref (.box 1) 0 []),(3,.t (vi i9)),(6,.ref (.box 39) 0 []),(7,.t (vi v.1))],[(1,[.sl false 4 (List.map (GNode.enc false) p1.Nodes),.sl false 5 (List.map (GFn.enc false) p1.Fns)]),(39,[.sl false 4 (List.map (GNode.enc false) v.2.p.Nodes),.sl false 5 (List.map (GFn.enc false) v.2.p.Fns),vi v.2.fn,.sl true 1 (List.map vs v.2.there),vb v.2.bad])]⟩) (bO p1 i9) _ (0,(⟨p1,i9,[],false⟩:Gl07Seen)) i6 (by simp [q]) ?_
      intro g n0 c1 i8
      obtain ⟨l8,g0⟩:=g
      simp only [bO] at c1
      try dsimp only
      refine O.seq ?_
      refine O.zR w fun K z=>?_
      iterate 4 (refine wC rfl fun K n=>?_;simp [q];apply n)
      obtain ⟨n1,j0,c1⟩:=bS c1
      obtain ⟨g3,g4,g5,g6⟩:=gS j0
      iterate 5 (refine wC rfl fun K n=>?_;simp [q,g3,g4,g5,g6];apply n)
      apply wN;apply z
      rcases aA c1 with ⟨j1,c1⟩ | ⟨j2,c1⟩
      ·refine O.cT' (by simp) j1 ?_
       refine O.skip ?_
       refine O.seq ?_
       refine O.block ?_
       obtain ⟨c7,j3,c1⟩:=bS c1
       obtain ⟨a3,a4,a5,a6⟩:=gS j3
       obtain ⟨e7,j4,c1⟩:=bS c1
       obtain ⟨a7,a8,a9,b0⟩:=gS j4
       obtain ⟨k7,j5,c1⟩:=bS c1
       obtain ⟨a0,a1,g7⟩:=aS j5
       have a2:List.map vs g0.there ++ List.map vs [e7.Name]=List.map vs k7:=dW (f:=vs) g7
       simp [eSl] at a0 a1 a2
       refine O.drawX2 rfl (w _ rfl) [51,52,53,54,55,56,57,58,59,60,61,62,63,64,65,66,67] [[(51,.ref (.box 39) 0 [])],[(52,.ref (.box 39) 0 [])],[(53,.ref (.box 39) 0 [])],[(54,.ref (.box 39) 3 [])],[(55,.al (.box 39) 3 [] none)],[(56,.ref (.box 1) 1 [])],[(57,.t (.sl false 5 (List.map (GFn.enc false) p1.Fns)))],[(58,.t (vi i9))],[(59,.rop [vs c7.Name,.sl false 2 (List.map GParam.enc c7.Params),vi c7.Res,vi c7.Body,vi c7.Ret] 0)],[(60,.rop [vs c7.Name,.sl false 2 (List.map GParam.enc c7.Params),vi c7.Res,vi c7.Body,vi c7.Ret] 1)],[(61,.t (.sl false 2 (List.map GParam.enc c7.Params)))],[(62,.t (vi l8))],[(63,.rop [vs e7.Name,vi e7.Typ] 0)],[(64,.rop [vs e7.Name,vi e7.Typ] 0)],[(65,.t (vs e7.Name))],[(66,.t (.sl true 1 (List.map vs [e7.Name])))],[(67,.t (.sl true 1 (List.map vs k7))),(55,.u),(66,.u)]] [[],[],[],[],[],[],[],[],[],[],[],[],[],[],[],[],[(39,[.sl false 4 (List.map (GNode.enc false) g0.p.Nodes),.sl false 5 (List.map (GFn.enc false) g0.p.Fns),vi g0.fn,.dead,vb g0.bad])]] [[],[],[1],[1,2],[1,2,3],[],[5],[],[5,6,7],[5,6,7,8],[5,6,7,8,9],[],[5,6,7,8,9,10,11],[5,6,7,8,9,10,11,12],[5,6,7,8,9,10,11,12,13],[5,6,7,8,9,10,11,12,13,14],[1,2,3,4,5,6,7,8,9,10,11,12,13,14,15],[0,1,2,3,4,5,6,7,8,9,10,11,12,13,14,15,16],[0,1,2,3,4,5,6,7,8,9,10,11,12,13,14,15,16,17],[0,1,2,3,4,5,6,7,8,9,10,11,12,13,14,15,16,17,18]] rfl (by simp) rfl rfl rfl ?_ fun K z=>?_
       ·refine ⟨?_,?_,?_,?_,?_,?_,?_,?_,?_,?_,?_,?_,?_,?_,?_,?_,?_,trivial⟩
        ·intro D d0 g1 g2 gc
         have p2_1:D 2=true→D 1=true:=fun h=>gc 2 1 h (by simp) (by simp)
         have p3_2:D 3=true→D 2=true:=fun h=>gc 3 2 h (by simp) (by simp)
         have p4_3:D 4=true→D 3=true:=fun h=>gc 4 3 h (by simp) (by simp)
         have p6_5:D 6=true→D 5=true:=fun h=>gc 6 5 h (by simp) (by simp)
         have p8_6:D 8=true→D 6=true:=fun h=>gc 8 6 h (by simp) (by simp)
         have p8_7:D 8=true→D 7=true:=fun h=>gc 8 7 h (by simp) (by simp)
         have p9_8:D 9=true→D 8=true:=fun h=>gc 9 8 h (by simp) (by simp)
         have p10_9:D 10=true→D 9=true:=fun h=>gc 10 9 h (by simp) (by simp)
         have p12_10:D 12=true→D 10=true:=fun h=>gc 12 10 h (by simp) (by simp)
         have p12_11:D 12=true→D 11=true:=fun h=>gc 12 11 h (by simp) (by simp)
         have p13_12:D 13=true→D 12=true:=fun h=>gc 13 12 h (by simp) (by simp)
         have p14_13:D 14=true→D 13=true:=fun h=>gc 14 13 h (by simp) (by simp)
         have p15_14:D 15=true→D 14=true:=fun h=>gc 15 14 h (by simp) (by simp)
         have p16_4:D 16=true→D 4=true:=fun h=>gc 16 4 h (by simp) (by simp)
         have p16_15:D 16=true→D 15=true:=fun h=>gc 16 15 h (by simp) (by simp)
         cases d1:D 1<;>cases d2:D 2<;>(simp [d2,d1] at p2_1)<;>cases d3:D 3<;>(simp [d3,d2] at p3_2)<;>cases d4:D 4<;>(simp [d4,d3] at p4_3)<;>cases d5:D 5<;>cases d6:D 6<;>(simp [d6,d5] at p6_5)<;>cases d7:D 7<;>cases d8:D 8<;>(simp [d8,d6] at p8_6)<;>(simp [d8,d7] at p8_7)<;>cases d9:D 9<;>(simp [d9,d8] at p9_8)<;>cases b2:D 10<;>(simp [b2,d9] at p10_9)<;>cases b7:D 11<;>cases b1:D 12<;>(simp [b1,b2] at p12_10)<;>(simp [b1,b7] at p12_11)<;>cases b3:D 13<;>(simp [b3,b1] at p13_12)<;>cases b4:D 14<;>(simp [b4,b3] at p14_13)<;>cases b6:D 15<;>(simp [b6,b4] at p15_14)<;>cases b8:D 16<;>(simp [b8,d4] at p16_4)<;>(simp [b8,b6] at p16_15)<;>(intro K z;simp [iI,lD,fR,eN,hE,d0,d1,d2,d3,d4,d5,d6,d7,d8,d9,b2,b7,b1,b3,b4,b6,b8] at z ⊢;refine wC rfl fun K' r=>?_;simp [q,a3,a4,a5,a6,a7,a8,a9,b0,a0,a1,a2];refine r _ (wN ?_);first | exact z | simpa [a3,a4,a5,a6,a7,a8,a9,b0,a0,a1,a2] using z)
        ·intro D d1 g1 g2 gc
         have d2:D 2=false:=g2 2 (by simp) (by simp)
         have d3:D 3=false:=g2 3 (by simp) (by simp)
         have d4:D 4=false:=g2 4 (by simp) (by simp)
         have b8:D 16=false:=g2 16 (by simp) (by simp)
         have p6_5:D 6=true→D 5=true:=fun h=>gc 6 5 h (by simp) (by simp)
         have p8_6:D 8=true→D 6=true:=fun h=>gc 8 6 h (by simp) (by simp)
         have p8_7:D 8=true→D 7=true:=fun h=>gc 8 7 h (by simp) (by simp)
         have p9_8:D 9=true→D 8=true:=fun h=>gc 9 8 h (by simp) (by simp)
         have p10_9:D 10=true→D 9=true:=fun h=>gc 10 9 h (by simp) (by simp)
         have p12_10:D 12=true→D 10=true:=fun h=>gc 12 10 h (by simp) (by simp)
         have p12_11:D 12=true→D 11=true:=fun h=>gc 12 11 h (by simp) (by simp)
         have p13_12:D 13=true→D 12=true:=fun h=>gc 13 12 h (by simp) (by simp)
         have p14_13:D 14=true→D 13=true:=fun h=>gc 14 13 h (by simp) (by simp)
         have p15_14:D 15=true→D 14=true:=fun h=>gc 15 14 h (by simp) (by simp)
         cases d0:D 0<;>cases d5:D 5<;>cases d6:D 6<;>(simp [d6,d5] at p6_5)<;>cases d7:D 7<;>cases d8:D 8<;>(simp [d8,d6] at p8_6)<;>(simp [d8,d7] at p8_7)<;>cases d9:D 9<;>(simp [d9,d8] at p9_8)<;>cases b2:D 10<;>(simp [b2,d9] at p10_9)<;>cases b7:D 11<;>cases b1:D 12<;>(simp [b1,b2] at p12_10)<;>(simp [b1,b7] at p12_11)<;>cases b3:D 13<;>(simp [b3,b1] at p13_12)<;>cases b4:D 14<;>(simp [b4,b3] at p14_13)<;>cases b6:D 15<;>(simp [b6,b4] at p15_14)<;>(intro K z;simp [iI,lD,fR,eN,hE,d0,d1,d2,d3,d4,d5,d6,d7,d8,d9,b2,b7,b1,b3,b4,b6,b8] at z ⊢;refine wC rfl fun K' r=>?_;simp [q,a3,a4,a5,a6,a7,a8,a9,b0,a0,a1,a2];refine r _ (wN ?_);first | exact z | simpa [a3,a4,a5,a6,a7,a8,a9,b0,a0,a1,a2] using z)
        ·intro D d2 g1 g2 gc
         have d1:D 1=true:=g1 1 (by simp)
         have d3:D 3=false:=g2 3 (by simp) (by simp)
         have d4:D 4=false:=g2 4 (by simp) (by simp)
         have b8:D 16=false:=g2 16 (by simp) (by simp)
         have p6_5:D 6=true→D 5=true:=fun h=>gc 6 5 h (by simp) (by simp)
         have p8_6:D 8=true→D 6=true:=fun h=>gc 8 6 h (by simp) (by simp)
         have p8_7:D 8=true→D 7=true:=fun h=>gc 8 7 h (by simp) (by simp)
         have p9_8:D 9=true→D 8=true:=fun h=>gc 9 8 h (by simp) (by simp)
         have p10_9:D 10=true→D 9=true:=fun h=>gc 10 9 h (by simp) (by simp)
         have p12_10:D 12=true→D 10=true:=fun h=>gc 12 10 h (by simp) (by simp)
         have p12_11:D 12=true→D 11=true:=fun h=>gc 12 11 h (by simp) (by simp)
         have p13_12:D 13=true→D 12=true:=fun h=>gc 13 12 h (by simp) (by simp)
         have p14_13:D 14=true→D 13=true:=fun h=>gc 14 13 h (by simp) (by simp)
         have p15_14:D 15=true→D 14=true:=fun h=>gc 15 14 h (by simp) (by simp)
         cases d0:D 0<;>cases d5:D 5<;>cases d6:D 6<;>(simp [d6,d5] at p6_5)<;>cases d7:D 7<;>cases d8:D 8<;>(simp [d8,d6] at p8_6)<;>(simp [d8,d7] at p8_7)<;>cases d9:D 9<;>(simp [d9,d8] at p9_8)<;>cases b2:D 10<;>(simp [b2,d9] at p10_9)<;>cases b7:D 11<;>cases b1:D 12<;>(simp [b1,b2] at p12_10)<;>(simp [b1,b7] at p12_11)<;>cases b3:D 13<;>(simp [b3,b1] at p13_12)<;>cases b4:D 14<;>(simp [b4,b3] at p14_13)<;>cases b6:D 15<;>(simp [b6,b4] at p15_14)<;>(intro K z;simp [iI,lD,fR,eN,hE,d0,d1,d2,d3,d4,d5,d6,d7,d8,d9,b2,b7,b1,b3,b4,b6,b8] at z ⊢;refine wC rfl fun K' r=>?_;simp [q,a3,a4,a5,a6,a7,a8,a9,b0,a0,a1,a2];refine r _ (wN ?_);first | exact z | simpa [a3,a4,a5,a6,a7,a8,a9,b0,a0,a1,a2] using z)
        ·intro D d3 g1 g2 gc
         have d1:D 1=true:=g1 1 (by simp)
         have d2:D 2=true:=g1 2 (by simp)
         have d4:D 4=false:=g2 4 (by simp) (by simp)
         have b8:D 16=false:=g2 16 (by simp) (by simp)
         have p6_5:D 6=true→D 5=true:=fun h=>gc 6 5 h (by simp) (by simp)
         have p8_6:D 8=true→D 6=true:=fun h=>gc 8 6 h (by simp) (by simp)
         have p8_7:D 8=true→D 7=true:=fun h=>gc 8 7 h (by simp) (by simp)
         have p9_8:D 9=true→D 8=true:=fun h=>gc 9 8 h (by simp) (by simp)
         have p10_9:D 10=true→D 9=true:=fun h=>gc 10 9 h (by simp) (by simp)
         have p12_10:D 12=true→D 10=true:=fun h=>gc 12 10 h (by simp) (by simp)
         have p12_11:D 12=true→D 11=true:=fun h=>gc 12 11 h (by simp) (by simp)
         have p13_12:D 13=true→D 12=true:=fun h=>gc 13 12 h (by simp) (by simp)
         have p14_13:D 14=true→D 13=true:=fun h=>gc 14 13 h (by simp) (by simp)
         have p15_14:D 15=true→D 14=true:=fun h=>gc 15 14 h (by simp) (by simp)
         cases d0:D 0<;>cases d5:D 5<;>cases d6:D 6<;>(simp [d6,d5] at p6_5)<;>cases d7:D 7<;>cases d8:D 8<;>(simp [d8,d6] at p8_6)<;>(simp [d8,d7] at p8_7)<;>cases d9:D 9<;>(simp [d9,d8] at p9_8)<;>cases b2:D 10<;>(simp [b2,d9] at p10_9)<;>cases b7:D 11<;>cases b1:D 12<;>(simp [b1,b2] at p12_10)<;>(simp [b1,b7] at p12_11)<;>cases b3:D 13<;>(simp [b3,b1] at p13_12)<;>cases b4:D 14<;>(simp [b4,b3] at p14_13)<;>cases b6:D 15<;>(simp [b6,b4] at p15_14)<;>(intro K z;simp [iI,lD,fR,eN,hE,d0,d1,d2,d3,d4,d5,d6,d7,d8,d9,b2,b7,b1,b3,b4,b6,b8] at z ⊢;refine wC rfl fun K' r=>?_;simp [q,a3,a4,a5,a6,a7,a8,a9,b0,a0,a1,a2];refine r _ (wN ?_);first | exact z | simpa [a3,a4,a5,a6,a7,a8,a9,b0,a0,a1,a2] using z)
        ·intro D d4 g1 g2 gc
         have d1:D 1=true:=g1 1 (by simp)
         have d2:D 2=true:=g1 2 (by simp)
         have d3:D 3=true:=g1 3 (by simp)
         have b8:D 16=false:=g2 16 (by simp) (by simp)
         have p6_5:D 6=true→D 5=true:=fun h=>gc 6 5 h (by simp) (by simp)
         have p8_6:D 8=true→D 6=true:=fun h=>gc 8 6 h (by simp) (by simp)
         have p8_7:D 8=true→D 7=true:=fun h=>gc 8 7 h (by simp) (by simp)
         have p9_8:D 9=true→D 8=true:=fun h=>gc 9 8 h (by simp) (by simp)
         have p10_9:D 10=true→D 9=true:=fun h=>gc 10 9 h (by simp) (by simp)
         have p12_10:D 12=true→D 10=true:=fun h=>gc 12 10 h (by simp) (by simp)
         have p12_11:D 12=true→D 11=true:=fun h=>gc 12 11 h (by simp) (by simp)
         have p13_12:D 13=true→D 12=true:=fun h=>gc 13 12 h (by simp) (by simp)
         have p14_13:D 14=true→D 13=true:=fun h=>gc 14 13 h (by simp) (by simp)
         have p15_14:D 15=true→D 14=true:=fun h=>gc 15 14 h (by simp) (by simp)
         cases d0:D 0<;>cases d5:D 5<;>cases d6:D 6<;>(simp [d6,d5] at p6_5)<;>cases d7:D 7<;>cases d8:D 8<;>(simp [d8,d6] at p8_6)<;>(simp [d8,d7] at p8_7)<;>cases d9:D 9<;>(simp [d9,d8] at p9_8)<;>cases b2:D 10<;>(simp [b2,d9] at p10_9)<;>cases b7:D 11<;>cases b1:D 12<;>(simp [b1,b2] at p12_10)<;>(simp [b1,b7] at p12_11)<;>cases b3:D 13<;>(simp [b3,b1] at p13_12)<;>cases b4:D 14<;>(simp [b4,b3] at p14_13)<;>cases b6:D 15<;>(simp [b6,b4] at p15_14)<;>(intro K z;simp [iI,lD,fR,eN,hE,d0,d1,d2,d3,d4,d5,d6,d7,d8,d9,b2,b7,b1,b3,b4,b6,b8] at z ⊢;refine wC rfl fun K' r=>?_;simp [q,a3,a4,a5,a6,a7,a8,a9,b0,a0,a1,a2];refine r _ (wN ?_);first | exact z | simpa [a3,a4,a5,a6,a7,a8,a9,b0,a0,a1,a2] using z)
        ·intro D d5 g1 g2 gc
         have d6:D 6=false:=g2 6 (by simp) (by simp)
         have d8:D 8=false:=g2 8 (by simp) (by simp)
         have d9:D 9=false:=g2 9 (by simp) (by simp)
         have b2:D 10=false:=g2 10 (by simp) (by simp)
         have b1:D 12=false:=g2 12 (by simp) (by simp)
         have b3:D 13=false:=g2 13 (by simp) (by simp)
         have b4:D 14=false:=g2 14 (by simp) (by simp)
         have b6:D 15=false:=g2 15 (by simp) (by simp)
         have b8:D 16=false:=g2 16 (by simp) (by simp)
         have p2_1:D 2=true→D 1=true:=fun h=>gc 2 1 h (by simp) (by simp)
         have p3_2:D 3=true→D 2=true:=fun h=>gc 3 2 h (by simp) (by simp)
         have p4_3:D 4=true→D 3=true:=fun h=>gc 4 3 h (by simp) (by simp)
         cases d0:D 0<;>cases d1:D 1<;>cases d2:D 2<;>(simp [d2,d1] at p2_1)<;>cases d3:D 3<;>(simp [d3,d2] at p3_2)<;>cases d4:D 4<;>(simp [d4,d3] at p4_3)<;>cases d7:D 7<;>cases b7:D 11<;>(intro K z;simp [iI,lD,fR,eN,hE,d0,d1,d2,d3,d4,d5,d6,d7,d8,d9,b2,b7,b1,b3,b4,b6,b8] at z ⊢;refine wC rfl fun K' r=>?_;simp [q,a3,a4,a5,a6,a7,a8,a9,b0,a0,a1,a2];refine r _ (wN ?_);first | exact z | simpa [a3,a4,a5,a6,a7,a8,a9,b0,a0,a1,a2] using z)
        ·intro D d6 g1 g2 gc
         have d5:D 5=true:=g1 5 (by simp)
         have d8:D 8=false:=g2 8 (by simp) (by simp)
         have d9:D 9=false:=g2 9 (by simp) (by simp)
         have b2:D 10=false:=g2 10 (by simp) (by simp)
         have b1:D 12=false:=g2 12 (by simp) (by simp)
         have b3:D 13=false:=g2 13 (by simp) (by simp)
         have b4:D 14=false:=g2 14 (by simp) (by simp)
         have b6:D 15=false:=g2 15 (by simp) (by simp)
         have b8:D 16=false:=g2 16 (by simp) (by simp)
         have p2_1:D 2=true→D 1=true:=fun h=>gc 2 1 h (by simp) (by simp)
         have p3_2:D 3=true→D 2=true:=fun h=>gc 3 2 h (by simp) (by simp)
         have p4_3:D 4=true→D 3=true:=fun h=>gc 4 3 h (by simp) (by simp)
         cases d0:D 0<;>cases d1:D 1<;>cases d2:D 2<;>(simp [d2,d1] at p2_1)<;>cases d3:D 3<;>(simp [d3,d2] at p3_2)<;>cases d4:D 4<;>(simp [d4,d3] at p4_3)<;>cases d7:D 7<;>cases b7:D 11<;>(intro K z;simp [iI,lD,fR,eN,hE,d0,d1,d2,d3,d4,d5,d6,d7,d8,d9,b2,b7,b1,b3,b4,b6,b8] at z ⊢;refine wC rfl fun K' r=>?_;simp [q,a3,a4,a5,a6,a7,a8,a9,b0,a0,a1,a2];refine r _ (wN ?_);first | exact z | simpa [a3,a4,a5,a6,a7,a8,a9,b0,a0,a1,a2] using z)
        ·intro D d7 g1 g2 gc
         have d8:D 8=false:=g2 8 (by simp) (by simp)
         have d9:D 9=false:=g2 9 (by simp) (by simp)
         have b2:D 10=false:=g2 10 (by simp) (by simp)
         have b1:D 12=false:=g2 12 (by simp) (by simp)
         have b3:D 13=false:=g2 13 (by simp) (by simp)
         have b4:D 14=false:=g2 14 (by simp) (by simp)
         have b6:D 15=false:=g2 15 (by simp) (by simp)
         have b8:D 16=false:=g2 16 (by simp) (by simp)
         have p2_1:D 2=true→D 1=true:=fun h=>gc 2 1 h (by simp) (by simp)
         have p3_2:D 3=true→D 2=true:=fun h=>gc 3 2 h (by simp) (by simp)
         have p4_3:D 4=true→D 3=true:=fun h=>gc 4 3 h (by simp) (by simp)
         have p6_5:D 6=true→D 5=true:=fun h=>gc 6 5 h (by simp) (by simp)
         cases d0:D 0<;>cases d1:D 1<;>cases d2:D 2<;>(simp [d2,d1] at p2_1)<;>cases d3:D 3<;>(simp [d3,d2] at p3_2)<;>cases d4:D 4<;>(simp [d4,d3] at p4_3)<;>cases d5:D 5<;>cases d6:D 6<;>(simp [d6,d5] at p6_5)<;>cases b7:D 11<;>(intro K z;simp [iI,lD,fR,eN,hE,d0,d1,d2,d3,d4,d5,d6,d7,d8,d9,b2,b7,b1,b3,b4,b6,b8] at z ⊢;refine wC rfl fun K' r=>?_;simp [q,a3,a4,a5,a6,a7,a8,a9,b0,a0,a1,a2];refine r _ (wN ?_);first | exact z | simpa [a3,a4,a5,a6,a7,a8,a9,b0,a0,a1,a2] using z)
        ·intro D d8 g1 g2 gc
         have d5:D 5=true:=g1 5 (by simp)
         have d6:D 6=true:=g1 6 (by simp)
         have d7:D 7=true:=g1 7 (by simp)
         have d9:D 9=false:=g2 9 (by simp) (by simp)
         have b2:D 10=false:=g2 10 (by simp) (by simp)
         have b1:D 12=false:=g2 12 (by simp) (by simp)
         have b3:D 13=false:=g2 13 (by simp) (by simp)
         have b4:D 14=false:=g2 14 (by simp) (by simp)
         have b6:D 15=false:=g2 15 (by simp) (by simp)
         have b8:D 16=false:=g2 16 (by simp) (by simp)
         have p2_1:D 2=true→D 1=true:=fun h=>gc 2 1 h (by simp) (by simp)
         have p3_2:D 3=true→D 2=true:=fun h=>gc 3 2 h (by simp) (by simp)
         have p4_3:D 4=true→D 3=true:=fun h=>gc 4 3 h (by simp) (by simp)
         cases d0:D 0<;>cases d1:D 1<;>cases d2:D 2<;>(simp [d2,d1] at p2_1)<;>cases d3:D 3<;>(simp [d3,d2] at p3_2)<;>cases d4:D 4<;>(simp [d4,d3] at p4_3)<;>cases b7:D 11<;>(intro K z;simp [iI,lD,fR,eN,hE,d0,d1,d2,d3,d4,d5,d6,d7,d8,d9,b2,b7,b1,b3,b4,b6,b8] at z ⊢;refine wC rfl fun K' r=>?_;simp [q,a3,a4,a5,a6,a7,a8,a9,b0,a0,a1,a2];refine r _ (wN ?_);first | exact z | simpa [a3,a4,a5,a6,a7,a8,a9,b0,a0,a1,a2] using z)
        ·intro D d9 g1 g2 gc
         have d5:D 5=true:=g1 5 (by simp)
         have d6:D 6=true:=g1 6 (by simp)
         have d7:D 7=true:=g1 7 (by simp)
         have d8:D 8=true:=g1 8 (by simp)
         have b2:D 10=false:=g2 10 (by simp) (by simp)
         have b1:D 12=false:=g2 12 (by simp) (by simp)
         have b3:D 13=false:=g2 13 (by simp) (by simp)
         have b4:D 14=false:=g2 14 (by simp) (by simp)
         have b6:D 15=false:=g2 15 (by simp) (by simp)
         have b8:D 16=false:=g2 16 (by simp) (by simp)
         have p2_1:D 2=true→D 1=true:=fun h=>gc 2 1 h (by simp) (by simp)
         have p3_2:D 3=true→D 2=true:=fun h=>gc 3 2 h (by simp) (by simp)
         have p4_3:D 4=true→D 3=true:=fun h=>gc 4 3 h (by simp) (by simp)
         cases d0:D 0<;>cases d1:D 1<;>cases d2:D 2<;>(simp [d2,d1] at p2_1)<;>cases d3:D 3<;>(simp [d3,d2] at p3_2)<;>cases d4:D 4<;>(simp [d4,d3] at p4_3)<;>cases b7:D 11<;>(intro K z;simp [iI,lD,fR,eN,hE,d0,d1,d2,d3,d4,d5,d6,d7,d8,d9,b2,b7,b1,b3,b4,b6,b8] at z ⊢;refine wC rfl fun K' r=>?_;simp [q,a3,a4,a5,a6,a7,a8,a9,b0,a0,a1,a2];refine r _ (wN ?_);first | exact z | simpa [a3,a4,a5,a6,a7,a8,a9,b0,a0,a1,a2] using z)
        ·intro D b2 g1 g2 gc
         have d5:D 5=true:=g1 5 (by simp)
         have d6:D 6=true:=g1 6 (by simp)
         have d7:D 7=true:=g1 7 (by simp)
         have d8:D 8=true:=g1 8 (by simp)
         have d9:D 9=true:=g1 9 (by simp)
         have b1:D 12=false:=g2 12 (by simp) (by simp)
         have b3:D 13=false:=g2 13 (by simp) (by simp)
         have b4:D 14=false:=g2 14 (by simp) (by simp)
         have b6:D 15=false:=g2 15 (by simp) (by simp)
         have b8:D 16=false:=g2 16 (by simp) (by simp)
         have p2_1:D 2=true→D 1=true:=fun h=>gc 2 1 h (by simp) (by simp)
         have p3_2:D 3=true→D 2=true:=fun h=>gc 3 2 h (by simp) (by simp)
         have p4_3:D 4=true→D 3=true:=fun h=>gc 4 3 h (by simp) (by simp)
         cases d0:D 0<;>cases d1:D 1<;>cases d2:D 2<;>(simp [d2,d1] at p2_1)<;>cases d3:D 3<;>(simp [d3,d2] at p3_2)<;>cases d4:D 4<;>(simp [d4,d3] at p4_3)<;>cases b7:D 11<;>(intro K z;simp [iI,lD,fR,eN,hE,d0,d1,d2,d3,d4,d5,d6,d7,d8,d9,b2,b7,b1,b3,b4,b6,b8] at z ⊢;refine wC rfl fun K' r=>?_;simp [q,a3,a4,a5,a6,a7,a8,a9,b0,a0,a1,a2];refine r _ (wN ?_);first | exact z | simpa [a3,a4,a5,a6,a7,a8,a9,b0,a0,a1,a2] using z)
        ·intro D b7 g1 g2 gc
         have b1:D 12=false:=g2 12 (by simp) (by simp)
         have b3:D 13=false:=g2 13 (by simp) (by simp)
         have b4:D 14=false:=g2 14 (by simp) (by simp)
         have b6:D 15=false:=g2 15 (by simp) (by simp)
         have b8:D 16=false:=g2 16 (by simp) (by simp)
         have p2_1:D 2=true→D 1=true:=fun h=>gc 2 1 h (by simp) (by simp)
         have p3_2:D 3=true→D 2=true:=fun h=>gc 3 2 h (by simp) (by simp)
         have p4_3:D 4=true→D 3=true:=fun h=>gc 4 3 h (by simp) (by simp)
         have p6_5:D 6=true→D 5=true:=fun h=>gc 6 5 h (by simp) (by simp)
         have p8_6:D 8=true→D 6=true:=fun h=>gc 8 6 h (by simp) (by simp)
         have p8_7:D 8=true→D 7=true:=fun h=>gc 8 7 h (by simp) (by simp)
         have p9_8:D 9=true→D 8=true:=fun h=>gc 9 8 h (by simp) (by simp)
         have p10_9:D 10=true→D 9=true:=fun h=>gc 10 9 h (by simp) (by simp)
         cases d0:D 0<;>cases d1:D 1<;>cases d2:D 2<;>(simp [d2,d1] at p2_1)<;>cases d3:D 3<;>(simp [d3,d2] at p3_2)<;>cases d4:D 4<;>(simp [d4,d3] at p4_3)<;>cases d5:D 5<;>cases d6:D 6<;>(simp [d6,d5] at p6_5)<;>cases d7:D 7<;>cases d8:D 8<;>(simp [d8,d6] at p8_6)<;>(simp [d8,d7] at p8_7)<;>cases d9:D 9<;>(simp [d9,d8] at p9_8)<;>cases b2:D 10<;>(simp [b2,d9] at p10_9)<;>(intro K z;simp [iI,lD,fR,eN,hE,d0,d1,d2,d3,d4,d5,d6,d7,d8,d9,b2,b7,b1,b3,b4,b6,b8] at z ⊢;refine wC rfl fun K' r=>?_;simp [q,a3,a4,a5,a6,a7,a8,a9,b0,a0,a1,a2];refine r _ (wN ?_);first | exact z | simpa [a3,a4,a5,a6,a7,a8,a9,b0,a0,a1,a2] using z)
        ·intro D b1 g1 g2 gc
         have d5:D 5=true:=g1 5 (by simp)
         have d6:D 6=true:=g1 6 (by simp)
         have d7:D 7=true:=g1 7 (by simp)
         have d8:D 8=true:=g1 8 (by simp)
         have d9:D 9=true:=g1 9 (by simp)
         have b2:D 10=true:=g1 10 (by simp)
         have b7:D 11=true:=g1 11 (by simp)
         have b3:D 13=false:=g2 13 (by simp) (by simp)
         have b4:D 14=false:=g2 14 (by simp) (by simp)
         have b6:D 15=false:=g2 15 (by simp) (by simp)
         have b8:D 16=false:=g2 16 (by simp) (by simp)
         have p2_1:D 2=true→D 1=true:=fun h=>gc 2 1 h (by simp) (by simp)
         have p3_2:D 3=true→D 2=true:=fun h=>gc 3 2 h (by simp) (by simp)
         have p4_3:D 4=true→D 3=true:=fun h=>gc 4 3 h (by simp) (by simp)
         cases d0:D 0<;>cases d1:D 1<;>cases d2:D 2<;>(simp [d2,d1] at p2_1)<;>cases d3:D 3<;>(simp [d3,d2] at p3_2)<;>cases d4:D 4<;>(simp [d4,d3] at p4_3)<;>(intro K z;simp [iI,lD,fR,eN,hE,d0,d1,d2,d3,d4,d5,d6,d7,d8,d9,b2,b7,b1,b3,b4,b6,b8] at z ⊢;refine wC rfl fun K' r=>?_;simp [q,a3,a4,a5,a6,a7,a8,a9,b0,a0,a1,a2];refine r _ (wN ?_);first | exact z | simpa [a3,a4,a5,a6,a7,a8,a9,b0,a0,a1,a2] using z)
        ·intro D b3 g1 g2 gc
         have d5:D 5=true:=g1 5 (by simp)
         have d6:D 6=true:=g1 6 (by simp)
         have d7:D 7=true:=g1 7 (by simp)
         have d8:D 8=true:=g1 8 (by simp)
         have d9:D 9=true:=g1 9 (by simp)
         have b2:D 10=true:=g1 10 (by simp)
         have b7:D 11=true:=g1 11 (by simp)
         have b1:D 12=true:=g1 12 (by simp)
         have b4:D 14=false:=g2 14 (by simp) (by simp)
         have b6:D 15=false:=g2 15 (by simp) (by simp)
         have b8:D 16=false:=g2 16 (by simp) (by simp)
         have p2_1:D 2=true→D 1=true:=fun h=>gc 2 1 h (by simp) (by simp)
         have p3_2:D 3=true→D 2=true:=fun h=>gc 3 2 h (by simp) (by simp)
         have p4_3:D 4=true→D 3=true:=fun h=>gc 4 3 h (by simp) (by simp)
         cases d0:D 0<;>cases d1:D 1<;>cases d2:D 2<;>(simp [d2,d1] at p2_1)<;>cases d3:D 3<;>(simp [d3,d2] at p3_2)<;>cases d4:D 4<;>(simp [d4,d3] at p4_3)<;>(intro K z;simp [iI,lD,fR,eN,hE,d0,d1,d2,d3,d4,d5,d6,d7,d8,d9,b2,b7,b1,b3,b4,b6,b8] at z ⊢;refine wC rfl fun K' r=>?_;simp [q,a3,a4,a5,a6,a7,a8,a9,b0,a0,a1,a2];refine r _ (wN ?_);first | exact z | simpa [a3,a4,a5,a6,a7,a8,a9,b0,a0,a1,a2] using z)
        ·intro D b4 g1 g2 gc
         have d5:D 5=true:=g1 5 (by simp)
         have d6:D 6=true:=g1 6 (by simp)
         have d7:D 7=true:=g1 7 (by simp)
         have d8:D 8=true:=g1 8 (by simp)
         have d9:D 9=true:=g1 9 (by simp)
         have b2:D 10=true:=g1 10 (by simp)
         have b7:D 11=true:=g1 11 (by simp)
         have b1:D 12=true:=g1 12 (by simp)
         have b3:D 13=true:=g1 13 (by simp)
         have b6:D 15=false:=g2 15 (by simp) (by simp)
         have b8:D 16=false:=g2 16 (by simp) (by simp)
         have p2_1:D 2=true→D 1=true:=fun h=>gc 2 1 h (by simp) (by simp)
         have p3_2:D 3=true→D 2=true:=fun h=>gc 3 2 h (by simp) (by simp)
         have p4_3:D 4=true→D 3=true:=fun h=>gc 4 3 h (by simp) (by simp)
         cases d0:D 0<;>cases d1:D 1<;>cases d2:D 2<;>(simp [d2,d1] at p2_1)<;>cases d3:D 3<;>(simp [d3,d2] at p3_2)<;>cases d4:D 4<;>(simp [d4,d3] at p4_3)<;>(intro K z;simp [iI,lD,fR,eN,hE,d0,d1,d2,d3,d4,d5,d6,d7,d8,d9,b2,b7,b1,b3,b4,b6,b8] at z ⊢;refine wC rfl fun K' r=>?_;simp [q,a3,a4,a5,a6,a7,a8,a9,b0,a0,a1,a2];refine r _ (wN ?_);first | exact z | simpa [a3,a4,a5,a6,a7,a8,a9,b0,a0,a1,a2] using z)
        ·intro D b6 g1 g2 gc
         have d5:D 5=true:=g1 5 (by simp)
         have d6:D 6=true:=g1 6 (by simp)
         have d7:D 7=true:=g1 7 (by simp)
         have d8:D 8=true:=g1 8 (by simp)
         have d9:D 9=true:=g1 9 (by simp)
         have b2:D 10=true:=g1 10 (by simp)
         have b7:D 11=true:=g1 11 (by simp)
         have b1:D 12=true:=g1 12 (by simp)
         have b3:D 13=true:=g1 13 (by simp)
         have b4:D 14=true:=g1 14 (by simp)
         have b8:D 16=false:=g2 16 (by simp) (by simp)
         have p2_1:D 2=true→D 1=true:=fun h=>gc 2 1 h (by simp) (by simp)
         have p3_2:D 3=true→D 2=true:=fun h=>gc 3 2 h (by simp) (by simp)
         have p4_3:D 4=true→D 3=true:=fun h=>gc 4 3 h (by simp) (by simp)
         cases d0:D 0<;>cases d1:D 1<;>cases d2:D 2<;>(simp [d2,d1] at p2_1)<;>cases d3:D 3<;>(simp [d3,d2] at p3_2)<;>cases d4:D 4<;>(simp [d4,d3] at p4_3)<;>(intro K z;simp [iI,lD,fR,eN,hE,d0,d1,d2,d3,d4,d5,d6,d7,d8,d9,b2,b7,b1,b3,b4,b6,b8] at z ⊢;refine wC rfl fun K' r=>?_;simp [q,a3,a4,a5,a6,a7,a8,a9,b0,a0,a1,a2];refine r _ (wN ?_);first | exact z | simpa [a3,a4,a5,a6,a7,a8,a9,b0,a0,a1,a2] using z)
        ·intro D b8 g1 g2 gc
         have d1:D 1=true:=g1 1 (by simp)
         have d2:D 2=true:=g1 2 (by simp)
         have d3:D 3=true:=g1 3 (by simp)
         have d4:D 4=true:=g1 4 (by simp)
         have d5:D 5=true:=g1 5 (by simp)
         have d6:D 6=true:=g1 6 (by simp)
         have d7:D 7=true:=g1 7 (by simp)
         have d8:D 8=true:=g1 8 (by simp)
         have d9:D 9=true:=g1 9 (by simp)
         have b2:D 10=true:=g1 10 (by simp)
         have b7:D 11=true:=g1 11 (by simp)
         have b1:D 12=true:=g1 12 (by simp)
         have b3:D 13=true:=g1 13 (by simp)
         have b4:D 14=true:=g1 14 (by simp)
         have b6:D 15=true:=g1 15 (by simp)
         cases d0:D 0<;>(intro K z;simp [iI,lD,fR,eN,hE,d0,d1,d2,d3,d4,d5,d6,d7,d8,d9,b2,b7,b1,b3,b4,b6,b8] at z ⊢;refine wC rfl fun K' r=>?_;simp [q,a3,a4,a5,a6,a7,a8,a9,b0,a0,a1,a2];refine r _ (wN ?_);first | exact z | simpa [a3,a4,a5,a6,a7,a8,a9,b0,a0,a1,a2] using z)
       simp [iI,lD,eN,hE]
       iterate 3 (refine wC rfl fun K n=>?_;simp [q,a3,a4,a5,a6,a7,a8,a9,b0,a0,a1,a2];apply n)
       apply wN;apply z
       refine O.zG w fun K z=>?_
       iterate 3 (refine wC rfl fun K n=>?_;simp [q];apply n)
       apply wN;apply z
       cases c1
       exact ⟨_,[],rfl,by simp [q]⟩
      ·refine O.cF' (by simp) j2 ?_
       refine O.exit ?_
       have l9:=congrArg some (i8 _ (Option.some.inj c1).symm)
       cases l9
       exact i7 _ () [] trivial (by simp [q])
     refine O.freezeB 39 3 fun K n=>?_;simp [q];apply n
     refine O.zR w fun K z=>?_
     iterate 4 (refine wC rfl fun K n=>?_;simp [q];apply n)
     obtain ⟨n2,j6,b5⟩:=bS b5
     obtain ⟨c8,c9,e0,e1⟩:=gS j6
     iterate 3 (refine wC rfl fun K n=>?_;simp [q,c8,c9,e0,e1];apply n)
     obtain ⟨n3,j7,b5⟩:=bS b5
     refine wL [((.ptr 5),.tmp 70),(.take,.tmp 76)] rfl rfl ent48 (qR _ _ j7) fun K n=>?_;simp [q,c8,c9,e0,e1];apply n
     apply wN;apply z
     obtain ⟨g8,b9,b5⟩:=bS b5
     refine O.seqC [1,3,6] [1,39] (fun _:Unit=>⟨[(1,.ref (.box 1) 0 []),(3,.t (vi i9)),(6,.ref (.box 39) 0 [])],[(1,[.sl false 4 (List.map (GNode.enc false) p1.Nodes),.sl false 5 (List.map (GFn.enc false) p1.Fns)]),(39,[.sl false 4 (List.map (GNode.enc false) g8.p.Nodes),.sl false 5 (List.map (GFn.enc false) g8.p.Fns),vi g8.fn,.sl false 1 (List.map vs g8.there),vb g8.bad])]⟩) (fun _=>True) (fun _ _=>?_) fun n4 g9=>?_
     rotate_left
     ·refine O.zR w fun K z=>?_
      iterate 3 (refine wC rfl fun K n=>?_;simp [q];apply n)
      obtain ⟨n5,j9,b9⟩:=bS b9
      obtain ⟨h0,h1,h2,h3⟩:=gS j9
      iterate 4 (refine wC rfl fun K n=>?_;simp [q,h0,h1,h2,h3];apply n)
      apply wN;apply z
      rcases aA b9 with ⟨k0,b9⟩ | ⟨k1,b9⟩
      ·refine O.cT' (by simp) k0 ?_
       refine O.zG w fun K z=>?_
       iterate 4 (refine wC rfl fun K n=>?_;simp [q];apply n)
       obtain ⟨n6,k2,b9⟩:=bS b9
       obtain ⟨e2,e3,e4,e5⟩:=gS k2
       iterate 3 (refine wC rfl fun K n=>?_;simp [q,e2,e3,e4,e5];apply n)
       obtain ⟨n7,k3,b9⟩:=bS b9
       refine wL [((.ptr 5),.tmp 85),(.take,.tmp 91)] rfl rfl aPn (kS _ _ k3) fun K n=>?_;simp [q,e2,e3,e4,e5];apply n
       apply wN;apply z
       cases b9
       exact g9 _ () [] trivial (by simp [q])
      ·refine O.cF' (by simp) k1 ?_
       refine O.skip ?_
       cases b9
       exact g9 _ () [] trivial (by simp [q])
     refine O.zR w fun K z=>?_
     iterate 4 (refine wC rfl fun K n=>?_;simp [q];apply n)
     apply wN;apply z
     rcases aA b5 with ⟨k4,b5⟩ | ⟨k5,b5⟩
     ·refine O.cT' (by simp) k4 ?_
      refine O.zR w fun K z=>?_
      refine wC rfl fun K n=>?_;simp [q];apply n
      apply wN;apply z
      cases b5
      try dsimp only at c2
      have m0:=congrArg some (e6 _ (Option.some.inj c2).symm)
      cases m0
      try dsimp only at h
      cases h
      refine O.ret ?_
      simp [aC,iB,aN7]
     ·refine O.cF' (by simp) k5 ?_
      refine O.skip ?_
      cases b5
      exact h6 _ _ [] rfl (by simp [q])
    subst hv
    obtain ⟨⟩:=v
    try dsimp only at c2 ⊢
    refine O.zG w fun K z=>?_
    iterate 3 (refine wC rfl fun K n=>?_;simp [q];apply n)
    apply wN;apply z
    cases c2
    exact ⟨_,[],rfl,by simp [q]⟩
   ·refine O.cF' (by simp) h5 ?_
    refine O.exit ?_
    have m1:=congrArg some (e6 _ (Option.some.inj c2).symm)
    cases m1
    exact l2 _ _ [] rfl (by simp [q])
  subst hv
  obtain ⟨⟩:=v
  try dsimp only at h ⊢
  refine O.zR w fun K z=>?_
  refine wC rfl fun K n=>?_;simp [q];apply n
  apply wN;apply z
  cases h
  refine O.ret ?_
  simp [aC,iB,aN7]
theorem res59:Tryz.f59.results.toList=[.tmp 2]:=rfl
theorem ent59:aE E.P 59:=eO Tryz.func59 (by simp [Tryz.f59]) rfl
theorem xD (a0:List GNode) {r0:List GNode} (h:jL a0=some r0):Ok E 59 [.val (.sl false 4 (List.map (GNode.enc false) a0))] [.sl true 4 (List.map (GNode.enc true) r0)] []:=by
 refine oB Tryz.func59 rfl (by simp [Tryz.f59]) fun C (q:C.N=27) hP=>?_
 have y:=aK hP
 unfold jL at h
 refine O.zR y fun K u=>?_
 refine wC rfl fun K w=>?_;simp [q];apply w
 apply wN;apply u
 refine O.zR y fun K u=>?_
 iterate 2 (refine wC rfl fun K w=>?_;simp [q];apply w)
 apply wN;apply u
 obtain ⟨a6,c0,h⟩:=bS h
 refine O.seqC [3] [] (fun _:Unit=>⟨[(3,.t (.sl true 4 (List.map (GNode.enc true) a6)))],[]⟩) (fun _=>True) (fun _ _=>?_) fun K3 c1=>?_
 rotate_left
 ·refine O.zR y fun K u=>?_
  refine wC rfl fun K w=>?_;simp [q];apply w
  apply wN;apply u
  refine O.block ?_
  refine O.loopO [] [0,3,4] [] (fun v:(List GNode) × Int=>⟨[(0,.t (.sl false 4 (List.map (GNode.enc false) a0))),(3,.t (.sl true 4 (List.map (GNode.enc true) v.1))),(4,.t (vi v.2))],[]⟩) (dX a0) _ ([],0) c0 (by simp [q]) ?_
  intro g s9 h7 c2
  obtain ⟨b3,i6⟩:=g
  simp only [dX] at h7
  try dsimp only
  refine O.seq ?_
  refine O.zR y fun K u=>?_
  iterate 4 (refine wC rfl fun K w=>?_;simp [q];apply w)
  apply wN;apply u
  rcases aA h7 with ⟨b4,h7⟩ | ⟨b5,h7⟩
  ·refine O.cT' (by simp) b4 ?_
   refine O.skip ?_
   refine O.seq ?_
   refine O.block ?_
   refine O.zR y fun K u=>?_
   iterate 2 (refine wC rfl fun K w=>?_;simp [q];apply w)
   obtain ⟨b2,b6,h7⟩:=bS h7
   obtain ⟨a7,a8,a9,b0⟩:=gS b6
   iterate 4 (refine wC rfl fun K w=>?_;simp [q,a7,a8,a9,b0];apply w)
   apply wN;apply u
   refine O.zR y fun K u=>?_
   iterate 3 (refine wC rfl fun K w=>?_;simp [q];apply w)
   obtain ⟨c5,b7,h7⟩:=bS h7
   obtain ⟨a1,a2,b9⟩:=aS b7
   simp [eSl] at a1 a2
   iterate 3 (refine wC rfl fun K w=>?_;simp [q,a1,a2];apply w)
   apply wN;apply u
   refine O.zG y fun K u=>?_
   iterate 3 (refine wC rfl fun K w=>?_;simp [q];apply w)
   obtain ⟨c3,b8,h7⟩:=bS h7
   obtain ⟨a3,a4,b1⟩:=aS b8
   have a5:List.map (GNode.enc true) b3 ++ List.map (GNode.enc true) [(⟨b2.Kind,b2.Num,b2.Name,b2.Kids⟩:GNode)]=List.map (GNode.enc true) c3:=dW (f:=(GNode.enc true)) b1
   simp [eSl,GNode.enc] at a3 a4 a5
   iterate 2 (refine wC rfl fun K w=>?_;simp [q,a3,a4,a5];apply w)
   apply wN;apply u
   refine O.zG y fun K u=>?_
   iterate 3 (refine wC rfl fun K w=>?_;simp [q];apply w)
   apply wN;apply u
   cases h7
   exact ⟨_,[],rfl,by simp [q]⟩
  ·refine O.cF' (by simp) b5 ?_
   refine O.exit ?_
   have c4:=congrArg some (c2 _ (Option.some.inj h7).symm)
   cases c4
   exact c1 _ () [] trivial (by simp [q])
 refine O.zR y fun K u=>?_
 iterate 2 (refine wC rfl fun K w=>?_;simp [q];apply w)
 apply wN;apply u
 cases h
 refine O.ret ?_
 simp [aC,iB,res59]
theorem res27:Tryz.f27.results.toList=[.cell 2 31]:=rfl
theorem ent27:aE E.P 27:=eO Tryz.func27 (by simp [Tryz.f27]) rfl
theorem zD (p1:GProgram) {r0:GProgram} (h:kW p1=some r0):Ok E 27 [.val (GProgram.enc false p1)] [GProgram.enc true r0] []:=by
 refine oB Tryz.func27 rfl (by simp [Tryz.f27]) fun C (q:C.N=34) hP=>?_
 have y:=aK hP
 unfold kW at h
 refine O.zR y fun K u=>?_
 iterate 2 (refine wC rfl fun K w=>?_;simp [q];apply w)
 apply wN;apply u
 refine O.zR y fun K u=>?_
 iterate 2 (refine wC rfl fun K w=>?_;simp [q];apply w)
 obtain ⟨r2,b9,h⟩:=bS h
 refine wL [(.take,.tmp 7)] rfl rfl ent59 (xD _ b9) fun K w=>?_;simp [q];apply w
 iterate 3 (refine wC rfl fun K w=>?_;simp [q];apply w)
 apply wN;apply u
 obtain ⟨b7,c0,h⟩:=bS h
 refine O.seqC [2,3] [2,3] (fun _:Unit=>⟨[(2,.ref (.box 2) 0 []),(3,.ref (.box 3) 0 [])],[(2,[.sl true 4 [],.sl true 5 []]),(3,[.sl true 4 (List.map (GNode.enc true) b7.Nodes),.sl true 5 (List.map (GFn.enc true) b7.Fns)])]⟩) (fun _=>True) (fun _ _=>?_) fun K5 c1=>?_
 rotate_left
 ·refine O.zR y fun K u=>?_
  refine wC rfl fun K w=>?_;simp [q];apply w
  apply wN;apply u
  refine O.block ?_
  refine O.loopO [] [1,2,3,4] [1,2,3] (fun v:Int × GProgram=>⟨[(1,.ref (.box 1) 0 []),(2,.ref (.box 2) 0 []),(3,.ref (.box 3) 0 []),(4,.t (vi v.1))],[(1,[.sl false 4 (List.map (GNode.enc false) p1.Nodes),.sl false 5 (List.map (GFn.enc false) p1.Fns)]),(2,[.sl true 4 [],.sl true 5 []]),(3,[.sl true 4 (List.map (GNode.enc true) v.2.Nodes),.sl true 5 (List.map (GFn.enc true) v.2.Fns)])]⟩) (eT p1) _ (0,(⟨r2,[]⟩:GProgram)) c0 (by simp [q]) ?_
  intro g c4 h9 b1
  obtain ⟨i7,v8⟩:=g
  simp only [eT] at h9
  try dsimp only
  refine O.seq ?_
  refine O.zR y fun K u=>?_
  iterate 5 (refine wC rfl fun K w=>?_;simp [q];apply w)
  apply wN;apply u
  rcases aA h9 with ⟨b2,h9⟩ | ⟨b3,h9⟩
  ·refine O.cT' (by simp) b2 ?_
   refine O.skip ?_
   refine O.seq ?_
   refine O.block ?_
   refine O.zR y fun K u=>?_
   iterate 3 (refine wC rfl fun K w=>?_;simp [q];apply w)
   obtain ⟨a5,b4,h9⟩:=bS h9
   obtain ⟨a6,a7,a8,a9⟩:=gS b4
   iterate 4 (refine wC rfl fun K w=>?_;simp [q,a6,a7,a8,a9];apply w)
   apply wN;apply u
   refine O.zR y fun K u=>?_
   iterate 3 (refine wC rfl fun K w=>?_;simp [q];apply w)
   obtain ⟨c5,b5,h9⟩:=bS h9
   obtain ⟨a0,a1,b8⟩:=aS b5
   simp [eSl,GParam.enc] at a0 a1
   iterate 3 (refine wC rfl fun K w=>?_;simp [q,a0,a1];apply w)
   apply wN;apply u
   refine O.zG y fun K u=>?_
   iterate 4 (refine wC rfl fun K w=>?_;simp [q];apply w)
   obtain ⟨c2,b6,h9⟩:=bS h9
   obtain ⟨a2,a3,b0⟩:=aS b6
   have a4:List.map (GFn.enc true) v8.Fns ++ List.map (GFn.enc true) [(⟨a5.Name,a5.Params,a5.Res,a5.Body,a5.Ret⟩:GFn)]=List.map (GFn.enc true) c2:=dW (f:=(GFn.enc true)) b0
   simp [eSl,GFn.enc] at a2 a3 a4
   iterate 3 (refine wC rfl fun K w=>?_;simp [q,a2,a3,a4];apply w)
   apply wN;apply u
   refine O.zG y fun K u=>?_
   iterate 3 (refine wC rfl fun K w=>?_;simp [q];apply w)
   apply wN;apply u
   cases h9
   exact ⟨_,[],rfl,by simp [q]⟩
  ·refine O.cF' (by simp) b3 ?_
   refine O.exit ?_
   have c3:=congrArg some (b1 _ (Option.some.inj h9).symm)
   cases c3
   exact c1 _ () [] trivial (by simp [q])
 refine O.zR y fun K u=>?_
 iterate 2 (refine wC rfl fun K w=>?_;simp [q];apply w)
 apply wN;apply u
 cases h
 refine O.ret ?_
 simp [aC,iB,res27]
theorem res73:Tryz.f73.results.toList=[.tmp 2]:=rfl
theorem ent73:aE E.P 73:=eO Tryz.func73 (by simp [Tryz.f73]) rfl
theorem vM (x1:Int) {r0:Int} (h:kN x1=some r0):Ok E 73 [.val (vi x1)] [vk .u8 r0] []:=by
 refine oB Tryz.func73 rfl (by simp [Tryz.f73]) fun C (q:C.N=12) hP=>?_
 have y:=aK hP
 unfold kN at h
 refine O.zR y fun K u=>?_
 refine wC rfl fun K v=>?_;simp [q];apply v
 apply wN;apply u
 refine O.seq ?_
 refine O.zR y fun K u=>?_
 iterate 2 (refine wC rfl fun K v=>?_;simp [q];apply v)
 apply wN;apply u
 rcases aA h with ⟨a0,h⟩ | ⟨a1,h⟩
 ·refine O.cT' (by simp) a0 ?_
  refine O.zR y fun K u=>?_
  iterate 4 (refine wC rfl fun K v=>?_;simp [q];apply v)
  apply wN;apply u
  cases h
  refine O.ret ?_
  simp [aC,iB,res73]
 ·refine O.cF' (by simp) a1 ?_
  refine O.skip ?_
  refine O.zR y fun K u=>?_
  iterate 5 (refine wC rfl fun K v=>?_;simp [q];apply v)
  apply wN;apply u
  cases h
  refine O.ret ?_
  simp [aC,iB,res73]
theorem aP0:Tryz.f37.results.toList=[.tmp 2]:=rfl
theorem aNv:aE E.P 37:=eO Tryz.func37 (by simp [Tryz.f37]) rfl
theorem jN (n1:Int) {r0:ByteArray} (h:eG n1=some r0):Ok E 37 [.val (vi n1)] [vs r0] []:=by
 refine oB Tryz.func37 rfl (by simp [Tryz.f37]) fun C (q:C.N=30) hP=>?_
 have y:=aK hP
 unfold eG at h
 refine O.zR y fun K u=>?_
 refine wC rfl fun K w=>?_;simp [q];apply w
 apply wN;apply u
 refine O.seq ?_
 refine O.zR y fun K u=>?_
 iterate 2 (refine wC rfl fun K w=>?_;simp [q];apply w)
 apply wN;apply u
 rcases aA h with ⟨b6,h⟩ | ⟨b7,h⟩
 ·refine O.cT' (by simp) b6 ?_
  refine O.zR y fun K u=>?_
  refine wC rfl fun K w=>?_;simp [q];apply w
  apply wN;apply u
  cases h
  refine O.ret ?_
  simp [aC,iB,aP0]
 ·refine O.cF' (by simp) b7 ?_
  refine O.skip ?_
  refine O.zR y fun K u=>?_
  iterate 3 (refine wC rfl fun K w=>?_;simp [q];apply w)
  apply wN;apply u
  refine O.zR y fun K u=>?_
  refine wC rfl fun K w=>?_;simp [q];apply w
  apply wN;apply u
  obtain ⟨b8,b9,h⟩:=bS h
  refine O.seqC [3,4] [] (fun _:Unit=>⟨[(3,.t (vb (decide (n1 < 0)))),(4,.t (vs b8))],[]⟩) (fun _=>True) (fun _ _=>?_) fun K5 c0=>?_
  rotate_left
  ·refine O.block ?_
   refine O.loopO [] [0,3,4] [] (fun v:Int × ByteArray=>⟨[(0,.t (vi v.1)),(3,.t (vb (decide (n1 < 0)))),(4,.t (vs v.2))],[]⟩) (eW) _ (n1,(⟨#[]⟩:ByteArray)) b9 (by simp [q]) ?_
   intro g c3 h9 a6
   obtain ⟨n7,s8⟩:=g
   simp only [eW] at h9
   try dsimp only
   refine O.seq ?_
   refine O.zR y fun K u=>?_
   iterate 2 (refine wC rfl fun K w=>?_;simp [q];apply w)
   apply wN;apply u
   rcases aA h9 with ⟨a7,h9⟩ | ⟨a8,h9⟩
   ·refine O.cT' (by simp) a7 ?_
    refine O.skip ?_
    refine O.block ?_
    refine O.zR y fun K u=>?_
    iterate 3 (refine wC rfl fun K w=>?_;simp [q];apply w)
    apply wN;apply u
    obtain ⟨c1,a0,h9⟩:=bS h9
    refine O.seqC [0,3,4,5] [] (fun _:Unit=>⟨[(0,.t (vi n7)),(3,.t (vb (decide (n1 < 0)))),(4,.t (vs s8)),(5,.t (vi c1))],[]⟩) (fun _=>True) (fun _ _=>?_) fun c4 a1=>?_
    rotate_left
    ·refine O.zR y fun K u=>?_
     iterate 2 (refine wC rfl fun K w=>?_;simp [q];apply w)
     apply wN;apply u
     rcases aA a0 with ⟨a9,a0⟩ | ⟨b0,a0⟩
     ·refine O.cT' (by simp) a9 ?_
      refine O.zG y fun K u=>?_
      iterate 3 (refine wC rfl fun K w=>?_;simp [q];apply w)
      apply wN;apply u
      cases a0
      exact a1 _ () [] trivial (by simp [q])
     ·refine O.cF' (by simp) b0 ?_
      refine O.skip ?_
      cases a0
      exact a1 _ () [] trivial (by simp [q])
    refine O.zR y fun K u=>?_
    refine wC rfl fun K w=>?_;simp [q];apply w
    obtain ⟨c5,b1,h9⟩:=bS h9
    refine wL [(.take,.tmp 18)] rfl rfl ent73 (vM _ b1) fun K w=>?_;simp [q];apply w
    iterate 3 (refine wC rfl fun K w=>?_;simp [q];apply w)
    obtain ⟨c6,b2,h9⟩:=bS h9
    obtain ⟨a2,a3⟩:=kY b2
    iterate 2 (refine wC rfl fun K w=>?_;simp [q,a2,a3];apply w)
    apply wN;apply u
    refine O.zG y fun K u=>?_
    iterate 3 (refine wC rfl fun K w=>?_;simp [q];apply w)
    apply wN;apply u
    cases h9
    exact ⟨_,[],rfl,by simp [q]⟩
   ·refine O.cF' (by simp) a8 ?_
    refine O.exit ?_
    have c2:=congrArg some (a6 _ (Option.some.inj h9).symm)
    cases c2
    exact c0 _ () [] trivial (by simp [q])
  refine O.seq ?_
  refine O.zR y fun K u=>?_
  refine wC rfl fun K w=>?_;simp [q];apply w
  apply wN;apply u
  rcases aA h with ⟨b3,h⟩ | ⟨b4,h⟩
  ·refine O.cT' (by simp) b3 ?_
   refine O.zR y fun K u=>?_
   refine wC rfl fun K w=>?_;simp [q];apply w
   obtain ⟨c7,b5,h⟩:=bS h
   obtain ⟨a4,a5⟩:=kY b5
   iterate 2 (refine wC rfl fun K w=>?_;simp [q,a4,a5];apply w)
   apply wN;apply u
   cases h
   refine O.ret ?_
   simp [aC,iB,aP0]
  ·refine O.cF' (by simp) b4 ?_
   refine O.skip ?_
   refine O.zR y fun K u=>?_
   iterate 2 (refine wC rfl fun K w=>?_;simp [q];apply w)
   apply wN;apply u
   cases h
   refine O.ret ?_
   simp [aC,iB,aP0]
theorem res60:Tryz.f60.results.toList=[.tmp 4]:=rfl
theorem ent60:aE E.P 60:=eO Tryz.func60 (by simp [Tryz.f60]) rfl
theorem aB1 (p1:GProgram) (i2:Int) {r0:List Int} (h:mK p1 i2=some r0):Ok E 60 [.val (GProgram.enc false p1),.val (vi i2)] [.sl true 1 (List.map vi r0)] []:=by
 refine oB Tryz.func60 rfl (by simp [Tryz.f60]) fun C (q:C.N=102) hP=>?_
 have y:=aK hP
 unfold mK at h
 refine O.zR y fun K u=>?_
 iterate 2 (refine wC rfl fun K z=>?_;simp [q];apply z)
 apply wN;apply u
 refine O.zR y fun K u=>?_
 iterate 2 (refine wC rfl fun K z=>?_;simp [q];apply z)
 apply wN;apply u
 refine O.seq ?_
 refine O.zR y fun K u=>?_
 iterate 5 (refine wC rfl fun K z=>?_;simp [q];apply z)
 obtain ⟨r3,k3,h⟩:=bS h
 refine wL [(.take,.tmp 11),(.take,.const (.int .i64 0)),(.take,.tmp 15)] rfl rfl qJ (aQ _ _ _ k3) fun K z=>?_;simp [q];apply z
 refine wC rfl fun K z=>?_;simp [q];apply z
 apply wN;apply u
 rcases aA h with ⟨k4,h⟩ | ⟨k5,h⟩
 ·refine O.cT' (by simp) k4 ?_
  refine O.zR y fun K u=>?_
  iterate 2 (refine wC rfl fun K z=>?_;simp [q];apply z)
  apply wN;apply u
  cases h
  refine O.ret ?_
  simp [aC,iB,res60]
 ·refine O.cF' (by simp) k5 ?_
  refine O.skip ?_
  refine O.seq ?_
  obtain ⟨e8,k6,h⟩:=bS h
  obtain ⟨e4,e5,e6,e7⟩:=gS k6
  refine O.dT rfl (y _ rfl) [(19,.t (GProgram.enc false p1)),(20,.ref (.box 2) 1 []),(21,.t (.sl false 5 (List.map (GFn.enc false) p1.Fns))),(22,.t (vi i2)),(23,.rop [vs e8.Name,.sl false 2 (List.map GParam.enc e8.Params),vi e8.Res,vi e8.Body,vi e8.Ret] 0),(24,.rop [vs e8.Name,.sl false 2 (List.map GParam.enc e8.Params),vi e8.Res,vi e8.Body,vi e8.Ret] 3),(25,.t (vi e8.Body))] [[],[],[1],[],[1,2,3],[1,2,3,4],[1,2,3,4,5],[0,1,2,3,4,5,6],[0,1,2,3,4,5,6,7]] (by simp) (by simp) (by simp [look]) rfl rfl rfl ?_ fun K u=>?_
  ·refine ⟨?_,?_,?_,?_,?_,?_,?_,trivial⟩
   all_goals (intro τ hbx hb hd hf K u;try simp [aH] at hd;simp [aH] at hf;first | (refine wC rfl fun K' w=>?_;simp [q,hbx,hb,hd,hf,e4,e5,e6,e7];exact w _ (wN (u _ (by simp [aH,hbx,e4,e5,e6,e7])))))
  obtain ⟨r9,i3,h⟩:=bS h
  refine wL [(.take,.tmp 19),(.take,.tmp 25)] rfl rfl aPl (pI _ _ i3) fun K z=>?_;simp [q,e4,e5,e6,e7];apply z
  refine wC rfl fun K z=>?_;simp [q,e4,e5,e6,e7];apply z
  apply wN;apply u
  refine O.seq ?_
  obtain ⟨d9,i4,h⟩:=bS h
  obtain ⟨b8,b9,c0,c1⟩:=gS i4
  refine O.dT rfl (y _ rfl) [(27,.t (GProgram.enc false p1)),(28,.ref (.box 2) 1 []),(29,.t (.sl false 5 (List.map (GFn.enc false) p1.Fns))),(30,.t (vi i2)),(31,.rop [vs d9.Name,.sl false 2 (List.map GParam.enc d9.Params),vi d9.Res,vi d9.Body,vi d9.Ret] 0),(32,.rop [vs d9.Name,.sl false 2 (List.map GParam.enc d9.Params),vi d9.Res,vi d9.Body,vi d9.Ret] 4),(33,.t (vi d9.Ret))] [[],[],[1],[],[1,2,3],[1,2,3,4],[1,2,3,4,5],[0,1,2,3,4,5,6],[0,1,2,3,4,5,6,7]] (by simp) (by simp) (by simp [look]) rfl rfl rfl ?_ fun K u=>?_
  ·refine ⟨?_,?_,?_,?_,?_,?_,?_,trivial⟩
   all_goals (intro τ hbx hb hd hf K u;try simp [aH] at hd;simp [aH] at hf;first | (refine wC rfl fun K' w=>?_;simp [q,hbx,hb,hd,hf,b8,b9,c0,c1];exact w _ (wN (u _ (by simp [aH,hbx,b8,b9,c0,c1])))))
  obtain ⟨b6,i5,h⟩:=bS h
  refine wL [(.take,.tmp 27),(.take,.tmp 33)] rfl rfl aPl (pI _ _ i5) fun K z=>?_;simp [q,b8,b9,c0,c1];apply z
  refine wC rfl fun K z=>?_;simp [q,b8,b9,c0,c1];apply z
  apply wN;apply u
  refine O.zR y fun K u=>?_
  refine wC rfl fun K z=>?_;simp [q];apply z
  apply wN;apply u
  refine O.zR y fun K u=>?_
  refine wC rfl fun K z=>?_;simp [q];apply z
  apply wN;apply u
  obtain ⟨h6,i6,h⟩:=bS h
  refine O.seqC [5] [] (fun _:Unit=>⟨[(5,.t (.sl true 1 (List.map vi h6)))],[]⟩) (fun _=>True) (fun _ _=>?_) fun m0 i7=>?_
  rotate_left
  ·refine O.block ?_
   refine O.loopO [] [5,6,7,8,9] [] (fun v:(List Int) × Int × Int=>⟨[(5,.t (.sl true 1 (List.map vi v.1))),(6,.t (.sl true 1 (List.map vi r9))),(7,.t (.sl true 1 (List.map vi b6))),(8,.t (vi v.2.1)),(9,.t (vi v.2.2))],[]⟩) (bD r9 b6) _ ([],0,0) i6 (by simp [q]) ?_
   intro g m1 a6 i8
   obtain ⟨a7,a8,b0⟩:=g
   simp only [bD] at a6
   try dsimp only
   refine O.seq ?_
   obtain ⟨k7,e0,a6⟩:=bS a6
   refine O.seqRC rfl (y _ rfl) [5,6,7,8,9,44] [] (fun _:Unit=>⟨[(5,.t (.sl true 1 (List.map vi a7))),(6,.t (.sl true 1 (List.map vi r9))),(7,.t (.sl true 1 (List.map vi b6))),(8,.t (vi a8)),(9,.t (vi b0)),(44,.t (vb k7))],[]⟩) (fun _=>True) (fun _ _=>?_) fun m2 h7=>?_
   rotate_left
   ·refine wC rfl fun K z=>?_;simp [q];apply z
    iterate 4 (refine wC rfl fun K z=>?_;simp [q];apply z)
    rcases aA e0 with ⟨e9,e0⟩ | ⟨h4,e0⟩
    ·have c2:=e9
     try simp at c2
     iterate 4 (refine wO fun K z=>?_;simp [q,e9,c2];apply z)
     refine wC rfl fun K z=>?_;simp [q,e9,c2];apply z
     refine wN ?_
     cases e0
     exact h7 _ () [] trivial (by simp [q,e9,c2])
    ·have e1:=h4
     try simp at e1
     iterate 5 (refine wC rfl fun K z=>?_;simp [q,h4,e1];apply z)
     refine wN ?_
     cases e0
     exact h7 _ () [] trivial (by simp [q,h4,e1])
   rcases aA a6 with ⟨i9,a6⟩ | ⟨j0,a6⟩
   ·refine O.cT' (by simp) i9 ?_
    refine O.skip ?_
    refine O.block ?_
    refine O.seq ?_
    obtain ⟨k8,a1,a6⟩:=bS a6
    refine O.seqC [5,6,7,8,9,65] [] (fun _:Unit=>⟨[(5,.t (.sl true 1 (List.map vi a7))),(6,.t (.sl true 1 (List.map vi r9))),(7,.t (.sl true 1 (List.map vi b6))),(8,.t (vi a8)),(9,.t (vi b0)),(65,.t (vb k8))],[]⟩) (fun _=>True) (fun _ _=>?_) fun m3 h5=>?_
    rotate_left
    ·rcases aA a1 with ⟨b1,a1⟩ | ⟨a5,a1⟩
     ·have a2:=b1
      try simp at a2
      refine O.dT rfl (y _ rfl) [(45,.t (vi b0)),(46,.al (.slot 7) 0 [] none),(47,.t (vi (b6.length:Int))),(48,.t (vb (decide (b0 ≥ (b6.length:Int))))),(49,.t (vb (decide (b0 ≥ (b6.length:Int))))),(50,.tup []),(51,.tup []),(52,.tup []),(53,.tup []),(54,.tup []),(55,.tup []),(56,.tup []),(57,.tup []),(58,.tup []),(59,.tup []),(60,.tup []),(61,.tup []),(62,.tup [])] [[],[],[1],[0,1,2],[0,1,2,3],[0,1,2,3,4],[0,1,2,3,4],[0,1,2,3,4,6],[0,1,2,3,4,5,6,7],[0,1,2,3,4,5,6,7,8],[0,1,2,3,4,5,6,7,8,9],[0,1,2,3,4,5,6,7,8,9],[0,1,2,3,4,5,6,7,8,9,10,11],[0,1,2,3,4,5,6,7,8,9,10,11,12],[0,1,2,3,4,5,6,7,8,9],[0,1,2,3,4,5,6,7,8,9],[0,1,2,3,4,5,6,7,8,9,14,15],[0,1,2,3,4,5,6,7,8,9,14,15,16],[0,1,2,3,4,5,6,7,8,9,10,11,12,13,14,15,16,17],[0,1,2,3,4,5,6,7,8,9,10,11,12,13,14,15,16,17,18],[0,1,2,3,4,5,6,7,8,9,10,11,12,13,14,15,16,17,18,19]] (by simp) (by simp) (by simp [look]) rfl rfl rfl ?_ fun K u=>?_
      ·refine ⟨?_,?_,?_,?_,?_,?_,?_,?_,?_,?_,?_,?_,?_,?_,?_,?_,?_,?_,trivial⟩
       all_goals (intro τ hbx hb hd hf K u;try simp [aH] at hd;simp [aH] at hf;first | (refine wC rfl fun K' w=>?_;simp [q,hbx,hb,hd,hf,b1,a2];exact w _ (wN (u _ (by simp [aH,hbx,b1,a2])))) | (refine wO fun K' w=>?_;simp [q,hbx,hb,hd,hf,b1,a2];exact w _ (wN (u _ (by simp [aH,hbx,b1,a2])))))
      iterate 2 (refine wO fun K z=>?_;simp [q,b1,a2];apply z)
      refine wC rfl fun K z=>?_;simp [q,b1,a2];apply z
      apply wN;apply u
      cases a1
      exact h5 _ () [] trivial (by simp [q,b1,a2])
     ·have a0:=a5
      try simp at a0
      rcases aA a1 with ⟨e2,a1⟩ | ⟨b2,a1⟩
      ·have b3:=e2
       try simp at b3
       obtain ⟨k9,j1,a1⟩:=bS a1
       obtain ⟨c3,c4,c5,c6⟩:=gS j1
       obtain ⟨l0,j2,a1⟩:=bS a1
       obtain ⟨c7,c8,c9,d0⟩:=gS j2
       refine O.dT rfl (y _ rfl) [(45,.t (vi b0)),(46,.al (.slot 7) 0 [] none),(47,.t (vi (b6.length:Int))),(48,.t (vb (decide (b0 ≥ (b6.length:Int))))),(49,.t (vb (decide (b0 ≥ (b6.length:Int))))),(50,.t (vi a8)),(51,.al (.slot 6) 0 [] none),(52,.t (vi (r9.length:Int))),(53,.t (vb (decide (a8 < (r9.length:Int))))),(54,.t (vb (decide (a8 < (r9.length:Int))))),(55,.al (.slot 6) 0 [] none),(56,.t (vi a8)),(57,.ref (.slot 6) 0 [(a8.toNat,0)]),(58,.t (vi k9)),(59,.al (.slot 7) 0 [] none),(60,.t (vi b0)),(61,.ref (.slot 7) 0 [(b0.toNat,0)]),(62,.t (vi l0))] [[],[],[1],[0,1,2],[0,1,2,3],[0,1,2,3,4],[0,1,2,3,4],[0,1,2,3,4,6],[0,1,2,3,4,5,6,7],[0,1,2,3,4,5,6,7,8],[0,1,2,3,4,5,6,7,8,9],[0,1,2,3,4,5,6,7,8,9],[0,1,2,3,4,5,6,7,8,9,10,11],[0,1,2,3,4,5,6,7,8,9,10,11,12],[0,1,2,3,4,5,6,7,8,9],[0,1,2,3,4,5,6,7,8,9],[0,1,2,3,4,5,6,7,8,9,14,15],[0,1,2,3,4,5,6,7,8,9,14,15,16],[0,1,2,3,4,5,6,7,8,9,10,11,12,13,14,15,16,17],[0,1,2,3,4,5,6,7,8,9,10,11,12,13,14,15,16,17,18],[0,1,2,3,4,5,6,7,8,9,10,11,12,13,14,15,16,17,18,19]] (by simp) (by simp) (by simp [look]) rfl rfl rfl ?_ fun K u=>?_
       ·refine ⟨?_,?_,?_,?_,?_,?_,?_,?_,?_,?_,?_,?_,?_,?_,?_,?_,?_,?_,trivial⟩
        all_goals (intro τ hbx hb hd hf K u;try simp [aH] at hd;simp [aH] at hf;first | (refine wC rfl fun K' w=>?_;simp [q,hbx,hb,hd,hf,a5,a0,e2,b3,c3,c4,c5,c6,c7,c8,c9,d0];exact w _ (wN (u _ (by simp [aH,hbx,a5,a0,e2,b3,c3,c4,c5,c6,c7,c8,c9,d0])))))
       iterate 3 (refine wC rfl fun K z=>?_;simp [q,a5,a0,e2,b3,c3,c4,c5,c6,c7,c8,c9,d0];apply z)
       apply wN;apply u
       cases a1
       exact h5 _ () [] trivial (by simp [q,a5,a0,e2,b3,c3,c4,c5,c6,c7,c8,c9,d0])
      ·have a3:=b2
       try simp at a3
       refine O.dT rfl (y _ rfl) [(45,.t (vi b0)),(46,.al (.slot 7) 0 [] none),(47,.t (vi (b6.length:Int))),(48,.t (vb (decide (b0 ≥ (b6.length:Int))))),(49,.t (vb (decide (b0 ≥ (b6.length:Int))))),(50,.t (vi a8)),(51,.al (.slot 6) 0 [] none),(52,.t (vi (r9.length:Int))),(53,.t (vb (decide (a8 < (r9.length:Int))))),(54,.t (vb (decide (a8 < (r9.length:Int))))),(55,.tup []),(56,.tup []),(57,.tup []),(58,.tup []),(59,.tup []),(60,.tup []),(61,.tup []),(62,.tup [])] [[],[],[1],[0,1,2],[0,1,2,3],[0,1,2,3,4],[0,1,2,3,4],[0,1,2,3,4,6],[0,1,2,3,4,5,6,7],[0,1,2,3,4,5,6,7,8],[0,1,2,3,4,5,6,7,8,9],[0,1,2,3,4,5,6,7,8,9],[0,1,2,3,4,5,6,7,8,9,10,11],[0,1,2,3,4,5,6,7,8,9,10,11,12],[0,1,2,3,4,5,6,7,8,9],[0,1,2,3,4,5,6,7,8,9],[0,1,2,3,4,5,6,7,8,9,14,15],[0,1,2,3,4,5,6,7,8,9,14,15,16],[0,1,2,3,4,5,6,7,8,9,10,11,12,13,14,15,16,17],[0,1,2,3,4,5,6,7,8,9,10,11,12,13,14,15,16,17,18],[0,1,2,3,4,5,6,7,8,9,10,11,12,13,14,15,16,17,18,19]] (by simp) (by simp) (by simp [look]) rfl rfl rfl ?_ fun K u=>?_
       ·refine ⟨?_,?_,?_,?_,?_,?_,?_,?_,?_,?_,?_,?_,?_,?_,?_,?_,?_,?_,trivial⟩
        all_goals (intro τ hbx hb hd hf K u;try simp [aH] at hd;simp [aH] at hf;first | (refine wC rfl fun K' w=>?_;simp [q,hbx,hb,hd,hf,a5,a0,b2,a3];exact w _ (wN (u _ (by simp [aH,hbx,a5,a0,b2,a3])))) | (refine wO fun K' w=>?_;simp [q,hbx,hb,hd,hf,a5,a0,b2,a3];exact w _ (wN (u _ (by simp [aH,hbx,a5,a0,b2,a3])))))
       refine wO fun K z=>?_;simp [q,a5,a0,b2,a3];apply z
       iterate 2 (refine wC rfl fun K z=>?_;simp [q,a5,a0,b2,a3];apply z)
       apply wN;apply u
       cases a1
       exact h5 _ () [] trivial (by simp [q,a5,a0,b2,a3])
    rcases aA a6 with ⟨j3,a6⟩ | ⟨j4,a6⟩
    ·refine O.cT' (by simp) j3 ?_
     refine O.zR y fun K u=>?_
     iterate 3 (refine wC rfl fun K z=>?_;simp [q];apply z)
     obtain ⟨l1,j5,a6⟩:=bS a6
     obtain ⟨g0,g1,g2,g3⟩:=gS j5
     iterate 3 (refine wC rfl fun K z=>?_;simp [q,g0,g1,g2,g3];apply z)
     obtain ⟨l2,j6,a6⟩:=bS a6
     obtain ⟨g4,g5,h8⟩:=aS j6
     have g6:List.map vi a7 ++ List.map vi [l1]=List.map vi l2:=dW (f:=vi) h8
     simp [eSl] at g4 g5 g6
     iterate 2 (refine wC rfl fun K z=>?_;simp [q,g0,g1,g2,g3,g4,g5,g6];apply z)
     apply wN;apply u
     refine O.zR y fun K u=>?_
     iterate 3 (refine wC rfl fun K z=>?_;simp [q];apply z)
     apply wN;apply u
     refine O.exit ?_
     cases a6
     exact ⟨_,[],rfl,by simp [q]⟩
    ·refine O.cF' (by simp) j4 ?_
     refine O.skip ?_
     obtain ⟨l3,b7,a6⟩:=bS a6
     refine O.seqC [5,6,7,8,9] [] (fun _:Unit=>⟨[(5,.t (.sl true 1 (List.map vi a7))),(6,.t (.sl true 1 (List.map vi r9))),(7,.t (.sl true 1 (List.map vi b6))),(8,.t (vi l3)),(9,.t (vi b0))],[]⟩) (fun _=>True) (fun _ _=>?_) fun m4 h9=>?_
     rotate_left
     ·obtain ⟨l4,a9,b7⟩:=bS b7
      refine O.seqC [5,6,7,8,9,89] [] (fun _:Unit=>⟨[(5,.t (.sl true 1 (List.map vi a7))),(6,.t (.sl true 1 (List.map vi r9))),(7,.t (.sl true 1 (List.map vi b6))),(8,.t (vi a8)),(9,.t (vi b0)),(89,.t (vb l4))],[]⟩) (fun _=>True) (fun _ _=>?_) fun m5 i0=>?_
      rotate_left
      ·rcases aA a9 with ⟨e3,a9⟩ | ⟨b4,a9⟩
       ·have b5:=e3
        try simp at b5
        obtain ⟨l5,j7,a9⟩:=bS a9
        obtain ⟨d1,d2,d3,d4⟩:=gS j7
        obtain ⟨l6,j8,a9⟩:=bS a9
        obtain ⟨d5,d6,d7,d8⟩:=gS j8
        refine O.dT rfl (y _ rfl) [(75,.t (vi a8)),(76,.al (.slot 6) 0 [] none),(77,.t (vi (r9.length:Int))),(78,.t (vb (decide (a8 < (r9.length:Int))))),(79,.t (vb (decide (a8 < (r9.length:Int))))),(80,.al (.slot 6) 0 [] none),(81,.t (vi a8)),(82,.ref (.slot 6) 0 [(a8.toNat,0)]),(83,.t (vi l5)),(84,.al (.slot 7) 0 [] none),(85,.t (vi b0)),(86,.ref (.slot 7) 0 [(b0.toNat,0)]),(87,.t (vi l6))] [[],[],[1],[0,1,2],[0,1,2,3],[0,1,2,3,4],[0,1,2,3,4],[0,1,2,3,4,5,6],[0,1,2,3,4,5,6,7],[0,1,2,3,4],[0,1,2,3,4],[0,1,2,3,4,9,10],[0,1,2,3,4,9,10,11],[0,1,2,3,4,5,6,7,8,9,10,11,12],[0,1,2,3,4,5,6,7,8,9,10,11,12,13]] (by simp) (by simp) (by simp [look]) rfl rfl rfl ?_ fun K u=>?_
        ·refine ⟨?_,?_,?_,?_,?_,?_,?_,?_,?_,?_,?_,?_,?_,trivial⟩
         all_goals (intro τ hbx hb hd hf K u;try simp [aH] at hd;simp [aH] at hf;first | (refine wC rfl fun K' w=>?_;simp [q,hbx,hb,hd,hf,e3,b5,d1,d2,d3,d4,d5,d6,d7,d8];exact w _ (wN (u _ (by simp [aH,hbx,e3,b5,d1,d2,d3,d4,d5,d6,d7,d8])))))
        iterate 2 (refine wC rfl fun K z=>?_;simp [q,e3,b5,d1,d2,d3,d4,d5,d6,d7,d8];apply z)
        apply wN;apply u
        cases a9
        exact i0 _ () [] trivial (by simp [q,e3,b5,d1,d2,d3,d4,d5,d6,d7,d8])
       ·have a4:=b4
        try simp at a4
        refine O.dT rfl (y _ rfl) [(75,.t (vi a8)),(76,.al (.slot 6) 0 [] none),(77,.t (vi (r9.length:Int))),(78,.t (vb (decide (a8 < (r9.length:Int))))),(79,.t (vb (decide (a8 < (r9.length:Int))))),(80,.tup []),(81,.tup []),(82,.tup []),(83,.tup []),(84,.tup []),(85,.tup []),(86,.tup []),(87,.tup [])] [[],[],[1],[0,1,2],[0,1,2,3],[0,1,2,3,4],[0,1,2,3,4],[0,1,2,3,4,5,6],[0,1,2,3,4,5,6,7],[0,1,2,3,4],[0,1,2,3,4],[0,1,2,3,4,9,10],[0,1,2,3,4,9,10,11],[0,1,2,3,4,5,6,7,8,9,10,11,12],[0,1,2,3,4,5,6,7,8,9,10,11,12,13]] (by simp) (by simp) (by simp [look]) rfl rfl rfl ?_ fun K u=>?_
        ·refine ⟨?_,?_,?_,?_,?_,?_,?_,?_,?_,?_,?_,?_,?_,trivial⟩
         all_goals (intro τ hbx hb hd hf K u;try simp [aH] at hd;simp [aH] at hf;first | (refine wC rfl fun K' w=>?_;simp [q,hbx,hb,hd,hf,b4,a4];exact w _ (wN (u _ (by simp [aH,hbx,b4,a4])))) | (refine wO fun K' w=>?_;simp [q,hbx,hb,hd,hf,b4,a4];exact w _ (wN (u _ (by simp [aH,hbx,b4,a4])))))
        refine wO fun K z=>?_;simp [q,b4,a4];apply z
        refine wC rfl fun K z=>?_;simp [q,b4,a4];apply z
        apply wN;apply u
        cases a9
        exact i0 _ () [] trivial (by simp [q,b4,a4])
      rcases aA b7 with ⟨j9,b7⟩ | ⟨k0,b7⟩
      ·refine O.cT' (by simp) j9 ?_
       refine O.zG y fun K u=>?_
       iterate 3 (refine wC rfl fun K z=>?_;simp [q];apply z)
       apply wN;apply u
       cases b7
       exact h9 _ () [] trivial (by simp [q])
      ·refine O.cF' (by simp) k0 ?_
       refine O.skip ?_
       cases b7
       exact h9 _ () [] trivial (by simp [q])
     refine O.zR y fun K u=>?_
     iterate 3 (refine wC rfl fun K z=>?_;simp [q];apply z)
     obtain ⟨l7,k1,a6⟩:=bS a6
     obtain ⟨g7,g8,g9,h0⟩:=gS k1
     iterate 3 (refine wC rfl fun K z=>?_;simp [q,g7,g8,g9,h0];apply z)
     obtain ⟨l8,k2,a6⟩:=bS a6
     obtain ⟨h1,h2,i1⟩:=aS k2
     have h3:List.map vi a7 ++ List.map vi [l7]=List.map vi l8:=dW (f:=vi) i1
     simp [eSl] at h1 h2 h3
     iterate 2 (refine wC rfl fun K z=>?_;simp [q,g7,g8,g9,h0,h1,h2,h3];apply z)
     apply wN;apply u
     refine O.zG y fun K u=>?_
     iterate 3 (refine wC rfl fun K z=>?_;simp [q];apply z)
     apply wN;apply u
     cases a6
     exact ⟨_,[],rfl,by simp [q]⟩
   ·refine O.cF' (by simp) j0 ?_
    refine O.exit ?_
    have l9:=congrArg some (i8 _ (Option.some.inj a6).symm)
    cases l9
    exact i7 _ () [] trivial (by simp [q])
  refine O.zR y fun K u=>?_
  iterate 2 (refine wC rfl fun K z=>?_;simp [q];apply z)
  apply wN;apply u
  cases h
  refine O.ret ?_
  simp [aC,iB,res60]
theorem res61:Tryz.f61.results.toList=[.tmp 2]:=rfl
theorem ent61:aE E.P 61:=eO Tryz.func61 (by simp [Tryz.f61]) rfl
theorem yU (a1:Int) {r0:Bool} (h:jA a1=some r0):Ok E 61 [.val (vi a1)] [vb r0] []:=by
 refine oB Tryz.func61 rfl (by simp [Tryz.f61]) fun C (q:C.N=12) hP=>?_
 have y:=aK hP
 unfold jA at h
 refine O.zR y fun K u=>?_
 refine wC rfl fun K v=>?_;simp [q];apply v
 apply wN;apply u
 refine O.seq ?_
 refine O.zR y fun K u=>?_
 refine wC rfl fun K v=>?_;simp [q];apply v
 apply wN;apply u
 refine O.block ?_
 obtain ⟨b2,a0,h⟩:=bS h
 refine O.seqC [4] [] (fun _:Unit=>⟨[(4,.t (vb b2))],[]⟩) (fun _=>True) (fun _ _=>?_) fun K3 a2=>?_
 rotate_left
 ·refine O.zR y fun K u=>?_
  iterate 2 (refine wC rfl fun K v=>?_;simp [q];apply v)
  apply wN;apply u
  rcases aA a0 with ⟨b3,a0⟩ | ⟨b4,a0⟩
  ·refine O.cT' (by simp) b3 ?_
   refine O.skip ?_
   cases a0
   exact a2 _ () [] trivial (by simp [q])
  ·refine O.cF' (by simp) b4 ?_
   refine O.zR y fun K u=>?_
   iterate 2 (refine wC rfl fun K v=>?_;simp [q];apply v)
   apply wN;apply u
   rcases aA a0 with ⟨b5,a0⟩ | ⟨b6,a0⟩
   ·refine O.cT' (by simp) b5 ?_
    refine O.skip ?_
    cases a0
    exact a2 _ () [] trivial (by simp [q])
   ·refine O.cF' (by simp) b6 ?_
    refine O.zR y fun K u=>?_
    iterate 2 (refine wC rfl fun K v=>?_;simp [q];apply v)
    apply wN;apply u
    rcases aA a0 with ⟨b7,a0⟩ | ⟨a3,a0⟩
    ·refine O.cT' (by simp) b7 ?_
     refine O.skip ?_
     cases a0
     exact a2 _ () [] trivial (by simp [q])
    ·refine O.cF' (by simp) a3 ?_
     refine O.zR y fun K u=>?_
     iterate 2 (refine wC rfl fun K v=>?_;simp [q];apply v)
     apply wN;apply u
     rcases aA a0 with ⟨a4,a0⟩ | ⟨a5,a0⟩
     ·refine O.cT' (by simp) a4 ?_
      refine O.skip ?_
      cases a0
      exact a2 _ () [] trivial (by simp [q])
     ·refine O.cF' (by simp) a5 ?_
      refine O.zR y fun K u=>?_
      iterate 2 (refine wC rfl fun K v=>?_;simp [q];apply v)
      apply wN;apply u
      rcases aA a0 with ⟨a6,a0⟩ | ⟨a7,a0⟩
      ·refine O.cT' (by simp) a6 ?_
       refine O.skip ?_
       cases a0
       exact a2 _ () [] trivial (by simp [q])
      ·refine O.cF' (by simp) a7 ?_
       refine O.zR y fun K u=>?_
       iterate 2 (refine wC rfl fun K v=>?_;simp [q];apply v)
       apply wN;apply u
       rcases aA a0 with ⟨a8,a0⟩ | ⟨a9,a0⟩
       ·refine O.cT' (by simp) a8 ?_
        refine O.skip ?_
        cases a0
        exact a2 _ () [] trivial (by simp [q])
       ·refine O.cF' (by simp) a9 ?_
        refine O.zG y fun K u=>?_
        iterate 2 (refine wC rfl fun K v=>?_;simp [q];apply v)
        apply wN;apply u
        cases a0
        exact a2 _ () [] trivial (by simp [q])
 rcases aA h with ⟨b0,h⟩ | ⟨b1,h⟩
 ·refine O.cT' (by simp) b0 ?_
  refine O.zR y fun K u=>?_
  refine wC rfl fun K v=>?_;simp [q];apply v
  apply wN;apply u
  cases h
  refine O.ret ?_
  simp [aC,iB,res61]
 ·refine O.cF' (by simp) b1 ?_
  refine O.skip ?_
  refine O.zR y fun K u=>?_
  refine wC rfl fun K v=>?_;simp [q];apply v
  apply wN;apply u
  cases h
  refine O.ret ?_
  simp [aC,iB,res61]
theorem res29:Tryz.f29.results.toList=[]:=rfl
theorem ent29:aE E.P 29:=eO Tryz.func29 (by simp [Tryz.f29]) rfl
theorem yT (p1:GProgram) (c8:Int) {q0:GProgram} (h:iZ p1 c8=some q0):Ok E 29 [.ptr [.sl true 4 (List.map (GNode.enc true) p1.Nodes),.sl true 5 (List.map (GFn.enc true) p1.Fns)],.val (vi c8)] [] [[.sl true 4 (List.map (GNode.enc true) q0.Nodes),.sl true 5 (List.map (GFn.enc true) q0.Fns)]]:=by
 refine oB Tryz.func29 rfl (by simp [Tryz.f29]) fun C (q:C.N=105) hP=>?_
 have y:=aK hP
 unfold iZ at h
 refine O.zR y fun K u=>?_
 iterate 4 (refine wC rfl fun K z=>?_;simp [q];apply z)
 obtain ⟨r3,l7,h⟩:=bS h
 refine wL [(.bor,.tmp 13),(.take,.tmp 14)] rfl rfl ent46 (sO _ _ l7) fun K z=>?_;simp [q];apply z
 refine wC rfl fun K z=>?_;simp [q];apply z
 apply wN;apply u
 refine O.zR y fun K u=>?_
 iterate 4 (refine wC rfl fun K z=>?_;simp [q];apply z)
 obtain ⟨r5,l8,h⟩:=bS h
 refine wL [(.bor,.tmp 18),(.take,.tmp 19)] rfl rfl ent60 (aB1 _ _ l8) fun K z=>?_;simp [q];apply z
 refine wC rfl fun K z=>?_;simp [q];apply z
 apply wN;apply u
 obtain ⟨e4,l9,h⟩:=bS h
 refine O.seqC [0,1] [105] (fun _:Unit=>⟨[(0,.ref (.box 105) 0 []),(1,.t (vi c8))],[(105,[.sl true 4 (List.map (GNode.enc true) e4.Nodes),.sl true 5 (List.map (GFn.enc true) e4.Fns)])]⟩) (fun _=>True) (fun _ _=>?_) fun K8 m0=>?_
 rotate_left
 ·refine O.zR y fun K u=>?_
  refine wC rfl fun K z=>?_;simp [q];apply z
  apply wN;apply u
  refine O.block ?_
  refine O.loopO [] [0,1,4,5,6] [105] (fun v:Int × GProgram=>⟨[(0,.ref (.box 105) 0 []),(1,.t (vi c8)),(4,.t (.sl true 3 (List.map GVar.enc r3))),(5,.t (.sl true 1 (List.map vi r5))),(6,.t (vi v.1))],[(105,[.sl true 4 (List.map (GNode.enc true) v.2.Nodes),.sl true 5 (List.map (GFn.enc true) v.2.Fns)])]⟩) (cL r3 r5) _ (0,p1) l9 (by simp [q]) ?_
  intro g n0 a9 i3
  obtain ⟨h2,i4⟩:=g
  simp only [cL] at a9
  try dsimp only
  refine O.seq ?_
  refine O.zR y fun K u=>?_
  iterate 4 (refine wC rfl fun K z=>?_;simp [q];apply z)
  apply wN;apply u
  rcases aA a9 with ⟨i5,a9⟩ | ⟨i6,a9⟩
  ·refine O.cT' (by simp) i5 ?_
   refine O.skip ?_
   refine O.seq ?_
   refine O.block ?_
   refine O.seq ?_
   obtain ⟨l4,i7,a9⟩:=bS a9
   obtain ⟨a0,a1,a2,a3⟩:=gS i7
   obtain ⟨h1,i8,a9⟩:=bS a9
   obtain ⟨a4,a5,a6,a7⟩:=gS i8
   refine O.drawY rfl (y _ rfl) [(27,.ref (.box 105) 0 []),(28,.ref (.box 105) 0 []),(29,.ref (.box 105) 0 []),(30,.al (.box 105) 0 [] none),(31,.al (.slot 5) 0 [] none),(32,.t (vi h2)),(33,.ref (.slot 5) 0 [(h2.toNat,0)]),(34,.t (vi l4)),(35,.ref (.box 105) 0 [(l4.toNat,0)]),(36,.t (.agg [vi h1.Kind,vi h1.Num,vs h1.Name,.dead])),(7,.ref (.box 7) 0 [])] [[],[],[],[],[],[],[],[],[],[],[(7,[vi 0,vi 0,vs ByteArray.empty,.sl true 1 []])]] [[],[0],[0,1],[0,1,2],[],[],[4,5],[4,5,6],[0,1,2,3,4,5,6,7],[0,1,2,3,4,5,6,7,8],[],[0,1,2,3,4,5,6,7,8,9,10]] rfl (by simp) (by simp) (by simp [look]) rfl rfl rfl ?_ fun K u=>?_
   ·refine ⟨?_,?_,?_,?_,?_,?_,?_,?_,?_,?_,?_,trivial⟩
    ·intro τ D hbx hb hd hf d0 g1 g2 hT
     cases a8:D 10<;>(intro K u;try simp [aH] at hd;simp [aH] at hf;simp [eN,hE,d0,a8] at hbx;refine wC rfl fun K' w=>?_;simp [q,hbx,hb,hd,hf,a0,a1,a2,a3,a4,a5,a6,a7];exact w _ (wN (u _ (by simp [aH,eN,hE,fR,hbx,d0,a8,a0,a1,a2,a3,a4,a5,a6,a7]))))
    ·intro τ D hbx hb hd hf d1 g1 g2 hT
     cases a8:D 10<;>(intro K u;try simp [aH] at hd;simp [aH] at hf;simp [eN,hE,d1,a8] at hbx;refine wC rfl fun K' w=>?_;simp [q,hbx,hb,hd,hf,a0,a1,a2,a3,a4,a5,a6,a7];exact w _ (wN (u _ (by simp [aH,eN,hE,fR,hbx,d1,a8,a0,a1,a2,a3,a4,a5,a6,a7]))))
    ·intro τ D hbx hb hd hf d2 g1 g2 hT
     cases a8:D 10<;>(intro K u;try simp [aH] at hd;simp [aH] at hf;simp [eN,hE,d2,a8] at hbx;refine wC rfl fun K' w=>?_;simp [q,hbx,hb,hd,hf,a0,a1,a2,a3,a4,a5,a6,a7];exact w _ (wN (u _ (by simp [aH,eN,hE,fR,hbx,d2,a8,a0,a1,a2,a3,a4,a5,a6,a7]))))
    ·intro τ D hbx hb hd hf d3 g1 g2 hT
     cases a8:D 10<;>(intro K u;try simp [aH] at hd;simp [aH] at hf;simp [eN,hE,d3,a8] at hbx;refine wC rfl fun K' w=>?_;simp [q,hbx,hb,hd,hf,a0,a1,a2,a3,a4,a5,a6,a7];exact w _ (wN (u _ (by simp [aH,eN,hE,fR,hbx,d3,a8,a0,a1,a2,a3,a4,a5,a6,a7]))))
    ·intro τ D hbx hb hd hf d4 g1 g2 hT
     cases a8:D 10<;>(intro K u;try simp [aH] at hd;simp [aH] at hf;simp [eN,hE,d4,a8] at hbx;refine wC rfl fun K' w=>?_;simp [q,hbx,hb,hd,hf,a0,a1,a2,a3,a4,a5,a6,a7];exact w _ (wN (u _ (by simp [aH,eN,hE,fR,hbx,d4,a8,a0,a1,a2,a3,a4,a5,a6,a7]))))
    ·intro τ D hbx hb hd hf d5 g1 g2 hT
     cases a8:D 10<;>(intro K u;try simp [aH] at hd;simp [aH] at hf;simp [eN,hE,d5,a8] at hbx;refine wC rfl fun K' w=>?_;simp [q,hbx,hb,hd,hf,a0,a1,a2,a3,a4,a5,a6,a7];exact w _ (wN (u _ (by simp [aH,eN,hE,fR,hbx,d5,a8,a0,a1,a2,a3,a4,a5,a6,a7]))))
    ·intro τ D hbx hb hd hf d6 g1 g2 hT
     cases a8:D 10<;>(intro K u;try simp [aH] at hd;simp [aH] at hf;simp [eN,hE,d6,a8] at hbx;refine wC rfl fun K' w=>?_;simp [q,hbx,hb,hd,hf,a0,a1,a2,a3,a4,a5,a6,a7];exact w _ (wN (u _ (by simp [aH,eN,hE,fR,hbx,d6,a8,a0,a1,a2,a3,a4,a5,a6,a7]))))
    ·intro τ D hbx hb hd hf d7 g1 g2 hT
     cases a8:D 10<;>(intro K u;try simp [aH] at hd;simp [aH] at hf;simp [eN,hE,d7,a8] at hbx;refine wC rfl fun K' w=>?_;simp [q,hbx,hb,hd,hf,a0,a1,a2,a3,a4,a5,a6,a7];exact w _ (wN (u _ (by simp [aH,eN,hE,fR,hbx,d7,a8,a0,a1,a2,a3,a4,a5,a6,a7]))))
    ·intro τ D hbx hb hd hf d8 g1 g2 hT
     cases a8:D 10<;>(intro K u;try simp [aH] at hd;simp [aH] at hf;simp [eN,hE,d8,a8] at hbx;refine wC rfl fun K' w=>?_;simp [q,hbx,hb,hd,hf,a0,a1,a2,a3,a4,a5,a6,a7];exact w _ (wN (u _ (by simp [aH,eN,hE,fR,hbx,d8,a8,a0,a1,a2,a3,a4,a5,a6,a7]))))
    ·intro τ D hbx hb hd hf d9 g1 g2 hT
     cases a8:D 10<;>(intro K u;try simp [aH] at hd;simp [aH] at hf;simp [eN,hE,d9,a8] at hbx;refine aKa rfl fun K' w=>?_;simp [q,hbx,hb,hd,hf,a0,a1,a2,a3,a4,a5,a6,a7];exact w _ (wN (u _ (by simp [aH,eN,hE,fR,hbx,d9,a8,a0,a1,a2,a3,a4,a5,a6,a7]))))
    ·intro τ D hbx hb hd hf a8 g1 g2 hT
     have hkl:=aJr (.box 7) [10] hT rfl rfl (by simp [a8])
     simp only [AV.killAll,List.any_eq_true] at hkl
     (intro K u;try simp [aH] at hd;simp [aH] at hf;simp [eN,hE,a8] at hbx;refine wC rfl fun K' w=>?_;simp [q,hbx,hb,hd,hf,a0,a1,a2,a3,a4,a5,a6,a7,hkl];exact w _ (wN (u _ (by simp [aH,eN,hE,fR,hbx,a8,a0,a1,a2,a3,a4,a5,a6,a7,hkl]))))
   simp [iI,lD,eN,hE]
   refine wC rfl fun K z=>?_;simp [q,a0,a1,a2,a3,a4,a5,a6,a7];apply z
   apply wN;apply u
   obtain ⟨m1,c9,a9⟩:=bS a9
   refine O.seqRC rfl (y _ rfl) [0,1,4,5,6,7,44] [7,105] (fun _:Unit=>⟨[(0,.ref (.box 105) 0 []),(1,.t (vi c8)),(4,.t (.sl true 3 (List.map GVar.enc r3))),(5,.t (.sl true 1 (List.map vi r5))),(6,.t (vi h2)),(7,.ref (.box 7) 0 []),(44,.t (vb m1))],[(7,[vi h1.Kind,vi h1.Num,vs h1.Name,.dead]),(105,[.sl true 4 (List.map (GNode.enc true) i4.Nodes),.sl true 5 (List.map (GFn.enc true) i4.Fns)])]⟩) (fun _=>True) (fun _ _=>?_) fun n1 h3=>?_
   rotate_left
   ·refine wC rfl fun K z=>?_;simp [q];apply z
    refine wC rfl fun K z=>?_;simp [q];apply z
    obtain ⟨n2,i9,c9⟩:=bS c9
    refine wL [(.take,.tmp 38)] rfl rfl ent61 (yU _ i9) fun K z=>?_;simp [q];apply z
    refine wC rfl fun K z=>?_;simp [q];apply z
    rcases aA c9 with ⟨e3,c9⟩ | ⟨h0,c9⟩
    ·have e0:=e3
     try simp at e0
     iterate 3 (refine wO fun K z=>?_;simp [q,e3,e0];apply z)
     refine wC rfl fun K z=>?_;simp [q,e3,e0];apply z
     refine wN ?_
     cases c9
     exact h3 _ () [] trivial (by simp [q,e3,e0])
    ·have e1:=h0
     try simp at e1
     iterate 4 (refine wC rfl fun K z=>?_;simp [q,h0,e1];apply z)
     refine wN ?_
     cases c9
     exact h3 _ () [] trivial (by simp [q,h0,e1])
   rcases aA a9 with ⟨j0,a9⟩ | ⟨j1,a9⟩
   ·refine O.cT' (by simp) j0 ?_
    refine O.zR y fun K u=>?_
    iterate 3 (refine wC rfl fun K z=>?_;simp [q];apply z)
    obtain ⟨m2,j2,a9⟩:=bS a9
    refine wL [(.bor,.tmp 45),(.take,.tmp 47)] rfl rfl ent47 (tW _ _ j2) fun K z=>?_;simp [q];apply z
    refine wC rfl fun K z=>?_;simp [q];apply z
    apply wN;apply u
    refine O.zR y fun K u=>?_
    iterate 2 (refine wC rfl fun K z=>?_;simp [q];apply z)
    apply wN;apply u
    rcases aA a9 with ⟨j3,a9⟩ | ⟨j4,a9⟩
    ·refine O.cT' (by simp) j3 ?_
     obtain ⟨l5,j5,a9⟩:=bS a9
     obtain ⟨b0,b1,b2,b3⟩:=gS j5
     obtain ⟨m3,j6,a9⟩:=bS a9
     obtain ⟨l6,j7,a9⟩:=bS a9
     obtain ⟨b4,b5⟩:=kY j7
     refine O.dT rfl (y _ rfl) [(51,.ref (.box 105) 0 []),(52,.ref (.box 105) 0 []),(53,.ref (.box 105) 0 []),(54,.al (.box 105) 0 [] none),(55,.al (.slot 5) 0 [] none),(56,.t (vi h2)),(57,.ref (.slot 5) 0 [(h2.toNat,0)]),(58,.t (vi l5)),(59,.t (vi m2)),(60,.t (vs m3)),(61,.t (vs l6))] [[],[0],[0,1],[0,1,2],[],[],[4,5],[4,5,6],[],[8],[8,9],[0,1,2,3,4,5,6,7,8,9,10],[0,1,2,3,4,5,6,7,8,9,10,11],[0,1,2,3,4,5,6,7,8,9,10,11,12]] (by simp) (by simp) (by simp [look]) rfl rfl rfl ?_ fun K u=>?_
     ·refine ⟨?_,?_,?_,?_,?_,?_,?_,?_,?_,?_,?_,trivial⟩
      all_goals (intro τ hbx hb hd hf K u;try simp [aH] at hd;simp [aH] at hf;first | (refine wC rfl fun K' w=>?_;simp [q,hbx,hb,hd,hf,b0,b1,b2,b3,b4,b5];exact w _ (wN (u _ (by simp [aH,hbx,b0,b1,b2,b3,b4,b5])))) | (refine wL [(.take,.tmp 59)] rfl rfl aNv (jN _ j6) fun K' w=>?_;simp [q,hbx,hb,hd,hf,b0,b1,b2,b3,b4,b5];exact w _ (wN (u _ (by simp [aH,hbx,b0,b1,b2,b3,b4,b5])))))
     obtain ⟨j8,j9,a9⟩:=bS a9
     obtain ⟨e5,e6,e7,e8⟩:=gS j9
     iterate 2 (refine wC rfl fun K z=>?_;simp [q,b0,b1,b2,b3,b4,b5,e5,e6,e7,e8];apply z)
     obtain ⟨m4,k0,a9⟩:=bZ a9
     have e9:(List.map (GNode.enc true) i4.Nodes).set l5.toNat (.agg [vi j8.Kind,vi j8.Num,vs l6,.sl true 1 (List.map vi j8.Kids)])=List.map (GNode.enc true) m4:=fH (f:=(GNode.enc true)) k0
     try simp only [Int.toNat_natCast] at e9
     refine wC rfl fun K z=>?_;simp [q,b0,b1,b2,b3,b4,b5,e5,e6,e7,e8,e9];apply z
     apply wN;apply u
     refine O.zG y fun K u=>?_
     iterate 3 (refine wC rfl fun K z=>?_;simp [q];apply z)
     apply wN;apply u
     cases a9
     exact ⟨_,[],rfl,by simp [q]⟩
    ·refine O.cF' (by simp) j4 ?_
     refine O.skip ?_
     refine O.zG y fun K u=>?_
     iterate 3 (refine wC rfl fun K z=>?_;simp [q];apply z)
     apply wN;apply u
     cases a9
     exact ⟨_,[],rfl,by simp [q]⟩
   ·refine O.cF' (by simp) j1 ?_
    refine O.skip ?_
    refine O.zG y fun K u=>?_
    iterate 3 (refine wC rfl fun K z=>?_;simp [q];apply z)
    apply wN;apply u
    cases a9
    exact ⟨_,[],rfl,by simp [q]⟩
  ·refine O.cF' (by simp) i6 ?_
   refine O.exit ?_
   have m5:=congrArg some (i3 _ (Option.some.inj a9).symm)
   cases m5
   exact m0 _ () [] trivial (by simp [q])
 refine O.zR y fun K u=>?_
 iterate 2 (refine wC rfl fun K z=>?_;simp [q];apply z)
 apply wN;apply u
 obtain ⟨b7,k1,h⟩:=bS h
 refine O.seqC [0,1,9] [105] (fun _:Unit=>⟨[(0,.ref (.box 105) 0 []),(1,.t (vi c8)),(9,.t (.sl true 2 (List.map GParam.enc b7)))],[(105,[.sl true 4 (List.map (GNode.enc true) e4.Nodes),.sl true 5 (List.map (GFn.enc true) e4.Fns)])]⟩) (fun _=>True) (fun _ _=>?_) fun n3 k2=>?_
 rotate_left
 ·refine O.zR y fun K u=>?_
  refine wC rfl fun K z=>?_;simp [q];apply z
  apply wN;apply u
  refine O.block ?_
  refine O.loopO [] [0,1,9,10] [105] (fun v:(List GParam) × Int=>⟨[(0,.ref (.box 105) 0 []),(1,.t (vi c8)),(9,.t (.sl true 2 (List.map GParam.enc v.1))),(10,.t (vi v.2))],[(105,[.sl true 4 (List.map (GNode.enc true) e4.Nodes),.sl true 5 (List.map (GFn.enc true) e4.Fns)])]⟩) (dN c8 e4) _ ([],0) k1 (by simp [q]) ?_
  intro g n4 b6 k3
  obtain ⟨e2,h9⟩:=g
  simp only [dN] at b6
  try dsimp only
  refine O.seq ?_
  refine O.zR y fun K u=>?_
  iterate 6 (refine wC rfl fun K z=>?_;simp [q];apply z)
  obtain ⟨n5,k4,b6⟩:=bS b6
  obtain ⟨h4,h5,h6,h7⟩:=gS k4
  iterate 5 (refine wC rfl fun K z=>?_;simp [q,h4,h5,h6,h7];apply z)
  apply wN;apply u
  rcases aA b6 with ⟨k5,b6⟩ | ⟨k6,b6⟩
  ·refine O.cT' (by simp) k5 ?_
   refine O.skip ?_
   refine O.seq ?_
   refine O.block ?_
   obtain ⟨m6,k7,b6⟩:=bS b6
   obtain ⟨i0,k8,b6⟩:=bS b6
   obtain ⟨b8,b9⟩:=kY k8
   obtain ⟨n6,k9,b6⟩:=bS b6
   obtain ⟨c0,c1,c2,c3⟩:=gS k9
   obtain ⟨i1,l0,b6⟩:=bS b6
   obtain ⟨c4,c5,c6,c7⟩:=gS l0
   refine O.dT rfl (y _ rfl) [(78,.al (.slot 9) 0 [] none),(79,.t (vi h9)),(80,.t (vs m6)),(81,.t (vs i0)),(82,.ref (.box 105) 0 []),(83,.ref (.box 105) 0 []),(84,.ref (.box 105) 1 []),(85,.al (.box 105) 1 [] none),(86,.t (vi c8)),(87,.ref (.box 105) 1 [(c8.toNat,0)]),(88,.ref (.box 105) 1 [(c8.toNat,1)]),(89,.al (.box 105) 1 [(c8.toNat,1)] none),(90,.t (vi h9)),(91,.ref (.box 105) 1 [(c8.toNat,1),(h9.toNat,0)]),(92,.ref (.box 105) 1 [(c8.toNat,1),(h9.toNat,1)]),(93,.t (vi i1.Typ)),(94,.t (.agg [vs i0,vi i1.Typ])),(95,.t (.sl true 2 (List.map GParam.enc [(⟨i0,i1.Typ⟩:GParam)])))] [[],[],[1],[1,2],[],[4],[4,5],[4,5,6],[],[4,5,6,7,8],[4,5,6,7,8,9],[4,5,6,7,8,9,10],[],[4,5,6,7,8,9,10,11,12],[4,5,6,7,8,9,10,11,12,13],[4,5,6,7,8,9,10,11,12,13,14],[1,2,3,4,5,6,7,8,9,10,11,12,13,14,15],[1,2,3,4,5,6,7,8,9,10,11,12,13,14,15,16],[0,1,2,3,4,5,6,7,8,9,10,11,12,13,14,15,16,17],[0,1,2,3,4,5,6,7,8,9,10,11,12,13,14,15,16,17,18]] (by simp) (by simp) (by simp [look]) rfl rfl rfl ?_ fun K u=>?_
   ·refine ⟨?_,?_,?_,?_,?_,?_,?_,?_,?_,?_,?_,?_,?_,?_,?_,?_,?_,?_,trivial⟩
    all_goals (intro τ hbx hb hd hf K u;try simp [aH] at hd;simp [aH] at hf;first | (refine wC rfl fun K' w=>?_;simp [q,hbx,hb,hd,hf,b8,b9,c0,c1,c2,c3,c4,c5,c6,c7];exact w _ (wN (u _ (by simp [aH,hbx,b8,b9,c0,c1,c2,c3,c4,c5,c6,c7])))) | (refine wL [(.take,.tmp 79)] rfl rfl aNv (jN _ k7) fun K' w=>?_;simp [q,hbx,hb,hd,hf,b8,b9,c0,c1,c2,c3,c4,c5,c6,c7];exact w _ (wN (u _ (by simp [aH,hbx,b8,b9,c0,c1,c2,c3,c4,c5,c6,c7])))))
   obtain ⟨m7,l1,b6⟩:=bS b6
   obtain ⟨g0,g3,h8⟩:=aS l1
   have g4:List.map GParam.enc e2 ++ List.map GParam.enc [(⟨i0,i1.Typ⟩:GParam)]=List.map GParam.enc m7:=dW (f:=GParam.enc) h8
   simp [eSl,GParam.enc] at g0 g3 g4
   iterate 2 (refine wC rfl fun K z=>?_;simp [q,b8,b9,c0,c1,c2,c3,c4,c5,c6,c7,g0,g3,g4];apply z)
   apply wN;apply u
   refine O.zG y fun K u=>?_
   iterate 3 (refine wC rfl fun K z=>?_;simp [q];apply z)
   apply wN;apply u
   cases b6
   exact ⟨_,[],rfl,by simp [q]⟩
  ·refine O.cF' (by simp) k6 ?_
   refine O.exit ?_
   have m8:=congrArg some (k3 _ (Option.some.inj b6).symm)
   cases m8
   exact k2 _ () [] trivial (by simp [q])
 refine O.zG y fun K u=>?_
 iterate 6 (refine wC rfl fun K z=>?_;simp [q];apply z)
 obtain ⟨i2,l2,h⟩:=bS h
 obtain ⟨g5,g6,g7,g8⟩:=gS l2
 iterate 2 (refine wC rfl fun K z=>?_;simp [q,g5,g6,g7,g8];apply z)
 obtain ⟨m9,l3,h⟩:=bZ h
 have g9:(List.map (GFn.enc true) e4.Fns).set c8.toNat (.agg [vs i2.Name,.sl true 2 (List.map GParam.enc b7),vi i2.Res,vi i2.Body,vi i2.Ret])=List.map (GFn.enc true) m9:=fH (f:=(GFn.enc true)) l3
 try simp only [Int.toNat_natCast] at g9
 refine wC rfl fun K z=>?_;simp [q,g5,g6,g7,g8,g9];apply z
 apply wN;apply u
 cases h
 simp [aC,iB,res29]
theorem res15:Tryz.f15.results.toList=[.cell 2 31]:=rfl
theorem ent15:aE E.P 15:=eO Tryz.func15 (by simp [Tryz.f15]) rfl
theorem oL (p1:GProgram) {r0:GProgram} (h:dB p1=some r0):Ok E 15 [.val (GProgram.enc false p1)] [GProgram.enc true r0] []:=by
 refine oB Tryz.func15 rfl (by simp [Tryz.f15]) fun C (q:C.N=67) hP=>?_
 have y:=aK hP
 unfold dB at h
 refine O.zR y fun K u=>?_
 iterate 2 (refine wC rfl fun K z=>?_;simp [q];apply z)
 apply wN;apply u
 refine O.zR y fun K u=>?_
 refine wC rfl fun K z=>?_;simp [q];apply z
 obtain ⟨r2,h2,h⟩:=bS h
 refine wL [(.take,.tmp 7)] rfl rfl ent27 (zD _ h2) fun K z=>?_;simp [q];apply z
 iterate 2 (refine wC rfl fun K z=>?_;simp [q];apply z)
 apply wN;apply u
 refine O.seq ?_
 refine O.zR y fun K u=>?_
 refine wC rfl fun K z=>?_;simp [q];apply z
 obtain ⟨r4,h3,h⟩:=bS h
 refine wL [(.take,.tmp 9)] rfl rfl aK5 (cO _ h3) fun K z=>?_;simp [q];apply z
 refine wC rfl fun K z=>?_;simp [q];apply z
 apply wN;apply u
 rcases aA h with ⟨h4,h⟩ | ⟨h5,h⟩
 ·refine O.cT' (by simp) h4 ?_
  refine O.zR y fun K u=>?_
  iterate 2 (refine wC rfl fun K z=>?_;simp [q];apply z)
  apply wN;apply u
  cases h
  refine O.ret ?_
  simp [aC,iB,res15]
 ·refine O.cF' (by simp) h5 ?_
  refine O.skip ?_
  obtain ⟨c7,h6,h⟩:=bS h
  refine O.seqC [1,2,3] [1,2,3] (fun _:Unit=>⟨[(1,.ref (.box 1) 0 []),(2,.ref (.box 2) 0 []),(3,.ref (.box 3) 0 [])],[(1,[.sl false 4 (List.map (GNode.enc false) p1.Nodes),.sl false 5 (List.map (GFn.enc false) p1.Fns)]),(2,[.sl true 4 [],.sl true 5 []]),(3,[.sl true 4 (List.map (GNode.enc true) c7.Nodes),.sl true 5 (List.map (GFn.enc true) c7.Fns)])]⟩) (fun _=>True) (fun _ _=>?_) fun K9 h7=>?_
  rotate_left
  ·refine O.zR y fun K u=>?_
   refine wC rfl fun K z=>?_;simp [q];apply z
   apply wN;apply u
   refine O.block ?_
   refine O.loopO [] [1,2,3,4] [1,2,3] (fun v:Int × GProgram=>⟨[(1,.ref (.box 1) 0 []),(2,.ref (.box 2) 0 []),(3,.ref (.box 3) 0 []),(4,.t (vi v.1))],[(1,[.sl false 4 (List.map (GNode.enc false) p1.Nodes),.sl false 5 (List.map (GFn.enc false) p1.Fns)]),(2,[.sl true 4 [],.sl true 5 []]),(3,[.sl true 4 (List.map (GNode.enc true) v.2.Nodes),.sl true 5 (List.map (GFn.enc true) v.2.Fns)])]⟩) (cE p1) _ (0,r2) h6 (by simp [q]) ?_
   intro g i8 b1 c8
   obtain ⟨i9,j0⟩:=g
   simp only [cE] at b1
   try dsimp only
   refine O.seq ?_
   refine O.zR y fun K u=>?_
   iterate 5 (refine wC rfl fun K z=>?_;simp [q];apply z)
   apply wN;apply u
   rcases aA b1 with ⟨c9,b1⟩ | ⟨d0,b1⟩
   ·refine O.cT' (by simp) c9 ?_
    refine O.skip ?_
    refine O.seq ?_
    refine O.block ?_
    refine O.zG y fun K u=>?_
    refine wC rfl fun K z=>?_;simp [q];apply z
    obtain ⟨j1,d1,b1⟩:=bS b1
    refine wL [((.ptr 2),.tmp 3),(.take,.tmp 20)] rfl rfl ent29 (yT _ _ d1) fun K z=>?_;simp [q];apply z
    apply wN;apply u
    refine O.zG y fun K u=>?_
    iterate 3 (refine wC rfl fun K z=>?_;simp [q];apply z)
    apply wN;apply u
    cases b1
    exact ⟨_,[],rfl,by simp [q]⟩
   ·refine O.cF' (by simp) d0 ?_
    refine O.exit ?_
    have h8:=congrArg some (c8 _ (Option.some.inj b1).symm)
    cases h8
    exact h7 _ () [] trivial (by simp [q])
  obtain ⟨d2,d3,h⟩:=bS h
  refine O.seqC [1,2,3] [1,2,3] (fun _:Unit=>⟨[(1,.ref (.box 1) 0 []),(2,.ref (.box 2) 0 []),(3,.ref (.box 3) 0 [])],[(1,[.sl false 4 (List.map (GNode.enc false) p1.Nodes),.sl false 5 (List.map (GFn.enc false) p1.Fns)]),(2,[.sl true 4 [],.sl true 5 []]),(3,[.sl true 4 (List.map (GNode.enc true) d2.Nodes),.sl true 5 (List.map (GFn.enc true) d2.Fns)])]⟩) (fun _=>True) (fun _ _=>?_) fun j2 d4=>?_
  rotate_left
  ·refine O.zR y fun K u=>?_
   refine wC rfl fun K z=>?_;simp [q];apply z
   apply wN;apply u
   refine O.block ?_
   refine O.loopO [] [1,2,3,5] [1,2,3] (fun v:Int × GProgram=>⟨[(1,.ref (.box 1) 0 []),(2,.ref (.box 2) 0 []),(3,.ref (.box 3) 0 []),(5,.t (vi v.1))],[(1,[.sl false 4 (List.map (GNode.enc false) p1.Nodes),.sl false 5 (List.map (GFn.enc false) p1.Fns)]),(2,[.sl true 4 [],.sl true 5 []]),(3,[.sl true 4 (List.map (GNode.enc true) v.2.Nodes),.sl true 5 (List.map (GFn.enc true) v.2.Fns)])]⟩) (cD p1) _ (0,c7) d3 (by simp [q]) ?_
   intro g j3 a6 d5
   obtain ⟨d6,h9⟩:=g
   simp only [cD] at a6
   try dsimp only
   refine O.seq ?_
   refine O.zR y fun K u=>?_
   iterate 5 (refine wC rfl fun K z=>?_;simp [q];apply z)
   apply wN;apply u
   rcases aA a6 with ⟨d7,a6⟩ | ⟨d8,a6⟩
   ·refine O.cT' (by simp) d7 ?_
    refine O.skip ?_
    refine O.seq ?_
    refine O.block ?_
    refine O.zR y fun K u=>?_
    iterate 3 (refine wC rfl fun K z=>?_;simp [q];apply z)
    obtain ⟨j4,d9,a6⟩:=bS a6
    obtain ⟨c2,c3,c4,c5⟩:=gS d9
    iterate 4 (refine wC rfl fun K z=>?_;simp [q,c2,c3,c4,c5];apply z)
    apply wN;apply u
    rcases aA a6 with ⟨e0,a6⟩ | ⟨e1,a6⟩
    ·refine O.cT' (by simp) e0 ?_
     obtain ⟨b0,e2,a6⟩:=bS a6
     obtain ⟨a0,a1,a2,a3⟩:=gS e2
     obtain ⟨i0,e3,a6⟩:=bS a6
     obtain ⟨i1,e4,a6⟩:=bS a6
     obtain ⟨g9,e5,a6⟩:=bS a6
     obtain ⟨a4,a5⟩:=kY e5
     refine O.dT rfl (y _ rfl) [(36,.ref (.box 3) 0 []),(37,.al (.box 3) 0 [] none),(38,.t (vi d6)),(39,.t (GProgram.enc false p1)),(40,.ref (.box 1) 0 []),(41,.t (.sl false 4 (List.map (GNode.enc false) p1.Nodes))),(42,.t (vi d6)),(43,.rop [vi b0.Kind,vi b0.Num,vs b0.Name,.sl false 1 (List.map vi b0.Kids)] 0),(44,.rop [vi b0.Kind,vi b0.Num,vs b0.Name,.sl false 1 (List.map vi b0.Kids)] 2),(45,.t (vs b0.Name)),(46,.t (vi i0)),(47,.t (vs i1)),(48,.t (vs g9))] [[],[0],[],[],[],[4],[],[4,5,6],[4,5,6,7],[4,5,6,7,8],[3,4,5,6,7,8,9],[3,4,5,6,7,8,9,10],[3,4,5,6,7,8,9,10,11],[0,1,2,3,4,5,6,7,8,9,10,11,12],[0,1,2,3,4,5,6,7,8,9,10,11,12,13],[0,1,2,3,4,5,6,7,8,9,10,11,12,13,14]] (by simp) (by simp) (by simp [look]) rfl rfl rfl ?_ fun K u=>?_
     ·refine ⟨?_,?_,?_,?_,?_,?_,?_,?_,?_,?_,?_,?_,?_,trivial⟩
      all_goals (intro τ hbx hb hd hf K u;try simp [aH] at hd;simp [aH] at hf;first | (refine wC rfl fun K' w=>?_;simp [q,hbx,hb,hd,hf,a0,a1,a2,a3,a4,a5];exact w _ (wN (u _ (by simp [aH,hbx,a0,a1,a2,a3,a4,a5])))) | (refine wL [(.take,.tmp 39),(.take,.tmp 45)] rfl rfl aPp (qU _ _ e3) fun K' w=>?_;simp [q,hbx,hb,hd,hf,a0,a1,a2,a3,a4,a5];exact w _ (wN (u _ (by simp [aH,hbx,a0,a1,a2,a3,a4,a5])))) | (refine wL [(.take,.tmp 46)] rfl rfl aNv (jN _ e4) fun K' w=>?_;simp [q,hbx,hb,hd,hf,a0,a1,a2,a3,a4,a5];exact w _ (wN (u _ (by simp [aH,hbx,a0,a1,a2,a3,a4,a5])))))
     obtain ⟨e6,e7,a6⟩:=bS a6
     obtain ⟨b2,b3,b4,b5⟩:=gS e7
     iterate 2 (refine wC rfl fun K z=>?_;simp [q,a0,a1,a2,a3,a4,a5,b2,b3,b4,b5];apply z)
     obtain ⟨i2,e8,a6⟩:=bZ a6
     have b6:(List.map (GNode.enc true) h9.Nodes).set d6.toNat (.agg [vi e6.Kind,vi e6.Num,vs g9,.sl true 1 (List.map vi e6.Kids)])=List.map (GNode.enc true) i2:=fH (f:=(GNode.enc true)) e8
     try simp only [Int.toNat_natCast] at b6
     refine wC rfl fun K z=>?_;simp [q,a0,a1,a2,a3,a4,a5,b2,b3,b4,b5,b6];apply z
     apply wN;apply u
     refine O.zG y fun K u=>?_
     iterate 3 (refine wC rfl fun K z=>?_;simp [q];apply z)
     apply wN;apply u
     cases a6
     exact ⟨_,[],rfl,by simp [q]⟩
    ·refine O.cF' (by simp) e1 ?_
     refine O.skip ?_
     refine O.zG y fun K u=>?_
     iterate 3 (refine wC rfl fun K z=>?_;simp [q];apply z)
     apply wN;apply u
     cases a6
     exact ⟨_,[],rfl,by simp [q]⟩
   ·refine O.cF' (by simp) d8 ?_
    refine O.exit ?_
    have i3:=congrArg some (d5 _ (Option.some.inj a6).symm)
    cases i3
    exact d4 _ () [] trivial (by simp [q])
  obtain ⟨h0,e9,h⟩:=bS h
  refine O.seqC [2,3] [2,3] (fun _:Unit=>⟨[(2,.ref (.box 2) 0 []),(3,.ref (.box 3) 0 [])],[(2,[.sl true 4 [],.sl true 5 []]),(3,[.sl true 4 (List.map (GNode.enc true) h0.Nodes),.sl true 5 (List.map (GFn.enc true) h0.Fns)])]⟩) (fun _=>True) (fun _ _=>?_) fun j5 g0=>?_
  rotate_left
  ·refine O.zR y fun K u=>?_
   refine wC rfl fun K z=>?_;simp [q];apply z
   apply wN;apply u
   refine O.block ?_
   refine O.loopO [] [1,2,3,6] [1,2,3] (fun v:Int × GProgram=>⟨[(1,.ref (.box 1) 0 []),(2,.ref (.box 2) 0 []),(3,.ref (.box 3) 0 []),(6,.t (vi v.1))],[(1,[.sl false 4 (List.map (GNode.enc false) p1.Nodes),.sl false 5 (List.map (GFn.enc false) p1.Fns)]),(2,[.sl true 4 [],.sl true 5 []]),(3,[.sl true 4 (List.map (GNode.enc true) v.2.Nodes),.sl true 5 (List.map (GFn.enc true) v.2.Fns)])]⟩) (cC p1) _ (0,d2) e9 (by simp [q]) ?_
   intro g j6 a9 g1
   obtain ⟨g2,i4⟩:=g
   simp only [cC] at a9
   try dsimp only
   refine O.seq ?_
   refine O.zR y fun K u=>?_
   iterate 5 (refine wC rfl fun K z=>?_;simp [q];apply z)
   apply wN;apply u
   rcases aA a9 with ⟨g3,a9⟩ | ⟨g4,a9⟩
   ·refine O.cT' (by simp) g3 ?_
    refine O.skip ?_
    refine O.seq ?_
    refine O.block ?_
    obtain ⟨i5,g5,a9⟩:=bS a9
    obtain ⟨h1,g6,a9⟩:=bS a9
    obtain ⟨a7,a8⟩:=kY g6
    refine O.dT rfl (y _ rfl) [(58,.ref (.box 3) 1 []),(59,.al (.box 3) 1 [] none),(60,.t (vi g2)),(61,.t (vi g2)),(62,.t (vs i5)),(63,.t (vs h1))] [[],[0],[],[],[3],[3,4],[0,1,2,3,4,5],[0,1,2,3,4,5,6],[0,1,2,3,4,5,6,7]] (by simp) (by simp) (by simp [look]) rfl rfl rfl ?_ fun K u=>?_
    ·refine ⟨?_,?_,?_,?_,?_,?_,trivial⟩
     all_goals (intro τ hbx hb hd hf K u;try simp [aH] at hd;simp [aH] at hf;first | (refine wC rfl fun K' w=>?_;simp [q,hbx,hb,hd,hf,a7,a8];exact w _ (wN (u _ (by simp [aH,hbx,a7,a8])))) | (refine wL [(.take,.tmp 61)] rfl rfl aNv (jN _ g5) fun K' w=>?_;simp [q,hbx,hb,hd,hf,a7,a8];exact w _ (wN (u _ (by simp [aH,hbx,a7,a8])))))
    obtain ⟨c6,g7,a9⟩:=bS a9
    obtain ⟨b7,b8,b9,c0⟩:=gS g7
    iterate 2 (refine wC rfl fun K z=>?_;simp [q,a7,a8,b7,b8,b9,c0];apply z)
    obtain ⟨i6,g8,a9⟩:=bZ a9
    have c1:(List.map (GFn.enc true) i4.Fns).set g2.toNat (.agg [vs h1,.sl true 2 (List.map GParam.enc c6.Params),vi c6.Res,vi c6.Body,vi c6.Ret])=List.map (GFn.enc true) i6:=fH (f:=(GFn.enc true)) g8
    try simp only [Int.toNat_natCast] at c1
    refine wC rfl fun K z=>?_;simp [q,a7,a8,b7,b8,b9,c0,c1];apply z
    apply wN;apply u
    refine O.zG y fun K u=>?_
    iterate 3 (refine wC rfl fun K z=>?_;simp [q];apply z)
    apply wN;apply u
    cases a9
    exact ⟨_,[],rfl,by simp [q]⟩
   ·refine O.cF' (by simp) g4 ?_
    refine O.exit ?_
    have i7:=congrArg some (g1 _ (Option.some.inj a9).symm)
    cases i7
    exact g0 _ () [] trivial (by simp [q])
  refine O.zR y fun K u=>?_
  iterate 2 (refine wC rfl fun K z=>?_;simp [q];apply z)
  apply wN;apply u
  cases h
  refine O.ret ?_
  simp [aC,iB,res15]
theorem aOw:Tryz.f84.results.toList=[.tmp 8]:=rfl
theorem ent84:aE E.P 84:=eO Tryz.func84 (by simp [Tryz.f84]) rfl
theorem vI (a4:(List GNode)→Int→(List GNode)→Int→Option (Bool)) (a6:∀ (a0:List GNode) (a1:Int) (a2:List GNode) (a3:Int) {r0:Bool},a4 a0 a1 a2 a3=some r0→Ok E 84 [.val (.sl false 4 (List.map (GNode.enc false) a0)),.val (vi a1),.val (.sl false 4 (List.map (GNode.enc false) a2)),.val (vi a3)] [vb r0] []) (p1:List GNode) (a2:Int) (q3:List GNode) (b4:Int) {r0:Bool} (h:eJ a4 p1 a2 q3 b4=some r0):Ok E 84 [.val (.sl false 4 (List.map (GNode.enc false) p1)),.val (vi a2),.val (.sl false 4 (List.map (GNode.enc false) q3)),.val (vi b4)] [vb r0] []:=by
 refine oB Tryz.func84 rfl (by simp [Tryz.f84]) fun C (q:C.N=69) hP=>?_
 have u:=aK hP
 unfold eJ at h
 refine O.zR u fun K w=>?_
 refine wC rfl fun K r=>?_;simp [q];apply r
 apply wN;apply w
 refine O.zR u fun K w=>?_
 iterate 2 (refine wC rfl fun K r=>?_;simp [q];apply r)
 obtain ⟨e5,g5,h⟩:=bS h
 obtain ⟨d1,d2,d3,d4⟩:=gS g5
 iterate 4 (refine wC rfl fun K r=>?_;simp [q,d1,d2,d3,d4];apply r)
 apply wN;apply w
 refine O.zR u fun K w=>?_
 iterate 2 (refine wC rfl fun K r=>?_;simp [q];apply r)
 obtain ⟨e6,g6,h⟩:=bS h
 obtain ⟨d5,d6,d7,d8⟩:=gS g6
 iterate 4 (refine wC rfl fun K r=>?_;simp [q,d5,d6,d7,d8];apply r)
 apply wN;apply w
 refine O.seq ?_
 obtain ⟨g7,c3,h⟩:=bS h
 refine O.seqRC rfl (u _ rfl) [0,2,9,10,47] [9,10] (fun _:Unit=>⟨[(0,.t (.sl false 4 (List.map (GNode.enc false) p1))),(2,.t (.sl false 4 (List.map (GNode.enc false) q3))),(9,.ref (.box 9) 0 []),(10,.ref (.box 10) 0 []),(47,.t (vb g7))],[(9,[vi e5.Kind,vi e5.Num,vs e5.Name,.sl false 1 (List.map vi e5.Kids)]),(10,[vi e6.Kind,vi e6.Num,vs e6.Name,.sl false 1 (List.map vi e6.Kids)])]⟩) (fun _=>True) (fun _ _=>?_) fun K8 d0=>?_
 rotate_left
 ·refine wC rfl fun K r=>?_;simp [q];apply r
  iterate 5 (refine wC rfl fun K r=>?_;simp [q];apply r)
  rcases aA c3 with ⟨c7,c3⟩ | ⟨a7,c3⟩
  ·have b0:=c7
   try simp at b0
   iterate 5 (refine wO fun K r=>?_;simp [q,c7,b0];apply r)
   iterate 2 (refine wC rfl fun K r=>?_;simp [q,c7,b0];apply r)
   iterate 5 (refine wO fun K r=>?_;simp [q,c7,b0];apply r)
   iterate 2 (refine wC rfl fun K r=>?_;simp [q,c7,b0];apply r)
   iterate 7 (refine wO fun K r=>?_;simp [q,c7,b0];apply r)
   refine wC rfl fun K r=>?_;simp [q,c7,b0];apply r
   refine wN ?_
   cases c3
   exact d0 _ () [] trivial (by simp [q,c7,b0])
  ·have a5:=a7
   try simp at a5
   iterate 7 (refine wC rfl fun K r=>?_;simp [q,a7,a5];apply r)
   rcases aA c3 with ⟨c4,c3⟩ | ⟨b2,c3⟩
   ·have a9:=c4
    try simp at a9
    iterate 5 (refine wO fun K r=>?_;simp [q,a7,a5,c4,a9];apply r)
    iterate 2 (refine wC rfl fun K r=>?_;simp [q,a7,a5,c4,a9];apply r)
    iterate 7 (refine wO fun K r=>?_;simp [q,a7,a5,c4,a9];apply r)
    refine wC rfl fun K r=>?_;simp [q,a7,a5,c4,a9];apply r
    refine wN ?_
    cases c3
    exact d0 _ () [] trivial (by simp [q,a7,a5,c4,a9])
   ·have a8:=b2
    try simp at a8
    iterate 7 (refine wC rfl fun K r=>?_;simp [q,a7,a5,b2,a8];apply r)
    rcases aA c3 with ⟨c6,c3⟩ | ⟨c8,c3⟩
    ·have b3:=c6
     try simp at b3
     iterate 7 (refine wO fun K r=>?_;simp [q,a7,a5,b2,a8,c6,b3];apply r)
     refine wC rfl fun K r=>?_;simp [q,a7,a5,b2,a8,c6,b3];apply r
     refine wN ?_
     cases c3
     exact d0 _ () [] trivial (by simp [q,a7,a5,b2,a8,c6,b3])
    ·have c5:=c8
     try simp at c5
     iterate 8 (refine wC rfl fun K r=>?_;simp [q,a7,a5,b2,a8,c8,c5];apply r)
     refine wN ?_
     cases c3
     exact d0 _ () [] trivial (by simp [q,a7,a5,b2,a8,c8,c5])
 rcases aA h with ⟨d9,h⟩ | ⟨e0,h⟩
 ·refine O.cT' (by simp) d9 ?_
  refine O.zR u fun K w=>?_
  refine wC rfl fun K r=>?_;simp [q];apply r
  apply wN;apply w
  cases h
  refine O.ret ?_
  simp [aC,iB,aOw]
 ·refine O.cF' (by simp) e0 ?_
  refine O.skip ?_
  obtain ⟨g8,e1,h⟩:=bS h
  refine O.seqC [] [] (fun v:Unit=>⟨[],[]⟩) (fun v=>g8=Sum.inl v) (fun v hv=>?_) fun h1 e2=>?_
  rotate_left
  ·refine O.zR u fun K w=>?_
   refine wC rfl fun K r=>?_;simp [q];apply r
   apply wN;apply w
   refine O.block ?_
   refine O.loopO [] [0,2,9,10,11] [9,10] (fun v:Int=>⟨[(0,.t (.sl false 4 (List.map (GNode.enc false) p1))),(2,.t (.sl false 4 (List.map (GNode.enc false) q3))),(9,.ref (.box 9) 0 []),(10,.ref (.box 10) 0 []),(11,.t (vi v))],[(9,[vi e5.Kind,vi e5.Num,vs e5.Name,.sl false 1 (List.map vi e5.Kids)]),(10,[vi e6.Kind,vi e6.Num,vs e6.Name,.sl false 1 (List.map vi e6.Kids)])]⟩) (cM a4 p1 q3 e5 e6) _ 0 e1 (by simp [q]) ?_
   intro g h2 b1 c9
   obtain ⟨g2,hg⟩:∃ y,y=g:=⟨_,rfl⟩
   subst hg
   simp only [cM] at b1
   try dsimp only
   refine O.seq ?_
   refine O.zR u fun K w=>?_
   iterate 5 (refine wC rfl fun K r=>?_;simp [q];apply r)
   apply wN;apply w
   rcases aA b1 with ⟨e3,b1⟩ | ⟨e4,b1⟩
   ·refine O.cT' (by simp) e3 ?_
    refine O.skip ?_
    refine O.seq ?_
    refine O.block ?_
    refine O.seq ?_
    obtain ⟨g3,e7,b1⟩:=bS b1
    obtain ⟨b5,b6,b7,b8⟩:=gS e7
    obtain ⟨g4,e8,b1⟩:=bS b1
    obtain ⟨b9,c0,c1,c2⟩:=gS e8
    refine O.dT rfl (u _ rfl) [(55,.t (.sl false 4 (List.map (GNode.enc false) p1))),(56,.ref (.box 9) 3 []),(57,.t (.sl false 1 (List.map vi e5.Kids))),(58,.t (vi g2)),(59,.rop [vi g3] 0),(60,.t (vi g3)),(61,.t (.sl false 4 (List.map (GNode.enc false) q3))),(62,.ref (.box 10) 3 []),(63,.t (.sl false 1 (List.map vi e6.Kids))),(64,.t (vi g2)),(65,.rop [vi g4] 0),(66,.t (vi g4))] [[],[],[1],[],[1,2,3],[1,2,3,4],[],[],[7],[],[7,8,9],[7,8,9,10],[0,1,2,3,4,5,6,7,8,9,10,11],[0,1,2,3,4,5,6,7,8,9,10,11,12]] (by simp) (by simp) (by simp [look]) rfl rfl rfl ?_ fun K w=>?_
    ·refine ⟨?_,?_,?_,?_,?_,?_,?_,?_,?_,?_,?_,?_,trivial⟩
     all_goals (intro τ hbx hb hd hf K w;try simp [aH] at hd;simp [aH] at hf;first | (refine wC rfl fun K' z=>?_;simp [q,hbx,hb,hd,hf,b5,b6,b7,b8,b9,c0,c1,c2];exact z _ (wN (w _ (by simp [aH,hbx,b5,b6,b7,b8,b9,c0,c1,c2])))))
    obtain ⟨h3,e9,b1⟩:=bS b1
    refine wL [(.take,.tmp 55),(.take,.tmp 60),(.take,.tmp 61),(.take,.tmp 66)] rfl rfl ent84 (a6 _ _ _ _ e9) fun K r=>?_;simp [q,b5,b6,b7,b8,b9,c0,c1,c2];apply r
    refine wC rfl fun K r=>?_;simp [q,b5,b6,b7,b8,b9,c0,c1,c2];apply r
    apply wN;apply w
    rcases aA b1 with ⟨g0,b1⟩ | ⟨g1,b1⟩
    ·refine O.cT' (by simp) g0 ?_
     refine O.zR u fun K w=>?_
     refine wC rfl fun K r=>?_;simp [q];apply r
     apply wN;apply w
     have g9:=congrArg some (c9 _ (Option.some.inj b1).symm)
     cases g9
     try dsimp only at h
     cases h
     refine O.ret ?_
     simp [aC,iB,aOw]
    ·refine O.cF' (by simp) g1 ?_
     refine O.skip ?_
     refine O.zG u fun K w=>?_
     iterate 3 (refine wC rfl fun K r=>?_;simp [q];apply r)
     apply wN;apply w
     cases b1
     exact ⟨_,[],rfl,by simp [q]⟩
   ·refine O.cF' (by simp) e4 ?_
    refine O.exit ?_
    have h0:=congrArg some (c9 _ (Option.some.inj b1).symm)
    cases h0
    exact e2 _ _ [] rfl (by simp [q])
  subst hv
  obtain ⟨⟩:=v
  try dsimp only at h ⊢
  refine O.zR u fun K w=>?_
  refine wC rfl fun K r=>?_;simp [q];apply r
  apply wN;apply w
  cases h
  refine O.ret ?_
  simp [aC,iB,aOw]
theorem mL:∀ n:Nat,(∀ (a0:List GNode) (a1:Int) (a2:List GNode) (a3:Int) {r0:Bool},(aX n) a0 a1 a2 a3=some r0→Ok E 84 [.val (.sl false 4 (List.map (GNode.enc false) a0)),.val (vi a1),.val (.sl false 4 (List.map (GNode.enc false) a2)),.val (vi a3)] [vb r0] [])
 | 0=>(by intros;rename_i h;cases h)
 | n + 1=>vI (aX n) (mL n)
theorem yV:∀ (a0:List GNode) (a1:Int) (a2:List GNode) (a3:Int) {r0:Bool},qS a0 a1 a2 a3=some r0→Ok E 84 [.val (.sl false 4 (List.map (GNode.enc false) a0)),.val (vi a1),.val (.sl false 4 (List.map (GNode.enc false) a2)),.val (vi a3)] [vb r0] []:=(mL eK)
theorem res50:Tryz.f50.results.toList=[.tmp 8]:=rfl
theorem ent50:aE E.P 50:=eO Tryz.func50 (by simp [Tryz.f50]) rfl
theorem pX (p1:GProgram) (a2:Int) (q3:GProgram) (b4:Int) {r0:Bool} (h:gZ p1 a2 q3 b4=some r0):Ok E 50 [.val (GProgram.enc false p1),.val (vi a2),.val (GProgram.enc false q3),.val (vi b4)] [vb r0] []:=by
 refine oB Tryz.func50 rfl (by simp [Tryz.f50]) fun C (q:C.N=30) hP=>?_
 have y:=aK hP
 unfold gZ at h
 refine O.zR y fun K u=>?_
 iterate 3 (refine wC rfl fun K v=>?_;simp [q];apply v)
 apply wN;apply u
 obtain ⟨b3,a4,h⟩:=bS h
 refine O.seqRC rfl (y _ rfl) [8] [] (fun _:Unit=>⟨[(8,.t (vb b3))],[]⟩) (fun _=>True) (fun _ _=>?_) fun K6 b0=>?_
 rotate_left
 ·refine wC rfl fun K v=>?_;simp [q];apply v
  iterate 2 (refine wC rfl fun K v=>?_;simp [q];apply v)
  obtain ⟨r7,b5,a4⟩:=bS a4
  refine wL [(.take,.tmp 10),(.take,.tmp 11)] rfl rfl aPk (nU _ _ b5) fun K v=>?_;simp [q];apply v
  iterate 2 (refine wC rfl fun K v=>?_;simp [q];apply v)
  rcases aA a4 with ⟨a7,a4⟩ | ⟨a6,a4⟩
  ·have a0:=a7
   try simp at a0
   iterate 3 (refine wC rfl fun K v=>?_;simp [q,a7,a0];apply v)
   obtain ⟨b6,b1,a4⟩:=bS a4
   refine wL [(.take,.tmp 16),(.take,.tmp 17)] rfl rfl aPk (nU _ _ b1) fun K v=>?_;simp [q,a7,a0];apply v
   iterate 3 (refine wC rfl fun K v=>?_;simp [q,a7,a0];apply v)
   rcases aA a4 with ⟨a8,a4⟩ | ⟨a9,a4⟩
   ·have a3:=a8
    try simp at a3
    iterate 6 (refine wC rfl fun K v=>?_;simp [q,a7,a0,a8,a3];apply v)
    obtain ⟨b7,b2,a4⟩:=bS a4
    refine wL [(.take,.tmp 23),(.take,.tmp 24),(.take,.tmp 26),(.take,.tmp 27)] rfl rfl ent84 (yV _ _ _ _ b2) fun K v=>?_;simp [q,a7,a0,a8,a3];apply v
    iterate 2 (refine wC rfl fun K v=>?_;simp [q,a7,a0,a8,a3];apply v)
    refine wN ?_
    cases a4
    exact b0 _ () [] trivial (by simp [q,a7,a0,a8,a3])
   ·have a5:=a9
    try simp at a5
    iterate 7 (refine wO fun K v=>?_;simp [q,a7,a0,a9,a5];apply v)
    iterate 2 (refine wC rfl fun K v=>?_;simp [q,a7,a0,a9,a5];apply v)
    refine wN ?_
    cases a4
    exact b0 _ () [] trivial (by simp [q,a7,a0,a9,a5])
  ·have a1:=a6
   try simp at a1
   iterate 5 (refine wO fun K v=>?_;simp [q,a6,a1];apply v)
   iterate 2 (refine wC rfl fun K v=>?_;simp [q,a6,a1];apply v)
   iterate 7 (refine wO fun K v=>?_;simp [q,a6,a1];apply v)
   iterate 2 (refine wC rfl fun K v=>?_;simp [q,a6,a1];apply v)
   refine wN ?_
   cases a4
   exact b0 _ () [] trivial (by simp [q,a6,a1])
 cases h
 refine O.ret ?_
 simp [aC,iB,res50]
theorem aL1:Tryz.f20.results.toList=[.tmp 4]:=rfl
theorem ent20:aE E.P 20:=eO Tryz.func20 (by simp [Tryz.f20]) rfl
theorem tF (p1:GProgram) (q2:GProgram) {r0:Bool} (h:fM p1 q2=some r0):Ok E 20 [.val (GProgram.enc false p1),.val (GProgram.enc false q2)] [vb r0] []:=by
 refine oB Tryz.func20 rfl (by simp [Tryz.f20]) fun C (q:C.N=104) hP=>?_
 have u:=aK hP
 unfold fM at h
 refine O.zR u fun K w=>?_
 iterate 3 (refine wC rfl fun K r=>?_;simp [q];apply r)
 apply wN;apply w
 refine O.seq ?_
 refine O.zR u fun K w=>?_
 iterate 7 (refine wC rfl fun K r=>?_;simp [q];apply r)
 apply wN;apply w
 rcases aA h with ⟨h8,h⟩ | ⟨i0,h⟩
 ·refine O.cT' (by simp) h8 ?_
  refine O.zR u fun K w=>?_
  refine wC rfl fun K r=>?_;simp [q];apply r
  apply wN;apply w
  cases h
  refine O.ret ?_
  simp [aC,iB,aL1]
 ·refine O.cF' (by simp) i0 ?_
  refine O.skip ?_
  obtain ⟨j7,i1,h⟩:=bS h
  refine O.seqC [] [] (fun v:Unit=>⟨[],[]⟩) (fun v=>j7=Sum.inl v) (fun v hv=>?_) fun K6 i2=>?_
  rotate_left
  ·refine O.zR u fun K w=>?_
   refine wC rfl fun K r=>?_;simp [q];apply r
   apply wN;apply w
   refine O.block ?_
   refine O.loopO [] [2,3,5] [2,3] (fun v:Int=>⟨[(2,.ref (.box 2) 0 []),(3,.ref (.box 3) 0 []),(5,.t (vi v))],[(2,[.sl false 4 (List.map (GNode.enc false) p1.Nodes),.sl false 5 (List.map (GFn.enc false) p1.Fns)]),(3,[.sl false 4 (List.map (GNode.enc false) q2.Nodes),.sl false 5 (List.map (GFn.enc false) q2.Fns)])]⟩) (bJ p1 q2) _ 0 i1 (by simp [q]) ?_
   intro g j4 h9 d0
   obtain ⟨i8,hg⟩:∃ y,y=g:=⟨_,rfl⟩
   subst hg
   simp only [bJ] at h9
   try dsimp only
   refine O.seq ?_
   refine O.zR u fun K w=>?_
   iterate 5 (refine wC rfl fun K r=>?_;simp [q];apply r)
   apply wN;apply w
   rcases aA h9 with ⟨e6,h9⟩ | ⟨e7,h9⟩
   ·refine O.cT' (by simp) e6 ?_
    refine O.skip ?_
    obtain ⟨i3,a0,h9⟩:=bS h9
    refine O.seqC [2,3,5] [2,3] (fun v:Unit=>⟨[(2,.ref (.box 2) 0 []),(3,.ref (.box 3) 0 []),(5,.t (vi i8))],[(2,[.sl false 4 (List.map (GNode.enc false) p1.Nodes),.sl false 5 (List.map (GFn.enc false) p1.Fns)]),(3,[.sl false 4 (List.map (GNode.enc false) q2.Nodes),.sl false 5 (List.map (GFn.enc false) q2.Fns)])]⟩) (fun v=>i3=Sum.inl v) (fun v hv=>?_) fun j5 e8=>?_
    rotate_left
    ·refine O.block ?_
     refine O.zR u fun K w=>?_
     iterate 3 (refine wC rfl fun K r=>?_;simp [q];apply r)
     obtain ⟨b0,e9,a0⟩:=bS a0
     obtain ⟨d7,d8,d9,e0⟩:=gS e9
     iterate 4 (refine wC rfl fun K r=>?_;simp [q,d7,d8,d9,e0];apply r)
     apply wN;apply w
     refine O.zR u fun K w=>?_
     iterate 3 (refine wC rfl fun K r=>?_;simp [q];apply r)
     obtain ⟨b1,g0,a0⟩:=bS a0
     obtain ⟨e1,e2,e3,e4⟩:=gS g0
     iterate 4 (refine wC rfl fun K r=>?_;simp [q,e1,e2,e3,e4];apply r)
     apply wN;apply w
     refine O.seq ?_
     obtain ⟨i4,a3,a0⟩:=bS a0
     refine O.seqRC rfl (u _ rfl) [2,3,5,6,7,62] [2,3,6,7] (fun _:Unit=>⟨[(2,.ref (.box 2) 0 []),(3,.ref (.box 3) 0 []),(5,.t (vi i8)),(6,.ref (.box 6) 0 []),(7,.ref (.box 7) 0 []),(62,.t (vb i4))],[(2,[.sl false 4 (List.map (GNode.enc false) p1.Nodes),.sl false 5 (List.map (GFn.enc false) p1.Fns)]),(3,[.sl false 4 (List.map (GNode.enc false) q2.Nodes),.sl false 5 (List.map (GFn.enc false) q2.Fns)]),(6,[vs b0.Name,.sl false 2 (List.map GParam.enc b0.Params),vi b0.Res,vi b0.Body,vi b0.Ret]),(7,[vs b1.Name,.sl false 2 (List.map GParam.enc b1.Params),vi b1.Res,vi b1.Body,vi b1.Ret])]⟩) (fun _=>True) (fun _ _=>?_) fun j6 d1=>?_
     rotate_left
     ·refine wC rfl fun K r=>?_;simp [q];apply r
      iterate 5 (refine wC rfl fun K r=>?_;simp [q];apply r)
      rcases aA a3 with ⟨b2,a3⟩ | ⟨a4,a3⟩
      ·have a6:=b2
       try simp at a6
       iterate 5 (refine wO fun K r=>?_;simp [q,b2,a6];apply r)
       iterate 2 (refine wC rfl fun K r=>?_;simp [q,b2,a6];apply r)
       iterate 7 (refine wO fun K r=>?_;simp [q,b2,a6];apply r)
       iterate 2 (refine wC rfl fun K r=>?_;simp [q,b2,a6];apply r)
       iterate 7 (refine wO fun K r=>?_;simp [q,b2,a6];apply r)
       refine wC rfl fun K r=>?_;simp [q,b2,a6];apply r
       refine wN ?_
       cases a3
       exact d1 _ () [] trivial (by simp [q,b2,a6])
      ·have a1:=a4
       try simp at a1
       iterate 7 (refine wC rfl fun K r=>?_;simp [q,a4,a1];apply r)
       rcases aA a3 with ⟨b9,a3⟩ | ⟨b4,a3⟩
       ·have a8:=b9
        try simp at a8
        iterate 7 (refine wO fun K r=>?_;simp [q,a4,a1,b9,a8];apply r)
        iterate 2 (refine wC rfl fun K r=>?_;simp [q,a4,a1,b9,a8];apply r)
        iterate 7 (refine wO fun K r=>?_;simp [q,a4,a1,b9,a8];apply r)
        refine wC rfl fun K r=>?_;simp [q,a4,a1,b9,a8];apply r
        refine wN ?_
        cases a3
        exact d1 _ () [] trivial (by simp [q,a4,a1,b9,a8])
       ·have a7:=b4
        try simp at a7
        iterate 9 (refine wC rfl fun K r=>?_;simp [q,a4,a1,b4,a7];apply r)
        rcases aA a3 with ⟨d2,a3⟩ | ⟨d5,a3⟩
        ·have b5:=d2
         try simp at b5
         iterate 7 (refine wO fun K r=>?_;simp [q,a4,a1,b4,a7,d2,b5];apply r)
         refine wC rfl fun K r=>?_;simp [q,a4,a1,b4,a7,d2,b5];apply r
         refine wN ?_
         cases a3
         exact d1 _ () [] trivial (by simp [q,a4,a1,b4,a7,d2,b5])
        ·have c0:=d5
         try simp at c0
         iterate 8 (refine wC rfl fun K r=>?_;simp [q,a4,a1,b4,a7,d5,c0];apply r)
         refine wN ?_
         cases a3
         exact d1 _ () [] trivial (by simp [q,a4,a1,b4,a7,d5,c0])
     rcases aA a0 with ⟨g1,a0⟩ | ⟨g2,a0⟩
     ·refine O.cT' (by simp) g1 ?_
      refine O.zR u fun K w=>?_
      refine wC rfl fun K r=>?_;simp [q];apply r
      apply wN;apply w
      cases a0
      try dsimp only at h9
      have i5:=congrArg some (d0 _ (Option.some.inj h9).symm)
      cases i5
      try dsimp only at h
      cases h
      refine O.ret ?_
      simp [aC,iB,aL1]
     ·refine O.cF' (by simp) g2 ?_
      refine O.skip ?_
      obtain ⟨i6,g3,a0⟩:=bS a0
      refine O.seqC [2,3,5,6,7] [2,3,6,7] (fun v:Unit=>⟨[(2,.ref (.box 2) 0 []),(3,.ref (.box 3) 0 []),(5,.t (vi i8)),(6,.ref (.box 6) 0 []),(7,.ref (.box 7) 0 [])],[(2,[.sl false 4 (List.map (GNode.enc false) p1.Nodes),.sl false 5 (List.map (GFn.enc false) p1.Fns)]),(3,[.sl false 4 (List.map (GNode.enc false) q2.Nodes),.sl false 5 (List.map (GFn.enc false) q2.Fns)]),(6,[vs b0.Name,.sl false 2 (List.map GParam.enc b0.Params),vi b0.Res,vi b0.Body,vi b0.Ret]),(7,[vs b1.Name,.sl false 2 (List.map GParam.enc b1.Params),vi b1.Res,vi b1.Body,vi b1.Ret])]⟩) (fun v=>i6=Sum.inl v) (fun v hv=>?_) fun j8 g4=>?_
      rotate_left
      ·refine O.zR u fun K w=>?_
       refine wC rfl fun K r=>?_;simp [q];apply r
       apply wN;apply w
       refine O.block ?_
       refine O.loopO [] [2,3,5,6,7,8] [2,3,6,7] (fun v:Int=>⟨[(2,.ref (.box 2) 0 []),(3,.ref (.box 3) 0 []),(5,.t (vi i8)),(6,.ref (.box 6) 0 []),(7,.ref (.box 7) 0 []),(8,.t (vi v))],[(2,[.sl false 4 (List.map (GNode.enc false) p1.Nodes),.sl false 5 (List.map (GFn.enc false) p1.Fns)]),(3,[.sl false 4 (List.map (GNode.enc false) q2.Nodes),.sl false 5 (List.map (GFn.enc false) q2.Fns)]),(6,[vs b0.Name,.sl false 2 (List.map GParam.enc b0.Params),vi b0.Res,vi b0.Body,vi b0.Ret]),(7,[vs b1.Name,.sl false 2 (List.map GParam.enc b1.Params),vi b1.Res,vi b1.Body,vi b1.Ret])]⟩) (cB b0 b1) _ 0 g3 (by simp [q]) ?_
       intro g j9 b6 e5
       obtain ⟨h7,hg⟩:∃ y,y=g:=⟨_,rfl⟩
       subst hg
       simp only [cB] at b6
       try dsimp only
       refine O.seq ?_
       refine O.zR u fun K w=>?_
       iterate 5 (refine wC rfl fun K r=>?_;simp [q];apply r)
       apply wN;apply w
       rcases aA b6 with ⟨g5,b6⟩ | ⟨g6,b6⟩
       ·refine O.cT' (by simp) g5 ?_
        refine O.skip ?_
        refine O.seq ?_
        refine O.block ?_
        refine O.seq ?_
        obtain ⟨g7,g8,b6⟩:=bS b6
        obtain ⟨c1,c2,c3,c4⟩:=gS g8
        obtain ⟨g9,h0,b6⟩:=bS b6
        obtain ⟨c5,c6,c7,c8⟩:=gS h0
        refine O.dT rfl (u _ rfl) [(70,.ref (.box 6) 1 []),(71,.t (.sl false 2 (List.map GParam.enc b0.Params))),(72,.t (vi h7)),(73,.rop [vs g7.Name,vi g7.Typ] 0),(74,.t (GParam.enc g7)),(75,.ref (.box 7) 1 []),(76,.t (.sl false 2 (List.map GParam.enc b1.Params))),(77,.t (vi h7)),(78,.rop [vs g9.Name,vi g9.Typ] 0),(79,.t (GParam.enc g9))] [[],[0],[],[0,1,2],[0,1,2,3],[],[5],[],[5,6,7],[5,6,7,8],[0,1,2,3,4,5,6,7,8,9]] (by simp) (by simp) (by simp [look]) rfl rfl rfl ?_ fun K w=>?_
        ·refine ⟨?_,?_,?_,?_,?_,?_,?_,?_,?_,?_,trivial⟩
         all_goals (intro τ hbx hb hd hf K w;try simp [aH] at hd;simp [aH] at hf;first | (refine wC rfl fun K' z=>?_;simp [q,hbx,hb,hd,hf,c1,c2,c3,c4,c5,c6,c7,c8];exact z _ (wN (w _ (by simp [aH,hbx,c1,c2,c3,c4,c5,c6,c7,c8])))))
        refine wC rfl fun K r=>?_;simp [q,c1,c2,c3,c4,c5,c6,c7,c8];apply r
        apply wN;apply w
        rcases aA b6 with ⟨h1,b6⟩ | ⟨h2,b6⟩
        ·refine O.cT' (by simp) h1 ?_
         refine O.zR u fun K w=>?_
         refine wC rfl fun K r=>?_;simp [q];apply r
         apply wN;apply w
         have i7:=congrArg some (e5 _ (Option.some.inj b6).symm)
         cases i7
         try dsimp only at a0
         cases a0
         try dsimp only at h9
         have i9:=congrArg some (d0 _ (Option.some.inj h9).symm)
         cases i9
         try dsimp only at h
         cases h
         refine O.ret ?_
         simp [aC,iB,aL1]
        ·refine O.cF' (by simp) h2 ?_
         refine O.skip ?_
         refine O.zG u fun K w=>?_
         iterate 3 (refine wC rfl fun K r=>?_;simp [q];apply r)
         apply wN;apply w
         cases b6
         exact ⟨_,[],rfl,by simp [q]⟩
       ·refine O.cF' (by simp) g6 ?_
        refine O.exit ?_
        have j0:=congrArg some (e5 _ (Option.some.inj b6).symm)
        cases j0
        exact g4 _ _ [] rfl (by simp [q])
      subst hv
      obtain ⟨⟩:=v
      try dsimp only at a0 ⊢
      obtain ⟨j1,a5,a0⟩:=bS a0
      refine O.seqRC rfl (u _ rfl) [2,3,5,103] [2,3] (fun _:Unit=>⟨[(2,.ref (.box 2) 0 []),(3,.ref (.box 3) 0 []),(5,.t (vi i8)),(103,.t (vb j1))],[(2,[.sl false 4 (List.map (GNode.enc false) p1.Nodes),.sl false 5 (List.map (GFn.enc false) p1.Fns)]),(3,[.sl false 4 (List.map (GNode.enc false) q2.Nodes),.sl false 5 (List.map (GFn.enc false) q2.Fns)])]⟩) (fun _=>True) (fun _ _=>?_) fun k0 d6=>?_
      rotate_left
      ·refine wC rfl fun K r=>?_;simp [q];apply r
       iterate 5 (refine wC rfl fun K r=>?_;simp [q];apply r)
       obtain ⟨k1,h3,a5⟩:=bS a5
       refine wL [(.take,.tmp 81),(.take,.tmp 83),(.take,.tmp 84),(.take,.tmp 86)] rfl rfl ent50 (pX _ _ _ _ h3) fun K r=>?_;simp [q];apply r
       iterate 2 (refine wC rfl fun K r=>?_;simp [q];apply r)
       rcases aA a5 with ⟨d3,a5⟩ | ⟨a9,a5⟩
       ·have b7:=d3
        try simp at b7
        iterate 13 (refine wO fun K r=>?_;simp [q,d3,b7];apply r)
        refine wC rfl fun K r=>?_;simp [q,d3,b7];apply r
        refine wN ?_
        cases a5
        exact d6 _ () [] trivial (by simp [q,d3,b7])
       ·have a2:=a9
        try simp at a2
        iterate 4 (refine wC rfl fun K r=>?_;simp [q,a9,a2];apply r)
        rcases aA a5 with ⟨c9,a5⟩ | ⟨d4,a5⟩
        ·have b3:=c9
         try simp at b3
         iterate 6 (refine wC rfl fun K r=>?_;simp [q,a9,a2,c9,b3];apply r)
         obtain ⟨k2,h4,a5⟩:=bS a5
         refine wL [(.take,.tmp 94),(.take,.tmp 96),(.take,.tmp 97),(.take,.tmp 99)] rfl rfl ent50 (pX _ _ _ _ h4) fun K r=>?_;simp [q,a9,a2,c9,b3];apply r
         iterate 3 (refine wC rfl fun K r=>?_;simp [q,a9,a2,c9,b3];apply r)
         refine wN ?_
         cases a5
         exact d6 _ () [] trivial (by simp [q,a9,a2,c9,b3])
        ·have b8:=d4
         try simp at b8
         iterate 8 (refine wO fun K r=>?_;simp [q,a9,a2,d4,b8];apply r)
         iterate 2 (refine wC rfl fun K r=>?_;simp [q,a9,a2,d4,b8];apply r)
         refine wN ?_
         cases a5
         exact d6 _ () [] trivial (by simp [q,a9,a2,d4,b8])
      rcases aA a0 with ⟨h5,a0⟩ | ⟨h6,a0⟩
      ·refine O.cT' (by simp) h5 ?_
       refine O.zR u fun K w=>?_
       refine wC rfl fun K r=>?_;simp [q];apply r
       apply wN;apply w
       cases a0
       try dsimp only at h9
       have j2:=congrArg some (d0 _ (Option.some.inj h9).symm)
       cases j2
       try dsimp only at h
       cases h
       refine O.ret ?_
       simp [aC,iB,aL1]
      ·refine O.cF' (by simp) h6 ?_
       refine O.skip ?_
       cases a0
       exact e8 _ _ [] rfl (by simp [q])
    subst hv
    obtain ⟨⟩:=v
    try dsimp only at h9 ⊢
    refine O.zG u fun K w=>?_
    iterate 3 (refine wC rfl fun K r=>?_;simp [q];apply r)
    apply wN;apply w
    cases h9
    exact ⟨_,[],rfl,by simp [q]⟩
   ·refine O.cF' (by simp) e7 ?_
    refine O.exit ?_
    have j3:=congrArg some (d0 _ (Option.some.inj h9).symm)
    cases j3
    exact i2 _ _ [] rfl (by simp [q])
  subst hv
  obtain ⟨⟩:=v
  try dsimp only at h ⊢
  refine O.zR u fun K w=>?_
  refine wC rfl fun K r=>?_;simp [q];apply r
  apply wN;apply w
  cases h
  refine O.ret ?_
  simp [aC,iB,aL1]
theorem res7:Tryz.f7.results.toList=[.tmp 4]:=rfl
theorem ent7:aE E.P 7:=eO Tryz.func7 (by simp [Tryz.f7]) rfl
theorem sI (p1:GProgram) (q2:GProgram) {r0:Bool} (h:eV p1 q2=some r0):Ok E 7 [.val (GProgram.enc false p1),.val (GProgram.enc false q2)] [vb r0] []:=by
 refine oB Tryz.func7 rfl (by simp [Tryz.f7]) fun C (q:C.N=18) hP=>?_
 have y:=aK hP
 unfold eV at h
 refine O.zR y fun K u=>?_
 iterate 3 (refine wC rfl fun K w=>?_;simp [q];apply w)
 apply wN;apply u
 obtain ⟨b5,a7,h⟩:=bS h
 refine O.seqC [4] [] (fun _:Unit=>⟨[(4,.t (vb b5))],[]⟩) (fun _=>True) (fun _ _=>?_) fun K4 b0=>?_
 rotate_left
 ·obtain ⟨r5,b1,a7⟩:=bS a7
  rcases aA a7 with ⟨a5,a7⟩ | ⟨a8,a7⟩
  ·have a0:=a5
   try simp at a0
   obtain ⟨r9,a9,a7⟩:=bS a7
   rcases aA a7 with ⟨a3,a7⟩ | ⟨a4,a7⟩
   ·have a1:=a3
    try simp at a1
    obtain ⟨b6,b2,a7⟩:=bS a7
    refine O.dT rfl (y _ rfl) [(5,.t (GProgram.enc false p1)),(6,.t (vb r5)),(7,.t (vb r5)),(8,.t (GProgram.enc false q2)),(9,.t (vb r9)),(10,.t (vb r9)),(11,.t (vb r9)),(12,.t (GProgram.enc false p1)),(13,.t (GProgram.enc true b6)),(14,.t (GProgram.enc false q2))] [[],[0],[0,1],[0,1,2],[0,1,2,3],[0,1,2,3,4],[0,1,2,3,4,5],[0,1,2,3,4,5,6],[0,1,2,3,4,5,6,7],[0,1,2,3,4,5,6],[0,1,2,3,4,5,6,7,8,9],[0,1,2,3,4,5,6,7,8,9,10],[0,1,2,3,4,5,6,7,8,9,10,11],[0,1,2,3,4,5,6,7,8,9,10,11,12]] (by simp) (by simp) (by simp [look]) rfl rfl rfl ?_ fun K u=>?_
    ·refine ⟨?_,?_,?_,?_,?_,?_,?_,?_,?_,?_,trivial⟩
     all_goals (intro τ hbx hb hd hf K u;try simp [aH] at hd;simp [aH] at hf;first | (refine wC rfl fun K' v=>?_;simp [q,hbx,hb,hd,hf,a5,a0,a3,a1];exact v _ (wN (u _ (by simp [aH,hbx,a5,a0,a3,a1])))) | (refine wL [(.take,.tmp 5)] rfl rfl aK5 (cO _ b1) fun K' v=>?_;simp [q,hbx,hb,hd,hf,a5,a0,a3,a1];exact v _ (wN (u _ (by simp [aH,hbx,a5,a0,a3,a1])))) | (refine wL [(.take,.tmp 8)] rfl rfl aK5 (cO _ a9) fun K' v=>?_;simp [q,hbx,hb,hd,hf,a5,a0,a3,a1];exact v _ (wN (u _ (by simp [aH,hbx,a5,a0,a3,a1])))) | (refine wL [(.take,.tmp 12)] rfl rfl ent15 (oL _ b2) fun K' v=>?_;simp [q,hbx,hb,hd,hf,a5,a0,a3,a1];exact v _ (wN (u _ (by simp [aH,hbx,a5,a0,a3,a1])))))
    obtain ⟨b7,b3,a7⟩:=bS a7
    refine wL [(.take,.tmp 14)] rfl rfl ent15 (oL _ b3) fun K w=>?_;simp [q,a5,a0,a3,a1];apply w
    obtain ⟨b8,b4,a7⟩:=bS a7
    refine wL [(.bor,.tmp 13),(.bor,.tmp 15)] rfl rfl ent20 (tF _ _ b4) fun K w=>?_;simp [q,a5,a0,a3,a1];apply w
    iterate 2 (refine wC rfl fun K w=>?_;simp [q,a5,a0,a3,a1];apply w)
    apply wN;apply u
    cases a7
    exact b0 _ () [] trivial (by simp [q,a5,a0,a3,a1])
   ·have a2:=a4
    try simp at a2
    refine O.dT rfl (y _ rfl) [(5,.t (GProgram.enc false p1)),(6,.t (vb r5)),(7,.t (vb r5)),(8,.t (GProgram.enc false q2)),(9,.t (vb r9)),(10,.t (vb r9)),(11,.t (vb r9)),(12,.tup []),(13,.tup []),(14,.tup [])] [[],[0],[0,1],[0,1,2],[0,1,2,3],[0,1,2,3,4],[0,1,2,3,4,5],[0,1,2,3,4,5,6],[0,1,2,3,4,5,6,7],[0,1,2,3,4,5,6],[0,1,2,3,4,5,6,7,8,9],[0,1,2,3,4,5,6,7,8,9,10],[0,1,2,3,4,5,6,7,8,9,10,11],[0,1,2,3,4,5,6,7,8,9,10,11,12]] (by simp) (by simp) (by simp [look]) rfl rfl rfl ?_ fun K u=>?_
    ·refine ⟨?_,?_,?_,?_,?_,?_,?_,?_,?_,?_,trivial⟩
     all_goals (intro τ hbx hb hd hf K u;try simp [aH] at hd;simp [aH] at hf;first | (refine wC rfl fun K' v=>?_;simp [q,hbx,hb,hd,hf,a5,a0,a4,a2];exact v _ (wN (u _ (by simp [aH,hbx,a5,a0,a4,a2])))) | (refine wL [(.take,.tmp 5)] rfl rfl aK5 (cO _ b1) fun K' v=>?_;simp [q,hbx,hb,hd,hf,a5,a0,a4,a2];exact v _ (wN (u _ (by simp [aH,hbx,a5,a0,a4,a2])))) | (refine wL [(.take,.tmp 8)] rfl rfl aK5 (cO _ a9) fun K' v=>?_;simp [q,hbx,hb,hd,hf,a5,a0,a4,a2];exact v _ (wN (u _ (by simp [aH,hbx,a5,a0,a4,a2])))) | (refine wO fun K' v=>?_;simp [q,hbx,hb,hd,hf,a5,a0,a4,a2];exact v _ (wN (u _ (by simp [aH,hbx,a5,a0,a4,a2])))))
    iterate 2 (refine wO fun K w=>?_;simp [q,a5,a0,a4,a2];apply w)
    iterate 2 (refine wC rfl fun K w=>?_;simp [q,a5,a0,a4,a2];apply w)
    apply wN;apply u
    cases a7
    exact b0 _ () [] trivial (by simp [q,a5,a0,a4,a2])
  ·have a6:=a8
   try simp at a6
   refine O.dT rfl (y _ rfl) [(5,.t (GProgram.enc false p1)),(6,.t (vb r5)),(7,.t (vb r5)),(8,.tup []),(9,.tup []),(10,.t (vb false)),(11,.t (vb false)),(12,.tup []),(13,.tup []),(14,.tup [])] [[],[0],[0,1],[0,1,2],[0,1,2,3],[0,1,2,3,4],[0,1,2,3,4,5],[0,1,2,3,4,5,6],[0,1,2,3,4,5,6,7],[0,1,2,3,4,5,6],[0,1,2,3,4,5,6,7,8,9],[0,1,2,3,4,5,6,7,8,9,10],[0,1,2,3,4,5,6,7,8,9,10,11],[0,1,2,3,4,5,6,7,8,9,10,11,12]] (by simp) (by simp) (by simp [look]) rfl rfl rfl ?_ fun K u=>?_
   ·refine ⟨?_,?_,?_,?_,?_,?_,?_,?_,?_,?_,trivial⟩
    all_goals (intro τ hbx hb hd hf K u;try simp [aH] at hd;simp [aH] at hf;first | (refine wC rfl fun K' v=>?_;simp [q,hbx,hb,hd,hf,a8,a6];exact v _ (wN (u _ (by simp [aH,hbx,a8,a6])))) | (refine wL [(.take,.tmp 5)] rfl rfl aK5 (cO _ b1) fun K' v=>?_;simp [q,hbx,hb,hd,hf,a8,a6];exact v _ (wN (u _ (by simp [aH,hbx,a8,a6])))) | (refine wO fun K' v=>?_;simp [q,hbx,hb,hd,hf,a8,a6];exact v _ (wN (u _ (by simp [aH,hbx,a8,a6])))))
   iterate 2 (refine wO fun K w=>?_;simp [q,a8,a6];apply w)
   iterate 2 (refine wC rfl fun K w=>?_;simp [q,a8,a6];apply w)
   apply wN;apply u
   cases a7
   exact b0 _ () [] trivial (by simp [q,a8,a6])
 cases h
 refine O.ret ?_
 simp [aC,iB,res7]
theorem res85:Tryz.f85.results.toList=[.tmp 2]:=rfl
theorem ent85:aE E.P 85:=eO Tryz.func85 (by simp [Tryz.f85]) rfl
theorem aBb (a1:List Int) {r0:List Int} (h:mQ a1=some r0):Ok E 85 [.val (.sl false 1 (List.map vi a1))] [.sl true 1 (List.map vi r0)] []:=by
 refine oB Tryz.func85 rfl (by simp [Tryz.f85]) fun C (q:C.N=22) hP=>?_
 have y:=aK hP
 unfold mQ at h
 refine O.zR y fun K u=>?_
 refine wC rfl fun K w=>?_;simp [q];apply w
 apply wN;apply u
 refine O.zR y fun K u=>?_
 iterate 2 (refine wC rfl fun K w=>?_;simp [q];apply w)
 obtain ⟨l2,c2,h⟩:=bS h
 obtain ⟨b2,b3,b4,b5⟩:=mS c2
 have b0:List.replicate (a1.length:Int).toNat (vi 0)=List.map vi l2:=tH (f:=vi) b5
 try simp only [Int.toNat_natCast] at b0
 iterate 2 (refine wC rfl fun K w=>?_;simp [q,b2,b3,b4,b0];apply w)
 apply wN;apply u
 obtain ⟨b1,c3,h⟩:=bS h
 refine O.seqC [3] [] (fun _:Unit=>⟨[(3,.t (.sl true 1 (List.map vi b1)))],[]⟩) (fun _=>True) (fun _ _=>?_) fun K4 c4=>?_
 rotate_left
 ·refine O.zR y fun K u=>?_
  refine wC rfl fun K w=>?_;simp [q];apply w
  apply wN;apply u
  refine O.block ?_
  refine O.loopO [] [0,3,4] [] (fun v:(List Int) × Int=>⟨[(0,.t (.sl false 1 (List.map vi a1))),(3,.t (.sl true 1 (List.map vi v.1))),(4,.t (vi v.2))],[]⟩) (gA a1) _ (l2,0) c3 (by simp [q]) ?_
  intro g c9 h8 c5
  obtain ⟨b6,i7⟩:=g
  simp only [gA] at h8
  try dsimp only
  refine O.seq ?_
  refine O.zR y fun K u=>?_
  iterate 4 (refine wC rfl fun K w=>?_;simp [q];apply w)
  apply wN;apply u
  rcases aA h8 with ⟨b7,h8⟩ | ⟨b8,h8⟩
  ·refine O.cT' (by simp) b7 ?_
   refine O.skip ?_
   refine O.seq ?_
   refine O.block ?_
   refine O.zG y fun K u=>?_
   iterate 4 (refine wC rfl fun K w=>?_;simp [q];apply w)
   obtain ⟨c6,b9,h8⟩:=bS h8
   obtain ⟨a0,a2,a3,a4⟩:=gS b9
   iterate 2 (refine wC rfl fun K w=>?_;simp [q,a0,a2,a3,a4];apply w)
   obtain ⟨d0,c0,h8⟩:=bS h8
   obtain ⟨a5,a6,a7,a8⟩:=gS c0
   refine wC rfl fun K w=>?_;simp [q,a0,a2,a3,a4,a5,a6,a7,a8];apply w
   obtain ⟨c7,c1,h8⟩:=bZ h8
   have a9:(List.map vi b6).set i7.toNat (vi c6)=List.map vi c7:=fH (f:=vi) c1
   try simp only [Int.toNat_natCast] at a9
   refine wC rfl fun K w=>?_;simp [q,a0,a2,a3,a4,a5,a6,a7,a8,a9];apply w
   apply wN;apply u
   refine O.zG y fun K u=>?_
   iterate 3 (refine wC rfl fun K w=>?_;simp [q];apply w)
   apply wN;apply u
   cases h8
   exact ⟨_,[],rfl,by simp [q]⟩
  ·refine O.cF' (by simp) b8 ?_
   refine O.exit ?_
   have c8:=congrArg some (c5 _ (Option.some.inj h8).symm)
   cases c8
   exact c4 _ () [] trivial (by simp [q])
 refine O.zR y fun K u=>?_
 iterate 2 (refine wC rfl fun K w=>?_;simp [q];apply w)
 apply wN;apply u
 cases h
 refine O.ret ?_
 simp [aC,iB,res85]
theorem res51:Tryz.f51.results.toList=[.cell 2 53]:=rfl
theorem ent51:aE E.P 51:=eO Tryz.func51 (by simp [Tryz.f51]) rfl
theorem aB9 (a1:GNode) {r0:GNode} (h:mP a1=some r0):Ok E 51 [.val (GNode.enc false a1)] [GNode.enc true r0] []:=by
 refine oB Tryz.func51 rfl (by simp [Tryz.f51]) fun C (q:C.N=18) hP=>?_
 have y:=aK hP
 unfold mP at h
 refine O.zR y fun K u=>?_
 iterate 2 (refine wC rfl fun K v=>?_;simp [q];apply v)
 apply wN;apply u
 refine O.zR y fun K u=>?_
 refine wC rfl fun K v=>?_;simp [q];apply v
 apply wN;apply u
 refine O.zR y fun K u=>?_
 iterate 4 (refine wC rfl fun K v=>?_;simp [q];apply v)
 apply wN;apply u
 refine O.zR y fun K u=>?_
 iterate 4 (refine wC rfl fun K v=>?_;simp [q];apply v)
 apply wN;apply u
 refine O.zR y fun K u=>?_
 iterate 4 (refine wC rfl fun K v=>?_;simp [q];apply v)
 apply wN;apply u
 refine O.zR y fun K u=>?_
 iterate 2 (refine wC rfl fun K v=>?_;simp [q];apply v)
 obtain ⟨r2,a0,h⟩:=bS h
 refine wL [(.take,.tmp 14)] rfl rfl ent85 (aBb _ a0) fun K v=>?_;simp [q];apply v
 iterate 2 (refine wC rfl fun K v=>?_;simp [q];apply v)
 apply wN;apply u
 refine O.zR y fun K u=>?_
 iterate 2 (refine wC rfl fun K v=>?_;simp [q];apply v)
 apply wN;apply u
 cases h
 refine O.ret ?_
 simp [aC,iB,res51]
theorem res21:Tryz.f21.results.toList=[.tmp 2]:=rfl
theorem ent21:aE E.P 21:=eO Tryz.func21 (by simp [Tryz.f21]) rfl
theorem aA0 (a1:List GNode) {r0:List GNode} (h:lH a1=some r0):Ok E 21 [.val (.sl false 4 (List.map (GNode.enc false) a1))] [.sl true 4 (List.map (GNode.enc true) r0)] []:=by
 refine oB Tryz.func21 rfl (by simp [Tryz.f21]) fun C (q:C.N=23) hP=>?_
 have y:=aK hP
 unfold lH at h
 refine O.zR y fun K u=>?_
 refine wC rfl fun K w=>?_;simp [q];apply w
 apply wN;apply u
 refine O.zR y fun K u=>?_
 iterate 2 (refine wC rfl fun K w=>?_;simp [q];apply w)
 obtain ⟨l2,c4,h⟩:=bS h
 obtain ⟨b3,b4,b5,b6⟩:=mS c4
 have b0:List.replicate (a1.length:Int).toNat (.agg [vi 0,vi 0,vs ByteArray.empty,.sl true 1 []])=List.map (GNode.enc true) l2:=tH (f:=(GNode.enc true)) b6
 try simp only [Int.toNat_natCast] at b0
 iterate 2 (refine wC rfl fun K w=>?_;simp [q,b3,b4,b5,b0];apply w)
 apply wN;apply u
 obtain ⟨b1,c5,h⟩:=bS h
 refine O.seqC [3] [] (fun _:Unit=>⟨[(3,.t (.sl true 4 (List.map (GNode.enc true) b1)))],[]⟩) (fun _=>True) (fun _ _=>?_) fun K4 c6=>?_
 rotate_left
 ·refine O.zR y fun K u=>?_
  refine wC rfl fun K w=>?_;simp [q];apply w
  apply wN;apply u
  refine O.block ?_
  refine O.loopO [] [0,3,4] [] (fun v:(List GNode) × Int=>⟨[(0,.t (.sl false 4 (List.map (GNode.enc false) a1))),(3,.t (.sl true 4 (List.map (GNode.enc true) v.1))),(4,.t (vi v.2))],[]⟩) (eY a1) _ (l2,0) c5 (by simp [q]) ?_
  intro g d0 h8 c7
  obtain ⟨b7,i7⟩:=g
  simp only [eY] at h8
  try dsimp only
  refine O.seq ?_
  refine O.zR y fun K u=>?_
  iterate 4 (refine wC rfl fun K w=>?_;simp [q];apply w)
  apply wN;apply u
  rcases aA h8 with ⟨b8,h8⟩ | ⟨b9,h8⟩
  ·refine O.cT' (by simp) b8 ?_
   refine O.skip ?_
   refine O.seq ?_
   refine O.block ?_
   refine O.zG y fun K u=>?_
   iterate 4 (refine wC rfl fun K w=>?_;simp [q];apply w)
   obtain ⟨d1,c0,h8⟩:=bS h8
   obtain ⟨a0,a2,a3,a4⟩:=gS c0
   iterate 2 (refine wC rfl fun K w=>?_;simp [q,a0,a2,a3,a4];apply w)
   obtain ⟨b2,c1,h8⟩:=bS h8
   refine wL [(.take,.tmp 19)] rfl rfl ent51 (aB9 _ c1) fun K w=>?_;simp [q,a0,a2,a3,a4];apply w
   obtain ⟨d2,c2,h8⟩:=bS h8
   obtain ⟨a5,a6,a7,a8⟩:=gS c2
   refine wC rfl fun K w=>?_;simp [q,a0,a2,a3,a4,a5,a6,a7,a8];apply w
   obtain ⟨c8,c3,h8⟩:=bZ h8
   have a9:(List.map (GNode.enc true) b7).set i7.toNat (.agg [vi b2.Kind,vi b2.Num,vs b2.Name,.sl true 1 (List.map vi b2.Kids)])=List.map (GNode.enc true) c8:=fH (f:=(GNode.enc true)) c3
   try simp only [Int.toNat_natCast] at a9
   refine wC rfl fun K w=>?_;simp [q,a0,a2,a3,a4,a5,a6,a7,a8,a9];apply w
   apply wN;apply u
   refine O.zG y fun K u=>?_
   iterate 3 (refine wC rfl fun K w=>?_;simp [q];apply w)
   apply wN;apply u
   cases h8
   exact ⟨_,[],rfl,by simp [q]⟩
  ·refine O.cF' (by simp) b9 ?_
   refine O.exit ?_
   have c9:=congrArg some (c7 _ (Option.some.inj h8).symm)
   cases c9
   exact c6 _ () [] trivial (by simp [q])
 refine O.zR y fun K u=>?_
 iterate 2 (refine wC rfl fun K w=>?_;simp [q];apply w)
 apply wN;apply u
 cases h
 refine O.ret ?_
 simp [aC,iB,res21]
theorem res105:Tryz.f105.results.toList=[.cell 2 77]:=rfl
theorem ent105:aE E.P 105:=eO Tryz.func105 (by simp [Tryz.f105]) rfl
theorem zY (a1:GParam) {r0:GParam} (h:lG a1=some r0):Ok E 105 [.val (GParam.enc a1)] [GParam.enc r0] []:=by
 refine oB Tryz.func105 rfl (by simp [Tryz.f105]) fun C (q:C.N=11) hP=>?_
 have y:=aK hP
 unfold lG at h
 refine O.zR y fun K u=>?_
 iterate 2 (refine wC rfl fun K v=>?_;simp [q];apply v)
 apply wN;apply u
 refine O.zR y fun K u=>?_
 refine wC rfl fun K v=>?_;simp [q];apply v
 apply wN;apply u
 refine O.zR y fun K u=>?_
 iterate 4 (refine wC rfl fun K v=>?_;simp [q];apply v)
 apply wN;apply u
 refine O.zR y fun K u=>?_
 iterate 4 (refine wC rfl fun K v=>?_;simp [q];apply v)
 apply wN;apply u
 refine O.zR y fun K u=>?_
 iterate 2 (refine wC rfl fun K v=>?_;simp [q];apply v)
 apply wN;apply u
 cases h
 refine O.ret ?_
 simp [aC,iB,res105]
theorem res86:Tryz.f86.results.toList=[.tmp 2]:=rfl
theorem ent86:aE E.P 86:=eO Tryz.func86 (by simp [Tryz.f86]) rfl
theorem xH (a1:List GParam) {r0:List GParam} (h:jS a1=some r0):Ok E 86 [.val (.sl false 2 (List.map GParam.enc a1))] [.sl true 2 (List.map GParam.enc r0)] []:=by
 refine oB Tryz.func86 rfl (by simp [Tryz.f86]) fun C (q:C.N=23) hP=>?_
 have y:=aK hP
 unfold jS at h
 refine O.zR y fun K u=>?_
 refine wC rfl fun K w=>?_;simp [q];apply w
 apply wN;apply u
 refine O.zR y fun K u=>?_
 iterate 2 (refine wC rfl fun K w=>?_;simp [q];apply w)
 obtain ⟨l2,c4,h⟩:=bS h
 obtain ⟨b2,b3,b4,b5⟩:=mS c4
 have b0:List.replicate (a1.length:Int).toNat (.agg [vs ByteArray.empty,vi 0])=List.map GParam.enc l2:=tH (f:=GParam.enc) b5
 try simp only [Int.toNat_natCast] at b0
 iterate 2 (refine wC rfl fun K w=>?_;simp [q,b2,b3,b4,b0];apply w)
 apply wN;apply u
 obtain ⟨b1,c5,h⟩:=bS h
 refine O.seqC [3] [] (fun _:Unit=>⟨[(3,.t (.sl true 2 (List.map GParam.enc b1)))],[]⟩) (fun _=>True) (fun _ _=>?_) fun K4 c6=>?_
 rotate_left
 ·refine O.zR y fun K u=>?_
  refine wC rfl fun K w=>?_;simp [q];apply w
  apply wN;apply u
  refine O.block ?_
  refine O.loopO [] [0,3,4] [] (fun v:(List GParam) × Int=>⟨[(0,.t (.sl false 2 (List.map GParam.enc a1))),(3,.t (.sl true 2 (List.map GParam.enc v.1))),(4,.t (vi v.2))],[]⟩) (eC a1) _ (l2,0) c5 (by simp [q]) ?_
  intro g d0 h8 c7
  obtain ⟨b6,i7⟩:=g
  simp only [eC] at h8
  try dsimp only
  refine O.seq ?_
  refine O.zR y fun K u=>?_
  iterate 4 (refine wC rfl fun K w=>?_;simp [q];apply w)
  apply wN;apply u
  rcases aA h8 with ⟨b7,h8⟩ | ⟨b8,h8⟩
  ·refine O.cT' (by simp) b7 ?_
   refine O.skip ?_
   refine O.seq ?_
   refine O.block ?_
   refine O.zG y fun K u=>?_
   iterate 4 (refine wC rfl fun K w=>?_;simp [q];apply w)
   obtain ⟨d1,b9,h8⟩:=bS h8
   obtain ⟨a0,a2,a3,a4⟩:=gS b9
   iterate 2 (refine wC rfl fun K w=>?_;simp [q,a0,a2,a3,a4];apply w)
   obtain ⟨c3,c0,h8⟩:=bS h8
   refine wL [(.take,.tmp 19)] rfl rfl ent105 (zY _ c0) fun K w=>?_;simp [q,a0,a2,a3,a4];apply w
   obtain ⟨d2,c1,h8⟩:=bS h8
   obtain ⟨a5,a6,a7,a8⟩:=gS c1
   refine wC rfl fun K w=>?_;simp [q,a0,a2,a3,a4,a5,a6,a7,a8];apply w
   obtain ⟨c8,c2,h8⟩:=bZ h8
   have a9:(List.map GParam.enc b6).set i7.toNat (.agg [vs c3.Name,vi c3.Typ])=List.map GParam.enc c8:=fH (f:=GParam.enc) c2
   try simp only [Int.toNat_natCast] at a9
   refine wC rfl fun K w=>?_;simp [q,a0,a2,a3,a4,a5,a6,a7,a8,a9];apply w
   apply wN;apply u
   refine O.zG y fun K u=>?_
   iterate 3 (refine wC rfl fun K w=>?_;simp [q];apply w)
   apply wN;apply u
   cases h8
   exact ⟨_,[],rfl,by simp [q]⟩
  ·refine O.cF' (by simp) b8 ?_
   refine O.exit ?_
   have c9:=congrArg some (c7 _ (Option.some.inj h8).symm)
   cases c9
   exact c6 _ () [] trivial (by simp [q])
 refine O.zR y fun K u=>?_
 iterate 2 (refine wC rfl fun K w=>?_;simp [q];apply w)
 apply wN;apply u
 cases h
 refine O.ret ?_
 simp [aC,iB,res86]
theorem res52:Tryz.f52.results.toList=[.cell 2 58]:=rfl
theorem ent52:aE E.P 52:=eO Tryz.func52 (by simp [Tryz.f52]) rfl
theorem aFc (a1:GFn) {r0:GFn} (h:rE a1=some r0):Ok E 52 [.val (GFn.enc false a1)] [GFn.enc true r0] []:=by
 refine oB Tryz.func52 rfl (by simp [Tryz.f52]) fun C (q:C.N=21) hP=>?_
 have y:=aK hP
 unfold rE at h
 refine O.zR y fun K u=>?_
 iterate 2 (refine wC rfl fun K v=>?_;simp [q];apply v)
 apply wN;apply u
 refine O.zR y fun K u=>?_
 refine wC rfl fun K v=>?_;simp [q];apply v
 apply wN;apply u
 refine O.zR y fun K u=>?_
 iterate 4 (refine wC rfl fun K v=>?_;simp [q];apply v)
 apply wN;apply u
 refine O.zR y fun K u=>?_
 iterate 2 (refine wC rfl fun K v=>?_;simp [q];apply v)
 obtain ⟨r2,a0,h⟩:=bS h
 refine wL [(.take,.tmp 8)] rfl rfl ent86 (xH _ a0) fun K v=>?_;simp [q];apply v
 iterate 2 (refine wC rfl fun K v=>?_;simp [q];apply v)
 apply wN;apply u
 refine O.zR y fun K u=>?_
 iterate 4 (refine wC rfl fun K v=>?_;simp [q];apply v)
 apply wN;apply u
 refine O.zR y fun K u=>?_
 iterate 4 (refine wC rfl fun K v=>?_;simp [q];apply v)
 apply wN;apply u
 refine O.zR y fun K u=>?_
 iterate 4 (refine wC rfl fun K v=>?_;simp [q];apply v)
 apply wN;apply u
 refine O.zR y fun K u=>?_
 iterate 2 (refine wC rfl fun K v=>?_;simp [q];apply v)
 apply wN;apply u
 cases h
 refine O.ret ?_
 simp [aC,iB,res52]
theorem res22:Tryz.f22.results.toList=[.tmp 2]:=rfl
theorem ent22:aE E.P 22:=eO Tryz.func22 (by simp [Tryz.f22]) rfl
theorem aDh (a1:List GFn) {r0:List GFn} (h:oQ a1=some r0):Ok E 22 [.val (.sl false 5 (List.map (GFn.enc false) a1))] [.sl true 5 (List.map (GFn.enc true) r0)] []:=by
 refine oB Tryz.func22 rfl (by simp [Tryz.f22]) fun C (q:C.N=23) hP=>?_
 have y:=aK hP
 unfold oQ at h
 refine O.zR y fun K u=>?_
 refine wC rfl fun K w=>?_;simp [q];apply w
 apply wN;apply u
 refine O.zR y fun K u=>?_
 iterate 2 (refine wC rfl fun K w=>?_;simp [q];apply w)
 obtain ⟨l2,c4,h⟩:=bS h
 obtain ⟨b3,b4,b5,b6⟩:=mS c4
 have b0:List.replicate (a1.length:Int).toNat (.agg [vs ByteArray.empty,.sl true 2 [],vi 0,vi 0,vi 0])=List.map (GFn.enc true) l2:=tH (f:=(GFn.enc true)) b6
 try simp only [Int.toNat_natCast] at b0
 iterate 2 (refine wC rfl fun K w=>?_;simp [q,b3,b4,b5,b0];apply w)
 apply wN;apply u
 obtain ⟨b1,c5,h⟩:=bS h
 refine O.seqC [3] [] (fun _:Unit=>⟨[(3,.t (.sl true 5 (List.map (GFn.enc true) b1)))],[]⟩) (fun _=>True) (fun _ _=>?_) fun K4 c6=>?_
 rotate_left
 ·refine O.zR y fun K u=>?_
  refine wC rfl fun K w=>?_;simp [q];apply w
  apply wN;apply u
  refine O.block ?_
  refine O.loopO [] [0,3,4] [] (fun v:(List GFn) × Int=>⟨[(0,.t (.sl false 5 (List.map (GFn.enc false) a1))),(3,.t (.sl true 5 (List.map (GFn.enc true) v.1))),(4,.t (vi v.2))],[]⟩) (hJ a1) _ (l2,0) c5 (by simp [q]) ?_
  intro g d0 h8 c7
  obtain ⟨b7,i7⟩:=g
  simp only [hJ] at h8
  try dsimp only
  refine O.seq ?_
  refine O.zR y fun K u=>?_
  iterate 4 (refine wC rfl fun K w=>?_;simp [q];apply w)
  apply wN;apply u
  rcases aA h8 with ⟨b8,h8⟩ | ⟨b9,h8⟩
  ·refine O.cT' (by simp) b8 ?_
   refine O.skip ?_
   refine O.seq ?_
   refine O.block ?_
   refine O.zG y fun K u=>?_
   iterate 4 (refine wC rfl fun K w=>?_;simp [q];apply w)
   obtain ⟨d1,c0,h8⟩:=bS h8
   obtain ⟨a0,a2,a3,a4⟩:=gS c0
   iterate 2 (refine wC rfl fun K w=>?_;simp [q,a0,a2,a3,a4];apply w)
   obtain ⟨b2,c1,h8⟩:=bS h8
   refine wL [(.take,.tmp 19)] rfl rfl ent52 (aFc _ c1) fun K w=>?_;simp [q,a0,a2,a3,a4];apply w
   obtain ⟨d2,c2,h8⟩:=bS h8
   obtain ⟨a5,a6,a7,a8⟩:=gS c2
   refine wC rfl fun K w=>?_;simp [q,a0,a2,a3,a4,a5,a6,a7,a8];apply w
   obtain ⟨c8,c3,h8⟩:=bZ h8
   have a9:(List.map (GFn.enc true) b7).set i7.toNat (.agg [vs b2.Name,.sl true 2 (List.map GParam.enc b2.Params),vi b2.Res,vi b2.Body,vi b2.Ret])=List.map (GFn.enc true) c8:=fH (f:=(GFn.enc true)) c3
   try simp only [Int.toNat_natCast] at a9
   refine wC rfl fun K w=>?_;simp [q,a0,a2,a3,a4,a5,a6,a7,a8,a9];apply w
   apply wN;apply u
   refine O.zG y fun K u=>?_
   iterate 3 (refine wC rfl fun K w=>?_;simp [q];apply w)
   apply wN;apply u
   cases h8
   exact ⟨_,[],rfl,by simp [q]⟩
  ·refine O.cF' (by simp) b9 ?_
   refine O.exit ?_
   have c9:=congrArg some (c7 _ (Option.some.inj h8).symm)
   cases c9
   exact c6 _ () [] trivial (by simp [q])
 refine O.zR y fun K u=>?_
 iterate 2 (refine wC rfl fun K w=>?_;simp [q];apply w)
 apply wN;apply u
 cases h
 refine O.ret ?_
 simp [aC,iB,res22]
theorem res8:Tryz.f8.results.toList=[.cell 2 31]:=rfl
theorem ent8:aE E.P 8:=eO Tryz.func8 (by simp [Tryz.f8]) rfl
theorem dI (a1:GProgram) {r0:GProgram} (h:bN a1=some r0):Ok E 8 [.val (GProgram.enc false a1)] [GProgram.enc true r0] []:=by
 refine oB Tryz.func8 rfl (by simp [Tryz.f8]) fun C (q:C.N=13) hP=>?_
 have y:=aK hP
 unfold bN at h
 refine O.zR y fun K u=>?_
 iterate 2 (refine wC rfl fun K v=>?_;simp [q];apply v)
 apply wN;apply u
 refine O.zR y fun K u=>?_
 refine wC rfl fun K v=>?_;simp [q];apply v
 apply wN;apply u
 refine O.zR y fun K u=>?_
 iterate 2 (refine wC rfl fun K v=>?_;simp [q];apply v)
 obtain ⟨r2,a0,h⟩:=bS h
 refine wL [(.take,.tmp 5)] rfl rfl ent21 (aA0 _ a0) fun K v=>?_;simp [q];apply v
 iterate 2 (refine wC rfl fun K v=>?_;simp [q];apply v)
 apply wN;apply u
 refine O.zR y fun K u=>?_
 iterate 2 (refine wC rfl fun K v=>?_;simp [q];apply v)
 obtain ⟨r4,a2,h⟩:=bS h
 refine wL [(.take,.tmp 9)] rfl rfl ent22 (aDh _ a2) fun K v=>?_;simp [q];apply v
 iterate 2 (refine wC rfl fun K v=>?_;simp [q];apply v)
 apply wN;apply u
 refine O.zR y fun K u=>?_
 iterate 2 (refine wC rfl fun K v=>?_;simp [q];apply v)
 apply wN;apply u
 cases h
 refine O.ret ?_
 simp [aC,iB,res8]
theorem res30:Tryz.f30.results.toList=[.tmp 6]:=rfl
theorem nD:aE E.P 30:=eO Tryz.func30 (by simp [Tryz.f30]) rfl
theorem aW (n1:Int) (a3:Int) (a1:Int) {r0:Bool} (h:cV n1 a3 a1=some r0):Ok E 30 [.val (vi n1),.val (vi a3),.val (vi a1)] [vb r0] []:=by
 refine oB Tryz.func30 rfl (by simp [Tryz.f30]) fun C (q:C.N=15) hP=>?_
 have y:=aK hP
 unfold cV at h
 refine O.zR y fun K u=>?_
 refine wC rfl fun K v=>?_;simp [q];apply v
 apply wN;apply u
 obtain ⟨v8,a4,h⟩:=bS h
 refine O.seqRC rfl (y _ rfl) [6] [] (fun _:Unit=>⟨[(6,.t (vb v8))],[]⟩) (fun _=>True) (fun _ _=>?_) fun K5 a7=>?_
 rotate_left
 ·refine wC rfl fun K v=>?_;simp [q];apply v
  iterate 3 (refine wC rfl fun K v=>?_;simp [q];apply v)
  rcases aA a4 with ⟨a6,a4⟩ | ⟨a5,a4⟩
  ·have a2:=a6
   try simp at a2
   iterate 5 (refine wC rfl fun K v=>?_;simp [q,a6,a2];apply v)
   refine wN ?_
   cases a4
   exact a7 _ () [] trivial (by simp [q,a6,a2])
  ·have a0:=a5
   try simp at a0
   iterate 3 (refine wO fun K v=>?_;simp [q,a5,a0];apply v)
   iterate 2 (refine wC rfl fun K v=>?_;simp [q,a5,a0];apply v)
   refine wN ?_
   cases a4
   exact a7 _ () [] trivial (by simp [q,a5,a0])
 cases h
 refine O.ret ?_
 simp [aC,iB,res30]
theorem res41:Tryz.f41.results.toList=[.tmp 4]:=rfl
theorem aPo:aE E.P 41:=eO Tryz.func41 (by simp [Tryz.f41]) rfl
theorem rN (p1:GProgram) (a0:ByteArray) {r0:Int} (h:lR p1 a0=some r0):Ok E 41 [.val (GProgram.enc false p1),.val (vs a0)] [vi r0] []:=by
 refine oB Tryz.func41 rfl (by simp [Tryz.f41]) fun C (q:C.N=21) hP=>?_
 have u:=aK hP
 unfold lR at h
 refine O.zR u fun K w=>?_
 iterate 2 (refine wC rfl fun K z=>?_;simp [q];apply z)
 apply wN;apply w
 obtain ⟨j5,b1,h⟩:=bS h
 refine O.seqC [] [] (fun v:Unit=>⟨[],[]⟩) (fun v=>j5=Sum.inl v) (fun v hv=>?_) fun K4 b2=>?_
 rotate_left
 ·refine O.zR u fun K w=>?_
  iterate 4 (refine wC rfl fun K z=>?_;simp [q];apply z)
  apply wN;apply w
  refine O.block ?_
  refine O.loopO [] [1,8,9,10] [] (fun v:Int=>⟨[(1,.t (vs a0)),(8,.t (.sl false 5 (List.map (GFn.enc false) p1.Fns))),(9,.t (vi (p1.Fns.length:Int))),(10,.t (vi v))],[]⟩) (jG p1 a0) _ 0 b1 (by simp [q]) ?_
  intro g s9 h7 b0
  obtain ⟨v6,hg⟩:∃ y,y=g:=⟨_,rfl⟩
  subst hg
  simp only [jG] at h7
  try dsimp only
  refine O.zR u fun K w=>?_
  refine wC rfl fun K z=>?_;simp [q];apply z
  apply wN;apply w
  refine O.seq ?_
  rcases aA h7 with ⟨a5,h7⟩ | ⟨a6,h7⟩
  ·refine O.cT' (by simp) a5 ?_
   refine O.skip ?_
   refine O.seq ?_
   refine O.block ?_
   refine O.zR u fun K w=>?_
   refine wC rfl fun K z=>?_;simp [q];apply z
   obtain ⟨b5,a7,h7⟩:=bS h7
   obtain ⟨a1,a2,a3,a4⟩:=gS a7
   iterate 5 (refine wC rfl fun K z=>?_;simp [q,a1,a2,a3,a4];apply z)
   apply wN;apply w
   refine O.zR u fun K w=>?_
   iterate 4 (refine wC rfl fun K z=>?_;simp [q];apply z)
   apply wN;apply w
   rcases aA h7 with ⟨a8,h7⟩ | ⟨a9,h7⟩
   ·refine O.cT' (by simp) a8 ?_
    refine O.zR u fun K w=>?_
    iterate 2 (refine wC rfl fun K z=>?_;simp [q];apply z)
    apply wN;apply w
    have b3:=congrArg some (b0 _ (Option.some.inj h7).symm)
    cases b3
    try dsimp only at h
    cases h
    refine O.ret ?_
    simp [aC,iB,res41]
   ·refine O.cF' (by simp) a9 ?_
    refine O.skip ?_
    refine O.zG u fun K w=>?_
    iterate 2 (refine wC rfl fun K z=>?_;simp [q];apply z)
    apply wN;apply w
    cases h7
    exact ⟨_,[],rfl,by simp [q]⟩
  ·refine O.cF' (by simp) a6 ?_
   refine O.exit ?_
   have b4:=congrArg some (b0 _ (Option.some.inj h7).symm)
   cases b4
   exact b2 _ _ [] rfl (by simp [q])
 subst hv
 obtain ⟨⟩:=v
 try dsimp only at h ⊢
 refine O.zR u fun K w=>?_
 refine wC rfl fun K z=>?_;simp [q];apply z
 apply wN;apply w
 cases h
 refine O.ret ?_
 simp [aC,iB,res41]
theorem res98:Tryz.f98.results.toList=[.tmp 2]:=rfl
theorem ent98:aE E.P 98:=eO Tryz.func98 (by simp [Tryz.f98]) rfl
theorem rL (a3:Int) {r0:Bool} (h:fF a3=some r0):Ok E 98 [.val (vi a3)] [vb r0] []:=by
 refine oB Tryz.func98 rfl (by simp [Tryz.f98]) fun C (q:C.N=9) hP=>?_
 have y:=aK hP
 unfold fF at h
 refine O.zR y fun K u=>?_
 refine wC rfl fun K v=>?_;simp [q];apply v
 apply wN;apply u
 obtain ⟨a7,a1,h⟩:=bS h
 refine O.seqRC rfl (y _ rfl) [2] [] (fun _:Unit=>⟨[(2,.t (vb a7))],[]⟩) (fun _=>True) (fun _ _=>?_) fun K3 a6=>?_
 rotate_left
 ·refine wC rfl fun K v=>?_;simp [q];apply v
  obtain ⟨r4,a8,a1⟩:=bS a1
  refine wL [(.take,.tmp 3),(.take,.const (.int .i64 2)),(.take,.const (.int .i64 6))] rfl rfl nD (aW _ _ _ a8) fun K v=>?_;simp [q];apply v
  refine wC rfl fun K v=>?_;simp [q];apply v
  rcases aA a1 with ⟨a5,a1⟩ | ⟨a4,a1⟩
  ·have a2:=a5
   try simp at a2
   iterate 2 (refine wO fun K v=>?_;simp [q,a5,a2];apply v)
   iterate 2 (refine wC rfl fun K v=>?_;simp [q,a5,a2];apply v)
   refine wN ?_
   cases a1
   exact a6 _ () [] trivial (by simp [q,a5,a2])
  ·have a0:=a4
   try simp at a0
   refine wC rfl fun K v=>?_;simp [q,a4,a0];apply v
   obtain ⟨r8,a9,a1⟩:=bS a1
   refine wL [(.take,.tmp 6),(.take,.const (.int .i64 12)),(.take,.const (.int .i64 15))] rfl rfl nD (aW _ _ _ a9) fun K v=>?_;simp [q,a4,a0];apply v
   iterate 2 (refine wC rfl fun K v=>?_;simp [q,a4,a0];apply v)
   refine wN ?_
   cases a1
   exact a6 _ () [] trivial (by simp [q,a4,a0])
 cases h
 refine O.ret ?_
 simp [aC,iB,res98]
theorem res123:Tryz.f123.results.toList=[.tmp 2]:=rfl
theorem aOg:aE E.P 123:=eO Tryz.func123 (by simp [Tryz.f123]) rfl
theorem qD (b1:Int) {r0:Bool} (h:iE b1=some r0):Ok E 123 [.val (vk .u8 b1)] [vb r0] []:=by
 refine oB Tryz.func123 rfl (by simp [Tryz.f123]) fun C (q:C.N=9) hP=>?_
 have y:=aK hP
 unfold iE at h
 refine O.zR y fun K u=>?_
 refine wC rfl fun K v=>?_;simp [q];apply v
 apply wN;apply u
 obtain ⟨v6,a2,h⟩:=bS h
 refine O.seqRC rfl (y _ rfl) [2] [] (fun _:Unit=>⟨[(2,.t (vb v6))],[]⟩) (fun _=>True) (fun _ _=>?_) fun K3 a5=>?_
 rotate_left
 ·refine wC rfl fun K v=>?_;simp [q];apply v
  iterate 2 (refine wC rfl fun K v=>?_;simp [q];apply v)
  rcases aA a2 with ⟨a4,a2⟩ | ⟨a3,a2⟩
  ·have a1:=a4
   try simp at a1
   iterate 4 (refine wC rfl fun K v=>?_;simp [q,a4,a1];apply v)
   refine wN ?_
   cases a2
   exact a5 _ () [] trivial (by simp [q,a4,a1])
  ·have a0:=a3
   try simp at a0
   iterate 2 (refine wO fun K v=>?_;simp [q,a3,a0];apply v)
   iterate 2 (refine wC rfl fun K v=>?_;simp [q,a3,a0];apply v)
   refine wN ?_
   cases a2
   exact a5 _ () [] trivial (by simp [q,a3,a0])
 cases h
 refine O.ret ?_
 simp [aC,iB,res123]
theorem res124:Tryz.f124.results.toList=[.tmp 2]:=rfl
theorem ent124:aE E.P 124:=eO Tryz.func124 (by simp [Tryz.f124]) rfl
theorem xP (b1:Int) {r0:Bool} (h:jX b1=some r0):Ok E 124 [.val (vk .u8 b1)] [vb r0] []:=by
 refine oB Tryz.func124 rfl (by simp [Tryz.f124]) fun C (q:C.N=9) hP=>?_
 have y:=aK hP
 unfold jX at h
 refine O.zR y fun K u=>?_
 refine wC rfl fun K v=>?_;simp [q];apply v
 apply wN;apply u
 obtain ⟨v6,a2,h⟩:=bS h
 refine O.seqRC rfl (y _ rfl) [2] [] (fun _:Unit=>⟨[(2,.t (vb v6))],[]⟩) (fun _=>True) (fun _ _=>?_) fun K3 a5=>?_
 rotate_left
 ·refine wC rfl fun K v=>?_;simp [q];apply v
  iterate 2 (refine wC rfl fun K v=>?_;simp [q];apply v)
  rcases aA a2 with ⟨a4,a2⟩ | ⟨a3,a2⟩
  ·have a1:=a4
   try simp at a1
   iterate 4 (refine wC rfl fun K v=>?_;simp [q,a4,a1];apply v)
   refine wN ?_
   cases a2
   exact a5 _ () [] trivial (by simp [q,a4,a1])
  ·have a0:=a3
   try simp at a0
   iterate 2 (refine wO fun K v=>?_;simp [q,a3,a0];apply v)
   iterate 2 (refine wC rfl fun K v=>?_;simp [q,a3,a0];apply v)
   refine wN ?_
   cases a2
   exact a5 _ () [] trivial (by simp [q,a3,a0])
 cases h
 refine O.ret ?_
 simp [aC,iB,res124]
end Go.Proofs.T
namespace Go.Proofs
open Go.Shelf
def Tryz.laysM171_ren:Go.Shelf.Ren:=⟨fun | 171=>74 | 243=>99 | 246=>115 | 283=>127 | 284=>128 | 285=>129 | 286=>130 | 129=>139 | 317=>138 | 318=>140 | 319=>141 | 320=>142 | 337=>155 | 338=>156 | n=>n,fun | 3=>3 | 9=>9 | 2=>2 | 4=>4 | 171=>124 | 0=>0 | 53=>125 | 37=>95 | 5=>5 | 173=>128 | 212=>137 | 51=>138 | 20=>20 | 213=>139 | 46=>134 | 232=>158 | 233=>159 | n=>n,fun | 17=>0 | 18=>1 | 19=>2 | n=>n⟩
theorem Tryz.laysM171:Go.Proofs.LaysM.n171 Tryz.prog Tryz.laysM171_ren:={
 mixed:=by kernel_rfl
 f129:=Tryz.func139.trans (congrArg some (by kernel_rfl))
 f171:=Tryz.func74.trans (congrArg some (by kernel_rfl))
 f243:=Tryz.func99.trans (congrArg some (by kernel_rfl))
 f246:=Tryz.func115.trans (congrArg some (by kernel_rfl))
 f283:=Tryz.func127.trans (congrArg some (by kernel_rfl))
 f284:=Tryz.func128.trans (congrArg some (by kernel_rfl))
 f285:=Tryz.func129.trans (congrArg some (by kernel_rfl))
 f286:=Tryz.func130.trans (congrArg some (by kernel_rfl))
 f317:=Tryz.func138.trans (congrArg some (by kernel_rfl))
 f318:=Tryz.func140.trans (congrArg some (by kernel_rfl))
 f319:=Tryz.func141.trans (congrArg some (by kernel_rfl))
 f320:=Tryz.func142.trans (congrArg some (by kernel_rfl))
 f337:=Tryz.func155.trans (congrArg some (by kernel_rfl))
 f338:=Tryz.func156.trans (congrArg some (by kernel_rfl))
 t0:=Tryz.underlying0
 a0:=Tryz.isAgg0
 z0:=Tryz.sizeOf0
 v0:=Tryz.zeroValue0
 t2:=Tryz.underlying2
 a2:=Tryz.isAgg2
 z2:=Tryz.sizeOf2
 v2:=Tryz.zeroValue2
 t3:=Tryz.underlying3
 a3:=Tryz.isAgg3
 z3:=Tryz.sizeOf3
 v3:=Tryz.zeroValue3
 t4:=Tryz.underlying4
 a4:=Tryz.isAgg4
 z4:=Tryz.sizeOf4
 v4:=Tryz.zeroValue4
 t5:=Tryz.underlying5
 a5:=Tryz.isAgg5
 z5:=Tryz.sizeOf5
 v5:=Tryz.zeroValue5
 t9:=Tryz.underlying9
 a9:=Tryz.isAgg9
 z9:=Tryz.sizeOf9
 v9:=Tryz.zeroValue9
 t20:=Tryz.underlying20
 a20:=Tryz.isAgg20
 z20:=Tryz.sizeOf20
 v20:=Tryz.zeroValue20
 t37:=Tryz.underlying95
 a37:=Tryz.isAgg95
 z37:=Tryz.sizeOf95
 v37:=Tryz.zeroValue95
 t46:=Tryz.underlying134
 a46:=Tryz.isAgg134
 z46:=Tryz.sizeOf134
 v46:=Tryz.zeroValue134
 t51:=Tryz.underlying138
 a51:=Tryz.isAgg138
 z51:=Tryz.sizeOf138
 v51:=Tryz.zeroValue138
 t53:=Tryz.underlying125
 a53:=Tryz.isAgg125
 z53:=Tryz.sizeOf125
 v53:=Tryz.zeroValue125
 t171:=Tryz.underlying124
 a171:=Tryz.isAgg124
 z171:=Tryz.sizeOf124
 v171:=Tryz.zeroValue124
 t173:=Tryz.underlying128
 a173:=Tryz.isAgg128
 z173:=Tryz.sizeOf128
 v173:=Tryz.zeroValue128
 t212:=Tryz.underlying137
 a212:=Tryz.isAgg137
 z212:=Tryz.sizeOf137
 v212:=Tryz.zeroValue137
 t213:=Tryz.underlying139
 a213:=Tryz.isAgg139
 z213:=Tryz.sizeOf139
 t232:=Tryz.underlying158
 a232:=Tryz.isAgg158
 z232:=Tryz.sizeOf158
 v232:=Tryz.zeroValue158
 t233:=Tryz.underlying159
 a233:=Tryz.isAgg159
 z233:=Tryz.sizeOf159
 v233:=Tryz.zeroValue159
 g17:=by kernel_rfl
 g18:=by kernel_rfl
 g19:=by kernel_rfl
 i0:=by kernel_rfl
 i2:=by kernel_rfl
 i3:=by kernel_rfl
 i4:=by kernel_rfl
 i5:=by kernel_rfl
 i9:=by kernel_rfl
 i20:=by kernel_rfl
 i37:=by kernel_rfl
 i46:=by kernel_rfl
 i51:=by kernel_rfl
 i53:=by kernel_rfl
 i171:=by kernel_rfl
 i173:=by kernel_rfl
 i212:=by kernel_rfl
 i232:=by kernel_rfl
 i233:=by kernel_rfl
 m17:=by kernel_rfl
 m18:=by kernel_rfl
 m19:=by kernel_rfl }
open Go.RowKit Go.Sort Go.Lib in
theorem Tryz.strconv_Itoa (n : Int) (h0 : -9223372036854775808 ≤ n) (h1 : n ≤ 9223372036854775807) (w : World) (htab : Lib.TabIs Tryz.prog w "internal/strconv.uint64pow10" .u64 Lib.pow10Tab) :
  Calls Tryz.prog 74 #[.int .i64 n] w fun e w'=>e = .returned (.string ⟨(Lib.itoa n).toArray⟩)∧∃ k os,w'=grow (w.drewN k) os:=Any.strconv_Itoa Tryz.laysM171 n h0 h1 w htab
def Tryz.lays191_ren:Go.Shelf.Ren:=⟨fun | 191=>114 | 189=>126 | 125=>137 | 257=>136 | 128=>154 | 129=>139 | 294=>145 | 295=>146 | 296=>147 | 297=>148 | 298=>149 | 299=>150 | 216=>151 | 300=>152 | 301=>153 | 328=>158 | 329=>159 | 330=>160 | 331=>161 | 332=>162 | 215=>163 | 343=>167 | n=>n,fun | 28=>51 | 0=>0 | 3=>3 | 46=>134 | 51=>138 | 53=>125 | 4=>4 | 183=>143 | 182=>142 | 131=>148 | 5=>5 | 9=>9 | 218=>152 | 222=>156 | 228=>162 | 229=>121 | n=>n,fun | n=>n⟩
theorem Tryz.lays191:Go.Proofs.Lays.n191 Tryz.prog Tryz.lays191_ren:={
 mixed:=by kernel_rfl
 f125:=Tryz.func137.trans (congrArg some (by kernel_rfl))
 f128:=Tryz.func154.trans (congrArg some (by kernel_rfl))
 f129:=Tryz.func139.trans (congrArg some (by kernel_rfl))
 f189:=Tryz.func126.trans (congrArg some (by kernel_rfl))
 f191:=Tryz.func114.trans (congrArg some (by kernel_rfl))
 f215:=Tryz.func163.trans (congrArg some (by kernel_rfl))
 f216:=Tryz.func151.trans (congrArg some (by kernel_rfl))
 f257:=Tryz.func136.trans (congrArg some (by kernel_rfl))
 f294:=Tryz.func145.trans (congrArg some (by kernel_rfl))
 f295:=Tryz.func146.trans (congrArg some (by kernel_rfl))
 f296:=Tryz.func147.trans (congrArg some (by kernel_rfl))
 f297:=Tryz.func148.trans (congrArg some (by kernel_rfl))
 f298:=Tryz.func149.trans (congrArg some (by kernel_rfl))
 f299:=Tryz.func150.trans (congrArg some (by kernel_rfl))
 f300:=Tryz.func152.trans (congrArg some (by kernel_rfl))
 f301:=Tryz.func153.trans (congrArg some (by kernel_rfl))
 f328:=Tryz.func158.trans (congrArg some (by kernel_rfl))
 f329:=Tryz.func159.trans (congrArg some (by kernel_rfl))
 f330:=Tryz.func160.trans (congrArg some (by kernel_rfl))
 f331:=Tryz.func161.trans (congrArg some (by kernel_rfl))
 f332:=Tryz.func162.trans (congrArg some (by kernel_rfl))
 f343:=Tryz.func167.trans (congrArg some (by kernel_rfl))
 t0:=Tryz.underlying0
 a0:=Tryz.isAgg0
 z0:=Tryz.sizeOf0
 v0:=Tryz.zeroValue0
 t3:=Tryz.underlying3
 a3:=Tryz.isAgg3
 z3:=Tryz.sizeOf3
 v3:=Tryz.zeroValue3
 t4:=Tryz.underlying4
 a4:=Tryz.isAgg4
 z4:=Tryz.sizeOf4
 v4:=Tryz.zeroValue4
 t5:=Tryz.underlying5
 a5:=Tryz.isAgg5
 z5:=Tryz.sizeOf5
 v5:=Tryz.zeroValue5
 t9:=Tryz.underlying9
 a9:=Tryz.isAgg9
 z9:=Tryz.sizeOf9
 v9:=Tryz.zeroValue9
 t28:=Tryz.underlying51
 a28:=Tryz.isAgg51
 z28:=Tryz.sizeOf51
 v28:=Tryz.zeroValue51
 t46:=Tryz.underlying134
 a46:=Tryz.isAgg134
 z46:=Tryz.sizeOf134
 v46:=Tryz.zeroValue134
 t51:=Tryz.underlying138
 a51:=Tryz.isAgg138
 z51:=Tryz.sizeOf138
 v51:=Tryz.zeroValue138
 t53:=Tryz.underlying125
 a53:=Tryz.isAgg125
 z53:=Tryz.sizeOf125
 v53:=Tryz.zeroValue125
 t131:=Tryz.underlying148
 a131:=Tryz.isAgg148
 z131:=Tryz.sizeOf148
 v131:=Tryz.zeroValue148
 t182:=Tryz.underlying142
 a182:=Tryz.isAgg142
 z182:=Tryz.sizeOf142
 v182:=Tryz.zeroValue142
 t183:=Tryz.underlying143
 a183:=Tryz.isAgg143
 z183:=Tryz.sizeOf143
 v183:=Tryz.zeroValue143
 t218:=Tryz.underlying152
 a218:=Tryz.isAgg152
 z218:=Tryz.sizeOf152
 v218:=Tryz.zeroValue152
 t222:=Tryz.underlying156
 a222:=Tryz.isAgg156
 z222:=Tryz.sizeOf156
 v222:=Tryz.zeroValue156
 t228:=Tryz.underlying162
 a228:=Tryz.isAgg162
 z228:=Tryz.sizeOf162
 v228:=Tryz.zeroValue162
 t229:=Tryz.underlying121
 a229:=Tryz.isAgg121
 z229:=Tryz.sizeOf121
 v229:=Tryz.zeroValue121 }
open Go.Sort Go.RowKit in
theorem Tryz.sort_Ints (blk off cap:Nat) (zs:List Int) (w:World) (hH:Holds (Value.int .i64) w blk off zs.toArray) (hblk:blk < w.heap.size) (hsz:zs.length < 4611686018427387904) :
  Calls Tryz.prog 114 #[.slice (some ⟨blk,off,none⟩) zs.length cap] w fun e w' =>
   e = .returned (.tuple #[])∧∃ n os,w'=grow (putRow (Value.int .i64) (Sort.ahead w n) blk off (zs.mergeSort fun x y=>decide (x ≤ y)).toArray) os:=Any.sort_Ints Tryz.lays191 blk off cap zs w hH hblk hsz
def Tryz.lays146_ren:Go.Shelf.Ren:=⟨fun | 146=>144 | 221=>157 | 268=>164 | 138=>165 | 143=>166 | 195=>168 | 197=>169 | 218=>170 | 219=>171 | 260=>172 | 217=>173 | 225=>174 | 224=>175 | 267=>176 | 266=>177 | 314=>178 | n=>n,fun | 9=>9 | 31=>73 | 3=>3 | 4=>4 | 0=>0 | 105=>165 | 21=>21 | 5=>5 | 46=>134 | 119=>168 | 139=>171 | 138=>170 | 146=>172 | 51=>138 | n=>n,fun | 1=>3 | 3=>4 | 4=>5 | n=>n⟩
theorem Tryz.lays146:Go.Proofs.Lays.n146 Tryz.prog Tryz.lays146_ren:={
 mixed:=by kernel_rfl
 f138:=Tryz.func165.trans (congrArg some (by kernel_rfl))
 f143:=Tryz.func166.trans (congrArg some (by kernel_rfl))
 f146:=Tryz.func144.trans (congrArg some (by kernel_rfl))
 f195:=Tryz.func168.trans (congrArg some (by kernel_rfl))
 f197:=Tryz.func169.trans (congrArg some (by kernel_rfl))
 f217:=Tryz.func173.trans (congrArg some (by kernel_rfl))
 f218:=Tryz.func170.trans (congrArg some (by kernel_rfl))
 f219:=Tryz.func171.trans (congrArg some (by kernel_rfl))
 f221:=Tryz.func157.trans (congrArg some (by kernel_rfl))
 f224:=Tryz.func175.trans (congrArg some (by kernel_rfl))
 f225:=Tryz.func174.trans (congrArg some (by kernel_rfl))
 f260:=Tryz.func172.trans (congrArg some (by kernel_rfl))
 f266:=Tryz.func177.trans (congrArg some (by kernel_rfl))
 f267:=Tryz.func176.trans (congrArg some (by kernel_rfl))
 f268:=Tryz.func164.trans (congrArg some (by kernel_rfl))
 f314:=Tryz.func178.trans (congrArg some (by kernel_rfl))
 t0:=Tryz.underlying0
 a0:=Tryz.isAgg0
 z0:=Tryz.sizeOf0
 v0:=Tryz.zeroValue0
 t3:=Tryz.underlying3
 a3:=Tryz.isAgg3
 z3:=Tryz.sizeOf3
 v3:=Tryz.zeroValue3
 t4:=Tryz.underlying4
 a4:=Tryz.isAgg4
 z4:=Tryz.sizeOf4
 v4:=Tryz.zeroValue4
 t5:=Tryz.underlying5
 a5:=Tryz.isAgg5
 z5:=Tryz.sizeOf5
 v5:=Tryz.zeroValue5
 t9:=Tryz.underlying9
 a9:=Tryz.isAgg9
 z9:=Tryz.sizeOf9
 v9:=Tryz.zeroValue9
 t21:=Tryz.underlying21
 a21:=Tryz.isAgg21
 z21:=Tryz.sizeOf21
 v21:=Tryz.zeroValue21
 t31:=Tryz.underlying73
 a31:=Tryz.isAgg73
 z31:=Tryz.sizeOf73
 v31:=Tryz.zeroValue73
 t46:=Tryz.underlying134
 a46:=Tryz.isAgg134
 z46:=Tryz.sizeOf134
 v46:=Tryz.zeroValue134
 t51:=Tryz.underlying138
 a51:=Tryz.isAgg138
 z51:=Tryz.sizeOf138
 v51:=Tryz.zeroValue138
 t105:=Tryz.underlying165
 a105:=Tryz.isAgg165
 z105:=Tryz.sizeOf165
 v105:=Tryz.zeroValue165
 t119:=Tryz.underlying168
 a119:=Tryz.isAgg168
 z119:=Tryz.sizeOf168
 t138:=Tryz.underlying170
 a138:=Tryz.isAgg170
 z138:=Tryz.sizeOf170
 v138:=Tryz.zeroValue170
 t139:=Tryz.underlying171
 a139:=Tryz.isAgg171
 z139:=Tryz.sizeOf171
 v139:=Tryz.zeroValue171
 t146:=Tryz.underlying172
 a146:=Tryz.isAgg172
 z146:=Tryz.sizeOf172
 v146:=Tryz.zeroValue172
 g1:=by kernel_rfl
 g3:=by kernel_rfl
 g4:=by kernel_rfl }
open Go.RowKit Go.Lib in
theorem Tryz.strings_Split (s sep:ByteArray) (m:Int) (w:World) (hs:s.size < 4294967281) (hm:w.cell? ⟨3,0,none⟩=some (.int .i64 m)) (h1:1 ≤ sep.size) :
  Calls Tryz.prog 144 #[.string s,.string sep] w fun e w' =>
   e = .returned (.slice (some ⟨w.heap.size,0,none⟩) (Lib.countB s sep + 1) (Lib.countB s sep + 1))∧w'=w.alloc (.cells ((Lib.splitB sep 0 (Lib.countB s sep) s).map Value.string).toArray 9):=Any.strings_Split Tryz.lays146 (by kernel_rfl) s sep m w hs hm h1
open Go.RowKit Go.Sort in
theorem Tryz.sort_Ints_none (p:Option Addr) (cap:Nat) (w:World) :
  Calls Tryz.prog 114 #[.slice p 0 cap] w fun e w'=>e = .returned (.tuple #[])∧w'=w:=Any.sort_Ints_none Tryz.lays191 p cap w
end Go.Proofs
namespace Go.Proofs.T
open Go.OM
theorem ent144:aE E.P 144:=eO Tryz.func144 (by simp [Tryz.f144]) rfl
theorem aGs {w:World} (h:E.Gl w):∃ m,w.cell? ⟨3,0,none⟩=some (.int .i64 m):=by
 obtain ⟨cs,t,fr,h1,m,h2⟩:=h _ (List.mem_cons_self ..)
 refine ⟨m,?_⟩
 have h1':w.heap[3]? = some (.cells cs t fr):=h1
 simp [World.cell?,h1',h2]
theorem xB (s sep:ByteArray) {r0:List ByteArray} (h:strings_Split s sep=some r0):Ok E 144 [.val (vs s),.val (vs sep)] [.sl true 1 (List.map vs r0)] []:=by
 unfold strings_Split at h
 split at h
 case isFalse=>cases h
 rename_i hr
 injection h with h
 subst h
 have:=aNd (E:=E) (f:=144) (ty:=9) (xs:=[.string s,.string sep]) (es:=(Lib.splitB sep 0 (Lib.countB s sep) s).map Value.string) (by simp [TA.OneCell]) fun w hw=>by
  obtain ⟨m,hm⟩:=aGs hw
  have h1:=Tryz.strings_Split s sep m w hr.1 hm hr.2.1
  refine h1.mono fun e w' ⟨h2,h3⟩=>⟨?_,h3⟩
  rw [h2,List.length_map,hr.2.2]
  try rfl
 rw [List.map_map] at this
 exact this
theorem aOi:aE E.P 114:=eO Tryz.func114 (by simp [Tryz.f114]) rfl
theorem wT (l:List Int) {r0:List Int} (h:sort_Ints l=some r0):OkIO E 114 [.val (.sl true 1 (List.map vi l))] [] [] [(0,.sl true 1 (List.map vi r0))]:=by
 unfold sort_Ints at h
 split at h
 case isFalse=>cases h
 rename_i hr
 injection h with h
 subst h
 exact aNb (fun blk off cap zs w h1 h2 h3=>Tryz.sort_Ints blk off cap zs w h1 h2 h3) (fun p cap w=>Tryz.sort_Ints_none p cap w) l hr
theorem ent74:aE E.P 74:=eO Tryz.func74 (by simp [Tryz.f74]) rfl
theorem pow10_named : Tryz.prog.globalNamed "internal/strconv.uint64pow10" = some 0 := by kernel_rfl
theorem aLa {w : World} (h : E.Gl w) : Lib.TabIs Tryz.prog w "internal/strconv.uint64pow10" .u64 Lib.pow10Tab := by
 obtain ⟨cs,t,fr,h1,h2⟩:=h _ (List.mem_cons_of_mem _ (List.mem_singleton.2 rfl))
 unfold Lib.TabIs World.var?
 rw [pow10_named]
 have h1':w.heap[0]? = some (.cells cs t fr):=h1
 simp only [Option.bind_some,h1']
 exact congrArg some h2
theorem yO (n:Int) {r0:ByteArray} (h:strconv_Itoa n=some r0):Ok E 74 [.val (vi n)] [vs r0] []:=by
 unfold strconv_Itoa at h
 split at h
 case isFalse=>cases h
 rename_i hr
 injection h with h
 subst h
 exact aNc (xs:=[.int .i64 n]) (rs:=[.string ⟨(Lib.itoa n).toArray⟩]) (by simp [TA.OneCell]) fun w hw=>Tryz.strconv_Itoa n hr.1 hr.2 w (aLa hw)
theorem aO6:Tryz.f135.results.toList=[.tmp 4]:=rfl
theorem ent135:aE E.P 135:=eO Tryz.func135 (by simp [Tryz.f135]) rfl
theorem aDz (s1:ByteArray) (a0:ByteArray) {r0:Bool} (h:sC s1 a0=some r0):Ok E 135 [.val (vs s1),.val (vs a0)] [vb r0] []:=by
 refine oB Tryz.func135 rfl (by simp [Tryz.f135]) fun C (q:C.N=18) hP=>?_
 have u:=aK hP
 unfold sC at h
 refine O.zR u fun K w=>?_
 refine wC rfl fun K z=>?_;simp [q];apply z
 apply wN;apply w
 obtain ⟨j5,a6,h⟩:=bS h
 refine O.seqC [] [] (fun v:Unit=>⟨[],[]⟩) (fun v=>j5=Sum.inl v) (fun v hv=>?_) fun K4 b2=>?_
 rotate_left
 ·refine O.zR u fun K w=>?_
  refine wC rfl fun K z=>?_;simp [q];apply z
  obtain ⟨r6,b3,a6⟩:=bS a6
  refine wL [(.take,.tmp 7),(.take,.const (.string (⟨#[32]⟩:ByteArray)))] rfl rfl ent144 (xB _ _ b3) fun K z=>?_;simp [q];apply z
  iterate 2 (refine wC rfl fun K z=>?_;simp [q];apply z)
  apply wN;apply w
  refine O.block ?_
  refine O.loopO [] [0,8,9,10] [] (fun v:Int=>⟨[(0,.t (vs s1)),(8,.t (.sl true 1 (List.map vs r6))),(9,.t (vi (r6.length:Int))),(10,.t (vi v))],[]⟩) (jW s1 r6) _ 0 a6 (by simp [q]) ?_
  intro g b6 h9 a1
  obtain ⟨v8,hg⟩:∃ y,y=g:=⟨_,rfl⟩
  subst hg
  simp only [jW] at h9
  try dsimp only
  refine O.zR u fun K w=>?_
  refine wC rfl fun K z=>?_;simp [q];apply z
  apply wN;apply w
  refine O.seq ?_
  rcases aA h9 with ⟨a7,h9⟩ | ⟨a8,h9⟩
  ·refine O.cT' (by simp) a7 ?_
   refine O.skip ?_
   refine O.seq ?_
   refine O.block ?_
   refine O.zR u fun K w=>?_
   obtain ⟨b7,a9,h9⟩:=bS h9
   obtain ⟨a2,a3,a4,a5⟩:=gS a9
   iterate 3 (refine wC rfl fun K z=>?_;simp [q,a2,a3,a4,a5];apply z)
   apply wN;apply w
   refine O.zR u fun K w=>?_
   iterate 3 (refine wC rfl fun K z=>?_;simp [q];apply z)
   apply wN;apply w
   rcases aA h9 with ⟨b0,h9⟩ | ⟨b1,h9⟩
   ·refine O.cT' (by simp) b0 ?_
    refine O.zR u fun K w=>?_
    refine wC rfl fun K z=>?_;simp [q];apply z
    apply wN;apply w
    have b4:=congrArg some (a1 _ (Option.some.inj h9).symm)
    cases b4
    try dsimp only at h
    cases h
    refine O.ret ?_
    simp [aC,iB,aO6]
   ·refine O.cF' (by simp) b1 ?_
    refine O.skip ?_
    refine O.zG u fun K w=>?_
    iterate 2 (refine wC rfl fun K z=>?_;simp [q];apply z)
    apply wN;apply w
    cases h9
    exact ⟨_,[],rfl,by simp [q]⟩
  ·refine O.cF' (by simp) a8 ?_
   refine O.exit ?_
   have b5:=congrArg some (a1 _ (Option.some.inj h9).symm)
   cases b5
   exact b2 _ _ [] rfl (by simp [q])
 subst hv
 obtain ⟨⟩:=v
 try dsimp only at h ⊢
 refine O.zR u fun K w=>?_
 refine wC rfl fun K z=>?_;simp [q];apply z
 apply wN;apply w
 cases h
 refine O.ret ?_
 simp [aC,iB,aO6]
theorem res125:Tryz.f125.results.toList=[.tmp 2]:=rfl
theorem ent125:aE E.P 125:=eO Tryz.func125 (by simp [Tryz.f125]) rfl
theorem aAl (s1:ByteArray) {r0:Bool} (h:lQ s1=some r0):Ok E 125 [.val (vs s1)] [vb r0] []:=by
 refine oB Tryz.func125 rfl (by simp [Tryz.f125]) fun C (q:C.N=5) hP=>?_
 have y:=aK hP
 unfold lQ at h
 refine O.zR y fun K u=>?_
 refine wC rfl fun K v=>?_;simp [q];apply v
 apply wN;apply u
 refine O.zR y fun K u=>?_
 refine wC rfl fun K v=>?_;simp [q];apply v
 obtain ⟨r2,a0,h⟩:=bS h
 refine wL [(.take,.tmp 3),(.take,.const (.string (⟨#[102,110,32,108,101,116,32,105,102,32,101,108,115,101,32,119,104,105,108,101,32,112,114,105,110,116,32,100,111,32,110,101,119,32,99,108,111,110,101,32,109,117,116,32,105,110,112,117,116,32,105,110,116,32,98,111,120,32,114,101,116]⟩:ByteArray)))] rfl rfl ent135 (aDz _ _ a0) fun K v=>?_;simp [q];apply v
 refine wC rfl fun K v=>?_;simp [q];apply v
 apply wN;apply u
 cases h
 refine O.ret ?_
 simp [aC,iB,res125]
theorem aL5:Tryz.f107.results.toList=[.tmp 2]:=rfl
theorem aLt:aE E.P 107:=eO Tryz.func107 (by simp [Tryz.f107]) rfl
theorem nZ (s1:ByteArray) {r0:Bool} (h:iW s1=some r0):Ok E 107 [.val (vs s1)] [vb r0] []:=by
 refine oB Tryz.func107 rfl (by simp [Tryz.f107]) fun C (q:C.N=35) hP=>?_
 have u:=aK hP
 unfold iW at h
 refine O.zR u fun K w=>?_
 refine wC rfl fun K z=>?_;simp [q];apply z
 apply wN;apply w
 refine O.seq ?_
 obtain ⟨d5,a8,h⟩:=bS h
 refine O.seqRC rfl (u _ rfl) [0,13] [] (fun _:Unit=>⟨[(0,.t (vs s1)),(13,.t (vb d5))],[]⟩) (fun _=>True) (fun _ _=>?_) fun K3 d4=>?_
 rotate_left
 ·refine wC rfl fun K z=>?_;simp [q];apply z
  refine wC rfl fun K z=>?_;simp [q];apply z
  obtain ⟨r4,d6,a8⟩:=bS a8
  refine wL [(.take,.tmp 5),(.take,.const (.int .i64 1)),(.take,.const (.int .i64 8))] rfl rfl nD (aW _ _ _ d6) fun K z=>?_;simp [q];apply z
  iterate 2 (refine wC rfl fun K z=>?_;simp [q];apply z)
  rcases aA a8 with ⟨b9,a8⟩ | ⟨b6,a8⟩
  ·have b0:=b9
   try simp at b0
   iterate 4 (refine wO fun K z=>?_;simp [q,b9,b0];apply z)
   refine wC rfl fun K z=>?_;simp [q,b9,b0];apply z
   refine wN ?_
   cases a8
   exact d4 _ () [] trivial (by simp [q,b9,b0])
  ·have a6:=b6
   try simp at a6
   refine wC rfl fun K z=>?_;simp [q,b6,a6];apply z
   obtain ⟨c8,d7,a8⟩:=bS a8
   obtain ⟨b1,b2,b3⟩:=xY d7
   have b4:0 < s1.size:=by omega
   refine wC rfl fun K z=>?_;simp [q,b6,a6,b1,b2,b3,b4];apply z
   obtain ⟨r9,c0,a8⟩:=bS a8
   refine wL [(.take,.tmp 10)] rfl rfl aOg (qD _ c0) fun K z=>?_;simp [q,b6,a6,b1,b2,b3,b4];apply z
   iterate 2 (refine wC rfl fun K z=>?_;simp [q,b6,a6,b1,b2,b3,b4];apply z)
   refine wN ?_
   cases a8
   exact d4 _ () [] trivial (by simp [q,b6,a6,b1,b2,b3,b4])
 rcases aA h with ⟨c1,h⟩ | ⟨c2,h⟩
 ·refine O.cT' (by simp) c1 ?_
  refine O.zR u fun K w=>?_
  refine wC rfl fun K z=>?_;simp [q];apply z
  apply wN;apply w
  cases h
  refine O.ret ?_
  simp [aC,iB,aL5]
 ·refine O.cF' (by simp) c2 ?_
  refine O.skip ?_
  obtain ⟨d8,c3,h⟩:=bS h
  refine O.seqC [0] [] (fun v:Unit=>⟨[(0,.t (vs s1))],[]⟩) (fun v=>d8=Sum.inl v) (fun v hv=>?_) fun e3 c4=>?_
  rotate_left
  ·refine O.zR u fun K w=>?_
   refine wC rfl fun K z=>?_;simp [q];apply z
   apply wN;apply w
   refine O.block ?_
   refine O.loopO [] [0,3] [] (fun v:Int=>⟨[(0,.t (vs s1)),(3,.t (vi v))],[]⟩) (gJ s1) _ 0 c3 (by simp [q]) ?_
   intro g e4 a7 b7
   obtain ⟨d9,hg⟩:∃ y,y=g:=⟨_,rfl⟩
   subst hg
   simp only [gJ] at a7
   try dsimp only
   refine O.seq ?_
   refine O.zR u fun K w=>?_
   iterate 4 (refine wC rfl fun K z=>?_;simp [q];apply z)
   apply wN;apply w
   rcases aA a7 with ⟨c5,a7⟩ | ⟨c6,a7⟩
   ·refine O.cT' (by simp) c5 ?_
    refine O.skip ?_
    refine O.seq ?_
    refine O.block ?_
    obtain ⟨e0,a3,a7⟩:=bS a7
    refine O.seqRC rfl (u _ rfl) [0,3,31] [] (fun _:Unit=>⟨[(0,.t (vs s1)),(3,.t (vi d9)),(31,.t (vb e0))],[]⟩) (fun _=>True) (fun _ _=>?_) fun e5 b8=>?_
    rotate_left
    ·refine wC rfl fun K z=>?_;simp [q];apply z
     refine wC rfl fun K z=>?_;simp [q];apply z
     obtain ⟨e6,c7,a3⟩:=bS a3
     obtain ⟨a0,a1,a2⟩:=xY c7
     refine wC rfl fun K z=>?_;simp [q,a0,a1,a2];apply z
     obtain ⟨e7,c9,a3⟩:=bS a3
     refine wL [(.take,.tmp 22)] rfl rfl aOg (qD _ c9) fun K z=>?_;simp [q,a0,a1,a2];apply z
     iterate 2 (refine wC rfl fun K z=>?_;simp [q,a0,a1,a2];apply z)
     rcases aA a3 with ⟨a9,a3⟩ | ⟨b5,a3⟩
     ·have a4:=a9
      try simp at a4
      iterate 3 (refine wC rfl fun K z=>?_;simp [q,a0,a1,a2,a9,a4];apply z)
      obtain ⟨e8,d0,a3⟩:=bS a3
      refine wL [(.take,.tmp 28)] rfl rfl ent124 (xP _ d0) fun K z=>?_;simp [q,a0,a1,a2,a9,a4];apply z
      iterate 2 (refine wC rfl fun K z=>?_;simp [q,a0,a1,a2,a9,a4];apply z)
      refine wN ?_
      cases a3
      exact b8 _ () [] trivial (by simp [q,a0,a1,a2,a9,a4])
     ·have a5:=b5
      try simp at a5
      iterate 5 (refine wO fun K z=>?_;simp [q,a0,a1,a2,b5,a5];apply z)
      refine wC rfl fun K z=>?_;simp [q,a0,a1,a2,b5,a5];apply z
      refine wN ?_
      cases a3
      exact b8 _ () [] trivial (by simp [q,a0,a1,a2,b5,a5])
    rcases aA a7 with ⟨d1,a7⟩ | ⟨d2,a7⟩
    ·refine O.cT' (by simp) d1 ?_
     refine O.zR u fun K w=>?_
     refine wC rfl fun K z=>?_;simp [q];apply z
     apply wN;apply w
     have e1:=congrArg some (b7 _ (Option.some.inj a7).symm)
     cases e1
     try dsimp only at h
     cases h
     refine O.ret ?_
     simp [aC,iB,aL5]
    ·refine O.cF' (by simp) d2 ?_
     refine O.skip ?_
     refine O.zG u fun K w=>?_
     iterate 3 (refine wC rfl fun K z=>?_;simp [q];apply z)
     apply wN;apply w
     cases a7
     exact ⟨_,[],rfl,by simp [q]⟩
   ·refine O.cF' (by simp) c6 ?_
    refine O.exit ?_
    have e2:=congrArg some (b7 _ (Option.some.inj a7).symm)
    cases e2
    exact c4 _ _ [] rfl (by simp [q])
  subst hv
  obtain ⟨⟩:=v
  try dsimp only at h ⊢
  refine O.zR u fun K w=>?_
  refine wC rfl fun K z=>?_;simp [q];apply z
  obtain ⟨e9,d3,h⟩:=bS h
  refine wL [(.take,.tmp 32)] rfl rfl ent125 (aAl _ d3) fun K z=>?_;simp [q];apply z
  iterate 2 (refine wC rfl fun K z=>?_;simp [q];apply z)
  apply wN;apply w
  cases h
  refine O.ret ?_
  simp [aC,iB,aL5]
theorem aO9:Tryz.f113.results.toList=[.tmp 4]:=rfl
theorem aIn:aE E.P 113:=eO Tryz.func113 (by simp [Tryz.f113]) rfl
theorem kP (l1:List Int) (n2:Int) {r0:Bool} (h:iV l1 n2=some r0):Ok E 113 [.val (.sl false 1 (List.map vi l1)),.val (vi n2)] [vb r0] []:=by
 refine oB Tryz.func113 rfl (by simp [Tryz.f113]) fun C (q:C.N=17) hP=>?_
 have u:=aK hP
 unfold iV at h
 refine O.zR u fun K w=>?_
 refine wC rfl fun K z=>?_;simp [q];apply z
 apply wN;apply w
 obtain ⟨j5,b0,h⟩:=bS h
 refine O.seqC [] [] (fun v:Unit=>⟨[],[]⟩) (fun v=>j5=Sum.inl v) (fun v hv=>?_) fun K4 b1=>?_
 rotate_left
 ·refine O.zR u fun K w=>?_
  iterate 3 (refine wC rfl fun K z=>?_;simp [q];apply z)
  apply wN;apply w
  refine O.block ?_
  refine O.loopO [] [1,7,8,9] [] (fun v:Int=>⟨[(1,.t (vi n2)),(7,.t (.sl false 1 (List.map vi l1))),(8,.t (vi (l1.length:Int))),(9,.t (vi v))],[]⟩) (gE l1 n2) _ 0 b0 (by simp [q]) ?_
  intro g s9 h7 a9
  obtain ⟨v6,hg⟩:∃ y,y=g:=⟨_,rfl⟩
  subst hg
  simp only [gE] at h7
  try dsimp only
  refine O.zR u fun K w=>?_
  refine wC rfl fun K z=>?_;simp [q];apply z
  apply wN;apply w
  refine O.seq ?_
  rcases aA h7 with ⟨a4,h7⟩ | ⟨a5,h7⟩
  ·refine O.cT' (by simp) a4 ?_
   refine O.skip ?_
   refine O.seq ?_
   refine O.block ?_
   refine O.zR u fun K w=>?_
   obtain ⟨b4,a6,h7⟩:=bS h7
   obtain ⟨a0,a1,a2,a3⟩:=gS a6
   iterate 3 (refine wC rfl fun K z=>?_;simp [q,a0,a1,a2,a3];apply z)
   apply wN;apply w
   refine O.zR u fun K w=>?_
   iterate 3 (refine wC rfl fun K z=>?_;simp [q];apply z)
   apply wN;apply w
   rcases aA h7 with ⟨a7,h7⟩ | ⟨a8,h7⟩
   ·refine O.cT' (by simp) a7 ?_
    refine O.zR u fun K w=>?_
    refine wC rfl fun K z=>?_;simp [q];apply z
    apply wN;apply w
    have b2:=congrArg some (a9 _ (Option.some.inj h7).symm)
    cases b2
    try dsimp only at h
    cases h
    refine O.ret ?_
    simp [aC,iB,aO9]
   ·refine O.cF' (by simp) a8 ?_
    refine O.skip ?_
    refine O.zG u fun K w=>?_
    iterate 2 (refine wC rfl fun K z=>?_;simp [q];apply z)
    apply wN;apply w
    cases h7
    exact ⟨_,[],rfl,by simp [q]⟩
  ·refine O.cF' (by simp) a5 ?_
   refine O.exit ?_
   have b3:=congrArg some (a9 _ (Option.some.inj h7).symm)
   cases b3
   exact b1 _ _ [] rfl (by simp [q])
 subst hv
 obtain ⟨⟩:=v
 try dsimp only at h ⊢
 refine O.zR u fun K w=>?_
 refine wC rfl fun K z=>?_;simp [q];apply z
 apply wN;apply w
 cases h
 refine O.ret ?_
 simp [aC,iB,aO9]
theorem aC4:Tryz.f133.results.toList=[.tmp 2,.tmp 3]:=rfl
theorem ent133:aE E.P 133:=eO Tryz.func133 (by simp [Tryz.f133]) rfl
theorem aDv (a2:Int) {r0:Int} {r1:Int} (h:oW a2=some (r0,r1)):Ok E 133 [.val (vi a2)] [vi r0,vi r1] []:=by
 refine oB Tryz.func133 rfl (by simp [Tryz.f133]) fun C (q:C.N=23) hP=>?_
 have y:=aK hP
 unfold oW at h
 refine O.zR y fun K u=>?_
 iterate 2 (refine wC rfl fun K v=>?_;simp [q];apply v)
 apply wN;apply u
 refine O.seq ?_
 refine O.zR y fun K u=>?_
 refine wC rfl fun K v=>?_;simp [q];apply v
 apply wN;apply u
 refine O.block ?_
 obtain ⟨c6,a1,h⟩:=bS h
 refine O.seqC [4,5] [] (fun _:Unit=>⟨[(4,.t (vi a2)),(5,.t (vb c6))],[]⟩) (fun _=>True) (fun _ _=>?_) fun K3 a4=>?_
 rotate_left
 ·refine O.zR y fun K u=>?_
  iterate 2 (refine wC rfl fun K v=>?_;simp [q];apply v)
  apply wN;apply u
  rcases aA a1 with ⟨c7,a1⟩ | ⟨c8,a1⟩
  ·refine O.cT' (by simp) c7 ?_
   refine O.skip ?_
   cases a1
   exact a4 _ () [] trivial (by simp [q])
  ·refine O.cF' (by simp) c8 ?_
   refine O.zR y fun K u=>?_
   iterate 2 (refine wC rfl fun K v=>?_;simp [q];apply v)
   apply wN;apply u
   rcases aA a1 with ⟨c9,a1⟩ | ⟨d0,a1⟩
   ·refine O.cT' (by simp) c9 ?_
    refine O.skip ?_
    cases a1
    exact a4 _ () [] trivial (by simp [q])
   ·refine O.cF' (by simp) d0 ?_
    refine O.zR y fun K u=>?_
    iterate 2 (refine wC rfl fun K v=>?_;simp [q];apply v)
    apply wN;apply u
    rcases aA a1 with ⟨d1,a1⟩ | ⟨a5,a1⟩
    ·refine O.cT' (by simp) d1 ?_
     refine O.skip ?_
     cases a1
     exact a4 _ () [] trivial (by simp [q])
    ·refine O.cF' (by simp) a5 ?_
     refine O.zR y fun K u=>?_
     iterate 2 (refine wC rfl fun K v=>?_;simp [q];apply v)
     apply wN;apply u
     rcases aA a1 with ⟨a6,a1⟩ | ⟨a7,a1⟩
     ·refine O.cT' (by simp) a6 ?_
      refine O.skip ?_
      cases a1
      exact a4 _ () [] trivial (by simp [q])
     ·refine O.cF' (by simp) a7 ?_
      refine O.zR y fun K u=>?_
      iterate 2 (refine wC rfl fun K v=>?_;simp [q];apply v)
      apply wN;apply u
      rcases aA a1 with ⟨a8,a1⟩ | ⟨a9,a1⟩
      ·refine O.cT' (by simp) a8 ?_
       refine O.skip ?_
       cases a1
       exact a4 _ () [] trivial (by simp [q])
      ·refine O.cF' (by simp) a9 ?_
       refine O.zG y fun K u=>?_
       iterate 2 (refine wC rfl fun K v=>?_;simp [q];apply v)
       apply wN;apply u
       cases a1
       exact a4 _ () [] trivial (by simp [q])
 rcases aA h with ⟨b0,h⟩ | ⟨b1,h⟩
 ·refine O.cT' (by simp) b0 ?_
  refine O.zR y fun K u=>?_
  iterate 2 (refine wC rfl fun K v=>?_;simp [q];apply v)
  apply wN;apply u
  cases h
  refine O.ret ?_
  simp [aC,iB,aC4]
 ·refine O.cF' (by simp) b1 ?_
  obtain ⟨d2,a0,h⟩:=bS h
  refine O.seqC [4,12] [] (fun _:Unit=>⟨[(4,.t (vi a2)),(12,.t (vb d2))],[]⟩) (fun _=>True) (fun _ _=>?_) fun d3 a3=>?_
  rotate_left
  ·refine O.zR y fun K u=>?_
   iterate 2 (refine wC rfl fun K v=>?_;simp [q];apply v)
   apply wN;apply u
   rcases aA a0 with ⟨b2,a0⟩ | ⟨b3,a0⟩
   ·refine O.cT' (by simp) b2 ?_
    refine O.skip ?_
    cases a0
    exact a3 _ () [] trivial (by simp [q])
   ·refine O.cF' (by simp) b3 ?_
    refine O.zR y fun K u=>?_
    iterate 2 (refine wC rfl fun K v=>?_;simp [q];apply v)
    apply wN;apply u
    rcases aA a0 with ⟨b4,a0⟩ | ⟨b5,a0⟩
    ·refine O.cT' (by simp) b4 ?_
     refine O.skip ?_
     cases a0
     exact a3 _ () [] trivial (by simp [q])
    ·refine O.cF' (by simp) b5 ?_
     refine O.zR y fun K u=>?_
     iterate 2 (refine wC rfl fun K v=>?_;simp [q];apply v)
     apply wN;apply u
     rcases aA a0 with ⟨b6,a0⟩ | ⟨b7,a0⟩
     ·refine O.cT' (by simp) b6 ?_
      refine O.skip ?_
      cases a0
      exact a3 _ () [] trivial (by simp [q])
     ·refine O.cF' (by simp) b7 ?_
      refine O.zG y fun K u=>?_
      iterate 2 (refine wC rfl fun K v=>?_;simp [q];apply v)
      apply wN;apply u
      cases a0
      exact a3 _ () [] trivial (by simp [q])
  rcases aA h with ⟨b8,h⟩ | ⟨b9,h⟩
  ·refine O.cT' (by simp) b8 ?_
   refine O.zR y fun K u=>?_
   iterate 2 (refine wC rfl fun K v=>?_;simp [q];apply v)
   apply wN;apply u
   cases h
   refine O.ret ?_
   simp [aC,iB,aC4]
  ·refine O.cF' (by simp) b9 ?_
   refine O.zR y fun K u=>?_
   iterate 2 (refine wC rfl fun K v=>?_;simp [q];apply v)
   apply wN;apply u
   rcases aA h with ⟨c0,h⟩ | ⟨c1,h⟩
   ·refine O.cT' (by simp) c0 ?_
    refine O.zR y fun K u=>?_
    iterate 2 (refine wC rfl fun K v=>?_;simp [q];apply v)
    apply wN;apply u
    cases h
    refine O.ret ?_
    simp [aC,iB,aC4]
   ·refine O.cF' (by simp) c1 ?_
    refine O.zR y fun K u=>?_
    iterate 2 (refine wC rfl fun K v=>?_;simp [q];apply v)
    apply wN;apply u
    rcases aA h with ⟨c2,h⟩ | ⟨c3,h⟩
    ·refine O.cT' (by simp) c2 ?_
     refine O.zR y fun K u=>?_
     iterate 2 (refine wC rfl fun K v=>?_;simp [q];apply v)
     apply wN;apply u
     cases h
     refine O.ret ?_
     simp [aC,iB,aC4]
    ·refine O.cF' (by simp) c3 ?_
     refine O.zR y fun K u=>?_
     iterate 2 (refine wC rfl fun K v=>?_;simp [q];apply v)
     apply wN;apply u
     rcases aA h with ⟨c4,h⟩ | ⟨c5,h⟩
     ·refine O.cT' (by simp) c4 ?_
      refine O.zR y fun K u=>?_
      iterate 2 (refine wC rfl fun K v=>?_;simp [q];apply v)
      apply wN;apply u
      cases h
      refine O.ret ?_
      simp [aC,iB,aC4]
     ·refine O.cF' (by simp) c5 ?_
      refine O.skip ?_
      refine O.zR y fun K u=>?_
      iterate 2 (refine wC rfl fun K v=>?_;simp [q];apply v)
      apply wN;apply u
      cases h
      refine O.ret ?_
      simp [aC,iB,aC4]
theorem res108:Tryz.f108.results.toList=[.tmp 2]:=rfl
theorem aOk:aE E.P 108:=eO Tryz.func108 (by simp [Tryz.f108]) rfl
theorem rJ (a0:Int) {r0:Bool} (h:jE a0=some r0):Ok E 108 [.val (vi a0)] [vb r0] []:=by
 refine oB Tryz.func108 rfl (by simp [Tryz.f108]) fun C (q:C.N=5) hP=>?_
 have y:=aK hP
 unfold jE at h
 refine O.zR y fun K u=>?_
 refine wC rfl fun K v=>?_;simp [q];apply v
 apply wN;apply u
 refine O.zR y fun K u=>?_
 refine wC rfl fun K v=>?_;simp [q];apply v
 obtain ⟨r2,a1,h⟩:=bS h
 refine wL [(.take,.tmp 3),(.take,.const (.int .i64 1)),(.take,.const (.int .i64 12))] rfl rfl nD (aW _ _ _ a1) fun K v=>?_;simp [q];apply v
 refine wC rfl fun K v=>?_;simp [q];apply v
 apply wN;apply u
 cases h
 refine O.ret ?_
 simp [aC,iB,res108]
theorem res143:Tryz.f143.results.toList=[.tmp 2]:=rfl
theorem ent143:aE E.P 143:=eO Tryz.func143 (by simp [Tryz.f143]) rfl
theorem aBl (a0:Int) {r0:Bool} (h:mZ a0=some r0):Ok E 143 [.val (vi a0)] [vb r0] []:=by
 refine oB Tryz.func143 rfl (by simp [Tryz.f143]) fun C (q:C.N=5) hP=>?_
 have y:=aK hP
 unfold mZ at h
 refine O.zR y fun K u=>?_
 refine wC rfl fun K v=>?_;simp [q];apply v
 apply wN;apply u
 refine O.zR y fun K u=>?_
 refine wC rfl fun K v=>?_;simp [q];apply v
 obtain ⟨r2,a1,h⟩:=bS h
 refine wL [(.take,.tmp 3),(.take,.const (.int .i64 13)),(.take,.const (.int .i64 19))] rfl rfl nD (aW _ _ _ a1) fun K v=>?_;simp [q];apply v
 refine wC rfl fun K v=>?_;simp [q];apply v
 apply wN;apply u
 cases h
 refine O.ret ?_
 simp [aC,iB,res143]
theorem aHt:Tryz.f134.results.toList=[.tmp 6]:=rfl
theorem ent134:aE E.P 134:=eO Tryz.func134 (by simp [Tryz.f134]) rfl
theorem aAe (a4:Int) (i2:Int) (a9:Int) {r0:Bool} (h:lN a4 i2 a9=some r0):Ok E 134 [.val (vi a4),.val (vi i2),.val (vi a9)] [vb r0] []:=by
 refine oB Tryz.func134 rfl (by simp [Tryz.f134]) fun C (q:C.N=32) hP=>?_
 have y:=aK hP
 unfold lN at h
 refine O.zR y fun K u=>?_
 refine wC rfl fun K v=>?_;simp [q];apply v
 apply wN;apply u
 refine O.seq ?_
 refine O.block ?_
 refine O.zR y fun K u=>?_
 iterate 3 (refine wC rfl fun K v=>?_;simp [q];apply v)
 apply wN;apply u
 rcases aA h with ⟨b7,h⟩ | ⟨b8,h⟩
 ·refine O.cT' (by simp) b7 ?_
  refine O.zR y fun K u=>?_
  refine wC rfl fun K v=>?_;simp [q];apply v
  obtain ⟨r6,b9,h⟩:=bS h
  refine wL [(.take,.tmp 10)] rfl rfl ent143 (aBl _ b9) fun K v=>?_;simp [q];apply v
  refine wC rfl fun K v=>?_;simp [q];apply v
  apply wN;apply u
  cases h
  refine O.ret ?_
  simp [aC,iB,aHt]
 ·refine O.cF' (by simp) b8 ?_
  obtain ⟨c0,a6,h⟩:=bS h
  refine O.seqRC rfl (y _ rfl) [0,2,12] [] (fun _:Unit=>⟨[(0,.t (vi a4)),(2,.t (vi a9)),(12,.t (vb c0))],[]⟩) (fun _=>True) (fun _ _=>?_) fun K9 b1=>?_
  rotate_left
  ·refine wC rfl fun K v=>?_;simp [q];apply v
   iterate 2 (refine wC rfl fun K v=>?_;simp [q];apply v)
   rcases aA a6 with ⟨a7,a6⟩ | ⟨a1,a6⟩
   ·have a2:=a7
    try simp at a2
    iterate 2 (refine wO fun K v=>?_;simp [q,a7,a2];apply v)
    iterate 6 (refine wC rfl fun K v=>?_;simp [q,a7,a2];apply v)
    refine wN ?_
    cases a6
    exact b1 _ () [] trivial (by simp [q,a7,a2])
   ·have a0:=a1
    try simp at a0
    iterate 4 (refine wC rfl fun K v=>?_;simp [q,a1,a0];apply v)
    rcases aA a6 with ⟨b0,a6⟩ | ⟨a8,a6⟩
    ·have a5:=b0
     try simp at a5
     iterate 4 (refine wC rfl fun K v=>?_;simp [q,a1,a0,b0,a5];apply v)
     refine wN ?_
     cases a6
     exact b1 _ () [] trivial (by simp [q,a1,a0,b0,a5])
    ·have a3:=a8
     try simp at a3
     iterate 2 (refine wO fun K v=>?_;simp [q,a1,a0,a8,a3];apply v)
     iterate 2 (refine wC rfl fun K v=>?_;simp [q,a1,a0,a8,a3];apply v)
     refine wN ?_
     cases a6
     exact b1 _ () [] trivial (by simp [q,a1,a0,a8,a3])
  rcases aA h with ⟨b2,h⟩ | ⟨b3,h⟩
  ·refine O.cT' (by simp) b2 ?_
   refine O.zR y fun K u=>?_
   iterate 3 (refine wC rfl fun K v=>?_;simp [q];apply v)
   apply wN;apply u
   cases h
   refine O.ret ?_
   simp [aC,iB,aHt]
  ·refine O.cF' (by simp) b3 ?_
   refine O.zR y fun K u=>?_
   iterate 3 (refine wC rfl fun K v=>?_;simp [q];apply v)
   apply wN;apply u
   rcases aA h with ⟨b4,h⟩ | ⟨b5,h⟩
   ·refine O.cT' (by simp) b4 ?_
    refine O.zR y fun K u=>?_
    iterate 3 (refine wC rfl fun K v=>?_;simp [q];apply v)
    apply wN;apply u
    cases h
    refine O.ret ?_
    simp [aC,iB,aHt]
   ·refine O.cF' (by simp) b5 ?_
    refine O.skip ?_
    refine O.zR y fun K u=>?_
    refine wC rfl fun K v=>?_;simp [q];apply v
    obtain ⟨c1,b6,h⟩:=bS h
    refine wL [(.take,.tmp 30)] rfl rfl aOk (rJ _ b6) fun K v=>?_;simp [q];apply v
    refine wC rfl fun K v=>?_;simp [q];apply v
    apply wN;apply u
    cases h
    refine O.ret ?_
    simp [aC,iB,aHt]
theorem aC5:Tryz.f122.results.toList=[.tmp 4]:=rfl
theorem ent122:aE E.P 122:=eO Tryz.func122 (by simp [Tryz.f122]) rfl
theorem aBq (b7:List GNode) (k2:Int) {r0:Bool} (h:nC b7 k2=some r0):Ok E 122 [.val (.sl false 4 (List.map (GNode.enc false) b7)),.val (vi k2)] [vb r0] []:=by
 refine oB Tryz.func122 rfl (by simp [Tryz.f122]) fun C (q:C.N=101) hP=>?_
 have u:=aK hP
 unfold nC at h
 refine O.zR u fun K w=>?_
 refine wC rfl fun K r=>?_;simp [q];apply r
 apply wN;apply w
 refine O.seq ?_
 refine O.zR u fun K w=>?_
 iterate 4 (refine wC rfl fun K r=>?_;simp [q];apply r)
 obtain ⟨r3,j5,h⟩:=bS h
 refine wL [(.take,.tmp 10),(.take,.const (.int .i64 0)),(.take,.tmp 13)] rfl rfl nD (aW _ _ _ j5) fun K r=>?_;simp [q];apply r
 refine wC rfl fun K r=>?_;simp [q];apply r
 apply wN;apply w
 rcases aA h with ⟨j6,h⟩ | ⟨j7,h⟩
 ·refine O.cT' (by simp) j6 ?_
  refine O.zR u fun K w=>?_
  refine wC rfl fun K r=>?_;simp [q];apply r
  apply wN;apply w
  cases h
  refine O.ret ?_
  simp [aC,iB,aC5]
 ·refine O.cF' (by simp) j7 ?_
  refine O.skip ?_
  refine O.zR u fun K w=>?_
  iterate 2 (refine wC rfl fun K r=>?_;simp [q];apply r)
  obtain ⟨e7,j8,h⟩:=bS h
  obtain ⟨g8,g9,h0,h1⟩:=gS j8
  iterate 4 (refine wC rfl fun K r=>?_;simp [q,g8,g9,h0,h1];apply r)
  apply wN;apply w
  refine O.zR u fun K w=>?_
  iterate 2 (refine wC rfl fun K r=>?_;simp [q];apply r)
  obtain ⟨⟨r8,r9⟩,h2,h⟩:=bS h
  try dsimp only at h
  refine wL [(.take,.tmp 22)] rfl rfl ent133 (aDv _ h2) fun K r=>?_;simp [q];apply r
  iterate 5 (refine wC rfl fun K r=>?_;simp [q];apply r)
  apply wN;apply w
  refine O.seq ?_
  obtain ⟨j9,c9,h⟩:=bS h
  refine O.seqRC rfl (u _ rfl) [0,1,5,38] [5] (fun _:Unit=>⟨[(0,.t (.sl false 4 (List.map (GNode.enc false) b7))),(1,.t (vi k2)),(5,.ref (.box 5) 0 []),(38,.t (vb j9))],[(5,[vi e7.Kind,vi e7.Num,vs e7.Name,.sl false 1 (List.map vi e7.Kids)])]⟩) (fun _=>True) (fun _ _=>?_) fun k6 e8=>?_
  rotate_left
  ·refine wC rfl fun K r=>?_;simp [q];apply r
   refine wC rfl fun K r=>?_;simp [q];apply r
   obtain ⟨k7,h3,c9⟩:=bS c9
   refine wL [(.take,.tmp 27),(.take,.const (.int .i64 1)),(.take,.const (.int .i64 20))] rfl rfl nD (aW _ _ _ h3) fun K r=>?_;simp [q];apply r
   iterate 2 (refine wC rfl fun K r=>?_;simp [q];apply r)
   rcases aA c9 with ⟨d7,c9⟩ | ⟨d6,c9⟩
   ·have d1:=d7
    try simp at d1
    iterate 7 (refine wO fun K r=>?_;simp [q,d7,d1];apply r)
    refine wC rfl fun K r=>?_;simp [q,d7,d1];apply r
    refine wN ?_
    cases c9
    exact e8 _ () [] trivial (by simp [q,d7,d1])
   ·have d0:=d6
    try simp at d0
    iterate 5 (refine wC rfl fun K r=>?_;simp [q,d6,d0];apply r)
    obtain ⟨k8,h4,c9⟩:=bS c9
    refine wL [(.take,.tmp 33),(.take,.tmp 34),(.take,.tmp 35)] rfl rfl nD (aW _ _ _ h4) fun K r=>?_;simp [q,d6,d0];apply r
    iterate 2 (refine wC rfl fun K r=>?_;simp [q,d6,d0];apply r)
    refine wN ?_
    cases c9
    exact e8 _ () [] trivial (by simp [q,d6,d0])
  rcases aA h with ⟨h5,h⟩ | ⟨h6,h⟩
  ·refine O.cT' (by simp) h5 ?_
   refine O.zR u fun K w=>?_
   refine wC rfl fun K r=>?_;simp [q];apply r
   apply wN;apply w
   cases h
   refine O.ret ?_
   simp [aC,iB,aC5]
  ·refine O.cF' (by simp) h6 ?_
   refine O.skip ?_
   obtain ⟨k0,h7,h⟩:=bS h
   refine O.seqC [5] [5] (fun v:Unit=>⟨[(5,.ref (.box 5) 0 [])],[(5,[vi e7.Kind,vi e7.Num,vs e7.Name,.sl false 1 (List.map vi e7.Kids)])]⟩) (fun v=>k0=Sum.inl v) (fun v hv=>?_) fun k9 h8=>?_
   rotate_left
   ·refine O.zR u fun K w=>?_
    iterate 4 (refine wC rfl fun K r=>?_;simp [q];apply r)
    apply wN;apply w
    refine O.block ?_
    refine O.loopO [] [0,1,5,40,41,42] [5] (fun v:Int=>⟨[(0,.t (.sl false 4 (List.map (GNode.enc false) b7))),(1,.t (vi k2)),(5,.ref (.box 5) 0 []),(40,.t (.sl false 1 (List.map vi e7.Kids))),(41,.t (vi (e7.Kids.length:Int))),(42,.t (vi v))],[(5,[vi e7.Kind,vi e7.Num,vs e7.Name,.sl false 1 (List.map vi e7.Kids)])]⟩) (gI b7 k2 e7) _ 0 h7 (by simp [q]) ?_
    intro g l0 d2 e9
    obtain ⟨g0,hg⟩:∃ y,y=g:=⟨_,rfl⟩
    subst hg
    simp only [gI] at d2
    try dsimp only
    refine O.zR u fun K w=>?_
    refine wC rfl fun K r=>?_;simp [q];apply r
    apply wN;apply w
    refine O.seq ?_
    rcases aA d2 with ⟨h9,d2⟩ | ⟨i0,d2⟩
    ·refine O.cT' (by simp) h9 ?_
     refine O.skip ?_
     refine O.seq ?_
     refine O.block ?_
     refine O.zR u fun K w=>?_
     refine wC rfl fun K r=>?_;simp [q];apply r
     obtain ⟨e5,i1,d2⟩:=bS d2
     obtain ⟨g1,g2,g3,g4⟩:=gS i1
     iterate 4 (refine wC rfl fun K r=>?_;simp [q,g1,g2,g3,g4];apply r)
     apply wN;apply w
     obtain ⟨k1,b2,d2⟩:=bS d2
     refine O.seqC [0,1,5,40,41,42,71] [5] (fun _:Unit=>⟨[(0,.t (.sl false 4 (List.map (GNode.enc false) b7))),(1,.t (vi k2)),(5,.ref (.box 5) 0 []),(40,.t (.sl false 1 (List.map vi e7.Kids))),(41,.t (vi (e7.Kids.length:Int))),(42,.t (vi g0)),(71,.t (vb k1))],[(5,[vi e7.Kind,vi e7.Num,vs e7.Name,.sl false 1 (List.map vi e7.Kids)])]⟩) (fun _=>True) (fun _ _=>?_) fun l1 e1=>?_
     rotate_left
     ·obtain ⟨d8,e2,b2⟩:=bS b2
      rcases aA b2 with ⟨c5,b2⟩ | ⟨b1,b2⟩
      ·have b5:=c5
       try simp at b5
       refine O.dT rfl (u _ rfl) [(47,.t (vi e5)),(48,.t (vi k2)),(49,.t (vi (IntKind.wrap .i64 (k2 - 1)))),(50,.t (vb d8)),(51,.t (vb (!d8))),(52,.t (vb (!d8))),(53,.tup []),(54,.tup []),(55,.tup []),(56,.tup []),(57,.tup []),(58,.tup []),(59,.t (vb true)),(60,.t (vb true)),(61,.tup []),(62,.tup []),(63,.tup []),(64,.tup []),(65,.tup []),(66,.tup []),(67,.tup []),(68,.tup [])] [[],[],[1],[0,1,2],[0,1,2,3],[0,1,2,3,4],[0,1,2,3,4,5],[0,1,2,3,4,5,6],[0,1,2,3,4,5],[0,1,2,3,4,5,6,7,8],[0,1,2,3,4,5],[0,1,2,3,4,5,6,7,8,9,10],[0,1,2,3,4,5,6,7,8,9,10,11],[0,1,2,3,4,5,6,7,8,9,10,11,12],[0,1,2,3,4,5,6,7,8,9,10,11,12,13],[0,1,2,3,4,5,6,7,8,9,10,11,12,13,14],[0,1,2,3,4,5,6,7,8,9,10,11,12,13],[0,1,2,3,4,5,6,7,8,9,10,11,12,13],[0,1,2,3,4,5,6,7,8,9,10,11,12,13],[0,1,2,3,4,5,6,7,8,9,10,11,12,13,17,18],[0,1,2,3,4,5,6,7,8,9,10,11,12,13,17,18,19],[0,1,2,3,4,5,6,7,8,9,10,11,12,13,17,18,19,20],[0,1,2,3,4,5,6,7,8,9,10,11,12,13,14,15,16,17,18,19,20,21],[0,1,2,3,4,5,6,7,8,9,10,11,12,13,14,15,16,17,18,19,20,21,22],[0,1,2,3,4,5,6,7,8,9,10,11,12,13,14,15,16,17,18,19,20,21,22,23]] (by simp) (by simp) (by simp [look]) rfl rfl rfl ?_ fun K w=>?_
       ·refine ⟨?_,?_,?_,?_,?_,?_,?_,?_,?_,?_,?_,?_,?_,?_,?_,?_,?_,?_,?_,?_,?_,?_,trivial⟩
        all_goals (intro τ hbx hb hd hf K w;try simp [aH] at hd;simp [aH] at hf;first | (refine wC rfl fun K' z=>?_;simp [q,hbx,hb,hd,hf,c5,b5];exact z _ (wN (w _ (by simp [aH,hbx,c5,b5])))) | (refine wL [(.take,.tmp 47),(.take,.const (.int .i64 0)),(.take,.tmp 49)] rfl rfl nD (aW _ _ _ e2) fun K' z=>?_;simp [q,hbx,hb,hd,hf,c5,b5];exact z _ (wN (w _ (by simp [aH,hbx,c5,b5])))) | (refine wO fun K' z=>?_;simp [q,hbx,hb,hd,hf,c5,b5];exact z _ (wN (w _ (by simp [aH,hbx,c5,b5])))))
       iterate 2 (refine wO fun K r=>?_;simp [q,c5,b5];apply r)
       refine wC rfl fun K r=>?_;simp [q,c5,b5];apply r
       apply wN;apply w
       cases b2
       exact e1 _ () [] trivial (by simp [q,c5,b5])
      ·have a0:=b1
       try simp at a0
       obtain ⟨i2,i3,b2⟩:=bS b2
       obtain ⟨a3,a4,a5,a6,g5,a7,a8,a9⟩:=aKe i3
       have a1:(List.map vi e7.Kids).take g0.toNat=List.map vi i2:=by subst g5;simp
       have a2:=a1;try simp at a2
       have b0:0 ≤ e7.Kids.length:=by omega
       obtain ⟨e6,g6,b2⟩:=bS b2
       rcases aA b2 with ⟨c2,b2⟩ | ⟨c6,b2⟩
       ·have b3:=c2
        try simp at b3
        refine O.dT rfl (u _ rfl) [(47,.t (vi e5)),(48,.t (vi k2)),(49,.t (vi (IntKind.wrap .i64 (k2 - 1)))),(50,.t (vb d8)),(51,.t (vb (!d8))),(52,.t (vb (!d8))),(53,.ref (.box 5) 3 []),(54,.t (.sl false 1 (List.map vi e7.Kids))),(55,.t (vi g0)),(56,.t (.sl false 1 (List.map vi i2))),(57,.t (vi e5)),(58,.t (vb e6)),(59,.t (vb e6)),(60,.t (vb e6)),(61,.tup []),(62,.tup []),(63,.tup []),(64,.tup []),(65,.tup []),(66,.tup []),(67,.tup []),(68,.tup [])] [[],[],[1],[0,1,2],[0,1,2,3],[0,1,2,3,4],[0,1,2,3,4,5],[0,1,2,3,4,5,6],[0,1,2,3,4,5],[0,1,2,3,4,5,6,7,8],[0,1,2,3,4,5],[0,1,2,3,4,5,6,7,8,9,10],[0,1,2,3,4,5,6,7,8,9,10,11],[0,1,2,3,4,5,6,7,8,9,10,11,12],[0,1,2,3,4,5,6,7,8,9,10,11,12,13],[0,1,2,3,4,5,6,7,8,9,10,11,12,13,14],[0,1,2,3,4,5,6,7,8,9,10,11,12,13],[0,1,2,3,4,5,6,7,8,9,10,11,12,13],[0,1,2,3,4,5,6,7,8,9,10,11,12,13],[0,1,2,3,4,5,6,7,8,9,10,11,12,13,17,18],[0,1,2,3,4,5,6,7,8,9,10,11,12,13,17,18,19],[0,1,2,3,4,5,6,7,8,9,10,11,12,13,17,18,19,20],[0,1,2,3,4,5,6,7,8,9,10,11,12,13,14,15,16,17,18,19,20,21],[0,1,2,3,4,5,6,7,8,9,10,11,12,13,14,15,16,17,18,19,20,21,22],[0,1,2,3,4,5,6,7,8,9,10,11,12,13,14,15,16,17,18,19,20,21,22,23]] (by simp) (by simp) (by simp [look]) rfl rfl rfl ?_ fun K w=>?_
        ·refine ⟨?_,?_,?_,?_,?_,?_,?_,?_,?_,?_,?_,?_,?_,?_,?_,?_,?_,?_,?_,?_,?_,?_,trivial⟩
         all_goals (intro τ hbx hb hd hf K w;try simp [aH] at hd;simp [aH] at hf;first | (refine wC rfl fun K' z=>?_;simp [q,hbx,hb,hd,hf,b1,a0,a3,a4,a5,a6,a1,a7,a8,a9,a2,b0,c2,b3];exact z _ (wN (w _ (by simp [aH,hbx,b1,a0,a3,a4,a5,a6,a1,a7,a8,a9,a2,b0,c2,b3])))) | (refine wL [(.take,.tmp 47),(.take,.const (.int .i64 0)),(.take,.tmp 49)] rfl rfl nD (aW _ _ _ e2) fun K' z=>?_;simp [q,hbx,hb,hd,hf,b1,a0,a3,a4,a5,a6,a1,a7,a8,a9,a2,b0,c2,b3];exact z _ (wN (w _ (by simp [aH,hbx,b1,a0,a3,a4,a5,a6,a1,a7,a8,a9,a2,b0,c2,b3])))) | (refine wL [(.take,.tmp 56),(.take,.tmp 57)] rfl rfl aIn (kP _ _ g6) fun K' z=>?_;simp [q,hbx,hb,hd,hf,b1,a0,a3,a4,a5,a6,a1,a7,a8,a9,a2,b0,c2,b3];exact z _ (wN (w _ (by simp [aH,hbx,b1,a0,a3,a4,a5,a6,a1,a7,a8,a9,a2,b0,c2,b3])))) | (refine wO fun K' z=>?_;simp [q,hbx,hb,hd,hf,b1,a0,a3,a4,a5,a6,a1,a7,a8,a9,a2,b0,c2,b3];exact z _ (wN (w _ (by simp [aH,hbx,b1,a0,a3,a4,a5,a6,a1,a7,a8,a9,a2,b0,c2,b3])))))
        iterate 2 (refine wO fun K r=>?_;simp [q,b1,a0,a3,a4,a5,a6,a1,a7,a8,a9,a2,b0,c2,b3];apply r)
        refine wC rfl fun K r=>?_;simp [q,b1,a0,a3,a4,a5,a6,a1,a7,a8,a9,a2,b0,c2,b3];apply r
        apply wN;apply w
        cases b2
        exact e1 _ () [] trivial (by simp [q,b1,a0,a3,a4,a5,a6,a1,a7,a8,a9,a2,b0,c2,b3])
       ·have b6:=c6
        try simp at b6
        obtain ⟨d9,i4,b2⟩:=bS b2
        obtain ⟨b8,b9,c0,c1⟩:=gS i4
        refine O.dT rfl (u _ rfl) [(47,.t (vi e5)),(48,.t (vi k2)),(49,.t (vi (IntKind.wrap .i64 (k2 - 1)))),(50,.t (vb d8)),(51,.t (vb (!d8))),(52,.t (vb (!d8))),(53,.ref (.box 5) 3 []),(54,.t (.sl false 1 (List.map vi e7.Kids))),(55,.t (vi g0)),(56,.t (.sl false 1 (List.map vi i2))),(57,.t (vi e5)),(58,.t (vb e6)),(59,.t (vb e6)),(60,.t (vb e6)),(61,.ref (.box 5) 0 []),(62,.t (vi e7.Kind)),(63,.t (vi g0)),(64,.t (.sl false 4 (List.map (GNode.enc false) b7))),(65,.t (vi e5)),(66,.rop [vi d9.Kind,vi d9.Num,vs d9.Name,.sl false 1 (List.map vi d9.Kids)] 0),(67,.rop [vi d9.Kind,vi d9.Num,vs d9.Name,.sl false 1 (List.map vi d9.Kids)] 0),(68,.t (vi d9.Kind))] [[],[],[1],[0,1,2],[0,1,2,3],[0,1,2,3,4],[0,1,2,3,4,5],[0,1,2,3,4,5,6],[0,1,2,3,4,5],[0,1,2,3,4,5,6,7,8],[0,1,2,3,4,5],[0,1,2,3,4,5,6,7,8,9,10],[0,1,2,3,4,5,6,7,8,9,10,11],[0,1,2,3,4,5,6,7,8,9,10,11,12],[0,1,2,3,4,5,6,7,8,9,10,11,12,13],[0,1,2,3,4,5,6,7,8,9,10,11,12,13,14],[0,1,2,3,4,5,6,7,8,9,10,11,12,13],[0,1,2,3,4,5,6,7,8,9,10,11,12,13],[0,1,2,3,4,5,6,7,8,9,10,11,12,13],[0,1,2,3,4,5,6,7,8,9,10,11,12,13,17,18],[0,1,2,3,4,5,6,7,8,9,10,11,12,13,17,18,19],[0,1,2,3,4,5,6,7,8,9,10,11,12,13,17,18,19,20],[0,1,2,3,4,5,6,7,8,9,10,11,12,13,14,15,16,17,18,19,20,21],[0,1,2,3,4,5,6,7,8,9,10,11,12,13,14,15,16,17,18,19,20,21,22],[0,1,2,3,4,5,6,7,8,9,10,11,12,13,14,15,16,17,18,19,20,21,22,23]] (by simp) (by simp) (by simp [look]) rfl rfl rfl ?_ fun K w=>?_
        ·refine ⟨?_,?_,?_,?_,?_,?_,?_,?_,?_,?_,?_,?_,?_,?_,?_,?_,?_,?_,?_,?_,?_,?_,trivial⟩
         all_goals (intro τ hbx hb hd hf K w;try simp [aH] at hd;simp [aH] at hf;first | (refine wC rfl fun K' z=>?_;simp [q,hbx,hb,hd,hf,b1,a0,a3,a4,a5,a6,a1,a7,a8,a9,a2,b0,c6,b6,b8,b9,c0,c1];exact z _ (wN (w _ (by simp [aH,hbx,b1,a0,a3,a4,a5,a6,a1,a7,a8,a9,a2,b0,c6,b6,b8,b9,c0,c1])))) | (refine wL [(.take,.tmp 47),(.take,.const (.int .i64 0)),(.take,.tmp 49)] rfl rfl nD (aW _ _ _ e2) fun K' z=>?_;simp [q,hbx,hb,hd,hf,b1,a0,a3,a4,a5,a6,a1,a7,a8,a9,a2,b0,c6,b6,b8,b9,c0,c1];exact z _ (wN (w _ (by simp [aH,hbx,b1,a0,a3,a4,a5,a6,a1,a7,a8,a9,a2,b0,c6,b6,b8,b9,c0,c1])))) | (refine wL [(.take,.tmp 56),(.take,.tmp 57)] rfl rfl aIn (kP _ _ g6) fun K' z=>?_;simp [q,hbx,hb,hd,hf,b1,a0,a3,a4,a5,a6,a1,a7,a8,a9,a2,b0,c6,b6,b8,b9,c0,c1];exact z _ (wN (w _ (by simp [aH,hbx,b1,a0,a3,a4,a5,a6,a1,a7,a8,a9,a2,b0,c6,b6,b8,b9,c0,c1])))))
        obtain ⟨l2,i5,b2⟩:=bS b2
        refine wL [(.take,.tmp 62),(.take,.tmp 63),(.take,.tmp 68)] rfl rfl ent134 (aAe _ _ _ i5) fun K r=>?_;simp [q,b1,a0,a3,a4,a5,a6,a1,a7,a8,a9,a2,b0,c6,b6,b8,b9,c0,c1];apply r
        iterate 2 (refine wC rfl fun K r=>?_;simp [q,b1,a0,a3,a4,a5,a6,a1,a7,a8,a9,a2,b0,c6,b6,b8,b9,c0,c1];apply r)
        apply wN;apply w
        cases b2
        exact e1 _ () [] trivial (by simp [q,b1,a0,a3,a4,a5,a6,a1,a7,a8,a9,a2,b0,c6,b6,b8,b9,c0,c1])
     rcases aA d2 with ⟨i6,d2⟩ | ⟨i7,d2⟩
     ·refine O.cT' (by simp) i6 ?_
      refine O.zR u fun K w=>?_
      refine wC rfl fun K r=>?_;simp [q];apply r
      apply wN;apply w
      have k3:=congrArg some (e9 _ (Option.some.inj d2).symm)
      cases k3
      try dsimp only at h
      cases h
      refine O.ret ?_
      simp [aC,iB,aC5]
     ·refine O.cF' (by simp) i7 ?_
      refine O.skip ?_
      refine O.zG u fun K w=>?_
      iterate 2 (refine wC rfl fun K r=>?_;simp [q];apply r)
      apply wN;apply w
      cases d2
      exact ⟨_,[],rfl,by simp [q]⟩
    ·refine O.cF' (by simp) i0 ?_
     refine O.exit ?_
     have k4:=congrArg some (e9 _ (Option.some.inj d2).symm)
     cases k4
     exact h8 _ _ [] rfl (by simp [q])
   subst hv
   obtain ⟨⟩:=v
   try dsimp only at h ⊢
   refine O.seq ?_
   obtain ⟨k5,c4,h⟩:=bS h
   refine O.seqRC rfl (u _ rfl) [5,91] [5] (fun _:Unit=>⟨[(5,.ref (.box 5) 0 []),(91,.t (vb k5))],[(5,[vi e7.Kind,vi e7.Num,vs e7.Name,.sl false 1 (List.map vi e7.Kids)])]⟩) (fun _=>True) (fun _ _=>?_) fun l3 e3=>?_
   rotate_left
   ·refine wC rfl fun K r=>?_;simp [q];apply r
    iterate 3 (refine wC rfl fun K r=>?_;simp [q];apply r)
    rcases aA c4 with ⟨c3,c4⟩ | ⟨d4,c4⟩
    ·have b4:=c3
     try simp at b4
     iterate 2 (refine wC rfl fun K r=>?_;simp [q,c3,b4];apply r)
     obtain ⟨l4,i8,c4⟩:=bS c4
     refine wL [(.take,.tmp 78),(.take,.const (.int .i64 0)),(.take,.const (.int .i64 1000000000))] rfl rfl nD (aW _ _ _ i8) fun K r=>?_;simp [q,c3,b4];apply r
     iterate 3 (refine wC rfl fun K r=>?_;simp [q,c3,b4];apply r)
     rcases aA c4 with ⟨e0,c4⟩ | ⟨d5,c4⟩
     ·have d3:=e0
      try simp at d3
      iterate 8 (refine wO fun K r=>?_;simp [q,c3,b4,e0,d3];apply r)
      refine wC rfl fun K r=>?_;simp [q,c3,b4,e0,d3];apply r
      refine wN ?_
      cases c4
      exact e3 _ () [] trivial (by simp [q,c3,b4,e0,d3])
     ·have c7:=d5
      try simp at c7
      iterate 4 (refine wC rfl fun K r=>?_;simp [q,c3,b4,d5,c7];apply r)
      have e4:(e7.Kind != 1)=false:=by simp [c3,b4,d5,c7]
      iterate 3 (refine wO fun K r=>?_;simp [q,c3,b4,d5,c7,e4];apply r)
      iterate 2 (refine wC rfl fun K r=>?_;simp [q,c3,b4,d5,c7,e4];apply r)
      refine wN ?_
      cases c4
      exact e3 _ () [] trivial (by simp [q,c3,b4,d5,c7,e4])
    ·have c8:=d4
     try simp at c8
     iterate 4 (refine wO fun K r=>?_;simp [q,d4,c8];apply r)
     iterate 6 (refine wC rfl fun K r=>?_;simp [q,d4,c8];apply r)
     have g7:(e7.Kind != 1)=true:=by simp [d4,c8]
     iterate 5 (refine wC rfl fun K r=>?_;simp [q,d4,c8,g7];apply r)
     refine wN ?_
     cases c4
     exact e3 _ () [] trivial (by simp [q,d4,c8,g7])
   rcases aA h with ⟨i9,h⟩ | ⟨j0,h⟩
   ·refine O.cT' (by simp) i9 ?_
    refine O.zR u fun K w=>?_
    refine wC rfl fun K r=>?_;simp [q];apply r
    apply wN;apply w
    cases h
    refine O.ret ?_
    simp [aC,iB,aC5]
   ·refine O.cF' (by simp) j0 ?_
    refine O.skip ?_
    refine O.seq ?_
    refine O.zR u fun K w=>?_
    iterate 2 (refine wC rfl fun K r=>?_;simp [q];apply r)
    obtain ⟨l5,j1,h⟩:=bS h
    refine wL [(.take,.tmp 93)] rfl rfl ent98 (rL _ j1) fun K r=>?_;simp [q];apply r
    apply wN;apply w
    rcases aA h with ⟨j2,h⟩ | ⟨j3,h⟩
    ·refine O.cT' (by simp) j2 ?_
     refine O.zR u fun K w=>?_
     iterate 2 (refine wC rfl fun K r=>?_;simp [q];apply r)
     obtain ⟨l6,j4,h⟩:=bS h
     refine wL [(.take,.tmp 96)] rfl rfl aLt (nZ _ j4) fun K r=>?_;simp [q];apply r
     refine wC rfl fun K r=>?_;simp [q];apply r
     apply wN;apply w
     cases h
     refine O.ret ?_
     simp [aC,iB,aC5]
    ·refine O.cF' (by simp) j3 ?_
     refine O.skip ?_
     refine O.zR u fun K w=>?_
     iterate 4 (refine wC rfl fun K r=>?_;simp [q];apply r)
     apply wN;apply w
     cases h
     refine O.ret ?_
     simp [aC,iB,aC5]
theorem aHu:Tryz.f106.results.toList=[.tmp 4,.tmp 5]:=rfl
theorem ent106:aE E.P 106:=eO Tryz.func106 (by simp [Tryz.f106]) rfl
theorem aBn (a0:List GNode) (k2:Int) {r0:List Int} {r1:Bool} (h:nA a0 k2=some (r0,r1)):Ok E 106 [.val (.sl false 4 (List.map (GNode.enc false) a0)),.val (vi k2)] [.sl true 1 (List.map vi r0),vb r1] []:=by
 refine oB Tryz.func106 rfl (by simp [Tryz.f106]) fun C (q:C.N=51) hP=>?_
 have u:=aK hP
 unfold nA at h
 refine O.zR u fun K w=>?_
 iterate 2 (refine wC rfl fun K z=>?_;simp [q];apply z)
 apply wN;apply w
 refine O.seq ?_
 refine O.zR u fun K w=>?_
 iterate 4 (refine wC rfl fun K z=>?_;simp [q];apply z)
 obtain ⟨r3,e4,h⟩:=bS h
 refine wL [(.take,.tmp 11),(.take,.const (.int .i64 0)),(.take,.tmp 14)] rfl rfl nD (aW _ _ _ e4) fun K z=>?_;simp [q];apply z
 refine wC rfl fun K z=>?_;simp [q];apply z
 apply wN;apply w
 rcases aA h with ⟨e5,h⟩ | ⟨e6,h⟩
 ·refine O.cT' (by simp) e5 ?_
  refine O.zR u fun K w=>?_
  iterate 2 (refine wC rfl fun K z=>?_;simp [q];apply z)
  apply wN;apply w
  cases h
  refine O.ret ?_
  simp [aC,iB,aHu]
 ·refine O.cF' (by simp) e6 ?_
  refine O.skip ?_
  refine O.zR u fun K w=>?_
  refine wC rfl fun K z=>?_;simp [q];apply z
  apply wN;apply w
  obtain ⟨j9,e7,h⟩:=bS h
  refine O.seqC [6] [] (fun v:List Int=>⟨[(6,.t (.sl true 1 (List.map vi v)))],[]⟩) (fun v=>j9=Sum.inl v) (fun v hv=>?_) fun K8 e8=>?_
  rotate_left
  ·refine O.zR u fun K w=>?_
   refine wC rfl fun K z=>?_;simp [q];apply z
   apply wN;apply w
   refine O.block ?_
   refine O.loopO [] [0,1,6,7] [] (fun v:(List Int) × Int=>⟨[(0,.t (.sl false 4 (List.map (GNode.enc false) a0))),(1,.t (vi k2)),(6,.t (.sl true 1 (List.map vi v.1))),(7,.t (vi v.2))],[]⟩) (gF a0 k2) _ ([],0) e7 (by simp [q]) ?_
   intro g g5 a3 a8
   obtain ⟨a2,c3⟩:=g
   simp only [gF] at a3
   try dsimp only
   refine O.seq ?_
   refine O.zR u fun K w=>?_
   iterate 3 (refine wC rfl fun K z=>?_;simp [q];apply z)
   apply wN;apply w
   rcases aA a3 with ⟨c4,a3⟩ | ⟨c5,a3⟩
   ·refine O.cT' (by simp) c4 ?_
    refine O.skip ?_
    obtain ⟨e9,a1,a3⟩:=bS a3
    refine O.seqC [0,1,6,7] [] (fun v:List Int=>⟨[(0,.t (.sl false 4 (List.map (GNode.enc false) a0))),(1,.t (vi k2)),(6,.t (.sl true 1 (List.map vi v))),(7,.t (vi c3))],[]⟩) (fun v=>e9=Sum.inl v) (fun v hv=>?_) fun g6 c6=>?_
    rotate_left
    ·refine O.block ?_
     refine O.seq ?_
     refine O.zR u fun K w=>?_
     iterate 2 (refine wC rfl fun K z=>?_;simp [q];apply z)
     obtain ⟨g7,c7,a1⟩:=bS a1
     refine wL [(.take,.tmp 22),(.take,.tmp 23)] rfl rfl ent122 (aBq _ _ c7) fun K z=>?_;simp [q];apply z
     refine wC rfl fun K z=>?_;simp [q];apply z
     apply wN;apply w
     rcases aA a1 with ⟨c8,a1⟩ | ⟨c9,a1⟩
     ·refine O.cT' (by simp) c8 ?_
      refine O.zR u fun K w=>?_
      iterate 2 (refine wC rfl fun K z=>?_;simp [q];apply z)
      apply wN;apply w
      cases a1
      try dsimp only at a3
      have g0:=congrArg some (a8 _ (Option.some.inj a3).symm)
      cases g0
      try dsimp only at h
      cases h
      refine O.ret ?_
      simp [aC,iB,aHu]
     ·refine O.cF' (by simp) c9 ?_
      refine O.skip ?_
      refine O.zR u fun K w=>?_
      refine wC rfl fun K z=>?_;simp [q];apply z
      apply wN;apply w
      obtain ⟨e1,a9,a1⟩:=bS a1
      refine O.seqC [0,1,6,7,8] [] (fun _:Unit=>⟨[(0,.t (.sl false 4 (List.map (GNode.enc false) a0))),(1,.t (vi k2)),(6,.t (.sl true 1 (List.map vi a2))),(7,.t (vi c3)),(8,.t (vi e1))],[]⟩) (fun _=>True) (fun _ _=>?_) fun g8 d0=>?_
      rotate_left
      ·refine O.zR u fun K w=>?_
       iterate 2 (refine wC rfl fun K z=>?_;simp [q];apply z)
       obtain ⟨d1,d2,a9⟩:=bS a9
       obtain ⟨b0,b1,b2,b3⟩:=gS d2
       iterate 5 (refine wC rfl fun K z=>?_;simp [q,b0,b1,b2,b3];apply z)
       apply wN;apply w
       refine O.block ?_
       refine O.loopO [] [0,1,6,7,8,30,31,32] [] (fun v:Int × Int=>⟨[(0,.t (.sl false 4 (List.map (GNode.enc false) a0))),(1,.t (vi k2)),(6,.t (.sl true 1 (List.map vi a2))),(7,.t (vi c3)),(8,.t (vi v.1)),(30,.t (.sl false 1 (List.map vi d1.Kids))),(31,.t (vi (d1.Kids.length:Int))),(32,.t (vi v.2))],[]⟩) (eL a2 d1) _ (1,0) a9 (by simp [q]) ?_
       intro g g9 a4 d3
       obtain ⟨h0,h1⟩:=g
       simp only [eL] at a4
       try dsimp only
       refine O.zR u fun K w=>?_
       refine wC rfl fun K z=>?_;simp [q];apply z
       apply wN;apply w
       refine O.seq ?_
       rcases aA a4 with ⟨d4,a4⟩ | ⟨d5,a4⟩
       ·refine O.cT' (by simp) d4 ?_
        refine O.skip ?_
        refine O.seq ?_
        refine O.block ?_
        refine O.zR u fun K w=>?_
        obtain ⟨h2,d6,a4⟩:=bS a4
        obtain ⟨b4,b5,b6,b7⟩:=gS d6
        iterate 3 (refine wC rfl fun K z=>?_;simp [q,b4,b5,b6,b7];apply z)
        apply wN;apply w
        refine O.zG u fun K w=>?_
        iterate 3 (refine wC rfl fun K z=>?_;simp [q];apply z)
        obtain ⟨h3,d7,a4⟩:=bS a4
        obtain ⟨b8,b9,c0,c1⟩:=gS d7
        iterate 5 (refine wC rfl fun K z=>?_;simp [q,b8,b9,c0,c1];apply z)
        apply wN;apply w
        refine O.zG u fun K w=>?_
        iterate 2 (refine wC rfl fun K z=>?_;simp [q];apply z)
        apply wN;apply w
        cases a4
        exact ⟨_,[],rfl,by simp [q]⟩
       ·refine O.cF' (by simp) d5 ?_
        refine O.exit ?_
        have g1:=congrArg some (d3 _ (Option.some.inj a4).symm)
        cases g1
        exact d0 _ () [] trivial (by simp [q])
      refine O.seq ?_
      refine O.zR u fun K w=>?_
      iterate 2 (refine wC rfl fun K z=>?_;simp [q];apply z)
      apply wN;apply w
      rcases aA a1 with ⟨d8,a1⟩ | ⟨d9,a1⟩
      ·refine O.cT' (by simp) d8 ?_
       refine O.zR u fun K w=>?_
       iterate 2 (refine wC rfl fun K z=>?_;simp [q];apply z)
       apply wN;apply w
       cases a1
       try dsimp only at a3
       have g2:=congrArg some (a8 _ (Option.some.inj a3).symm)
       cases g2
       try dsimp only at h
       cases h
       refine O.ret ?_
       simp [aC,iB,aHu]
      ·refine O.cF' (by simp) d9 ?_
       refine O.skip ?_
       refine O.zG u fun K w=>?_
       iterate 3 (refine wC rfl fun K z=>?_;simp [q];apply z)
       obtain ⟨g3,e0,a1⟩:=bS a1
       obtain ⟨a5,a6,c2⟩:=aS e0
       have a7:List.map vi a2 ++ List.map vi [e1]=List.map vi g3:=dW (f:=vi) c2
       simp [eSl] at a5 a6 a7
       iterate 2 (refine wC rfl fun K z=>?_;simp [q,a5,a6,a7];apply z)
       apply wN;apply w
       cases a1
       exact c6 _ _ [] rfl (by simp [q])
    subst hv
    obtain ⟨e2,hv⟩:∃ y,y=v:=⟨_,rfl⟩
    subst hv
    try dsimp only at a3 ⊢
    refine O.zG u fun K w=>?_
    iterate 3 (refine wC rfl fun K z=>?_;simp [q];apply z)
    apply wN;apply w
    cases a3
    exact ⟨_,[],rfl,by simp [q]⟩
   ·refine O.cF' (by simp) c5 ?_
    refine O.exit ?_
    have g4:=congrArg some (a8 _ (Option.some.inj a3).symm)
    cases g4
    exact e8 _ _ [] rfl (by simp [q])
  subst hv
  obtain ⟨e3,hv⟩:∃ y,y=v:=⟨_,rfl⟩
  subst hv
  try dsimp only at h ⊢
  refine O.zR u fun K w=>?_
  iterate 3 (refine wC rfl fun K z=>?_;simp [q];apply z)
  apply wN;apply w
  cases h
  refine O.ret ?_
  simp [aC,iB,aHu]
theorem res87:Tryz.f87.results.toList=[.tmp 4]:=rfl
theorem aNu:aE E.P 87:=eO Tryz.func87 (by simp [Tryz.f87]) rfl
theorem kQ (a0:List GNode) (k2:Int) {r0:Int} (h:gU a0 k2=some r0):Ok E 87 [.val (.sl false 4 (List.map (GNode.enc false) a0)),.val (vi k2)] [vi r0] []:=by
 refine oB Tryz.func87 rfl (by simp [Tryz.f87]) fun C (q:C.N=19) hP=>?_
 have y:=aK hP
 unfold gU at h
 refine O.zR y fun K u=>?_
 refine wC rfl fun K v=>?_;simp [q];apply v
 apply wN;apply u
 refine O.zR y fun K u=>?_
 iterate 2 (refine wC rfl fun K v=>?_;simp [q];apply v)
 obtain ⟨⟨r3,r4⟩,a5,h⟩:=bS h
 try dsimp only at h
 refine wL [(.take,.tmp 8),(.take,.tmp 9)] rfl rfl ent106 (aBn _ _ a5) fun K v=>?_;simp [q];apply v
 iterate 5 (refine wC rfl fun K v=>?_;simp [q];apply v)
 apply wN;apply u
 refine O.seq ?_
 refine O.zR y fun K u=>?_
 iterate 2 (refine wC rfl fun K v=>?_;simp [q];apply v)
 apply wN;apply u
 rcases aA h with ⟨a6,h⟩ | ⟨a7,h⟩
 ·refine O.cT' (by simp) a6 ?_
  refine O.zR y fun K u=>?_
  refine wC rfl fun K v=>?_;simp [q];apply v
  apply wN;apply u
  cases h
  refine O.ret ?_
  simp [aC,iB,res87]
 ·refine O.cF' (by simp) a7 ?_
  refine O.skip ?_
  refine O.zR y fun K u=>?_
  iterate 2 (refine wC rfl fun K v=>?_;simp [q];apply v)
  obtain ⟨e8,a8,h⟩:=bS h
  obtain ⟨a1,a2,a3,a4⟩:=gS a8
  iterate 3 (refine wC rfl fun K v=>?_;simp [q,a1,a2,a3,a4];apply v)
  apply wN;apply u
  cases h
  refine O.ret ?_
  simp [aC,iB,res87]
theorem aKu:Tryz.f88.results.toList=[.tmp 4]:=rfl
theorem ent88:aE E.P 88:=eO Tryz.func88 (by simp [Tryz.f88]) rfl
theorem aFp (p1:GProgram) (f2:GFn) {r0:Bool} (h:rM p1 f2=some r0):Ok E 88 [.val (GProgram.enc false p1),.val (GFn.enc false f2)] [vb r0] []:=by
 refine oB Tryz.func88 rfl (by simp [Tryz.f88]) fun C (q:C.N=91) hP=>?_
 have u:=aK hP
 unfold rM at h
 refine O.zR u fun K w=>?_
 iterate 3 (refine wC rfl fun K z=>?_;simp [q];apply z)
 apply wN;apply w
 refine O.seq ?_
 obtain ⟨i2,a7,h⟩:=bS h
 refine O.seqRC rfl (u _ rfl) [2,3,31] [2,3] (fun _:Unit=>⟨[(2,.ref (.box 2) 0 []),(3,.ref (.box 3) 0 []),(31,.t (vb i2))],[(2,[.sl false 4 (List.map (GNode.enc false) p1.Nodes),.sl false 5 (List.map (GFn.enc false) p1.Fns)]),(3,[vs f2.Name,.sl false 2 (List.map GParam.enc f2.Params),vi f2.Res,vi f2.Body,vi f2.Ret])]⟩) (fun _=>True) (fun _ _=>?_) fun K4 e2=>?_
 rotate_left
 ·refine wC rfl fun K z=>?_;simp [q];apply z
  refine wC rfl fun K z=>?_;simp [q];apply z
  obtain ⟨r5,i3,a7⟩:=bS a7
  refine wL [(.take,.tmp 8)] rfl rfl aLt (nZ _ i3) fun K z=>?_;simp [q];apply z
  iterate 2 (refine wC rfl fun K z=>?_;simp [q];apply z)
  rcases aA a7 with ⟨e1,a7⟩ | ⟨b0,a7⟩
  ·have c4:=e1
   try simp at c4
   iterate 4 (refine wO fun K z=>?_;simp [q,e1,c4];apply z)
   iterate 2 (refine wC rfl fun K z=>?_;simp [q,e1,c4];apply z)
   iterate 13 (refine wO fun K z=>?_;simp [q,e1,c4];apply z)
   refine wC rfl fun K z=>?_;simp [q,e1,c4];apply z
   refine wN ?_
   cases a7
   exact e2 _ () [] trivial (by simp [q,e1,c4])
  ·have a1:=b0
   try simp at a1
   iterate 6 (refine wC rfl fun K z=>?_;simp [q,b0,a1];apply z)
   rcases aA a7 with ⟨g1,a7⟩ | ⟨a2,a7⟩
   ·have d3:=g1
    try simp at d3
    iterate 13 (refine wO fun K z=>?_;simp [q,b0,a1,g1,d3];apply z)
    refine wC rfl fun K z=>?_;simp [q,b0,a1,g1,d3];apply z
    refine wN ?_
    cases a7
    exact e2 _ () [] trivial (by simp [q,b0,a1,g1,d3])
   ·have a0:=a2
    try simp at a0
    iterate 4 (refine wC rfl fun K z=>?_;simp [q,b0,a1,a2,a0];apply z)
    rcases aA a7 with ⟨b6,a7⟩ | ⟨c5,a7⟩
    ·have a3:=b6
     try simp at a3
     iterate 5 (refine wC rfl fun K z=>?_;simp [q,b0,a1,a2,a0,b6,a3];apply z)
     rcases aA a7 with ⟨e0,a7⟩ | ⟨d4,a7⟩
     ·have c7:=e0
      try simp at c7
      iterate 5 (refine wC rfl fun K z=>?_;simp [q,b0,a1,a2,a0,b6,a3,e0,c7];apply z)
      refine wN ?_
      cases a7
      exact e2 _ () [] trivial (by simp [q,b0,a1,a2,a0,b6,a3,e0,c7])
     ·have b7:=d4
      try simp at b7
      iterate 3 (refine wO fun K z=>?_;simp [q,b0,a1,a2,a0,b6,a3,d4,b7];apply z)
      iterate 2 (refine wC rfl fun K z=>?_;simp [q,b0,a1,a2,a0,b6,a3,d4,b7];apply z)
      refine wN ?_
      cases a7
      exact e2 _ () [] trivial (by simp [q,b0,a1,a2,a0,b6,a3,d4,b7])
    ·have a5:=c5
     try simp at a5
     iterate 3 (refine wO fun K z=>?_;simp [q,b0,a1,a2,a0,c5,a5];apply z)
     iterate 2 (refine wC rfl fun K z=>?_;simp [q,b0,a1,a2,a0,c5,a5];apply z)
     iterate 3 (refine wO fun K z=>?_;simp [q,b0,a1,a2,a0,c5,a5];apply z)
     iterate 2 (refine wC rfl fun K z=>?_;simp [q,b0,a1,a2,a0,c5,a5];apply z)
     refine wN ?_
     cases a7
     exact e2 _ () [] trivial (by simp [q,b0,a1,a2,a0,c5,a5])
 rcases aA h with ⟨g2,h⟩ | ⟨g3,h⟩
 ·refine O.cT' (by simp) g2 ?_
  refine O.zR u fun K w=>?_
  refine wC rfl fun K z=>?_;simp [q];apply z
  apply wN;apply w
  cases h
  refine O.ret ?_
  simp [aC,iB,aKu]
 ·refine O.cF' (by simp) g3 ?_
  refine O.skip ?_
  obtain ⟨i4,g4,h⟩:=bS h
  refine O.seqC [2,3] [2,3] (fun v:Unit=>⟨[(2,.ref (.box 2) 0 []),(3,.ref (.box 3) 0 [])],[(2,[.sl false 4 (List.map (GNode.enc false) p1.Nodes),.sl false 5 (List.map (GFn.enc false) p1.Fns)]),(3,[vs f2.Name,.sl false 2 (List.map GParam.enc f2.Params),vi f2.Res,vi f2.Body,vi f2.Ret])]⟩) (fun v=>i4=Sum.inl v) (fun v hv=>?_) fun j1 g5=>?_
  rotate_left
  ·refine O.zR u fun K w=>?_
   iterate 4 (refine wC rfl fun K z=>?_;simp [q];apply z)
   apply wN;apply w
   refine O.block ?_
   refine O.loopO [] [2,3,33,34,35] [2,3] (fun v:Int=>⟨[(2,.ref (.box 2) 0 []),(3,.ref (.box 3) 0 []),(33,.t (.sl false 2 (List.map GParam.enc f2.Params))),(34,.t (vi (f2.Params.length:Int))),(35,.t (vi v))],[(2,[.sl false 4 (List.map (GNode.enc false) p1.Nodes),.sl false 5 (List.map (GFn.enc false) p1.Fns)]),(3,[vs f2.Name,.sl false 2 (List.map GParam.enc f2.Params),vi f2.Res,vi f2.Body,vi f2.Ret])]⟩) (jF f2) _ 0 g4 (by simp [q]) ?_
   intro g j2 b8 e3
   obtain ⟨i5,hg⟩:∃ y,y=g:=⟨_,rfl⟩
   subst hg
   simp only [jF] at b8
   try dsimp only
   refine O.zR u fun K w=>?_
   refine wC rfl fun K z=>?_;simp [q];apply z
   apply wN;apply w
   refine O.seq ?_
   rcases aA b8 with ⟨g6,b8⟩ | ⟨g7,b8⟩
   ·refine O.cT' (by simp) g6 ?_
    refine O.skip ?_
    refine O.seq ?_
    refine O.block ?_
    refine O.zR u fun K w=>?_
    obtain ⟨j3,g8,b8⟩:=bS b8
    obtain ⟨e4,e5,e6,e7⟩:=gS g8
    iterate 4 (refine wC rfl fun K z=>?_;simp [q,e4,e5,e6,e7];apply z)
    apply wN;apply w
    obtain ⟨i6,a8,b8⟩:=bS b8
    refine O.seqRC rfl (u _ rfl) [2,3,33,34,35,48] [2,3] (fun _:Unit=>⟨[(2,.ref (.box 2) 0 []),(3,.ref (.box 3) 0 []),(33,.t (.sl false 2 (List.map GParam.enc f2.Params))),(34,.t (vi (f2.Params.length:Int))),(35,.t (vi i5)),(48,.t (vb i6))],[(2,[.sl false 4 (List.map (GNode.enc false) p1.Nodes),.sl false 5 (List.map (GFn.enc false) p1.Fns)]),(3,[vs f2.Name,.sl false 2 (List.map GParam.enc f2.Params),vi f2.Res,vi f2.Body,vi f2.Ret])]⟩) (fun _=>True) (fun _ _=>?_) fun j4 e8=>?_
    rotate_left
    ·refine wC rfl fun K z=>?_;simp [q];apply z
     refine wC rfl fun K z=>?_;simp [q];apply z
     obtain ⟨j5,g9,a8⟩:=bS a8
     refine wL [(.take,.tmp 40)] rfl rfl aLt (nZ _ g9) fun K z=>?_;simp [q];apply z
     iterate 2 (refine wC rfl fun K z=>?_;simp [q];apply z)
     rcases aA a8 with ⟨d5,a8⟩ | ⟨c8,a8⟩
     ·have b9:=d5
      try simp at b9
      iterate 4 (refine wO fun K z=>?_;simp [q,d5,b9];apply z)
      refine wC rfl fun K z=>?_;simp [q,d5,b9];apply z
      refine wN ?_
      cases a8
      exact e8 _ () [] trivial (by simp [q,d5,b9])
     ·have b1:=c8
      try simp at b1
      iterate 2 (refine wC rfl fun K z=>?_;simp [q,c8,b1];apply z)
      obtain ⟨j6,h0,a8⟩:=bS a8
      refine wL [(.take,.tmp 45),(.take,.const (.int .i64 1)),(.take,.const (.int .i64 4))] rfl rfl nD (aW _ _ _ h0) fun K z=>?_;simp [q,c8,b1];apply z
      iterate 2 (refine wC rfl fun K z=>?_;simp [q,c8,b1];apply z)
      refine wN ?_
      cases a8
      exact e8 _ () [] trivial (by simp [q,c8,b1])
    rcases aA b8 with ⟨h1,b8⟩ | ⟨h2,b8⟩
    ·refine O.cT' (by simp) h1 ?_
     refine O.zR u fun K w=>?_
     refine wC rfl fun K z=>?_;simp [q];apply z
     apply wN;apply w
     have i7:=congrArg some (e3 _ (Option.some.inj b8).symm)
     cases i7
     try dsimp only at h
     cases h
     refine O.ret ?_
     simp [aC,iB,aKu]
    ·refine O.cF' (by simp) h2 ?_
     refine O.skip ?_
     refine O.zG u fun K w=>?_
     iterate 2 (refine wC rfl fun K z=>?_;simp [q];apply z)
     apply wN;apply w
     cases b8
     exact ⟨_,[],rfl,by simp [q]⟩
   ·refine O.cF' (by simp) g7 ?_
    refine O.exit ?_
    have i8:=congrArg some (e3 _ (Option.some.inj b8).symm)
    cases i8
    exact g5 _ _ [] rfl (by simp [q])
  subst hv
  obtain ⟨⟩:=v
  try dsimp only at h ⊢
  refine O.seq ?_
  obtain ⟨i9,a9,h⟩:=bS h
  refine O.seqRC rfl (u _ rfl) [2,3,67] [2,3] (fun _:Unit=>⟨[(2,.ref (.box 2) 0 []),(3,.ref (.box 3) 0 []),(67,.t (vb i9))],[(2,[.sl false 4 (List.map (GNode.enc false) p1.Nodes),.sl false 5 (List.map (GFn.enc false) p1.Fns)]),(3,[vs f2.Name,.sl false 2 (List.map GParam.enc f2.Params),vi f2.Res,vi f2.Body,vi f2.Ret])]⟩) (fun _=>True) (fun _ _=>?_) fun j7 e9=>?_
  rotate_left
  ·refine wC rfl fun K z=>?_;simp [q];apply z
   iterate 5 (refine wC rfl fun K z=>?_;simp [q];apply z)
   obtain ⟨j8,h3,a9⟩:=bS a9
   refine wL [(.take,.tmp 51),(.take,.const (.int .i64 0)),(.take,.tmp 55)] rfl rfl nD (aW _ _ _ h3) fun K z=>?_;simp [q];apply z
   iterate 2 (refine wC rfl fun K z=>?_;simp [q];apply z)
   rcases aA a9 with ⟨d6,a9⟩ | ⟨d7,a9⟩
   ·have c0:=d6
    try simp at c0
    iterate 8 (refine wO fun K z=>?_;simp [q,d6,c0];apply z)
    refine wC rfl fun K z=>?_;simp [q,d6,c0];apply z
    refine wN ?_
    cases a9
    exact e9 _ () [] trivial (by simp [q,d6,c0])
   ·have c1:=d7
    try simp at c1
    iterate 4 (refine wC rfl fun K z=>?_;simp [q,d7,c1];apply z)
    obtain ⟨j9,h4,a9⟩:=bS a9
    obtain ⟨d9,c9,d0,d1⟩:=gS h4
    have d2:=c9;try simp at d2
    try simp only [Int.toNat_natCast] at d0 d1
    iterate 5 (refine wC rfl fun K z=>?_;simp [q,d7,c1,d9,c9,d0,d1,d2];apply z)
    refine wN ?_
    cases a9
    exact e9 _ () [] trivial (by simp [q,d7,c1,d9,c9,d0,d1,d2])
  rcases aA h with ⟨h5,h⟩ | ⟨h6,h⟩
  ·refine O.cT' (by simp) h5 ?_
   refine O.zR u fun K w=>?_
   refine wC rfl fun K z=>?_;simp [q];apply z
   apply wN;apply w
   cases h
   refine O.ret ?_
   simp [aC,iB,aKu]
  ·refine O.cF' (by simp) h6 ?_
   refine O.skip ?_
   refine O.seq ?_
   refine O.zR u fun K w=>?_
   iterate 3 (refine wC rfl fun K z=>?_;simp [q];apply z)
   apply wN;apply w
   rcases aA h with ⟨h7,h⟩ | ⟨h8,h⟩
   ·refine O.cT' (by simp) h7 ?_
    refine O.zR u fun K w=>?_
    iterate 4 (refine wC rfl fun K z=>?_;simp [q];apply z)
    apply wN;apply w
    cases h
    refine O.ret ?_
    simp [aC,iB,aKu]
   ·refine O.cF' (by simp) h8 ?_
    refine O.skip ?_
    obtain ⟨j0,a4,h⟩:=bS h
    refine O.seqRC rfl (u _ rfl) [4] [] (fun _:Unit=>⟨[(4,.t (vb j0))],[]⟩) (fun _=>True) (fun _ _=>?_) fun k0 g0=>?_
    rotate_left
    ·refine wC rfl fun K z=>?_;simp [q];apply z
     iterate 5 (refine wC rfl fun K z=>?_;simp [q];apply z)
     obtain ⟨k1,h9,a4⟩:=bS a4
     refine wL [(.take,.tmp 75),(.take,.const (.int .i64 0)),(.take,.tmp 79)] rfl rfl nD (aW _ _ _ h9) fun K z=>?_;simp [q];apply z
     refine wC rfl fun K z=>?_;simp [q];apply z
     rcases aA a4 with ⟨c6,a4⟩ | ⟨d8,a4⟩
     ·have a6:=c6
      try simp at a6
      iterate 4 (refine wC rfl fun K z=>?_;simp [q,c6,a6];apply z)
      obtain ⟨k2,i0,a4⟩:=bS a4
      obtain ⟨c2,b2,b3,b4⟩:=gS i0
      have b5:=b2;try simp at b5
      try simp only [Int.toNat_natCast] at b3 b4
      iterate 3 (refine wC rfl fun K z=>?_;simp [q,c6,a6,c2,b2,b3,b4,b5];apply z)
      obtain ⟨k3,i1,a4⟩:=bS a4
      refine wL [(.take,.tmp 88)] rfl rfl aOk (rJ _ i1) fun K z=>?_;simp [q,c6,a6,c2,b2,b3,b4,b5];apply z
      iterate 2 (refine wC rfl fun K z=>?_;simp [q,c6,a6,c2,b2,b3,b4,b5];apply z)
      refine wN ?_
      cases a4
      exact g0 _ () [] trivial (by simp [q,c6,a6,c2,b2,b3,b4,b5])
     ·have c3:=d8
      try simp at c3
      iterate 8 (refine wO fun K z=>?_;simp [q,d8,c3];apply z)
      iterate 2 (refine wC rfl fun K z=>?_;simp [q,d8,c3];apply z)
      refine wN ?_
      cases a4
      exact g0 _ () [] trivial (by simp [q,d8,c3])
    cases h
    refine O.ret ?_
    simp [aC,iB,aKu]
theorem aKy:Tryz.f53.results.toList=[.tmp 2]:=rfl
theorem ent53:aE E.P 53:=eO Tryz.func53 (by simp [Tryz.f53]) rfl
theorem wE (p1:GProgram) {r0:Bool} (h:iQ p1=some r0):Ok E 53 [.val (GProgram.enc false p1)] [vb r0] []:=by
 refine oB Tryz.func53 rfl (by simp [Tryz.f53]) fun C (q:C.N=115) hP=>?_
 have u:=aK hP
 unfold iQ at h
 refine O.zR u fun K w=>?_
 iterate 2 (refine wC rfl fun K z=>?_;simp [q];apply z)
 apply wN;apply w
 refine O.zR u fun K w=>?_
 iterate 4 (refine wC rfl fun K z=>?_;simp [q];apply z)
 apply wN;apply w
 refine O.seq ?_
 obtain ⟨o5,a9,h⟩:=bS h
 refine O.seqRC rfl (u _ rfl) [1,3,35] [1] (fun _:Unit=>⟨[(1,.ref (.box 1) 0 []),(3,.t (vi (p1.Nodes.length:Int))),(35,.t (vb o5))],[(1,[.sl false 4 (List.map (GNode.enc false) p1.Nodes),.sl false 5 (List.map (GFn.enc false) p1.Fns)])]⟩) (fun _=>True) (fun _ _=>?_) fun K3 j6=>?_
 rotate_left
 ·refine wC rfl fun K z=>?_;simp [q];apply z
  obtain ⟨r4,o6,a9⟩:=bS a9
  refine wL [(.take,.tmp 18),(.take,.const (.int .i64 1)),(.take,.const (.int .i64 300))] rfl rfl nD (aW _ _ _ o6) fun K z=>?_;simp [q];apply z
  iterate 2 (refine wC rfl fun K z=>?_;simp [q];apply z)
  rcases aA a9 with ⟨g0,a9⟩ | ⟨b9,a9⟩
  ·have b5:=g0
   try simp at b5
   iterate 5 (refine wO fun K z=>?_;simp [q,g0,b5];apply z)
   iterate 2 (refine wC rfl fun K z=>?_;simp [q,g0,b5];apply z)
   iterate 6 (refine wO fun K z=>?_;simp [q,g0,b5];apply z)
   refine wC rfl fun K z=>?_;simp [q,g0,b5];apply z
   refine wN ?_
   cases a9
   exact j6 _ () [] trivial (by simp [q,g0,b5])
  ·have a0:=b9
   try simp at a0
   iterate 3 (refine wC rfl fun K z=>?_;simp [q,b9,a0];apply z)
   obtain ⟨r8,o7,a9⟩:=bS a9
   refine wL [(.take,.tmp 24),(.take,.const (.int .i64 1)),(.take,.const (.int .i64 8))] rfl rfl nD (aW _ _ _ o7) fun K z=>?_;simp [q,b9,a0];apply z
   iterate 3 (refine wC rfl fun K z=>?_;simp [q,b9,a0];apply z)
   rcases aA a9 with ⟨c4,a9⟩ | ⟨c0,a9⟩
   ·have b1:=c4
    try simp at b1
    iterate 6 (refine wO fun K z=>?_;simp [q,b9,a0,c4,b1];apply z)
    refine wC rfl fun K z=>?_;simp [q,b9,a0,c4,b1];apply z
    refine wN ?_
    cases a9
    exact j6 _ () [] trivial (by simp [q,b9,a0,c4,b1])
   ·have a5:=c0
    try simp at a5
    iterate 4 (refine wC rfl fun K z=>?_;simp [q,b9,a0,c0,a5];apply z)
    obtain ⟨q8,j7,a9⟩:=bS a9
    refine wL [(.take,.tmp 30),(.take,.tmp 32)] rfl rfl aNu (kQ _ _ j7) fun K z=>?_;simp [q,b9,a0,c0,a5];apply z
    iterate 2 (refine wC rfl fun K z=>?_;simp [q,b9,a0,c0,a5];apply z)
    refine wN ?_
    cases a9
    exact j6 _ () [] trivial (by simp [q,b9,a0,c0,a5])
 rcases aA h with ⟨j8,h⟩ | ⟨j9,h⟩
 ·refine O.cT' (by simp) j8 ?_
  refine O.zR u fun K w=>?_
  refine wC rfl fun K z=>?_;simp [q];apply z
  apply wN;apply w
  cases h
  refine O.ret ?_
  simp [aC,iB,aKy]
 ·refine O.cF' (by simp) j9 ?_
  refine O.skip ?_
  refine O.zR u fun K w=>?_
  refine wC rfl fun K z=>?_;simp [q];apply z
  obtain ⟨o1,k0,h⟩:=bS h
  obtain ⟨g1,g2,g3,g4⟩:=mS k0
  have c6:List.replicate (p1.Nodes.length:Int).toNat (vi 0)=List.map vi o1:=tH (f:=vi) g4
  try simp only [Int.toNat_natCast] at c6
  iterate 2 (refine wC rfl fun K z=>?_;simp [q,g1,g2,g3,c6];apply z)
  apply wN;apply w
  obtain ⟨c7,k1,h⟩:=bS h
  refine O.seqC [1,4] [1] (fun _:Unit=>⟨[(1,.ref (.box 1) 0 []),(4,.t (.sl true 1 (List.map vi c7)))],[(1,[.sl false 4 (List.map (GNode.enc false) p1.Nodes),.sl false 5 (List.map (GFn.enc false) p1.Fns)])]⟩) (fun _=>True) (fun _ _=>?_) fun q9 k2=>?_
  rotate_left
  ·refine O.zR u fun K w=>?_
   iterate 4 (refine wC rfl fun K z=>?_;simp [q];apply z)
   apply wN;apply w
   refine O.block ?_
   refine O.loopO [] [1,4,39,40,41] [1] (fun v:(List Int) × Int=>⟨[(1,.ref (.box 1) 0 []),(4,.t (.sl true 1 (List.map vi v.1))),(39,.t (.sl false 4 (List.map (GNode.enc false) p1.Nodes))),(40,.t (vi (p1.Nodes.length:Int))),(41,.t (vi v.2))],[(1,[.sl false 4 (List.map (GNode.enc false) p1.Nodes),.sl false 5 (List.map (GFn.enc false) p1.Fns)])]⟩) (dM p1) _ (o1,0) k1 (by simp [q]) ?_
   intro g r1 c8 k3
   obtain ⟨g5,o2⟩:=g
   simp only [dM] at c8
   try dsimp only
   refine O.zR u fun K w=>?_
   refine wC rfl fun K z=>?_;simp [q];apply z
   apply wN;apply w
   refine O.seq ?_
   rcases aA c8 with ⟨k4,c8⟩ | ⟨k5,c8⟩
   ·refine O.cT' (by simp) k4 ?_
    refine O.skip ?_
    obtain ⟨g6,e4,c8⟩:=bS c8
    refine O.seqC [1,4,39,40,41] [1] (fun _:Unit=>⟨[(1,.ref (.box 1) 0 []),(4,.t (.sl true 1 (List.map vi g6))),(39,.t (.sl false 4 (List.map (GNode.enc false) p1.Nodes))),(40,.t (vi (p1.Nodes.length:Int))),(41,.t (vi o2))],[(1,[.sl false 4 (List.map (GNode.enc false) p1.Nodes),.sl false 5 (List.map (GFn.enc false) p1.Fns)])]⟩) (fun _=>True) (fun _ _=>?_) fun r2 k6=>?_
    rotate_left
    ·refine O.block ?_
     refine O.zR u fun K w=>?_
     obtain ⟨k7,k8,e4⟩:=bS e4
     obtain ⟨g7,g8,g9,h0⟩:=gS k8
     iterate 4 (refine wC rfl fun K z=>?_;simp [q,g7,g8,g9,h0];apply z)
     apply wN;apply w
     refine O.zR u fun K w=>?_
     iterate 4 (refine wC rfl fun K z=>?_;simp [q];apply z)
     apply wN;apply w
     refine O.block ?_
     refine O.loopO [] [1,4,39,40,41,46,47,48] [1] (fun v:(List Int) × Int=>⟨[(1,.ref (.box 1) 0 []),(4,.t (.sl true 1 (List.map vi v.1))),(39,.t (.sl false 4 (List.map (GNode.enc false) p1.Nodes))),(40,.t (vi (p1.Nodes.length:Int))),(41,.t (vi o2)),(46,.t (.sl false 1 (List.map vi k7.Kids))),(47,.t (vi (k7.Kids.length:Int))),(48,.t (vi v.2))],[(1,[.sl false 4 (List.map (GNode.enc false) p1.Nodes),.sl false 5 (List.map (GFn.enc false) p1.Fns)])]⟩) (dL k7) _ (g5,0) e4 (by simp [q]) ?_
     intro g r3 b7 k9
     obtain ⟨h1,r5⟩:=g
     simp only [dL] at b7
     try dsimp only
     refine O.zR u fun K w=>?_
     refine wC rfl fun K z=>?_;simp [q];apply z
     apply wN;apply w
     refine O.seq ?_
     rcases aA b7 with ⟨l0,b7⟩ | ⟨l1,b7⟩
     ·refine O.cT' (by simp) l0 ?_
      refine O.skip ?_
      refine O.seq ?_
      refine O.block ?_
      refine O.zR u fun K w=>?_
      obtain ⟨o8,l2,b7⟩:=bS b7
      obtain ⟨h2,h3,h4,h5⟩:=gS l2
      iterate 3 (refine wC rfl fun K z=>?_;simp [q,h2,h3,h4,h5];apply z)
      apply wN;apply w
      refine O.zG u fun K w=>?_
      iterate 2 (refine wC rfl fun K z=>?_;simp [q];apply z)
      obtain ⟨o9,l3,b7⟩:=bS b7
      obtain ⟨c9,d0,d1,d2⟩:=gS l3
      iterate 4 (refine wC rfl fun K z=>?_;simp [q,c9,d0,d1,d2];apply z)
      obtain ⟨p0,l4,b7⟩:=bZ b7
      have d3:(List.map vi h1).set o8.toNat (vi (IntKind.wrap .i64 (o9 + 1)))=List.map vi p0:=fH (f:=vi) l4
      try simp only [Int.toNat_natCast] at d3
      refine wC rfl fun K z=>?_;simp [q,c9,d0,d1,d2,d3];apply z
      apply wN;apply w
      refine O.zG u fun K w=>?_
      iterate 2 (refine wC rfl fun K z=>?_;simp [q];apply z)
      apply wN;apply w
      cases b7
      exact ⟨_,[],rfl,by simp [q]⟩
     ·refine O.cF' (by simp) l1 ?_
      refine O.exit ?_
      have p2:=congrArg some (k9 _ (Option.some.inj b7).symm)
      cases p2
      exact k6 _ () [] trivial (by simp [q])
    refine O.zG u fun K w=>?_
    iterate 2 (refine wC rfl fun K z=>?_;simp [q];apply z)
    apply wN;apply w
    cases c8
    exact ⟨_,[],rfl,by simp [q]⟩
   ·refine O.cF' (by simp) k5 ?_
    refine O.exit ?_
    have p3:=congrArg some (k3 _ (Option.some.inj c8).symm)
    cases p3
    exact k2 _ () [] trivial (by simp [q])
  obtain ⟨p4,l5,h⟩:=bS h
  refine O.seqC [4] [] (fun v:List Int=>⟨[(4,.t (.sl true 1 (List.map vi v)))],[]⟩) (fun v=>p4=Sum.inl v) (fun v hv=>?_) fun r6 l6=>?_
  rotate_left
  ·refine O.zR u fun K w=>?_
   iterate 4 (refine wC rfl fun K z=>?_;simp [q];apply z)
   apply wN;apply w
   refine O.block ?_
   refine O.loopO [] [1,4,61,62,63] [1] (fun v:(List Int) × Int=>⟨[(1,.ref (.box 1) 0 []),(4,.t (.sl true 1 (List.map vi v.1))),(61,.t (.sl false 5 (List.map (GFn.enc false) p1.Fns))),(62,.t (vi (p1.Fns.length:Int))),(63,.t (vi v.2))],[(1,[.sl false 4 (List.map (GNode.enc false) p1.Nodes),.sl false 5 (List.map (GFn.enc false) p1.Fns)])]⟩) (cI p1) _ (c7,0) l5 (by simp [q]) ?_
   intro g r7 b6 e5
   obtain ⟨d4,l7⟩:=g
   simp only [cI] at b6
   try dsimp only
   refine O.zR u fun K w=>?_
   refine wC rfl fun K z=>?_;simp [q];apply z
   apply wN;apply w
   refine O.seq ?_
   rcases aA b6 with ⟨l8,b6⟩ | ⟨l9,b6⟩
   ·refine O.cT' (by simp) l8 ?_
    refine O.skip ?_
    obtain ⟨p5,a2,b6⟩:=bS b6
    refine O.seqC [1,4,61,62,63] [1] (fun v:List Int=>⟨[(1,.ref (.box 1) 0 []),(4,.t (.sl true 1 (List.map vi v))),(61,.t (.sl false 5 (List.map (GFn.enc false) p1.Fns))),(62,.t (vi (p1.Fns.length:Int))),(63,.t (vi l7))],[(1,[.sl false 4 (List.map (GNode.enc false) p1.Nodes),.sl false 5 (List.map (GFn.enc false) p1.Fns)])]⟩) (fun v=>p5=Sum.inl v) (fun v hv=>?_) fun r9 m0=>?_
    rotate_left
    ·refine O.block ?_
     refine O.zR u fun K w=>?_
     refine wC rfl fun K z=>?_;simp [q];apply z
     obtain ⟨b8,m1,a2⟩:=bS a2
     obtain ⟨h6,h7,h8,h9⟩:=gS m1
     iterate 5 (refine wC rfl fun K z=>?_;simp [q,h6,h7,h8,h9];apply z)
     apply wN;apply w
     refine O.seq ?_
     obtain ⟨p6,a3,a2⟩:=bS a2
     refine O.seqRC rfl (u _ rfl) [1,4,10,61,62,63,79] [1,10] (fun _:Unit=>⟨[(1,.ref (.box 1) 0 []),(4,.t (.sl true 1 (List.map vi d4))),(10,.ref (.box 10) 0 []),(61,.t (.sl false 5 (List.map (GFn.enc false) p1.Fns))),(62,.t (vi (p1.Fns.length:Int))),(63,.t (vi l7)),(79,.t (vb p6))],[(1,[.sl false 4 (List.map (GNode.enc false) p1.Nodes),.sl false 5 (List.map (GFn.enc false) p1.Fns)]),(10,[vs b8.Name,.sl false 2 (List.map GParam.enc b8.Params),vi b8.Res,vi b8.Body,vi b8.Ret])]⟩) (fun _=>True) (fun _ _=>?_) fun s0 i0=>?_
     rotate_left
     ·refine wC rfl fun K z=>?_;simp [q];apply z
      refine wC rfl fun K z=>?_;simp [q];apply z
      obtain ⟨s1,m2,a3⟩:=bS a3
      refine wL [(.take,.tmp 68),(.take,.tmp 69)] rfl rfl ent88 (aFp _ _ m2) fun K z=>?_;simp [q];apply z
      iterate 2 (refine wC rfl fun K z=>?_;simp [q];apply z)
      rcases aA a3 with ⟨c5,a3⟩ | ⟨c1,a3⟩
      ·have b2:=c5
       try simp at b2
       iterate 6 (refine wO fun K z=>?_;simp [q,c5,b2];apply z)
       refine wC rfl fun K z=>?_;simp [q,c5,b2];apply z
       refine wN ?_
       cases a3
       exact i0 _ () [] trivial (by simp [q,c5,b2])
      ·have a6:=c1
       try simp at a6
       iterate 3 (refine wC rfl fun K z=>?_;simp [q,c1,a6];apply z)
       obtain ⟨s2,m3,a3⟩:=bS a3
       refine wL [(.take,.tmp 73),(.take,.tmp 75)] rfl rfl aPo (rN _ _ m3) fun K z=>?_;simp [q,c1,a6];apply z
       iterate 3 (refine wC rfl fun K z=>?_;simp [q,c1,a6];apply z)
       refine wN ?_
       cases a3
       exact i0 _ () [] trivial (by simp [q,c1,a6])
     rcases aA a2 with ⟨m4,a2⟩ | ⟨m5,a2⟩
     ·refine O.cT' (by simp) m4 ?_
      refine O.zR u fun K w=>?_
      refine wC rfl fun K z=>?_;simp [q];apply z
      apply wN;apply w
      cases a2
      try dsimp only at b6
      have p7:=congrArg some (e5 _ (Option.some.inj b6).symm)
      cases p7
      try dsimp only at h
      cases h
      refine O.ret ?_
      simp [aC,iB,aKy]
     ·refine O.cF' (by simp) m5 ?_
      refine O.skip ?_
      refine O.zR u fun K w=>?_
      iterate 7 (refine wC rfl fun K z=>?_;simp [q];apply z)
      apply wN;apply w
      refine O.block ?_
      refine O.loopO [] [1,4,61,62,63,84,85,86] [1] (fun v:(List Int) × Int=>⟨[(1,.ref (.box 1) 0 []),(4,.t (.sl true 1 (List.map vi v.1))),(61,.t (.sl false 5 (List.map (GFn.enc false) p1.Fns))),(62,.t (vi (p1.Fns.length:Int))),(63,.t (vi l7)),(84,.t (.sl true 1 (List.map vi [b8.Body,b8.Ret]))),(85,.t (vi ([b8.Body,b8.Ret].length:Int))),(86,.t (vi v.2))],[(1,[.sl false 4 (List.map (GNode.enc false) p1.Nodes),.sl false 5 (List.map (GFn.enc false) p1.Fns)])]⟩) (aI b8) _ (d4,0) a2 (by simp [q]) ?_
      intro g s3 a1 i1
      obtain ⟨i2,p8⟩:=g
      simp only [aI] at a1
      try dsimp only
      refine O.zR u fun K w=>?_
      refine wC rfl fun K z=>?_;simp [q];apply z
      apply wN;apply w
      refine O.seq ?_
      rcases aA a1 with ⟨m6,a1⟩ | ⟨m7,a1⟩
      ·refine O.cT' (by simp) m6 ?_
       refine O.skip ?_
       refine O.seq ?_
       refine O.block ?_
       refine O.zR u fun K w=>?_
       obtain ⟨o3,m8,a1⟩:=bS a1
       obtain ⟨i3,d5,d6,i4⟩:=gS m8
       have d7:=d5;try simp at d7
       have c2:(List.map vi [b8.Body,b8.Ret])[p8.toNat]? = some (vi o3):=by rw [List.getElem?_map,d6];rfl
       try simp only [List.map_cons,List.map_nil] at c2
       have i5:=(List.getElem?_eq_some_iff.1 c2).2
       iterate 3 (refine wC rfl fun K z=>?_;simp [q,i3,d5,d6,i4,d7,c2,i5];apply z)
       apply wN;apply w
       refine O.seq ?_
       refine O.zR u fun K w=>?_
       iterate 2 (refine wC rfl fun K z=>?_;simp [q];apply z)
       apply wN;apply w
       rcases aA a1 with ⟨m9,a1⟩ | ⟨n0,a1⟩
       ·refine O.cT' (by simp) m9 ?_
        refine O.exit ?_
        refine O.zG u fun K w=>?_
        iterate 2 (refine wC rfl fun K z=>?_;simp [q];apply z)
        apply wN;apply w
        cases a1
        exact ⟨_,[],rfl,by simp [q]⟩
       ·refine O.cF' (by simp) n0 ?_
        refine O.skip ?_
        refine O.seq ?_
        refine O.zR u fun K w=>?_
        iterate 2 (refine wC rfl fun K z=>?_;simp [q];apply z)
        obtain ⟨s4,n1,a1⟩:=bS a1
        obtain ⟨i6,i7,i8,i9⟩:=gS n1
        iterate 3 (refine wC rfl fun K z=>?_;simp [q,i6,i7,i8,i9];apply z)
        apply wN;apply w
        rcases aA a1 with ⟨n2,a1⟩ | ⟨n3,a1⟩
        ·refine O.cT' (by simp) n2 ?_
         refine O.zR u fun K w=>?_
         refine wC rfl fun K z=>?_;simp [q];apply z
         apply wN;apply w
         have p9:=congrArg some (i1 _ (Option.some.inj a1).symm)
         cases p9
         try dsimp only at b6
         have q0:=congrArg some (e5 _ (Option.some.inj b6).symm)
         cases q0
         try dsimp only at h
         cases h
         refine O.ret ?_
         simp [aC,iB,aKy]
        ·refine O.cF' (by simp) n3 ?_
         refine O.skip ?_
         refine O.zG u fun K w=>?_
         iterate 2 (refine wC rfl fun K z=>?_;simp [q];apply z)
         obtain ⟨s5,n4,a1⟩:=bS a1
         obtain ⟨d8,d9,e0,e1⟩:=gS n4
         refine wC rfl fun K z=>?_;simp [q,d8,d9,e0,e1];apply z
         obtain ⟨q1,n5,a1⟩:=bZ a1
         have e2:(List.map vi i2).set o3.toNat (vi (-1))=List.map vi q1:=fH (f:=vi) n5
         try simp only [Int.toNat_natCast] at e2
         refine wC rfl fun K z=>?_;simp [q,d8,d9,e0,e1,e2];apply z
         apply wN;apply w
         refine O.zG u fun K w=>?_
         iterate 2 (refine wC rfl fun K z=>?_;simp [q];apply z)
         apply wN;apply w
         cases a1
         exact ⟨_,[],rfl,by simp [q]⟩
      ·refine O.cF' (by simp) m7 ?_
       refine O.exit ?_
       have q2:=congrArg some (i1 _ (Option.some.inj a1).symm)
       cases q2
       exact m0 _ _ [] rfl (by simp [q])
    subst hv
    obtain ⟨o4,hv⟩:∃ y,y=v:=⟨_,rfl⟩
    subst hv
    try dsimp only at b6 ⊢
    refine O.zG u fun K w=>?_
    iterate 2 (refine wC rfl fun K z=>?_;simp [q];apply z)
    apply wN;apply w
    cases b6
    exact ⟨_,[],rfl,by simp [q]⟩
   ·refine O.cF' (by simp) l9 ?_
    refine O.exit ?_
    have q3:=congrArg some (e5 _ (Option.some.inj b6).symm)
    cases q3
    exact l6 _ _ [] rfl (by simp [q])
  subst hv
  obtain ⟨a7,hv⟩:∃ y,y=v:=⟨_,rfl⟩
  subst hv
  try dsimp only at h ⊢
  obtain ⟨q4,n6,h⟩:=bS h
  refine O.seqC [] [] (fun v:Unit=>⟨[],[]⟩) (fun v=>q4=Sum.inl v) (fun v hv=>?_) fun s6 n7=>?_
  rotate_left
  ·refine O.zR u fun K w=>?_
   iterate 3 (refine wC rfl fun K z=>?_;simp [q];apply z)
   apply wN;apply w
   refine O.block ?_
   refine O.loopO [] [4,102,103,104] [] (fun v:Int=>⟨[(4,.t (.sl true 1 (List.map vi a7))),(102,.al (.slot 4) 0 [] none),(103,.t (vi (a7.length:Int))),(104,.t (vi v))],[]⟩) (dK a7) _ 0 n6 (by simp [q]) ?_
   intro g s7 b3 j0
   obtain ⟨q5,hg⟩:∃ y,y=g:=⟨_,rfl⟩
   subst hg
   simp only [dK] at b3
   try dsimp only
   refine O.zR u fun K w=>?_
   refine wC rfl fun K z=>?_;simp [q];apply z
   apply wN;apply w
   refine O.seq ?_
   rcases aA b3 with ⟨j1,b3⟩ | ⟨j2,b3⟩
   ·refine O.cT' (by simp) j1 ?_
    refine O.skip ?_
    refine O.seq ?_
    refine O.block ?_
    refine O.zR u fun K w=>?_
    obtain ⟨q6,j3,b3⟩:=bS b3
    obtain ⟨e6,e7,e8,e9⟩:=gS j3
    iterate 3 (refine wC rfl fun K z=>?_;simp [q,e6,e7,e8,e9];apply z)
    apply wN;apply w
    obtain ⟨n8,a8,b3⟩:=bS b3
    refine O.seqRC rfl (u _ rfl) [4,102,103,104,113] [] (fun _:Unit=>⟨[(4,.t (.sl true 1 (List.map vi a7))),(102,.al (.slot 4) 0 [] none),(103,.t (vi (a7.length:Int))),(104,.t (vi q5)),(113,.t (vb n8))],[]⟩) (fun _=>True) (fun _ _=>?_) fun q7 e3=>?_
    rotate_left
    ·refine wC rfl fun K z=>?_;simp [q];apply z
     iterate 2 (refine wC rfl fun K z=>?_;simp [q];apply z)
     rcases aA a8 with ⟨c3,a8⟩ | ⟨b4,a8⟩
     ·have b0:=c3
      try simp at b0
      iterate 3 (refine wC rfl fun K z=>?_;simp [q,c3,b0];apply z)
      refine wN ?_
      cases a8
      exact e3 _ () [] trivial (by simp [q,c3,b0])
     ·have a4:=b4
      try simp at a4
      iterate 2 (refine wO fun K z=>?_;simp [q,b4,a4];apply z)
      refine wC rfl fun K z=>?_;simp [q,b4,a4];apply z
      refine wN ?_
      cases a8
      exact e3 _ () [] trivial (by simp [q,b4,a4])
    rcases aA b3 with ⟨j4,b3⟩ | ⟨j5,b3⟩
    ·refine O.cT' (by simp) j4 ?_
     refine O.zR u fun K w=>?_
     refine wC rfl fun K z=>?_;simp [q];apply z
     apply wN;apply w
     have n9:=congrArg some (j0 _ (Option.some.inj b3).symm)
     cases n9
     try dsimp only at h
     cases h
     refine O.ret ?_
     simp [aC,iB,aKy]
    ·refine O.cF' (by simp) j5 ?_
     refine O.skip ?_
     refine O.zG u fun K w=>?_
     iterate 2 (refine wC rfl fun K z=>?_;simp [q];apply z)
     apply wN;apply w
     cases b3
     exact ⟨_,[],rfl,by simp [q]⟩
   ·refine O.cF' (by simp) j2 ?_
    refine O.exit ?_
    have o0:=congrArg some (j0 _ (Option.some.inj b3).symm)
    cases o0
    exact n7 _ _ [] rfl (by simp [q])
  subst hv
  obtain ⟨⟩:=v
  try dsimp only at h ⊢
  refine O.zR u fun K w=>?_
  refine wC rfl fun K z=>?_;simp [q];apply z
  apply wN;apply w
  cases h
  refine O.ret ?_
  simp [aC,iB,aKy]
end Go.Proofs.T
