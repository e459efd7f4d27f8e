import Derived.Test.YtgcgpnhokjhghabGreatDoorW26
import Derived.Test.YtgcgpnhokjhghabGreatDoorW3
import Derived.Test.YtgcgpnhokjhghabGreatDoorW6
set_option linter.unusedVariables false
set_option linter.unusedSimpArgs false
set_option linter.unusedVariables false
set_option linter.unusedSimpArgs false
set_option maxHeartbeats 8000000
set_option maxRecDepth 100000
namespace Go.Proofs.T
open Go.OM
theorem res24:Tryz.f24.results.toList=[.cell 2 27,.tmp 3]:=rfl
theorem ent24:dR E.P 24:=eO Tryz.func24 (by simp [Tryz.f24]) rfl
instance c24_ (a0:List Int) {r0:GProgram} {r1:Int}:Con E 24 (pR a0=some (r0,r1)) [.val (.sl false 1 (List.map (vk .u8) a0))] [GProgram.enc true r0,vi r1] []:=Con.mk fun h=>by
 refine oB Tryz.func24 rfl (by simp [Tryz.f24]) fun C (q:C.N=14) hP=>?_
 have y:=zW hP;unfold pR at h
 iterate 6 first|refine V_q q ?_|apply aT|refine O.zT y ?_
 obtain ⟨r2,a1,h⟩:=bS h;refine aK2 [(.take,.tmp 6)] 7 3 rfl rfl rfl aRu rfl (tC _ a1) rfl fun K u=>?_;simp [q];apply u
 iterate 4 first|refine V_q q ?_|apply aT|refine O.zT y ?_
 obtain ⟨⟨r4,q5⟩,a2,h⟩:=bS h;try dsimp only at h
 refine nQ fun KW hKW=>?_;refine fP [((.ptr 3),.tmp 8),(.take,.const (.int .i64 5))] q (Ent.ok (E:=E) (f:=34)) (Con.ok a2) ?_;refine wN (hKW _ ?_);clear hKW
 iterate 5 first|refine V_q q ?_|apply aT|refine O.zT y ?_
 obtain ⟨⟨r7,q8⟩,a3,h⟩:=bS h;try dsimp only at h
 refine nQ fun KW hKW=>?_;refine fP [((.ptr 3),.tmp 11)] q aQ8 (Con.ok a3) ?_;refine wN (hKW _ ?_);clear hKW
 iterate 3 refine V_q q ?_
 apply aT;cases h;refine O.ret ?_;simp [aO,iB,res24]
instance e24_:Ent E 24:=⟨ent24⟩
theorem res6:Tryz.f6.results.toList=[.cell 2 27]:=rfl
theorem ent6:dR E.P 6:=eO Tryz.func6 (by simp [Tryz.f6]) rfl
instance c6_ (a0:List Int) {r0:GProgram}:Con E 6 (iT a0=some r0) [.val (.sl false 1 (List.map (vk .u8) a0))] [GProgram.enc true r0] []:=Con.mk fun h=>by
 refine oB Tryz.func6 rfl (by simp [Tryz.f6]) fun C (q:C.N=6) hP=>?_
 have y:=zW hP;unfold iT at h
 iterate 5 first|refine V_q q ?_|apply aT|refine O.zT y ?_
 obtain ⟨r2,a1,h⟩:=bS h;refine aK2 [(.take,.tmp 3)] 4 3 rfl rfl rfl aRu rfl (tC _ a1) rfl fun K u=>?_;simp [q];apply u;obtain ⟨⟨r4,q5⟩,a2,h⟩:=bS h;try dsimp only at h
 refine nQ fun KW hKW=>?_;refine fP [((.ptr 3),.tmp 4)] q aQ8 (Con.ok a2) ?_;refine wN (hKW _ ?_);clear hKW;refine V_q q ?_;apply aT;cases h;refine O.ret ?_;simp [aO,iB,res6]
instance e6_:Ent E 6:=⟨ent6⟩
theorem res9:Tryz.f9.results.toList=[.cell 2 27,.tmp 3]:=rfl
theorem ent9:dR E.P 9:=eO Tryz.func9 (by simp [Tryz.f9]) rfl
instance c9_ (a5:List Int) {r0:GProgram} {r1:ByteArray}:Con E 9 (hE a5=some (r0,r1)) [.val (.sl false 1 (List.map (vk .u8) a5))] [GProgram.enc false r0,vs r1] []:=Con.mk fun h=>by
 refine oB Tryz.func9 rfl (by simp [Tryz.f9]) fun C (q:C.N=26) hP=>?_
 have y:=zW hP;unfold hE at h
 iterate 6 first|refine V_q q ?_|apply aT|refine O.zT y ?_
 obtain ⟨r2,a7,h⟩:=bS h;refine aK2 [(.take,.tmp 7)] 8 3 rfl rfl rfl aRu rfl (tC _ a7) rfl fun K w=>?_;simp [q];apply w
 iterate 4 first|refine V_q q ?_|apply aT|refine O.zT y ?_
 obtain ⟨⟨r4,q5⟩,a8,h⟩:=bS h;try dsimp only at h
 refine nQ fun KW hKW=>?_;refine fP [((.ptr 3),.tmp 9),(.take,.const (.int .i64 5))] q (Ent.ok (E:=E) (f:=34)) (Con.ok a8) ?_;refine wN (hKW _ ?_);clear hKW
 iterate 4 first|refine V_q q ?_|apply aT|refine O.zT y ?_
 obtain ⟨⟨r7,q8⟩,a9,h⟩:=bS h;try dsimp only at h
 refine nQ fun KW hKW=>?_;refine fP [((.ptr 3),.tmp 11)] q aQ8 (Con.ok a9) ?_;refine wN (hKW _ ?_);clear hKW
 iterate 2 refine V_q q ?_
 apply aT;refine O.seq ?_;refine O.zT y ?_
 iterate 5 refine V_q q ?_
 apply aT;refine O.cI h (fun b0 h=>?_) fun b1 h=>?_
 ·refine O.freezeB 6 0 fun K w=>?_;simp [q];apply w;refine O.freezeB 6 1 fun K w=>?_;simp [q];apply w;refine O.seq ?_;obtain ⟨a4,a6,h⟩:=bS h;obtain ⟨a0,a1,a2,a3⟩:=gS a6;refine O.drawV rfl (y _ rfl) [18,19,20,21,22,23,24] [[(18,.t (.agg [.sl false 4 (List.map (GNode.enc false) r7.Nodes),.sl false 5 (List.map (GFn.enc false) r7.Fns)]))],[(19,.ref (.box 6) 1 [])],[(20,.t (.sl false 5 (List.map (GFn.enc false) r7.Fns)))],[(21,.t (vi r4))],[(22,.rop [vs a4.Name,.sl false 2 (List.map GParam.enc a4.Params),vi a4.Res,vi a4.Body,vi a4.Ret] 0)],[(23,.rop [vs a4.Name,.sl false 2 (List.map GParam.enc a4.Params),vi a4.Res,vi a4.Body,vi a4.Ret] 0)],[(24,.t (vs a4.Name))],[]] [[],[],[],[],[],[],[],[(2,[.sl false 4 (List.map (GNode.enc false) r7.Nodes),.sl false 5 (List.map (GFn.enc false) r7.Fns)])]] [[],[],[1],[],[1,2,3],rg 1 4,rg 1 5,[0],rg 0 8] rfl (by simp) rfl rfl rfl ?_ fun K u=>?_
  ·refine ⟨?_,?_,?_,?_,?_,?_,?_,?_,trivial⟩
   ·intro D d0 g1 g2 gc;have d7:D 7=false:=g2 7 (by simp) (by simp)
    have p2_1:D 2=true→D 1=true:=fun h=>gc 2 1 h (by simp) (by simp)
    have p4_2:D 4=true→D 2=true:=fun h=>gc 4 2 h (by simp) (by simp)
    have p4_3:D 4=true→D 3=true:=fun h=>gc 4 3 h (by simp) (by simp)
    have p5_4:D 5=true→D 4=true:=fun h=>gc 5 4 h (by simp) (by simp)
    have p6_5:D 6=true→D 5=true:=fun h=>gc 6 5 h (by simp) (by simp)
    cases d1:D 1<;>cases d2:D 2<;>(simp [d2,d1] at p2_1)<;>cases d3:D 3<;>cases d4:D 4<;>(simp [d4,d2] at p4_2)<;>(simp [d4,d3] at p4_3)<;>cases d5:D 5<;>(simp [d5,d4] at p5_4)<;>cases d6:D 6<;>(simp [d6,d5] at p6_5)<;>(intro K u;simp [nP,cN,bY,aQ,aX,d0,d1,d2,d3,d4,d5,d6,d7] at u ⊢;refine nQ fun KV hKV=>?_;refine wC rfl fun K' v=>?_;simp [q,a0,a1,a2,a3];refine v _ (wN (hKV _ (aT ?_)));first | exact u | simpa [a0,a1,a2,a3] using u)
   ·intro D d1 g1 g2 gc;have d2:D 2=false:=g2 2 (by simp) (by simp)
    have d4:D 4=false:=g2 4 (by simp) (by simp)
    have d5:D 5=false:=g2 5 (by simp) (by simp)
    have d6:D 6=false:=g2 6 (by simp) (by simp)
    have p7_0:D 7=true→D 0=true:=fun h=>gc 7 0 h (by simp) (by simp)
    cases d0:D 0<;>cases d3:D 3<;>cases d7:D 7<;>(simp [d7,d0] at p7_0)<;>(intro K u;simp [nP,cN,bY,aQ,aX,d0,d1,d2,d3,d4,d5,d6,d7] at u ⊢;refine nQ fun KV hKV=>?_;refine wC rfl fun K' v=>?_;simp [q,a0,a1,a2,a3];refine v _ (wN (hKV _ (aT ?_)));first | exact u | simpa [a0,a1,a2,a3] using u)
   ·intro D d2 g1 g2 gc;have d1:D 1=true:=g1 1 (by simp)
    have d4:D 4=false:=g2 4 (by simp) (by simp)
    have d5:D 5=false:=g2 5 (by simp) (by simp)
    have d6:D 6=false:=g2 6 (by simp) (by simp)
    have p7_0:D 7=true→D 0=true:=fun h=>gc 7 0 h (by simp) (by simp)
    cases d0:D 0<;>cases d3:D 3<;>cases d7:D 7<;>(simp [d7,d0] at p7_0)<;>(intro K u;simp [nP,cN,bY,aQ,aX,d0,d1,d2,d3,d4,d5,d6,d7] at u ⊢;refine nQ fun KV hKV=>?_;refine wC rfl fun K' v=>?_;simp [q,a0,a1,a2,a3];refine v _ (wN (hKV _ (aT ?_)));first | exact u | simpa [a0,a1,a2,a3] using u)
   ·intro D d3 g1 g2 gc;have d4:D 4=false:=g2 4 (by simp) (by simp)
    have d5:D 5=false:=g2 5 (by simp) (by simp)
    have d6:D 6=false:=g2 6 (by simp) (by simp)
    have p2_1:D 2=true→D 1=true:=fun h=>gc 2 1 h (by simp) (by simp)
    have p7_0:D 7=true→D 0=true:=fun h=>gc 7 0 h (by simp) (by simp)
    cases d0:D 0<;>cases d1:D 1<;>cases d2:D 2<;>(simp [d2,d1] at p2_1)<;>cases d7:D 7<;>(simp [d7,d0] at p7_0)<;>(intro K u;simp [nP,cN,bY,aQ,aX,d0,d1,d2,d3,d4,d5,d6,d7] at u ⊢;refine nQ fun KV hKV=>?_;refine wC rfl fun K' v=>?_;simp [q,a0,a1,a2,a3];refine v _ (wN (hKV _ (aT ?_)));first | exact u | simpa [a0,a1,a2,a3] using u)
   ·intro D d4 g1 g2 gc;have d1:D 1=true:=g1 1 (by simp)
    have d2:D 2=true:=g1 2 (by simp)
    have d3:D 3=true:=g1 3 (by simp)
    have d5:D 5=false:=g2 5 (by simp) (by simp)
    have d6:D 6=false:=g2 6 (by simp) (by simp)
    have p7_0:D 7=true→D 0=true:=fun h=>gc 7 0 h (by simp) (by simp)
    cases d0:D 0<;>cases d7:D 7<;>(simp [d7,d0] at p7_0)<;>(intro K u;simp [nP,cN,bY,aQ,aX,d0,d1,d2,d3,d4,d5,d6,d7] at u ⊢;refine nQ fun KV hKV=>?_;refine wC rfl fun K' v=>?_;simp [q,a0,a1,a2,a3];refine v _ (wN (hKV _ (aT ?_)));first | exact u | simpa [a0,a1,a2,a3] using u)
   ·intro D d5 g1 g2 gc;have d1:D 1=true:=g1 1 (by simp)
    have d2:D 2=true:=g1 2 (by simp)
    have d3:D 3=true:=g1 3 (by simp)
    have d4:D 4=true:=g1 4 (by simp)
    have d6:D 6=false:=g2 6 (by simp) (by simp)
    have p7_0:D 7=true→D 0=true:=fun h=>gc 7 0 h (by simp) (by simp)
    cases d0:D 0<;>cases d7:D 7<;>(simp [d7,d0] at p7_0)<;>(intro K u;simp [nP,cN,bY,aQ,aX,d0,d1,d2,d3,d4,d5,d6,d7] at u ⊢;refine nQ fun KV hKV=>?_;refine wC rfl fun K' v=>?_;simp [q,a0,a1,a2,a3];refine v _ (wN (hKV _ (aT ?_)));first | exact u | simpa [a0,a1,a2,a3] using u)
   ·intro D d6 g1 g2 gc;have d1:D 1=true:=g1 1 (by simp)
    have d2:D 2=true:=g1 2 (by simp)
    have d3:D 3=true:=g1 3 (by simp)
    have d4:D 4=true:=g1 4 (by simp)
    have d5:D 5=true:=g1 5 (by simp)
    have p7_0:D 7=true→D 0=true:=fun h=>gc 7 0 h (by simp) (by simp)
    cases d0:D 0<;>cases d7:D 7<;>(simp [d7,d0] at p7_0)<;>(intro K u;simp [nP,cN,bY,aQ,aX,d0,d1,d2,d3,d4,d5,d6,d7] at u ⊢;refine nQ fun KV hKV=>?_;refine wC rfl fun K' v=>?_;simp [q,a0,a1,a2,a3];refine v _ (wN (hKV _ (aT ?_)));first | exact u | simpa [a0,a1,a2,a3] using u)
   intro D d7 g1 g2 gc;have d0:D 0=true:=g1 0 (by simp)
   have p2_1:D 2=true→D 1=true:=fun h=>gc 2 1 h (by simp) (by simp)
   have p4_2:D 4=true→D 2=true:=fun h=>gc 4 2 h (by simp) (by simp)
   have p4_3:D 4=true→D 3=true:=fun h=>gc 4 3 h (by simp) (by simp)
   have p5_4:D 5=true→D 4=true:=fun h=>gc 5 4 h (by simp) (by simp)
   have p6_5:D 6=true→D 5=true:=fun h=>gc 6 5 h (by simp) (by simp)
   cases d1:D 1<;>cases d2:D 2<;>(simp [d2,d1] at p2_1)<;>cases d3:D 3<;>cases d4:D 4<;>(simp [d4,d2] at p4_2)<;>(simp [d4,d3] at p4_3)<;>cases d5:D 5<;>(simp [d5,d4] at p5_4)<;>cases d6:D 6<;>(simp [d6,d5] at p6_5)<;>(intro K u;simp [nP,cN,bY,aQ,aX,d0,d1,d2,d3,d4,d5,d6,d7] at u ⊢;refine nQ fun KV hKV=>?_;refine wC rfl fun K' v=>?_;simp [q,a0,a1,a2,a3];refine v _ (wN (hKV _ (aT ?_)));first | exact u | simpa [a0,a1,a2,a3] using u)
  simp [nP,cN,aQ,aX];refine V_q q ?_ rfl (by simp [a0,a1,a2,a3];rfl)
  apply aT;apply u;cases h;refine O.ret ?_;simp [aO,iB,res9]
 refine O.skip ?_;refine O.zT y ?_
 iterate 3 refine V_q q ?_
 apply aT;cases h;refine O.freezeB 2 0 fun K w=>?_;simp [q];apply w;refine O.freezeB 2 1 fun K w=>?_;simp [q];apply w;refine O.ret ?_;simp [aO,iB,res9]
instance e9_:Ent E 9:=⟨ent9⟩
end Go.Proofs.T
