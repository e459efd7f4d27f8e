import Derived.Test.YteibeahceppedaaGreatDoorW2
import Derived.Test.YteibeahceppedaaGreatDoorW24
import Derived.Test.YteibeahceppedaaGreatDoorW6
set_option linter.unusedVariables false
set_option linter.unusedSimpArgs false
set_option linter.unusedVariables false
set_option linter.unusedSimpArgs false
set_option maxHeartbeats 8000000
set_option maxRecDepth 100000
namespace Go.Proofs.T
open Go.OM
theorem res16:Tryz.f16.results.toList=[.cell 2 27,.tmp 3]:=rfl
theorem ent16:eG E.P 16:=eO Tryz.func16 (by simp [Tryz.f16]) rfl
instance c16_ (a3:List Int) {r0:GProgram} {r1:Int}:Con E 16 (mL a3=some (r0,r1)) [.val (.sl false 1 (List.map (vk .u8) a3))] [GProgram.enc false r0,vi r1] []:=Con.mk fun h=>by
 refine oB Tryz.func16 rfl (by simp [Tryz.f16]) fun C (q:C.N=21) hP=>?_
 have y:=zZ hP
 unfold mL at h
 iterate 6 first|refine V_q q ?_|apply aM|refine O.zT y ?_
 obtain ⟨r2,a6,h⟩:=bS h
 refine aIt [(.take,.tmp 7)] 8 3 rfl rfl rfl ent22 rfl (tH _ a6) rfl fun K w=>?_;simp [q];apply w
 iterate 4 first|refine V_q q ?_|apply aM|refine O.zT y ?_
 obtain ⟨⟨r4,q5⟩,a7,h⟩:=bS h
 try dsimp only at h
 refine jW fun KW hKW=>?_
 refine hE [((.ptr 3),.tmp 9),(.take,.const (.int .i64 200))] q (Ent.ok (E:=E) (f:=33)) (Con.ok a7) ?_
 refine wN (hKW _ ?_);clear hKW
 iterate 4 first|refine V_q q ?_|apply aM|refine O.zT y ?_
 obtain ⟨⟨r7,q8⟩,a8,h⟩:=bS h
 try dsimp only at h
 refine jW fun KW hKW=>?_
 refine hE [((.ptr 3),.tmp 11)] q (Ent.ok (E:=E) (f:=21)) (Con.ok a8) ?_
 refine wN (hKW _ ?_);clear hKW
 iterate 2 refine V_q q ?_
 apply aM
 refine O.freezeB 6 0 fun K w=>?_;simp [q];apply w
 refine O.freezeB 6 1 fun K w=>?_;simp [q];apply w
 refine O.seq ?_
 obtain ⟨a5,a4,h⟩:=bS h
 obtain ⟨a0,a2⟩:=nX a4
 have a1:=a0;try simp at a1
 refine O.drawV rfl (y _ rfl) [13,14,15,16,17,18,19,20] [[(13,.t (.agg [.sl false 4 (List.map (GNode.enc false) r7.Nodes),.sl false 5 (List.map (GFn.enc false) r7.Fns)]))],[(14,.t (vi r4))],[(15,.ref (.box 6) 0 [])],[(16,.t (.sl false 4 (List.map (GNode.enc false) r7.Nodes)))],[(17,.t (vi (r7.Nodes.length:Int)))],[(18,.t (vi (IntKind.wrap .i64 ((r7.Nodes.length:Int) + 2))))],[(19,.t (vi a5))],[(20,.t (vi (IntKind.wrap .i64 (a5 - 1))))],[]] [[],[],[],[],[],[],[],[],[(2,[.sl false 4 (List.map (GNode.enc false) r7.Nodes),.sl false 5 (List.map (GFn.enc false) r7.Fns)])]] [[],[],[],[2],[2,3],[2,3,4],rg 1 5,rg 1 6,[0],rg 0 9] rfl (by simp) rfl rfl rfl ?_ fun K u=>?_
 ·refine ⟨?_,?_,?_,?_,?_,?_,?_,?_,?_,trivial⟩
  ·intro D d0 g1 g2 gc
   have d8:D 8=false:=g2 8 (by simp) (by simp)
   have p3_2:D 3=true→D 2=true:=fun h=>gc 3 2 h (by simp) (by simp)
   have p4_3:D 4=true→D 3=true:=fun h=>gc 4 3 h (by simp) (by simp)
   have p5_4:D 5=true→D 4=true:=fun h=>gc 5 4 h (by simp) (by simp)
   have p6_1:D 6=true→D 1=true:=fun h=>gc 6 1 h (by simp) (by simp)
   have p6_5:D 6=true→D 5=true:=fun h=>gc 6 5 h (by simp) (by simp)
   have p7_6:D 7=true→D 6=true:=fun h=>gc 7 6 h (by simp) (by simp)
   cases d1:D 1<;>cases d2:D 2<;>cases d3:D 3<;>(simp [d3,d2] at p3_2)<;>cases d4:D 4<;>(simp [d4,d3] at p4_3)<;>cases d5:D 5<;>(simp [d5,d4] at p5_4)<;>cases d6:D 6<;>(simp [d6,d1] at p6_1)<;>(simp [d6,d5] at p6_5)<;>cases d7:D 7<;>(simp [d7,d6] at p7_6)<;>(intro K u;simp [lW,dW,cE,aW,bB,d0,d1,d2,d3,d4,d5,d6,d7,d8] at u ⊢;refine jW fun KV hKV=>?_;refine wC rfl fun K' v=>?_;simp [q,a0,a2,a1];refine v _ (wN (hKV _ (aM ?_)));first | exact u | simpa [a0,a2,a1] using u)
  ·intro D d1 g1 g2 gc
   have d6:D 6=false:=g2 6 (by simp) (by simp)
   have d7:D 7=false:=g2 7 (by simp) (by simp)
   have p3_2:D 3=true→D 2=true:=fun h=>gc 3 2 h (by simp) (by simp)
   have p4_3:D 4=true→D 3=true:=fun h=>gc 4 3 h (by simp) (by simp)
   have p5_4:D 5=true→D 4=true:=fun h=>gc 5 4 h (by simp) (by simp)
   have p8_0:D 8=true→D 0=true:=fun h=>gc 8 0 h (by simp) (by simp)
   cases d0:D 0<;>cases d2:D 2<;>cases d3:D 3<;>(simp [d3,d2] at p3_2)<;>cases d4:D 4<;>(simp [d4,d3] at p4_3)<;>cases d5:D 5<;>(simp [d5,d4] at p5_4)<;>cases d8:D 8<;>(simp [d8,d0] at p8_0)<;>(intro K u;simp [lW,dW,cE,aW,bB,d0,d1,d2,d3,d4,d5,d6,d7,d8] at u ⊢;refine jW fun KV hKV=>?_;refine wC rfl fun K' v=>?_;simp [q,a0,a2,a1];refine v _ (wN (hKV _ (aM ?_)));first | exact u | simpa [a0,a2,a1] using u)
  ·intro D d2 g1 g2 gc
   have d3:D 3=false:=g2 3 (by simp) (by simp)
   have d4:D 4=false:=g2 4 (by simp) (by simp)
   have d5:D 5=false:=g2 5 (by simp) (by simp)
   have d6:D 6=false:=g2 6 (by simp) (by simp)
   have d7:D 7=false:=g2 7 (by simp) (by simp)
   have p8_0:D 8=true→D 0=true:=fun h=>gc 8 0 h (by simp) (by simp)
   cases d0:D 0<;>cases d1:D 1<;>cases d8:D 8<;>(simp [d8,d0] at p8_0)<;>(intro K u;simp [lW,dW,cE,aW,bB,d0,d1,d2,d3,d4,d5,d6,d7,d8] at u ⊢;refine jW fun KV hKV=>?_;refine wC rfl fun K' v=>?_;simp [q,a0,a2,a1];refine v _ (wN (hKV _ (aM ?_)));first | exact u | simpa [a0,a2,a1] using u)
  ·intro D d3 g1 g2 gc
   have d2:D 2=true:=g1 2 (by simp)
   have d4:D 4=false:=g2 4 (by simp) (by simp)
   have d5:D 5=false:=g2 5 (by simp) (by simp)
   have d6:D 6=false:=g2 6 (by simp) (by simp)
   have d7:D 7=false:=g2 7 (by simp) (by simp)
   have p8_0:D 8=true→D 0=true:=fun h=>gc 8 0 h (by simp) (by simp)
   cases d0:D 0<;>cases d1:D 1<;>cases d8:D 8<;>(simp [d8,d0] at p8_0)<;>(intro K u;simp [lW,dW,cE,aW,bB,d0,d1,d2,d3,d4,d5,d6,d7,d8] at u ⊢;refine jW fun KV hKV=>?_;refine wC rfl fun K' v=>?_;simp [q,a0,a2,a1];refine v _ (wN (hKV _ (aM ?_)));first | exact u | simpa [a0,a2,a1] using u)
  ·intro D d4 g1 g2 gc
   have d2:D 2=true:=g1 2 (by simp)
   have d3:D 3=true:=g1 3 (by simp)
   have d5:D 5=false:=g2 5 (by simp) (by simp)
   have d6:D 6=false:=g2 6 (by simp) (by simp)
   have d7:D 7=false:=g2 7 (by simp) (by simp)
   have p8_0:D 8=true→D 0=true:=fun h=>gc 8 0 h (by simp) (by simp)
   cases d0:D 0<;>cases d1:D 1<;>cases d8:D 8<;>(simp [d8,d0] at p8_0)<;>(intro K u;simp [lW,dW,cE,aW,bB,d0,d1,d2,d3,d4,d5,d6,d7,d8] at u ⊢;refine jW fun KV hKV=>?_;refine wC rfl fun K' v=>?_;simp [q,a0,a2,a1];refine v _ (wN (hKV _ (aM ?_)));first | exact u | simpa [a0,a2,a1] using u)
  ·intro D d5 g1 g2 gc
   have d2:D 2=true:=g1 2 (by simp)
   have d3:D 3=true:=g1 3 (by simp)
   have d4:D 4=true:=g1 4 (by simp)
   have d6:D 6=false:=g2 6 (by simp) (by simp)
   have d7:D 7=false:=g2 7 (by simp) (by simp)
   have p8_0:D 8=true→D 0=true:=fun h=>gc 8 0 h (by simp) (by simp)
   cases d0:D 0<;>cases d1:D 1<;>cases d8:D 8<;>(simp [d8,d0] at p8_0)<;>(intro K u;simp [lW,dW,cE,aW,bB,d0,d1,d2,d3,d4,d5,d6,d7,d8] at u ⊢;refine jW fun KV hKV=>?_;refine wC rfl fun K' v=>?_;simp [q,a0,a2,a1];refine v _ (wN (hKV _ (aM ?_)));first | exact u | simpa [a0,a2,a1] using u)
  ·intro D d6 g1 g2 gc
   have d1:D 1=true:=g1 1 (by simp)
   have d2:D 2=true:=g1 2 (by simp)
   have d3:D 3=true:=g1 3 (by simp)
   have d4:D 4=true:=g1 4 (by simp)
   have d5:D 5=true:=g1 5 (by simp)
   have d7:D 7=false:=g2 7 (by simp) (by simp)
   have p8_0:D 8=true→D 0=true:=fun h=>gc 8 0 h (by simp) (by simp)
   cases d0:D 0<;>cases d8:D 8<;>(simp [d8,d0] at p8_0)<;>(intro K u;simp [lW,dW,cE,aW,bB,d0,d1,d2,d3,d4,d5,d6,d7,d8] at u ⊢;refine jW fun KV hKV=>?_;refine wC rfl fun K' v=>?_;simp [q,a0,a2,a1];refine v _ (wN (hKV _ (aM ?_)));first | exact u | simpa [a0,a2,a1] using u)
  ·intro D d7 g1 g2 gc
   have d1:D 1=true:=g1 1 (by simp)
   have d2:D 2=true:=g1 2 (by simp)
   have d3:D 3=true:=g1 3 (by simp)
   have d4:D 4=true:=g1 4 (by simp)
   have d5:D 5=true:=g1 5 (by simp)
   have d6:D 6=true:=g1 6 (by simp)
   have p8_0:D 8=true→D 0=true:=fun h=>gc 8 0 h (by simp) (by simp)
   cases d0:D 0<;>cases d8:D 8<;>(simp [d8,d0] at p8_0)<;>(intro K u;simp [lW,dW,cE,aW,bB,d0,d1,d2,d3,d4,d5,d6,d7,d8] at u ⊢;refine jW fun KV hKV=>?_;refine wC rfl fun K' v=>?_;simp [q,a0,a2,a1];refine v _ (wN (hKV _ (aM ?_)));first | exact u | simpa [a0,a2,a1] using u)
  intro D d8 g1 g2 gc
  have d0:D 0=true:=g1 0 (by simp)
  have p3_2:D 3=true→D 2=true:=fun h=>gc 3 2 h (by simp) (by simp)
  have p4_3:D 4=true→D 3=true:=fun h=>gc 4 3 h (by simp) (by simp)
  have p5_4:D 5=true→D 4=true:=fun h=>gc 5 4 h (by simp) (by simp)
  have p6_1:D 6=true→D 1=true:=fun h=>gc 6 1 h (by simp) (by simp)
  have p6_5:D 6=true→D 5=true:=fun h=>gc 6 5 h (by simp) (by simp)
  have p7_6:D 7=true→D 6=true:=fun h=>gc 7 6 h (by simp) (by simp)
  cases d1:D 1<;>cases d2:D 2<;>cases d3:D 3<;>(simp [d3,d2] at p3_2)<;>cases d4:D 4<;>(simp [d4,d3] at p4_3)<;>cases d5:D 5<;>(simp [d5,d4] at p5_4)<;>cases d6:D 6<;>(simp [d6,d1] at p6_1)<;>(simp [d6,d5] at p6_5)<;>cases d7:D 7<;>(simp [d7,d6] at p7_6)<;>(intro K u;simp [lW,dW,cE,aW,bB,d0,d1,d2,d3,d4,d5,d6,d7,d8] at u ⊢;refine jW fun KV hKV=>?_;refine wC rfl fun K' v=>?_;simp [q,a0,a2,a1];refine v _ (wN (hKV _ (aM ?_)));first | exact u | simpa [a0,a2,a1] using u)
 simp [lW,dW,aW,bB]
 refine V_q q ?_ rfl (by simp [a0,a2,a1];rfl)
 apply aM;apply u
 cases h
 refine O.ret ?_
 simp [aO,iB,res16]
instance e16_:Ent E 16:=⟨ent16⟩
theorem res8:Tryz.f8.results.toList=[.cell 2 27]:=rfl
theorem ent8:eG E.P 8:=eO Tryz.func8 (by simp [Tryz.f8]) rfl
instance c8_ (a0:List Int) {r0:GProgram}:Con E 8 (jG a0=some r0) [.val (.sl false 1 (List.map (vk .u8) a0))] [GProgram.enc true r0] []:=Con.mk fun h=>by
 refine oB Tryz.func8 rfl (by simp [Tryz.f8]) fun C (q:C.N=6) hP=>?_
 have y:=zZ hP
 unfold jG at h
 iterate 5 first|refine V_q q ?_|apply aM|refine O.zT y ?_
 obtain ⟨r2,a1,h⟩:=bS h
 refine aIt [(.take,.tmp 3)] 4 3 rfl rfl rfl ent22 rfl (tH _ a1) rfl fun K u=>?_;simp [q];apply u
 obtain ⟨⟨r4,q5⟩,a2,h⟩:=bS h
 try dsimp only at h
 refine jW fun KW hKW=>?_
 refine hE [((.ptr 3),.tmp 4)] q (Ent.ok (E:=E) (f:=21)) (Con.ok a2) ?_
 refine wN (hKW _ ?_);clear hKW
 refine V_q q ?_
 apply aM
 cases h
 refine O.ret ?_
 simp [aO,iB,res8]
instance e8_:Ent E 8:=⟨ent8⟩
end Go.Proofs.T
