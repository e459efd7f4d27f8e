import Derived.Test.YteimlhpimngjfaaDoorW0
import Derived.Test.YteimlhpimngjfaaDoorW1
set_option linter.unusedVariables false
set_option linter.unusedSimpArgs false
set_option linter.unusedVariables false
set_option linter.unusedSimpArgs false
set_option maxHeartbeats 8000000
set_option maxRecDepth 100000
namespace Go.Proofs.T
open Go.OM
section
attribute [local irreducible] Hg M St.wps thenS iB Lv Ct Lp VL Option.bind getI sAt sSub sCat appI mkI subI setI bindS loopP ite Dr
instance e51_ : Ent E 51 := ent_of Tryd.func51
instance c51_ (a1 : GIns) (a0 : Int) {r0 : Int} : Con E 51 (laws_szIns a1 a0 = some r0) [.val (GIns.enc false a1), .val (vi a0)] [vi r0] [] := by
 refine h_fn Tryd.func51 fun C q => ?_
 unfold laws_szIns
 repeat' first | refine And.intro ?_ ?_ | refine Prod.forall.2 ?_ | (intro _; try dsimp only) | refine h_lo ?_ | exact Z | refine S ?_
instance e64_ : Ent E 64 := ent_of Tryd.func64
instance c64_ (x1 : GIns) {r0 : Int} : Con E 64 (spec_Writes x1 = some r0) [.val (GIns.enc false x1)] [vi r0] [] := by
 refine h_fn Tryd.func64 fun C q => ?_
 unfold spec_Writes
 repeat' first | refine And.intro ?_ ?_ | refine Prod.forall.2 ?_ | (intro _; try dsimp only) | refine h_lo ?_ | exact Z | refine S ?_
instance e78_ : Ent E 78 := ent_of Tryd.func78
instance c78_ (s1 : ByteArray) {r0 : Bool} : Con E 78 (impl_KeyWord s1 = some r0) [.val (vs s1)] [vb r0] [] := by
 refine h_fn Tryd.func78 fun C q => ?_
 unfold impl_KeyWord
 repeat' first | refine And.intro ?_ ?_ | refine Prod.forall.2 ?_ | (intro _; try dsimp only) | refine h_lo ?_ | exact Z | refine S ?_
instance e82_ : Ent E 82 := ent_of Tryd.func82
instance c82_ (a0 : Int) {r0 : Bool} : Con E 82 (impl_hasC a0 = some r0) [.val (vi a0)] [vb r0] [] := by
 refine h_fn Tryd.func82 fun C q => ?_
 unfold impl_hasC
 repeat' first | refine And.intro ?_ ?_ | refine Prod.forall.2 ?_ | (intro _; try dsimp only) | refine h_lo ?_ | exact Z | refine S ?_
end
theorem res67 : Tryd.f67.results.toList = [.tmp 2] := rfl
theorem ent67 : Enters E.P 67 := eO Tryd.func67 (by simp [Tryd.f67]) rfl
instance c67_ (x1 : GIns) {r0 : List Int} : Con E 67 (impl_Reads x1 = some r0) [.val (GIns.enc false x1)] [.sl true 1 (List.map vi r0)] [] := Con.mk fun h => by
 refine oB Tryd.func67 rfl (by simp [Tryd.f67]) fun C (q : C.N = 86) hP => ?_
 have y := pinB0 hP
 unfold impl_Reads at h
 iterate 7 first|refine wps_q q ?_|apply wN|refine M.zS y ?_
 obtain ⟨d6, a1, h⟩ := bS h
 refine M.seqC [3] [] (fun _ : Unit => ⟨[(3, .t (.sl false 1 (List.map vi d6)))], []⟩) (fun _ => True) (fun _ _ => ?_) fun K3 c7 => ?_
 rotate_left
 ·refine M.block ?_
  obtain ⟨e5, b5, a1⟩ := bS a1
  refine M.seqRC rfl (y _ rfl) [1, 3, 7] [1] (fun _ : Unit => ⟨[(1, .ref (.box 1) 0 []), (3, .t (.sl true 1 [])), (7, .t (vb e5))], [(1, [vi x1.Op, vi x1.A, vi x1.B, vi x1.C, vi x1.Num, vs x1.Name, .sl false 1 (List.map vi x1.Args)])]⟩) (fun _ => True) (fun _ _ => ?_) fun K6 d7 => ?_
  rotate_left
  ·refine wps_q q ?_
   refine wps_q q ?_
   obtain ⟨r7, e6, b5⟩ := bS b5
   refine wps_c [(.take, .tmp 9), (.take, .const (.int .i64 2)), (.take, .const (.int .i64 7))] q (Ent.ok (E := E) (f := 50)) (Con.ok e6) ?_
   refine wps_q q ?_
   rcases ite_or b5 with ⟨c8, b5⟩ | ⟨a8, b5⟩
   ·have b3 := c8
    try simp at b3
    iterate 3 (refine wO fun K u => ?_; simp [q, c8, b3]; apply u)
    iterate 2 (refine wps_q q ?_ rfl (by simp [c8, b3]; rfl))
    iterate 3 (refine wO fun K u => ?_; simp [q, c8, b3]; apply u)
    iterate 2 (refine wps_q q ?_ rfl (by simp [c8, b3]; rfl))
    refine wN ?_
    cases b5
    exact d7 _ () [] trivial (by simp [q, c8, b3])
   have a3 := a8
   try simp at a3
   iterate 5 (refine wps_q q ?_ rfl (by simp [a8, a3]; rfl))
   rcases ite_or b5 with ⟨b8, b5⟩ | ⟨c5, b5⟩
   ·have b0 := b8
    try simp at b0
    iterate 3 (refine wO fun K u => ?_; simp [q, a8, a3, b8, b0]; apply u)
    iterate 2 (refine wps_q q ?_ rfl (by simp [a8, a3, b8, b0]; rfl))
    refine wN ?_
    cases b5
    exact d7 _ () [] trivial (by simp [q, a8, a3, b8, b0])
   have b6 := c5
   try simp at b6
   iterate 5 (refine wps_q q ?_ rfl (by simp [a8, a3, c5, b6]; rfl))
   refine wN ?_
   cases b5
   exact d7 _ () [] trivial (by simp [q, a8, a3, c5, b6])
  refine M.cI a1 (fun e7 a1 => ?_) fun e8 a1 => ?_
  ·refine M.zH y ?_
   iterate 4 refine wps_q q ?_
   apply wN
   cases a1
   exact c7 _ () [3] trivial (by simp [q])
  refine M.zS y ?_
  iterate 2 refine wps_q q ?_
  obtain ⟨h5, d8, a1⟩ := bS a1
  refine wps_c [(.take, .tmp 26), (.take, .const (.int .i64 10)), (.take, .const (.int .i64 12))] q (Ent.ok (E := E) (f := 50)) (Con.ok d8) ?_
  refine wps_q q ?_
  apply wN
  refine M.cI a1 (fun e9 a1 => ?_) fun g0 a1 => ?_
  ·refine M.zH y ?_
   iterate 6 refine wps_q q ?_
   apply wN
   cases a1
   exact c7 _ () [3] trivial (by simp [q])
  refine M.zS y ?_
  iterate 4 refine wps_q q ?_
  apply wN
  refine M.cI a1 (fun g1 a1 => ?_) fun g2 a1 => ?_
  ·refine M.zH y ?_
   iterate 3 refine wps_q q ?_
   apply wN
   cases a1
   exact c7 _ () [] trivial (by simp [q])
  refine M.zS y ?_
  iterate 4 refine wps_q q ?_
  apply wN
  refine M.cI a1 (fun g3 a1 => ?_) fun g4 a1 => ?_
  ·refine M.zH y ?_
   iterate 6 refine wps_q q ?_
   apply wN
   cases a1
   exact c7 _ () [3] trivial (by simp [q])
  obtain ⟨g5, a2, a1⟩ := bS a1
  refine M.seqRC rfl (y _ rfl) [1, 3, 48] [1] (fun _ : Unit => ⟨[(1, .ref (.box 1) 0 []), (3, .t (.sl true 1 [])), (48, .t (vb g5))], [(1, [vi x1.Op, vi x1.A, vi x1.B, vi x1.C, vi x1.Num, vs x1.Name, .sl false 1 (List.map vi x1.Args)])]⟩) (fun _ => True) (fun _ _ => ?_) fun h6 b9 => ?_
  rotate_left
  ·refine wps_q q ?_
   iterate 3 refine wps_q q ?_
   rcases ite_or a2 with ⟨b4, a2⟩ | ⟨a4, a2⟩
   ·have a6 := b4
    try simp at a6
    iterate 3 (refine wO fun K u => ?_; simp [q, b4, a6]; apply u)
    iterate 2 (refine wps_q q ?_ rfl (by simp [b4, a6]; rfl))
    iterate 8 (refine wO fun K u => ?_; simp [q, b4, a6]; apply u)
    iterate 2 (refine wps_q q ?_ rfl (by simp [b4, a6]; rfl))
    refine wN ?_
    cases a2
    exact b9 _ () [] trivial (by simp [q, b4, a6])
   have a0 := a4
   try simp at a0
   iterate 5 (refine wps_q q ?_ rfl (by simp [a4, a0]; rfl))
   rcases ite_or a2 with ⟨c0, a2⟩ | ⟨a9, a2⟩
   ·have b1 := c0
    try simp at b1
    iterate 8 (refine wO fun K u => ?_; simp [q, a4, a0, c0, b1]; apply u)
    iterate 2 (refine wps_q q ?_ rfl (by simp [a4, a0, c0, b1]; rfl))
    refine wN ?_
    cases a2
    exact b9 _ () [] trivial (by simp [q, a4, a0, c0, b1])
   have a5 := a9
   try simp at a5
   iterate 4 (refine wps_q q ?_ rfl (by simp [a4, a0, a9, a5]; rfl))
   rcases ite_or a2 with ⟨c6, a2⟩ | ⟨c1, a2⟩
   ·have b7 := c6
    try simp at b7
    iterate 6 (refine wps_q q ?_ rfl (by simp [a4, a0, a9, a5, c6, b7]; rfl))
    refine wN ?_
    cases a2
    exact b9 _ () [] trivial (by simp [q, a4, a0, a9, a5, c6, b7])
   have b2 := c1
   try simp at b2
   iterate 3 (refine wO fun K u => ?_; simp [q, a4, a0, a9, a5, c1, b2]; apply u)
   iterate 3 (refine wps_q q ?_ rfl (by simp [a4, a0, a9, a5, c1, b2]; rfl))
   refine wN ?_
   cases a2
   exact b9 _ () [] trivial (by simp [q, a4, a0, a9, a5, c1, b2])
  refine M.cI a1 (fun g6 a1 => ?_) fun g7 a1 => ?_
  ·refine M.zH y ?_
   iterate 4 refine wps_q q ?_
   apply wN
   cases a1
   exact c7 _ () [3] trivial (by simp [q])
  refine M.skip ?_
  cases a1
  exact c7 _ () [3] trivial (by simp [q])
 refine M.zS y ?_
 refine wps_q q ?_
 apply wN
 obtain ⟨c9, d9, h⟩ := bS h
 refine M.seqC [4] [] (fun _ : Unit => ⟨[(4, .t (.sl true 1 (List.map vi c9)))], []⟩) (fun _ => True) (fun _ _ => ?_) fun h7 e0 => ?_
 rotate_left
 ·refine M.zS y ?_
  iterate 3 refine wps_q q ?_
  apply wN
  refine M.block ?_
  refine M.loopO [] [4, 70, 71, 72] [] (fun v : (List Int) × Int => ⟨[(4, .t (.sl true 1 (List.map vi v.1))), (70, .t (.sl false 1 (List.map vi d6))), (71, .t (vi (d6.length : Int))), (72, .t (vi v.2))], []⟩) (impl_Reads_l1 d6) _ ([], (0 : Int)) d9 (by simp [q]) ?_
  intro g h8 a7 e1
  obtain ⟨d0, h9⟩ := g
  simp only [impl_Reads_l1] at a7
  try dsimp only
  refine M.zS y ?_
  refine wps_q q ?_
  apply wN
  refine M.seq ?_
  refine M.cI a7 (fun g8 a7 => ?_) fun g9 a7 => ?_
  ·refine M.skip ?_
   refine M.seq ?_
   refine M.block ?_
   refine M.zS y ?_
   obtain ⟨h0, e2, a7⟩ := bS a7
   obtain ⟨d1, d2, d3, d4⟩ := gS e2
   iterate 3 (refine wps_q q ?_ rfl (by simp [d1, d2, d3, d4]; rfl))
   apply wN
   refine M.zS y ?_
   iterate 2 refine wps_q q ?_
   obtain ⟨i0, e3, a7⟩ := bS a7
   refine wps_c [(.bor, .tmp 76), (.take, .tmp 77)] q (Ent.ok (E := E) (f := 66)) (Con.ok e3) ?_
   refine wps_q q ?_
   apply wN
   refine M.cI a7 (fun h1 a7 => ?_) fun h2 a7 => ?_
   ·refine M.zH y ?_
    iterate 3 refine wps_q q ?_
    obtain ⟨h3, e4, a7⟩ := bS a7
    obtain ⟨c2, c3, d5⟩ := aS e4
    have c4 : List.map vi d0 ++ List.map vi [h0] = List.map vi h3 := app_map (f := vi) d5
    simp [eSl] at c2 c3 c4
    iterate 2 (refine wps_q q ?_ rfl (by simp [c2, c3, c4]; rfl))
    apply wN
    refine M.zH y ?_
    iterate 2 refine wps_q q ?_
    apply wN
    cases a7
    exact ⟨_, [], rfl, by simp [q]⟩
   refine M.skip ?_
   refine M.zH y ?_
   iterate 2 refine wps_q q ?_
   apply wN
   cases a7
   exact ⟨_, [], rfl, by simp [q]⟩
  refine M.exit ?_
  have h4 := congrArg some (e1 _ (Option.some.inj a7).symm)
  cases h4
  exact e0 _ () [] trivial (by simp [q])
 refine M.zS y ?_
 iterate 2 refine wps_q q ?_
 apply wN
 cases h
 refine M.ret ?_
 simp [thenS, iB, res67]
instance e67_ : Ent E 67 := ⟨ent67⟩
end Go.Proofs.T
