import Derived.Test.YteimlhpimngjfaaDoorW1
import Derived.Test.YteimlhpimngjfaaDoorW3
set_option linter.unusedVariables false
set_option linter.unusedSimpArgs false
set_option linter.unusedVariables false
set_option linter.unusedSimpArgs false
set_option maxHeartbeats 8000000
set_option maxRecDepth 100000
namespace Go.Proofs.T
open Go.OM
theorem res65 : Tryd.f65.results.toList = [.tmp 2] := rfl
theorem ent65 : Enters E.P 65 := eO Tryd.func65 (by simp [Tryd.f65]) rfl
instance c65_ (x1 : GIns) {r0 : List Int} : Con E 65 (spec_Reads x1 = some r0) [.val (GIns.enc false x1)] [.sl true 1 (List.map vi r0)] [] := Con.mk fun h => by
 refine oB Tryd.func65 rfl (by simp [Tryd.f65]) fun C (q : C.N = 75) hP => ?_
 have y := pinB0 hP
 unfold spec_Reads at h
 iterate 8 first|refine wps_q q ?_|apply wN|refine M.zS y ?_
 obtain ⟨b2, a0, h⟩ := bS h
 refine M.seqC [3] [] (fun _ : Unit => ⟨[(3, .t (.sl true 1 (List.map vi b2)))], []⟩) (fun _ => True) (fun _ _ => ?_) fun K3 b0 => ?_
 rotate_left
 ·refine M.block ?_
  refine M.zS y ?_
  iterate 4 refine wps_q q ?_
  apply wN
  refine M.cI a0 (fun e8 a0 => ?_) fun e9 a0 => ?_
  ·obtain ⟨r7, c5, a0⟩ := bS a0
   refine M.drawX2 rfl (y _ rfl) [10, 11, 12, 13, 14, 15] [[(10, .al (.slot 3) 0 [] none)], [(11, .ref (.box 1) 1 [])], [(12, .t (vi x1.A))], [(13, .t (.sl true 1 (List.map vi r7))), (3, .t (.dead)), (10, .u)], [(14, .ref (.box 1) 2 [])], [(15, .t (vi x1.B))]] [[], [], [], [], [], []] [[], [], [1], [0, 1, 2], [], [4], rg 0 6, rg 0 7] rfl (by simp) rfl rfl rfl ?_ fun K w => ?_
   ·refine ⟨?_, ?_, ?_, ?_, ?_, ?_, trivial⟩
    ·refine owedX2_of rfl rfl rfl ?_
     intro τ D hbx hl d0 g1 g2 K w
     have d3 := g2 3 (by simp) (by simp)
     (simp [famX, putX, d0, d3] at hbx; refine wC rfl fun K' z => ?_; simp [q, hbx, hl, lookF, lookP, look, d0, d3]; exact z _ (wN (w _ (by simp [putL, famX, putX, upd1, hbx, d0, d3]))))
    ·refine owedX2_of rfl rfl rfl ?_
     intro τ D hbx hl d1 g1 g2 K w
     (simp [famX, putX, d1] at hbx; refine wC rfl fun K' z => ?_; simp [q, hbx, hl, lookF, lookP, look, d1]; exact z _ (wN (w _ (by simp [putL, famX, putX, upd1, hbx, d1]))))
    ·refine owedX2_of rfl rfl rfl ?_
     intro τ D hbx hl d2 g1 g2 K w
     have d1 := g1 1 (by simp)
     (simp [famX, putX, d1, d2] at hbx; refine wC rfl fun K' z => ?_; simp [q, hbx, hl, lookF, lookP, look, d1, d2]; exact z _ (wN (w _ (by simp [putL, famX, putX, upd1, hbx, d1, d2]))))
    ·intro D d3 g1 g2 gc
     have d0 : D 0 = true := g1 0 (by simp)
     have d1 : D 1 = true := g1 1 (by simp)
     have d2 : D 2 = true := g1 2 (by simp)
     have p5_4 : D 5 = true → D 4 = true := fun h => gc 5 4 h (by simp) (by simp)
     cases d4 : D 4 <;> cases d5 : D 5 <;> (simp [d5, d4] at p5_4) <;> (intro K w; simp [famD, putL, upd1, famX, putX, d0, d1, d2, d3, d4, d5] at w ⊢; refine wL [(.take, .tmp 10), (.take, .tmp 12)] rfl rfl (Ent.ok (E := E) (f := 75)) (Con.ok c5) fun K' z => ?_; simp [q]; refine z _ (wN ?_); first | exact w | simpa using w)
    ·refine owedX2_of rfl rfl rfl ?_
     intro τ D hbx hl d4 g1 g2 K w
     (simp [famX, putX, d4] at hbx; refine wC rfl fun K' z => ?_; simp [q, hbx, hl, lookF, lookP, look, d4]; exact z _ (wN (w _ (by simp [putL, famX, putX, upd1, hbx, d4]))))
    refine owedX2_of rfl rfl rfl ?_
    intro τ D hbx hl d5 g1 g2 K w
    have d4 := g1 4 (by simp)
    (simp [famX, putX, d4, d5] at hbx; refine wC rfl fun K' z => ?_; simp [q, hbx, hl, lookF, lookP, look, d4, d5]; exact z _ (wN (w _ (by simp [putL, famX, putX, upd1, hbx, d4, d5]))))
   simp [famD, putL, famX, putX]
   obtain ⟨r9, b4, a0⟩ := bS a0
   refine wps_c [(.take, .tmp 13), (.take, .tmp 15)] q (Ent.ok (E := E) (f := 75)) (Con.ok b4) ?_
   refine wps_q q ?_
   apply wN; apply w
   cases a0
   exact b0 _ () [] trivial (by simp [q])
  obtain ⟨c6, a2, a0⟩ := bS a0
  refine M.seqRC rfl (y _ rfl) [1, 3, 17] [1] (fun _ : Unit => ⟨[(1, .ref (.box 1) 0 []), (3, .t (.sl true 1 [])), (17, .t (vb c6))], [(1, [vi x1.Op, vi x1.A, vi x1.B, vi x1.C, vi x1.Num, vs x1.Name, .sl false 1 (List.map vi x1.Args)])]⟩) (fun _ => True) (fun _ _ => ?_) fun g0 b3 => ?_
  rotate_left
  ·refine wps_q q ?_
   iterate 3 refine wps_q q ?_
   rcases ite_or a2 with ⟨a9, a2⟩ | ⟨b1, a2⟩
   ·have a1 := a9
    try simp at a1
    iterate 3 (refine wO fun K r => ?_; simp [q, a9, a1]; apply r)
    iterate 2 (refine wps_q q ?_ rfl (by simp [a9, a1]; rfl))
    refine wN ?_
    cases a2
    exact b3 _ () [] trivial (by simp [q, a9, a1])
   have a3 := b1
   try simp at a3
   iterate 5 (refine wps_q q ?_ rfl (by simp [b1, a3]; rfl))
   refine wN ?_
   cases a2
   exact b3 _ () [] trivial (by simp [q, b1, a3])
  refine M.cI a0 (fun c7 a0 => ?_) fun c8 a0 => ?_
  ·refine M.zH y ?_
   iterate 3 refine wps_q q ?_
   obtain ⟨g3, b5, a0⟩ := bS a0
   refine wps_c [(.take, .tmp 26), (.take, .tmp 28)] q (Ent.ok (E := E) (f := 75)) (Con.ok b5) ?_
   refine wps_q q ?_
   apply wN
   cases a0
   exact b0 _ () [] trivial (by simp [q])
  refine M.zS y ?_
  iterate 4 refine wps_q q ?_
  apply wN
  refine M.cI a0 (fun c9 a0 => ?_) fun d6 a0 => ?_
  ·refine M.zS y ?_
   iterate 3 refine wps_q q ?_
   apply wN
   refine M.cI a0 (fun d7 a0 => ?_) fun d8 a0 => ?_
   ·refine M.zH y ?_
    iterate 3 refine wps_q q ?_
    obtain ⟨g4, b6, a0⟩ := bS a0
    refine wps_c [(.take, .tmp 37), (.take, .tmp 39)] q (Ent.ok (E := E) (f := 75)) (Con.ok b6) ?_
    refine wps_q q ?_
    apply wN
    cases a0
    exact b0 _ () [] trivial (by simp [q])
   refine M.skip ?_
   cases a0
   exact b0 _ () [] trivial (by simp [q])
  refine M.zS y ?_
  iterate 4 refine wps_q q ?_
  apply wN
  refine M.cI a0 (fun d9 a0 => ?_) fun e0 a0 => ?_
  ·refine M.zS y ?_
   refine wps_q q ?_
   apply wN
   refine M.block ?_
   refine M.loopO [] [1, 3, 4] [1] (fun v : (List Int) × Int => ⟨[(1, .ref (.box 1) 0 []), (3, .t (.sl true 1 (List.map vi v.1))), (4, .t (vi v.2))], [(1, [vi x1.Op, vi x1.A, vi x1.B, vi x1.C, vi x1.Num, vs x1.Name, .sl false 1 (List.map vi x1.Args)])]⟩) (spec_Reads_l1 x1) _ ([], (0 : Int)) a0 (by simp [q]) ?_
   intro g g5 a8 b7
   obtain ⟨c4, g6⟩ := g
   simp only [spec_Reads_l1] at a8
   try dsimp only
   refine M.seq ?_
   refine M.zS y ?_
   iterate 5 refine wps_q q ?_
   apply wN
   refine M.cI a8 (fun e1 a8 => ?_) fun e2 a8 => ?_
   ·refine M.skip ?_
    refine M.seq ?_
    refine M.block ?_
    refine M.zH y ?_
    iterate 4 refine wps_q q ?_
    obtain ⟨g7, b8, a8⟩ := bS a8
    obtain ⟨a4, a5, a6, a7⟩ := gS b8
    iterate 2 (refine wps_q q ?_ rfl (by simp [a4, a5, a6, a7]; rfl))
    obtain ⟨g8, b9, a8⟩ := bS a8
    refine wps_c [(.take, .tmp 52), (.take, .tmp 57)] q (Ent.ok (E := E) (f := 75)) (Con.ok b9) ?_ rfl rfl (by simp [a4, a5, a6, a7]; rfl)
    refine wps_q q ?_ rfl (by simp [a4, a5, a6, a7]; rfl)
    apply wN
    refine M.zH y ?_
    iterate 3 refine wps_q q ?_
    apply wN
    cases a8
    exact ⟨_, [], rfl, by simp [q]⟩
   refine M.exit ?_
   have e3 := congrArg some (b7 _ (Option.some.inj a8).symm)
   cases e3
   exact b0 _ () [] trivial (by simp [q])
  refine M.zS y ?_
  iterate 2 refine wps_q q ?_
  obtain ⟨g9, c0, a0⟩ := bS a0
  refine wps_c [(.take, .tmp 61)] q (Ent.ok (E := E) (f := 72)) (Con.ok c0) ?_
  refine wps_q q ?_
  apply wN
  refine M.cI a0 (fun e4 a0 => ?_) fun e5 a0 => ?_
  ·refine M.zS y ?_
   iterate 3 refine wps_q q ?_
   obtain ⟨h0, c1, a0⟩ := bS a0
   refine wps_c [(.take, .tmp 63), (.take, .tmp 65)] q (Ent.ok (E := E) (f := 75)) (Con.ok c1) ?_
   iterate 5 first|refine wps_q q ?_|apply wN|refine M.zS y ?_
   obtain ⟨h1, c2, a0⟩ := bS a0
   refine wps_c [(.take, .tmp 68)] q (Ent.ok (E := E) (f := 74)) (Con.ok c2) ?_
   apply wN
   refine M.cI a0 (fun e6 a0 => ?_) fun e7 a0 => ?_
   ·refine M.zH y ?_
    iterate 3 refine wps_q q ?_
    obtain ⟨h2, c3, a0⟩ := bS a0
    refine wps_c [(.take, .tmp 70), (.take, .tmp 72)] q (Ent.ok (E := E) (f := 75)) (Con.ok c3) ?_
    refine wps_q q ?_
    apply wN
    cases a0
    exact b0 _ () [] trivial (by simp [q])
   refine M.skip ?_
   cases a0
   exact b0 _ () [] trivial (by simp [q])
  refine M.skip ?_
  cases a0
  exact b0 _ () [] trivial (by simp [q])
 refine M.zS y ?_
 iterate 2 refine wps_q q ?_
 apply wN
 cases h
 refine M.ret ?_
 simp [thenS, iB, res65]
instance e65_ : Ent E 65 := ⟨ent65⟩
end Go.Proofs.T
