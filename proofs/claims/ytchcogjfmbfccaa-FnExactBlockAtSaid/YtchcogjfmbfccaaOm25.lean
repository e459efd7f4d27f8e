import Derived.Test.YtchcogjfmbfccaaOm24
set_option linter.unusedVariables false
set_option linter.unusedSimpArgs false
namespace Go.OM
variable {C : Ctx} {Z Z' : Nat → Prop} {s : StA} {a : Act} {w w' : World} {E : Env} {o : Oper} {σ σ' : St} {K : Act → World → Prop} {Q : Exit → Act → World → Prop}

/-! ### How a function is left -/
def St.res1 (E : Env) (N : Nat) (r : ResultVar) (σ : St) : Option (T × St) := match r with
  | .tmp t => σ.take N (.tmp t)
  | .cell c t => (E.ty t).bind fun ti => match σ.get c with
    | .ref r o p => (σ.rootCells r).bind fun cs => (T.getP cs o p ti.size).bind fun l => some (mkT ti.kk l, σ.setRoot true r (T.setP cs o p (l.map T.bury)))
    | _ => none
def St.resL (E : Env) (N : Nat) : List ResultVar → St → Option (List T × St)
  | [], σ => some ([], σ)
  | r :: rs, σ => (σ.res1 E N r).bind fun y => (St.resL E N rs y.2).bind fun z => some (y.1 :: z.1, z.2)
def resS (tmps : Array Value) : ResultVar → Sem Value
  | .tmp t => pure (tmps.getD t undef)
  | .cell a t => do loadVar t (← asAddr (tmps.getD a undef))
theorem results_eq (fn : Func) (tmps : Array Value) : results fn tmps = (do
    let vs ← fn.results.mapM (resS tmps)
    pure (if h : vs.size = 1 then vs[0] else .tuple vs)) := by
  unfold results
  congr 2
theorem res1_ok {r : ResultVar} {y : T} (H : SRel C Z s a w) (h : s.er.res1 E C.N r = some (y, σ')) :
    ∃ s' yA, yA.er = y ∧ s'.er = σ' ∧ s'.hd = yA :: s.hd ∧ SRel C Z s' a w ∧ (resS a.tmps r).run E.P w = .ok yA.val w ∧ yA.Holds Z w.heap := by
  cases r with
  | tmp t =>
    simp only [St.res1] at h
    obtain ⟨s', yA, t1, t2, t3, t4, t5, t6⟩ := take_ok H h
    refine ⟨s', yA, t1, t2, t3, t4, ?_, t6⟩
    have hev : a.eval (.tmp t) = a.tmps.getD t undef := rfl
    rw [hev] at t5
    simp [resS, t5]
  | cell c t =>
    simp only [St.res1] at h
    obtain ⟨ti, hti, h⟩ := Option.bind_eq_some_iff.1 h
    split at h
    case h_2 => cases h
    rename_i r p q hx
    obtain ⟨csT, hcs, h⟩ := Option.bind_eq_some_iff.1 h
    obtain ⟨lT, hl, h⟩ := Option.bind_eq_some_iff.1 h
    simp only [Option.some.injEq, Prod.mk.injEq] at h
    obtain ⟨rfl, rfl⟩ := h
    obtain ⟨xA, e1, e2⟩ := opA H (.tmp c)
    simp only [St.op] at e1
    rw [hx] at e1
    rw [er_ref e1] at e2
    obtain ⟨base, cs, ad, g1, g2, g3⟩ := e2
    rw [StA.er_rootCells, g1] at hcs
    simp only [Option.map_some, Option.some.injEq] at hcs
    subst hcs
    obtain ⟨l, t1, t2⟩ := TA.er_get _ _ _ _ _ hl
    subst t2
    obtain ⟨h1, h2, h3, h4⟩ := root_holds H g1
    obtain ⟨r1, r2, r3⟩ := H.takePlace g1 t1
    obtain ⟨m1, m2, m3, m4, m5⟩ := place_mem q base cs p ti.size l ad t1 g2 h1 h3
    obtain ⟨kg, k1⟩ := kk_getD E hti
    have hlen := TA.getP_length _ _ _ _ _ t1
    have hk : ti.kk = none → l.length = 1 := fun e => by rw [hlen]; exact k1 e
    have hev : a.eval (.tmp c) = a.tmps.getD c undef := rfl
    refine ⟨_, mkTA ti.kk l, er_mkTA ti.kk l, ?_, ?_, r1.drop (hd' := mkTA ti.kk l :: s.hd) (fun q => ?_) ?_, ?_, mkTA_holds hk r3 r2⟩
    · show StA.er _ = _
      have := StA.er_setRoot s true r (TA.setP cs p q (l.map TA.bury)) (l ++ s.hd)
      rw [TA.er_set, erL_bury] at this
      exact this
    · rfl
    · rw [hd_setRoot]
      simp only [TA.cntL, TA.cntL_append, mkTA_cnt q hk]; omega
    · simp only [TA.HoldsL]
      exact ⟨mkTA_holds hk r3 r2, H.hand⟩
    · have hload := run_loadVar (w := w) hti (b := ad.1) (off := ad.2) m3 hlen r3 m5
      rw [hev] at g3
      rw [mkTA_val hk r3]
      simp only [resS, g3, Sem.run_bind, asAddr]
      simpa using hload
theorem resL_ok : ∀ (rs : List ResultVar) (s : StA) (ys : List T) (σ' : St), SRel C Z s a w → St.resL E C.N rs s.er = some (ys, σ') →
    ∃ s' ysA, TA.erL ysA = ys ∧ s'.er = σ' ∧ SRel C Z s' a w ∧ (∀ k, TA.cntL k s'.hd = TA.cntL k ysA + TA.cntL k s.hd) ∧ TA.HoldsL Z w.heap ysA ∧
      (rs.mapM (resS a.tmps)).run E.P w = .ok (ysA.map TA.val) w
  | [], s, ys, σ', H, h => by
    simp only [St.resL, Option.some.injEq, Prod.mk.injEq] at h
    obtain ⟨rfl, rfl⟩ := h
    exact ⟨s, [], rfl, rfl, H, (fun k => by simp [TA.cntL]), trivial, by simp⟩
  | r :: rs, s, ys, σ', H, h => by
    simp only [St.resL] at h
    obtain ⟨⟨y, σ1⟩, h1, h⟩ := Option.bind_eq_some_iff.1 h
    obtain ⟨⟨zs, σ2⟩, h2, h⟩ := Option.bind_eq_some_iff.1 h
    simp only [Option.some.injEq, Prod.mk.injEq] at h
    obtain ⟨rfl, rfl⟩ := h
    obtain ⟨s1, yA, t1, t2, t3, t4, t5, t6⟩ := res1_ok H h1
    subst t2
    obtain ⟨s', zsA, r1, r2, r3, r4, r5, r6⟩ := resL_ok rs s1 _ _ t4 h2
    refine ⟨s', yA :: zsA, by simp [TA.erL, t1, r1], r2, r3, fun k => ?_, ?_, ?_⟩
    · rw [r4, t3]; simp only [TA.cntL]; omega
    · simp only [TA.HoldsL]
      refine ⟨?_, r5⟩
      exact t6
    · rw [List.mapM_cons]
      simp only [Sem.run_bind, t5, Result.andThen_ok, r6, Sem.run_pure, List.map_cons]
def St.outsAt (N : Nat) (σ : St) : Nat → List Arg → Option (List (List T))
  | _, [] => some []
  | n, .val _ :: as => σ.outsAt N (n + 1) as
  | n, .ptr _ :: as => (look σ.bx (N + n)).bind fun cs => (σ.outsAt N (n + 1) as).map fun z => cs :: z
/-- What a function hands back, and leaves behind its pointers. -/
def St.leave (E : Env) (N : Nat) (rs : List ResultVar) (args : List Arg) (σ : St) : Option (List T × List (List T)) := (σ.resL E N rs).bind fun y => (y.2.outsAt N 0 args).map fun z => (y.1, z)
theorem outsAt_ok {N : Nat} {s : StA} (H : SRel C Z s a w) : ∀ (as : List ArgA) (n : Nat) (outs : List (List T)), (∀ x ∈ entK N n as, ∃ cs, look s.bx x.1 = some ⟨x.2.1, x.2.2.1, cs⟩ ∧ cs.length = x.2.2.2) → s.er.outsAt N n (as.map ArgA.er) = some outs →
    ∃ ls, ls.map TA.erL = outs ∧ outsOk Z w.heap (ptrs as) ls ∧ (∀ l ∈ ls, ∃ m x, look s.bx m = some x ∧ x.cs = l) ∧ ∃ keys : List Nat, (∀ m ∈ keys, N + n ≤ m) ∧ keys.Nodup ∧ (∀ k, pcL k as + TA.cntL k ls.flatten = (keys.map fun m => ((look s.bx m).map (BoxA.cnt k)).getD 0).sum)
  | [], n, outs, hk, h => by
    simp only [List.map_nil, St.outsAt, Option.some.injEq] at h
    subst h
    exact ⟨[], rfl, trivial, by simp, [], by simp, by simp, fun k => rfl⟩
  | .val x :: as, n, outs, hk, h => by
    simp only [List.map_cons, ArgA.er, St.outsAt] at h
    obtain ⟨ls, h1, h2, h3, keys, h4, h5, h6⟩ := outsAt_ok H as (n + 1) outs hk h
    exact ⟨ls, h1, h2, h3, keys, (fun m hm => by have := h4 m hm; omega), h5, fun k => by simp only [pcL, ArgA.pc, Nat.zero_add]; exact h6 k⟩
  | .ptr b off cs0 :: as, n, outs, hk, h => by
    simp only [List.map_cons, ArgA.er, St.outsAt] at h
    obtain ⟨csT, hcs, h⟩ := Option.bind_eq_some_iff.1 h
    obtain ⟨z, hz, h⟩ := Option.map_eq_some_iff.1 h
    subst h
    obtain ⟨cs, g1, g2⟩ := hk (N + n, b, off, cs0.length) (by simp [entK])
    simp only at g1 g2
    rw [look_er_bx, g1] at hcs
    simp only [Option.map_some, Option.some.injEq] at hcs
    subst hcs
    obtain ⟨ls, h1, h2, h3, keys, h4, h5, h6⟩ := outsAt_ok H as (n + 1) z (fun x hx => hk x (by simp [entK, hx])) hz
    obtain ⟨m1, m2, m3⟩ := H.bx _ _ g1
    simp only at m1 m2 m3
    refine ⟨cs :: ls, by simp [h1], ⟨by rw [← g2]; exact m1, m2, m3, g2, h2⟩, ?_, (N + n) :: keys, ?_, ?_, fun k => ?_⟩
    · intro l hl
      rcases List.mem_cons.1 hl with rfl | hl
      · exact ⟨_, _, g1, rfl⟩
      · exact h3 l hl
    · intro m hm
      rcases List.mem_cons.1 hm with rfl | hm
      · exact Nat.le_refl _
      · have := h4 m hm; omega
    · refine List.nodup_cons.2 ⟨fun hm => ?_, h5⟩
      have := h4 _ hm; omega
    · have := h6 k
      simp only [pcL, ArgA.pc, List.flatten_cons, TA.cntL_append, List.map_cons, List.sum_cons, g1, Option.map_some, Option.getD_some, BoxA.cnt]
      omega
theorem keys_tot {α : Type} (f : α → Nat) : ∀ (l : List (Nat × α)) (keys : List Nat), keys.Nodup → (keys.map fun m => ((look l m).map f).getD 0).sum ≤ tot f l
  | [], keys, _ => by
    have : (keys.map fun m => ((look ([] : List (Nat × α)) m).map f).getD 0).sum = 0 := by
      induction keys with
      | nil => rfl
      | cons m ms ih => simp only [List.map_cons, List.sum_cons, look, Option.map_none, Option.getD_none, Nat.zero_add]; exact ih (List.nodup_cons.1 (by assumption)).2
    omega
  | (n, x) :: l, keys, hn => by
    have ih := keys_tot f l keys hn
    have key : ∀ (keys : List Nat), keys.Nodup → (keys.map fun m => ((look ((n, x) :: l) m).map f).getD 0).sum ≤ (keys.map fun m => ((look l m).map f).getD 0).sum + (if n ∈ keys then f x else 0) := by
      intro keys
      induction keys with
      | nil => intro _; simp
      | cons m ms ihk =>
        intro hn
        obtain ⟨hm, hms⟩ := List.nodup_cons.1 hn
        have := ihk hms
        simp only [List.map_cons, List.sum_cons, look]
        by_cases e : n = m
        · subst e
          rw [if_neg hm] at this
          rw [if_pos rfl, if_pos (by simp)]
          simp only [Option.map_some, Option.getD_some]
          simp only [look] at this
          omega
        · rw [if_neg e]
          simp only [look] at this
          by_cases e2 : n ∈ ms
          · rw [if_pos e2] at this
            rw [if_pos (by simp [e2])]
            omega
          · rw [if_neg e2] at this
            rw [if_neg (by simp [e, e2])]
            omega
    have h2 := key keys hn
    simp only [tot]
    split at h2 <;> omega
/-- **A function's contract, out of its body.** -/
theorem ok_of_body {f : FuncId} {fn : Func} {c : Code} {args : List Arg} {res : List T} {outs : List (List T)} (hf : E.P.funcs[f]? = some fn) (hb : fn.body = some c) (hN : args.length ≤ fn.ntmps)
    (h : ∀ C : Ctx, C.N = fn.ntmps → SWp E C c (fun e σ => (e = .ret ∨ e = .normal) ∧ σ.leave E fn.ntmps fn.results.toList args = some (res, outs)) (entry fn.ntmps args)) : Ok E.P f args res outs := by
  intro w Z as has hA
  subst has
  rw [List.length_map] at hN
  refine calls_of_wp hf hb ?_
  have hent := entry_ok hA hN
  have hsz : (as.map ArgA.value).toArray.size = as.length := by simp
  rw [hsz]
  refine Code.wp_mono (fun e a w' ⟨σ', ⟨he, hl⟩, hS⟩ => ?_) (h (ctxOf fn.ntmps w Z as) rfl _ w hent)
  obtain ⟨s, Z', q1, q2, q3⟩ := hS
  subst q1
  unfold St.leave at hl
  obtain ⟨⟨ys, σ1⟩, hr, hl⟩ := Option.bind_eq_some_iff.1 hl
  obtain ⟨z, hz, hl⟩ := Option.map_eq_some_iff.1 hl
  simp only [Prod.mk.injEq] at hl
  obtain ⟨rfl, rfl⟩ := hl
  obtain ⟨s', rsA, r1, r2, r3, r4, r5, r6⟩ := resL_ok (E := E) (C := ctxOf fn.ntmps w Z as) _ _ _ _ q3 hr
  subst r2
  obtain ⟨ls, o1, o2, o3, keys, o4, o5, o6⟩ := outsAt_ok r3 as 0 z (fun x hx => (r3.pk x hx).2) hz
  have hhd : ∀ k, TA.cntL k s'.hd = TA.cntL k rsA := by
    intro k
    rw [r4, q2]; simp [TA.cntL]
  have htot : ∀ k, TA.cntL k rsA + TA.cntL k ls.flatten + pcL k as ≤ s'.cnt k := by
    intro k
    have h1 := keys_tot (BoxA.cnt k) s'.bx keys o5
    have h2 := o6 k
    have h3 := hhd k
    simp only [StA.cnt]; omega
  have hptr : ∀ k, 0 < TA.cntL k rsA + TA.cntL k ls.flatten → pcL k as = 0 := by
    intro k hk
    have h1 := htot k
    have h2 := r3.uniq k
    omega
  have hB : Back w Z as Z' rsA ls w' := {
    holds := r5
    outs := o2
    uniq := fun k => by have := htot k; have := r3.uniq k; omega
    own := fun k hk => by
      have h1 := htot k
      refine ⟨?_, r3.notZ k (by omega)⟩
      rcases r3.own k (by omega) with h2 | h2
      · left
        have h2 : 0 < innL k as + pcL k as := h2
        have h3 := hptr k hk
        omega
      · exact .inr h2
    zle := r3.z0
    zext := fun k hk => by
      rcases r3.zext k hk with h1 | h1 | ⟨h1, h2⟩
      · exact .inl h1
      · exact .inr (.inl h1)
      · right; right
        have h1 : 0 < innL k as + pcL k as := h1
        have : pcL k as = 0 := by
          rcases Nat.eq_zero_or_pos (pcL k as) with h | h
          · exact h
          · exfalso
            have h2 : ∀ x ∈ ptrs as, x.1 ≠ k := h2
            rw [pcL_ptrs] at h
            generalize ptrs as = qs at h h2
            induction qs with
            | nil => simp at h
            | cons q qs ih =>
              simp only [List.map_cons, List.sum_cons] at h
              rw [if_neg (h2 q (by simp))] at h
              exact ih (by omega) (fun x hx => h2 x (by simp [hx]))
        omega
    zlt := r3.zlt
    os := r3.os
    tape := r3.tape
    output := r3.output
    grown := r3.grown
    kept := fun k hk h0 => r3.kept k hk (by show ¬ (0 < innL k as + pcL k as); omega)
    part := r3.part }
  have hres : (results fn a.tmps).run E.P w' = .ok (retV rsA) w' := by
    rw [results_eq]
    have hml : fn.results.mapM (resS a.tmps) = List.toArray <$> (fn.results.toList.mapM (resS a.tmps)) := by
      conv => lhs; rw [show fn.results = fn.results.toList.toArray by simp]
      rw [List.mapM_toArray]
    rw [hml]
    simp only [Sem.run_bind, Sem.run_map, r6, Result.andThen_ok]
    match rsA with
    | [] => rfl
    | [x] => rfl
    | x :: y :: l => simp [retV]
  have hpost : ∃ v, (results fn a.tmps).run E.P w' = .ok v w' ∧ ∃ Z' rs ls, Ending.returned v = .returned (retV rs) ∧ TA.erL rs = ys ∧ ls.map TA.erL = z ∧ Back w Z as Z' rs ls w' := ⟨_, hres, Z', rsA, ls, rfl, r1, o1, hB⟩
  rcases he with rfl | rfl
  · exact ⟨r3.defers, hpost⟩
  · exact ⟨r3.defers, hpost⟩
end Go.OM
