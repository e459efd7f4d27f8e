import Derived.Test.YtaikgmffaohobaaGreatDoorOmB
import Derived.Sort.OwnSortedInts
set_option linter.unusedVariables false
set_option linter.unusedSimpArgs false
set_option linter.unusedVariables false
set_option linter.unusedSimpArgs false
namespace Go.OM
open Go.Sort
theorem er_ints:∀ {es:List TA}{l:List Int},TA.erL es=(l.map fun n=>T.v (.int .i64 n))→es=l.map fun n=>TA.v (.int .i64 n)
 | [],[],_=>rfl
 | [],x :: xs,h=>by simp [TA.erL] at h
 | a :: as,[],h=>by simp [TA.erL] at h
 | a :: as,x :: xs,h=>by
  simp only [TA.erL,List.map_cons,List.cons.injEq] at h ⊢
  refine⟨?_,er_ints h.2⟩
  have h1:=h.1
  cases a<;>simp only [TA.er,T.v.injEq,reduceCtorEq] at h1
  rw [h1]
theorem vals_ints (l:List Int):TA.vals ((l.map fun n=>TA.v (.int .i64 n)).flatMap TA.cells)=l.map (Value.int .i64):=by
 induction l with
 | nil=>rfl
 | cons x l ih =>
  simp only [List.map_cons,List.flatMap_cons,TA.cells,TA.vals,List.map_append,List.map_nil,TA.val1,List.singleton_append]
  simp only [TA.vals] at ih
  rw [ih]
theorem cntL_ints (q:Nat)(l:List Int):TA.cntL q (l.map fun n=>TA.v (.int .i64 n))=0:=by
 induction l with
 | nil=>rfl
 | cons x l ih=>simp only [List.map_cons,TA.cntL,TA.cnt,ih]
theorem holdsL_ints (Z:Nat→Prop)(h:Array Obj)(l:List Int):TA.HoldsL Z h (l.map fun n=>TA.v (.int .i64 n)):=by
 induction l with
 | nil=>simp [TA.HoldsL]
 | cons x l ih=>simp only [List.map_cons,TA.HoldsL,TA.Holds];exact⟨trivial,ih⟩
theorem ok_sorts {E : Env} {f : FuncId} (hne : ∀ (blk off cap : Nat) (zs : List Int) (w : World), Holds (Value.int .i64) w blk off zs.toArray → blk < w.heap.size → zs.length < 4611686018427387904 →
      Calls E.P f #[.slice (some ⟨blk, off, none⟩) zs.length cap] w fun e w' => e = .returned (.tuple #[]) ∧ ∃ n os, w' = grow (putRow (Value.int .i64) (Sort.ahead w n) blk off (zs.mergeSort fun x y => decide (x ≤ y)).toArray) os)
    (hnil : ∀ (p : Option Addr) (cap : Nat) (w : World), Calls E.P f #[.slice p 0 cap] w fun e w' => e = .returned (.tuple #[]) ∧ w' = w)
    (l : List Int) (hl : l.length < 4611686018427387904) : OkIO E f [.val (.sl true 1 (l.map fun n => T.v (.int .i64 n)))] [] [] [(0, .sl true 1 ((l.mergeSort fun x y => decide (x ≤ y)).map fun n => T.v (.int .i64 n)))] := by
  intro w Z as has hA hG
  obtain ⟨a, rfl⟩ : ∃ a, as = [a] := by
    cases as with
    | nil => simp at has
    | cons a t =>
      cases t with
      | nil => exact ⟨a, rfl⟩
      | cons b t => simp at has
  simp only [List.map_cons, List.map_nil, List.cons.injEq, and_true] at has
  have hHa := hA.holds a (by simp)
  cases a with
  | ptr b off cs => simp only [ArgA.er, reduceCtorEq] at has
  | val x =>
    simp only [ArgA.er, Arg.val.injEq] at has
    cases x with
    | v x => simp only [TA.er, reduceCtorEq] at has
    | agg x => simp only [TA.er, reduceCtorEq] at has
    | dead x => simp only [TA.er, reduceCtorEq] at has
    | clo f cs => simp only [TA.er, reduceCtorEq] at has
    | pt b off cs => simp only [TA.er, reduceCtorEq] at has
    | nl o s A =>
      simp only [TA.er, T.sl.injEq] at has
      obtain ⟨rfl, rfl, h3⟩ := has
      have hl0 : l = [] := by cases l <;> simp_all
      subst hl0
      refine (hnil A 0 w).mono fun e w' ⟨he, hw⟩ => ?_
      subst hw
      refine ⟨Z, [], [], [TA.nl true 1 A], he, rfl, rfl, by simp [TA.erL, TA.er], rfl, ?_⟩
      exact {
        holds := ⟨hHa, trivial⟩
        outs := trivial
        uniq := fun q => by simp [TA.cntL, TA.cnt, pcL, ArgA.pc]
        own := fun q hq => by simp [TA.cntL, TA.cnt] at hq
        zle := fun _ h => h
        zext := fun _ h => .inl h
        zlt := hA.zlt
        os := rfl
        tape := rfl
        output := rfl
        grown := Nat.le_refl _
        kept := fun q hq _ => rfl
        part := fun x hx => by simp [ptrs] at hx }
    | sl o s b off cap es =>
      simp only [TA.er, T.sl.injEq] at has
      obtain ⟨rfl, rfl, h3⟩ := has
      have hes := er_ints h3
      subst hes
      obtain ⟨⟨cs, ety, fr, m1, m2, m3⟩, hc, _, _, _⟩ := hHa
      obtain ⟨m4, rfl⟩ := m2 rfl
      rw [vals_ints] at m3
      rw [List.length_map] at hc
      have hb : b < w.heap.size := (Array.getElem?_eq_some_iff.1 m1).1
      have hHold : Sort.Holds (Value.int .i64) w b off l.toArray := by
        intro j hj
        have hj' : j < l.length := by simpa using hj
        have := m3 j (.int .i64 l[j]) (by rw [List.getElem?_map, List.getElem?_eq_getElem hj']; rfl)
        refine ⟨?_, by simp [World.frozen?, m1]⟩
        simp only [World.cell?, m1]
        simp [this, hj']
      have hval : (ArgA.val (TA.sl true 1 b off cap (l.map fun n => TA.v (.int .i64 n)))).value = .slice (some ⟨b, off, none⟩) l.length cap := by
        simp [ArgA.value, TA.val, TA.val1]
      show Calls E.P f #[(ArgA.val (TA.sl true 1 b off cap (l.map fun n => TA.v (.int .i64 n)))).value] w _
      rw [hval]
      refine (hne b off cap l w hHold hb hl).mono fun e w' ⟨he, n, os, hw⟩ => ?_
      generalize hso : (l.mergeSort fun x y => decide (x ≤ y)) = so at *
      have hsl : so.length = l.length := by rw [← hso]; exact List.length_mergeSort _
      have hheap : w'.heap[b]? = some (.cells (putCells (Value.int .i64) off so.toArray cs) ety (0, 0)) := by
        rw [hw, heap_grow_old _ _ (by simpa [putRow, mapBlock, Sort.ahead] using hb)]
        simp [putRow, mapBlock, Sort.ahead, Array.getElem?_modify, m1, onCells]
      have hgrown : w.heap.size ≤ w'.heap.size := by
        rw [hw]
        show w.heap.size ≤ ((putRow (Value.int .i64) (Sort.ahead w n) b off so.toArray).heap ++ os).size
        simp [putRow, mapBlock, Sort.ahead]
      refine ⟨Z, [], [], [TA.sl true 1 b off cap (so.map fun n => TA.v (.int .i64 n))], he, rfl, rfl, ?_, ?_, ?_⟩
      · simp only [TA.erL, TA.er, TA.erL_map, List.map_map, List.map_cons, List.map_nil]
        rfl
      · have hv2 : ([ArgA.val (TA.sl true 1 b off cap (l.map fun n => TA.v (.int .i64 n)))].map ArgA.value)[0]? = some (Value.slice (some ⟨b, off, none⟩) l.length cap) := by
          simp only [List.map_cons, List.map_nil, List.getElem?_cons_zero, hval]
        simp only [List.map_cons, List.map_nil, List.getElem?_cons_zero, Option.getD_some, hval]
        simp [TA.val, TA.val1, hsl]
      · have hinn : ∀ q, innL q [ArgA.val (TA.sl true 1 b off cap (l.map fun n => TA.v (.int .i64 n)))] = if b = q then 1 else 0 := by
          intro q
          simp only [innL, ArgA.inn, TA.cnt, cntL_ints]
          split <;> simp_all
        have hpc : ∀ q, pcL q [ArgA.val (TA.sl true 1 b off cap (l.map fun n => TA.v (.int .i64 n)))] = 0 := by
          intro q; simp [pcL, ArgA.pc]
        have hcnt : ∀ q, TA.cntL q ([] ++ [TA.sl true 1 b off cap (so.map fun n => TA.v (.int .i64 n))]) = if b = q then 1 else 0 := by
          intro q
          simp only [List.nil_append, TA.cntL, TA.cnt, cntL_ints]
          split <;> simp_all
        exact {
          holds := by
            simp only [List.nil_append, TA.HoldsL, TA.Holds, and_true]
            refine ⟨⟨_, ety, (0, 0), hheap, fun _ => ⟨by simpa [putCells] using m4, rfl⟩, fun j u hu => ?_⟩, by rw [List.length_map, hsl]; exact hc, by simp, holdsL_ints _ _ _, ?_⟩
            · rw [vals_ints] at hu
              have hju : j < so.length := by
                have := (List.getElem?_eq_some_iff.1 hu).1
                simpa using this
              have hlt : off + j < cs.size := by omega
              rw [List.getElem?_map, List.getElem?_eq_getElem hju] at hu
              simp only [Option.map_some, Option.some.injEq] at hu
              subst hu
              simp [putCells, hlt, hju]
            · intro e he
              obtain ⟨x, _, rfl⟩ := List.mem_map.1 he
              rfl
          outs := by simp [ptrs, pE]
          uniq := fun q => by
            rw [hcnt, hpc]
            simp only [List.flatten_nil, TA.cntL]
            split <;> omega
          own := fun q hq => by
            rw [hcnt] at hq
            simp only [List.flatten_nil, TA.cntL] at hq
            have h1 : 0 < innL q [ArgA.val (TA.sl true 1 b off cap (l.map fun n => TA.v (.int .i64 n)))] := by
              rw [hinn]; omega
            exact ⟨.inl h1, hA.notZ q (by omega)⟩
          zle := fun _ h => h
          zext := fun _ h => .inl h
          zlt := fun q hq => Nat.lt_of_lt_of_le (hA.zlt q hq) hgrown
          os := by rw [hw]; rfl
          tape := by rw [hw]; rfl
          output := by rw [hw]; rfl
          grown := hgrown
          kept := fun q hq h0 => by
            rw [hinn] at h0
            have hne' : ¬ b = q := by
              intro e
              rw [if_pos e] at h0
              omega
            rw [hw, heap_grow_old _ _ (by simpa [putRow, mapBlock, Sort.ahead] using hq)]
            simp [putRow, mapBlock, Sort.ahead, Array.getElem?_modify, hne']
          part := fun x hx => by simp [ptrs] at hx }
end Go.OM
