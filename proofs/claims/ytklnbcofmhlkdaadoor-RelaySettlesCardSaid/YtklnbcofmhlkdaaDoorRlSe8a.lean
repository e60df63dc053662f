/- relay.Settle: operations on whole states. -/
import Derived.Test.YtklnbcofmhlkdaaDoorRlSe7
import Derived.Great.BuildSlice
set_option linter.unusedVariables false
set_option linter.unusedSimpArgs false
namespace Go.Proofs.YtklnbcofmhlkdaaDoor
open Go.RowKit Rl

theorem fill_whole (C Z : Array Value) (h : Z.size = C.size) : C.zipIdx.foldl (fun cs (p : Value × Nat) => cs.setIfInBounds (0 + p.2) p.1) Z = C := by
  have hl : C.zipIdx.toList = (List.range C.size).map fun k => (C.getD k undef, k) := by
    apply List.ext_getElem?
    intro i
    simp only [Array.toList_zipIdx, List.getElem?_zipIdx, List.getElem?_map, Array.getElem?_toList, Nat.zero_add]
    rcases Nat.lt_or_ge i C.size with hi | hi
    · rw [List.getElem?_range hi]
      simp [hi]
    · rw [List.getElem?_eq_none (by simpa using hi), Array.getElem?_eq_none hi]
      rfl
  rw [← Array.foldl_toList, hl, List.foldl_map]
  have e : (List.range C.size).foldl (fun t k => t.setIfInBounds (0 + k) (C.getD k undef)) Z = ((List.range C.size).map fun k => (k, C.getD k undef)).foldl (fun t p => t.setIfInBounds p.1 p.2) Z := by
    rw [List.foldl_map]; simp only [Nat.zero_add]
  rw [e]
  refine Array.ext_getElem? fun j => ?_
  rcases Nat.lt_or_ge j C.size with hj | hj
  · rw [foldl_map (fun k => C.getD k undef) _ _ j (by simpa using hj) (by omega)]
    simp [hj]
  · rw [Array.getElem?_eq_none hj, Array.getElem?_eq_none (by rw [foldl_size]; omega)]
theorem info58z : (Tryd.prog.info? 58).map (fun i => (i.zero, i.size, i.bytes)) = some (some (.agg zeros38), 38, 304) := by kernel_rfl
theorem run_build62 (C : Array Value) (h : C.size = 38) (W : World) : (Instr.buildSlice 62 1 #[(0, .agg C)]).run Tryd.prog W = .ok (.slice (some ⟨W.heap.size, 0, none⟩) 1 1) (W.alloc (.cells C 58)) := by
  obtain ⟨i, hi0, hi1, hi2, hi3⟩ := info_parts info58z
  have hf : Instr.fill (fun k => some (k * 38, 38)) ((Array.range (1 * 38)).map (zeros38[· % 38]!)) [(0, .agg C)] = some C := by
    simp only [Instr.fill, Value.cells, h]
    rw [if_neg (by simp)]
    simp only [Nat.zero_mul, Option.some.injEq]
    exact fill_whole C _ (by simp [h])
  exact run_buildSlice W 62 58 1 #[(0, .agg C)] C i (.agg zeros38) Tryd.underlying62 hi0 hi1 (by rw [hi2]; decide) (by rw [hi2]; decide) (by rw [hi2]; exact hf)

section
variable {ops : Array Oper} {rest : List Oper} {o : Oper} {a : Act} {w : World} {Q : Exit → Act → World → Prop}
theorem wpList_b62 (hgd : o.guard = none) (x : Operand) (ho : o.op = .buildSlice 62 1 #[(0, x)]) (C : Array Value) (hx : a.eval x = .agg C) (hC : C.size = 38) (h : wpList Tryd.prog ops Q rest (a.put o.dst (.slice (some ⟨w.heap.size, 0, none⟩) 1 1)) (w.alloc (.cells C 58))) : wpList Tryd.prog ops Q (o :: rest) a w := by
  refine wpList_plain hgd fun _ hK => ?_
  unfold Oper.wp execOp
  simp only [ho, List.map_toArray, List.map_cons, List.map_nil, hx, Sem.run_bind, run_build62 C hC w, Result.andThen_ok]
  exact hK _ _ h
theorem wpList_ins (hgd : o.guard = none) (m k x : Operand) (ho : o.op = .insert 61 m k x) (w' : World) (hr : (Instr.mapUpdate 61 (a.eval m) (a.eval k) (a.eval x)).run Tryd.prog w = .ok () w') (h : wpList Tryd.prog ops Q rest (a.put o.dst undef) w') : wpList Tryd.prog ops Q (o :: rest) a w := by
  refine wpList_plain hgd fun _ hK => ?_
  unfold Oper.wp execOp
  simp only [ho, Sem.run_bind, hr, Result.andThen_ok]
  exact hK _ _ h
theorem wpList_look (hgd : o.guard = none) (t : TypeId) (m x : Operand) (ok : Bool) (ho : o.op = .lookup t m x ok) (v : Value) (hr : (Instr.lookup t (a.eval m) (a.eval x) ok).run Tryd.prog w = .ok v w) (h : wpList Tryd.prog ops Q rest (a.put o.dst v) w) : wpList Tryd.prog ops Q (o :: rest) a w := by
  refine wpList_plain hgd fun _ hK => ?_
  unfold Oper.wp execOp
  simp only [ho, Sem.run_bind, hr, Result.andThen_ok]
  exact hK _ _ h
theorem wpList_sl1 (hgd : o.guard = none) (x : Operand) (lo : Option Operand) (ho : o.op = .slice 62 x lo none none) (v : Value) (hr : (Instr.sliceAt 62 (a.eval x) (lo.map a.eval) none none).run Tryd.prog w = .ok v w) (h : wpList Tryd.prog ops Q rest (a.put o.dst v) w) : wpList Tryd.prog ops Q (o :: rest) a w := by
  refine wpList_plain hgd fun _ hK => ?_
  unfold Oper.wp execOp
  simp only [ho, Option.map_none, Sem.run_bind, hr, Result.andThen_ok]
  exact hK _ _ h
end
theorem mapAt_made (w : World) : MapAt (w.alloc (.map #[] 0)) w.heap.size [] := ⟨⟨#[], 0, alloc_new _ _, rfl⟩, by simp⟩
end Go.Proofs.YtklnbcofmhlkdaaDoor
