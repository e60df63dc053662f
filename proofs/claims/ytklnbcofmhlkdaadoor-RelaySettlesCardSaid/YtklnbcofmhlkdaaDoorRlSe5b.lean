/- relay.next's iterator: its region that draws its order -/
import Derived.Test.YtklnbcofmhlkdaaDoorRlSe4
import Derived.Test.YtklnbcofmhlkdaaDoorRlD
import Derived.Test.YtklnbcofmhlkdaaDoorRlSe5a
set_option linter.unusedVariables false
set_option linter.unusedSimpArgs false
namespace Go.Proofs.YtklnbcofmhlkdaaDoor
open Go.RowKit Rl

/-- a box that has been made, and filled if so said -/
def BoxIs (W : World) (base : Nat) (ty : TypeId) (n : Nat) (done : Prop) (C0 : Array Value) (u : Value) : Prop := ∃ b C, base ≤ b ∧ u = .pointer (some ⟨b, 0, none⟩) ∧ C.size = n ∧ (done → C = C0) ∧ W.heap[b]? = some (.cells C ty (0, 0))
theorem BoxIs.fr {W W' : World} {base : Nat} {ty : TypeId} {n : Nat} {done done' : Prop} {C0 : Array Value} {u : Value} {S : List Nat} (h : BoxIs W base ty n done C0 u) (hf : Fr S W W') (hs : ∀ b C, b ∈ S → W.heap[b]? ≠ some (.cells C ty (0, 0))) (hd : done' → done) : BoxIs W' base ty n done' C0 u := by
  obtain ⟨b, C, h1, h2, h3, h4, h5⟩ := h
  exact ⟨b, C, h1, h2, h3, fun h => h4 (hd h), hf.at_ h5 fun hm => hs b C hm h5⟩
def Inv6 (s : S) (kd a : Int) (wr : World) (a0 : Act) (L : Array Bool) (a' : Act) (W : World) : Prop :=
  L.size = 8 ∧ Fr [] wr W ∧ Sl a0 a' [6, 7, 22, 23, 24, 25] ∧
    (L.getD 0 false = true → a'.eval (.tmp 22) = I kd) ∧ (L.getD 1 false = true → a'.eval (.tmp 23) = I a) ∧ (L.getD 2 false = true → a'.eval (.tmp 24) = .agg #[I kd, I a, I 0]) ∧ (L.getD 3 false = true → a'.eval (.tmp 25) = .agg s.arr) ∧
    (L.getD 4 false = true → BoxIs W wr.heap.size 38 3 (L.getD 6 false = true) #[I kd, I a, I 0] (a'.eval (.tmp 6))) ∧ (L.getD 5 false = true → BoxIs W wr.heap.size 58 38 (L.getD 7 false = true) s.arr (a'.eval (.tmp 7))) ∧
    (L.getD 6 false = true → L.getD 4 false = true) ∧ (L.getD 7 false = true → L.getD 5 false = true)
theorem getD_tf {L : Array Bool} {i : Nat} (h : L.getD i true = false) : L.getD i false ≠ true := by
  intro h2
  simp only [Array.getD_eq_getD_getElem?] at h h2
  cases hc : L[i]? with
  | none => rw [hc] at h; simp at h
  | some b => rw [hc] at h h2; simp at h h2; rw [h] at h2; cases h2
theorem lset_self {L : Array Bool} {i : Nat} (h : i < L.size) : (L.setIfInBounds i true).getD i false = true := by rw [listed_set h, if_pos rfl]
theorem lset_up {L : Array Bool} {i j : Nat} (hi : i < L.size) (h : L.getD j false = true) : (L.setIfInBounds i true).getD j false = true := by
  rw [listed_set hi]; split <;> simp [h]
theorem ready_edge {ops : Array Oper} {L : Array Bool} {i j : Nat} {o : Oper} (h : i ∈ Region.ready .any ops L) (ho : ops[i]? = some o) (he : ∃ e : Edge, e ∈ o.after.toList ∧ e.on = j ∧ Region.binds .any e = true) : L.getD j false = true := by
  obtain ⟨e, h1, rfl, h2⟩ := he
  exact ready_after h ho h1 h2
theorem whole3 (C D : Array Value) (hC : C.size = 3) (hD : D.size = 3) : (splice C.toList 0 (Value.agg D).cells.toList).toArray = D := by
  have h1 : D.toList.length = 3 := by simpa using hD
  have h2 : C.toList.length = 3 := by simpa using hC
  simp only [splice, Value.cells, List.take_zero, List.nil_append, Nat.zero_add]
  rw [List.drop_eq_nil_of_le (by omega), List.append_nil, Array.toArray_toList]
theorem build38 {o : Oper} {a : Act} {W : World} {k x : Int} (h : o.op = .build 38 #[(0, .tmp 22), (1, .tmp 23)]) (h1 : a.eval (.tmp 22) = I k) (h2 : a.eval (.tmp 23) = I x) : (execOp a.eval o).run Tryd.prog W = .ok (.value (.agg #[I k, I x, I 0])) W := by
  have e : execOp a.eval o = execOp (fun z => match z with | .tmp 22 => I k | .tmp 23 => I x | z => a.eval z) { o with op := .build 38 #[(0, .tmp 22), (1, .tmp 23)] } := by
    simp [execOp, h, h1, h2]
  have e2 := congrArg (fun x : Sem Next => x.run Tryd.prog W) e
  refine e2.trans ?_
  kernel_rfl
theorem alloc38 {o : Oper} {a : Act} {W : World} (h : o.op = .alloc 38) : (execOp a.eval o).run Tryd.prog W = .ok (.value (.pointer (some ⟨W.heap.size, 0, none⟩))) (W.alloc (.cells #[I 0, I 0, I 0] 38)) := by
  have e : execOp a.eval o = execOp a.eval { o with op := .alloc 38 } := by simp [execOp, h]
  have e2 := congrArg (fun x : Sem Next => x.run Tryd.prog W) e
  refine e2.trans ?_
  kernel_rfl
theorem alloc58 {o : Oper} {a : Act} {W : World} (h : o.op = .alloc 58) : (execOp a.eval o).run Tryd.prog W = .ok (.value (.pointer (some ⟨W.heap.size, 0, none⟩))) (W.alloc (.cells zeros38 58)) := by
  have e : execOp a.eval o = execOp a.eval { o with op := .alloc 58 } := by simp [execOp, h]
  have e2 := congrArg (fun x : Sem Next => x.run Tryd.prog W) e
  refine e2.trans ?_
  kernel_rfl
set_option maxHeartbeats 1000000 in
theorem reg6 {n id : Nat} {o0 o1 o2 o3 o4 o5 o6 o7 : Oper} {Q : Exit → Act → World → Prop} {a0 : Act} {wr : World} (hm : Tryd.prog.follows .mixedOrders = true) (hb : backward #[o0, o1, o2, o3, o4, o5, o6, o7] = true)
    (s : S) (kd a : Int) (B : Nat) (h1 : a0.eval (.tmp 1) = .pointer (some ⟨B, 0, none⟩)) (h4 : a0.eval (.tmp 4) = I kd) (h5 : a0.eval (.tmp 5) = I a) (hsz0 : a0.tmps.size = 37) (_ : 0 = 0) (h38 : s.arr.size = 38) (hB : wr.heap[B]? = some (.cells s.arr 58 (0, 0)))
    (p0 : o0.op = .move (.tmp 4)) (d0 : o0.dst = some 22) (g0 : o0.guard = none) (p1 : o1.op = .move (.tmp 5)) (d1 : o1.dst = some 23) (g1 : o1.guard = none) (p2 : o2.op = .build 38 #[(0, .tmp 22), (1, .tmp 23)]) (d2 : o2.dst = some 24) (g2 : o2.guard = none) (p3 : o3.op = .load 58 (.tmp 1)) (d3 : o3.dst = some 25) (g3 : o3.guard = none) (p4 : o4.op = .alloc 38) (d4 : o4.dst = some 6) (g4 : o4.guard = none) (p5 : o5.op = .alloc 58) (d5 : o5.dst = some 7) (g5 : o5.guard = none) (p6 : o6.op = .store 38 (.tmp 6) (.tmp 24)) (d6 : o6.dst = none) (g6 : o6.guard = none) (p7 : o7.op = .store 58 (.tmp 7) (.tmp 25)) (d7 : o7.dst = none) (g7 : o7.guard = none)
    (e20 : ∃ e : Edge, e ∈ o2.after.toList ∧ e.on = 0 ∧ Region.binds .any e = true) (e21 : ∃ e : Edge, e ∈ o2.after.toList ∧ e.on = 1 ∧ Region.binds .any e = true) (e64 : ∃ e : Edge, e ∈ o6.after.toList ∧ e.on = 4 ∧ Region.binds .any e = true) (e62 : ∃ e : Edge, e ∈ o6.after.toList ∧ e.on = 2 ∧ Region.binds .any e = true) (e75 : ∃ e : Edge, e ∈ o7.after.toList ∧ e.on = 5 ∧ Region.binds .any e = true) (e73 : ∃ e : Edge, e ∈ o7.after.toList ∧ e.on = 3 ∧ Region.binds .any e = true)
    (hQ : ∀ W' b6 b7, Fr [] wr W' → wr.heap.size ≤ b6 → wr.heap.size ≤ b7 → W'.heap[b6]? = some (.cells #[I kd, I a, I 0] 38 (0, 0)) → W'.heap[b7]? = some (.cells s.arr 58 (0, 0)) →
      Q .normal (setS a0 [(6, .pointer (some ⟨b6, 0, none⟩)), (7, .pointer (some ⟨b7, 0, none⟩)), (22, I kd), (23, I a), (24, .agg #[I kd, I a, I 0]), (25, .agg s.arr)]) W') :
    (Code.region id #[o0, o1, o2, o3, o4, o5, o6, o7] true).wpIn Fence.wide n Tryd.prog Q a0 wr := by
  refine wpIn_region_at hm (Inv6 s kd a wr) ⟨by simp, (Fr.refl [] wr).drew, Sl.refl _ _, by simp, by simp, by simp, by simp, by simp, by simp, by simp, by simp⟩ ?_ ?_
  · rintro L a' W' ⟨hL, hF, hS, f22, f23, f24, f25, f6, f7, o6', o7'⟩ i hi
    have hi8 : i < 8 := (ready_undone hi).1
    have hun := getD_tf (ready_undone hi).2
    have hsz : i < L.size := by omega
    rcases (by omega : i = 0 ∨ i = 1 ∨ i = 2 ∨ i = 3 ∨ i = 4 ∨ i = 5 ∨ i = 6 ∨ i = 7) with rfl | rfl | rfl | rfl | rfl | rfl | rfl | rfl
    · refine wpOpIn_step (o := o0) rfl (fun K hK => ?_)
      have hw : Region.wanted o0 (yielded #[o0, o1, o2, o3, o4, o5, o6, o7] a'.tmps) = true := by simp [Region.wanted, g0]
      rw [if_pos hw]
      have ev : a'.eval (.tmp 4) = I kd := (hS.eval (by decide)).trans h4
      refine oper_val (I kd) (by simp [Oper.about, p0]) (by intro c h; rw [p0] at h; cases h) (w' := W') (by simp [execOp, p0, ev]) ?_
      rw [d0]
      exact hK _ _ ⟨by rw [lset_size]; exact hL, hF, hS.put 22 _ (by simp), fun _ => put_self (by rw [hS.size, hsz0]; omega), fun h => (put_ne (by decide)).trans (f23 (lset_ne hsz (by decide) h)), fun h => (put_ne (by decide)).trans (f24 (lset_ne hsz (by decide) h)), fun h => (put_ne (by decide)).trans (f25 (lset_ne hsz (by decide) h)), fun h => by rw [put_ne (by decide)]; exact (f6 (lset_ne hsz (by decide) h)).fr (Fr.refl [] W') (by simp) (fun h => lset_ne hsz (by decide) h), fun h => by rw [put_ne (by decide)]; exact (f7 (lset_ne hsz (by decide) h)).fr (Fr.refl [] W') (by simp) (fun h => lset_ne hsz (by decide) h), fun h => lset_up hsz (o6' (lset_ne hsz (by decide) h)), fun h => lset_up hsz (o7' (lset_ne hsz (by decide) h))⟩
    · refine wpOpIn_step (o := o1) rfl (fun K hK => ?_)
      have hw : Region.wanted o1 (yielded #[o0, o1, o2, o3, o4, o5, o6, o7] a'.tmps) = true := by simp [Region.wanted, g1]
      rw [if_pos hw]
      have ev : a'.eval (.tmp 5) = I a := (hS.eval (by decide)).trans h5
      refine oper_val (I a) (by simp [Oper.about, p1]) (by intro c h; rw [p1] at h; cases h) (w' := W') (by simp [execOp, p1, ev]) ?_
      rw [d1]
      exact hK _ _ ⟨by rw [lset_size]; exact hL, hF, hS.put 23 _ (by simp), fun h => (put_ne (by decide)).trans (f22 (lset_ne hsz (by decide) h)), fun _ => put_self (by rw [hS.size, hsz0]; omega), fun h => (put_ne (by decide)).trans (f24 (lset_ne hsz (by decide) h)), fun h => (put_ne (by decide)).trans (f25 (lset_ne hsz (by decide) h)), fun h => by rw [put_ne (by decide)]; exact (f6 (lset_ne hsz (by decide) h)).fr (Fr.refl [] W') (by simp) (fun h => lset_ne hsz (by decide) h), fun h => by rw [put_ne (by decide)]; exact (f7 (lset_ne hsz (by decide) h)).fr (Fr.refl [] W') (by simp) (fun h => lset_ne hsz (by decide) h), fun h => lset_up hsz (o6' (lset_ne hsz (by decide) h)), fun h => lset_up hsz (o7' (lset_ne hsz (by decide) h))⟩
    · refine wpOpIn_step (o := o2) rfl (fun K hK => ?_)
      have hw : Region.wanted o2 (yielded #[o0, o1, o2, o3, o4, o5, o6, o7] a'.tmps) = true := by simp [Region.wanted, g2]
      rw [if_pos hw]
      have v22 := f22 (ready_edge hi rfl e20)
      have v23 := f23 (ready_edge hi rfl e21)
      refine oper_val (.agg #[I kd, I a, I 0]) (by simp [Oper.about, p2]) (by intro c h; rw [p2] at h; cases h) (w' := W') (build38 p2 v22 v23) ?_
      rw [d2]
      exact hK _ _ ⟨by rw [lset_size]; exact hL, hF, hS.put 24 _ (by simp), fun h => (put_ne (by decide)).trans (f22 (lset_ne hsz (by decide) h)), fun h => (put_ne (by decide)).trans (f23 (lset_ne hsz (by decide) h)), fun _ => put_self (by rw [hS.size, hsz0]; omega), fun h => (put_ne (by decide)).trans (f25 (lset_ne hsz (by decide) h)), fun h => by rw [put_ne (by decide)]; exact (f6 (lset_ne hsz (by decide) h)).fr (Fr.refl [] W') (by simp) (fun h => lset_ne hsz (by decide) h), fun h => by rw [put_ne (by decide)]; exact (f7 (lset_ne hsz (by decide) h)).fr (Fr.refl [] W') (by simp) (fun h => lset_ne hsz (by decide) h), fun h => lset_up hsz (o6' (lset_ne hsz (by decide) h)), fun h => lset_up hsz (o7' (lset_ne hsz (by decide) h))⟩
    · refine wpOpIn_step (o := o3) rfl (fun K hK => ?_)
      have hw : Region.wanted o3 (yielded #[o0, o1, o2, o3, o4, o5, o6, o7] a'.tmps) = true := by simp [Region.wanted, g3]
      rw [if_pos hw]
      have v1 : a'.eval (.tmp 1) = _ := (hS.eval (by decide)).trans h1
      refine oper_load 58 (.tmp 1) p3 (.agg s.arr) (by rw [v1]; exact run_load_blk _ B 58 s.arr 58 (0, 0) _ (hF.at_ hB (by simp)) Tryd.underlying58 rfl (by rw [h38]; exact info58)) ?_
      rw [d3]
      exact hK _ _ ⟨by rw [lset_size]; exact hL, hF, hS.put 25 _ (by simp), fun h => (put_ne (by decide)).trans (f22 (lset_ne hsz (by decide) h)), fun h => (put_ne (by decide)).trans (f23 (lset_ne hsz (by decide) h)), fun h => (put_ne (by decide)).trans (f24 (lset_ne hsz (by decide) h)), fun _ => put_self (by rw [hS.size, hsz0]; omega), fun h => by rw [put_ne (by decide)]; exact (f6 (lset_ne hsz (by decide) h)).fr (Fr.refl [] W') (by simp) (fun h => lset_ne hsz (by decide) h), fun h => by rw [put_ne (by decide)]; exact (f7 (lset_ne hsz (by decide) h)).fr (Fr.refl [] W') (by simp) (fun h => lset_ne hsz (by decide) h), fun h => lset_up hsz (o6' (lset_ne hsz (by decide) h)), fun h => lset_up hsz (o7' (lset_ne hsz (by decide) h))⟩
    · refine wpOpIn_step (o := o4) rfl (fun K hK => ?_)
      have hw : Region.wanted o4 (yielded #[o0, o1, o2, o3, o4, o5, o6, o7] a'.tmps) = true := by simp [Region.wanted, g4]
      rw [if_pos hw]
      refine oper_val (.pointer (some ⟨W'.heap.size, 0, none⟩)) (by simp [Oper.about, p4]) (by intro c h; rw [p4] at h; cases h) (w' := W'.alloc (.cells #[I 0, I 0, I 0] 38)) (alloc38 p4) ?_
      rw [d4]
      exact hK _ _ ⟨by rw [lset_size]; exact hL, hF.alloc _, hS.put 6 _ (by simp), fun h => (put_ne (by decide)).trans (f22 (lset_ne hsz (by decide) h)), fun h => (put_ne (by decide)).trans (f23 (lset_ne hsz (by decide) h)), fun h => (put_ne (by decide)).trans (f24 (lset_ne hsz (by decide) h)), fun h => (put_ne (by decide)).trans (f25 (lset_ne hsz (by decide) h)), fun _ => by rw [put_self (by rw [hS.size, hsz0]; omega)]; exact ⟨W'.heap.size, _, hF.size, rfl, rfl, fun h => absurd (o6' (lset_ne hsz (by decide) h)) hun, alloc_new _ _⟩, fun h => by rw [put_ne (by decide)]; exact (f7 (lset_ne hsz (by decide) h)).fr ((Fr.refl [] W').alloc _) (by simp) (fun h => lset_ne hsz (by decide) h), fun _ => lset_self hsz, fun h => lset_up hsz (o7' (lset_ne hsz (by decide) h))⟩
    · refine wpOpIn_step (o := o5) rfl (fun K hK => ?_)
      have hw : Region.wanted o5 (yielded #[o0, o1, o2, o3, o4, o5, o6, o7] a'.tmps) = true := by simp [Region.wanted, g5]
      rw [if_pos hw]
      refine oper_val (.pointer (some ⟨W'.heap.size, 0, none⟩)) (by simp [Oper.about, p5]) (by intro c h; rw [p5] at h; cases h) (w' := W'.alloc (.cells zeros38 58)) (alloc58 p5) ?_
      rw [d5]
      exact hK _ _ ⟨by rw [lset_size]; exact hL, hF.alloc _, hS.put 7 _ (by simp), fun h => (put_ne (by decide)).trans (f22 (lset_ne hsz (by decide) h)), fun h => (put_ne (by decide)).trans (f23 (lset_ne hsz (by decide) h)), fun h => (put_ne (by decide)).trans (f24 (lset_ne hsz (by decide) h)), fun h => (put_ne (by decide)).trans (f25 (lset_ne hsz (by decide) h)), fun h => by rw [put_ne (by decide)]; exact (f6 (lset_ne hsz (by decide) h)).fr ((Fr.refl [] W').alloc _) (by simp) (fun h => lset_ne hsz (by decide) h), fun _ => by rw [put_self (by rw [hS.size, hsz0]; omega)]; exact ⟨W'.heap.size, _, hF.size, rfl, rfl, fun h => absurd (o7' (lset_ne hsz (by decide) h)) hun, alloc_new _ _⟩, fun h => lset_up hsz (o6' (lset_ne hsz (by decide) h)), fun _ => lset_self hsz⟩
    · refine wpOpIn_step (o := o6) rfl (fun K hK => ?_)
      have hw : Region.wanted o6 (yielded #[o0, o1, o2, o3, o4, o5, o6, o7] a'.tmps) = true := by simp [Region.wanted, g6]
      rw [if_pos hw]
      have l4 := ready_edge hi rfl e64
      have v24 := f24 (ready_edge hi rfl e62)
      obtain ⟨b6, C6, hb6, v6, hc6, _, hh6⟩ := f6 l4
      obtain ⟨w1, hr1, hF1, hB1⟩ := run_store_blk (P := Tryd.prog) W' b6 0 38 (.agg #[I kd, I a, I 0]) C6 38 hh6 (by simp only [Value.cells]; exact info38) (by simp [Value.cells, hc6]) (by simp [Value.cells, Value.oneCell']) #[I kd, I a, I 0] (whole3 _ _ hc6 rfl)
      refine oper_store 38 (.tmp 6) (.tmp 24) p6 w1 (by rw [v6, v24]; exact hr1) ?_
      rw [d6]
      exact hK _ _ ⟨by rw [lset_size]; exact hL, hF.new hF1 (by simpa using hb6), hS, fun h => f22 (lset_ne hsz (by decide) h), fun h => f23 (lset_ne hsz (by decide) h), fun h => f24 (lset_ne hsz (by decide) h), fun h => f25 (lset_ne hsz (by decide) h), fun _ => ⟨b6, _, hb6, v6, rfl, fun _ => rfl, hB1⟩, fun h => (f7 (lset_ne hsz (by decide) h)).fr hF1 (fun b C hm hc => by rw [List.mem_singleton] at hm; subst hm; rw [hh6] at hc; cases hc) (fun h => lset_ne hsz (by decide) h), fun _ => lset_up hsz l4, fun h => lset_up hsz (o7' (lset_ne hsz (by decide) h))⟩
    · refine wpOpIn_step (o := o7) rfl (fun K hK => ?_)
      have hw : Region.wanted o7 (yielded #[o0, o1, o2, o3, o4, o5, o6, o7] a'.tmps) = true := by simp [Region.wanted, g7]
      rw [if_pos hw]
      have l5 := ready_edge hi rfl e75
      have v25 := f25 (ready_edge hi rfl e73)
      obtain ⟨b7, C7, hb7, v7, hc7, _, hh7⟩ := f7 l5
      obtain ⟨w1, hr1, hF1, hB1⟩ := run_store_blk (P := Tryd.prog) W' b7 0 58 (.agg s.arr) C7 58 hh7 (by simp only [Value.cells]; rw [h38]; exact info58) (by simp only [Value.cells]; rw [h38, hc7]; simp) (one_arr _) s.arr (whole_splice _ _ h38 hc7)
      refine oper_store 58 (.tmp 7) (.tmp 25) p7 w1 (by rw [v7, v25]; exact hr1) ?_
      rw [d7]
      exact hK _ _ ⟨by rw [lset_size]; exact hL, hF.new hF1 (by simpa using hb7), hS, fun h => f22 (lset_ne hsz (by decide) h), fun h => f23 (lset_ne hsz (by decide) h), fun h => f24 (lset_ne hsz (by decide) h), fun h => f25 (lset_ne hsz (by decide) h), fun h => (f6 (lset_ne hsz (by decide) h)).fr hF1 (fun b C hm hc => by rw [List.mem_singleton] at hm; subst hm; rw [hh7] at hc; cases hc) (fun h => lset_ne hsz (by decide) h), fun _ => ⟨b7, _, hb7, v7, h38, fun _ => rfl, hB1⟩, fun h => lset_up hsz (o6' (lset_ne hsz (by decide) h)), fun _ => lset_up hsz l5⟩
  · rintro L a' W' ⟨hL, hF, hS, f22, f23, f24, f25, f6, f7, o6', o7'⟩ hr
    have hall := all_listed hb hL hr
    have v22 := f22 (hall 0 (by simp))
    have v23 := f23 (hall 1 (by simp))
    have v24 := f24 (hall 2 (by simp))
    have v25 := f25 (hall 3 (by simp))
    obtain ⟨b6, C6, hb6, v6, hc6, hd6, hh6⟩ := f6 (hall 4 (by simp))
    obtain ⟨b7, C7, hb7, v7, hc7, hd7, hh7⟩ := f7 (hall 5 (by simp))
    obtain rfl := hd6 (hall 6 (by simp))
    obtain rfl := hd7 (hall 7 (by simp))
    have := hS.eq (by simp [hsz0])
    simp only [List.map_cons, List.map_nil, v22, v23, v24, v25, v6, v7] at this
    rw [this]
    exact hQ W' b6 b7 hF hb6 hb7 hh6 hh7
end Go.Proofs.YtklnbcofmhlkdaaDoor
