/- relay.Settle: the region that stores a new way. Printed by gen_reg16.py -/
import Derived.Test.YtklnbcofmhlkdaaDoorRlSe5
import Derived.RangeFuncBound
import Derived.Shelf.Abstract
set_option linter.unusedVariables false
set_option linter.unusedSimpArgs false
namespace Go.Proofs.YtklnbcofmhlkdaaDoor
open Go.RowKit Rl Go.Shelf

theorem lset_no {L : Array Bool} {i j : Nat} (hi : i < L.size) (hij : i ≠ j) (h : (L.setIfInBounds i true).getD j false = false) : L.getD j false = false := by
  rw [listed_set hi, if_neg hij] at h; exact h
theorem lset_no9 {L : Array Bool} {i j : Nat} (hi : i < L.size) (hij : i ≠ j) (h : L.getD j false = false) : (L.setIfInBounds i true).getD j false = false := by
  rw [listed_set hi, if_neg hij]; exact h
theorem load61 {W : World} {b : Nat} {m : Value} (h : W.heap[b]? = some (.cells #[m] 61 (0, 0))) : (Instr.loadAt 61 (.pointer (some ⟨b, 0, none⟩))).run Tryd.prog W = .ok m W := by
  have hc : W.cell? ⟨b, 0, none⟩ = some m := (cell_blk h 0).trans rfl
  go_simp
theorem build22 {o : Oper} {a : Act} {W : World} {ev : Ev} (h : o.op = .buildSlice 22 1 #[(0, .tmp 64)]) (h1 : a.eval (.tmp 64) = .agg (encE ev).toArray) : (execOp a.eval o).run Tryd.prog W = .ok (.value (.slice (some ⟨W.heap.size, 0, none⟩) 1 1)) (W.alloc (.cells (encE ev).toArray 38)) := by
  have e : execOp a.eval o = execOp (fun z => match z with | .tmp 64 => .agg #[I ev.kind, I ev.a, I ev.b] | z => a.eval z) { o with op := .buildSlice 22 1 #[(0, .tmp 64)] } := by
    simp [execOp, h, h1, encE]
  have e2 := congrArg (fun x : Sem Next => x.run Tryd.prog W) e
  refine e2.trans ?_
  kernel_rfl
/-- a call of a Go function, in a round -/
theorem oper_call1 {l n : Nat} {P : Program} {o : Oper} {a : Act} {w : World} {K : Act → World → Prop} {Q : Exit → Act → World → Prop} {f : FuncId} {x : Operand} {t : TypeId} {R : Ending → World → Prop} (h : o.op = .call { callee := .value (.func f), args := #[x], argTypes := #[t] })
    (eg : ∀ args w, (callFunc f args).run P w = .ok (.enter f args) w) (hc : Calls P f #[a.eval x] w R) (hR : ∀ e w', R e w' → ∃ v, e = .returned v ∧ K (a.put o.dst v) w') : o.wpIn (Fence.wide.inRound l) n P a w K Q := by
  have hr : (execOp a.eval o).run P w = .ok (.enter f #[a.eval x]) w := by
    simp only [execOp, h, resolve]
    simp [go_sem, invoke, eg, Act.eval]
  refine ⟨fun _ _ => trivial, ?_⟩
  rw [Oper.semAt_plain _ _ _ (by intro c hc'; rw [h] at hc'; cases hc'), hr]
  refine ⟨fun hd => absurd hd (by simp [Fence.wide]), ?_⟩
  refine CallsIn.inRound l (callsIn_wide.2 (hc.mono ?_))
  intro e w' he
  obtain ⟨v, rfl, hk⟩ := hR e w' he
  exact hk
/-- all that a ready operation waits for has run -/
theorem all_before {ops : Array Oper} {L : Array Bool} (hb : (ops[9]?.map fun o => (List.range 9).all fun j => o.after.toList.any fun e => e.on == j && Region.binds .any e) = some true) (hi : 9 ∈ Region.ready .any ops L) (j : Nat) (hj : j < 9) : L.getD j false = true := by
  cases ho : ops[9]? with
  | none => rw [ho] at hb; simp at hb
  | some o =>
    rw [ho] at hb
    simp only [Option.map_some, Option.some.injEq, List.all_eq_true, List.mem_range] at hb
    have := hb j hj
    rw [List.any_eq_true] at this
    obtain ⟨e, he, h2⟩ := this
    simp only [Bool.and_eq_true, beq_iff_eq] at h2
    rw [← h2.1]
    exact ready_after hi ho he h2.2
def Inv16 (bm : Nat) (s s' : S) (ev : Ev) (p : List Ev) (Lw : List (S × Value)) (W0 : World) (a0 : Act) (L : Array Bool) (a' : Act) (W : World) : Prop :=
  L.size = 10 ∧ Sl a0 a' [58, 59, 60, 61, 62, 63, 64, 65, 66] ∧ ((L.getD 9 false = false ∧ Fr [] W0 W ∧ (L.getD 0 false = true → (a'.eval (.tmp 58)) = .map (some bm)) ∧
    (L.getD 1 false = true → (a'.eval (.tmp 59)) = .agg s'.arr) ∧
    (L.getD 2 false = true → (a'.eval (.tmp 60)) = .map (some bm)) ∧
    (L.getD 3 false = true → (a'.eval (.tmp 61)) = .agg s.arr) ∧
    (L.getD 4 false = true → (s, (a'.eval (.tmp 62))) ∈ Lw) ∧
    (L.getD 5 false = true → L.getD 8 false = false → Own W W0.heap.size 38 3 encE (a'.eval (.tmp 63)) p) ∧
    (L.getD 6 false = true → (a'.eval (.tmp 64)) = .agg (encE ev).toArray) ∧
    (L.getD 7 false = true → L.getD 8 false = false → ∃ b, (a'.eval (.tmp 65)) = .slice (some ⟨b, 0, none⟩) 1 1 ∧ W.heap[b]? = some (.cells (encE ev).toArray 38 (0, 0))) ∧
    (L.getD 8 false = true → Own W W0.heap.size 38 3 encE (a'.eval (.tmp 66)) (p ++ [ev]))) ∨
    ((∀ j, j < 10 → L.getD j false = true) ∧ ∃ v, Fr [bm] W0 W ∧ MapAt W bm (Lw ++ [(s', v)]) ∧ Own W W0.heap.size 38 3 encE v (p ++ [ev])))
set_option maxHeartbeats 1000000 in
theorem reg16 {l n id : Nat} {o0 o1 o2 o3 o4 o5 o6 o7 o8 o9 : Oper} {Q : Exit → Act → World → Prop} {a0 : Act} {W0 : World} (hm : Tryd.prog.follows .mixedOrders = true) (hbk : backward #[o0, o1, o2, o3, o4, o5, o6, o7, o8, o9] = true)
    (hb : ((#[o0, o1, o2, o3, o4, o5, o6, o7, o8, o9] : Array Oper)[9]?.map fun o => (List.range 9).all fun j => o.after.toList.any fun e => e.on == j && Region.binds .any e) = some true)
    (s s' : S) (ev : Ev) (p : List Ev) (Lw : List (S × Value)) (bm b11 b13 b14 b15 : Nat) (h11 : a0.eval (.tmp 11) = .pointer (some ⟨b11, 0, none⟩)) (h13 : a0.eval (.tmp 13) = .pointer (some ⟨b13, 0, none⟩)) (h14 : a0.eval (.tmp 14) = .pointer (some ⟨b14, 0, none⟩)) (h15 : a0.eval (.tmp 15) = .pointer (some ⟨b15, 0, none⟩)) (hsz0 : a0.tmps.size = 72)
    (ok13 : Wf s) (ok15 : Wf s') (hpl : p.length ≤ 1000) (hb11 : W0.heap[b11]? = some (.cells #[.map (some bm)] 61 (0, 0))) (hb13 : W0.heap[b13]? = some (.cells s.arr 58 (0, 0))) (hb14 : W0.heap[b14]? = some (.cells (encE ev).toArray 38 (0, 0))) (hb15 : W0.heap[b15]? = some (.cells s'.arr 58 (0, 0)))
    (hmap : MapAt W0 bm Lw) (hin : ∃ q ∈ Lw, q.1 = s) (hnew : ∀ q ∈ Lw, q.1 ≠ s') (hways : ∀ v, (s, v) ∈ Lw → Rd W0 encE v p)
    (p0 : o0.op = .load 61 (.tmp 11)) (d0 : o0.dst = some 58) (g0 : o0.guard = none)
    (p1 : o1.op = .load 58 (.tmp 15)) (d1 : o1.dst = some 59) (g1 : o1.guard = none)
    (p2 : o2.op = .load 61 (.tmp 11)) (d2 : o2.dst = some 60) (g2 : o2.guard = none)
    (p3 : o3.op = .load 58 (.tmp 13)) (d3 : o3.dst = some 61) (g3 : o3.guard = none)
    (p4 : o4.op = .lookup 61 (.tmp 60) (.tmp 61) false) (d4 : o4.dst = some 62) (g4 : o4.guard = none)
    (p5 : o5.op = .call { callee := .value (.func 21), args := #[.tmp 62], argTypes := #[22] }) (d5 : o5.dst = some 63) (g5 : o5.guard = none)
    (p6 : o6.op = .load 38 (.tmp 14)) (d6 : o6.dst = some 64) (g6 : o6.guard = none)
    (p7 : o7.op = .buildSlice 22 1 #[(0, .tmp 64)]) (d7 : o7.dst = some 65) (g7 : o7.guard = none)
    (p8 : o8.op = .call { callee := .builtin .append, args := #[.tmp 63, .tmp 65], argTypes := #[22, 22] }) (d8 : o8.dst = some 66) (g8 : o8.guard = none)
    (p9 : o9.op = .mapUpdate 61 (.tmp 58) (.tmp 59) (.tmp 66)) (d9 : o9.dst = none) (g9 : o9.guard = none)
    (e42 : ∃ e : Edge, e ∈ o4.after.toList ∧ e.on = 2 ∧ Region.binds .any e = true) (e43 : ∃ e : Edge, e ∈ o4.after.toList ∧ e.on = 3 ∧ Region.binds .any e = true) (e54 : ∃ e : Edge, e ∈ o5.after.toList ∧ e.on = 4 ∧ Region.binds .any e = true) (e76 : ∃ e : Edge, e ∈ o7.after.toList ∧ e.on = 6 ∧ Region.binds .any e = true) (e85 : ∃ e : Edge, e ∈ o8.after.toList ∧ e.on = 5 ∧ Region.binds .any e = true) (e87 : ∃ e : Edge, e ∈ o8.after.toList ∧ e.on = 7 ∧ Region.binds .any e = true) (e90 : ∃ e : Edge, e ∈ o9.after.toList ∧ e.on = 0 ∧ Region.binds .any e = true) (e91 : ∃ e : Edge, e ∈ o9.after.toList ∧ e.on = 1 ∧ Region.binds .any e = true) (e98 : ∃ e : Edge, e ∈ o9.after.toList ∧ e.on = 8 ∧ Region.binds .any e = true)
    (hQ : ∀ a' W' v, Sl a0 a' [58, 59, 60, 61, 62, 63, 64, 65, 66] → Fr [bm] W0 W' → MapAt W' bm (Lw ++ [(s', v)]) → Own W' W0.heap.size 38 3 encE v (p ++ [ev]) → Q .normal a' W') :
    (Code.region id #[o0, o1, o2, o3, o4, o5, o6, o7, o8, o9] true).wpIn (Fence.wide.inRound l) n Tryd.prog Q a0 W0 := by
  refine wpIn_region_at hm (Inv16 bm s s' ev p Lw W0) ⟨by simp, Sl.refl _ _, .inl ⟨by simp, (Fr.refl [] W0).drew, by simp, by simp, by simp, by simp, by simp, by simp, by simp, by simp, by simp⟩⟩ ?_ ?_
  · rintro L a' W' ⟨hL, hS, hinv⟩ i hi
    have hi10 : i < 10 := (ready_undone hi).1
    have hun := getD_tf (ready_undone hi).2
    have hsz : i < L.size := by omega
    rcases hinv with ⟨h9, hF, f0, f1, f2, f3, f4, f5, f6, f7, f8⟩ | ⟨hall, _⟩
    case inr => exact absurd (hall i hi10) hun
    rcases (by omega : i = 0 ∨ i = 1 ∨ i = 2 ∨ i = 3 ∨ i = 4 ∨ i = 5 ∨ i = 6 ∨ i = 7 ∨ i = 8 ∨ i = 9) with rfl | rfl | rfl | rfl | rfl | rfl | rfl | rfl | rfl | rfl
    · refine wpOpIn_step (o := o0) rfl (fun K hK => ?_)
      have hw : Region.wanted o0 (yielded #[o0, o1, o2, o3, o4, o5, o6, o7, o8, o9] a'.tmps) = true := by simp [Region.wanted, g0]
      rw [if_pos hw]
      have v11 : a'.eval (.tmp 11) = _ := (hS.eval (by decide)).trans h11
      refine oper_load 61 (.tmp 11) p0 (.map (some bm)) (by rw [v11]; exact load61 (hF.at_ hb11 (by simp))) ?_
      rw [d0]
      refine hK _ _ ⟨by rw [lset_size]; exact hL, hS.put 58 _ (by simp), .inl ⟨lset_no9 hsz (by decide) h9, hF, fun _ => put_self (by rw [hS.size, hsz0]; omega), fun h => by rw [put_ne (by decide)]; exact f1 (lset_ne hsz (by decide) h), fun h => by rw [put_ne (by decide)]; exact f2 (lset_ne hsz (by decide) h), fun h => by rw [put_ne (by decide)]; exact f3 (lset_ne hsz (by decide) h), fun h => by rw [put_ne (by decide)]; exact f4 (lset_ne hsz (by decide) h), fun h h8 => by rw [put_ne (by decide)]; exact (f5 (lset_ne hsz (by decide) h) (lset_no hsz (by decide) h8)).fr (Fr.refl [] W') (by simp), fun h => by rw [put_ne (by decide)]; exact f6 (lset_ne hsz (by decide) h), fun h h8 => by rw [put_ne (by decide)]; obtain ⟨b, h1, h2⟩ := f7 (lset_ne hsz (by decide) h) (lset_no hsz (by decide) h8); exact ⟨b, h1, (Fr.refl [] W').at_ h2 (by simp)⟩, fun h => by rw [put_ne (by decide)]; exact (f8 (lset_ne hsz (by decide) h)).fr (Fr.refl [] W') (by simp)⟩⟩
    · refine wpOpIn_step (o := o1) rfl (fun K hK => ?_)
      have hw : Region.wanted o1 (yielded #[o0, o1, o2, o3, o4, o5, o6, o7, o8, o9] a'.tmps) = true := by simp [Region.wanted, g1]
      rw [if_pos hw]
      have v1 : a'.eval (.tmp 15) = _ := (hS.eval (by decide)).trans h15
      refine oper_load 58 (.tmp 15) p1 (.agg s'.arr) (by rw [v1]; exact run_load_blk _ b15 58 s'.arr 58 (0, 0) _ (hF.at_ hb15 (by simp)) Tryd.underlying58 rfl (by rw [arr_size ok15.ok]; exact info58)) ?_
      rw [d1]
      refine hK _ _ ⟨by rw [lset_size]; exact hL, hS.put 59 _ (by simp), .inl ⟨lset_no9 hsz (by decide) h9, hF, fun h => by rw [put_ne (by decide)]; exact f0 (lset_ne hsz (by decide) h), fun _ => put_self (by rw [hS.size, hsz0]; omega), fun h => by rw [put_ne (by decide)]; exact f2 (lset_ne hsz (by decide) h), fun h => by rw [put_ne (by decide)]; exact f3 (lset_ne hsz (by decide) h), fun h => by rw [put_ne (by decide)]; exact f4 (lset_ne hsz (by decide) h), fun h h8 => by rw [put_ne (by decide)]; exact (f5 (lset_ne hsz (by decide) h) (lset_no hsz (by decide) h8)).fr (Fr.refl [] W') (by simp), fun h => by rw [put_ne (by decide)]; exact f6 (lset_ne hsz (by decide) h), fun h h8 => by rw [put_ne (by decide)]; obtain ⟨b, h1, h2⟩ := f7 (lset_ne hsz (by decide) h) (lset_no hsz (by decide) h8); exact ⟨b, h1, (Fr.refl [] W').at_ h2 (by simp)⟩, fun h => by rw [put_ne (by decide)]; exact (f8 (lset_ne hsz (by decide) h)).fr (Fr.refl [] W') (by simp)⟩⟩
    · refine wpOpIn_step (o := o2) rfl (fun K hK => ?_)
      have hw : Region.wanted o2 (yielded #[o0, o1, o2, o3, o4, o5, o6, o7, o8, o9] a'.tmps) = true := by simp [Region.wanted, g2]
      rw [if_pos hw]
      have v11 : a'.eval (.tmp 11) = _ := (hS.eval (by decide)).trans h11
      refine oper_load 61 (.tmp 11) p2 (.map (some bm)) (by rw [v11]; exact load61 (hF.at_ hb11 (by simp))) ?_
      rw [d2]
      refine hK _ _ ⟨by rw [lset_size]; exact hL, hS.put 60 _ (by simp), .inl ⟨lset_no9 hsz (by decide) h9, hF, fun h => by rw [put_ne (by decide)]; exact f0 (lset_ne hsz (by decide) h), fun h => by rw [put_ne (by decide)]; exact f1 (lset_ne hsz (by decide) h), fun _ => put_self (by rw [hS.size, hsz0]; omega), fun h => by rw [put_ne (by decide)]; exact f3 (lset_ne hsz (by decide) h), fun h => by rw [put_ne (by decide)]; exact f4 (lset_ne hsz (by decide) h), fun h h8 => by rw [put_ne (by decide)]; exact (f5 (lset_ne hsz (by decide) h) (lset_no hsz (by decide) h8)).fr (Fr.refl [] W') (by simp), fun h => by rw [put_ne (by decide)]; exact f6 (lset_ne hsz (by decide) h), fun h h8 => by rw [put_ne (by decide)]; obtain ⟨b, h1, h2⟩ := f7 (lset_ne hsz (by decide) h) (lset_no hsz (by decide) h8); exact ⟨b, h1, (Fr.refl [] W').at_ h2 (by simp)⟩, fun h => by rw [put_ne (by decide)]; exact (f8 (lset_ne hsz (by decide) h)).fr (Fr.refl [] W') (by simp)⟩⟩
    · refine wpOpIn_step (o := o3) rfl (fun K hK => ?_)
      have hw : Region.wanted o3 (yielded #[o0, o1, o2, o3, o4, o5, o6, o7, o8, o9] a'.tmps) = true := by simp [Region.wanted, g3]
      rw [if_pos hw]
      have v1 : a'.eval (.tmp 13) = _ := (hS.eval (by decide)).trans h13
      refine oper_load 58 (.tmp 13) p3 (.agg s.arr) (by rw [v1]; exact run_load_blk _ b13 58 s.arr 58 (0, 0) _ (hF.at_ hb13 (by simp)) Tryd.underlying58 rfl (by rw [arr_size ok13.ok]; exact info58)) ?_
      rw [d3]
      refine hK _ _ ⟨by rw [lset_size]; exact hL, hS.put 61 _ (by simp), .inl ⟨lset_no9 hsz (by decide) h9, hF, fun h => by rw [put_ne (by decide)]; exact f0 (lset_ne hsz (by decide) h), fun h => by rw [put_ne (by decide)]; exact f1 (lset_ne hsz (by decide) h), fun h => by rw [put_ne (by decide)]; exact f2 (lset_ne hsz (by decide) h), fun _ => put_self (by rw [hS.size, hsz0]; omega), fun h => by rw [put_ne (by decide)]; exact f4 (lset_ne hsz (by decide) h), fun h h8 => by rw [put_ne (by decide)]; exact (f5 (lset_ne hsz (by decide) h) (lset_no hsz (by decide) h8)).fr (Fr.refl [] W') (by simp), fun h => by rw [put_ne (by decide)]; exact f6 (lset_ne hsz (by decide) h), fun h h8 => by rw [put_ne (by decide)]; obtain ⟨b, h1, h2⟩ := f7 (lset_ne hsz (by decide) h) (lset_no hsz (by decide) h8); exact ⟨b, h1, (Fr.refl [] W').at_ h2 (by simp)⟩, fun h => by rw [put_ne (by decide)]; exact (f8 (lset_ne hsz (by decide) h)).fr (Fr.refl [] W') (by simp)⟩⟩
    · refine wpOpIn_step (o := o4) rfl (fun K hK => ?_)
      have hw : Region.wanted o4 (yielded #[o0, o1, o2, o3, o4, o5, o6, o7, o8, o9] a'.tmps) = true := by simp [Region.wanted, g4]
      rw [if_pos hw]
      have v60 := f2 (ready_edge hi rfl e42)
      have v61 := f3 (ready_edge hi rfl e43)
      obtain ⟨v, hv, hrun⟩ : ∃ v, (s, v) ∈ Lw ∧ (Instr.lookup 61 (.map (some bm)) (.agg s.arr) false).run Tryd.prog W' = .ok v W' := by
        rcases (hmap.fr hF (by simp)).look ok13 with ⟨h, _⟩ | ⟨v, h, _, h2⟩
        · obtain ⟨q, hq, e⟩ := hin
          exact absurd e (h q hq)
        · exact ⟨v, h, h2⟩
      refine oper_lookup 61 (.tmp 60) (.tmp 61) false p4 v (by rw [v60, v61]; exact hrun) ?_
      rw [d4]
      refine hK _ _ ⟨by rw [lset_size]; exact hL, hS.put 62 _ (by simp), .inl ⟨lset_no9 hsz (by decide) h9, hF, fun h => by rw [put_ne (by decide)]; exact f0 (lset_ne hsz (by decide) h), fun h => by rw [put_ne (by decide)]; exact f1 (lset_ne hsz (by decide) h), fun h => by rw [put_ne (by decide)]; exact f2 (lset_ne hsz (by decide) h), fun h => by rw [put_ne (by decide)]; exact f3 (lset_ne hsz (by decide) h), fun _ => by rw [put_self (by rw [hS.size, hsz0]; omega)]; exact hv, fun h h8 => by rw [put_ne (by decide)]; exact (f5 (lset_ne hsz (by decide) h) (lset_no hsz (by decide) h8)).fr (Fr.refl [] W') (by simp), fun h => by rw [put_ne (by decide)]; exact f6 (lset_ne hsz (by decide) h), fun h h8 => by rw [put_ne (by decide)]; obtain ⟨b, h1, h2⟩ := f7 (lset_ne hsz (by decide) h) (lset_no hsz (by decide) h8); exact ⟨b, h1, (Fr.refl [] W').at_ h2 (by simp)⟩, fun h => by rw [put_ne (by decide)]; exact (f8 (lset_ne hsz (by decide) h)).fr (Fr.refl [] W') (by simp)⟩⟩
    · refine wpOpIn_step (o := o5) rfl (fun K hK => ?_)
      have hw : Region.wanted o5 (yielded #[o0, o1, o2, o3, o4, o5, o6, o7, o8, o9] a'.tmps) = true := by simp [Region.wanted, g5]
      rw [if_pos hw]
      have v62 := f4 (ready_edge hi rfl e54)
      have hcl := clone_any (a'.eval (.tmp 62)) p W' ((hways _ v62).fr0 hF) hpl
      refine oper_call1 p5 (enters_of Tryd.func21 (by kernel_rfl) rfl) hcl ?_
      rintro e w1 ⟨v, rfl, hO, hF1⟩
      refine ⟨v, rfl, ?_⟩
      rw [d5]
      refine hK _ _ ⟨by rw [lset_size]; exact hL, hS.put 63 _ (by simp), .inl ⟨lset_no9 hsz (by decide) h9, hF.trans hF1, fun h => by rw [put_ne (by decide)]; exact f0 (lset_ne hsz (by decide) h), fun h => by rw [put_ne (by decide)]; exact f1 (lset_ne hsz (by decide) h), fun h => by rw [put_ne (by decide)]; exact f2 (lset_ne hsz (by decide) h), fun h => by rw [put_ne (by decide)]; exact f3 (lset_ne hsz (by decide) h), fun h => by rw [put_ne (by decide)]; exact f4 (lset_ne hsz (by decide) h), fun _ _ => by rw [put_self (by rw [hS.size, hsz0]; omega)]; exact hO.mono hF.size, fun h => by rw [put_ne (by decide)]; exact f6 (lset_ne hsz (by decide) h), fun h h8 => by rw [put_ne (by decide)]; obtain ⟨b, h1, h2⟩ := f7 (lset_ne hsz (by decide) h) (lset_no hsz (by decide) h8); exact ⟨b, h1, (hF1).at_ h2 (by simp)⟩, fun h => by rw [put_ne (by decide)]; exact (f8 (lset_ne hsz (by decide) h)).fr (hF1) (by simp)⟩⟩
    · refine wpOpIn_step (o := o6) rfl (fun K hK => ?_)
      have hw : Region.wanted o6 (yielded #[o0, o1, o2, o3, o4, o5, o6, o7, o8, o9] a'.tmps) = true := by simp [Region.wanted, g6]
      rw [if_pos hw]
      have v1 : a'.eval (.tmp 14) = _ := (hS.eval (by decide)).trans h14
      refine oper_load 38 (.tmp 14) p6 (.agg (encE ev).toArray) (by rw [v1]; exact run_load_blk _ b14 38 _ 38 (0, 0) _ (hF.at_ hb14 (by simp)) Tryd.underlying38 rfl info38) ?_
      rw [d6]
      refine hK _ _ ⟨by rw [lset_size]; exact hL, hS.put 64 _ (by simp), .inl ⟨lset_no9 hsz (by decide) h9, hF, fun h => by rw [put_ne (by decide)]; exact f0 (lset_ne hsz (by decide) h), fun h => by rw [put_ne (by decide)]; exact f1 (lset_ne hsz (by decide) h), fun h => by rw [put_ne (by decide)]; exact f2 (lset_ne hsz (by decide) h), fun h => by rw [put_ne (by decide)]; exact f3 (lset_ne hsz (by decide) h), fun h => by rw [put_ne (by decide)]; exact f4 (lset_ne hsz (by decide) h), fun h h8 => by rw [put_ne (by decide)]; exact (f5 (lset_ne hsz (by decide) h) (lset_no hsz (by decide) h8)).fr (Fr.refl [] W') (by simp), fun _ => put_self (by rw [hS.size, hsz0]; omega), fun h h8 => by rw [put_ne (by decide)]; obtain ⟨b, h1, h2⟩ := f7 (lset_ne hsz (by decide) h) (lset_no hsz (by decide) h8); exact ⟨b, h1, (Fr.refl [] W').at_ h2 (by simp)⟩, fun h => by rw [put_ne (by decide)]; exact (f8 (lset_ne hsz (by decide) h)).fr (Fr.refl [] W') (by simp)⟩⟩
    · refine wpOpIn_step (o := o7) rfl (fun K hK => ?_)
      have hw : Region.wanted o7 (yielded #[o0, o1, o2, o3, o4, o5, o6, o7, o8, o9] a'.tmps) = true := by simp [Region.wanted, g7]
      rw [if_pos hw]
      have v64 := f6 (ready_edge hi rfl e76)
      refine oper_val (.slice (some ⟨W'.heap.size, 0, none⟩) 1 1) (by simp [Oper.about, p7]) (by intro c h; rw [p7] at h; cases h) (w' := W'.alloc (.cells (encE ev).toArray 38)) (build22 p7 v64) ?_
      rw [d7]
      refine hK _ _ ⟨by rw [lset_size]; exact hL, hS.put 65 _ (by simp), .inl ⟨lset_no9 hsz (by decide) h9, hF.alloc _, fun h => by rw [put_ne (by decide)]; exact f0 (lset_ne hsz (by decide) h), fun h => by rw [put_ne (by decide)]; exact f1 (lset_ne hsz (by decide) h), fun h => by rw [put_ne (by decide)]; exact f2 (lset_ne hsz (by decide) h), fun h => by rw [put_ne (by decide)]; exact f3 (lset_ne hsz (by decide) h), fun h => by rw [put_ne (by decide)]; exact f4 (lset_ne hsz (by decide) h), fun h h8 => by rw [put_ne (by decide)]; exact (f5 (lset_ne hsz (by decide) h) (lset_no hsz (by decide) h8)).fr ((Fr.refl [] W').alloc _) (by simp), fun h => by rw [put_ne (by decide)]; exact f6 (lset_ne hsz (by decide) h), fun _ _ => by rw [put_self (by rw [hS.size, hsz0]; omega)]; exact ⟨_, rfl, alloc_new _ _⟩, fun h => by rw [put_ne (by decide)]; exact (f8 (lset_ne hsz (by decide) h)).fr ((Fr.refl [] W').alloc _) (by simp)⟩⟩
    · refine wpOpIn_step (o := o8) rfl (fun K hK => ?_)
      have hw : Region.wanted o8 (yielded #[o0, o1, o2, o3, o4, o5, o6, o7, o8, o9] a'.tmps) = true := by simp [Region.wanted, g8]
      rw [if_pos hw]
      have hun8 : L.getD 8 false = false := by cases h : L.getD 8 false; rfl; exact absurd h hun
      have o63 := f5 (ready_edge hi rfl e85) hun8
      obtain ⟨b, v65, hb65⟩ := f7 (ready_edge hi rfl e87) hun8
      have hrd : Rd W' encE (.slice (some ⟨b, 0, none⟩) 1 1) [ev] := Rd.of_blk (l := [ev]) hb65 (by simp) (by simp) (by simp [maxLen])
      obtain ⟨v, w1, hrun, hA⟩ := run_app (P := Tryd.prog) W' 22 o8.type W0.heap.size 38 _ 3 24 encE Tryd.underlying22 info38z rfl (by decide) encE_len oneE (a'.eval (.tmp 63)) p o63 (.slice (some ⟨b, 0, none⟩) 1 1) [ev] hrd (by decide) (by simp; omega) hF.size
      refine oper_append (.tmp 63) (.tmp 65) 22 p8 v w1 (by rw [v65]; exact hrun) ?_
      rw [d8]
      refine hK _ _ ⟨by rw [lset_size]; exact hL, hS.put 66 _ (by simp), .inl ⟨lset_no9 hsz (by decide) h9, hF.new hA.fr (fun x hx => .inr (o63.blk x hx).1), fun h => by rw [put_ne (by decide)]; exact f0 (lset_ne hsz (by decide) h), fun h => by rw [put_ne (by decide)]; exact f1 (lset_ne hsz (by decide) h), fun h => by rw [put_ne (by decide)]; exact f2 (lset_ne hsz (by decide) h), fun h => by rw [put_ne (by decide)]; exact f3 (lset_ne hsz (by decide) h), fun h => by rw [put_ne (by decide)]; exact f4 (lset_ne hsz (by decide) h), fun _ h8 => absurd h8 (by rw [lset_self hsz]; simp), fun h => by rw [put_ne (by decide)]; exact f6 (lset_ne hsz (by decide) h), fun _ h8 => absurd h8 (by rw [lset_self hsz]; simp), fun _ => by rw [put_self (by rw [hS.size, hsz0]; omega)]; exact hA.own⟩⟩
    · refine wpOpIn_step (o := o9) rfl (fun K hK => ?_)
      have hw : Region.wanted o9 (yielded #[o0, o1, o2, o3, o4, o5, o6, o7, o8, o9] a'.tmps) = true := by simp [Region.wanted, g9]
      rw [if_pos hw]
      have v58 := f0 (ready_edge hi rfl e90)
      have v59 := f1 (ready_edge hi rfl e91)
      have o66 := f8 (ready_edge hi rfl e98)
      obtain ⟨w1, hrun, hM, hF1⟩ := (hmap.fr hF (by simp)).put ok15 hnew (a'.eval (.tmp 66))
      refine oper_update 61 (.tmp 58) (.tmp 59) (.tmp 66) (.inl p9) w1 (by rw [v58, v59]; exact hrun) ?_
      rw [d9]
      have hbm := hmap.lt
      refine hK _ _ ⟨by rw [lset_size]; exact hL, hS, .inr ⟨fun j hj => ?_, a'.eval (.tmp 66), (hF.mono (by simp)).trans hF1, hM, o66.fr hF1 (fun x hx hm => ?_)⟩⟩
      · have hb9 : ∀ j, j < 9 → L.getD j false = true := fun j hj => by
          rcases Nat.lt_or_ge j 9 with h | h
          · have := all_before hb hi j (by omega)
            exact this
          · omega
        by_cases e : j = 9
        · subst e; exact lset_self hsz
        · exact lset_up hsz (hb9 j (by omega))
      · have := (o66.blk x hx).1
        rw [List.mem_singleton] at hm
        omega
  · rintro L a' W' ⟨hL, hS, hinv⟩ hr
    have hall := all_listed hbk hL hr
    rcases hinv with ⟨h9, _⟩ | ⟨_, v, hF, hM, hO⟩
    · rw [hall 9 (by simp)] at h9; cases h9
    · exact hQ a' W' v hS hF hM hO
end Go.Proofs.YtklnbcofmhlkdaaDoor
