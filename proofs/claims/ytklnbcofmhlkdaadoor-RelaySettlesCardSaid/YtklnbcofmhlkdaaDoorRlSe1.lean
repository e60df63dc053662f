/- Laws for a range over a function in a loop: an operation in a round, a region in whatever order, the marks at the end. No program in sight. -/
import Derived.Test.YtklnbcofmhlkdaaDoorRlA
import Derived.RangeFuncNested
import Derived.RangeFuncBound
import Derived.RangeFuncCalls
import Derived.RangeFuncLeaves
import Derived.OwnWalkIn
import Derived.TacticsInMore
import Derived.LoopNIn
import Derived.LoopIn
import Derived.OrdersIn
set_option linter.unusedVariables false
set_option linter.unusedSimpArgs false
namespace Go.Proofs.YtklnbcofmhlkdaaDoor
open Go.RowKit

/-- An operation that is no defer statement and no library row goes in a round as anywhere. -/
theorem oper_in {l n : Nat} {P : Program} {o : Oper} {a : Act} {w : World} {K : Act → World → Prop} {Q : Exit → Act → World → Prop} (hnd : ∀ c, o.op ≠ .defer c)
    (hrow : ∀ row args w', (execOp a.eval o).run P w ≠ .ok (.row row args) w') (hdf : ∀ d w', (execOp a.eval o).run P w ≠ .ok (.defer d) w')
    (h : Oper.wp P o a w K (fun _ _ _ => False)) : o.wpIn (Fence.wide.inRound l) n P a w K Q := by
  refine ⟨fun _ _ => trivial, ?_⟩
  rw [Oper.semAt_plain _ _ _ hnd]
  unfold Oper.wp at h
  cases hr : (execOp a.eval o).run P w with
  | ok x w' =>
    rw [hr] at h
    cases x with
    | value v => exact h
    | skip => exact h
    | defer d => exact absurd hr (hdf d w')
    | enter f args =>
      refine ⟨fun hd => absurd hd (by simp [Fence.wide]), ?_⟩
      have h' : Calls P f args w' _ := h
      refine CallsIn.inRound l (callsIn_wide.2 (h'.mono ?_))
      intro e w'' he
      cases e with
      | returned v => exact he
      | panicked c => exact he.elim
      | outgrown => obtain ⟨_, _, h⟩ := he; exact h.elim
    | row r args => exact absurd hr (hrow r args w')
    | _ => exact h.elim
  | halt hl w' =>
    rw [hr] at h
    cases hl <;> exact h.elim

section ops
variable {F : Fence} {n : Nat} {P : Program} {o : Oper} {a : Act} {w : World} {K : Act → World → Prop} {Q : Exit → Act → World → Prop}
theorem oper_store (ty : TypeId) (x y : Operand) (ho : o.op = .store ty x y) (w' : World) (hr : (Instr.storeAt ty (a.eval x) (a.eval y)).run P w = .ok () w') (h : K (a.put o.dst undef) w') : o.wpIn F n P a w K Q := by
  unfold Oper.wpIn
  refine ⟨by simp [Oper.about, ho], ?_⟩
  rw [Oper.semAt_plain F _ _ (by rw [ho]; intro c hc'; cases hc')]
  simp only [execOp, ho, Sem.run_bind, hr, Result.andThen_ok]
  exact h
theorem oper_load (ty : TypeId) (x : Operand) (ho : o.op = .load ty x) (v : Value) (hr : (Instr.loadAt ty (a.eval x)).run P w = .ok v w) (h : K (a.put o.dst v) w) : o.wpIn F n P a w K Q := by
  unfold Oper.wpIn
  refine ⟨by simp [Oper.about, ho], ?_⟩
  rw [Oper.semAt_plain F _ _ (by rw [ho]; intro c hc'; cases hc')]
  simp only [execOp, ho, Sem.run_bind, hr, Result.andThen_ok]
  exact h
theorem oper_lookup (t : TypeId) (m x : Operand) (ok : Bool) (ho : o.op = .lookup t m x ok) (v : Value) (hr : (Instr.lookup t (a.eval m) (a.eval x) ok).run P w = .ok v w) (h : K (a.put o.dst v) w) : o.wpIn F n P a w K Q := by
  unfold Oper.wpIn
  refine ⟨by simp [Oper.about, ho], ?_⟩
  rw [Oper.semAt_plain F _ _ (by rw [ho]; intro c hc'; cases hc')]
  simp only [execOp, ho, Sem.run_bind, hr, Result.andThen_ok]
  exact h
theorem oper_update (t : TypeId) (m k x : Operand) (ho : o.op = .mapUpdate t m k x ∨ o.op = .insert t m k x) (w' : World) (hr : (Instr.mapUpdate t (a.eval m) (a.eval k) (a.eval x)).run P w = .ok () w') (h : K (a.put o.dst undef) w') : o.wpIn F n P a w K Q := by
  unfold Oper.wpIn
  rcases ho with ho | ho
  all_goals
    refine ⟨by simp [Oper.about, ho], ?_⟩
    rw [Oper.semAt_plain F _ _ (by rw [ho]; intro c hc'; cases hc')]
    simp only [execOp, ho, Sem.run_bind, hr, Result.andThen_ok]
    exact h
theorem oper_append (s x : Operand) (t : TypeId) (ho : o.op = .call { callee := .builtin .append, args := #[s, x], argTypes := #[t, t] }) (v : Value) (w' : World) (hr : (Builtin.append_ #[t, t] o.type #[a.eval s, a.eval x]).run P w = .ok v w') (h : K (a.put o.dst v) w') : o.wpIn F n P a w K Q := by
  unfold Oper.wpIn
  refine ⟨by simp [Oper.about, ho, resolve, Target.leads, Sem.run_pure], ?_⟩
  rw [Oper.semAt_plain F _ _ (by rw [ho]; intro c hc'; cases hc')]
  simp [execOp, ho, resolve, invoke, builtin, hr, Result.andThen]
  exact h
end ops

theorem run_load_row {P : Program} (w : World) (b o : Nat) (ty : TypeId) (cs : List Value) (d : TypeDesc) (hc : w.rangeAt b o cs) (hu : P.underlying ty = some d) (hd : d.isRow = true) (hi : (P.info? ty).map (·.size) = some cs.length) :
    (Instr.loadAt ty (.pointer (some ⟨b, o, none⟩))).run P w = .ok (.agg cs.toArray) w := by
  simp only [Instr.loadAt, Instr.sureAddr, Sem.run_bind, Sem.run_pure, Result.andThen_ok, run_loadVar_mid w b o ty cs d hc hu hd hi]
theorem run_load_blk {P : Program} (w : World) (b : Nat) (ty : TypeId) (C : Array Value) (E : TypeId) (fz : Nat × Nat) (d : TypeDesc) (hc : w.heap[b]? = some (.cells C E fz)) (hu : P.underlying ty = some d) (hd : d.isRow = true) (hi : (P.info? ty).map (·.size) = some C.size) :
    (Instr.loadAt ty (.pointer (some ⟨b, 0, none⟩))).run P w = .ok (.agg C) w := by
  have := run_load_row (P := P) w b 0 ty C.toList d (fun j v hv => by rw [cell_blk hc, Nat.zero_add]; simpa using hv) hu hd (by simpa using hi)
  simpa using this
theorem run_store_blk {P : Program} (w : World) (b off : Nat) (ty : TypeId) (v : Value) (C : Array Value) (E : TypeId) (hg : w.heap[b]? = some (.cells C E (0, 0))) (hi : (P.info? ty).map (·.size) = some v.cells.size) (hfit : off + v.cells.size ≤ C.size) (h1 : ∀ u ∈ v.cells.toList, u.oneCell' = true)
    (C' : Array Value) (hC : (splice C.toList off v.cells.toList).toArray = C') : ∃ w1, (Instr.storeAt ty (.pointer (some ⟨b, off, none⟩)) v).run P w = .ok () w1 ∧ Fr [b] w w1 ∧ w1.heap[b]? = some (.cells C' E (0, 0)) := by
  have hst := run_storeCells_at P b off E v.cells.toList 0 C w hg (by simpa using hfit) h1
  have e : (C.toList.take (off + 0) ++ v.cells.toList ++ C.toList.drop (off + 0 + v.cells.toList.length)).toArray = C' := by
    rw [← hC]; simp [splice]
  rw [e] at hst
  refine ⟨w.setRow b C', ?_, Fr.setRow w b C', setRow_heap w b C _ E _ hg⟩
  cases hq : P.info? ty with
  | none => simp [hq] at hi
  | some i =>
    have hs : i.size = v.cells.size := by simpa [hq] using hi
    simp only [Instr.storeAt, Instr.sureAddr, Sem.run_bind, Sem.run_pure, Result.andThen_ok]
    simp [storeVar, sizeOf, typeInfo, hq, hs, Sem.run_bind, hst]

/-! ### A region in whatever order, by what holds when some of its operations have run -/
def undone (ops : Array Oper) (L : Array Bool) : Nat := ((List.range ops.size).filter fun i => !L.getD i true).length
theorem ready_undone {md : Region.Mode} {ops : Array Oper} {L : Array Bool} {i : Nat} (h : i ∈ Region.ready md ops L) : i < ops.size ∧ L.getD i true = false := by
  unfold Region.ready at h
  simp only [List.mem_filter, List.mem_range, Bool.and_eq_true, Bool.not_eq_true'] at h
  exact ⟨h.1, h.2.1⟩
theorem undone_set {md : Region.Mode} {ops : Array Oper} {L : Array Bool} {i : Nat} (h : i ∈ Region.ready md ops L) : undone ops (L.setIfInBounds i true) < undone ops L := by
  obtain ⟨h1, h2⟩ := ready_undone h
  have hsz : i < L.size := by
    rcases Nat.lt_or_ge i L.size with h | h
    · exact h
    · simp [Array.getD, Nat.not_lt.2 h] at h2
  unfold undone
  have hsub : ∀ l : List Nat, (l.filter fun j => !(L.setIfInBounds i true).getD j true).length ≤ (l.filter fun j => !L.getD j true).length ∧ (i ∈ l → (l.filter fun j => !(L.setIfInBounds i true).getD j true).length < (l.filter fun j => !L.getD j true).length) := by
    intro l
    induction l with
    | nil => simp
    | cons x l ih =>
      have e : (L.setIfInBounds i true).getD x true = if x = i then true else L.getD x true := by
        simp only [Array.getD_eq_getD_getElem?, Array.getElem?_setIfInBounds]
        by_cases hx : i = x
        · subst hx; simp [hsz]
        · rw [if_neg hx, if_neg (fun e => hx e.symm)]
      simp only [List.filter_cons, e]
      by_cases hx : x = i
      · subst hx
        simp only [if_true, h2, Bool.not_true, Bool.not_false, Bool.false_eq_true, if_false, List.length_cons]
        exact ⟨by omega, fun _ => by omega⟩
      · rw [if_neg hx]
        cases hb : L.getD x true
        · simp only [Bool.not_false, if_true, List.length_cons]
          exact ⟨by omega, fun hm => by rcases List.mem_cons.1 hm with h | h; exact absurd h.symm hx; have := ih.2 h; omega⟩
        · simp only [Bool.not_true, Bool.false_eq_true, if_false]
          exact ⟨ih.1, fun hm => by rcases List.mem_cons.1 hm with h | h; exact absurd h.symm hx; exact ih.2 h⟩
  exact (hsub _).2 (by simpa using h1)
theorem wpAnyIn_inv {F : Fence} {n : Nat} {P : Program} {md : Region.Mode} {ops : Array Oper} {Q : Exit → Act → World → Prop} (Inv : Array Bool → Act → World → Prop)
    (hs : ∀ L a w, Inv L a w → ∀ i, i ∈ Region.ready md ops L → wpOpIn F n P ops Q i (Inv (L.setIfInBounds i true)) a w)
    (hd : ∀ L a w, Inv L a w → Region.ready md ops L = [] → Q .normal a w) : ∀ (fuel : Nat) (L : Array Bool) (a : Act) (w : World), undone ops L ≤ fuel → Inv L a w → wpAnyIn F n P md ops Q fuel L a w := by
  intro fuel
  induction fuel with
  | zero =>
    intro L a w hf hi
    have : Region.ready md ops L = [] := by
      cases hr : Region.ready md ops L with
      | nil => rfl
      | cons x l => have := undone_set (md := md) (ops := ops) (L := L) (i := x) (by rw [hr]; simp); omega
    exact ⟨this, hd L a w hi this⟩
  | succ fuel ih =>
    intro L a w hf hi
    refine ⟨hd L a w hi, fun i hm => wpOpIn_mono (fun a' w' h => ih _ a' w' ?_ h) (hs L a w hi i hm)⟩
    have := undone_set hm; omega
theorem wpIn_region_inv {F : Fence} {n : Nat} {P : Program} {id : Nat} {ops : Array Oper} {Q : Exit → Act → World → Prop} {a : Act} {w : World} (hm : P.follows .mixedOrders = true) (Inv : Array Bool → Act → World → Prop)
    (h0 : Inv (Array.replicate ops.size false) a w.drew)
    (hs : ∀ L a w, Inv L a w → ∀ i, i ∈ Region.ready .any ops L → wpOpIn F n P ops Q i (Inv (L.setIfInBounds i true)) a w)
    (hd : ∀ L a w, Inv L a w → Region.ready .any ops L = [] → Q .normal a w) : (Code.region id ops true).wpIn F n P Q a w :=
  wpIn_region_any hm (wpAnyIn_inv Inv hs hd _ _ _ _ (by unfold undone; exact Nat.le_trans (List.length_filter_le _ _) (by simp)) h0)

/-- some slots of a frame, set -/
def setS (a : Act) (l : List (Nat × Value)) : Act := { tmps := l.foldl (fun t p => t.setIfInBounds p.1 p.2) a.tmps, defers := a.defers }
theorem wpIn_region_at {F : Fence} {n : Nat} {P : Program} {id : Nat} {ops : Array Oper} {Q : Exit → Act → World → Prop} {a : Act} {w : World} (hm : P.follows .mixedOrders = true) (Inv : Act → Array Bool → Act → World → Prop)
    (h0 : Inv a (Array.replicate ops.size false) a w.drew)
    (hs : ∀ L a' w', Inv a L a' w' → ∀ i, i ∈ Region.ready .any ops L → wpOpIn F n P ops Q i (Inv a (L.setIfInBounds i true)) a' w')
    (hd : ∀ L a' w', Inv a L a' w' → Region.ready .any ops L = [] → Q .normal a' w') : (Code.region id ops true).wpIn F n P Q a w := wpIn_region_inv hm (Inv a) h0 hs hd
theorem ready_after {md : Region.Mode} {ops : Array Oper} {L : Array Bool} {i : Nat} {o : Oper} {e : Edge} (h : i ∈ Region.ready md ops L) (ho : ops[i]? = some o) (he : e ∈ o.after.toList) (hb : Region.binds md e = true) : L.getD e.on false = true := by
  unfold Region.ready at h
  simp only [List.mem_filter, List.mem_range, Bool.and_eq_true, Bool.not_eq_true', ho, Option.map_some, Option.getD_some] at h
  have := (Array.all_eq_true_iff_forall_mem.1 h.2.2) e (Array.mem_toList_iff.1 he)
  simpa [hb] using this
theorem listed_set {L : Array Bool} {i j : Nat} (hi : i < L.size) : (L.setIfInBounds i true).getD j false = if i = j then true else L.getD j false := by
  simp only [Array.getD_eq_getD_getElem?, Array.getElem?_setIfInBounds]
  by_cases h : i = j
  · subst h; simp [hi]
  · rw [if_neg h, if_neg h]
/-- an operation whose run is known -/
theorem oper_val {F : Fence} {n : Nat} {P : Program} {o : Oper} {a : Act} {w w' : World} {K : Act → World → Prop} {Q : Exit → Act → World → Prop} (v : Value) (hab : o.about P w a.eval = none) (hnd : ∀ c, o.op ≠ .defer c) (hr : (execOp a.eval o).run P w = .ok (.value v) w') (h : K (a.put o.dst v) w') : o.wpIn F n P a w K Q := by
  unfold Oper.wpIn
  refine ⟨by simp [hab], ?_⟩
  rw [Oper.semAt_plain F _ _ hnd, hr]
  exact h
theorem grownBy_fr {w w' : World} (h : Fr [] w w') (row : Option Nat) : w.grownBy w' row := ⟨h.os, h.tape, h.output, h.size, fun k hk _ => h.block k hk (by simp)⟩
/-! ### The marks at the end -/
theorem leaves_marks {F : Fence} {n : Nat} {P : Program} {fn : Func} {tmps : Array Value} {R : Ending → World → Prop} (v : Value) (hres : ∀ w, (results fn tmps).run P w = .ok v w) (Rw : World → Prop)
    (hput : ∀ w D, Rw w → w.heap[D]? = some (.deferred (some [])) → Rw (w.putObj D (.deferred none))) (hR : ∀ w, Rw w → R (.returned v) w) :
    ∀ (ds : List Nat) (w : World), ds.Nodup → (∀ D ∈ ds, w.heap[D]? = some (.deferred (some []))) → Rw w → LeavesInM F n P fn tmps R (ds.map fun D => { target := .collected D, args := #[] }) .returning w := by
  intro ds
  induction ds with
  | nil =>
    intro w _ _ hw
    exact ⟨v, hres w, hR w hw⟩
  | cons D ds ih =>
    intro w hnd hD hw
    have hk := hD D (by simp)
    refine ⟨by simp, .inl ⟨D, _, rfl, run_takeDeferred hk, ih _ (List.nodup_cons.1 hnd).2 (fun E hE => ?_) (hput w D hw hk)⟩⟩
    have hne : E ≠ D := fun e => (List.nodup_cons.1 hnd).1 (e ▸ hE)
    exact (World.putObj_heap_other hne).trans (hD E (by simp [hE]))
end Go.Proofs.YtklnbcofmhlkdaaDoor
