/- Lists of values made element by element; no program. · The base of the walks: a frame by blocks, and stores into a block that is known whole. · The state of a call as plain data, what the events do to it, and how it lies in a block of cells. No program in sight. -/
import GoSem.Core.Value
import Derived.Laws.CopyOwn
import Derived.Test.YtklnbcofmhlkdaaDoorRows
import Derived.WalkKit
import Derived.WalkSpells
import Derived.WalkLawsBesides
import Derived.Deep.QuietTactic
import Derived.BigQuiet
import Derived.StillTailTactics
import Derived.Deep.RegionHeld3
import Derived.Laws.CopyRow
import Derived.Lib.Hide
import Derived.Deep.MidRow
import Derived.Deep.RegionLaw
import Derived.Maps.AppendAt
set_option linter.unusedVariables false
set_option linter.unusedSimpArgs false
namespace Go.Proofs.YtklnbcofmhlkdaaDoor
section flat
variable {α : Type} {f : α → List Value} {k : Nat}
theorem flat_len (hf : ∀ x, (f x).length = k) (l : List α) : (l.flatMap f).length = l.length * k := by
  induction l with
  | nil => simp
  | cons x l ih => simp [hf, ih, Nat.add_mul]; omega
theorem flat_get (hf : ∀ x, (f x).length = k) (l : List α) (i j : Nat) (hj : j < k) : (l.flatMap f)[i * k + j]? = (l[i]?).bind fun x => (f x)[j]? := by
  induction l generalizing i with
  | nil => simp
  | cons x l ih =>
    cases i with
    | zero => simp [List.getElem?_append, hf, hj]
    | succ i =>
      rw [List.flatMap_cons, List.getElem?_append_right (by rw [hf, Nat.add_mul]; omega), hf, show (i + 1) * k + j - k = i * k + j from by rw [Nat.add_mul]; omega, ih]
      simp
theorem flat_set (hf : ∀ x, (f x).length = k) (l : List α) (i j : Nat) (hj : j < k) (v : Value) (x y : α) (hx : l[i]? = some x) (hy : f y = (f x).set j v) :
    (l.flatMap f).set (i * k + j) v = (l.set i y).flatMap f := by
  induction l generalizing i with
  | nil => simp at hx
  | cons z l ih =>
    cases i with
    | zero =>
      simp at hx; subst hx
      simp [List.set_append, hf, hj, hy]
    | succ i =>
      simp at hx
      rw [List.flatMap_cons, List.set_append_right _ _ (by rw [hf, Nat.add_mul]; omega), hf, show (i + 1) * k + j - k = i * k + j from by rw [Nat.add_mul]; omega, ih i hx]
      simp
theorem flat_take (hf : ∀ x, (f x).length = k) (l : List α) (i : Nat) : (l.flatMap f).take (i * k) = (l.take i).flatMap f := by
  induction l generalizing i with
  | nil => simp
  | cons x l ih =>
    cases i with
    | zero => simp
    | succ i =>
      rw [List.flatMap_cons, List.take_append, hf, show (i + 1) * k - k = i * k from by rw [Nat.add_mul]; omega, ih, List.take_of_length_le (by rw [hf, Nat.add_mul]; omega)]
      simp
theorem flat_drop (hf : ∀ x, (f x).length = k) (l : List α) (i : Nat) : (l.flatMap f).drop (i * k) = (l.drop i).flatMap f := by
  induction l generalizing i with
  | nil => simp
  | cons x l ih =>
    cases i with
    | zero => simp
    | succ i =>
      rw [List.flatMap_cons, List.drop_append, hf, show (i + 1) * k - k = i * k from by rw [Nat.add_mul]; omega, ih, List.drop_eq_nil_of_le (by rw [hf, Nat.add_mul]; omega)]
      simp
end flat
theorem flat_splice {α : Type} {f : α → List Value} {k : Nat} (hf : ∀ x, (f x).length = k) (pre post : List Value) (l : List α) (i off : Nat) (hi : i < l.length) (y : α) (ho : off = pre.length + i * k) :
    splice (pre ++ (l.flatMap f ++ post)) off (f y) = pre ++ ((l.set i y).flatMap f ++ post) := by
  subst ho
  have hl := flat_len hf l
  have h1 : i * k + k ≤ l.length * k := by
    have : (i + 1) * k ≤ l.length * k := Nat.mul_le_mul_right k hi
    rw [Nat.add_mul] at this; omega
  unfold splice
  rw [List.take_append, List.take_of_length_le (by omega), show pre.length + i * k - pre.length = i * k from by omega, List.take_append_of_le_length (by omega), flat_take hf,
    hf, List.drop_append, List.drop_eq_nil_of_le (by omega), show pre.length + i * k + k - pre.length = (i + 1) * k from by rw [Nat.add_mul]; omega, List.drop_append_of_le_length (by rw [Nat.add_mul]; omega), flat_drop hf,
    List.set_eq_take_append_cons_drop, if_pos hi]
  simp [List.flatMap_append]
theorem flat_splices {α : Type} {f : α → List Value} {k : Nat} (hf : ∀ x, (f x).length = k) (pre post : List Value) (l l2 : List α) (i off : Nat) (hi : i + l2.length ≤ l.length) (ho : off = pre.length + i * k) :
    splice (pre ++ (l.flatMap f ++ post)) off (l2.flatMap f) = pre ++ ((l.take i ++ (l2 ++ l.drop (i + l2.length))).flatMap f ++ post) := by
  subst ho
  have hl := flat_len hf l
  have hl2 := flat_len hf l2
  have h1 : i * k + l2.length * k ≤ l.length * k := by
    have := Nat.mul_le_mul_right k hi
    rw [Nat.add_mul] at this; omega
  unfold splice
  rw [List.take_append, List.take_of_length_le (by omega), show pre.length + i * k - pre.length = i * k from by omega, List.take_append_of_le_length (by omega), flat_take hf,
    hl2, List.drop_append, List.drop_eq_nil_of_le (by omega), show pre.length + i * k + l2.length * k - pre.length = (i + l2.length) * k from by rw [Nat.add_mul]; omega, List.drop_append_of_le_length (by rw [Nat.add_mul]; omega), flat_drop hf]
  simp [List.flatMap_append]
theorem splice_one (L : List Value) (off : Nat) (v : Value) (h : off < L.length) : splice L off [v] = L.set off v := by
  rw [List.set_eq_take_append_cons_drop, if_pos h]; rfl

theorem set_splice {α : Type} {f : α → List Value} {k : Nat} (hf : ∀ x, (f x).length = k) (l : List α) (i : Nat) (hi : i < l.length) (y : α) : splice (l.flatMap f) (i * k) (f y) = (l.set i y).flatMap f := by
  have := flat_splice hf [] [] l i (i * k) hi y (by simp)
  simpa using this
theorem set_splice1 {α : Type} {f : α → List Value} {k : Nat} (hf : ∀ x, (f x).length = k) (l : List α) (i j : Nat) (hi : i < l.length) (hj : j < k) (v : Value) (x y : α) (hx : l[i]? = some x) (hy : f y = (f x).set j v) : splice (l.flatMap f) (i * k + j) [v] = (l.set i y).flatMap f := by
  have h1 : i * k + k ≤ l.length * k := by
    have : (i + 1) * k ≤ l.length * k := Nat.mul_le_mul_right k hi
    rw [Nat.add_mul] at this; omega
  rw [splice_one _ _ _ (by rw [flat_len hf]; omega), flat_set hf l i j hj v x y hx hy]
/-- element i, cell j -/
theorem flat_at {α : Type} {f : α → List Value} {k : Nat} (hf : ∀ x, (f x).length = k) (l : List α) (i j : Nat) (x : α) (hx : l[i]? = some x) (hj : j < k) : (l.flatMap f)[i * k + j]? = (f x)[j]? := by
  rw [flat_get hf l i j hj, hx]; rfl
end Go.Proofs.YtklnbcofmhlkdaaDoor
namespace Go.Proofs.YtklnbcofmhlkdaaDoor
open Go.RowKit

/-- All blocks but those of l are as they were; the streams are as they were. -/
structure Fr (l : List Nat) (w w' : World) : Prop where
  os : w'.os = w.os
  tape : w'.tape = w.tape
  output : w'.output = w.output
  size : w.heap.size ≤ w'.heap.size
  block : ∀ k, k < w.heap.size → k ∉ l → w'.heap[k]? = w.heap[k]?

namespace Fr
variable {l l' : List Nat} {w w1 w2 : World}
theorem refl (l : List Nat) (w : World) : Fr l w w := ⟨rfl, rfl, rfl, Nat.le_refl _, fun _ _ _ => rfl⟩
theorem trans (h : Fr l w w1) (k : Fr l w1 w2) : Fr l w w2 :=
  ⟨k.os.trans h.os, k.tape.trans h.tape, k.output.trans h.output, Nat.le_trans h.size k.size,
    fun i hi hl => (k.block i (Nat.lt_of_lt_of_le hi h.size) hl).trans (h.block i hi hl)⟩
theorem mono (h : Fr l w w1) (hs : ∀ x ∈ l, x ∈ l') : Fr l' w w1 := ⟨h.os, h.tape, h.output, h.size, fun k hk hl => h.block k hk fun hm => hl (hs k hm)⟩
theorem of_nil (h : Fr [] w w1) : Fr l w w1 := h.mono (by simp)
theorem drew (h : Fr l w w1) : Fr l w w1.drew := ⟨h.os, h.tape, h.output, h.size, h.block⟩
theorem drewN (h : Fr l w w1) (n : Nat) : Fr l w (w1.drewN n) := ⟨h.os, h.tape, h.output, h.size, h.block⟩
theorem alloc (h : Fr l w w1) (o : Obj) : Fr l w (w1.alloc o) :=
  h.trans ⟨rfl, rfl, rfl, by simp, fun k hk _ => Below.heap_alloc _ _ _ hk⟩
/-- a draw ahead of it -/
theorem undrew {d : Nat} (h : Fr l { heap := w.heap, tape := w.tape, drawn := d, os := w.os, output := w.output } w1) : Fr l w w1 := ⟨h.os, h.tape, h.output, h.size, h.block⟩
theorem undrewN {n : Nat} (h : Fr l (w.drewN n) w1) : Fr l w w1 := ⟨h.os, h.tape, h.output, h.size, h.block⟩
/-- what is written lies in new blocks -/
theorem new (h : Fr l w w1) (k : Fr l' w1 w2) (hl : ∀ x ∈ l', x ∈ l ∨ w.heap.size ≤ x) : Fr l w w2 :=
  ⟨k.os.trans h.os, k.tape.trans h.tape, k.output.trans h.output, Nat.le_trans h.size k.size,
    fun i hi hm => (k.block i (Nat.lt_of_lt_of_le hi h.size) (fun hx => by rcases hl i hx with h1 | h1; exact hm h1; omega)).trans (h.block i hi hm)⟩
theorem setCell (h : Fr l w w1) (a : Addr) (v : Value) (ha : a.block ∈ l ∨ w.heap.size ≤ a.block) : Fr l w (w1.setCell a v) :=
  h.new (l' := [a.block]) ⟨rfl, rfl, rfl, by simp [World.setCell], fun k _ hk => Below.heap_setCell _ _ _ _ (by simpa using hk)⟩ (by simpa using ha)
theorem below (h : Fr [] w w1) : Below w.heap.size w w1 := ⟨h.os, h.tape, h.output, h.size, fun k hk => h.block k hk (by simp)⟩
theorem of_below (h : Below w.heap.size w w1) : Fr [] w w1 := ⟨h.os, h.tape, h.output, h.size, fun k hk _ => h.block k hk⟩
theorem of_below_le {B : Nat} (h : Below B w w1) (hB : w.heap.size ≤ B) : Fr [] w w1 := ⟨h.os, h.tape, h.output, h.size, fun k hk _ => h.block k (by omega)⟩
theorem at_ (h : Fr l w w1) {b : Nat} {o : Obj} (hb : w.heap[b]? = some o) (hn : b ∉ l) : w1.heap[b]? = some o :=
  (h.block b (Array.getElem?_eq_some_iff.1 hb).1 hn).trans hb
end Fr

theorem blk_lt {w : World} {b : Nat} {o : Obj} (h : w.heap[b]? = some o) : b < w.heap.size := (Array.getElem?_eq_some_iff.1 h).1
theorem alloc_at {w : World} {b : Nat} {o : Obj} (h : w.heap[b]? = some o) (x : Obj) : (w.alloc x).heap[b]? = some o := (Below.heap_alloc w x b (blk_lt h)).trans h
theorem alloc_new (w : World) (x : Obj) : (w.alloc x).heap[w.heap.size]? = some x := heap_alloc_new w x
theorem cell_blk {w : World} {b : Nat} {C : Array Value} {E : TypeId} {fz : Nat × Nat} (h : w.heap[b]? = some (.cells C E fz)) (o : Nat) : w.cell? ⟨b, o, none⟩ = C[o]? := by
  simp [World.cell?, h]
theorem frozen_blk {w : World} {b : Nat} {C : Array Value} {E : TypeId} (h : w.heap[b]? = some (.cells C E (0, 0))) (o : Nat) : w.frozen? ⟨b, o, none⟩ = false := by
  simp [World.frozen?, h]

theorem Fr.setRow (w : World) (b : Nat) (c : Array Value) : Fr [b] w (w.setRow b c) :=
  ⟨rfl, rfl, rfl, by simp [World.setRow], fun k _ hk => by
    simp only [World.setRow, Array.getElem?_modify]
    rw [if_neg (by simpa using fun e => hk (by simp [e]))]⟩

/-- A store into a block that is known whole, at whatever offset, of whatever number of cells: the world behind it is a new one of which this is known. -/
theorem wpList_st {P : Program} {ops : Array Oper} {rest : List Oper} {o : Oper} {a : Act} {w : World} {Q : Exit → Act → World → Prop} (hgd : o.guard = none) (ty : TypeId) (x y : Operand) (ho : o.op = .store ty x y)
    (b off : Nat) (v : Value) (hx : a.eval x = .pointer (some ⟨b, off, none⟩)) (hy : a.eval y = v) (E : TypeId) (C : Array Value) (hg : w.heap[b]? = some (.cells C E (0, 0)))
    (hi : (P.info? ty).map (·.size) = some v.cells.size) (hfit : off + v.cells.size ≤ C.size) (h1 : ∀ u ∈ v.cells.toList, u.oneCell' = true)
    (C' : Array Value) (hC : (splice C.toList off v.cells.toList).toArray = C')
    (h : ∀ w1, Fr [b] w w1 → w1.heap[b]? = some (.cells C' E (0, 0)) → wpList P ops Q rest (a.put o.dst undef) w1) : wpList P ops Q (o :: rest) a w := by
  refine wpList_plain hgd fun _ hK => ?_
  have hst := run_storeCells_at P b off E v.cells.toList 0 C w hg (by simpa using hfit) h1
  have e : (C.toList.take (off + 0) ++ v.cells.toList ++ C.toList.drop (off + 0 + v.cells.toList.length)).toArray = C' := by
    rw [← hC]; simp [splice]
  rw [e] at hst
  have hrun : (Instr.storeAt ty (a.eval x) (a.eval y)).run P w = .ok () (w.setRow b C') := by
    cases hq : P.info? ty with
    | none => simp [hq] at hi
    | some i =>
      have hs : i.size = v.cells.size := by simpa [hq] using hi
      simp only [hx, hy, Instr.storeAt, Instr.sureAddr, Sem.run_bind, Sem.run_pure, Result.andThen_ok]
      simp [storeVar, sizeOf, typeInfo, hq, hs, Sem.run_bind, hst]
  unfold Oper.wp execOp
  simp only [ho, Sem.run_bind, hrun, Result.andThen_ok]
  exact hK _ _ (h _ (Fr.setRow w b C') (setRow_heap w b C _ E _ hg))

/-- copy into a block that is known whole, whatever the element's size, from wherever. -/
theorem wpList_copy_w {P : Program} {ops : Array Oper} {rest : List Oper} {o : Oper} {a : Act} {w : World} {Q : Exit → Act → World → Prop} (hgd : o.guard = none) (d s : Operand) (dT sT : TypeId)
    (ho : o.op = .call { callee := .builtin .copy, args := #[d, s], argTypes := #[dT, sT] }) (elem : TypeId) (hu : P.underlying dT = some (.slice elem)) (k : Nat) (hk : (P.info? elem).map (·.size) = some k)
    (g off dLen dCap : Nat) (sp : Addr) (sLen sCap : Nat) (hd : a.eval d = .slice (some ⟨g, off, none⟩) dLen dCap) (hs : a.eval s = .slice (some sp) sLen sCap)
    (E : TypeId) (C : Array Value) (hg : w.heap[g]? = some (.cells C E (0, 0))) (cs : List Value) (hn : cs.length = Nat.min sLen dLen * k)
    (hsrc : ∀ j v, cs[j]? = some v → w.cell? (sp.add j) = some v) (hfit : off + cs.length ≤ C.size) (h1 : ∀ v ∈ cs, v.oneCell' = true)
    (C' : Array Value) (hC : (splice C.toList off cs).toArray = C')
    (h : ∀ w1, Fr [g] w w1 → w1.heap[g]? = some (.cells C' E (0, 0)) → wpList P ops Q rest (a.put o.dst (goInt (Nat.min sLen dLen))) w1) : wpList P ops Q (o :: rest) a w := by
  refine wpList_plain hgd fun _ hK => ?_
  have hl := run_loadCells_list (P := P) w sp cs hsrc
  have hst := run_storeCells_at P g off E cs 0 C w hg (by simpa using hfit) h1
  have e : (C.toList.take (off + 0) ++ cs ++ C.toList.drop (off + 0 + cs.length)).toArray = C' := by
    rw [← hC]; simp [splice]
  rw [e] at hst
  have hrun : (Builtin.copy_ #[dT, sT] o.type #[.slice (some ⟨g, off, none⟩) dLen dCap, .slice (some sp) sLen sCap]).run P w = .ok (goInt (Nat.min sLen dLen)) (w.setRow g C') := by
    cases hq : P.info? elem with
    | none => simp [hq] at hk
    | some i =>
      have hi : i.size = k := by simpa [hq] using hk
      simp [Builtin.copy_, run_underlying hu, Builtin.lenOf, Builtin.firstCells, sizeOf, typeInfo, hq, hi, ← hn, hl, hst]
  unfold Oper.wp
  simp [execOp, ho, resolve, invoke, builtin, hd, hs, hrun, Result.andThen]
  exact hK _ _ (h _ (Fr.setRow w g C') (setRow_heap w g C _ E _ hg))

/-- A whole aggregate is read out of the middle of a block that is known whole. -/
theorem wpList_ldm {P : Program} {ops : Array Oper} {rest : List Oper} {op : Oper} {a : Act} {w : World} {Q : Exit → Act → World → Prop} (hgd : op.guard = none) (ty : TypeId) (x : Operand) (ho : op.op = .load ty x)
    (b o : Nat) (hx : a.eval x = .pointer (some ⟨b, o, none⟩)) (E : TypeId) (C : Array Value) (hg : w.heap[b]? = some (.cells C E (0, 0))) (cs : List Value) (hc : ∀ j, j < cs.length → C[o + j]? = cs[j]?)
    (d : TypeDesc) (hu : P.underlying ty = some d) (hd : d.isRow = true) (hi : (P.info? ty).map (·.size) = some cs.length)
    (h : wpList P ops Q rest (a.put op.dst (.agg cs.toArray)) w) : wpList P ops Q (op :: rest) a w :=
  wpList_load_mid hgd ty x ho b o hx cs d (fun j v hv => by rw [cell_blk hg, hc j (List.getElem?_eq_some_iff.1 hv).1, hv]) hu hd hi h

theorem Fr.grown {w w' : World} {row : Option Nat} (h : w.grownBy w' row) : Fr row.toList w w' :=
  ⟨h.os, h.tape, h.output, h.size, fun k hk hn => h.block k hk (fun e => hn (by rw [← e]; simp))⟩

/-- A slice reads as a list, each element of it as some cells. -/
def Rd {α : Type} (w : World) (f : α → List Value) (v : Value) (l : List α) : Prop :=
  (v = .slice none 0 0 ∧ l = []) ∨ ∃ g off cap, v = .slice (some ⟨g, off, none⟩) l.length cap ∧ l.length ≤ cap ∧ cap ≤ maxLen ∧ g < w.heap.size ∧ ∀ j u, (l.flatMap f)[j]? = some u → w.cell? ⟨g, off + j, none⟩ = some u
def Value.blkOf : Value → List Nat
  | .slice (some a) _ _ => [a.block]
  | _ => []
theorem blkOf_slice (g o n c : Nat) (s : Option Nat) : Value.blkOf (.slice (some ⟨g, o, s⟩) n c) = [g] := rfl
theorem Rd.fr {α : Type} {w w' : World} {f : α → List Value} {v : Value} {l : List α} {S : List Nat} (h : Rd w f v l) (hf : Fr S w w') (hs : ∀ g ∈ Value.blkOf v, g ∉ S) : Rd w' f v l := by
  rcases h with h | ⟨g, off, cap, rfl, h1, h2, h3, h4⟩
  · exact .inl h
  · refine .inr ⟨g, off, cap, rfl, h1, h2, Nat.lt_of_lt_of_le h3 hf.size, fun j u hj => ?_⟩
    rw [World.cell?_of_block (w := w) (hf.block g h3 (hs g (by simp [Value.blkOf])))]
    exact h4 j u hj
theorem Rd.fr0 {α : Type} {w w' : World} {f : α → List Value} {v : Value} {l : List α} (h : Rd w f v l) (hf : Fr [] w w') : Rd w' f v l := h.fr hf (by simp)
theorem Rd.lt {α : Type} {w : World} {f : α → List Value} {v : Value} {l : List α} (h : Rd w f v l) : ∀ g ∈ Value.blkOf v, g < w.heap.size := by
  rcases h with ⟨rfl, _⟩ | ⟨g, off, cap, rfl, h1, h2, h3, h4⟩
  · simp [Value.blkOf]
  · simpa [Value.blkOf] using h3
theorem Rd.nil {α : Type} (w : World) (f : α → List Value) : Rd w f (.slice none 0 0) ([] : List α) := .inl ⟨rfl, rfl⟩

theorem Rd.cells {α : Type} {w : World} {f : α → List Value} {g off n cap : Nat} {l : List α} (h : Rd w f (.slice (some ⟨g, off, none⟩) n cap) l) :
    n = l.length ∧ n ≤ cap ∧ cap ≤ maxLen ∧ g < w.heap.size ∧ ∀ j u, (l.flatMap f)[j]? = some u → w.cell? ⟨g, off + j, none⟩ = some u := by
  rcases h with ⟨h, _⟩ | ⟨g', off', cap', h0, h1, h2, h3, h4⟩
  · exact absurd h (by simp)
  · simp only [Value.slice.injEq, Option.some.injEq, Addr.mk.injEq, and_true] at h0
    obtain ⟨⟨rfl, rfl⟩, rfl, rfl⟩ := h0
    exact ⟨rfl, h1, h2, h3, h4⟩
/-- an element of a slice is read, whole -/
theorem wpList_ldR {α : Type} {P : Program} {ops : Array Oper} {rest : List Oper} {op : Oper} {a : Act} {w : World} {Q : Exit → Act → World → Prop} (hgd : op.guard = none) (ty : TypeId) (x : Operand) (ho : op.op = .load ty x)
    (f : α → List Value) (k : Nat) (hf : ∀ y, (f y).length = k) (g off n cap : Nat) (l : List α) (hR : Rd w f (.slice (some ⟨g, off, none⟩) n cap) l) (i : Nat) (y : α) (hi : l[i]? = some y) (o : Nat) (hx : a.eval x = .pointer (some ⟨g, o, none⟩)) (hoff : o = off + i * k)
    (cs : List Value) (hcs : f y = cs) (d : TypeDesc) (hu : P.underlying ty = some d) (hd : d.isRow = true) (hsz : (P.info? ty).map (·.size) = some k)
    (h : wpList P ops Q rest (a.put op.dst (.agg cs.toArray)) w) : wpList P ops Q (op :: rest) a w := by
  subst hoff hcs
  refine wpList_load_mid hgd ty x ho g (off + i * k) hx (f y) d (fun j v hv => ?_) hu hd (by rw [hf]; exact hsz) h
  have hj : j < k := by rw [← hf y]; exact (List.getElem?_eq_some_iff.1 hv).1
  rw [Nat.add_assoc]
  exact hR.cells.2.2.2.2 _ _ ((flat_at hf l i j y hi hj).trans hv)

/-- A slice that the call itself made: it owns its block, from 'base' on. -/
def Own {α : Type} (w : World) (base : Nat) (E : TypeId) (k : Nat) (f : α → List Value) (v : Value) (l : List α) : Prop := w.ownsRow base E k v l.length (l.flatMap f)
theorem Own.nil {α : Type} (w : World) (base : Nat) (E : TypeId) (k : Nat) (f : α → List Value) : Own w base E k f (.slice none 0 0) ([] : List α) := World.ownsRow_nil w base E k
theorem Own.blk {α : Type} {w : World} {base : Nat} {E : TypeId} {k : Nat} {f : α → List Value} {v : Value} {l : List α} (h : Own w base E k f v l) : ∀ g ∈ Value.blkOf v, base ≤ g ∧ g < w.heap.size := by
  rcases h.2 with ⟨rfl, _⟩ | ⟨g, cap, cur, rfl, hb, hg, _⟩
  · simp [Value.blkOf]
  · simp only [Value.blkOf, List.mem_singleton, forall_eq]
    exact ⟨hb, blk_lt hg⟩
theorem ownBlock_blk (v : Value) : v.ownBlock.toList = Value.blkOf v := by
  cases v with
  | slice a l c => cases a <;> rfl
  | _ => rfl
theorem Own.fr {α : Type} {w w' : World} {base : Nat} {E : TypeId} {k : Nat} {f : α → List Value} {v : Value} {l : List α} {S : List Nat} (h : Own w base E k f v l) (hf : Fr S w w') (hs : ∀ g ∈ Value.blkOf v, g ∉ S) : Own w' base E k f v l := by
  refine ⟨h.1, ?_⟩
  rcases h.2 with h1 | ⟨g, cap, cur, rfl, hb, hg, hr⟩
  · exact .inl h1
  · exact .inr ⟨g, cap, cur, rfl, hb, hf.at_ hg (hs g (by simp [Value.blkOf])), hr⟩
theorem Own.rd {α : Type} {w : World} {base : Nat} {E : TypeId} {k : Nat} {f : α → List Value} {v : Value} {l : List α} (h : Own w base E k f v l) : Rd w f v l := by
  rcases h.2 with ⟨rfl, hn⟩ | ⟨g, cap, cur, rfl, hb, hg, h1, h2, h3, h4⟩
  · exact .inl ⟨rfl, List.eq_nil_of_length_eq_zero hn⟩
  · refine .inr ⟨g, 0, cap, rfl, h1, h2, blk_lt hg, fun j u hj => ?_⟩
    rw [cell_blk hg, ← h4] at *
    have hl := (List.getElem?_eq_some_iff.1 hj).1
    rw [List.getElem?_take_of_lt (by simp at hl; omega)] at hj
    simpa using hj
theorem Own.shape {α : Type} {w : World} {base : Nat} {E : TypeId} {k : Nat} {f : α → List Value} {v : Value} {l : List α} (h : Own w base E k f v l) : ∃ p c, v = .slice p l.length c := by
  rcases h.2 with ⟨rfl, hn⟩ | ⟨g, cap, cur, rfl, _⟩
  · exact ⟨none, 0, by rw [hn]⟩
  · exact ⟨_, _, rfl⟩
theorem Own.shape' {α : Type} {w : World} {base : Nat} {E : TypeId} {k : Nat} {f : α → List Value} {v : Value} {l : List α} (h : Own w base E k f v l) : ∃ p n c, v = .slice p n c ∧ Hid (n = l.length) := by
  obtain ⟨p, c, h⟩ := h.shape
  exact ⟨p, _, c, h, rfl⟩
theorem Rd.shape {α : Type} {w : World} {f : α → List Value} {v : Value} {l : List α} (h : Rd w f v l) : ∃ p c, v = .slice p l.length c := by
  rcases h with ⟨rfl, rfl⟩ | ⟨g, off, cap, rfl, _⟩
  · exact ⟨none, 0, rfl⟩
  · exact ⟨_, _, rfl⟩
theorem Own.mono {α : Type} {w : World} {base base' : Nat} {E : TypeId} {k : Nat} {f : α → List Value} {v : Value} {l : List α} (h : Own w base E k f v l) (hb : base' ≤ base) : Own w base' E k f v l := by
  refine ⟨h.1, ?_⟩
  rcases h.2 with h1 | ⟨g, cap, cur, rfl, hb', hr⟩
  · exact .inl h1
  · exact .inr ⟨g, cap, cur, rfl, by omega, hr⟩
theorem new_cells (w : World) (C : Array Value) (E : TypeId) (L : List Value) (hC : C.toList = L) (j : Nat) (u : Value) (hj : L[j]? = some u) : (w.alloc (.cells C E)).cell? ⟨w.heap.size, 0 + j, none⟩ = some u := by
  subst hC
  rw [cell_blk (alloc_new w _), Nat.zero_add]
  simpa using hj
/-- the first result lies in a cell (an aggregate), the others in slots -/
theorem results_cell2 {P : Program} {fn : Func} {p q : Tmp} {ty : TypeId} (h : fn.results = #[.cell p ty, .tmp q]) (tmps : Array Value) (w : World) (g : Nat) (t : TypeId) (cs : Array Value) (fr : Nat × Nat) (d : TypeDesc)
    (hp : tmps.getD p undef = .pointer (some ⟨g, 0, none⟩)) (hg : w.heap[g]? = some (.cells cs t fr))
    (hu : P.underlying ty = some d) (hd : (match d with | .struct _ | .array _ _ => true | _ => false) = true) (hi : (P.info? ty).map (·.size) = some cs.size)
    (v : Value) (hq : tmps.getD q undef = v) :
    (results fn tmps).run P w = .ok (.tuple #[.agg cs, v]) w := by
  have hp' : tmps[p]?.getD undef = .pointer (some ⟨g, 0, none⟩) := by simpa using hp
  have hq' : tmps[q]?.getD undef = v := by simpa using hq
  simp [results, h, hp', hq', asAddr, run_loadVar_row w g t ty cs fr d hg hu hd hi]
theorem results_cell3 {P : Program} {fn : Func} {p q r : Tmp} {ty : TypeId} (h : fn.results = #[.cell p ty, .tmp q, .tmp r]) (tmps : Array Value) (w : World) (g : Nat) (t : TypeId) (cs : Array Value) (fr : Nat × Nat) (d : TypeDesc)
    (hp : tmps.getD p undef = .pointer (some ⟨g, 0, none⟩)) (hg : w.heap[g]? = some (.cells cs t fr))
    (hu : P.underlying ty = some d) (hd : (match d with | .struct _ | .array _ _ => true | _ => false) = true) (hi : (P.info? ty).map (·.size) = some cs.size)
    (v u : Value) (hq : tmps.getD q undef = v) (hr : tmps.getD r undef = u) :
    (results fn tmps).run P w = .ok (.tuple #[.agg cs, v, u]) w := by
  have hp' : tmps[p]?.getD undef = .pointer (some ⟨g, 0, none⟩) := by simpa using hp
  have hq' : tmps[q]?.getD undef = v := by simpa using hq
  have hr' : tmps[r]?.getD undef = u := by simpa using hr
  simp [results, h, hp', hq', hr', asAddr, run_loadVar_row w g t ty cs fr d hg hu hd hi]
/-- what append leaves -/
structure Apd {α : Type} (w : World) (base : Nat) (e : TypeId) (k : Nat) (f : α → List Value) (v : Value) (l l2 : List α) (v' : Value) (w' : World) : Prop where
  own : Own w' base e k f v' (l ++ l2)
  fr : Fr (Value.blkOf v) w w'
  blk : ∀ x ∈ Value.blkOf v', x ∈ Value.blkOf v ∨ x = w.heap.size
  nil : v' = .slice none 0 0 ↔ v = .slice none 0 0 ∧ l2 = []
theorem run_app {α : Type} {P : Program} (w : World) (t ty : TypeId) (base : Nat) (e : TypeId) (z : Value) (k bytes : Nat) (f : α → List Value) (ht : P.underlying t = some (.slice e)) (hi : (P.info? e).map (fun i => (i.zero, i.size, i.bytes)) = some (some z, k, bytes))
    (hzs : z.cells.size = k) (hsz : 0 < k) (hf : ∀ y, (f y).length = k) (h1 : ∀ y, ∀ u ∈ f y, u.oneCell' = true)
    (v : Value) (l : List α) (hown : Own w base e k f v l) (xv : Value) (l2 : List α) (hR : Rd w f xv l2)
    (hbz : bytes ≠ 0) (hbytes : (l.length + l2.length) * bytes ≤ 140737488355328) (hbase : base ≤ w.heap.size) :
    ∃ v' w', (Builtin.append_ #[t, t] ty #[v, xv]).run P w = .ok v' w' ∧ Apd w base e k f v l l2 v' w' := by
  obtain ⟨i, hi0, hi1, hi2, hi3⟩ := info_parts hi
  rcases hR with ⟨rfl, rfl⟩ | ⟨g, off, cap, rfl, _, hcap, _, hnews⟩
  · refine ⟨v, w, run_append_owned_none (P := P) (w := w) base t ty e i k ht hi0 v l.length (l.flatMap f) hown, ?_, Fr.refl _ _, fun x hx => .inl hx, by simp⟩
    rw [List.append_nil]; exact hown
  · have h63 : l.length + l2.length ≤ maxLen := by
      have : l.length ≤ maxLen ∧ l2.length ≤ maxLen := by
        refine ⟨?_, by omega⟩
        rcases hown.2 with ⟨_, hn⟩ | ⟨_, _, _, _, _, _, h1', h2', _⟩
        · rw [hn]; omega
        · omega
      by_cases hb : bytes = 0
      · exact absurd hb hbz
      · have := Nat.le_trans (Nat.le_mul_of_pos_right _ (Nat.pos_of_ne_zero hb)) hbytes
        simp only [maxLen]; omega
    obtain ⟨v', w', hrun, h2, h3, h4, h5⟩ := run_append_own_at (P := P) (w := w) base t ty e i z k bytes ht hi0 hi1 hi2 hi3 hzs hsz v l.length (l.flatMap f) hown ⟨g, off, none⟩ l2.length cap (l2.flatMap f) (flat_len hf l2)
      (fun j u hj => by rw [Addr.add_mid]; exact hnews j u hj) (fun u hu => by obtain ⟨y, _, hy⟩ := List.mem_flatMap.1 hu; exact h1 y u hy) h63 hbytes hbase
    refine ⟨v', w', hrun, ?_, by rw [← ownBlock_blk]; exact Fr.grown h3, fun x hx => ?_, by rw [h4, List.length_eq_zero_iff]⟩
    · show w'.ownsRow base e k v' (l ++ l2).length ((l ++ l2).flatMap f)
      rw [List.length_append, List.flatMap_append]; exact h2
    · rw [← ownBlock_blk] at hx ⊢
      rcases h5 with h5 | h5 <;> rw [h5] at hx
      · exact .inl hx
      · exact .inr (by simpa using hx)
theorem wp_app {α : Type} {P : Program} {o : Oper} {a : Act} {w : World} {K : Act → World → Prop} {Q : Exit → Act → World → Prop} (s x : Operand) (t : TypeId)
    (ho : o.op = .call { callee := .builtin .append, args := #[s, x], argTypes := #[t, t] })
    (base : Nat) (e : TypeId) (z : Value) (k bytes : Nat) (f : α → List Value) (ht : P.underlying t = some (.slice e)) (hi : (P.info? e).map (fun i => (i.zero, i.size, i.bytes)) = some (some z, k, bytes))
    (hzs : z.cells.size = k) (hsz : 0 < k) (hf : ∀ y, (f y).length = k) (h1 : ∀ y, ∀ u ∈ f y, u.oneCell' = true)
    (v : Value) (l : List α) (hs : a.eval s = v) (hown : Own w base e k f v l) (xv : Value) (l2 : List α) (hx : a.eval x = xv) (hR : Rd w f xv l2)
    (hbz : bytes ≠ 0) (hbytes : (l.length + l2.length) * bytes ≤ 140737488355328) (hbase : base ≤ w.heap.size)
    (h : ∀ v' w', Apd w base e k f v l l2 v' w' → K (a.put o.dst v') w') : o.wp P a w K Q := by
  obtain ⟨v', w', hr, h2⟩ := run_app (P := P) w t o.type base e z k bytes f ht hi hzs hsz hf h1 v l hown xv l2 hR hbz hbytes hbase
  unfold Oper.wp execOp
  simp only [ho, resolve, invoke, builtin, Sem.run_bind, Sem.run_pure, Result.andThen_ok, List.map_toArray, List.map_cons, List.map_nil, hs, hx, hr]
  exact h v' w' h2
theorem wpList_apd {α : Type} {P : Program} {ops : Array Oper} {rest : List Oper} {o : Oper} {a : Act} {w : World} {Q : Exit → Act → World → Prop} (hgd : o.guard = none) (s x : Operand) (t : TypeId)
    (ho : o.op = .call { callee := .builtin .append, args := #[s, x], argTypes := #[t, t] })
    (base : Nat) (e : TypeId) (z : Value) (k bytes : Nat) (f : α → List Value) (ht : P.underlying t = some (.slice e)) (hi : (P.info? e).map (fun i => (i.zero, i.size, i.bytes)) = some (some z, k, bytes))
    (hzs : z.cells.size = k) (hsz : 0 < k) (hf : ∀ y, (f y).length = k) (h1 : ∀ y, ∀ u ∈ f y, u.oneCell' = true)
    (v : Value) (l : List α) (hs : a.eval s = v) (hown : Own w base e k f v l) (xv : Value) (l2 : List α) (hx : a.eval x = xv) (hR : Rd w f xv l2)
    (hbz : bytes ≠ 0) (hbytes : (l.length + l2.length) * bytes ≤ 140737488355328) (hbase : base ≤ w.heap.size)
    (h : ∀ v' w', Apd w base e k f v l l2 v' w' → wpList P ops Q rest (a.put o.dst v') w') : wpList P ops Q (o :: rest) a w :=
  wpList_plain hgd fun _ hK => wp_app s x t ho base e z k bytes f ht hi hzs hsz hf h1 v l hs hown xv l2 hx hR hbz hbytes hbase fun v' w' h2 => hK _ _ (h v' w' h2)
/-- the same as one step of a region that draws its order -/
theorem step_apd {α : Type} {P : Program} {ops : Array Oper} {o : Oper} {a : Act} {w : World} {K : Act → World → Prop} {Q : Exit → Act → World → Prop} {X : Prop} (hgd : o.guard = none) (s x : Operand) (t : TypeId)
    (ho : o.op = .call { callee := .builtin .append, args := #[s, x], argTypes := #[t, t] })
    (base : Nat) (e : TypeId) (z : Value) (k bytes : Nat) (f : α → List Value) (ht : P.underlying t = some (.slice e)) (hi : (P.info? e).map (fun i => (i.zero, i.size, i.bytes)) = some (some z, k, bytes))
    (hzs : z.cells.size = k) (hsz : 0 < k) (hf : ∀ y, (f y).length = k) (h1 : ∀ y, ∀ u ∈ f y, u.oneCell' = true)
    (v : Value) (l : List α) (hs : a.eval s = v) (hown : Own w base e k f v l) (xv : Value) (l2 : List α) (hx : a.eval x = xv) (hR : Rd w f xv l2)
    (hbz : bytes ≠ 0) (hbytes : (l.length + l2.length) * bytes ≤ 140737488355328) (hbase : base ≤ w.heap.size)
    (h : ∀ v' w', Apd w base e k f v l l2 v' w' → K (a.put o.dst v') w') :
    if Region.wanted o (yielded ops a.tmps) = true then Oper.wp P o a w K Q else X := by
  have hw : Region.wanted o (yielded ops a.tmps) = true := by simp [Region.wanted, hgd]
  rw [if_pos hw]
  exact wp_app s x t ho base e z k bytes f ht hi hzs hsz hf h1 v l hs hown xv l2 hx hR hbz hbytes hbase h
/-- a slice over a block that is wholly known -/
theorem Rd.of_blk {α : Type} {w : World} {f : α → List Value} {g cap : Nat} {C : Array Value} {E : TypeId} {fz : Nat × Nat} {l : List α} (h : w.heap[g]? = some (.cells C E fz)) (hC : C.toList = l.flatMap f) (hc : l.length ≤ cap) (hm : cap ≤ maxLen) : Rd w f (.slice (some ⟨g, 0, none⟩) l.length cap) l :=
  .inr ⟨g, 0, cap, rfl, hc, hm, blk_lt h, fun j u hj => by rw [cell_blk h, Nat.zero_add]; rw [← hC] at hj; simpa using hj⟩

/-- Of the world where the code stands no more is kept than R. -/
theorem wp_forget {P : Program} {c : Code} {a : Act} {W : World} {Q : Exit → Act → World → Prop} (R : World → Prop) (hR : R W) (h : ∀ W', R W' → c.wp P Q a W') : c.wp P Q a W := h W hR
theorem then_forget {K : Act → World → Prop} {a : Act} {W : World} {Q : Exit → Act → World → Prop} (R : World → Prop) (hR : R W) (h : ∀ W', R W' → Exit.then K Q .normal a W') : Exit.then K Q .normal a W := h W hR
theorem wpList_forget {P : Program} {ops : Array Oper} {l : List Oper} {a : Act} {W : World} {Q : Exit → Act → World → Prop} (R : World → Prop) (hR : R W) (h : ∀ W', R W' → wpList P ops Q l a W') : wpList P ops Q l a W := h W hR
theorem ret_bool {a b : Bool} (h : a = b) : Ending.returned (.bool a) = .returned (.bool b) := by rw [h]
theorem ret_int {k : IntKind} {a b : Int} (h : a = b) : Ending.returned (.int k a) = .returned (.int k b) := by rw [h]
theorem ret_eq {a b : Value} (h : a = b) : Ending.returned a = .returned b := by rw [h]

/-- a slice's value is what a run of slicing gives, in whatever world -/
def Slices (P : Program) (t : TypeId) (x : Value) (lo hi : Option Value) (y : Value) : Prop := ∀ W : World, (Instr.slice t x lo hi none).run P W = .ok y W
theorem run_sizeOf {P : Program} {e : TypeId} {k : Nat} (hk : (P.info? e).map (·.size) = some k) (W : World) : (sizeOf e).run P W = .ok k W := by
  cases hq : P.info? e with
  | none => simp [hq] at hk
  | some i => have : i.size = k := by simpa [hq] using hk
              simp [sizeOf, typeInfo, hq, this]
theorem slice_tail {α : Type} {P : Program} {t e : TypeId} {k : Nat} {f : α → List Value} {w : World} {pa : Option Addr} {n cap : Nat} {l : List α} (hu : P.underlying t = some (.slice e)) (hk : (P.info? e).map (·.size) = some k) (hf : ∀ y, (f y).length = k)
    (h : Rd w f (.slice pa n cap) l) (i : Nat) (hi : i ≤ l.length) :
    ∃ p c, Slices P t (.slice pa n cap) (some (.int .i64 i)) none (.slice p (l.length - i) c) ∧ Rd w f (.slice p (l.length - i) c) (l.drop i) ∧ ∀ x ∈ Value.blkOf (.slice p (l.length - i) c), x ∈ Value.blkOf (.slice pa n cap) := by
  have hn : n = l.length := by
    rcases h with ⟨h, rfl⟩ | ⟨_, _, _, h, _⟩
    · cases h; rfl
    · cases h; rfl
  subst hn
  have hel : P.elem t = e := by simp [Program.elem, hu]
  have hu' : P.underlying t = some (.slice (P.elem t)) := by rw [hel]; exact hu
  have hrun : Slices P t (.slice pa l.length cap) (some (.int .i64 i)) none (sliced pa i l.length cap k) := fun W => by
    rw [run_slice_l (P := P) (w := W) t pa l.length cap hu' .i64 i (by omega) (by omega), hel, run_sizeOf hk]
    simp [Result.andThen]
  rcases h with ⟨h, rfl⟩ | ⟨g, off, cap', h, h1, h2, h3, h4⟩
  · simp only [Value.slice.injEq] at h
    obtain ⟨rfl, _, rfl⟩ := h
    obtain rfl : i = 0 := by simpa using hi
    exact ⟨none, 0, by simpa [sliced] using hrun, .inl ⟨rfl, rfl⟩, by simp [Value.blkOf]⟩
  · simp only [Value.slice.injEq] at h
    obtain ⟨rfl, _, rfl⟩ := h
    by_cases hc : cap = i
    · have h0 : l.length - i = 0 := by omega
      refine ⟨some ⟨g, off, none⟩, cap - i, ?_, ?_, fun x hx => hx⟩
      · have e1 : sliced (some ⟨g, off, none⟩) i l.length cap k = .slice (some ⟨g, off, none⟩) (l.length - i) (cap - i) := by simp [sliced, hc]
        rw [← e1]; exact hrun
      · have hd : l.drop i = [] := List.drop_eq_nil_of_le (by omega)
        rw [hd]
        exact .inr ⟨g, off, cap - i, by rw [h0]; rfl, by simp, by omega, h3, by simp⟩
    · refine ⟨some ⟨g, off + i * k, none⟩, cap - i, ?_, .inr ⟨g, off + i * k, cap - i, by simp, by simp; omega, by omega, h3, ?_⟩, fun x hx => hx⟩
      · have e1 : sliced (some ⟨g, off, none⟩) i l.length cap k = .slice (some ⟨g, off + i * k, none⟩) (l.length - i) (cap - i) := by simp [sliced, hc, Addr.add_mid]
        rw [← e1]; exact hrun
      · intro j u hj
        rw [Nat.add_assoc]
        refine h4 _ _ ?_
        rw [← flat_drop hf, List.getElem?_drop] at hj
        exact hj
theorem slice_head {α : Type} {P : Program} {t e : TypeId} {k : Nat} {f : α → List Value} {w : World} {pa : Option Addr} {n cap : Nat} {l : List α} (hu : P.underlying t = some (.slice e)) (hk : (P.info? e).map (·.size) = some k) (hf : ∀ y, (f y).length = k)
    (h : Rd w f (.slice pa n cap) l) (i : Nat) (hi : i ≤ l.length) :
    ∃ p c, Slices P t (.slice pa n cap) none (some (.int .i64 i)) (.slice p i c) ∧ Rd w f (.slice p i c) (l.take i) ∧ ∀ x ∈ Value.blkOf (.slice p i c), x ∈ Value.blkOf (.slice pa n cap) := by
  have hel : P.elem t = e := by simp [Program.elem, hu]
  have hu' : P.underlying t = some (.slice (P.elem t)) := by rw [hel]; exact hu
  rcases h with ⟨h, rfl⟩ | ⟨g, off, cap', h, h1, h2, h3, h4⟩
  · simp only [Value.slice.injEq] at h
    obtain ⟨rfl, rfl, rfl⟩ := h
    obtain rfl : i = 0 := by simpa using hi
    refine ⟨none, 0, fun W => ?_, .inl ⟨rfl, rfl⟩, by simp [Value.blkOf]⟩
    rw [run_slice_h (P := P) (w := W) t none 0 0 hu' .i64 ((0 : Nat) : Int) (by omega) (by omega), hel, run_sizeOf hk]
    simp [Result.andThen, sliced]
  · simp only [Value.slice.injEq] at h
    obtain ⟨rfl, rfl, rfl⟩ := h
    refine ⟨some ⟨g, off, none⟩, cap, fun W => ?_, .inr ⟨g, off, cap, by simp [Nat.min_eq_left hi], by simp; omega, h2, h3, ?_⟩, fun x hx => hx⟩
    · rw [run_slice_h (P := P) (w := W) t _ l.length cap hu' .i64 i (by omega) (by omega), hel, run_sizeOf hk]
      by_cases hc : cap = 0 <;> simp [Result.andThen, sliced, hc, Addr.add]
    · intro j u hj
      refine h4 _ _ ?_
      have hlt := (List.getElem?_eq_some_iff.1 hj).1
      rw [← flat_take hf] at hj hlt
      rw [List.length_take] at hlt
      rwa [List.getElem?_take_of_lt (by omega)] at hj

/-- A store into a slice that the call itself made. -/
theorem wpList_stO {α : Type} {P : Program} {ops : Array Oper} {rest : List Oper} {o : Oper} {a : Act} {w : World} {Q : Exit → Act → World → Prop} (hgd : o.guard = none) (ty : TypeId) (x y : Operand) (ho : o.op = .store ty x y)
    (g off : Nat) (v : Value) (hx : a.eval x = .pointer (some ⟨g, off, none⟩)) (hy : a.eval y = v) (base : Nat) (E : TypeId) (k : Nat) (f : α → List Value) (n cap : Nat) (l : List α) (hown : Own w base E k f (.slice (some ⟨g, 0, none⟩) n cap) l)
    (hi : (P.info? ty).map (·.size) = some v.cells.size) (hfit : off + v.cells.size ≤ (l.flatMap f).length) (h1 : ∀ u ∈ v.cells.toList, u.oneCell' = true)
    (l' : List α) (hl : l'.length = l.length) (hC : splice (l.flatMap f) off v.cells.toList = l'.flatMap f)
    (h : ∀ w1, Fr [g] w w1 → Own w1 base E k f (.slice (some ⟨g, 0, none⟩) n cap) l' → wpList P ops Q rest (a.put o.dst undef) w1) : wpList P ops Q (o :: rest) a w := by
  obtain ⟨hlen, hr⟩ := hown
  rcases hr with ⟨h0, _⟩ | ⟨g', cap', cur, h0, hb, hg, hc1, hc2, hc3, hc4⟩
  · exact absurd h0 (by simp)
  · simp only [Value.slice.injEq, Option.some.injEq, Addr.mk.injEq, and_true] at h0
    obtain ⟨rfl, rfl, rfl⟩ := h0
    have hcl : (l.flatMap f).length ≤ cur.size := by rw [← hc4, List.length_take]; simp; omega
    have hsz : (splice cur.toList off v.cells.toList).length = cur.size := by
      rw [length_splice _ _ _ (by simp; omega)]; simp
    refine wpList_st hgd ty x y ho g off v hx hy E cur hg hi (by omega) h1 _ rfl fun w1 hF hB => ?_
    refine h w1 hF ⟨?_, .inr ⟨g, cap, _, by rw [hl], hb, hB, by rw [hl]; exact hc1, hc2, by simp [hsz, hc3], ?_⟩⟩
    · rw [← hC, length_splice _ _ _ (by simpa using hfit), hl]; exact hlen
    · rw [← hC, hl]
      have hfit' : off + v.cells.toList.length ≤ l.length * k := by rw [← hlen]; simpa using hfit
      rw [← hc4]
      simp only [splice]
      have h3 : off + v.cells.toList.length ≤ cur.toList.length := by simp at hcl hfit ⊢; omega
      rw [List.take_append, List.take_append, List.length_take, Nat.min_eq_left (by omega), List.take_of_length_le (by simp; omega), List.take_of_length_le (l := v.cells.toList) (by omega), List.take_take, Nat.min_eq_left (by omega), List.drop_take]
      congr 3
      omega

end Go.Proofs.YtklnbcofmhlkdaaDoor
namespace Go.Proofs.YtklnbcofmhlkdaaDoor
namespace Rl

structure Ctr where
  is : Int
  wth : Int
  turn : Int
  deriving DecidableEq, Inhabited
structure Msg where
  kind : Int
  frm : Int
  to : Int
  turn : Int
  deriving DecidableEq, Inhabited
structure Ev where
  kind : Int
  a : Int
  b : Int
  deriving DecidableEq, Inhabited
structure S where
  cen : List Ctr
  fl : List Msg
  deriving DecidableEq, Inhabited

def c0 : Ctr := ⟨0, 0, 0⟩
def m0 : Msg := ⟨0, 0, 0, 0⟩
def S.getC (s : S) (i : Int) : Ctr := s.cen.getD i.toNat c0
def S.setC (s : S) (i : Int) (c : Ctr) : S := { s with cen := s.cen.set i.toNat c }
def S.send (s : S) (k f t : Int) : S := { s with fl := s.fl ++ [⟨k, f, t, (s.getC f).turn⟩] }
def S.same (s : S) (m : Msg) : Bool := decide ((s.getC m.to).wth = m.frm) && decide ((s.getC m.to).turn = m.turn)
def S.hdl (s : S) (m : Msg) : S :=
  let x := s.getC m.to
  if m.kind = 1 ∧ (x.is = 0 ∨ x.is = 4) ∧ x.turn < m.turn then (s.setC m.to ⟨3, m.frm, m.turn⟩).send 2 m.to m.frm
  else if m.kind = 1 ∧ x.is = 3 ∧ s.same m = true then s.send 2 m.to m.frm
  else if m.kind = 2 ∧ (x.is = 2 ∨ x.is = 4) ∧ s.same m = true then (s.setC m.to { x with is := 4 }).send 3 m.to m.frm
  else if m.kind = 3 ∧ x.is = 3 ∧ s.same m = true then s.setC m.to ⟨1, 0, x.turn⟩
  else s
def S.isC (s : S) (i : Int) : Prop := 0 ≤ i ∧ i < s.cen.length
instance (s : S) (i : Int) : Decidable (s.isC i) := by unfold S.isC; exact inferInstance
def S.room (s : S) : Prop := s.fl.length < 6
instance (s : S) : Decidable s.room := by unfold S.room; exact inferInstance
def S.drop (s : S) (i : Int) : S := { s with fl := s.fl.eraseIdx i.toNat }
def S.msg (s : S) (i : Int) : Msg := s.fl.getD i.toNat m0
def S.offer (s : S) (a b : Int) : Option S :=
  if s.isC a ∧ s.isC b ∧ a ≠ b ∧ s.room ∧ (s.getC a).is = 1 ∧ (s.getC a).turn < 9 then some ((s.setC a ⟨2, b, (s.getC a).turn + 1⟩).send 1 a b) else none
def S.again (s : S) (a : Int) : Option S :=
  if s.isC a ∧ s.room then
    if (s.getC a).is = 2 then some (s.send 1 a (s.getC a).wth)
    else if (s.getC a).is = 3 then some (s.send 2 a (s.getC a).wth) else none
  else none
def S.app (s : S) (e : Ev) : Option S :=
  if e.kind = 1 then s.offer e.a e.b
  else if e.b ≠ 0 then none
  else if e.kind = 5 then s.again e.a
  else if ¬ (0 ≤ e.a ∧ e.a < s.fl.length) then none
  else if e.kind = 2 then some ((s.drop e.a).hdl (s.msg e.a))
  else if e.kind = 3 then some (s.drop e.a)
  else if e.kind = 4 then (if s.room then some { s with fl := s.fl ++ [s.msg e.a] } else none)
  else none

/-- What keeps each index in range and each sum small. -/
structure Ok (s : S) : Prop where
  n2 : 2 ≤ s.cen.length
  n4 : s.cen.length ≤ 4
  f6 : s.fl.length ≤ 6
  msg : ∀ m ∈ s.fl, s.isC m.frm ∧ s.isC m.to ∧ 0 ≤ m.turn ∧ m.turn ≤ 9
  cen : ∀ c ∈ s.cen, s.isC c.wth ∧ 0 ≤ c.turn ∧ c.turn ≤ 9

theorem getC_mem {s : S} {i : Int} (h : s.isC i) : s.getC i ∈ s.cen := by
  unfold S.getC S.isC at *
  have : i.toNat < s.cen.length := by omega
  simp [List.getD, this]
theorem Ok.getC {s : S} (h : Ok s) {i : Int} (hi : s.isC i) : s.isC (s.getC i).wth ∧ 0 ≤ (s.getC i).turn ∧ (s.getC i).turn ≤ 9 := h.cen _ (getC_mem hi)
theorem msg_mem {s : S} {i : Int} (h : 0 ≤ i ∧ i < s.fl.length) : s.msg i ∈ s.fl := by
  unfold S.msg
  have : i.toNat < s.fl.length := by omega
  simp [List.getD, this]

theorem isC_setC (s : S) (i j : Int) (c : Ctr) : (s.setC i c).isC j ↔ s.isC j := by simp [S.isC, S.setC]
theorem Ok.setC {s : S} (h : Ok s) (i : Int) (c : Ctr) (hc : s.isC c.wth ∧ 0 ≤ c.turn ∧ c.turn ≤ 9) : Ok (s.setC i c) := by
  refine ⟨by simpa [S.setC] using h.n2, by simpa [S.setC] using h.n4, h.f6, ?_, ?_⟩
  · intro m hm
    simpa [isC_setC] using h.msg m hm
  · intro x hx
    simp only [isC_setC]
    rcases List.mem_or_eq_of_mem_set hx with h1 | rfl
    · exact h.cen x h1
    · exact hc
theorem Ok.send {s : S} (h : Ok s) (k f t : Int) (hf : s.isC f) (ht : s.isC t) (hr : s.room) : Ok (s.send k f t) := by
  refine ⟨h.n2, h.n4, ?_, ?_, h.cen⟩
  · unfold S.room at hr; simp [S.send]; omega
  · intro m hm
    simp only [S.send, List.mem_append, List.mem_singleton] at hm
    rcases hm with hm | rfl
    · exact h.msg m hm
    · exact ⟨hf, ht, (h.getC hf).2⟩
theorem Ok.drop {s : S} (h : Ok s) (i : Int) : Ok (s.drop i) :=
  ⟨h.n2, h.n4, Nat.le_trans (List.length_eraseIdx_le s.fl i.toNat) h.f6, fun m hm => h.msg m (List.mem_of_mem_eraseIdx hm), h.cen⟩
theorem drop_room {s : S} (h : Ok s) {i : Int} (hi : 0 ≤ i ∧ i < s.fl.length) : (s.drop i).room := by
  have := h.f6
  have e : (s.drop i).fl.length = s.fl.length - 1 := List.length_eraseIdx_of_lt (by omega)
  unfold S.room; omega
theorem Ok.hdl {s : S} (h : Ok s) (m : Msg) (hf : s.isC m.frm) (ht : s.isC m.to) (hu : 0 ≤ m.turn ∧ m.turn ≤ 9) (hr : s.room) : Ok (s.hdl m) := by
  have g := h.getC ht
  unfold S.hdl
  simp only
  split
  · exact (h.setC _ _ ⟨hf, hu⟩).send _ _ _ (by simpa [isC_setC] using ht) (by simpa [isC_setC] using hf) hr
  split
  · exact h.send _ _ _ ht hf hr
  split
  · exact (h.setC m.to { s.getC m.to with is := 4 } g).send 3 _ _ (by simpa [isC_setC] using ht) (by simpa [isC_setC] using hf) hr
  split
  · exact h.setC _ _ ⟨by unfold S.isC; have := h.n2; simp; omega, g.2⟩
  · exact h
theorem Ok.app {s s' : S} {e : Ev} (h : Ok s) (he : s.app e = some s') : Ok s' := by
  unfold S.app at he
  split at he
  · unfold S.offer at he
    split at he
    · rename_i hc
      obtain ⟨ha, hb, _, hr, _, ht⟩ := hc
      have g := h.getC ha
      cases he
      exact (h.setC _ _ ⟨hb, by simp; omega, by simp; omega⟩).send _ _ _ (by simpa [isC_setC] using ha) (by simpa [isC_setC] using hb) hr
    · exact absurd he (by simp)
  split at he
  · exact absurd he (by simp)
  split at he
  · unfold S.again at he
    split at he
    · rename_i hc
      have g := h.getC hc.1
      split at he
      · cases he; exact h.send _ _ _ hc.1 g.1 hc.2
      split at he
      · cases he; exact h.send _ _ _ hc.1 g.1 hc.2
      · exact absurd he (by simp)
    · exact absurd he (by simp)
  split at he
  · exact absurd he (by simp)
  rename_i hin
  have hin : 0 ≤ e.a ∧ e.a < s.fl.length := Decidable.not_not.1 hin
  have hm := h.msg _ (msg_mem hin)
  split at he
  · cases he
    exact (h.drop _).hdl _ hm.1 hm.2.1 hm.2.2 (drop_room h hin)
  split at he
  · cases he; exact h.drop _
  split at he
  · split at he
    · rename_i hr
      cases he
      refine ⟨h.n2, h.n4, by unfold S.room at hr; simp; omega, ?_, h.cen⟩
      intro m hm'
      simp only [List.mem_append, List.mem_singleton] at hm'
      rcases hm' with hm' | rfl
      · exact h.msg m hm'
      · exact hm
    · exact absurd he (by simp)
  · exact absurd he (by simp)

/-! ### How it lies in cells -/
abbrev I (n : Int) : Value := .int .i64 n
def encC (c : Ctr) : List Value := [I c.is, I c.wth, I c.turn]
def encM (m : Msg) : List Value := [I m.kind, I m.frm, I m.to, I m.turn]
def encE (e : Ev) : List Value := [I e.kind, I e.a, I e.b]
def padC (l : List Ctr) : List Ctr := l ++ List.replicate (4 - l.length) c0
def padM (l : List Msg) : List Msg := l ++ List.replicate (6 - l.length) m0
def encR (cen : List Ctr) (M : List Msg) (many : Int) : List Value := I cen.length :: ((padC cen).flatMap encC ++ (M.flatMap encM ++ [I many]))
abbrev encW (cen : List Ctr) (fl : List Msg) (many : Int) : List Value := encR cen (padM fl) many
def S.enc (s : S) : List Value := encW s.cen s.fl s.fl.length
def S.arr (s : S) : Array Value := s.enc.toArray

theorem encC_len (c : Ctr) : (encC c).length = 3 := rfl
theorem encM_len (m : Msg) : (encM m).length = 4 := rfl
theorem encE_len (e : Ev) : (encE e).length = 3 := rfl

theorem padC_len {l : List Ctr} (h : l.length ≤ 4) : (padC l).length = 4 := by simp [padC]; omega
theorem padM_len {l : List Msg} (h : l.length ≤ 6) : (padM l).length = 6 := by simp [padM]; omega
theorem flatC_len {l : List Ctr} (h : l.length ≤ 4) : ((padC l).flatMap encC).length = 12 := by rw [flat_len encC_len, padC_len h]
theorem flatM_len {l : List Msg} (h : l.length ≤ 6) : ((padM l).flatMap encM).length = 24 := by rw [flat_len encM_len, padM_len h]
theorem enc_len {s : S} (h4 : s.cen.length ≤ 4) (h6 : s.fl.length ≤ 6) : s.enc.length = 38 := by
  simp [S.enc, encW, encR, flatC_len h4, flatM_len h6]
theorem arr_size {s : S} (h : Ok s) : s.arr.size = 38 := by simp [S.arr, enc_len h.n4 h.f6]
theorem arr_n (s : S) : s.arr[0]? = some (I s.cen.length) := by simp [S.arr, S.enc, encW, encR]
theorem arr_many {s : S} (h : Ok s) : s.arr[37]? = some (I s.fl.length) := by
  simp only [S.arr, S.enc, encW, encR, List.getElem?_toArray, List.getElem?_cons_succ]
  rw [List.getElem?_append_right (by rw [flatC_len h.n4]; omega), flatC_len h.n4, List.getElem?_append_right (by rw [flatM_len h.f6]; omega), flatM_len h.f6]
  rfl
theorem padC_get {l : List Ctr} {i : Nat} (h : i < l.length) : (padC l)[i]? = some (l.getD i c0) := by
  simp [padC, List.getElem?_append, h, List.getD]
theorem padM_get {l : List Msg} {i : Nat} (h : i < l.length) : (padM l)[i]? = some (l.getD i m0) := by
  simp [padM, List.getElem?_append, h, List.getD]
theorem arr_cen {s : S} (h : Ok s) (i : Int) (hi : s.isC i) (j : Nat) (hj : j < 3) : s.arr[1 + i.toNat * 3 + j]? = (encC (s.getC i))[j]? := by
  unfold S.isC at hi
  have hn : i.toNat < s.cen.length := by omega
  have := h.n4
  simp only [S.arr, S.enc, encW, encR, List.getElem?_toArray, show 1 + i.toNat * 3 + j = (i.toNat * 3 + j) + 1 from by omega, List.getElem?_cons_succ]
  rw [List.getElem?_append_left (by rw [flatC_len h.n4]; omega), flat_get encC_len _ _ _ hj, padC_get hn]
  rfl
theorem arr_msg {s : S} (h : Ok s) (i : Int) (hi : 0 ≤ i ∧ i < s.fl.length) (j : Nat) (hj : j < 4) : s.arr[13 + i.toNat * 4 + j]? = (encM (s.msg i))[j]? := by
  have hn : i.toNat < s.fl.length := by omega
  have := h.f6
  simp only [S.arr, S.enc, encW, encR, List.getElem?_toArray, show 13 + i.toNat * 4 + j = (12 + (i.toNat * 4 + j)) + 1 from by omega, List.getElem?_cons_succ]
  rw [List.getElem?_append_right (by rw [flatC_len h.n4]; omega), flatC_len h.n4, show 12 + (i.toNat * 4 + j) - 12 = i.toNat * 4 + j from by omega,
    List.getElem?_append_left (by rw [flatM_len h.f6]; omega), flat_get encM_len _ _ _ hj, padM_get hn]
  rfl
theorem encW_len {cen : List Ctr} {fl : List Msg} {k : Int} (h4 : cen.length ≤ 4) (h6 : fl.length ≤ 6) : (encW cen fl k).length = 38 := by
  simp [encW, encR, flatC_len h4, flatM_len h6]
theorem encW_putM {cen : List Ctr} {fl : List Msg} {k : Int} (h4 : cen.length ≤ 4) (h6 : fl.length < 6) (m : Msg) :
    splice (encW cen fl k) (13 + fl.length * 4) (encM m) = encW cen (fl ++ [m]) k := by
  have e := flat_splice encM_len (I cen.length :: (padC cen).flatMap encC) [I k] (padM fl) fl.length (13 + fl.length * 4) (by rw [padM_len (by omega)]; exact h6) m (by simp [flatC_len h4])
  have e2 : (padM fl).set fl.length m = padM (fl ++ [m]) := by
    simp only [padM, List.length_append, List.length_singleton]
    rw [List.set_append_right _ _ (Nat.le_refl _), show 6 - fl.length = (6 - (fl.length + 1)) + 1 from by omega, List.replicate_succ]
    simp
  rw [e2] at e
  simpa [encW, encR] using e
theorem encW_putC {cen : List Ctr} {fl : List Msg} {k : Int} (h4 : cen.length ≤ 4) (i : Nat) (hi : i < cen.length) (c : Ctr) :
    splice (encW cen fl k) (1 + i * 3) (encC c) = encW (cen.set i c) fl k := by
  have e := flat_splice encC_len [I cen.length] ((padM fl).flatMap encM ++ [I k]) (padC cen) i (1 + i * 3) (by rw [padC_len h4]; omega) c (by simp)
  have e2 : (padC cen).set i c = padC (cen.set i c) := by
    simp [padC, List.set_append, hi]
  rw [e2] at e
  simpa [encW, encR] using e
theorem encW_many {cen : List Ctr} {fl : List Msg} {k : Int} (h4 : cen.length ≤ 4) (h6 : fl.length ≤ 6) (k' : Int) : splice (encW cen fl k) 37 [I k'] = encW cen fl k' := by
  have hl := encW_len (k := k) h4 h6
  rw [splice_one _ _ _ (by omega)]
  unfold encW encR
  rw [List.set_cons_succ, List.set_append_right _ _ (by rw [flatC_len h4]; omega), flatC_len h4, List.set_append_right _ _ (by rw [flatM_len h6]; omega), flatM_len h6]
  rfl
theorem encW_get37 {cen : List Ctr} {fl : List Msg} {k : Int} (h4 : cen.length ≤ 4) (h6 : fl.length ≤ 6) : (encW cen fl k)[37]? = some (I k) := by
  unfold encW encR
  rw [List.getElem?_cons_succ, List.getElem?_append_right (by rw [flatC_len h4]; omega), flatC_len h4, List.getElem?_append_right (by rw [flatM_len h6]; omega), flatM_len h6]
  rfl
theorem encW_fieldC {cen : List Ctr} {fl : List Msg} {k : Int} (h4 : cen.length ≤ 4) (h6 : fl.length ≤ 6) (i j : Nat) (hi : i < cen.length) (hj : j < 3) (v : Value) (c' : Ctr) (hc : encC c' = (encC (cen.getD i c0)).set j v) :
    splice (encW cen fl k) (1 + i * 3 + j) [v] = encW (cen.set i c') fl k := by
  have hl := encW_len (k := k) h4 h6
  rw [splice_one _ _ _ (by omega)]
  unfold encW encR
  rw [show 1 + i * 3 + j = (i * 3 + j) + 1 from by omega, List.set_cons_succ, List.set_append_left _ _ (by rw [flatC_len h4]; omega), flat_set encC_len _ _ _ hj v (cen.getD i c0) c' (padC_get hi) hc]
  simp [padC, List.set_append, hi]
theorem encR_len {cen : List Ctr} {M : List Msg} {k : Int} (h4 : cen.length ≤ 4) (h6 : M.length = 6) : (encR cen M k).length = 38 := by
  simp [encR, flatC_len h4, flat_len encM_len, h6]
theorem encR_get37 {cen : List Ctr} {M : List Msg} {k : Int} (h4 : cen.length ≤ 4) (h6 : M.length = 6) : (encR cen M k)[37]? = some (I k) := by
  unfold encR
  rw [List.getElem?_cons_succ, List.getElem?_append_right (by rw [flatC_len h4]; omega), flatC_len h4, List.getElem?_append_right (by rw [flat_len encM_len, h6]; omega), flat_len encM_len, h6]
  rfl
theorem encR_many {cen : List Ctr} {M : List Msg} {k : Int} (h4 : cen.length ≤ 4) (h6 : M.length = 6) (k' : Int) : splice (encR cen M k) 37 [I k'] = encR cen M k' := by
  have hl := encR_len (k := k) h4 h6
  rw [splice_one _ _ _ (by omega)]
  unfold encR
  rw [List.set_cons_succ, List.set_append_right _ _ (by rw [flatC_len h4]; omega), flatC_len h4, List.set_append_right _ _ (by rw [flat_len encM_len, h6]; omega), flat_len encM_len, h6]
  rfl
theorem encR_putM {cen : List Ctr} {M : List Msg} {k : Int} (h4 : cen.length ≤ 4) (i : Nat) (hi : i < M.length) (m : Msg) :
    splice (encR cen M k) (13 + i * 4) (encM m) = encR cen (M.set i m) k := by
  have e := flat_splice encM_len (I cen.length :: (padC cen).flatMap encC) [I k] M i (13 + i * 4) hi m (by simp [flatC_len h4])
  simpa [encR] using e
theorem encR_getM {cen : List Ctr} {M : List Msg} {k : Int} (h4 : cen.length ≤ 4) (h6 : M.length = 6) (i j : Nat) (hi : i < 6) (hj : j < 4) :
    (encR cen M k)[13 + i * 4 + j]? = (encM (M.getD i m0))[j]? := by
  unfold encR
  simp only [show 13 + i * 4 + j = (12 + (i * 4 + j)) + 1 from by omega, List.getElem?_cons_succ]
  rw [List.getElem?_append_right (by rw [flatC_len h4]; omega), flatC_len h4, show 12 + (i * 4 + j) - 12 = i * 4 + j from by omega,
    List.getElem?_append_left (by rw [flat_len encM_len, h6]; omega), flat_get encM_len _ _ _ hj]
  have : i < M.length := by omega
  simp [this]
def shift (M : List Msg) (i : Nat) : List Msg := M.take i ++ (M.drop (i + 1) ++ M.drop 5)
theorem encR_shift {cen : List Ctr} {M : List Msg} {k : Int} (h4 : cen.length ≤ 4) (h6 : M.length = 6) (i : Nat) (hi : i < 6) :
    splice (encR cen M k) (13 + i * 4) ((M.drop (i + 1)).flatMap encM) = encR cen (shift M i) k := by
  have e := flat_splices encM_len (I cen.length :: (padC cen).flatMap encC) [I k] M (M.drop (i + 1)) i (13 + i * 4) (by simp; omega) (by simp [flatC_len h4])
  have e2 : i + (M.drop (i + 1)).length = 5 := by simp; omega
  rw [e2] at e
  simpa [encR, shift] using e
theorem shift_len {M : List Msg} (h6 : M.length = 6) (i : Nat) (hi : i < 6) : (shift M i).length = 6 := by simp [shift]; omega
theorem shift_pad (fl : List Msg) (h6 : fl.length ≤ 6) (i : Nat) (hi : i < fl.length) : (shift (padM fl) i).set (fl.length - 1) m0 = padM (fl.eraseIdx i) := by
  match fl, h6 with
  | [], _ => simp at hi
  | [_], _ | [_, _], _ | [_, _, _], _ | [_, _, _, _], _ | [_, _, _, _, _], _ | [_, _, _, _, _, _], _ =>
    simp at hi
    match i, hi with
    | 0, _ | 1, _ | 2, _ | 3, _ | 4, _ | 5, _ => first | rfl | omega
  | _ :: _ :: _ :: _ :: _ :: _ :: _ :: _, h => simp at h
theorem arr_tail {s : S} (h : Ok s) (i j : Nat) (v : Value) (hj : (((padM s.fl).drop (i + 1)).flatMap encM)[j]? = some v) : s.arr[13 + (i + 1) * 4 + j]? = some v := by
  have hl := flatM_len h.f6
  have hlt : j < (((padM s.fl).drop (i + 1)).flatMap encM).length := (List.getElem?_eq_some_iff.1 hj).1
  rw [flat_len encM_len, List.length_drop, padM_len h.f6] at hlt
  rw [← flat_drop encM_len, List.getElem?_drop] at hj
  simp only [S.arr, S.enc, encR, List.getElem?_toArray, show 13 + (i + 1) * 4 + j = (12 + ((i + 1) * 4 + j)) + 1 from by omega, List.getElem?_cons_succ]
  rw [List.getElem?_append_right (by rw [flatC_len h.n4]; omega), flatC_len h.n4, show 12 + ((i + 1) * 4 + j) - 12 = (i + 1) * 4 + j from by omega,
    List.getElem?_append_left (by rw [hl]; omega), hj]
theorem one_encM (l : List Msg) : ∀ v ∈ l.flatMap encM, ∃ n, v = I n := by
  intro v hv
  obtain ⟨m, _, hm⟩ := List.mem_flatMap.1 hv
  simp only [encM, List.mem_cons, List.not_mem_nil, or_false] at hm
  rcases hm with rfl | rfl | rfl | rfl <;> exact ⟨_, rfl⟩
theorem isC_zero {s : S} (h : Ok s) : s.isC 0 := ⟨by omega, by have := h.n2; omega⟩
theorem setC_arr (s : S) (h : Ok s) (i : Int) (hi : s.isC i) (c : Ctr) : (splice s.arr.toList (1 + i.toNat * 3) (encC c)).toArray = (s.setC i c).arr := by
  have e := encW_putC (fl := s.fl) (k := s.fl.length) h.n4 i.toNat (by unfold S.isC at hi; omega) c
  simp only [S.arr, S.enc]
  rw [e]; simp [S.setC]
theorem setC_is (s : S) (h : Ok s) (i : Int) (hi : s.isC i) (v : Int) : (splice s.arr.toList (1 + i.toNat * 3) [I v]).toArray = (s.setC i { s.getC i with is := v }).arr := by
  have e := encW_fieldC (fl := s.fl) (k := s.fl.length) h.n4 h.f6 i.toNat 0 (by unfold S.isC at hi; omega) (by omega) (I v) { s.getC i with is := v } rfl
  simp only [S.arr, S.enc]
  rw [show 1 + i.toNat * 3 = 1 + i.toNat * 3 + 0 from rfl, e]; simp [S.setC]
theorem setC_wth (s : S) (h : Ok s) (i : Int) (hi : s.isC i) (v : Int) : (splice s.arr.toList (1 + i.toNat * 3 + 1) [I v]).toArray = (s.setC i { s.getC i with wth := v }).arr := by
  have e := encW_fieldC (fl := s.fl) (k := s.fl.length) h.n4 h.f6 i.toNat 1 (by unfold S.isC at hi; omega) (by omega) (I v) { s.getC i with wth := v } rfl
  simp only [S.arr, S.enc]
  rw [e]; simp [S.setC]
theorem getC_setC (s : S) (i : Int) (hi : s.isC i) (c : Ctr) : (s.setC i c).getC i = c := by
  unfold S.isC at hi
  have : i.toNat < s.cen.length := by omega
  simp [S.getC, S.setC, List.getD, this]
theorem setC_setC (s : S) (i : Int) (c d : Ctr) : (s.setC i c).setC i d = s.setC i d := by simp [S.setC]

/-- The initial state. -/
def start (n : Nat) (first : Int) : S := ({ cen := List.replicate n c0, fl := [] } : S).setC first ⟨1, 0, 0⟩
theorem zero_ok (n : Nat) (h2 : 2 ≤ n) (h4 : n ≤ 4) : Ok ({ cen := List.replicate n c0, fl := [] } : S) := by
  refine ⟨by simpa using h2, by simpa using h4, by simp, by simp, ?_⟩
  intro c hc
  rw [List.eq_of_mem_replicate hc]
  exact ⟨⟨by simp [c0], by simp [c0]; omega⟩, by simp [c0], by simp [c0]⟩
theorem start_ok (n : Nat) (first : Int) (h2 : 2 ≤ n) (h4 : n ≤ 4) : Ok (start n first) :=
  (zero_ok n h2 h4).setC _ _ ⟨⟨by simp, by simp; omega⟩, by simp, by simp⟩
theorem zero_arr (n : Nat) (h2 : 2 ≤ n) (h4 : n ≤ 4) : ({ cen := List.replicate n c0, fl := [] } : S).arr =
    #[I n, I 0, I 0, I 0, I 0, I 0, I 0, I 0, I 0, I 0, I 0, I 0, I 0, I 0, I 0, I 0, I 0, I 0, I 0, I 0, I 0, I 0, I 0, I 0, I 0, I 0, I 0, I 0, I 0, I 0, I 0, I 0, I 0, I 0, I 0, I 0, I 0, I 0] := by
  match n, h2, h4 with
  | 2, _, _ | 3, _, _ | 4, _, _ => rfl
theorem start_arr (n : Nat) (first : Int) (h2 : 2 ≤ n) (h4 : n ≤ 4) (hf : 0 ≤ first ∧ first < n) :
    (splice ({ cen := List.replicate n c0, fl := [] } : S).arr.toList (1 + first.toNat * 3) [I 1]).toArray = (start n first).arr := by
  have hz := zero_ok n h2 h4
  have hi : ({ cen := List.replicate n c0, fl := [] } : S).isC first := ⟨hf.1, by simpa using hf.2⟩
  have e := setC_is _ hz first hi 1
  have hg : ({ cen := List.replicate n c0, fl := [] } : S).getC first = c0 := List.eq_of_mem_replicate (getC_mem hi)
  rw [e, hg]; rfl
def bad (c : Ctr) : Bool := c.is == 2 || c.is == 3
/-- no centre offers or takes -/
def S.settled (s : S) : Bool := s.cen.all fun c => !bad c
theorem settled_pad (s : S) : (padC s.cen).all (fun c => !bad c) = s.settled := by
  simp [padC, S.settled, List.all_append, bad, c0]
theorem arr_cens {s : S} (h : Ok s) (j : Nat) (u : Value) (hj : ((padC s.cen).flatMap encC)[j]? = some u) : s.arr[1 + j]? = some u := by
  have hlt := (List.getElem?_eq_some_iff.1 hj).1
  simp only [S.arr, S.enc, encR, List.getElem?_toArray, Nat.add_comm 1 j, List.getElem?_cons_succ]
  rw [List.getElem?_append_left hlt, hj]
theorem arr_msgs {s : S} (h : Ok s) (j : Nat) (u : Value) (hj : ((padM s.fl).flatMap encM)[j]? = some u) : s.arr[13 + j]? = some u := by
  have hlt := (List.getElem?_eq_some_iff.1 hj).1
  simp only [S.arr, S.enc, encR, List.getElem?_toArray, show 13 + j = (12 + j) + 1 from by omega, List.getElem?_cons_succ]
  rw [List.getElem?_append_right (by rw [flatC_len h.n4]; omega), flatC_len h.n4, show 12 + j - 12 = j from by omega, List.getElem?_append_left hlt, hj]
end Rl
end Go.Proofs.YtklnbcofmhlkdaaDoor
