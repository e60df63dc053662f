/- Laws for a region in whatever order, second part. No program in sight. -/
import Derived.Test.YtklnbcofmhlkdaaDoorRlSe1
set_option linter.unusedVariables false
set_option linter.unusedSimpArgs false
namespace Go.Proofs.YtklnbcofmhlkdaaDoor
open Go.RowKit
theorem lset_ne {L : Array Bool} {i j : Nat} (hi : i < L.size) (hij : i ≠ j) (h : (L.setIfInBounds i true).getD j false = true) : L.getD j false = true := by
  rw [listed_set hi, if_neg hij] at h; exact h
theorem lset_size {L : Array Bool} {i : Nat} : (L.setIfInBounds i true).size = L.size := by simp
def backward (ops : Array Oper) : Bool := ops.toList.zipIdx.all fun p => p.1.after.all fun e => !Region.binds .any e || decide (e.on < p.2)
theorem all_listed {ops : Array Oper} {L : Array Bool} (hb : backward ops = true) (hL : L.size = ops.size) (h : Region.ready .any ops L = []) : ∀ i, i < ops.size → L.getD i false = true := by
  intro i
  induction i using Nat.strongRecOn with
  | _ i ih =>
    intro hi
    have ho : ops[i]? = some ops[i] := by simp [hi]
    have hmem : (ops[i], i) ∈ ops.toList.zipIdx := by
      rw [List.mem_zipIdx_iff_getElem?]; simp [hi]
    have hall := (List.all_eq_true.1 hb) _ hmem
    cases hc : L.getD i false with
    | true => rfl
    | false =>
      exfalso
      have hc' : L.getD i true = false := by
        simp only [Array.getD_eq_getD_getElem?] at hc ⊢
        rw [Array.getElem?_eq_getElem (by omega)] at hc ⊢
        exact hc
      have : i ∈ Region.ready .any ops L := by
        unfold Region.ready
        simp only [List.mem_filter, List.mem_range, Bool.and_eq_true, Bool.not_eq_true', ho, Option.map_some, Option.getD_some]
        refine ⟨hi, hc', Array.all_eq_true_iff_forall_mem.2 fun e he => ?_⟩
        have h2 := (Array.all_eq_true_iff_forall_mem.1 hall) e he
        simp only [Bool.or_eq_true, decide_eq_true_eq] at h2 ⊢
        rcases h2 with h2 | h2
        · exact .inl h2
        · exact .inr (ih e.on h2 (by omega))
      rw [h] at this
      exact absurd this (by simp)

/-- a frame that differs from another in some slots alone -/
structure Sl (a0 a' : Act) (ks : List Nat) : Prop where
  defers : a'.defers = a0.defers
  size : a'.tmps.size = a0.tmps.size
  same : ∀ j, j ∉ ks → a'.tmps[j]? = a0.tmps[j]?
theorem Sl.refl (a0 : Act) (ks : List Nat) : Sl a0 a0 ks := ⟨rfl, rfl, fun _ _ => rfl⟩
theorem Sl.put {a0 a' : Act} {ks : List Nat} (h : Sl a0 a' ks) (k : Nat) (v : Value) (hk : k ∈ ks) : Sl a0 (a'.put (some k) v) ks :=
  ⟨h.defers, by simp [Act.put, h.size], fun j hj => by
    have : k ≠ j := fun e => hj (e ▸ hk)
    simp only [Act.put, Array.getElem?_setIfInBounds, if_neg this]
    exact h.same j hj⟩
theorem Sl.eval {a0 a' : Act} {ks : List Nat} (h : Sl a0 a' ks) {j : Nat} (hj : j ∉ ks) : a'.eval (.tmp j) = a0.eval (.tmp j) := by
  simp [Act.eval, h.same j hj]
theorem put_self {a : Act} {k : Nat} {v : Value} (hk : k < a.tmps.size) : (a.put (some k) v).eval (.tmp k) = v := by simp [Act.eval, Act.put, hk]
theorem put_ne {a : Act} {k j : Nat} {v : Value} (hk : k ≠ j) : (a.put (some k) v).eval (.tmp j) = a.eval (.tmp j) := by simp [Act.eval, Act.put, hk]
theorem put_none {a : Act} {v : Value} : a.put none v = a := rfl
theorem foldl_set (l : List (Nat × Value)) : ∀ (t : Array Value) (j : Nat), (∀ p ∈ l, p.1 ≠ j) → (l.foldl (fun t p => t.setIfInBounds p.1 p.2) t)[j]? = t[j]? := by
  induction l with
  | nil => intro t j _; rfl
  | cons p l ih =>
    intro t j h
    rw [List.foldl_cons, ih _ _ fun q hq => h q (by simp [hq]), Array.getElem?_setIfInBounds, if_neg (h p (by simp))]
theorem foldl_size (l : List (Nat × Value)) : ∀ (t : Array Value), (l.foldl (fun t p => t.setIfInBounds p.1 p.2) t).size = t.size := by
  induction l with
  | nil => intro t; rfl
  | cons p l ih => intro t; rw [List.foldl_cons, ih]; simp
theorem foldl_map (g : Nat → Value) : ∀ (ks : List Nat) (t : Array Value) (j : Nat), j ∈ ks → j < t.size → ((ks.map fun k => (k, g k)).foldl (fun t p => t.setIfInBounds p.1 p.2) t)[j]? = some (g j)
  | [], _, _, h, _ => by simp at h
  | k :: ks, t, j, h, hj => by
    simp only [List.map_cons, List.foldl_cons]
    by_cases hm : j ∈ ks
    · exact foldl_map g ks _ j hm (by simpa using hj)
    · have e : k = j := by rcases List.mem_cons.1 h with h | h; exact h.symm; exact absurd h hm
      subst e
      rw [foldl_set _ _ _ fun p hp => by obtain ⟨x, hx, rfl⟩ := List.mem_map.1 hp; exact fun e => hm (by simpa [← e] using hx), Array.getElem?_setIfInBounds, if_pos rfl, if_pos hj]
theorem Sl.eq {a0 a' : Act} {ks : List Nat} (h : Sl a0 a' ks) (hk : ∀ k ∈ ks, k < a0.tmps.size) : a' = setS a0 (ks.map fun k => (k, a'.eval (.tmp k))) := by
  have e1 : a'.tmps = (setS a0 (ks.map fun k => (k, a'.eval (.tmp k)))).tmps := by
    refine Array.ext_getElem? fun j => ?_
    by_cases hj : j ∈ ks
    · have hlt : j < a'.tmps.size := by rw [h.size]; exact hk j hj
      simp only [setS]
      rw [foldl_map _ _ _ _ hj (hk j hj)]
      simp [Act.eval, hlt]
    · rw [h.same j hj]
      simp only [setS]
      rw [foldl_set _ _ _ fun p hp => by obtain ⟨x, hx, rfl⟩ := List.mem_map.1 hp; exact fun e => hj (e ▸ hx)]
  have key : ∀ x y : Act, x.tmps = y.tmps → x.defers = y.defers → x = y := by intro x y h1 h2; cases x; cases y; simp_all
  exact key _ _ e1 h.defers
end Go.Proofs.YtklnbcofmhlkdaaDoor
