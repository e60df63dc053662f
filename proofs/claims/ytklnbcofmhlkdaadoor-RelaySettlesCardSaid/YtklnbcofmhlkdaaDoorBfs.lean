/- A search by breadth: the ways in their order, of which the first k have been gone through. No program in sight. -/
import Derived.Test.YtklnbcofmhlkdaaDoorRlGood
set_option linter.unusedVariables false
set_option linter.unusedSimpArgs false
namespace Go.Proofs.YtklnbcofmhlkdaaDoor
namespace Rl
/-- deliveries and repetitions, each possible, from one state to another -/
def PathTo : S → List Ev → S → Prop
  | s, [], t => s = t
  | s, e :: l, t => (e.kind = 2 ∨ e.kind = 5) ∧ ∃ s', s.app e = some s' ∧ PathTo s' l t
theorem leads_iff {s : S} {l : List Ev} : Leads s l ↔ ∃ t, PathTo s l t ∧ t.settled = true := by
  induction l generalizing s with
  | nil => exact ⟨fun h => ⟨s, rfl, h⟩, fun ⟨t, h, ht⟩ => by rw [PathTo] at h; subst h; exact ht⟩
  | cons e l ih =>
    constructor
    · rintro ⟨hk, s', ha, h⟩
      obtain ⟨t, h1, h2⟩ := ih.1 h
      exact ⟨t, ⟨hk, s', ha, h1⟩, h2⟩
    · rintro ⟨t, ⟨hk, s', ha, h1⟩, h2⟩
      exact ⟨hk, s', ha, ih.2 ⟨t, h1, h2⟩⟩
theorem path_snoc {s t u : S} {l : List Ev} {e : Ev} (h : PathTo s l t) (hk : e.kind = 2 ∨ e.kind = 5) (ha : t.app e = some u) : PathTo s (l ++ [e]) u := by
  induction l generalizing s with
  | nil => rw [PathTo] at h; subst h; exact ⟨hk, u, ha, rfl⟩
  | cons x l ih => obtain ⟨h1, s', h2, h3⟩ := h; exact ⟨h1, s', h2, ih h3⟩
theorem path_unsnoc {s u : S} {l : List Ev} {e : Ev} (h : PathTo s (l ++ [e]) u) : ∃ t, PathTo s l t ∧ (e.kind = 2 ∨ e.kind = 5) ∧ t.app e = some u := by
  induction l generalizing s with
  | nil => obtain ⟨h1, s', h2, h3⟩ := h; rw [PathTo] at h3; subst h3; exact ⟨s, rfl, h1, h2⟩
  | cons x l ih =>
    obtain ⟨h1, s', h2, h3⟩ := h
    obtain ⟨t, h4, h5⟩ := ih h3
    exact ⟨t, ⟨h1, s', h2, h4⟩, h5⟩
theorem path_det {s t u : S} {l : List Ev} (h : PathTo s l t) (h' : PathTo s l u) : t = u := by
  induction l generalizing s with
  | nil => rw [PathTo] at h h'; rw [← h, ← h']
  | cons x l ih =>
    obtain ⟨_, s1, h2, h3⟩ := h
    obtain ⟨_, s2, h5, h6⟩ := h'
    rw [h2] at h5; cases h5
    exact ih h3 h6
theorem path_ok {s t : S} {l : List Ev} (hs : Ok s) (h : PathTo s l t) : Ok t := by
  induction l generalizing s with
  | nil => rw [PathTo] at h; subst h; exact hs
  | cons x l ih => obtain ⟨_, s1, h2, h3⟩ := h; exact ih (hs.app h2) h3
/-- the events of a path are of those that are tried -/
theorem path_alpha {s t : S} {l : List Ev} (hs : Ok s) (h : PathTo s l t) : ∀ e ∈ l, ∃ k a : Nat, k < 2 ∧ a < 6 ∧ e = tried k a := by
  induction l generalizing s with
  | nil => simp
  | cons x l ih =>
    obtain ⟨h1, s1, h2, h3⟩ := h
    intro e he
    rcases List.mem_cons.1 he with rfl | he
    · obtain ⟨k, a, hk, ha, e⟩ := tried_of h2 h1
      exact ⟨k, a, hk, Nat.lt_of_lt_of_le ha (wide_le hs), e⟩
    · exact ih (hs.app h2) h3 e he

abbrev Way := S × List Ev
structure Ways (s0 : S) (W : List Way) : Prop where
  first : (s0, []) ∈ W
  nodup : (W.map (·.1)).Nodup
  path : ∀ t ∈ W, PathTo s0 t.2 t.1
structure BInv (s0 : S) (W : List Way) (k : Nat) : Prop where
  ways : Ways s0 W
  le : k ≤ W.length
  gone : ∀ i t, i < k → W[i]? = some t → t.1.settled = false ∧ ∀ e s', (e.kind = 2 ∨ e.kind = 5) → t.1.app e = some s' → ∃ p, (s', p) ∈ W ∧ p.length ≤ t.2.length + 1
  rise : ∀ i j t u, k ≤ i → i ≤ j → W[i]? = some t → W[j]? = some u → t.2.length ≤ u.2.length
  near : ∀ q, W[k]? = some q → ∀ t ∈ W, t.2.length ≤ q.2.length + 1
theorem BInv.start (s0 : S) : BInv s0 [(s0, [])] 0 := by
  refine ⟨⟨by simp, by simp, ?_⟩, by simp, fun i t h => absurd h (by omega), ?_, ?_⟩
  · intro t ht; simp at ht; subst ht; rfl
  · intro i j t u _ _ h1 h2
    cases i with
    | zero => simp at h1; subst h1; simp
    | succ i => simp at h1
  · intro q hq t ht
    simp at hq ht; subst hq; subst ht; simp
/-- whatever can be reached in fewer steps than the next way has been gone through -/
theorem BInv.known {s0 : S} {W : List Way} {k : Nat} (h : BInv s0 W k) (D : Nat) (hD : ∀ q, W[k]? = some q → D ≤ q.2.length) : ∀ (n : Nat) (l : List Ev) (x : S), l.length = n → n ≤ D → PathTo s0 l x → ∃ p, (x, p) ∈ W ∧ p.length ≤ n := by
  intro n
  induction n with
  | zero =>
    intro l x hl _ hp
    rw [List.eq_nil_of_length_eq_zero hl, PathTo] at hp
    subst hp
    exact ⟨[], h.ways.first, by simp⟩
  | succ n ih =>
    intro l x hl hn hp
    obtain ⟨l', e, rfl⟩ : ∃ l' e, l = l' ++ [e] := by
      rcases List.eq_nil_or_concat l with h | ⟨l', e, h⟩
      · rw [h] at hl; simp at hl
      · exact ⟨l', e, by simpa using h⟩
    obtain ⟨y, hy, hk, ha⟩ := path_unsnoc hp
    simp only [List.length_append, List.length_singleton] at hl
    obtain ⟨p, hpW, hpl⟩ := ih l' y (by omega) (by omega) hy
    obtain ⟨i, hi, hget⟩ := List.getElem_of_mem hpW
    have hg : W[i]? = some (y, p) := by rw [List.getElem?_eq_getElem hi, hget]
    have hik : i < k := by
      rcases Nat.lt_or_ge i k with h1 | h1
      · exact h1
      · exfalso
        have hkl : k < W.length := by omega
        have hq : W[k]? = some W[k] := List.getElem?_eq_getElem hkl
        have := h.rise k i _ _ (Nat.le_refl _) h1 hq hg
        have := hD _ hq
        simp only at *
        omega
    obtain ⟨p', h1, h2⟩ := (h.gone i _ hik hg).2 e x hk ha
    exact ⟨p', h1, by simp only at h2; omega⟩
theorem BInv.gone_not {s0 : S} {W : List Way} {k : Nat} (h : BInv s0 W k) {x : S} {p : List Ev} (hm : (x, p) ∈ W) (hl : ∀ q, W[k]? = some q → p.length < q.2.length) : x.settled = false := by
  obtain ⟨i, hi, hget⟩ := List.getElem_of_mem hm
  have hg : W[i]? = some (x, p) := by rw [List.getElem?_eq_getElem hi, hget]
  have hik : i < k := by
    rcases Nat.lt_or_ge i k with h1 | h1
    · exact h1
    · exfalso
      have hkl : k < W.length := by omega
      have hq : W[k]? = some W[k] := List.getElem?_eq_getElem hkl
      have := h.rise k i _ _ (Nat.le_refl _) h1 hq hg
      have := hl _ hq
      simp only at *
      omega
  exact (h.gone i _ hik hg).1
theorem BInv.least {s0 : S} {W : List Way} {k : Nat} (h : BInv s0 W k) {q : Way} (hq : W[k]? = some q) {l : List Ev} (hl : Leads s0 l) : q.2.length ≤ l.length := by
  rcases Nat.lt_or_ge l.length q.2.length with h1 | h1
  · exfalso
    obtain ⟨x, hx, hs⟩ := leads_iff.1 hl
    obtain ⟨p, hp, hpl⟩ := h.known l.length (fun q' hq' => by rw [hq] at hq'; cases hq'; omega) l.length l x rfl (Nat.le_refl _) hx
    have := h.gone_not hp (fun q' hq' => by rw [hq] at hq'; cases hq'; omega)
    rw [hs] at this; cases this
  · exact h1
theorem BInv.more {s0 : S} {W : List Way} {k : Nat} (h : BInv s0 W k) {l : List Ev} (hl : Leads s0 l) : k < W.length := by
  rcases Nat.lt_or_ge k W.length with h1 | h1
  · exact h1
  · exfalso
    have hn : W[k]? = none := List.getElem?_eq_none h1
    obtain ⟨x, hx, hs⟩ := leads_iff.1 hl
    obtain ⟨p, hp, _⟩ := h.known l.length (fun q hq => by rw [hn] at hq; cases hq) l.length l x rfl (Nat.le_refl _) hx
    have := h.gone_not hp (fun q hq => by rw [hn] at hq; cases hq)
    rw [hs] at this; cases this
theorem BInv.leads {s0 : S} {W : List Way} {k : Nat} (h : BInv s0 W k) {q : Way} (hq : W[k]? = some q) (hs : q.1.settled = true) : Leads s0 q.2 := leads_iff.2 ⟨q.1, h.ways.path q (List.mem_of_getElem? hq), hs⟩

/-- a state behind the one that is gone through: a new way, if there was none -/
def visit (p : List Ev) (W : List Way) (x : Ev × S) : List Way := if x.2 ∈ W.map (·.1) then W else W ++ [(x.2, p ++ [x.1])]
def visits (p : List Ev) (W : List Way) (l : List (Ev × S)) : List Way := l.foldl (visit p) W
theorem visits_snoc (p : List Ev) (W : List Way) (l : List (Ev × S)) (x : Ev × S) : visits p W (l ++ [x]) = visit p (visits p W l) x := by simp [visits]
theorem visits_spec {s0 : S} {s : S} {p : List Ev} (hp : PathTo s0 p s) : ∀ (l : List (Ev × S)) (W : List Way), Ways s0 W → (∀ x ∈ l, (x.1.kind = 2 ∨ x.1.kind = 5) ∧ s.app x.1 = some x.2) →
    Ways s0 (visits p W l) ∧ (∃ N, visits p W l = W ++ N ∧ ∀ t ∈ N, t.2.length = p.length + 1) ∧ ∀ x ∈ l, ∃ q, (x.2, q) ∈ visits p W l ∧ (q.length = p.length + 1 ∨ (x.2, q) ∈ W) := by
  intro l
  induction l with
  | nil => intro W hW _; exact ⟨hW, ⟨[], by simp [visits], by simp⟩, by simp⟩
  | cons x l ih =>
    intro W hW hx
    have hx0 := hx x (by simp)
    have hW1 : Ways s0 (visit p W x) := by
      unfold visit
      split
      · exact hW
      · rename_i hn
        refine ⟨by simp [hW.first], ?_, ?_⟩
        · rw [List.map_append, List.nodup_append]
          refine ⟨hW.nodup, by simp, ?_⟩
          intro a ha b hb e
          simp at hb
          subst hb; subst e
          exact hn ha
        · intro t ht
          rcases List.mem_append.1 ht with ht | ht
          · exact hW.path t ht
          · simp at ht; subst ht; exact path_snoc hp hx0.1 hx0.2
    obtain ⟨h1, ⟨N, h2, h2'⟩, h3⟩ := ih (visit p W x) hW1 fun y hy => hx y (by simp [hy])
    have e0 : visits p W (x :: l) = visits p (visit p W x) l := rfl
    rw [e0]
    by_cases hm : x.2 ∈ W.map (·.1)
    · have ev : visit p W x = W := by unfold visit; rw [if_pos hm]
      rw [ev] at h1 h2 h3 ⊢
      refine ⟨h1, ⟨N, h2, h2'⟩, fun y hy => ?_⟩
      rcases List.mem_cons.1 hy with rfl | hy
      · obtain ⟨t, ht, e⟩ := List.mem_map.1 hm
        refine ⟨t.2, ?_, .inr ?_⟩
        · rw [h2, ← e]; exact List.mem_append_left _ ht
        · rw [← e]; exact ht
      · exact h3 y hy
    · have ev : visit p W x = W ++ [(x.2, p ++ [x.1])] := by unfold visit; rw [if_neg hm]
      rw [ev] at h1 h2 h3 ⊢
      refine ⟨h1, ⟨(x.2, p ++ [x.1]) :: N, by rw [h2]; simp, ?_⟩, fun y hy => ?_⟩
      · intro t ht
        rcases List.mem_cons.1 ht with rfl | ht
        · simp
        · exact h2' t ht
      · rcases List.mem_cons.1 hy with rfl | hy
        · exact ⟨p ++ [y.1], by rw [h2]; simp, .inl (by simp)⟩
        · obtain ⟨q, hq1, hq2⟩ := h3 y hy
          refine ⟨q, hq1, ?_⟩
          rcases hq2 with hq2 | hq2
          · exact .inl hq2
          · rcases List.mem_append.1 hq2 with hq2 | hq2
            · exact .inr hq2
            · simp at hq2; left; rw [hq2.2]; simp
theorem BInv.step {s0 : S} {W : List Way} {k : Nat} (h : BInv s0 W k) {s : S} {p : List Ev} (hq : W[k]? = some (s, p)) (hns : s.settled = false) (l : List (Ev × S)) (hl : ∀ x ∈ l, (x.1.kind = 2 ∨ x.1.kind = 5) ∧ s.app x.1 = some x.2)
    (hall : ∀ e s', (e.kind = 2 ∨ e.kind = 5) → s.app e = some s' → ∃ x ∈ l, x.2 = s') : BInv s0 (visits p W l) (k + 1) := by
  have hp : PathTo s0 p s := h.ways.path _ (List.mem_of_getElem? hq)
  obtain ⟨h1, ⟨N, h2, h2'⟩, h3⟩ := visits_spec hp l W h.ways hl
  have hkl : k < W.length := (List.getElem?_eq_some_iff.1 hq).1
  have hmem : ∀ t ∈ W, t ∈ visits p W l := fun t ht => by rw [h2]; exact List.mem_append_left _ ht
  refine ⟨h1, by rw [h2, List.length_append]; omega, ?_, ?_, ?_⟩
  · intro i t hi ht
    have hiW : i < W.length := by omega
    rw [h2, List.getElem?_append_left hiW] at ht
    rcases Nat.lt_or_ge i k with hik | hik
    · obtain ⟨g1, g2⟩ := h.gone i t hik ht
      refine ⟨g1, fun e s' hk ha => ?_⟩
      obtain ⟨p', hp', hl'⟩ := g2 e s' hk ha
      exact ⟨p', hmem _ hp', hl'⟩
    · have : i = k := by omega
      subst this
      rw [hq] at ht; cases ht
      refine ⟨hns, fun e s' hk ha => ?_⟩
      obtain ⟨x, hx, rfl⟩ := hall e s' hk ha
      obtain ⟨q, hq1, hq2⟩ := h3 x hx
      refine ⟨q, hq1, ?_⟩
      rcases hq2 with hq2 | hq2
      · simp only; omega
      · have := h.near _ hq _ hq2
        simpa using this
  · intro i j t u hi hij ht hu
    have htl : t.2.length ≤ p.length + 1 := by
      rw [h2] at ht
      rcases Nat.lt_or_ge i W.length with hw | hw
      · rw [List.getElem?_append_left hw] at ht
        exact h.near _ hq _ (List.mem_of_getElem? ht)
      · rw [List.getElem?_append_right hw] at ht
        exact Nat.le_of_eq (h2' _ (List.mem_of_getElem? ht))
    rw [h2] at hu
    rcases Nat.lt_or_ge j W.length with hw | hw
    · rw [List.getElem?_append_left hw] at hu
      rw [h2, List.getElem?_append_left (by omega)] at ht
      exact h.rise i j t u (by omega) hij ht hu
    · rw [List.getElem?_append_right hw] at hu
      have := h2' _ (List.mem_of_getElem? hu)
      omega
  · intro q hq' t ht
    have hql : p.length ≤ q.2.length := by
      rw [h2] at hq'
      rcases Nat.lt_or_ge (k + 1) W.length with hw | hw
      · rw [List.getElem?_append_left hw] at hq'
        exact h.rise k (k + 1) _ _ (Nat.le_refl _) (by omega) hq hq'
      · rw [List.getElem?_append_right hw] at hq'
        have := h2' _ (List.mem_of_getElem? hq')
        omega
    rw [h2] at ht
    rcases List.mem_append.1 ht with ht | ht
    · have := h.near _ hq _ ht
      simp only at this
      omega
    · have := h2' _ ht
      omega

/-! ### How many ways there can be -/
theorem nodup_le {α : Type} [DecidableEq α] : ∀ (l m : List α), l.Nodup → (∀ x ∈ l, x ∈ m) → l.length ≤ m.length
  | [], _, _, _ => by simp
  | x :: l, m, hn, hs => by
    have hx := hs x (by simp)
    have h1 := nodup_le l (m.erase x) (List.nodup_cons.1 hn).2 fun y hy => by
      have hne : y ≠ x := fun e => (List.nodup_cons.1 hn).1 (e ▸ hy)
      exact (List.mem_erase_of_ne hne).2 (hs y (by simp [hy]))
    rw [List.length_erase_of_mem hx] at h1
    have := List.length_pos_of_mem hx
    simp only [List.length_cons]
    omega
def alpha : List Ev := (List.range 6).map (tried 0) ++ (List.range 6).map (tried 1)
theorem alpha_mem {k a : Nat} (hk : k < 2) (ha : a < 6) : tried k a ∈ alpha := by
  unfold alpha
  rcases (by omega : k = 0 ∨ k = 1) with rfl | rfl
  · exact List.mem_append_left _ (List.mem_map_of_mem (by simpa using ha))
  · exact List.mem_append_right _ (List.mem_map_of_mem (by simpa using ha))
def allPaths : Nat → List (List Ev)
  | 0 => [[]]
  | n + 1 => [] :: alpha.flatMap fun e => (allPaths n).map (e :: ·)
theorem allPaths_len (n : Nat) : (allPaths (n + 1)).length = 12 * (allPaths n).length + 1 := by
  have h : ∀ (l : List Ev), (l.flatMap fun e => (allPaths n).map (e :: ·)).length = l.length * (allPaths n).length := by
    intro l
    induction l with
    | nil => simp
    | cons x l ih => rw [List.flatMap_cons, List.length_append, ih, List.length_map, List.length_cons, Nat.add_mul]; omega
  simp only [allPaths, List.length_cons, h]
  rfl
theorem allPaths_mem : ∀ (n : Nat) (l : List Ev), l.length ≤ n → (∀ e ∈ l, e ∈ alpha) → l ∈ allPaths n
  | 0, l, h, _ => by
    have e : l = [] := List.eq_nil_of_length_eq_zero (by omega)
    subst e; simp [allPaths]
  | n + 1, [], _, _ => by simp [allPaths]
  | n + 1, e :: l, h, ha => by
    refine List.mem_cons_of_mem _ (List.mem_flatMap.2 ⟨e, ha e (by simp), List.mem_map_of_mem (allPaths_mem n l (by simpa using h) fun x hx => ha x (by simp [hx]))⟩)
def bound : Nat := 500000000
theorem Ways.bound {s0 : S} {W : List Way} (h : Ways s0 W) (hok : Ok s0) (hl : ∀ t ∈ W, t.2.length ≤ 8) : W.length ≤ bound := by
  have hn : (W.map (·.2)).Nodup := by
    have key : ∀ (V : List Way), (∀ t ∈ V, PathTo s0 t.2 t.1) → (V.map (·.1)).Nodup → (V.map (·.2)).Nodup := by
      intro V
      induction V with
      | nil => simp
      | cons t V ih =>
        intro hp hnd
        simp only [List.map_cons, List.nodup_cons] at hnd ⊢
        refine ⟨fun hm => ?_, ih (fun u hu => hp u (by simp [hu])) hnd.2⟩
        obtain ⟨u, hu, e⟩ := List.mem_map.1 hm
        have h1 := hp t (by simp)
        have h2 := hp u (by simp [hu])
        rw [e] at h2
        exact hnd.1 (by rw [path_det h1 h2]; exact List.mem_map_of_mem hu)
    exact key W h.path h.nodup
  have h1 := nodup_le (W.map (·.2)) (allPaths 8) hn fun l hm => by
    obtain ⟨t, ht, rfl⟩ := List.mem_map.1 hm
    refine allPaths_mem 8 _ (hl t ht) fun e he => ?_
    obtain ⟨k, a, hk, ha, rfl⟩ := path_alpha hok (h.path t ht) e he
    exact alpha_mem hk ha
  have h2 : (allPaths 8).length = 469070941 := by
    have e0 : (allPaths 0).length = 1 := rfl
    have e1 := allPaths_len 0; have e2 := allPaths_len 1; have e3 := allPaths_len 2; have e4 := allPaths_len 3
    have e5 := allPaths_len 4; have e6 := allPaths_len 5; have e7 := allPaths_len 6; have e8 := allPaths_len 7
    simp only [Nat.zero_add, Nat.reduceAdd] at *
    omega
  rw [List.length_map] at h1
  unfold Rl.bound
  omega
end Rl
end Go.Proofs.YtklnbcofmhlkdaaDoor
