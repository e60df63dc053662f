/- Sequences of events that settle a state. No program in sight. -/
import Derived.Test.YtklnbcofmhlkdaaDoorRlA
set_option linter.unusedVariables false
set_option linter.unusedSimpArgs false
namespace Go.Proofs.YtklnbcofmhlkdaaDoor
namespace Rl
/-- A sequence of deliveries and repetitions, each possible, that ends in a settled state. -/
def Leads : S → List Ev → Prop
  | s, [] => s.settled = true
  | s, e :: l => (e.kind = 2 ∨ e.kind = 5) ∧ ∃ s', s.app e = some s' ∧ Leads s' l
/-- how many indexes are tried -/
def S.wide (s : S) : Nat := max s.fl.length s.cen.length
theorem app_b {s s' : S} {e : Ev} (h : s.app e = some s') (hk : e.kind = 2 ∨ e.kind = 5) : e.b = 0 ∧ 0 ≤ e.a ∧ e.a < s.wide := by
  unfold S.app at h
  rw [if_neg (by omega)] at h
  by_cases hb : e.b = 0
  · rw [if_neg (by omega)] at h
    refine ⟨hb, ?_⟩
    have w1 : s.fl.length ≤ s.wide := Nat.le_max_left _ _
    have w2 : s.cen.length ≤ s.wide := Nat.le_max_right _ _
    by_cases h5 : e.kind = 5
    · rw [if_pos h5] at h
      unfold S.again at h
      split at h
      · rename_i hc
        have := hc.1
        unfold S.isC at this
        omega
      · exact absurd h (by simp)
    · rw [if_neg h5] at h
      split at h
      · exact absurd h (by simp)
      · rename_i hc
        omega
  · rw [if_pos (by omega)] at h
    exact absurd h (by simp)
/-- the events that are tried, one by one -/
def tried (k a : Nat) : Ev := ⟨if k = 0 then 2 else 5, a, 0⟩
theorem tried_of {s s' : S} {e : Ev} (h : s.app e = some s') (hk : e.kind = 2 ∨ e.kind = 5) : ∃ k a : Nat, k < 2 ∧ a < s.wide ∧ e = tried k a := by
  obtain ⟨hb, h0, h1⟩ := app_b h hk
  obtain ⟨k, a, b⟩ := e
  simp only at hb h0 h1 hk
  refine ⟨if k = 2 then 0 else 1, a.toNat, by split <;> omega, by omega, ?_⟩
  unfold tried
  rcases hk with rfl | rfl <;> simp [hb] <;> omega
theorem tried_kind (k a : Nat) : (tried k a).kind = 2 ∨ (tried k a).kind = 5 := by
  unfold tried; split <;> simp
/-- no sequence of m + 1 events that begins with an event that has been tried -/
def NoneAt (s : S) (m k a : Nat) : Prop := ∀ s', s.app (tried k a) = some s' → ∀ l : List Ev, l.length = m → ¬ Leads s' l
theorem none_all {s : S} {m : Nat} (h : ∀ k, k < 2 → ∀ a, a < s.wide → NoneAt s m k a) (l : List Ev) (hl : l.length = m + 1) : ¬ Leads s l := by
  cases l with
  | nil => simp at hl
  | cons e l =>
    rintro ⟨hk, s', ha, hg⟩
    obtain ⟨k, a, hk2, ha2, rfl⟩ := tried_of ha hk
    exact h k hk2 a ha2 s' ha l (by simpa using hl) hg
theorem wide_le {s : S} (h : Ok s) : s.wide ≤ 6 := by unfold S.wide; have := h.n4; have := h.f6; omega
end Rl
end Go.Proofs.YtklnbcofmhlkdaaDoor
