/- The protocol: what holds of every state that events lead to; and some six deliveries and repetitions settle it. No program in sight. -/
import Derived.Test.YtklnbcofmhlkdaaDoorBfs
set_option linter.unusedVariables false
set_option linter.unusedSimpArgs false
namespace Go.Proofs.YtklnbcofmhlkdaaDoor
namespace Rl
theorem getC_ne (s : S) {i j : Int} (hi : s.isC i) (hj : s.isC j) (h : j ≠ i) (c : Ctr) : (s.setC i c).getC j = s.getC j := by
  unfold S.isC at hi hj
  have : i.toNat ≠ j.toNat := by omega
  simp [S.getC, S.setC, List.getD, this]
theorem getC_send (s : S) (k f t i : Int) : (s.send k f t).getC i = s.getC i := rfl
theorem isC_send (s : S) (k f t i : Int) : (s.send k f t).isC i ↔ s.isC i := Iff.rfl
theorem getC_drop (s : S) (n i : Int) : (s.drop n).getC i = s.getC i := rfl
theorem isC_drop (s : S) (n i : Int) : (s.drop n).isC i ↔ s.isC i := Iff.rfl

/-- a centre that has no part in a handover -/
def calm (c : Ctr) : Prop := c.is = 0 ∨ c.is = 4
def PH (s : S) : Prop := ∃ a, s.isC a ∧ (s.getC a).is = 1 ∧ (∀ i, s.isC i → i ≠ a → calm (s.getC i)) ∧ ∀ i, s.isC i → (s.getC i).turn ≤ (s.getC a).turn
def PO (s : S) : Prop := ∃ a b, s.isC a ∧ s.isC b ∧ b ≠ a ∧ (s.getC a).is = 2 ∧ (s.getC a).wth = b ∧ (s.getC b).turn < (s.getC a).turn ∧ (∀ i, s.isC i → i ≠ a → calm (s.getC i)) ∧ ∀ i, s.isC i → (s.getC i).turn ≤ (s.getC a).turn
def PT (s : S) : Prop := ∃ a b, s.isC a ∧ s.isC b ∧ b ≠ a ∧ ((s.getC a).is = 2 ∨ (s.getC a).is = 4) ∧ (s.getC a).wth = b ∧ (s.getC b).is = 3 ∧ (s.getC b).wth = a ∧ (s.getC b).turn = (s.getC a).turn ∧ (∀ i, s.isC i → i ≠ a → i ≠ b → calm (s.getC i)) ∧ ∀ i, s.isC i → (s.getC i).turn ≤ (s.getC a).turn
/-- what is so of a message in flight -/
def MOk (s : S) (m : Msg) : Prop :=
  (m.kind = 1 → m.turn ≤ (s.getC m.to).turn ∨ ((s.getC m.frm).is = 2 ∧ (s.getC m.frm).wth = m.to ∧ (s.getC m.frm).turn = m.turn)) ∧
  (m.kind = 2 → m.turn ≤ (s.getC m.frm).turn) ∧
  (m.kind = 3 → m.turn ≤ (s.getC m.frm).turn ∧ ((s.getC m.frm).turn = m.turn → (s.getC m.frm).is = 4))
structure Inv (s : S) : Prop where
  ok : Ok s
  ph : PH s ∨ PO s ∨ PT s
  msg : ∀ m ∈ s.fl, MOk s m

/-- other messages in flight, the centres as they were -/
theorem Inv.fl {s s' : S} (h : Inv s) (hc : s'.cen = s.cen) (ho : Ok s') (hm : ∀ m ∈ s'.fl, MOk s m) : Inv s' := by
  have e : ∀ i, s'.getC i = s.getC i := fun i => by unfold S.getC; rw [hc]
  have e2 : ∀ i, s'.isC i ↔ s.isC i := fun i => by unfold S.isC; rw [hc]
  refine ⟨ho, ?_, fun m hm' => ?_⟩
  · have := h.ph
    unfold PH PO PT at *
    simpa only [e, e2] using this
  · have := hm m hm'
    unfold MOk at *
    simpa only [e] using this
theorem Inv.drop {s : S} (h : Inv s) (i : Int) : Inv (s.drop i) := h.fl rfl (h.ok.drop i) fun m hm => h.msg m (List.mem_of_mem_eraseIdx hm)
theorem Inv.send {s : S} (h : Inv s) (k f t : Int) (hf : s.isC f) (ht : s.isC t) (hr : s.room) (hm : MOk s ⟨k, f, t, (s.getC f).turn⟩) : Inv (s.send k f t) :=
  h.fl rfl (h.ok.send k f t hf ht hr) fun m hm' => by
    simp only [S.send, List.mem_append, List.mem_singleton] at hm'
    rcases hm' with hm' | rfl
    · exact h.msg m hm'
    · exact hm
theorem calm_ne {c : Ctr} (h : calm c) : c.is ≠ 1 ∧ c.is ≠ 2 ∧ c.is ≠ 3 := by unfold calm at h; omega

/-- a centre changes -/
theorem Inv.setC {s : S} (h : Inv s) (x : Int) (hx : s.isC x) (c : Ctr) (hc : s.isC c.wth ∧ 0 ≤ c.turn ∧ c.turn ≤ 9) (hph : PH (s.setC x c) ∨ PO (s.setC x c) ∨ PT (s.setC x c))
    (ht : (s.getC x).turn ≤ c.turn) (h1 : (s.getC x).is = 2 → ∀ m ∈ s.fl, m.frm = x → (s.getC x).wth = m.to → (s.getC x).turn = m.turn → m.turn ≤ (s.getC m.to).turn) (h3 : (s.getC x).turn = c.turn → (s.getC x).is = 4 → c.is = 4) : Inv (s.setC x c) := by
  have ex : (s.setC x c).getC x = c := getC_setC s x hx c
  refine ⟨h.ok.setC x c hc, hph, fun m hm => ?_⟩
  have hm' : m ∈ s.fl := hm
  obtain ⟨hf, htt, _⟩ := h.ok.msg m hm'
  have g := h.msg m hm'
  have hto : m.turn ≤ (s.getC m.to).turn → m.turn ≤ ((s.setC x c).getC m.to).turn := fun hle => by
    by_cases e : m.to = x
    · rw [e, ex]; rw [e] at hle; omega
    · rw [getC_ne s hx htt e]; exact hle
  refine ⟨fun hk => ?_, fun hk => ?_, fun hk => ?_⟩
  · rcases g.1 hk with g1 | ⟨g1, g2, g3⟩
    · exact .inl (hto g1)
    · by_cases e : m.frm = x
      · rw [e] at g1 g2 g3
        exact .inl (hto (h1 g1 m hm' e g2 g3))
      · right; rw [getC_ne s hx hf e]; exact ⟨g1, g2, g3⟩
  · have := g.2.1 hk
    by_cases e : m.frm = x
    · rw [e, ex]; rw [e] at this; omega
    · rw [getC_ne s hx hf e]; exact this
  · obtain ⟨g1, g2⟩ := g.2.2 hk
    by_cases e : m.frm = x
    · rw [e, ex]; rw [e] at g1 g2
      refine ⟨by omega, fun he => h3 (by omega) (g2 (by omega))⟩
    · rw [getC_ne s hx hf e]; exact ⟨g1, g2⟩

theorem Inv.hdl {s : S} (h : Inv s) (m : Msg) (hf : s.isC m.frm) (ht : s.isC m.to) (hu : 0 ≤ m.turn ∧ m.turn ≤ 9) (hr : s.room) (hm : MOk s m) : Inv (s.hdl m) := by
  have gw := h.ok.getC ht
  unfold S.hdl
  simp only
  split
  · -- an offer is taken
    rename_i hc
    obtain ⟨hk, his, hlt⟩ := hc
    obtain ⟨c1, c2, c3⟩ : (s.getC m.frm).is = 2 ∧ (s.getC m.frm).wth = m.to ∧ (s.getC m.frm).turn = m.turn := by
      rcases hm.1 hk with h1 | h1
      · omega
      · exact h1
    have hne : m.to ≠ m.frm := fun e => by rw [← e] at c1; rcases his with h | h <;> rw [h] at c1 <;> cases c1
    have hph : PT (s.setC m.to ⟨3, m.frm, m.turn⟩) := by
      rcases h.ph with ⟨a, ha, h1, h2, h3⟩ | ⟨a, b, ha, hb, hba, h1, h2, h3, h4, h5⟩ | ⟨a, b, ha, hb, hba, h1, h2, h3, h4, h5, h6, h7⟩
      · exfalso
        by_cases e : m.frm = a
        · rw [e, h1] at c1; cases c1
        · exact (calm_ne (h2 _ hf e)).2.1 c1
      · have ea : m.frm = a := by
          by_cases e : m.frm = a
          · exact e
          · exact absurd c1 (calm_ne (h4 _ hf e)).2.1
        have e1 : (s.setC m.to ⟨3, m.frm, m.turn⟩).getC m.frm = s.getC m.frm := getC_ne s ht hf (Ne.symm hne) _
        have e2 : (s.setC m.to ⟨3, m.frm, m.turn⟩).getC m.to = ⟨3, m.frm, m.turn⟩ := getC_setC s _ ht _
        refine ⟨m.frm, m.to, by simpa [isC_setC] using hf, by simpa [isC_setC] using ht, hne, by rw [e1]; exact .inl c1, by rw [e1]; exact c2, by rw [e2], by rw [e2], by rw [e1, e2, c3], fun i hi hia hib => ?_, fun i hi => ?_⟩
        · rw [isC_setC] at hi
          rw [getC_ne s ht hi hib]
          exact h4 i hi (by rw [← ea]; exact hia)
        · rw [isC_setC] at hi
          rw [e1]
          by_cases e : i = m.to
          · rw [e, e2, c3]; exact Int.le_refl _
          · rw [getC_ne s ht hi e, ea]; exact h5 i hi
      · exfalso
        have ea : m.frm = a := by
          by_cases e : m.frm = a
          · exact e
          · by_cases e2 : m.frm = b
            · rw [e2, h3] at c1; cases c1
            · exact absurd c1 (calm_ne (h6 _ hf e e2)).2.1
        rw [ea] at c2 c3
        have eb : m.to = b := by rw [← c2, h2]
        rw [eb] at hlt
        omega
    have hinv : Inv (s.setC m.to ⟨3, m.frm, m.turn⟩) := h.setC m.to ht _ ⟨hf, hu⟩ (.inr (.inr hph)) (by simp only; omega) (fun h2 => by omega) (fun h2 => by simp only at h2; omega)
    refine hinv.send _ _ _ (by simpa [isC_setC] using ht) (by simpa [isC_setC] using hf) hr ?_
    exact ⟨fun h => by simp at h, fun _ => Int.le_refl _, fun h => by simp at h⟩
  split
  · -- an offer once more
    exact h.send _ _ _ ht hf hr ⟨fun h => by simp at h, fun _ => Int.le_refl _, fun h => by simp at h⟩
  split
  · -- an accept
    rename_i hc
    obtain ⟨hk, his, hs⟩ := hc
    have hsame : (s.getC m.to).wth = m.frm ∧ (s.getC m.to).turn = m.turn := by simpa [S.same] using hs
    have h2 := hm.2.1 hk
    have hinv : Inv (s.setC m.to { s.getC m.to with is := 4 }) := by
      have e2 : (s.setC m.to { s.getC m.to with is := 4 }).getC m.to = { s.getC m.to with is := 4 } := getC_setC s _ ht _
      have hall : ∀ i, s.isC i → ((s.setC m.to { s.getC m.to with is := 4 }).getC i).turn = (s.getC i).turn ∧ ((s.setC m.to { s.getC m.to with is := 4 }).getC i).wth = (s.getC i).wth := fun i hi => by
        by_cases e : i = m.to
        · rw [e, e2]; exact ⟨rfl, rfl⟩
        · rw [getC_ne s ht hi e]; exact ⟨rfl, rfl⟩
      have hcalm : ∀ i, s.isC i → (i = m.to ∨ calm (s.getC i)) → calm ((s.setC m.to { s.getC m.to with is := 4 }).getC i) := fun i hi h => by
        by_cases e : i = m.to
        · rw [e, e2]; exact .inr rfl
        · rw [getC_ne s ht hi e]; exact h.resolve_left e
      have hph : PH (s.setC m.to { s.getC m.to with is := 4 }) ∨ PO (s.setC m.to { s.getC m.to with is := 4 }) ∨ PT (s.setC m.to { s.getC m.to with is := 4 }) := by
        rcases h.ph with ⟨a, ha, h1, h2', h3⟩ | ⟨a, b, ha, hb, hba, h1, h2', h3, h4, h5⟩ | ⟨a, b, ha, hb, hba, h1, h2', h3, h4, h5, h6, h7⟩
        · have hne : m.to ≠ a := fun e => by rw [e, h1] at his; omega
          refine .inl ⟨a, by simpa [isC_setC] using ha, by rw [getC_ne s ht ha (Ne.symm hne)]; exact h1, fun i hi hia => ?_, fun i hi => ?_⟩
          · rw [isC_setC] at hi; exact hcalm i hi (.inr (h2' i hi hia))
          · rw [isC_setC] at hi; rw [(hall i hi).1, (hall a ha).1]; exact h3 i hi
        · have hne : m.to ≠ a := fun e => by
            rw [e] at hsame
            have : m.frm = b := by rw [← hsame.1, h2']
            rw [this] at h2
            omega
          refine .inr (.inl ⟨a, b, by simpa [isC_setC] using ha, by simpa [isC_setC] using hb, hba, by rw [getC_ne s ht ha (Ne.symm hne)]; exact h1, by rw [(hall a ha).2]; exact h2', by rw [(hall a ha).1, (hall b hb).1]; exact h3, fun i hi hia => ?_, fun i hi => ?_⟩)
          · rw [isC_setC] at hi; exact hcalm i hi (.inr (h4 i hi hia))
          · rw [isC_setC] at hi; rw [(hall i hi).1, (hall a ha).1]; exact h5 i hi
        · have hne : m.to ≠ b := fun e => by rw [e, h3] at his; omega
          refine .inr (.inr ⟨a, b, by simpa [isC_setC] using ha, by simpa [isC_setC] using hb, hba, ?_, by rw [(hall a ha).2]; exact h2', by rw [getC_ne s ht hb (Ne.symm hne)]; exact h3, by rw [(hall b hb).2]; exact h4, by rw [(hall a ha).1, (hall b hb).1]; exact h5, fun i hi hia hib => ?_, fun i hi => ?_⟩)
          · by_cases e : a = m.to
            · rw [e, e2]; exact .inr rfl
            · rw [getC_ne s ht ha e]; exact h1
          · rw [isC_setC] at hi; exact hcalm i hi (.inr (h6 i hi hia hib))
          · rw [isC_setC] at hi; rw [(hall i hi).1, (hall a ha).1]; exact h7 i hi
      refine h.setC m.to ht _ gw hph (Int.le_refl _) (fun hi m' hm' hfr hw htn => ?_) (fun _ _ => rfl)
      -- it offered: the other one has taken
      rcases h.ph with ⟨a, ha, h1, h2', h3⟩ | ⟨a, b, ha, hb, hba, h1, h2', h3, h4, h5⟩ | ⟨a, b, ha, hb, hba, h1, h2', h3, h4, h5, h6, h7⟩
      · exfalso
        by_cases e : m.to = a
        · rw [e, h1] at hi; cases hi
        · exact (calm_ne (h2' _ ht e)).2.1 hi
      · exfalso
        have ea : m.to = a := by
          by_cases e : m.to = a
          · exact e
          · exact absurd hi (calm_ne (h4 _ ht e)).2.1
        rw [ea] at hsame
        have : m.frm = b := by rw [← hsame.1, h2']
        rw [this] at h2
        omega
      · have ea : m.to = a := by
          by_cases e : m.to = a
          · exact e
          · by_cases e2 : m.to = b
            · rw [e2, h3] at hi; cases hi
            · exact absurd hi (calm_ne (h6 _ ht e e2)).2.1
        rw [ea] at hw htn
        have : m'.to = b := by rw [← hw, h2']
        rw [this]
        omega
    refine hinv.send 3 _ _ (by simpa [isC_setC] using ht) (by simpa [isC_setC] using hf) hr ?_
    have e2 : (s.setC m.to { s.getC m.to with is := 4 }).getC m.to = { s.getC m.to with is := 4 } := getC_setC s _ ht _
    refine ⟨fun h => by simp at h, fun h => by simp at h, fun _ => ?_⟩
    simp only [e2]
    exact ⟨Int.le_refl _, fun _ => trivial⟩
  split
  · -- a confirm
    rename_i hc
    obtain ⟨hk, his, hs⟩ := hc
    have hsame : (s.getC m.to).wth = m.frm ∧ (s.getC m.to).turn = m.turn := by simpa [S.same] using hs
    obtain ⟨g1, g2⟩ := hm.2.2 hk
    have e2 : (s.setC m.to ⟨1, 0, (s.getC m.to).turn⟩).getC m.to = ⟨1, 0, (s.getC m.to).turn⟩ := getC_setC s _ ht _
    have hph : PH (s.setC m.to ⟨1, 0, (s.getC m.to).turn⟩) := by
      rcases h.ph with ⟨a, ha, h1, h2', h3⟩ | ⟨a, b, ha, hb, hba, h1, h2', h3, h4, h5⟩ | ⟨a, b, ha, hb, hba, h1, h2', h3, h4, h5, h6, h7⟩
      · exfalso
        by_cases e : m.to = a
        · rw [e, h1] at his; cases his
        · exact (calm_ne (h2' _ ht e)).2.2 his
      · exfalso
        by_cases e : m.to = a
        · rw [e, h1] at his; cases his
        · exact (calm_ne (h4 _ ht e)).2.2 his
      · have eb : m.to = b := by
          by_cases e : m.to = b
          · exact e
          · by_cases e2 : m.to = a
            · rw [e2] at his; omega
            · exact absurd his (calm_ne (h6 _ ht e2 e)).2.2
        have ea : m.frm = a := by rw [← hsame.1, eb, h4]
        rw [eb] at hsame e2 ⊢
        rw [ea] at g2
        have h4a : (s.getC a).is = 4 := g2 (by omega)
        refine ⟨b, by simpa [isC_setC] using hb, by rw [e2], fun i hi hib => ?_, fun i hi => ?_⟩
        · rw [isC_setC] at hi
          rw [getC_ne s hb hi hib]
          by_cases e : i = a
          · rw [e]; exact .inr h4a
          · exact h6 i hi e hib
        · rw [isC_setC] at hi
          rw [e2]
          by_cases e : i = b
          · rw [e, e2]; exact Int.le_refl _
          · rw [getC_ne s hb hi e]
            have := h7 i hi
            simp only
            omega
    exact h.setC m.to ht _ ⟨by unfold S.isC; have := h.ok.n2; simp; omega, gw.2⟩ (.inl hph) (Int.le_refl _) (fun h2 => by omega) (fun _ h4 => by omega)
  · exact h
theorem Inv.app {s s' : S} {e : Ev} (h : Inv s) (he : s.app e = some s') : Inv s' := by
  unfold S.app at he
  split at he
  · unfold S.offer at he
    split at he
    · rename_i hc
      obtain ⟨ha, hb, hab, hr, his, ht⟩ := hc
      have g := h.ok.getC ha
      cases he
      have e2 : (s.setC e.a ⟨2, e.b, (s.getC e.a).turn + 1⟩).getC e.a = ⟨2, e.b, (s.getC e.a).turn + 1⟩ := getC_setC s _ ha _
      have hph : PO (s.setC e.a ⟨2, e.b, (s.getC e.a).turn + 1⟩) := by
        rcases h.ph with ⟨a, ha', h1, h2, h3⟩ | ⟨a, b, ha', hb', hba, h1, h2, h3, h4, h5⟩ | ⟨a, b, ha', hb', hba, h1, h2, h3, h4, h5, h6, h7⟩
        · have ea : e.a = a := by
            by_cases e1 : e.a = a
            · exact e1
            · exact absurd his (calm_ne (h2 _ ha e1)).1
          refine ⟨e.a, e.b, by simpa [isC_setC] using ha, by simpa [isC_setC] using hb, Ne.symm hab, by rw [e2], by rw [e2], ?_, fun i hi hia => ?_, fun i hi => ?_⟩
          · rw [e2, getC_ne s ha hb (Ne.symm hab)]
            have := h3 e.b hb
            rw [← ea] at this
            simp only; omega
          · rw [isC_setC] at hi
            rw [getC_ne s ha hi hia]
            exact h2 i hi (by rw [← ea]; exact hia)
          · rw [isC_setC] at hi
            rw [e2]
            by_cases e1 : i = e.a
            · rw [e1, e2]; exact Int.le_refl _
            · rw [getC_ne s ha hi e1]
              have := h3 i hi
              rw [← ea] at this
              simp only; omega
        · exfalso
          by_cases e1 : e.a = a
          · rw [e1, h1] at his; cases his
          · exact (calm_ne (h4 _ ha e1)).1 his
        · exfalso
          by_cases e1 : e.a = a
          · rw [e1] at his; omega
          · by_cases e3 : e.a = b
            · rw [e3, h3] at his; cases his
            · exact (calm_ne (h6 _ ha e1 e3)).1 his
      have hinv : Inv (s.setC e.a ⟨2, e.b, (s.getC e.a).turn + 1⟩) := h.setC e.a ha _ ⟨hb, by simp only; omega, by simp only; omega⟩ (.inr (.inl hph)) (by simp only; omega) (fun h2 => by omega) (fun h2 => by simp only at h2; omega)
      refine hinv.send _ _ _ (by simpa [isC_setC] using ha) (by simpa [isC_setC] using hb) hr ?_
      exact ⟨fun _ => .inr (by simp [e2]), fun h => by simp at h, fun h => by simp at h⟩
    · exact absurd he (by simp)
  split at he
  · exact absurd he (by simp)
  split at he
  · unfold S.again at he
    split at he
    · rename_i hc
      have g := h.ok.getC hc.1
      split at he
      · rename_i h2
        cases he
        exact h.send _ _ _ hc.1 g.1 hc.2 ⟨fun _ => .inr ⟨h2, rfl, rfl⟩, fun h => by simp at h, fun h => by simp at h⟩
      split at he
      · cases he
        exact h.send _ _ _ hc.1 g.1 hc.2 ⟨fun h => by simp at h, fun _ => Int.le_refl _, fun h => by simp at h⟩
      · exact absurd he (by simp)
    · exact absurd he (by simp)
  split at he
  · exact absurd he (by simp)
  rename_i hin
  have hin : 0 ≤ e.a ∧ e.a < s.fl.length := Decidable.not_not.1 hin
  have hm := h.ok.msg _ (msg_mem hin)
  have hmo := h.msg _ (msg_mem hin)
  split at he
  · cases he
    exact (h.drop _).hdl _ hm.1 hm.2.1 hm.2.2 (drop_room h.ok hin) hmo
  split at he
  · cases he; exact h.drop _
  split at he
  · split at he
    · rename_i hr
      cases he
      refine h.fl rfl (h.ok.app (s' := { s with fl := s.fl ++ [s.msg e.a] }) (e := ⟨4, e.a, 0⟩) (by simp [S.app, hin.1, hin.2, hr])) fun m hm' => ?_
      simp only [List.mem_append, List.mem_singleton] at hm'
      rcases hm' with hm' | rfl
      · exact h.msg m hm'
      · exact hmo
    · exact absurd he (by simp)
  · exact absurd he (by simp)
theorem Inv.path {s t : S} {l : List Ev} (h : Inv s) (hp : PathTo s l t) : Inv t := by
  induction l generalizing s with
  | nil => rw [PathTo] at hp; subst hp; exact h
  | cons x l ih => obtain ⟨_, s1, h2, h3⟩ := hp; exact ih (h.app h2) h3
theorem start_inv (n : Nat) (first : Int) (h2 : 2 ≤ n) (h4 : n ≤ 4) (hf : 0 ≤ first ∧ first < n) : Inv (start n first) := by
  have hz := zero_ok n h2 h4
  have hi : ({ cen := List.replicate n c0, fl := [] } : S).isC first := ⟨hf.1, by simpa using hf.2⟩
  have h0 : ∀ i, ({ cen := List.replicate n c0, fl := [] } : S).isC i → ({ cen := List.replicate n c0, fl := [] } : S).getC i = c0 := fun i hi => List.eq_of_mem_replicate (getC_mem hi)
  refine ⟨start_ok n first h2 h4, .inl ⟨first, by simpa [start, isC_setC] using hi, ?_, fun i hi' hne => ?_, fun i hi' => ?_⟩, fun m hm => ?_⟩
  · unfold start; rw [getC_setC _ _ hi]
  · unfold start at hi' ⊢; rw [isC_setC] at hi'; rw [getC_ne _ hi hi' hne, h0 i hi']; exact .inl rfl
  · unfold start at hi' ⊢; rw [isC_setC] at hi'; rw [getC_setC _ _ hi]
    by_cases e : i = first
    · rw [e, getC_setC _ _ hi]; exact Int.le_refl _
    · rw [getC_ne _ hi hi' e, h0 i hi']; exact Int.le_refl _
  · simp [start, S.setC] at hm
end Rl
end Go.Proofs.YtklnbcofmhlkdaaDoor
