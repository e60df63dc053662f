/- Some six deliveries and repetitions settle whatever state events lead to. No program in sight. -/
import Derived.Test.YtklnbcofmhlkdaaDoorProto
set_option linter.unusedVariables false
set_option linter.unusedSimpArgs false
namespace Go.Proofs.YtklnbcofmhlkdaaDoor
namespace Rl
theorem settled_of {s : S} (h : ∀ i, s.isC i → (s.getC i).is ≠ 2 ∧ (s.getC i).is ≠ 3) : s.settled = true := by
  unfold S.settled
  rw [List.all_eq_true]
  intro c hc
  obtain ⟨i, hi, rfl⟩ := List.getElem_of_mem hc
  have hi' : s.isC i := ⟨by omega, by omega⟩
  have := h i hi'
  have e : s.getC i = s.cen[i] := by simp [S.getC, List.getD, hi]
  rw [e] at this
  simp [bad, this.1, this.2]
theorem app_deliver {s : S} {i : Nat} {m : Msg} (h : s.fl[i]? = some m) : s.app ⟨2, i, 0⟩ = some (({ s with fl := s.fl.eraseIdx i } : S).hdl m) := by
  have hi := (List.getElem?_eq_some_iff.1 h).1
  have e1 : s.msg (i : Int) = m := by simp [S.msg, List.getD, h]
  simp only [S.app]
  rw [if_neg (by decide), if_neg (by simp), if_neg (by decide), if_neg (by simp; omega), if_pos trivial, e1]
  rfl
theorem app_last {s : S} {l : List Msg} {m : Msg} (h : s.fl = l ++ [m]) : s.app ⟨2, l.length, 0⟩ = some (({ s with fl := l } : S).hdl m) := by
  rw [app_deliver (m := m) (by rw [h]; simp)]
  rw [h]
  have : (l ++ [m]).eraseIdx l.length = l := by rw [List.eraseIdx_append_of_length_le (Nat.le_refl _)]; simp
  rw [this]
theorem app_first {s : S} {l : List Msg} {m : Msg} (h : s.fl = m :: l) : s.app ⟨2, 0, 0⟩ = some (({ s with fl := l } : S).hdl m) := by
  have := app_deliver (s := s) (i := 0) (m := m) (by rw [h]; rfl)
  rw [h] at this
  simpa using this
theorem leads_cons {s s' : S} {e : Ev} {l : List Ev} (hk : e.kind = 2 ∨ e.kind = 5) (ha : s.app e = some s') (h : Leads s' l) : Leads s (e :: l) := ⟨hk, s', ha, h⟩

theorem hdl_confirm {s : S} {m : Msg} (hk : m.kind = 3) (h3 : (s.getC m.to).is = 3) (h4 : (s.getC m.to).wth = m.frm) (h5 : (s.getC m.to).turn = m.turn) : s.hdl m = s.setC m.to ⟨1, 0, (s.getC m.to).turn⟩ := by
  unfold S.hdl
  simp only
  rw [if_neg (by omega), if_neg (by omega), if_neg (by omega), if_pos ⟨hk, h3, by simp [S.same, h4, h5]⟩]
theorem hdl_confirm_fl {s : S} {m : Msg} (hk : m.kind = 3) : (s.hdl m).fl = s.fl := by
  unfold S.hdl
  simp only
  rw [if_neg (by omega), if_neg (by omega), if_neg (by omega)]
  split <;> rfl
theorem hdl_accept {s : S} {m : Msg} (hk : m.kind = 2) (h3 : (s.getC m.to).is = 2 ∨ (s.getC m.to).is = 4) (h4 : (s.getC m.to).wth = m.frm) (h5 : (s.getC m.to).turn = m.turn) : s.hdl m = (s.setC m.to { s.getC m.to with is := 4 }).send 3 m.to m.frm := by
  unfold S.hdl
  simp only
  rw [if_neg (by omega), if_neg (by omega), if_pos ⟨hk, h3, by simp [S.same, h4, h5]⟩]
theorem hdl_offer {s : S} {m : Msg} (hk : m.kind = 1) (h3 : (s.getC m.to).is = 0 ∨ (s.getC m.to).is = 4) (h5 : (s.getC m.to).turn < m.turn) : s.hdl m = (s.setC m.to ⟨3, m.frm, m.turn⟩).send 2 m.to m.frm := by
  unfold S.hdl
  simp only
  rw [if_pos ⟨hk, h3, h5⟩]
/-- the confirm lies last -/
theorem leads1 {s : S} {l : List Msg} {x y t : Int} (hf : s.fl = l ++ [⟨3, x, y, t⟩]) (hy : s.isC y) (h3 : (s.getC y).is = 3) (h4 : (s.getC y).wth = x) (h5 : (s.getC y).turn = t) (hall : ∀ i, s.isC i → i ≠ y → (s.getC i).is ≠ 2 ∧ (s.getC i).is ≠ 3) : ∃ l', l'.length ≤ 1 ∧ Leads s l' := by
  refine ⟨[⟨2, l.length, 0⟩], by simp, leads_cons (.inl rfl) (app_last hf) ?_⟩
  rw [hdl_confirm (s := { s with fl := l }) (m := ⟨3, x, y, t⟩) rfl h3 h4 h5]
  refine settled_of fun i hi => ?_
  rw [isC_setC] at hi
  by_cases e : i = y
  · subst e
    rw [getC_setC { s with fl := l } _ hi]
    simp
  · rw [getC_ne { s with fl := l } hy hi e]
    exact hall i hi e
/-- the accept lies last -/
theorem leads2 {s : S} {l : List Msg} {a b t : Int} (hf : s.fl = l ++ [⟨2, b, a, t⟩]) (ha : s.isC a) (hb : s.isC b) (hba : b ≠ a) (h1 : (s.getC a).is = 2 ∨ (s.getC a).is = 4) (h2 : (s.getC a).wth = b) (h2t : (s.getC a).turn = t) (h3 : (s.getC b).is = 3) (h4 : (s.getC b).wth = a) (h5 : (s.getC b).turn = t)
    (hall : ∀ i, s.isC i → i ≠ a → i ≠ b → calm (s.getC i)) : ∃ l', l'.length ≤ 2 ∧ Leads s l' := by
  have hh := hdl_accept (s := { s with fl := l }) (m := ⟨2, b, a, t⟩) rfl h1 h2 h2t
  have ha' : ({ s with fl := l } : S).isC a := ha
  have hb' : ({ s with fl := l } : S).isC b := hb
  have e1 : (({ s with fl := l } : S).setC a { s.getC a with is := 4 }).getC b = s.getC b := getC_ne _ ha' hb' hba _
  have e2 : (({ s with fl := l } : S).setC a { s.getC a with is := 4 }).getC a = { s.getC a with is := 4 } := getC_setC _ _ ha' _
  obtain ⟨l', hl', hg⟩ := leads1 (s := (({ s with fl := l } : S).setC a { s.getC a with is := 4 }).send 3 a b) (l := l) (x := a) (y := b) (t := t) (by show l ++ [(⟨3, a, b, ((({ s with fl := l } : S).setC a { s.getC a with is := 4 }).getC a).turn⟩ : Msg)] = l ++ [⟨3, a, b, t⟩]; rw [e2]; simp only [h2t]) (by rw [isC_send, isC_setC]; exact hb)
    (by rw [getC_send, e1]; exact h3) (by rw [getC_send, e1]; exact h4) (by rw [getC_send, e1]; exact h5) (fun i hi hib => by
      rw [isC_send, isC_setC] at hi
      rw [getC_send]
      by_cases e : i = a
      · rw [e, e2]; simp
      · rw [getC_ne _ ha' hi e]
        have := calm_ne (hall i hi e hib)
        exact ⟨this.2.1, this.2.2⟩)
  refine ⟨_ :: l', by simpa using hl', leads_cons (.inl rfl) (app_last hf) ?_⟩
  rw [hh]
  exact hg
/-- the offer lies last -/
theorem leads3 {s : S} {l : List Msg} {a b t : Int} (hf : s.fl = l ++ [⟨1, a, b, t⟩]) (ha : s.isC a) (hb : s.isC b) (hba : b ≠ a) (h1 : (s.getC a).is = 2) (h2 : (s.getC a).wth = b) (h2t : (s.getC a).turn = t) (h5 : (s.getC b).turn < t)
    (hall : ∀ i, s.isC i → i ≠ a → calm (s.getC i)) : ∃ l', l'.length ≤ 3 ∧ Leads s l' := by
  have hh := hdl_offer (s := { s with fl := l }) (m := ⟨1, a, b, t⟩) rfl (hall b hb hba) h5
  have ha' : ({ s with fl := l } : S).isC a := ha
  have hb' : ({ s with fl := l } : S).isC b := hb
  have e1 : (({ s with fl := l } : S).setC b ⟨3, a, t⟩).getC a = s.getC a := getC_ne _ hb' ha' (Ne.symm hba) _
  have e2 : (({ s with fl := l } : S).setC b ⟨3, a, t⟩).getC b = ⟨3, a, t⟩ := getC_setC _ _ hb' _
  obtain ⟨l', hl', hg⟩ := leads2 (s := (({ s with fl := l } : S).setC b ⟨3, a, t⟩).send 2 b a) (l := l) (a := a) (b := b) (t := t) (by simp only [S.send, e2]; rfl) (by rw [isC_send, isC_setC]; exact ha) (by rw [isC_send, isC_setC]; exact hb) hba
    (by rw [getC_send, e1]; exact .inl h1) (by rw [getC_send, e1]; exact h2) (by rw [getC_send, e1]; exact h2t) (by rw [getC_send, e2]) (by rw [getC_send, e2]) (by rw [getC_send, e2]) (fun i hi hia hib => by
      rw [isC_send, isC_setC] at hi
      rw [getC_send, getC_ne _ hb' hi hib]
      exact hall i hi hia)
  refine ⟨_ :: l', by simpa using hl', leads_cons (.inl rfl) (app_last hf) ?_⟩
  rw [hh]
  exact hg
theorem app_again {s : S} {a : Int} (ha : s.isC a) (hr : s.room) : (((s.getC a).is = 2) → s.app ⟨5, a, 0⟩ = some (s.send 1 a (s.getC a).wth)) ∧ (((s.getC a).is = 3) → s.app ⟨5, a, 0⟩ = some (s.send 2 a (s.getC a).wth)) := by
  have e : s.app ⟨5, a, 0⟩ = s.again a := by simp [S.app]
  rw [e]
  unfold S.again
  rw [if_pos ⟨ha, hr⟩]
  refine ⟨fun h => if_pos h, fun h => ?_⟩
  rw [if_neg (by omega), if_pos h]
/-- with room for a message -/
theorem leads_room {s : S} (h : Inv s) (hr : s.room) : ∃ l, l.length ≤ 4 ∧ Leads s l := by
  rcases h.ph with ⟨a, ha, h1, h2, h3⟩ | ⟨a, b, ha, hb, hba, h1, h2, h3, h4, h5⟩ | ⟨a, b, ha, hb, hba, h1, h2, h3, h4, h5, h6, h7⟩
  · refine ⟨[], by simp, settled_of fun i hi => ?_⟩
    by_cases e : i = a
    · rw [e, h1]; simp
    · have := calm_ne (h2 i hi e); exact ⟨this.2.1, this.2.2⟩
  · obtain ⟨l', hl', hg⟩ := leads3 (s := s.send 1 a (s.getC a).wth) (l := s.fl) (a := a) (b := b) (t := (s.getC a).turn) (by simp only [S.send, h2]) ha hb hba h1 h2 rfl h3 h4
    exact ⟨_ :: l', by simpa using hl', leads_cons (.inr rfl) ((app_again ha hr).1 h1) hg⟩
  · obtain ⟨l', hl', hg⟩ := leads2 (s := s.send 2 b (s.getC b).wth) (l := s.fl) (a := a) (b := b) (t := (s.getC b).turn) (by simp only [S.send, h4]) ha hb hba h1 h2 h5.symm h3 h4 rfl h6
    exact ⟨_ :: l', by simp only [List.length_cons]; omega, leads_cons (.inr rfl) ((app_again hb hr).2 h3) hg⟩
/-- an accept that has just been sent by the one that takes -/
theorem leads_accept {s : S} (h : Inv s) {l : List Msg} {x y : Int} (hx : s.isC x) (h3 : (s.getC x).is = 3) (hy : (s.getC x).wth = y) (hf : s.fl = l ++ [⟨2, x, y, (s.getC x).turn⟩]) : ∃ l, l.length ≤ 2 ∧ Leads s l := by
  rcases h.ph with ⟨a, ha, h1, h2, _⟩ | ⟨a, b, ha, hb, hba, h1, h2, _, h4, h5⟩ | ⟨a, b, ha, hb, hba, h1, h2, h3', h4, h5, h6, h7⟩
  · exfalso
    by_cases e : x = a
    · rw [e, h1] at h3; cases h3
    · exact (calm_ne (h2 x hx e)).2.2 h3
  · exfalso
    by_cases e : x = a
    · rw [e, h1] at h3; cases h3
    · exact (calm_ne (h4 x hx e)).2.2 h3
  · have eb : x = b := by
      by_cases e : x = b
      · exact e
      · by_cases e2 : x = a
        · rw [e2] at h3; omega
        · exact absurd h3 (calm_ne (h6 x hx e2 e)).2.2
    subst eb
    have ea : y = a := by rw [← hy, h4]
    subst ea
    exact leads2 hf ha hb hba h1 h2 h5.symm h3 h4 rfl h6
theorem leads_any {s : S} (h : Inv s) : ∃ l, l.length ≤ 7 ∧ Leads s l := by
  by_cases hr : s.room
  · obtain ⟨l, h1, h2⟩ := leads_room h hr
    exact ⟨l, by omega, h2⟩
  · have h6 : s.fl.length = 6 := by have := h.ok.f6; unfold S.room at hr; omega
    obtain ⟨m, l, hf⟩ : ∃ m l, s.fl = m :: l := by
      cases hfl : s.fl with
      | nil => rw [hfl] at h6; simp at h6
      | cons m l => exact ⟨m, l, rfl⟩
    have hl5 : l.length = 5 := by rw [hf] at h6; simpa using h6
    have ha := app_first hf
    have hinv := h.app ha
    have hm := h.ok.msg m (by rw [hf]; simp)
    obtain ⟨t, ht⟩ : ∃ t : S, t = { s with fl := l } := ⟨_, rfl⟩
    have tl : t.fl = l := by rw [ht]
    have tm : t.isC m.frm ∧ t.isC m.to := by rw [ht]; exact ⟨hm.1, hm.2.1⟩
    rw [← ht] at ha hinv
    -- one delivery makes room
    have room1 : (t.hdl m).fl.length ≤ 5 → ∃ l, l.length ≤ 7 ∧ Leads s l := fun hlen => by
      obtain ⟨l', h1, h2⟩ := leads_room hinv (by unfold S.room; omega)
      exact ⟨_ :: l', by simp only [List.length_cons]; omega, leads_cons (.inl rfl) ha h2⟩
    by_cases c1 : m.kind = 1 ∧ ((t.getC m.to).is = 0 ∨ (t.getC m.to).is = 4) ∧ (t.getC m.to).turn < m.turn
    · have e := hdl_offer (s := t) (m := m) c1.1 c1.2.1 c1.2.2
      rw [e] at ha hinv
      have ht' : t.isC m.to := tm.2
      have e2 : (t.setC m.to ⟨3, m.frm, m.turn⟩).getC m.to = ⟨3, m.frm, m.turn⟩ := getC_setC _ _ ht' _
      obtain ⟨l', h1, h2⟩ := leads_accept hinv (l := l) (x := m.to) (y := m.frm) (by rw [isC_send, isC_setC]; exact tm.2) (by rw [getC_send, e2]) (by rw [getC_send, e2]) (by rw [← tl]; rfl)
      exact ⟨_ :: l', by simp only [List.length_cons]; omega, leads_cons (.inl rfl) ha h2⟩
    by_cases c2 : m.kind = 1 ∧ (t.getC m.to).is = 3 ∧ t.same m = true
    · have e : t.hdl m = t.send 2 m.to m.frm := by
        unfold S.hdl; simp only
        rw [if_neg c1, if_pos c2]
      have hsame : (t.getC m.to).wth = m.frm ∧ (t.getC m.to).turn = m.turn := by simpa [S.same] using c2.2.2
      rw [e] at ha hinv
      obtain ⟨l', h1, h2⟩ := leads_accept hinv (l := l) (x := m.to) (y := m.frm) tm.2 c2.2.1 hsame.1 (by rw [← tl]; rfl)
      exact ⟨_ :: l', by simp only [List.length_cons]; omega, leads_cons (.inl rfl) ha h2⟩
    by_cases c3 : m.kind = 2 ∧ ((t.getC m.to).is = 2 ∨ (t.getC m.to).is = 4) ∧ t.same m = true
    · have hsame : (t.getC m.to).wth = m.frm ∧ (t.getC m.to).turn = m.turn := by simpa [S.same] using c3.2.2
      have e := hdl_accept (s := t) (m := m) c3.1 c3.2.1 hsame.1 hsame.2
      rw [e] at ha hinv
      have hf1 : ((t.setC m.to { t.getC m.to with is := 4 }).send 3 m.to m.frm).fl = l ++ [⟨3, m.to, m.frm, ((t.setC m.to { t.getC m.to with is := 4 }).getC m.to).turn⟩] := by rw [← tl]; rfl
      have ha2 := app_last hf1
      have hinv2 := hinv.app ha2
      have hfl : (((({ ((t.setC m.to { t.getC m.to with is := 4 }).send 3 m.to m.frm) with fl := l } : S)).hdl ⟨3, m.to, m.frm, ((t.setC m.to { t.getC m.to with is := 4 }).getC m.to).turn⟩)).fl = l := hdl_confirm_fl rfl
      obtain ⟨l', h1, h2⟩ := leads_room hinv2 (by unfold S.room; rw [hfl]; omega)
      exact ⟨_ :: _ :: l', by simp only [List.length_cons]; omega, leads_cons (.inl rfl) ha (leads_cons (.inl rfl) ha2 h2)⟩
    · refine room1 ?_
      unfold S.hdl
      simp only
      rw [if_neg c1, if_neg c2, if_neg c3]
      split
      · show t.fl.length ≤ 5; rw [tl]; omega
      · rw [tl]; omega
end Rl
end Go.Proofs.YtklnbcofmhlkdaaDoor
