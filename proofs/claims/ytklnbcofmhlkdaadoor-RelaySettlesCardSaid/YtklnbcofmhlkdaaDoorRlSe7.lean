/- relay.Settle: what holds in its loop. -/
import Derived.Test.YtklnbcofmhlkdaaDoorRlSe6
import Derived.Test.YtklnbcofmhlkdaaDoorBfs
import Derived.Test.YtklnbcofmhlkdaaDoorRlD
set_option linter.unusedVariables false
set_option linter.unusedSimpArgs false
namespace Go.Proofs.YtklnbcofmhlkdaaDoor
open Go.RowKit Rl

/-! ### Numbers stay small -/
theorem Wf.setC {s : S} (h : Wf s) (i : Int) (c : Ctr) (hc : s.isC c.wth ∧ 0 ≤ c.turn ∧ c.turn ≤ 9) (h2 : 0 ≤ c.is ∧ c.is ≤ 4) : Wf (s.setC i c) := by
  refine ⟨h.ok.setC i c hc, fun x hx => ?_, h.fl⟩
  rcases List.mem_or_eq_of_mem_set hx with h1 | rfl
  · exact h.cen x h1
  · exact h2
theorem Wf.send {s : S} (h : Wf s) (k f t : Int) (hf : s.isC f) (ht : s.isC t) (hr : s.room) (hk : 1 ≤ k ∧ k ≤ 3) : Wf (s.send k f t) := by
  refine ⟨h.ok.send k f t hf ht hr, h.cen, fun m hm => ?_⟩
  simp only [S.send, List.mem_append, List.mem_singleton] at hm
  rcases hm with hm | rfl
  · exact h.fl m hm
  · exact hk
theorem Wf.drop {s : S} (h : Wf s) (i : Int) : Wf (s.drop i) := ⟨h.ok.drop i, h.cen, fun m hm => h.fl m (List.mem_of_mem_eraseIdx hm)⟩
theorem Wf.getC {s : S} (h : Wf s) {i : Int} (hi : s.isC i) : 0 ≤ (s.getC i).is ∧ (s.getC i).is ≤ 4 := h.cen _ (getC_mem hi)
theorem Wf.hdl {s : S} (h : Wf s) (m : Msg) (hf : s.isC m.frm) (ht : s.isC m.to) (hu : 0 ≤ m.turn ∧ m.turn ≤ 9) (hr : s.room) : Wf (s.hdl m) := by
  have g := h.ok.getC ht
  have g2 := h.getC ht
  unfold S.hdl
  simp only
  split
  · exact (h.setC _ _ ⟨hf, hu⟩ (by simp)).send _ _ _ (by simpa [isC_setC] using ht) (by simpa [isC_setC] using hf) hr (by omega)
  split
  · exact h.send _ _ _ ht hf hr (by omega)
  split
  · exact (h.setC m.to { s.getC m.to with is := 4 } g (by simp)).send 3 _ _ (by simpa [isC_setC] using ht) (by simpa [isC_setC] using hf) hr (by omega)
  split
  · exact h.setC _ _ ⟨by unfold S.isC; have := h.ok.n2; simp; omega, g.2⟩ (by simp)
  · exact h
theorem Wf.app {s s' : S} {e : Ev} (h : Wf s) (he : s.app e = some s') : Wf s' := by
  unfold S.app at he
  split at he
  · unfold S.offer at he
    split at he
    · rename_i hc
      obtain ⟨ha, hb, _, hr, _, ht⟩ := hc
      have g := h.ok.getC ha
      cases he
      exact (h.setC _ _ ⟨hb, by simp; omega, by simp; omega⟩ (by simp)).send _ _ _ (by simpa [isC_setC] using ha) (by simpa [isC_setC] using hb) hr (by omega)
    · exact absurd he (by simp)
  split at he
  · exact absurd he (by simp)
  split at he
  · unfold S.again at he
    split at he
    · rename_i hc
      have g := h.ok.getC hc.1
      split at he
      · cases he; exact h.send _ _ _ hc.1 g.1 hc.2 (by omega)
      split at he
      · cases he; exact h.send _ _ _ hc.1 g.1 hc.2 (by omega)
      · exact absurd he (by simp)
    · exact absurd he (by simp)
  split at he
  · exact absurd he (by simp)
  rename_i hin
  have hin : 0 ≤ e.a ∧ e.a < s.fl.length := Decidable.not_not.1 hin
  have hm := h.ok.msg _ (msg_mem hin)
  have hm2 := h.fl _ (msg_mem hin)
  split at he
  · cases he
    exact (h.drop _).hdl _ hm.1 hm.2.1 hm.2.2 (drop_room h.ok hin)
  split at he
  · cases he; exact h.drop _
  split at he
  · split at he
    · rename_i hr
      cases he
      have hok := h.ok.app (s' := { s with fl := s.fl ++ [s.msg e.a] }) (e := ⟨4, e.a, 0⟩) (by simp [S.app, hin.1, hin.2, hr])
      refine ⟨hok, h.cen, fun m hm' => ?_⟩
      simp only [List.mem_append, List.mem_singleton] at hm'
      rcases hm' with hm' | rfl
      · exact h.fl m hm'
      · exact hm2
    · exact absurd he (by simp)
  · exact absurd he (by simp)
theorem start_wf (n : Nat) (first : Int) (h2 : 2 ≤ n) (h4 : n ≤ 4) : Wf (Rl.start n first) := by
  have hz : Wf ({ cen := List.replicate n c0, fl := [] } : S) := ⟨zero_ok n h2 h4, fun c hc => by rw [List.eq_of_mem_replicate hc]; simp [c0], by simp⟩
  exact hz.setC _ _ ⟨⟨by simp, by simp; omega⟩, by simp, by simp⟩ (by simp)
theorem runs_wf {s : S} (h : Wf s) (l : List Ev) : Wf (s.runs l) := by
  induction l generalizing s with
  | nil => exact h
  | cons e l ih =>
    refine ih (s := (s.app e).getD s) ?_
    cases he : s.app e with
    | none => exact h
    | some s' => exact h.app he

/-! ### What the loop's worlds hold -/
abbrev WS := { s : S // Wf s }
def encS (x : WS) : List Value := x.1.enc
theorem encS_len (x : WS) : (encS x).length = 38 := enc_len x.2.ok.n4 x.2.ok.f6
theorem oneS (x : WS) : ∀ u ∈ encS x, u.oneCell' = true := by
  have := one_arr x.1
  intro u hu
  exact this u (by simpa [S.arr, encS] using hu)
abbrev Tri := S × List Ev × Value
def tw (t : Tri) : Rl.Way := (t.1, t.2.1)
def tv (t : Tri) : S × Value := (t.1, t.2.2)
structure RI (w : World) (base bm b11 b12 : Nat) (Ds : List Nat) (T : List Tri) (k : Nat) (qv : Value) (W : World) : Prop where
  fr : Fr [] w W
  h11 : W.heap[b11]? = some (.cells #[.map (some bm)] 61 (0, 0))
  h12 : W.heap[b12]? = some (.cells #[qv] 62 (0, 0))
  map : MapAt W bm (T.map tv)
  vals : ∀ t ∈ T, Rd W encE t.2.2 t.2.1 ∧ ∀ g ∈ Value.blkOf t.2.2, ∃ C, W.heap[g]? = some (.cells C 38 (0, 0))
  que : ∃ Ql : List WS, Ql.map (·.1) = (T.drop k).map (·.1) ∧ Tail W base 58 38 encS qv Ql
  marks : ∀ D ∈ Ds, W.heap[D]? = some (.deferred (some []))
  late : w.heap.size ≤ bm ∧ w.heap.size ≤ b12 ∧ w.heap.size ≤ base
section
variable {w W W' : World} {base bm b11 b12 k : Nat} {Ds : List Nat} {T : List Tri} {qv : Value}
theorem RI.keep (h : RI w base bm b11 b12 Ds T k qv W) {l : List Nat} (hF : Fr l W W') (hl : ∀ b ∈ l, w.heap.size ≤ b ∧ b ≠ bm ∧ b ∉ Ds ∧ ∀ C E, W.heap[b]? ≠ some (.cells C E (0, 0))) : RI w base bm b11 b12 Ds T k qv W' := by
  have hc : ∀ {b : Nat} {C : Array Value} {E : TypeId}, W.heap[b]? = some (.cells C E (0, 0)) → W'.heap[b]? = some (.cells C E (0, 0)) := fun hb => hF.at_ hb fun hm => (hl _ hm).2.2.2 _ _ hb
  refine ⟨h.fr.new hF fun x hx => .inr (hl x hx).1, hc h.h11, hc h.h12, h.map.fr hF fun hm => (hl _ hm).2.1 rfl, fun t ht => ?_, ?_, fun D hD => hF.at_ (h.marks D hD) fun hm => (hl _ hm).2.2.1 hD, h.late⟩
  · obtain ⟨h1, h2⟩ := h.vals t ht
    refine ⟨h1.fr hF fun g hg hm => ?_, fun g hg => ?_⟩
    · obtain ⟨C, hC⟩ := h2 g hg
      exact (hl _ hm).2.2.2 _ _ hC
    · obtain ⟨C, hC⟩ := h2 g hg
      exact ⟨C, hc hC⟩
  · obtain ⟨Ql, h1, h2⟩ := h.que
    refine ⟨Ql, h1, h2.fr hF fun g hg hm => ?_⟩
    obtain ⟨g', off, cap, cur, rfl, _, hh, _⟩ := h2
    rw [blkOf_slice, List.mem_singleton] at hg
    subst hg
    exact (hl _ hm).2.2.2 _ _ hh
theorem RI.keep0 (h : RI w base bm b11 b12 Ds T k qv W) (hF : Fr [] W W') : RI w base bm b11 b12 Ds T k qv W' := h.keep hF (by simp)
/-- the queue lies in a block of states -/
theorem RI.quecell (h : RI w base bm b11 b12 Ds T k qv W) : ∀ g ∈ Value.blkOf qv, w.heap.size ≤ g ∧ ∃ C, W.heap[g]? = some (.cells C 58 (0, 0)) := by
  obtain ⟨Ql, h1, g', off, cap, cur, rfl, hb, hh, _⟩ := h.que
  intro g hg
  rw [blkOf_slice, List.mem_singleton] at hg
  subst hg
  exact ⟨Nat.le_trans h.late.2.2 hb, cur, hh⟩
/-- a new way is stored, and the state goes to the queue's end -/
theorem RI.more (h : RI w base bm b11 b12 Ds T k qv W) (hk : k ≤ T.length) {s' : WS} {p : List Ev} {v qv' : Value} {W1 W3 W4 : World} (hF1 : Fr [bm] W W1) (hM : MapAt W1 bm (T.map tv ++ [(s'.1, v)])) (hO : Own W1 W.heap.size 38 3 encE v p)
    (hF3 : Fr (Value.blkOf qv) W1 W3) (hT : ∀ Ql : List WS, Ql.map (·.1) = (T.drop k).map (·.1) → Tail W1 base 58 38 encS qv Ql → Tail W3 base 58 38 encS qv' (Ql ++ [s'])) (hF4 : Fr [b12] W3 W4) (h12 : W4.heap[b12]? = some (.cells #[qv'] 62 (0, 0))) :
    RI w base bm b11 b12 Ds (T ++ [(s'.1, p, v)]) k qv' W4 := by
  have hbm : ∀ {C : Array Value} {E : TypeId}, W.heap[bm]? ≠ some (.cells C E (0, 0)) := by
    obtain ⟨⟨es, cl, h1, _⟩, _⟩ := h.map
    intro C E h2; rw [h1] at h2; cases h2
  have hqc := h.quecell
  have hc : ∀ {b : Nat} {C : Array Value} {E : TypeId}, W.heap[b]? = some (.cells C E (0, 0)) → E ≠ 58 → E ≠ 62 → W4.heap[b]? = some (.cells C E (0, 0)) := fun {b C E} hb h58 h62 => by
    refine hF4.at_ (hF3.at_ (hF1.at_ hb fun hm => ?_) fun hm => ?_) fun hm => ?_
    · rw [List.mem_singleton] at hm; subst hm; exact hbm hb
    · obtain ⟨_, C', hC'⟩ := hqc _ hm; rw [hC'] at hb; cases hb; exact h58 rfl
    · rw [List.mem_singleton] at hm; subst hm; have := h.h12; rw [this] at hb; cases hb; exact h62 rfl
  have hbm3 : bm ∉ Value.blkOf qv := fun hm => by obtain ⟨_, C', hC'⟩ := hqc _ hm; exact hbm hC'
  have hbm12 : bm ≠ b12 := fun e => by subst e; exact hbm h.h12
  have hvc : ∀ g ∈ Value.blkOf v, ∃ C, W1.heap[g]? = some (.cells C 38 (0, 0)) := by
    rcases hO.2 with ⟨rfl, _⟩ | ⟨g, cap, cur, rfl, hb, hg, _⟩
    · simp [Value.blkOf]
    · intro g' hg'; rw [blkOf_slice, List.mem_singleton] at hg'; subst hg'; exact ⟨cur, hg⟩
  have hvq : ∀ g ∈ Value.blkOf v, g ∉ Value.blkOf qv := fun g hg hm => by
    obtain ⟨_, C', hC'⟩ := hqc _ hm
    have := (hO.blk g hg).1
    have := blk_lt hC'
    omega
  have hv12 : ∀ g ∈ Value.blkOf v, g ∉ [b12] := fun g hg hm => by
    rw [List.mem_singleton] at hm; subst hm
    have := (hO.blk g hg).1
    have := blk_lt h.h12
    omega
  have hfr : Fr [] w W4 := ((h.fr.new hF1 (by simpa using h.late.1)).new hF3 (fun x hx => .inr (hqc x hx).1)).new hF4 (by simpa using h.late.2.1)
  refine ⟨hfr, hc h.h11 (by decide) (by decide), h12, ?_, fun t ht => ?_, ?_, fun D hD => ?_, h.late⟩
  · rw [List.map_append]
    exact (hM.fr hF3 hbm3).fr hF4 (by simpa using hbm12)
  · rcases List.mem_append.1 ht with ht | ht
    · obtain ⟨h1, h2⟩ := h.vals t ht
      refine ⟨((h1.fr hF1 fun g hg hm => ?_).fr hF3 fun g hg hm => ?_).fr hF4 fun g hg hm => ?_, fun g hg => ?_⟩
      · obtain ⟨C, hC⟩ := h2 g hg; rw [List.mem_singleton] at hm; subst hm; exact hbm hC
      · obtain ⟨C, hC⟩ := h2 g hg; obtain ⟨_, C', hC'⟩ := hqc _ hm; rw [hC'] at hC; cases hC
      · obtain ⟨C, hC⟩ := h2 g hg; rw [List.mem_singleton] at hm; subst hm; rw [h.h12] at hC; cases hC
      · obtain ⟨C, hC⟩ := h2 g hg; exact ⟨C, hc hC (by decide) (by decide)⟩
    · simp only [List.mem_singleton] at ht
      subst ht
      refine ⟨(hO.rd.fr hF3 hvq).fr hF4 hv12, fun g hg => ?_⟩
      obtain ⟨C, hC⟩ := hvc g hg
      exact ⟨C, hF4.at_ (hF3.at_ hC (hvq g hg)) (hv12 g hg)⟩
  · obtain ⟨Ql, h1, h2⟩ := h.que
    have h2' : Tail W1 base 58 38 encS qv Ql := h2.fr hF1 fun g hg hm => by
      rw [List.mem_singleton] at hm; subst hm
      obtain ⟨_, C', hC'⟩ := hqc _ hg; exact hbm hC'
    have h3 := hT Ql h1 h2'
    refine ⟨Ql ++ [s'], ?_, h3.fr hF4 fun g hg hm => ?_⟩
    · rw [List.map_append, h1, List.drop_append_of_le_length hk, List.map_append]; rfl
    · rw [List.mem_singleton] at hm; subst hm
      have hh12 := h.h12
      have : W3.heap[g]? = some (.cells #[qv] 62 (0, 0)) := hF3.at_ (hF1.at_ hh12 (by simpa using Ne.symm hbm12)) fun hm => by obtain ⟨_, C', hC'⟩ := hqc _ hm; rw [hh12] at hC'; cases hC'
      obtain ⟨g', off, cap, cur, rfl, _, hh, _⟩ := h3
      rw [blkOf_slice, List.mem_singleton] at hg; subst hg
      rw [this] at hh; cases hh
  · refine hF4.at_ (hF3.at_ (hF1.at_ (h.marks D hD) fun hm => ?_) fun hm => ?_) fun hm => ?_
    · rw [List.mem_singleton] at hm; subst hm
      obtain ⟨⟨es, cl, h1, _⟩, _⟩ := h.map
      have := h.marks _ hD; rw [h1] at this; cases this
    · obtain ⟨_, C', hC'⟩ := hqc _ hm; have := h.marks D hD; rw [hC'] at this; cases this
    · rw [List.mem_singleton] at hm; subst hm; have := h.marks _ hD; rw [h.h12] at this; cases this
/-- between two rounds -/
def IR (w : World) (base bm b11 b12 b13 B : Nat) (Ds : List Nat) (s : S) (p : List Ev) (T0 : List Tri) (k : Nat) (pre : List (Nx s)) (W : World) : Prop :=
  ∃ T qv, RI w base bm b11 b12 Ds T k qv W ∧ T.map tw = visits p (T0.map tw) (pre.map (·.1)) ∧ W.heap[b13]? = some (.cells s.arr 58 (0, 0)) ∧ ∀ g ∈ Value.blkOf qv, g ≠ b13 ∧ g ≠ B
theorem IR.own {w : World} {base bm b11 b12 b13 B k : Nat} {Ds : List Nat} {s : S} {p : List Ev} {T0 : List Tri} {B0 : Nat} (hw : w.heap.size ≤ B0) (hbm : bm < B0) (hDs : ∀ D ∈ Ds, D < B0) : OwnFrom B0 (IR w base bm b11 b12 b13 B Ds s p T0 k) := by
  rintro pre W W' row ⟨T, qv, h1, h2, h3, h4⟩ hg hr
  have hF := Fr.grown hg
  have hl : ∀ b ∈ row.toList, B0 ≤ b ∧ ∀ C E, W.heap[b]? ≠ some (.cells C E (0, 0)) := fun b hb => by
    obtain ⟨r, rfl⟩ : ∃ r, row = some r := by cases row with | none => simp at hb | some r => exact ⟨r, rfl⟩
    simp at hb; subst hb
    obtain ⟨h5, o, h6, h7⟩ := hr _ rfl
    exact ⟨h5, fun C E hc => by rw [h6] at hc; cases hc; simp [Obj.isCells] at h7⟩
  refine ⟨T, qv, h1.keep hF fun b hb => ⟨by have := (hl b hb).1; omega, fun e => by have := (hl b hb).1; omega, fun hD => by have := (hl b hb).1; have := hDs _ hD; omega, (hl b hb).2⟩, h2, hF.at_ h3 fun hm => (hl _ hm).2 _ _ h3, h4⟩
end
end Go.Proofs.YtklnbcofmhlkdaaDoor
