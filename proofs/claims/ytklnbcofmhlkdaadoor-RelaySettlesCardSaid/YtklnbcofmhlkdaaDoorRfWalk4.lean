/- cobleref10.handle: the join of its cases. Printed by gen_rjoin.py -/
import Derived.Test.YtklnbcofmhlkdaaDoorRfWalk4a
import Derived.Test.YtklnbcofmhlkdaaDoorRfWalk4b
import Derived.Test.YtklnbcofmhlkdaaDoorRfWalk4c
import Derived.Test.YtklnbcofmhlkdaaDoorRfWalk4d
set_option linter.unusedVariables false
set_option linter.unusedSimpArgs false
namespace Go.Proofs.YtklnbcofmhlkdaaDoor
open Go.RowKit Rl

theorem setC_self (s : S) (i : Int) (hi : s.isC i) (c : Ctr) (h : s.getC i = c) : s.setC i c = s := by
  unfold S.isC at hi
  have hl : i.toNat < s.cen.length := by omega
  have e : s.cen.set i.toNat c = s.cen := by
    rw [← h]
    refine List.ext_getElem? fun j => ?_
    rw [List.getElem?_set]
    split
    · rename_i e; subst e; simp [hl, S.getC, List.getD]
    · rfl
  simp [S.setC, e]

theorem rhandle_any (cv fv : Value) (base : Nat) (m : Msg) (s : S) (w : World) (h : OwnS w base cv fv s) (hb : base ≤ w.heap.size) (hok : Ok s) (hr : s.room) (hf : s.isC m.frm) (hto : s.isC m.to) (hu : 0 ≤ m.turn ∧ m.turn ≤ 9) :
    Calls Tryd.prog 27 #[.agg #[cv, fv], .agg (encM m).toArray] w (RPost base cv fv (s.hdl m) w) := by
  obtain ⟨mk, mf, mo, mt⟩ := m
  simp only at hf hto hu
  show Calls Tryd.prog 27 #[.agg #[cv, fv], .agg #[.int .i64 mk, .int .i64 mf, .int .i64 mo, .int .i64 mt]] w _
  have hx : s.getC mo = s.getC mo := rfl
  generalize hX : s.getC mo = x at hx
  obtain ⟨xi, xw, xt⟩ := x
  unfold S.hdl
  simp only [hX, S.same]
  by_cases hw : xw = mf
  · subst hw
    by_cases k1 : mk = 1
    · subst k1
      by_cases i0 : xi = 0
      · subst i0
        by_cases hl : xt < mt
        · rw [if_pos (by simp [hl])]; exact rhandle_1_0_1l1 cv fv base _ _ _ _ s w h hb hok hX hr hf hto hu hl
        · rw [if_neg (by simp [hl]), if_neg (by simp), if_neg (by simp), if_neg (by simp)]; exact rhandle_1_0_1l0 cv fv base _ _ _ _ s w h hb hok hX hr hf hto hu (by simpa using hl)
      by_cases i4 : xi = 4
      · subst i4
        by_cases hl : xt < mt
        · rw [if_pos (by simp [hl])]; exact rhandle_1_4_1l1 cv fv base _ _ _ _ s w h hb hok hX hr hf hto hu hl
        · rw [if_neg (by simp [hl]), if_neg (by simp), if_neg (by simp), if_neg (by simp)]; exact rhandle_1_4_1l0 cv fv base _ _ _ _ s w h hb hok hX hr hf hto hu (by simpa using hl)
      by_cases i3 : xi = 3
      · subst i3
        by_cases ht : xt = mt
        · subst ht; rw [if_neg (by simp), if_pos (by simp)]; exact rhandle_1_3_1t1 cv fv base _ _ _ s w h hb hok hX hr hf hto hu
        · rw [if_neg (by simp), if_neg (by simp [ht]), if_neg (by simp), if_neg (by simp)]; exact rhandle_1_3_1t0 cv fv base _ _ _ _ s w h hb hok hX hr hf hto hu (by simpa using ht)
      rw [if_neg (by simp [i0, i4]), if_neg (by simp [i3]), if_neg (by simp), if_neg (by simp)]; exact rhandle_1_n043_1 cv fv base _ _ _ _ _ s w h hb hok hX hr hf hto hu (by simpa using i0) (by simpa using i4) (by simpa using i3)
    by_cases k2 : mk = 2
    · subst k2
      by_cases i2 : xi = 2
      · subst i2
        by_cases ht : xt = mt
        · subst ht; rw [if_neg (by simp), if_neg (by simp), if_pos (by simp)]; exact rhandle_2_2_1t1 cv fv base _ _ _ s w h hb hok hX hr hf hto hu
        · rw [if_neg (by simp), if_neg (by simp), if_neg (by simp [ht]), if_neg (by simp)]; exact rhandle_2_2_1t0 cv fv base _ _ _ _ s w h hb hok hX hr hf hto hu (by simpa using ht)
      by_cases i4 : xi = 4
      · subst i4
        by_cases ht : xt = mt
        · subst ht; rw [if_neg (by simp), if_neg (by simp), if_pos (by simp)]; rw [setC_self s mo hto _ hX]; exact rhandle_2_4_1t1 cv fv base _ _ _ s w h hb hok hX hr hf hto hu
        · rw [if_neg (by simp), if_neg (by simp), if_neg (by simp [ht]), if_neg (by simp)]; exact rhandle_2_4_1t0 cv fv base _ _ _ _ s w h hb hok hX hr hf hto hu (by simpa using ht)
      rw [if_neg (by simp), if_neg (by simp), if_neg (by simp [i2, i4]), if_neg (by simp)]; exact rhandle_2_n24_1 cv fv base _ _ _ _ _ s w h hb hok hX hr hf hto hu (by simpa using i2) (by simpa using i4)
    by_cases k3 : mk = 3
    · subst k3
      by_cases i3 : xi = 3
      · subst i3
        by_cases ht : xt = mt
        · subst ht; rw [if_neg (by simp), if_neg (by simp), if_neg (by simp), if_pos (by simp)]; exact rhandle_3_3_1t1 cv fv base _ _ _ s w h hb hok hX hr hf hto hu
        · rw [if_neg (by simp), if_neg (by simp), if_neg (by simp), if_neg (by simp [ht])]; exact rhandle_3_3_1t0 cv fv base _ _ _ _ s w h hb hok hX hr hf hto hu (by simpa using ht)
      rw [if_neg (by simp), if_neg (by simp), if_neg (by simp), if_neg (by simp [i3])]; exact rhandle_3_n3_1 cv fv base _ _ _ _ _ s w h hb hok hX hr hf hto hu (by simpa using i3)
    rw [if_neg (by simp [k1]), if_neg (by simp [k1]), if_neg (by simp [k2]), if_neg (by simp [k3])]; exact rhandle_n_any_1 cv fv base _ _ _ _ _ _ s w h hb hok hX hr hf hto hu (by simpa using k1) (by simpa using k2) (by simpa using k3)
  · by_cases k1 : mk = 1
    · subst k1
      by_cases i0 : xi = 0
      · subst i0
        by_cases hl : xt < mt
        · rw [if_pos (by simp [hl])]; exact rhandle_1_0_0l1 cv fv base _ _ _ _ _ s w h hb hok hX hr hf hto hu (by simpa using hw) hl
        · rw [if_neg (by simp [hl]), if_neg (by simp), if_neg (by simp), if_neg (by simp)]; exact rhandle_1_0_0l0 cv fv base _ _ _ _ _ s w h hb hok hX hr hf hto hu (by simpa using hw) (by simpa using hl)
      by_cases i4 : xi = 4
      · subst i4
        by_cases hl : xt < mt
        · rw [if_pos (by simp [hl])]; exact rhandle_1_4_0l1 cv fv base _ _ _ _ _ s w h hb hok hX hr hf hto hu (by simpa using hw) hl
        · rw [if_neg (by simp [hl]), if_neg (by simp), if_neg (by simp), if_neg (by simp)]; exact rhandle_1_4_0l0 cv fv base _ _ _ _ _ s w h hb hok hX hr hf hto hu (by simpa using hw) (by simpa using hl)
      by_cases i3 : xi = 3
      · subst i3
        rw [if_neg (by simp), if_neg (by simp [hw]), if_neg (by simp), if_neg (by simp)]; exact rhandle_1_3_0 cv fv base _ _ _ _ _ s w h hb hok hX hr hf hto hu (by simpa using hw)
      rw [if_neg (by simp [i0, i4]), if_neg (by simp [i3]), if_neg (by simp), if_neg (by simp)]; exact rhandle_1_n043_0 cv fv base _ _ _ _ _ _ s w h hb hok hX hr hf hto hu (by simpa using i0) (by simpa using i4) (by simpa using i3) (by simpa using hw)
    by_cases k2 : mk = 2
    · subst k2
      by_cases i2 : xi = 2
      · subst i2
        rw [if_neg (by simp), if_neg (by simp), if_neg (by simp [hw]), if_neg (by simp)]; exact rhandle_2_2_0 cv fv base _ _ _ _ _ s w h hb hok hX hr hf hto hu (by simpa using hw)
      by_cases i4 : xi = 4
      · subst i4
        rw [if_neg (by simp), if_neg (by simp), if_neg (by simp [hw]), if_neg (by simp)]; exact rhandle_2_4_0 cv fv base _ _ _ _ _ s w h hb hok hX hr hf hto hu (by simpa using hw)
      rw [if_neg (by simp), if_neg (by simp), if_neg (by simp [i2, i4]), if_neg (by simp)]; exact rhandle_2_n24_0 cv fv base _ _ _ _ _ _ s w h hb hok hX hr hf hto hu (by simpa using i2) (by simpa using i4) (by simpa using hw)
    by_cases k3 : mk = 3
    · subst k3
      by_cases i3 : xi = 3
      · subst i3
        rw [if_neg (by simp), if_neg (by simp), if_neg (by simp), if_neg (by simp [hw])]; exact rhandle_3_3_0 cv fv base _ _ _ _ _ s w h hb hok hX hr hf hto hu (by simpa using hw)
      rw [if_neg (by simp), if_neg (by simp), if_neg (by simp), if_neg (by simp [i3])]; exact rhandle_3_n3_0 cv fv base _ _ _ _ _ _ s w h hb hok hX hr hf hto hu (by simpa using i3) (by simpa using hw)
    rw [if_neg (by simp [k1]), if_neg (by simp [k1]), if_neg (by simp [k2]), if_neg (by simp [k3])]; exact rhandle_n_any_0 cv fv base _ _ _ _ _ _ _ s w h hb hok hX hr hf hto hu (by simpa using k1) (by simpa using k2) (by simpa using k3) (by simpa using hw)

end Go.Proofs.YtklnbcofmhlkdaaDoor
