/- relay.handle: the join of its cases. Printed by gen_handle.py · relay.offer, relay.repeat · relay.apply · relay.begin, relay.settled -/
import Derived.Test.YtklnbcofmhlkdaaDoorRlWalk3a
import Derived.Test.YtklnbcofmhlkdaaDoorRlWalk3b
import Derived.Test.YtklnbcofmhlkdaaDoorRlWalk3c
import Derived.Test.YtklnbcofmhlkdaaDoorRlWalk3d
import Derived.Test.YtklnbcofmhlkdaaDoorRlA
set_option linter.unusedVariables false
set_option linter.unusedSimpArgs false
namespace Go.Proofs.YtklnbcofmhlkdaaDoor
open Go.RowKit Rl

theorem handle_any (b : Nat) (m : Msg) (s : S) (w : World) (h : St w b s) (hr : s.room) (hf : s.isC m.frm) (hto : s.isC m.to) (hu : 0 ≤ m.turn ∧ m.turn ≤ 9) :
    Calls Tryd.prog 44 #[.pointer (some ⟨b, 0, none⟩), .agg (encM m).toArray] w fun e w' => e = .returned (.tuple #[]) ∧ St w' b (s.hdl m) ∧ Fr [b] w w' := by
  obtain ⟨mk, mf, mo, mt⟩ := m
  simp only at hf hto hu
  show Calls Tryd.prog 44 #[.pointer (some ⟨b, 0, none⟩), .agg #[.int .i64 mk, .int .i64 mf, .int .i64 mo, .int .i64 mt]] w _
  have hx : s.getC mo = s.getC mo := rfl
  generalize hX : s.getC mo = x at hx
  obtain ⟨xi, xw, xt⟩ := x
  unfold S.hdl
  simp only [hX, S.same]
  by_cases hw : xw = mf
  · subst hw
    by_cases k1 : mk = 1
    · subst k1
      by_cases i0 : xi = 0
      · subst i0
        by_cases hl : xt < mt
        · rw [if_pos (by simp [hl])]; exact handle_1_0_1l1 b _ _ _ _ s w h hX hr hf hto hu hl
        · rw [if_neg (by simp [hl]), if_neg (by simp), if_neg (by simp), if_neg (by simp)]; exact handle_1_0_1l0 b _ _ _ _ s w h hX hr hf hto hu (by simpa using hl)
      by_cases i4 : xi = 4
      · subst i4
        by_cases hl : xt < mt
        · rw [if_pos (by simp [hl])]; exact handle_1_4_1l1 b _ _ _ _ s w h hX hr hf hto hu hl
        · rw [if_neg (by simp [hl]), if_neg (by simp), if_neg (by simp), if_neg (by simp)]; exact handle_1_4_1l0 b _ _ _ _ s w h hX hr hf hto hu (by simpa using hl)
      by_cases i3 : xi = 3
      · subst i3
        by_cases ht : xt = mt
        · subst ht; rw [if_neg (by simp), if_pos (by simp)]; exact handle_1_3_1t1 b _ _ _ s w h hX hr hf hto hu
        · rw [if_neg (by simp), if_neg (by simp [ht]), if_neg (by simp), if_neg (by simp)]; exact handle_1_3_1t0 b _ _ _ _ s w h hX hr hf hto hu (by simpa using ht)
      rw [if_neg (by simp [i0, i4]), if_neg (by simp [i3]), if_neg (by simp), if_neg (by simp)]; exact handle_1_n043_1 b _ _ _ _ _ s w h hX hr hf hto hu (by simpa using i0) (by simpa using i4) (by simpa using i3)
    by_cases k2 : mk = 2
    · subst k2
      by_cases i2 : xi = 2
      · subst i2
        by_cases ht : xt = mt
        · subst ht; rw [if_neg (by simp), if_neg (by simp), if_pos (by simp)]; exact handle_2_2_1t1 b _ _ _ s w h hX hr hf hto hu
        · rw [if_neg (by simp), if_neg (by simp), if_neg (by simp [ht]), if_neg (by simp)]; exact handle_2_2_1t0 b _ _ _ _ s w h hX hr hf hto hu (by simpa using ht)
      by_cases i4 : xi = 4
      · subst i4
        by_cases ht : xt = mt
        · subst ht; rw [if_neg (by simp), if_neg (by simp), if_pos (by simp)]; exact handle_2_4_1t1 b _ _ _ s w h hX hr hf hto hu
        · rw [if_neg (by simp), if_neg (by simp), if_neg (by simp [ht]), if_neg (by simp)]; exact handle_2_4_1t0 b _ _ _ _ s w h hX hr hf hto hu (by simpa using ht)
      rw [if_neg (by simp), if_neg (by simp), if_neg (by simp [i2, i4]), if_neg (by simp)]; exact handle_2_n24_1 b _ _ _ _ _ s w h hX hr hf hto hu (by simpa using i2) (by simpa using i4)
    by_cases k3 : mk = 3
    · subst k3
      by_cases i3 : xi = 3
      · subst i3
        by_cases ht : xt = mt
        · subst ht; rw [if_neg (by simp), if_neg (by simp), if_neg (by simp), if_pos (by simp)]; exact handle_3_3_1t1 b _ _ _ s w h hX hr hf hto hu
        · rw [if_neg (by simp), if_neg (by simp), if_neg (by simp), if_neg (by simp [ht])]; exact handle_3_3_1t0 b _ _ _ _ s w h hX hr hf hto hu (by simpa using ht)
      rw [if_neg (by simp), if_neg (by simp), if_neg (by simp), if_neg (by simp [i3])]; exact handle_3_n3_1 b _ _ _ _ _ s w h hX hr hf hto hu (by simpa using i3)
    rw [if_neg (by simp [k1]), if_neg (by simp [k1]), if_neg (by simp [k2]), if_neg (by simp [k3])]; exact handle_n_any_1 b _ _ _ _ _ _ s w h hX hr hf hto hu (by simpa using k1) (by simpa using k2) (by simpa using k3)
  · by_cases k1 : mk = 1
    · subst k1
      by_cases i0 : xi = 0
      · subst i0
        by_cases hl : xt < mt
        · rw [if_pos (by simp [hl])]; exact handle_1_0_0l1 b _ _ _ _ _ s w h hX hr hf hto hu (by simpa using hw) hl
        · rw [if_neg (by simp [hl]), if_neg (by simp), if_neg (by simp), if_neg (by simp)]; exact handle_1_0_0l0 b _ _ _ _ _ s w h hX hr hf hto hu (by simpa using hw) (by simpa using hl)
      by_cases i4 : xi = 4
      · subst i4
        by_cases hl : xt < mt
        · rw [if_pos (by simp [hl])]; exact handle_1_4_0l1 b _ _ _ _ _ s w h hX hr hf hto hu (by simpa using hw) hl
        · rw [if_neg (by simp [hl]), if_neg (by simp), if_neg (by simp), if_neg (by simp)]; exact handle_1_4_0l0 b _ _ _ _ _ s w h hX hr hf hto hu (by simpa using hw) (by simpa using hl)
      by_cases i3 : xi = 3
      · subst i3
        rw [if_neg (by simp), if_neg (by simp [hw]), if_neg (by simp), if_neg (by simp)]; exact handle_1_3_0 b _ _ _ _ _ s w h hX hr hf hto hu (by simpa using hw)
      rw [if_neg (by simp [i0, i4]), if_neg (by simp [i3]), if_neg (by simp), if_neg (by simp)]; exact handle_1_n043_0 b _ _ _ _ _ _ s w h hX hr hf hto hu (by simpa using i0) (by simpa using i4) (by simpa using i3) (by simpa using hw)
    by_cases k2 : mk = 2
    · subst k2
      by_cases i2 : xi = 2
      · subst i2
        rw [if_neg (by simp), if_neg (by simp), if_neg (by simp [hw]), if_neg (by simp)]; exact handle_2_2_0 b _ _ _ _ _ s w h hX hr hf hto hu (by simpa using hw)
      by_cases i4 : xi = 4
      · subst i4
        rw [if_neg (by simp), if_neg (by simp), if_neg (by simp [hw]), if_neg (by simp)]; exact handle_2_4_0 b _ _ _ _ _ s w h hX hr hf hto hu (by simpa using hw)
      rw [if_neg (by simp), if_neg (by simp), if_neg (by simp [i2, i4]), if_neg (by simp)]; exact handle_2_n24_0 b _ _ _ _ _ _ s w h hX hr hf hto hu (by simpa using i2) (by simpa using i4) (by simpa using hw)
    by_cases k3 : mk = 3
    · subst k3
      by_cases i3 : xi = 3
      · subst i3
        rw [if_neg (by simp), if_neg (by simp), if_neg (by simp), if_neg (by simp [hw])]; exact handle_3_3_0 b _ _ _ _ _ s w h hX hr hf hto hu (by simpa using hw)
      rw [if_neg (by simp), if_neg (by simp), if_neg (by simp), if_neg (by simp [i3])]; exact handle_3_n3_0 b _ _ _ _ _ _ s w h hX hr hf hto hu (by simpa using i3) (by simpa using hw)
    rw [if_neg (by simp [k1]), if_neg (by simp [k1]), if_neg (by simp [k2]), if_neg (by simp [k3])]; exact handle_n_any_0 b _ _ _ _ _ _ _ s w h hX hr hf hto hu (by simpa using k1) (by simpa using k2) (by simpa using k3) (by simpa using hw)

end Go.Proofs.YtklnbcofmhlkdaaDoor
namespace Go.Proofs.YtklnbcofmhlkdaaDoor
open Go.RowKit Rl

theorem room_yes (b : Nat) (s : S) (w : World) (h : St w b s) (hr : s.room) :
    Calls Tryd.prog 46 #[.pointer (some ⟨b, 0, none⟩)] w fun e w' => e = .returned (.bool true) ∧ w = w' :=
  (room_any b s w h).mono fun e w' ⟨h1, h2⟩ => ⟨by rw [h1]; simp [hr], h2⟩
theorem room_no (b : Nat) (s : S) (w : World) (h : St w b s) (hr : ¬ s.room) :
    Calls Tryd.prog 46 #[.pointer (some ⟨b, 0, none⟩)] w fun e w' => e = .returned (.bool false) ∧ w = w' :=
  (room_any b s w h).mono fun e w' ⟨h1, h2⟩ => ⟨by rw [h1]; simp [hr], h2⟩

def OptPost (b : Nat) (s : S) (o : Option S) (w : World) (e : Ending) (w' : World) : Prop :=
  e = .returned (.bool o.isSome) ∧ St w' b (o.getD s) ∧ Fr [b] w w'

set_option maxRecDepth 100000 in
set_option maxHeartbeats 1000000 in
theorem offer_no (b : Nat) (x y : Int) (s : S) (w : World) (h : St w b s)
    (hno : ¬ (s.isC x ∧ s.isC y ∧ x ≠ y ∧ s.room ∧ (s.getC x).is = 1 ∧ (s.getC x).turn < 9)) :
    Calls Tryd.prog 42 #[.pointer (some ⟨b, 0, none⟩), .int .i64 x, .int .i64 y] w fun e w' => e = .returned (.bool false) ∧ w = w' := by
  have H := Lib.hid h
  have hn : w.cell? ⟨b, 0, none⟩ = some (.int .i64 s.cen.length) := by rw [cell_blk h.1, arr_n]
  have h4 := h.2.n4
  by_cases x0 : x < 0
  · clear hno h
    go_enter Tryd.func42, Tryd.ntmps42
    go_wp2
    go_ret
    exact ⟨rfl, rfl⟩
  by_cases xn : (s.cen.length : Int) ≤ x
  · clear hno h
    go_enter Tryd.func42, Tryd.ntmps42
    go_wp2
    go_ret
    exact ⟨rfl, rfl⟩
  by_cases y0 : y < 0
  · clear hno h
    go_enter Tryd.func42, Tryd.ntmps42
    go_wp2
    go_ret
    exact ⟨rfl, rfl⟩
  by_cases yn : (s.cen.length : Int) ≤ y
  · clear hno h
    go_enter Tryd.func42, Tryd.ntmps42
    go_wp2
    go_ret
    exact ⟨rfl, rfl⟩
  by_cases xy : x = y
  · subst xy
    clear hno h
    go_enter Tryd.func42, Tryd.ntmps42
    go_wp2
    go_ret
    exact ⟨rfl, rfl⟩
  have hxy : (x == y) = false := by simpa using xy
  have hx : s.isC x := ⟨by omega, by omega⟩
  have hy : s.isC y := ⟨by omega, by omega⟩
  by_cases hr : s.room
  · have c0 : w.cell? ⟨b, 1 + x.toNat * 3, none⟩ = some (I (s.getC x).is) := by rw [cell_blk h.1]; exact arr_cen h.2 x hx 0 (by omega)
    have c2 : w.cell? ⟨b, 1 + x.toNat * 3 + 2, none⟩ = some (I (s.getC x).turn) := by rw [cell_blk h.1]; exact arr_cen h.2 x hx 2 (by omega)
    have x4 : x < 4 := by omega
    have x0' : 0 ≤ x := by omega
    by_cases hi : (s.getC x).is = 1
    · have ht : 9 ≤ (s.getC x).turn := by
        by_cases h9 : (s.getC x).turn < 9
        · exact absurd ⟨hx, hy, xy, hr, hi, h9⟩ hno
        · omega
      rw [hi] at c0
      have HR := Lib.hid hr
      clear hno h hx hy hi hr
      go_enter Tryd.func42, Tryd.ntmps42
      go_wp2_with (go_at_call 46; refine (room_yes _ s _ H.out HR.out).mono ?_; rintro e w' ⟨rfl, rfl⟩)
      go_ret
      exact ⟨rfl, rfl⟩
    · have hi' : ((s.getC x).is != 1) = true := by simpa using hi
      have HR := Lib.hid hr
      clear hno h hx hy hi hr
      go_enter Tryd.func42, Tryd.ntmps42
      go_wp2_with (go_at_call 46; refine (room_yes _ s _ H.out HR.out).mono ?_; rintro e w' ⟨rfl, rfl⟩)
      go_ret
      exact ⟨rfl, rfl⟩
  · have HR := Lib.hid hr
    clear hno h hx hy hr
    go_enter Tryd.func42, Tryd.ntmps42
    go_wp2_with (go_at_call 46; refine (room_no _ s _ H.out HR.out).mono ?_; rintro e w' ⟨rfl, rfl⟩)
    go_ret
    exact ⟨rfl, rfl⟩

set_option maxRecDepth 100000 in
set_option maxHeartbeats 1000000 in
theorem offer_yes (b : Nat) (x y : Int) (s : S) (w : World) (h : St w b s) (hx : s.isC x) (hy : s.isC y) (xy : x ≠ y) (hr : s.room) (hi : (s.getC x).is = 1) (ht : (s.getC x).turn < 9) :
    Calls Tryd.prog 42 #[.pointer (some ⟨b, 0, none⟩), .int .i64 x, .int .i64 y] w fun e w' => e = .returned (.bool true) ∧ St w' b ((s.setC x ⟨2, y, (s.getC x).turn + 1⟩).send 1 x y) ∧ Fr [b] w w' := by
  have H := Lib.hid h
  have hn : w.cell? ⟨b, 0, none⟩ = some (.int .i64 s.cen.length) := by rw [cell_blk h.1, arr_n]
  have c0 : w.cell? ⟨b, 1 + x.toNat * 3, none⟩ = some (I (s.getC x).is) := by rw [cell_blk h.1]; exact arr_cen h.2 x hx 0 (by omega)
  have c2 : w.cell? ⟨b, 1 + x.toNat * 3 + 2, none⟩ = some (I (s.getC x).turn) := by rw [cell_blk h.1]; exact arr_cen h.2 x hx 2 (by omega)
  have x0 : 0 ≤ x := hx.1
  have xn : x < s.cen.length := hx.2
  have y0 : 0 ≤ y := hy.1
  have yn : y < s.cen.length := hy.2
  have x4 : x < 4 := by have := h.2.n4; omega
  have hxy : (x == y) = false := by simpa using xy
  have g := h.2.getC hx
  have t0 : 0 ≤ (s.getC x).turn := g.2.1
  have HOK : Hid (Ok (s.setC x ⟨2, y, (s.getC x).turn + 1⟩)) := h.2.setC x ⟨2, y, (s.getC x).turn + 1⟩ ⟨hy, by simp; omega, by simp; omega⟩
  rw [hi] at c0
  have HR := Lib.hid hr
  have HXY : Hid (s.isC x ∧ s.isC y) := ⟨hx, hy⟩
  clear h hx hy hi hr g xy
  go_enter Tryd.func42, Tryd.ntmps42
  go_wp2_with (first
    | (go_at_call 46; refine (room_yes _ s _ H.out HR.out).mono ?_; rintro e w' ⟨rfl, rfl⟩)
    | (refine wpList_st rfl 46 (.tmp 65) (.tmp 64) rfl b (1 + x.toNat * 3) (.agg #[I 2, I y, I ((s.getC x).turn + 1)]) (by first | rfl | simp [Act.eval]) (by first | rfl | simp [Act.eval]) 58 s.arr H.out.1 info46 (by rw [arr_size H.out.2]; simp [Value.cells]; omega) (by simp [Value.cells, Value.oneCell']) (s.setC x ⟨2, y, (s.getC x).turn + 1⟩).arr (setC_arr s H.out.2 x HXY.out.1 ⟨2, y, (s.getC x).turn + 1⟩) ?_; intro w1 hF1 hB1; have HF1 := Lib.hid hF1; have HB1 := Lib.hid hB1; clear hF1 hB1)
    | (go_at_call 52; refine (send_any b 1 x y (s.setC x ⟨2, y, (s.getC x).turn + 1⟩) _ (by exact ⟨HB1.out, HOK.out⟩) ((isC_setC _ _ _ _).2 HXY.out.1) HR.out ((isC_setC _ _ _ _).2 HXY.out.2)).mono ?_; rintro e w2 ⟨rfl, hS2, hF2⟩; have HS2 := Lib.hid hS2; have HF2 := Lib.hid hF2; clear hS2 hF2))
  go_ret
  exact ⟨rfl, HS2.out, HF1.out.trans HF2.out⟩

theorem offer_any (b : Nat) (x y : Int) (s : S) (w : World) (h : St w b s) :
    Calls Tryd.prog 42 #[.pointer (some ⟨b, 0, none⟩), .int .i64 x, .int .i64 y] w (OptPost b s (s.offer x y) w) := by
  by_cases hc : s.isC x ∧ s.isC y ∧ x ≠ y ∧ s.room ∧ (s.getC x).is = 1 ∧ (s.getC x).turn < 9
  · obtain ⟨hx, hy, xy, hr, hi, ht⟩ := hc
    refine (offer_yes b x y s w h hx hy xy hr hi ht).mono ?_
    rintro e w' ⟨rfl, h2, h3⟩
    have e1 : s.offer x y = some ((s.setC x ⟨2, y, (s.getC x).turn + 1⟩).send 1 x y) := if_pos ⟨hx, hy, xy, hr, hi, ht⟩
    rw [e1]
    exact ⟨rfl, h2, h3⟩
  · refine (offer_no b x y s w h hc).mono ?_
    rintro e w' ⟨rfl, rfl⟩
    have e1 : s.offer x y = none := if_neg hc
    rw [e1]
    exact ⟨rfl, h, Fr.refl _ _⟩

set_option maxRecDepth 100000 in
set_option maxHeartbeats 1000000 in
theorem repeat_no (b : Nat) (x : Int) (s : S) (w : World) (h : St w b s) (hno : ¬ (s.isC x ∧ s.room)) :
    Calls Tryd.prog 43 #[.pointer (some ⟨b, 0, none⟩), .int .i64 x] w fun e w' => e = .returned (.bool false) ∧ w = w' := by
  have H := Lib.hid h
  have hn : w.cell? ⟨b, 0, none⟩ = some (.int .i64 s.cen.length) := by rw [cell_blk h.1, arr_n]
  have h4 := h.2.n4
  by_cases x0 : x < 0
  · clear hno h
    go_enter Tryd.func43, Tryd.ntmps43
    go_wp2
    go_ret
    exact ⟨rfl, rfl⟩
  by_cases xn : (s.cen.length : Int) ≤ x
  · clear hno h
    go_enter Tryd.func43, Tryd.ntmps43
    go_wp2
    go_ret
    exact ⟨rfl, rfl⟩
  have HR : Hid (¬ s.room) := fun hr => hno ⟨⟨by omega, by omega⟩, hr⟩
  clear hno h
  go_enter Tryd.func43, Tryd.ntmps43
  go_wp2_with (go_at_call 46; refine (room_no _ s _ H.out HR.out).mono ?_; rintro e w' ⟨rfl, rfl⟩)
  go_ret
  exact ⟨rfl, rfl⟩

set_option maxRecDepth 100000 in
set_option maxHeartbeats 1000000 in
theorem repeat_yes (b : Nat) (x : Int) (s : S) (w : World) (h : St w b s) (hx : s.isC x) (hr : s.room) :
    Calls Tryd.prog 43 #[.pointer (some ⟨b, 0, none⟩), .int .i64 x] w (OptPost b s (s.again x) w) := by
  have H := Lib.hid h
  have hn : w.cell? ⟨b, 0, none⟩ = some (.int .i64 s.cen.length) := by rw [cell_blk h.1, arr_n]
  have x0 : 0 ≤ x := hx.1
  have xn : x < s.cen.length := hx.2
  have x4 : x < 4 := by have := h.2.n4; omega
  have hb := blk_lt h.1
  have HR := Lib.hid hr
  have HX := Lib.hid hx
  have e0 : s.again x = if (s.getC x).is = 2 then some (s.send 1 x (s.getC x).wth) else if (s.getC x).is = 3 then some (s.send 2 x (s.getC x).wth) else none := if_pos ⟨hx, hr⟩
  have H0 := Lib.hid e0
  clear h hr hx e0
  by_cases i2 : (s.getC x).is = 2
  · have HP : Hid (s.again x = some (s.send 1 x (s.getC x).wth)) := by show _ = _; rw [H0.out, if_pos i2]
    have HI := Lib.hid i2
    clear i2
    go_enter Tryd.func43, Tryd.ntmps43
    go_wp2_with (first
      | (go_at_call 46; refine (room_yes _ s _ H.out HR.out).mono ?_; rintro e w' ⟨rfl, rfl⟩)
      | (refine wpList_ldm rfl 46 (.tmp 25) rfl b (1 + x.toNat * 3) (by first | rfl | simp [Act.eval]) 58 s.arr H.out.1 [I 2, I (s.getC x).wth, I (s.getC x).turn] (fun j hj => (arr_cen H.out.2 x HX.out j hj).trans (by simp [encC, HI.out])) _ Tryd.underlying46 rfl info46 ?_)
      | (go_at_call 52; refine (send_any b 1 x (s.getC x).wth s _ (by exact ⟨alloc_at H.out.1 _, H.out.2⟩) HX.out HR.out (H.out.2.getC HX.out).1).mono ?_; rintro e w2 ⟨rfl, hS2, hF2⟩; have HS2 := Lib.hid hS2; have HF2 := Lib.hid hF2; clear hS2 hF2))
    go_ret
    refine ⟨?_, ?_, ((Fr.refl _ _).alloc _).trans HF2.out⟩
    · rw [HP.out]; rfl
    · rw [HP.out]; exact HS2.out
  by_cases i3 : (s.getC x).is = 3
  · have HP : Hid (s.again x = some (s.send 2 x (s.getC x).wth)) := by show _ = _; rw [H0.out, if_neg i2, if_pos i3]
    have HI := Lib.hid i3
    clear i3 i2
    go_enter Tryd.func43, Tryd.ntmps43
    go_wp2_with (first
      | (go_at_call 46; refine (room_yes _ s _ H.out HR.out).mono ?_; rintro e w' ⟨rfl, rfl⟩)
      | (refine wpList_ldm rfl 46 (.tmp 25) rfl b (1 + x.toNat * 3) (by first | rfl | simp [Act.eval]) 58 s.arr H.out.1 [I 3, I (s.getC x).wth, I (s.getC x).turn] (fun j hj => (arr_cen H.out.2 x HX.out j hj).trans (by simp [encC, HI.out])) _ Tryd.underlying46 rfl info46 ?_)
      | (go_at_call 52; refine (send_any b 2 x (s.getC x).wth s _ (by exact ⟨alloc_at H.out.1 _, H.out.2⟩) HX.out HR.out (H.out.2.getC HX.out).1).mono ?_; rintro e w2 ⟨rfl, hS2, hF2⟩; have HS2 := Lib.hid hS2; have HF2 := Lib.hid hF2; clear hS2 hF2))
    go_ret
    refine ⟨?_, ?_, ((Fr.refl _ _).alloc _).trans HF2.out⟩
    · rw [HP.out]; rfl
    · rw [HP.out]; exact HS2.out
  have HP : Hid (s.again x = none) := by show _ = _; rw [H0.out, if_neg i2, if_neg i3]
  have j2 : ((s.getC x).is == 2) = false := by simpa using i2
  have j3 : ((s.getC x).is == 3) = false := by simpa using i3
  clear i3 i2
  go_enter Tryd.func43, Tryd.ntmps43
  go_wp2_with (first
    | (go_at_call 46; refine (room_yes _ s _ H.out HR.out).mono ?_; rintro e w' ⟨rfl, rfl⟩)
    | (refine wpList_ldm rfl 46 (.tmp 25) rfl b (1 + x.toNat * 3) (by first | rfl | simp [Act.eval]) 58 s.arr H.out.1 [I (s.getC x).is, I (s.getC x).wth, I (s.getC x).turn] (fun j hj => (arr_cen H.out.2 x HX.out j hj).trans (by simp [encC])) _ Tryd.underlying46 rfl info46 ?_))
  go_ret
  refine ⟨?_, ?_, (Fr.refl _ _).alloc _⟩
  · rw [HP.out]; rfl
  · rw [HP.out]; exact ⟨alloc_at H.out.1 _, H.out.2⟩

theorem repeat_any (b : Nat) (x : Int) (s : S) (w : World) (h : St w b s) :
    Calls Tryd.prog 43 #[.pointer (some ⟨b, 0, none⟩), .int .i64 x] w (OptPost b s (s.again x) w) := by
  by_cases hc : s.isC x ∧ s.room
  · exact repeat_yes b x s w h hc.1 hc.2
  · refine (repeat_no b x s w h hc).mono ?_
    rintro e w' ⟨rfl, rfl⟩
    have e1 : s.again x = none := if_neg hc
    rw [e1]
    exact ⟨rfl, h, Fr.refl _ _⟩

end Go.Proofs.YtklnbcofmhlkdaaDoor
namespace Go.Proofs.YtklnbcofmhlkdaaDoor
open Go.RowKit Rl

theorem push_arr {s : S} (h : Ok s) (hr : s.room) (m : Msg) :
    (splice (encW s.cen (s.fl ++ [m]) s.fl.length).toArray.toList 37 (Value.int .i64 (s.fl.length + 1)).cells.toList).toArray = ({ s with fl := s.fl ++ [m] } : S).arr := by
  have h6 : (s.fl ++ [m]).length ≤ 6 := by unfold S.room at hr; simp; omega
  have e := encW_many (k := s.fl.length) h.n4 h6 (s.fl.length + 1)
  simp only [Value.cells, S.arr, S.enc, List.length_append, List.length_singleton]
  rw [e]; rfl

/-- What is known behind the first statement of apply. -/
structure AppSt (b B : Nat) (e : Ev) (s : S) (w W : World) : Prop where
  fr : Fr [] w W
  st : St W b s
  box : W.heap[B]? = some (.cells #[I e.kind, I e.a, I e.b] 38 (0, 0))
  nb : B ∉ [b]

set_option maxRecDepth 100000 in
set_option maxHeartbeats 1000000 in
theorem apply_offer (b : Nat) (x y : Int) (s : S) (w : World) (h : St w b s) :
    Calls Tryd.prog 31 #[.pointer (some ⟨b, 0, none⟩), .agg #[.int .i64 1, .int .i64 x, .int .i64 y]] w (OptPost b s (s.offer x y) w) := by
  have H := Lib.hid h
  have hb := blk_lt h.1
  have hm : w.cell? ⟨b, 37, none⟩ = some (.int .i64 s.fl.length) := by rw [cell_blk h.1, arr_many h.2]
  clear h
  by_cases x0 : 0 ≤ x
  · go_enter Tryd.func31, Tryd.ntmps31
    go_wp2
    go_quiet (fail)
    go_wp2_with fail
    refine (offer_any b x y s _ (by exact ⟨alloc_at H.out.1 _, H.out.2⟩)).mono ?_
    rintro e w1 ⟨rfl, hS, hF⟩
    have HS := Lib.hid hS
    have HF := Lib.hid hF
    clear hS hF
    go_wp2
    go_ret
    exact ⟨rfl, HS.out, ((Fr.refl _ _).alloc _).trans HF.out.undrewN⟩
  · have hx0 : decide (0 ≤ x) = false := by simpa using x0
    go_enter Tryd.func31, Tryd.ntmps31
    go_wp2
    go_quiet (fail)
    go_wp2_with fail
    refine (offer_any b x y s _ (by exact ⟨alloc_at H.out.1 _, H.out.2⟩)).mono ?_
    rintro e w1 ⟨rfl, hS, hF⟩
    have HS := Lib.hid hS
    have HF := Lib.hid hF
    clear hS hF
    go_wp2
    go_ret
    exact ⟨rfl, HS.out, ((Fr.refl _ _).alloc _).trans HF.out.undrewN⟩

set_option maxRecDepth 100000 in
set_option maxHeartbeats 1000000 in
theorem apply_b (b : Nat) (k x y : Int) (s : S) (w : World) (h : St w b s) (k1 : (k == 1) = false) (hy : (y != 0) = true) :
    Calls Tryd.prog 31 #[.pointer (some ⟨b, 0, none⟩), .agg #[.int .i64 k, .int .i64 x, .int .i64 y]] w fun e w' => e = .returned (.bool false) ∧ St w' b s ∧ Fr [b] w w' := by
  have H := Lib.hid h
  have hb := blk_lt h.1
  have hm : w.cell? ⟨b, 37, none⟩ = some (.int .i64 s.fl.length) := by rw [cell_blk h.1, arr_many h.2]
  clear h
  by_cases x0 : 0 ≤ x
  · go_enter Tryd.func31, Tryd.ntmps31
    go_wp2
    go_quiet (fail)
    go_wp2
    go_ret
    exact ⟨rfl, ⟨alloc_at H.out.1 _, H.out.2⟩, ((Fr.refl _ _).alloc _).drewN _⟩
  · have hx0 : decide (0 ≤ x) = false := by simpa using x0
    go_enter Tryd.func31, Tryd.ntmps31
    go_wp2
    go_quiet (fail)
    go_wp2
    go_ret
    exact ⟨rfl, ⟨alloc_at H.out.1 _, H.out.2⟩, ((Fr.refl _ _).alloc _).drewN _⟩


set_option maxRecDepth 100000 in
set_option maxHeartbeats 1000000 in
theorem apply_repeat (b : Nat) (x : Int) (s : S) (w : World) (h : St w b s)  :
    Calls Tryd.prog 31 #[.pointer (some ⟨b, 0, none⟩), .agg #[.int .i64 5, .int .i64 x, .int .i64 0]] w (OptPost b s (s.again x) w) := by
  have H := Lib.hid h
  have hb := blk_lt h.1
  have hm : w.cell? ⟨b, 37, none⟩ = some (.int .i64 s.fl.length) := by rw [cell_blk h.1, arr_many h.2]
  clear h
  by_cases x0 : 0 ≤ x
  · go_enter Tryd.func31, Tryd.ntmps31
    go_wp2
    go_quiet (fail)
    go_wp2_with fail
    refine (repeat_any b x s _ (by exact ⟨alloc_at H.out.1 _, H.out.2⟩)).mono ?_
    rintro e w1 ⟨rfl, hS, hF⟩
    have HS := Lib.hid hS
    have HF := Lib.hid hF
    clear hS hF
    go_wp2
    go_ret
    exact ⟨rfl, HS.out, ((Fr.refl _ _).alloc _).trans HF.out.undrewN⟩
  · have hx0 : decide (0 ≤ x) = false := by simpa using x0
    go_enter Tryd.func31, Tryd.ntmps31
    go_wp2
    go_quiet (fail)
    go_wp2_with fail
    refine (repeat_any b x s _ (by exact ⟨alloc_at H.out.1 _, H.out.2⟩)).mono ?_
    rintro e w1 ⟨rfl, hS, hF⟩
    have HS := Lib.hid hS
    have HF := Lib.hid hF
    clear hS hF
    go_wp2
    go_ret
    exact ⟨rfl, HS.out, ((Fr.refl _ _).alloc _).trans HF.out.undrewN⟩


set_option maxRecDepth 100000 in
set_option maxHeartbeats 1000000 in
theorem apply_out (b : Nat) (k x : Int) (s : S) (w : World) (h : St w b s) (k1 : (k == 1) = false) (k5 : (k == 5) = false) (hx : ¬ (0 ≤ x ∧ x < s.fl.length)) :
    Calls Tryd.prog 31 #[.pointer (some ⟨b, 0, none⟩), .agg #[.int .i64 k, .int .i64 x, .int .i64 0]] w fun e w' => e = .returned (.bool false) ∧ St w' b s ∧ Fr [b] w w' := by
  have H := Lib.hid h
  have hb := blk_lt h.1
  have hm : w.cell? ⟨b, 37, none⟩ = some (.int .i64 s.fl.length) := by rw [cell_blk h.1, arr_many h.2]
  clear h
  by_cases x0 : 0 ≤ x
  · have hxn : decide (x < (s.fl.length : Int)) = false := by simp; omega
    go_enter Tryd.func31, Tryd.ntmps31
    go_wp2
    go_quiet (fail)
    go_wp2
    go_ret
    exact ⟨rfl, ⟨alloc_at H.out.1 _, H.out.2⟩, ((Fr.refl _ _).alloc _).drewN _⟩
  · have hx0 : decide (0 ≤ x) = false := by simpa using x0
    go_enter Tryd.func31, Tryd.ntmps31
    go_wp2
    go_quiet (fail)
    go_wp2
    go_ret
    exact ⟨rfl, ⟨alloc_at H.out.1 _, H.out.2⟩, ((Fr.refl _ _).alloc _).drewN _⟩


set_option maxRecDepth 100000 in
set_option maxHeartbeats 1000000 in
theorem apply_none (b : Nat) (k x : Int) (s : S) (w : World) (h : St w b s) (k1 : (k == 1) = false) (k5 : (k == 5) = false) (k2 : (k == 2) = false) (k3 : (k == 3) = false) (k4 : (k == 4) = false) (hx : 0 ≤ x ∧ x < s.fl.length) :
    Calls Tryd.prog 31 #[.pointer (some ⟨b, 0, none⟩), .agg #[.int .i64 k, .int .i64 x, .int .i64 0]] w fun e w' => e = .returned (.bool false) ∧ St w' b s ∧ Fr [b] w w' := by
  have H := Lib.hid h
  have hb := blk_lt h.1
  have hm : w.cell? ⟨b, 37, none⟩ = some (.int .i64 s.fl.length) := by rw [cell_blk h.1, arr_many h.2]
  clear h
  have x0 : 0 ≤ x := hx.1
  have xn : x < (s.fl.length : Int) := hx.2
  go_enter Tryd.func31, Tryd.ntmps31
  go_wp2
  go_quiet (fail)
  go_wp2
  go_ret
  exact ⟨rfl, ⟨alloc_at H.out.1 _, H.out.2⟩, ((Fr.refl _ _).alloc _).drewN _⟩


set_option maxRecDepth 100000 in
set_option maxHeartbeats 1000000 in
theorem apply_lose (b : Nat) (x : Int) (s : S) (w : World) (h : St w b s) (hx : 0 ≤ x ∧ x < s.fl.length) :
    Calls Tryd.prog 31 #[.pointer (some ⟨b, 0, none⟩), .agg #[.int .i64 3, .int .i64 x, .int .i64 0]] w fun e w' => e = .returned (.bool true) ∧ St w' b (s.drop x) ∧ Fr [b] w w' := by
  have H := Lib.hid h
  have hb := blk_lt h.1
  have hm : w.cell? ⟨b, 37, none⟩ = some (.int .i64 s.fl.length) := by rw [cell_blk h.1, arr_many h.2]
  clear h
  have x0 : 0 ≤ x := hx.1
  have xn : x < (s.fl.length : Int) := hx.2
  have HXX := Lib.hid hx
  clear hx
  go_enter Tryd.func31, Tryd.ntmps31
  go_wp2
  go_quiet (fail)
  go_wp2_with fail
  refine (remove_any b x s _ (by exact ⟨alloc_at H.out.1 _, H.out.2⟩) HXX.out).mono ?_
  rintro e w1 ⟨rfl, hS, hF⟩
  have HS := Lib.hid hS
  have HF := Lib.hid hF
  clear hS hF
  go_wp2
  go_ret
  exact ⟨rfl, HS.out, ((Fr.refl _ _).alloc _).trans HF.out.undrewN⟩


set_option maxRecDepth 100000 in
set_option maxHeartbeats 1000000 in
theorem apply_deliver (b : Nat) (x : Int) (s : S) (w : World) (h : St w b s) (hx : 0 ≤ x ∧ x < s.fl.length) :
    Calls Tryd.prog 31 #[.pointer (some ⟨b, 0, none⟩), .agg #[.int .i64 2, .int .i64 x, .int .i64 0]] w fun e w' => e = .returned (.bool true) ∧ St w' b ((s.drop x).hdl (s.msg x)) ∧ Fr [b] w w' := by
  have H := Lib.hid h
  have hb := blk_lt h.1
  have hm : w.cell? ⟨b, 37, none⟩ = some (.int .i64 s.fl.length) := by rw [cell_blk h.1, arr_many h.2]
  clear h
  have x0 : 0 ≤ x := hx.1
  have xn : x < (s.fl.length : Int) := hx.2
  have HMM : Hid ((s.drop x).isC (s.msg x).frm ∧ (s.drop x).isC (s.msg x).to ∧ 0 ≤ (s.msg x).turn ∧ (s.msg x).turn ≤ 9) := H.out.2.msg _ (msg_mem hx)
  have HXX := Lib.hid hx
  have HRO : Hid (s.drop x).room := drop_room H.out.2 hx
  clear hx
  go_enter Tryd.func31, Tryd.ntmps31
  go_wp2
  go_quiet (fail)
  go_wp2_with fail
  refine (remove_any b x s _ (by exact ⟨alloc_at H.out.1 _, H.out.2⟩) HXX.out).mono ?_
  rintro e w1 ⟨rfl, hS, hF⟩
  have HS := Lib.hid hS
  have HF := Lib.hid hF
  clear hS hF
  go_wp2_with fail
  refine (handle_any b (s.msg x) (s.drop x) _ HS.out HRO.out HMM.out.1 HMM.out.2.1 HMM.out.2.2).mono ?_
  rintro e w2 ⟨rfl, hS2, hF2⟩
  have HS2 := Lib.hid hS2
  have HF2 := Lib.hid hF2
  clear hS2 hF2
  go_wp2
  go_ret
  exact ⟨rfl, HS2.out, (((Fr.refl _ _).alloc _).trans HF.out.undrewN).trans HF2.out⟩


set_option maxRecDepth 100000 in
set_option maxHeartbeats 1000000 in
theorem apply_copy_no (b : Nat) (x : Int) (s : S) (w : World) (h : St w b s) (hx : 0 ≤ x ∧ x < s.fl.length) (hr : ¬ s.room) :
    Calls Tryd.prog 31 #[.pointer (some ⟨b, 0, none⟩), .agg #[.int .i64 4, .int .i64 x, .int .i64 0]] w fun e w' => e = .returned (.bool false) ∧ St w' b s ∧ Fr [b] w w' := by
  have H := Lib.hid h
  have hb := blk_lt h.1
  have hm : w.cell? ⟨b, 37, none⟩ = some (.int .i64 s.fl.length) := by rw [cell_blk h.1, arr_many h.2]
  clear h
  have x0 : 0 ≤ x := hx.1
  have xn : x < (s.fl.length : Int) := hx.2
  have HR := Lib.hid hr
  clear hx hr
  go_enter Tryd.func31, Tryd.ntmps31
  go_wp2
  go_quiet (fail)
  go_wp2_with fail
  refine (room_no b s _ (by exact ⟨alloc_at H.out.1 _, H.out.2⟩) HR.out).mono ?_
  rintro e w1 ⟨rfl, rfl⟩
  go_wp2
  go_ret
  exact ⟨rfl, ⟨alloc_at H.out.1 _, H.out.2⟩, ((Fr.refl _ _).alloc _).drewN _⟩


set_option maxRecDepth 100000 in
set_option maxHeartbeats 1000000 in
theorem apply_copy (b : Nat) (x : Int) (s : S) (w : World) (h : St w b s) (hx : 0 ≤ x ∧ x < s.fl.length) (hr : s.room) :
    Calls Tryd.prog 31 #[.pointer (some ⟨b, 0, none⟩), .agg #[.int .i64 4, .int .i64 x, .int .i64 0]] w fun e w' => e = .returned (.bool true) ∧ St w' b { s with fl := s.fl ++ [s.msg x] } ∧ Fr [b] w w' := by
  have H := Lib.hid h
  have hb := blk_lt h.1
  have hm : w.cell? ⟨b, 37, none⟩ = some (.int .i64 s.fl.length) := by rw [cell_blk h.1, arr_many h.2]
  clear h
  have x0 : 0 ≤ x := hx.1
  have xn : x < (s.fl.length : Int) := hx.2
  have m6 : (s.fl.length : Int) < 6 := by unfold S.room at hr; omega
  have hok' : Ok ({ s with fl := s.fl ++ [s.msg x] } : S) := Ok.app (s := s) (e := ⟨4, x, 0⟩) H.out.2 (by simp [S.app, hx, hr])
  have x6 : x < 6 := by omega
  have HOK := Lib.hid hok'
  have HR := Lib.hid hr
  have HXX := Lib.hid hx
  clear hx hr hok'
  go_enter Tryd.func31, Tryd.ntmps31
  go_wp2
  go_quiet (fail)
  go_wp2_with fail
  refine (room_yes b s _ (by exact ⟨alloc_at H.out.1 _, H.out.2⟩) HR.out).mono ?_
  rintro e w1 ⟨rfl, rfl⟩
  go_wp2
  refine wp_forget (fun W => Fr [] w W ∧ W.heap[b]? = some (.cells s.arr 58 (0, 0)) ∧ W.heap[w.heap.size]? = some (.cells #[I 4, I x, I 0] 38 (0, 0))) ⟨((Fr.refl [] w).alloc _).drewN _, alloc_at H.out.1 _, alloc_new _ _⟩ ?_
  rintro W ⟨hF, hB, hX⟩
  have e1 : W.cell? ⟨w.heap.size, 1, none⟩ = some (I x) := by rw [cell_blk hX]; rfl
  have em : W.cell? ⟨b, 37, none⟩ = some (.int .i64 s.fl.length) := by rw [cell_blk hB, arr_many H.out.2]
  have g0 : W.cell? ⟨b, 13 + x.toNat * 4, none⟩ = some (I (s.msg x).kind) := by rw [cell_blk hB]; exact arr_msg H.out.2 x HXX.out 0 (by omega)
  have g1 : W.cell? ⟨b, 13 + x.toNat * 4 + 1, none⟩ = some (I (s.msg x).frm) := by rw [cell_blk hB]; exact arr_msg H.out.2 x HXX.out 1 (by omega)
  have g2 : W.cell? ⟨b, 13 + x.toNat * 4 + 2, none⟩ = some (I (s.msg x).to) := by rw [cell_blk hB]; exact arr_msg H.out.2 x HXX.out 2 (by omega)
  have g3 : W.cell? ⟨b, 13 + x.toNat * 4 + 3, none⟩ = some (I (s.msg x).turn) := by rw [cell_blk hB]; exact arr_msg H.out.2 x HXX.out 3 (by omega)
  have HF := Lib.hid hF
  have HB := Lib.hid hB
  clear hF hB hX hm
  go_still_tail 15, (by kernel_rfl)
  refine wpList_st rfl 55 (.tmp 78) (.tmp 75) rfl b (13 + s.fl.length * 4) (.agg #[I (s.msg x).kind, I (s.msg x).frm, I (s.msg x).to, I (s.msg x).turn]) (by first | rfl | simp [Act.eval]) (by first | rfl | simp [Act.eval]) 58 s.arr HB.out info55 (by rw [arr_size H.out.2]; simp [Value.cells]; omega) (by simp [Value.cells, Value.oneCell']) (encW s.cen (s.fl ++ [s.msg x]) s.fl.length).toArray ?_ ?_
  · rw [← encW_putM H.out.2.n4 (by omega)]; rfl
  intro w1 hF1 hB1
  have h6 : (s.fl ++ [s.msg x]).length ≤ 6 := by simp; omega
  have hl : (encW s.cen (s.fl ++ [s.msg x]) s.fl.length).toArray.size = 38 := by simp [encW_len H.out.2.n4 h6]
  have hm1 : w1.cell? ⟨b, 37, none⟩ = some (.int .i64 s.fl.length) := by
    rw [cell_blk hB1, List.getElem?_toArray, encW_get37 H.out.2.n4 h6]
  have HF1 := Lib.hid hF1
  have HB1 := Lib.hid hB1
  have HL := Lib.hid hl
  clear hF1 hB1 hl e1 em g0 g1 g2 g3
  go_wp2_with (refine wpList_st rfl 3 (.tmp 85) (.tmp 83) rfl b 37 (.int .i64 (s.fl.length + 1)) (by first | rfl | simp [Act.eval]) (by first | rfl | simp [Act.eval]) 58 _ HB1.out info3 (by rw [HL.out]; simp [Value.cells]) (by simp [Value.cells, Value.oneCell']) ({ s with fl := s.fl ++ [s.msg x] } : S).arr (push_arr H.out.2 HR.out _) ?_; intro w2 hF2 hB2)
  go_ret
  exact ⟨rfl, ⟨hB2, HOK.out⟩, (HF.out.of_nil).trans (HF1.out.undrew.trans hF2)⟩


theorem apply_any (b : Nat) (e : Ev) (s : S) (w : World) (h : St w b s) :
    Calls Tryd.prog 31 #[.pointer (some ⟨b, 0, none⟩), .agg (encE e).toArray] w (OptPost b s (s.app e) w) := by
  obtain ⟨k, x, y⟩ := e
  show Calls Tryd.prog 31 #[.pointer (some ⟨b, 0, none⟩), .agg #[.int .i64 k, .int .i64 x, .int .i64 y]] w _
  have fin_no : ∀ {o : Option S}, o = none → ∀ e w', (e = Ending.returned (.bool false) ∧ St w' b s ∧ Fr [b] w w') → OptPost b s o w e w' := by
    rintro o rfl e w' h; exact h
  have fin_yes : ∀ {o : Option S} {s' : S}, o = some s' → ∀ e w', (e = Ending.returned (.bool true) ∧ St w' b s' ∧ Fr [b] w w') → OptPost b s o w e w' := by
    rintro o s' rfl e w' h; exact h
  by_cases k1 : k = 1
  · subst k1
    exact apply_offer b x y s w h
  have j1 : (k == 1) = false := by simpa using k1
  by_cases hy : ¬ y = 0
  · exact (apply_b b k x y s w h j1 (by simpa using hy)).mono (fin_no (by simp [S.app, k1, hy]))
  have hy := Decidable.not_not.1 hy
  subst hy
  by_cases k5 : k = 5
  · subst k5
    have e1 : s.app ⟨5, x, 0⟩ = s.again x := by simp [S.app]
    rw [e1]
    exact apply_repeat b x s w h
  have j5 : (k == 5) = false := by simpa using k5
  by_cases hx : ¬ (0 ≤ x ∧ x < s.fl.length)
  · exact (apply_out b k x s w h j1 j5 hx).mono (fin_no (by simp only [S.app]; rw [if_neg k1, if_neg (by simp), if_neg k5, if_pos hx]))
  have hx := Decidable.not_not.1 hx
  have e0 : s.app ⟨k, x, 0⟩ = if k = 2 then some ((s.drop x).hdl (s.msg x)) else if k = 3 then some (s.drop x) else if k = 4 then (if s.room then some { s with fl := s.fl ++ [s.msg x] } else none) else none := by
    simp only [S.app]; rw [if_neg k1, if_neg (by simp), if_neg k5, if_neg (by simpa using hx)]
  rw [e0]
  by_cases k2 : k = 2
  · subst k2; rw [if_pos rfl]
    exact (apply_deliver b x s w h hx).mono (fin_yes rfl)
  by_cases k3 : k = 3
  · subst k3; rw [if_neg (by decide), if_pos rfl]
    exact (apply_lose b x s w h hx).mono (fin_yes rfl)
  by_cases k4 : k = 4
  · subst k4; rw [if_neg (by decide), if_neg (by decide), if_pos rfl]
    by_cases hr : s.room
    · rw [if_pos hr]; exact (apply_copy b x s w h hx hr).mono (fin_yes rfl)
    · rw [if_neg hr]; exact (apply_copy_no b x s w h hx hr).mono (fin_no rfl)
  rw [if_neg k2, if_neg k3, if_neg k4]
  exact (apply_none b k x s w h j1 j5 (by simpa using k2) (by simpa using k3) (by simpa using k4) hx).mono (fin_no rfl)

end Go.Proofs.YtklnbcofmhlkdaaDoor
namespace Go.Proofs.YtklnbcofmhlkdaaDoor
open Go.RowKit Rl

theorem info58 : (Tryd.prog.info? 58).map (·.size) = some 38 := by kernel_rfl
theorem info3b : (Tryd.prog.info? 3).map (·.size) = some 1 := by kernel_rfl
theorem one_arr (s : S) : ∀ u ∈ s.arr.toList, u.oneCell' = true := by
  intro u hu
  simp only [S.arr, S.enc, encR, List.mem_cons, List.mem_append, List.mem_flatMap, List.not_mem_nil, or_false] at hu
  rcases hu with rfl | ⟨c, _, hc⟩ | ⟨m, _, hm⟩ | rfl
  · rfl
  · simp only [encC, List.mem_cons, List.not_mem_nil, or_false] at hc
    rcases hc with rfl | rfl | rfl <;> rfl
  · simp only [encM, List.mem_cons, List.not_mem_nil, or_false] at hm
    rcases hm with rfl | rfl | rfl | rfl <;> rfl
  · rfl
theorem whole_splice (C D : Array Value) (hD : D.size = 38) (hC : C.size = 38) : (splice C.toList 0 (Value.agg D).cells.toList).toArray = D := by
  have h1 : D.toList.length = 38 := by simpa using hD
  have h2 : C.toList.length = 38 := by simpa using hC
  simp only [splice, Value.cells, List.take_zero, List.nil_append, Nat.zero_add]
  rw [List.drop_eq_nil_of_le (by omega), List.append_nil, Array.toArray_toList]
/-- a whole state is read -/
theorem wpList_ldS {ops : Array Oper} {rest : List Oper} {op : Oper} {a : Act} {w : World} {Q : Exit → Act → World → Prop} (hgd : op.guard = none) (x : Operand) (ho : op.op = .load 58 x)
    (b : Nat) (hx : a.eval x = .pointer (some ⟨b, 0, none⟩)) (s : S) (hs : s.arr.size = 38) (E : TypeId) (hg : w.heap[b]? = some (.cells s.arr E (0, 0)))
    (h : wpList Tryd.prog ops Q rest (a.put op.dst (.agg s.arr)) w) : wpList Tryd.prog ops Q (op :: rest) a w :=
  wpList_load_row hgd 58 x ho b hx E s.arr (0, 0) _ hg Tryd.underlying58 rfl (by rw [hs]; exact info58) h

set_option maxRecDepth 100000 in
set_option maxHeartbeats 1000000 in
theorem begin_any (n : Nat) (first : Int) (w : World) (h2 : 2 ≤ n) (h4 : n ≤ 4) (hf : 0 ≤ first ∧ first < n) :
    Calls Tryd.prog 30 #[.int .i64 n, .int .i64 first] w fun e w' => e = .returned (.agg (Rl.start n first).arr) ∧ Fr [] w w' := by
  have f0 : 0 ≤ first := hf.1
  have f4 : first < 4 := by omega
  have hsz : (Rl.start n first).arr.size = 38 := arr_size (start_ok n first h2 h4)
  have HA : Hid (_ = _) := zero_arr n h2 h4
  have HSA := Lib.hid (start_arr n first h2 h4 hf)
  have HSZ := Lib.hid hsz
  clear hsz
  go_enter Tryd.func30, Tryd.ntmps30
  have HZ : Hid (({ cen := List.replicate n c0, fl := [] } : S).arr.size = 38) := arr_size (zero_ok n h2 h4)
  go_wp2_with (first
    | (refine wpList_st rfl 58 (.tmp 5) (.tmp 7) rfl (w.heap.size + 1) 0 (.agg #[I n, I 0, I 0, I 0, I 0, I 0, I 0, I 0, I 0, I 0, I 0, I 0, I 0, I 0, I 0, I 0, I 0, I 0, I 0, I 0, I 0, I 0, I 0, I 0, I 0, I 0, I 0, I 0, I 0, I 0, I 0, I 0, I 0, I 0, I 0, I 0, I 0, I 0]) (by first | rfl | simp [Act.eval]) (by first | rfl | simp [Act.eval]) 58 _ (heap_alloc2_new _ _ _) info58 (by simp [Value.cells]) (by simp [Value.cells, Value.oneCell']) ({ cen := List.replicate n c0, fl := [] } : S).arr (by rw [HA.out]; exact whole_splice _ _ rfl rfl) ?_; intro w0 hF0 hB0; have hR0 := hF0.at_ (alloc_at (alloc_new w _) _) (by simp); have HF0 : Hid (Fr [] w w0) := ((((Fr.refl [] w).alloc _).alloc _).new hF0 (by simp)); have HB0 := Lib.hid hB0; have HR0 := Lib.hid hR0; clear hF0 hB0 hR0)
    | (refine wpList_st rfl 3 (.tmp 11) (.const (.int .i64 1)) rfl (w.heap.size + 1) (1 + first.toNat * 3) (I 1) (by first | rfl | simp [Act.eval]) rfl 58 _ HB0.out info3b (by rw [HZ.out]; simp [Value.cells]; omega) (by simp [Value.cells, Value.oneCell']) (Rl.start n first).arr HSA.out ?_; intro w1 hF1 hB1; have HR1 := Lib.hid (hF1.at_ HR0.out (by simp)); have HF1 := Lib.hid hF1; have HB1 := Lib.hid hB1; clear hF1 hB1)
    | (refine wpList_ldS rfl (.tmp 5) rfl (w.heap.size + 1) (by first | rfl | simp [Act.eval]) (Rl.start n first) HSZ.out 58 HB1.out ?_)
    | (refine wpList_st rfl 58 (.tmp 4) (.tmp 12) rfl w.heap.size 0 (.agg (Rl.start n first).arr) (by first | rfl | simp [Act.eval]) (by first | rfl | simp [Act.eval]) 58 _ HR1.out (by simp only [Value.cells]; rw [HSZ.out]; exact info58) (by simp only [Value.cells]; rw [HSZ.out]; simp) (one_arr _) (Rl.start n first).arr (whole_splice _ _ HSZ.out rfl) ?_; intro w2 hF2 hB2))
  refine bodyPost_ret (v := .agg (Rl.start n first).arr) (results_cell_row rfl _ _ w.heap.size 58 _ (0, 0) _ rfl hB2 Tryd.underlying58 rfl (by rw [HSZ.out]; exact info58)) rfl ⟨rfl, ?_⟩
  exact (HF0.out.new HF1.out (by simp)).new hF2 (by simp)
end Go.Proofs.YtklnbcofmhlkdaaDoor
