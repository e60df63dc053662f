/- cobleref10: reach. Printed by gen_reach.py -/
import Derived.Test.YtklnbcofmhlkdaaDoorRfWalk12
import Derived.Test.YtklnbcofmhlkdaaDoorRlGood
set_option linter.unusedVariables false
set_option linter.unusedSimpArgs false
namespace Go.Proofs.YtklnbcofmhlkdaaDoor
open Go.RowKit Rl

/-- What reach answers: a sequence that settles, of so many events, or that there is none. -/
def ReachPost (s : S) (m : Nat) (w : World) (e : Ending) (w' : World) : Prop :=
  Fr [] w w' ∧ ((e = .returned (.tuple #[.slice none 0 0, .bool false]) ∧ ∀ l : List Ev, l.length = m → ¬ Leads s l) ∨ ∃ v l, e = .returned (.tuple #[v, .bool true]) ∧ Rd w' encE v l ∧ l.length = m ∧ Leads s l)
theorem ReachPost.yes {s : S} {m : Nat} {w w' : World} {e : Ending} (h : ReachPost s m w e w') (hg : ∃ l : List Ev, l.length = m ∧ Leads s l) : Fr [] w w' ∧ ∃ v l, e = .returned (.tuple #[v, .bool true]) ∧ Rd w' encE v l ∧ l.length = m ∧ Leads s l := by
  refine ⟨h.1, ?_⟩
  rcases h.2 with ⟨_, hn⟩ | h
  · obtain ⟨l, h1, h2⟩ := hg
    exact absurd h2 (hn l h1)
  · exact h
theorem ReachPost.no {s : S} {m : Nat} {w w' : World} {e : Ending} (h : ReachPost s m w e w') (hg : ¬ ∃ l : List Ev, l.length = m ∧ Leads s l) : Fr [] w w' ∧ e = .returned (.tuple #[.slice none 0 0, .bool false]) := by
  refine ⟨h.1, ?_⟩
  rcases h.2 with ⟨h, _⟩ | ⟨_, l, _, _, h1, h2⟩
  · exact h
  · exact absurd ⟨l, h1, h2⟩ hg
theorem info38z : (Tryd.prog.info? 38).map (fun i => (i.zero, i.size, i.bytes)) = some (some (.agg #[I 0, I 0, I 0]), 3, 24) := by kernel_rfl
theorem oneE (c : Ev) : ∀ u ∈ encE c, u.oneCell' = true := by simp [encE, Value.oneCell']
theorem Own.one {α : Type} {w : World} {base g : Nat} {E : TypeId} {k : Nat} {f : α → List Value} {C : Array Value} {x : α} (hf : (f x).length = k) (hb : base ≤ g) (h : w.heap[g]? = some (.cells C E (0, 0))) (hC : C.toList = f x) : Own w base E k f (.slice (some ⟨g, 0, none⟩) 1 1) [x] :=
  ⟨by simp [hf], .inr ⟨g, 1, C, rfl, hb, h, Nat.le_refl _, by simp [maxLen], by rw [← Array.length_toList, hC, hf]; simp, by simp [hC, ← hf]⟩⟩

set_option maxRecDepth 100000 in
set_option maxHeartbeats 1000000 in
theorem reach_zero (cv fv : Value) (s : S) (w : World) (h : RdS w cv fv s) :
    Calls Tryd.prog 22 #[.agg #[cv, fv], .int .i64 0] w (ReachPost s 0 w) := by
  obtain ⟨ca, cc, rfl⟩ := h.cen.shape
  obtain ⟨fa, cf, rfl⟩ := h.fl.shape
  have H := Lib.hid h
  clear h
  go_enter Tryd.func22, Tryd.ntmps22
  go_wp2_with (go_at_call 11; refine (rsettled_any _ _ s _ (by exact H.out.fr0 ((Fr.refl [] w).alloc _))).mono ?_; rintro e w1 ⟨rfl, hF⟩; have HF := Lib.hid hF; clear hF)
  go_ret2
  refine ⟨((Fr.refl [] w).alloc _).trans HF.out, ?_⟩
  cases hs : s.settled
  · exact .inl ⟨rfl, fun l hl hg => by rw [List.eq_nil_of_length_eq_zero hl] at hg; simp only [Leads] at hg; rw [hs] at hg; exact absurd hg (by simp)⟩
  · exact .inr ⟨_, [], rfl, Rd.nil _ _, rfl, hs⟩

set_option maxRecDepth 100000 in
set_option maxHeartbeats 2000000 in
theorem reach_succ (m : Nat) (hm : m ≤ 100) (ih : ∀ (cv fv : Value) (s : S) (w : World) (x : Int), x = m → RdS w cv fv s → Calls Tryd.prog 22 #[.agg #[cv, fv], .int .i64 x] w (ReachPost s m w))
    (cv fv : Value) (s : S) (w : World) (M : Int) (hM : M = ((m + 1 : Nat) : Int)) (h : RdS w cv fv s) :
    Calls Tryd.prog 22 #[.agg #[cv, fv], .int .i64 M] w (ReachPost s (m + 1) w) := by
  obtain ⟨ca, cc, rfl⟩ := h.cen.shape
  obtain ⟨fa, cf, rfl⟩ := h.fl.shape
  have n4 := h.ok.n4
  have f6 := h.ok.f6
  have hM1 : 1 ≤ M := by omega
  have hM2 : M ≤ 101 := by omega
  have gM : (M == 0) = false := by rw [beq_eq_false_iff_ne]; omega
  have HM : Hid (M - 1 = (m : Int)) := by show _ = _; omega
  have H := Lib.hid h
  have IH := Lib.hid ih
  have HMM := Lib.hid hm
  clear h hM ih hm
  go_enter Tryd.func22, Tryd.ntmps22
  go_wp2_with fail
  refine wp_forget (fun W => Fr [] w W ∧ W.heap[w.heap.size]? = some (.cells #[.slice ca s.cen.length cc, .slice fa s.fl.length cf] 31 (0, 0))) ⟨(Fr.refl _ _).alloc _, alloc_new _ _⟩ ?_
  rintro W ⟨hF, hX⟩
  have HFW := Lib.hid hF
  have HX := Lib.hid hX
  clear hF hX
  go_loopw [6] (fun i wr => ∃ k : Nat, k ≤ 2 ∧ i = .int .i64 k ∧ Fr [] W wr ∧ ∀ k', k' < k → ∀ a, a < s.wide → NoneAt s m k' a) (fun i _ => 2 - (intOf i).toNat)
  case atStart => exact ⟨0, by omega, rfl, Fr.refl _ _, fun k' h => absurd h (by omega)⟩
  case round =>
    obtain ⟨k, hk, rfl, hF, hN⟩ := hrel
    have HFO := Lib.hid hF
    have HNO := Lib.hid hN
    clear hF hN
    by_cases hk2 : k < 2
    · have gk2 : decide ((k : Int) < 2) = true := by rw [decide_eq_true_iff]; omega
      go_wp2_with fail
      obtain ⟨wo, hwo⟩ : ∃ wo : World, wo = wr := ⟨_, rfl⟩
      rw [← hwo] at HFO ⊢
      clear hwo
      go_loopw [7] (fun i wr => ∃ a : Nat, a ≤ s.wide ∧ i = .int .i64 a ∧ Fr [] W wr ∧ ∀ a', a' < a → NoneAt s m k a') (fun i _ => s.wide - (intOf i).toNat)
      case atStart => exact ⟨0, by omega, rfl, HFO.out, fun a' h => absurd h (by omega)⟩
      case round =>
        obtain ⟨a, ha, rfl, hF, hN⟩ := hrel
        have hX := hF.at_ HX.out (by simp)
        have x0 : wr.cell? ⟨w.heap.size, 0, none⟩ = some (.slice ca s.cen.length cc) := (cell_blk hX 0).trans rfl
        have x1 : wr.cell? ⟨w.heap.size, 1, none⟩ = some (.slice fa s.fl.length cf) := (cell_blk hX 1).trans rfl
        have hlt0 : w.heap.size < wr.heap.size := blk_lt hX
        have HF := Lib.hid hF
        have HN := Lib.hid hN
        have HW6 := Lib.hid (wide_le H.out.ok)
        have HWD : Hid (s.wide = max s.fl.length s.cen.length) := rfl
        clear hF hN hX
        have hmx : (if s.fl.length < s.cen.length then (s.cen.length : Int) else (s.fl.length : Int)) = (s.wide : Int) := by rw [HWD.out]; split <;> omega
        by_cases hlt : a < s.wide
        · have HLT : Hid (a < s.wide) := hlt
          have ha6 : (a : Int) < 6 := by have := HW6.out; omega
          clear ha
          rcases (by omega : k = 0 ∨ k = 1) with hkk | hkk
          · obtain ⟨ev, hev⟩ : ∃ ev : Ev, ev = (⟨2, (a : Int), 0⟩ : Ev) := ⟨_, rfl⟩
            have HEV : Hid (tried k a = (⟨2, (a : Int), 0⟩ : Ev)) := by show _ = _; rw [hkk]; rfl
            have gk : ((k : Int) == 1) = false := by rw [hkk]; rfl
            clear hkk
            cases hap : s.app (⟨2, (a : Int), 0⟩ : Ev) with
            | none =>
              have HAP := Lib.hid hap
              clear hap
              go_wp2_with (first
                | (go_at_call 10; refine (rapply_get _ _ (⟨2, (a : Int), 0⟩ : Ev) s _ (by exact H.out.fr0 (HFW.out.trans (HF.out.trans ((Fr.refl [] wr).alloc _))))).mono ?_; rintro e w3 ⟨cv3, fv3, rfl, hS3, hF3, _⟩; obtain ⟨p3, n3, c3, p4, n4, c4, rfl, rfl⟩ := hS3.shp; rw [HAP.out] at hS3 ⊢; have HS3 := Lib.hid hS3; have HE3 : Hid (w3.heap[wr.heap.size]? = some (.cells #[I 2, I a, I 0] 38 (0, 0))) := hF3.at_ (alloc_new wr _) (by simp); have HF3 : Hid (Fr [] wr w3) := ((Fr.refl [] wr).alloc _).trans hF3; have he0 : w3.cell? ⟨wr.heap.size, 0, none⟩ = some (I 2) := (cell_blk HE3.out 0).trans rfl; have he1 : w3.cell? ⟨wr.heap.size, 1, none⟩ = some (I a) := (cell_blk HE3.out 1).trans rfl; have he2 : w3.cell? ⟨wr.heap.size, 2, none⟩ = some (I 0) := (cell_blk HE3.out 2).trans rfl; have hl3 : wr.heap.size < w3.heap.size := blk_lt HE3.out; simp only [Option.isSome] ; clear hS3 hF3))
              go_roundw
              case rel =>
                refine ⟨a + 1, by have := HLT.out; omega, by go_num, HF.out.trans (HF3.out.alloc _), fun a' ha' => ?_⟩
                by_cases e : a' = a
                · subst e; intro s' hs'; rw [HEV.out, HAP.out] at hs'; exact absurd hs' (by simp)
                · exact HN.out a' (by omega)
              case measure => simp [intOf]; have := HLT.out; omega
            | some s' =>
              have HAP := Lib.hid hap
              clear hap
              by_cases hg : ∃ l : List Ev, l.length = m ∧ Leads s' l
              · have HG := Lib.hid hg
                clear hg
                go_wp2_with (first
                  | (go_at_call 10; refine (rapply_get _ _ (⟨2, (a : Int), 0⟩ : Ev) s _ (by exact H.out.fr0 (HFW.out.trans (HF.out.trans ((Fr.refl [] wr).alloc _))))).mono ?_; rintro e w3 ⟨cv3, fv3, rfl, hS3, hF3, _⟩; obtain ⟨p3, n3, c3, p4, n4, c4, rfl, rfl⟩ := hS3.shp; rw [HAP.out] at hS3 ⊢; have HS3 := Lib.hid hS3; have HE3 : Hid (w3.heap[wr.heap.size]? = some (.cells #[I 2, I a, I 0] 38 (0, 0))) := hF3.at_ (alloc_new wr _) (by simp); have HF3 : Hid (Fr [] wr w3) := ((Fr.refl [] wr).alloc _).trans hF3; have he0 : w3.cell? ⟨wr.heap.size, 0, none⟩ = some (I 2) := (cell_blk HE3.out 0).trans rfl; have he1 : w3.cell? ⟨wr.heap.size, 1, none⟩ = some (I a) := (cell_blk HE3.out 1).trans rfl; have he2 : w3.cell? ⟨wr.heap.size, 2, none⟩ = some (I 0) := (cell_blk HE3.out 2).trans rfl; have hl3 : wr.heap.size < w3.heap.size := blk_lt HE3.out; simp only [Option.isSome] ; clear hS3 hF3)
                  | (go_at_call 22; refine (IH.out _ _ s' _ _ HM.out (by exact HS3.out.fr0 ((Fr.refl [] w3).alloc _))).mono ?_; rintro e w4 hp; obtain ⟨hF4, v4, l4, rfl, hR4, hl4, hg4⟩ := hp.yes HG.out; have HR4 := Lib.hid hR4; have HL4 := Lib.hid hl4; have HG4 := Lib.hid hg4; have HF4 : Hid (Fr [] w3 w4) := ((Fr.refl [] w3).alloc _).trans hF4; have hE4 := HF4.out.at_ HE3.out (by simp); have hf0 : w4.cell? ⟨wr.heap.size, 0, none⟩ = some (I 2) := (cell_blk hE4 0).trans rfl; have hf1 : w4.cell? ⟨wr.heap.size, 1, none⟩ = some (I a) := (cell_blk hE4 1).trans rfl; have hf2 : w4.cell? ⟨wr.heap.size, 2, none⟩ = some (I 0) := (cell_blk hE4 2).trans rfl; clear hF4 hR4 hl4 hg4 hE4 hp)
                  | (refine wpList_apd rfl (.tmp 54) (.tmp 55) 22 rfl w4.heap.size 38 _ 3 24 encE Tryd.underlying22 info38z rfl (by decide) encE_len oneE (.slice (some ⟨w4.heap.size, 0, none⟩) 1 1) [(⟨2, (a : Int), 0⟩ : Ev)] rfl (Own.one rfl (Nat.le_refl _) (alloc_new w4 _) rfl) v4 l4 rfl (HR4.out.fr0 ((Fr.refl [] w4).alloc _)) (by decide) (by have := HL4.out; have := HMM.out; simp; omega) (by simp) ?_; intro v5 w5 hA5; have HA5 := Lib.hid hA5; clear hA5))
                go_ret2
                refine ⟨HFW.out.trans (HF.out.trans (HF3.out.trans (HF4.out.trans (((Fr.refl [] w4).alloc _).new HA5.out.fr (by simp [blkOf_slice]))))), .inr ⟨v5, _, rfl, HA5.out.own.rd, by simp [HL4.out], .inl rfl, s', HAP.out, HG4.out⟩⟩
              · have HG := Lib.hid hg
                clear hg
                go_wp2_with (first
                  | (go_at_call 10; refine (rapply_get _ _ (⟨2, (a : Int), 0⟩ : Ev) s _ (by exact H.out.fr0 (HFW.out.trans (HF.out.trans ((Fr.refl [] wr).alloc _))))).mono ?_; rintro e w3 ⟨cv3, fv3, rfl, hS3, hF3, _⟩; obtain ⟨p3, n3, c3, p4, n4, c4, rfl, rfl⟩ := hS3.shp; rw [HAP.out] at hS3 ⊢; have HS3 := Lib.hid hS3; have HE3 : Hid (w3.heap[wr.heap.size]? = some (.cells #[I 2, I a, I 0] 38 (0, 0))) := hF3.at_ (alloc_new wr _) (by simp); have HF3 : Hid (Fr [] wr w3) := ((Fr.refl [] wr).alloc _).trans hF3; have he0 : w3.cell? ⟨wr.heap.size, 0, none⟩ = some (I 2) := (cell_blk HE3.out 0).trans rfl; have he1 : w3.cell? ⟨wr.heap.size, 1, none⟩ = some (I a) := (cell_blk HE3.out 1).trans rfl; have he2 : w3.cell? ⟨wr.heap.size, 2, none⟩ = some (I 0) := (cell_blk HE3.out 2).trans rfl; have hl3 : wr.heap.size < w3.heap.size := blk_lt HE3.out; simp only [Option.isSome] ; clear hS3 hF3)
                  | (go_at_call 22; refine (IH.out _ _ s' _ _ HM.out (by exact HS3.out.fr0 ((Fr.refl [] w3).alloc _))).mono ?_; rintro e w4 hp; obtain ⟨hF4, rfl⟩ := hp.no HG.out; have HF4 : Hid (Fr [] w3 w4) := ((Fr.refl [] w3).alloc _).trans hF4; clear hF4 hp))
                go_roundw
                case rel =>
                  refine ⟨a + 1, by have := HLT.out; omega, by go_num, HF.out.trans (HF3.out.trans HF4.out), fun a' ha' => ?_⟩
                  by_cases e : a' = a
                  · subst e; intro s2 hs' l hl hgd; rw [HEV.out, HAP.out] at hs'; cases hs'; exact HG.out ⟨l, hl, hgd⟩
                  · exact HN.out a' (by omega)
                case measure => simp [intOf]; have := HLT.out; omega
          · obtain ⟨ev, hev⟩ : ∃ ev : Ev, ev = (⟨5, (a : Int), 0⟩ : Ev) := ⟨_, rfl⟩
            have HEV : Hid (tried k a = (⟨5, (a : Int), 0⟩ : Ev)) := by show _ = _; rw [hkk]; rfl
            have gk : ((k : Int) == 1) = true := by rw [hkk]; rfl
            clear hkk
            cases hap : s.app (⟨5, (a : Int), 0⟩ : Ev) with
            | none =>
              have HAP := Lib.hid hap
              clear hap
              go_wp2_with (first
                | (go_at_call 10; refine (rapply_get _ _ (⟨5, (a : Int), 0⟩ : Ev) s _ (by exact H.out.fr0 (HFW.out.trans (HF.out.trans ((Fr.refl [] wr).alloc _))))).mono ?_; rintro e w3 ⟨cv3, fv3, rfl, hS3, hF3, _⟩; obtain ⟨p3, n3, c3, p4, n4, c4, rfl, rfl⟩ := hS3.shp; rw [HAP.out] at hS3 ⊢; have HS3 := Lib.hid hS3; have HE3 : Hid (w3.heap[wr.heap.size]? = some (.cells #[I 5, I a, I 0] 38 (0, 0))) := hF3.at_ (alloc_new wr _) (by simp); have HF3 : Hid (Fr [] wr w3) := ((Fr.refl [] wr).alloc _).trans hF3; have he0 : w3.cell? ⟨wr.heap.size, 0, none⟩ = some (I 5) := (cell_blk HE3.out 0).trans rfl; have he1 : w3.cell? ⟨wr.heap.size, 1, none⟩ = some (I a) := (cell_blk HE3.out 1).trans rfl; have he2 : w3.cell? ⟨wr.heap.size, 2, none⟩ = some (I 0) := (cell_blk HE3.out 2).trans rfl; have hl3 : wr.heap.size < w3.heap.size := blk_lt HE3.out; simp only [Option.isSome] ; clear hS3 hF3))
              go_roundw
              case rel =>
                refine ⟨a + 1, by have := HLT.out; omega, by go_num, HF.out.trans (HF3.out.alloc _), fun a' ha' => ?_⟩
                by_cases e : a' = a
                · subst e; intro s' hs'; rw [HEV.out, HAP.out] at hs'; exact absurd hs' (by simp)
                · exact HN.out a' (by omega)
              case measure => simp [intOf]; have := HLT.out; omega
            | some s' =>
              have HAP := Lib.hid hap
              clear hap
              by_cases hg : ∃ l : List Ev, l.length = m ∧ Leads s' l
              · have HG := Lib.hid hg
                clear hg
                go_wp2_with (first
                  | (go_at_call 10; refine (rapply_get _ _ (⟨5, (a : Int), 0⟩ : Ev) s _ (by exact H.out.fr0 (HFW.out.trans (HF.out.trans ((Fr.refl [] wr).alloc _))))).mono ?_; rintro e w3 ⟨cv3, fv3, rfl, hS3, hF3, _⟩; obtain ⟨p3, n3, c3, p4, n4, c4, rfl, rfl⟩ := hS3.shp; rw [HAP.out] at hS3 ⊢; have HS3 := Lib.hid hS3; have HE3 : Hid (w3.heap[wr.heap.size]? = some (.cells #[I 5, I a, I 0] 38 (0, 0))) := hF3.at_ (alloc_new wr _) (by simp); have HF3 : Hid (Fr [] wr w3) := ((Fr.refl [] wr).alloc _).trans hF3; have he0 : w3.cell? ⟨wr.heap.size, 0, none⟩ = some (I 5) := (cell_blk HE3.out 0).trans rfl; have he1 : w3.cell? ⟨wr.heap.size, 1, none⟩ = some (I a) := (cell_blk HE3.out 1).trans rfl; have he2 : w3.cell? ⟨wr.heap.size, 2, none⟩ = some (I 0) := (cell_blk HE3.out 2).trans rfl; have hl3 : wr.heap.size < w3.heap.size := blk_lt HE3.out; simp only [Option.isSome] ; clear hS3 hF3)
                  | (go_at_call 22; refine (IH.out _ _ s' _ _ HM.out (by exact HS3.out.fr0 ((Fr.refl [] w3).alloc _))).mono ?_; rintro e w4 hp; obtain ⟨hF4, v4, l4, rfl, hR4, hl4, hg4⟩ := hp.yes HG.out; have HR4 := Lib.hid hR4; have HL4 := Lib.hid hl4; have HG4 := Lib.hid hg4; have HF4 : Hid (Fr [] w3 w4) := ((Fr.refl [] w3).alloc _).trans hF4; have hE4 := HF4.out.at_ HE3.out (by simp); have hf0 : w4.cell? ⟨wr.heap.size, 0, none⟩ = some (I 5) := (cell_blk hE4 0).trans rfl; have hf1 : w4.cell? ⟨wr.heap.size, 1, none⟩ = some (I a) := (cell_blk hE4 1).trans rfl; have hf2 : w4.cell? ⟨wr.heap.size, 2, none⟩ = some (I 0) := (cell_blk hE4 2).trans rfl; clear hF4 hR4 hl4 hg4 hE4 hp)
                  | (refine wpList_apd rfl (.tmp 54) (.tmp 55) 22 rfl w4.heap.size 38 _ 3 24 encE Tryd.underlying22 info38z rfl (by decide) encE_len oneE (.slice (some ⟨w4.heap.size, 0, none⟩) 1 1) [(⟨5, (a : Int), 0⟩ : Ev)] rfl (Own.one rfl (Nat.le_refl _) (alloc_new w4 _) rfl) v4 l4 rfl (HR4.out.fr0 ((Fr.refl [] w4).alloc _)) (by decide) (by have := HL4.out; have := HMM.out; simp; omega) (by simp) ?_; intro v5 w5 hA5; have HA5 := Lib.hid hA5; clear hA5))
                go_ret2
                refine ⟨HFW.out.trans (HF.out.trans (HF3.out.trans (HF4.out.trans (((Fr.refl [] w4).alloc _).new HA5.out.fr (by simp [blkOf_slice]))))), .inr ⟨v5, _, rfl, HA5.out.own.rd, by simp [HL4.out], .inr rfl, s', HAP.out, HG4.out⟩⟩
              · have HG := Lib.hid hg
                clear hg
                go_wp2_with (first
                  | (go_at_call 10; refine (rapply_get _ _ (⟨5, (a : Int), 0⟩ : Ev) s _ (by exact H.out.fr0 (HFW.out.trans (HF.out.trans ((Fr.refl [] wr).alloc _))))).mono ?_; rintro e w3 ⟨cv3, fv3, rfl, hS3, hF3, _⟩; obtain ⟨p3, n3, c3, p4, n4, c4, rfl, rfl⟩ := hS3.shp; rw [HAP.out] at hS3 ⊢; have HS3 := Lib.hid hS3; have HE3 : Hid (w3.heap[wr.heap.size]? = some (.cells #[I 5, I a, I 0] 38 (0, 0))) := hF3.at_ (alloc_new wr _) (by simp); have HF3 : Hid (Fr [] wr w3) := ((Fr.refl [] wr).alloc _).trans hF3; have he0 : w3.cell? ⟨wr.heap.size, 0, none⟩ = some (I 5) := (cell_blk HE3.out 0).trans rfl; have he1 : w3.cell? ⟨wr.heap.size, 1, none⟩ = some (I a) := (cell_blk HE3.out 1).trans rfl; have he2 : w3.cell? ⟨wr.heap.size, 2, none⟩ = some (I 0) := (cell_blk HE3.out 2).trans rfl; have hl3 : wr.heap.size < w3.heap.size := blk_lt HE3.out; simp only [Option.isSome] ; clear hS3 hF3)
                  | (go_at_call 22; refine (IH.out _ _ s' _ _ HM.out (by exact HS3.out.fr0 ((Fr.refl [] w3).alloc _))).mono ?_; rintro e w4 hp; obtain ⟨hF4, rfl⟩ := hp.no HG.out; have HF4 : Hid (Fr [] w3 w4) := ((Fr.refl [] w3).alloc _).trans hF4; clear hF4 hp))
                go_roundw
                case rel =>
                  refine ⟨a + 1, by have := HLT.out; omega, by go_num, HF.out.trans (HF3.out.trans HF4.out), fun a' ha' => ?_⟩
                  by_cases e : a' = a
                  · subst e; intro s2 hs' l hl hgd; rw [HEV.out, HAP.out] at hs'; cases hs'; exact HG.out ⟨l, hl, hgd⟩
                  · exact HN.out a' (by omega)
                case measure => simp [intOf]; have := HLT.out; omega
        · have HGE : Hid (s.wide ≤ a) := by show _ ≤ _; omega
          go_wp2_with fail
          go_roundw
          case rel =>
            refine ⟨k + 1, by omega, by go_num, HF.out, fun k' hk' a' ha' => ?_⟩
            by_cases e : k' = k
            · subst e; exact HN.out a' (by have := HGE.out; omega)
            · exact HNO.out k' (by omega) a' ha'
          case measure => simp [intOf]; omega
    · go_wp2_with fail
      go_ret2
      exact ⟨HFW.out.trans HFO.out, .inl ⟨rfl, none_all fun k' hk' => HNO.out k' (by omega)⟩⟩

theorem reach_any (m : Nat) : ∀ (cv fv : Value) (s : S) (w : World) (x : Int), m ≤ 101 → x = m → RdS w cv fv s → Calls Tryd.prog 22 #[.agg #[cv, fv], .int .i64 x] w (ReachPost s m w) := by
  induction m with
  | zero => intro cv fv s w x _ hx h; subst hx; exact reach_zero cv fv s w h
  | succ m ih => intro cv fv s w x hm hx h; exact reach_succ m (by omega) (fun cv fv s w x hx h => ih cv fv s w x (by omega) hx h) cv fv s w x hx h
end Go.Proofs.YtklnbcofmhlkdaaDoor
