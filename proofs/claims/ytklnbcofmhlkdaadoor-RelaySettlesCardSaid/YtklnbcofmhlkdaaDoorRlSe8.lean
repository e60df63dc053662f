/- relay.Settle: up to its loop -/
import Derived.Test.YtklnbcofmhlkdaaDoorRlSe8a
import Derived.Test.YtklnbcofmhlkdaaDoorRfWalk14
import Derived.Test.YtklnbcofmhlkdaaDoorRlD
set_option linter.unusedVariables false
set_option linter.unusedSimpArgs false
namespace Go.Proofs.YtklnbcofmhlkdaaDoor
open Go.RowKit Rl Go.Shelf
attribute [local go_sem] Oper.semAt_some

theorem list_getD (l : List Value) : l = (List.range l.length).map fun j => l.getD j undef := by
  apply List.ext_getElem?
  intro i
  rcases Nat.lt_or_ge i l.length with h | h
  · simp [h]
  · rw [List.getElem?_eq_none h, List.getElem?_eq_none (by simpa using h)]
set_option maxRecDepth 100000 in
theorem arr72 (A : Array Value) (h : A.size = 72) : ∃ g : Nat → Value, A = #[g 0, g 1, g 2, g 3, g 4, g 5, g 6, g 7, g 8, g 9, g 10, g 11, g 12, g 13, g 14, g 15, g 16, g 17, g 18, g 19, g 20, g 21, g 22, g 23, g 24, g 25, g 26, g 27, g 28, g 29, g 30, g 31, g 32, g 33, g 34, g 35, g 36, g 37, g 38, g 39, g 40, g 41, g 42, g 43, g 44, g 45, g 46, g 47, g 48, g 49, g 50, g 51, g 52, g 53, g 54, g 55, g 56, g 57, g 58, g 59, g 60, g 61, g 62, g 63, g 64, g 65, g 66, g 67, g 68, g 69, g 70, g 71] ∧ ∀ j, g j = A.getD j undef := by
  refine ⟨fun j => A.getD j undef, ?_, fun _ => rfl⟩
  have h1 := list_getD A.toList
  have h2 : A.toList.length = 72 := by simpa using h
  rw [h2] at h1
  have h3 : ∀ j, A.toList.getD j undef = A.getD j undef := fun j => by simp
  simp only [h3] at h1
  apply Array.toList_inj.1
  rw [h1]
  rfl
/-- the queue's first state is read -/
theorem wpList_ldQ {ops : Array Oper} {rest : List Oper} {op : Oper} {a : Act} {w : World} {Q : Exit → Act → World → Prop} (hgd : op.guard = none) (x : Operand) (ho : op.op = .load 58 x) (g off : Nat) (hx : a.eval x = .pointer (some ⟨g, off, none⟩)) (y : WS) (l : List WS)
    {n cap : Nat} (hR : Rd w encS (.slice (some ⟨g, off, none⟩) n cap) (y :: l)) (h : wpList Tryd.prog ops Q rest (a.put op.dst (.agg y.1.arr)) w) : wpList Tryd.prog ops Q (op :: rest) a w :=
  wpList_ldR hgd 58 x ho encS 38 encS_len g off n cap (y :: l) hR 0 y rfl off hx (by omega) y.1.enc rfl _ Tryd.underlying58 rfl info58 h
def collects (Ds : List Nat) : List Deferred := Ds.map fun D => { target := .collected D, args := #[] }
theorem leaves_from {F : Fence} {n : Nat} {P : Program} {fn : Func} {tmps : Array Value} {R : Ending → World → Prop} (v : Value) (hres : ∀ w, (results fn tmps).run P w = .ok v w) (B : Nat) (Rw : World → Prop)
    (hput : ∀ w D, B ≤ D → Rw w → w.heap[D]? = some (.deferred (some [])) → Rw (w.putObj D (.deferred none))) (hR : ∀ w, Rw w → R (.returned v) w) :
    ∀ (ds : List Nat) (w : World), ds.Nodup → (∀ D ∈ ds, B ≤ D) → (∀ D ∈ ds, w.heap[D]? = some (.deferred (some []))) → Rw w → LeavesInM F n P fn tmps R (collects ds) .returning w := by
  intro ds
  induction ds with
  | nil =>
    intro w _ _ _ hw
    exact ⟨v, hres w, hR w hw⟩
  | cons D ds ih =>
    intro w hnd hB hD hw
    have hk := hD D (by simp)
    refine ⟨by simp, .inl ⟨D, _, rfl, run_takeDeferred hk, ih _ (List.nodup_cons.1 hnd).2 (fun E hE => hB E (by simp [hE])) (fun E hE => ?_) (hput w D (hB D (by simp)) hw hk)⟩⟩
    have hne : E ≠ D := fun e => (List.nodup_cons.1 hnd).1 (e ▸ hE)
    exact (World.putObj_heap_other hne).trans (hD E (by simp [hE]))
theorem nodup_key {T : List Tri} (h : ((T.map tw).map (·.1)).Nodup) {t u : Tri} (ht : t ∈ T) (hu : u ∈ T) (e : t.1 = u.1) : t = u := by
  induction T with
  | nil => simp at ht
  | cons x T ih =>
    simp only [List.map_cons, List.nodup_cons] at h
    have hno : ∀ y ∈ T, y.1 ≠ x.1 := fun y hy e => h.1 (by rw [List.map_map]; exact List.mem_map.2 ⟨y, hy, e⟩)
    rcases List.mem_cons.1 ht with rfl | ht3
    · rcases List.mem_cons.1 hu with rfl | hu
      · rfl
      · exact absurd e.symm (hno u hu)
    · rcases List.mem_cons.1 hu with rfl | hu3
      · exact absurd e (hno t ht3)
      · exact ih h.2 ht3 hu3
theorem look_own {W : World} {b k : Nat} {T : List Tri} {s : S} {p : List Ev} {pv : Value} (h : MapAt W b (T.map tv)) (hs : Wf s) (hn : ((T.map tw).map (·.1)).Nodup) (hk : T[k]? = some (s, p, pv)) : (Instr.lookup 61 (.map (some b)) (.agg s.arr) false).run Tryd.prog W = .ok pv W := by
  have hm := List.mem_of_getElem? hk
  rcases h.look hs with ⟨h1, _⟩ | ⟨v, h1, _, h2⟩
  · exact absurd rfl (h1 _ (List.mem_map_of_mem hm))
  · obtain ⟨t, ht, e⟩ := List.mem_map.1 h1
    have e1 : t.1 = s := by have := congrArg Prod.fst e; exact this
    have e2 : t.2.2 = v := by have := congrArg Prod.snd e; exact this
    have := nodup_key hn ht hm e1
    rw [this] at e2
    rw [h2, ← e2]
theorem info62 : (Tryd.prog.info? 62).map (·.size) = some 1 := by kernel_rfl
theorem build62_op {o : Oper} {a : Act} {W : World} {x : Operand} {C : Array Value} (h : o.op = .buildSlice 62 1 #[(0, x)]) (hx : a.eval x = .agg C) (hC : C.size = 38) : (execOp a.eval o).run Tryd.prog W = .ok (.value (.slice (some ⟨W.heap.size, 0, none⟩) 1 1)) (W.alloc (.cells C 58)) := by
  simp only [execOp, h, List.map_toArray, List.map_cons, List.map_nil, hx, Sem.run_bind, run_build62 C hC W, Result.andThen_ok]
  rfl
/-- a way's block has no deferred calls -/
def RetW (w : World) (pv : Value) (p : List Ev) (W : World) : Prop := Fr [] w W ∧ Rd W encE pv p ∧ ∀ g ∈ Value.blkOf pv, ∃ C, W.heap[g]? = some (.cells C 38 (0, 0))
theorem RetW.put {w W : World} {pv : Value} {p : List Ev} {D : Nat} (hB : w.heap.size ≤ D) (h : RetW w pv p W) (hD : W.heap[D]? = some (.deferred (some []))) : RetW w pv p (W.putObj D (.deferred none)) := by
  obtain ⟨h1, h2, h3⟩ := h
  have hF : Fr [D] W (W.putObj D (.deferred none)) := Fr.grown (grownBy_putObj' W D (.deferred none))
  have hne : ∀ g ∈ Value.blkOf pv, g ∉ [D] := fun g hg hm => by
    rw [List.mem_singleton] at hm; subst hm
    obtain ⟨C, hC⟩ := h3 g hg
    rw [hD] at hC; cases hC
  exact ⟨h1.new hF (by simpa using hB), h2.fr hF hne, fun g hg => by obtain ⟨C, hC⟩ := h3 g hg; exact ⟨C, hF.at_ hC (hne g hg)⟩⟩
/-- at the head of the loop -/
def LI (w : World) (bm b11 : Nat) (s0 : S) (a : Act) (W : World) : Prop :=
  ∃ (b12 : Nat) (Ds : List Nat) (T : List Tri) (k : Nat) (qv : Value), a.tmps.size = 72 ∧ a.tmps.getD 11 undef = .pointer (some ⟨b11, 0, none⟩) ∧ a.tmps.getD 12 undef = .pointer (some ⟨b12, 0, none⟩) ∧ a.defers = collects Ds ∧
    RI w w.heap.size bm b11 b12 Ds T k qv W ∧ BInv s0 (T.map tw) k ∧ Ds.Nodup ∧ Ds.length = k ∧ ∀ D ∈ Ds, w.heap.size ≤ D
set_option maxRecDepth 100000 in
set_option maxHeartbeats 6000000 in
theorem settle_good (n : Nat) (first : Int) (pa : Option Addr) (cap : Nat) (l : List Ev) (w : World) (h : Rd w encE (.slice pa l.length cap) l) (h2 : 2 ≤ n) (h4 : n ≤ 4) (hf : 0 ≤ first ∧ first < n) (hl : l.length ≤ 200)
    (l0 : List Ev) (hl0 : l0.length ≤ 7) (hg0 : Leads ((Rl.start n first).runs l) l0) :
    Calls Tryd.prog 7 #[.int .i64 n, .int .i64 first, .slice pa l.length cap] w (SettlePost ((Rl.start n first).runs l) w) := by
  have H := Lib.hid h
  have HA : Hid (2 ≤ n ∧ n ≤ 4 ∧ (0 ≤ first ∧ first < n) ∧ l.length ≤ 200) := ⟨h2, h4, hf, hl⟩
  have HL0 := Lib.hid hl0
  have HG0 := Lib.hid hg0
  obtain ⟨s0, hs0⟩ : ∃ s0, s0 = (Rl.start n first).runs l := ⟨_, rfl⟩
  have HWF : Hid (Wf s0) := by show Wf s0; rw [hs0]; exact runs_wf (start_wf n first h2 h4) l
  have HS38 : Hid (s0.arr.size = 38) := arr_size HWF.out.ok
  rw [← hs0] at HG0 ⊢
  have HS0 := Lib.hid hs0
  clear h h2 h4 hf hl hl0 hg0 hs0
  have hmm := @run_makeMap Tryd.prog
  refine (callsIn_wide (n := 3)).1 ?_
  refine callsIn_of_wp_marks Tryd.func7 rfl trivial ?_ rfl
  refine wpIn_wide.2 ?_
  simp only [Tryd.ntmps7, List.size_toArray, List.length_cons, List.length_nil, Nat.reduceAdd, Nat.reduceSub, Array.replicate_succ, Array.replicate_zero, List.push_toArray, List.append_toArray, List.nil_append, List.cons_append]
  go_wp2_with (first
    | (go_at_call 18; refine (run_good n first pa cap l _ (by exact H.out) HA.out.1 HA.out.2.1 HA.out.2.2.1 HA.out.2.2.2).mono ?_; rintro e w1 ⟨v, rfl, hF1⟩; rw [← HS0.out]; have HF1 := Lib.hid hF1; clear hF1)
    | (refine wpList_st rfl 58 (.tmp 8) (.tmp 23) rfl w1.heap.size 0 (.agg s0.arr) (by first | rfl | simp [Act.eval]) (by first | rfl | simp [Act.eval]) 58 _ (alloc_new _ _) (by simp only [Value.cells]; rw [HS38.out]; exact info58) (by simp only [Value.cells]; rw [HS38.out]; simp) (one_arr _) s0.arr (whole_splice _ _ HS38.out rfl) ?_; intro w2 hF2 hB2; have HB2 := Lib.hid hB2; have HF2 : Hid (Fr [] w w2) := (HF1.out.alloc _).new hF2 (by have := HF1.out.size; simp; omega); clear hF2 hB2)
    | (refine wpList_ldS rfl (.tmp 8) rfl w1.heap.size (by first | rfl | simp [Act.eval]) s0 HS38.out 58 (alloc_at HB2.out _) ?_)
    | (obtain ⟨w3, hr3, hM3, hF3⟩ := (mapAt_made w2).put HWF.out (by simp) (.slice none 0 0); refine wpList_ins rfl (.tmp 29) (.tmp 30) (.const (.slice none 0 0)) rfl w3 hr3 ?_; have HB3 := Lib.hid (hF3.at_ (alloc_at HB2.out _) (by have := blk_lt HB2.out; simp; omega)); have HM3 := Lib.hid hM3; have HF3 : Hid (Fr [] w w3) := (HF2.out.alloc _).new hF3 (by have := HF2.out.size; simp; omega); have hl3 : w1.heap.size < w3.heap.size := blk_lt HB3.out; clear hr3 hM3 hF3)
    | (refine wpList_ldS rfl (.tmp 8) rfl w1.heap.size (by first | rfl | simp [Act.eval]) s0 HS38.out 58 (by exact alloc_at HB3.out _) ?_)
    | (refine wpList_b62 rfl (.tmp 32) rfl s0.arr rfl HS38.out ?_))
  -- THE LOOP
  refine wp_loop (LI w w2.heap.size w3.heap.size s0) (fun a _ => Rl.bound + 1 - a.defers.length) ?_ ?_
  · refine ⟨w3.heap.size + 2, [], [(s0, [], .slice none 0 0)], 0, .slice (some ⟨w3.heap.size + 1, 0, none⟩) 1 1, rfl, rfl, rfl, rfl, ?_, BInv.start s0, by simp, rfl, by simp⟩
    have hz := HF3.out.size
    have hz2 := HF2.out.size
    refine ⟨((HF3.out.alloc _).alloc _).alloc _, ?_, ?_, ?_, ?_, ?_, by simp, ?_⟩
    · exact alloc_at (alloc_at (alloc_new w3 _) _) _
    · exact alloc_newn (by simp) _
    · exact (HM3.out.fr (((Fr.refl [] w3).alloc _).alloc _) (by simp)).fr ((Fr.refl [] _).alloc _) (by simp)
    · intro t ht
      simp only [List.mem_singleton] at ht
      subst ht
      exact ⟨Rd.nil _ _, by simp [Value.blkOf]⟩
    · exact ⟨[⟨s0, HWF.out⟩], rfl, Tail.one (x := (⟨s0, HWF.out⟩ : WS)) (encS_len _) (by omega) (alloc_at (alloc_newn (by simp) _) _) (by simp [S.arr, encS])⟩
    · exact ⟨hz2, by omega, Nat.le_refl _⟩
  · rintro a W ⟨b12, Ds, T, k, qv, hA, h11, h12, hdf, hRI, hBI, hnd, hlen, hDw⟩
    obtain ⟨g, hg, hgv⟩ := arr72 a.tmps hA
    have g11 := (hgv 11).trans h11
    have g12 := (hgv 12).trans h12
    obtain ⟨A, dfs⟩ := a
    simp only at hA hg hdf
    subst hg hdf
    clear hgv h11 h12 hA
    rw [g11, g12]
    clear g11 g12
    have hkT : k < T.length := by have := hBI.more HG0.out; simpa using this
    obtain ⟨⟨s, p, pv⟩, hTk⟩ : ∃ t, T[k]? = some t := ⟨T[k], List.getElem?_eq_getElem hkT⟩
    obtain ⟨Ql, hQl, hTl⟩ := hRI.que
    have hdr : T.drop k = (s, p, pv) :: T.drop (k + 1) := by
      rw [List.drop_eq_getElem_cons hkT]
      have : T[k] = (s, p, pv) := by rw [List.getElem?_eq_getElem hkT] at hTk; exact Option.some.inj hTk
      rw [this]
    rw [hdr] at hQl
    obtain ⟨⟨s', hws⟩, Qr, rfl⟩ : ∃ x Qr, Ql = x :: Qr := by
      cases Ql with
      | nil => simp at hQl
      | cons x Qr => exact ⟨x, Qr, rfl⟩
    obtain ⟨rfl, hQr⟩ : s' = s ∧ Qr.map (·.1) = (T.drop (k + 1)).map (·.1) := by simpa using hQl
    obtain ⟨gq, off, nq, cq, rfl, hnq⟩ := hTl.shape
    have hnq0 : (0 : Int) < nq := by have := hnq.out; simp at this; omega
    have hnq1 : 0 < nq := by omega
    have q12 : W.cell? ⟨b12, 0, none⟩ = some (.slice (some ⟨gq, off, none⟩) nq cq) := (cell_blk hRI.h12 0).trans rfl
    have q11 : W.cell? ⟨w3.heap.size, 0, none⟩ = some (.map (some w2.heap.size)) := (cell_blk hRI.h11 0).trans rfl
    have hl12 : b12 < W.heap.size := blk_lt hRI.h12
    have hl11 : w3.heap.size < W.heap.size := blk_lt hRI.h11
    have HRI := Lib.hid hRI
    have HBI := Lib.hid hBI
    have HND := Lib.hid hnd
    have HLEN := Lib.hid hlen
    have HDW := Lib.hid hDw
    have HQ := Lib.hid hTl
    have HQR := Lib.hid hQr
    have HTK := Lib.hid hTk
    have HDR := Lib.hid hdr
    have HKT := Lib.hid hkT
    have HWS := Lib.hid hws
    have H38 : Hid (s'.arr.size = 38) := arr_size hws.ok
    clear hRI hBI hnd hlen hDw hTl hQr hTk hdr hkT hQl
    by_cases hst : s'.settled = true
    · have HST := Lib.hid hst
      clear hst
      go_wp2_with (first
        | (refine wpList_ldQ rfl (.tmp 40) rfl gq off (by first | rfl | simp [Act.eval]) ⟨s', HWS.out⟩ _ HQ.out.rd ?_)
        | (refine wpList_st rfl 58 (.tmp 13) (.tmp 41) rfl W.heap.size 0 (.agg s'.arr) (by first | rfl | simp [Act.eval]) (by first | rfl | simp [Act.eval]) 58 _ (alloc_new _ _) (by simp only [Value.cells]; rw [H38.out]; exact info58) (by simp only [Value.cells]; rw [H38.out]; simp) (one_arr _) s'.arr (whole_splice _ _ H38.out rfl) ?_; intro w4 hF4 hB4; have HB4 := Lib.hid hB4; have HF4 : Hid (Fr [] W w4) := ((Fr.refl [] W).alloc _).new hF4 (by simp); clear hF4 hB4)
        | (go_at_call 19; refine (settled_any _ s' _ (by exact ⟨HB4.out, HWS.out.ok⟩)).mono ?_; rintro e w5 ⟨rfl, hF5⟩; rw [HST.out]; have q11 : w5.cell? ⟨w3.heap.size, 0, none⟩ = some (.map (some w2.heap.size)) := (cell_blk ((HF4.out.trans hF5).at_ HRI.out.h11 (by simp)) 0).trans rfl; have HB5 := Lib.hid (hF5.at_ HB4.out (by simp)); have HLK : Hid ((Instr.lookup 61 (.map (some w2.heap.size)) (.agg s'.arr) false).run Tryd.prog w5 = .ok pv w5) := look_own ((HRI.out.keep0 HF4.out).keep0 hF5).map HWS.out HBI.out.ways.nodup HTK.out; have HF5 : Hid (Fr [] W w5) := HF4.out.trans hF5; clear hF5)
        | (refine wpList_ldS rfl (.tmp 13) rfl W.heap.size (by first | rfl | simp [Act.eval]) s' H38.out 58 HB5.out ?_)
        | (refine wpList_look rfl 61 (.tmp 43) (.tmp 44) false rfl pv HLK.out ?_))
      have hRI5 := HRI.out.keep0 HF5.out
      have hv := hRI5.vals _ (List.mem_of_getElem? HTK.out)
      refine leaves_from (.tuple #[pv, .int .i64 0]) (fun w => results_tmp2 (fn := Tryd.f7) (t := 6) (u := 7) rfl _ _ w) w.heap.size (RetW w pv p) (fun _ _ hB h hD => h.put hB hD) (fun W' h => ?_) Ds _ HND.out HDW.out hRI5.marks ⟨hRI5.fr, hv.1, hv.2⟩
      have hget : (T.map tw)[k]? = some (s', p) := by rw [List.getElem?_map, HTK.out]; rfl
      exact ⟨pv, p, rfl, h.2.1, HBI.out.leads hget HST.out, fun l' hl' => HBI.out.least hget hl', h.1⟩
    · have hst' : s'.settled = false := by simpa using hst
      have HST := Lib.hid hst'
      clear hst hst'
      go_wp2_with (first
        | (refine wpList_ldQ rfl (.tmp 40) rfl gq off (by first | rfl | simp [Act.eval]) ⟨s', HWS.out⟩ _ HQ.out.rd ?_)
        | (refine wpList_st rfl 58 (.tmp 13) (.tmp 41) rfl W.heap.size 0 (.agg s'.arr) (by first | rfl | simp [Act.eval]) (by first | rfl | simp [Act.eval]) 58 _ (alloc_new _ _) (by simp only [Value.cells]; rw [H38.out]; exact info58) (by simp only [Value.cells]; rw [H38.out]; simp) (one_arr _) s'.arr (whole_splice _ _ H38.out rfl) ?_; intro w4 hF4 hB4; have HB4 := Lib.hid hB4; have HF4 : Hid (Fr [] W w4) := ((Fr.refl [] W).alloc _).new hF4 (by simp); clear hF4 hB4)
        | (go_at_call 19; refine (settled_any _ s' _ (by exact ⟨HB4.out, HWS.out.ok⟩)).mono ?_; rintro e w5 ⟨rfl, hF5⟩; rw [HST.out]; have HB5 := Lib.hid (hF5.at_ HB4.out (by simp)); have HF5 : Hid (Fr [] W w5) := HF4.out.trans hF5; clear hF5)
        | (refine wpList_ldS rfl (.tmp 13) rfl W.heap.size (by first | rfl | simp [Act.eval]) s' H38.out 58 HB5.out ?_)
        | (go_at_call 20; refine (next_any s' _).mono ?_; rintro e w6 ⟨rfl, hw6⟩; have HW6 := Lib.hid hw6; clear hw6))
      have hRI5 := HRI.out.keep0 HF5.out
      have hz5 : W.heap.size < w5.heap.size := blk_lt HB5.out
      obtain ⟨Wb, hWb⟩ : ∃ Wb, Wb = w5.alloc (.cells s'.arr 58) := ⟨_, rfl⟩
      rw [HW6.out, ← hWb]
      have hFb : Fr [] w5 Wb := by rw [hWb]; exact (Fr.refl [] w5).alloc _
      have hBb : Wb.heap[w5.heap.size]? = some (.cells s'.arr 58 (0, 0)) := by rw [hWb]; exact alloc_new _ _
      have h13b := hFb.at_ HB5.out (by simp)
      have hRIb := hRI5.keep0 hFb
      have hzb : w5.heap.size < Wb.heap.size := blk_lt hBb
      have hqlt : ∀ x ∈ Value.blkOf (.slice (some ⟨gq, off, none⟩) nq cq), x ≠ W.heap.size ∧ x ≠ w5.heap.size := fun x hx => by
        obtain ⟨_, C, hC⟩ := HRI.out.quecell x hx
        have := blk_lt hC
        omega
      have hDlt : ∀ D ∈ Ds, D < Wb.heap.size := fun D hD => blk_lt (hRIb.marks D hD)
      have hbml : w2.heap.size < Wb.heap.size := hRIb.map.lt
      have hwb : w.heap.size ≤ Wb.heap.size := hRIb.fr.size
      have HRIB := Lib.hid hRIb
      have H13B := Lib.hid h13b
      have HBB := Lib.hid hBb
      have HQL := Lib.hid hqlt
      have HDL := Lib.hid hDlt
      have HFB := Lib.hid hFb
      clear hRI5 hFb hBb h13b hRIb hqlt hDlt hWb HW6 q12 q11
      generalize hab : Act.mk _ _ = ab
      refine (wpIn_wide (n := 3)).1 (wpIn_rangeFunc_ownH (F := Fence.wide) (n := 3) (α := Nx s') rfl (by omega) (gf := 34) (lb := #[.pointer (some ⟨w5.heap.size, 0, none⟩)]) (by rw [← hab]; rfl) trivial (enters_of Tryd.func34 (by kernel_rfl) rfl)
        (next_stops s' HWS.out w5.heap.size 2 Wb HBB.out) (fun h k b C E hc hb => k b C E hc (h b C E hc hb)) (fun W l o o' _ hl ho _ b C E _ hb => (World.putObj_heap_other (fun e => by subst e; rw [hl] at hb; cases hb; simp [Obj.isCells] at ho)).trans hb) (Below.refl _ _) (fun _ => rfl)
        (IR w w.heap.size w2.heap.size w3.heap.size b12 W.heap.size w5.heap.size Ds s' p T k) (fun _ _ _ => False) (IR.own hwb hbml HDL.out) (fun _ _ _ _ _ h _ _ => h) ⟨T, _, HRIB.out, rfl, H13B.out, HQL.out⟩
        (fun x a' W' => ∃ b14 b15, a' = setS { tmps := ab.tmps, defers := [] } [(48, .agg (encE x.1.1).toArray), (49, .agg x.1.2.arr), (14, .pointer (some ⟨b14, 0, none⟩)), (15, .pointer (some ⟨b15, 0, none⟩))] ∧ W'.heap[b14]? = some (.cells (encE x.1.1).toArray 38 (0, 0)) ∧ W'.heap[b15]? = some (.cells x.1.2.arr 58 (0, 0)))
        ?hAx ?assign ?body ?done ?stop)
      case hAx =>
        rintro x a' u W1 W2 row ⟨b14, b15, h1, h2, h3⟩ hg hr
        have hF := Fr.grown hg
        have hno : ∀ b ∈ row.toList, ∀ C E, W1.heap[b]? ≠ some (.cells C E (0, 0)) := fun b hb C E hc => by
          obtain ⟨r, rfl⟩ : ∃ r, row = some r := by cases row with | none => simp at hb | some r => exact ⟨r, rfl⟩
          simp at hb; subst hb
          obtain ⟨_, o, h6, h7⟩ := hr _ rfl
          rw [h6] at hc; cases hc; simp [Obj.isCells] at h7
        exact ⟨b14, b15, h1, hF.at_ h2 fun hm => hno _ hm _ _ h2, hF.at_ h3 fun hm => hno _ hm _ _ h3⟩
      case assign =>
        rintro l1 pre ⟨⟨ev, s2⟩, hkd, hap⟩ W1 K hI hK
        have HI := Lib.hid hI
        have HK := Lib.hid hK
        have H2W : Hid (Wf s2) := HWS.out.app hap
        have H238 : Hid (s2.arr.size = 38) := arr_size H2W.out.ok
        clear hI hK
        subst hab
        have e1 : (#[48, 49] : Array Nat).zip (encN (⟨(ev, s2), hkd, hap⟩ : Nx s')) = #[(48, .agg (encE ev).toArray), (49, .agg s2.arr)] := by simp [encN]
        rw [e1]
        clear e1
        simp only [List.foldl_toArray, List.foldl_cons, List.foldl_nil, List.setIfInBounds_toArray, List.set_cons_succ, List.set_cons_zero]
        gi_wp2_with (first
          | (refine wpListIn_plain rfl fun K9 hK9 => ?_; obtain ⟨w7, hr7, hF7, hB7⟩ := run_store_blk (P := Tryd.prog) (W1.alloc (.cells #[I 0, I 0, I 0] 38)) W1.heap.size 0 38 (.agg (encE ev).toArray) #[I 0, I 0, I 0] 38 (alloc_new W1 _) (by simp only [Value.cells]; exact info38) (by simp [Value.cells, encE]) (by simp [Value.cells, Value.oneCell', encE]) (encE ev).toArray (whole3 _ _ rfl rfl); refine oper_store 38 (.tmp 14) (.tmp 48) rfl w7 hr7 (hK9 _ _ ?_); clear hr7 hK9; have HB7 := Lib.hid hB7; have HF7 : Hid (Fr [] W1 w7) := ((Fr.refl [] W1).alloc _).new hF7 (by simp); clear hF7 hB7)
          | (refine wpListIn_plain rfl fun K9 hK9 => ?_; obtain ⟨w8, hr8, hF8, hB8⟩ := run_store_blk (P := Tryd.prog) (w7.alloc (.cells zeros38 58)) w7.heap.size 0 58 (.agg s2.arr) zeros38 58 (alloc_new w7 _) (by simp only [Value.cells]; rw [H238.out]; exact info58) (by simp only [Value.cells]; rw [H238.out]; exact Nat.le_refl 38) (one_arr _) s2.arr (whole_splice _ _ H238.out rfl); refine oper_store 58 (.tmp 15) (.tmp 49) rfl w8 hr8 (hK9 _ _ ?_); clear hr8 hK9; have HB8 := Lib.hid hB8; have HF8 : Hid (Fr [] w7 w8) := ((Fr.refl [] w7).alloc _).new hF8 (by simp); clear hF8 hB8))
        have hF := HF7.out.trans HF8.out
        obtain ⟨T1, qv, hRI1, hT1, h131, hq1⟩ := HI.out
        refine HK.out _ _ ⟨hF.size, fun k o hk ho _ => hF.at_ ho (by simp)⟩ (fun b C E _ hb => hF.at_ hb (by simp)) ⟨T1, qv, hRI1.keep0 hF, hT1, hF.at_ h131 (by simp), hq1⟩ ⟨W1.heap.size, w7.heap.size, ?_, HF8.out.at_ HB7.out (by simp), HB8.out⟩
        rfl
      case body =>
        rintro l1 pre ⟨⟨ev, s2⟩, hkd, hap⟩ a' W1 hl1 hr1 ⟨T1, qv1, hRI1, hT1, h131, hq1⟩ ⟨b14, b15, rfl, hb14, hb15⟩ hlt
        subst hab
        simp only at hb14 hb15
        simp only [setS, List.foldl_cons, List.foldl_nil, List.setIfInBounds_toArray, List.set_cons_succ, List.set_cons_zero]
        have H2W : Hid (Wf s2) := HWS.out.app hap
        have H238 : Hid (s2.arr.size = 38) := arr_size H2W.out.ok
        have r11 : W1.cell? ⟨w3.heap.size, 0, none⟩ = some (.map (some w2.heap.size)) := (cell_blk hRI1.h11 0).trans rfl
        have r12 : W1.cell? ⟨b12, 0, none⟩ = some qv1 := (cell_blk hRI1.h12 0).trans rfl
        have HRI1 := Lib.hid hRI1
        have HT1 := Lib.hid hT1
        have H131 := Lib.hid h131
        have HQ1 := Lib.hid hq1
        have HB14 := Lib.hid hb14
        have HB15 := Lib.hid hb15
        have HL1 := Lib.hid hl1
        have HR1 := Lib.hid hr1
        have HLT := Lib.hid hlt
        clear hRI1 hT1 h131 hq1 hb14 hb15 hl1 hr1 hlt
        have hPT : PathTo s0 p s' := HBI.out.ways.path (s', p) (List.mem_of_getElem? (by rw [List.getElem?_map, HTK.out]; rfl))
        have hvs := visits_spec hPT (pre.map (·.1)) (T.map tw) HBI.out.ways (fun x hx => by obtain ⟨y, _, rfl⟩ := List.mem_map.1 hx; exact y.2)
        rw [← HT1.out] at hvs
        have HVS := Lib.hid hvs
        have HPL : Hid (p.length ≤ 7) := Nat.le_trans (HBI.out.least (q := (s', p)) (by rw [List.getElem?_map, HTK.out]; rfl) HG0.out) HL0.out
        clear hvs hPT
        rcases HRI1.out.map.look H2W.out with ⟨hno, hlk⟩ | ⟨v2, hv2, hlk, _⟩
        · have HNO := Lib.hid hno
          have HLK := Lib.hid hlk
          clear hno hlk
          gi_wp2_with (first
            | (refine wpListIn_plain rfl fun K9 hK9 => oper_load 58 (.tmp 15) rfl (.agg s2.arr) (run_load_blk W1 b15 58 s2.arr 58 (0, 0) _ HB15.out Tryd.underlying58 rfl (by rw [H238.out]; exact info58)) (hK9 _ _ ?_))
            | (refine wpListIn_plain rfl fun K9 hK9 => oper_lookup 61 (.tmp 51) (.tmp 52) true rfl _ HLK.out (hK9 _ _ ?_)))
          have HIN : Hid ((s', p) ∈ T1.map tw) := by
            obtain ⟨N, hN, _⟩ := HVS.out.2.1
            show _ ∈ _
            rw [hN]
            exact List.mem_append_left _ (List.mem_of_getElem? (by rw [List.getElem?_map, HTK.out]; rfl : (T.map tw)[k]? = some (s', p)))
          refine reg16 (by kernel_rfl) (by kernel_rfl) (by kernel_rfl) s' s2 ev p (T1.map tv) w2.heap.size w3.heap.size W.heap.size b14 b15 rfl rfl rfl rfl rfl HWS.out H2W.out (by have := HPL.out; omega) HRI1.out.h11 H131.out HB14.out HB15.out HRI1.out.map ?_ HNO.out ?_
            rfl rfl rfl rfl rfl rfl rfl rfl rfl rfl rfl rfl rfl rfl rfl rfl rfl rfl rfl rfl rfl rfl rfl rfl rfl rfl rfl rfl rfl rfl ⟨{ on := 2, ground := Ground.data }, by simp, rfl, rfl⟩ ⟨{ on := 3, ground := Ground.data }, by simp, rfl, rfl⟩ ⟨{ on := 4, ground := Ground.data }, by simp, rfl, rfl⟩ ⟨{ on := 6, ground := Ground.data }, by simp, rfl, rfl⟩ ⟨{ on := 5, ground := Ground.data }, by simp, rfl, rfl⟩ ⟨{ on := 7, ground := Ground.data }, by simp, rfl, rfl⟩ ⟨{ on := 0, ground := Ground.data }, by simp, rfl, rfl⟩ ⟨{ on := 1, ground := Ground.data }, by simp, rfl, rfl⟩ ⟨{ on := 8, ground := Ground.data }, by simp, rfl, rfl⟩ ?_
          · obtain ⟨t, ht, e⟩ := List.mem_map.1 HIN.out
            exact ⟨tv t, List.mem_map_of_mem ht, congrArg Prod.fst e⟩
          · intro v hv
            obtain ⟨t, ht, e⟩ := List.mem_map.1 hv
            obtain ⟨u, hu, e2⟩ := List.mem_map.1 HIN.out
            have e3 : t.1 = u.1 := (congrArg Prod.fst e).trans (congrArg Prod.fst e2).symm
            have e4 := nodup_key HVS.out.1.nodup ht hu e3
            have e5 : t.2.2 = v := congrArg Prod.snd e
            have e6 : u.2.1 = p := congrArg Prod.snd e2
            rw [← e5, ← e6, ← e4]
            exact (HRI1.out.vals t ht).1
          rintro a2 W2 v hS hF2 hM2 hO2
          have hSe := hS.eq (by simp)
          rw [hSe]
          clear hSe hS
          simp only [List.map_cons, List.map_nil]
          generalize a2.eval (.tmp 58) = z58
          generalize a2.eval (.tmp 59) = z59
          generalize a2.eval (.tmp 60) = z60
          generalize a2.eval (.tmp 61) = z61
          generalize a2.eval (.tmp 62) = z62
          generalize a2.eval (.tmp 63) = z63
          generalize a2.eval (.tmp 64) = z64
          generalize a2.eval (.tmp 65) = z65
          generalize a2.eval (.tmp 66) = z66
          rename_i K16 hK16
          simp only [setS, List.foldl_cons, List.foldl_nil, List.setIfInBounds_toArray, List.set_cons_succ, List.set_cons_zero]
          refine hK16 _ _ ?_
          clear hK16
          have hbmc : ∀ C E, W1.heap[w2.heap.size]? ≠ some (.cells C E (0, 0)) := by
            obtain ⟨⟨es, cl, h1, _⟩, _⟩ := HRI1.out.map
            intro C E h2; rw [h1] at h2; cases h2
          have hc2 : ∀ {b : Nat} {C : Array Value} {E : TypeId}, W1.heap[b]? = some (.cells C E (0, 0)) → W2.heap[b]? = some (.cells C E (0, 0)) := fun hb => hF2.at_ hb fun hm => by rw [List.mem_singleton] at hm; subst hm; exact hbmc _ _ hb
          have h122 := hc2 HRI1.out.h12
          have h152 := hc2 HB15.out
          obtain ⟨Ql1, hQl1, hTl1⟩ := HRI1.out.que
          have hTl2 : Tail W2 w.heap.size 58 38 encS qv1 Ql1 := hTl1.fr hF2 fun x hx hm => by
            rw [List.mem_singleton] at hm; subst hm
            obtain ⟨_, C, hC⟩ := HRI1.out.quecell _ hx
            exact hbmc _ _ hC
          have hlen1 : Ql1.length ≤ Rl.bound := by
            have e1 : Ql1.length = (T1.drop k).length := by have := congrArg List.length hQl1; simpa using this
            have e2 : (T1.map tw).length ≤ Rl.bound := by
              refine HVS.out.1.bound HWF.out.ok fun t ht => ?_
              obtain ⟨N, hN, hNl⟩ := HVS.out.2.1
              rw [hN] at ht
              rcases List.mem_append.1 ht with ht | ht
              · have := HBI.out.near (s', p) (by rw [List.getElem?_map, HTK.out]; rfl) t ht
                have := HPL.out
                simp only at *
                omega
              · have := hNl t ht
                have := HPL.out
                omega
            rw [List.length_map] at e2
            rw [e1, List.length_drop]
            omega
          have hsz2 : w.heap.size ≤ W2.heap.size := Nat.le_trans HRI1.out.fr.size hF2.size
          obtain ⟨v', W4, hrun4, hT4, hF4, hB4⟩ := run_tail_app (P := Tryd.prog) 62 62 (.agg zeros38) 304 Tryd.underlying62 info58z rfl encS_len oneS (hTl2.fr ((Fr.refl [] W2).alloc (.cells s2.arr 58)) (by simp)) W2.heap.size 0 1 [(⟨s2, H2W.out⟩ : WS)] (Rd.of_blk (l := [(⟨s2, H2W.out⟩ : WS)]) (alloc_new W2 _) (by simp [S.arr, encS]) (by simp) (by simp [maxLen]))
            (by unfold Rl.bound at hlen1; simp [maxLen]; omega) (by unfold Rl.bound at hlen1; simp; omega) (by simp; omega)
          have hF24 : Fr (Value.blkOf qv1) W2 W4 := ((Fr.refl _ W2).alloc _).trans hF4
          have hqc12 : b12 ∉ Value.blkOf qv1 := fun hm => by
            obtain ⟨_, C, hC⟩ := HRI1.out.quecell _ hm
            rw [HRI1.out.h12] at hC; cases hC
          have h124 := hF24.at_ h122 hqc12
          obtain ⟨gv, ov, nv, cv, rfl, _⟩ := hT4.shape
          obtain ⟨W5, hr5, hF5, hB5⟩ := run_store_blk (P := Tryd.prog) W4 b12 0 62 (.slice (some ⟨gv, ov, none⟩) nv cv) #[qv1] 62 h124 (by simp only [Value.cells]; exact info62) (by simp [Value.cells]) (by simp [Value.cells, Value.oneCell']) #[.slice (some ⟨gv, ov, none⟩) nv cv] (by simp [Value.cells, splice])
          have r12b : W2.cell? ⟨b12, 0, none⟩ = some qv1 := (cell_blk h122 0).trans rfl
          have HR4 : Hid ((Builtin.append_ #[62, 62] 62 #[qv1, .slice (some ⟨W2.heap.size, 0, none⟩) 1 1]).run Tryd.prog (W2.alloc (.cells s2.arr 58)) = .ok (.slice (some ⟨gv, ov, none⟩) nv cv) W4) := hrun4
          have HR5 := Lib.hid hr5
          have H152 := Lib.hid h152
          have HT4 := Lib.hid hT4
          have HF24 := Lib.hid hF24
          have HB4 := Lib.hid hB4
          have HF5 := Lib.hid hF5
          have HB5 := Lib.hid hB5
          have HF2 := Lib.hid hF2
          have HM2 := Lib.hid hM2
          have HO2 := Lib.hid hO2
          have HQ2 := Lib.hid hQl1
          have HC12 := Lib.hid hqc12
          have HBMC := Lib.hid hbmc
          clear hrun4 hr5 h152 hT4 hF24 hB4 hF5 hB5 hF2 hM2 hO2 hQl1 hTl1 hTl2 hlen1 hF4 h124 h122 hc2 hqc12 hbmc r11 r12
          gi_wp2_with (first
            | (refine wpListIn_plain (o := ⟨some 68, _, _, _, _, _⟩) rfl fun K9 hK9 => oper_load 58 (.tmp 15) rfl (.agg s2.arr) (run_load_blk W2 b15 58 s2.arr 58 (0, 0) _ H152.out Tryd.underlying58 rfl (by rw [H238.out]; exact info58)) (hK9 _ _ ?_))
            | (refine wpListIn_plain (o := ⟨some 69, _, _, _, _, _⟩) rfl fun K9 hK9 => oper_val (.slice (some ⟨W2.heap.size, 0, none⟩) 1 1) rfl (by intro c h; cases h) (w' := W2.alloc (.cells s2.arr 58)) (build62_op (x := .tmp 68) rfl rfl H238.out) (hK9 _ _ ?_))
            | (refine wpListIn_plain (o := ⟨some 70, _, _, _, _, _⟩) rfl fun K9 hK9 => oper_append (.tmp 67) (.tmp 69) 62 rfl _ W4 HR4.out (hK9 _ _ ?_))
            | (refine wpListIn_plain (o := ⟨none, _, _, _, _, _⟩) rfl fun K9 hK9 => oper_store 62 (.tmp 12) (.tmp 70) rfl W5 HR5.out (hK9 _ _ ?_)))
          have hkeep : ∀ {b : Nat} {o : Obj}, W1.heap[b]? = some o → b ≠ w2.heap.size → b ∉ Value.blkOf qv1 → b ≠ b12 → W5.heap[b]? = some o := fun hb h1 h2 h3 => HF5.out.at_ (HF24.out.at_ (HF2.out.at_ hb (by simpa using h1)) h2) (by simpa using h3)
          have hlr1 : Wb.heap.size ≤ W1.heap.size := by
            obtain ⟨r, hr⟩ := HR1.out
            have := blk_lt hr
            have := HL1.out
            omega
          refine ⟨⟨Nat.le_trans (Nat.le_trans HF2.out.size HF24.out.size) HF5.out.size, fun b o hb ho hoc => hkeep ho (by omega) (fun hm => ?_) (fun e => ?_)⟩, fun b C E hE hb => hkeep hb (fun e => ?_) (fun hm => ?_) (fun e => ?_), T1 ++ [(s2, p ++ [ev], v)], _, HRI1.out.more (s' := ⟨s2, H2W.out⟩) ?_ HF2.out HM2.out HO2.out HF24.out (fun Ql hQl hTq => ?_) HF5.out HB5.out, ?_, ?_, fun x hx => ?_⟩
          · obtain ⟨_, C, hC⟩ := HRI1.out.quecell _ hm
            rw [ho] at hC; cases hC; simp [Obj.isCells] at hoc
          · subst e; rw [HRI1.out.h12] at ho; cases ho; simp [Obj.isCells] at hoc
          · subst e; exact HBMC.out _ _ hb
          · obtain ⟨_, C', hC'⟩ := HRI1.out.quecell _ hm
            rcases hE with rfl | rfl
            · rw [hb] at hC'; cases hC'
            · exact (HQ1.out _ hm).2 rfl
          · subst e
            rw [HRI1.out.h12] at hb
            rcases hE with rfl | hE
            · cases hb
            · omega
          · obtain ⟨N, hN, _⟩ := HVS.out.2.1
            have := congrArg List.length hN
            simp at this
            have := HKT.out
            omega
          · have e : Ql = Ql1 := (List.map_inj_right (fun _ _ h => Subtype.ext h)).1 (hQl.trans HQ2.out.symm)
            rw [e]; exact HT4.out
          · rw [List.map_append, List.map_cons, List.map_nil, List.map_append, List.map_cons, List.map_nil, visits_snoc, ← HT1.out]
            unfold visit
            rw [if_neg]
            · rfl
            · intro hm
              rw [List.map_map] at hm
              obtain ⟨t, ht, e⟩ := List.mem_map.1 hm
              exact HNO.out (tv t) (List.mem_map_of_mem ht) e
          · refine hkeep H131.out (fun e => ?_) (fun hm => (HQ1.out _ hm).1 rfl) (by omega)
            rw [e] at H131; exact HBMC.out _ _ H131.out
          · have hl13 : W.heap.size < W1.heap.size := blk_lt H131.out
            have := HF2.out.size
            rcases HB4.out x hx with h | h
            · exact HQ1.out x h
            · simp at h; omega
        · have HV2 := Lib.hid hv2
          have HLK := Lib.hid hlk
          clear hv2 hlk
          gi_wp2_with (first
            | (refine wpListIn_plain rfl fun K9 hK9 => oper_load 58 (.tmp 15) rfl (.agg s2.arr) (run_load_blk W1 b15 58 s2.arr 58 (0, 0) _ HB15.out Tryd.underlying58 rfl (by rw [H238.out]; exact info58)) (hK9 _ _ ?_))
            | (refine wpListIn_plain rfl fun K9 hK9 => oper_lookup 61 (.tmp 51) (.tmp 52) true rfl _ HLK.out (hK9 _ _ ?_)))
          refine ⟨KeepsFrom.refl _ _, fun b C E _ hb => hb, T1, qv1, HRI1.out, ?_, H131.out, HQ1.out⟩
          have hmem : s2 ∈ (visits p (T.map tw) (pre.map (·.1))).map (·.1) := by
            rw [← HT1.out, List.map_map]
            obtain ⟨t, ht, e⟩ := List.mem_map.1 HV2.out
            exact List.mem_map.2 ⟨t, ht, congrArg Prod.fst e⟩
          rw [List.map_append, List.map_cons, List.map_nil, visits_snoc, HT1.out]
          unfold visit
          rw [if_pos hmem]
      case stop =>
        rintro D c pre W1 _ _ h _
        exact h.elim
      case done =>
        rintro D xs W1 hD hcov ⟨T1, qv1, hRI1, hT1, h131, hq1⟩ hDef
        subst hab
        have hPT : PathTo s0 p s' := HBI.out.ways.path (s', p) (List.mem_of_getElem? (by rw [List.getElem?_map, HTK.out]; rfl))
        have hsub : ∀ x ∈ xs.map (·.1), (x.1.kind = 2 ∨ x.1.kind = 5) ∧ s'.app x.1 = some x.2 := fun x hx => by obtain ⟨y, _, rfl⟩ := List.mem_map.1 hx; exact y.2
        have hvs := visits_spec hPT (xs.map (·.1)) (T.map tw) HBI.out.ways hsub
        have hstep := HBI.out.step (s := s') (p := p) (by rw [List.getElem?_map, HTK.out]; rfl) HST.out (xs.map (·.1)) hsub (fun e s3 hk ha => by
          obtain ⟨k1, a1, hk1, ha1, rfl⟩ := tried_of ha hk
          obtain ⟨x, hx, e⟩ := hcov k1 hk1 a1 ha1 s3 ha
          exact ⟨x.1, List.mem_map_of_mem hx, e⟩)
        rw [← hT1] at hvs hstep
        obtain ⟨N, hN, _⟩ := hvs.2.1
        have hkT1 : k < T1.length := by
          have h1 := congrArg List.length hN
          rw [List.length_append, List.length_map, List.length_map] at h1
          have := HKT.out
          omega
        obtain ⟨Ql1, hQl1, hTl1⟩ := hRI1.que
        have hdr1 : T1.drop k = T1[k] :: T1.drop (k + 1) := List.drop_eq_getElem_cons hkT1
        rw [hdr1] at hQl1
        obtain ⟨y, Qr1, rfl⟩ : ∃ y Qr, Ql1 = y :: Qr := by
          cases Ql1 with
          | nil =>
            have h0 := congrArg List.length hQl1
            rw [List.length_map, List.length_map, List.length_cons, List.length_nil] at h0
            omega
          | cons y Qr => exact ⟨y, Qr, rfl⟩
        have hQr1 : Qr1.map (·.1) = (T1.drop (k + 1)).map (·.1) := by
          simp only [List.map_cons, List.cons.injEq] at hQl1
          exact hQl1.2
        obtain ⟨v', hsl, hTl', hbl'⟩ := hTl1.pop (P := Tryd.prog) (t := 62) encS_len Tryd.underlying62 info58
        obtain ⟨gv, ov, nv, cv, rfl, _⟩ := hTl'.shape
        obtain ⟨gz, oz, nz, cz, rfl, _⟩ := hTl1.shape
        have r12 : W1.cell? ⟨b12, 0, none⟩ = some (.slice (some ⟨gz, oz, none⟩) nz cz) := (cell_blk hRI1.h12 0).trans rfl
        have HSL := Lib.hid hsl
        have HRI1 := Lib.hid hRI1
        have HT1 := Lib.hid hT1
        have HSTEP := Lib.hid hstep
        have HTL := Lib.hid hTl'
        have HQR1 := Lib.hid hQr1
        have HDEF := Lib.hid hDef
        have HDB : Hid (Wb.heap.size ≤ D) := hD
        have HXS := Lib.hid hcov
        have hlb12 : b12 < W1.heap.size := blk_lt hRI1.h12
        clear hsl hRI1 hT1 hstep hTl' hQr1 hDef hD hcov hvs hsub hPT hN hdr1 hQl1 hTl1 hbl' h131 hq1
        go_wp2_with (first
          | (refine wpList_sl1 (o := ⟨some 38, _, _, _, _, _⟩) rfl (.tmp 37) (some (.const (.int .i64 1))) rfl _ (HSL.out _) ?_))
        have hPL : p.length ≤ 7 := Nat.le_trans (HBI.out.least (q := (s', p)) (by rw [List.getElem?_map, HTK.out]; rfl) HG0.out) HL0.out
        have hTb : T.length ≤ Rl.bound := by
          have := HBI.out.ways.bound HWF.out.ok fun t ht => (by
            have := HBI.out.near (s', p) (by rw [List.getElem?_map, HTK.out]; rfl) t ht
            simp only at this
            omega)
          simpa using this
        have h := HRI1.out.keep0 ((Fr.refl [] W1).alloc (.cells #[.slice (some ⟨gv, ov, none⟩) nv cv] 62))
        refine ⟨⟨W1.heap.size, D :: Ds, T1, k + 1, .slice (some ⟨gv, ov, none⟩) nv cv, rfl, rfl, rfl, rfl, ⟨h.fr, h.h11, alloc_new _ _, h.map, h.vals, ⟨Qr1, HQR1.out, HTL.out.fr ((Fr.refl [] W1).alloc _) (by simp)⟩, fun D' hD' => ?_, ⟨h.late.1, HRI1.out.fr.size, h.late.2.2⟩⟩, HSTEP.out, ?_, ?_, fun D' hD' => ?_⟩, ?_⟩
        · rcases List.mem_cons.1 hD' with rfl | hD'
          · exact alloc_at HDEF.out _
          · exact h.marks D' hD'
        · exact List.nodup_cons.2 ⟨fun hm => by have := HDL.out D hm; have := HDB.out; omega, HND.out⟩
        · simp [HLEN.out]
        · rcases List.mem_cons.1 hD' with rfl | hD'
          · have := HDB.out; omega
          · exact HDW.out D' hD'
        · have := HLEN.out
          have := HKT.out
          simp only [List.length_cons, collects, List.length_map]
          omega
end Go.Proofs.YtklnbcofmhlkdaaDoor
