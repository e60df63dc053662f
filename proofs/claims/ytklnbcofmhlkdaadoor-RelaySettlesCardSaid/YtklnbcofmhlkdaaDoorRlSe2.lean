/- relay.Settle: the map of the ways. -/
import Derived.Test.YtklnbcofmhlkdaaDoorRlSe1
import Derived.Test.YtklnbcofmhlkdaaDoorRlA
import Derived.Test.YtklnbcofmhlkdaaDoorRlC
import Derived.Maps.Keyed
import Derived.DeepKeys4
set_option linter.unusedVariables false
set_option linter.unusedSimpArgs false
namespace Go.Proofs.YtklnbcofmhlkdaaDoor
open Go.RowKit Rl Go.Maps Go.ChangeMaps

theorem laidOut : laidOutB Tryd.prog = true := by kernel_rfl
theorem law58 : Keyed Tryd.prog 58 := Keyed.of_law (deep_law_laid laidOut (m := 5) (by omega) (Nat.le_of_ble_eq_true (by kernel_rfl)) (by kernel_rfl) (by rw [Tryd.underlying58]))

def wfI (n : Int) : Bool := (Lit.int .i64 n).wf
theorem wfI_of {n : Int} (h1 : -9223372036854775808 ≤ n) (h2 : n ≤ 9223372036854775807) : wfI n = true := WalkArith.wf_i64 (by omega)
theorem lits_int (d : Nat) (n : Int) (h : wfI n = true) : Tryd.prog.keyLits (d + 1) 3 [I n] = some [.int .i64 n] := by
  unfold wfI at h
  simp [Program.keyLits, Tryd.underlying3, h]
theorem cells3 : Tryd.prog.cellsOf 3 = 1 := by kernel_rfl
theorem cells46 : Tryd.prog.cellsOf 46 = 3 := by kernel_rfl
theorem cells55 : Tryd.prog.cellsOf 55 = 4 := by kernel_rfl
theorem cells53 : Tryd.prog.cellsOf 53 = 12 := by kernel_rfl
theorem cells56 : Tryd.prog.cellsOf 56 = 24 := by kernel_rfl
theorem cells58 : Tryd.prog.cellsOf 58 = 38 := by kernel_rfl
def okC (c : Ctr) : Prop := wfI c.is = true ∧ wfI c.wth = true ∧ wfI c.turn = true
def okM (c : Msg) : Prop := wfI c.kind = true ∧ wfI c.frm = true ∧ wfI c.to = true ∧ wfI c.turn = true
theorem lits46 (d : Nat) (c : Ctr) (h : okC c) : ∃ L, Tryd.prog.keyLits (d + 2) 46 (encC c) = some L := by
  obtain ⟨h1, h2, h3⟩ := h
  unfold wfI at h1 h2 h3
  simp [Program.keyLits, Tryd.underlying46, Tryd.underlying3, encC, cells46, cells3, h1, h2, h3]
theorem lits55 (d : Nat) (c : Msg) (h : okM c) : ∃ L, Tryd.prog.keyLits (d + 2) 55 (encM c) = some L := by
  obtain ⟨h1, h2, h3, h4⟩ := h
  unfold wfI at h1 h2 h3 h4
  simp [Program.keyLits, Tryd.underlying55, Tryd.underlying3, encM, cells55, cells3, h1, h2, h3, h4]
theorem mapM_ex {α β : Type} {f : α → Option β} : ∀ (l : List α), (∀ x ∈ l, ∃ y, f x = some y) → ∃ ys, l.mapM f = some ys
  | [], _ => ⟨[], by simp⟩
  | x :: l, h => by
    obtain ⟨y, hy⟩ := h x (by simp)
    obtain ⟨ys, hys⟩ := mapM_ex l fun z hz => h z (by simp [hz])
    exact ⟨y :: ys, by simp [hy, hys]⟩
theorem flat_chunk {α : Type} {f : α → List Value} {k : Nat} (hf : ∀ x, (f x).length = k) (l : List α) (i : Nat) (x : α) (hx : l[i]? = some x) : ((l.flatMap f).drop (i * k)).take k = f x := by
  rw [flat_drop hf]
  have hi := (List.getElem?_eq_some_iff.1 hx)
  obtain ⟨h1, h2⟩ := hi
  rw [List.drop_eq_getElem_cons h1, h2, List.flatMap_cons, ← hf x, List.take_left]
theorem lits53 (d : Nat) (l : List Ctr) (hl : l.length = 4) (h : ∀ c ∈ l, okC c) : ∃ L, Tryd.prog.keyLits (d + 3) 53 (l.flatMap encC) = some L := by
  have hlen : (l.flatMap encC).length = 12 := by rw [flat_len encC_len, hl]
  obtain ⟨ys, hys⟩ := mapM_ex (f := fun i => Tryd.prog.keyLits (d + 2) 46 (((l.flatMap encC).drop (i * 3)).take 3)) (List.range 4) fun i hi => by
    have hi' : i < l.length := by simpa [hl] using hi
    have e := flat_chunk encC_len l i l[i] (by simp [hi'])
    rw [e]
    exact lits46 d _ (h _ (List.getElem_mem hi'))
  refine ⟨ys.flatten, ?_⟩
  unfold Program.keyLits
  simp only [Tryd.underlying53, cells53, cells46, hlen, if_true, hys, Option.map_some]
theorem lits56 (d : Nat) (l : List Msg) (hl : l.length = 6) (h : ∀ c ∈ l, okM c) : ∃ L, Tryd.prog.keyLits (d + 3) 56 (l.flatMap encM) = some L := by
  have hlen : (l.flatMap encM).length = 24 := by rw [flat_len encM_len, hl]
  obtain ⟨ys, hys⟩ := mapM_ex (f := fun i => Tryd.prog.keyLits (d + 2) 55 (((l.flatMap encM).drop (i * 4)).take 4)) (List.range 6) fun i hi => by
    have hi' : i < l.length := by simpa [hl] using hi
    have e := flat_chunk encM_len l i l[i] (by simp [hi'])
    rw [e]
    exact lits55 d _ (h _ (List.getElem_mem hi'))
  refine ⟨ys.flatten, ?_⟩
  unfold Program.keyLits
  simp only [Tryd.underlying56, cells56, cells55, hlen, if_true, hys, Option.map_some]
/-- numbers that a machine word bears -/
structure Wf (s : S) : Prop where
  ok : Ok s
  cen : ∀ c ∈ s.cen, 0 ≤ c.is ∧ c.is ≤ 4
  fl : ∀ m ∈ s.fl, 1 ≤ m.kind ∧ m.kind ≤ 3
theorem lits58 (d : Nat) (s : S) (h : Wf s) : ∃ L, Tryd.prog.keyLits (d + 4) 58 s.enc = some L := by
  have hlen : s.enc.length = 38 := enc_len h.ok.n4 h.ok.f6
  have n4 := h.ok.n4
  have f6 := h.ok.f6
  obtain ⟨L1, h1⟩ := lits53 d (padC s.cen) (padC_len h.ok.n4) fun c hc => by
    unfold padC at hc
    rcases List.mem_append.1 hc with hc | hc
    · have a := h.cen c hc
      have b := h.ok.cen c hc
      unfold S.isC at b
      exact ⟨wfI_of (by omega) (by omega), wfI_of (by omega) (by omega), wfI_of (by omega) (by omega)⟩
    · rw [List.eq_of_mem_replicate hc]; exact ⟨rfl, rfl, rfl⟩
  obtain ⟨L2, h2⟩ := lits56 d (padM s.fl) (padM_len h.ok.f6) fun c hc => by
    unfold padM at hc
    rcases List.mem_append.1 hc with hc | hc
    · have a := h.fl c hc
      have b := h.ok.msg c hc
      unfold S.isC at b
      exact ⟨wfI_of (by omega) (by omega), wfI_of (by omega) (by omega), wfI_of (by omega) (by omega), wfI_of (by omega) (by omega)⟩
    · rw [List.eq_of_mem_replicate hc]; exact ⟨rfl, rfl, rfl, rfl⟩
  have c1 := flatC_len h.ok.n4
  have c2 := flatM_len h.ok.f6
  have e0 := lits_int (d + 2) s.cen.length (wfI_of (by omega) (by omega))
  have e3 := lits_int (d + 2) s.fl.length (wfI_of (by omega) (by omega))
  have p0 : s.enc.take 1 = [I s.cen.length] := by simp [S.enc, encR]
  have p1 : s.enc.tail.take 12 = (padC s.cen).flatMap encC := by
    simp only [S.enc, encR, List.tail_cons]
    rw [List.take_left' c1]
  have p2 : (s.enc.drop 13).take 24 = (padM s.fl).flatMap encM := by
    simp only [S.enc, encR, List.drop_succ_cons]
    rw [List.drop_left' c1, List.take_left' c2]
  have p3 : (s.enc.drop 37).take 1 = [I s.fl.length] := by
    simp only [S.enc, encR, List.drop_succ_cons]
    rw [show 36 = 12 + 24 from rfl, ← List.drop_drop, List.drop_left' c1, List.drop_left' c2]
    rfl
  unfold Program.keyLits
  simp only [Tryd.underlying58, hlen, cells58]
  simp [cells3, cells53, cells56, p0, p1, p2, p3, h1, h2, e0, e3]
theorem key58 (s : S) (h : Wf s) : ∃ l, keyOf Tryd.prog 58 (.agg s.arr) = some l := by
  obtain ⟨L, hL⟩ := lits58 (Tryd.prog.types.size + 1 - 4) s h
  have hsz : Tryd.prog.types.size + 1 - 4 + 4 = Tryd.prog.types.size + 1 := by
    have : 4 ≤ Tryd.prog.types.size := Nat.le_of_ble_eq_true (by kernel_rfl)
    omega
  rw [hsz] at hL
  have hk : Tryd.prog.keyType 58 = true := by kernel_rfl
  have hf : (Value.agg s.arr).formed Tryd.prog 58 = true := by
    simp [Value.formed, Tryd.underlying58, cells58, arr_size h.ok]
  refine ⟨.string (keyBytes L), ?_⟩
  unfold keyOf
  simp only [Tryd.underlying58, hk, hf, Bool.and_true, if_true]
  have e : (Value.agg s.arr).cells.toList = s.enc := by simp [Value.cells, S.arr]
  rw [e, hL]; rfl

/-! ### A state is known by its cells -/
theorem flat_inj {α : Type} {f : α → List Value} {k : Nat} (hf : ∀ x, (f x).length = k) (hi : ∀ x y, f x = f y → x = y) (h0 : 0 < k) : ∀ (l m : List α), l.flatMap f = m.flatMap f → l = m
  | [], [], _ => rfl
  | [], y :: m, h => by
    have := congrArg List.length h
    simp [hf] at this; omega
  | x :: l, [], h => by
    have := congrArg List.length h
    simp [hf] at this; omega
  | x :: l, y :: m, h => by
    simp only [List.flatMap_cons] at h
    obtain ⟨h1, h2⟩ := List.append_inj h (by rw [hf, hf])
    rw [hi _ _ h1, flat_inj hf hi h0 l m h2]
theorem encC_inj (x y : Ctr) (h : encC x = encC y) : x = y := by
  cases x; cases y; simp [encC] at h; simp [h]
theorem encM_inj (x y : Msg) (h : encM x = encM y) : x = y := by
  cases x; cases y; simp [encM] at h; simp [h]
theorem encE_inj (x y : Ev) (h : encE x = encE y) : x = y := by
  cases x; cases y; simp [encE] at h; simp [h]
theorem arr_inj {s t : S} (hs : Ok s) (ht : Ok t) (h : s.arr = t.arr) : s = t := by
  have he : s.enc = t.enc := by simpa [S.arr] using h
  simp only [S.enc, encR] at he
  simp only [List.cons.injEq, Value.int.injEq, true_and] at he
  obtain ⟨hn, he⟩ := he
  obtain ⟨h1, h2⟩ := List.append_inj he (by rw [flatC_len hs.n4, flatC_len ht.n4])
  obtain ⟨h2, h3⟩ := List.append_inj h2 (by rw [flatM_len hs.f6, flatM_len ht.f6])
  have hc := flat_inj encC_len encC_inj (by omega) _ _ h1
  have hm := flat_inj encM_len encM_inj (by omega) _ _ h2
  simp only [List.cons.injEq, Value.int.injEq, and_true, true_and] at h3
  have hn' : s.cen.length = t.cen.length := by omega
  have hm' : s.fl.length = t.fl.length := by omega
  have e1 : s.cen = t.cen := by
    have := congrArg (List.take s.cen.length) hc
    unfold padC at this
    rwa [List.take_left' rfl, List.take_left' hn'.symm] at this
  have e2 : s.fl = t.fl := by
    have := congrArg (List.take s.fl.length) hm
    unfold padM at this
    rwa [List.take_left' rfl, List.take_left' hm'.symm] at this
  cases s; cases t; simp only at e1 e2; rw [e1, e2]

/-! ### The map -/
def entOf (p : S × Value) : Value × Value := (.agg p.1.arr, p.2)
/-- block b is a map of these ways -/
def MapAt (w : World) (b : Nat) (L : List (S × Value)) : Prop := (∃ es clock, w.heap[b]? = some (.map es clock) ∧ es.toList.map (fun e => (e.key, e.val)) = L.map entOf) ∧ ∀ p ∈ L, Wf p.1
theorem MapAt.fr {w w' : World} {b : Nat} {L : List (S × Value)} {l : List Nat} (h : MapAt w b L) (hf : Fr l w w') (hb : b ∉ l) : MapAt w' b L := by
  obtain ⟨⟨es, clock, h1, h2⟩, h3⟩ := h
  exact ⟨⟨es, clock, hf.at_ h1 hb, h2⟩, h3⟩
theorem MapAt.lt {w : World} {b : Nat} {L : List (S × Value)} (h : MapAt w b L) : b < w.heap.size := by
  obtain ⟨⟨es, clock, h1, h2⟩, h3⟩ := h
  exact blk_lt h1
theorem zero22 (w : World) : (zeroValue 22).run Tryd.prog w = .ok (.slice none 0 0) w := by kernel_rfl
theorem MapAt.find {w : World} {b : Nat} {L : List (S × Value)} (h : MapAt w b L) {s : S} (hs : Wf s) : ∃ es clock, w.heap[b]? = some (.map es clock) ∧ es.toList.map (fun e => (e.key, e.val)) = L.map entOf ∧
    (∀ W : World, ∀ em : Bool, (Instr.checkKey em 10000 58 (.agg s.arr)).run Tryd.prog W = .ok () W) ∧
    (((Instr.findKey 58 (.agg s.arr) es.toList).run Tryd.prog w = .ok none w ∧ ∀ p ∈ L, p.1 ≠ s) ∨ ∃ j v, (Instr.findKey 58 (.agg s.arr) es.toList).run Tryd.prog w = .ok (some (j, v)) w ∧ (s, v) ∈ L) := by
  obtain ⟨⟨es, clock, h1, h2⟩, h3⟩ := h
  obtain ⟨l, hl⟩ := key58 s hs
  have hmem : ∀ e ∈ es.toList, ∃ p ∈ L, e.key = .agg p.1.arr ∧ e.val = p.2 := fun e he => by
    have : (e.key, e.val) ∈ L.map entOf := by rw [← h2]; exact List.mem_map_of_mem (f := fun e : MapEntry => (e.key, e.val)) he
    obtain ⟨p, hp, e2⟩ := List.mem_map.1 this
    simp only [entOf, Prod.mk.injEq] at e2
    exact ⟨p, hp, e2.1.symm, e2.2.symm⟩
  refine ⟨es, clock, h1, h2, fun W em => law58.check W em hl, ?_⟩
  rcases law58.find w hl es.toList (fun e he => by obtain ⟨p, hp, e1, _⟩ := hmem e he; obtain ⟨l', hl'⟩ := key58 p.1 (h3 p hp); exact ⟨l', by rw [e1]; exact hl'⟩) with ⟨f1, f2⟩ | ⟨j, e, f1, f2, f3⟩
  · refine .inl ⟨f1, fun p hp e => ?_⟩
    have : entOf p ∈ es.toList.map (fun e => (e.key, e.val)) := by rw [h2]; exact List.mem_map_of_mem hp
    obtain ⟨x, hx, ex⟩ := List.mem_map.1 this
    simp only [entOf, Prod.mk.injEq] at ex
    exact f2 x hx (by rw [ex.1, e])
  · obtain ⟨p, hp, e1, e2⟩ := hmem e (List.mem_of_getElem? f2)
    have : p.1 = s := arr_inj (h3 p hp).ok hs.ok (by rw [e1] at f3; simpa using f3)
    refine .inr ⟨j, e.val, f1, ?_⟩
    rw [e2, ← this]
    exact hp
theorem MapAt.look {w : World} {b : Nat} {L : List (S × Value)} (h : MapAt w b L) {s : S} (hs : Wf s) :
    ((∀ p ∈ L, p.1 ≠ s) ∧ (Instr.lookup 61 (.map (some b)) (.agg s.arr) true).run Tryd.prog w = .ok (.tuple #[.slice none 0 0, .bool false]) w) ∨
    ∃ v, (s, v) ∈ L ∧ (Instr.lookup 61 (.map (some b)) (.agg s.arr) true).run Tryd.prog w = .ok (.tuple #[v, .bool true]) w ∧ (Instr.lookup 61 (.map (some b)) (.agg s.arr) false).run Tryd.prog w = .ok v w := by
  obtain ⟨es, clock, h1, h2, hc, hf⟩ := h.find hs
  rcases hf with ⟨f1, f2⟩ | ⟨j, v, f1, f2⟩
  · exact .inl ⟨f2, by simp [Instr.lookup, run_underlying Tryd.underlying61, MapKept.run_getObj_map h1, hc, f1, Result.andThen]⟩
  · refine .inr ⟨v, f2, ?_, ?_⟩ <;> simp [Instr.lookup, run_underlying Tryd.underlying61, MapKept.run_getObj_map h1, hc, f1, Result.andThen]
theorem MapAt.put {w : World} {b : Nat} {L : List (S × Value)} (h : MapAt w b L) {s : S} (hs : Wf s) (hn : ∀ p ∈ L, p.1 ≠ s) (v : Value) :
    ∃ w', (Instr.mapUpdate 61 (.map (some b)) (.agg s.arr) v).run Tryd.prog w = .ok () w' ∧ MapAt w' b (L ++ [(s, v)]) ∧ Fr [b] w w' := by
  obtain ⟨es, clock, h1, h2, hc, hf⟩ := h.find hs
  rcases hf with ⟨f1, f2⟩ | ⟨j, v', f1, f2⟩
  · have hrun : (Instr.mapUpdate 61 (.map (some b)) (.agg s.arr) v).run Tryd.prog w = .ok () (setBlock w b (.map (es.push { key := .agg s.arr, val := v, born := clock }) (clock + 1))) := by
      simp only [Instr.mapUpdate, Sem.run_bind, run_underlying Tryd.underlying61, MapKept.run_getObj_map h1, hc, f1, Result.andThen_ok, MapKept.run_setObj_map _ h1]
      rfl
    refine ⟨_, hrun, ⟨⟨_, _, heap_setBlock_same h1 _, ?_⟩, ?_⟩, ⟨rfl, rfl, rfl, by simp [setBlock], fun i _ hi => heap_setBlock_other h1 _ (fun e => hi (by simp [e]))⟩⟩
    · simp [h2, entOf]
    · intro p hp
      rcases List.mem_append.1 hp with hp | hp
      · exact h.2 p hp
      · simp only [List.mem_singleton] at hp; rw [hp]; exact hs
  · exact absurd rfl (hn _ f2)
end Go.Proofs.YtklnbcofmhlkdaaDoor
