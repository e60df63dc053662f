/- cobleref10.handle: what its cases share · cobleref10: Apply: what its cases share -/
import Derived.Test.YtklnbcofmhlkdaaDoorRfA
import Derived.Test.YtklnbcofmhlkdaaDoorRlB
set_option linter.unusedVariables false
set_option linter.unusedSimpArgs false
namespace Go.Proofs.YtklnbcofmhlkdaaDoor
open Go.RowKit Rl

def RPost (base : Nat) (cv fv : Value) (s : S) (w : World) (e : Ending) (w' : World) : Prop :=
  ∃ fv', e = .returned (.agg #[cv, fv']) ∧ OwnS w' base cv fv' s ∧ Fr (Value.blkOf cv ++ Value.blkOf fv) w w'
theorem alloc_newn {w : World} {n : Nat} (h : n = w.heap.size) (x : Obj) : (w.alloc x).heap[n]? = some x := by subst h; exact alloc_new w x
/-- a block of two slices' headers is no block of messages -/
theorem rfl_absurd_blk {w : World} {base : Nat} {v : Value} {l : List Msg} {b : Nat} {C : Array Value} (h : Own w base 55 4 encM v l) (hb : b ∈ Value.blkOf v) (hc : w.heap[b]? = some (.cells C 31 (0, 0))) : False := by
  rcases h.2 with ⟨rfl, _⟩ | ⟨g, cap, cur, rfl, _, hg, _⟩
  · simp [Value.blkOf] at hb
  · rw [blkOf_slice, List.mem_singleton] at hb
    subst hb
    rw [hg] at hc
    simp at hc
end Go.Proofs.YtklnbcofmhlkdaaDoor
namespace Go.Proofs.YtklnbcofmhlkdaaDoor
open Go.RowKit Rl

/-- A call as it may be read. -/
structure RdS (w : World) (cv fv : Value) (s : S) : Prop where
  cen : Rd w encC cv s.cen
  fl : Rd w encM fv s.fl
  ok : Ok s
theorem RdS.fr0 {w w' : World} {cv fv : Value} {s : S} (h : RdS w cv fv s) (hf : Fr [] w w') : RdS w' cv fv s := ⟨h.cen.fr0 hf, h.fl.fr0 hf, h.ok⟩
def ApPost (cv fv : Value) (o : Option S) (w : World) (e : Ending) (w' : World) : Prop :=
  Fr [] w w' ∧ match o with
    | none => e = .returned (.tuple #[.agg #[cv, fv], .bool false])
    | some s' => ∃ cv' fv', e = .returned (.tuple #[.agg #[cv', fv'], .bool true]) ∧ RdS w' cv' fv' s' ∧ ∀ z, z ∈ Value.blkOf cv' ∨ z ∈ Value.blkOf fv' → w.heap.size ≤ z

end Go.Proofs.YtklnbcofmhlkdaaDoor
