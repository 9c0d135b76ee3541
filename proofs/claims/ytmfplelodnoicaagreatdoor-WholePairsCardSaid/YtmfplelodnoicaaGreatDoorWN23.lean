/- the reference's pairs: what their values read as -/
import Derived.Test.YtmfplelodnoicaaGreatDoorWR
import Derived.Test.YtmfplelodnoicaaGreatDoorWL
namespace Go.Proofs.YtmfplelodnoicaaGreatDoor
open Go.RowKit Dig

/-- a pair of the reference's ratios -/
structure Nv (w : World) (s : Int) (g : Value) (t : Int) (g' : Value) (s2 : Int) (h : Value) (t2 : Int) (h' : Value) (v : Rat × Rat) : Prop where
  x : Nq w s g t g' v.1
  y : Nq w s2 h t2 h' v.2
theorem Nv.keep {w w' : World} {s t s2 t2 : Int} {g g' h h' : Value} {v : Rat × Rat} (H : Nv w s g t g' s2 h t2 h' v) (hk : Keeps w w') : Nv w' s g t g' s2 h t2 h' v := ⟨H.x.keep hk, H.y.keep hk⟩
section
variable {w W : World} {bs : List (Nat × Array Value × TypeId)} {rs : List (World → Prop)}
theorem St.pp (H : St w W bs rs) {s t s2 t2 : Int} {g g' h h' : Value} {v : Rat × Rat} (hz : Nv W s g t g' s2 h t2 h' v) : St w W bs (rs ++ [fun V => Nv V s g t g' s2 h t2 h' v]) := H.push (fun _ _ k hz => hz.keep k) hz
theorem St.vp (H : St w W bs rs) (i : Nat) {s t s2 t2 : Int} {g g' h h' : Value} {v : Rat × Rat} (hx : rs[i]? = some (fun V => Nv V s g t g' s2 h t2 h' v)) : Nv W s g t g' s2 h t2 h' v := (H.rd _ (List.mem_of_getElem? hx)).2
end
/-- the result is the pair v -/
def RetNV (w : World) (v : Rat × Rat) (e : Ending) (w' : World) : Prop := ∃ s a n c t d e' f p u x y g i o l, e = .returned (.agg #[.int .i64 s, .slice a n c, .int .i64 t, .slice d e' f, .int .i64 p, .slice u x y, .int .i64 g, .slice i o l]) ∧ Nv w' s (.slice a n c) t (.slice d e' f) p (.slice u x y) g (.slice i o l) v ∧ Below w.heap.size w w'


end Go.Proofs.YtmfplelodnoicaaGreatDoor
