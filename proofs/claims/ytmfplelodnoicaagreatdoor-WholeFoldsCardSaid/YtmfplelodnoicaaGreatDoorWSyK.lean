/- readings that rest on rows of integers, beside rows of one's own -/
import Derived.Test.YtmfplelodnoicaaGreatDoorWSy2
import Derived.Test.YtmfplelodnoicaaGreatDoorWS2
import Derived.Test.YtmfplelodnoicaaGreatDoorWR
namespace Go.Proofs.YtmfplelodnoicaaGreatDoor
open Go.RowKit Dig

section
variable {w W : World} {bs : List (Nat × Array Value × TypeId)} {os : List Rw} {rs : List (World → Prop)}
theorem Sy.away_keeps (h : Sy w W bs os rs) (hb : (bs.all fun x => !rowT x.2.2) = true) (ho : (os.all fun o => !rowT o.e) = true) {V : World} (hV : Away (ownOf bs os) W V) : Keeps W V :=
  ⟨hV.1, fun k o hk hr => (hV.2 k (Array.getElem?_eq_some_iff.1 hk).1 (fun hm => by
    rcases mem_own.1 hm with ⟨x, hx, rfl⟩ | ⟨q, hq, he⟩
    · rw [(h.bx x hx).2] at hk
      simp only [Option.some.injEq] at hk
      subst hk
      have := List.all_eq_true.1 hb x hx
      simp only [rowO] at hr
      rw [hr] at this
      exact Bool.noConfusion this
    · rcases (h.ow q hq).2 with ⟨h1, _⟩ | ⟨g, cap, cur, h1, _, hg, _⟩
      · rw [h1] at he; simp [Value.ownBlock] at he
      · rw [h1] at he
        simp only [Value.ownBlock, Option.some.injEq] at he
        subst he
        rw [hg] at hk
        simp only [Option.some.injEq] at hk
        subst hk
        have := List.all_eq_true.1 ho q hq
        simp only [rowO] at hr
        rw [hr] at this
        exact Bool.noConfusion this)).trans hk⟩
theorem Sy.pushK (h : Sy w W bs os rs) (hb : (bs.all fun x => !rowT x.2.2) = true) (ho : (os.all fun o => !rowT o.e) = true) {r : World → Prop} (hk : ∀ V V', Keeps V V' → r V → r V') (hr : r W) : Sy w W bs os (rs ++ [r]) :=
  h.push (fun V hV => hk W V (h.away_keeps hb ho hV) hr)
theorem Sy.pr (h : Sy w W bs os rs) (hb : (bs.all fun x => !rowT x.2.2) = true) (ho : (os.all fun o => !rowT o.e) = true) {s s' : Value} {m : Bool} {q : Rat} (hz : Rd W s m s' q) : Sy w W bs os (rs ++ [fun V => Rd V s m s' q]) := h.pushK hb ho (fun _ _ k hz => hz.keep k) hz
theorem Sy.pq (h : Sy w W bs os rs) (hb : (bs.all fun x => !rowT x.2.2) = true) (ho : (os.all fun o => !rowT o.e) = true) {s t : Int} {g g' : Value} {q : Rat} (hz : Nq W s g t g' q) : Sy w W bs os (rs ++ [fun V => Nq V s g t g' q]) := h.pushK hb ho (fun _ _ k hz => hz.keep k) hz
end
section
variable {w W : World} {bs : List (Nat × Array Value × TypeId)} {rs : List (World → Prop)}
end

end Go.Proofs.YtmfplelodnoicaaGreatDoor
