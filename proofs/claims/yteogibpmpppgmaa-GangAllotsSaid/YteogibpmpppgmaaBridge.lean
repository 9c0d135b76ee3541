/- a drawn region of a round of a range over a function, walked as outside of rounds -/
import Derived.Test.YteogibpmpppgmaaQuiet
import Derived.RangeFuncCalls
import Derived.Deep.RegionHeld
namespace Go.Proofs.Yteogibpmpppgmaa
section
variable {n : Nat} {P : Program} {ops : Array Oper} {md : Region.Mode}
theorem wpIn_of_wpR {l : Nat} {o : Oper} {a : Act} {K : Act → World → Prop} {Q : Exit → Act → World → Prop} {w : World} (hnd : noDefer o = true) (h : o.wp P a w K Q) : o.wpIn (Fence.wide.inRound l) n P a w K Q := by
  refine ⟨fun f _ => trivial, ?_⟩
  rw [show Oper.semAt (Fence.wide.inRound l).round a.eval o = execOp a.eval o from Oper.semAt_some l _ o (noDefer_spec hnd)]
  unfold Oper.wp at h
  generalize (execOp a.eval o).run P w = r at *
  cases r with
  | ok x w' =>
    cases x with
    | value v => exact h
    | skip => exact h
    | defer d => exact h
    | enter f args => exact ⟨fun h0 => (by cases h0), CallsIn.inRound l (callsIn_wide.2 h)⟩
    | row row args => exact ⟨fun h0 => (by cases h0), fun c cs _ => let ⟨v, w', r, s⟩ := h c cs; ⟨v, w', r, stepsIn_wide.2 s⟩⟩
    | _ => exact h.elim
  | halt x w' =>
    cases x <;> exact h
theorem wpAnyIn_of_any {l : Nat} {Q : Exit → Act → World → Prop} (hnd : ops.all noDefer = true) (hlo : ¬ LetsOut Q) : ∀ (fuel : Nat) (listed : Array Bool) (a : Act) (w : World), wpAny P md ops Q fuel listed a w → wpAnyIn (Fence.wide.inRound l) n P md ops Q fuel listed a w
  | 0, _, _, _, h => h
  | fuel + 1, listed, a, w, h => ⟨h.1, fun i hi => by
      have h2 := h.2 i hi
      unfold wpOp at h2
      unfold wpOpIn
      split
      · rename_i ho
        simp only [ho] at h2
        exact wpAnyIn_of_any hnd hlo fuel _ _ _ h2
      · rename_i o ho
        simp only [ho] at h2
        have hno : noDefer o = true := (Array.all_eq_true_iff_forall_mem.1 hnd) o (Array.mem_of_getElem? ho)
        split
        · rename_i hw
          rw [if_pos hw] at h2
          rcases h2 with h2 | ⟨_, h2⟩
          · exact Oper.wpIn_mono (fun a' w' h3 => wpAnyIn_of_any hnd hlo fuel _ a' w' h3) (wpIn_of_wpR hno h2)
          · exact absurd h2 hlo
        · rename_i hw
          rw [if_neg hw] at h2
          exact ⟨fun _ _ => trivial, wpAnyIn_of_any hnd hlo fuel _ _ _ h2⟩⟩
/-- a drawn region of a round, walked over what is held -/
theorem wpIn_region_round {l id : Nat} {R : Act → World → Prop} {S : World → Prop} {a : Act} {w : World} (hnd : ops.all noDefer = true) (hm : P.follows .mixedOrders = true) (hS : S w.drew)
    (h : S w.drew → wpAnyH P .any ops (fun e a' w' => e = .normal ∧ R a' w') S ops.size (Array.replicate ops.size false) a w.drew) : (Code.region id ops true).wpIn (Fence.wide.inRound l) n P (fun e a' w' => e = .normal ∧ R a' w') a w :=
  wpIn_region_any hm (wpAnyIn_of_any hnd (fun hq => by obtain ⟨_, _, h1, _⟩ := hq; cases h1) _ _ _ _ (wpAny_of_held _ _ _ _ (h hS)))
end
end Go.Proofs.Yteogibpmpppgmaa
