/- a call's own blocks, and what values read as, carried along a walk -/
import Derived.Test.YtnimnoodpnhodaaDoorZ3
namespace Go.Proofs.YtnimnoodpnhodaaDoor
open Go.RowKit Dig

/-- a type whose blocks are rows (digits, groups) -/
def rowT (t : TypeId) : Bool := t == 2 || t == 3 || t == 9
def rowO : Obj → Bool
  | .cells _ e _ => rowT e
  | _ => false

/-- no row has turned -/
structure Keeps (W W' : World) : Prop where
  size : W.heap.size ≤ W'.heap.size
  row : ∀ (k : Nat) (o : Obj), W.heap[k]? = some o → rowO o = true → W'.heap[k]? = some o

theorem Keeps.refl (W : World) : Keeps W W := ⟨Nat.le_refl _, fun _ _ h _ => h⟩
theorem Keeps.trans {A B C : World} (h : Keeps A B) (k : Keeps B C) : Keeps A C := ⟨Nat.le_trans h.size k.size, fun i o h1 h2 => k.row i o (h.row i o h1 h2) h2⟩
theorem Below.keeps {W W' : World} (h : Below W.heap.size W W') : Keeps W W' := ⟨h.size, fun k _ h1 _ => (h.block k (Array.getElem?_eq_some_iff.1 h1).1).trans h1⟩
theorem Keeps.alloc {A W : World} (h : Keeps A W) (o : Obj) : Keeps A (W.alloc o) := h.trans (Below.keeps ((Below.refl _ _).alloc (Nat.le_refl _) _))
theorem Keeps.drew {A W : World} (h : Keeps A W) : Keeps A W.drew := h.trans (Below.keeps (Below.refl _ _).drew)
theorem Sl.keep {t : TypeId} {w w' : World} {v : Value} {xs : List Int} (h : Sl t w v xs) (ht : rowT t = true) (hk : Keeps w w') : Sl t w' v xs := by
  refine ⟨h.1, ?_⟩
  rcases h.2 with hn | ⟨g, cap, cur, rfl, hb0, hg, rest⟩
  · exact .inl hn
  · exact .inr ⟨g, cap, cur, rfl, hb0, hk.row g _ hg ht, rest⟩
theorem Dg.keep {w w' : World} {v : Value} {N : Nat} (h : Dg w v N) (hk : Keeps w w') : Dg w' v N := Sl.keep h rfl hk
theorem Zd.keep {w w' : World} {s : Value} {m : Bool} {z : Int} (h : Zd w s m z) (hk : Keeps w w') : Zd w' s m z := ⟨h.d.keep hk, h.m⟩

/-- W is what has become of w in a call: the call's own blocks bs, the readings rs -/
structure St (w W : World) (bs : List (Nat × Array Value × TypeId)) (rs : List (World → Prop)) : Prop where
  be : Below w.heap.size w W
  bx : ∀ x ∈ bs, w.heap.size ≤ x.1 ∧ x.1 < W.heap.size ∧ W.heap[x.1]? = some (.cells x.2.1 x.2.2 (0, 0)) ∧ rowT x.2.2 = false
  inc : bs.Pairwise (fun x y => x.1 ≠ y.1)
  rd : ∀ r ∈ rs, (∀ V V', Keeps V V' → r V → r V') ∧ r W

section
variable {w W : World} {bs : List (Nat × Array Value × TypeId)} {rs : List (World → Prop)}

theorem St.enter (w : World) : St w w [] [] := ⟨Below.refl _ _, by simp, .nil, by simp⟩

theorem St.at_ (h : St w W bs rs) (i : Nat) {b : Nat} {cs : Array Value} {t : TypeId} (hx : bs[i]? = some (b, cs, t)) : w.heap.size ≤ b ∧ b < W.heap.size ∧ W.heap[b]? = some (.cells cs t (0, 0)) ∧ rowT t = false :=
  h.bx _ (List.mem_of_getElem? hx)
theorem St.cell (h : St w W bs rs) (i j : Nat) {b : Nat} {cs : Array Value} {t : TypeId} {v : Value} (hx : bs[i]? = some (b, cs, t)) (hv : cs[j]? = some v) : W.cell? ⟨b, j, none⟩ = some v := by
  have := (h.at_ i hx).2.2.1
  simp [World.cell?, this, hv]
theorem St.free (h : St w W bs rs) (i j : Nat) {b : Nat} {cs : Array Value} {t : TypeId} (hx : bs[i]? = some (b, cs, t)) : W.frozen? ⟨b, j, none⟩ = false := by
  have := (h.at_ i hx).2.2.1
  simp [World.frozen?, this]
theorem St.lt (h : St w W bs rs) (i : Nat) {b : Nat} {cs : Array Value} {t : TypeId} (hx : bs[i]? = some (b, cs, t)) : b < W.heap.size := (h.at_ i hx).2.1
theorem St.ge (h : St w W bs rs) (i : Nat) {b : Nat} {cs : Array Value} {t : TypeId} (hx : bs[i]? = some (b, cs, t)) : w.heap.size ≤ b := (h.at_ i hx).1

theorem St.call {W' : World} (h : St w W bs rs) (hb : Below W.heap.size W W') : St w W' bs rs where
  be := h.be.trans (hb.mono h.be.size)
  bx x hx := by
    obtain ⟨h1, h2, h3, h4⟩ := h.bx x hx
    exact ⟨h1, Nat.lt_of_lt_of_le h2 hb.size, (hb.block _ h2).trans h3, h4⟩
  inc := h.inc
  rd r hr := ⟨(h.rd r hr).1, (h.rd r hr).1 _ _ (Below.keeps hb) (h.rd r hr).2⟩
theorem St.drew (h : St w W bs rs) : St w W.drew bs rs := h.call (Below.refl _ _).drew
theorem St.drewN (h : St w W bs rs) (n : Nat) : St w (W.drewN n) bs rs := h.call (Below.drewN (Below.refl _ _) n)
theorem St.row (h : St w W bs rs) {o : Obj} : St w (W.alloc o) bs rs := h.call ((Below.refl _ _).alloc (Nat.le_refl _) _)
theorem St.al (h : St w W bs rs) (b : Nat) (cs : Array Value) (t : TypeId) (hb : b = W.heap.size) (ht : rowT t = false) : St w (W.alloc (.cells cs t)) (bs ++ [(b, cs, t)]) rs where
  be := h.row.be
  bx x hx := by
    rcases List.mem_append.1 hx with hx | hx
    · exact h.row.bx x hx
    · rcases List.mem_singleton.1 hx with rfl
      subst hb
      exact ⟨h.be.size, by simp, by rw [heap_alloc_get, if_pos rfl], ht⟩
  inc := by
    rw [List.pairwise_append]
    refine ⟨h.inc, List.pairwise_singleton _ _, fun a ha x hx => ?_⟩
    rcases List.mem_singleton.1 hx with rfl
    subst hb
    exact Nat.ne_of_lt (h.bx a ha).2.1
  rd := h.row.rd
theorem St.set (h : St w W bs rs) (i : Nat) {j b : Nat} {cs : Array Value} {t : TypeId} {v : Value} (hx : bs[i]? = some (b, cs, t)) : St w (W.setCell ⟨b, j, none⟩ v) (bs.set i (b, cs.setIfInBounds j v, t)) rs := by
  obtain ⟨h1, h2, h3, h4⟩ := h.at_ i hx
  have hi : i < bs.length := (List.getElem?_eq_some_iff.1 hx).1
  have hx' : bs[i] = (b, cs, t) := (List.getElem?_eq_some_iff.1 hx).2
  have hsz : (W.setCell ⟨b, j, none⟩ v).heap.size = W.heap.size := by simp [World.setCell]
  have hk : Keeps W (W.setCell ⟨b, j, none⟩ v) := ⟨by rw [hsz]; exact Nat.le_refl _, fun k o ho hr => by
    rw [Below.heap_setCell _ _ _ _ (fun e => ?_)]
    · exact ho
    · subst e
      rw [h3] at ho
      simp only [Option.some.injEq] at ho
      subst ho
      simp only [rowO] at hr
      rw [h4] at hr
      exact Bool.noConfusion hr⟩
  refine ⟨h.be.setCell h1 _, fun x hxm => ?_, ?_, fun r hr => ⟨(h.rd r hr).1, (h.rd r hr).1 _ _ hk (h.rd r hr).2⟩⟩
  · obtain ⟨k, hkl, hk2⟩ := List.getElem_of_mem hxm
    rw [List.length_set] at hkl
    rw [List.getElem_set] at hk2
    by_cases e : i = k
    · rw [if_pos e] at hk2
      subst hk2
      refine ⟨h1, by rw [hsz]; exact h2, ?_, h4⟩
      simp [World.setCell, Array.getElem?_modify, h3]
    · rw [if_neg e] at hk2
      subst hk2
      obtain ⟨g1, g2, g3, g4⟩ := h.bx bs[k] (List.getElem_mem hkl)
      refine ⟨g1, by rw [hsz]; exact g2, ?_, g4⟩
      rw [Below.heap_setCell _ _ _ _ (fun e' => ?_)]
      · exact g3
      · have hp := List.pairwise_iff_getElem.1 h.inc
        rcases Nat.lt_or_gt_of_ne e with l | l
        · have := hp i k hi hkl l
          rw [hx'] at this
          simp only at this e'
          omega
        · have := hp k i hkl hi l
          rw [hx'] at this
          simp only at this e'
          omega
  · rw [List.pairwise_iff_getElem]
    intro p q hp hq hpq
    rw [List.length_set] at hp hq
    have := List.pairwise_iff_getElem.1 h.inc p q hp hq hpq
    rw [List.getElem_set, List.getElem_set]
    by_cases e1 : i = p <;> by_cases e2 : i = q
    · omega
    · subst e1; rw [if_pos rfl, if_neg e2]; rw [hx'] at this; exact this
    · subst e2; rw [if_pos rfl, if_neg e1]; rw [hx'] at this; exact this
    · rw [if_neg e1, if_neg e2]; exact this

theorem St.push {r : World → Prop} (h : St w W bs rs) (hp : ∀ V V', Keeps V V' → r V → r V') (hr : r W) : St w W bs (rs ++ [r]) :=
  ⟨h.be, h.bx, h.inc, fun q hq => by
    rcases List.mem_append.1 hq with hq | hq
    · exact h.rd q hq
    · rcases List.mem_singleton.1 hq with rfl
      exact ⟨hp, hr⟩⟩
theorem St.pz (h : St w W bs rs) {s : Value} {m : Bool} {z : Int} (hz : Zd W s m z) : St w W bs (rs ++ [fun V => Zd V s m z]) := h.push (fun _ _ k hz => hz.keep k) hz
theorem St.pd (h : St w W bs rs) {s : Value} {N : Nat} (hz : Dg W s N) : St w W bs (rs ++ [fun V => Dg V s N]) := h.push (fun _ _ k hz => hz.keep k) hz
theorem St.z (h : St w W bs rs) (i : Nat) {s : Value} {m : Bool} {z : Int} (hx : rs[i]? = some (fun V => Zd V s m z)) : Zd W s m z := (h.rd _ (List.mem_of_getElem? hx)).2
theorem St.d (h : St w W bs rs) (i : Nat) {s : Value} {N : Nat} (hx : rs[i]? = some (fun V => Dg V s N)) : Dg W s N := (h.rd _ (List.mem_of_getElem? hx)).2
theorem St.zd (h : St w W bs rs) (i : Nat) {s : Value} {m : Bool} {z : Int} (hx : rs[i]? = some (fun V => Zd V s m z)) : Dg W s z.natAbs := (h.z i hx).d
theorem St.fz (h : St w W bs rs) {s : Value} {m : Bool} {z : Int} (hz : Zd W s m z) {a : Option Addr} {n c : Nat} (hs : s = .slice a n c) : RetZ w z (.returned (.agg #[s, .bool m])) W := by
  subst hs; exact ⟨a, n, c, m, rfl, hz, h.be⟩
theorem St.pick (h : St w W bs rs) (is : List Nat) {rs' : List (World → Prop)} (hx : is.map (fun i => rs[i]?) = rs'.map some) : St w W bs rs' :=
  ⟨h.be, h.bx, h.inc, fun r hr => by
    have : some r ∈ is.map (fun i => rs[i]?) := by rw [hx]; exact List.mem_map.2 ⟨r, hr, rfl⟩
    obtain ⟨i, _, hi⟩ := List.mem_map.1 this
    exact h.rd r (List.mem_of_getElem? hi)⟩
/-- some of the blocks, in whatever order -/
theorem St.bpick (h : St w W bs rs) (is : List Nat) (hn : is.Nodup) {bs' : List (Nat × Array Value × TypeId)} (hx : is.map (fun i => bs[i]?) = bs'.map some) : St w W bs' rs := by
  refine ⟨h.be, fun x hx' => ?_, ?_, h.rd⟩
  · have : some x ∈ is.map (fun i => bs[i]?) := by rw [hx]; exact List.mem_map.2 ⟨x, hx', rfl⟩
    obtain ⟨i, _, hi⟩ := List.mem_map.1 this
    exact h.bx x (List.mem_of_getElem? hi)
  · rw [List.pairwise_iff_getElem]
    intro p q hp hq hpq
    have hl : is.length = bs'.length := by have := congrArg List.length hx; simpa using this
    have e : ∀ (k : Nat) (hk : k < bs'.length), bs[is[k]'(by omega)]? = some bs'[k] := by
      intro k hk
      have := congrArg (fun l => l[k]?) hx
      simp only [List.getElem?_map, List.getElem?_eq_getElem hk, List.getElem?_eq_getElem (show k < is.length by omega), Option.map_some, Option.some.injEq] at this
      exact this
    have h1 := List.getElem?_eq_some_iff.1 (e p hp)
    have h2 := List.getElem?_eq_some_iff.1 (e q hq)
    have hne : is[p]'(by omega) ≠ is[q]'(by omega) := List.pairwise_iff_getElem.1 hn p q (by omega) (by omega) hpq
    have key := List.pairwise_iff_getElem.1 h.inc
    rw [← h1.2, ← h2.2]
    rcases Nat.lt_or_gt_of_ne hne with l | l
    · exact key _ _ h1.1 h2.1 l
    · exact (key _ _ h2.1 h1.1 l).symm
theorem St.apart (h : St w W bs rs) (i j : Nat) {b b' : Nat} {cs cs' : Array Value} {t t' : TypeId} (hx : bs[i]? = some (b, cs, t)) (hy : bs[j]? = some (b', cs', t')) (hij : i < j) : b ≠ b' := by
  have hi := (List.getElem?_eq_some_iff.1 hx)
  have hj := (List.getElem?_eq_some_iff.1 hy)
  have := List.pairwise_iff_getElem.1 h.inc i j hi.1 hj.1 hij
  rw [hi.2, hj.2] at this
  exact this
theorem wp_gen {P : Program} {c : Code} {Q : Exit → Act → World → Prop} {a : Act} (h : St w W bs rs) (k : ∀ V, St w V bs rs → c.wp P Q a V) : c.wp P Q a W := k W h
theorem gen_app {F : Act → World → Prop} {a : Act} (h : St w W bs rs) (k : ∀ V, St w V bs rs → F a V) : F a W := k W h
theorem ret_st {P : Program} {f : Func} {R : Ending → World → Prop} {a : Act} {v : Value} (h : St w W bs rs) (hr : St w W bs rs → (results f a.tmps).run P W = .ok v W) (hd : a.defers = []) (hR : St w W bs rs → R (.returned v) W) : bodyPost P f R .ret a W :=
  bodyPost_ret (hr h) hd (hR h)
end

end Go.Proofs.YtnimnoodpnhodaaDoor
