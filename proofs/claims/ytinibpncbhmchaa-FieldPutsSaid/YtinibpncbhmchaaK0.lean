import Derived.WalkKit
namespace Go.Proofs.YtinibpncbhmchaaK
open Go
theorem isSome_set (c : Array Value) (i j : Nat) (v : Value) : (c.setIfInBounds i v)[j]?.isSome = c[j]?.isSome := by
  rw [Array.getElem?_setIfInBounds]
  split
  · rename_i h
    subst h
    by_cases h2 : i < c.size
    · simp [h2]
    · rw [if_neg h2, Array.getElem?_eq_none (by omega)]
  · rfl
theorem isSome_setCell (w : World) (a b : Addr) (v : Value) : ((w.setCell a v).cell? b).isSome = (w.cell? b).isSome := by
  simp only [World.setCell, World.cell?, Array.getElem?_modify]
  by_cases hb : a.block = b.block
  · simp only [hb, if_true]
    cases hh : w.heap[b.block]? with
    | none => simp
    | some x =>
      cases x <;> simp
      split
      · rfl
      · split
        · rfl
        · exact isSome_set _ _ _ _
  · simp only [if_neg hb]
end Go.Proofs.YtinibpncbhmchaaK
