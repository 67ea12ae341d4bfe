/- Short forms of the moves of blocks and of held values from one world to a later one. No condition. -/
import Derived.Test.YtdepaileabejgaaGreatDoorV
namespace Go.Proofs.YtdepaileabejgaaGreatDoorW.Short
open Go Go.RowKit Go.Proofs.YtdepaileabejgaaGreatDoorW.PrintWords
theorem bk {w w' : World} {g : Nat} {o : Obj} (h : Aside0 (w.heap[g]? = some o)) (hs : w.heap[g]? = some o → w'.heap[g]? = some o := by
    intro h_; (with_reducible repeat (first | refine blk_drewN ?_ _ | refine blk_drew ?_ | refine blk_alloc ?_ _)); exact h_) : w'.heap[g]? = some o := hs h.out
theorem bk_ {w w' : World} {g : Nat} {o : Obj} (h : w.heap[g]? = some o) (hs : w.heap[g]? = some o → w'.heap[g]? = some o := by
    intro h_; (with_reducible repeat (first | refine blk_drewN ?_ _ | refine blk_drew ?_ | refine blk_alloc ?_ _)); exact h_) : w'.heap[g]? = some o := hs h
theorem bb {w w1 w' : World} {g : Nat} {o : Obj} (h : Aside0 (w.heap[g]? = some o)) (hb : Below w'.heap.size w' w1) (hs : w.heap[g]? = some o → w'.heap[g]? = some o := by
    intro h_; (with_reducible repeat (first | refine blk_drewN ?_ _ | refine blk_drew ?_ | refine blk_alloc ?_ _)); exact h_) : Aside0 (w1.heap[g]? = some o) := ⟨blk_below (hs h.out) hb⟩
variable {α : Type} {d : Kd α} {e base : Nat} {ok : Nat → Prop} {w w' w1 : World} {v : Value} {xs : List α}
theorem rk (h : Aside0 (d.R e w base ok v xs)) (hs : d.R e w base ok v xs → d.R e w' base ok v xs := by
    intro h_; (with_reducible repeat (first | apply Kd.R_alloc | apply Kd.R_drewN | apply Kd.R_drew)); exact h_) : d.R e w' base ok v xs := hs h.out
theorem rb (h : Aside0 (d.R e w base ok v xs)) (hb : Below w'.heap.size w' w1) (hs : d.R e w base ok v xs → d.R e w' base ok v xs := by
    intro h_; (with_reducible repeat (first | apply Kd.R_alloc | apply Kd.R_drewN | apply Kd.R_drew)); exact h_) : Aside0 (d.R e w1 base ok v xs) := ⟨Kd.R_below (hs h.out) hb⟩
theorem bt {n : Nat} {w w1 w2 : World} (h : Aside0 (Below n w w1)) (hs : Below n w w1 → Below n w w2 := by
    intro h_; repeat (first | (with_reducible first | exact h_ | apply below_alloc | apply pw_below_drewN | apply below_drew1 | refine below_set ?_ (Aside0.out (by assumption))) | exact h_)) : Below n w w2 := hs h.out
theorem bc {w : World} {g : Nat} {t : TypeId} {cs : Array Value} {v : Value} (h : Aside0 (w.heap[g]? = some (.cells cs t (0, 0)))) (i : Nat) (hv : cs[i]? = some v := by rfl) : w.cell? ⟨g, i, none⟩ = some v := (blk_cell h.out i).trans hv
theorem zA {β : Type} (l : List β) (i : Nat) (a : β) : l.toArray.setIfInBounds i a = (l.set i a).toArray := by simp only [List.setIfInBounds_toArray]
theorem zB {β : Type} (l : List β) (a b : β) : (a :: l).set 0 b = b :: l := rfl
theorem zC {β : Type} (l : List β) (i : Nat) (a b : β) : (a :: l).set (i + 1) b = a :: l.set i b := rfl
end Go.Proofs.YtdepaileabejgaaGreatDoorW.Short
