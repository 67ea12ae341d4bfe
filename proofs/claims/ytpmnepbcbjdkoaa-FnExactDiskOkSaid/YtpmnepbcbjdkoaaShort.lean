/- Short forms of the moves of blocks and of held values from one world to a later one. No condition. -/
import Derived.Test.YtpmnepbcbjdkoaaWWords
namespace Go.Proofs.YtpmnepbcbjdkoaaW.Short
open Go Go.RowKit Go.Proofs.YtpmnepbcbjdkoaaW.PrintWords
theorem bk {w w' : World} {g : Nat} {o : Obj} (h : Aside0 (w.heap[g]? = some o)) (hs : w.heap[g]? = some o → w'.heap[g]? = some o := by
    intro h_; (with_reducible repeat (first | refine Go.Proofs.YtpmnepbcbjdkoaaW.PrintWords.blk_drewN ?_ _ | refine Go.Proofs.YtpmnepbcbjdkoaaW.PrintWords.blk_drew ?_ | refine Go.Proofs.YtpmnepbcbjdkoaaW.PrintWords.blk_alloc ?_ _)); exact h_) : w'.heap[g]? = some o := hs h.out
theorem bk_ {w w' : World} {g : Nat} {o : Obj} (h : w.heap[g]? = some o) (hs : w.heap[g]? = some o → w'.heap[g]? = some o := by
    intro h_; (with_reducible repeat (first | refine Go.Proofs.YtpmnepbcbjdkoaaW.PrintWords.blk_drewN ?_ _ | refine Go.Proofs.YtpmnepbcbjdkoaaW.PrintWords.blk_drew ?_ | refine Go.Proofs.YtpmnepbcbjdkoaaW.PrintWords.blk_alloc ?_ _)); exact h_) : w'.heap[g]? = some o := hs h
theorem bb {w w1 w' : World} {g : Nat} {o : Obj} (h : Aside0 (w.heap[g]? = some o)) (hb : Below w'.heap.size w' w1) (hs : w.heap[g]? = some o → w'.heap[g]? = some o := by
    intro h_; (with_reducible repeat (first | refine Go.Proofs.YtpmnepbcbjdkoaaW.PrintWords.blk_drewN ?_ _ | refine Go.Proofs.YtpmnepbcbjdkoaaW.PrintWords.blk_drew ?_ | refine Go.Proofs.YtpmnepbcbjdkoaaW.PrintWords.blk_alloc ?_ _)); exact h_) : Aside0 (w1.heap[g]? = some o) := ⟨blk_below (hs h.out) hb⟩
variable {α : Type} {d : Kd α} {e base : Nat} {ok : Nat → Prop} {w w' w1 : World} {v : Value} {xs : List α}
theorem rk (h : Aside0 (d.R e w base ok v xs)) (hs : d.R e w base ok v xs → d.R e w' base ok v xs := by
    intro h_; (with_reducible repeat (first | apply Go.Proofs.YtpmnepbcbjdkoaaW.PrintWords.Kd.R_alloc | apply Go.Proofs.YtpmnepbcbjdkoaaW.PrintWords.Kd.R_drewN | apply Go.Proofs.YtpmnepbcbjdkoaaW.PrintWords.Kd.R_drew)); exact h_) : d.R e w' base ok v xs := hs h.out
theorem rb (h : Aside0 (d.R e w base ok v xs)) (hb : Below w'.heap.size w' w1) (hs : d.R e w base ok v xs → d.R e w' base ok v xs := by
    intro h_; (with_reducible repeat (first | apply Go.Proofs.YtpmnepbcbjdkoaaW.PrintWords.Kd.R_alloc | apply Go.Proofs.YtpmnepbcbjdkoaaW.PrintWords.Kd.R_drewN | apply Go.Proofs.YtpmnepbcbjdkoaaW.PrintWords.Kd.R_drew)); exact h_) : Aside0 (d.R e w1 base ok v xs) := ⟨Kd.R_below (hs h.out) hb⟩
end Go.Proofs.YtpmnepbcbjdkoaaW.Short
