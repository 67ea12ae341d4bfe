/- Walks. No condition. -/
import Derived.Test.YtdepaileabejgaaGreatDoorQFnExactOpenJournalx15
namespace Go.Proofs.YtdepaileabejgaaGreatDoor.PFnExactOpenJournal
open Go.RowKit Go.Proofs.YtdepaileabejgaaGreatDoorW.PrintWords Go.Proofs.YtdepaileabejgaaGreatDoorW.PrintLast Go.Proofs.YtdepaileabejgaaGreatDoorW.PrintMore Go.Proofs.YtdepaileabejgaaGreatDoorW.Short
attribute [local go_sem] max2_int min2_int max_two min_two max_three min_three max_four min_four
set_option maxHeartbeats 8000000
set_option maxRecDepth 100000
set_option linter.unusedVariables false
set_option linter.unusedSimpArgs false
def impl_fileOk.f (a0_0 : ByteArray) (a0_1 : ByteArray) (a0_2 : Int) : Option (Bool) := (impl_in.f (a0_0.size : Int) 1 8).bind fun t600 => (if t600 = true then (if (a0_1.size : Int) ≤ 20000 then ((impl_in.f a0_2 0 (a0_1.size : Int)).bind fun t601 => (some t601)) else (some false)) else (some false))
theorem impl_fileOk.calls (a0_0 : ByteArray) (a0_1 : ByteArray) (a0_2 : Int) (r : Bool) (w : World) (H : impl_fileOk.f a0_0 a0_1 a0_2 = some r) :
 Calls Tryz.prog 60 #[.agg #[.string a0_0, .string a0_1, .int .i64 a0_2]] w fun e w' => e = .returned (.bool r) ∧ Below w.heap.size w w' := by
 have hu49 := Tryz.underlying49; have HB := ak (Below.refl w.heap.size w); unfold impl_fileOk.f at H; obtain ⟨t600, A2, H⟩ := bo H; cases t600; rotate_left
 focus
  rw [if_pos rfl] at H; revert H
  refine si (fun c4 H => ?_) fun c4 H => ?_
  have c4b0 := dt c4
  have c4b1 : decide (a0_1.size ≤ 20000) = true := dt (by omega)
  clear c4; obtain ⟨t601, A5, H⟩ := bo H; obtain rfl := oj H; rotate_left; have c4b0 := df c4
  have c4b1 : decide (a0_1.size ≤ 20000) = false := df (by omega)
  clear c4; obtain rfl := oj H
 rotate_left 2; rw [if_neg nf] at H; obtain rfl := oj H
 all_goals
  go_enter Tryz.func60, Tryz.ntmps60
  go_wp2_with (first | ((with_reducible refine gate_dst (N := 1) rfl ?_); (try (refine gate_guard (by rfl) ?_; dsimp only)); refine box_event ?hg (N := 1) ?hd (cs := #[.string a0_0, .string a0_1, .int .i64 a0_2]) (t := 49) ?hr ?_; (case hd => rfl); (case hg => rfl); (case hr => first | (go_simp; done) | (go_simp; rfl)); intro gb599 hg w6 hbox hb; have BK599 := ak hbox; have GE599 := ge_ hg HB; replace HB := bs1 HB hb; clear hb hbox hg; obtain ⟨_, _, _, _, _, _⟩ := bc3 BK599) | ((with_reducible refine gd 6 rfl ?_); refine gc 6 Tryz.func54 (impl_in.calls (a0_0.size : Int) 1 8 _ _ A2.out) fun w' h_ => ?_; obtain ⟨nd, rfl⟩ := h_) | (go_at_call 54; (with_reducible refine (impl_in.calls a0_2 0 (a0_1.size : Int) t601 _ A5.out).mono ?_); rintro e w' ⟨rfl, ⟨nd, rfl⟩⟩))
  go_ret; exact ⟨fe, bt HB⟩
end Go.Proofs.YtdepaileabejgaaGreatDoor.PFnExactOpenJournal
