/- What the functions that FnExactLoseDisk reaches compute, and that the machine's calls compute it. Begun as a text of the kit's print. No condition. -/
import Derived.Test.YtpmdcplmnipdeaaShort
import Derived.Test.YtpmdcplmnipdeaaQFnExactLoseDiskx0
import Derived.Test.YtpmdcplmnipdeaaQFnExactLoseDiskx1
import Derived.Test.YtpmdcplmnipdeaaQFnExactLoseDiskx3
import Derived.Test.YtpmdcplmnipdeaaQFnExactLoseDiskx4
import Derived.Test.YtpmdcplmnipdeaaQFnExactLoseDiskx6
import Derived.Test.YtpmdcplmnipdeaaQFnExactLoseDiskx7
import Derived.Test.YtpmdcplmnipdeaaQFnExactLoseDiskx8
import Derived.Test.YtpmdcplmnipdeaaQFnExactLoseDiskx9
namespace Go.Proofs.Ytpmdcplmnipdeaa.PFnExactLoseDisk
open Go.RowKit Go.Proofs.YtpmdcplmnipdeaaW.PrintWords Go.Proofs.YtpmdcplmnipdeaaW.PrintLast Go.Proofs.YtpmdcplmnipdeaaW.PrintMore Go.Proofs.YtpmdcplmnipdeaaW.Short
attribute [local go_sem] max2_int min2_int max_two min_two max_three min_three max_four min_four   -- for this text's walks alone
set_option linter.unusedVariables false
set_option linter.unusedSimpArgs false

/-! ### laws_FnExactLoseDisk: function 8 -/
mutual
def laws_FnExactLoseDisk.j0 : Nat → List Int → Bool → List Int → Bool → Bool → List (S147) → List (S124) → List (S124) → List (S124) → Option (Bool)
  | 0, _, _, _, _, _, _, _, _, _ => none
  | k + 1, x1, x7, x9, x11, x51, x211000, x223000, x227000, x235000 => if x51 = true then (some false) else ((laws_toDisk.f k x211000).bind fun t236 => ((laws_eqDisk.f k x227000 t236).bind fun t239 => (if t239 = true then ((laws_toIntS.f k x1).bind fun t240 => ((laws_eqIntS.f k x9 t240).bind fun t243 => (if t243 = true then ((laws_markDisk.f k x227000 1).bind fun bt244 => ((laws_markIntS.f k x9 bt244.1).bind fun bt246 => (if bt246.1 < 0 then (laws_FnExactLoseDisk.j1 k x1 x7 true x211000 x223000 x235000) else ((laws_eqDisk.f k x235000 x223000).bind fun t248 => (if t248 = true then (laws_FnExactLoseDisk.j1 k x1 x7 (x11 != x7) x211000 x223000 x235000) else (laws_FnExactLoseDisk.j1 k x1 x7 true x211000 x223000 x235000)))))) else (some false)))) else (some false))))
def laws_FnExactLoseDisk.j1 : Nat → List Int → Bool → Bool → List (S147) → List (S124) → List (S124) → Option (Bool)
  | 0, _, _, _, _, _, _ => none
  | k + 1, x1, x7, x80, x211000, x223000, x235000 => if x80 = true then (some false) else ((laws_markDisk.f k x235000 1).bind fun bt249 => ((laws_heldDisk.f k bt249.2 1).bind fun t251 => (if t251 < 0 then (some false) else (if t251 = bt249.1 then ((laws_toDisk.f k x211000).bind fun t252 => ((laws_toIntS.f k x1).bind fun t255 => ((impl_LoseDisk.f k t252 t255).bind fun bt258 => ((laws_eqDisk.f k bt258.1 x223000).bind fun t263 => (if t263 = true then (laws_FnExactLoseDisk.j2 k bt249.1 (bt258.2 != x7) bt249.2) else (laws_FnExactLoseDisk.j2 k bt249.1 true bt249.2)))))) else (some false)))))
def laws_FnExactLoseDisk.j2 : Nat → Int → Bool → List (S124) → Option (Bool)
  | 0, _, _, _ => none
  | k + 1, x13, x108, x235000 => if x108 = true then (some false) else ((laws_heldDisk.f k x235000 1).bind fun t264 => (if t264 < 0 then (some false) else (if t264 = x13 then (some true) else (some false))))
end
def laws_FnExactLoseDisk.f (k : Nat) (l0_0 : List (S147)) (l1 : List Int) : Option (Bool) := if (l1.length : Int) > 1048576 then (some true) else ((laws_szDisk.f k l0_0 1048576).bind fun t211 => (if t211 < 0 then (some true) else ((laws_toDisk.f k l0_0).bind fun t212 => ((laws_toIntS.f k l1).bind fun t215 => ((spec_LoseDisk.f k t212 t215).bind fun bt218 => ((laws_toDisk.f k l0_0).bind fun t223 => ((laws_toIntS.f k l1).bind fun t227 => ((impl_LoseDisk.f k t223 t227).bind fun bt230 => ((laws_eqDisk.f k bt230.1 bt218.1).bind fun t235 => (if t235 = true then (laws_FnExactLoseDisk.j0 k l1 bt218.2 t227 bt230.2 (bt230.2 != bt218.2) l0_0 bt218.1 t223 bt230.1) else (laws_FnExactLoseDisk.j0 k l1 bt218.2 t227 bt230.2 true l0_0 bt218.1 t223 bt230.1)))))))))))
theorem laws_FnExactLoseDisk.mono_l : ∀ k, (∀ y0 y1 y2 y3 y4 y5 y6 y7 y8, LeO (laws_FnExactLoseDisk.j0 k y0 y1 y2 y3 y4 y5 y6 y7 y8) (laws_FnExactLoseDisk.j0 (k + 1) y0 y1 y2 y3 y4 y5 y6 y7 y8)) ∧ (∀ y0 y1 y2 y3 y4 y5, LeO (laws_FnExactLoseDisk.j1 k y0 y1 y2 y3 y4 y5) (laws_FnExactLoseDisk.j1 (k + 1) y0 y1 y2 y3 y4 y5)) ∧ (∀ y0 y1 y2, LeO (laws_FnExactLoseDisk.j2 k y0 y1 y2) (laws_FnExactLoseDisk.j2 (k + 1) y0 y1 y2))
  | 0 => ⟨fun _ _ _ _ _ _ _ _ _ r h => by simp [laws_FnExactLoseDisk.j0] at h, fun _ _ _ _ _ _ r h => by simp [laws_FnExactLoseDisk.j1] at h, fun _ _ _ r h => by simp [laws_FnExactLoseDisk.j2] at h⟩
  | k + 1 => by
    obtain ⟨ih0, ih1, ih2⟩ := laws_FnExactLoseDisk.mono_l k
    refine ⟨?_, ?_, ?_⟩
    · intro y0 y1 y2 y3 y4 y5 y6 y7 y8
      unfold laws_FnExactLoseDisk.j0
      repeat' first
      | (with_reducible exact ih0 _ _ _ _ _ _ _ _ _)
      | (with_reducible exact ih1 _ _ _ _ _ _)
      | (with_reducible exact ih2 _ _ _)
      | (with_reducible exact impl_LoseDisk.mono _ _ _)
      | (with_reducible exact laws_eqDisk.mono _ _ _)
      | (with_reducible exact laws_eqIntS.mono _ _ _)
      | (with_reducible exact laws_heldDisk.mono _ _ _)
      | (with_reducible exact laws_markDisk.mono _ _ _)
      | (with_reducible exact laws_markIntS.mono _ _ _)
      | (with_reducible exact laws_szDisk.mono _ _ _)
      | (with_reducible exact laws_toDisk.mono _ _)
      | (with_reducible exact laws_toIntS.mono _ _)
      | (with_reducible exact spec_LoseDisk.mono _ _ _)
      | (with_reducible exact LeO.refl _)
      | (with_reducible exact LeO.none _)
      | (with_reducible refine LeO.ite ?_ ?_)
      | (with_reducible refine LeO.bind ?_ (fun _ => ?_))
      | exact ih0 _ _ _ _ _ _ _ _ _
      | exact ih1 _ _ _ _ _ _
      | exact ih2 _ _ _
      | exact impl_LoseDisk.mono _ _ _
      | exact laws_eqDisk.mono _ _ _
      | exact laws_eqIntS.mono _ _ _
      | exact laws_heldDisk.mono _ _ _
      | exact laws_markDisk.mono _ _ _
      | exact laws_markIntS.mono _ _ _
      | exact laws_szDisk.mono _ _ _
      | exact laws_toDisk.mono _ _
      | exact laws_toIntS.mono _ _
      | exact spec_LoseDisk.mono _ _ _
      | exact LeO.none _
      | refine LeO.ite ?_ ?_
      | refine LeO.bind ?_ (fun _ => ?_)
    · intro y0 y1 y2 y3 y4 y5
      unfold laws_FnExactLoseDisk.j1
      repeat' first
      | (with_reducible exact ih0 _ _ _ _ _ _ _ _ _)
      | (with_reducible exact ih1 _ _ _ _ _ _)
      | (with_reducible exact ih2 _ _ _)
      | (with_reducible exact impl_LoseDisk.mono _ _ _)
      | (with_reducible exact laws_eqDisk.mono _ _ _)
      | (with_reducible exact laws_eqIntS.mono _ _ _)
      | (with_reducible exact laws_heldDisk.mono _ _ _)
      | (with_reducible exact laws_markDisk.mono _ _ _)
      | (with_reducible exact laws_markIntS.mono _ _ _)
      | (with_reducible exact laws_szDisk.mono _ _ _)
      | (with_reducible exact laws_toDisk.mono _ _)
      | (with_reducible exact laws_toIntS.mono _ _)
      | (with_reducible exact spec_LoseDisk.mono _ _ _)
      | (with_reducible exact LeO.refl _)
      | (with_reducible exact LeO.none _)
      | (with_reducible refine LeO.ite ?_ ?_)
      | (with_reducible refine LeO.bind ?_ (fun _ => ?_))
      | exact ih0 _ _ _ _ _ _ _ _ _
      | exact ih1 _ _ _ _ _ _
      | exact ih2 _ _ _
      | exact impl_LoseDisk.mono _ _ _
      | exact laws_eqDisk.mono _ _ _
      | exact laws_eqIntS.mono _ _ _
      | exact laws_heldDisk.mono _ _ _
      | exact laws_markDisk.mono _ _ _
      | exact laws_markIntS.mono _ _ _
      | exact laws_szDisk.mono _ _ _
      | exact laws_toDisk.mono _ _
      | exact laws_toIntS.mono _ _
      | exact spec_LoseDisk.mono _ _ _
      | exact LeO.none _
      | refine LeO.ite ?_ ?_
      | refine LeO.bind ?_ (fun _ => ?_)
    · intro y0 y1 y2
      unfold laws_FnExactLoseDisk.j2
      repeat' first
      | (with_reducible exact ih0 _ _ _ _ _ _ _ _ _)
      | (with_reducible exact ih1 _ _ _ _ _ _)
      | (with_reducible exact ih2 _ _ _)
      | (with_reducible exact impl_LoseDisk.mono _ _ _)
      | (with_reducible exact laws_eqDisk.mono _ _ _)
      | (with_reducible exact laws_eqIntS.mono _ _ _)
      | (with_reducible exact laws_heldDisk.mono _ _ _)
      | (with_reducible exact laws_markDisk.mono _ _ _)
      | (with_reducible exact laws_markIntS.mono _ _ _)
      | (with_reducible exact laws_szDisk.mono _ _ _)
      | (with_reducible exact laws_toDisk.mono _ _)
      | (with_reducible exact laws_toIntS.mono _ _)
      | (with_reducible exact spec_LoseDisk.mono _ _ _)
      | (with_reducible exact LeO.refl _)
      | (with_reducible exact LeO.none _)
      | (with_reducible refine LeO.ite ?_ ?_)
      | (with_reducible refine LeO.bind ?_ (fun _ => ?_))
      | exact ih0 _ _ _ _ _ _ _ _ _
      | exact ih1 _ _ _ _ _ _
      | exact ih2 _ _ _
      | exact impl_LoseDisk.mono _ _ _
      | exact laws_eqDisk.mono _ _ _
      | exact laws_eqIntS.mono _ _ _
      | exact laws_heldDisk.mono _ _ _
      | exact laws_markDisk.mono _ _ _
      | exact laws_markIntS.mono _ _ _
      | exact laws_szDisk.mono _ _ _
      | exact laws_toDisk.mono _ _
      | exact laws_toIntS.mono _ _
      | exact spec_LoseDisk.mono _ _ _
      | exact LeO.none _
      | refine LeO.ite ?_ ?_
      | refine LeO.bind ?_ (fun _ => ?_)
theorem laws_FnExactLoseDisk.mono : ∀ a0 a1 k, LeO (laws_FnExactLoseDisk.f k a0 a1) (laws_FnExactLoseDisk.f (k + 1) a0 a1) := by
  intro a0 a1 k
  obtain ⟨ih0, ih1, ih2⟩ := laws_FnExactLoseDisk.mono_l k
  unfold laws_FnExactLoseDisk.f
  repeat' first
      | (with_reducible exact ih0 _ _ _ _ _ _ _ _ _)
      | (with_reducible exact ih1 _ _ _ _ _ _)
      | (with_reducible exact ih2 _ _ _)
      | (with_reducible exact impl_LoseDisk.mono _ _ _)
      | (with_reducible exact laws_eqDisk.mono _ _ _)
      | (with_reducible exact laws_eqIntS.mono _ _ _)
      | (with_reducible exact laws_heldDisk.mono _ _ _)
      | (with_reducible exact laws_markDisk.mono _ _ _)
      | (with_reducible exact laws_markIntS.mono _ _ _)
      | (with_reducible exact laws_szDisk.mono _ _ _)
      | (with_reducible exact laws_toDisk.mono _ _)
      | (with_reducible exact laws_toIntS.mono _ _)
      | (with_reducible exact spec_LoseDisk.mono _ _ _)
      | (with_reducible exact LeO.refl _)
      | (with_reducible exact LeO.none _)
      | (with_reducible refine LeO.ite ?_ ?_)
      | (with_reducible refine LeO.bind ?_ (fun _ => ?_))
      | exact ih0 _ _ _ _ _ _ _ _ _
      | exact ih1 _ _ _ _ _ _
      | exact ih2 _ _ _
      | exact impl_LoseDisk.mono _ _ _
      | exact laws_eqDisk.mono _ _ _
      | exact laws_eqIntS.mono _ _ _
      | exact laws_heldDisk.mono _ _ _
      | exact laws_markDisk.mono _ _ _
      | exact laws_markIntS.mono _ _ _
      | exact laws_szDisk.mono _ _ _
      | exact laws_toDisk.mono _ _
      | exact laws_toIntS.mono _ _
      | exact spec_LoseDisk.mono _ _ _
      | exact LeO.none _
      | refine LeO.ite ?_ ?_
      | refine LeO.bind ?_ (fun _ => ?_)
set_option maxHeartbeats 8000000 in
set_option maxRecDepth 100000 in
theorem laws_FnExactLoseDisk.calls (k : Nat) (A0_0 : Option Addr) (c0_0 : Nat) (l0_0 : List (S147)) (A1 : Option Addr) (c1 : Nat) (l1 : List Int) (r : Bool) (w : World) (hr0_0 : Kd.C k147 w A0_0 l0_0.length l0_0) (hc0_0 : l0_0.length ≤ c0_0) (hr1 : Kd.C (Kd.int .i64) w A1 l1.length l1) (hc1 : l1.length ≤ c1) (h : laws_FnExactLoseDisk.f k l0_0 l1 = some r) :
  Calls Try.prog 8 #[.agg #[.slice A0_0 l0_0.length c0_0], .slice A1 l1.length c1] w fun e w' => e = .returned (.bool r) ∧ Below w.heap.size w w' := by
 have hu69 := Try.underlying69
 have hu73 := Try.underlying73
 have HR0_0 := Aside0.mk hr0_0
 have HC0_0 := Aside0.mk hc0_0
 clear hr0_0 hc0_0
 have HR1 := Aside0.mk hr1
 have HC1 := Aside0.mk hc1
 clear hr1 hc1
 have HB := Aside0.mk (Below.refl w.heap.size w)
 have H : (if (l1.length : Int) > 1048576 then (some true) else ((laws_szDisk.f k l0_0 1048576).bind fun t211 => (if t211 < 0 then (some true) else ((laws_toDisk.f k l0_0).bind fun t212 => ((laws_toIntS.f k l1).bind fun t215 => ((spec_LoseDisk.f k t212 t215).bind fun bt218 => ((laws_toDisk.f k l0_0).bind fun t223 => ((laws_toIntS.f k l1).bind fun t227 => ((impl_LoseDisk.f k t223 t227).bind fun bt230 => ((laws_eqDisk.f k bt230.1 bt218.1).bind fun t235 => (if t235 = true then (laws_FnExactLoseDisk.j0 k l1 bt218.2 t227 bt230.2 (bt230.2 != bt218.2) l0_0 bt218.1 t223 bt230.1) else (laws_FnExactLoseDisk.j0 k l1 bt218.2 t227 bt230.2 true l0_0 bt218.1 t223 bt230.1)))))))))))) = some r := h
 clear h
 by_cases c3 : (l1.length : Int) > 1048576
 ·rw [if_pos c3] at H
  have c3b0 : decide (1048576 < (l1.length : Int)) = true := decide_eq_true c3
  have c3b1 : decide (1048576 < l1.length) = true := decide_eq_true (by omega)
  clear c3
  obtain rfl := Option.some.inj H
  go_enter Try.func8, Try.ntmps8
  go_wp2_with (first | ((with_reducible refine gate_dst (N := 2) rfl ?_); refine box_event ?hg (N := 2) ?hd (cs := #[.slice A0_0 l0_0.length c0_0]) (t := 69) ?hr ?_; (case hd => rfl); (case hg => rfl); (case hr => first | (go_simp; done) | (go_simp; rfl)); intro gb210 hg w4 hbox hb; have n0_ := Aside0.mk (below_step (bt HB) hb); have n1_ := Aside0.mk (hbox); have n2_ := Aside0.mk ((by rw [hg]; exact (below_size (bt HB)) : w.heap.size ≤ gb210)); have n3_ := Aside0.mk ((by rw [hg]; exact (below_size (bt HB)) : w.heap.size ≤ gb210)); clear HB; revert n0_ n1_ n2_ n3_; intro HB BK210 GW210 GE210; clear hb hbox hg))
  go_ret
  exact ⟨by first | rfl | (simp [errW_none, errW_some] <;> rfl) | (simp [*, errW_none, errW_some] <;> rfl), bt HB⟩
 ·rw [if_neg c3] at H
  have c3b0 : decide (1048576 < (l1.length : Int)) = false := decide_eq_false c3
  have c3b1 : decide (1048576 < l1.length) = false := decide_eq_false (by omega)
  clear c3
  replace H := Option.bind_eq_some_iff.mp H
  obtain ⟨t211, A50, H⟩ := H
  replace H : (if t211 < 0 then (some true) else ((laws_toDisk.f k l0_0).bind fun t212 => ((laws_toIntS.f k l1).bind fun t215 => ((spec_LoseDisk.f k t212 t215).bind fun bt218 => ((laws_toDisk.f k l0_0).bind fun t223 => ((laws_toIntS.f k l1).bind fun t227 => ((impl_LoseDisk.f k t223 t227).bind fun bt230 => ((laws_eqDisk.f k bt230.1 bt218.1).bind fun t235 => (if t235 = true then (laws_FnExactLoseDisk.j0 k l1 bt218.2 t227 bt230.2 (bt230.2 != bt218.2) l0_0 bt218.1 t223 bt230.1) else (laws_FnExactLoseDisk.j0 k l1 bt218.2 t227 bt230.2 true l0_0 bt218.1 t223 bt230.1)))))))))) = some r := H
  have A5 := Aside0.mk A50
  clear A50
  by_cases c6 : t211 < 0
  ·rw [if_pos c6] at H
   have c6b0 : decide (t211 < 0) = true := decide_eq_true c6
   clear c6
   obtain rfl := Option.some.inj H
   go_enter Try.func8, Try.ntmps8
   go_wp2_with (first | ((with_reducible refine gate_dst (N := 2) rfl ?_); refine box_event ?hg (N := 2) ?hd (cs := #[.slice A0_0 l0_0.length c0_0]) (t := 69) ?hr ?_; (case hd => rfl); (case hg => rfl); (case hr => first | (go_simp; done) | (go_simp; rfl)); intro gb210 hg w7 hbox hb; have n0_ := Aside0.mk (below_step (bt HB) hb); have n1_ := Aside0.mk (hbox); have n2_ := Aside0.mk ((by rw [hg]; exact (below_size (bt HB)) : w.heap.size ≤ gb210)); have n3_ := Aside0.mk ((by rw [hg]; exact (below_size (bt HB)) : w.heap.size ≤ gb210)); clear HB; revert n0_ n1_ n2_ n3_; intro HB BK210 GW210 GE210; clear hb hbox hg; have hcz8_0 : w7.cell? ⟨gb210, 0, none⟩ = some (.slice A0_0 l0_0.length c0_0) := bc BK210 0; have hfz8_0 := blk_frozen BK210.out 0) | ((with_reducible refine gate_callee (f := 35) rfl ?_); refine goesL_ (some 22) rfl rfl Try.func35 (by kernel_rfl) rfl #[.agg #[.slice A0_0 l0_0.length c0_0], .int .i64 1048576] rfl (by (try simp only [List.map_toArray, List.map_cons, List.map_nil]); first | done | rfl | (simp only [List.length_drop, List.length_take]; rfl)) ?_; (with_reducible refine (laws_szDisk.calls k _ _ l0_0 1048576 t211 _ ?side1 ?side2 A5.out).mono ?_); (case side1 => repeat (first | exact (Kd.C_below HR0_0.out HB.out) | (with_reducible refine Kd.C_alloc ?_ _) | (with_reducible refine Kd.C_drewN ?_ _) | (with_reducible refine Kd.C_drew ?_))); (case side2 => exact HC0_0.out); rintro e w9 ⟨rfl, hb⟩; refine ⟨_, rfl, ?_⟩; have n0_ := bb BK210 hb; have n1_ := Aside0.mk (below_step (bt HB) hb); clear BK210 HB; revert n0_ n1_; intro BK210 HB; (try clear hb); (try clear hb2); (try clear hk); (try clear hi)))
   go_ret
   exact ⟨by first | rfl | (simp [errW_none, errW_some] <;> rfl) | (simp [*, errW_none, errW_some] <;> rfl), bt HB⟩
  ·rw [if_neg c6] at H
   have c6b0 : decide (t211 < 0) = false := decide_eq_false c6
   clear c6
   replace H := Option.bind_eq_some_iff.mp H
   obtain ⟨t212, A100, H⟩ := H
   replace H : ((laws_toIntS.f k l1).bind fun t215 => ((spec_LoseDisk.f k t212 t215).bind fun bt218 => ((laws_toDisk.f k l0_0).bind fun t223 => ((laws_toIntS.f k l1).bind fun t227 => ((impl_LoseDisk.f k t223 t227).bind fun bt230 => ((laws_eqDisk.f k bt230.1 bt218.1).bind fun t235 => (if t235 = true then (laws_FnExactLoseDisk.j0 k l1 bt218.2 t227 bt230.2 (bt230.2 != bt218.2) l0_0 bt218.1 t223 bt230.1) else (laws_FnExactLoseDisk.j0 k l1 bt218.2 t227 bt230.2 true l0_0 bt218.1 t223 bt230.1)))))))) = some r := H
   have A10 := Aside0.mk A100
   clear A100
   replace H := Option.bind_eq_some_iff.mp H
   obtain ⟨t215, A110, H⟩ := H
   replace H : ((spec_LoseDisk.f k t212 t215).bind fun bt218 => ((laws_toDisk.f k l0_0).bind fun t223 => ((laws_toIntS.f k l1).bind fun t227 => ((impl_LoseDisk.f k t223 t227).bind fun bt230 => ((laws_eqDisk.f k bt230.1 bt218.1).bind fun t235 => (if t235 = true then (laws_FnExactLoseDisk.j0 k l1 bt218.2 t227 bt230.2 (bt230.2 != bt218.2) l0_0 bt218.1 t223 bt230.1) else (laws_FnExactLoseDisk.j0 k l1 bt218.2 t227 bt230.2 true l0_0 bt218.1 t223 bt230.1))))))) = some r := H
   have A11 := Aside0.mk A110
   clear A110
   replace H := Option.bind_eq_some_iff.mp H
   obtain ⟨⟨t218, t221⟩, A120, H⟩ := H
   replace H : ((laws_toDisk.f k l0_0).bind fun t223 => ((laws_toIntS.f k l1).bind fun t227 => ((impl_LoseDisk.f k t223 t227).bind fun bt230 => ((laws_eqDisk.f k bt230.1 t218).bind fun t235 => (if t235 = true then (laws_FnExactLoseDisk.j0 k l1 t221 t227 bt230.2 (bt230.2 != t221) l0_0 t218 t223 bt230.1) else (laws_FnExactLoseDisk.j0 k l1 t221 t227 bt230.2 true l0_0 t218 t223 bt230.1)))))) = some r := H
   have A12 := Aside0.mk A120
   clear A120
   replace H := Option.bind_eq_some_iff.mp H
   obtain ⟨t223, A130, H⟩ := H
   replace H : ((laws_toIntS.f k l1).bind fun t227 => ((impl_LoseDisk.f k t223 t227).bind fun bt230 => ((laws_eqDisk.f k bt230.1 t218).bind fun t235 => (if t235 = true then (laws_FnExactLoseDisk.j0 k l1 t221 t227 bt230.2 (bt230.2 != t221) l0_0 t218 t223 bt230.1) else (laws_FnExactLoseDisk.j0 k l1 t221 t227 bt230.2 true l0_0 t218 t223 bt230.1))))) = some r := H
   have A13 := Aside0.mk A130
   clear A130
   replace H := Option.bind_eq_some_iff.mp H
   obtain ⟨t227, A140, H⟩ := H
   replace H : ((impl_LoseDisk.f k t223 t227).bind fun bt230 => ((laws_eqDisk.f k bt230.1 t218).bind fun t235 => (if t235 = true then (laws_FnExactLoseDisk.j0 k l1 t221 t227 bt230.2 (bt230.2 != t221) l0_0 t218 t223 bt230.1) else (laws_FnExactLoseDisk.j0 k l1 t221 t227 bt230.2 true l0_0 t218 t223 bt230.1)))) = some r := H
   have A14 := Aside0.mk A140
   clear A140
   replace H := Option.bind_eq_some_iff.mp H
   obtain ⟨⟨t230, t233⟩, A150, H⟩ := H
   replace H : ((laws_eqDisk.f k t230 t218).bind fun t235 => (if t235 = true then (laws_FnExactLoseDisk.j0 k l1 t221 t227 t233 (t233 != t221) l0_0 t218 t223 t230) else (laws_FnExactLoseDisk.j0 k l1 t221 t227 t233 true l0_0 t218 t223 t230))) = some r := H
   have A15 := Aside0.mk A150
   clear A150
   have HC16 := Aside0.mk H
   clear H
   go_enter Try.func8, Try.ntmps8
   go_upto_region 11 with (first | ((with_reducible refine gate_dst (N := 2) rfl ?_); refine box_event ?hg (N := 2) ?hd (cs := #[.slice A0_0 l0_0.length c0_0]) (t := 69) ?hr ?_; (case hd => rfl); (case hg => rfl); (case hr => first | (go_simp; done) | (go_simp; rfl)); intro gb210 hg w17 hbox hb; have n0_ := Aside0.mk (below_step (bt HB) hb); have n1_ := Aside0.mk (hbox); have n2_ := Aside0.mk ((by rw [hg]; exact (below_size (bt HB)) : w.heap.size ≤ gb210)); have n3_ := Aside0.mk ((by rw [hg]; exact (below_size (bt HB)) : w.heap.size ≤ gb210)); clear HB; revert n0_ n1_ n2_ n3_; intro HB BK210 GW210 GE210; clear hb hbox hg; have hcz18_0 : w17.cell? ⟨gb210, 0, none⟩ = some (.slice A0_0 l0_0.length c0_0) := bc BK210 0; have hfz18_0 := blk_frozen BK210.out 0) | ((with_reducible refine gate_callee (f := 35) rfl ?_); refine goesL_ (some 22) rfl rfl Try.func35 (by kernel_rfl) rfl #[.agg #[.slice A0_0 l0_0.length c0_0], .int .i64 1048576] rfl (by (try simp only [List.map_toArray, List.map_cons, List.map_nil]); first | done | rfl | (simp only [List.length_drop, List.length_take]; rfl)) ?_; (with_reducible refine (laws_szDisk.calls k _ _ l0_0 1048576 t211 _ ?side1 ?side2 A5.out).mono ?_); (case side1 => repeat (first | exact (Kd.C_below HR0_0.out HB.out) | (with_reducible refine Kd.C_alloc ?_ _) | (with_reducible refine Kd.C_drewN ?_ _) | (with_reducible refine Kd.C_drew ?_))); (case side2 => exact HC0_0.out); rintro e w19 ⟨rfl, hb⟩; refine ⟨_, rfl, ?_⟩; have n0_ := bb BK210 hb; have n1_ := Aside0.mk (below_step (bt HB) hb); clear BK210 HB; revert n0_ n1_; intro BK210 HB; (try clear hb); (try clear hb2); (try clear hk); (try clear hi); have hcz20_0 : w19.cell? ⟨gb210, 0, none⟩ = some (.slice A0_0 l0_0.length c0_0) := bc BK210 0; have hfz20_0 := blk_frozen BK210.out 0) | ((with_reducible refine gate_callee (f := 37) rfl ?_); refine goesL_ (some 27) rfl rfl Try.func37 (by kernel_rfl) rfl #[.agg #[.slice A0_0 l0_0.length c0_0]] rfl (by (try simp only [List.map_toArray, List.map_cons, List.map_nil]); first | done | rfl | (simp only [List.length_drop, List.length_take]; rfl)) ?_; (with_reducible refine (laws_toDisk.calls k _ _ l0_0 t212 _ ?side1 ?side2 A10.out).mono ?_); (case side1 => repeat (first | exact (Kd.C_below HR0_0.out HB.out) | (with_reducible refine Kd.C_alloc ?_ _) | (with_reducible refine Kd.C_drewN ?_ _) | (with_reducible refine Kd.C_drew ?_))); (case side2 => exact HC0_0.out); rintro e w21 ⟨v213, rfl, ho0, hb⟩; refine ⟨_, rfl, ?_⟩; have n0_ := Aside0.mk (Kd.R_lower ho0 (below_size (bt HB))); have n1_ := bb BK210 hb; have n2_ := Aside0.mk (below_step (bt HB) hb); clear BK210 HB; revert n0_ n1_ n2_; intro HO214 BK210 HB; (try clear hb); (try clear hb2); (try clear hk); (try clear hi); (try clear ho0)) | ((with_reducible refine gate_callee (f := 38) rfl ?_); refine goesL_ (some 29) rfl rfl Try.func38 (by kernel_rfl) rfl #[.slice A1 l1.length c1] rfl (by (try simp only [List.map_toArray, List.map_cons, List.map_nil]); first | done | rfl | (simp only [List.length_drop, List.length_take]; rfl)) ?_; (with_reducible refine (laws_toIntS.calls k _ _ l1 t215 _ ?side1 ?side2 A11.out).mono ?_); (case side1 => repeat (first | exact (Kd.C_below HR1.out HB.out) | (with_reducible refine Kd.C_alloc ?_ _) | (with_reducible refine Kd.C_drewN ?_ _) | (with_reducible refine Kd.C_drew ?_))); (case side2 => exact HC1.out); rintro e w22 ⟨v216, rfl, ho0, hb⟩; refine ⟨_, rfl, ?_⟩; have n0_ := rb HO214 hb; have n1_ := Aside0.mk (Kd.R_lower ho0 (below_size (bt HB))); have n2_ := bb BK210 hb; have n3_ := Aside0.mk (below_step (bt HB) hb); clear HO214 BK210 HB; revert n0_ n1_ n2_ n3_; intro HO214 HO217 BK210 HB; (try clear hb); (try clear hb2); (try clear hk); (try clear hi); (try clear ho0); obtain ⟨Ao23, co23, eo23⟩ := Kd.R_slice HO214.out; subst eo23; obtain ⟨Ao24, co24, eo24⟩ := Kd.R_slice HO217.out; subst eo24) | ((with_reducible refine gate_callee (f := 36) rfl ?_); refine goesL_ (some 30) rfl rfl Try.func36 (by kernel_rfl) rfl #[.agg #[.slice Ao23 t212.length co23], .slice Ao24 t215.length co24] rfl (by (try simp only [List.map_toArray, List.map_cons, List.map_nil]); first | done | rfl | (simp only [List.length_drop, List.length_take]; rfl)) ?_; (with_reducible refine (spec_LoseDisk.calls k _ _ t212 _ _ t215 t218 t221 _ ?side1 ?side2 ?side3 ?side4 A12.out).mono ?_); (case side1 => repeat (first | exact (Kd.R_reads' HO214.out).2.2 | (with_reducible refine Kd.C_alloc ?_ _) | (with_reducible refine Kd.C_drewN ?_ _) | (with_reducible refine Kd.C_drew ?_))); (case side2 => exact (Kd.R_reads' HO214.out).2.1); (case side3 => repeat (first | exact (Kd.R_reads' HO217.out).2.2 | (with_reducible refine Kd.C_alloc ?_ _) | (with_reducible refine Kd.C_drewN ?_ _) | (with_reducible refine Kd.C_drew ?_))); (case side4 => exact (Kd.R_reads' HO217.out).2.1); rintro e w25 ⟨v219, rfl, ho0, hb⟩; refine ⟨_, rfl, ?_⟩; have n0_ := Aside0.mk (Kd.R_elder' (rk HO214) (Kd.R_base ho0) hb); have n1_ := rb HO217 hb; have n2_ := Aside0.mk (Kd.R_lower (Kd.R_new' ho0 (Kd.R_lt (rk HO214))) (below_size (bt HB))); have n3_ := bb BK210 hb; have n4_ := Aside0.mk (below_step (bt HB) hb); clear HO214 HO217 BK210 HB; revert n0_ n1_ n2_ n3_ n4_; intro HO214 HO217 HO220 BK210 HB; (try clear hb); (try clear hb2); (try clear hk); (try clear hi); (try clear ho0)) | ((with_reducible refine gate_dst (N := 6) rfl ?_); refine box_event ?hg (N := 6) ?hd (cs := #[.slice none 0 0]) (t := 73) ?hr ?_; (case hd => rfl); (case hg => rfl); (case hr => first | (go_simp; done) | (go_simp; rfl)); intro gb222 hg w26 hbox hb; have n0_ := rb HO214 hb; have n1_ := rb HO217 hb; have n2_ := rb HO220 hb; have n3_ := bb BK210 hb; have n4_ := Aside0.mk (below_step (bt HB) hb); have n5_ := Aside0.mk (hbox); have n6_ := Aside0.mk ((by rw [hg]; exact (below_size (bt HB)) : w.heap.size ≤ gb222)); have n7_ := Aside0.mk ((by rw [hg]; exact (below_size (bt HB)) : w.heap.size ≤ gb222)); have n8_ := Aside0.mk ((by rw [hg]; exact Nat.ne_of_lt (blk_lt (bk BK210)) : gb210 ≠ gb222)); have n9_ := Aside0.mk ((by rw [hg]; exact Nat.ne_of_gt (blk_lt (bk BK210)) : gb222 ≠ gb210)); clear HO214 HO217 HO220 BK210 HB; revert n0_ n1_ n2_ n3_ n4_ n5_ n6_ n7_ n8_ n9_; intro HO214 HO217 HO220 BK210 HB BK222 GW222 GE222 NB210_222 NB222_210; clear hb hbox hg; obtain ⟨Ao27, co27, eo27⟩ := Kd.R_slice HO220.out; subst eo27; have hnb28 := NB222_210.out; have hnc28 := NB210_222.out; have hcz29_0 : w26.cell? ⟨gb222, 0, none⟩ = some (.slice none 0 0) := bc BK222 0; have hfz29_0 := blk_frozen BK222.out 0; have hcz30_0 : w26.cell? ⟨gb210, 0, none⟩ = some (.slice A0_0 l0_0.length c0_0) := bc BK210 0; have hfz30_0 := blk_frozen BK210.out 0) | ((with_reducible refine gate_callee (f := 37) rfl ?_); refine goesL_ (some 34) rfl rfl Try.func37 (by kernel_rfl) rfl #[.agg #[.slice A0_0 l0_0.length c0_0]] rfl (by (try simp only [List.map_toArray, List.map_cons, List.map_nil]); first | done | rfl | (simp only [List.length_drop, List.length_take]; rfl)) ?_; (with_reducible refine (laws_toDisk.calls k _ _ l0_0 t223 _ ?side1 ?side2 A13.out).mono ?_); (case side1 => exact Kd.C_below HR0_0.out (bt HB)); (case side2 => exact HC0_0.out); rintro e w31 ⟨v224, rfl, ho0, hb⟩; refine ⟨_, rfl, ?_⟩; have n0_ := Aside0.mk (Kd.R_elder' (by (with_reducible repeat (first | apply Kd.R_alloc | apply Kd.R_drewN | apply Kd.R_drew)); exact (Kd.R_mono (Kd.R_far (p := ⟨gb222, 0, none⟩) (Kd.R_types HO214.out BK222.out (by decide)) (fun _ hk => hk.2) (.slice Ao27 t218.length co27)) (fun _ h_ => h_.1))) (Kd.R_base ho0) hb); have n1_ := Aside0.mk (Kd.R_below (by (with_reducible repeat (first | apply Kd.R_alloc | apply Kd.R_drewN | apply Kd.R_drew)); exact (Kd.R_mono (Kd.R_far (p := ⟨gb222, 0, none⟩) (Kd.R_types HO217.out BK222.out (by decide)) (fun _ hk => hk.2) (.slice Ao27 t218.length co27)) (fun _ h_ => h_.1))) hb); have n2_ := Aside0.mk (Kd.R_elder' (by (with_reducible repeat (first | apply Kd.R_alloc | apply Kd.R_drewN | apply Kd.R_drew)); exact (Kd.R_mono (Kd.R_far (p := ⟨gb222, 0, none⟩) (Kd.R_types HO220.out BK222.out (by decide)) (fun _ hk => hk.2) (.slice Ao27 t218.length co27)) (fun _ h_ => h_.1))) (Kd.R_base ho0) hb); have n3_ := Aside0.mk (Kd.R_lower (Kd.R_new' (Kd.R_new' ho0 (Kd.R_lt (by (with_reducible repeat (first | apply Kd.R_alloc | apply Kd.R_drewN | apply Kd.R_drew)); exact (Kd.R_mono (Kd.R_far (p := ⟨gb222, 0, none⟩) (Kd.R_types HO214.out BK222.out (by decide)) (fun _ hk => hk.2) (.slice Ao27 t218.length co27)) (fun _ h_ => h_.1))))) (Kd.R_lt (by (with_reducible repeat (first | apply Kd.R_alloc | apply Kd.R_drewN | apply Kd.R_drew)); exact (Kd.R_mono (Kd.R_far (p := ⟨gb222, 0, none⟩) (Kd.R_types HO220.out BK222.out (by decide)) (fun _ hk => hk.2) (.slice Ao27 t218.length co27)) (fun _ h_ => h_.1))))) (below_size (bt HB))); have n4_ := Aside0.mk (blk_below (g := gb210) (o := .cells #[.slice A0_0 l0_0.length c0_0] 69 (0, 0)) (by refine bk_ ?_; refine blk_far ?_ NB210_222.out _; refine bk_ ?_; exact BK210.out) hb); have n5_ := Aside0.mk (blk_below (g := gb222) (o := .cells #[.slice Ao27 t218.length co27] 73 (0, 0)) (by refine bk_ ?_; refine blk_put (cs := #[.slice none 0 0]) ?_ 0 _ rfl; refine bk_ ?_; exact BK222.out) hb); have n6_ := Aside0.mk (below_step (bt HB) hb); clear HO214 HO217 HO220 BK210 BK222 HB; revert n0_ n1_ n2_ n3_ n4_ n5_ n6_; intro HO214 HO217 HO220 HO225 BK210 BK222 HB; (try clear hb); (try clear hb2); (try clear hk); (try clear hi); (try clear ho0)) | ((with_reducible refine gate_dst (N := 8) rfl ?_); refine box_event ?hg (N := 8) ?hd (cs := #[.slice none 0 0]) (t := 73) ?hr ?_; (case hd => rfl); (case hg => rfl); (case hr => first | (go_simp; done) | (go_simp; rfl)); intro gb226 hg w32 hbox hb; have n0_ := rb HO214 hb; have n1_ := rb HO217 hb; have n2_ := rb HO220 hb; have n3_ := rb HO225 hb; have n4_ := bb BK210 hb; have n5_ := bb BK222 hb; have n6_ := Aside0.mk (below_step (bt HB) hb); have n7_ := Aside0.mk (hbox); have n8_ := Aside0.mk ((by rw [hg]; exact (below_size (bt HB)) : w.heap.size ≤ gb226)); have n9_ := Aside0.mk ((by rw [hg]; exact (below_size (bt HB)) : w.heap.size ≤ gb226)); have n10_ := Aside0.mk ((by rw [hg]; exact Nat.ne_of_lt (blk_lt (bk BK210)) : gb210 ≠ gb226)); have n11_ := Aside0.mk ((by rw [hg]; exact Nat.ne_of_gt (blk_lt (bk BK210)) : gb226 ≠ gb210)); have n12_ := Aside0.mk ((by rw [hg]; exact Nat.ne_of_lt (blk_lt (bk BK222)) : gb222 ≠ gb226)); have n13_ := Aside0.mk ((by rw [hg]; exact Nat.ne_of_gt (blk_lt (bk BK222)) : gb226 ≠ gb222)); clear HO214 HO217 HO220 HO225 BK210 BK222 HB; revert n0_ n1_ n2_ n3_ n4_ n5_ n6_ n7_ n8_ n9_ n10_ n11_ n12_ n13_; intro HO214 HO217 HO220 HO225 BK210 BK222 HB BK226 GW226 GE226 NB210_226 NB226_210 NB222_226 NB226_222; clear hb hbox hg; obtain ⟨Ao33, co33, eo33⟩ := Kd.R_slice HO225.out; subst eo33; have hnb34 := NB226_210.out; have hnc34 := NB210_226.out; have hnb35 := NB226_222.out; have hnc35 := NB222_226.out; have hcz36_0 : w32.cell? ⟨gb226, 0, none⟩ = some (.slice none 0 0) := bc BK226 0; have hfz36_0 := blk_frozen BK226.out 0) | ((with_reducible refine gate_callee (f := 38) rfl ?_); refine goesL_ (some 36) rfl rfl Try.func38 (by kernel_rfl) rfl #[.slice A1 l1.length c1] rfl (by (try simp only [List.map_toArray, List.map_cons, List.map_nil]); first | done | rfl | (simp only [List.length_drop, List.length_take]; rfl)) ?_; (with_reducible refine (laws_toIntS.calls k _ _ l1 t227 _ ?side1 ?side2 A14.out).mono ?_); (case side1 => exact Kd.C_below HR1.out (bt HB)); (case side2 => exact HC1.out); rintro e w37 ⟨v228, rfl, ho0, hb⟩; refine ⟨_, rfl, ?_⟩; have n0_ := Aside0.mk (Kd.R_below (by (with_reducible repeat (first | apply Kd.R_alloc | apply Kd.R_drewN | apply Kd.R_drew)); exact (Kd.R_mono (Kd.R_far (p := ⟨gb226, 0, none⟩) (Kd.R_types HO214.out BK226.out (by decide)) (fun _ hk => hk.2) (.slice Ao33 t223.length co33)) (fun _ h_ => h_.1))) hb); have n1_ := Aside0.mk (Kd.R_elder' (by (with_reducible repeat (first | apply Kd.R_alloc | apply Kd.R_drewN | apply Kd.R_drew)); exact (Kd.R_mono (Kd.R_far (p := ⟨gb226, 0, none⟩) (Kd.R_types HO217.out BK226.out (by decide)) (fun _ hk => hk.2) (.slice Ao33 t223.length co33)) (fun _ h_ => h_.1))) (Kd.R_base ho0) hb); have n2_ := Aside0.mk (Kd.R_below (by (with_reducible repeat (first | apply Kd.R_alloc | apply Kd.R_drewN | apply Kd.R_drew)); exact (Kd.R_mono (Kd.R_far (p := ⟨gb226, 0, none⟩) (Kd.R_types HO220.out BK226.out (by decide)) (fun _ hk => hk.2) (.slice Ao33 t223.length co33)) (fun _ h_ => h_.1))) hb); have n3_ := Aside0.mk (Kd.R_below (by (with_reducible repeat (first | apply Kd.R_alloc | apply Kd.R_drewN | apply Kd.R_drew)); exact (Kd.R_mono (Kd.R_far (p := ⟨gb226, 0, none⟩) (Kd.R_types HO225.out BK226.out (by decide)) (fun _ hk => hk.2) (.slice Ao33 t223.length co33)) (fun _ h_ => h_.1))) hb); have n4_ := Aside0.mk (Kd.R_lower (Kd.R_new' ho0 (Kd.R_lt (by (with_reducible repeat (first | apply Kd.R_alloc | apply Kd.R_drewN | apply Kd.R_drew)); exact (Kd.R_mono (Kd.R_far (p := ⟨gb226, 0, none⟩) (Kd.R_types HO217.out BK226.out (by decide)) (fun _ hk => hk.2) (.slice Ao33 t223.length co33)) (fun _ h_ => h_.1))))) (below_size (bt HB))); have n5_ := Aside0.mk (blk_below (g := gb210) (o := .cells #[.slice A0_0 l0_0.length c0_0] 69 (0, 0)) (by refine bk_ ?_; refine blk_far ?_ NB210_226.out _; refine bk_ ?_; exact BK210.out) hb); have n6_ := Aside0.mk (blk_below (g := gb222) (o := .cells #[.slice Ao27 t218.length co27] 73 (0, 0)) (by refine bk_ ?_; refine blk_far ?_ NB222_226.out _; refine bk_ ?_; exact BK222.out) hb); have n7_ := Aside0.mk (blk_below (g := gb226) (o := .cells #[.slice Ao33 t223.length co33] 73 (0, 0)) (by refine bk_ ?_; refine blk_put (cs := #[.slice none 0 0]) ?_ 0 _ rfl; refine bk_ ?_; exact BK226.out) hb); have n8_ := Aside0.mk (below_step (bt HB) hb); clear HO214 HO217 HO220 HO225 BK210 BK222 BK226 HB; revert n0_ n1_ n2_ n3_ n4_ n5_ n6_ n7_ n8_; intro HO214 HO217 HO220 HO225 HO229 BK210 BK222 BK226 HB; (try clear hb); (try clear hb2); (try clear hk); (try clear hi); (try clear ho0); have hcz38_0 : w37.cell? ⟨gb226, 0, none⟩ = some (.slice Ao33 t223.length co33) := bc BK226 0; have hfz38_0 := blk_frozen BK226.out 0; obtain ⟨Ao39, co39, eo39⟩ := Kd.R_slice HO229.out; subst eo39) | ((with_reducible refine gate_callee (f := 39) rfl ?_); refine goesL_ (some 40) rfl rfl Try.func39 (by kernel_rfl) rfl #[.agg #[.slice Ao33 t223.length co33], .slice Ao39 t227.length co39] rfl (by (try simp only [List.map_toArray, List.map_cons, List.map_nil]); first | done | rfl | (simp only [List.length_drop, List.length_take]; rfl)) ?_; (with_reducible refine (impl_LoseDisk.calls k _ _ t223 _ _ t227 t230 t233 _ ?side1 ?side2 ?side3 ?side4 A15.out).mono ?_); (case side1 => repeat (first | exact (Kd.R_reads' HO225.out).2.2 | (with_reducible refine Kd.C_alloc ?_ _) | (with_reducible refine Kd.C_drewN ?_ _) | (with_reducible refine Kd.C_drew ?_))); (case side2 => exact (Kd.R_reads' HO225.out).2.1); (case side3 => repeat (first | exact (Kd.R_reads' HO229.out).2.2 | (with_reducible refine Kd.C_alloc ?_ _) | (with_reducible refine Kd.C_drewN ?_ _) | (with_reducible refine Kd.C_drew ?_))); (case side4 => exact (Kd.R_reads' HO229.out).2.1); rintro e w40 ⟨v231, rfl, ho0, hb⟩; refine ⟨_, rfl, ?_⟩; have n0_ := Aside0.mk (Kd.R_elder' (rk HO214) (Kd.R_base ho0) hb); have n1_ := rb HO217 hb; have n2_ := Aside0.mk (Kd.R_elder' (rk HO220) (Kd.R_base ho0) hb); have n3_ := Aside0.mk (Kd.R_elder' (rk HO225) (Kd.R_base ho0) hb); have n4_ := rb HO229 hb; have n5_ := Aside0.mk (Kd.R_lower (Kd.R_new' (Kd.R_new' (Kd.R_new' ho0 (Kd.R_lt (rk HO214))) (Kd.R_lt (rk HO220))) (Kd.R_lt (rk HO225))) (below_size (bt HB))); have n6_ := bb BK210 hb; have n7_ := bb BK222 hb; have n8_ := bb BK226 hb; have n9_ := Aside0.mk (below_step (bt HB) hb); clear HO214 HO217 HO220 HO225 HO229 BK210 BK222 BK226 HB; revert n0_ n1_ n2_ n3_ n4_ n5_ n6_ n7_ n8_ n9_; intro HO214 HO217 HO220 HO225 HO229 HO232 BK210 BK222 BK226 HB; (try clear hb); (try clear hb2); (try clear hk); (try clear hi); (try clear ho0)) | ((with_reducible refine gate_dst (N := 10) rfl ?_); refine box_event ?hg (N := 10) ?hd (cs := #[.slice none 0 0]) (t := 73) ?hr ?_; (case hd => rfl); (case hg => rfl); (case hr => first | (go_simp; done) | (go_simp; rfl)); intro gb234 hg w41 hbox hb; have n0_ := rb HO214 hb; have n1_ := rb HO217 hb; have n2_ := rb HO220 hb; have n3_ := rb HO225 hb; have n4_ := rb HO229 hb; have n5_ := rb HO232 hb; have n6_ := bb BK210 hb; have n7_ := bb BK222 hb; have n8_ := bb BK226 hb; have n9_ := Aside0.mk (below_step (bt HB) hb); have n10_ := Aside0.mk (hbox); have n11_ := Aside0.mk ((by rw [hg]; exact (below_size (bt HB)) : w.heap.size ≤ gb234)); have n12_ := Aside0.mk ((by rw [hg]; exact (below_size (bt HB)) : w.heap.size ≤ gb234)); have n13_ := Aside0.mk ((by rw [hg]; exact Nat.ne_of_lt (blk_lt (bk BK210)) : gb210 ≠ gb234)); have n14_ := Aside0.mk ((by rw [hg]; exact Nat.ne_of_gt (blk_lt (bk BK210)) : gb234 ≠ gb210)); have n15_ := Aside0.mk ((by rw [hg]; exact Nat.ne_of_lt (blk_lt (bk BK222)) : gb222 ≠ gb234)); have n16_ := Aside0.mk ((by rw [hg]; exact Nat.ne_of_gt (blk_lt (bk BK222)) : gb234 ≠ gb222)); have n17_ := Aside0.mk ((by rw [hg]; exact Nat.ne_of_lt (blk_lt (bk BK226)) : gb226 ≠ gb234)); have n18_ := Aside0.mk ((by rw [hg]; exact Nat.ne_of_gt (blk_lt (bk BK226)) : gb234 ≠ gb226)); clear HO214 HO217 HO220 HO225 HO229 HO232 BK210 BK222 BK226 HB; revert n0_ n1_ n2_ n3_ n4_ n5_ n6_ n7_ n8_ n9_ n10_ n11_ n12_ n13_ n14_ n15_ n16_ n17_ n18_; intro HO214 HO217 HO220 HO225 HO229 HO232 BK210 BK222 BK226 HB BK234 GW234 GE234 NB210_234 NB234_210 NB222_234 NB234_222 NB226_234 NB234_226; clear hb hbox hg; obtain ⟨Ao42, co42, eo42⟩ := Kd.R_slice HO232.out; subst eo42; have hnb43 := NB234_210.out; have hnc43 := NB210_234.out; have hnb44 := NB234_222.out; have hnc44 := NB222_234.out; have hnb45 := NB234_226.out; have hnc45 := NB226_234.out; have hcz46_0 : w41.cell? ⟨gb234, 0, none⟩ = some (.slice none 0 0) := bc BK234 0; have hfz46_0 := blk_frozen BK234.out 0))
   (try simp only [Act.put, zA, zB, zC])
   go_cut [51] (fun v51 wc => ∃ (kq : Nat) (x51_15 : Bool), v51 = .bool x51_15 ∧ Aside0 (laws_FnExactLoseDisk.j0 kq l1 t221 t227 t233 x51_15 l0_0 t218 t223 t230 = some r) ∧ Aside0 (kq ≤ k) ∧ Aside0 (Kd.R (Kd.int .i64) 3 wc w.heap.size (fun _ => True) (.slice Ao39 t227.length co39) t227) ∧ Aside0 (Kd.R k124 124 wc w.heap.size (fun k_ => some k_ ≠ ((.slice Ao33 t223.length co33) : Value).ownBlock ∧ some k_ ≠ ((.slice Ao42 t230.length co42) : Value).ownBlock) (.slice Ao27 t218.length co27) t218) ∧ Aside0 (Kd.R k124 124 wc w.heap.size (fun k_ => some k_ ≠ ((.slice Ao27 t218.length co27) : Value).ownBlock ∧ some k_ ≠ ((.slice Ao42 t230.length co42) : Value).ownBlock) (.slice Ao33 t223.length co33) t223) ∧ Aside0 (Kd.R k124 124 wc w.heap.size (fun k_ => some k_ ≠ ((.slice Ao27 t218.length co27) : Value).ownBlock ∧ some k_ ≠ ((.slice Ao33 t223.length co33) : Value).ownBlock) (.slice Ao42 t230.length co42) t230) ∧ Aside0 (wc.heap[gb210]? = some (.cells #[(.slice A0_0 l0_0.length c0_0)] 69 (0, 0))) ∧ Aside0 (wc.heap[gb222]? = some (.cells #[(.slice Ao27 t218.length co27)] 73 (0, 0))) ∧ Aside0 (wc.heap[gb226]? = some (.cells #[(.slice Ao33 t223.length co33)] 73 (0, 0))) ∧ Aside0 (wc.heap[gb234]? = some (.cells #[(.slice Ao42 t230.length co42)] 73 (0, 0))) ∧ Aside0 (Below w.heap.size w wc))
   case first =>
    have H := HC16.out
    clear HC16
    replace H := Option.bind_eq_some_iff.mp H
    obtain ⟨t235, A470, H⟩ := H
    replace H : (if t235 = true then (laws_FnExactLoseDisk.j0 k l1 t221 t227 t233 (t233 != t221) l0_0 t218 t223 t230) else (laws_FnExactLoseDisk.j0 k l1 t221 t227 t233 true l0_0 t218 t223 t230)) = some r := H
    have A47 := Aside0.mk A470
    clear A470
    by_cases c48 : t235 = true
    ·subst c48
     have H1 : (laws_FnExactLoseDisk.j0 k l1 t221 t227 t233 (t233 != t221) l0_0 t218 t223 t230) = some r := by rw [if_pos rfl] at H; exact H
     clear H
     have H := H1
     clear H1
     have H' := Aside0.mk H
     clear H
     have hnb49 := NB234_210.out
     have hnc49 := NB210_234.out
     have hnb50 := NB234_222.out
     have hnc50 := NB222_234.out
     have hnb51 := NB234_226.out
     have hnc51 := NB226_234.out
     have hcz52_0 : w41.cell? ⟨gb234, 0, none⟩ = some (.slice none 0 0) := bc BK234 0
     have hfz52_0 := blk_frozen BK234.out 0
     have hnb53 := NB222_210.out
     have hnc53 := NB210_222.out
     have hnb54 := NB222_226.out
     have hnc54 := NB226_222.out
     have hcz55_0 : w41.cell? ⟨gb222, 0, none⟩ = some (.slice Ao27 t218.length co27) := bc BK222 0
     have hfz55_0 := blk_frozen BK222.out 0
     go_wp2_with (first | ((with_reducible refine gate_callee (f := 40) rfl ?_); refine goesL_ (some 45) rfl rfl Try.func40 (by kernel_rfl) rfl #[.agg #[.slice Ao42 t230.length co42], .agg #[.slice Ao27 t218.length co27]] rfl (by (try simp only [List.map_toArray, List.map_cons, List.map_nil]); first | done | rfl | (simp only [List.length_drop, List.length_take]; rfl)) ?_; (with_reducible refine (laws_eqDisk.calls k _ _ t230 _ _ t218 true _ ?side1 ?side2 ?side3 ?side4 A47.out).mono ?_); (case side1 => refine (Kd.R_reads' (e := 124) (base := w.heap.size) (ok := fun k_ => (((True ∧ some k_ ≠ (.slice Ao23 t212.length co23 : Value).ownBlock) ∧ some k_ ≠ (.slice Ao27 t218.length co27 : Value).ownBlock) ∧ some k_ ≠ (.slice Ao33 t223.length co33 : Value).ownBlock)) (n := t230.length) (c := co42) ?_).2.2; exact (by (with_reducible repeat (first | apply Kd.R_alloc | apply Kd.R_drewN | apply Kd.R_drew)); exact (Kd.R_mono (Kd.R_far (p := ⟨gb234, 0, none⟩) (Kd.R_types HO232.out BK234.out (by decide)) (fun _ hk => hk.2) (.slice Ao42 t230.length co42)) (fun _ h_ => h_.1)))); (case side2 => exact (Kd.R_reads' HO232.out).2.1); (case side3 => refine (Kd.R_reads' (e := 124) (base := w.heap.size) (ok := fun k_ => (((True ∧ some k_ ≠ (.slice Ao23 t212.length co23 : Value).ownBlock) ∧ some k_ ≠ (.slice Ao33 t223.length co33 : Value).ownBlock) ∧ some k_ ≠ (.slice Ao42 t230.length co42 : Value).ownBlock)) (n := t218.length) (c := co27) ?_).2.2; exact (by (with_reducible repeat (first | apply Kd.R_alloc | apply Kd.R_drewN | apply Kd.R_drew)); exact (Kd.R_mono (Kd.R_far (p := ⟨gb234, 0, none⟩) (Kd.R_types HO220.out BK234.out (by decide)) (fun _ hk => hk.2) (.slice Ao42 t230.length co42)) (fun _ h_ => h_.1)))); (case side4 => exact (Kd.R_reads' HO220.out).2.1); rintro e w56 ⟨rfl, hb⟩; refine ⟨_, rfl, ?_⟩; have n0_ := Aside0.mk (Kd.R_below (by (with_reducible repeat (first | apply Kd.R_alloc | apply Kd.R_drewN | apply Kd.R_drew)); exact (Kd.R_mono (Kd.R_far (p := ⟨gb234, 0, none⟩) (Kd.R_types HO214.out BK234.out (by decide)) (fun _ hk => hk.2) (.slice Ao42 t230.length co42)) (fun _ h_ => h_.1))) hb); have n1_ := Aside0.mk (Kd.R_below (by (with_reducible repeat (first | apply Kd.R_alloc | apply Kd.R_drewN | apply Kd.R_drew)); exact (Kd.R_mono (Kd.R_far (p := ⟨gb234, 0, none⟩) (Kd.R_types HO217.out BK234.out (by decide)) (fun _ hk => hk.2) (.slice Ao42 t230.length co42)) (fun _ h_ => h_.1))) hb); have n2_ := Aside0.mk (Kd.R_below (by (with_reducible repeat (first | apply Kd.R_alloc | apply Kd.R_drewN | apply Kd.R_drew)); exact (Kd.R_mono (Kd.R_far (p := ⟨gb234, 0, none⟩) (Kd.R_types HO220.out BK234.out (by decide)) (fun _ hk => hk.2) (.slice Ao42 t230.length co42)) (fun _ h_ => h_.1))) hb); have n3_ := Aside0.mk (Kd.R_below (by (with_reducible repeat (first | apply Kd.R_alloc | apply Kd.R_drewN | apply Kd.R_drew)); exact (Kd.R_mono (Kd.R_far (p := ⟨gb234, 0, none⟩) (Kd.R_types HO225.out BK234.out (by decide)) (fun _ hk => hk.2) (.slice Ao42 t230.length co42)) (fun _ h_ => h_.1))) hb); have n4_ := Aside0.mk (Kd.R_below (by (with_reducible repeat (first | apply Kd.R_alloc | apply Kd.R_drewN | apply Kd.R_drew)); exact (Kd.R_mono (Kd.R_far (p := ⟨gb234, 0, none⟩) (Kd.R_types HO229.out BK234.out (by decide)) (fun _ hk => hk.2) (.slice Ao42 t230.length co42)) (fun _ h_ => h_.1))) hb); have n5_ := Aside0.mk (Kd.R_below (by (with_reducible repeat (first | apply Kd.R_alloc | apply Kd.R_drewN | apply Kd.R_drew)); exact (Kd.R_mono (Kd.R_far (p := ⟨gb234, 0, none⟩) (Kd.R_types HO232.out BK234.out (by decide)) (fun _ hk => hk.2) (.slice Ao42 t230.length co42)) (fun _ h_ => h_.1))) hb); have n6_ := Aside0.mk (blk_below (g := gb210) (o := .cells #[.slice A0_0 l0_0.length c0_0] 69 (0, 0)) (by refine bk_ ?_; refine blk_far ?_ NB210_234.out _; refine bk_ ?_; exact BK210.out) hb); have n7_ := Aside0.mk (blk_below (g := gb222) (o := .cells #[.slice Ao27 t218.length co27] 73 (0, 0)) (by refine bk_ ?_; refine blk_far ?_ NB222_234.out _; refine bk_ ?_; exact BK222.out) hb); have n8_ := Aside0.mk (blk_below (g := gb226) (o := .cells #[.slice Ao33 t223.length co33] 73 (0, 0)) (by refine bk_ ?_; refine blk_far ?_ NB226_234.out _; refine bk_ ?_; exact BK226.out) hb); have n9_ := Aside0.mk (blk_below (g := gb234) (o := .cells #[.slice Ao42 t230.length co42] 73 (0, 0)) (by refine bk_ ?_; refine blk_put (cs := #[.slice none 0 0]) ?_ 0 _ rfl; refine bk_ ?_; exact BK234.out) hb); have n10_ := Aside0.mk (below_step (bt HB) hb); clear HO214 HO217 HO220 HO225 HO229 HO232 BK210 BK222 BK226 BK234 HB; revert n0_ n1_ n2_ n3_ n4_ n5_ n6_ n7_ n8_ n9_ n10_; intro HO214 HO217 HO220 HO225 HO229 HO232 BK210 BK222 BK226 BK234 HB; (try clear hb); (try clear hb2); (try clear hk); (try clear hi)))
     go_meet
     case rel => exact ⟨_, ((t233 != t221)), (by first | rfl | (simp; done) | (simp [*]; done)), H', ⟨by first | omega | exact Nat.le_refl _⟩, ⟨by (with_reducible repeat (first | apply Kd.R_alloc | apply Kd.R_drewN | apply Kd.R_drew)); exact Kd.R_mono HO229.out (fun _ hk => trivial)⟩, ⟨by (with_reducible repeat (first | apply Kd.R_alloc | apply Kd.R_drewN | apply Kd.R_drew)); exact Kd.R_mono HO220.out (fun _ hk => ⟨hk.1.2, hk.2⟩)⟩, ⟨by (with_reducible repeat (first | apply Kd.R_alloc | apply Kd.R_drewN | apply Kd.R_drew)); exact Kd.R_mono HO225.out (fun _ hk => ⟨hk.1.2, hk.2⟩)⟩, ⟨by (with_reducible repeat (first | apply Kd.R_alloc | apply Kd.R_drewN | apply Kd.R_drew)); exact Kd.R_mono HO232.out (fun _ hk => ⟨hk.1.2, hk.2⟩)⟩, ⟨by refine bk_ ?_; exact BK210.out⟩, ⟨by refine bk_ ?_; exact BK222.out⟩, ⟨by refine bk_ ?_; exact BK226.out⟩, ⟨by refine bk_ ?_; exact BK234.out⟩, ⟨bt HB⟩⟩
    ·replace c48 := Bool.eq_false_iff.mpr c48
     subst c48
     have H1 : (laws_FnExactLoseDisk.j0 k l1 t221 t227 t233 true l0_0 t218 t223 t230) = some r := by rw [if_neg (show ¬ (false = true) by decide)] at H; exact H
     clear H
     have H := H1
     clear H1
     have H' := Aside0.mk H
     clear H
     have hnb57 := NB234_210.out
     have hnc57 := NB210_234.out
     have hnb58 := NB234_222.out
     have hnc58 := NB222_234.out
     have hnb59 := NB234_226.out
     have hnc59 := NB226_234.out
     have hcz60_0 : w41.cell? ⟨gb234, 0, none⟩ = some (.slice none 0 0) := bc BK234 0
     have hfz60_0 := blk_frozen BK234.out 0
     have hnb61 := NB222_210.out
     have hnc61 := NB210_222.out
     have hnb62 := NB222_226.out
     have hnc62 := NB226_222.out
     have hcz63_0 : w41.cell? ⟨gb222, 0, none⟩ = some (.slice Ao27 t218.length co27) := bc BK222 0
     have hfz63_0 := blk_frozen BK222.out 0
     go_wp2_with (first | ((with_reducible refine gate_callee (f := 40) rfl ?_); refine goesL_ (some 45) rfl rfl Try.func40 (by kernel_rfl) rfl #[.agg #[.slice Ao42 t230.length co42], .agg #[.slice Ao27 t218.length co27]] rfl (by (try simp only [List.map_toArray, List.map_cons, List.map_nil]); first | done | rfl | (simp only [List.length_drop, List.length_take]; rfl)) ?_; (with_reducible refine (laws_eqDisk.calls k _ _ t230 _ _ t218 false _ ?side1 ?side2 ?side3 ?side4 A47.out).mono ?_); (case side1 => refine (Kd.R_reads' (e := 124) (base := w.heap.size) (ok := fun k_ => (((True ∧ some k_ ≠ (.slice Ao23 t212.length co23 : Value).ownBlock) ∧ some k_ ≠ (.slice Ao27 t218.length co27 : Value).ownBlock) ∧ some k_ ≠ (.slice Ao33 t223.length co33 : Value).ownBlock)) (n := t230.length) (c := co42) ?_).2.2; exact (by (with_reducible repeat (first | apply Kd.R_alloc | apply Kd.R_drewN | apply Kd.R_drew)); exact (Kd.R_mono (Kd.R_far (p := ⟨gb234, 0, none⟩) (Kd.R_types HO232.out BK234.out (by decide)) (fun _ hk => hk.2) (.slice Ao42 t230.length co42)) (fun _ h_ => h_.1)))); (case side2 => exact (Kd.R_reads' HO232.out).2.1); (case side3 => refine (Kd.R_reads' (e := 124) (base := w.heap.size) (ok := fun k_ => (((True ∧ some k_ ≠ (.slice Ao23 t212.length co23 : Value).ownBlock) ∧ some k_ ≠ (.slice Ao33 t223.length co33 : Value).ownBlock) ∧ some k_ ≠ (.slice Ao42 t230.length co42 : Value).ownBlock)) (n := t218.length) (c := co27) ?_).2.2; exact (by (with_reducible repeat (first | apply Kd.R_alloc | apply Kd.R_drewN | apply Kd.R_drew)); exact (Kd.R_mono (Kd.R_far (p := ⟨gb234, 0, none⟩) (Kd.R_types HO220.out BK234.out (by decide)) (fun _ hk => hk.2) (.slice Ao42 t230.length co42)) (fun _ h_ => h_.1)))); (case side4 => exact (Kd.R_reads' HO220.out).2.1); rintro e w64 ⟨rfl, hb⟩; refine ⟨_, rfl, ?_⟩; have n0_ := Aside0.mk (Kd.R_below (by (with_reducible repeat (first | apply Kd.R_alloc | apply Kd.R_drewN | apply Kd.R_drew)); exact (Kd.R_mono (Kd.R_far (p := ⟨gb234, 0, none⟩) (Kd.R_types HO214.out BK234.out (by decide)) (fun _ hk => hk.2) (.slice Ao42 t230.length co42)) (fun _ h_ => h_.1))) hb); have n1_ := Aside0.mk (Kd.R_below (by (with_reducible repeat (first | apply Kd.R_alloc | apply Kd.R_drewN | apply Kd.R_drew)); exact (Kd.R_mono (Kd.R_far (p := ⟨gb234, 0, none⟩) (Kd.R_types HO217.out BK234.out (by decide)) (fun _ hk => hk.2) (.slice Ao42 t230.length co42)) (fun _ h_ => h_.1))) hb); have n2_ := Aside0.mk (Kd.R_below (by (with_reducible repeat (first | apply Kd.R_alloc | apply Kd.R_drewN | apply Kd.R_drew)); exact (Kd.R_mono (Kd.R_far (p := ⟨gb234, 0, none⟩) (Kd.R_types HO220.out BK234.out (by decide)) (fun _ hk => hk.2) (.slice Ao42 t230.length co42)) (fun _ h_ => h_.1))) hb); have n3_ := Aside0.mk (Kd.R_below (by (with_reducible repeat (first | apply Kd.R_alloc | apply Kd.R_drewN | apply Kd.R_drew)); exact (Kd.R_mono (Kd.R_far (p := ⟨gb234, 0, none⟩) (Kd.R_types HO225.out BK234.out (by decide)) (fun _ hk => hk.2) (.slice Ao42 t230.length co42)) (fun _ h_ => h_.1))) hb); have n4_ := Aside0.mk (Kd.R_below (by (with_reducible repeat (first | apply Kd.R_alloc | apply Kd.R_drewN | apply Kd.R_drew)); exact (Kd.R_mono (Kd.R_far (p := ⟨gb234, 0, none⟩) (Kd.R_types HO229.out BK234.out (by decide)) (fun _ hk => hk.2) (.slice Ao42 t230.length co42)) (fun _ h_ => h_.1))) hb); have n5_ := Aside0.mk (Kd.R_below (by (with_reducible repeat (first | apply Kd.R_alloc | apply Kd.R_drewN | apply Kd.R_drew)); exact (Kd.R_mono (Kd.R_far (p := ⟨gb234, 0, none⟩) (Kd.R_types HO232.out BK234.out (by decide)) (fun _ hk => hk.2) (.slice Ao42 t230.length co42)) (fun _ h_ => h_.1))) hb); have n6_ := Aside0.mk (blk_below (g := gb210) (o := .cells #[.slice A0_0 l0_0.length c0_0] 69 (0, 0)) (by refine bk_ ?_; refine blk_far ?_ NB210_234.out _; refine bk_ ?_; exact BK210.out) hb); have n7_ := Aside0.mk (blk_below (g := gb222) (o := .cells #[.slice Ao27 t218.length co27] 73 (0, 0)) (by refine bk_ ?_; refine blk_far ?_ NB222_234.out _; refine bk_ ?_; exact BK222.out) hb); have n8_ := Aside0.mk (blk_below (g := gb226) (o := .cells #[.slice Ao33 t223.length co33] 73 (0, 0)) (by refine bk_ ?_; refine blk_far ?_ NB226_234.out _; refine bk_ ?_; exact BK226.out) hb); have n9_ := Aside0.mk (blk_below (g := gb234) (o := .cells #[.slice Ao42 t230.length co42] 73 (0, 0)) (by refine bk_ ?_; refine blk_put (cs := #[.slice none 0 0]) ?_ 0 _ rfl; refine bk_ ?_; exact BK234.out) hb); have n10_ := Aside0.mk (below_step (bt HB) hb); clear HO214 HO217 HO220 HO225 HO229 HO232 BK210 BK222 BK226 BK234 HB; revert n0_ n1_ n2_ n3_ n4_ n5_ n6_ n7_ n8_ n9_ n10_; intro HO214 HO217 HO220 HO225 HO229 HO232 BK210 BK222 BK226 BK234 HB; (try clear hb); (try clear hb2); (try clear hk); (try clear hi)))
     go_meet
     case rel => exact ⟨_, (true), (by first | rfl | (simp; done) | (simp [*]; done)), H', ⟨by first | omega | exact Nat.le_refl _⟩, ⟨by (with_reducible repeat (first | apply Kd.R_alloc | apply Kd.R_drewN | apply Kd.R_drew)); exact Kd.R_mono HO229.out (fun _ hk => trivial)⟩, ⟨by (with_reducible repeat (first | apply Kd.R_alloc | apply Kd.R_drewN | apply Kd.R_drew)); exact Kd.R_mono HO220.out (fun _ hk => ⟨hk.1.2, hk.2⟩)⟩, ⟨by (with_reducible repeat (first | apply Kd.R_alloc | apply Kd.R_drewN | apply Kd.R_drew)); exact Kd.R_mono HO225.out (fun _ hk => ⟨hk.1.2, hk.2⟩)⟩, ⟨by (with_reducible repeat (first | apply Kd.R_alloc | apply Kd.R_drewN | apply Kd.R_drew)); exact Kd.R_mono HO232.out (fun _ hk => ⟨hk.1.2, hk.2⟩)⟩, ⟨by refine bk_ ?_; exact BK210.out⟩, ⟨by refine bk_ ?_; exact BK222.out⟩, ⟨by refine bk_ ?_; exact BK226.out⟩, ⟨by refine bk_ ?_; exact BK234.out⟩, ⟨bt HB⟩⟩
   case rest =>
    clear HC16
    try clear c1
    try clear c2
    try clear p2
    try clear c3
    try clear c3b0
    try clear c3b1
    try clear c4
    try clear c5
    try clear c6
    try clear c6b0
    try clear c8
    try clear c28
    try clear c34
    try clear c35
    try clear c36
    try clear c37
    try clear c38
    try clear c39
    try clear c40
    try clear c43
    try clear c44
    try clear c45
    try clear c48
    try clear c49
    try clear c50
    try clear c51
    try clear c53
    try clear c54
    try clear c57
    try clear c58
    try clear c59
    try clear c61
    try clear c62
    try clear hcz18_0
    try clear hcz20_0
    try clear hcz29_0
    try clear hcz30_0
    try clear hcz36_0
    try clear hcz38_0
    try clear hcz46_0
    try clear hcz52_0
    try clear hcz55_0
    try clear hcz60_0
    try clear hcz63_0
    try clear hcz8_0
    try clear hfz18_0
    try clear hfz20_0
    try clear hfz29_0
    try clear hfz30_0
    try clear hfz36_0
    try clear hfz38_0
    try clear hfz46_0
    try clear hfz52_0
    try clear hfz55_0
    try clear hfz60_0
    try clear hfz63_0
    try clear hfz8_0
    obtain ⟨kq, x51_15, rfl, HA, HJ15, HO_9, HO_223000, HO_227000, HO_235000, BK210, BK222, BK226, BK234, HB⟩ := hcut
    cases kq with
    | zero => exact absurd HA.out (by simp [laws_FnExactLoseDisk.j0])
    | succ kj15 =>
     have H := HA.out
     clear HA
     simp only [laws_FnExactLoseDisk.j0] at H
     by_cases c65 : x51_15 = true
     ·subst c65
      have H1 : (some false) = some r := by rw [if_pos rfl] at H; exact H
      clear H
      have H := H1
      clear H1
      obtain rfl := Option.some.inj H
      go_wp2
      go_ret
      exact ⟨by first | rfl | (simp [errW_none, errW_some] <;> rfl) | (simp [*, errW_none, errW_some] <;> rfl), bt HB⟩
     ·replace c65 := Bool.eq_false_iff.mpr c65
      subst c65
      have H1 : ((laws_toDisk.f kj15 l0_0).bind fun t236 => ((laws_eqDisk.f kj15 t223 t236).bind fun t239 => (if t239 = true then ((laws_toIntS.f kj15 l1).bind fun t240 => ((laws_eqIntS.f kj15 t227 t240).bind fun t243 => (if t243 = true then ((laws_markDisk.f kj15 t223 1).bind fun bt244 => ((laws_markIntS.f kj15 t227 bt244.1).bind fun bt246 => (if bt246.1 < 0 then (laws_FnExactLoseDisk.j1 kj15 l1 t221 true l0_0 t218 t230) else ((laws_eqDisk.f kj15 t230 t218).bind fun t248 => (if t248 = true then (laws_FnExactLoseDisk.j1 kj15 l1 t221 (t233 != t221) l0_0 t218 t230) else (laws_FnExactLoseDisk.j1 kj15 l1 t221 true l0_0 t218 t230)))))) else (some false)))) else (some false)))) = some r := by rw [if_neg (show ¬ (false = true) by decide)] at H; exact H
      clear H
      have H := H1
      clear H1
      replace H := Option.bind_eq_some_iff.mp H
      obtain ⟨t236, A660, H⟩ := H
      replace H : ((laws_eqDisk.f kj15 t223 t236).bind fun t239 => (if t239 = true then ((laws_toIntS.f kj15 l1).bind fun t240 => ((laws_eqIntS.f kj15 t227 t240).bind fun t243 => (if t243 = true then ((laws_markDisk.f kj15 t223 1).bind fun bt244 => ((laws_markIntS.f kj15 t227 bt244.1).bind fun bt246 => (if bt246.1 < 0 then (laws_FnExactLoseDisk.j1 kj15 l1 t221 true l0_0 t218 t230) else ((laws_eqDisk.f kj15 t230 t218).bind fun t248 => (if t248 = true then (laws_FnExactLoseDisk.j1 kj15 l1 t221 (t233 != t221) l0_0 t218 t230) else (laws_FnExactLoseDisk.j1 kj15 l1 t221 true l0_0 t218 t230)))))) else (some false)))) else (some false))) = some r := H
      have A66 := Aside0.mk A660
      clear A660
      replace H := Option.bind_eq_some_iff.mp H
      obtain ⟨t239, A670, H⟩ := H
      replace H : (if t239 = true then ((laws_toIntS.f kj15 l1).bind fun t240 => ((laws_eqIntS.f kj15 t227 t240).bind fun t243 => (if t243 = true then ((laws_markDisk.f kj15 t223 1).bind fun bt244 => ((laws_markIntS.f kj15 t227 bt244.1).bind fun bt246 => (if bt246.1 < 0 then (laws_FnExactLoseDisk.j1 kj15 l1 t221 true l0_0 t218 t230) else ((laws_eqDisk.f kj15 t230 t218).bind fun t248 => (if t248 = true then (laws_FnExactLoseDisk.j1 kj15 l1 t221 (t233 != t221) l0_0 t218 t230) else (laws_FnExactLoseDisk.j1 kj15 l1 t221 true l0_0 t218 t230)))))) else (some false)))) else (some false)) = some r := H
      have A67 := Aside0.mk A670
      clear A670
      by_cases c68 : t239 = true
      ·subst c68
       have H1 : ((laws_toIntS.f kj15 l1).bind fun t240 => ((laws_eqIntS.f kj15 t227 t240).bind fun t243 => (if t243 = true then ((laws_markDisk.f kj15 t223 1).bind fun bt244 => ((laws_markIntS.f kj15 t227 bt244.1).bind fun bt246 => (if bt246.1 < 0 then (laws_FnExactLoseDisk.j1 kj15 l1 t221 true l0_0 t218 t230) else ((laws_eqDisk.f kj15 t230 t218).bind fun t248 => (if t248 = true then (laws_FnExactLoseDisk.j1 kj15 l1 t221 (t233 != t221) l0_0 t218 t230) else (laws_FnExactLoseDisk.j1 kj15 l1 t221 true l0_0 t218 t230)))))) else (some false)))) = some r := by rw [if_pos rfl] at H; exact H
       clear H
       have H := H1
       clear H1
       replace H := Option.bind_eq_some_iff.mp H
       obtain ⟨t240, A690, H⟩ := H
       replace H : ((laws_eqIntS.f kj15 t227 t240).bind fun t243 => (if t243 = true then ((laws_markDisk.f kj15 t223 1).bind fun bt244 => ((laws_markIntS.f kj15 t227 bt244.1).bind fun bt246 => (if bt246.1 < 0 then (laws_FnExactLoseDisk.j1 kj15 l1 t221 true l0_0 t218 t230) else ((laws_eqDisk.f kj15 t230 t218).bind fun t248 => (if t248 = true then (laws_FnExactLoseDisk.j1 kj15 l1 t221 (t233 != t221) l0_0 t218 t230) else (laws_FnExactLoseDisk.j1 kj15 l1 t221 true l0_0 t218 t230)))))) else (some false))) = some r := H
       have A69 := Aside0.mk A690
       clear A690
       replace H := Option.bind_eq_some_iff.mp H
       obtain ⟨t243, A700, H⟩ := H
       replace H : (if t243 = true then ((laws_markDisk.f kj15 t223 1).bind fun bt244 => ((laws_markIntS.f kj15 t227 bt244.1).bind fun bt246 => (if bt246.1 < 0 then (laws_FnExactLoseDisk.j1 kj15 l1 t221 true l0_0 t218 t230) else ((laws_eqDisk.f kj15 t230 t218).bind fun t248 => (if t248 = true then (laws_FnExactLoseDisk.j1 kj15 l1 t221 (t233 != t221) l0_0 t218 t230) else (laws_FnExactLoseDisk.j1 kj15 l1 t221 true l0_0 t218 t230)))))) else (some false)) = some r := H
       have A70 := Aside0.mk A700
       clear A700
       by_cases c71 : t243 = true
       ·subst c71
        have H1 : ((laws_markDisk.f kj15 t223 1).bind fun bt244 => ((laws_markIntS.f kj15 t227 bt244.1).bind fun bt246 => (if bt246.1 < 0 then (laws_FnExactLoseDisk.j1 kj15 l1 t221 true l0_0 t218 t230) else ((laws_eqDisk.f kj15 t230 t218).bind fun t248 => (if t248 = true then (laws_FnExactLoseDisk.j1 kj15 l1 t221 (t233 != t221) l0_0 t218 t230) else (laws_FnExactLoseDisk.j1 kj15 l1 t221 true l0_0 t218 t230)))))) = some r := by rw [if_pos rfl] at H; exact H
        clear H
        have H := H1
        clear H1
        replace H := Option.bind_eq_some_iff.mp H
        obtain ⟨⟨t244, t245⟩, A720, H⟩ := H
        replace H : ((laws_markIntS.f kj15 t227 t244).bind fun bt246 => (if bt246.1 < 0 then (laws_FnExactLoseDisk.j1 kj15 l1 t221 true l0_0 t218 t230) else ((laws_eqDisk.f kj15 t230 t218).bind fun t248 => (if t248 = true then (laws_FnExactLoseDisk.j1 kj15 l1 t221 (t233 != t221) l0_0 t218 t230) else (laws_FnExactLoseDisk.j1 kj15 l1 t221 true l0_0 t218 t230))))) = some r := H
        have A72 := Aside0.mk A720
        clear A720
        replace H := Option.bind_eq_some_iff.mp H
        obtain ⟨⟨t246, t247⟩, A730, H⟩ := H
        replace H : (if t246 < 0 then (laws_FnExactLoseDisk.j1 kj15 l1 t221 true l0_0 t218 t230) else ((laws_eqDisk.f kj15 t230 t218).bind fun t248 => (if t248 = true then (laws_FnExactLoseDisk.j1 kj15 l1 t221 (t233 != t221) l0_0 t218 t230) else (laws_FnExactLoseDisk.j1 kj15 l1 t221 true l0_0 t218 t230)))) = some r := H
        have A73 := Aside0.mk A730
        clear A730
        have HC74 := Aside0.mk H
        clear H
        try go_wp2
        have n0_ := Aside0.mk (Kd.R_drew HO_9.out)
        have n1_ := Aside0.mk (Kd.R_drew HO_223000.out)
        have n2_ := Aside0.mk (Kd.R_drew HO_227000.out)
        have n3_ := Aside0.mk (Kd.R_drew HO_235000.out)
        have n4_ := Aside0.mk (blk_drew BK210.out)
        have n5_ := Aside0.mk (blk_drew BK222.out)
        have n6_ := Aside0.mk (blk_drew BK226.out)
        have n7_ := Aside0.mk (blk_drew BK234.out)
        have n8_ := Aside0.mk (below_drew1 HB.out)
        clear HO_9 HO_223000 HO_227000 HO_235000 BK210 BK222 BK226 BK234 HB
        revert n0_ n1_ n2_ n3_ n4_ n5_ n6_ n7_ n8_
        intro HO_9 HO_223000 HO_227000 HO_235000 BK210 BK222 BK226 BK234 HB
        refine start_ (n := 5) (S := fun w' => w'.cell? ⟨gb226, 0, none⟩ = some (.slice Ao33 t223.length co33) ∧ w'.cell? ⟨gb210, 0, none⟩ = some (.slice A0_0 l0_0.length c0_0)) (ds := []) #[false, false, false, false, false] (by kernel_rfl) rfl rfl ⟨bc BK226 0, bc BK210 0⟩ (fun hHeld => ?_)
        generalize wc.drew = w75 at HO_9 HO_223000 HO_227000 HO_235000 BK210 BK222 BK226 BK234 HB hHeld ⊢
        refine take_ (i := 0) (N := some 52) (v := ?_) (a' := ?_) #[true, false, false, false, false] rfl rfl (by kernel_rfl) (fun _ _ _ h => h) (Or.inl ⟨by rfl, ?_⟩) hHeld ?_ ?_
        rotate_left
        ·rintro w' ⟨s0, s1⟩
         go_simp
         with_reducible rfl
        rotate_left
        ·simp only [Act.put, zA, zB, zC, i64_w, i32_w]
         rfl
        refine take_ (i := 1) (N := some 53) (v := ?_) (a' := ?_) #[true, true, false, false, false] rfl rfl (by kernel_rfl) (fun _ _ _ h => h) (Or.inl ⟨by rfl, ?_⟩) hHeld ?_ ?_
        rotate_left
        ·rintro w' ⟨s0, s1⟩
         go_simp
         with_reducible rfl
        rotate_left
        ·simp only [Act.put, zA, zB, zC, i64_w, i32_w]
         rfl
        refine one_ (i := 2) (N := some 54) #[true, true, true, false, false] rfl rfl (by kernel_rfl) (by decide) (fun K hK => ?_)
        refine goes_ Try.func37 (by kernel_rfl) rfl #[.agg #[.slice A0_0 l0_0.length c0_0]] (by rfl) rfl rfl (by (try simp only [List.map_toArray, List.map_cons, List.map_nil]); first | done | rfl | (simp only [List.length_drop, List.length_take]; rfl)) ?_
        with_reducible refine (laws_toDisk.calls kj15 _ _ l0_0 t236 _ ?side1 ?side2 A66.out).mono ?_
        (case side1 => repeat (first | exact (Kd.C_below HR0_0.out HB.out) | (with_reducible refine Kd.C_alloc ?_ _) | (with_reducible refine Kd.C_drewN ?_ _) | (with_reducible refine Kd.C_drew ?_)))
        (case side2 => exact HC0_0.out)
        rintro e w76 ⟨v237, rfl, ho0, hb⟩
        refine ⟨_, rfl, ?_⟩
        have n0_ := rb HO_9 hb
        have n1_ := Aside0.mk (Kd.R_elder' (rk HO_223000) (Kd.R_base ho0) hb)
        have n2_ := Aside0.mk (Kd.R_elder' (rk HO_227000) (Kd.R_base ho0) hb)
        have n3_ := Aside0.mk (Kd.R_elder' (rk HO_235000) (Kd.R_base ho0) hb)
        have n4_ := Aside0.mk (Kd.R_lower (Kd.R_new' (Kd.R_new' (Kd.R_new' ho0 (Kd.R_lt (rk HO_223000))) (Kd.R_lt (rk HO_227000))) (Kd.R_lt (rk HO_235000))) (below_size (bt HB)))
        have n5_ := bb BK210 hb
        have n6_ := bb BK222 hb
        have n7_ := bb BK226 hb
        have n8_ := bb BK234 hb
        have n9_ := Aside0.mk (below_step (bt HB) hb)
        clear HO_9 HO_223000 HO_227000 HO_235000 BK210 BK222 BK226 BK234 HB
        revert n0_ n1_ n2_ n3_ n4_ n5_ n6_ n7_ n8_ n9_
        intro HO_9 HO_223000 HO_227000 HO_235000 HO238 BK210 BK222 BK226 BK234 HB
        (try clear hb)
        (try clear hb2)
        (try clear hk)
        (try clear hi)
        (try clear ho0)
        obtain ⟨Ao77, co77, eo77⟩ := Kd.R_slice HO238.out
        (first | subst eo77 | (injection eo77 with f1_ f2_ f3_; have f4_ := f1_.symm; have f5_ := f3_.symm; clear f1_ f2_ f3_; subst f4_; subst f5_))
        refine hK.out _ _ ⟨bc BK226 0, bc BK210 0⟩ (fun hHeld => ?_)
        clear hK K
        refine norm_ (a' := ?_) ?_ ?_
        rotate_left
        ·show Act.put _ (some 54) _ = _
         simp only [Act.put, zA, zB, zC, i64_w, i32_w]
         rfl
        refine one_ (i := 3) (N := some 55) #[true, true, true, true, false] rfl rfl (by kernel_rfl) (by decide) (fun K hK => ?_)
        refine goes_ Try.func40 (by kernel_rfl) rfl #[.agg #[.slice Ao33 t223.length co33], .agg #[.slice Ao77 t236.length co77]] (by rfl) rfl rfl (by (try simp only [List.map_toArray, List.map_cons, List.map_nil]); first | done | rfl | (simp only [List.length_drop, List.length_take]; rfl)) ?_
        with_reducible refine (laws_eqDisk.calls kj15 _ _ t223 _ _ t236 true _ ?side1 ?side2 ?side3 ?side4 A67.out).mono ?_
        (case side1 => repeat (first | exact (Kd.R_reads' HO_227000.out).2.2 | (with_reducible refine Kd.C_alloc ?_ _) | (with_reducible refine Kd.C_drewN ?_ _) | (with_reducible refine Kd.C_drew ?_)))
        (case side2 => exact (Kd.R_reads' HO_227000.out).2.1)
        (case side3 => repeat (first | exact (Kd.R_reads' HO238.out).2.2 | (with_reducible refine Kd.C_alloc ?_ _) | (with_reducible refine Kd.C_drewN ?_ _) | (with_reducible refine Kd.C_drew ?_)))
        (case side4 => exact (Kd.R_reads' HO238.out).2.1)
        rintro e w78 ⟨rfl, hb⟩
        refine ⟨_, rfl, ?_⟩
        have n0_ := rb HO_9 hb
        have n1_ := rb HO_223000 hb
        have n2_ := rb HO_227000 hb
        have n3_ := rb HO_235000 hb
        have n4_ := rb HO238 hb
        have n5_ := bb BK210 hb
        have n6_ := bb BK222 hb
        have n7_ := bb BK226 hb
        have n8_ := bb BK234 hb
        have n9_ := Aside0.mk (below_step (bt HB) hb)
        clear HO_9 HO_223000 HO_227000 HO_235000 HO238 BK210 BK222 BK226 BK234 HB
        revert n0_ n1_ n2_ n3_ n4_ n5_ n6_ n7_ n8_ n9_
        intro HO_9 HO_223000 HO_227000 HO_235000 HO238 BK210 BK222 BK226 BK234 HB
        (try clear hb)
        (try clear hb2)
        (try clear hk)
        (try clear hi)
        refine hK.out _ _ ⟨bc BK226 0, bc BK210 0⟩ (fun hHeld => ?_)
        clear hK K
        refine norm_ (a' := ?_) ?_ ?_
        rotate_left
        ·show Act.put _ (some 55) _ = _
         simp only [Act.put, zA, zB, zC, i64_w, i32_w]
         rfl
        refine pure_ (i := 4) (N := some 56) (v := ?_) (a' := ?_) #[true, true, true, true, true] rfl rfl (by kernel_rfl) (fun _ _ _ h => h) (Or.inl ⟨by rfl, ?_⟩) ?_ ?_
        rotate_left
        ·intro w'
         go_simp
         with_reducible rfl
        rotate_left
        ·simp only [Act.put, zA, zB, zC, i64_w, i32_w]
         rfl
        refine done_ (by kernel_rfl) ?_
        go_upto_region 20 with (first | ((with_reducible refine gate_callee (f := 38) rfl ?_); refine goesL_ (some 59) rfl rfl Try.func38 (by kernel_rfl) rfl #[.slice A1 l1.length c1] rfl (by (try simp only [List.map_toArray, List.map_cons, List.map_nil]); first | done | rfl | (simp only [List.length_drop, List.length_take]; rfl)) ?_; (with_reducible refine (laws_toIntS.calls kj15 _ _ l1 t240 _ ?side1 ?side2 A69.out).mono ?_); (case side1 => repeat (first | exact (Kd.C_below HR1.out HB.out) | (with_reducible refine Kd.C_alloc ?_ _) | (with_reducible refine Kd.C_drewN ?_ _) | (with_reducible refine Kd.C_drew ?_))); (case side2 => exact HC1.out); rintro e w79 ⟨v241, rfl, ho0, hb⟩; refine ⟨_, rfl, ?_⟩; have n0_ := Aside0.mk (Kd.R_elder' (rk HO_9) (Kd.R_base ho0) hb); have n1_ := rb HO_223000 hb; have n2_ := rb HO_227000 hb; have n3_ := rb HO_235000 hb; have n4_ := rb HO238 hb; have n5_ := Aside0.mk (Kd.R_lower (Kd.R_new' ho0 (Kd.R_lt (rk HO_9))) (below_size (bt HB))); have n6_ := bb BK210 hb; have n7_ := bb BK222 hb; have n8_ := bb BK226 hb; have n9_ := bb BK234 hb; have n10_ := Aside0.mk (below_step (bt HB) hb); clear HO_9 HO_223000 HO_227000 HO_235000 HO238 BK210 BK222 BK226 BK234 HB; revert n0_ n1_ n2_ n3_ n4_ n5_ n6_ n7_ n8_ n9_ n10_; intro HO_9 HO_223000 HO_227000 HO_235000 HO238 HO242 BK210 BK222 BK226 BK234 HB; (try clear hb); (try clear hb2); (try clear hk); (try clear hi); (try clear ho0); obtain ⟨Ao80, co80, eo80⟩ := Kd.R_slice HO242.out; subst eo80) | ((with_reducible refine gate_callee (f := 41) rfl ?_); refine goesL_ (some 60) rfl rfl Try.func41 (by kernel_rfl) rfl #[.slice Ao39 t227.length co39, .slice Ao80 t240.length co80] rfl (by (try simp only [List.map_toArray, List.map_cons, List.map_nil]); first | done | rfl | (simp only [List.length_drop, List.length_take]; rfl)) ?_; (with_reducible refine (laws_eqIntS.calls kj15 _ _ t227 _ _ t240 true _ ?side1 ?side2 ?side3 ?side4 A70.out).mono ?_); (case side1 => repeat (first | exact (Kd.R_reads' HO_9.out).2.2 | (with_reducible refine Kd.C_alloc ?_ _) | (with_reducible refine Kd.C_drewN ?_ _) | (with_reducible refine Kd.C_drew ?_))); (case side2 => exact (Kd.R_reads' HO_9.out).2.1); (case side3 => repeat (first | exact (Kd.R_reads' HO242.out).2.2 | (with_reducible refine Kd.C_alloc ?_ _) | (with_reducible refine Kd.C_drewN ?_ _) | (with_reducible refine Kd.C_drew ?_))); (case side4 => exact (Kd.R_reads' HO242.out).2.1); rintro e w' ⟨rfl, ⟨nd, rfl⟩⟩; refine ⟨_, rfl, ?_⟩; have hnb81 := NB226_210.out; have hnc81 := NB210_226.out; have hnb82 := NB226_222.out; have hnc82 := NB222_226.out; have hnb83 := NB226_234.out; have hnc83 := NB234_226.out; have hcz84_0 : w79.cell? ⟨gb226, 0, none⟩ = some (.slice Ao33 t223.length co33) := bc BK226 0; have hfz84_0 := blk_frozen BK226.out 0) | ((with_reducible refine gate_callee (f := 42) rfl ?_); refine goesL_ (some 64) rfl rfl Try.func42 (by kernel_rfl) rfl #[.agg #[.slice Ao33 t223.length co33], .int .i64 1] rfl (by (try simp only [List.map_toArray, List.map_cons, List.map_nil]); first | done | rfl | (simp only [List.length_drop, List.length_take]; rfl)) ?_; (with_reducible refine (laws_markDisk.calls kj15 (fun k_ => some k_ = (.slice Ao33 t223.length co33 : Value).ownBlock) (.slice Ao33 t223.length co33) t223 1 t244 t245 w _ ?side1 ?side2 A72.out).mono ?_); (case side1 => repeat (first | (with_reducible first | exact HB.out | apply below_alloc | apply pw_below_drewN | apply below_drew1 | refine below_set ?_ GE210.out | refine below_set ?_ GE222.out | refine below_set ?_ GE226.out | refine below_set ?_ GE234.out) | exact HB.out)); (case side2 => exact Kd.R_tight rfl HO_227000.out); rintro e w85 ⟨rfl, hy0, hb, hkp⟩; refine ⟨_, rfl, ?_⟩; have n0_ := Aside0.mk (Kd.R_mono (ok' := fun k_ => some k_ ≠ (.slice Ao80 t240.length co80 : Value).ownBlock) (Kd.R_keptB ((Kd.R_apart' HO_9.out (Kd.R_typed HO_227000.out) (by decide))) hkp (fun k_ hk_ hs_ => (hk_.2) hs_)) (fun k_ hk_ => hk_.1.1.2)); have n1_ := Aside0.mk (Kd.R_mono (ok' := fun k_ => some k_ ≠ (.slice Ao33 t223.length co33 : Value).ownBlock ∧ some k_ ≠ (.slice Ao42 t230.length co42 : Value).ownBlock ∧ some k_ ≠ (.slice Ao77 t236.length co77 : Value).ownBlock) (Kd.R_keptB (HO_223000.out) hkp (fun k_ hk_ hs_ => (hk_.1.1) hs_)) (fun k_ hk_ => ⟨hk_.1.1.1, hk_.1.1.2, hk_.1.2⟩)); have n2_ := Aside0.mk (Kd.R_reok rfl hy0 (fun k_ e_ => HO_227000.out.1 k_ e_)); have n3_ := Aside0.mk (Kd.R_mono (ok' := fun k_ => some k_ ≠ (.slice Ao27 t218.length co27 : Value).ownBlock ∧ some k_ ≠ (.slice Ao33 t223.length co33 : Value).ownBlock ∧ some k_ ≠ (.slice Ao77 t236.length co77 : Value).ownBlock) (Kd.R_keptB (HO_235000.out) hkp (fun k_ hk_ hs_ => (hk_.1.2) hs_)) (fun k_ hk_ => ⟨hk_.1.1.1, hk_.1.1.2, hk_.1.2⟩)); have n4_ := Aside0.mk (blk_kept (bk BK210) hkp (fun hs_ => (fun e_ => (Kd.R_ne HO_227000.out BK210.out (by decide)) e_) hs_)); have n5_ := Aside0.mk (blk_kept (bk BK222) hkp (fun hs_ => (fun e_ => (Kd.R_ne HO_227000.out BK222.out (by decide)) e_) hs_)); have n6_ := Aside0.mk (blk_kept (bk BK226) hkp (fun hs_ => (fun e_ => (Kd.R_ne HO_227000.out BK226.out (by decide)) e_) hs_)); have n7_ := Aside0.mk (blk_kept (bk BK234) hkp (fun hs_ => (fun e_ => (Kd.R_ne HO_227000.out BK234.out (by decide)) e_) hs_)); have n8_ := Aside0.mk (Kd.R_mono (ok' := fun k_ => some k_ ≠ (.slice Ao27 t218.length co27 : Value).ownBlock ∧ some k_ ≠ (.slice Ao33 t223.length co33 : Value).ownBlock ∧ some k_ ≠ (.slice Ao42 t230.length co42 : Value).ownBlock) (Kd.R_keptB (HO238.out) hkp (fun k_ hk_ hs_ => (hk_.1.2) hs_)) (fun k_ hk_ => ⟨hk_.1.1.1.2, hk_.1.1.2, hk_.1.2⟩)); have n9_ := Aside0.mk (Kd.R_mono (ok' := fun k_ => some k_ ≠ (.slice Ao39 t227.length co39 : Value).ownBlock) (Kd.R_keptB ((Kd.R_apart' HO242.out (Kd.R_typed HO_227000.out) (by decide))) hkp (fun k_ hk_ hs_ => (hk_.2) hs_)) (fun k_ hk_ => hk_.1.1.2)); have n10_ := Aside0.mk (hb); clear HO_9 HO_223000 HO_227000 HO_235000 BK210 BK222 BK226 BK234 HO238 HO242 HB; revert n0_ n1_ n2_ n3_ n4_ n5_ n6_ n7_ n8_ n9_ n10_; intro HO_9 HO_223000 HO_227000 HO_235000 BK210 BK222 BK226 BK234 HO238 HO242 HB; (try clear hb); (try clear hkp); (try clear hy0)) | ((with_reducible refine gate_callee (f := 43) rfl ?_); refine goesL_ (some 67) rfl rfl Try.func43 (by kernel_rfl) rfl #[.slice Ao39 t227.length co39, .int .i64 t244] rfl (by (try simp only [List.map_toArray, List.map_cons, List.map_nil]); first | done | rfl | (simp only [List.length_drop, List.length_take]; rfl)) ?_; (with_reducible refine (laws_markIntS.calls kj15 (fun k_ => some k_ = (.slice Ao39 t227.length co39 : Value).ownBlock) (.slice Ao39 t227.length co39) t227 t244 t246 t247 w _ ?side1 ?side2 A73.out).mono ?_); (case side1 => repeat (first | (with_reducible first | exact HB.out | apply below_alloc | apply pw_below_drewN | apply below_drew1 | refine below_set ?_ GE210.out | refine below_set ?_ GE222.out | refine below_set ?_ GE226.out | refine below_set ?_ GE234.out) | exact HB.out)); (case side2 => exact Kd.R_tight rfl HO_9.out); rintro e w86 ⟨rfl, hy0, hb, hkp⟩; refine ⟨_, rfl, ?_⟩; have n0_ := Aside0.mk (Kd.R_reok rfl hy0 (fun k_ e_ => HO_9.out.1 k_ e_)); have n1_ := Aside0.mk (Kd.R_mono (ok' := fun k_ => some k_ ≠ (.slice Ao33 t223.length co33 : Value).ownBlock ∧ some k_ ≠ (.slice Ao42 t230.length co42 : Value).ownBlock ∧ some k_ ≠ (.slice Ao77 t236.length co77 : Value).ownBlock) (Kd.R_keptB ((Kd.R_apart' HO_223000.out (Kd.R_typed HO_9.out) (by decide))) hkp (fun k_ hk_ hs_ => (hk_.2) hs_)) (fun k_ hk_ => ⟨hk_.1.1.1, hk_.1.1.2.1, hk_.1.1.2.2⟩)); have n2_ := Aside0.mk (Kd.R_mono (ok' := fun k_ => some k_ ≠ (.slice Ao27 t218.length co27 : Value).ownBlock ∧ some k_ ≠ (.slice Ao42 t230.length co42 : Value).ownBlock ∧ some k_ ≠ (.slice Ao77 t236.length co77 : Value).ownBlock) (Kd.R_keptB ((Kd.R_apart' HO_227000.out (Kd.R_typed HO_9.out) (by decide))) hkp (fun k_ hk_ hs_ => (hk_.2) hs_)) (fun k_ hk_ => ⟨hk_.1.1.1.1, hk_.1.1.1.2, hk_.1.1.2⟩)); have n3_ := Aside0.mk (Kd.R_mono (ok' := fun k_ => some k_ ≠ (.slice Ao27 t218.length co27 : Value).ownBlock ∧ some k_ ≠ (.slice Ao33 t223.length co33 : Value).ownBlock ∧ some k_ ≠ (.slice Ao77 t236.length co77 : Value).ownBlock) (Kd.R_keptB ((Kd.R_apart' HO_235000.out (Kd.R_typed HO_9.out) (by decide))) hkp (fun k_ hk_ hs_ => (hk_.2) hs_)) (fun k_ hk_ => ⟨hk_.1.1.1, hk_.1.1.2.1, hk_.1.1.2.2⟩)); have n4_ := Aside0.mk (blk_kept (bk BK210) hkp (fun hs_ => (fun e_ => (Kd.R_ne HO_9.out BK210.out (by decide)) e_) hs_)); have n5_ := Aside0.mk (blk_kept (bk BK222) hkp (fun hs_ => (fun e_ => (Kd.R_ne HO_9.out BK222.out (by decide)) e_) hs_)); have n6_ := Aside0.mk (blk_kept (bk BK226) hkp (fun hs_ => (fun e_ => (Kd.R_ne HO_9.out BK226.out (by decide)) e_) hs_)); have n7_ := Aside0.mk (blk_kept (bk BK234) hkp (fun hs_ => (fun e_ => (Kd.R_ne HO_9.out BK234.out (by decide)) e_) hs_)); have n8_ := Aside0.mk (Kd.R_mono (ok' := fun k_ => some k_ ≠ (.slice Ao27 t218.length co27 : Value).ownBlock ∧ some k_ ≠ (.slice Ao33 t223.length co33 : Value).ownBlock ∧ some k_ ≠ (.slice Ao42 t230.length co42 : Value).ownBlock) (Kd.R_keptB ((Kd.R_apart' HO238.out (Kd.R_typed HO_9.out) (by decide))) hkp (fun k_ hk_ hs_ => (hk_.2) hs_)) (fun k_ hk_ => ⟨hk_.1.1.1, hk_.1.1.2.1, hk_.1.1.2.2⟩)); have n9_ := Aside0.mk (Kd.R_mono (ok' := fun k_ => some k_ ≠ (.slice Ao39 t227.length co39 : Value).ownBlock) (Kd.R_keptB (HO242.out) hkp (fun k_ hk_ hs_ => (hk_) hs_)) (fun k_ hk_ => hk_.1)); have n10_ := Aside0.mk (hb); clear HO_9 HO_223000 HO_227000 HO_235000 BK210 BK222 BK226 BK234 HO238 HO242 HB; revert n0_ n1_ n2_ n3_ n4_ n5_ n6_ n7_ n8_ n9_ n10_; intro HO_9 HO_223000 HO_227000 HO_235000 BK210 BK222 BK226 BK234 HO238 HO242 HB; (try clear hb); (try clear hkp); (try clear hy0)))
        (try simp only [Act.put, zA, zB, zC])
        go_cut [80] (fun v80 wc => ∃ (kq : Nat) (x80_73 : Bool), v80 = .bool x80_73 ∧ Aside0 (laws_FnExactLoseDisk.j1 kq l1 t221 x80_73 l0_0 t218 t230 = some r) ∧ Aside0 (kq ≤ kj15) ∧ Aside0 (Kd.R k124 124 wc w.heap.size (fun k_ => some k_ ≠ ((.slice Ao33 t223.length co33) : Value).ownBlock ∧ some k_ ≠ ((.slice Ao42 t230.length co42) : Value).ownBlock) (.slice Ao27 t218.length co27) t218) ∧ Aside0 (Kd.R k124 124 wc w.heap.size (fun k_ => some k_ ≠ ((.slice Ao27 t218.length co27) : Value).ownBlock ∧ some k_ ≠ ((.slice Ao42 t230.length co42) : Value).ownBlock) (.slice Ao33 t223.length co33) t245) ∧ Aside0 (Kd.R k124 124 wc w.heap.size (fun k_ => some k_ ≠ ((.slice Ao27 t218.length co27) : Value).ownBlock ∧ some k_ ≠ ((.slice Ao33 t223.length co33) : Value).ownBlock) (.slice Ao42 t230.length co42) t230) ∧ Aside0 (wc.heap[gb210]? = some (.cells #[(.slice A0_0 l0_0.length c0_0)] 69 (0, 0))) ∧ Aside0 (wc.heap[gb222]? = some (.cells #[(.slice Ao27 t218.length co27)] 73 (0, 0))) ∧ Aside0 (wc.heap[gb226]? = some (.cells #[(.slice Ao33 t223.length co33)] 73 (0, 0))) ∧ Aside0 (wc.heap[gb234]? = some (.cells #[(.slice Ao42 t230.length co42)] 73 (0, 0))) ∧ Aside0 (Below w.heap.size w wc))
        case first =>
         have H := HC74.out
         clear HC74
         by_cases c87 : t246 < 0
         ·rw [if_pos c87] at H
          have c87b0 : decide (t246 < 0) = true := decide_eq_true c87
          clear c87
          (first | rw [c87b0] | (simp only [i64_w, i32_w]; rw [c87b0]) | skip)
          have H' := Aside0.mk H
          clear H
          go_wp2
          go_meet
          case rel => exact ⟨_, (true), (by first | rfl | (simp; done) | (simp [*]; done)), H', ⟨by have := HJ15.out; first | omega | exact Nat.le_refl _⟩, ⟨by (with_reducible repeat (first | apply Kd.R_alloc | apply Kd.R_drewN | apply Kd.R_drew)); exact Kd.R_mono HO_223000.out (fun _ hk => ⟨hk.1, hk.2.1⟩)⟩, ⟨by (with_reducible repeat (first | apply Kd.R_alloc | apply Kd.R_drewN | apply Kd.R_drew)); exact Kd.R_mono HO_227000.out (fun _ hk => ⟨hk.1, hk.2.1⟩)⟩, ⟨by (with_reducible repeat (first | apply Kd.R_alloc | apply Kd.R_drewN | apply Kd.R_drew)); exact Kd.R_mono HO_235000.out (fun _ hk => ⟨hk.1, hk.2.1⟩)⟩, ⟨by refine bk_ ?_; exact BK210.out⟩, ⟨by refine bk_ ?_; exact BK222.out⟩, ⟨by refine bk_ ?_; exact BK226.out⟩, ⟨by refine bk_ ?_; exact BK234.out⟩, ⟨bt HB⟩⟩
         ·rw [if_neg c87] at H
          have c87b0 : decide (t246 < 0) = false := decide_eq_false c87
          clear c87
          (first | rw [c87b0] | (simp only [i64_w, i32_w]; rw [c87b0]) | skip)
          replace H := Option.bind_eq_some_iff.mp H
          obtain ⟨t248, A880, H⟩ := H
          replace H : (if t248 = true then (laws_FnExactLoseDisk.j1 kj15 l1 t221 (t233 != t221) l0_0 t218 t230) else (laws_FnExactLoseDisk.j1 kj15 l1 t221 true l0_0 t218 t230)) = some r := H
          have A88 := Aside0.mk A880
          clear A880
          by_cases c89 : t248 = true
          ·subst c89
           have H1 : (laws_FnExactLoseDisk.j1 kj15 l1 t221 (t233 != t221) l0_0 t218 t230) = some r := by rw [if_pos rfl] at H; exact H
           clear H
           have H := H1
           clear H1
           have H' := Aside0.mk H
           clear H
           have hnb90 := NB234_210.out
           have hnc90 := NB210_234.out
           have hnb91 := NB234_222.out
           have hnc91 := NB222_234.out
           have hnb92 := NB234_226.out
           have hnc92 := NB226_234.out
           have hcz93_0 : w86.cell? ⟨gb234, 0, none⟩ = some (.slice Ao42 t230.length co42) := bc BK234 0
           have hfz93_0 := blk_frozen BK234.out 0
           have hnb94 := NB222_210.out
           have hnc94 := NB210_222.out
           have hnb95 := NB222_226.out
           have hnc95 := NB226_222.out
           have hcz96_0 : w86.cell? ⟨gb222, 0, none⟩ = some (.slice Ao27 t218.length co27) := bc BK222 0
           have hfz96_0 := blk_frozen BK222.out 0
           go_wp2_with (first | (go_at_call 40; (with_reducible refine (laws_eqDisk.calls kj15 _ _ t230 _ _ t218 true _ ?side1 ?side2 ?side3 ?side4 A88.out).mono ?_); (case side1 => repeat (first | exact (Kd.R_reads' HO_235000.out).2.2 | (with_reducible refine Kd.C_alloc ?_ _) | (with_reducible refine Kd.C_drewN ?_ _) | (with_reducible refine Kd.C_drew ?_))); (case side2 => exact (Kd.R_reads' HO_235000.out).2.1); (case side3 => repeat (first | exact (Kd.R_reads' HO_223000.out).2.2 | (with_reducible refine Kd.C_alloc ?_ _) | (with_reducible refine Kd.C_drewN ?_ _) | (with_reducible refine Kd.C_drew ?_))); (case side4 => exact (Kd.R_reads' HO_223000.out).2.1); rintro e w97 ⟨rfl, hb⟩; have n0_ := rb HO_9 hb; have n1_ := rb HO_223000 hb; have n2_ := rb HO_227000 hb; have n3_ := rb HO_235000 hb; have n4_ := rb HO238 hb; have n5_ := rb HO242 hb; have n6_ := bb BK210 hb; have n7_ := bb BK222 hb; have n8_ := bb BK226 hb; have n9_ := bb BK234 hb; have n10_ := Aside0.mk (below_step (bt HB) hb); clear HO_9 HO_223000 HO_227000 HO_235000 HO238 HO242 BK210 BK222 BK226 BK234 HB; revert n0_ n1_ n2_ n3_ n4_ n5_ n6_ n7_ n8_ n9_ n10_; intro HO_9 HO_223000 HO_227000 HO_235000 HO238 HO242 BK210 BK222 BK226 BK234 HB; (try clear hb); (try clear hb2); (try clear hk); (try clear hi)))
           go_meet
           case rel => exact ⟨_, ((t233 != t221)), (by first | rfl | (simp; done) | (simp [*]; done)), H', ⟨by have := HJ15.out; first | omega | exact Nat.le_refl _⟩, ⟨by (with_reducible repeat (first | apply Kd.R_alloc | apply Kd.R_drewN | apply Kd.R_drew)); exact Kd.R_mono HO_223000.out (fun _ hk => ⟨hk.1, hk.2.1⟩)⟩, ⟨by (with_reducible repeat (first | apply Kd.R_alloc | apply Kd.R_drewN | apply Kd.R_drew)); exact Kd.R_mono HO_227000.out (fun _ hk => ⟨hk.1, hk.2.1⟩)⟩, ⟨by (with_reducible repeat (first | apply Kd.R_alloc | apply Kd.R_drewN | apply Kd.R_drew)); exact Kd.R_mono HO_235000.out (fun _ hk => ⟨hk.1, hk.2.1⟩)⟩, ⟨by refine bk_ ?_; exact BK210.out⟩, ⟨by refine bk_ ?_; exact BK222.out⟩, ⟨by refine bk_ ?_; exact BK226.out⟩, ⟨by refine bk_ ?_; exact BK234.out⟩, ⟨bt HB⟩⟩
          ·replace c89 := Bool.eq_false_iff.mpr c89
           subst c89
           have H1 : (laws_FnExactLoseDisk.j1 kj15 l1 t221 true l0_0 t218 t230) = some r := by rw [if_neg (show ¬ (false = true) by decide)] at H; exact H
           clear H
           have H := H1
           clear H1
           have H' := Aside0.mk H
           clear H
           have hnb98 := NB234_210.out
           have hnc98 := NB210_234.out
           have hnb99 := NB234_222.out
           have hnc99 := NB222_234.out
           have hnb100 := NB234_226.out
           have hnc100 := NB226_234.out
           have hcz101_0 : w86.cell? ⟨gb234, 0, none⟩ = some (.slice Ao42 t230.length co42) := bc BK234 0
           have hfz101_0 := blk_frozen BK234.out 0
           have hnb102 := NB222_210.out
           have hnc102 := NB210_222.out
           have hnb103 := NB222_226.out
           have hnc103 := NB226_222.out
           have hcz104_0 : w86.cell? ⟨gb222, 0, none⟩ = some (.slice Ao27 t218.length co27) := bc BK222 0
           have hfz104_0 := blk_frozen BK222.out 0
           go_wp2_with (first | (go_at_call 40; (with_reducible refine (laws_eqDisk.calls kj15 _ _ t230 _ _ t218 false _ ?side1 ?side2 ?side3 ?side4 A88.out).mono ?_); (case side1 => repeat (first | exact (Kd.R_reads' HO_235000.out).2.2 | (with_reducible refine Kd.C_alloc ?_ _) | (with_reducible refine Kd.C_drewN ?_ _) | (with_reducible refine Kd.C_drew ?_))); (case side2 => exact (Kd.R_reads' HO_235000.out).2.1); (case side3 => repeat (first | exact (Kd.R_reads' HO_223000.out).2.2 | (with_reducible refine Kd.C_alloc ?_ _) | (with_reducible refine Kd.C_drewN ?_ _) | (with_reducible refine Kd.C_drew ?_))); (case side4 => exact (Kd.R_reads' HO_223000.out).2.1); rintro e w105 ⟨rfl, hb⟩; have n0_ := rb HO_9 hb; have n1_ := rb HO_223000 hb; have n2_ := rb HO_227000 hb; have n3_ := rb HO_235000 hb; have n4_ := rb HO238 hb; have n5_ := rb HO242 hb; have n6_ := bb BK210 hb; have n7_ := bb BK222 hb; have n8_ := bb BK226 hb; have n9_ := bb BK234 hb; have n10_ := Aside0.mk (below_step (bt HB) hb); clear HO_9 HO_223000 HO_227000 HO_235000 HO238 HO242 BK210 BK222 BK226 BK234 HB; revert n0_ n1_ n2_ n3_ n4_ n5_ n6_ n7_ n8_ n9_ n10_; intro HO_9 HO_223000 HO_227000 HO_235000 HO238 HO242 BK210 BK222 BK226 BK234 HB; (try clear hb); (try clear hb2); (try clear hk); (try clear hi)))
           go_meet
           case rel => exact ⟨_, (true), (by first | rfl | (simp; done) | (simp [*]; done)), H', ⟨by have := HJ15.out; first | omega | exact Nat.le_refl _⟩, ⟨by (with_reducible repeat (first | apply Kd.R_alloc | apply Kd.R_drewN | apply Kd.R_drew)); exact Kd.R_mono HO_223000.out (fun _ hk => ⟨hk.1, hk.2.1⟩)⟩, ⟨by (with_reducible repeat (first | apply Kd.R_alloc | apply Kd.R_drewN | apply Kd.R_drew)); exact Kd.R_mono HO_227000.out (fun _ hk => ⟨hk.1, hk.2.1⟩)⟩, ⟨by (with_reducible repeat (first | apply Kd.R_alloc | apply Kd.R_drewN | apply Kd.R_drew)); exact Kd.R_mono HO_235000.out (fun _ hk => ⟨hk.1, hk.2.1⟩)⟩, ⟨by refine bk_ ?_; exact BK210.out⟩, ⟨by refine bk_ ?_; exact BK222.out⟩, ⟨by refine bk_ ?_; exact BK226.out⟩, ⟨by refine bk_ ?_; exact BK234.out⟩, ⟨bt HB⟩⟩
        case rest =>
         clear HC74
         try clear c1
         try clear c2
         try clear p2
         try clear c3
         try clear c3b0
         try clear c3b1
         try clear c4
         try clear c5
         try clear c6
         try clear c6b0
         try clear c7
         try clear c8
         try clear c9
         try clear c10
         try clear c28
         try clear c34
         try clear c35
         try clear c36
         try clear c37
         try clear c38
         try clear c39
         try clear c40
         try clear c41
         try clear c42
         try clear c43
         try clear c44
         try clear c45
         try clear c48
         try clear c49
         try clear c50
         try clear c51
         try clear c53
         try clear c54
         try clear c57
         try clear c58
         try clear c59
         try clear c61
         try clear c62
         try clear c65
         try clear c68
         try clear c71
         try clear c81
         try clear c82
         try clear c83
         try clear c87
         try clear c87b0
         try clear c89
         try clear c90
         try clear c91
         try clear c92
         try clear c94
         try clear c95
         try clear c98
         try clear c99
         try clear c100
         try clear c102
         try clear c103
         try clear hcz101_0
         try clear hcz104_0
         try clear hcz18_0
         try clear hcz20_0
         try clear hcz29_0
         try clear hcz30_0
         try clear hcz36_0
         try clear hcz38_0
         try clear hcz46_0
         try clear hcz52_0
         try clear hcz55_0
         try clear hcz60_0
         try clear hcz63_0
         try clear hcz84_0
         try clear hcz8_0
         try clear hcz93_0
         try clear hcz96_0
         try clear hfz101_0
         try clear hfz104_0
         try clear hfz18_0
         try clear hfz20_0
         try clear hfz29_0
         try clear hfz30_0
         try clear hfz36_0
         try clear hfz38_0
         try clear hfz46_0
         try clear hfz52_0
         try clear hfz55_0
         try clear hfz60_0
         try clear hfz63_0
         try clear hfz84_0
         try clear hfz8_0
         try clear hfz93_0
         try clear hfz96_0
         try clear p2
         obtain ⟨kq, x80_73, rfl, HA, HJ73, HO_223000, HO_227000, HO_235000, BK210, BK222, BK226, BK234, HB⟩ := hcut
         have hl227000_73 := (Kd.R_reads' HO_227000.out).1
         rw [hl227000_73] at HO_227000
         (try simp only [hl227000_73])
         (try simp only [hl227000_73] at BK210)
         (try simp only [hl227000_73] at BK222)
         (try simp only [hl227000_73] at BK226)
         (try simp only [hl227000_73] at BK234)
         (try simp only [hl227000_73] at HO_223000)
         (try simp only [hl227000_73] at HO_235000)
         cases kq with
         | zero => exact absurd HA.out (by simp [laws_FnExactLoseDisk.j1])
         | succ kj73 =>
          have H := HA.out
          clear HA
          simp only [laws_FnExactLoseDisk.j1] at H
          by_cases c106 : x80_73 = true
          ·subst c106
           have H1 : (some false) = some r := by rw [if_pos rfl] at H; exact H
           clear H
           have H := H1
           clear H1
           obtain rfl := Option.some.inj H
           go_wp2
           go_ret
           exact ⟨by first | rfl | (simp [errW_none, errW_some] <;> rfl) | (simp [*, errW_none, errW_some] <;> rfl), bt HB⟩
          ·replace c106 := Bool.eq_false_iff.mpr c106
           subst c106
           have H1 : ((laws_markDisk.f kj73 t230 1).bind fun bt249 => ((laws_heldDisk.f kj73 bt249.2 1).bind fun t251 => (if t251 < 0 then (some false) else (if t251 = bt249.1 then ((laws_toDisk.f kj73 l0_0).bind fun t252 => ((laws_toIntS.f kj73 l1).bind fun t255 => ((impl_LoseDisk.f kj73 t252 t255).bind fun bt258 => ((laws_eqDisk.f kj73 bt258.1 t218).bind fun t263 => (if t263 = true then (laws_FnExactLoseDisk.j2 kj73 bt249.1 (bt258.2 != t221) bt249.2) else (laws_FnExactLoseDisk.j2 kj73 bt249.1 true bt249.2)))))) else (some false))))) = some r := by rw [if_neg (show ¬ (false = true) by decide)] at H; exact H
           clear H
           have H := H1
           clear H1
           replace H := Option.bind_eq_some_iff.mp H
           obtain ⟨⟨t249, t250⟩, A1070, H⟩ := H
           replace H : ((laws_heldDisk.f kj73 t250 1).bind fun t251 => (if t251 < 0 then (some false) else (if t251 = t249 then ((laws_toDisk.f kj73 l0_0).bind fun t252 => ((laws_toIntS.f kj73 l1).bind fun t255 => ((impl_LoseDisk.f kj73 t252 t255).bind fun bt258 => ((laws_eqDisk.f kj73 bt258.1 t218).bind fun t263 => (if t263 = true then (laws_FnExactLoseDisk.j2 kj73 t249 (bt258.2 != t221) t250) else (laws_FnExactLoseDisk.j2 kj73 t249 true t250)))))) else (some false)))) = some r := H
           have A107 := Aside0.mk A1070
           clear A1070
           replace H := Option.bind_eq_some_iff.mp H
           obtain ⟨t251, A1080, H⟩ := H
           replace H : (if t251 < 0 then (some false) else (if t251 = t249 then ((laws_toDisk.f kj73 l0_0).bind fun t252 => ((laws_toIntS.f kj73 l1).bind fun t255 => ((impl_LoseDisk.f kj73 t252 t255).bind fun bt258 => ((laws_eqDisk.f kj73 bt258.1 t218).bind fun t263 => (if t263 = true then (laws_FnExactLoseDisk.j2 kj73 t249 (bt258.2 != t221) t250) else (laws_FnExactLoseDisk.j2 kj73 t249 true t250)))))) else (some false))) = some r := H
           have A108 := Aside0.mk A1080
           clear A1080
           by_cases c109 : t251 < 0
           ·rw [if_pos c109] at H
            have c109b0 : decide (t251 < 0) = true := decide_eq_true c109
            clear c109
            obtain rfl := Option.some.inj H
            have hnb110 := NB234_210.out
            have hnc110 := NB210_234.out
            have hnb111 := NB234_222.out
            have hnc111 := NB222_234.out
            have hnb112 := NB234_226.out
            have hnc112 := NB226_234.out
            have hcz113_0 : wc.cell? ⟨gb234, 0, none⟩ = some (.slice Ao42 t230.length co42) := bc BK234 0
            have hfz113_0 := blk_frozen BK234.out 0
            go_wp2_with (first | ((with_reducible refine gate_callee (f := 42) rfl ?_); refine goesL_ (some 83) rfl rfl Try.func42 (by kernel_rfl) rfl #[.agg #[.slice Ao42 t230.length co42], .int .i64 1] rfl (by (try simp only [List.map_toArray, List.map_cons, List.map_nil]); first | done | rfl | (simp only [List.length_drop, List.length_take]; rfl)) ?_; (with_reducible refine (laws_markDisk.calls kj73 (fun k_ => some k_ = (.slice Ao42 t230.length co42 : Value).ownBlock) (.slice Ao42 t230.length co42) t230 1 t249 t250 w _ ?side1 ?side2 A107.out).mono ?_); (case side1 => repeat (first | (with_reducible first | exact HB.out | apply below_alloc | apply pw_below_drewN | apply below_drew1 | refine below_set ?_ GE210.out | refine below_set ?_ GE222.out | refine below_set ?_ GE226.out | refine below_set ?_ GE234.out) | exact HB.out)); (case side2 => exact Kd.R_tight rfl HO_235000.out); rintro e w114 ⟨rfl, hy0, hb, hkp⟩; refine ⟨_, rfl, ?_⟩; have n0_ := Aside0.mk (Kd.R_mono (ok' := fun k_ => some k_ ≠ (.slice Ao33 t245.length co33 : Value).ownBlock ∧ some k_ ≠ (.slice Ao42 t230.length co42 : Value).ownBlock) (Kd.R_keptB (HO_223000.out) hkp (fun k_ hk_ hs_ => (hk_.2) hs_)) (fun k_ hk_ => ⟨hk_.1.1, hk_.1.2⟩)); have n1_ := Aside0.mk (Kd.R_mono (ok' := fun k_ => some k_ ≠ (.slice Ao27 t218.length co27 : Value).ownBlock ∧ some k_ ≠ (.slice Ao42 t230.length co42 : Value).ownBlock) (Kd.R_keptB (HO_227000.out) hkp (fun k_ hk_ hs_ => (hk_.2) hs_)) (fun k_ hk_ => ⟨hk_.1.1, hk_.1.2⟩)); have n2_ := Aside0.mk (Kd.R_reok rfl hy0 (fun k_ e_ => HO_235000.out.1 k_ e_)); have n3_ := Aside0.mk (blk_kept (bk BK210) hkp (fun hs_ => (fun e_ => (Kd.R_ne HO_235000.out BK210.out (by decide)) e_) hs_)); have n4_ := Aside0.mk (blk_kept (bk BK222) hkp (fun hs_ => (fun e_ => (Kd.R_ne HO_235000.out BK222.out (by decide)) e_) hs_)); have n5_ := Aside0.mk (blk_kept (bk BK226) hkp (fun hs_ => (fun e_ => (Kd.R_ne HO_235000.out BK226.out (by decide)) e_) hs_)); have n6_ := Aside0.mk (blk_kept (bk BK234) hkp (fun hs_ => (fun e_ => (Kd.R_ne HO_235000.out BK234.out (by decide)) e_) hs_)); have n7_ := Aside0.mk (hb); clear HO_223000 HO_227000 HO_235000 BK210 BK222 BK226 BK234 HB; revert n0_ n1_ n2_ n3_ n4_ n5_ n6_ n7_; intro HO_223000 HO_227000 HO_235000 BK210 BK222 BK226 BK234 HB; (try clear hb); (try clear hkp); (try clear hy0); have hcz115_0 : w114.cell? ⟨gb234, 0, none⟩ = some (.slice Ao42 t230.length co42) := bc BK234 0; have hfz115_0 := blk_frozen BK234.out 0) | ((with_reducible refine gate_callee (f := 44) rfl ?_); refine goesL_ (some 86) rfl rfl Try.func44 (by kernel_rfl) rfl #[.agg #[.slice Ao42 t250.length co42], .int .i64 1] rfl (by (try simp only [List.map_toArray, List.map_cons, List.map_nil]); first | done | (rw [show t250.length = t230.length from (Kd.R_reads' HO_235000.out).1.symm] <;> rfl) | rfl | (simp only [List.length_drop, List.length_take]; rfl)) ?_; (with_reducible refine (laws_heldDisk.calls kj73 _ _ t250 1 t251 _ ?side1 ?side2 A108.out).mono ?_); (case side1 => repeat (first | exact (Kd.R_reads' HO_235000.out).2.2 | (with_reducible refine Kd.C_alloc ?_ _) | (with_reducible refine Kd.C_drewN ?_ _) | (with_reducible refine Kd.C_drew ?_))); (case side2 => rw [show t250.length = t230.length from (Kd.R_reads' HO_235000.out).1.symm]; exact (Kd.R_reads' HO_235000.out).2.1); rintro e w116 ⟨rfl, hb⟩; refine ⟨_, rfl, ?_⟩; have n0_ := rb HO_223000 hb; have n1_ := rb HO_227000 hb; have n2_ := rb HO_235000 hb; have n3_ := bb BK210 hb; have n4_ := bb BK222 hb; have n5_ := bb BK226 hb; have n6_ := bb BK234 hb; have n7_ := Aside0.mk (below_step (bt HB) hb); clear HO_223000 HO_227000 HO_235000 BK210 BK222 BK226 BK234 HB; revert n0_ n1_ n2_ n3_ n4_ n5_ n6_ n7_; intro HO_223000 HO_227000 HO_235000 BK210 BK222 BK226 BK234 HB; (try clear hb); (try clear hb2); (try clear hk); (try clear hi)))
            go_ret
            exact ⟨by first | rfl | (simp [errW_none, errW_some] <;> rfl) | (simp [*, errW_none, errW_some] <;> rfl), bt HB⟩
           ·rw [if_neg c109] at H
            have c109b0 : decide (t251 < 0) = false := decide_eq_false c109
            clear c109
            by_cases c117 : t251 = t249
            ·rw [if_pos c117] at H
             have c117b0 : (t251 == t249) = true := beq_iff_eq.mpr c117
             have c117b1 : (t251 != t249) = false := bne_eq_false_iff_eq.mpr c117
             clear c117
             replace H := Option.bind_eq_some_iff.mp H
             obtain ⟨t252, A1180, H⟩ := H
             replace H : ((laws_toIntS.f kj73 l1).bind fun t255 => ((impl_LoseDisk.f kj73 t252 t255).bind fun bt258 => ((laws_eqDisk.f kj73 bt258.1 t218).bind fun t263 => (if t263 = true then (laws_FnExactLoseDisk.j2 kj73 t249 (bt258.2 != t221) t250) else (laws_FnExactLoseDisk.j2 kj73 t249 true t250))))) = some r := H
             have A118 := Aside0.mk A1180
             clear A1180
             replace H := Option.bind_eq_some_iff.mp H
             obtain ⟨t255, A1190, H⟩ := H
             replace H : ((impl_LoseDisk.f kj73 t252 t255).bind fun bt258 => ((laws_eqDisk.f kj73 bt258.1 t218).bind fun t263 => (if t263 = true then (laws_FnExactLoseDisk.j2 kj73 t249 (bt258.2 != t221) t250) else (laws_FnExactLoseDisk.j2 kj73 t249 true t250)))) = some r := H
             have A119 := Aside0.mk A1190
             clear A1190
             replace H := Option.bind_eq_some_iff.mp H
             obtain ⟨⟨t258, t261⟩, A1200, H⟩ := H
             replace H : ((laws_eqDisk.f kj73 t258 t218).bind fun t263 => (if t263 = true then (laws_FnExactLoseDisk.j2 kj73 t249 (t261 != t221) t250) else (laws_FnExactLoseDisk.j2 kj73 t249 true t250))) = some r := H
             have A120 := Aside0.mk A1200
             clear A1200
             have HC121 := Aside0.mk H
             clear H
             have hnb122 := NB234_210.out
             have hnc122 := NB210_234.out
             have hnb123 := NB234_222.out
             have hnc123 := NB222_234.out
             have hnb124 := NB234_226.out
             have hnc124 := NB226_234.out
             have hcz125_0 : wc.cell? ⟨gb234, 0, none⟩ = some (.slice Ao42 t230.length co42) := bc BK234 0
             have hfz125_0 := blk_frozen BK234.out 0
             go_upto_region 31 with (first | ((with_reducible refine gate_callee (f := 42) rfl ?_); refine goesL_ (some 83) rfl rfl Try.func42 (by kernel_rfl) rfl #[.agg #[.slice Ao42 t230.length co42], .int .i64 1] rfl (by (try simp only [List.map_toArray, List.map_cons, List.map_nil]); first | done | rfl | (simp only [List.length_drop, List.length_take]; rfl)) ?_; (with_reducible refine (laws_markDisk.calls kj73 (fun k_ => some k_ = (.slice Ao42 t230.length co42 : Value).ownBlock) (.slice Ao42 t230.length co42) t230 1 t249 t250 w _ ?side1 ?side2 A107.out).mono ?_); (case side1 => repeat (first | (with_reducible first | exact HB.out | apply below_alloc | apply pw_below_drewN | apply below_drew1 | refine below_set ?_ GE210.out | refine below_set ?_ GE222.out | refine below_set ?_ GE226.out | refine below_set ?_ GE234.out) | exact HB.out)); (case side2 => exact Kd.R_tight rfl HO_235000.out); rintro e w126 ⟨rfl, hy0, hb, hkp⟩; refine ⟨_, rfl, ?_⟩; have n0_ := Aside0.mk (Kd.R_mono (ok' := fun k_ => some k_ ≠ (.slice Ao33 t245.length co33 : Value).ownBlock ∧ some k_ ≠ (.slice Ao42 t230.length co42 : Value).ownBlock) (Kd.R_keptB (HO_223000.out) hkp (fun k_ hk_ hs_ => (hk_.2) hs_)) (fun k_ hk_ => ⟨hk_.1.1, hk_.1.2⟩)); have n1_ := Aside0.mk (Kd.R_mono (ok' := fun k_ => some k_ ≠ (.slice Ao27 t218.length co27 : Value).ownBlock ∧ some k_ ≠ (.slice Ao42 t230.length co42 : Value).ownBlock) (Kd.R_keptB (HO_227000.out) hkp (fun k_ hk_ hs_ => (hk_.2) hs_)) (fun k_ hk_ => ⟨hk_.1.1, hk_.1.2⟩)); have n2_ := Aside0.mk (Kd.R_reok rfl hy0 (fun k_ e_ => HO_235000.out.1 k_ e_)); have n3_ := Aside0.mk (blk_kept (bk BK210) hkp (fun hs_ => (fun e_ => (Kd.R_ne HO_235000.out BK210.out (by decide)) e_) hs_)); have n4_ := Aside0.mk (blk_kept (bk BK222) hkp (fun hs_ => (fun e_ => (Kd.R_ne HO_235000.out BK222.out (by decide)) e_) hs_)); have n5_ := Aside0.mk (blk_kept (bk BK226) hkp (fun hs_ => (fun e_ => (Kd.R_ne HO_235000.out BK226.out (by decide)) e_) hs_)); have n6_ := Aside0.mk (blk_kept (bk BK234) hkp (fun hs_ => (fun e_ => (Kd.R_ne HO_235000.out BK234.out (by decide)) e_) hs_)); have n7_ := Aside0.mk (hb); clear HO_223000 HO_227000 HO_235000 BK210 BK222 BK226 BK234 HB; revert n0_ n1_ n2_ n3_ n4_ n5_ n6_ n7_; intro HO_223000 HO_227000 HO_235000 BK210 BK222 BK226 BK234 HB; (try clear hb); (try clear hkp); (try clear hy0); have hcz127_0 : w126.cell? ⟨gb234, 0, none⟩ = some (.slice Ao42 t230.length co42) := bc BK234 0; have hfz127_0 := blk_frozen BK234.out 0) | ((with_reducible refine gate_callee (f := 44) rfl ?_); refine goesL_ (some 86) rfl rfl Try.func44 (by kernel_rfl) rfl #[.agg #[.slice Ao42 t250.length co42], .int .i64 1] rfl (by (try simp only [List.map_toArray, List.map_cons, List.map_nil]); first | done | (rw [show t250.length = t230.length from (Kd.R_reads' HO_235000.out).1.symm] <;> rfl) | rfl | (simp only [List.length_drop, List.length_take]; rfl)) ?_; (with_reducible refine (laws_heldDisk.calls kj73 _ _ t250 1 t251 _ ?side1 ?side2 A108.out).mono ?_); (case side1 => repeat (first | exact (Kd.R_reads' HO_235000.out).2.2 | (with_reducible refine Kd.C_alloc ?_ _) | (with_reducible refine Kd.C_drewN ?_ _) | (with_reducible refine Kd.C_drew ?_))); (case side2 => rw [show t250.length = t230.length from (Kd.R_reads' HO_235000.out).1.symm]; exact (Kd.R_reads' HO_235000.out).2.1); rintro e w128 ⟨rfl, hb⟩; refine ⟨_, rfl, ?_⟩; have n0_ := rb HO_223000 hb; have n1_ := rb HO_227000 hb; have n2_ := rb HO_235000 hb; have n3_ := bb BK210 hb; have n4_ := bb BK222 hb; have n5_ := bb BK226 hb; have n6_ := bb BK234 hb; have n7_ := Aside0.mk (below_step (bt HB) hb); clear HO_223000 HO_227000 HO_235000 BK210 BK222 BK226 BK234 HB; revert n0_ n1_ n2_ n3_ n4_ n5_ n6_ n7_; intro HO_223000 HO_227000 HO_235000 BK210 BK222 BK226 BK234 HB; (try clear hb); (try clear hb2); (try clear hk); (try clear hi); have hnb129 := NB210_222.out; have hnc129 := NB222_210.out; have hnb130 := NB210_226.out; have hnc130 := NB226_210.out; have hcz131_0 : w128.cell? ⟨gb210, 0, none⟩ = some (.slice A0_0 l0_0.length c0_0) := bc BK210 0; have hfz131_0 := blk_frozen BK210.out 0) | ((with_reducible refine gate_callee (f := 37) rfl ?_); refine goesL_ (some 94) rfl rfl Try.func37 (by kernel_rfl) rfl #[.agg #[.slice A0_0 l0_0.length c0_0]] rfl (by (try simp only [List.map_toArray, List.map_cons, List.map_nil]); first | done | rfl | (simp only [List.length_drop, List.length_take]; rfl)) ?_; (with_reducible refine (laws_toDisk.calls kj73 _ _ l0_0 t252 _ ?side1 ?side2 A118.out).mono ?_); (case side1 => repeat (first | exact (Kd.C_below HR0_0.out HB.out) | (with_reducible refine Kd.C_alloc ?_ _) | (with_reducible refine Kd.C_drewN ?_ _) | (with_reducible refine Kd.C_drew ?_))); (case side2 => exact HC0_0.out); rintro e w132 ⟨v253, rfl, ho0, hb⟩; refine ⟨_, rfl, ?_⟩; have n0_ := Aside0.mk (Kd.R_elder' (rk HO_223000) (Kd.R_base ho0) hb); have n1_ := Aside0.mk (Kd.R_elder' (rk HO_227000) (Kd.R_base ho0) hb); have n2_ := Aside0.mk (Kd.R_elder' (rk HO_235000) (Kd.R_base ho0) hb); have n3_ := Aside0.mk (Kd.R_lower (Kd.R_new' (Kd.R_new' (Kd.R_new' ho0 (Kd.R_lt (rk HO_223000))) (Kd.R_lt (rk HO_227000))) (Kd.R_lt (rk HO_235000))) (below_size (bt HB))); have n4_ := bb BK210 hb; have n5_ := bb BK222 hb; have n6_ := bb BK226 hb; have n7_ := bb BK234 hb; have n8_ := Aside0.mk (below_step (bt HB) hb); clear HO_223000 HO_227000 HO_235000 BK210 BK222 BK226 BK234 HB; revert n0_ n1_ n2_ n3_ n4_ n5_ n6_ n7_ n8_; intro HO_223000 HO_227000 HO_235000 HO254 BK210 BK222 BK226 BK234 HB; (try clear hb); (try clear hb2); (try clear hk); (try clear hi); (try clear ho0)) | ((with_reducible refine gate_callee (f := 38) rfl ?_); refine goesL_ (some 96) rfl rfl Try.func38 (by kernel_rfl) rfl #[.slice A1 l1.length c1] rfl (by (try simp only [List.map_toArray, List.map_cons, List.map_nil]); first | done | rfl | (simp only [List.length_drop, List.length_take]; rfl)) ?_; (with_reducible refine (laws_toIntS.calls kj73 _ _ l1 t255 _ ?side1 ?side2 A119.out).mono ?_); (case side1 => repeat (first | exact (Kd.C_below HR1.out HB.out) | (with_reducible refine Kd.C_alloc ?_ _) | (with_reducible refine Kd.C_drewN ?_ _) | (with_reducible refine Kd.C_drew ?_))); (case side2 => exact HC1.out); rintro e w133 ⟨v256, rfl, ho0, hb⟩; refine ⟨_, rfl, ?_⟩; have n0_ := rb HO_223000 hb; have n1_ := rb HO_227000 hb; have n2_ := rb HO_235000 hb; have n3_ := rb HO254 hb; have n4_ := Aside0.mk (Kd.R_lower ho0 (below_size (bt HB))); have n5_ := bb BK210 hb; have n6_ := bb BK222 hb; have n7_ := bb BK226 hb; have n8_ := bb BK234 hb; have n9_ := Aside0.mk (below_step (bt HB) hb); clear HO_223000 HO_227000 HO_235000 HO254 BK210 BK222 BK226 BK234 HB; revert n0_ n1_ n2_ n3_ n4_ n5_ n6_ n7_ n8_ n9_; intro HO_223000 HO_227000 HO_235000 HO254 HO257 BK210 BK222 BK226 BK234 HB; (try clear hb); (try clear hb2); (try clear hk); (try clear hi); (try clear ho0); obtain ⟨Ao134, co134, eo134⟩ := Kd.R_slice HO254.out; subst eo134; obtain ⟨Ao135, co135, eo135⟩ := Kd.R_slice HO257.out; subst eo135) | ((with_reducible refine gate_callee (f := 39) rfl ?_); refine goesL_ (some 97) rfl rfl Try.func39 (by kernel_rfl) rfl #[.agg #[.slice Ao134 t252.length co134], .slice Ao135 t255.length co135] rfl (by (try simp only [List.map_toArray, List.map_cons, List.map_nil]); first | done | rfl | (simp only [List.length_drop, List.length_take]; rfl)) ?_; (with_reducible refine (impl_LoseDisk.calls kj73 _ _ t252 _ _ t255 t258 t261 _ ?side1 ?side2 ?side3 ?side4 A120.out).mono ?_); (case side1 => repeat (first | exact (Kd.R_reads' HO254.out).2.2 | (with_reducible refine Kd.C_alloc ?_ _) | (with_reducible refine Kd.C_drewN ?_ _) | (with_reducible refine Kd.C_drew ?_))); (case side2 => exact (Kd.R_reads' HO254.out).2.1); (case side3 => repeat (first | exact (Kd.R_reads' HO257.out).2.2 | (with_reducible refine Kd.C_alloc ?_ _) | (with_reducible refine Kd.C_drewN ?_ _) | (with_reducible refine Kd.C_drew ?_))); (case side4 => exact (Kd.R_reads' HO257.out).2.1); rintro e w136 ⟨v259, rfl, ho0, hb⟩; refine ⟨_, rfl, ?_⟩; have n0_ := Aside0.mk (Kd.R_elder' (rk HO_223000) (Kd.R_base ho0) hb); have n1_ := Aside0.mk (Kd.R_elder' (rk HO_227000) (Kd.R_base ho0) hb); have n2_ := Aside0.mk (Kd.R_elder' (rk HO_235000) (Kd.R_base ho0) hb); have n3_ := Aside0.mk (Kd.R_elder' (rk HO254) (Kd.R_base ho0) hb); have n4_ := rb HO257 hb; have n5_ := Aside0.mk (Kd.R_lower (Kd.R_new' (Kd.R_new' (Kd.R_new' (Kd.R_new' ho0 (Kd.R_lt (rk HO_223000))) (Kd.R_lt (rk HO_227000))) (Kd.R_lt (rk HO_235000))) (Kd.R_lt (rk HO254))) (below_size (bt HB))); have n6_ := bb BK210 hb; have n7_ := bb BK222 hb; have n8_ := bb BK226 hb; have n9_ := bb BK234 hb; have n10_ := Aside0.mk (below_step (bt HB) hb); clear HO_223000 HO_227000 HO_235000 HO254 HO257 BK210 BK222 BK226 BK234 HB; revert n0_ n1_ n2_ n3_ n4_ n5_ n6_ n7_ n8_ n9_ n10_; intro HO_223000 HO_227000 HO_235000 HO254 HO257 HO260 BK210 BK222 BK226 BK234 HB; (try clear hb); (try clear hb2); (try clear hk); (try clear hi); (try clear ho0)) | ((with_reducible refine gate_dst (N := 15) rfl ?_); refine box_event ?hg (N := 15) ?hd (cs := #[.slice none 0 0]) (t := 73) ?hr ?_; (case hd => rfl); (case hg => rfl); (case hr => first | (go_simp; done) | (go_simp; rfl)); intro gb262 hg w137 hbox hb; have n0_ := rb HO_223000 hb; have n1_ := rb HO_227000 hb; have n2_ := rb HO_235000 hb; have n3_ := rb HO254 hb; have n4_ := rb HO257 hb; have n5_ := rb HO260 hb; have n6_ := bb BK210 hb; have n7_ := bb BK222 hb; have n8_ := bb BK226 hb; have n9_ := bb BK234 hb; have n10_ := Aside0.mk (below_step (bt HB) hb); have n11_ := Aside0.mk (hbox); have n12_ := Aside0.mk ((by rw [hg]; exact (below_size (bt HB)) : w.heap.size ≤ gb262)); have n13_ := Aside0.mk ((by rw [hg]; exact (below_size (bt HB)) : w.heap.size ≤ gb262)); have n14_ := Aside0.mk ((by rw [hg]; exact Nat.ne_of_lt (blk_lt (bk BK210)) : gb210 ≠ gb262)); have n15_ := Aside0.mk ((by rw [hg]; exact Nat.ne_of_gt (blk_lt (bk BK210)) : gb262 ≠ gb210)); have n16_ := Aside0.mk ((by rw [hg]; exact Nat.ne_of_lt (blk_lt (bk BK222)) : gb222 ≠ gb262)); have n17_ := Aside0.mk ((by rw [hg]; exact Nat.ne_of_gt (blk_lt (bk BK222)) : gb262 ≠ gb222)); have n18_ := Aside0.mk ((by rw [hg]; exact Nat.ne_of_lt (blk_lt (bk BK226)) : gb226 ≠ gb262)); have n19_ := Aside0.mk ((by rw [hg]; exact Nat.ne_of_gt (blk_lt (bk BK226)) : gb262 ≠ gb226)); have n20_ := Aside0.mk ((by rw [hg]; exact Nat.ne_of_lt (blk_lt (bk BK234)) : gb234 ≠ gb262)); have n21_ := Aside0.mk ((by rw [hg]; exact Nat.ne_of_gt (blk_lt (bk BK234)) : gb262 ≠ gb234)); clear HO_223000 HO_227000 HO_235000 HO254 HO257 HO260 BK210 BK222 BK226 BK234 HB; revert n0_ n1_ n2_ n3_ n4_ n5_ n6_ n7_ n8_ n9_ n10_ n11_ n12_ n13_ n14_ n15_ n16_ n17_ n18_ n19_ n20_ n21_; intro HO_223000 HO_227000 HO_235000 HO254 HO257 HO260 BK210 BK222 BK226 BK234 HB BK262 GW262 GE262 NB210_262 NB262_210 NB222_262 NB262_222 NB226_262 NB262_226 NB234_262 NB262_234; clear hb hbox hg; obtain ⟨Ao138, co138, eo138⟩ := Kd.R_slice HO260.out; subst eo138; have hnb139 := NB262_210.out; have hnc139 := NB210_262.out; have hnb140 := NB262_222.out; have hnc140 := NB222_262.out; have hnb141 := NB262_226.out; have hnc141 := NB226_262.out; have hnb142 := NB262_234.out; have hnc142 := NB234_262.out; have hcz143_0 : w137.cell? ⟨gb262, 0, none⟩ = some (.slice none 0 0) := bc BK262 0; have hfz143_0 := blk_frozen BK262.out 0))
             (try simp only [Act.put, zA, zB, zC])
             go_cut [108] (fun v108 wc => ∃ (kq : Nat) (x108_120 : Bool), v108 = .bool x108_120 ∧ Aside0 (laws_FnExactLoseDisk.j2 kq t249 x108_120 t250 = some r) ∧ Aside0 (kq ≤ kj73) ∧ Aside0 (Kd.R k124 124 wc w.heap.size (fun k_ => some k_ ≠ ((.slice Ao33 t245.length co33) : Value).ownBlock ∧ some k_ ≠ ((.slice Ao42 t230.length co42) : Value).ownBlock ∧ some k_ ≠ ((.slice Ao138 t258.length co138) : Value).ownBlock) (.slice Ao27 t218.length co27) t218) ∧ Aside0 (Kd.R k124 124 wc w.heap.size (fun k_ => some k_ ≠ ((.slice Ao27 t218.length co27) : Value).ownBlock ∧ some k_ ≠ ((.slice Ao42 t230.length co42) : Value).ownBlock ∧ some k_ ≠ ((.slice Ao138 t258.length co138) : Value).ownBlock) (.slice Ao33 t245.length co33) t245) ∧ Aside0 (Kd.R k124 124 wc w.heap.size (fun k_ => some k_ ≠ ((.slice Ao27 t218.length co27) : Value).ownBlock ∧ some k_ ≠ ((.slice Ao33 t245.length co33) : Value).ownBlock ∧ some k_ ≠ ((.slice Ao138 t258.length co138) : Value).ownBlock) (.slice Ao42 t230.length co42) t250) ∧ Aside0 (Kd.R k124 124 wc w.heap.size (fun k_ => some k_ ≠ ((.slice Ao27 t218.length co27) : Value).ownBlock ∧ some k_ ≠ ((.slice Ao33 t245.length co33) : Value).ownBlock ∧ some k_ ≠ ((.slice Ao42 t230.length co42) : Value).ownBlock) (.slice Ao138 t258.length co138) t258) ∧ Aside0 (wc.heap[gb210]? = some (.cells #[(.slice A0_0 l0_0.length c0_0)] 69 (0, 0))) ∧ Aside0 (wc.heap[gb222]? = some (.cells #[(.slice Ao27 t218.length co27)] 73 (0, 0))) ∧ Aside0 (wc.heap[gb226]? = some (.cells #[(.slice Ao33 t245.length co33)] 73 (0, 0))) ∧ Aside0 (wc.heap[gb234]? = some (.cells #[(.slice Ao42 t230.length co42)] 73 (0, 0))) ∧ Aside0 (wc.heap[gb262]? = some (.cells #[(.slice Ao138 t258.length co138)] 73 (0, 0))) ∧ Aside0 (Below w.heap.size w wc))
             case first =>
              have H := HC121.out
              clear HC121
              replace H := Option.bind_eq_some_iff.mp H
              obtain ⟨t263, A1440, H⟩ := H
              replace H : (if t263 = true then (laws_FnExactLoseDisk.j2 kj73 t249 (t261 != t221) t250) else (laws_FnExactLoseDisk.j2 kj73 t249 true t250)) = some r := H
              have A144 := Aside0.mk A1440
              clear A1440
              by_cases c145 : t263 = true
              ·subst c145
               have H1 : (laws_FnExactLoseDisk.j2 kj73 t249 (t261 != t221) t250) = some r := by rw [if_pos rfl] at H; exact H
               clear H
               have H := H1
               clear H1
               have H' := Aside0.mk H
               clear H
               have hnb146 := NB262_210.out
               have hnc146 := NB210_262.out
               have hnb147 := NB262_222.out
               have hnc147 := NB222_262.out
               have hnb148 := NB262_226.out
               have hnc148 := NB226_262.out
               have hnb149 := NB262_234.out
               have hnc149 := NB234_262.out
               have hcz150_0 : w137.cell? ⟨gb262, 0, none⟩ = some (.slice none 0 0) := bc BK262 0
               have hfz150_0 := blk_frozen BK262.out 0
               have hnb151 := NB222_210.out
               have hnc151 := NB210_222.out
               have hnb152 := NB222_226.out
               have hnc152 := NB226_222.out
               have hnb153 := NB222_234.out
               have hnc153 := NB234_222.out
               have hcz154_0 : w137.cell? ⟨gb222, 0, none⟩ = some (.slice Ao27 t218.length co27) := bc BK222 0
               have hfz154_0 := blk_frozen BK222.out 0
               go_wp2_with (first | ((with_reducible refine gate_callee (f := 40) rfl ?_); refine goesL_ (some 102) rfl rfl Try.func40 (by kernel_rfl) rfl #[.agg #[.slice Ao138 t258.length co138], .agg #[.slice Ao27 t218.length co27]] rfl (by (try simp only [List.map_toArray, List.map_cons, List.map_nil]); first | done | rfl | (simp only [List.length_drop, List.length_take]; rfl)) ?_; (with_reducible refine (laws_eqDisk.calls kj73 _ _ t258 _ _ t218 true _ ?side1 ?side2 ?side3 ?side4 A144.out).mono ?_); (case side1 => refine (Kd.R_reads' (e := 124) (base := w.heap.size) (ok := fun k_ => ((((True ∧ some k_ ≠ (.slice Ao27 t218.length co27 : Value).ownBlock) ∧ some k_ ≠ (.slice Ao33 t245.length co33 : Value).ownBlock) ∧ some k_ ≠ (.slice Ao42 t230.length co42 : Value).ownBlock) ∧ some k_ ≠ (.slice Ao134 t252.length co134 : Value).ownBlock)) (n := t258.length) (c := co138) ?_).2.2; exact (by (with_reducible repeat (first | apply Kd.R_alloc | apply Kd.R_drewN | apply Kd.R_drew)); exact (Kd.R_mono (Kd.R_far (p := ⟨gb262, 0, none⟩) (Kd.R_types HO260.out BK262.out (by decide)) (fun _ hk => hk.2) (.slice Ao138 t258.length co138)) (fun _ h_ => h_.1)))); (case side2 => exact (Kd.R_reads' HO260.out).2.1); (case side3 => refine (Kd.R_reads' (e := 124) (base := w.heap.size) (ok := fun k_ => (((some k_ ≠ (.slice Ao33 t245.length co33 : Value).ownBlock ∧ some k_ ≠ (.slice Ao42 t230.length co42 : Value).ownBlock) ∧ some k_ ≠ (.slice Ao134 t252.length co134 : Value).ownBlock) ∧ some k_ ≠ (.slice Ao138 t258.length co138 : Value).ownBlock)) (n := t218.length) (c := co27) ?_).2.2; exact (by (with_reducible repeat (first | apply Kd.R_alloc | apply Kd.R_drewN | apply Kd.R_drew)); exact (Kd.R_mono (Kd.R_far (p := ⟨gb262, 0, none⟩) (Kd.R_types HO_223000.out BK262.out (by decide)) (fun _ hk => hk.2) (.slice Ao138 t258.length co138)) (fun _ h_ => h_.1)))); (case side4 => exact (Kd.R_reads' HO_223000.out).2.1); rintro e w155 ⟨rfl, hb⟩; refine ⟨_, rfl, ?_⟩; have n0_ := Aside0.mk (Kd.R_below (by (with_reducible repeat (first | apply Kd.R_alloc | apply Kd.R_drewN | apply Kd.R_drew)); exact (Kd.R_mono (Kd.R_far (p := ⟨gb262, 0, none⟩) (Kd.R_types HO_223000.out BK262.out (by decide)) (fun _ hk => hk.2) (.slice Ao138 t258.length co138)) (fun _ h_ => h_.1))) hb); have n1_ := Aside0.mk (Kd.R_below (by (with_reducible repeat (first | apply Kd.R_alloc | apply Kd.R_drewN | apply Kd.R_drew)); exact (Kd.R_mono (Kd.R_far (p := ⟨gb262, 0, none⟩) (Kd.R_types HO_227000.out BK262.out (by decide)) (fun _ hk => hk.2) (.slice Ao138 t258.length co138)) (fun _ h_ => h_.1))) hb); have n2_ := Aside0.mk (Kd.R_below (by (with_reducible repeat (first | apply Kd.R_alloc | apply Kd.R_drewN | apply Kd.R_drew)); exact (Kd.R_mono (Kd.R_far (p := ⟨gb262, 0, none⟩) (Kd.R_types HO_235000.out BK262.out (by decide)) (fun _ hk => hk.2) (.slice Ao138 t258.length co138)) (fun _ h_ => h_.1))) hb); have n3_ := Aside0.mk (Kd.R_below (by (with_reducible repeat (first | apply Kd.R_alloc | apply Kd.R_drewN | apply Kd.R_drew)); exact (Kd.R_mono (Kd.R_far (p := ⟨gb262, 0, none⟩) (Kd.R_types HO254.out BK262.out (by decide)) (fun _ hk => hk.2) (.slice Ao138 t258.length co138)) (fun _ h_ => h_.1))) hb); have n4_ := Aside0.mk (Kd.R_below (by (with_reducible repeat (first | apply Kd.R_alloc | apply Kd.R_drewN | apply Kd.R_drew)); exact (Kd.R_mono (Kd.R_far (p := ⟨gb262, 0, none⟩) (Kd.R_types HO257.out BK262.out (by decide)) (fun _ hk => hk.2) (.slice Ao138 t258.length co138)) (fun _ h_ => h_.1))) hb); have n5_ := Aside0.mk (Kd.R_below (by (with_reducible repeat (first | apply Kd.R_alloc | apply Kd.R_drewN | apply Kd.R_drew)); exact (Kd.R_mono (Kd.R_far (p := ⟨gb262, 0, none⟩) (Kd.R_types HO260.out BK262.out (by decide)) (fun _ hk => hk.2) (.slice Ao138 t258.length co138)) (fun _ h_ => h_.1))) hb); have n6_ := Aside0.mk (blk_below (g := gb210) (o := .cells #[.slice A0_0 l0_0.length c0_0] 69 (0, 0)) (by refine bk_ ?_; refine blk_far ?_ NB210_262.out _; refine bk_ ?_; exact BK210.out) hb); have n7_ := Aside0.mk (blk_below (g := gb222) (o := .cells #[.slice Ao27 t218.length co27] 73 (0, 0)) (by refine bk_ ?_; refine blk_far ?_ NB222_262.out _; refine bk_ ?_; exact BK222.out) hb); have n8_ := Aside0.mk (blk_below (g := gb226) (o := .cells #[.slice Ao33 t245.length co33] 73 (0, 0)) (by refine bk_ ?_; refine blk_far ?_ NB226_262.out _; refine bk_ ?_; exact BK226.out) hb); have n9_ := Aside0.mk (blk_below (g := gb234) (o := .cells #[.slice Ao42 t230.length co42] 73 (0, 0)) (by refine bk_ ?_; refine blk_far ?_ NB234_262.out _; refine bk_ ?_; exact BK234.out) hb); have n10_ := Aside0.mk (blk_below (g := gb262) (o := .cells #[.slice Ao138 t258.length co138] 73 (0, 0)) (by refine bk_ ?_; refine blk_put (cs := #[.slice none 0 0]) ?_ 0 _ rfl; refine bk_ ?_; exact BK262.out) hb); have n11_ := Aside0.mk (below_step (bt HB) hb); clear HO_223000 HO_227000 HO_235000 HO254 HO257 HO260 BK210 BK222 BK226 BK234 BK262 HB; revert n0_ n1_ n2_ n3_ n4_ n5_ n6_ n7_ n8_ n9_ n10_ n11_; intro HO_223000 HO_227000 HO_235000 HO254 HO257 HO260 BK210 BK222 BK226 BK234 BK262 HB; (try clear hb); (try clear hb2); (try clear hk); (try clear hi)))
               go_meet
               case rel => exact ⟨_, ((t261 != t221)), (by first | rfl | (simp; done) | (simp [*]; done)), H', ⟨by have := HJ15.out; have := HJ73.out; first | omega | exact Nat.le_refl _⟩, ⟨by (try simp only [hl227000_73]); (with_reducible repeat (first | apply Kd.R_alloc | apply Kd.R_drewN | apply Kd.R_drew)); exact Kd.R_mono HO_223000.out (fun _ hk => ⟨hk.1.1.1, ⟨hk.1.1.2, hk.2⟩⟩)⟩, ⟨by (try simp only [hl227000_73]); (with_reducible repeat (first | apply Kd.R_alloc | apply Kd.R_drewN | apply Kd.R_drew)); exact Kd.R_mono HO_227000.out (fun _ hk => ⟨hk.1.1.1, ⟨hk.1.1.2, hk.2⟩⟩)⟩, ⟨by (try simp only [hl227000_73]); (with_reducible repeat (first | apply Kd.R_alloc | apply Kd.R_drewN | apply Kd.R_drew)); exact Kd.R_mono HO_235000.out (fun _ hk => ⟨hk.1.1.1, ⟨hk.1.1.2, hk.2⟩⟩)⟩, ⟨by (try simp only [hl227000_73]); (with_reducible repeat (first | apply Kd.R_alloc | apply Kd.R_drewN | apply Kd.R_drew)); exact Kd.R_mono HO260.out (fun _ hk => ⟨hk.1.1.1.2, ⟨hk.1.1.2, hk.1.2⟩⟩)⟩, ⟨by (try simp only [hl227000_73]); refine bk_ ?_; exact BK210.out⟩, ⟨by (try simp only [hl227000_73]); refine bk_ ?_; exact BK222.out⟩, ⟨by (try simp only [hl227000_73]); refine bk_ ?_; exact BK226.out⟩, ⟨by (try simp only [hl227000_73]); refine bk_ ?_; exact BK234.out⟩, ⟨by (try simp only [hl227000_73]); refine bk_ ?_; exact BK262.out⟩, ⟨bt HB⟩⟩
              ·replace c145 := Bool.eq_false_iff.mpr c145
               subst c145
               have H1 : (laws_FnExactLoseDisk.j2 kj73 t249 true t250) = some r := by rw [if_neg (show ¬ (false = true) by decide)] at H; exact H
               clear H
               have H := H1
               clear H1
               have H' := Aside0.mk H
               clear H
               have hnb156 := NB262_210.out
               have hnc156 := NB210_262.out
               have hnb157 := NB262_222.out
               have hnc157 := NB222_262.out
               have hnb158 := NB262_226.out
               have hnc158 := NB226_262.out
               have hnb159 := NB262_234.out
               have hnc159 := NB234_262.out
               have hcz160_0 : w137.cell? ⟨gb262, 0, none⟩ = some (.slice none 0 0) := bc BK262 0
               have hfz160_0 := blk_frozen BK262.out 0
               have hnb161 := NB222_210.out
               have hnc161 := NB210_222.out
               have hnb162 := NB222_226.out
               have hnc162 := NB226_222.out
               have hnb163 := NB222_234.out
               have hnc163 := NB234_222.out
               have hcz164_0 : w137.cell? ⟨gb222, 0, none⟩ = some (.slice Ao27 t218.length co27) := bc BK222 0
               have hfz164_0 := blk_frozen BK222.out 0
               go_wp2_with (first | ((with_reducible refine gate_callee (f := 40) rfl ?_); refine goesL_ (some 102) rfl rfl Try.func40 (by kernel_rfl) rfl #[.agg #[.slice Ao138 t258.length co138], .agg #[.slice Ao27 t218.length co27]] rfl (by (try simp only [List.map_toArray, List.map_cons, List.map_nil]); first | done | rfl | (simp only [List.length_drop, List.length_take]; rfl)) ?_; (with_reducible refine (laws_eqDisk.calls kj73 _ _ t258 _ _ t218 false _ ?side1 ?side2 ?side3 ?side4 A144.out).mono ?_); (case side1 => refine (Kd.R_reads' (e := 124) (base := w.heap.size) (ok := fun k_ => ((((True ∧ some k_ ≠ (.slice Ao27 t218.length co27 : Value).ownBlock) ∧ some k_ ≠ (.slice Ao33 t245.length co33 : Value).ownBlock) ∧ some k_ ≠ (.slice Ao42 t230.length co42 : Value).ownBlock) ∧ some k_ ≠ (.slice Ao134 t252.length co134 : Value).ownBlock)) (n := t258.length) (c := co138) ?_).2.2; exact (by (with_reducible repeat (first | apply Kd.R_alloc | apply Kd.R_drewN | apply Kd.R_drew)); exact (Kd.R_mono (Kd.R_far (p := ⟨gb262, 0, none⟩) (Kd.R_types HO260.out BK262.out (by decide)) (fun _ hk => hk.2) (.slice Ao138 t258.length co138)) (fun _ h_ => h_.1)))); (case side2 => exact (Kd.R_reads' HO260.out).2.1); (case side3 => refine (Kd.R_reads' (e := 124) (base := w.heap.size) (ok := fun k_ => (((some k_ ≠ (.slice Ao33 t245.length co33 : Value).ownBlock ∧ some k_ ≠ (.slice Ao42 t230.length co42 : Value).ownBlock) ∧ some k_ ≠ (.slice Ao134 t252.length co134 : Value).ownBlock) ∧ some k_ ≠ (.slice Ao138 t258.length co138 : Value).ownBlock)) (n := t218.length) (c := co27) ?_).2.2; exact (by (with_reducible repeat (first | apply Kd.R_alloc | apply Kd.R_drewN | apply Kd.R_drew)); exact (Kd.R_mono (Kd.R_far (p := ⟨gb262, 0, none⟩) (Kd.R_types HO_223000.out BK262.out (by decide)) (fun _ hk => hk.2) (.slice Ao138 t258.length co138)) (fun _ h_ => h_.1)))); (case side4 => exact (Kd.R_reads' HO_223000.out).2.1); rintro e w165 ⟨rfl, hb⟩; refine ⟨_, rfl, ?_⟩; have n0_ := Aside0.mk (Kd.R_below (by (with_reducible repeat (first | apply Kd.R_alloc | apply Kd.R_drewN | apply Kd.R_drew)); exact (Kd.R_mono (Kd.R_far (p := ⟨gb262, 0, none⟩) (Kd.R_types HO_223000.out BK262.out (by decide)) (fun _ hk => hk.2) (.slice Ao138 t258.length co138)) (fun _ h_ => h_.1))) hb); have n1_ := Aside0.mk (Kd.R_below (by (with_reducible repeat (first | apply Kd.R_alloc | apply Kd.R_drewN | apply Kd.R_drew)); exact (Kd.R_mono (Kd.R_far (p := ⟨gb262, 0, none⟩) (Kd.R_types HO_227000.out BK262.out (by decide)) (fun _ hk => hk.2) (.slice Ao138 t258.length co138)) (fun _ h_ => h_.1))) hb); have n2_ := Aside0.mk (Kd.R_below (by (with_reducible repeat (first | apply Kd.R_alloc | apply Kd.R_drewN | apply Kd.R_drew)); exact (Kd.R_mono (Kd.R_far (p := ⟨gb262, 0, none⟩) (Kd.R_types HO_235000.out BK262.out (by decide)) (fun _ hk => hk.2) (.slice Ao138 t258.length co138)) (fun _ h_ => h_.1))) hb); have n3_ := Aside0.mk (Kd.R_below (by (with_reducible repeat (first | apply Kd.R_alloc | apply Kd.R_drewN | apply Kd.R_drew)); exact (Kd.R_mono (Kd.R_far (p := ⟨gb262, 0, none⟩) (Kd.R_types HO254.out BK262.out (by decide)) (fun _ hk => hk.2) (.slice Ao138 t258.length co138)) (fun _ h_ => h_.1))) hb); have n4_ := Aside0.mk (Kd.R_below (by (with_reducible repeat (first | apply Kd.R_alloc | apply Kd.R_drewN | apply Kd.R_drew)); exact (Kd.R_mono (Kd.R_far (p := ⟨gb262, 0, none⟩) (Kd.R_types HO257.out BK262.out (by decide)) (fun _ hk => hk.2) (.slice Ao138 t258.length co138)) (fun _ h_ => h_.1))) hb); have n5_ := Aside0.mk (Kd.R_below (by (with_reducible repeat (first | apply Kd.R_alloc | apply Kd.R_drewN | apply Kd.R_drew)); exact (Kd.R_mono (Kd.R_far (p := ⟨gb262, 0, none⟩) (Kd.R_types HO260.out BK262.out (by decide)) (fun _ hk => hk.2) (.slice Ao138 t258.length co138)) (fun _ h_ => h_.1))) hb); have n6_ := Aside0.mk (blk_below (g := gb210) (o := .cells #[.slice A0_0 l0_0.length c0_0] 69 (0, 0)) (by refine bk_ ?_; refine blk_far ?_ NB210_262.out _; refine bk_ ?_; exact BK210.out) hb); have n7_ := Aside0.mk (blk_below (g := gb222) (o := .cells #[.slice Ao27 t218.length co27] 73 (0, 0)) (by refine bk_ ?_; refine blk_far ?_ NB222_262.out _; refine bk_ ?_; exact BK222.out) hb); have n8_ := Aside0.mk (blk_below (g := gb226) (o := .cells #[.slice Ao33 t245.length co33] 73 (0, 0)) (by refine bk_ ?_; refine blk_far ?_ NB226_262.out _; refine bk_ ?_; exact BK226.out) hb); have n9_ := Aside0.mk (blk_below (g := gb234) (o := .cells #[.slice Ao42 t230.length co42] 73 (0, 0)) (by refine bk_ ?_; refine blk_far ?_ NB234_262.out _; refine bk_ ?_; exact BK234.out) hb); have n10_ := Aside0.mk (blk_below (g := gb262) (o := .cells #[.slice Ao138 t258.length co138] 73 (0, 0)) (by refine bk_ ?_; refine blk_put (cs := #[.slice none 0 0]) ?_ 0 _ rfl; refine bk_ ?_; exact BK262.out) hb); have n11_ := Aside0.mk (below_step (bt HB) hb); clear HO_223000 HO_227000 HO_235000 HO254 HO257 HO260 BK210 BK222 BK226 BK234 BK262 HB; revert n0_ n1_ n2_ n3_ n4_ n5_ n6_ n7_ n8_ n9_ n10_ n11_; intro HO_223000 HO_227000 HO_235000 HO254 HO257 HO260 BK210 BK222 BK226 BK234 BK262 HB; (try clear hb); (try clear hb2); (try clear hk); (try clear hi)))
               go_meet
               case rel => exact ⟨_, (true), (by first | rfl | (simp; done) | (simp [*]; done)), H', ⟨by have := HJ15.out; have := HJ73.out; first | omega | exact Nat.le_refl _⟩, ⟨by (try simp only [hl227000_73]); (with_reducible repeat (first | apply Kd.R_alloc | apply Kd.R_drewN | apply Kd.R_drew)); exact Kd.R_mono HO_223000.out (fun _ hk => ⟨hk.1.1.1, ⟨hk.1.1.2, hk.2⟩⟩)⟩, ⟨by (try simp only [hl227000_73]); (with_reducible repeat (first | apply Kd.R_alloc | apply Kd.R_drewN | apply Kd.R_drew)); exact Kd.R_mono HO_227000.out (fun _ hk => ⟨hk.1.1.1, ⟨hk.1.1.2, hk.2⟩⟩)⟩, ⟨by (try simp only [hl227000_73]); (with_reducible repeat (first | apply Kd.R_alloc | apply Kd.R_drewN | apply Kd.R_drew)); exact Kd.R_mono HO_235000.out (fun _ hk => ⟨hk.1.1.1, ⟨hk.1.1.2, hk.2⟩⟩)⟩, ⟨by (try simp only [hl227000_73]); (with_reducible repeat (first | apply Kd.R_alloc | apply Kd.R_drewN | apply Kd.R_drew)); exact Kd.R_mono HO260.out (fun _ hk => ⟨hk.1.1.1.2, ⟨hk.1.1.2, hk.1.2⟩⟩)⟩, ⟨by (try simp only [hl227000_73]); refine bk_ ?_; exact BK210.out⟩, ⟨by (try simp only [hl227000_73]); refine bk_ ?_; exact BK222.out⟩, ⟨by (try simp only [hl227000_73]); refine bk_ ?_; exact BK226.out⟩, ⟨by (try simp only [hl227000_73]); refine bk_ ?_; exact BK234.out⟩, ⟨by (try simp only [hl227000_73]); refine bk_ ?_; exact BK262.out⟩, ⟨bt HB⟩⟩
             case rest =>
              clear HC121
              try clear c1
              try clear c2
              try clear p2
              try clear c3
              try clear c3b0
              try clear c3b1
              try clear c4
              try clear c5
              try clear c6
              try clear c6b0
              try clear c7
              try clear c8
              try clear c9
              try clear c10
              try clear c11
              try clear c12
              try clear c13
              try clear c14
              try clear c15
              try clear c16
              try clear c28
              try clear c34
              try clear c35
              try clear c36
              try clear c37
              try clear c38
              try clear c39
              try clear c40
              try clear c41
              try clear c42
              try clear c43
              try clear c44
              try clear c45
              try clear c48
              try clear c49
              try clear c50
              try clear c51
              try clear c53
              try clear c54
              try clear c57
              try clear c58
              try clear c59
              try clear c61
              try clear c62
              try clear c65
              try clear c68
              try clear c71
              try clear c81
              try clear c82
              try clear c83
              try clear c87
              try clear c87b0
              try clear c89
              try clear c90
              try clear c91
              try clear c92
              try clear c94
              try clear c95
              try clear c98
              try clear c99
              try clear c100
              try clear c102
              try clear c103
              try clear c106
              try clear c109
              try clear c109b0
              try clear c110
              try clear c111
              try clear c112
              try clear c117
              try clear c117b0
              try clear c117b1
              try clear c122
              try clear c123
              try clear c124
              try clear c129
              try clear c130
              try clear c139
              try clear c140
              try clear c141
              try clear c142
              try clear c145
              try clear c146
              try clear c147
              try clear c148
              try clear c149
              try clear c151
              try clear c152
              try clear c153
              try clear c156
              try clear c157
              try clear c158
              try clear c159
              try clear c161
              try clear c162
              try clear c163
              try clear hcz101_0
              try clear hcz104_0
              try clear hcz113_0
              try clear hcz115_0
              try clear hcz125_0
              try clear hcz127_0
              try clear hcz131_0
              try clear hcz143_0
              try clear hcz150_0
              try clear hcz154_0
              try clear hcz160_0
              try clear hcz164_0
              try clear hcz18_0
              try clear hcz20_0
              try clear hcz29_0
              try clear hcz30_0
              try clear hcz36_0
              try clear hcz38_0
              try clear hcz46_0
              try clear hcz52_0
              try clear hcz55_0
              try clear hcz60_0
              try clear hcz63_0
              try clear hcz84_0
              try clear hcz8_0
              try clear hcz93_0
              try clear hcz96_0
              try clear hfz101_0
              try clear hfz104_0
              try clear hfz113_0
              try clear hfz115_0
              try clear hfz125_0
              try clear hfz127_0
              try clear hfz131_0
              try clear hfz143_0
              try clear hfz150_0
              try clear hfz154_0
              try clear hfz160_0
              try clear hfz164_0
              try clear hfz18_0
              try clear hfz20_0
              try clear hfz29_0
              try clear hfz30_0
              try clear hfz36_0
              try clear hfz38_0
              try clear hfz46_0
              try clear hfz52_0
              try clear hfz55_0
              try clear hfz60_0
              try clear hfz63_0
              try clear hfz84_0
              try clear hfz8_0
              try clear hfz93_0
              try clear hfz96_0
              try clear p2
              obtain ⟨kq, x108_120, rfl, HA, HJ120, HO_223000, HO_227000, HO_235000, HO_263000, BK210, BK222, BK226, BK234, BK262, HB⟩ := hcut
              have hl235000_120 := (Kd.R_reads' HO_235000.out).1
              rw [hl235000_120] at HO_235000
              (try simp only [hl235000_120])
              (try simp only [hl235000_120] at BK210)
              (try simp only [hl235000_120] at BK222)
              (try simp only [hl235000_120] at BK226)
              (try simp only [hl235000_120] at BK234)
              (try simp only [hl235000_120] at BK262)
              (try simp only [hl235000_120] at HO_223000)
              (try simp only [hl235000_120] at HO_227000)
              (try simp only [hl235000_120] at HO_263000)
              cases kq with
              | zero => exact absurd HA.out (by simp [laws_FnExactLoseDisk.j2])
              | succ kj120 =>
               have H := HA.out
               clear HA
               simp only [laws_FnExactLoseDisk.j2] at H
               by_cases c166 : x108_120 = true
               ·subst c166
                have H1 : (some false) = some r := by rw [if_pos rfl] at H; exact H
                clear H
                have H := H1
                clear H1
                obtain rfl := Option.some.inj H
                go_wp2
                go_ret
                exact ⟨by first | rfl | (simp [errW_none, errW_some] <;> rfl) | (simp [*, errW_none, errW_some] <;> rfl), bt HB⟩
               ·replace c166 := Bool.eq_false_iff.mpr c166
                subst c166
                have H1 : ((laws_heldDisk.f kj120 t250 1).bind fun t264 => (if t264 < 0 then (some false) else (if t264 = t249 then (some true) else (some false)))) = some r := by rw [if_neg (show ¬ (false = true) by decide)] at H; exact H
                clear H
                have H := H1
                clear H1
                replace H := Option.bind_eq_some_iff.mp H
                obtain ⟨t264, A1670, H⟩ := H
                replace H : (if t264 < 0 then (some false) else (if t264 = t249 then (some true) else (some false))) = some r := H
                have A167 := Aside0.mk A1670
                clear A1670
                by_cases c168 : t264 < 0
                ·rw [if_pos c168] at H
                 have c168b0 : decide (t264 < 0) = true := decide_eq_true c168
                 clear c168
                 obtain rfl := Option.some.inj H
                 have hnb169 := NB234_210.out
                 have hnc169 := NB210_234.out
                 have hnb170 := NB234_222.out
                 have hnc170 := NB222_234.out
                 have hnb171 := NB234_226.out
                 have hnc171 := NB226_234.out
                 have hnb172 := NB234_262.out
                 have hnc172 := NB262_234.out
                 have hcz173_0 : wc.cell? ⟨gb234, 0, none⟩ = some (.slice Ao42 t250.length co42) := bc BK234 0
                 have hfz173_0 := blk_frozen BK234.out 0
                 go_wp2_with (first | ((with_reducible refine gate_callee (f := 44) rfl ?_); refine goesL_ (some 111) rfl rfl Try.func44 (by kernel_rfl) rfl #[.agg #[.slice Ao42 t250.length co42], .int .i64 1] rfl (by (try simp only [List.map_toArray, List.map_cons, List.map_nil]); first | done | rfl | (simp only [List.length_drop, List.length_take]; rfl)) ?_; (with_reducible refine (laws_heldDisk.calls kj120 _ _ t250 1 t264 _ ?side1 ?side2 A167.out).mono ?_); (case side1 => repeat (first | exact (Kd.R_reads' HO_235000.out).2.2 | (with_reducible refine Kd.C_alloc ?_ _) | (with_reducible refine Kd.C_drewN ?_ _) | (with_reducible refine Kd.C_drew ?_))); (case side2 => exact (Kd.R_reads' HO_235000.out).2.1); rintro e w174 ⟨rfl, hb⟩; refine ⟨_, rfl, ?_⟩; have n0_ := rb HO_223000 hb; have n1_ := rb HO_227000 hb; have n2_ := rb HO_235000 hb; have n3_ := rb HO_263000 hb; have n4_ := bb BK210 hb; have n5_ := bb BK222 hb; have n6_ := bb BK226 hb; have n7_ := bb BK234 hb; have n8_ := bb BK262 hb; have n9_ := Aside0.mk (below_step (bt HB) hb); clear HO_223000 HO_227000 HO_235000 HO_263000 BK210 BK222 BK226 BK234 BK262 HB; revert n0_ n1_ n2_ n3_ n4_ n5_ n6_ n7_ n8_ n9_; intro HO_223000 HO_227000 HO_235000 HO_263000 BK210 BK222 BK226 BK234 BK262 HB; (try clear hb); (try clear hb2); (try clear hk); (try clear hi)))
                 go_ret
                 exact ⟨by first | rfl | (simp [errW_none, errW_some] <;> rfl) | (simp [*, errW_none, errW_some] <;> rfl), bt HB⟩
                ·rw [if_neg c168] at H
                 have c168b0 : decide (t264 < 0) = false := decide_eq_false c168
                 clear c168
                 by_cases c175 : t264 = t249
                 ·rw [if_pos c175] at H
                  have c175b0 : (t264 == t249) = true := beq_iff_eq.mpr c175
                  have c175b1 : (t264 != t249) = false := bne_eq_false_iff_eq.mpr c175
                  clear c175
                  obtain rfl := Option.some.inj H
                  have hnb176 := NB234_210.out
                  have hnc176 := NB210_234.out
                  have hnb177 := NB234_222.out
                  have hnc177 := NB222_234.out
                  have hnb178 := NB234_226.out
                  have hnc178 := NB226_234.out
                  have hnb179 := NB234_262.out
                  have hnc179 := NB262_234.out
                  have hcz180_0 : wc.cell? ⟨gb234, 0, none⟩ = some (.slice Ao42 t250.length co42) := bc BK234 0
                  have hfz180_0 := blk_frozen BK234.out 0
                  go_wp2_with (first | ((with_reducible refine gate_callee (f := 44) rfl ?_); refine goesL_ (some 111) rfl rfl Try.func44 (by kernel_rfl) rfl #[.agg #[.slice Ao42 t250.length co42], .int .i64 1] rfl (by (try simp only [List.map_toArray, List.map_cons, List.map_nil]); first | done | rfl | (simp only [List.length_drop, List.length_take]; rfl)) ?_; (with_reducible refine (laws_heldDisk.calls kj120 _ _ t250 1 t264 _ ?side1 ?side2 A167.out).mono ?_); (case side1 => repeat (first | exact (Kd.R_reads' HO_235000.out).2.2 | (with_reducible refine Kd.C_alloc ?_ _) | (with_reducible refine Kd.C_drewN ?_ _) | (with_reducible refine Kd.C_drew ?_))); (case side2 => exact (Kd.R_reads' HO_235000.out).2.1); rintro e w181 ⟨rfl, hb⟩; refine ⟨_, rfl, ?_⟩; have n0_ := rb HO_223000 hb; have n1_ := rb HO_227000 hb; have n2_ := rb HO_235000 hb; have n3_ := rb HO_263000 hb; have n4_ := bb BK210 hb; have n5_ := bb BK222 hb; have n6_ := bb BK226 hb; have n7_ := bb BK234 hb; have n8_ := bb BK262 hb; have n9_ := Aside0.mk (below_step (bt HB) hb); clear HO_223000 HO_227000 HO_235000 HO_263000 BK210 BK222 BK226 BK234 BK262 HB; revert n0_ n1_ n2_ n3_ n4_ n5_ n6_ n7_ n8_ n9_; intro HO_223000 HO_227000 HO_235000 HO_263000 BK210 BK222 BK226 BK234 BK262 HB; (try clear hb); (try clear hb2); (try clear hk); (try clear hi)))
                  go_ret
                  exact ⟨by first | rfl | (simp [errW_none, errW_some] <;> rfl) | (simp [*, errW_none, errW_some] <;> rfl), bt HB⟩
                 ·rw [if_neg c175] at H
                  have c175b0 : (t264 == t249) = false := beq_eq_false_iff_ne.mpr c175
                  have c175b1 : (t264 != t249) = true := bne_iff_ne.mpr c175
                  obtain rfl := Option.some.inj H
                  have hnb182 := NB234_210.out
                  have hnc182 := NB210_234.out
                  have hnb183 := NB234_222.out
                  have hnc183 := NB222_234.out
                  have hnb184 := NB234_226.out
                  have hnc184 := NB226_234.out
                  have hnb185 := NB234_262.out
                  have hnc185 := NB262_234.out
                  have hcz186_0 : wc.cell? ⟨gb234, 0, none⟩ = some (.slice Ao42 t250.length co42) := bc BK234 0
                  have hfz186_0 := blk_frozen BK234.out 0
                  go_wp2_with (first | ((with_reducible refine gate_callee (f := 44) rfl ?_); refine goesL_ (some 111) rfl rfl Try.func44 (by kernel_rfl) rfl #[.agg #[.slice Ao42 t250.length co42], .int .i64 1] rfl (by (try simp only [List.map_toArray, List.map_cons, List.map_nil]); first | done | rfl | (simp only [List.length_drop, List.length_take]; rfl)) ?_; (with_reducible refine (laws_heldDisk.calls kj120 _ _ t250 1 t264 _ ?side1 ?side2 A167.out).mono ?_); (case side1 => repeat (first | exact (Kd.R_reads' HO_235000.out).2.2 | (with_reducible refine Kd.C_alloc ?_ _) | (with_reducible refine Kd.C_drewN ?_ _) | (with_reducible refine Kd.C_drew ?_))); (case side2 => exact (Kd.R_reads' HO_235000.out).2.1); rintro e w187 ⟨rfl, hb⟩; refine ⟨_, rfl, ?_⟩; have n0_ := rb HO_223000 hb; have n1_ := rb HO_227000 hb; have n2_ := rb HO_235000 hb; have n3_ := rb HO_263000 hb; have n4_ := bb BK210 hb; have n5_ := bb BK222 hb; have n6_ := bb BK226 hb; have n7_ := bb BK234 hb; have n8_ := bb BK262 hb; have n9_ := Aside0.mk (below_step (bt HB) hb); clear HO_223000 HO_227000 HO_235000 HO_263000 BK210 BK222 BK226 BK234 BK262 HB; revert n0_ n1_ n2_ n3_ n4_ n5_ n6_ n7_ n8_ n9_; intro HO_223000 HO_227000 HO_235000 HO_263000 BK210 BK222 BK226 BK234 BK262 HB; (try clear hb); (try clear hb2); (try clear hk); (try clear hi)))
                  go_ret
                  exact ⟨by first | rfl | (simp [errW_none, errW_some] <;> rfl) | (simp [*, errW_none, errW_some] <;> rfl), bt HB⟩
            ·rw [if_neg c117] at H
             have c117b0 : (t251 == t249) = false := beq_eq_false_iff_ne.mpr c117
             have c117b1 : (t251 != t249) = true := bne_iff_ne.mpr c117
             obtain rfl := Option.some.inj H
             have hnb188 := NB234_210.out
             have hnc188 := NB210_234.out
             have hnb189 := NB234_222.out
             have hnc189 := NB222_234.out
             have hnb190 := NB234_226.out
             have hnc190 := NB226_234.out
             have hcz191_0 : wc.cell? ⟨gb234, 0, none⟩ = some (.slice Ao42 t230.length co42) := bc BK234 0
             have hfz191_0 := blk_frozen BK234.out 0
             go_wp2_with (first | ((with_reducible refine gate_callee (f := 42) rfl ?_); refine goesL_ (some 83) rfl rfl Try.func42 (by kernel_rfl) rfl #[.agg #[.slice Ao42 t230.length co42], .int .i64 1] rfl (by (try simp only [List.map_toArray, List.map_cons, List.map_nil]); first | done | rfl | (simp only [List.length_drop, List.length_take]; rfl)) ?_; (with_reducible refine (laws_markDisk.calls kj73 (fun k_ => some k_ = (.slice Ao42 t230.length co42 : Value).ownBlock) (.slice Ao42 t230.length co42) t230 1 t249 t250 w _ ?side1 ?side2 A107.out).mono ?_); (case side1 => repeat (first | (with_reducible first | exact HB.out | apply below_alloc | apply pw_below_drewN | apply below_drew1 | refine below_set ?_ GE210.out | refine below_set ?_ GE222.out | refine below_set ?_ GE226.out | refine below_set ?_ GE234.out) | exact HB.out)); (case side2 => exact Kd.R_tight rfl HO_235000.out); rintro e w192 ⟨rfl, hy0, hb, hkp⟩; refine ⟨_, rfl, ?_⟩; have n0_ := Aside0.mk (Kd.R_mono (ok' := fun k_ => some k_ ≠ (.slice Ao33 t245.length co33 : Value).ownBlock ∧ some k_ ≠ (.slice Ao42 t230.length co42 : Value).ownBlock) (Kd.R_keptB (HO_223000.out) hkp (fun k_ hk_ hs_ => (hk_.2) hs_)) (fun k_ hk_ => ⟨hk_.1.1, hk_.1.2⟩)); have n1_ := Aside0.mk (Kd.R_mono (ok' := fun k_ => some k_ ≠ (.slice Ao27 t218.length co27 : Value).ownBlock ∧ some k_ ≠ (.slice Ao42 t230.length co42 : Value).ownBlock) (Kd.R_keptB (HO_227000.out) hkp (fun k_ hk_ hs_ => (hk_.2) hs_)) (fun k_ hk_ => ⟨hk_.1.1, hk_.1.2⟩)); have n2_ := Aside0.mk (Kd.R_reok rfl hy0 (fun k_ e_ => HO_235000.out.1 k_ e_)); have n3_ := Aside0.mk (blk_kept (bk BK210) hkp (fun hs_ => (fun e_ => (Kd.R_ne HO_235000.out BK210.out (by decide)) e_) hs_)); have n4_ := Aside0.mk (blk_kept (bk BK222) hkp (fun hs_ => (fun e_ => (Kd.R_ne HO_235000.out BK222.out (by decide)) e_) hs_)); have n5_ := Aside0.mk (blk_kept (bk BK226) hkp (fun hs_ => (fun e_ => (Kd.R_ne HO_235000.out BK226.out (by decide)) e_) hs_)); have n6_ := Aside0.mk (blk_kept (bk BK234) hkp (fun hs_ => (fun e_ => (Kd.R_ne HO_235000.out BK234.out (by decide)) e_) hs_)); have n7_ := Aside0.mk (hb); clear HO_223000 HO_227000 HO_235000 BK210 BK222 BK226 BK234 HB; revert n0_ n1_ n2_ n3_ n4_ n5_ n6_ n7_; intro HO_223000 HO_227000 HO_235000 BK210 BK222 BK226 BK234 HB; (try clear hb); (try clear hkp); (try clear hy0); have hcz193_0 : w192.cell? ⟨gb234, 0, none⟩ = some (.slice Ao42 t230.length co42) := bc BK234 0; have hfz193_0 := blk_frozen BK234.out 0) | ((with_reducible refine gate_callee (f := 44) rfl ?_); refine goesL_ (some 86) rfl rfl Try.func44 (by kernel_rfl) rfl #[.agg #[.slice Ao42 t250.length co42], .int .i64 1] rfl (by (try simp only [List.map_toArray, List.map_cons, List.map_nil]); first | done | (rw [show t250.length = t230.length from (Kd.R_reads' HO_235000.out).1.symm] <;> rfl) | rfl | (simp only [List.length_drop, List.length_take]; rfl)) ?_; (with_reducible refine (laws_heldDisk.calls kj73 _ _ t250 1 t251 _ ?side1 ?side2 A108.out).mono ?_); (case side1 => repeat (first | exact (Kd.R_reads' HO_235000.out).2.2 | (with_reducible refine Kd.C_alloc ?_ _) | (with_reducible refine Kd.C_drewN ?_ _) | (with_reducible refine Kd.C_drew ?_))); (case side2 => rw [show t250.length = t230.length from (Kd.R_reads' HO_235000.out).1.symm]; exact (Kd.R_reads' HO_235000.out).2.1); rintro e w194 ⟨rfl, hb⟩; refine ⟨_, rfl, ?_⟩; have n0_ := rb HO_223000 hb; have n1_ := rb HO_227000 hb; have n2_ := rb HO_235000 hb; have n3_ := bb BK210 hb; have n4_ := bb BK222 hb; have n5_ := bb BK226 hb; have n6_ := bb BK234 hb; have n7_ := Aside0.mk (below_step (bt HB) hb); clear HO_223000 HO_227000 HO_235000 BK210 BK222 BK226 BK234 HB; revert n0_ n1_ n2_ n3_ n4_ n5_ n6_ n7_; intro HO_223000 HO_227000 HO_235000 BK210 BK222 BK226 BK234 HB; (try clear hb); (try clear hb2); (try clear hk); (try clear hi)))
             go_ret
             exact ⟨by first | rfl | (simp [errW_none, errW_some] <;> rfl) | (simp [*, errW_none, errW_some] <;> rfl), bt HB⟩
       ·replace c71 := Bool.eq_false_iff.mpr c71
        subst c71
        have H1 : (some false) = some r := by rw [if_neg (show ¬ (false = true) by decide)] at H; exact H
        clear H
        have H := H1
        clear H1
        obtain rfl := Option.some.inj H
        try go_wp2
        have n0_ := Aside0.mk (Kd.R_drew HO_9.out)
        have n1_ := Aside0.mk (Kd.R_drew HO_223000.out)
        have n2_ := Aside0.mk (Kd.R_drew HO_227000.out)
        have n3_ := Aside0.mk (Kd.R_drew HO_235000.out)
        have n4_ := Aside0.mk (blk_drew BK210.out)
        have n5_ := Aside0.mk (blk_drew BK222.out)
        have n6_ := Aside0.mk (blk_drew BK226.out)
        have n7_ := Aside0.mk (blk_drew BK234.out)
        have n8_ := Aside0.mk (below_drew1 HB.out)
        clear HO_9 HO_223000 HO_227000 HO_235000 BK210 BK222 BK226 BK234 HB
        revert n0_ n1_ n2_ n3_ n4_ n5_ n6_ n7_ n8_
        intro HO_9 HO_223000 HO_227000 HO_235000 BK210 BK222 BK226 BK234 HB
        refine start_ (n := 5) (S := fun w' => w'.cell? ⟨gb226, 0, none⟩ = some (.slice Ao33 t223.length co33) ∧ w'.cell? ⟨gb210, 0, none⟩ = some (.slice A0_0 l0_0.length c0_0)) (ds := []) #[false, false, false, false, false] (by kernel_rfl) rfl rfl ⟨bc BK226 0, bc BK210 0⟩ (fun hHeld => ?_)
        generalize wc.drew = w195 at HO_9 HO_223000 HO_227000 HO_235000 BK210 BK222 BK226 BK234 HB hHeld ⊢
        refine take_ (i := 0) (N := some 52) (v := ?_) (a' := ?_) #[true, false, false, false, false] rfl rfl (by kernel_rfl) (fun _ _ _ h => h) (Or.inl ⟨by rfl, ?_⟩) hHeld ?_ ?_
        rotate_left
        ·rintro w' ⟨s0, s1⟩
         go_simp
         with_reducible rfl
        rotate_left
        ·simp only [Act.put, zA, zB, zC, i64_w, i32_w]
         rfl
        refine take_ (i := 1) (N := some 53) (v := ?_) (a' := ?_) #[true, true, false, false, false] rfl rfl (by kernel_rfl) (fun _ _ _ h => h) (Or.inl ⟨by rfl, ?_⟩) hHeld ?_ ?_
        rotate_left
        ·rintro w' ⟨s0, s1⟩
         go_simp
         with_reducible rfl
        rotate_left
        ·simp only [Act.put, zA, zB, zC, i64_w, i32_w]
         rfl
        refine one_ (i := 2) (N := some 54) #[true, true, true, false, false] rfl rfl (by kernel_rfl) (by decide) (fun K hK => ?_)
        refine goes_ Try.func37 (by kernel_rfl) rfl #[.agg #[.slice A0_0 l0_0.length c0_0]] (by rfl) rfl rfl (by (try simp only [List.map_toArray, List.map_cons, List.map_nil]); first | done | rfl | (simp only [List.length_drop, List.length_take]; rfl)) ?_
        with_reducible refine (laws_toDisk.calls kj15 _ _ l0_0 t236 _ ?side1 ?side2 A66.out).mono ?_
        (case side1 => repeat (first | exact (Kd.C_below HR0_0.out HB.out) | (with_reducible refine Kd.C_alloc ?_ _) | (with_reducible refine Kd.C_drewN ?_ _) | (with_reducible refine Kd.C_drew ?_)))
        (case side2 => exact HC0_0.out)
        rintro e w196 ⟨v237, rfl, ho0, hb⟩
        refine ⟨_, rfl, ?_⟩
        have n0_ := rb HO_9 hb
        have n1_ := Aside0.mk (Kd.R_elder' (rk HO_223000) (Kd.R_base ho0) hb)
        have n2_ := Aside0.mk (Kd.R_elder' (rk HO_227000) (Kd.R_base ho0) hb)
        have n3_ := Aside0.mk (Kd.R_elder' (rk HO_235000) (Kd.R_base ho0) hb)
        have n4_ := Aside0.mk (Kd.R_lower (Kd.R_new' (Kd.R_new' (Kd.R_new' ho0 (Kd.R_lt (rk HO_223000))) (Kd.R_lt (rk HO_227000))) (Kd.R_lt (rk HO_235000))) (below_size (bt HB)))
        have n5_ := bb BK210 hb
        have n6_ := bb BK222 hb
        have n7_ := bb BK226 hb
        have n8_ := bb BK234 hb
        have n9_ := Aside0.mk (below_step (bt HB) hb)
        clear HO_9 HO_223000 HO_227000 HO_235000 BK210 BK222 BK226 BK234 HB
        revert n0_ n1_ n2_ n3_ n4_ n5_ n6_ n7_ n8_ n9_
        intro HO_9 HO_223000 HO_227000 HO_235000 HO238 BK210 BK222 BK226 BK234 HB
        (try clear hb)
        (try clear hb2)
        (try clear hk)
        (try clear hi)
        (try clear ho0)
        obtain ⟨Ao197, co197, eo197⟩ := Kd.R_slice HO238.out
        (first | subst eo197 | (injection eo197 with f1_ f2_ f3_; have f4_ := f1_.symm; have f5_ := f3_.symm; clear f1_ f2_ f3_; subst f4_; subst f5_))
        refine hK.out _ _ ⟨bc BK226 0, bc BK210 0⟩ (fun hHeld => ?_)
        clear hK K
        refine norm_ (a' := ?_) ?_ ?_
        rotate_left
        ·show Act.put _ (some 54) _ = _
         simp only [Act.put, zA, zB, zC, i64_w, i32_w]
         rfl
        refine one_ (i := 3) (N := some 55) #[true, true, true, true, false] rfl rfl (by kernel_rfl) (by decide) (fun K hK => ?_)
        refine goes_ Try.func40 (by kernel_rfl) rfl #[.agg #[.slice Ao33 t223.length co33], .agg #[.slice Ao197 t236.length co197]] (by rfl) rfl rfl (by (try simp only [List.map_toArray, List.map_cons, List.map_nil]); first | done | rfl | (simp only [List.length_drop, List.length_take]; rfl)) ?_
        with_reducible refine (laws_eqDisk.calls kj15 _ _ t223 _ _ t236 true _ ?side1 ?side2 ?side3 ?side4 A67.out).mono ?_
        (case side1 => repeat (first | exact (Kd.R_reads' HO_227000.out).2.2 | (with_reducible refine Kd.C_alloc ?_ _) | (with_reducible refine Kd.C_drewN ?_ _) | (with_reducible refine Kd.C_drew ?_)))
        (case side2 => exact (Kd.R_reads' HO_227000.out).2.1)
        (case side3 => repeat (first | exact (Kd.R_reads' HO238.out).2.2 | (with_reducible refine Kd.C_alloc ?_ _) | (with_reducible refine Kd.C_drewN ?_ _) | (with_reducible refine Kd.C_drew ?_)))
        (case side4 => exact (Kd.R_reads' HO238.out).2.1)
        rintro e w198 ⟨rfl, hb⟩
        refine ⟨_, rfl, ?_⟩
        have n0_ := rb HO_9 hb
        have n1_ := rb HO_223000 hb
        have n2_ := rb HO_227000 hb
        have n3_ := rb HO_235000 hb
        have n4_ := rb HO238 hb
        have n5_ := bb BK210 hb
        have n6_ := bb BK222 hb
        have n7_ := bb BK226 hb
        have n8_ := bb BK234 hb
        have n9_ := Aside0.mk (below_step (bt HB) hb)
        clear HO_9 HO_223000 HO_227000 HO_235000 HO238 BK210 BK222 BK226 BK234 HB
        revert n0_ n1_ n2_ n3_ n4_ n5_ n6_ n7_ n8_ n9_
        intro HO_9 HO_223000 HO_227000 HO_235000 HO238 BK210 BK222 BK226 BK234 HB
        (try clear hb)
        (try clear hb2)
        (try clear hk)
        (try clear hi)
        refine hK.out _ _ ⟨bc BK226 0, bc BK210 0⟩ (fun hHeld => ?_)
        clear hK K
        refine norm_ (a' := ?_) ?_ ?_
        rotate_left
        ·show Act.put _ (some 55) _ = _
         simp only [Act.put, zA, zB, zC, i64_w, i32_w]
         rfl
        refine pure_ (i := 4) (N := some 56) (v := ?_) (a' := ?_) #[true, true, true, true, true] rfl rfl (by kernel_rfl) (fun _ _ _ h => h) (Or.inl ⟨by rfl, ?_⟩) ?_ ?_
        rotate_left
        ·intro w'
         go_simp
         with_reducible rfl
        rotate_left
        ·simp only [Act.put, zA, zB, zC, i64_w, i32_w]
         rfl
        refine done_ (by kernel_rfl) ?_
        try go_wp2_with (first | ((with_reducible refine gate_callee (f := 38) rfl ?_); refine goesL_ (some 59) rfl rfl Try.func38 (by kernel_rfl) rfl #[.slice A1 l1.length c1] rfl (by (try simp only [List.map_toArray, List.map_cons, List.map_nil]); first | done | rfl | (simp only [List.length_drop, List.length_take]; rfl)) ?_; (with_reducible refine (laws_toIntS.calls kj15 _ _ l1 t240 _ ?side1 ?side2 A69.out).mono ?_); (case side1 => repeat (first | exact (Kd.C_below HR1.out HB.out) | (with_reducible refine Kd.C_alloc ?_ _) | (with_reducible refine Kd.C_drewN ?_ _) | (with_reducible refine Kd.C_drew ?_))); (case side2 => exact HC1.out); rintro e w199 ⟨v241, rfl, ho0, hb⟩; refine ⟨_, rfl, ?_⟩; have n0_ := Aside0.mk (Kd.R_elder' (rk HO_9) (Kd.R_base ho0) hb); have n1_ := rb HO_223000 hb; have n2_ := rb HO_227000 hb; have n3_ := rb HO_235000 hb; have n4_ := rb HO238 hb; have n5_ := Aside0.mk (Kd.R_lower (Kd.R_new' ho0 (Kd.R_lt (rk HO_9))) (below_size (bt HB))); have n6_ := bb BK210 hb; have n7_ := bb BK222 hb; have n8_ := bb BK226 hb; have n9_ := bb BK234 hb; have n10_ := Aside0.mk (below_step (bt HB) hb); clear HO_9 HO_223000 HO_227000 HO_235000 HO238 BK210 BK222 BK226 BK234 HB; revert n0_ n1_ n2_ n3_ n4_ n5_ n6_ n7_ n8_ n9_ n10_; intro HO_9 HO_223000 HO_227000 HO_235000 HO238 HO242 BK210 BK222 BK226 BK234 HB; (try clear hb); (try clear hb2); (try clear hk); (try clear hi); (try clear ho0); obtain ⟨Ao200, co200, eo200⟩ := Kd.R_slice HO242.out; subst eo200) | ((with_reducible refine gate_callee (f := 41) rfl ?_); refine goesL_ (some 60) rfl rfl Try.func41 (by kernel_rfl) rfl #[.slice Ao39 t227.length co39, .slice Ao200 t240.length co200] rfl (by (try simp only [List.map_toArray, List.map_cons, List.map_nil]); first | done | rfl | (simp only [List.length_drop, List.length_take]; rfl)) ?_; (with_reducible refine (laws_eqIntS.calls kj15 _ _ t227 _ _ t240 false _ ?side1 ?side2 ?side3 ?side4 A70.out).mono ?_); (case side1 => repeat (first | exact (Kd.R_reads' HO_9.out).2.2 | (with_reducible refine Kd.C_alloc ?_ _) | (with_reducible refine Kd.C_drewN ?_ _) | (with_reducible refine Kd.C_drew ?_))); (case side2 => exact (Kd.R_reads' HO_9.out).2.1); (case side3 => repeat (first | exact (Kd.R_reads' HO242.out).2.2 | (with_reducible refine Kd.C_alloc ?_ _) | (with_reducible refine Kd.C_drewN ?_ _) | (with_reducible refine Kd.C_drew ?_))); (case side4 => exact (Kd.R_reads' HO242.out).2.1); rintro e w' ⟨rfl, ⟨nd, rfl⟩⟩; refine ⟨_, rfl, ?_⟩))
        go_ret
        exact ⟨by first | rfl | (simp [errW_none, errW_some] <;> rfl) | (simp [*, errW_none, errW_some] <;> rfl), bt HB⟩
      ·replace c68 := Bool.eq_false_iff.mpr c68
       subst c68
       have H1 : (some false) = some r := by rw [if_neg (show ¬ (false = true) by decide)] at H; exact H
       clear H
       have H := H1
       clear H1
       obtain rfl := Option.some.inj H
       try go_wp2
       have n0_ := Aside0.mk (Kd.R_drew HO_9.out)
       have n1_ := Aside0.mk (Kd.R_drew HO_223000.out)
       have n2_ := Aside0.mk (Kd.R_drew HO_227000.out)
       have n3_ := Aside0.mk (Kd.R_drew HO_235000.out)
       have n4_ := Aside0.mk (blk_drew BK210.out)
       have n5_ := Aside0.mk (blk_drew BK222.out)
       have n6_ := Aside0.mk (blk_drew BK226.out)
       have n7_ := Aside0.mk (blk_drew BK234.out)
       have n8_ := Aside0.mk (below_drew1 HB.out)
       clear HO_9 HO_223000 HO_227000 HO_235000 BK210 BK222 BK226 BK234 HB
       revert n0_ n1_ n2_ n3_ n4_ n5_ n6_ n7_ n8_
       intro HO_9 HO_223000 HO_227000 HO_235000 BK210 BK222 BK226 BK234 HB
       refine start_ (n := 5) (S := fun w' => w'.cell? ⟨gb226, 0, none⟩ = some (.slice Ao33 t223.length co33) ∧ w'.cell? ⟨gb210, 0, none⟩ = some (.slice A0_0 l0_0.length c0_0)) (ds := []) #[false, false, false, false, false] (by kernel_rfl) rfl rfl ⟨bc BK226 0, bc BK210 0⟩ (fun hHeld => ?_)
       generalize wc.drew = w201 at HO_9 HO_223000 HO_227000 HO_235000 BK210 BK222 BK226 BK234 HB hHeld ⊢
       refine take_ (i := 0) (N := some 52) (v := ?_) (a' := ?_) #[true, false, false, false, false] rfl rfl (by kernel_rfl) (fun _ _ _ h => h) (Or.inl ⟨by rfl, ?_⟩) hHeld ?_ ?_
       rotate_left
       ·rintro w' ⟨s0, s1⟩
        go_simp
        with_reducible rfl
       rotate_left
       ·simp only [Act.put, zA, zB, zC, i64_w, i32_w]
        rfl
       refine take_ (i := 1) (N := some 53) (v := ?_) (a' := ?_) #[true, true, false, false, false] rfl rfl (by kernel_rfl) (fun _ _ _ h => h) (Or.inl ⟨by rfl, ?_⟩) hHeld ?_ ?_
       rotate_left
       ·rintro w' ⟨s0, s1⟩
        go_simp
        with_reducible rfl
       rotate_left
       ·simp only [Act.put, zA, zB, zC, i64_w, i32_w]
        rfl
       refine one_ (i := 2) (N := some 54) #[true, true, true, false, false] rfl rfl (by kernel_rfl) (by decide) (fun K hK => ?_)
       refine goes_ Try.func37 (by kernel_rfl) rfl #[.agg #[.slice A0_0 l0_0.length c0_0]] (by rfl) rfl rfl (by (try simp only [List.map_toArray, List.map_cons, List.map_nil]); first | done | rfl | (simp only [List.length_drop, List.length_take]; rfl)) ?_
       with_reducible refine (laws_toDisk.calls kj15 _ _ l0_0 t236 _ ?side1 ?side2 A66.out).mono ?_
       (case side1 => repeat (first | exact (Kd.C_below HR0_0.out HB.out) | (with_reducible refine Kd.C_alloc ?_ _) | (with_reducible refine Kd.C_drewN ?_ _) | (with_reducible refine Kd.C_drew ?_)))
       (case side2 => exact HC0_0.out)
       rintro e w202 ⟨v237, rfl, ho0, hb⟩
       refine ⟨_, rfl, ?_⟩
       have n0_ := rb HO_9 hb
       have n1_ := Aside0.mk (Kd.R_elder' (rk HO_223000) (Kd.R_base ho0) hb)
       have n2_ := Aside0.mk (Kd.R_elder' (rk HO_227000) (Kd.R_base ho0) hb)
       have n3_ := Aside0.mk (Kd.R_elder' (rk HO_235000) (Kd.R_base ho0) hb)
       have n4_ := Aside0.mk (Kd.R_lower (Kd.R_new' (Kd.R_new' (Kd.R_new' ho0 (Kd.R_lt (rk HO_223000))) (Kd.R_lt (rk HO_227000))) (Kd.R_lt (rk HO_235000))) (below_size (bt HB)))
       have n5_ := bb BK210 hb
       have n6_ := bb BK222 hb
       have n7_ := bb BK226 hb
       have n8_ := bb BK234 hb
       have n9_ := Aside0.mk (below_step (bt HB) hb)
       clear HO_9 HO_223000 HO_227000 HO_235000 BK210 BK222 BK226 BK234 HB
       revert n0_ n1_ n2_ n3_ n4_ n5_ n6_ n7_ n8_ n9_
       intro HO_9 HO_223000 HO_227000 HO_235000 HO238 BK210 BK222 BK226 BK234 HB
       (try clear hb)
       (try clear hb2)
       (try clear hk)
       (try clear hi)
       (try clear ho0)
       obtain ⟨Ao203, co203, eo203⟩ := Kd.R_slice HO238.out
       (first | subst eo203 | (injection eo203 with f1_ f2_ f3_; have f4_ := f1_.symm; have f5_ := f3_.symm; clear f1_ f2_ f3_; subst f4_; subst f5_))
       refine hK.out _ _ ⟨bc BK226 0, bc BK210 0⟩ (fun hHeld => ?_)
       clear hK K
       refine norm_ (a' := ?_) ?_ ?_
       rotate_left
       ·show Act.put _ (some 54) _ = _
        simp only [Act.put, zA, zB, zC, i64_w, i32_w]
        rfl
       refine one_ (i := 3) (N := some 55) #[true, true, true, true, false] rfl rfl (by kernel_rfl) (by decide) (fun K hK => ?_)
       refine goes_ Try.func40 (by kernel_rfl) rfl #[.agg #[.slice Ao33 t223.length co33], .agg #[.slice Ao203 t236.length co203]] (by rfl) rfl rfl (by (try simp only [List.map_toArray, List.map_cons, List.map_nil]); first | done | rfl | (simp only [List.length_drop, List.length_take]; rfl)) ?_
       with_reducible refine (laws_eqDisk.calls kj15 _ _ t223 _ _ t236 false _ ?side1 ?side2 ?side3 ?side4 A67.out).mono ?_
       (case side1 => repeat (first | exact (Kd.R_reads' HO_227000.out).2.2 | (with_reducible refine Kd.C_alloc ?_ _) | (with_reducible refine Kd.C_drewN ?_ _) | (with_reducible refine Kd.C_drew ?_)))
       (case side2 => exact (Kd.R_reads' HO_227000.out).2.1)
       (case side3 => repeat (first | exact (Kd.R_reads' HO238.out).2.2 | (with_reducible refine Kd.C_alloc ?_ _) | (with_reducible refine Kd.C_drewN ?_ _) | (with_reducible refine Kd.C_drew ?_)))
       (case side4 => exact (Kd.R_reads' HO238.out).2.1)
       rintro e w204 ⟨rfl, hb⟩
       refine ⟨_, rfl, ?_⟩
       have n0_ := rb HO_9 hb
       have n1_ := rb HO_223000 hb
       have n2_ := rb HO_227000 hb
       have n3_ := rb HO_235000 hb
       have n4_ := rb HO238 hb
       have n5_ := bb BK210 hb
       have n6_ := bb BK222 hb
       have n7_ := bb BK226 hb
       have n8_ := bb BK234 hb
       have n9_ := Aside0.mk (below_step (bt HB) hb)
       clear HO_9 HO_223000 HO_227000 HO_235000 HO238 BK210 BK222 BK226 BK234 HB
       revert n0_ n1_ n2_ n3_ n4_ n5_ n6_ n7_ n8_ n9_
       intro HO_9 HO_223000 HO_227000 HO_235000 HO238 BK210 BK222 BK226 BK234 HB
       (try clear hb)
       (try clear hb2)
       (try clear hk)
       (try clear hi)
       refine hK.out _ _ ⟨bc BK226 0, bc BK210 0⟩ (fun hHeld => ?_)
       clear hK K
       refine norm_ (a' := ?_) ?_ ?_
       rotate_left
       ·show Act.put _ (some 55) _ = _
        simp only [Act.put, zA, zB, zC, i64_w, i32_w]
        rfl
       refine pure_ (i := 4) (N := some 56) (v := ?_) (a' := ?_) #[true, true, true, true, true] rfl rfl (by kernel_rfl) (fun _ _ _ h => h) (Or.inl ⟨by rfl, ?_⟩) ?_ ?_
       rotate_left
       ·intro w'
        go_simp
        with_reducible rfl
       rotate_left
       ·simp only [Act.put, zA, zB, zC, i64_w, i32_w]
        rfl
       refine done_ (by kernel_rfl) ?_
       try go_wp2
       go_ret
       exact ⟨by first | rfl | (simp [errW_none, errW_some] <;> rfl) | (simp [*, errW_none, errW_some] <;> rfl), bt HB⟩

end Go.Proofs.Ytpmdcplmnipdeaa.PFnExactLoseDisk
