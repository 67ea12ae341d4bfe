/- What the functions that FnExactJournalText reaches compute, and that the machine's calls compute it. Begun as a text of the kit's print. No condition. -/
import Derived.Test.YtgeagknnfkgihaaShort
import Derived.Test.YtgeagknnfkgihaaQFnExactJournalTextx0
import Derived.Test.YtgeagknnfkgihaaQFnExactJournalTextx6
import Derived.Test.YtgeagknnfkgihaaQFnExactJournalTextx7
namespace Go.Proofs.Ytgeagknnfkgihaa.PFnExactJournalText
open Go.RowKit Go.Proofs.YtgeagknnfkgihaaW.PrintWords Go.Proofs.YtgeagknnfkgihaaW.PrintLast Go.Proofs.YtgeagknnfkgihaaW.PrintMore Go.Proofs.YtgeagknnfkgihaaW.Short
attribute [local go_sem] max2_int min2_int max_two min_two max_three min_three max_four min_four   -- for this text's walks alone
set_option linter.unusedVariables false
set_option linter.unusedSimpArgs false

/-! ### impl_hardFrame: function 19 -/
def impl_hardFrame.f (k : Nat) (a0 : Int) (a1 : Int) : Option (ByteArray) := (impl_varOf.f k a0).bind fun t273 => (if 1 + t273.size ≤ 9223372036854775807 then ((impl_varOf.f k a1).bind fun t274 => (if ((⟨#[72]⟩ : ByteArray) ++ t273).size + t274.size ≤ 9223372036854775807 then ((impl_framed.f k (((⟨#[72]⟩ : ByteArray) ++ t273) ++ t274)).bind fun t275 => (some t275)) else (none))) else (none))
theorem impl_hardFrame.mono : ∀ a0 a1 k, LeO (impl_hardFrame.f k a0 a1) (impl_hardFrame.f (k + 1) a0 a1) := by
  intro a0 a1 k
  unfold impl_hardFrame.f
  repeat' first
      | (with_reducible exact impl_framed.mono _ _)
      | (with_reducible exact impl_varOf.mono _ _)
      | (with_reducible exact LeO.refl _)
      | (with_reducible exact LeO.none _)
      | (with_reducible refine LeO.ite ?_ ?_)
      | (with_reducible refine LeO.bind ?_ (fun _ => ?_))
      | exact impl_framed.mono _ _
      | exact impl_varOf.mono _ _
      | exact LeO.none _
      | refine LeO.ite ?_ ?_
      | refine LeO.bind ?_ (fun _ => ?_)
set_option maxHeartbeats 8000000 in
set_option maxRecDepth 100000 in
theorem impl_hardFrame.calls (k : Nat) (a0 : Int) (a1 : Int) (r : ByteArray) (w : World) (h : impl_hardFrame.f k a0 a1 = some r) :
  Calls Try.prog 19 #[.int .i64 a0, .int .i64 a1] w fun e w' => e = .returned (.string r) ∧ Below w.heap.size w w' := by
 have HB := Aside0.mk (Below.refl w.heap.size w)
 have H : ((impl_varOf.f k a0).bind fun t273 => (if 1 + t273.size ≤ 9223372036854775807 then ((impl_varOf.f k a1).bind fun t274 => (if ((⟨#[72]⟩ : ByteArray) ++ t273).size + t274.size ≤ 9223372036854775807 then ((impl_framed.f k (((⟨#[72]⟩ : ByteArray) ++ t273) ++ t274)).bind fun t275 => (some t275)) else (none))) else (none))) = some r := h
 clear h
 replace H := Option.bind_eq_some_iff.mp H
 obtain ⟨t273, A30, H⟩ := H
 replace H : (if 1 + t273.size ≤ 9223372036854775807 then ((impl_varOf.f k a1).bind fun t274 => (if ((⟨#[72]⟩ : ByteArray) ++ t273).size + t274.size ≤ 9223372036854775807 then ((impl_framed.f k (((⟨#[72]⟩ : ByteArray) ++ t273) ++ t274)).bind fun t275 => (some t275)) else (none))) else (none)) = some r := H
 have A3 := Aside0.mk A30
 clear A30
 by_cases c4 : 1 + t273.size ≤ 9223372036854775807
 ·rw [if_pos c4] at H
  have c4b0 := eq_true c4
  have c4b1 : decide (1 + t273.size ≤ 9223372036854775807) = true := decide_eq_true c4
  try have c4b2 : (9223372036854775807 < 1 + t273.size) = False := eq_false (Nat.not_lt.2 c4)
  replace H := Option.bind_eq_some_iff.mp H
  obtain ⟨t274, A50, H⟩ := H
  replace H : (if ((⟨#[72]⟩ : ByteArray) ++ t273).size + t274.size ≤ 9223372036854775807 then ((impl_framed.f k (((⟨#[72]⟩ : ByteArray) ++ t273) ++ t274)).bind fun t275 => (some t275)) else (none)) = some r := H
  have A5 := Aside0.mk A50
  clear A50
  by_cases c6 : ((⟨#[72]⟩ : ByteArray) ++ t273).size + t274.size ≤ 9223372036854775807
  ·rw [if_pos c6] at H
   have c6b0 := eq_true c6
   have c6b1 : decide (((⟨#[72]⟩ : ByteArray) ++ t273).size + t274.size ≤ 9223372036854775807) = true := decide_eq_true c6
   try have c6b1y : decide (1 + t273.size + t274.size ≤ 9223372036854775807) = true := by have h_ := c6b1; simp only [ByteArray.size_append, Int.natCast_add] at h_; exact h_
   try have c6b2 : (9223372036854775807 < ((⟨#[72]⟩ : ByteArray) ++ t273).size + t274.size) = False := eq_false (Nat.not_lt.2 c6)
   try have c6b2z : (9223372036854775807 < 1 + t273.size + t274.size) = False := eq_false (by have h_ : ¬ (9223372036854775807 < ((⟨#[72]⟩ : ByteArray) ++ t273).size + t274.size) := of_eq_false c6b2; simp only [ByteArray.size_append] at h_; exact h_)
   replace H := Option.bind_eq_some_iff.mp H
   obtain ⟨t275, A70, H⟩ := H
   replace H : (some t275) = some r := H
   have A7 := Aside0.mk A70
   clear A70
   obtain rfl := Option.some.inj H
   go_enter Try.func19, Try.ntmps19
   go_wp2_with (first | ((with_reducible refine gate_callee (f := 18) rfl ?_); refine goesL_ (some 6) rfl rfl Try.func18 (by kernel_rfl) rfl #[.int .i64 a0] rfl (by (try simp only [List.map_toArray, List.map_cons, List.map_nil]); first | done | rfl | (simp only [List.length_drop, List.length_take]; rfl)) ?_; (with_reducible refine (impl_varOf.calls k a0 t273 _ A3.out).mono ?_); rintro e w8 ⟨rfl, hb⟩; refine ⟨_, rfl, ?_⟩; have n0_ := Aside0.mk (below_step (bt HB) hb); clear HB; revert n0_; intro HB; (try clear hb); (try clear hb2); (try clear hk); (try clear hi)) | ((with_reducible refine gate_callee (f := 18) rfl ?_); refine goesL_ (some 9) rfl rfl Try.func18 (by kernel_rfl) rfl #[.int .i64 a1] rfl (by (try simp only [List.map_toArray, List.map_cons, List.map_nil]); first | done | rfl | (simp only [List.length_drop, List.length_take]; rfl)) ?_; (with_reducible refine (impl_varOf.calls k a1 t274 _ A5.out).mono ?_); rintro e w9 ⟨rfl, hb⟩; refine ⟨_, rfl, ?_⟩; have n0_ := Aside0.mk (below_step (bt HB) hb); clear HB; revert n0_; intro HB; (try clear hb); (try clear hb2); (try clear hk); (try clear hi)) | ((with_reducible refine gate_callee (f := 17) rfl ?_); refine goesL_ (some 11) rfl rfl Try.func17 (by kernel_rfl) rfl #[.string (((⟨#[72]⟩ : ByteArray) ++ t273) ++ t274)] rfl (by (try simp only [List.map_toArray, List.map_cons, List.map_nil]); first | done | rfl | (simp only [List.length_drop, List.length_take]; rfl)) ?_; (with_reducible refine (impl_framed.calls k (((⟨#[72]⟩ : ByteArray) ++ t273) ++ t274) t275 _ A7.out).mono ?_); rintro e w10 ⟨rfl, hb⟩; refine ⟨_, rfl, ?_⟩; have n0_ := Aside0.mk (below_step (bt HB) hb); clear HB; revert n0_; intro HB; (try clear hb); (try clear hb2); (try clear hk); (try clear hi)))
   go_ret
   exact ⟨by first | rfl | (simp [errW_none, errW_some] <;> rfl) | (simp [*, errW_none, errW_some] <;> rfl), bt HB⟩
  ·rw [if_neg c6] at H
   exact absurd H (by simp)
 ·rw [if_neg c4] at H
  exact absurd H (by simp)

/-! ### impl_oneByte: function 43 -/
def impl_oneByte.l0 : Nat → List Int → List Int → Int → Int → Option (ByteArray)
 | 0, _, _, _, _ => none
 | k + 1, x3, x7, x8, x9 => if x9 < x8 then (if 0 ≤ x9 then (if x9 < (x7.length : Int) then (if x3.length < 140737488355328 then (impl_oneByte.l0 k (x3 ++ [(rd x7 x9) % 256]) x7 x8 (wrap64 (x9 + 1))) else (none)) else (none)) else (none)) else (some (strOfNums x3))
def impl_oneByte.f (k : Nat) (l0 : List Int) : Option (ByteArray) := impl_oneByte.l0 k (([] : List Int)) l0 (l0.length : Int) 0
theorem impl_oneByte.mono_l : ∀ k, (∀ y0 y1 y2 y3, LeO (impl_oneByte.l0 k y0 y1 y2 y3) (impl_oneByte.l0 (k + 1) y0 y1 y2 y3))
 | 0 => fun _ _ _ _ r h => by simp [impl_oneByte.l0] at h
 | k + 1 => by
  have ih0 := impl_oneByte.mono_l k
  ·intro y0 y1 y2 y3
   unfold impl_oneByte.l0
   repeat' first
   | (with_reducible exact ih0 _ _ _ _)
   | (with_reducible exact LeO.refl _)
   | (with_reducible exact LeO.none _)
   | (with_reducible refine LeO.ite ?_ ?_)
   | (with_reducible refine LeO.bind ?_ (fun _ => ?_))
   | exact ih0 _ _ _ _
   | exact LeO.none _
   | refine LeO.ite ?_ ?_
   | refine LeO.bind ?_ (fun _ => ?_)
theorem impl_oneByte.mono : ∀ a0 k, LeO (impl_oneByte.f k a0) (impl_oneByte.f (k + 1) a0) := by
 intro a0 k
 have ih0 := impl_oneByte.mono_l k
 unfold impl_oneByte.f
 repeat' first
   | (with_reducible exact ih0 _ _ _ _)
   | (with_reducible exact LeO.refl _)
   | (with_reducible exact LeO.none _)
   | (with_reducible refine LeO.ite ?_ ?_)
   | (with_reducible refine LeO.bind ?_ (fun _ => ?_))
   | exact ih0 _ _ _ _
   | exact LeO.none _
   | refine LeO.ite ?_ ?_
   | refine LeO.bind ?_ (fun _ => ?_)
set_option maxHeartbeats 8000000 in
set_option maxRecDepth 100000 in
theorem impl_oneByte.calls (k : Nat) (A0 : Option Addr) (c0 : Nat) (l0 : List Int) (r : ByteArray) (w : World) (hr0 : Kd.C (Kd.int .i64) w A0 l0.length l0) (hc0 : l0.length ≤ c0) (h : impl_oneByte.f k l0 = some r) :
  Calls Try.prog 43 #[.slice A0 l0.length c0] w fun e w' => e = .returned (.string r) ∧ Below w.heap.size w w' := by
 have HR0 := Aside0.mk hr0
 have HC0 := Aside0.mk hc0
 clear hr0 hc0
 have HB := Aside0.mk (Below.refl w.heap.size w)
 have H : (impl_oneByte.l0 k (([] : List Int)) l0 (l0.length : Int) 0) = some r := h
 clear h
 obtain ⟨y276, hy276⟩ : ∃ y_ : List Int, y_ = (([] : List Int)) := ⟨_, rfl⟩
 replace H : (impl_oneByte.l0 k y276 l0 (l0.length : Int) 0) = some r := by first | (rw [hy276]; with_reducible exact H) | (have H2_ := (Option.bind_some _ _).symm.trans H; rw [hy276]; with_reducible exact H2_) | (have H2_ := (Option.bind_some _ _).symm.trans H; with_reducible exact H2_) | with_reducible exact H | (rw [hy276]; exact H) | exact H
 have Ny276 := Aside0.mk hy276
 clear hy276
 have H' := Aside0.mk H
 clear H
 go_enter Try.func43, Try.ntmps43
 go_wp2_with (first | ((with_reducible refine gate_dst (N := 6) rfl ?_); refine Kd.R_lit (Kd.int .u8) _ 5 ?hg (N := 6) ?hd (xs := ([] : List Int)) (inner := []) (ok := fun _ => True) (okp := fun _ => True) ?hr ?hp (fun _ hk => hk) trivial (Below.refl _ _) (Nat.le_refl _) (by simp) ?_; (case hd => rfl); (case hg => rfl); (case hr => first | (go_simp; done) | (go_simp; rfl)); (case hp => exact (Reps.none _ _)); intro v277 w2 ho3 hb hg_ hnew_; clear hg_ hnew_; (first | rw [← Ny276.out] at ho3 | (simp only [Int.reduceToNat] at ho3; rw [← Ny276.out] at ho3)); have n0_ := Aside0.mk (Kd.R_lower ho3 (below_size (bt HB))); have n1_ := Aside0.mk (below_step (bt HB) hb); clear HB; revert n0_ n1_; intro HO278 HB; clear hb ho3))
 go_loopg [3, 9] k (fun kq v3 v9 w' => ∃ (x3_1 : List Int) (x9_1 : Int), v9 = .int .i64 x9_1 ∧ Aside0 (impl_oneByte.l0 kq x3_1 l0 (l0.length : Int) x9_1 = some r) ∧ Aside0 (kq ≤ k) ∧ Aside0 (Kd.R (Kd.int .u8) 5 w' w.heap.size (fun _ => True) v3 x3_1) ∧ Aside0 (Below w.heap.size w w'))
 case atStart => exact ⟨(y276), (0), (by first | rfl | (simp; done) | (simp [*]; done)), H', ⟨Nat.le_refl _⟩, ⟨by (with_reducible repeat (first | apply Kd.R_alloc | apply Kd.R_drewN | apply Kd.R_drew)); exact HO278.out⟩, ⟨bt HB⟩⟩
 case round =>
  clear H'
  try clear p2
  obtain ⟨x3_1, x9_1, rfl, HA, HK1, HO_3, HB⟩ := hrel
  cases gk with
  | zero => exact absurd HA.out (by simp [impl_oneByte.l0])
  | succ k1 =>
   have H := HA.out
   clear HA
   simp only [impl_oneByte.l0] at H
   by_cases c4 : x9_1 < (l0.length : Int)
   ·rw [if_pos c4] at H
    have c4b0 : decide (x9_1 < (l0.length : Int)) = true := decide_eq_true c4
    clear c4
    by_cases c5 : 0 ≤ x9_1
    ·rw [if_pos c5] at H
     have c5b0 : decide (0 ≤ x9_1) = true := decide_eq_true c5
     clear c5
     by_cases c6 : x9_1 < (l0.length : Int)
     ·rw [if_pos c6] at H
      have c6b0 : decide (x9_1 < (l0.length : Int)) = true := decide_eq_true c6
      clear c6
      by_cases c7 : x3_1.length < 140737488355328
      ·rw [if_pos c7] at H
       have LMc7 := Aside0.mk c7
       clear c7
       obtain ⟨y280, hy280⟩ : ∃ y_ : List Int, y_ = (x3_1 ++ [(rd l0 x9_1) % 256]) := ⟨_, rfl⟩
       replace H : (impl_oneByte.l0 k1 y280 l0 (l0.length : Int) (wrap64 (x9_1 + 1))) = some r := by first | (rw [hy280]; with_reducible exact H) | (have H2_ := (Option.bind_some _ _).symm.trans H; rw [hy280]; with_reducible exact H2_) | (have H2_ := (Option.bind_some _ _).symm.trans H; with_reducible exact H2_) | with_reducible exact H | (rw [hy280]; exact H) | exact H
       have Ny280 := Aside0.mk hy280
       clear hy280
       have H' := Aside0.mk H
       clear H
       have p279 : 0 ≤ (x9_1 : Int) := of_decide_eq_true (by first | (with_reducible assumption) | assumption)
       have q279 : x9_1 < (l0.length : Int) := of_decide_eq_true (by first | (with_reducible assumption) | assumption)
       obtain ⟨ad279, e279, hx279_0⟩ := Kd.at_int HR0.out x9_1 p279 q279
       cases e279
       replace hx279_0 := (HB.out.cell (World.block_lt_of_cell? w _ hx279_0)).trans hx279_0
       replace p279 := eq_true p279
       replace q279 := eq_true q279
       go_wp2_with (first | ((with_reducible refine gate_builtin (b := .append) (xs := #[.tmp 13, .tmp 16]) rfl ?_); at_builtin; refine Kd.R_append (Kd.int .u8) (w0 := w) w.heap.size rfl (.tmp 13) (.tmp 16) 53 5 (.int .u8 0) 1 rfl Try.underlying53 info5 rfl (by decide) (by omega) u3 x3_1 ((rd l0 x9_1) % 256) [.int .u8 ((rd l0 x9_1) % 256)] (fun _ => True) (fun _ => False) rfl rfl ?aP (fun _ hk => hk.elim) ?aF ?aO ?aB ?aS ?aL ?_; (case aP => exact rfl); (case aB => exact (bt HB)); (case aF => exact (fun _ _ => trivial)); (case aO => exact (rk HO_3)); (case aS => exact (below_size (bt HB))); (case aL => have := LMc7.out; omega); intro v281 w8 ho hb hg hat; rw [← Ny280.out] at ho; have n0_ := Aside0.mk (hb); have n1_ := Aside0.mk (ho); clear HB HO_3; revert n0_ n1_; intro HB HO282; clear ho hb hg hat))
       go_roundg k1
       case measure => have := HK1.out; omega
       case rel => exact ⟨(y280), (wrap64 (x9_1 + 1)), (by first | rfl | (simp; done) | (simp [*]; done)), H', ⟨by have := HK1.out; omega⟩, ⟨by (with_reducible repeat (first | apply Kd.R_alloc | apply Kd.R_drewN | apply Kd.R_drew)); exact HO282.out⟩, ⟨bt HB⟩⟩
      ·rw [if_neg c7] at H
       exact absurd H (by simp)
     ·rw [if_neg c6] at H
      exact absurd H (by simp)
    ·rw [if_neg c5] at H
     exact absurd H (by simp)
   ·rw [if_neg c4] at H
    have c4b0 : decide (x9_1 < (l0.length : Int)) = false := decide_eq_false c4
    clear c4
    obtain rfl := Option.some.inj H
    have hcv9 := own_string (P := Try.prog) Try.underlying53 Try.underlying5 Try.underlying9 (Kd.own_of_R HO_3.out)
    go_wp2
    go_ret
    exact ⟨by first | rfl | (simp [errW_none, errW_some] <;> rfl) | (simp [*, errW_none, errW_some] <;> rfl), bt HB⟩

/-! ### impl_EntryText: function 35 -/
def impl_EntryText.j0 : Nat → Int → Bool → Int → Int → ByteArray → Option (ByteArray × Bool)
 | 0, _, _, _, _, _ => none
 | k + 1, x0, x13, x284000, x284001, x284002 => if x13 = true then (some ((⟨#[]⟩ : ByteArray), false)) else ((impl_varOf.f k x0).bind fun t286 => (if 1 + t286.size ≤ 9223372036854775807 then ((impl_varOf.f k x284000).bind fun t287 => (if ((⟨#[69]⟩ : ByteArray) ++ t286).size + t287.size ≤ 9223372036854775807 then ((impl_oneByte.f k (([x284001] : List Int))).bind fun t291 => (if (((⟨#[69]⟩ : ByteArray) ++ t286) ++ t287).size + t291.size ≤ 9223372036854775807 then (if ((((⟨#[69]⟩ : ByteArray) ++ t286) ++ t287) ++ t291).size + x284002.size ≤ 9223372036854775807 then (some (((((⟨#[69]⟩ : ByteArray) ++ t286) ++ t287) ++ t291) ++ x284002, true)) else (none)) else (none))) else (none))) else (none)))
def impl_EntryText.f (k : Nat) (a0 : Int) (a1_0 : Int) (a1_1 : Int) (a1_2 : ByteArray) : Option (ByteArray × Bool) := (impl_EntryOk.f k a1_0 a1_1 a1_2).bind fun t284 => (if t284 = true then ((impl_in.f a0 1 1000000).bind fun t285 => (impl_EntryText.j0 k a0 (!t285) a1_0 a1_1 a1_2)) else (impl_EntryText.j0 k a0 true a1_0 a1_1 a1_2))
theorem impl_EntryText.mono_l : ∀ k, (∀ y0 y1 y2 y3 y4, LeO (impl_EntryText.j0 k y0 y1 y2 y3 y4) (impl_EntryText.j0 (k + 1) y0 y1 y2 y3 y4))
 | 0 => fun _ _ _ _ _ r h => by simp [impl_EntryText.j0] at h
 | k + 1 => by
  have ih0 := impl_EntryText.mono_l k
  ·intro y0 y1 y2 y3 y4
   unfold impl_EntryText.j0
   repeat' first
   | (with_reducible exact ih0 _ _ _ _ _)
   | (with_reducible exact impl_EntryOk.mono _ _ _ _)
   | (with_reducible exact impl_oneByte.mono _ _)
   | (with_reducible exact impl_varOf.mono _ _)
   | (with_reducible exact LeO.refl _)
   | (with_reducible exact LeO.none _)
   | (with_reducible refine LeO.ite ?_ ?_)
   | (with_reducible refine LeO.bind ?_ (fun _ => ?_))
   | exact ih0 _ _ _ _ _
   | exact impl_EntryOk.mono _ _ _ _
   | exact impl_oneByte.mono _ _
   | exact impl_varOf.mono _ _
   | exact LeO.none _
   | refine LeO.ite ?_ ?_
   | refine LeO.bind ?_ (fun _ => ?_)
theorem impl_EntryText.mono : ∀ a0 a1 a2 a3 k, LeO (impl_EntryText.f k a0 a1 a2 a3) (impl_EntryText.f (k + 1) a0 a1 a2 a3) := by
 intro a0 a1 a2 a3 k
 have ih0 := impl_EntryText.mono_l k
 unfold impl_EntryText.f
 repeat' first
   | (with_reducible exact ih0 _ _ _ _ _)
   | (with_reducible exact impl_EntryOk.mono _ _ _ _)
   | (with_reducible exact impl_oneByte.mono _ _)
   | (with_reducible exact impl_varOf.mono _ _)
   | (with_reducible exact LeO.refl _)
   | (with_reducible exact LeO.none _)
   | (with_reducible refine LeO.ite ?_ ?_)
   | (with_reducible refine LeO.bind ?_ (fun _ => ?_))
   | exact ih0 _ _ _ _ _
   | exact impl_EntryOk.mono _ _ _ _
   | exact impl_oneByte.mono _ _
   | exact impl_varOf.mono _ _
   | exact LeO.none _
   | refine LeO.ite ?_ ?_
   | refine LeO.bind ?_ (fun _ => ?_)
def impl_EntryText.T3 : Bool × List (List Nat × List Nat) := (true, [([], []), ([0], [0]), ([1], [1]), ([], []), ([3], [3]), ([4, 1], [4]), ([2, 5], [2, 5]), ([], []), ([7], [7]), ([8], [8]), ([9, 5], [9]), ([6, 10], [6, 10]), ([], []), ([12], [12]), ([11, 13], [11, 13]), ([14, 10, 0, 1, 2, 3, 4, 5, 6, 7, 8, 9, 10, 11, 12, 13, 14], [14]), ([15, 0, 1, 2, 3, 4, 5, 6, 7, 8, 9, 10, 11, 12, 13, 14, 15], [])])
def impl_EntryText.B3 : List Nat := [0, 1, 3, 0, 8, 27, 63, 0, 128, 384, 955, 2047, 0, 4096, 16383, 32767, 65535]
theorem impl_EntryText.tab3 : rtab .any (opsOf Try.f35 3) = impl_EntryText.T3 := by kernel_rfl
theorem impl_EntryText.bits3 : waitsOk impl_EntryText.T3.2 impl_EntryText.B3 = true := by kernel_rfl
set_option maxHeartbeats 8000000 in
set_option maxRecDepth 100000 in
theorem impl_EntryText.calls (k : Nat) (a0 : Int) (a1_0 : Int) (a1_1 : Int) (a1_2 : ByteArray) (r1 : ByteArray) (r2 : Bool) (w : World) (h : impl_EntryText.f k a0 a1_0 a1_1 a1_2 = some (r1, r2)) :
  Calls Try.prog 35 #[.int .i64 a0, .agg #[.int .i64 a1_0, .int .i64 a1_1, .string a1_2]] w fun e w' => e = .returned (.tuple #[.string r1, .bool r2]) ∧ Below w.heap.size w w' := by
 have hu56 := Try.underlying56
 have HB := Aside0.mk (Below.refl w.heap.size w)
 have H : ((impl_EntryOk.f k a1_0 a1_1 a1_2).bind fun t284 => (if t284 = true then ((impl_in.f a0 1 1000000).bind fun t285 => (impl_EntryText.j0 k a0 (!t285) a1_0 a1_1 a1_2)) else (impl_EntryText.j0 k a0 true a1_0 a1_1 a1_2))) = some (r1, r2) := h
 clear h
 have HC3 := Aside0.mk H
 clear H
 go_enter Try.func35, Try.ntmps35
 go_upto_region 1 with (first | ((with_reducible refine gate_dst (N := 3) rfl ?_); refine box_event ?hg (N := 3) ?hd (cs := #[.int .i64 a1_0, .int .i64 a1_1, .string a1_2]) (t := 56) ?hr ?_; (case hd => rfl); (case hg => rfl); (case hr => first | (go_simp; done) | (go_simp; rfl)); intro gb283 hg w4 hbox hb; have n0_ := Aside0.mk (below_step (bt HB) hb); have n1_ := Aside0.mk (hbox); have n2_ := Aside0.mk ((by rw [hg]; exact (below_size (bt HB)) : w.heap.size ≤ gb283)); have n3_ := Aside0.mk ((by rw [hg]; exact (below_size (bt HB)) : w.heap.size ≤ gb283)); clear HB; revert n0_ n1_ n2_ n3_; intro HB BK283 GW283 GE283; clear hb hbox hg))
 (try simp only [Act.put, zA, zB, zC])
 go_cut [13] (fun v13 wc => ∃ (kq : Nat) (x13_2 : Bool), v13 = .bool x13_2 ∧ Aside0 (impl_EntryText.j0 kq a0 x13_2 a1_0 a1_1 a1_2 = some (r1, r2)) ∧ Aside0 (kq ≤ k) ∧ Aside0 (wc.heap[gb283]? = some (.cells #[.int .i64 a1_0, .int .i64 a1_1, .string a1_2] 56 (0, 0))) ∧ Aside0 (Below w.heap.size w wc))
 case first =>
  have H := HC3.out
  clear HC3
  replace H := Option.bind_eq_some_iff.mp H
  obtain ⟨t284, A50, H⟩ := H
  replace H : (if t284 = true then ((impl_in.f a0 1 1000000).bind fun t285 => (impl_EntryText.j0 k a0 (!t285) a1_0 a1_1 a1_2)) else (impl_EntryText.j0 k a0 true a1_0 a1_1 a1_2)) = some (r1, r2) := H
  have A5 := Aside0.mk A50
  clear A50
  by_cases c6 : t284 = true
  ·subst c6
   have H1 : ((impl_in.f a0 1 1000000).bind fun t285 => (impl_EntryText.j0 k a0 (!t285) a1_0 a1_1 a1_2)) = some (r1, r2) := by rw [if_pos rfl] at H; exact H
   clear H
   have H := H1
   clear H1
   replace H := Option.bind_eq_some_iff.mp H
   obtain ⟨t285, A70, H⟩ := H
   replace H : (impl_EntryText.j0 k a0 (!t285) a1_0 a1_1 a1_2) = some (r1, r2) := H
   have A7 := Aside0.mk A70
   clear A70
   have H' := Aside0.mk H
   clear H
   have hcz8_0 : w4.cell? ⟨gb283, 0, none⟩ = some (.int .i64 a1_0) := bc BK283 0
   have hcz8_1 : w4.cell? ⟨gb283, 1, none⟩ = some (.int .i64 a1_1) := bc BK283 1
   have hcz8_2 : w4.cell? ⟨gb283, 2, none⟩ = some (.string a1_2) := bc BK283 2
   have hfz8_0 := blk_frozen BK283.out 0
   have hfz8_1 := blk_frozen BK283.out 1
   have hfz8_2 := blk_frozen BK283.out 2
   go_wp2_with (first | ((with_reducible refine gate_callee (f := 41) rfl ?_); refine goesL_ (some 7) rfl rfl Try.func41 (by kernel_rfl) rfl #[.agg #[.int .i64 a1_0, .int .i64 a1_1, .string a1_2]] rfl (by (try simp only [List.map_toArray, List.map_cons, List.map_nil]); first | done | rfl | (simp only [List.length_drop, List.length_take]; rfl)) ?_; (with_reducible refine (impl_EntryOk.calls k a1_0 a1_1 a1_2 true _ A5.out).mono ?_); rintro e w9 ⟨rfl, hb⟩; refine ⟨_, rfl, ?_⟩; have n0_ := bb BK283 hb; have n1_ := Aside0.mk (below_step (bt HB) hb); clear BK283 HB; revert n0_ n1_; intro BK283 HB; (try clear hb); (try clear hb2); (try clear hk); (try clear hi)) | (go_at_call 29; (with_reducible refine (impl_in.calls a0 1 1000000 t285 _ A7.out).mono ?_); rintro e w' ⟨rfl, ⟨nd, rfl⟩⟩))
   go_meet
   case rel => exact ⟨_, (!t285), (by first | rfl | (simp; done) | (simp [*]; done)), H', ⟨by first | omega | exact Nat.le_refl _⟩, ⟨by refine bk_ ?_; exact BK283.out⟩, ⟨bt HB⟩⟩
  ·replace c6 := Bool.eq_false_iff.mpr c6
   subst c6
   have H1 : (impl_EntryText.j0 k a0 true a1_0 a1_1 a1_2) = some (r1, r2) := by rw [if_neg (show ¬ (false = true) by decide)] at H; exact H
   clear H
   have H := H1
   clear H1
   have H' := Aside0.mk H
   clear H
   have hcz10_0 : w4.cell? ⟨gb283, 0, none⟩ = some (.int .i64 a1_0) := bc BK283 0
   have hcz10_1 : w4.cell? ⟨gb283, 1, none⟩ = some (.int .i64 a1_1) := bc BK283 1
   have hcz10_2 : w4.cell? ⟨gb283, 2, none⟩ = some (.string a1_2) := bc BK283 2
   have hfz10_0 := blk_frozen BK283.out 0
   have hfz10_1 := blk_frozen BK283.out 1
   have hfz10_2 := blk_frozen BK283.out 2
   go_wp2_with (first | ((with_reducible refine gate_callee (f := 41) rfl ?_); refine goesL_ (some 7) rfl rfl Try.func41 (by kernel_rfl) rfl #[.agg #[.int .i64 a1_0, .int .i64 a1_1, .string a1_2]] rfl (by (try simp only [List.map_toArray, List.map_cons, List.map_nil]); first | done | rfl | (simp only [List.length_drop, List.length_take]; rfl)) ?_; (with_reducible refine (impl_EntryOk.calls k a1_0 a1_1 a1_2 false _ A5.out).mono ?_); rintro e w11 ⟨rfl, hb⟩; refine ⟨_, rfl, ?_⟩; have n0_ := bb BK283 hb; have n1_ := Aside0.mk (below_step (bt HB) hb); clear BK283 HB; revert n0_ n1_; intro BK283 HB; (try clear hb); (try clear hb2); (try clear hk); (try clear hi)))
   go_meet
   case rel => exact ⟨_, (true), (by first | rfl | (simp; done) | (simp [*]; done)), H', ⟨by first | omega | exact Nat.le_refl _⟩, ⟨by refine bk_ ?_; exact BK283.out⟩, ⟨bt HB⟩⟩
 case rest =>
  clear HC3
  try clear p2
  try clear c3
  try clear c4
  try clear c6
  try clear hcz10_0
  try clear hcz10_1
  try clear hcz10_2
  try clear hcz8_0
  try clear hcz8_1
  try clear hcz8_2
  try clear hfz10_0
  try clear hfz10_1
  try clear hfz10_2
  try clear hfz8_0
  try clear hfz8_1
  try clear hfz8_2
  obtain ⟨kq, x13_2, rfl, HA, HJ2, BK283, HB⟩ := hcut
  cases kq with
  | zero => exact absurd HA.out (by simp [impl_EntryText.j0])
  | succ kj2 =>
   have H := HA.out
   clear HA
   simp only [impl_EntryText.j0] at H
   by_cases c12 : x13_2 = true
   ·subst c12
    have H1 : (some ((⟨#[]⟩ : ByteArray), false)) = some (r1, r2) := by rw [if_pos rfl] at H; exact H
    clear H
    have H := H1
    clear H1
    simp only [Option.some.injEq, Prod.mk.injEq] at H
    obtain ⟨rfl, rfl⟩ := H
    go_wp2
    go_ret2
    exact ⟨by first | rfl | (simp [errW_none, errW_some] <;> rfl) | (simp [*, errW_none, errW_some] <;> rfl), bt HB⟩
   ·replace c12 := Bool.eq_false_iff.mpr c12
    subst c12
    have H1 : ((impl_varOf.f kj2 a0).bind fun t286 => (if 1 + t286.size ≤ 9223372036854775807 then ((impl_varOf.f kj2 a1_0).bind fun t287 => (if ((⟨#[69]⟩ : ByteArray) ++ t286).size + t287.size ≤ 9223372036854775807 then ((impl_oneByte.f kj2 (([a1_1] : List Int))).bind fun t291 => (if (((⟨#[69]⟩ : ByteArray) ++ t286) ++ t287).size + t291.size ≤ 9223372036854775807 then (if ((((⟨#[69]⟩ : ByteArray) ++ t286) ++ t287) ++ t291).size + a1_2.size ≤ 9223372036854775807 then (some (((((⟨#[69]⟩ : ByteArray) ++ t286) ++ t287) ++ t291) ++ a1_2, true)) else (none)) else (none))) else (none))) else (none))) = some (r1, r2) := by rw [if_neg (show ¬ (false = true) by decide)] at H; exact H
    clear H
    have H := H1
    clear H1
    replace H := Option.bind_eq_some_iff.mp H
    obtain ⟨t286, A130, H⟩ := H
    replace H : (if 1 + t286.size ≤ 9223372036854775807 then ((impl_varOf.f kj2 a1_0).bind fun t287 => (if ((⟨#[69]⟩ : ByteArray) ++ t286).size + t287.size ≤ 9223372036854775807 then ((impl_oneByte.f kj2 (([a1_1] : List Int))).bind fun t291 => (if (((⟨#[69]⟩ : ByteArray) ++ t286) ++ t287).size + t291.size ≤ 9223372036854775807 then (if ((((⟨#[69]⟩ : ByteArray) ++ t286) ++ t287) ++ t291).size + a1_2.size ≤ 9223372036854775807 then (some (((((⟨#[69]⟩ : ByteArray) ++ t286) ++ t287) ++ t291) ++ a1_2, true)) else (none)) else (none))) else (none))) else (none)) = some (r1, r2) := H
    have A13 := Aside0.mk A130
    clear A130
    by_cases c14 : 1 + t286.size ≤ 9223372036854775807
    ·rw [if_pos c14] at H
     have c14b0 := eq_true c14
     have c14b1 : decide (1 + t286.size ≤ 9223372036854775807) = true := decide_eq_true c14
     try have c14b2 : (9223372036854775807 < 1 + t286.size) = False := eq_false (Nat.not_lt.2 c14)
     replace H := Option.bind_eq_some_iff.mp H
     obtain ⟨t287, A150, H⟩ := H
     replace H : (if ((⟨#[69]⟩ : ByteArray) ++ t286).size + t287.size ≤ 9223372036854775807 then ((impl_oneByte.f kj2 (([a1_1] : List Int))).bind fun t291 => (if (((⟨#[69]⟩ : ByteArray) ++ t286) ++ t287).size + t291.size ≤ 9223372036854775807 then (if ((((⟨#[69]⟩ : ByteArray) ++ t286) ++ t287) ++ t291).size + a1_2.size ≤ 9223372036854775807 then (some (((((⟨#[69]⟩ : ByteArray) ++ t286) ++ t287) ++ t291) ++ a1_2, true)) else (none)) else (none))) else (none)) = some (r1, r2) := H
     have A15 := Aside0.mk A150
     clear A150
     by_cases c16 : ((⟨#[69]⟩ : ByteArray) ++ t286).size + t287.size ≤ 9223372036854775807
     ·rw [if_pos c16] at H
      have c16b0 := eq_true c16
      have c16b1 : decide (((⟨#[69]⟩ : ByteArray) ++ t286).size + t287.size ≤ 9223372036854775807) = true := decide_eq_true c16
      try have c16b1y : decide (1 + t286.size + t287.size ≤ 9223372036854775807) = true := by have h_ := c16b1; simp only [ByteArray.size_append, Int.natCast_add] at h_; exact h_
      try have c16b2 : (9223372036854775807 < ((⟨#[69]⟩ : ByteArray) ++ t286).size + t287.size) = False := eq_false (Nat.not_lt.2 c16)
      try have c16b2z : (9223372036854775807 < 1 + t286.size + t287.size) = False := eq_false (by have h_ : ¬ (9223372036854775807 < ((⟨#[69]⟩ : ByteArray) ++ t286).size + t287.size) := of_eq_false c16b2; simp only [ByteArray.size_append] at h_; exact h_)
      obtain ⟨y288, hy288⟩ : ∃ y_ : List Int, y_ = (([a1_1] : List Int)) := ⟨_, rfl⟩
      replace H : ((impl_oneByte.f kj2 y288).bind fun t291 => (if (((⟨#[69]⟩ : ByteArray) ++ t286) ++ t287).size + t291.size ≤ 9223372036854775807 then (if ((((⟨#[69]⟩ : ByteArray) ++ t286) ++ t287) ++ t291).size + a1_2.size ≤ 9223372036854775807 then (some (((((⟨#[69]⟩ : ByteArray) ++ t286) ++ t287) ++ t291) ++ a1_2, true)) else (none)) else (none))) = some (r1, r2) := by first | (rw [hy288]; with_reducible exact H) | (have H2_ := (Option.bind_some _ _).symm.trans H; rw [hy288]; with_reducible exact H2_) | (have H2_ := (Option.bind_some _ _).symm.trans H; with_reducible exact H2_) | with_reducible exact H | (rw [hy288]; exact H) | exact H
      have Ny288 := Aside0.mk hy288
      clear hy288
      replace H := Option.bind_eq_some_iff.mp H
      obtain ⟨t291, A170, H⟩ := H
      replace H : (if (((⟨#[69]⟩ : ByteArray) ++ t286) ++ t287).size + t291.size ≤ 9223372036854775807 then (if ((((⟨#[69]⟩ : ByteArray) ++ t286) ++ t287) ++ t291).size + a1_2.size ≤ 9223372036854775807 then (some (((((⟨#[69]⟩ : ByteArray) ++ t286) ++ t287) ++ t291) ++ a1_2, true)) else (none)) else (none)) = some (r1, r2) := H
      have A17 := Aside0.mk A170
      clear A170
      by_cases c18 : (((⟨#[69]⟩ : ByteArray) ++ t286) ++ t287).size + t291.size ≤ 9223372036854775807
      ·rw [if_pos c18] at H
       have c18b0 := eq_true c18
       have c18b1 : decide ((((⟨#[69]⟩ : ByteArray) ++ t286) ++ t287).size + t291.size ≤ 9223372036854775807) = true := decide_eq_true c18
       try have c18b1y : decide (1 + t286.size + t287.size + t291.size ≤ 9223372036854775807) = true := by have h_ := c18b1; simp only [ByteArray.size_append, Int.natCast_add] at h_; exact h_
       try have c18b2 : (9223372036854775807 < (((⟨#[69]⟩ : ByteArray) ++ t286) ++ t287).size + t291.size) = False := eq_false (Nat.not_lt.2 c18)
       try have c18b2z : (9223372036854775807 < 1 + t286.size + t287.size + t291.size) = False := eq_false (by have h_ : ¬ (9223372036854775807 < (((⟨#[69]⟩ : ByteArray) ++ t286) ++ t287).size + t291.size) := of_eq_false c18b2; simp only [ByteArray.size_append] at h_; exact h_)
       by_cases c19 : ((((⟨#[69]⟩ : ByteArray) ++ t286) ++ t287) ++ t291).size + a1_2.size ≤ 9223372036854775807
       ·rw [if_pos c19] at H
        have c19b0 := eq_true c19
        have c19b1 : decide (((((⟨#[69]⟩ : ByteArray) ++ t286) ++ t287) ++ t291).size + a1_2.size ≤ 9223372036854775807) = true := decide_eq_true c19
        try have c19b1y : decide (1 + t286.size + t287.size + t291.size + a1_2.size ≤ 9223372036854775807) = true := by have h_ := c19b1; simp only [ByteArray.size_append, Int.natCast_add] at h_; exact h_
        try have c19b2 : (9223372036854775807 < ((((⟨#[69]⟩ : ByteArray) ++ t286) ++ t287) ++ t291).size + a1_2.size) = False := eq_false (Nat.not_lt.2 c19)
        try have c19b2z : (9223372036854775807 < 1 + t286.size + t287.size + t291.size + a1_2.size) = False := eq_false (by have h_ : ¬ (9223372036854775807 < ((((⟨#[69]⟩ : ByteArray) ++ t286) ++ t287) ++ t291).size + a1_2.size) := of_eq_false c19b2; simp only [ByteArray.size_append] at h_; exact h_)
        simp only [Option.some.injEq, Prod.mk.injEq] at H
        obtain ⟨rfl, rfl⟩ := H
        try go_wp2
        have n0_ := Aside0.mk (blk_drew BK283.out)
        have n1_ := Aside0.mk (below_drew1 HB.out)
        clear BK283 HB
        revert n0_ n1_
        intro BK283 HB
        refine start_ (n := 17) (S := fun w' => True) (ds := []) #[false, false, false, false, false, false, false, false, false, false, false, false, false, false, false, false, false] (by kernel_rfl) rfl rfl trivial (fun hHeld => ?_); refine with_tabW impl_EntryText.tab3 impl_EntryText.bits3 (fun HT_ HW_ => ?_)
        generalize wc.drew = w20 at BK283 HB hHeld ⊢
        refine pure_ (i := 0) (N := some 14) (v := ?_) (a' := ?_) #[true, false, false, false, false, false, false, false, false, false, false, false, false, false, false, false, false] rfl rfl (any_of HT_.out (by kernel_rfl)) (fun _ _ _ h => h) (Or.inl ⟨by rfl, ?_⟩) ?_ ?_
        rotate_left
        ·intro w'
         go_simp
         with_reducible rfl
        rotate_left
        ·simp only [Act.put, zA, zB, zC, i64_w, i32_w]
         rfl
        refine pure_ (i := 3) (N := some 17) (v := ?_) (a' := ?_) #[true, false, false, true, false, false, false, false, false, false, false, false, false, false, false, false, false] rfl rfl (any_of HT_.out (by kernel_rfl)) (fun _ _ _ h => h) (Or.inl ⟨by rfl, ?_⟩) ?_ ?_
        rotate_left
        ·intro w'
         go_simp
         with_reducible rfl
        rotate_left
        ·simp only [Act.put, zA, zB, zC, i64_w, i32_w]
         rfl
        refine pure_ (i := 7) (N := some 21) (v := ?_) (a' := ?_) #[true, false, false, true, false, false, false, true, false, false, false, false, false, false, false, false, false] rfl rfl (any_of HT_.out (by kernel_rfl)) (fun _ _ _ h => h) (Or.inl ⟨by rfl, ?_⟩) ?_ ?_
        rotate_left
        ·intro w'
         go_simp
         with_reducible rfl
        rotate_left
        ·simp only [Act.put, zA, zB, zC, i64_w, i32_w]
         rfl
        refine pure_ (i := 12) (N := some 26) (v := ?_) (a' := ?_) #[true, false, false, true, false, false, false, true, false, false, false, false, true, false, false, false, false] rfl rfl (any_of HT_.out (by kernel_rfl)) (fun _ _ _ h => h) (Or.inl ⟨by rfl, ?_⟩) ?_ ?_
        rotate_left
        ·intro w'
         go_simp
         with_reducible rfl
        rotate_left
        ·simp only [Act.put, zA, zB, zC, i64_w, i32_w]
         rfl
        refine inv_at [1, 2, 4, 5, 6, 8, 9, 10, 11, 13, 14, 15, 16] (fun a0_ b a w' => ∃ (v289 : Value), a = putSel a0_ b [(1, 15, .string t286), (2, 16, .string ((⟨#[69]⟩ : ByteArray) ++ t286)), (4, 18, .int .i64 a1_0), (5, 19, .string t287), (6, 20, .string (((⟨#[69]⟩ : ByteArray) ++ t286) ++ t287)), (8, 22, .int .i64 a1_1), (9, 23, v289), (10, 24, .string t291), (11, 25, .string ((((⟨#[69]⟩ : ByteArray) ++ t286) ++ t287) ++ t291)), (13, 27, .string a1_2), (14, 28, .string (((((⟨#[69]⟩ : ByteArray) ++ t286) ++ t287) ++ t291) ++ a1_2)), (15, 4, .string (((((⟨#[69]⟩ : ByteArray) ++ t286) ++ t287) ++ t291) ++ a1_2)), (16, 5, .bool true)] ∧ (w'.heap[gb283]? = some (.cells #[.int .i64 a1_0, .int .i64 a1_1, .string a1_2] 56 (0, 0))) ∧ (Below w.heap.size w w') ∧ (b 9 = true → Kd.R (Kd.int .i64) 3 w' w.heap.size (fun _ => True) v289 y288)) HT_.out HW_.out (by kernel_rfl) (by kernel_rfl) ?_ ?_ ?_
        ·exact ⟨.bool false, by simp only [putSel, Bool.false_eq_true, if_false], BK283.out, HB.out, fun h_ => absurd h_ (by decide)⟩
        ·skip
         clear BK283 HB
         refine steps_cons ?_ ?_
         ·rintro b a w' ⟨v289, ha, Q_BK283, Q_HB, Q_HO290⟩ hb_ hon hoff
          refine ⟨_, rfl, fun K hK => ?_⟩
          have e14 : a.tmps[14]? = some (.int .i64 a0) := by rw [ha]; exact (putSel_off rfl).trans rfl
          replace ha := Aside0.mk ha
          have BK283 := Aside0.mk Q_BK283
          have HB := Aside0.mk Q_HB
          refine goes_ Try.func18 (by kernel_rfl) rfl #[.int .i64 a0] (by rfl) rfl rfl (by first | (simp only [List.map_toArray, List.map_cons, List.map_nil, Act.eval, Array.getD_eq_getD_getElem?, Option.getD_some, e14]; done) | (simp only [List.map_toArray, List.map_cons, List.map_nil, Act.eval, Array.getD_eq_getD_getElem?, Option.getD_some, e14]; rfl)) ?_
          with_reducible refine (impl_varOf.calls kj2 a0 t286 _ A13.out).mono ?_
          rintro e w21 ⟨rfl, hb⟩
          refine ⟨_, rfl, ?_⟩
          have n0_ := bb BK283 hb
          have n1_ := Aside0.mk (below_step (bt HB) hb)
          have z_HO290 := fun (h0_ : b 9 = true) => (show Kd.R (Kd.int .i64) 3 w21 w.heap.size (fun _ => True) v289 y288 from by first | exact (Kd.R_below (by (with_reducible repeat (first | apply Kd.R_alloc | apply Kd.R_drewN | apply Kd.R_drew)); exact (Q_HO290 h0_)) hb) | exact Kd.R_mono (Kd.R_below (by (with_reducible repeat (first | apply Kd.R_alloc | apply Kd.R_drewN | apply Kd.R_drew)); exact (Q_HO290 h0_)) hb) (fun _ h_ => by first | trivial | exact h_ | exact h_.1))
          clear BK283 HB
          revert n0_ n1_
          intro BK283 HB
          (try clear hb)
          (try clear hb2)
          (try clear hk)
          (try clear hi)
          refine hK.out _ _ ⟨v289, (by rw [ha.out]; exact putSel_upk 0 hb_ rfl rfl rfl), (bk BK283), (bt HB), z_HO290⟩
         refine steps_cons ?_ ?_
         ·rintro b a w' ⟨v289, ha, Q_BK283, Q_HB, Q_HO290⟩ hb_ hon hoff
          refine ⟨_, rfl, fun K hK => ?_⟩
          have e15 : a.tmps[15]? = some (.string t286) := by rw [ha]; exact putSel_on (e := (1, 15, .string t286)) 0 rfl rfl (hon 1 (by kernel_rfl)) rfl
          replace ha := Aside0.mk ha
          have BK283 := Aside0.mk Q_BK283
          have HB := Aside0.mk Q_HB
          refine value_ (w1 := w') (v := .string ((⟨#[69]⟩ : ByteArray) ++ t286)) (by rfl) rfl ?_ ?_
          ·go_simp
           (try simp only [i64_w])
           try rfl
          refine hK.out _ _ ⟨v289, (by rw [ha.out]; exact putSel_upk 1 hb_ rfl rfl rfl), Q_BK283, Q_HB, Q_HO290⟩
         refine steps_cons ?_ ?_
         ·rintro b a w' ⟨v289, ha, Q_BK283, Q_HB, Q_HO290⟩ hb_ hon hoff
          refine ⟨_, rfl, fun K hK => ?_⟩
          have e17 : a.tmps[17]? = some (.pointer (some ⟨gb283, 0, none⟩)) := by rw [ha]; exact (putSel_off rfl).trans rfl
          replace ha := Aside0.mk ha
          have BK283 := Aside0.mk Q_BK283
          have HB := Aside0.mk Q_HB
          have hc0_ : w'.cell? ⟨gb283, 0, none⟩ = some (.int .i64 a1_0) := bc BK283 0
          have hc1_ : w'.cell? ⟨gb283, 1, none⟩ = some (.int .i64 a1_1) := bc BK283 1
          have hc2_ : w'.cell? ⟨gb283, 2, none⟩ = some (.string a1_2) := bc BK283 2
          refine value_ (w1 := w') (v := .int .i64 a1_0) (by rfl) rfl ?_ ?_
          ·go_simp
           (try simp only [i64_w])
           try rfl
          refine hK.out _ _ ⟨v289, (by rw [ha.out]; exact putSel_upk 2 hb_ rfl rfl rfl), Q_BK283, Q_HB, Q_HO290⟩
         refine steps_cons ?_ ?_
         ·rintro b a w' ⟨v289, ha, Q_BK283, Q_HB, Q_HO290⟩ hb_ hon hoff
          refine ⟨_, rfl, fun K hK => ?_⟩
          have e18 : a.tmps[18]? = some (.int .i64 a1_0) := by rw [ha]; exact putSel_on (e := (4, 18, .int .i64 a1_0)) 2 rfl rfl (hon 4 (by kernel_rfl)) rfl
          replace ha := Aside0.mk ha
          have BK283 := Aside0.mk Q_BK283
          have HB := Aside0.mk Q_HB
          refine goes_ Try.func18 (by kernel_rfl) rfl #[.int .i64 a1_0] (by rfl) rfl rfl (by first | (simp only [List.map_toArray, List.map_cons, List.map_nil, Act.eval, Array.getD_eq_getD_getElem?, Option.getD_some, e18]; done) | (simp only [List.map_toArray, List.map_cons, List.map_nil, Act.eval, Array.getD_eq_getD_getElem?, Option.getD_some, e18]; rfl)) ?_
          with_reducible refine (impl_varOf.calls kj2 a1_0 t287 _ A15.out).mono ?_
          rintro e w23 ⟨rfl, hb⟩
          refine ⟨_, rfl, ?_⟩
          have n0_ := bb BK283 hb
          have n1_ := Aside0.mk (below_step (bt HB) hb)
          have z_HO290 := fun (h0_ : b 9 = true) => (show Kd.R (Kd.int .i64) 3 w23 w.heap.size (fun _ => True) v289 y288 from by first | exact (Kd.R_below (by (with_reducible repeat (first | apply Kd.R_alloc | apply Kd.R_drewN | apply Kd.R_drew)); exact (Q_HO290 h0_)) hb) | exact Kd.R_mono (Kd.R_below (by (with_reducible repeat (first | apply Kd.R_alloc | apply Kd.R_drewN | apply Kd.R_drew)); exact (Q_HO290 h0_)) hb) (fun _ h_ => by first | trivial | exact h_ | exact h_.1))
          clear BK283 HB
          revert n0_ n1_
          intro BK283 HB
          (try clear hb)
          (try clear hb2)
          (try clear hk)
          (try clear hi)
          refine hK.out _ _ ⟨v289, (by rw [ha.out]; exact putSel_upk 3 hb_ rfl rfl rfl), (bk BK283), (bt HB), z_HO290⟩
         refine steps_cons ?_ ?_
         ·rintro b a w' ⟨v289, ha, Q_BK283, Q_HB, Q_HO290⟩ hb_ hon hoff
          refine ⟨_, rfl, fun K hK => ?_⟩
          have e16 : a.tmps[16]? = some (.string ((⟨#[69]⟩ : ByteArray) ++ t286)) := by rw [ha]; exact putSel_on (e := (2, 16, .string ((⟨#[69]⟩ : ByteArray) ++ t286))) 1 rfl rfl (hon 2 (by kernel_rfl)) rfl
          have e19 : a.tmps[19]? = some (.string t287) := by rw [ha]; exact putSel_on (e := (5, 19, .string t287)) 3 rfl rfl (hon 5 (by kernel_rfl)) rfl
          replace ha := Aside0.mk ha
          have BK283 := Aside0.mk Q_BK283
          have HB := Aside0.mk Q_HB
          refine value_ (w1 := w') (v := .string (((⟨#[69]⟩ : ByteArray) ++ t286) ++ t287)) (by rfl) rfl ?_ ?_
          ·go_simp
           (try simp only [i64_w])
           try rfl
          refine hK.out _ _ ⟨v289, (by rw [ha.out]; exact putSel_upk 4 hb_ rfl rfl rfl), Q_BK283, Q_HB, Q_HO290⟩
         refine steps_cons ?_ ?_
         ·rintro b a w' ⟨v289, ha, Q_BK283, Q_HB, Q_HO290⟩ hb_ hon hoff
          refine ⟨_, rfl, fun K hK => ?_⟩
          have e21 : a.tmps[21]? = some (.pointer (some ⟨gb283, 1, none⟩)) := by rw [ha]; exact (putSel_off rfl).trans rfl
          replace ha := Aside0.mk ha
          have BK283 := Aside0.mk Q_BK283
          have HB := Aside0.mk Q_HB
          have hc0_ : w'.cell? ⟨gb283, 0, none⟩ = some (.int .i64 a1_0) := bc BK283 0
          have hc1_ : w'.cell? ⟨gb283, 1, none⟩ = some (.int .i64 a1_1) := bc BK283 1
          have hc2_ : w'.cell? ⟨gb283, 2, none⟩ = some (.string a1_2) := bc BK283 2
          refine value_ (w1 := w') (v := .int .i64 a1_1) (by rfl) rfl ?_ ?_
          ·go_simp
           (try simp only [i64_w])
           try rfl
          refine hK.out _ _ ⟨v289, (by rw [ha.out]; exact putSel_upk 5 hb_ rfl rfl rfl), Q_BK283, Q_HB, fun h0_ => absurd ((hoff 9 (by kernel_rfl)).symm.trans h0_) (by decide)⟩
         refine steps_cons ?_ ?_
         ·rintro b a w' ⟨v289, ha, Q_BK283, Q_HB, Q_HO290⟩ hb_ hon hoff
          refine ⟨_, rfl, fun K hK => ?_⟩
          have e22 : a.tmps[22]? = some (.int .i64 a1_1) := by rw [ha]; exact putSel_on (e := (8, 22, .int .i64 a1_1)) 5 rfl rfl (hon 8 (by kernel_rfl)) rfl
          replace ha := Aside0.mk ha
          have BK283 := Aside0.mk Q_BK283
          have HB := Aside0.mk Q_HB
          refine Kd.R_lit_step (Kd.int .i64) _ 3 ?hg (N := 23) ?hd (xs := ([a1_1] : List Int)) (inner := [.int .i64 a1_1]) (ok := fun _ => True) (okp := fun _ => True) ?hr ?hp (fun _ hk => hk) trivial (Below.refl _ _) (Nat.le_refl _) (by simp) ?_; (case hd => rfl); (case hg => rfl); (case hr => first | (go_simp; done) | (go_simp; rfl)); (case hp => exact (Reps.one (show Kd.M (Kd.int .i64) _ _ _ a1_1 [.int .i64 a1_1] from rfl) (Reps.none _ _)))
          intro v289 w21 ho22 hb hg_ hnew_
          clear hg_ hnew_
          (first | rw [← Ny288.out] at ho22 | (simp only [Int.reduceToNat] at ho22; rw [← Ny288.out] at ho22))
          have n0_ := Aside0.mk (Kd.R_lower ho22 (below_size (bt HB)))
          have n1_ := bb BK283 hb
          have n2_ := Aside0.mk (below_step (bt HB) hb)
          clear BK283 HB
          revert n0_ n1_ n2_
          intro HO290 BK283 HB
          clear hb ho22
          refine hK.out _ _ ⟨v289, (by rw [ha.out]; exact putSel_upk 6 hb_ rfl rfl rfl), (bk BK283), (bt HB), fun _ => (rk HO290)⟩
         refine steps_cons ?_ ?_
         ·rintro b a w' ⟨v289, ha, Q_BK283, Q_HB, Q_HO290⟩ hb_ hon hoff
          refine ⟨_, rfl, fun K hK => ?_⟩
          have e23 : a.tmps[23]? = some (v289) := by rw [ha]; exact putSel_on (e := (9, 23, v289)) 6 rfl rfl (hon 9 (by kernel_rfl)) rfl
          replace ha := Aside0.mk ha
          have BK283 := Aside0.mk Q_BK283
          have HB := Aside0.mk Q_HB
          have HO290 := Aside0.mk (Q_HO290 (hon 9 (by kernel_rfl)))
          obtain ⟨Ao26, co26, eo26⟩ := Kd.R_slice HO290.out
          (first | subst eo26 | (injection eo26 with f1_ f2_ f3_; have f4_ := f1_.symm; have f5_ := f3_.symm; clear f1_ f2_ f3_; subst f4_; subst f5_))
          refine goes_ Try.func43 (by kernel_rfl) rfl #[.slice Ao26 y288.length co26] (by rfl) rfl rfl (by first | (simp only [List.map_toArray, List.map_cons, List.map_nil, Act.eval, Array.getD_eq_getD_getElem?, Option.getD_some, e23]; done) | (simp only [List.map_toArray, List.map_cons, List.map_nil, Act.eval, Array.getD_eq_getD_getElem?, Option.getD_some, e23]; rfl)) ?_
          with_reducible refine (impl_oneByte.calls kj2 _ _ y288 t291 _ ?side1 ?side2 A17.out).mono ?_
          (case side1 => repeat (first | exact (Kd.R_reads' HO290.out).2.2 | (with_reducible refine Kd.C_alloc ?_ _) | (with_reducible refine Kd.C_drewN ?_ _) | (with_reducible refine Kd.C_drew ?_)))
          (case side2 => exact (Kd.R_reads' HO290.out).2.1)
          rintro e w27 ⟨rfl, hb⟩
          refine ⟨_, rfl, ?_⟩
          have n0_ := rb HO290 hb
          have n1_ := bb BK283 hb
          have n2_ := Aside0.mk (below_step (bt HB) hb)
          clear HO290 BK283 HB
          revert n0_ n1_ n2_
          intro HO290 BK283 HB
          (try clear hb)
          (try clear hb2)
          (try clear hk)
          (try clear hi)
          refine hK.out _ _ ⟨.slice Ao26 y288.length co26, (by rw [ha.out]; exact putSel_upk 7 hb_ rfl rfl rfl), (bk BK283), (bt HB), fun _ => (rk HO290)⟩
         refine steps_cons ?_ ?_
         ·rintro b a w' ⟨v289, ha, Q_BK283, Q_HB, Q_HO290⟩ hb_ hon hoff
          refine ⟨_, rfl, fun K hK => ?_⟩
          have e20 : a.tmps[20]? = some (.string (((⟨#[69]⟩ : ByteArray) ++ t286) ++ t287)) := by rw [ha]; exact putSel_on (e := (6, 20, .string (((⟨#[69]⟩ : ByteArray) ++ t286) ++ t287))) 4 rfl rfl (hon 6 (by kernel_rfl)) rfl
          have e24 : a.tmps[24]? = some (.string t291) := by rw [ha]; exact putSel_on (e := (10, 24, .string t291)) 7 rfl rfl (hon 10 (by kernel_rfl)) rfl
          replace ha := Aside0.mk ha
          have BK283 := Aside0.mk Q_BK283
          have HB := Aside0.mk Q_HB
          have HO290 := Aside0.mk (Q_HO290 (hon 9 (by kernel_rfl)))
          refine value_ (w1 := w') (v := .string ((((⟨#[69]⟩ : ByteArray) ++ t286) ++ t287) ++ t291)) (by rfl) rfl ?_ ?_
          ·go_simp
           (try simp only [i64_w])
           try rfl
          refine hK.out _ _ ⟨v289, (by rw [ha.out]; exact putSel_upk 8 hb_ rfl rfl rfl), Q_BK283, Q_HB, Q_HO290⟩
         refine steps_cons ?_ ?_
         ·rintro b a w' ⟨v289, ha, Q_BK283, Q_HB, Q_HO290⟩ hb_ hon hoff
          refine ⟨_, rfl, fun K hK => ?_⟩
          have e26 : a.tmps[26]? = some (.pointer (some ⟨gb283, 2, none⟩)) := by rw [ha]; exact (putSel_off rfl).trans rfl
          replace ha := Aside0.mk ha
          have BK283 := Aside0.mk Q_BK283
          have HB := Aside0.mk Q_HB
          have hc0_ : w'.cell? ⟨gb283, 0, none⟩ = some (.int .i64 a1_0) := bc BK283 0
          have hc1_ : w'.cell? ⟨gb283, 1, none⟩ = some (.int .i64 a1_1) := bc BK283 1
          have hc2_ : w'.cell? ⟨gb283, 2, none⟩ = some (.string a1_2) := bc BK283 2
          refine value_ (w1 := w') (v := .string a1_2) (by rfl) rfl ?_ ?_
          ·go_simp
           (try simp only [i64_w])
           try rfl
          refine hK.out _ _ ⟨v289, (by rw [ha.out]; exact putSel_upk 9 hb_ rfl rfl rfl), Q_BK283, Q_HB, Q_HO290⟩
         refine steps_cons ?_ ?_
         ·rintro b a w' ⟨v289, ha, Q_BK283, Q_HB, Q_HO290⟩ hb_ hon hoff
          refine ⟨_, rfl, fun K hK => ?_⟩
          have e25 : a.tmps[25]? = some (.string ((((⟨#[69]⟩ : ByteArray) ++ t286) ++ t287) ++ t291)) := by rw [ha]; exact putSel_on (e := (11, 25, .string ((((⟨#[69]⟩ : ByteArray) ++ t286) ++ t287) ++ t291))) 8 rfl rfl (hon 11 (by kernel_rfl)) rfl
          have e27 : a.tmps[27]? = some (.string a1_2) := by rw [ha]; exact putSel_on (e := (13, 27, .string a1_2)) 9 rfl rfl (hon 13 (by kernel_rfl)) rfl
          replace ha := Aside0.mk ha
          have BK283 := Aside0.mk Q_BK283
          have HB := Aside0.mk Q_HB
          have HO290 := Aside0.mk (Q_HO290 (hon 9 (by kernel_rfl)))
          refine value_ (w1 := w') (v := .string (((((⟨#[69]⟩ : ByteArray) ++ t286) ++ t287) ++ t291) ++ a1_2)) (by rfl) rfl ?_ ?_
          ·go_simp
           (try simp only [i64_w])
           try rfl
          refine hK.out _ _ ⟨v289, (by rw [ha.out]; exact putSel_upk 10 hb_ rfl rfl rfl), Q_BK283, Q_HB, Q_HO290⟩
         refine steps_cons ?_ ?_
         ·rintro b a w' ⟨v289, ha, Q_BK283, Q_HB, Q_HO290⟩ hb_ hon hoff
          refine ⟨_, rfl, fun K hK => ?_⟩
          have e28 : a.tmps[28]? = some (.string (((((⟨#[69]⟩ : ByteArray) ++ t286) ++ t287) ++ t291) ++ a1_2)) := by rw [ha]; exact putSel_on (e := (14, 28, .string (((((⟨#[69]⟩ : ByteArray) ++ t286) ++ t287) ++ t291) ++ a1_2))) 10 rfl rfl (hon 14 (by kernel_rfl)) rfl
          replace ha := Aside0.mk ha
          have BK283 := Aside0.mk Q_BK283
          have HB := Aside0.mk Q_HB
          have HO290 := Aside0.mk (Q_HO290 (hon 9 (by kernel_rfl)))
          refine value_ (w1 := w') (v := .string (((((⟨#[69]⟩ : ByteArray) ++ t286) ++ t287) ++ t291) ++ a1_2)) (by rfl) rfl ?_ ?_
          ·go_simp
           (try simp only [i64_w])
           try rfl
          refine hK.out _ _ ⟨v289, (by rw [ha.out]; exact putSel_upk 11 hb_ rfl rfl rfl), Q_BK283, Q_HB, Q_HO290⟩
         refine steps_cons ?_ ?_
         ·rintro b a w' ⟨v289, ha, Q_BK283, Q_HB, Q_HO290⟩ hb_ hon hoff
          refine ⟨_, rfl, fun K hK => ?_⟩
          replace ha := Aside0.mk ha
          have BK283 := Aside0.mk Q_BK283
          have HB := Aside0.mk Q_HB
          have HO290 := Aside0.mk (Q_HO290 (hon 9 (by kernel_rfl)))
          refine value_ (w1 := w') (v := .bool true) (by rfl) rfl ?_ ?_
          ·go_simp
           (try simp only [i64_w])
           try rfl
          refine hK.out _ _ ⟨v289, (by rw [ha.out]; exact putSel_upk 12 hb_ rfl rfl rfl), Q_BK283, Q_HB, Q_HO290⟩
         exact steps_nil
        rintro b a w27 hall ⟨v289, ha, Q_BK283, Q_HB, Q_HO290⟩
        clear BK283 HB
        have hb1_ := hall 1 (by kernel_rfl)
        have hb2_ := hall 2 (by kernel_rfl)
        have hb4_ := hall 4 (by kernel_rfl)
        have hb5_ := hall 5 (by kernel_rfl)
        have hb6_ := hall 6 (by kernel_rfl)
        have hb8_ := hall 8 (by kernel_rfl)
        have hb9_ := hall 9 (by kernel_rfl)
        have hb10_ := hall 10 (by kernel_rfl)
        have hb11_ := hall 11 (by kernel_rfl)
        have hb13_ := hall 13 (by kernel_rfl)
        have hb14_ := hall 14 (by kernel_rfl)
        have hb15_ := hall 15 (by kernel_rfl)
        have hb16_ := hall 16 (by kernel_rfl)
        subst ha
        simp only [putSel, hb1_, hb2_, hb4_, hb5_, hb6_, hb8_, hb9_, hb10_, hb11_, hb13_, hb14_, hb15_, hb16_, if_true, Act.put, zA, zB, zC]
        have BK283 := Aside0.mk Q_BK283
        clear Q_BK283
        have HB := Aside0.mk Q_HB
        clear Q_HB
        have HO290 := Aside0.mk (Q_HO290 hb9_)
        clear Q_HO290
        clear hall hb1_ hb2_ hb4_ hb5_ hb6_ hb8_ hb9_ hb10_ hb11_ hb13_ hb14_ hb15_ hb16_
        try go_wp2
        go_ret2
        exact ⟨by first | rfl | (simp [errW_none, errW_some] <;> rfl) | (simp [*, errW_none, errW_some] <;> rfl), bt HB⟩
       ·rw [if_neg c19] at H
        exact absurd H (by simp)
      ·rw [if_neg c18] at H
       exact absurd H (by simp)
     ·rw [if_neg c16] at H
      exact absurd H (by simp)
    ·rw [if_neg c14] at H
     exact absurd H (by simp)

end Go.Proofs.Ytgeagknnfkgihaa.PFnExactJournalText
