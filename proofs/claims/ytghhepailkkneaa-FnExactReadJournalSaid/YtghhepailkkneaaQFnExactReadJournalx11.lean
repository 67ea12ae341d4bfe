/- What the functions that FnExactReadJournal reaches compute, and that the machine's calls compute it. Begun as a text of the kit's print. No condition. -/
import Derived.Test.YtghhepailkkneaaTiny
import Derived.Test.YtghhepailkkneaaQFnExactReadJournalx0
import Derived.Test.YtghhepailkkneaaQFnExactReadJournalx9
namespace Go.Proofs.Ytghhepailkkneaa.PFnExactReadJournal
open Go.RowKit Go.Proofs.YtghhepailkkneaaW.PrintWords Go.Proofs.YtghhepailkkneaaW.PrintLast Go.Proofs.YtghhepailkkneaaW.PrintMore Go.Proofs.YtghhepailkkneaaW.Short
attribute [local go_sem] max2_int min2_int max_two min_two max_three min_three max_four min_four
set_option linter.unusedVariables false
set_option linter.unusedSimpArgs false
def impl_ConfOk.l0 : Nat → List Int → List Int → Int → Int → Option (Bool)
  | 0, _, _, _, _ => none
  | k + 1, x0, x5, x6, x7 => if x7 < x6 then (if 0 ≤ x7 then (if x7 < (x5.length : Int) then ((impl_in.f (rd x5 x7) 1 4).bind fun t306 => (if t306 = true then (if x7 > 0 then (if 0 ≤ (wrap64 (x7 - 1)) then (if (wrap64 (x7 - 1)) < (x0.length : Int) then (if (rd x0 (wrap64 (x7 - 1))) ≥ (rd x5 x7) then (some false) else (impl_ConfOk.l0 k x0 x5 x6 (wrap64 (x7 + 1)))) else (none)) else (none)) else (impl_ConfOk.l0 k x0 x5 x6 (wrap64 (x7 + 1)))) else (some false))) else (none)) else (none)) else (some (decide ((x0.length : Int) ≥ 1)))
def impl_ConfOk.f (k : Nat) (l0 : List Int) : Option (Bool) := impl_ConfOk.l0 k l0 l0 (l0.length : Int) 0
set_option maxHeartbeats 8000000 in
set_option maxRecDepth 100000 in
theorem impl_ConfOk.calls (k : Nat) (A0 : Option Addr) (c0 : Nat) (l0 : List Int) (r : Bool) (w : World) (hr0 : Kd.C (Kd.int .i64) w A0 l0.length l0) (hc0 : l0.length ≤ c0) (h : impl_ConfOk.f k l0 = some r) :
  Calls Try.prog 83 #[.slice A0 l0.length c0] w fun e w' => e = .returned (.bool r) ∧ Drawn0 w w' := by
 have HR0 := Aside0.mk hr0
 have HC0 := Aside0.mk hc0
 clear hr0 hc0
 have H := h
 clear h
 unfold impl_ConfOk.f at H
 have H' := Aside0.mk H
 clear H
 go_enter Try.func83, Try.ntmps83
 go_wp2
 go_loopg [7] k (fun kq v7 w' => ∃ (x7_1 : Int), v7 = .int .i64 x7_1 ∧ Aside0 (impl_ConfOk.l0 kq l0 l0 (l0.length : Int) x7_1 = some r) ∧ Aside0 (kq ≤ k) ∧ Drawn0 w w')
 case atStart => exact ⟨(0), fr, H', ⟨Nat.le_refl _⟩, by repeat (first | exact Drawn0.refl _ | apply Drawn0.step)⟩
 case round =>
  clear H'
  obtain ⟨x7_1, rfl, HA, HK1, ⟨m1, rfl⟩⟩ := hrel
  cases gk with
  | zero => exact absurd HA.out (by simp [impl_ConfOk.l0])
  | succ k1 =>
   have H := HA.out
   clear HA
   simp only [impl_ConfOk.l0] at H
   by_cases c2 : x7_1 < (l0.length : Int)
   ·rw [if_pos c2] at H
    have c2b0 : decide (x7_1 < (l0.length : Int)) = true := decide_eq_true c2
    clear c2
    by_cases c3 : 0 ≤ x7_1
    ·rw [if_pos c3] at H
     have c3b0 : decide (0 ≤ x7_1) = true := decide_eq_true c3
     clear c3
     by_cases c4 : x7_1 < (l0.length : Int)
     ·rw [if_pos c4] at H
      have c4b0 : decide (x7_1 < (l0.length : Int)) = true := decide_eq_true c4
      clear c4
      replace H := Option.bind_eq_some_iff.mp H
      obtain ⟨t306, A50, H⟩ := H
      try dsimp only at H
      have A5 := Aside0.mk A50
      clear A50
      by_cases c6 : t306 = true
      ·subst c6
       rw [if_pos rfl] at H
       by_cases c7 : x7_1 > 0
       ·rw [if_pos c7] at H
        have c7b0 : decide (0 < x7_1) = true := decide_eq_true c7
        clear c7
        obtain ⟨ji8, hji8⟩ : ∃ j_ : Int, (wrap64 (x7_1 - 1)) = j_ := ⟨_, rfl⟩
        first | rw [hji8] at H | simp only [hji8] at H
        (try rw [hji8] at A5)
        have hji8w : (IntKind.i64.wrap (x7_1 - 1)) = ji8 := (i64_w _).trans hji8
        by_cases c9 : 0 ≤ (ji8)
        ·rw [if_pos c9] at H
         have c9b0 : decide (0 ≤ (ji8)) = true := decide_eq_true c9
         clear c9
         by_cases c10 : (ji8) < (l0.length : Int)
         ·rw [if_pos c10] at H
          have c10b0 : decide ((ji8) < (l0.length : Int)) = true := decide_eq_true c10
          clear c10
          by_cases c11 : (rd l0 (ji8)) ≥ (rd l0 x7_1)
          ·rw [if_pos c11] at H
           have c11b0 : decide ((rd l0 x7_1) ≤ (rd l0 (ji8))) = true := decide_eq_true c11
           clear c11
           obtain rfl := Option.some.inj H
           have p305 : 0 ≤ (x7_1 : Int) := da
           have q305 : x7_1 < (l0.length : Int) := da
           obtain ⟨ad305, e305, hx305_0⟩ := Kd.at_int HR0.out x7_1 p305 q305
           cases e305
           replace p305 := eq_true p305
           replace q305 := eq_true q305
           go_wp2_with (first | ((with_reducible refine gd 13 rfl ?_); refine gl 35 13 Try.func35 #[.int .i64 (rd l0 x7_1), .int .i64 1, .int .i64 4] ?_; (with_reducible refine (impl_in.calls (rd l0 x7_1) 1 4 true _ A5.out).mono ?_); rintro e w' ⟨rfl, ⟨nd, rfl⟩⟩; refine ⟨_, rfl, ?_⟩; have p307 : 0 ≤ ((ji8) : Int) := da; have q307 : (ji8) < (l0.length : Int) := da; obtain ⟨ad307, e307, hx307_0⟩ := Kd.at_int HR0.out (ji8) p307 q307; obtain rfl : ad305 = ad307 := (by injection e307); replace p307 := eq_true p307; replace q307 := eq_true q307))
           go_ret
           exact ⟨by first | rfl | (simp; done) | (simp only [← hji8] <;> (first | rfl | simp)) | (simp [*]; done), by repeat (first | exact Drawn0.refl _ | apply Drawn0.step)⟩
          ·rw [if_neg c11] at H
           have c11b0 : decide ((rd l0 x7_1) ≤ (rd l0 (ji8))) = false := decide_eq_false c11
           clear c11
           have H' := Aside0.mk H
           clear H
           have p305 : 0 ≤ (x7_1 : Int) := da
           have q305 : x7_1 < (l0.length : Int) := da
           obtain ⟨ad305, e305, hx305_0⟩ := Kd.at_int HR0.out x7_1 p305 q305
           cases e305
           replace p305 := eq_true p305
           replace q305 := eq_true q305
           go_wp2_with (first | ((with_reducible refine gd 13 rfl ?_); refine gl 35 13 Try.func35 #[.int .i64 (rd l0 x7_1), .int .i64 1, .int .i64 4] ?_; (with_reducible refine (impl_in.calls (rd l0 x7_1) 1 4 true _ A5.out).mono ?_); rintro e w' ⟨rfl, ⟨nd, rfl⟩⟩; refine ⟨_, rfl, ?_⟩; have p307 : 0 ≤ ((ji8) : Int) := da; have q307 : (ji8) < (l0.length : Int) := da; obtain ⟨ad307, e307, hx307_0⟩ := Kd.at_int HR0.out (ji8) p307 q307; obtain rfl : ad305 = ad307 := (by injection e307); replace p307 := eq_true p307; replace q307 := eq_true q307))
           go_roundg k1
           case measure => have := HK1.out; omega
           case rel => exact ⟨(wrap64 (x7_1 + 1)), fr, H', ⟨by have := HK1.out; omega⟩, by repeat (first | exact Drawn0.refl _ | apply Drawn0.step)⟩
         ·rw [if_neg c10] at H
          exact absurd H (by simp)
        ·rw [if_neg c9] at H
         exact absurd H (by simp)
       ·rw [if_neg c7] at H
        have c7b0 : decide (0 < x7_1) = false := decide_eq_false c7
        clear c7
        have H' := Aside0.mk H
        clear H
        have p305 : 0 ≤ (x7_1 : Int) := da
        have q305 : x7_1 < (l0.length : Int) := da
        obtain ⟨ad305, e305, hx305_0⟩ := Kd.at_int HR0.out x7_1 p305 q305
        cases e305
        replace p305 := eq_true p305
        replace q305 := eq_true q305
        go_wp2_with (first | ((with_reducible refine gd 13 rfl ?_); refine gl 35 13 Try.func35 #[.int .i64 (rd l0 x7_1), .int .i64 1, .int .i64 4] ?_; (with_reducible refine (impl_in.calls (rd l0 x7_1) 1 4 true _ A5.out).mono ?_); rintro e w' ⟨rfl, ⟨nd, rfl⟩⟩; refine ⟨_, rfl, ?_⟩))
        go_roundg k1
        case measure => have := HK1.out; omega
        case rel => exact ⟨(wrap64 (x7_1 + 1)), fr, H', ⟨by have := HK1.out; omega⟩, by repeat (first | exact Drawn0.refl _ | apply Drawn0.step)⟩
      ·replace c6 := Bool.eq_false_iff.mpr c6
       subst c6
       rw [if_neg nf] at H
       obtain rfl := Option.some.inj H
       have p305 : 0 ≤ (x7_1 : Int) := da
       have q305 : x7_1 < (l0.length : Int) := da
       obtain ⟨ad305, e305, hx305_0⟩ := Kd.at_int HR0.out x7_1 p305 q305
       cases e305
       replace p305 := eq_true p305
       replace q305 := eq_true q305
       go_wp2_with (first | ((with_reducible refine gd 13 rfl ?_); refine gl 35 13 Try.func35 #[.int .i64 (rd l0 x7_1), .int .i64 1, .int .i64 4] ?_; (with_reducible refine (impl_in.calls (rd l0 x7_1) 1 4 false _ A5.out).mono ?_); rintro e w' ⟨rfl, ⟨nd, rfl⟩⟩; refine ⟨_, rfl, ?_⟩))
       go_ret
       exact ⟨fr, by repeat (first | exact Drawn0.refl _ | apply Drawn0.step)⟩
     ·rw [if_neg c4] at H
      exact absurd H (by simp)
    ·rw [if_neg c3] at H
     exact absurd H (by simp)
   ·rw [if_neg c2] at H
    have c2b0 : decide (x7_1 < (l0.length : Int)) = false := decide_eq_false c2
    clear c2
    obtain rfl := Option.some.inj H
    go_wp2
    go_ret
    exact ⟨fr, by repeat (first | exact Drawn0.refl _ | apply Drawn0.step)⟩
def impl_ReadConf.l0 : Nat → ByteArray → List Int → Int → Int → Option (List Int × Bool)
 | 0, _, _, _, _ => none
 | k + 1, x0, x4, x8, x9 => if x9 < x8 then (if 0 ≤ x9 then (if x9 < (x0.size : Int) then (if x4.length < 17592186044416 then (impl_ReadConf.l0 k x0 (x4 ++ [wrap64 (bt x0 x9)]) x8 (wrap64 (x9 + 1))) else (none)) else (none)) else (none)) else ((impl_ConfOk.f k x4).bind fun t314 => (if t314 = true then (some (x4, true)) else (some (([] : List Int), false))))
def impl_ReadConf.f (k : Nat) (a0 : ByteArray) : Option (List Int × Bool) := impl_ReadConf.l0 k a0 (([] : List Int)) (a0.size : Int) 0
set_option maxHeartbeats 8000000 in
set_option maxRecDepth 100000 in
theorem impl_ReadConf.calls (k : Nat) (a0 : ByteArray) (r1 : List Int) (r2 : Bool) (w : World) (h : impl_ReadConf.f k a0 = some (r1, r2)) :
  Calls Try.prog 74 #[.string a0] w fun e w' => ∃ v0_ : Value, e = .returned (.tuple #[v0_, .bool r2]) ∧ Kd.R (Kd.int .i64) 3 w' w.heap.size (fun _ => True) v0_ r1 ∧ Below w.heap.size w w' := by
 have HB := Aside0.mk (Below.refl w.heap.size w)
 have H := h
 clear h
 unfold impl_ReadConf.f at H
 obtain ⟨y308, hy308⟩ : ∃ y_ : List Int, y_ = (([] : List Int)) := ⟨_, rfl⟩
 first | replace H := bs hy308 H | rw [← hy308] at H
 have Ny308 := Aside0.mk hy308
 clear hy308
 have H' := Aside0.mk H
 clear H
 go_enter Try.func74, Try.ntmps74
 go_wp2_with (first | ((with_reducible refine gate_dst (N := 6) rfl ?_); refine Kd.R_lit (Kd.int .i64) _ 3 ?hg (N := 6) ?hd (xs := ([] : List Int)) (inner := []) (ok := fun _ => True) (okp := fun _ => True) ?hr ?hp (fun _ hk => hk) trivial (Below.refl _ _) (Nat.le_refl _) (by simp) ?_; (case hd => rfl); (case hg => rfl); (case hr => first | (go_simp; done) | (go_simp; rfl)); (case hp => exact (Reps.none _ _)); intro v309 w2 ho3 hb hg_ hnew_; clear hg_ hnew_; (first | rw [← Ny308.out] at ho3 | (simp only [Int.reduceToNat] at ho3; rw [← Ny308.out] at ho3)); have n0_ := Aside0.mk (Kd.R_lower ho3 (below_size (bt HB))); have n1_ := Aside0.mk (below_step (bt HB) hb); clear HB; revert n0_ n1_; intro HO310 HB; clear hb ho3))
 go_loopg [4, 9] k (fun kq v4 v9 w' => ∃ (x4_1 : List Int) (x9_1 : Int), v9 = .int .i64 x9_1 ∧ Aside0 (impl_ReadConf.l0 kq a0 x4_1 (a0.size : Int) x9_1 = some (r1, r2)) ∧ Aside0 (kq ≤ k) ∧ Aside0 (Kd.R (Kd.int .i64) 3 w' w.heap.size (fun _ => True) v4 x4_1) ∧ Aside0 (Below w.heap.size w w'))
 case atStart => exact ⟨(y308), (0), fr, H', ⟨Nat.le_refl _⟩, ⟨by (with_reducible repeat (first | apply Kd.R_alloc | apply Kd.R_drewN | apply Kd.R_drew)); exact HO310.out⟩, ⟨bt HB⟩⟩
 case round =>
  clear H'
  try clear p2
  obtain ⟨x4_1, x9_1, rfl, HA, HK1, HO_4, HB⟩ := hrel
  cases gk with
  | zero => exact absurd HA.out (by simp [impl_ReadConf.l0])
  | succ k1 =>
   have H := HA.out
   clear HA
   simp only [impl_ReadConf.l0] at H
   by_cases c4 : x9_1 < (a0.size : Int)
   ·rw [if_pos c4] at H
    have c4b0 : decide (x9_1 < (a0.size : Int)) = true := decide_eq_true c4
    clear c4
    by_cases c5 : 0 ≤ x9_1
    ·rw [if_pos c5] at H
     have c5b0 : decide (0 ≤ x9_1) = true := decide_eq_true c5
     clear c5
     by_cases c6 : x9_1 < (a0.size : Int)
     ·rw [if_pos c6] at H
      have c6b0 : decide (x9_1 < (a0.size : Int)) = true := decide_eq_true c6
      clear c6
      by_cases c8 : x4_1.length < 17592186044416
      ·rw [if_pos c8] at H
       have LMc8 := Aside0.mk c8
       clear c8
       obtain ⟨y311, hy311⟩ : ∃ y_ : List Int, y_ = (x4_1 ++ [wrap64 (bt a0 x9_1)]) := ⟨_, rfl⟩
       first | replace H := bs hy311 H | rw [← hy311] at H
       have Ny311 := Aside0.mk hy311
       clear hy311
       have H' := Aside0.mk H
       clear H
       have p7 : 0 ≤ (x9_1 : Int) := da
       have q7 : x9_1 < (a0.size : Int) := da
       have hx7 := bt_at a0 x9_1
       replace p7 := eq_true p7
       replace q7 := eq_true q7
       go_wp2_with (first | ((with_reducible refine gate_builtin (b := .append) (xs := #[.tmp 12, .tmp 17]) rfl ?_); at_builtin; refine Kd.R_append (Kd.int .i64) (w0 := w) w.heap.size rfl (.tmp 12) (.tmp 17) 28 3 (.int .i64 0) 8 rfl Try.underlying28 info3 rfl (by decide) (by omega) u4 x4_1 (wrap64 (bt a0 x9_1)) [.int .i64 (wrap64 (bt a0 x9_1))] (fun _ => True) (fun _ => False) rfl rfl ?aP (fun _ hk => hk.elim) ?aF ?aO ?aB ?aS ?aL ?_; (case aP => exact rfl); (case aB => exact (bt HB)); (case aF => exact (fun _ _ => trivial)); (case aO => exact (rk HO_4)); (case aS => exact (below_size (bt HB))); (case aL => have := LMc8.out; omega); intro v312 w9 ho hb hg hat; rw [← Ny311.out] at ho; have n0_ := Aside0.mk (hb); have n1_ := Aside0.mk (ho); clear HB HO_4; revert n0_ n1_; intro HB HO313; clear ho hb hg hat))
       go_roundg k1
       case measure => have := HK1.out; omega
       case rel => exact ⟨(y311), (wrap64 (x9_1 + 1)), fr, H', ⟨by have := HK1.out; omega⟩, ⟨by (with_reducible repeat (first | apply Kd.R_alloc | apply Kd.R_drewN | apply Kd.R_drew)); exact HO313.out⟩, ⟨bt HB⟩⟩
      ·rw [if_neg c8] at H
       exact absurd H (by simp)
     ·rw [if_neg c6] at H
      exact absurd H (by simp)
    ·rw [if_neg c5] at H
     exact absurd H (by simp)
   ·rw [if_neg c4] at H
    have c4b0 : decide (x9_1 < (a0.size : Int)) = false := decide_eq_false c4
    clear c4
    replace H := Option.bind_eq_some_iff.mp H
    obtain ⟨t314, A100, H⟩ := H
    try dsimp only at H
    have A10 := Aside0.mk A100
    clear A100
    by_cases c11 : t314 = true
    ·subst c11
     rw [if_pos rfl] at H
     simp only [Option.some.injEq, Prod.mk.injEq] at H
     obtain ⟨rfl, rfl⟩ := H
     obtain ⟨Ao12, co12, eo12⟩ := Kd.R_slice HO_4.out
     subst eo12
     go_wp2_with (first | ((with_reducible refine gd 21 rfl ?_); refine gl 83 21 Try.func83 #[.slice Ao12 x4_1.length co12] ?_; (with_reducible refine (impl_ConfOk.calls k1 _ _ x4_1 true _ ?side1 ?side2 A10.out).mono ?_); (case side1 => repeat (first | exact (Kd.R_reads' HO_4.out).2.2 | (with_reducible refine Kd.C_alloc ?_ _) | (with_reducible refine Kd.C_drewN ?_ _) | (with_reducible refine Kd.C_drew ?_))); (case side2 => exact (Kd.R_reads' HO_4.out).2.1); rintro e w' ⟨rfl, ⟨nd, rfl⟩⟩; refine ⟨_, rfl, ?_⟩))
     go_ret2
     exact ⟨_, by first | rfl | (simp [errW_none, errW_some] <;> rfl) | (simp [*, errW_none, errW_some] <;> rfl), by (with_reducible repeat (first | apply Kd.R_alloc | apply Kd.R_drewN | apply Kd.R_drew)); exact HO_4.out, bt HB⟩
    ·replace c11 := Bool.eq_false_iff.mpr c11
     subst c11
     rw [if_neg nf] at H
     simp only [Option.some.injEq, Prod.mk.injEq] at H
     obtain ⟨rfl, rfl⟩ := H
     obtain ⟨Ao13, co13, eo13⟩ := Kd.R_slice HO_4.out
     subst eo13
     go_wp2_with (first | ((with_reducible refine gd 21 rfl ?_); refine gl 83 21 Try.func83 #[.slice Ao13 x4_1.length co13] ?_; (with_reducible refine (impl_ConfOk.calls k1 _ _ x4_1 false _ ?side1 ?side2 A10.out).mono ?_); (case side1 => repeat (first | exact (Kd.R_reads' HO_4.out).2.2 | (with_reducible refine Kd.C_alloc ?_ _) | (with_reducible refine Kd.C_drewN ?_ _) | (with_reducible refine Kd.C_drew ?_))); (case side2 => exact (Kd.R_reads' HO_4.out).2.1); rintro e w' ⟨rfl, ⟨nd, rfl⟩⟩; refine ⟨_, rfl, ?_⟩))
     go_ret2
     exact ⟨_, by first | rfl | (simp [errW_none, errW_some] <;> rfl) | (simp [*, errW_none, errW_some] <;> rfl), by first | exact Kd.R_nil _ _ _ _ _ | exact Kd.N_nil _ _ _ _ _ | exact Kd.V_nil _ _ _ _ _ | exact Kd.Q_nil _ _ _ _ _ | exact Kd.S_nil _ _ _ _ _, bt HB⟩
def impl_EntryOk.f (k : Nat) (a0_0 : Int) (a0_1 : Int) (a0_2 : ByteArray) : Option (Bool) := (impl_in.f a0_0 0 100000).bind fun t316 => (if t316 = true then (if a0_1 = 1 then (some (a0_2.toList == ([] : List UInt8))) else (if a0_1 = 2 then ((impl_ReadConf.f k a0_2).bind fun bt317 => (some bt317.2)) else (if a0_1 = 3 then (some (decide ((a0_2.size : Int) ≤ 120))) else (some false)))) else (some false))
set_option maxHeartbeats 8000000 in
set_option maxRecDepth 100000 in
theorem impl_EntryOk.calls (k : Nat) (a0_0 : Int) (a0_1 : Int) (a0_2 : ByteArray) (r : Bool) (w : World) (h : impl_EntryOk.f k a0_0 a0_1 a0_2 = some r) :
  Calls Try.prog 61 #[.agg #[.int .i64 a0_0, .int .i64 a0_1, .string a0_2]] w fun e w' => e = .returned (.bool r) ∧ Below w.heap.size w w' := by
 have hu89 := Try.underlying89
 have HB := Aside0.mk (Below.refl w.heap.size w)
 have H := h
 clear h
 unfold impl_EntryOk.f at H
 replace H := Option.bind_eq_some_iff.mp H
 obtain ⟨t316, A20, H⟩ := H
 try dsimp only at H
 have A2 := Aside0.mk A20
 clear A20
 by_cases c3 : t316 = true
 ·subst c3
  rw [if_pos rfl] at H
  by_cases c4 : a0_1 = 1
  ·rw [if_pos c4] at H
   have c4b0 : (a0_1 == 1) = true := beq_iff_eq.mpr c4
   have c4b1 : (a0_1 != 1) = false := bne_eq_false_iff_eq.mpr c4
   clear c4
   obtain rfl := Option.some.inj H
   go_enter Try.func61, Try.ntmps61
   go_wp2_with (first | (refine bx 1 89 #[.int .i64 a0_0, .int .i64 a0_1, .string a0_2] ?_; intro gb315 hg w5 hbox hb; have n0_ := Aside0.mk (below_step (bt HB) hb); have n1_ := Aside0.mk (hbox); have n2_ := ge_ hg HB; have n3_ := ge_ hg HB; clear HB; revert n0_ n1_ n2_ n3_; intro HB BK315 GW315 GE315; clear hb hbox hg; obtain ⟨hcz6_0, hcz6_1, hcz6_2, hfz6_0, hfz6_1, hfz6_2⟩ := bc3 BK315) | ((with_reducible refine gd 7 rfl ?_); refine gl 35 7 Try.func35 #[.int .i64 a0_0, .int .i64 0, .int .i64 100000] ?_; (with_reducible refine (impl_in.calls a0_0 0 100000 true _ A2.out).mono ?_); rintro e w' ⟨rfl, ⟨nd, rfl⟩⟩; refine ⟨_, rfl, ?_⟩))
   go_ret
   exact ⟨by first | rfl | (simp [errW_none, errW_some] <;> rfl) | (simp [*, errW_none, errW_some] <;> rfl), bt HB⟩
  ·rw [if_neg c4] at H
   have c4b0 : (a0_1 == 1) = false := beq_eq_false_iff_ne.mpr c4
   have c4b1 : (a0_1 != 1) = true := bne_iff_ne.mpr c4
   by_cases c7 : a0_1 = 2
   ·rw [if_pos c7] at H
    have c7b0 : (a0_1 == 2) = true := beq_iff_eq.mpr c7
    have c7b1 : (a0_1 != 2) = false := bne_eq_false_iff_eq.mpr c7
    clear c7
    replace H := Option.bind_eq_some_iff.mp H
    obtain ⟨⟨t317, t318⟩, A80, H⟩ := H
    try dsimp only at H
    have A8 := Aside0.mk A80
    clear A80
    obtain rfl := Option.some.inj H
    go_enter Try.func61, Try.ntmps61
    go_wp2_with (first | (refine bx 1 89 #[.int .i64 a0_0, .int .i64 a0_1, .string a0_2] ?_; intro gb315 hg w9 hbox hb; have n0_ := Aside0.mk (below_step (bt HB) hb); have n1_ := Aside0.mk (hbox); have n2_ := ge_ hg HB; have n3_ := ge_ hg HB; clear HB; revert n0_ n1_ n2_ n3_; intro HB BK315 GW315 GE315; clear hb hbox hg; obtain ⟨hcz10_0, hcz10_1, hcz10_2, hfz10_0, hfz10_1, hfz10_2⟩ := bc3 BK315) | ((with_reducible refine gd 7 rfl ?_); refine gl 35 7 Try.func35 #[.int .i64 a0_0, .int .i64 0, .int .i64 100000] ?_; (with_reducible refine (impl_in.calls a0_0 0 100000 true _ A2.out).mono ?_); rintro e w' ⟨rfl, ⟨nd, rfl⟩⟩; refine ⟨_, rfl, ?_⟩) | ((with_reducible refine gd 21 rfl ?_); refine gl 74 21 Try.func74 #[.string a0_2] ?_; (with_reducible refine (impl_ReadConf.calls k a0_2 t317 t318 _ A8.out).mono ?_); rintro e w11 ⟨v319, rfl, ho0, hb⟩; refine ⟨_, rfl, ?_⟩; have n0_ := Aside0.mk (Kd.R_lower ho0 (below_size (bt HB))); have n1_ := bb BK315 hb; have n2_ := Aside0.mk (below_step (bt HB) hb); clear BK315 HB; revert n0_ n1_ n2_; intro HO320 BK315 HB; (try clear hb); (try clear hb2); (try clear hk); (try clear hi); (try clear ho0)))
    go_ret
    exact ⟨by first | rfl | (simp [errW_none, errW_some] <;> rfl) | (simp [*, errW_none, errW_some] <;> rfl), bt HB⟩
   ·rw [if_neg c7] at H
    have c7b0 : (a0_1 == 2) = false := beq_eq_false_iff_ne.mpr c7
    have c7b1 : (a0_1 != 2) = true := bne_iff_ne.mpr c7
    by_cases c12 : a0_1 = 3
    ·rw [if_pos c12] at H
     have c12b0 : (a0_1 == 3) = true := beq_iff_eq.mpr c12
     have c12b1 : (a0_1 != 3) = false := bne_eq_false_iff_eq.mpr c12
     clear c12
     obtain rfl := Option.some.inj H
     go_enter Try.func61, Try.ntmps61
     go_wp2_with (first | (refine bx 1 89 #[.int .i64 a0_0, .int .i64 a0_1, .string a0_2] ?_; intro gb315 hg w13 hbox hb; have n0_ := Aside0.mk (below_step (bt HB) hb); have n1_ := Aside0.mk (hbox); have n2_ := ge_ hg HB; have n3_ := ge_ hg HB; clear HB; revert n0_ n1_ n2_ n3_; intro HB BK315 GW315 GE315; clear hb hbox hg; obtain ⟨hcz14_0, hcz14_1, hcz14_2, hfz14_0, hfz14_1, hfz14_2⟩ := bc3 BK315) | ((with_reducible refine gd 7 rfl ?_); refine gl 35 7 Try.func35 #[.int .i64 a0_0, .int .i64 0, .int .i64 100000] ?_; (with_reducible refine (impl_in.calls a0_0 0 100000 true _ A2.out).mono ?_); rintro e w' ⟨rfl, ⟨nd, rfl⟩⟩; refine ⟨_, rfl, ?_⟩))
     go_ret
     exact ⟨by first | rfl | (simp [errW_none, errW_some] <;> rfl) | (simp [*, errW_none, errW_some] <;> rfl), bt HB⟩
    ·rw [if_neg c12] at H
     have c12b0 : (a0_1 == 3) = false := beq_eq_false_iff_ne.mpr c12
     have c12b1 : (a0_1 != 3) = true := bne_iff_ne.mpr c12
     obtain rfl := Option.some.inj H
     go_enter Try.func61, Try.ntmps61
     go_wp2_with (first | (refine bx 1 89 #[.int .i64 a0_0, .int .i64 a0_1, .string a0_2] ?_; intro gb315 hg w15 hbox hb; have n0_ := Aside0.mk (below_step (bt HB) hb); have n1_ := Aside0.mk (hbox); have n2_ := ge_ hg HB; have n3_ := ge_ hg HB; clear HB; revert n0_ n1_ n2_ n3_; intro HB BK315 GW315 GE315; clear hb hbox hg; obtain ⟨hcz16_0, hcz16_1, hcz16_2, hfz16_0, hfz16_1, hfz16_2⟩ := bc3 BK315) | ((with_reducible refine gd 7 rfl ?_); refine gl 35 7 Try.func35 #[.int .i64 a0_0, .int .i64 0, .int .i64 100000] ?_; (with_reducible refine (impl_in.calls a0_0 0 100000 true _ A2.out).mono ?_); rintro e w' ⟨rfl, ⟨nd, rfl⟩⟩; refine ⟨_, rfl, ?_⟩))
     go_ret
     exact ⟨by first | rfl | (simp [errW_none, errW_some] <;> rfl) | (simp [*, errW_none, errW_some] <;> rfl), bt HB⟩
 ·replace c3 := Bool.eq_false_iff.mpr c3
  subst c3
  rw [if_neg nf] at H
  obtain rfl := Option.some.inj H
  go_enter Try.func61, Try.ntmps61
  go_wp2_with (first | (refine bx 1 89 #[.int .i64 a0_0, .int .i64 a0_1, .string a0_2] ?_; intro gb315 hg w17 hbox hb; have n0_ := Aside0.mk (below_step (bt HB) hb); have n1_ := Aside0.mk (hbox); have n2_ := ge_ hg HB; have n3_ := ge_ hg HB; clear HB; revert n0_ n1_ n2_ n3_; intro HB BK315 GW315 GE315; clear hb hbox hg; obtain ⟨hcz18_0, hcz18_1, hcz18_2, hfz18_0, hfz18_1, hfz18_2⟩ := bc3 BK315) | ((with_reducible refine gd 7 rfl ?_); refine gl 35 7 Try.func35 #[.int .i64 a0_0, .int .i64 0, .int .i64 100000] ?_; (with_reducible refine (impl_in.calls a0_0 0 100000 false _ A2.out).mono ?_); rintro e w' ⟨rfl, ⟨nd, rfl⟩⟩; refine ⟨_, rfl, ?_⟩))
  go_ret
  exact ⟨by first | rfl | (simp [errW_none, errW_some] <;> rfl) | (simp [*, errW_none, errW_some] <;> rfl), bt HB⟩
mutual
def impl_LogOk.j0 : Nat → Bool → Int → Int → List (S89) → Option (Bool)
 | 0, _, _, _, _ => none
 | k + 1, x30, x322000, x322001, x322002 => if x30 = true then (some false) else (impl_LogOk.l0 k x322001 x322002 (x322002.length : Int) 0)
def impl_LogOk.l0 : Nat → Int → List (S89) → Int → Int → Option (Bool)
 | 0, _, _, _, _ => none
 | k + 1, x3, x34, x35, x36 => if x36 < x35 then (if 0 ≤ x36 then (if x36 < (x34.length : Int) then ((impl_EntryOk.f k ((rd_T89 x34 x36).f0) ((rd_T89 x34 x36).f1) ((rd_T89 x34 x36).f2)).bind fun t326 => (if t326 = true then (if ((rd_T89 x34 x36).f0) < x3 then (some false) else (impl_LogOk.l0 k ((rd_T89 x34 x36).f0) x34 x35 (wrap64 (x36 + 1)))) else (some false))) else (none)) else (none)) else (some true)
end
def impl_LogOk.f (k : Nat) (a0_0 : Int) (a0_1 : Int) (l0_2 : List (S89)) : Option (Bool) := (impl_in.f a0_0 0 1000000).bind fun t322 => (if t322 = true then ((impl_in.f a0_1 0 100000).bind fun t323 => (if t323 = true then (if (l0_2.length : Int) > 60 then (impl_LogOk.j0 k true a0_0 a0_1 l0_2) else (impl_LogOk.j0 k (decide ((wrap64 (a0_0 + (l0_2.length : Int))) > 1000000)) a0_0 a0_1 l0_2)) else (impl_LogOk.j0 k true a0_0 a0_1 l0_2))) else (impl_LogOk.j0 k true a0_0 a0_1 l0_2))
set_option maxHeartbeats 8000000 in
set_option maxRecDepth 100000 in
theorem impl_LogOk.calls (k : Nat) (a0_0 : Int) (a0_1 : Int) (A0_2 : Option Addr) (c0_2 : Nat) (l0_2 : List (S89)) (r : Bool) (w : World) (hr0_2 : Kd.C k89 w A0_2 l0_2.length l0_2) (hc0_2 : l0_2.length ≤ c0_2) (h : impl_LogOk.f k a0_0 a0_1 l0_2 = some r) :
  Calls Try.prog 38 #[.agg #[.int .i64 a0_0, .int .i64 a0_1, .slice A0_2 l0_2.length c0_2]] w fun e w' => e = .returned (.bool r) ∧ Below w.heap.size w w' := by
 have hu40 := Try.underlying40
 have hu89 := Try.underlying89
 have HR0_2 := Aside0.mk hr0_2
 have HC0_2 := Aside0.mk hc0_2
 clear hr0_2 hc0_2
 have HB := Aside0.mk (Below.refl w.heap.size w)
 have H := h
 clear h
 unfold impl_LogOk.f at H
 have HC2 := Aside0.mk H
 clear H
 go_enter Try.func38, Try.ntmps38
 go_upto_region 1 with (first | ((with_reducible refine gate_dst (N := 1) rfl ?_); (try (refine gate_guard (by rfl) ?_; dsimp only)); refine box_event ?hg (N := 1) ?hd (cs := #[.int .i64 a0_0, .int .i64 a0_1, .slice A0_2 l0_2.length c0_2]) (t := 40) ?hr ?_; (case hd => rfl); (case hg => rfl); (case hr => first | (go_simp; done) | (go_simp; rfl)); intro gb321 hg w3 hbox hb; have n0_ := Aside0.mk (below_step (bt HB) hb); have n1_ := Aside0.mk (hbox); have n2_ := ge_ hg HB; have n3_ := ge_ hg HB; clear HB; revert n0_ n1_ n2_ n3_; intro HB BK321 GW321 GE321; clear hb hbox hg))
 (try simp only [Act.put, zA, zB, zC])
 go_cut [30] (fun v30 wc => ∃ (kq : Nat) (x30_1 : Bool), v30 = .bool x30_1 ∧ Aside0 (impl_LogOk.j0 kq x30_1 a0_0 a0_1 l0_2 = some r) ∧ Aside0 (kq ≤ k) ∧ Aside0 (wc.heap[gb321]? = some (.cells #[.int .i64 a0_0, .int .i64 a0_1, (.slice A0_2 l0_2.length c0_2)] 40 (0, 0))) ∧ Aside0 (Below w.heap.size w wc))
 case first =>
  have H := HC2.out
  clear HC2
  replace H := Option.bind_eq_some_iff.mp H
  obtain ⟨t322, A40, H⟩ := H
  try dsimp only at H
  have A4 := Aside0.mk A40
  clear A40
  by_cases c5 : t322 = true
  ·subst c5
   rw [if_pos rfl] at H
   replace H := Option.bind_eq_some_iff.mp H
   obtain ⟨t323, A60, H⟩ := H
   try dsimp only at H
   have A6 := Aside0.mk A60
   clear A60
   by_cases c7 : t323 = true
   ·subst c7
    rw [if_pos rfl] at H
    by_cases c8 : (l0_2.length : Int) > 60
    ·rw [if_pos c8] at H
     have c8b0 : decide (60 < (l0_2.length : Int)) = true := decide_eq_true c8
     have c8b1 : decide (60 < l0_2.length) = true := decide_eq_true (by omega)
     clear c8
     (first | rw [c8b0] | (simp only [i64_w, i32_w]; rw [c8b0]) | skip)
     have H' := Aside0.mk H
     clear H
     obtain ⟨hcz9_0, hcz9_1, hcz9_2, hfz9_0, hfz9_1, hfz9_2⟩ := bc3 BK321
     go_wp2_with (first | ((with_reducible refine gd 8 rfl ?_); refine gl 35 8 Try.func35 #[.int .i64 a0_0, .int .i64 0, .int .i64 1000000] ?_; (with_reducible refine (impl_in.calls a0_0 0 1000000 true _ A4.out).mono ?_); rintro e w' ⟨rfl, ⟨nd, rfl⟩⟩; refine ⟨_, rfl, ?_⟩) | (go_at_call 35; (with_reducible refine (impl_in.calls a0_1 0 100000 true _ A6.out).mono ?_); rintro e w' ⟨rfl, ⟨nd, rfl⟩⟩))
     go_meet
     case rel => exact ⟨_, (true), fr, H', ⟨by first | omega | exact Nat.le_refl _⟩, ⟨by refine bk_ ?_; exact BK321.out⟩, ⟨bt HB⟩⟩
    ·rw [if_neg c8] at H
     have c8b0 : decide (60 < (l0_2.length : Int)) = false := decide_eq_false c8
     have c8b1 : decide (60 < l0_2.length) = false := decide_eq_false (by omega)
     clear c8
     (first | rw [c8b0] | (simp only [i64_w, i32_w]; rw [c8b0]) | skip)
     have H' := Aside0.mk H
     clear H
     obtain ⟨hcz10_0, hcz10_1, hcz10_2, hfz10_0, hfz10_1, hfz10_2⟩ := bc3 BK321
     go_wp2_with (first | ((with_reducible refine gd 8 rfl ?_); refine gl 35 8 Try.func35 #[.int .i64 a0_0, .int .i64 0, .int .i64 1000000] ?_; (with_reducible refine (impl_in.calls a0_0 0 1000000 true _ A4.out).mono ?_); rintro e w' ⟨rfl, ⟨nd, rfl⟩⟩; refine ⟨_, rfl, ?_⟩) | (go_at_call 35; (with_reducible refine (impl_in.calls a0_1 0 100000 true _ A6.out).mono ?_); rintro e w' ⟨rfl, ⟨nd, rfl⟩⟩))
     go_meet
     case rel => exact ⟨_, (decide ((wrap64 (a0_0 + (l0_2.length : Int))) > 1000000)), fr, H', ⟨by first | omega | exact Nat.le_refl _⟩, ⟨by refine bk_ ?_; exact BK321.out⟩, ⟨bt HB⟩⟩
   ·replace c7 := Bool.eq_false_iff.mpr c7
    subst c7
    rw [if_neg nf] at H
    have H' := Aside0.mk H
    clear H
    obtain ⟨hcz11_0, hcz11_1, hcz11_2, hfz11_0, hfz11_1, hfz11_2⟩ := bc3 BK321
    go_wp2_with (first | ((with_reducible refine gd 8 rfl ?_); refine gl 35 8 Try.func35 #[.int .i64 a0_0, .int .i64 0, .int .i64 1000000] ?_; (with_reducible refine (impl_in.calls a0_0 0 1000000 true _ A4.out).mono ?_); rintro e w' ⟨rfl, ⟨nd, rfl⟩⟩; refine ⟨_, rfl, ?_⟩) | (go_at_call 35; (with_reducible refine (impl_in.calls a0_1 0 100000 false _ A6.out).mono ?_); rintro e w' ⟨rfl, ⟨nd, rfl⟩⟩))
    go_meet
    case rel => exact ⟨_, (true), fr, H', ⟨by first | omega | exact Nat.le_refl _⟩, ⟨by refine bk_ ?_; exact BK321.out⟩, ⟨bt HB⟩⟩
  ·replace c5 := Bool.eq_false_iff.mpr c5
   subst c5
   rw [if_neg nf] at H
   have H' := Aside0.mk H
   clear H
   obtain ⟨hcz12_0, hcz12_1, hcz12_2, hfz12_0, hfz12_1, hfz12_2⟩ := bc3 BK321
   go_wp2_with (first | ((with_reducible refine gd 8 rfl ?_); refine gl 35 8 Try.func35 #[.int .i64 a0_0, .int .i64 0, .int .i64 1000000] ?_; (with_reducible refine (impl_in.calls a0_0 0 1000000 false _ A4.out).mono ?_); rintro e w' ⟨rfl, ⟨nd, rfl⟩⟩; refine ⟨_, rfl, ?_⟩))
   go_meet
   case rel => exact ⟨_, (true), fr, H', ⟨by first | omega | exact Nat.le_refl _⟩, ⟨by refine bk_ ?_; exact BK321.out⟩, ⟨bt HB⟩⟩
 case rest =>
  clear HC2
  try clear p2
  try clear c3
  try clear c5
  try clear p6
  try clear c7
  try clear c8
  try clear c8b0
  try clear c8b1
  try clear hcz10_0
  try clear hcz10_1
  try clear hcz10_2
  try clear hcz11_0
  try clear hcz11_1
  try clear hcz11_2
  try clear hcz12_0
  try clear hcz12_1
  try clear hcz12_2
  try clear hcz9_0
  try clear hcz9_1
  try clear hcz9_2
  try clear hfz10_0
  try clear hfz10_1
  try clear hfz10_2
  try clear hfz11_0
  try clear hfz11_1
  try clear hfz11_2
  try clear hfz12_0
  try clear hfz12_1
  try clear hfz12_2
  try clear hfz9_0
  try clear hfz9_1
  try clear hfz9_2
  obtain ⟨kq, x30_1, rfl, HA, HJ1, BK321, HB⟩ := hcut
  cases kq with
  | zero => exact absurd HA.out (by simp [impl_LogOk.j0])
  | succ kj1 =>
   have H := HA.out
   clear HA
   simp only [impl_LogOk.j0] at H
   by_cases c13 : x30_1 = true
   ·subst c13
    rw [if_pos rfl] at H
    obtain rfl := Option.some.inj H
    go_wp2
    go_ret
    exact ⟨by first | rfl | (simp [errW_none, errW_some] <;> rfl) | (simp [*, errW_none, errW_some] <;> rfl), bt HB⟩
   ·replace c13 := Bool.eq_false_iff.mpr c13
    subst c13
    rw [if_neg nf] at H
    have H' := Aside0.mk H
    clear H
    obtain ⟨hcz14_0, hcz14_1, hcz14_2, hfz14_0, hfz14_1, hfz14_2⟩ := bc3 BK321
    go_wp2
    go_loopg [3, 36] kj1 (fun kq v3 v36 w' => ∃ (x3_2 : Int) (x36_2 : Int), v3 = .int .i64 x3_2 ∧ v36 = .int .i64 x36_2 ∧ Aside0 (impl_LogOk.l0 kq x3_2 l0_2 (l0_2.length : Int) x36_2 = some r) ∧ Aside0 (kq ≤ kj1) ∧ Aside0 (w'.heap[gb321]? = some (.cells #[.int .i64 a0_0, .int .i64 a0_1, (.slice A0_2 l0_2.length c0_2)] 40 (0, 0))) ∧ Aside0 (Below w.heap.size w w'))
    case atStart => exact ⟨(a0_1), (0), fr, fr, H', ⟨Nat.le_refl _⟩, ⟨by refine bk_ ?_; exact BK321.out⟩, ⟨bt HB⟩⟩
    case round =>
     clear H'
     try clear c1
     try clear p2
     try clear c3
     try clear c5
     try clear p6
     try clear c7
     try clear c8
     try clear c8b0
     try clear c8b1
     try clear c13
     try clear hcz10_0
     try clear hcz10_1
     try clear hcz10_2
     try clear hcz11_0
     try clear hcz11_1
     try clear hcz11_2
     try clear hcz12_0
     try clear hcz12_1
     try clear hcz12_2
     try clear hcz14_0
     try clear hcz14_1
     try clear hcz14_2
     try clear hcz9_0
     try clear hcz9_1
     try clear hcz9_2
     try clear hfz10_0
     try clear hfz10_1
     try clear hfz10_2
     try clear hfz11_0
     try clear hfz11_1
     try clear hfz11_2
     try clear hfz12_0
     try clear hfz12_1
     try clear hfz12_2
     try clear hfz14_0
     try clear hfz14_1
     try clear hfz14_2
     try clear hfz9_0
     try clear hfz9_1
     try clear hfz9_2
     try clear p2
     try clear p6
     obtain ⟨x3_2, x36_2, rfl, rfl, HA, HK2, BK321, HB⟩ := hrel
     cases gk with
     | zero => exact absurd HA.out (by simp [impl_LogOk.l0])
     | succ k2 =>
      have H := HA.out
      clear HA
      simp only [impl_LogOk.l0] at H
      by_cases c15 : x36_2 < (l0_2.length : Int)
      ·rw [if_pos c15] at H
       have c15b0 : decide (x36_2 < (l0_2.length : Int)) = true := decide_eq_true c15
       clear c15
       by_cases c16 : 0 ≤ x36_2
       ·rw [if_pos c16] at H
        have c16b0 : decide (0 ≤ x36_2) = true := decide_eq_true c16
        clear c16
        by_cases c17 : x36_2 < (l0_2.length : Int)
        ·rw [if_pos c17] at H
         have c17b0 : decide (x36_2 < (l0_2.length : Int)) = true := decide_eq_true c17
         clear c17
         replace H := Option.bind_eq_some_iff.mp H
         obtain ⟨t326, A180, H⟩ := H
         try dsimp only at H
         have A18 := Aside0.mk A180
         clear A180
         by_cases c19 : t326 = true
         ·subst c19
          rw [if_pos rfl] at H
          by_cases c20 : ((rd_T89 l0_2 x36_2).f0) < x3_2
          ·rw [if_pos c20] at H
           have c20b0 : decide (((rd_T89 l0_2 x36_2).f0) < x3_2) = true := decide_eq_true c20
           clear c20
           obtain rfl := Option.some.inj H
           have p324 : 0 ≤ (x36_2 : Int) := da
           have q324 : x36_2 < (l0_2.length : Int) := da
           obtain ⟨ad324, e324, hx324_0, hx324_1, hx324_2⟩ := at_T89 HR0_2.out x36_2 p324 q324
           cases e324
           replace hx324_0 := (HB.out.cell (World.block_lt_of_cell? w _ hx324_0)).trans hx324_0
           replace hx324_1 := (HB.out.cell (World.block_lt_of_cell? w _ hx324_1)).trans hx324_1
           replace hx324_2 := (HB.out.cell (World.block_lt_of_cell? w _ hx324_2)).trans hx324_2
           replace p324 := eq_true p324
           replace q324 := eq_true q324
           go_wp2_with (first | ((with_reducible refine gate_dst (N := 5) rfl ?_); (try (refine gate_guard (by rfl) ?_; dsimp only)); refine box_event ?hg (N := 5) ?hd (cs := #[.int .i64 0, .int .i64 0, .string (⟨#[]⟩ : ByteArray)]) (t := 89) ?hr ?_; (case hd => rfl); (case hg => rfl); (case hr => first | (go_simp; done) | (go_simp; rfl)); intro gb325 hg w21 hbox hb; have n0_ := bb BK321 hb; have n1_ := Aside0.mk (below_step (bt HB) hb); have n2_ := Aside0.mk (hbox); have n3_ := ge_ hg HB; have n4_ := ge_ hg HB; have n5_ := nl_ hg BK321; have n6_ := nr_ hg BK321; clear BK321 HB; revert n0_ n1_ n2_ n3_ n4_ n5_ n6_; intro BK321 HB BK325 GW325 GE325 NB321_325 NB325_321; clear hb hbox hg; have hnb22 := NB325_321.out; have hnc22 := NB321_325.out; obtain ⟨hcz23_0, hcz23_1, hcz23_2, hfz23_0, hfz23_1, hfz23_2⟩ := bc3 BK325) | ((with_reducible refine gd 41 rfl ?_); refine gl 61 41 Try.func61 #[.agg #[.int .i64 ((rd_T89 l0_2 x36_2).f0), .int .i64 ((rd_T89 l0_2 x36_2).f1), .string ((rd_T89 l0_2 x36_2).f2)]] ?_; (with_reducible refine (impl_EntryOk.calls k2 ((rd_T89 l0_2 x36_2).f0) ((rd_T89 l0_2 x36_2).f1) ((rd_T89 l0_2 x36_2).f2) true _ A18.out).mono ?_); rintro e w24 ⟨rfl, hb⟩; refine ⟨_, rfl, ?_⟩; have n0_ := Aside0.mk (blk_below (g := gb321) (o := .cells #[.int .i64 a0_0, .int .i64 a0_1, .slice (some ad324) l0_2.length c0_2] 40 (0, 0)) (by refine bk_ ?_; refine blk_far ?_ NB321_325.out _; refine bk_ ?_; refine blk_far ?_ NB321_325.out _; refine bk_ ?_; refine blk_far ?_ NB321_325.out _; refine bk_ ?_; exact BK321.out) hb); have n1_ := Aside0.mk (blk_below (g := gb325) (o := .cells #[.int .i64 ((rd_T89 l0_2 x36_2).f0), .int .i64 ((rd_T89 l0_2 x36_2).f1), .string ((rd_T89 l0_2 x36_2).f2)] 89 (0, 0)) (by refine bk_ ?_; refine blk_put (cs := #[.int .i64 ((rd_T89 l0_2 x36_2).f0), .int .i64 ((rd_T89 l0_2 x36_2).f1), .string (⟨#[]⟩ : ByteArray)]) ?_ 2 _ rfl; refine bk_ ?_; refine blk_put (cs := #[.int .i64 ((rd_T89 l0_2 x36_2).f0), .int .i64 0, .string (⟨#[]⟩ : ByteArray)]) ?_ 1 _ rfl; refine bk_ ?_; refine blk_put (cs := #[.int .i64 0, .int .i64 0, .string (⟨#[]⟩ : ByteArray)]) ?_ 0 _ rfl; refine bk_ ?_; exact BK325.out) hb); have n2_ := Aside0.mk (below_step (bt HB) hb); clear BK321 BK325 HB; revert n0_ n1_ n2_; intro BK321 BK325 HB; (try clear hb); (try clear hb2); (try clear hk); (try clear hi); obtain ⟨hcz25_0, hcz25_1, hcz25_2, hfz25_0, hfz25_1, hfz25_2⟩ := bc3 BK325))
           go_ret
           exact ⟨by first | rfl | (simp [errW_none, errW_some] <;> rfl) | (simp [*, errW_none, errW_some] <;> rfl), bt HB⟩
          ·rw [if_neg c20] at H
           have c20b0 : decide (((rd_T89 l0_2 x36_2).f0) < x3_2) = false := decide_eq_false c20
           clear c20
           have H' := Aside0.mk H
           clear H
           have p324 : 0 ≤ (x36_2 : Int) := da
           have q324 : x36_2 < (l0_2.length : Int) := da
           obtain ⟨ad324, e324, hx324_0, hx324_1, hx324_2⟩ := at_T89 HR0_2.out x36_2 p324 q324
           cases e324
           replace hx324_0 := (HB.out.cell (World.block_lt_of_cell? w _ hx324_0)).trans hx324_0
           replace hx324_1 := (HB.out.cell (World.block_lt_of_cell? w _ hx324_1)).trans hx324_1
           replace hx324_2 := (HB.out.cell (World.block_lt_of_cell? w _ hx324_2)).trans hx324_2
           replace p324 := eq_true p324
           replace q324 := eq_true q324
           go_wp2_with (first | ((with_reducible refine gate_dst (N := 5) rfl ?_); (try (refine gate_guard (by rfl) ?_; dsimp only)); refine box_event ?hg (N := 5) ?hd (cs := #[.int .i64 0, .int .i64 0, .string (⟨#[]⟩ : ByteArray)]) (t := 89) ?hr ?_; (case hd => rfl); (case hg => rfl); (case hr => first | (go_simp; done) | (go_simp; rfl)); intro gb325 hg w26 hbox hb; have n0_ := bb BK321 hb; have n1_ := Aside0.mk (below_step (bt HB) hb); have n2_ := Aside0.mk (hbox); have n3_ := ge_ hg HB; have n4_ := ge_ hg HB; have n5_ := nl_ hg BK321; have n6_ := nr_ hg BK321; clear BK321 HB; revert n0_ n1_ n2_ n3_ n4_ n5_ n6_; intro BK321 HB BK325 GW325 GE325 NB321_325 NB325_321; clear hb hbox hg; have hnb27 := NB325_321.out; have hnc27 := NB321_325.out; obtain ⟨hcz28_0, hcz28_1, hcz28_2, hfz28_0, hfz28_1, hfz28_2⟩ := bc3 BK325) | ((with_reducible refine gd 41 rfl ?_); refine gl 61 41 Try.func61 #[.agg #[.int .i64 ((rd_T89 l0_2 x36_2).f0), .int .i64 ((rd_T89 l0_2 x36_2).f1), .string ((rd_T89 l0_2 x36_2).f2)]] ?_; (with_reducible refine (impl_EntryOk.calls k2 ((rd_T89 l0_2 x36_2).f0) ((rd_T89 l0_2 x36_2).f1) ((rd_T89 l0_2 x36_2).f2) true _ A18.out).mono ?_); rintro e w29 ⟨rfl, hb⟩; refine ⟨_, rfl, ?_⟩; have n0_ := Aside0.mk (blk_below (g := gb321) (o := .cells #[.int .i64 a0_0, .int .i64 a0_1, .slice (some ad324) l0_2.length c0_2] 40 (0, 0)) (by refine bk_ ?_; refine blk_far ?_ NB321_325.out _; refine bk_ ?_; refine blk_far ?_ NB321_325.out _; refine bk_ ?_; refine blk_far ?_ NB321_325.out _; refine bk_ ?_; exact BK321.out) hb); have n1_ := Aside0.mk (blk_below (g := gb325) (o := .cells #[.int .i64 ((rd_T89 l0_2 x36_2).f0), .int .i64 ((rd_T89 l0_2 x36_2).f1), .string ((rd_T89 l0_2 x36_2).f2)] 89 (0, 0)) (by refine bk_ ?_; refine blk_put (cs := #[.int .i64 ((rd_T89 l0_2 x36_2).f0), .int .i64 ((rd_T89 l0_2 x36_2).f1), .string (⟨#[]⟩ : ByteArray)]) ?_ 2 _ rfl; refine bk_ ?_; refine blk_put (cs := #[.int .i64 ((rd_T89 l0_2 x36_2).f0), .int .i64 0, .string (⟨#[]⟩ : ByteArray)]) ?_ 1 _ rfl; refine bk_ ?_; refine blk_put (cs := #[.int .i64 0, .int .i64 0, .string (⟨#[]⟩ : ByteArray)]) ?_ 0 _ rfl; refine bk_ ?_; exact BK325.out) hb); have n2_ := Aside0.mk (below_step (bt HB) hb); clear BK321 BK325 HB; revert n0_ n1_ n2_; intro BK321 BK325 HB; (try clear hb); (try clear hb2); (try clear hk); (try clear hi); obtain ⟨hcz30_0, hcz30_1, hcz30_2, hfz30_0, hfz30_1, hfz30_2⟩ := bc3 BK325))
           go_roundg k2
           case measure => have := HJ1.out; have := HK2.out; omega
           case rel => exact ⟨((rd_T89 l0_2 x36_2).f0), (wrap64 (x36_2 + 1)), fr, fr, H', ⟨by have := HJ1.out; have := HK2.out; omega⟩, ⟨by refine bk_ ?_; exact BK321.out⟩, ⟨bt HB⟩⟩
         ·replace c19 := Bool.eq_false_iff.mpr c19
          subst c19
          rw [if_neg nf] at H
          obtain rfl := Option.some.inj H
          have p324 : 0 ≤ (x36_2 : Int) := da
          have q324 : x36_2 < (l0_2.length : Int) := da
          obtain ⟨ad324, e324, hx324_0, hx324_1, hx324_2⟩ := at_T89 HR0_2.out x36_2 p324 q324
          cases e324
          replace hx324_0 := (HB.out.cell (World.block_lt_of_cell? w _ hx324_0)).trans hx324_0
          replace hx324_1 := (HB.out.cell (World.block_lt_of_cell? w _ hx324_1)).trans hx324_1
          replace hx324_2 := (HB.out.cell (World.block_lt_of_cell? w _ hx324_2)).trans hx324_2
          replace p324 := eq_true p324
          replace q324 := eq_true q324
          go_wp2_with (first | ((with_reducible refine gate_dst (N := 5) rfl ?_); (try (refine gate_guard (by rfl) ?_; dsimp only)); refine box_event ?hg (N := 5) ?hd (cs := #[.int .i64 0, .int .i64 0, .string (⟨#[]⟩ : ByteArray)]) (t := 89) ?hr ?_; (case hd => rfl); (case hg => rfl); (case hr => first | (go_simp; done) | (go_simp; rfl)); intro gb325 hg w31 hbox hb; have n0_ := bb BK321 hb; have n1_ := Aside0.mk (below_step (bt HB) hb); have n2_ := Aside0.mk (hbox); have n3_ := ge_ hg HB; have n4_ := ge_ hg HB; have n5_ := nl_ hg BK321; have n6_ := nr_ hg BK321; clear BK321 HB; revert n0_ n1_ n2_ n3_ n4_ n5_ n6_; intro BK321 HB BK325 GW325 GE325 NB321_325 NB325_321; clear hb hbox hg; have hnb32 := NB325_321.out; have hnc32 := NB321_325.out; obtain ⟨hcz33_0, hcz33_1, hcz33_2, hfz33_0, hfz33_1, hfz33_2⟩ := bc3 BK325) | ((with_reducible refine gd 41 rfl ?_); refine gl 61 41 Try.func61 #[.agg #[.int .i64 ((rd_T89 l0_2 x36_2).f0), .int .i64 ((rd_T89 l0_2 x36_2).f1), .string ((rd_T89 l0_2 x36_2).f2)]] ?_; (with_reducible refine (impl_EntryOk.calls k2 ((rd_T89 l0_2 x36_2).f0) ((rd_T89 l0_2 x36_2).f1) ((rd_T89 l0_2 x36_2).f2) false _ A18.out).mono ?_); rintro e w34 ⟨rfl, hb⟩; refine ⟨_, rfl, ?_⟩; have n0_ := Aside0.mk (blk_below (g := gb321) (o := .cells #[.int .i64 a0_0, .int .i64 a0_1, .slice (some ad324) l0_2.length c0_2] 40 (0, 0)) (by refine bk_ ?_; refine blk_far ?_ NB321_325.out _; refine bk_ ?_; refine blk_far ?_ NB321_325.out _; refine bk_ ?_; refine blk_far ?_ NB321_325.out _; refine bk_ ?_; exact BK321.out) hb); have n1_ := Aside0.mk (blk_below (g := gb325) (o := .cells #[.int .i64 ((rd_T89 l0_2 x36_2).f0), .int .i64 ((rd_T89 l0_2 x36_2).f1), .string ((rd_T89 l0_2 x36_2).f2)] 89 (0, 0)) (by refine bk_ ?_; refine blk_put (cs := #[.int .i64 ((rd_T89 l0_2 x36_2).f0), .int .i64 ((rd_T89 l0_2 x36_2).f1), .string (⟨#[]⟩ : ByteArray)]) ?_ 2 _ rfl; refine bk_ ?_; refine blk_put (cs := #[.int .i64 ((rd_T89 l0_2 x36_2).f0), .int .i64 0, .string (⟨#[]⟩ : ByteArray)]) ?_ 1 _ rfl; refine bk_ ?_; refine blk_put (cs := #[.int .i64 0, .int .i64 0, .string (⟨#[]⟩ : ByteArray)]) ?_ 0 _ rfl; refine bk_ ?_; exact BK325.out) hb); have n2_ := Aside0.mk (below_step (bt HB) hb); clear BK321 BK325 HB; revert n0_ n1_ n2_; intro BK321 BK325 HB; (try clear hb); (try clear hb2); (try clear hk); (try clear hi)))
          go_ret
          exact ⟨by first | rfl | (simp [errW_none, errW_some] <;> rfl) | (simp [*, errW_none, errW_some] <;> rfl), bt HB⟩
        ·rw [if_neg c17] at H
         exact absurd H (by simp)
       ·rw [if_neg c16] at H
        exact absurd H (by simp)
      ·rw [if_neg c15] at H
       have c15b0 : decide (x36_2 < (l0_2.length : Int)) = false := decide_eq_false c15
       clear c15
       obtain rfl := Option.some.inj H
       go_wp2
       go_ret
       exact ⟨by first | rfl | (simp [errW_none, errW_some] <;> rfl) | (simp [*, errW_none, errW_some] <;> rfl), bt HB⟩
def impl_hardOk.f (a0 : Int) (a1 : Int) : Option (Bool) := (impl_in.f a0 0 100000).bind fun t327 => (if t327 = true then ((impl_in.f a1 0 4).bind fun t328 => (some t328)) else (some false))
set_option maxHeartbeats 8000000 in
set_option maxRecDepth 100000 in
theorem impl_hardOk.calls (a0 : Int) (a1 : Int) (r : Bool) (w : World) (h : impl_hardOk.f a0 a1 = some r) :
  Calls Try.prog 62 #[.int .i64 a0, .int .i64 a1] w fun e w' => e = .returned (.bool r) ∧ Drawn0 w w' := by
 have H := h
 clear h
 unfold impl_hardOk.f at H
 replace H := Option.bind_eq_some_iff.mp H
 obtain ⟨t327, A30, H⟩ := H
 try dsimp only at H
 have A3 := Aside0.mk A30
 clear A30
 by_cases c4 : t327 = true
 ·subst c4
  rw [if_pos rfl] at H
  replace H := Option.bind_eq_some_iff.mp H
  obtain ⟨t328, A50, H⟩ := H
  try dsimp only at H
  have A5 := Aside0.mk A50
  clear A50
  obtain rfl := Option.some.inj H
  go_enter Try.func62, Try.ntmps62
  go_wp2_with (first | ((with_reducible refine gd 6 rfl ?_); refine gl 35 6 Try.func35 #[.int .i64 a0, .int .i64 0, .int .i64 100000] ?_; (with_reducible refine (impl_in.calls a0 0 100000 true _ A3.out).mono ?_); rintro e w' ⟨rfl, ⟨nd, rfl⟩⟩; refine ⟨_, rfl, ?_⟩) | (go_at_call 35; (with_reducible refine (impl_in.calls a1 0 4 t328 _ A5.out).mono ?_); rintro e w' ⟨rfl, ⟨nd, rfl⟩⟩))
  go_ret
  exact ⟨fr, by repeat (first | exact Drawn0.refl _ | apply Drawn0.step)⟩
 ·replace c4 := Bool.eq_false_iff.mpr c4
  subst c4
  rw [if_neg nf] at H
  obtain rfl := Option.some.inj H
  go_enter Try.func62, Try.ntmps62
  go_wp2_with (first | ((with_reducible refine gd 6 rfl ?_); refine gl 35 6 Try.func35 #[.int .i64 a0, .int .i64 0, .int .i64 100000] ?_; (with_reducible refine (impl_in.calls a0 0 100000 false _ A3.out).mono ?_); rintro e w' ⟨rfl, ⟨nd, rfl⟩⟩; refine ⟨_, rfl, ?_⟩))
  go_ret
  exact ⟨fr, by repeat (first | exact Drawn0.refl _ | apply Drawn0.step)⟩
end Go.Proofs.Ytghhepailkkneaa.PFnExactReadJournal
