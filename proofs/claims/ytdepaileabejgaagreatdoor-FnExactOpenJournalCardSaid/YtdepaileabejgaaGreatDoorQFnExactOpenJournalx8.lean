/- Walks. No condition. -/
import Derived.Test.YtdepaileabejgaaGreatDoorQFnExactOpenJournalx7
namespace Go.Proofs.YtdepaileabejgaaGreatDoor.PFnExactOpenJournal
open Go.RowKit Go.Proofs.YtdepaileabejgaaGreatDoorW.PrintWords Go.Proofs.YtdepaileabejgaaGreatDoorW.PrintLast Go.Proofs.YtdepaileabejgaaGreatDoorW.PrintMore Go.Proofs.YtdepaileabejgaaGreatDoorW.Short
attribute [local go_sem] max2_int min2_int max_two min_two max_three min_three max_four min_four
set_option maxHeartbeats 8000000
set_option maxRecDepth 100000
set_option linter.unusedVariables false
set_option linter.unusedSimpArgs false
def spec_EntryText.j0 : Nat → Int → Bool → Int → Int → ByteArray → Option (ByteArray × Bool)
 | 0, _, _, _, _, _ => none
 | k + 1, x0, x13, x220000, x220001, x220002 => if x13 = true then (some ((⟨#[]⟩ : ByteArray), false)) else ((spec_l01Var.f k x0).bind fun t222 => (if 1 + t222.size ≤ 9223372036854775807 then ((spec_l01Var.f k x220000).bind fun t223 => (if ((⟨#[69]⟩ : ByteArray) ++ t222).size + t223.size ≤ 9223372036854775807 then ((some (([(x220001) % 256] : List Int) : List Int)).bind fun y224 => (if (((⟨#[69]⟩ : ByteArray) ++ t222) ++ t223).size + (strOfNums y224).size ≤ 9223372036854775807 then (if ((((⟨#[69]⟩ : ByteArray) ++ t222) ++ t223) ++ (strOfNums y224)).size + x220002.size ≤ 9223372036854775807 then (some (((((⟨#[69]⟩ : ByteArray) ++ t222) ++ t223) ++ (strOfNums y224)) ++ x220002, true)) else (none)) else (none))) else (none))) else (none)))
def spec_EntryText.f (k : Nat) (a0 : Int) (a1_0 : Int) (a1_1 : Int) (a1_2 : ByteArray) : Option (ByteArray × Bool) := (spec_EntryOk.f k a1_0 a1_1 a1_2).bind fun t220 => (if t220 = true then ((spec_l01In.f a0 1 1000000).bind fun t221 => (spec_EntryText.j0 k a0 (!t221) a1_0 a1_1 a1_2)) else (spec_EntryText.j0 k a0 true a1_0 a1_1 a1_2))
def spec_EntryText.T3 : Bool × List (List Nat × List Nat) := (true, [([], []), ([0], [0]), ([1], [1]), ([], []), ([3], [3]), ([4, 1], [4]), ([2, 5], [2, 5]), ([], []), ([7], [7]), ([8], [8]), ([9], [9]), ([10], [10]), ([6, 11], [6, 11]), ([], []), ([13], [13]), ([12, 14], [12, 14]), ([15, 5, 0, 1, 2, 3, 4, 5, 6, 7, 8, 9, 10, 11, 12, 13, 14, 15], [15]), ([16, 0, 1, 2, 3, 4, 5, 6, 7, 8, 9, 10, 11, 12, 13, 14, 15, 16], [])])
def spec_EntryText.B3 : List Nat := [0, 1, 3, 0, 8, 27, 63, 0, 128, 384, 896, 1920, 4095, 0, 8192, 32767, 65535, 131071]
theorem spec_EntryText.tab3 : rtab .any (opsOf Tryz.f100 3) = spec_EntryText.T3 := by kernel_rfl
theorem spec_EntryText.bits3 : waitsOk spec_EntryText.T3.2 spec_EntryText.B3 = true := by kernel_rfl
theorem spec_EntryText.calls (k : Nat) (a0 : Int) (a1_0 : Int) (a1_1 : Int) (a1_2 : ByteArray) (r1 : ByteArray) (r2 : Bool) (w : World) (H : spec_EntryText.f k a0 a1_0 a1_1 a1_2 = some (r1, r2)) :
 Calls Tryz.prog 100 #[.int .i64 a0, .agg #[.int .i64 a1_0, .int .i64 a1_1, .string a1_2]] w fun e w' => e = .returned (.tuple #[.string r1, .bool r2]) ∧ Below w.heap.size w w' := by
 have hu105 := Tryz.underlying105; have HB := ak (Below.refl w.heap.size w); unfold spec_EntryText.f at H; have HC3 := ak H; clear H; go_enter Tryz.func100, Tryz.ntmps100
 go_upto_region 1 with (first | ((with_reducible refine gd 3 rfl ?_); refine bx 3 105 #[.int .i64 a1_0, .int .i64 a1_1, .string a1_2] fun gb219 hg w4 BK219 hb => ?_; have GE219 := ge_ hg HB; replace HB := bs1 HB hb; clear hb hg))
 (try simp only [Act.put, zA, zB, zC])
 go_cut [13] (fun v13 wc => ∃ (kq : Nat) (x13_2 : Bool), v13 = .bool x13_2 ∧ Aside0 (spec_EntryText.j0 kq a0 x13_2 a1_0 a1_1 a1_2 = some (r1, r2)) ∧ Aside0 (kq ≤ k) ∧ Aside0 (wc.heap[gb219]? = some (.cells #[.int .i64 a1_0, .int .i64 a1_1, .string a1_2] 105 (0, 0))) ∧ Aside0 (Below w.heap.size w wc))
 case first =>
  have H := HC3.out; clear HC3; obtain ⟨t220, A5, H⟩ := bo H; cases t220; rotate_left; rw [if_pos rfl] at H; obtain ⟨t221, A7, H⟩ := bo H; have H' := ak H; clear H; obtain ⟨_, _, _, _, _, _⟩ := bc3 BK219; rotate_left; rw [if_neg nf] at H; have H' := ak H; clear H; obtain ⟨_, _, _, _, _, _⟩ := bc3 BK219
  all_goals
   go_wp2_with (first | ((with_reducible refine gd 7 rfl ?_); refine gc 7 Tryz.func71 (spec_EntryOk.calls k a1_0 a1_1 a1_2 _ _ A5.out) fun w9 hb => ?_; replace BK219 := bb BK219 hb; replace HB := bs1 HB hb) | (go_at_call 42; (with_reducible refine (spec_l01In.calls a0 1 1000000 t221 _ A7.out).mono ?_); rintro e w' ⟨rfl, ⟨nd, rfl⟩⟩))
  ·go_meet
   case rel => exact ⟨_, (true), fr, H', ⟨by first | omega | exact Nat.le_refl _⟩, ⟨bk BK219⟩, ⟨bt HB⟩⟩
  ·go_meet
   case rel => exact ⟨_, (!t221), fr, H', ⟨by first | omega | exact Nat.le_refl _⟩, ⟨bk BK219⟩, ⟨bt HB⟩⟩
 case rest =>
  clear HC3; obtain ⟨kq, x13_2, rfl, HA, HJ2, BK219, HB⟩ := hcut
  cases kq with
  | zero => exact absurd HA.out (by simp [spec_EntryText.j0])
  | succ kj2 =>
   have H := HA.out; clear HA; simp only [spec_EntryText.j0] at H; cases x13_2; rotate_left
   ·rw [if_pos rfl] at H; obtain ⟨rfl, rfl⟩ := o2 H; go_wp2; go_ret2; exact ⟨fe, bt HB⟩
   ·rw [if_neg nf] at H; obtain ⟨t222, A13, H⟩ := bo H; obtain ⟨c14, H⟩ := ifs H; have c14b0 := eq_true c14; have c14b1 := dt c14
    try have c14b2 : (9223372036854775807 < 1 + t222.size) = False := eq_false (Nat.not_lt.2 c14)
    obtain ⟨t223, A15, H⟩ := bo H; obtain ⟨c16, H⟩ := ifs H; have c16b0 := eq_true c16; have c16b1 := dt c16
    try have c16b1y : decide (1 + t222.size + t223.size ≤ 9223372036854775807) = true := by have h_ := c16b1; simp only [ByteArray.size_append, Int.natCast_add] at h_; exact h_
    try have c16b2 : (9223372036854775807 < ((⟨#[69]⟩ : ByteArray) ++ t222).size + t223.size) = False := eq_false (Nat.not_lt.2 c16)
    try have c16b2z : (9223372036854775807 < 1 + t222.size + t223.size) = False := eq_false (by have h_ : ¬ (9223372036854775807 < ((⟨#[69]⟩ : ByteArray) ++ t222).size + t223.size) := of_eq_false c16b2; simp only [ByteArray.size_append] at h_; exact h_)
    obtain ⟨y224, Ny224, H⟩ := bsx H; obtain ⟨c17, H⟩ := ifs H; have c17b0 := eq_true c17; have c17b1 := dt c17
    try have c17b1y : decide (1 + t222.size + t223.size + (strOfNums y224).size ≤ 9223372036854775807) = true := by have h_ := c17b1; simp only [ByteArray.size_append, Int.natCast_add] at h_; exact h_
    try have c17b2 : (9223372036854775807 < (((⟨#[69]⟩ : ByteArray) ++ t222) ++ t223).size + (strOfNums y224).size) = False := eq_false (Nat.not_lt.2 c17)
    try have c17b2z : (9223372036854775807 < 1 + t222.size + t223.size + (strOfNums y224).size) = False := eq_false (by have h_ : ¬ (9223372036854775807 < (((⟨#[69]⟩ : ByteArray) ++ t222) ++ t223).size + (strOfNums y224).size) := of_eq_false c17b2; simp only [ByteArray.size_append] at h_; exact h_)
    obtain ⟨c18, H⟩ := ifs H; have c18b0 := eq_true c18; have c18b1 := dt c18
    try have c18b1y : decide (1 + t222.size + t223.size + (strOfNums y224).size + a1_2.size ≤ 9223372036854775807) = true := by have h_ := c18b1; simp only [ByteArray.size_append, Int.natCast_add] at h_; exact h_
    try have c18b2 : (9223372036854775807 < ((((⟨#[69]⟩ : ByteArray) ++ t222) ++ t223) ++ (strOfNums y224)).size + a1_2.size) = False := eq_false (Nat.not_lt.2 c18)
    try have c18b2z : (9223372036854775807 < 1 + t222.size + t223.size + (strOfNums y224).size + a1_2.size) = False := eq_false (by have h_ : ¬ (9223372036854775807 < ((((⟨#[69]⟩ : ByteArray) ++ t222) ++ t223) ++ (strOfNums y224)).size + a1_2.size) := of_eq_false c18b2; simp only [ByteArray.size_append] at h_; exact h_)
    obtain ⟨rfl, rfl⟩ := o2 H
    try go_wp2
    replace BK219 := ak (blk_drew BK219.out); replace HB := ak (below_drew1 HB.out)
    refine st 18 (fun w' => d3 w' gb219 (.int .i64 a1_0) (.int .i64 a1_1) (.string a1_2)) spec_EntryText.tab3 spec_EntryText.bits3 hp fun hHeld HT_ HW_ => ?_
    generalize wc.drew = w19 at BK219 HB hHeld ⊢
    refine pu HT_ 0 14 ?_; refine pu HT_ 3 17 ?_; refine pu HT_ 7 21 ?_; refine pu HT_ 13 27 ?_; refine tk HT_ HW_ hHeld 4 18 ?_; refine tk HT_ HW_ hHeld 8 22 ?_; refine pu HT_ 9 23 ?_; refine tk HT_ HW_ hHeld 14 28 ?_
    refine join_ (σ := Value) 4 #[true, true, true, true, true, true, true, true, true, true, true, true, false, true, true, false, false, false] (fun s_ => [(15, .string t222), (19, .string t223), (24, s_), (25, .string (strOfNums y224)), (16, .string ((⟨#[69]⟩ : ByteArray) ++ t222)), (20, .string (((⟨#[69]⟩ : ByteArray) ++ t222) ++ t223))]) (fun s_ w' => (d3 w' gb219 (.int .i64 a1_0) (.int .i64 a1_1) (.string a1_2)) ∧ (Kd.R (Kd.int .u8) 5 w' w.heap.size (fun _ => True) s_ y224) ∧ (w'.heap[gb219]? = some (.cells #[.int .i64 a1_0, .int .i64 a1_1, .string a1_2] 105 (0, 0))) ∧ (Below w.heap.size w w')) ?_ ?_
    rotate_left
    ·intro hJ1_5_10_11
     refine join_ (σ := Value) 5 #[true, true, true, true, true, true, true, true, true, true, true, false, false, true, true, false, false, false] (fun s_ => [(15, .string t222), (19, .string t223), (24, s_), (16, .string ((⟨#[69]⟩ : ByteArray) ++ t222)), (20, .string (((⟨#[69]⟩ : ByteArray) ++ t222) ++ t223))]) (fun s_ w' => (d3 w' gb219 (.int .i64 a1_0) (.int .i64 a1_1) (.string a1_2)) ∧ (Kd.R (Kd.int .u8) 5 w' w.heap.size (fun _ => True) s_ y224) ∧ (w'.heap[gb219]? = some (.cells #[.int .i64 a1_0, .int .i64 a1_1, .string a1_2] 105 (0, 0))) ∧ (Below w.heap.size w w')) ?_ ?_
     rotate_left
     ·intro hJ1_5_10
      refine join_ (σ := Value) 6 #[true, true, true, true, true, false, false, true, true, true, true, true, false, true, true, false, false, false] (fun s_ => [(15, .string t222), (24, s_), (25, .string (strOfNums y224)), (16, .string ((⟨#[69]⟩ : ByteArray) ++ t222))]) (fun s_ w' => (d3 w' gb219 (.int .i64 a1_0) (.int .i64 a1_1) (.string a1_2)) ∧ (Kd.R (Kd.int .u8) 5 w' w.heap.size (fun _ => True) s_ y224) ∧ (w'.heap[gb219]? = some (.cells #[.int .i64 a1_0, .int .i64 a1_1, .string a1_2] 105 (0, 0))) ∧ (Below w.heap.size w w')) ?_ ?_
      rotate_left
      ·intro hJ1_10_11
       refine join_ (σ := Unit) 6 #[true, true, true, true, true, true, true, true, true, true, false, false, false, true, true, false, false, false] (fun s_ => [(15, .string t222), (19, .string t223), (16, .string ((⟨#[69]⟩ : ByteArray) ++ t222)), (20, .string (((⟨#[69]⟩ : ByteArray) ++ t222) ++ t223))]) (fun s_ w' => (d3 w' gb219 (.int .i64 a1_0) (.int .i64 a1_1) (.string a1_2)) ∧ (w'.heap[gb219]? = some (.cells #[.int .i64 a1_0, .int .i64 a1_1, .string a1_2] 105 (0, 0))) ∧ (Below w.heap.size w w')) ?_ ?_
       rotate_left
       ·intro hJ1_5
        refine join_ (σ := Value) 7 #[true, true, true, true, true, false, false, true, true, true, true, false, false, true, true, false, false, false] (fun s_ => [(15, .string t222), (24, s_), (16, .string ((⟨#[69]⟩ : ByteArray) ++ t222))]) (fun s_ w' => (d3 w' gb219 (.int .i64 a1_0) (.int .i64 a1_1) (.string a1_2)) ∧ (Kd.R (Kd.int .u8) 5 w' w.heap.size (fun _ => True) s_ y224) ∧ (w'.heap[gb219]? = some (.cells #[.int .i64 a1_0, .int .i64 a1_1, .string a1_2] 105 (0, 0))) ∧ (Below w.heap.size w w')) ?_ ?_
        rotate_left
        ·intro hJ1_10
         refine join_ (σ := Value) 8 #[true, false, false, true, true, false, false, true, true, true, true, true, false, true, true, false, false, false] (fun s_ => [(24, s_), (25, .string (strOfNums y224))]) (fun s_ w' => (d3 w' gb219 (.int .i64 a1_0) (.int .i64 a1_1) (.string a1_2)) ∧ (Kd.R (Kd.int .u8) 5 w' w.heap.size (fun _ => True) s_ y224) ∧ (w'.heap[gb219]? = some (.cells #[.int .i64 a1_0, .int .i64 a1_1, .string a1_2] 105 (0, 0))) ∧ (Below w.heap.size w w')) ?_ ?_
         rotate_left
         ·intro hJ10_11
          refine join_ (σ := Unit) 8 #[true, true, true, true, true, false, false, true, true, true, false, false, false, true, true, false, false, false] (fun s_ => [(15, .string t222), (16, .string ((⟨#[69]⟩ : ByteArray) ++ t222))]) (fun s_ w' => (d3 w' gb219 (.int .i64 a1_0) (.int .i64 a1_1) (.string a1_2)) ∧ (w'.heap[gb219]? = some (.cells #[.int .i64 a1_0, .int .i64 a1_1, .string a1_2] 105 (0, 0))) ∧ (Below w.heap.size w w')) ?_ ?_
          rotate_left
          ·intro hJ1
           refine join_ (σ := Value) 9 #[true, false, false, true, true, false, false, true, true, true, true, false, false, true, true, false, false, false] (fun s_ => [(24, s_)]) (fun s_ w' => (d3 w' gb219 (.int .i64 a1_0) (.int .i64 a1_1) (.string a1_2)) ∧ (Kd.R (Kd.int .u8) 5 w' w.heap.size (fun _ => True) s_ y224) ∧ (w'.heap[gb219]? = some (.cells #[.int .i64 a1_0, .int .i64 a1_1, .string a1_2] 105 (0, 0))) ∧ (Below w.heap.size w w')) ?_ ?_
           rotate_left
           ·intro hJ10
            refine two_ (i := 1) (j := 10) (Ni := some 15) (Nj := some 24) #[true, true, false, true, true, false, false, true, true, true, false, false, false, true, true, false, false, false] #[true, false, false, true, true, false, false, true, true, true, true, false, false, true, true, false, false, false] rfl rfl rfl rfl (two_of HT_.out (by kernel_rfl)) (by decide) (by decide) (fun K hK => ?_) (fun K hK => ?_)
            ·skip
             refine gq Tryz.func70 (spec_l01Var.calls kj2 a0 t222 _ A13.out) fun w20 hb => ?_; replace BK219 := bb BK219 hb; replace HB := bs1 HB hb
             refine hK.out _ _ hp fun hHeld => ?_
             clear hK K; refine nm 15 ?_; refine pu HT_ 2 16 ?_
             exact norm_ (by first | (simp only [putAll, Act.put, zA, zB, zC]; done) | (simp only [putAll, Act.put, zA, zB, zC]; rfl)) (hJ1 () _ ⟨hHeld, (bk BK219), (bt HB)⟩)
            ·skip
             refine Kd.R_lit_step (Kd.int .u8) _ 5 ?hg (N := 24) ?hd (xs := ([(a1_1) % 256] : List Int)) (inner := [.int .u8 ((a1_1) % 256)]) (ok := fun _ => True) (okp := fun _ => True) ?hr ?hp (fun _ hk => hk) trivial (Below.refl _ _) (Nat.le_refl _) (by simp) ?_; (case hd => rfl); (case hg => rfl); (case hr => first | (go_simp; done) | (go_simp; rfl)); (case hp => exact (Reps.one (show Kd.M (Kd.int .u8) _ _ _ ((a1_1) % 256) [.int .u8 ((a1_1) % 256)] from rfl) (Reps.none _ _)))
             intro v225 w20 ho21 hb hg_ hnew_; clear hg_ hnew_
             (first | rw [← Ny224.out] at ho21 | (simp only [Int.reduceToNat] at ho21; rw [← Ny224.out] at ho21))
             have HO226 := ak (Kd.R_lower ho21 (below_size (bt HB))); replace BK219 := bb BK219 hb; replace HB := bs1 HB hb; clear hb ho21
             refine hK.out _ _ hp fun hHeld => ?_
             clear hK K; refine nm 24 ?_
             exact norm_ (by first | (simp only [putAll, Act.put, zA, zB, zC]; done) | (simp only [putAll, Act.put, zA, zB, zC]; rfl)) (hJ10 (v225) _ ⟨hHeld, (rk HO226), (bk BK219), (bt HB)⟩)
           ·skip
            rintro v225 w22 ⟨hS_, h0_, h1_, h2_⟩; have n0_ := ak h0_; have n1_ := ak h1_; have n2_ := ak h2_; clear BK219; clear HB; clear h0_ h1_ h2_; have HO226 := n0_; have BK219 := n1_; have HB := n2_; clear n0_ n1_ n2_; have hHeld := hS_; refine nq ?_
            refine two_ (i := 1) (j := 11) (Ni := some 15) (Nj := some 25) #[true, true, false, true, true, false, false, true, true, true, true, false, false, true, true, false, false, false] #[true, false, false, true, true, false, false, true, true, true, true, true, false, true, true, false, false, false] rfl rfl rfl rfl (two_of HT_.out (by kernel_rfl)) (by decide) (by decide) (fun K hK => ?_) (fun K hK => ?_)
            ·skip
             refine gq Tryz.func70 (spec_l01Var.calls kj2 a0 t222 _ A13.out) fun w23 hb => ?_; replace HO226 := rb HO226 hb; replace BK219 := bb BK219 hb; replace HB := bs1 HB hb
             refine hK.out _ _ hp fun hHeld => ?_
             clear hK K; refine nm 15 ?_; refine pu HT_ 2 16 ?_
             exact norm_ (by first | (simp only [putAll, Act.put, zA, zB, zC]; done) | (simp only [putAll, Act.put, zA, zB, zC]; rfl)) (hJ1_10 (v225) _ ⟨hHeld, (rk HO226), (bk BK219), (bt HB)⟩)
            ·skip
             have hcv23 := own_string (P := Tryz.prog) Tryz.underlying95 Tryz.underlying5 Tryz.underlying9 (Kd.own_of_R HO226.out)
             refine value_ (w1 := ?_) (v := ?_) (by rfl) rfl ?_ ?_
             rotate_left 2
             ·go_simp
              constructor
              ·rfl
              ·rfl
             clear hcv23
             refine hK.out _ _ hp fun hHeld => ?_
             clear hK K; refine nm 25 ?_
             exact norm_ (by first | (simp only [putAll, Act.put, zA, zB, zC]; done) | (simp only [putAll, Act.put, zA, zB, zC]; rfl)) (hJ10_11 (v225) _ ⟨hHeld, (rk HO226), (bk BK219), (bt HB)⟩)
          ·skip
           rintro _ w21 ⟨hS_, h0_, h1_⟩; have n0_ := ak h0_; have n1_ := ak h1_; clear BK219; clear HB; clear h0_ h1_; have BK219 := n0_; have HB := n1_; clear n0_ n1_; have hHeld := hS_; refine nq ?_
           refine two_ (i := 5) (j := 10) (Ni := some 19) (Nj := some 24) #[true, true, true, true, true, true, false, true, true, true, false, false, false, true, true, false, false, false] #[true, true, true, true, true, false, false, true, true, true, true, false, false, true, true, false, false, false] rfl rfl rfl rfl (two_of HT_.out (by kernel_rfl)) (by decide) (by decide) (fun K hK => ?_) (fun K hK => ?_)
           ·skip
            refine gq Tryz.func70 (spec_l01Var.calls kj2 a1_0 t223 _ A15.out) fun w22 hb => ?_; replace BK219 := bb BK219 hb; replace HB := bs1 HB hb
            refine hK.out _ _ hp fun hHeld => ?_
            clear hK K; refine nm 19 ?_; refine pu HT_ 6 20 ?_
            exact norm_ (by first | (simp only [putAll, Act.put, zA, zB, zC]; done) | (simp only [putAll, Act.put, zA, zB, zC]; rfl)) (hJ1_5 () _ ⟨hHeld, (bk BK219), (bt HB)⟩)
           ·skip
            refine Kd.R_lit_step (Kd.int .u8) _ 5 ?hg (N := 24) ?hd (xs := ([(a1_1) % 256] : List Int)) (inner := [.int .u8 ((a1_1) % 256)]) (ok := fun _ => True) (okp := fun _ => True) ?hr ?hp (fun _ hk => hk) trivial (Below.refl _ _) (Nat.le_refl _) (by simp) ?_; (case hd => rfl); (case hg => rfl); (case hr => first | (go_simp; done) | (go_simp; rfl)); (case hp => exact (Reps.one (show Kd.M (Kd.int .u8) _ _ _ ((a1_1) % 256) [.int .u8 ((a1_1) % 256)] from rfl) (Reps.none _ _)))
            intro v225 w22 ho23 hb hg_ hnew_; clear hg_ hnew_
            (first | rw [← Ny224.out] at ho23 | (simp only [Int.reduceToNat] at ho23; rw [← Ny224.out] at ho23))
            have HO226 := ak (Kd.R_lower ho23 (below_size (bt HB))); replace BK219 := bb BK219 hb; replace HB := bs1 HB hb; clear hb ho23
            refine hK.out _ _ hp fun hHeld => ?_
            clear hK K; refine nm 24 ?_
            exact norm_ (by first | (simp only [putAll, Act.put, zA, zB, zC]; done) | (simp only [putAll, Act.put, zA, zB, zC]; rfl)) (hJ1_10 (v225) _ ⟨hHeld, (rk HO226), (bk BK219), (bt HB)⟩)
         ·skip
          rintro v225 w23 ⟨hS_, h0_, h1_, h2_⟩; have n0_ := ak h0_; have n1_ := ak h1_; have n2_ := ak h2_; clear BK219; clear HB; clear h0_ h1_ h2_; have HO226 := n0_; have BK219 := n1_; have HB := n2_; clear n0_ n1_ n2_; have hHeld := hS_; refine nq ?_
          refine on HT_ 1 15 fun K hK => ?_
          refine gq Tryz.func70 (spec_l01Var.calls kj2 a0 t222 _ A13.out) fun w24 hb => ?_; replace HO226 := rb HO226 hb; replace BK219 := bb BK219 hb; replace HB := bs1 HB hb
          refine hK.out _ _ hp fun hHeld => ?_
          clear hK K; refine nm 15 ?_; refine pu HT_ 2 16 ?_
          exact norm_ (by first | (simp only [putAll, Act.put, zA, zB, zC]; done) | (simp only [putAll, Act.put, zA, zB, zC]; rfl)) (hJ1_10_11 (v225) _ ⟨hHeld, (rk HO226), (bk BK219), (bt HB)⟩)
        ·skip
         rintro v225 w23 ⟨hS_, h0_, h1_, h2_⟩; have n0_ := ak h0_; have n1_ := ak h1_; have n2_ := ak h2_; clear BK219; clear HB; clear h0_ h1_ h2_; have HO226 := n0_; have BK219 := n1_; have HB := n2_; clear n0_ n1_ n2_; have hHeld := hS_; refine nq ?_
         refine two_ (i := 5) (j := 11) (Ni := some 19) (Nj := some 25) #[true, true, true, true, true, true, false, true, true, true, true, false, false, true, true, false, false, false] #[true, true, true, true, true, false, false, true, true, true, true, true, false, true, true, false, false, false] rfl rfl rfl rfl (two_of HT_.out (by kernel_rfl)) (by decide) (by decide) (fun K hK => ?_) (fun K hK => ?_)
         ·skip
          refine gq Tryz.func70 (spec_l01Var.calls kj2 a1_0 t223 _ A15.out) fun w24 hb => ?_; replace HO226 := rb HO226 hb; replace BK219 := bb BK219 hb; replace HB := bs1 HB hb
          refine hK.out _ _ hp fun hHeld => ?_
          clear hK K; refine nm 19 ?_; refine pu HT_ 6 20 ?_
          exact norm_ (by first | (simp only [putAll, Act.put, zA, zB, zC]; done) | (simp only [putAll, Act.put, zA, zB, zC]; rfl)) (hJ1_5_10 (v225) _ ⟨hHeld, (rk HO226), (bk BK219), (bt HB)⟩)
         ·skip
          have hcv24 := own_string (P := Tryz.prog) Tryz.underlying95 Tryz.underlying5 Tryz.underlying9 (Kd.own_of_R HO226.out)
          refine value_ (w1 := ?_) (v := ?_) (by rfl) rfl ?_ ?_
          rotate_left 2
          ·go_simp
           constructor
           ·rfl
           ·rfl
          clear hcv24
          refine hK.out _ _ hp fun hHeld => ?_
          clear hK K; refine nm 25 ?_
          exact norm_ (by first | (simp only [putAll, Act.put, zA, zB, zC]; done) | (simp only [putAll, Act.put, zA, zB, zC]; rfl)) (hJ1_10_11 (v225) _ ⟨hHeld, (rk HO226), (bk BK219), (bt HB)⟩)
       ·skip
        rintro _ w22 ⟨hS_, h0_, h1_⟩; have n0_ := ak h0_; have n1_ := ak h1_; clear BK219; clear HB; clear h0_ h1_; have BK219 := n0_; have HB := n1_; clear n0_ n1_; have hHeld := hS_; refine nq ?_
        refine on HT_ 10 24 fun K hK => ?_
        refine Kd.R_lit_step (Kd.int .u8) _ 5 ?hg (N := 24) ?hd (xs := ([(a1_1) % 256] : List Int)) (inner := [.int .u8 ((a1_1) % 256)]) (ok := fun _ => True) (okp := fun _ => True) ?hr ?hp (fun _ hk => hk) trivial (Below.refl _ _) (Nat.le_refl _) (by simp) ?_; (case hd => rfl); (case hg => rfl); (case hr => first | (go_simp; done) | (go_simp; rfl)); (case hp => exact (Reps.one (show Kd.M (Kd.int .u8) _ _ _ ((a1_1) % 256) [.int .u8 ((a1_1) % 256)] from rfl) (Reps.none _ _)))
        intro v225 w23 ho24 hb hg_ hnew_; clear hg_ hnew_
        (first | rw [← Ny224.out] at ho24 | (simp only [Int.reduceToNat] at ho24; rw [← Ny224.out] at ho24))
        have HO226 := ak (Kd.R_lower ho24 (below_size (bt HB))); replace BK219 := bb BK219 hb; replace HB := bs1 HB hb; clear hb ho24
        refine hK.out _ _ hp fun hHeld => ?_
        clear hK K; refine nm 24 ?_
        exact norm_ (by first | (simp only [putAll, Act.put, zA, zB, zC]; done) | (simp only [putAll, Act.put, zA, zB, zC]; rfl)) (hJ1_5_10 (v225) _ ⟨hHeld, (rk HO226), (bk BK219), (bt HB)⟩)
      ·skip
       rintro v225 w24 ⟨hS_, h0_, h1_, h2_⟩; have n0_ := ak h0_; have n1_ := ak h1_; have n2_ := ak h2_; clear BK219; clear HB; clear h0_ h1_ h2_; have HO226 := n0_; have BK219 := n1_; have HB := n2_; clear n0_ n1_ n2_; have hHeld := hS_; refine nq ?_
       refine on HT_ 5 19 fun K hK => ?_
       refine gq Tryz.func70 (spec_l01Var.calls kj2 a1_0 t223 _ A15.out) fun w25 hb => ?_; replace HO226 := rb HO226 hb; replace BK219 := bb BK219 hb; replace HB := bs1 HB hb
       refine hK.out _ _ hp fun hHeld => ?_
       clear hK K; refine nm 19 ?_; refine pu HT_ 6 20 ?_
       exact norm_ (by first | (simp only [putAll, Act.put, zA, zB, zC]; done) | (simp only [putAll, Act.put, zA, zB, zC]; rfl)) (hJ1_5_10_11 (v225) _ ⟨hHeld, (rk HO226), (bk BK219), (bt HB)⟩)
     ·skip
      rintro v225 w24 ⟨hS_, h0_, h1_, h2_⟩; have n0_ := ak h0_; have n1_ := ak h1_; have n2_ := ak h2_; clear BK219; clear HB; clear h0_ h1_ h2_; have HO226 := n0_; have BK219 := n1_; have HB := n2_; clear n0_ n1_ n2_; have hHeld := hS_; refine nq ?_
      refine on HT_ 11 25 fun K hK => ?_
      have hcv25 := own_string (P := Tryz.prog) Tryz.underlying95 Tryz.underlying5 Tryz.underlying9 (Kd.own_of_R HO226.out)
      refine value_ (w1 := ?_) (v := ?_) (by rfl) rfl ?_ ?_
      rotate_left 2
      ·go_simp
       constructor
       ·rfl
       ·rfl
      clear hcv25
      refine hK.out _ _ hp fun hHeld => ?_
      clear hK K; refine nm 25 ?_
      exact norm_ (by first | (simp only [putAll, Act.put, zA, zB, zC]; done) | (simp only [putAll, Act.put, zA, zB, zC]; rfl)) (hJ1_5_10_11 (v225) _ ⟨hHeld, (rk HO226), (bk BK219), (bt HB)⟩)
    rintro v225 w25 ⟨hS_, h0_, h1_, h2_⟩; have n0_ := ak h0_; have n1_ := ak h1_; have n2_ := ak h2_; clear BK219; clear HB; clear h0_ h1_ h2_; have HO226 := n0_; have BK219 := n1_; have HB := n2_; clear n0_ n1_ n2_; have hHeld := hS_; refine nq ?_; refine pu HT_ 12 26 ?_; refine pu HT_ 15 29 ?_; refine pu HT_ 16 4 ?_; refine pu HT_ 17 5 ?_; refine dn HT_ ?_
    try go_wp2
    go_ret2; exact ⟨fe, bt HB⟩
end Go.Proofs.YtdepaileabejgaaGreatDoor.PFnExactOpenJournal
