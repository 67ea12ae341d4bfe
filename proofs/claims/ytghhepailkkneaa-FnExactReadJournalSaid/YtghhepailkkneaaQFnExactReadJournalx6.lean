/- What the functions that FnExactReadJournal reaches compute, and that the machine's calls compute it. Begun as a text of the kit's print. No condition. -/
import Derived.Test.YtghhepailkkneaaTiny
import Derived.Test.YtghhepailkkneaaQFnExactReadJournalx0
import Derived.Test.YtghhepailkkneaaQFnExactReadJournalx1
import Derived.Test.YtghhepailkkneaaQFnExactReadJournalx4
namespace Go.Proofs.Ytghhepailkkneaa.PFnExactReadJournal
open Go.RowKit Go.Proofs.YtghhepailkkneaaW.PrintWords Go.Proofs.YtghhepailkkneaaW.PrintLast Go.Proofs.YtghhepailkkneaaW.PrintMore Go.Proofs.YtghhepailkkneaaW.Short
attribute [local go_sem] max2_int min2_int max_two min_two max_three min_three max_four min_four
set_option linter.unusedVariables false
set_option linter.unusedSimpArgs false
def spec_EntryText.j0 : Nat → Int → Bool → Int → Int → ByteArray → Option (ByteArray × Bool)
  | 0, _, _, _, _, _ => none
  | k + 1, x0, x13, x189000, x189001, x189002 => if x13 = true then (some ((⟨#[]⟩ : ByteArray), false)) else ((spec_l01Var.f k x0).bind fun t191 => (if 1 + t191.size ≤ 9223372036854775807 then ((spec_l01Var.f k x189000).bind fun t192 => (if ((⟨#[69]⟩ : ByteArray) ++ t191).size + t192.size ≤ 9223372036854775807 then ((some (([(x189001) % 256] : List Int) : List Int)).bind fun y193 => (if (((⟨#[69]⟩ : ByteArray) ++ t191) ++ t192).size + (strOfNums y193).size ≤ 9223372036854775807 then (if ((((⟨#[69]⟩ : ByteArray) ++ t191) ++ t192) ++ (strOfNums y193)).size + x189002.size ≤ 9223372036854775807 then (some (((((⟨#[69]⟩ : ByteArray) ++ t191) ++ t192) ++ (strOfNums y193)) ++ x189002, true)) else (none)) else (none))) else (none))) else (none)))
def spec_EntryText.f (k : Nat) (a0 : Int) (a1_0 : Int) (a1_1 : Int) (a1_2 : ByteArray) : Option (ByteArray × Bool) := (spec_EntryOk.f k a1_0 a1_1 a1_2).bind fun t189 => (if t189 = true then ((spec_l01In.f a0 1 1000000).bind fun t190 => (spec_EntryText.j0 k a0 (!t190) a1_0 a1_1 a1_2)) else (spec_EntryText.j0 k a0 true a1_0 a1_1 a1_2))
def spec_EntryText.T3 : Bool × List (List Nat × List Nat) := (true, [([], []), ([0], [0]), ([1], [1]), ([], []), ([3], [3]), ([4, 1], [4]), ([2, 5], [2, 5]), ([], []), ([7], [7]), ([8], [8]), ([9], [9]), ([10], [10]), ([6, 11], [6, 11]), ([], []), ([13], [13]), ([12, 14], [12, 14]), ([15, 5, 0, 1, 2, 3, 4, 5, 6, 7, 8, 9, 10, 11, 12, 13, 14, 15], [15]), ([16, 0, 1, 2, 3, 4, 5, 6, 7, 8, 9, 10, 11, 12, 13, 14, 15, 16], [])])
def spec_EntryText.B3 : List Nat := [0, 1, 3, 0, 8, 27, 63, 0, 128, 384, 896, 1920, 4095, 0, 8192, 32767, 65535, 131071]
theorem spec_EntryText.tab3 : rtab .any (opsOf Try.f69 3) = spec_EntryText.T3 := by kernel_rfl
theorem spec_EntryText.bits3 : waitsOk spec_EntryText.T3.2 spec_EntryText.B3 = true := by kernel_rfl
set_option maxHeartbeats 8000000 in
set_option maxRecDepth 100000 in
theorem spec_EntryText.calls (k : Nat) (a0 : Int) (a1_0 : Int) (a1_1 : Int) (a1_2 : ByteArray) (r1 : ByteArray) (r2 : Bool) (w : World) (h : spec_EntryText.f k a0 a1_0 a1_1 a1_2 = some (r1, r2)) :
  Calls Try.prog 69 #[.int .i64 a0, .agg #[.int .i64 a1_0, .int .i64 a1_1, .string a1_2]] w fun e w' => e = .returned (.tuple #[.string r1, .bool r2]) ∧ Below w.heap.size w w' := by
 have hu89 := Try.underlying89
 have HB := Aside0.mk (Below.refl w.heap.size w)
 have H := h
 clear h
 unfold spec_EntryText.f at H
 have HC3 := Aside0.mk H
 clear H
 go_enter Try.func69, Try.ntmps69
 go_upto_region 1 with (first | (refine bx 3 89 #[.int .i64 a1_0, .int .i64 a1_1, .string a1_2] ?_; intro gb188 hg w4 hbox hb; have n0_ := Aside0.mk (below_step (bt HB) hb); have n1_ := Aside0.mk (hbox); have n2_ := ge_ hg HB; have n3_ := ge_ hg HB; clear HB; revert n0_ n1_ n2_ n3_; intro HB BK188 GW188 GE188; clear hb hbox hg))
 (try simp only [Act.put, zA, zB, zC])
 go_cut [13] (fun v13 wc => ∃ (kq : Nat) (x13_2 : Bool), v13 = .bool x13_2 ∧ Aside0 (spec_EntryText.j0 kq a0 x13_2 a1_0 a1_1 a1_2 = some (r1, r2)) ∧ Aside0 (kq ≤ k) ∧ Aside0 (wc.heap[gb188]? = some (.cells #[.int .i64 a1_0, .int .i64 a1_1, .string a1_2] 89 (0, 0))) ∧ Aside0 (Below w.heap.size w wc))
 case first =>
  have H := HC3.out
  clear HC3
  replace H := Option.bind_eq_some_iff.mp H
  obtain ⟨t189, A50, H⟩ := H
  try dsimp only at H
  have A5 := Aside0.mk A50
  clear A50
  by_cases c6 : t189 = true
  ·subst c6
   rw [if_pos rfl] at H
   replace H := Option.bind_eq_some_iff.mp H
   obtain ⟨t190, A70, H⟩ := H
   try dsimp only at H
   have A7 := Aside0.mk A70
   clear A70
   have H' := Aside0.mk H
   clear H
   obtain ⟨hcz8_0, hcz8_1, hcz8_2, hfz8_0, hfz8_1, hfz8_2⟩ := bc3 BK188
   go_wp2_with (first | ((with_reducible refine gd 7 rfl ?_); refine gl 50 7 Try.func50 #[.agg #[.int .i64 a1_0, .int .i64 a1_1, .string a1_2]] ?_; (with_reducible refine (spec_EntryOk.calls k a1_0 a1_1 a1_2 true _ A5.out).mono ?_); rintro e w9 ⟨rfl, hb⟩; refine ⟨_, rfl, ?_⟩; have n0_ := bb BK188 hb; have n1_ := Aside0.mk (below_step (bt HB) hb); clear BK188 HB; revert n0_ n1_; intro BK188 HB; (try clear hb); (try clear hb2); (try clear hk); (try clear hi)) | (go_at_call 30; (with_reducible refine (spec_l01In.calls a0 1 1000000 t190 _ A7.out).mono ?_); rintro e w' ⟨rfl, ⟨nd, rfl⟩⟩))
   go_meet
   case rel => exact ⟨_, (!t190), fr, H', ⟨by first | omega | exact Nat.le_refl _⟩, ⟨by refine bk_ ?_; exact BK188.out⟩, ⟨bt HB⟩⟩
  ·replace c6 := Bool.eq_false_iff.mpr c6
   subst c6
   rw [if_neg nf] at H
   have H' := Aside0.mk H
   clear H
   obtain ⟨hcz10_0, hcz10_1, hcz10_2, hfz10_0, hfz10_1, hfz10_2⟩ := bc3 BK188
   go_wp2_with (first | ((with_reducible refine gd 7 rfl ?_); refine gl 50 7 Try.func50 #[.agg #[.int .i64 a1_0, .int .i64 a1_1, .string a1_2]] ?_; (with_reducible refine (spec_EntryOk.calls k a1_0 a1_1 a1_2 false _ A5.out).mono ?_); rintro e w11 ⟨rfl, hb⟩; refine ⟨_, rfl, ?_⟩; have n0_ := bb BK188 hb; have n1_ := Aside0.mk (below_step (bt HB) hb); clear BK188 HB; revert n0_ n1_; intro BK188 HB; (try clear hb); (try clear hb2); (try clear hk); (try clear hi)))
   go_meet
   case rel => exact ⟨_, (true), fr, H', ⟨by first | omega | exact Nat.le_refl _⟩, ⟨by refine bk_ ?_; exact BK188.out⟩, ⟨bt HB⟩⟩
 case rest =>
  clear HC3
  try clear p2
  try clear c5
  try clear c6
  try clear hcz10_0
  try clear hcz10_1
  try clear hcz10_2
  try clear hcz8_0
  try clear hcz8_1
  try clear hcz8_2
  try clear hfz10_0
  try clear hfz10_1
  try clear hfz10_2
  try clear hfz8_0
  try clear hfz8_1
  try clear hfz8_2
  obtain ⟨kq, x13_2, rfl, HA, HJ2, BK188, HB⟩ := hcut
  cases kq with
  | zero => exact absurd HA.out (by simp [spec_EntryText.j0])
  | succ kj2 =>
   have H := HA.out
   clear HA
   simp only [spec_EntryText.j0] at H
   by_cases c12 : x13_2 = true
   ·subst c12
    rw [if_pos rfl] at H
    simp only [Option.some.injEq, Prod.mk.injEq] at H
    obtain ⟨rfl, rfl⟩ := H
    go_wp2
    go_ret2
    exact ⟨by first | rfl | (simp [errW_none, errW_some] <;> rfl) | (simp [*, errW_none, errW_some] <;> rfl), bt HB⟩
   ·replace c12 := Bool.eq_false_iff.mpr c12
    subst c12
    rw [if_neg nf] at H
    replace H := Option.bind_eq_some_iff.mp H
    obtain ⟨t191, A130, H⟩ := H
    try dsimp only at H
    have A13 := Aside0.mk A130
    clear A130
    by_cases c14 : 1 + t191.size ≤ 9223372036854775807
    ·rw [if_pos c14] at H
     have c14b0 := eq_true c14
     have c14b1 : decide (1 + t191.size ≤ 9223372036854775807) = true := decide_eq_true c14
     try have c14b2 : (9223372036854775807 < 1 + t191.size) = False := eq_false (Nat.not_lt.2 c14)
     replace H := Option.bind_eq_some_iff.mp H
     obtain ⟨t192, A150, H⟩ := H
     try dsimp only at H
     have A15 := Aside0.mk A150
     clear A150
     by_cases c16 : ((⟨#[69]⟩ : ByteArray) ++ t191).size + t192.size ≤ 9223372036854775807
     ·rw [if_pos c16] at H
      have c16b0 := eq_true c16
      have c16b1 : decide (((⟨#[69]⟩ : ByteArray) ++ t191).size + t192.size ≤ 9223372036854775807) = true := decide_eq_true c16
      try have c16b1y : decide (1 + t191.size + t192.size ≤ 9223372036854775807) = true := by have h_ := c16b1; simp only [ByteArray.size_append, Int.natCast_add] at h_; exact h_
      try have c16b2 : (9223372036854775807 < ((⟨#[69]⟩ : ByteArray) ++ t191).size + t192.size) = False := eq_false (Nat.not_lt.2 c16)
      try have c16b2z : (9223372036854775807 < 1 + t191.size + t192.size) = False := eq_false (by have h_ : ¬ (9223372036854775807 < ((⟨#[69]⟩ : ByteArray) ++ t191).size + t192.size) := of_eq_false c16b2; simp only [ByteArray.size_append] at h_; exact h_)
      obtain ⟨y193, hy193⟩ : ∃ y_ : List Int, y_ = (([(a1_1) % 256] : List Int)) := ⟨_, rfl⟩
      first | replace H := bs hy193 H | rw [← hy193] at H
      have Ny193 := Aside0.mk hy193
      clear hy193
      by_cases c17 : (((⟨#[69]⟩ : ByteArray) ++ t191) ++ t192).size + (strOfNums y193).size ≤ 9223372036854775807
      ·rw [if_pos c17] at H
       have c17b0 := eq_true c17
       have c17b1 : decide ((((⟨#[69]⟩ : ByteArray) ++ t191) ++ t192).size + (strOfNums y193).size ≤ 9223372036854775807) = true := decide_eq_true c17
       try have c17b1y : decide (1 + t191.size + t192.size + (strOfNums y193).size ≤ 9223372036854775807) = true := by have h_ := c17b1; simp only [ByteArray.size_append, Int.natCast_add] at h_; exact h_
       try have c17b2 : (9223372036854775807 < (((⟨#[69]⟩ : ByteArray) ++ t191) ++ t192).size + (strOfNums y193).size) = False := eq_false (Nat.not_lt.2 c17)
       try have c17b2z : (9223372036854775807 < 1 + t191.size + t192.size + (strOfNums y193).size) = False := eq_false (by have h_ : ¬ (9223372036854775807 < (((⟨#[69]⟩ : ByteArray) ++ t191) ++ t192).size + (strOfNums y193).size) := of_eq_false c17b2; simp only [ByteArray.size_append] at h_; exact h_)
       by_cases c18 : ((((⟨#[69]⟩ : ByteArray) ++ t191) ++ t192) ++ (strOfNums y193)).size + a1_2.size ≤ 9223372036854775807
       ·rw [if_pos c18] at H
        have c18b0 := eq_true c18
        have c18b1 : decide (((((⟨#[69]⟩ : ByteArray) ++ t191) ++ t192) ++ (strOfNums y193)).size + a1_2.size ≤ 9223372036854775807) = true := decide_eq_true c18
        try have c18b1y : decide (1 + t191.size + t192.size + (strOfNums y193).size + a1_2.size ≤ 9223372036854775807) = true := by have h_ := c18b1; simp only [ByteArray.size_append, Int.natCast_add] at h_; exact h_
        try have c18b2 : (9223372036854775807 < ((((⟨#[69]⟩ : ByteArray) ++ t191) ++ t192) ++ (strOfNums y193)).size + a1_2.size) = False := eq_false (Nat.not_lt.2 c18)
        try have c18b2z : (9223372036854775807 < 1 + t191.size + t192.size + (strOfNums y193).size + a1_2.size) = False := eq_false (by have h_ : ¬ (9223372036854775807 < ((((⟨#[69]⟩ : ByteArray) ++ t191) ++ t192) ++ (strOfNums y193)).size + a1_2.size) := of_eq_false c18b2; simp only [ByteArray.size_append] at h_; exact h_)
        simp only [Option.some.injEq, Prod.mk.injEq] at H
        obtain ⟨rfl, rfl⟩ := H
        try go_wp2
        have n0_ := Aside0.mk (blk_drew BK188.out)
        have n1_ := Aside0.mk (below_drew1 HB.out)
        clear BK188 HB
        revert n0_ n1_
        intro BK188 HB
        refine start_ (n := 18) (S := fun w' => w'.cell? ⟨gb188, 0, none⟩ = some (.int .i64 a1_0) ∧ w'.cell? ⟨gb188, 1, none⟩ = some (.int .i64 a1_1) ∧ w'.cell? ⟨gb188, 2, none⟩ = some (.string a1_2)) (ds := []) #[false, false, false, false, false, false, false, false, false, false, false, false, false, false, false, false, false, false] (by kernel_rfl) rfl rfl ⟨bc BK188 0, bc BK188 1, bc BK188 2⟩ (fun hHeld => ?_); refine with_tabW spec_EntryText.tab3 spec_EntryText.bits3 (fun HT_ HW_ => ?_)
        generalize wc.drew = w19 at BK188 HB hHeld ⊢
        refine pu HT_ 0 (some 14) ?_
        refine pu HT_ 3 (some 17) ?_
        refine pu HT_ 7 (some 21) ?_
        refine pu HT_ 13 (some 27) ?_
        refine take_ (i := 4) (N := some 18) (v := ?_) (a' := ?_) #[true, false, false, true, true, false, false, true, false, false, false, false, false, true, false, false, false, false] rfl rfl (take_ofW HT_.out HW_.out (by kernel_rfl)) (fun _ _ _ h => h) (Or.inl ⟨by rfl, ?_⟩) hHeld ?_ ?_
        rotate_left
        ·rintro w' ⟨s0, s1, s2⟩
         go_simp
         with_reducible rfl
        rotate_left
        ·simp only [Act.put, zA, zB, zC, i64_w, i32_w]
         rfl
        refine take_ (i := 8) (N := some 22) (v := ?_) (a' := ?_) #[true, false, false, true, true, false, false, true, true, false, false, false, false, true, false, false, false, false] rfl rfl (take_ofW HT_.out HW_.out (by kernel_rfl)) (fun _ _ _ h => h) (Or.inl ⟨by rfl, ?_⟩) hHeld ?_ ?_
        rotate_left
        ·rintro w' ⟨s0, s1, s2⟩
         go_simp
         with_reducible rfl
        rotate_left
        ·simp only [Act.put, zA, zB, zC, i64_w, i32_w]
         rfl
        refine pu HT_ 9 (some 23) ?_
        refine take_ (i := 14) (N := some 28) (v := ?_) (a' := ?_) #[true, false, false, true, true, false, false, true, true, true, false, false, false, true, true, false, false, false] rfl rfl (take_ofW HT_.out HW_.out (by kernel_rfl)) (fun _ _ _ h => h) (Or.inl ⟨by rfl, ?_⟩) hHeld ?_ ?_
        rotate_left
        ·rintro w' ⟨s0, s1, s2⟩
         go_simp
         with_reducible rfl
        rotate_left
        ·simp only [Act.put, zA, zB, zC, i64_w, i32_w]
         rfl
        refine join_ (σ := Value) 4 #[true, true, true, true, true, true, true, true, true, true, true, true, false, true, true, false, false, false] (fun s_ => [(15, .string t191), (19, .string t192), (24, s_), (25, .string (strOfNums y193)), (16, .string ((⟨#[69]⟩ : ByteArray) ++ t191)), (20, .string (((⟨#[69]⟩ : ByteArray) ++ t191) ++ t192))]) (fun s_ w' => (w'.cell? ⟨gb188, 0, none⟩ = some (.int .i64 a1_0) ∧ w'.cell? ⟨gb188, 1, none⟩ = some (.int .i64 a1_1) ∧ w'.cell? ⟨gb188, 2, none⟩ = some (.string a1_2)) ∧ (Kd.R (Kd.int .u8) 5 w' w.heap.size (fun _ => True) s_ y193) ∧ (w'.heap[gb188]? = some (.cells #[.int .i64 a1_0, .int .i64 a1_1, .string a1_2] 89 (0, 0))) ∧ (Below w.heap.size w w')) ?_ ?_
        rotate_left
        ·intro hJ1_5_10_11
         refine join_ (σ := Value) 5 #[true, true, true, true, true, true, true, true, true, true, true, false, false, true, true, false, false, false] (fun s_ => [(15, .string t191), (19, .string t192), (24, s_), (16, .string ((⟨#[69]⟩ : ByteArray) ++ t191)), (20, .string (((⟨#[69]⟩ : ByteArray) ++ t191) ++ t192))]) (fun s_ w' => (w'.cell? ⟨gb188, 0, none⟩ = some (.int .i64 a1_0) ∧ w'.cell? ⟨gb188, 1, none⟩ = some (.int .i64 a1_1) ∧ w'.cell? ⟨gb188, 2, none⟩ = some (.string a1_2)) ∧ (Kd.R (Kd.int .u8) 5 w' w.heap.size (fun _ => True) s_ y193) ∧ (w'.heap[gb188]? = some (.cells #[.int .i64 a1_0, .int .i64 a1_1, .string a1_2] 89 (0, 0))) ∧ (Below w.heap.size w w')) ?_ ?_
         rotate_left
         ·intro hJ1_5_10
          refine join_ (σ := Value) 6 #[true, true, true, true, true, false, false, true, true, true, true, true, false, true, true, false, false, false] (fun s_ => [(15, .string t191), (24, s_), (25, .string (strOfNums y193)), (16, .string ((⟨#[69]⟩ : ByteArray) ++ t191))]) (fun s_ w' => (w'.cell? ⟨gb188, 0, none⟩ = some (.int .i64 a1_0) ∧ w'.cell? ⟨gb188, 1, none⟩ = some (.int .i64 a1_1) ∧ w'.cell? ⟨gb188, 2, none⟩ = some (.string a1_2)) ∧ (Kd.R (Kd.int .u8) 5 w' w.heap.size (fun _ => True) s_ y193) ∧ (w'.heap[gb188]? = some (.cells #[.int .i64 a1_0, .int .i64 a1_1, .string a1_2] 89 (0, 0))) ∧ (Below w.heap.size w w')) ?_ ?_
          rotate_left
          ·intro hJ1_10_11
           refine join_ (σ := Unit) 6 #[true, true, true, true, true, true, true, true, true, true, false, false, false, true, true, false, false, false] (fun s_ => [(15, .string t191), (19, .string t192), (16, .string ((⟨#[69]⟩ : ByteArray) ++ t191)), (20, .string (((⟨#[69]⟩ : ByteArray) ++ t191) ++ t192))]) (fun s_ w' => (w'.cell? ⟨gb188, 0, none⟩ = some (.int .i64 a1_0) ∧ w'.cell? ⟨gb188, 1, none⟩ = some (.int .i64 a1_1) ∧ w'.cell? ⟨gb188, 2, none⟩ = some (.string a1_2)) ∧ (w'.heap[gb188]? = some (.cells #[.int .i64 a1_0, .int .i64 a1_1, .string a1_2] 89 (0, 0))) ∧ (Below w.heap.size w w')) ?_ ?_
           rotate_left
           ·intro hJ1_5
            refine join_ (σ := Value) 7 #[true, true, true, true, true, false, false, true, true, true, true, false, false, true, true, false, false, false] (fun s_ => [(15, .string t191), (24, s_), (16, .string ((⟨#[69]⟩ : ByteArray) ++ t191))]) (fun s_ w' => (w'.cell? ⟨gb188, 0, none⟩ = some (.int .i64 a1_0) ∧ w'.cell? ⟨gb188, 1, none⟩ = some (.int .i64 a1_1) ∧ w'.cell? ⟨gb188, 2, none⟩ = some (.string a1_2)) ∧ (Kd.R (Kd.int .u8) 5 w' w.heap.size (fun _ => True) s_ y193) ∧ (w'.heap[gb188]? = some (.cells #[.int .i64 a1_0, .int .i64 a1_1, .string a1_2] 89 (0, 0))) ∧ (Below w.heap.size w w')) ?_ ?_
            rotate_left
            ·intro hJ1_10
             refine join_ (σ := Value) 8 #[true, false, false, true, true, false, false, true, true, true, true, true, false, true, true, false, false, false] (fun s_ => [(24, s_), (25, .string (strOfNums y193))]) (fun s_ w' => (w'.cell? ⟨gb188, 0, none⟩ = some (.int .i64 a1_0) ∧ w'.cell? ⟨gb188, 1, none⟩ = some (.int .i64 a1_1) ∧ w'.cell? ⟨gb188, 2, none⟩ = some (.string a1_2)) ∧ (Kd.R (Kd.int .u8) 5 w' w.heap.size (fun _ => True) s_ y193) ∧ (w'.heap[gb188]? = some (.cells #[.int .i64 a1_0, .int .i64 a1_1, .string a1_2] 89 (0, 0))) ∧ (Below w.heap.size w w')) ?_ ?_
             rotate_left
             ·intro hJ10_11
              refine join_ (σ := Unit) 8 #[true, true, true, true, true, false, false, true, true, true, false, false, false, true, true, false, false, false] (fun s_ => [(15, .string t191), (16, .string ((⟨#[69]⟩ : ByteArray) ++ t191))]) (fun s_ w' => (w'.cell? ⟨gb188, 0, none⟩ = some (.int .i64 a1_0) ∧ w'.cell? ⟨gb188, 1, none⟩ = some (.int .i64 a1_1) ∧ w'.cell? ⟨gb188, 2, none⟩ = some (.string a1_2)) ∧ (w'.heap[gb188]? = some (.cells #[.int .i64 a1_0, .int .i64 a1_1, .string a1_2] 89 (0, 0))) ∧ (Below w.heap.size w w')) ?_ ?_
              rotate_left
              ·intro hJ1
               refine join_ (σ := Value) 9 #[true, false, false, true, true, false, false, true, true, true, true, false, false, true, true, false, false, false] (fun s_ => [(24, s_)]) (fun s_ w' => (w'.cell? ⟨gb188, 0, none⟩ = some (.int .i64 a1_0) ∧ w'.cell? ⟨gb188, 1, none⟩ = some (.int .i64 a1_1) ∧ w'.cell? ⟨gb188, 2, none⟩ = some (.string a1_2)) ∧ (Kd.R (Kd.int .u8) 5 w' w.heap.size (fun _ => True) s_ y193) ∧ (w'.heap[gb188]? = some (.cells #[.int .i64 a1_0, .int .i64 a1_1, .string a1_2] 89 (0, 0))) ∧ (Below w.heap.size w w')) ?_ ?_
               rotate_left
               ·intro hJ10
                refine two_ (i := 1) (j := 10) (Ni := some 15) (Nj := some 24) #[true, true, false, true, true, false, false, true, true, true, false, false, false, true, true, false, false, false] #[true, false, false, true, true, false, false, true, true, true, true, false, false, true, true, false, false, false] rfl rfl rfl rfl (two_of HT_.out (by kernel_rfl)) (by decide) (by decide) (fun K hK => ?_) (fun K hK => ?_)
                ·skip
                 refine goes_ Try.func49 (by kernel_rfl) rfl #[.int .i64 a0] (by rfl) rfl rfl (by (try simp only [List.map_toArray, List.map_cons, List.map_nil]); first | done | rfl | (simp only [List.length_drop, List.length_take]; rfl)) ?_
                 with_reducible refine (spec_l01Var.calls kj2 a0 t191 _ A13.out).mono ?_
                 rintro e w20 ⟨rfl, hb⟩
                 refine ⟨_, rfl, ?_⟩
                 have n0_ := bb BK188 hb
                 have n1_ := Aside0.mk (below_step (bt HB) hb)
                 clear BK188 HB
                 revert n0_ n1_
                 intro BK188 HB
                 (try clear hb)
                 (try clear hb2)
                 (try clear hk)
                 (try clear hi)
                 refine hK.out _ _ ⟨bc BK188 0, bc BK188 1, bc BK188 2⟩ (fun hHeld => ?_)
                 clear hK K
                 refine norm_ (a' := ?_) ?_ ?_
                 rotate_left
                 ·show Act.put _ (some 15) _ = _
                  simp only [Act.put, zA, zB, zC, i64_w, i32_w]
                  rfl
                 refine pu HT_ 2 (some 16) ?_
                 exact norm_ (by first | (simp only [putAll, Act.put, zA, zB, zC]; done) | (simp only [putAll, Act.put, zA, zB, zC]; rfl)) (hJ1 () _ ⟨hHeld, (bk BK188), (bt HB)⟩)
                ·skip
                 refine Kd.R_lit_step (Kd.int .u8) _ 5 ?hg (N := 24) ?hd (xs := ([(a1_1) % 256] : List Int)) (inner := [.int .u8 ((a1_1) % 256)]) (ok := fun _ => True) (okp := fun _ => True) ?hr ?hp (fun _ hk => hk) trivial (Below.refl _ _) (Nat.le_refl _) (by simp) ?_; (case hd => rfl); (case hg => rfl); (case hr => first | (go_simp; done) | (go_simp; rfl)); (case hp => exact (Reps.one (show Kd.M (Kd.int .u8) _ _ _ ((a1_1) % 256) [.int .u8 ((a1_1) % 256)] from rfl) (Reps.none _ _)))
                 intro v194 w20 ho21 hb hg_ hnew_
                 clear hg_ hnew_
                 (first | rw [← Ny193.out] at ho21 | (simp only [Int.reduceToNat] at ho21; rw [← Ny193.out] at ho21))
                 have n0_ := Aside0.mk (Kd.R_lower ho21 (below_size (bt HB)))
                 have n1_ := bb BK188 hb
                 have n2_ := Aside0.mk (below_step (bt HB) hb)
                 clear BK188 HB
                 revert n0_ n1_ n2_
                 intro HO195 BK188 HB
                 clear hb ho21
                 refine hK.out _ _ ⟨bc BK188 0, bc BK188 1, bc BK188 2⟩ (fun hHeld => ?_)
                 clear hK K
                 refine norm_ (a' := ?_) ?_ ?_
                 rotate_left
                 ·show Act.put _ (some 24) _ = _
                  simp only [Act.put, zA, zB, zC, i64_w, i32_w]
                  rfl
                 exact norm_ (by first | (simp only [putAll, Act.put, zA, zB, zC]; done) | (simp only [putAll, Act.put, zA, zB, zC]; rfl)) (hJ10 (v194) _ ⟨hHeld, (rk HO195), (bk BK188), (bt HB)⟩)
               ·skip
                rintro v194 w22 ⟨hS_, h0_, h1_, h2_⟩
                have n0_ : Aside0 (Kd.R (Kd.int .u8) 5 w22 w.heap.size (fun _ => True) v194 y193) := ⟨h0_⟩
                have n1_ : Aside0 (w22.heap[gb188]? = some (.cells #[.int .i64 a1_0, .int .i64 a1_1, .string a1_2] 89 (0, 0))) := ⟨h1_⟩
                have n2_ : Aside0 (Below w.heap.size w w22) := ⟨h2_⟩
                clear BK188
                clear HB
                clear h0_ h1_ h2_
                have HO195 := n0_
                have BK188 := n1_
                have HB := n2_
                clear n0_ n1_ n2_
                have hHeld : w22.cell? ⟨gb188, 0, none⟩ = some (.int .i64 a1_0) ∧ w22.cell? ⟨gb188, 1, none⟩ = some (.int .i64 a1_1) ∧ w22.cell? ⟨gb188, 2, none⟩ = some (.string a1_2) := hS_
                refine norm_ (a' := ?_) ?_ ?_
                rotate_left
                ·simp only [putAll, Act.put, zA, zB, zC]
                 rfl
                refine two_ (i := 1) (j := 11) (Ni := some 15) (Nj := some 25) #[true, true, false, true, true, false, false, true, true, true, true, false, false, true, true, false, false, false] #[true, false, false, true, true, false, false, true, true, true, true, true, false, true, true, false, false, false] rfl rfl rfl rfl (two_of HT_.out (by kernel_rfl)) (by decide) (by decide) (fun K hK => ?_) (fun K hK => ?_)
                ·skip
                 refine goes_ Try.func49 (by kernel_rfl) rfl #[.int .i64 a0] (by rfl) rfl rfl (by (try simp only [List.map_toArray, List.map_cons, List.map_nil]); first | done | rfl | (simp only [List.length_drop, List.length_take]; rfl)) ?_
                 with_reducible refine (spec_l01Var.calls kj2 a0 t191 _ A13.out).mono ?_
                 rintro e w23 ⟨rfl, hb⟩
                 refine ⟨_, rfl, ?_⟩
                 have n0_ := rb HO195 hb
                 have n1_ := bb BK188 hb
                 have n2_ := Aside0.mk (below_step (bt HB) hb)
                 clear HO195 BK188 HB
                 revert n0_ n1_ n2_
                 intro HO195 BK188 HB
                 (try clear hb)
                 (try clear hb2)
                 (try clear hk)
                 (try clear hi)
                 refine hK.out _ _ ⟨bc BK188 0, bc BK188 1, bc BK188 2⟩ (fun hHeld => ?_)
                 clear hK K
                 refine norm_ (a' := ?_) ?_ ?_
                 rotate_left
                 ·show Act.put _ (some 15) _ = _
                  simp only [Act.put, zA, zB, zC, i64_w, i32_w]
                  rfl
                 refine pu HT_ 2 (some 16) ?_
                 exact norm_ (by first | (simp only [putAll, Act.put, zA, zB, zC]; done) | (simp only [putAll, Act.put, zA, zB, zC]; rfl)) (hJ1_10 (v194) _ ⟨hHeld, (rk HO195), (bk BK188), (bt HB)⟩)
                ·skip
                 have hcv23 := own_string (P := Try.prog) Try.underlying22 Try.underlying5 Try.underlying9 (Kd.own_of_R HO195.out)
                 refine value_ (w1 := ?_) (v := ?_) (by rfl) rfl ?_ ?_
                 rotate_left 2
                 ·go_simp
                  constructor
                  ·rfl
                  ·rfl
                 clear hcv23
                 refine hK.out _ _ ⟨bc BK188 0, bc BK188 1, bc BK188 2⟩ (fun hHeld => ?_)
                 clear hK K
                 refine norm_ (a' := ?_) ?_ ?_
                 rotate_left
                 ·show Act.put _ (some 25) _ = _
                  simp only [Act.put, zA, zB, zC, i64_w, i32_w]
                  rfl
                 exact norm_ (by first | (simp only [putAll, Act.put, zA, zB, zC]; done) | (simp only [putAll, Act.put, zA, zB, zC]; rfl)) (hJ10_11 (v194) _ ⟨hHeld, (rk HO195), (bk BK188), (bt HB)⟩)
              ·skip
               rintro _ w21 ⟨hS_, h0_, h1_⟩
               have n0_ : Aside0 (w21.heap[gb188]? = some (.cells #[.int .i64 a1_0, .int .i64 a1_1, .string a1_2] 89 (0, 0))) := ⟨h0_⟩
               have n1_ : Aside0 (Below w.heap.size w w21) := ⟨h1_⟩
               clear BK188
               clear HB
               clear h0_ h1_
               have BK188 := n0_
               have HB := n1_
               clear n0_ n1_
               have hHeld : w21.cell? ⟨gb188, 0, none⟩ = some (.int .i64 a1_0) ∧ w21.cell? ⟨gb188, 1, none⟩ = some (.int .i64 a1_1) ∧ w21.cell? ⟨gb188, 2, none⟩ = some (.string a1_2) := hS_
               refine norm_ (a' := ?_) ?_ ?_
               rotate_left
               ·simp only [putAll, Act.put, zA, zB, zC]
                rfl
               refine two_ (i := 5) (j := 10) (Ni := some 19) (Nj := some 24) #[true, true, true, true, true, true, false, true, true, true, false, false, false, true, true, false, false, false] #[true, true, true, true, true, false, false, true, true, true, true, false, false, true, true, false, false, false] rfl rfl rfl rfl (two_of HT_.out (by kernel_rfl)) (by decide) (by decide) (fun K hK => ?_) (fun K hK => ?_)
               ·skip
                refine goes_ Try.func49 (by kernel_rfl) rfl #[.int .i64 a1_0] (by rfl) rfl rfl (by (try simp only [List.map_toArray, List.map_cons, List.map_nil]); first | done | rfl | (simp only [List.length_drop, List.length_take]; rfl)) ?_
                with_reducible refine (spec_l01Var.calls kj2 a1_0 t192 _ A15.out).mono ?_
                rintro e w22 ⟨rfl, hb⟩
                refine ⟨_, rfl, ?_⟩
                have n0_ := bb BK188 hb
                have n1_ := Aside0.mk (below_step (bt HB) hb)
                clear BK188 HB
                revert n0_ n1_
                intro BK188 HB
                (try clear hb)
                (try clear hb2)
                (try clear hk)
                (try clear hi)
                refine hK.out _ _ ⟨bc BK188 0, bc BK188 1, bc BK188 2⟩ (fun hHeld => ?_)
                clear hK K
                refine norm_ (a' := ?_) ?_ ?_
                rotate_left
                ·show Act.put _ (some 19) _ = _
                 simp only [Act.put, zA, zB, zC, i64_w, i32_w]
                 rfl
                refine pu HT_ 6 (some 20) ?_
                exact norm_ (by first | (simp only [putAll, Act.put, zA, zB, zC]; done) | (simp only [putAll, Act.put, zA, zB, zC]; rfl)) (hJ1_5 () _ ⟨hHeld, (bk BK188), (bt HB)⟩)
               ·skip
                refine Kd.R_lit_step (Kd.int .u8) _ 5 ?hg (N := 24) ?hd (xs := ([(a1_1) % 256] : List Int)) (inner := [.int .u8 ((a1_1) % 256)]) (ok := fun _ => True) (okp := fun _ => True) ?hr ?hp (fun _ hk => hk) trivial (Below.refl _ _) (Nat.le_refl _) (by simp) ?_; (case hd => rfl); (case hg => rfl); (case hr => first | (go_simp; done) | (go_simp; rfl)); (case hp => exact (Reps.one (show Kd.M (Kd.int .u8) _ _ _ ((a1_1) % 256) [.int .u8 ((a1_1) % 256)] from rfl) (Reps.none _ _)))
                intro v194 w22 ho23 hb hg_ hnew_
                clear hg_ hnew_
                (first | rw [← Ny193.out] at ho23 | (simp only [Int.reduceToNat] at ho23; rw [← Ny193.out] at ho23))
                have n0_ := Aside0.mk (Kd.R_lower ho23 (below_size (bt HB)))
                have n1_ := bb BK188 hb
                have n2_ := Aside0.mk (below_step (bt HB) hb)
                clear BK188 HB
                revert n0_ n1_ n2_
                intro HO195 BK188 HB
                clear hb ho23
                refine hK.out _ _ ⟨bc BK188 0, bc BK188 1, bc BK188 2⟩ (fun hHeld => ?_)
                clear hK K
                refine norm_ (a' := ?_) ?_ ?_
                rotate_left
                ·show Act.put _ (some 24) _ = _
                 simp only [Act.put, zA, zB, zC, i64_w, i32_w]
                 rfl
                exact norm_ (by first | (simp only [putAll, Act.put, zA, zB, zC]; done) | (simp only [putAll, Act.put, zA, zB, zC]; rfl)) (hJ1_10 (v194) _ ⟨hHeld, (rk HO195), (bk BK188), (bt HB)⟩)
             ·skip
              rintro v194 w23 ⟨hS_, h0_, h1_, h2_⟩
              have n0_ : Aside0 (Kd.R (Kd.int .u8) 5 w23 w.heap.size (fun _ => True) v194 y193) := ⟨h0_⟩
              have n1_ : Aside0 (w23.heap[gb188]? = some (.cells #[.int .i64 a1_0, .int .i64 a1_1, .string a1_2] 89 (0, 0))) := ⟨h1_⟩
              have n2_ : Aside0 (Below w.heap.size w w23) := ⟨h2_⟩
              clear BK188
              clear HB
              clear h0_ h1_ h2_
              have HO195 := n0_
              have BK188 := n1_
              have HB := n2_
              clear n0_ n1_ n2_
              have hHeld : w23.cell? ⟨gb188, 0, none⟩ = some (.int .i64 a1_0) ∧ w23.cell? ⟨gb188, 1, none⟩ = some (.int .i64 a1_1) ∧ w23.cell? ⟨gb188, 2, none⟩ = some (.string a1_2) := hS_
              refine norm_ (a' := ?_) ?_ ?_
              rotate_left
              ·simp only [putAll, Act.put, zA, zB, zC]
               rfl
              refine one_ (i := 1) (N := some 15) #[true, true, false, true, true, false, false, true, true, true, true, true, false, true, true, false, false, false] rfl rfl (one_of HT_.out (by kernel_rfl)) (by decide) (fun K hK => ?_)
              refine goes_ Try.func49 (by kernel_rfl) rfl #[.int .i64 a0] (by rfl) rfl rfl (by (try simp only [List.map_toArray, List.map_cons, List.map_nil]); first | done | rfl | (simp only [List.length_drop, List.length_take]; rfl)) ?_
              with_reducible refine (spec_l01Var.calls kj2 a0 t191 _ A13.out).mono ?_
              rintro e w24 ⟨rfl, hb⟩
              refine ⟨_, rfl, ?_⟩
              have n0_ := rb HO195 hb
              have n1_ := bb BK188 hb
              have n2_ := Aside0.mk (below_step (bt HB) hb)
              clear HO195 BK188 HB
              revert n0_ n1_ n2_
              intro HO195 BK188 HB
              (try clear hb)
              (try clear hb2)
              (try clear hk)
              (try clear hi)
              refine hK.out _ _ ⟨bc BK188 0, bc BK188 1, bc BK188 2⟩ (fun hHeld => ?_)
              clear hK K
              refine norm_ (a' := ?_) ?_ ?_
              rotate_left
              ·show Act.put _ (some 15) _ = _
               simp only [Act.put, zA, zB, zC, i64_w, i32_w]
               rfl
              refine pu HT_ 2 (some 16) ?_
              exact norm_ (by first | (simp only [putAll, Act.put, zA, zB, zC]; done) | (simp only [putAll, Act.put, zA, zB, zC]; rfl)) (hJ1_10_11 (v194) _ ⟨hHeld, (rk HO195), (bk BK188), (bt HB)⟩)
            ·skip
             rintro v194 w23 ⟨hS_, h0_, h1_, h2_⟩
             have n0_ : Aside0 (Kd.R (Kd.int .u8) 5 w23 w.heap.size (fun _ => True) v194 y193) := ⟨h0_⟩
             have n1_ : Aside0 (w23.heap[gb188]? = some (.cells #[.int .i64 a1_0, .int .i64 a1_1, .string a1_2] 89 (0, 0))) := ⟨h1_⟩
             have n2_ : Aside0 (Below w.heap.size w w23) := ⟨h2_⟩
             clear BK188
             clear HB
             clear h0_ h1_ h2_
             have HO195 := n0_
             have BK188 := n1_
             have HB := n2_
             clear n0_ n1_ n2_
             have hHeld : w23.cell? ⟨gb188, 0, none⟩ = some (.int .i64 a1_0) ∧ w23.cell? ⟨gb188, 1, none⟩ = some (.int .i64 a1_1) ∧ w23.cell? ⟨gb188, 2, none⟩ = some (.string a1_2) := hS_
             refine norm_ (a' := ?_) ?_ ?_
             rotate_left
             ·simp only [putAll, Act.put, zA, zB, zC]
              rfl
             refine two_ (i := 5) (j := 11) (Ni := some 19) (Nj := some 25) #[true, true, true, true, true, true, false, true, true, true, true, false, false, true, true, false, false, false] #[true, true, true, true, true, false, false, true, true, true, true, true, false, true, true, false, false, false] rfl rfl rfl rfl (two_of HT_.out (by kernel_rfl)) (by decide) (by decide) (fun K hK => ?_) (fun K hK => ?_)
             ·skip
              refine goes_ Try.func49 (by kernel_rfl) rfl #[.int .i64 a1_0] (by rfl) rfl rfl (by (try simp only [List.map_toArray, List.map_cons, List.map_nil]); first | done | rfl | (simp only [List.length_drop, List.length_take]; rfl)) ?_
              with_reducible refine (spec_l01Var.calls kj2 a1_0 t192 _ A15.out).mono ?_
              rintro e w24 ⟨rfl, hb⟩
              refine ⟨_, rfl, ?_⟩
              have n0_ := rb HO195 hb
              have n1_ := bb BK188 hb
              have n2_ := Aside0.mk (below_step (bt HB) hb)
              clear HO195 BK188 HB
              revert n0_ n1_ n2_
              intro HO195 BK188 HB
              (try clear hb)
              (try clear hb2)
              (try clear hk)
              (try clear hi)
              refine hK.out _ _ ⟨bc BK188 0, bc BK188 1, bc BK188 2⟩ (fun hHeld => ?_)
              clear hK K
              refine norm_ (a' := ?_) ?_ ?_
              rotate_left
              ·show Act.put _ (some 19) _ = _
               simp only [Act.put, zA, zB, zC, i64_w, i32_w]
               rfl
              refine pu HT_ 6 (some 20) ?_
              exact norm_ (by first | (simp only [putAll, Act.put, zA, zB, zC]; done) | (simp only [putAll, Act.put, zA, zB, zC]; rfl)) (hJ1_5_10 (v194) _ ⟨hHeld, (rk HO195), (bk BK188), (bt HB)⟩)
             ·skip
              have hcv24 := own_string (P := Try.prog) Try.underlying22 Try.underlying5 Try.underlying9 (Kd.own_of_R HO195.out)
              refine value_ (w1 := ?_) (v := ?_) (by rfl) rfl ?_ ?_
              rotate_left 2
              ·go_simp
               constructor
               ·rfl
               ·rfl
              clear hcv24
              refine hK.out _ _ ⟨bc BK188 0, bc BK188 1, bc BK188 2⟩ (fun hHeld => ?_)
              clear hK K
              refine norm_ (a' := ?_) ?_ ?_
              rotate_left
              ·show Act.put _ (some 25) _ = _
               simp only [Act.put, zA, zB, zC, i64_w, i32_w]
               rfl
              exact norm_ (by first | (simp only [putAll, Act.put, zA, zB, zC]; done) | (simp only [putAll, Act.put, zA, zB, zC]; rfl)) (hJ1_10_11 (v194) _ ⟨hHeld, (rk HO195), (bk BK188), (bt HB)⟩)
           ·skip
            rintro _ w22 ⟨hS_, h0_, h1_⟩
            have n0_ : Aside0 (w22.heap[gb188]? = some (.cells #[.int .i64 a1_0, .int .i64 a1_1, .string a1_2] 89 (0, 0))) := ⟨h0_⟩
            have n1_ : Aside0 (Below w.heap.size w w22) := ⟨h1_⟩
            clear BK188
            clear HB
            clear h0_ h1_
            have BK188 := n0_
            have HB := n1_
            clear n0_ n1_
            have hHeld : w22.cell? ⟨gb188, 0, none⟩ = some (.int .i64 a1_0) ∧ w22.cell? ⟨gb188, 1, none⟩ = some (.int .i64 a1_1) ∧ w22.cell? ⟨gb188, 2, none⟩ = some (.string a1_2) := hS_
            refine norm_ (a' := ?_) ?_ ?_
            rotate_left
            ·simp only [putAll, Act.put, zA, zB, zC]
             rfl
            refine one_ (i := 10) (N := some 24) #[true, true, true, true, true, true, true, true, true, true, true, false, false, true, true, false, false, false] rfl rfl (one_of HT_.out (by kernel_rfl)) (by decide) (fun K hK => ?_)
            refine Kd.R_lit_step (Kd.int .u8) _ 5 ?hg (N := 24) ?hd (xs := ([(a1_1) % 256] : List Int)) (inner := [.int .u8 ((a1_1) % 256)]) (ok := fun _ => True) (okp := fun _ => True) ?hr ?hp (fun _ hk => hk) trivial (Below.refl _ _) (Nat.le_refl _) (by simp) ?_; (case hd => rfl); (case hg => rfl); (case hr => first | (go_simp; done) | (go_simp; rfl)); (case hp => exact (Reps.one (show Kd.M (Kd.int .u8) _ _ _ ((a1_1) % 256) [.int .u8 ((a1_1) % 256)] from rfl) (Reps.none _ _)))
            intro v194 w23 ho24 hb hg_ hnew_
            clear hg_ hnew_
            (first | rw [← Ny193.out] at ho24 | (simp only [Int.reduceToNat] at ho24; rw [← Ny193.out] at ho24))
            have n0_ := Aside0.mk (Kd.R_lower ho24 (below_size (bt HB)))
            have n1_ := bb BK188 hb
            have n2_ := Aside0.mk (below_step (bt HB) hb)
            clear BK188 HB
            revert n0_ n1_ n2_
            intro HO195 BK188 HB
            clear hb ho24
            refine hK.out _ _ ⟨bc BK188 0, bc BK188 1, bc BK188 2⟩ (fun hHeld => ?_)
            clear hK K
            refine norm_ (a' := ?_) ?_ ?_
            rotate_left
            ·show Act.put _ (some 24) _ = _
             simp only [Act.put, zA, zB, zC, i64_w, i32_w]
             rfl
            exact norm_ (by first | (simp only [putAll, Act.put, zA, zB, zC]; done) | (simp only [putAll, Act.put, zA, zB, zC]; rfl)) (hJ1_5_10 (v194) _ ⟨hHeld, (rk HO195), (bk BK188), (bt HB)⟩)
          ·skip
           rintro v194 w24 ⟨hS_, h0_, h1_, h2_⟩
           have n0_ : Aside0 (Kd.R (Kd.int .u8) 5 w24 w.heap.size (fun _ => True) v194 y193) := ⟨h0_⟩
           have n1_ : Aside0 (w24.heap[gb188]? = some (.cells #[.int .i64 a1_0, .int .i64 a1_1, .string a1_2] 89 (0, 0))) := ⟨h1_⟩
           have n2_ : Aside0 (Below w.heap.size w w24) := ⟨h2_⟩
           clear BK188
           clear HB
           clear h0_ h1_ h2_
           have HO195 := n0_
           have BK188 := n1_
           have HB := n2_
           clear n0_ n1_ n2_
           have hHeld : w24.cell? ⟨gb188, 0, none⟩ = some (.int .i64 a1_0) ∧ w24.cell? ⟨gb188, 1, none⟩ = some (.int .i64 a1_1) ∧ w24.cell? ⟨gb188, 2, none⟩ = some (.string a1_2) := hS_
           refine norm_ (a' := ?_) ?_ ?_
           rotate_left
           ·simp only [putAll, Act.put, zA, zB, zC]
            rfl
           refine one_ (i := 5) (N := some 19) #[true, true, true, true, true, true, false, true, true, true, true, true, false, true, true, false, false, false] rfl rfl (one_of HT_.out (by kernel_rfl)) (by decide) (fun K hK => ?_)
           refine goes_ Try.func49 (by kernel_rfl) rfl #[.int .i64 a1_0] (by rfl) rfl rfl (by (try simp only [List.map_toArray, List.map_cons, List.map_nil]); first | done | rfl | (simp only [List.length_drop, List.length_take]; rfl)) ?_
           with_reducible refine (spec_l01Var.calls kj2 a1_0 t192 _ A15.out).mono ?_
           rintro e w25 ⟨rfl, hb⟩
           refine ⟨_, rfl, ?_⟩
           have n0_ := rb HO195 hb
           have n1_ := bb BK188 hb
           have n2_ := Aside0.mk (below_step (bt HB) hb)
           clear HO195 BK188 HB
           revert n0_ n1_ n2_
           intro HO195 BK188 HB
           (try clear hb)
           (try clear hb2)
           (try clear hk)
           (try clear hi)
           refine hK.out _ _ ⟨bc BK188 0, bc BK188 1, bc BK188 2⟩ (fun hHeld => ?_)
           clear hK K
           refine norm_ (a' := ?_) ?_ ?_
           rotate_left
           ·show Act.put _ (some 19) _ = _
            simp only [Act.put, zA, zB, zC, i64_w, i32_w]
            rfl
           refine pu HT_ 6 (some 20) ?_
           exact norm_ (by first | (simp only [putAll, Act.put, zA, zB, zC]; done) | (simp only [putAll, Act.put, zA, zB, zC]; rfl)) (hJ1_5_10_11 (v194) _ ⟨hHeld, (rk HO195), (bk BK188), (bt HB)⟩)
         ·skip
          rintro v194 w24 ⟨hS_, h0_, h1_, h2_⟩
          have n0_ : Aside0 (Kd.R (Kd.int .u8) 5 w24 w.heap.size (fun _ => True) v194 y193) := ⟨h0_⟩
          have n1_ : Aside0 (w24.heap[gb188]? = some (.cells #[.int .i64 a1_0, .int .i64 a1_1, .string a1_2] 89 (0, 0))) := ⟨h1_⟩
          have n2_ : Aside0 (Below w.heap.size w w24) := ⟨h2_⟩
          clear BK188
          clear HB
          clear h0_ h1_ h2_
          have HO195 := n0_
          have BK188 := n1_
          have HB := n2_
          clear n0_ n1_ n2_
          have hHeld : w24.cell? ⟨gb188, 0, none⟩ = some (.int .i64 a1_0) ∧ w24.cell? ⟨gb188, 1, none⟩ = some (.int .i64 a1_1) ∧ w24.cell? ⟨gb188, 2, none⟩ = some (.string a1_2) := hS_
          refine norm_ (a' := ?_) ?_ ?_
          rotate_left
          ·simp only [putAll, Act.put, zA, zB, zC]
           rfl
          refine one_ (i := 11) (N := some 25) #[true, true, true, true, true, true, true, true, true, true, true, true, false, true, true, false, false, false] rfl rfl (one_of HT_.out (by kernel_rfl)) (by decide) (fun K hK => ?_)
          have hcv25 := own_string (P := Try.prog) Try.underlying22 Try.underlying5 Try.underlying9 (Kd.own_of_R HO195.out)
          refine value_ (w1 := ?_) (v := ?_) (by rfl) rfl ?_ ?_
          rotate_left 2
          ·go_simp
           constructor
           ·rfl
           ·rfl
          clear hcv25
          refine hK.out _ _ ⟨bc BK188 0, bc BK188 1, bc BK188 2⟩ (fun hHeld => ?_)
          clear hK K
          refine norm_ (a' := ?_) ?_ ?_
          rotate_left
          ·show Act.put _ (some 25) _ = _
           simp only [Act.put, zA, zB, zC, i64_w, i32_w]
           rfl
          exact norm_ (by first | (simp only [putAll, Act.put, zA, zB, zC]; done) | (simp only [putAll, Act.put, zA, zB, zC]; rfl)) (hJ1_5_10_11 (v194) _ ⟨hHeld, (rk HO195), (bk BK188), (bt HB)⟩)
        rintro v194 w25 ⟨hS_, h0_, h1_, h2_⟩
        have n0_ : Aside0 (Kd.R (Kd.int .u8) 5 w25 w.heap.size (fun _ => True) v194 y193) := ⟨h0_⟩
        have n1_ : Aside0 (w25.heap[gb188]? = some (.cells #[.int .i64 a1_0, .int .i64 a1_1, .string a1_2] 89 (0, 0))) := ⟨h1_⟩
        have n2_ : Aside0 (Below w.heap.size w w25) := ⟨h2_⟩
        clear BK188
        clear HB
        clear h0_ h1_ h2_
        have HO195 := n0_
        have BK188 := n1_
        have HB := n2_
        clear n0_ n1_ n2_
        have hHeld : w25.cell? ⟨gb188, 0, none⟩ = some (.int .i64 a1_0) ∧ w25.cell? ⟨gb188, 1, none⟩ = some (.int .i64 a1_1) ∧ w25.cell? ⟨gb188, 2, none⟩ = some (.string a1_2) := hS_
        refine norm_ (a' := ?_) ?_ ?_
        rotate_left
        ·simp only [putAll, Act.put, zA, zB, zC]
         rfl
        refine pu HT_ 12 (some 26) ?_
        refine pu HT_ 15 (some 29) ?_
        refine pu HT_ 16 (some 4) ?_
        refine pu HT_ 17 (some 5) ?_
        refine done_ (done_of HT_.out (by kernel_rfl)) ?_
        try go_wp2
        go_ret2
        exact ⟨by first | rfl | (simp [errW_none, errW_some] <;> rfl) | (simp [*, errW_none, errW_some] <;> rfl), bt HB⟩
       ·rw [if_neg c18] at H
        exact absurd H (by simp)
      ·rw [if_neg c17] at H
       exact absurd H (by simp)
     ·rw [if_neg c16] at H
      exact absurd H (by simp)
    ·rw [if_neg c14] at H
     exact absurd H (by simp)
end Go.Proofs.Ytghhepailkkneaa.PFnExactReadJournal
