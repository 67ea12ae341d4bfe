/- What the functions that FnExactReadJournal reaches compute, and that the machine's calls compute it. Begun as a text of the kit's print. No condition. -/
import Derived.Test.YtghhepailkkneaaTiny
import Derived.Test.YtghhepailkkneaaQFnExactReadJournalx0
import Derived.Test.YtghhepailkkneaaQFnExactReadJournalx14
import Derived.Test.YtghhepailkkneaaQFnExactReadJournalx15
import Derived.Test.YtghhepailkkneaaRks
import Derived.Test.YtghhepailkkneaaRki
namespace Go.Proofs.Ytghhepailkkneaa.PFnExactReadJournal
open Go.RowKit Go.Proofs.YtghhepailkkneaaW.PrintWords Go.Proofs.YtghhepailkkneaaW.PrintLast Go.Proofs.YtghhepailkkneaaW.PrintMore Go.Proofs.YtghhepailkkneaaW.Short
attribute [local go_sem] max2_int min2_int max_two min_two max_three min_three max_four min_four
set_option linter.unusedVariables false
set_option linter.unusedSimpArgs false
mutual
def laws_FnExactReadJournal.j0 : Nat → Int → ByteArray → Int → Bool → Bool → Int → Int → Int → Int → Int → List (S89) → Int → Int → Int → Int → Int → List (S89) → Option (Bool)
  | 0, _, _, _, _, _, _, _, _, _, _, _, _, _, _, _, _, _ => none
  | k + 1, x0, x1, x6, x7, x46, x391000, x391001, x391002, x391003, x391004, x391005, x402000, x402001, x402002, x402003, x402004, x402005 => if x46 = true then (some false) else ((laws_markJournal.f k x402000 x402001 x402002 x402003 x402004 x402005 1).bind fun bt403 => ((laws_heldJournal.f k x402000 x402001 x402002 x402003 x402004 bt403.2 1).bind fun t405 => (if t405 < 0 then (some false) else (if t405 = bt403.1 then ((impl_ReadJournal.f k x0 x1).bind fun bt406 => ((laws_eqJournal.f k bt406.1 bt406.2.1 bt406.2.2.1 bt406.2.2.2.1 bt406.2.2.2.2.1 bt406.2.2.2.2.2.1 x391000 x391001 x391002 x391003 x391004 x391005).bind fun t417 => (if t417 = true then (if bt406.2.2.2.2.2.2.1 = x6 then (laws_FnExactReadJournal.j1 k bt403.1 (bt406.2.2.2.2.2.2.2 != x7) x402000 x402001 x402002 x402003 x402004 bt403.2) else (laws_FnExactReadJournal.j1 k bt403.1 true x402000 x402001 x402002 x402003 x402004 bt403.2)) else (laws_FnExactReadJournal.j1 k bt403.1 true x402000 x402001 x402002 x402003 x402004 bt403.2)))) else (some false)))))
def laws_FnExactReadJournal.j1 : Nat → Int → Bool → Int → Int → Int → Int → Int → List (S89) → Option (Bool)
  | 0, _, _, _, _, _, _, _, _ => none
  | k + 1, x11, x78, x402000, x402001, x402002, x402003, x402004, x402005 => if x78 = true then (some false) else ((laws_heldJournal.f k x402000 x402001 x402002 x402003 x402004 x402005 1).bind fun t418 => (if t418 < 0 then (some false) else (if t418 = x11 then (some true) else (some false))))
end
def laws_FnExactReadJournal.f (k : Nat) (a0 : Int) (a1 : ByteArray) : Option (Bool) := if (a1.size : Int) > 1048576 then (some true) else ((spec_ReadJournal.f k a0 a1).bind fun bt380 => ((impl_ReadJournal.f k a0 a1).bind fun bt391 => ((laws_eqJournal.f k bt391.1 bt391.2.1 bt391.2.2.1 bt391.2.2.2.1 bt391.2.2.2.2.1 bt391.2.2.2.2.2.1 bt380.1 bt380.2.1 bt380.2.2.1 bt380.2.2.2.1 bt380.2.2.2.2.1 bt380.2.2.2.2.2.1).bind fun t402 => (if t402 = true then (if bt391.2.2.2.2.2.2.1 = bt380.2.2.2.2.2.2.1 then (laws_FnExactReadJournal.j0 k a0 a1 bt380.2.2.2.2.2.2.1 bt380.2.2.2.2.2.2.2 (bt391.2.2.2.2.2.2.2 != bt380.2.2.2.2.2.2.2) bt380.1 bt380.2.1 bt380.2.2.1 bt380.2.2.2.1 bt380.2.2.2.2.1 bt380.2.2.2.2.2.1 bt391.1 bt391.2.1 bt391.2.2.1 bt391.2.2.2.1 bt391.2.2.2.2.1 bt391.2.2.2.2.2.1) else (laws_FnExactReadJournal.j0 k a0 a1 bt380.2.2.2.2.2.2.1 bt380.2.2.2.2.2.2.2 true bt380.1 bt380.2.1 bt380.2.2.1 bt380.2.2.2.1 bt380.2.2.2.2.1 bt380.2.2.2.2.2.1 bt391.1 bt391.2.1 bt391.2.2.1 bt391.2.2.2.1 bt391.2.2.2.2.1 bt391.2.2.2.2.2.1)) else (laws_FnExactReadJournal.j0 k a0 a1 bt380.2.2.2.2.2.2.1 bt380.2.2.2.2.2.2.2 true bt380.1 bt380.2.1 bt380.2.2.1 bt380.2.2.2.1 bt380.2.2.2.2.1 bt380.2.2.2.2.2.1 bt391.1 bt391.2.1 bt391.2.2.1 bt391.2.2.2.1 bt391.2.2.2.2.1 bt391.2.2.2.2.2.1)))))
set_option maxHeartbeats 8000000 in
set_option maxRecDepth 100000 in
theorem laws_FnExactReadJournal.calls (k : Nat) (a0 : Int) (a1 : ByteArray) (r : Bool) (w : World) (h : laws_FnExactReadJournal.f k a0 a1 = some r) :
  Calls Try.prog 4 #[.int .i64 a0, .string a1] w fun e w' => e = .returned (.bool r) ∧ Below w.heap.size w w' := by
 have hu42 := Try.underlying42
 have HB := Aside0.mk (Below.refl w.heap.size w)
 have H := h
 clear h
 unfold laws_FnExactReadJournal.f at H
 by_cases c3 : (a1.size : Int) > 1048576
 ·rw [if_pos c3] at H
  have c3b0 : decide (1048576 < (a1.size : Int)) = true := decide_eq_true c3
  have c3b1 : decide (1048576 < a1.size) = true := decide_eq_true (by omega)
  clear c3
  obtain rfl := Option.some.inj H
  go_enter Try.func4, Try.ntmps4
  go_wp2
  go_ret
  exact ⟨by first | rfl | (simp [errW_none, errW_some] <;> rfl) | (simp [*, errW_none, errW_some] <;> rfl), bt HB⟩
 ·rw [if_neg c3] at H
  have c3b0 : decide (1048576 < (a1.size : Int)) = false := decide_eq_false c3
  have c3b1 : decide (1048576 < a1.size) = false := decide_eq_false (by omega)
  clear c3
  replace H := Option.bind_eq_some_iff.mp H
  obtain ⟨⟨t380, t381, t382, t383, t384, t385, t388, t389⟩, A40, H⟩ := H
  try dsimp only at H
  have A4 := Aside0.mk A40
  clear A40
  replace H := Option.bind_eq_some_iff.mp H
  obtain ⟨⟨t391, t392, t393, t394, t395, t396, t399, t400⟩, A50, H⟩ := H
  try dsimp only at H
  have A5 := Aside0.mk A50
  clear A50
  have HC6 := Aside0.mk H
  clear H
  go_enter Try.func4, Try.ntmps4
  go_upto_region 5 with (first | ((with_reducible refine gd 22 rfl ?_); refine gl 14 22 Try.func14 #[.int .i64 a0, .string a1] ?_; (with_reducible refine (spec_ReadJournal.calls k a0 a1 t380 t381 t382 t383 t384 t385 t388 t389 _ A4.out).mono ?_); rintro e w7 ⟨v386, rfl, ho0, hb⟩; refine ⟨_, rfl, ?_⟩; have n0_ := Aside0.mk (Kd.R_lower ho0 (below_size (bt HB))); have n1_ := Aside0.mk (below_step (bt HB) hb); clear HB; revert n0_ n1_; intro HO387 HB; (try clear hb); (try clear hb2); (try clear hk); (try clear hi); (try clear ho0)) | (refine bx 5 42 #[.int .i64 0, .int .i64 0, .int .i64 0, .int .i64 0, .int .i64 0, .slice none 0 0] ?_; intro gb390 hg w8 hbox hb; have n0_ := rb HO387 hb; have n1_ := Aside0.mk (below_step (bt HB) hb); have n2_ := Aside0.mk (hbox); have n3_ := ge_ hg HB; have n4_ := ge_ hg HB; clear HO387 HB; revert n0_ n1_ n2_ n3_ n4_; intro HO387 HB BK390 GW390 GE390; clear hb hbox hg; obtain ⟨hcz9_0, hcz9_1, hcz9_2, hcz9_3, hcz9_4, hcz9_5, hfz9_0, hfz9_1, hfz9_2, hfz9_3, hfz9_4, hfz9_5⟩ := bc6 BK390; obtain ⟨Ao10, co10, eo10⟩ := Kd.R_slice HO387.out; subst eo10) | ((with_reducible refine gd 29 rfl ?_); refine gl 15 29 Try.func15 #[.int .i64 a0, .string a1] ?_; (with_reducible refine (impl_ReadJournal.calls k a0 a1 t391 t392 t393 t394 t395 t396 t399 t400 _ A5.out).mono ?_); rintro e w11 ⟨v397, rfl, ho0, hb⟩; refine ⟨_, rfl, ?_⟩; have n0_ := Aside0.mk (Kd.R_elder' (by (with_reducible repeat (first | apply Kd.R_alloc | apply Kd.R_drewN | apply Kd.R_drew)); exact (Kd.R_mono (Kd.R_far (p := ⟨gb390, 5, none⟩) (Kd.R_far (p := ⟨gb390, 4, none⟩) (Kd.R_far (p := ⟨gb390, 3, none⟩) (Kd.R_far (p := ⟨gb390, 2, none⟩) (Kd.R_far (p := ⟨gb390, 1, none⟩) (Kd.R_far (p := ⟨gb390, 0, none⟩) (Kd.R_types HO387.out BK390.out (by decide)) (fun _ hk => hk.2) (.int .i64 t380)) (fun _ hk => hk.2) (.int .i64 t381)) (fun _ hk => hk.2) (.int .i64 t382)) (fun _ hk => hk.2) (.int .i64 t383)) (fun _ hk => hk.2) (.int .i64 t384)) (fun _ hk => hk.2) (.slice Ao10 t385.length co10)) (fun _ h_ => h_.1))) (Kd.R_base ho0) hb); have n1_ := Aside0.mk (Kd.R_lower (Kd.R_new' ho0 (Kd.R_lt (by (with_reducible repeat (first | apply Kd.R_alloc | apply Kd.R_drewN | apply Kd.R_drew)); exact (Kd.R_mono (Kd.R_far (p := ⟨gb390, 5, none⟩) (Kd.R_far (p := ⟨gb390, 4, none⟩) (Kd.R_far (p := ⟨gb390, 3, none⟩) (Kd.R_far (p := ⟨gb390, 2, none⟩) (Kd.R_far (p := ⟨gb390, 1, none⟩) (Kd.R_far (p := ⟨gb390, 0, none⟩) (Kd.R_types HO387.out BK390.out (by decide)) (fun _ hk => hk.2) (.int .i64 t380)) (fun _ hk => hk.2) (.int .i64 t381)) (fun _ hk => hk.2) (.int .i64 t382)) (fun _ hk => hk.2) (.int .i64 t383)) (fun _ hk => hk.2) (.int .i64 t384)) (fun _ hk => hk.2) (.slice Ao10 t385.length co10)) (fun _ h_ => h_.1))))) (below_size (bt HB))); have n2_ := Aside0.mk (blk_below (g := gb390) (o := .cells #[.int .i64 t380, .int .i64 t381, .int .i64 t382, .int .i64 t383, .int .i64 t384, .slice Ao10 t385.length co10] 42 (0, 0)) (by refine bk_ ?_; refine blk_put (cs := #[.int .i64 t380, .int .i64 t381, .int .i64 t382, .int .i64 t383, .int .i64 t384, .slice none 0 0]) ?_ 5 _ rfl; refine bk_ ?_; refine blk_put (cs := #[.int .i64 t380, .int .i64 t381, .int .i64 t382, .int .i64 t383, .int .i64 0, .slice none 0 0]) ?_ 4 _ rfl; refine bk_ ?_; refine blk_put (cs := #[.int .i64 t380, .int .i64 t381, .int .i64 t382, .int .i64 0, .int .i64 0, .slice none 0 0]) ?_ 3 _ rfl; refine bk_ ?_; refine blk_put (cs := #[.int .i64 t380, .int .i64 t381, .int .i64 0, .int .i64 0, .int .i64 0, .slice none 0 0]) ?_ 2 _ rfl; refine bk_ ?_; refine blk_put (cs := #[.int .i64 t380, .int .i64 0, .int .i64 0, .int .i64 0, .int .i64 0, .slice none 0 0]) ?_ 1 _ rfl; refine bk_ ?_; refine blk_put (cs := #[.int .i64 0, .int .i64 0, .int .i64 0, .int .i64 0, .int .i64 0, .slice none 0 0]) ?_ 0 _ rfl; refine bk_ ?_; exact BK390.out) hb); have n3_ := Aside0.mk (below_step (bt HB) hb); clear HO387 BK390 HB; revert n0_ n1_ n2_ n3_; intro HO387 HO398 BK390 HB; (try clear hb); (try clear hb2); (try clear hk); (try clear hi); (try clear ho0)) | (refine bx 8 42 #[.int .i64 0, .int .i64 0, .int .i64 0, .int .i64 0, .int .i64 0, .slice none 0 0] ?_; intro gb401 hg w12 hbox hb; have n0_ := rb HO387 hb; have n1_ := rb HO398 hb; have n2_ := bb BK390 hb; have n3_ := Aside0.mk (below_step (bt HB) hb); have n4_ := Aside0.mk (hbox); have n5_ := ge_ hg HB; have n6_ := ge_ hg HB; have n7_ := nl_ hg BK390; have n8_ := nr_ hg BK390; clear HO387 HO398 BK390 HB; revert n0_ n1_ n2_ n3_ n4_ n5_ n6_ n7_ n8_; intro HO387 HO398 BK390 HB BK401 GW401 GE401 NB390_401 NB401_390; clear hb hbox hg; have hnb13 := NB401_390.out; have hnc13 := NB390_401.out; obtain ⟨hcz14_0, hcz14_1, hcz14_2, hcz14_3, hcz14_4, hcz14_5, hfz14_0, hfz14_1, hfz14_2, hfz14_3, hfz14_4, hfz14_5⟩ := bc6 BK401; obtain ⟨Ao15, co15, eo15⟩ := Kd.R_slice HO398.out; subst eo15))
  (try simp only [Act.put, zA, zB, zC])
  go_cut [46] (fun v46 wc => ∃ (kq : Nat) (x46_5 : Bool), v46 = .bool x46_5 ∧ Aside0 (laws_FnExactReadJournal.j0 kq a0 a1 t388 t389 x46_5 t380 t381 t382 t383 t384 t385 t391 t392 t393 t394 t395 t396 = some r) ∧ Aside0 (kq ≤ k) ∧ Aside0 (Kd.R k89 89 wc w.heap.size (fun k_ => some k_ ≠ ((.slice Ao15 t396.length co15) : Value).ownBlock) (.slice Ao10 t385.length co10) t385) ∧ Aside0 (Kd.R k89 89 wc w.heap.size (fun k_ => some k_ ≠ ((.slice Ao10 t385.length co10) : Value).ownBlock) (.slice Ao15 t396.length co15) t396) ∧ Aside0 (wc.heap[gb390]? = some (.cells #[.int .i64 t380, .int .i64 t381, .int .i64 t382, .int .i64 t383, .int .i64 t384, (.slice Ao10 t385.length co10)] 42 (0, 0))) ∧ Aside0 (wc.heap[gb401]? = some (.cells #[.int .i64 t391, .int .i64 t392, .int .i64 t393, .int .i64 t394, .int .i64 t395, (.slice Ao15 t396.length co15)] 42 (0, 0))) ∧ Aside0 (Below w.heap.size w wc))
  case first =>
   have H := HC6.out
   clear HC6
   replace H := Option.bind_eq_some_iff.mp H
   obtain ⟨t402, A160, H⟩ := H
   try dsimp only at H
   have A16 := Aside0.mk A160
   clear A160
   by_cases c17 : t402 = true
   ·subst c17
    rw [if_pos rfl] at H
    by_cases c18 : t399 = t388
    ·rw [if_pos c18] at H
     have c18b0 : (t399 == t388) = true := beq_iff_eq.mpr c18
     have c18b1 : (t399 != t388) = false := bne_eq_false_iff_eq.mpr c18
     clear c18
     (first | rw [c18b0] | (simp only [i64_w, i32_w]; rw [c18b0]) | skip)
     have H' := Aside0.mk H
     clear H
     have hnb19 := NB401_390.out
     have hnc19 := NB390_401.out
     obtain ⟨hcz20_0, hcz20_1, hcz20_2, hcz20_3, hcz20_4, hcz20_5, hfz20_0, hfz20_1, hfz20_2, hfz20_3, hfz20_4, hfz20_5⟩ := bc6 BK401
     obtain ⟨hcz21_0, hcz21_1, hcz21_2, hcz21_3, hcz21_4, hcz21_5, hfz21_0, hfz21_1, hfz21_2, hfz21_3, hfz21_4, hfz21_5⟩ := bc6 BK390
     go_wp2_with (first | ((with_reducible refine gd 35 rfl ?_); refine gl 16 35 Try.func16 #[.agg #[.int .i64 t391, .int .i64 t392, .int .i64 t393, .int .i64 t394, .int .i64 t395, .slice Ao15 t396.length co15], .agg #[.int .i64 t380, .int .i64 t381, .int .i64 t382, .int .i64 t383, .int .i64 t384, .slice Ao10 t385.length co10]] ?_; (with_reducible refine (laws_eqJournal.calls k t391 t392 t393 t394 t395 _ _ t396 t380 t381 t382 t383 t384 _ _ t385 true _ ?side1 ?side2 ?side3 ?side4 A16.out).mono ?_); (case side1 => refine (Kd.R_reads' (e := 89) (base := w.heap.size) (ok := fun k_ => (True ∧ some k_ ≠ (.slice Ao10 t385.length co10 : Value).ownBlock)) (n := t396.length) (c := co15) ?_).2.2; exact (by (with_reducible repeat (first | apply Kd.R_alloc | apply Kd.R_drewN | apply Kd.R_drew)); exact (Kd.R_mono (Kd.R_far (p := ⟨gb401, 5, none⟩) (Kd.R_far (p := ⟨gb401, 4, none⟩) (Kd.R_far (p := ⟨gb401, 3, none⟩) (Kd.R_far (p := ⟨gb401, 2, none⟩) (Kd.R_far (p := ⟨gb401, 1, none⟩) (Kd.R_far (p := ⟨gb401, 0, none⟩) (Kd.R_types HO398.out BK401.out (by decide)) (fun _ hk => hk.2) (.int .i64 t391)) (fun _ hk => hk.2) (.int .i64 t392)) (fun _ hk => hk.2) (.int .i64 t393)) (fun _ hk => hk.2) (.int .i64 t394)) (fun _ hk => hk.2) (.int .i64 t395)) (fun _ hk => hk.2) (.slice Ao15 t396.length co15)) (fun _ h_ => h_.1)))); (case side2 => exact (Kd.R_reads' HO398.out).2.1); (case side3 => refine (Kd.R_reads' (e := 89) (base := w.heap.size) (ok := fun k_ => (True ∧ some k_ ≠ (.slice Ao15 t396.length co15 : Value).ownBlock)) (n := t385.length) (c := co10) ?_).2.2; exact (by (with_reducible repeat (first | apply Kd.R_alloc | apply Kd.R_drewN | apply Kd.R_drew)); exact (Kd.R_mono (Kd.R_far (p := ⟨gb401, 5, none⟩) (Kd.R_far (p := ⟨gb401, 4, none⟩) (Kd.R_far (p := ⟨gb401, 3, none⟩) (Kd.R_far (p := ⟨gb401, 2, none⟩) (Kd.R_far (p := ⟨gb401, 1, none⟩) (Kd.R_far (p := ⟨gb401, 0, none⟩) (Kd.R_types HO387.out BK401.out (by decide)) (fun _ hk => hk.2) (.int .i64 t391)) (fun _ hk => hk.2) (.int .i64 t392)) (fun _ hk => hk.2) (.int .i64 t393)) (fun _ hk => hk.2) (.int .i64 t394)) (fun _ hk => hk.2) (.int .i64 t395)) (fun _ hk => hk.2) (.slice Ao15 t396.length co15)) (fun _ h_ => h_.1)))); (case side4 => exact (Kd.R_reads' HO387.out).2.1); rintro e w22 ⟨rfl, hb⟩; refine ⟨_, rfl, ?_⟩; have n0_ := Aside0.mk (Kd.R_below (by (with_reducible repeat (first | apply Kd.R_alloc | apply Kd.R_drewN | apply Kd.R_drew)); exact (Kd.R_mono (Kd.R_far (p := ⟨gb401, 5, none⟩) (Kd.R_far (p := ⟨gb401, 4, none⟩) (Kd.R_far (p := ⟨gb401, 3, none⟩) (Kd.R_far (p := ⟨gb401, 2, none⟩) (Kd.R_far (p := ⟨gb401, 1, none⟩) (Kd.R_far (p := ⟨gb401, 0, none⟩) (Kd.R_types HO387.out BK401.out (by decide)) (fun _ hk => hk.2) (.int .i64 t391)) (fun _ hk => hk.2) (.int .i64 t392)) (fun _ hk => hk.2) (.int .i64 t393)) (fun _ hk => hk.2) (.int .i64 t394)) (fun _ hk => hk.2) (.int .i64 t395)) (fun _ hk => hk.2) (.slice Ao15 t396.length co15)) (fun _ h_ => h_.1))) hb); have n1_ := Aside0.mk (Kd.R_below (by (with_reducible repeat (first | apply Kd.R_alloc | apply Kd.R_drewN | apply Kd.R_drew)); exact (Kd.R_mono (Kd.R_far (p := ⟨gb401, 5, none⟩) (Kd.R_far (p := ⟨gb401, 4, none⟩) (Kd.R_far (p := ⟨gb401, 3, none⟩) (Kd.R_far (p := ⟨gb401, 2, none⟩) (Kd.R_far (p := ⟨gb401, 1, none⟩) (Kd.R_far (p := ⟨gb401, 0, none⟩) (Kd.R_types HO398.out BK401.out (by decide)) (fun _ hk => hk.2) (.int .i64 t391)) (fun _ hk => hk.2) (.int .i64 t392)) (fun _ hk => hk.2) (.int .i64 t393)) (fun _ hk => hk.2) (.int .i64 t394)) (fun _ hk => hk.2) (.int .i64 t395)) (fun _ hk => hk.2) (.slice Ao15 t396.length co15)) (fun _ h_ => h_.1))) hb); have n2_ := Aside0.mk (blk_below (g := gb390) (o := .cells #[.int .i64 t380, .int .i64 t381, .int .i64 t382, .int .i64 t383, .int .i64 t384, .slice Ao10 t385.length co10] 42 (0, 0)) (by refine bk_ ?_; refine blk_far ?_ NB390_401.out _; refine bk_ ?_; refine blk_far ?_ NB390_401.out _; refine bk_ ?_; refine blk_far ?_ NB390_401.out _; refine bk_ ?_; refine blk_far ?_ NB390_401.out _; refine bk_ ?_; refine blk_far ?_ NB390_401.out _; refine bk_ ?_; refine blk_far ?_ NB390_401.out _; refine bk_ ?_; exact BK390.out) hb); have n3_ := Aside0.mk (blk_below (g := gb401) (o := .cells #[.int .i64 t391, .int .i64 t392, .int .i64 t393, .int .i64 t394, .int .i64 t395, .slice Ao15 t396.length co15] 42 (0, 0)) (by refine bk_ ?_; refine blk_put (cs := #[.int .i64 t391, .int .i64 t392, .int .i64 t393, .int .i64 t394, .int .i64 t395, .slice none 0 0]) ?_ 5 _ rfl; refine bk_ ?_; refine blk_put (cs := #[.int .i64 t391, .int .i64 t392, .int .i64 t393, .int .i64 t394, .int .i64 0, .slice none 0 0]) ?_ 4 _ rfl; refine bk_ ?_; refine blk_put (cs := #[.int .i64 t391, .int .i64 t392, .int .i64 t393, .int .i64 0, .int .i64 0, .slice none 0 0]) ?_ 3 _ rfl; refine bk_ ?_; refine blk_put (cs := #[.int .i64 t391, .int .i64 t392, .int .i64 0, .int .i64 0, .int .i64 0, .slice none 0 0]) ?_ 2 _ rfl; refine bk_ ?_; refine blk_put (cs := #[.int .i64 t391, .int .i64 0, .int .i64 0, .int .i64 0, .int .i64 0, .slice none 0 0]) ?_ 1 _ rfl; refine bk_ ?_; refine blk_put (cs := #[.int .i64 0, .int .i64 0, .int .i64 0, .int .i64 0, .int .i64 0, .slice none 0 0]) ?_ 0 _ rfl; refine bk_ ?_; exact BK401.out) hb); have n4_ := Aside0.mk (below_step (bt HB) hb); clear HO387 HO398 BK390 BK401 HB; revert n0_ n1_ n2_ n3_ n4_; intro HO387 HO398 BK390 BK401 HB; (try clear hb); (try clear hb2); (try clear hk); (try clear hi)))
     go_meet
     case rel => exact ⟨_, ((t400 != t389)), fr, H', ⟨by first | omega | exact Nat.le_refl _⟩, ⟨by (with_reducible repeat (first | apply Kd.R_alloc | apply Kd.R_drewN | apply Kd.R_drew)); exact Kd.R_mono HO387.out (fun _ hk => hk.2)⟩, ⟨by (with_reducible repeat (first | apply Kd.R_alloc | apply Kd.R_drewN | apply Kd.R_drew)); exact Kd.R_mono HO398.out (fun _ hk => hk.2)⟩, ⟨by refine bk_ ?_; exact BK390.out⟩, ⟨by refine bk_ ?_; exact BK401.out⟩, ⟨bt HB⟩⟩
    ·rw [if_neg c18] at H
     have c18b0 : (t399 == t388) = false := beq_eq_false_iff_ne.mpr c18
     have c18b1 : (t399 != t388) = true := bne_iff_ne.mpr c18
     (first | rw [c18b0] | (simp only [i64_w, i32_w]; rw [c18b0]) | skip)
     have H' := Aside0.mk H
     clear H
     have hnb23 := NB401_390.out
     have hnc23 := NB390_401.out
     obtain ⟨hcz24_0, hcz24_1, hcz24_2, hcz24_3, hcz24_4, hcz24_5, hfz24_0, hfz24_1, hfz24_2, hfz24_3, hfz24_4, hfz24_5⟩ := bc6 BK401
     obtain ⟨hcz25_0, hcz25_1, hcz25_2, hcz25_3, hcz25_4, hcz25_5, hfz25_0, hfz25_1, hfz25_2, hfz25_3, hfz25_4, hfz25_5⟩ := bc6 BK390
     go_wp2_with (first | ((with_reducible refine gd 35 rfl ?_); refine gl 16 35 Try.func16 #[.agg #[.int .i64 t391, .int .i64 t392, .int .i64 t393, .int .i64 t394, .int .i64 t395, .slice Ao15 t396.length co15], .agg #[.int .i64 t380, .int .i64 t381, .int .i64 t382, .int .i64 t383, .int .i64 t384, .slice Ao10 t385.length co10]] ?_; (with_reducible refine (laws_eqJournal.calls k t391 t392 t393 t394 t395 _ _ t396 t380 t381 t382 t383 t384 _ _ t385 true _ ?side1 ?side2 ?side3 ?side4 A16.out).mono ?_); (case side1 => refine (Kd.R_reads' (e := 89) (base := w.heap.size) (ok := fun k_ => (True ∧ some k_ ≠ (.slice Ao10 t385.length co10 : Value).ownBlock)) (n := t396.length) (c := co15) ?_).2.2; exact (by (with_reducible repeat (first | apply Kd.R_alloc | apply Kd.R_drewN | apply Kd.R_drew)); exact (Kd.R_mono (Kd.R_far (p := ⟨gb401, 5, none⟩) (Kd.R_far (p := ⟨gb401, 4, none⟩) (Kd.R_far (p := ⟨gb401, 3, none⟩) (Kd.R_far (p := ⟨gb401, 2, none⟩) (Kd.R_far (p := ⟨gb401, 1, none⟩) (Kd.R_far (p := ⟨gb401, 0, none⟩) (Kd.R_types HO398.out BK401.out (by decide)) (fun _ hk => hk.2) (.int .i64 t391)) (fun _ hk => hk.2) (.int .i64 t392)) (fun _ hk => hk.2) (.int .i64 t393)) (fun _ hk => hk.2) (.int .i64 t394)) (fun _ hk => hk.2) (.int .i64 t395)) (fun _ hk => hk.2) (.slice Ao15 t396.length co15)) (fun _ h_ => h_.1)))); (case side2 => exact (Kd.R_reads' HO398.out).2.1); (case side3 => refine (Kd.R_reads' (e := 89) (base := w.heap.size) (ok := fun k_ => (True ∧ some k_ ≠ (.slice Ao15 t396.length co15 : Value).ownBlock)) (n := t385.length) (c := co10) ?_).2.2; exact (by (with_reducible repeat (first | apply Kd.R_alloc | apply Kd.R_drewN | apply Kd.R_drew)); exact (Kd.R_mono (Kd.R_far (p := ⟨gb401, 5, none⟩) (Kd.R_far (p := ⟨gb401, 4, none⟩) (Kd.R_far (p := ⟨gb401, 3, none⟩) (Kd.R_far (p := ⟨gb401, 2, none⟩) (Kd.R_far (p := ⟨gb401, 1, none⟩) (Kd.R_far (p := ⟨gb401, 0, none⟩) (Kd.R_types HO387.out BK401.out (by decide)) (fun _ hk => hk.2) (.int .i64 t391)) (fun _ hk => hk.2) (.int .i64 t392)) (fun _ hk => hk.2) (.int .i64 t393)) (fun _ hk => hk.2) (.int .i64 t394)) (fun _ hk => hk.2) (.int .i64 t395)) (fun _ hk => hk.2) (.slice Ao15 t396.length co15)) (fun _ h_ => h_.1)))); (case side4 => exact (Kd.R_reads' HO387.out).2.1); rintro e w26 ⟨rfl, hb⟩; refine ⟨_, rfl, ?_⟩; have n0_ := Aside0.mk (Kd.R_below (by (with_reducible repeat (first | apply Kd.R_alloc | apply Kd.R_drewN | apply Kd.R_drew)); exact (Kd.R_mono (Kd.R_far (p := ⟨gb401, 5, none⟩) (Kd.R_far (p := ⟨gb401, 4, none⟩) (Kd.R_far (p := ⟨gb401, 3, none⟩) (Kd.R_far (p := ⟨gb401, 2, none⟩) (Kd.R_far (p := ⟨gb401, 1, none⟩) (Kd.R_far (p := ⟨gb401, 0, none⟩) (Kd.R_types HO387.out BK401.out (by decide)) (fun _ hk => hk.2) (.int .i64 t391)) (fun _ hk => hk.2) (.int .i64 t392)) (fun _ hk => hk.2) (.int .i64 t393)) (fun _ hk => hk.2) (.int .i64 t394)) (fun _ hk => hk.2) (.int .i64 t395)) (fun _ hk => hk.2) (.slice Ao15 t396.length co15)) (fun _ h_ => h_.1))) hb); have n1_ := Aside0.mk (Kd.R_below (by (with_reducible repeat (first | apply Kd.R_alloc | apply Kd.R_drewN | apply Kd.R_drew)); exact (Kd.R_mono (Kd.R_far (p := ⟨gb401, 5, none⟩) (Kd.R_far (p := ⟨gb401, 4, none⟩) (Kd.R_far (p := ⟨gb401, 3, none⟩) (Kd.R_far (p := ⟨gb401, 2, none⟩) (Kd.R_far (p := ⟨gb401, 1, none⟩) (Kd.R_far (p := ⟨gb401, 0, none⟩) (Kd.R_types HO398.out BK401.out (by decide)) (fun _ hk => hk.2) (.int .i64 t391)) (fun _ hk => hk.2) (.int .i64 t392)) (fun _ hk => hk.2) (.int .i64 t393)) (fun _ hk => hk.2) (.int .i64 t394)) (fun _ hk => hk.2) (.int .i64 t395)) (fun _ hk => hk.2) (.slice Ao15 t396.length co15)) (fun _ h_ => h_.1))) hb); have n2_ := Aside0.mk (blk_below (g := gb390) (o := .cells #[.int .i64 t380, .int .i64 t381, .int .i64 t382, .int .i64 t383, .int .i64 t384, .slice Ao10 t385.length co10] 42 (0, 0)) (by refine bk_ ?_; refine blk_far ?_ NB390_401.out _; refine bk_ ?_; refine blk_far ?_ NB390_401.out _; refine bk_ ?_; refine blk_far ?_ NB390_401.out _; refine bk_ ?_; refine blk_far ?_ NB390_401.out _; refine bk_ ?_; refine blk_far ?_ NB390_401.out _; refine bk_ ?_; refine blk_far ?_ NB390_401.out _; refine bk_ ?_; exact BK390.out) hb); have n3_ := Aside0.mk (blk_below (g := gb401) (o := .cells #[.int .i64 t391, .int .i64 t392, .int .i64 t393, .int .i64 t394, .int .i64 t395, .slice Ao15 t396.length co15] 42 (0, 0)) (by refine bk_ ?_; refine blk_put (cs := #[.int .i64 t391, .int .i64 t392, .int .i64 t393, .int .i64 t394, .int .i64 t395, .slice none 0 0]) ?_ 5 _ rfl; refine bk_ ?_; refine blk_put (cs := #[.int .i64 t391, .int .i64 t392, .int .i64 t393, .int .i64 t394, .int .i64 0, .slice none 0 0]) ?_ 4 _ rfl; refine bk_ ?_; refine blk_put (cs := #[.int .i64 t391, .int .i64 t392, .int .i64 t393, .int .i64 0, .int .i64 0, .slice none 0 0]) ?_ 3 _ rfl; refine bk_ ?_; refine blk_put (cs := #[.int .i64 t391, .int .i64 t392, .int .i64 0, .int .i64 0, .int .i64 0, .slice none 0 0]) ?_ 2 _ rfl; refine bk_ ?_; refine blk_put (cs := #[.int .i64 t391, .int .i64 0, .int .i64 0, .int .i64 0, .int .i64 0, .slice none 0 0]) ?_ 1 _ rfl; refine bk_ ?_; refine blk_put (cs := #[.int .i64 0, .int .i64 0, .int .i64 0, .int .i64 0, .int .i64 0, .slice none 0 0]) ?_ 0 _ rfl; refine bk_ ?_; exact BK401.out) hb); have n4_ := Aside0.mk (below_step (bt HB) hb); clear HO387 HO398 BK390 BK401 HB; revert n0_ n1_ n2_ n3_ n4_; intro HO387 HO398 BK390 BK401 HB; (try clear hb); (try clear hb2); (try clear hk); (try clear hi)))
     go_meet
     case rel => exact ⟨_, (true), fr, H', ⟨by first | omega | exact Nat.le_refl _⟩, ⟨by (with_reducible repeat (first | apply Kd.R_alloc | apply Kd.R_drewN | apply Kd.R_drew)); exact Kd.R_mono HO387.out (fun _ hk => hk.2)⟩, ⟨by (with_reducible repeat (first | apply Kd.R_alloc | apply Kd.R_drewN | apply Kd.R_drew)); exact Kd.R_mono HO398.out (fun _ hk => hk.2)⟩, ⟨by refine bk_ ?_; exact BK390.out⟩, ⟨by refine bk_ ?_; exact BK401.out⟩, ⟨bt HB⟩⟩
   ·replace c17 := Bool.eq_false_iff.mpr c17
    subst c17
    rw [if_neg nf] at H
    have H' := Aside0.mk H
    clear H
    have hnb27 := NB401_390.out
    have hnc27 := NB390_401.out
    obtain ⟨hcz28_0, hcz28_1, hcz28_2, hcz28_3, hcz28_4, hcz28_5, hfz28_0, hfz28_1, hfz28_2, hfz28_3, hfz28_4, hfz28_5⟩ := bc6 BK401
    obtain ⟨hcz29_0, hcz29_1, hcz29_2, hcz29_3, hcz29_4, hcz29_5, hfz29_0, hfz29_1, hfz29_2, hfz29_3, hfz29_4, hfz29_5⟩ := bc6 BK390
    go_wp2_with (first | ((with_reducible refine gd 35 rfl ?_); refine gl 16 35 Try.func16 #[.agg #[.int .i64 t391, .int .i64 t392, .int .i64 t393, .int .i64 t394, .int .i64 t395, .slice Ao15 t396.length co15], .agg #[.int .i64 t380, .int .i64 t381, .int .i64 t382, .int .i64 t383, .int .i64 t384, .slice Ao10 t385.length co10]] ?_; (with_reducible refine (laws_eqJournal.calls k t391 t392 t393 t394 t395 _ _ t396 t380 t381 t382 t383 t384 _ _ t385 false _ ?side1 ?side2 ?side3 ?side4 A16.out).mono ?_); (case side1 => refine (Kd.R_reads' (e := 89) (base := w.heap.size) (ok := fun k_ => (True ∧ some k_ ≠ (.slice Ao10 t385.length co10 : Value).ownBlock)) (n := t396.length) (c := co15) ?_).2.2; exact (by (with_reducible repeat (first | apply Kd.R_alloc | apply Kd.R_drewN | apply Kd.R_drew)); exact (Kd.R_mono (Kd.R_far (p := ⟨gb401, 5, none⟩) (Kd.R_far (p := ⟨gb401, 4, none⟩) (Kd.R_far (p := ⟨gb401, 3, none⟩) (Kd.R_far (p := ⟨gb401, 2, none⟩) (Kd.R_far (p := ⟨gb401, 1, none⟩) (Kd.R_far (p := ⟨gb401, 0, none⟩) (Kd.R_types HO398.out BK401.out (by decide)) (fun _ hk => hk.2) (.int .i64 t391)) (fun _ hk => hk.2) (.int .i64 t392)) (fun _ hk => hk.2) (.int .i64 t393)) (fun _ hk => hk.2) (.int .i64 t394)) (fun _ hk => hk.2) (.int .i64 t395)) (fun _ hk => hk.2) (.slice Ao15 t396.length co15)) (fun _ h_ => h_.1)))); (case side2 => exact (Kd.R_reads' HO398.out).2.1); (case side3 => refine (Kd.R_reads' (e := 89) (base := w.heap.size) (ok := fun k_ => (True ∧ some k_ ≠ (.slice Ao15 t396.length co15 : Value).ownBlock)) (n := t385.length) (c := co10) ?_).2.2; exact (by (with_reducible repeat (first | apply Kd.R_alloc | apply Kd.R_drewN | apply Kd.R_drew)); exact (Kd.R_mono (Kd.R_far (p := ⟨gb401, 5, none⟩) (Kd.R_far (p := ⟨gb401, 4, none⟩) (Kd.R_far (p := ⟨gb401, 3, none⟩) (Kd.R_far (p := ⟨gb401, 2, none⟩) (Kd.R_far (p := ⟨gb401, 1, none⟩) (Kd.R_far (p := ⟨gb401, 0, none⟩) (Kd.R_types HO387.out BK401.out (by decide)) (fun _ hk => hk.2) (.int .i64 t391)) (fun _ hk => hk.2) (.int .i64 t392)) (fun _ hk => hk.2) (.int .i64 t393)) (fun _ hk => hk.2) (.int .i64 t394)) (fun _ hk => hk.2) (.int .i64 t395)) (fun _ hk => hk.2) (.slice Ao15 t396.length co15)) (fun _ h_ => h_.1)))); (case side4 => exact (Kd.R_reads' HO387.out).2.1); rintro e w30 ⟨rfl, hb⟩; refine ⟨_, rfl, ?_⟩; have n0_ := Aside0.mk (Kd.R_below (by (with_reducible repeat (first | apply Kd.R_alloc | apply Kd.R_drewN | apply Kd.R_drew)); exact (Kd.R_mono (Kd.R_far (p := ⟨gb401, 5, none⟩) (Kd.R_far (p := ⟨gb401, 4, none⟩) (Kd.R_far (p := ⟨gb401, 3, none⟩) (Kd.R_far (p := ⟨gb401, 2, none⟩) (Kd.R_far (p := ⟨gb401, 1, none⟩) (Kd.R_far (p := ⟨gb401, 0, none⟩) (Kd.R_types HO387.out BK401.out (by decide)) (fun _ hk => hk.2) (.int .i64 t391)) (fun _ hk => hk.2) (.int .i64 t392)) (fun _ hk => hk.2) (.int .i64 t393)) (fun _ hk => hk.2) (.int .i64 t394)) (fun _ hk => hk.2) (.int .i64 t395)) (fun _ hk => hk.2) (.slice Ao15 t396.length co15)) (fun _ h_ => h_.1))) hb); have n1_ := Aside0.mk (Kd.R_below (by (with_reducible repeat (first | apply Kd.R_alloc | apply Kd.R_drewN | apply Kd.R_drew)); exact (Kd.R_mono (Kd.R_far (p := ⟨gb401, 5, none⟩) (Kd.R_far (p := ⟨gb401, 4, none⟩) (Kd.R_far (p := ⟨gb401, 3, none⟩) (Kd.R_far (p := ⟨gb401, 2, none⟩) (Kd.R_far (p := ⟨gb401, 1, none⟩) (Kd.R_far (p := ⟨gb401, 0, none⟩) (Kd.R_types HO398.out BK401.out (by decide)) (fun _ hk => hk.2) (.int .i64 t391)) (fun _ hk => hk.2) (.int .i64 t392)) (fun _ hk => hk.2) (.int .i64 t393)) (fun _ hk => hk.2) (.int .i64 t394)) (fun _ hk => hk.2) (.int .i64 t395)) (fun _ hk => hk.2) (.slice Ao15 t396.length co15)) (fun _ h_ => h_.1))) hb); have n2_ := Aside0.mk (blk_below (g := gb390) (o := .cells #[.int .i64 t380, .int .i64 t381, .int .i64 t382, .int .i64 t383, .int .i64 t384, .slice Ao10 t385.length co10] 42 (0, 0)) (by refine bk_ ?_; refine blk_far ?_ NB390_401.out _; refine bk_ ?_; refine blk_far ?_ NB390_401.out _; refine bk_ ?_; refine blk_far ?_ NB390_401.out _; refine bk_ ?_; refine blk_far ?_ NB390_401.out _; refine bk_ ?_; refine blk_far ?_ NB390_401.out _; refine bk_ ?_; refine blk_far ?_ NB390_401.out _; refine bk_ ?_; exact BK390.out) hb); have n3_ := Aside0.mk (blk_below (g := gb401) (o := .cells #[.int .i64 t391, .int .i64 t392, .int .i64 t393, .int .i64 t394, .int .i64 t395, .slice Ao15 t396.length co15] 42 (0, 0)) (by refine bk_ ?_; refine blk_put (cs := #[.int .i64 t391, .int .i64 t392, .int .i64 t393, .int .i64 t394, .int .i64 t395, .slice none 0 0]) ?_ 5 _ rfl; refine bk_ ?_; refine blk_put (cs := #[.int .i64 t391, .int .i64 t392, .int .i64 t393, .int .i64 t394, .int .i64 0, .slice none 0 0]) ?_ 4 _ rfl; refine bk_ ?_; refine blk_put (cs := #[.int .i64 t391, .int .i64 t392, .int .i64 t393, .int .i64 0, .int .i64 0, .slice none 0 0]) ?_ 3 _ rfl; refine bk_ ?_; refine blk_put (cs := #[.int .i64 t391, .int .i64 t392, .int .i64 0, .int .i64 0, .int .i64 0, .slice none 0 0]) ?_ 2 _ rfl; refine bk_ ?_; refine blk_put (cs := #[.int .i64 t391, .int .i64 0, .int .i64 0, .int .i64 0, .int .i64 0, .slice none 0 0]) ?_ 1 _ rfl; refine bk_ ?_; refine blk_put (cs := #[.int .i64 0, .int .i64 0, .int .i64 0, .int .i64 0, .int .i64 0, .slice none 0 0]) ?_ 0 _ rfl; refine bk_ ?_; exact BK401.out) hb); have n4_ := Aside0.mk (below_step (bt HB) hb); clear HO387 HO398 BK390 BK401 HB; revert n0_ n1_ n2_ n3_ n4_; intro HO387 HO398 BK390 BK401 HB; (try clear hb); (try clear hb2); (try clear hk); (try clear hi)))
    go_meet
    case rel => exact ⟨_, (true), fr, H', ⟨by first | omega | exact Nat.le_refl _⟩, ⟨by (with_reducible repeat (first | apply Kd.R_alloc | apply Kd.R_drewN | apply Kd.R_drew)); exact Kd.R_mono HO387.out (fun _ hk => hk.2)⟩, ⟨by (with_reducible repeat (first | apply Kd.R_alloc | apply Kd.R_drewN | apply Kd.R_drew)); exact Kd.R_mono HO398.out (fun _ hk => hk.2)⟩, ⟨by refine bk_ ?_; exact BK390.out⟩, ⟨by refine bk_ ?_; exact BK401.out⟩, ⟨bt HB⟩⟩
  case rest =>
   clear HC6
   try clear c1
   try clear c2
   try clear p2
   try clear c3
   try clear c3b0
   try clear c3b1
   try clear c4
   try clear c13
   try clear c14
   try clear c15
   try clear c16
   try clear c17
   try clear c18
   try clear c18b0
   try clear c18b1
   try clear c19
   try clear c23
   try clear c27
   try clear hcz14_0
   try clear hcz14_1
   try clear hcz14_2
   try clear hcz14_3
   try clear hcz14_4
   try clear hcz14_5
   try clear hcz20_0
   try clear hcz20_1
   try clear hcz20_2
   try clear hcz20_3
   try clear hcz20_4
   try clear hcz20_5
   try clear hcz21_0
   try clear hcz21_1
   try clear hcz21_2
   try clear hcz21_3
   try clear hcz21_4
   try clear hcz21_5
   try clear hcz24_0
   try clear hcz24_1
   try clear hcz24_2
   try clear hcz24_3
   try clear hcz24_4
   try clear hcz24_5
   try clear hcz25_0
   try clear hcz25_1
   try clear hcz25_2
   try clear hcz25_3
   try clear hcz25_4
   try clear hcz25_5
   try clear hcz28_0
   try clear hcz28_1
   try clear hcz28_2
   try clear hcz28_3
   try clear hcz28_4
   try clear hcz28_5
   try clear hcz29_0
   try clear hcz29_1
   try clear hcz29_2
   try clear hcz29_3
   try clear hcz29_4
   try clear hcz29_5
   try clear hcz9_0
   try clear hcz9_1
   try clear hcz9_2
   try clear hcz9_3
   try clear hcz9_4
   try clear hcz9_5
   try clear hfz14_0
   try clear hfz14_1
   try clear hfz14_2
   try clear hfz14_3
   try clear hfz14_4
   try clear hfz14_5
   try clear hfz20_0
   try clear hfz20_1
   try clear hfz20_2
   try clear hfz20_3
   try clear hfz20_4
   try clear hfz20_5
   try clear hfz21_0
   try clear hfz21_1
   try clear hfz21_2
   try clear hfz21_3
   try clear hfz21_4
   try clear hfz21_5
   try clear hfz24_0
   try clear hfz24_1
   try clear hfz24_2
   try clear hfz24_3
   try clear hfz24_4
   try clear hfz24_5
   try clear hfz25_0
   try clear hfz25_1
   try clear hfz25_2
   try clear hfz25_3
   try clear hfz25_4
   try clear hfz25_5
   try clear hfz28_0
   try clear hfz28_1
   try clear hfz28_2
   try clear hfz28_3
   try clear hfz28_4
   try clear hfz28_5
   try clear hfz29_0
   try clear hfz29_1
   try clear hfz29_2
   try clear hfz29_3
   try clear hfz29_4
   try clear hfz29_5
   try clear hfz9_0
   try clear hfz9_1
   try clear hfz9_2
   try clear hfz9_3
   try clear hfz9_4
   try clear hfz9_5
   obtain ⟨kq, x46_5, rfl, HA, HJ5, HO_391005, HO_402005, BK390, BK401, HB⟩ := hcut
   cases kq with
   | zero => exact absurd HA.out (by simp [laws_FnExactReadJournal.j0])
   | succ kj5 =>
    have H := HA.out
    clear HA
    simp only [laws_FnExactReadJournal.j0] at H
    by_cases c31 : x46_5 = true
    ·subst c31
     rw [if_pos rfl] at H
     obtain rfl := Option.some.inj H
     go_wp2
     go_ret
     exact ⟨by first | rfl | (simp [errW_none, errW_some] <;> rfl) | (simp [*, errW_none, errW_some] <;> rfl), bt HB⟩
    ·replace c31 := Bool.eq_false_iff.mpr c31
     subst c31
     rw [if_neg nf] at H
     replace H := Option.bind_eq_some_iff.mp H
     obtain ⟨⟨t403, t404⟩, A320, H⟩ := H
     try dsimp only at H
     have A32 := Aside0.mk A320
     clear A320
     replace H := Option.bind_eq_some_iff.mp H
     obtain ⟨t405, A330, H⟩ := H
     try dsimp only at H
     have A33 := Aside0.mk A330
     clear A330
     by_cases c34 : t405 < 0
     ·rw [if_pos c34] at H
      have c34b0 : decide (t405 < 0) = true := decide_eq_true c34
      clear c34
      obtain rfl := Option.some.inj H
      have hnb35 := NB401_390.out
      have hnc35 := NB390_401.out
      obtain ⟨hcz36_0, hcz36_1, hcz36_2, hcz36_3, hcz36_4, hcz36_5, hfz36_0, hfz36_1, hfz36_2, hfz36_3, hfz36_4, hfz36_5⟩ := bc6 BK401
      go_wp2_with (first | ((with_reducible refine gd 49 rfl ?_); refine gl 17 49 Try.func17 #[.agg #[.int .i64 t391, .int .i64 t392, .int .i64 t393, .int .i64 t394, .int .i64 t395, .slice Ao15 t396.length co15], .int .i64 1] ?_; (with_reducible refine (laws_markJournal.calls kj5 t391 t392 t393 t394 t395 (fun k_ => some k_ = (.slice Ao15 t396.length co15 : Value).ownBlock) (.slice Ao15 t396.length co15) t396 1 t403 t404 w _ ?side1 ?side2 A32.out).mono ?_); (case side1 => repeat (first | (with_reducible first | exact HB.out | apply below_alloc | apply pw_below_drewN | apply below_drew1 | refine below_set ?_ GE390.out | refine below_set ?_ GE401.out) | exact HB.out)); (case side2 => exact Kd.R_tight rfl HO_402005.out); rintro e w37 ⟨rfl, hy0, hb, hkp⟩; refine ⟨_, rfl, ?_⟩; have n0_ := Aside0.mk (Kd.R_mono (ok' := fun k_ => some k_ ≠ (.slice Ao15 t396.length co15 : Value).ownBlock) (Kd.R_keptB (HO_391005.out) hkp (fun k_ hk_ hs_ => (hk_) hs_)) (fun k_ hk_ => hk_.1)); have n1_ := Aside0.mk (Kd.R_reok rfl hy0 (fun k_ e_ => HO_402005.out.1 k_ e_)); have n2_ := Aside0.mk (blk_kept (bk BK390) hkp (fun hs_ => (fun e_ => (Kd.R_ne HO_402005.out BK390.out (by decide)) e_) hs_)); have n3_ := Aside0.mk (blk_kept (bk BK401) hkp (fun hs_ => (fun e_ => (Kd.R_ne HO_402005.out BK401.out (by decide)) e_) hs_)); have n4_ := Aside0.mk (hb); clear HO_391005 HO_402005 BK390 BK401 HB; revert n0_ n1_ n2_ n3_ n4_; intro HO_391005 HO_402005 BK390 BK401 HB; (try clear hb); (try clear hkp); (try clear hy0); obtain ⟨hcz38_0, hcz38_1, hcz38_2, hcz38_3, hcz38_4, hcz38_5, hfz38_0, hfz38_1, hfz38_2, hfz38_3, hfz38_4, hfz38_5⟩ := bc6 BK401) | ((with_reducible refine gate_callee (f := 18) rfl ?_); refine goesL_ (some 52) rfl rfl Try.func18 (by kernel_rfl) rfl #[.agg #[.int .i64 t391, .int .i64 t392, .int .i64 t393, .int .i64 t394, .int .i64 t395, .slice Ao15 t404.length co15], .int .i64 1] rfl (by (try simp only [List.map_toArray, List.map_cons, List.map_nil]); first | done | (rw [show t404.length = t396.length from (Kd.R_reads' HO_402005.out).1.symm] <;> rfl) | rfl | (simp only [List.length_drop, List.length_take]; rfl)) ?_; (with_reducible refine (laws_heldJournal.calls kj5 t391 t392 t393 t394 t395 _ _ t404 1 t405 _ ?side1 ?side2 A33.out).mono ?_); (case side1 => repeat (first | exact (Kd.R_reads' HO_402005.out).2.2 | (with_reducible refine Kd.C_alloc ?_ _) | (with_reducible refine Kd.C_drewN ?_ _) | (with_reducible refine Kd.C_drew ?_))); (case side2 => rw [show t404.length = t396.length from (Kd.R_reads' HO_402005.out).1.symm]; exact (Kd.R_reads' HO_402005.out).2.1); rintro e w39 ⟨rfl, hb⟩; refine ⟨_, rfl, ?_⟩; have n0_ := rb HO_391005 hb; have n1_ := rb HO_402005 hb; have n2_ := bb BK390 hb; have n3_ := bb BK401 hb; have n4_ := Aside0.mk (below_step (bt HB) hb); clear HO_391005 HO_402005 BK390 BK401 HB; revert n0_ n1_ n2_ n3_ n4_; intro HO_391005 HO_402005 BK390 BK401 HB; (try clear hb); (try clear hb2); (try clear hk); (try clear hi)))
      go_ret
      exact ⟨by first | rfl | (simp [errW_none, errW_some] <;> rfl) | (simp [*, errW_none, errW_some] <;> rfl), bt HB⟩
     ·rw [if_neg c34] at H
      have c34b0 : decide (t405 < 0) = false := decide_eq_false c34
      clear c34
      by_cases c40 : t405 = t403
      ·rw [if_pos c40] at H
       have c40b0 : (t405 == t403) = true := beq_iff_eq.mpr c40
       have c40b1 : (t405 != t403) = false := bne_eq_false_iff_eq.mpr c40
       clear c40
       replace H := Option.bind_eq_some_iff.mp H
       obtain ⟨⟨t406, t407, t408, t409, t410, t411, t414, t415⟩, A410, H⟩ := H
       try dsimp only at H
       have A41 := Aside0.mk A410
       clear A410
       have HC42 := Aside0.mk H
       clear H
       have hnb43 := NB401_390.out
       have hnc43 := NB390_401.out
       obtain ⟨hcz44_0, hcz44_1, hcz44_2, hcz44_3, hcz44_4, hcz44_5, hfz44_0, hfz44_1, hfz44_2, hfz44_3, hfz44_4, hfz44_5⟩ := bc6 BK401
       go_upto_region 16 with (first | ((with_reducible refine gd 49 rfl ?_); refine gl 17 49 Try.func17 #[.agg #[.int .i64 t391, .int .i64 t392, .int .i64 t393, .int .i64 t394, .int .i64 t395, .slice Ao15 t396.length co15], .int .i64 1] ?_; (with_reducible refine (laws_markJournal.calls kj5 t391 t392 t393 t394 t395 (fun k_ => some k_ = (.slice Ao15 t396.length co15 : Value).ownBlock) (.slice Ao15 t396.length co15) t396 1 t403 t404 w _ ?side1 ?side2 A32.out).mono ?_); (case side1 => repeat (first | (with_reducible first | exact HB.out | apply below_alloc | apply pw_below_drewN | apply below_drew1 | refine below_set ?_ GE390.out | refine below_set ?_ GE401.out) | exact HB.out)); (case side2 => exact Kd.R_tight rfl HO_402005.out); rintro e w45 ⟨rfl, hy0, hb, hkp⟩; refine ⟨_, rfl, ?_⟩; have n0_ := Aside0.mk (Kd.R_mono (ok' := fun k_ => some k_ ≠ (.slice Ao15 t396.length co15 : Value).ownBlock) (Kd.R_keptB (HO_391005.out) hkp (fun k_ hk_ hs_ => (hk_) hs_)) (fun k_ hk_ => hk_.1)); have n1_ := Aside0.mk (Kd.R_reok rfl hy0 (fun k_ e_ => HO_402005.out.1 k_ e_)); have n2_ := Aside0.mk (blk_kept (bk BK390) hkp (fun hs_ => (fun e_ => (Kd.R_ne HO_402005.out BK390.out (by decide)) e_) hs_)); have n3_ := Aside0.mk (blk_kept (bk BK401) hkp (fun hs_ => (fun e_ => (Kd.R_ne HO_402005.out BK401.out (by decide)) e_) hs_)); have n4_ := Aside0.mk (hb); clear HO_391005 HO_402005 BK390 BK401 HB; revert n0_ n1_ n2_ n3_ n4_; intro HO_391005 HO_402005 BK390 BK401 HB; (try clear hb); (try clear hkp); (try clear hy0); obtain ⟨hcz46_0, hcz46_1, hcz46_2, hcz46_3, hcz46_4, hcz46_5, hfz46_0, hfz46_1, hfz46_2, hfz46_3, hfz46_4, hfz46_5⟩ := bc6 BK401) | ((with_reducible refine gate_callee (f := 18) rfl ?_); refine goesL_ (some 52) rfl rfl Try.func18 (by kernel_rfl) rfl #[.agg #[.int .i64 t391, .int .i64 t392, .int .i64 t393, .int .i64 t394, .int .i64 t395, .slice Ao15 t404.length co15], .int .i64 1] rfl (by (try simp only [List.map_toArray, List.map_cons, List.map_nil]); first | done | (rw [show t404.length = t396.length from (Kd.R_reads' HO_402005.out).1.symm] <;> rfl) | rfl | (simp only [List.length_drop, List.length_take]; rfl)) ?_; (with_reducible refine (laws_heldJournal.calls kj5 t391 t392 t393 t394 t395 _ _ t404 1 t405 _ ?side1 ?side2 A33.out).mono ?_); (case side1 => repeat (first | exact (Kd.R_reads' HO_402005.out).2.2 | (with_reducible refine Kd.C_alloc ?_ _) | (with_reducible refine Kd.C_drewN ?_ _) | (with_reducible refine Kd.C_drew ?_))); (case side2 => rw [show t404.length = t396.length from (Kd.R_reads' HO_402005.out).1.symm]; exact (Kd.R_reads' HO_402005.out).2.1); rintro e w47 ⟨rfl, hb⟩; refine ⟨_, rfl, ?_⟩; have n0_ := rb HO_391005 hb; have n1_ := rb HO_402005 hb; have n2_ := bb BK390 hb; have n3_ := bb BK401 hb; have n4_ := Aside0.mk (below_step (bt HB) hb); clear HO_391005 HO_402005 BK390 BK401 HB; revert n0_ n1_ n2_ n3_ n4_; intro HO_391005 HO_402005 BK390 BK401 HB; (try clear hb); (try clear hb2); (try clear hk); (try clear hi)) | ((with_reducible refine gd 61 rfl ?_); refine gl 15 61 Try.func15 #[.int .i64 a0, .string a1] ?_; (with_reducible refine (impl_ReadJournal.calls kj5 a0 a1 t406 t407 t408 t409 t410 t411 t414 t415 _ A41.out).mono ?_); rintro e w48 ⟨v412, rfl, ho0, hb⟩; refine ⟨_, rfl, ?_⟩; have n0_ := Aside0.mk (Kd.R_elder' (rk HO_391005) (Kd.R_base ho0) hb); have n1_ := Aside0.mk (Kd.R_elder' (rk HO_402005) (Kd.R_base ho0) hb); have n2_ := Aside0.mk (Kd.R_lower (Kd.R_new' (Kd.R_new' ho0 (Kd.R_lt (rk HO_391005))) (Kd.R_lt (rk HO_402005))) (below_size (bt HB))); have n3_ := bb BK390 hb; have n4_ := bb BK401 hb; have n5_ := Aside0.mk (below_step (bt HB) hb); clear HO_391005 HO_402005 BK390 BK401 HB; revert n0_ n1_ n2_ n3_ n4_ n5_; intro HO_391005 HO_402005 HO413 BK390 BK401 HB; (try clear hb); (try clear hb2); (try clear hk); (try clear hi); (try clear ho0)) | (refine bx 13 42 #[.int .i64 0, .int .i64 0, .int .i64 0, .int .i64 0, .int .i64 0, .slice none 0 0] ?_; intro gb416 hg w49 hbox hb; have n0_ := rb HO_391005 hb; have n1_ := rb HO_402005 hb; have n2_ := rb HO413 hb; have n3_ := bb BK390 hb; have n4_ := bb BK401 hb; have n5_ := Aside0.mk (below_step (bt HB) hb); have n6_ := Aside0.mk (hbox); have n7_ := ge_ hg HB; have n8_ := ge_ hg HB; have n9_ := nl_ hg BK390; have n10_ := nr_ hg BK390; have n11_ := nl_ hg BK401; have n12_ := nr_ hg BK401; clear HO_391005 HO_402005 HO413 BK390 BK401 HB; revert n0_ n1_ n2_ n3_ n4_ n5_ n6_ n7_ n8_ n9_ n10_ n11_ n12_; intro HO_391005 HO_402005 HO413 BK390 BK401 HB BK416 GW416 GE416 NB390_416 NB416_390 NB401_416 NB416_401; clear hb hbox hg; have hnb50 := NB416_390.out; have hnc50 := NB390_416.out; have hnb51 := NB416_401.out; have hnc51 := NB401_416.out; obtain ⟨hcz52_0, hcz52_1, hcz52_2, hcz52_3, hcz52_4, hcz52_5, hfz52_0, hfz52_1, hfz52_2, hfz52_3, hfz52_4, hfz52_5⟩ := bc6 BK416; obtain ⟨Ao53, co53, eo53⟩ := Kd.R_slice HO413.out; subst eo53))
       (try simp only [Act.put, zA, zB, zC])
       go_cut [78] (fun v78 wc => ∃ (kq : Nat) (x78_41 : Bool), v78 = .bool x78_41 ∧ Aside0 (laws_FnExactReadJournal.j1 kq t403 x78_41 t391 t392 t393 t394 t395 t404 = some r) ∧ Aside0 (kq ≤ kj5) ∧ Aside0 (Kd.R k89 89 wc w.heap.size (fun k_ => some k_ ≠ ((.slice Ao15 t396.length co15) : Value).ownBlock ∧ some k_ ≠ ((.slice Ao53 t411.length co53) : Value).ownBlock) (.slice Ao10 t385.length co10) t385) ∧ Aside0 (Kd.R k89 89 wc w.heap.size (fun k_ => some k_ ≠ ((.slice Ao10 t385.length co10) : Value).ownBlock ∧ some k_ ≠ ((.slice Ao53 t411.length co53) : Value).ownBlock) (.slice Ao15 t396.length co15) t404) ∧ Aside0 (Kd.R k89 89 wc w.heap.size (fun k_ => some k_ ≠ ((.slice Ao10 t385.length co10) : Value).ownBlock ∧ some k_ ≠ ((.slice Ao15 t396.length co15) : Value).ownBlock) (.slice Ao53 t411.length co53) t411) ∧ Aside0 (wc.heap[gb390]? = some (.cells #[.int .i64 t380, .int .i64 t381, .int .i64 t382, .int .i64 t383, .int .i64 t384, (.slice Ao10 t385.length co10)] 42 (0, 0))) ∧ Aside0 (wc.heap[gb401]? = some (.cells #[.int .i64 t391, .int .i64 t392, .int .i64 t393, .int .i64 t394, .int .i64 t395, (.slice Ao15 t396.length co15)] 42 (0, 0))) ∧ Aside0 (wc.heap[gb416]? = some (.cells #[.int .i64 t406, .int .i64 t407, .int .i64 t408, .int .i64 t409, .int .i64 t410, (.slice Ao53 t411.length co53)] 42 (0, 0))) ∧ Aside0 (Below w.heap.size w wc))
       case first =>
        have H := HC42.out
        clear HC42
        replace H := Option.bind_eq_some_iff.mp H
        obtain ⟨t417, A540, H⟩ := H
        try dsimp only at H
        have A54 := Aside0.mk A540
        clear A540
        by_cases c55 : t417 = true
        ·subst c55
         rw [if_pos rfl] at H
         by_cases c56 : t414 = t388
         ·rw [if_pos c56] at H
          have c56b0 : (t414 == t388) = true := beq_iff_eq.mpr c56
          have c56b1 : (t414 != t388) = false := bne_eq_false_iff_eq.mpr c56
          clear c56
          (first | rw [c56b0] | (simp only [i64_w, i32_w]; rw [c56b0]) | skip)
          have H' := Aside0.mk H
          clear H
          have hnb57 := NB416_390.out
          have hnc57 := NB390_416.out
          have hnb58 := NB416_401.out
          have hnc58 := NB401_416.out
          obtain ⟨hcz59_0, hcz59_1, hcz59_2, hcz59_3, hcz59_4, hcz59_5, hfz59_0, hfz59_1, hfz59_2, hfz59_3, hfz59_4, hfz59_5⟩ := bc6 BK416
          have hnb60 := NB390_401.out
          have hnc60 := NB401_390.out
          obtain ⟨hcz61_0, hcz61_1, hcz61_2, hcz61_3, hcz61_4, hcz61_5, hfz61_0, hfz61_1, hfz61_2, hfz61_3, hfz61_4, hfz61_5⟩ := bc6 BK390
          go_wp2_with (first | ((with_reducible refine gd 67 rfl ?_); refine gl 16 67 Try.func16 #[.agg #[.int .i64 t406, .int .i64 t407, .int .i64 t408, .int .i64 t409, .int .i64 t410, .slice Ao53 t411.length co53], .agg #[.int .i64 t380, .int .i64 t381, .int .i64 t382, .int .i64 t383, .int .i64 t384, .slice Ao10 t385.length co10]] ?_; (with_reducible refine (laws_eqJournal.calls kj5 t406 t407 t408 t409 t410 _ _ t411 t380 t381 t382 t383 t384 _ _ t385 true _ ?side1 ?side2 ?side3 ?side4 A54.out).mono ?_); (case side1 => refine (Kd.R_reads' (e := 89) (base := w.heap.size) (ok := fun k_ => ((True ∧ some k_ ≠ (.slice Ao10 t385.length co10 : Value).ownBlock) ∧ some k_ ≠ (.slice Ao15 t396.length co15 : Value).ownBlock)) (n := t411.length) (c := co53) ?_).2.2; exact (by (with_reducible repeat (first | apply Kd.R_alloc | apply Kd.R_drewN | apply Kd.R_drew)); exact (Kd.R_mono (Kd.R_far (p := ⟨gb416, 5, none⟩) (Kd.R_far (p := ⟨gb416, 4, none⟩) (Kd.R_far (p := ⟨gb416, 3, none⟩) (Kd.R_far (p := ⟨gb416, 2, none⟩) (Kd.R_far (p := ⟨gb416, 1, none⟩) (Kd.R_far (p := ⟨gb416, 0, none⟩) (Kd.R_types HO413.out BK416.out (by decide)) (fun _ hk => hk.2) (.int .i64 t406)) (fun _ hk => hk.2) (.int .i64 t407)) (fun _ hk => hk.2) (.int .i64 t408)) (fun _ hk => hk.2) (.int .i64 t409)) (fun _ hk => hk.2) (.int .i64 t410)) (fun _ hk => hk.2) (.slice Ao53 t411.length co53)) (fun _ h_ => h_.1)))); (case side2 => exact (Kd.R_reads' HO413.out).2.1); (case side3 => refine (Kd.R_reads' (e := 89) (base := w.heap.size) (ok := fun k_ => (some k_ ≠ (.slice Ao15 t396.length co15 : Value).ownBlock ∧ some k_ ≠ (.slice Ao53 t411.length co53 : Value).ownBlock)) (n := t385.length) (c := co10) ?_).2.2; exact (by (with_reducible repeat (first | apply Kd.R_alloc | apply Kd.R_drewN | apply Kd.R_drew)); exact (Kd.R_mono (Kd.R_far (p := ⟨gb416, 5, none⟩) (Kd.R_far (p := ⟨gb416, 4, none⟩) (Kd.R_far (p := ⟨gb416, 3, none⟩) (Kd.R_far (p := ⟨gb416, 2, none⟩) (Kd.R_far (p := ⟨gb416, 1, none⟩) (Kd.R_far (p := ⟨gb416, 0, none⟩) (Kd.R_types HO_391005.out BK416.out (by decide)) (fun _ hk => hk.2) (.int .i64 t406)) (fun _ hk => hk.2) (.int .i64 t407)) (fun _ hk => hk.2) (.int .i64 t408)) (fun _ hk => hk.2) (.int .i64 t409)) (fun _ hk => hk.2) (.int .i64 t410)) (fun _ hk => hk.2) (.slice Ao53 t411.length co53)) (fun _ h_ => h_.1)))); (case side4 => exact (Kd.R_reads' HO_391005.out).2.1); rintro e w62 ⟨rfl, hb⟩; refine ⟨_, rfl, ?_⟩; have n0_ := Aside0.mk (Kd.R_below (by (with_reducible repeat (first | apply Kd.R_alloc | apply Kd.R_drewN | apply Kd.R_drew)); exact (Kd.R_mono (Kd.R_far (p := ⟨gb416, 5, none⟩) (Kd.R_far (p := ⟨gb416, 4, none⟩) (Kd.R_far (p := ⟨gb416, 3, none⟩) (Kd.R_far (p := ⟨gb416, 2, none⟩) (Kd.R_far (p := ⟨gb416, 1, none⟩) (Kd.R_far (p := ⟨gb416, 0, none⟩) (Kd.R_types HO_391005.out BK416.out (by decide)) (fun _ hk => hk.2) (.int .i64 t406)) (fun _ hk => hk.2) (.int .i64 t407)) (fun _ hk => hk.2) (.int .i64 t408)) (fun _ hk => hk.2) (.int .i64 t409)) (fun _ hk => hk.2) (.int .i64 t410)) (fun _ hk => hk.2) (.slice Ao53 t411.length co53)) (fun _ h_ => h_.1))) hb); have n1_ := Aside0.mk (Kd.R_below (by (with_reducible repeat (first | apply Kd.R_alloc | apply Kd.R_drewN | apply Kd.R_drew)); exact (Kd.R_mono (Kd.R_far (p := ⟨gb416, 5, none⟩) (Kd.R_far (p := ⟨gb416, 4, none⟩) (Kd.R_far (p := ⟨gb416, 3, none⟩) (Kd.R_far (p := ⟨gb416, 2, none⟩) (Kd.R_far (p := ⟨gb416, 1, none⟩) (Kd.R_far (p := ⟨gb416, 0, none⟩) (Kd.R_types HO_402005.out BK416.out (by decide)) (fun _ hk => hk.2) (.int .i64 t406)) (fun _ hk => hk.2) (.int .i64 t407)) (fun _ hk => hk.2) (.int .i64 t408)) (fun _ hk => hk.2) (.int .i64 t409)) (fun _ hk => hk.2) (.int .i64 t410)) (fun _ hk => hk.2) (.slice Ao53 t411.length co53)) (fun _ h_ => h_.1))) hb); have n2_ := Aside0.mk (Kd.R_below (by (with_reducible repeat (first | apply Kd.R_alloc | apply Kd.R_drewN | apply Kd.R_drew)); exact (Kd.R_mono (Kd.R_far (p := ⟨gb416, 5, none⟩) (Kd.R_far (p := ⟨gb416, 4, none⟩) (Kd.R_far (p := ⟨gb416, 3, none⟩) (Kd.R_far (p := ⟨gb416, 2, none⟩) (Kd.R_far (p := ⟨gb416, 1, none⟩) (Kd.R_far (p := ⟨gb416, 0, none⟩) (Kd.R_types HO413.out BK416.out (by decide)) (fun _ hk => hk.2) (.int .i64 t406)) (fun _ hk => hk.2) (.int .i64 t407)) (fun _ hk => hk.2) (.int .i64 t408)) (fun _ hk => hk.2) (.int .i64 t409)) (fun _ hk => hk.2) (.int .i64 t410)) (fun _ hk => hk.2) (.slice Ao53 t411.length co53)) (fun _ h_ => h_.1))) hb); have n3_ := Aside0.mk (blk_below (g := gb390) (o := .cells #[.int .i64 t380, .int .i64 t381, .int .i64 t382, .int .i64 t383, .int .i64 t384, .slice Ao10 t385.length co10] 42 (0, 0)) (by refine bk_ ?_; refine blk_far ?_ NB390_416.out _; refine bk_ ?_; refine blk_far ?_ NB390_416.out _; refine bk_ ?_; refine blk_far ?_ NB390_416.out _; refine bk_ ?_; refine blk_far ?_ NB390_416.out _; refine bk_ ?_; refine blk_far ?_ NB390_416.out _; refine bk_ ?_; refine blk_far ?_ NB390_416.out _; refine bk_ ?_; exact BK390.out) hb); have n4_ := Aside0.mk (blk_below (g := gb401) (o := .cells #[.int .i64 t391, .int .i64 t392, .int .i64 t393, .int .i64 t394, .int .i64 t395, .slice Ao15 t396.length co15] 42 (0, 0)) (by refine bk_ ?_; refine blk_far ?_ NB401_416.out _; refine bk_ ?_; refine blk_far ?_ NB401_416.out _; refine bk_ ?_; refine blk_far ?_ NB401_416.out _; refine bk_ ?_; refine blk_far ?_ NB401_416.out _; refine bk_ ?_; refine blk_far ?_ NB401_416.out _; refine bk_ ?_; refine blk_far ?_ NB401_416.out _; refine bk_ ?_; exact BK401.out) hb); have n5_ := Aside0.mk (blk_below (g := gb416) (o := .cells #[.int .i64 t406, .int .i64 t407, .int .i64 t408, .int .i64 t409, .int .i64 t410, .slice Ao53 t411.length co53] 42 (0, 0)) (by refine bk_ ?_; refine blk_put (cs := #[.int .i64 t406, .int .i64 t407, .int .i64 t408, .int .i64 t409, .int .i64 t410, .slice none 0 0]) ?_ 5 _ rfl; refine bk_ ?_; refine blk_put (cs := #[.int .i64 t406, .int .i64 t407, .int .i64 t408, .int .i64 t409, .int .i64 0, .slice none 0 0]) ?_ 4 _ rfl; refine bk_ ?_; refine blk_put (cs := #[.int .i64 t406, .int .i64 t407, .int .i64 t408, .int .i64 0, .int .i64 0, .slice none 0 0]) ?_ 3 _ rfl; refine bk_ ?_; refine blk_put (cs := #[.int .i64 t406, .int .i64 t407, .int .i64 0, .int .i64 0, .int .i64 0, .slice none 0 0]) ?_ 2 _ rfl; refine bk_ ?_; refine blk_put (cs := #[.int .i64 t406, .int .i64 0, .int .i64 0, .int .i64 0, .int .i64 0, .slice none 0 0]) ?_ 1 _ rfl; refine bk_ ?_; refine blk_put (cs := #[.int .i64 0, .int .i64 0, .int .i64 0, .int .i64 0, .int .i64 0, .slice none 0 0]) ?_ 0 _ rfl; refine bk_ ?_; exact BK416.out) hb); have n6_ := Aside0.mk (below_step (bt HB) hb); clear HO_391005 HO_402005 HO413 BK390 BK401 BK416 HB; revert n0_ n1_ n2_ n3_ n4_ n5_ n6_; intro HO_391005 HO_402005 HO413 BK390 BK401 BK416 HB; (try clear hb); (try clear hb2); (try clear hk); (try clear hi)))
          go_meet
          case rel => exact ⟨_, ((t415 != t389)), fr, H', ⟨by have := HJ5.out; first | omega | exact Nat.le_refl _⟩, ⟨by (with_reducible repeat (first | apply Kd.R_alloc | apply Kd.R_drewN | apply Kd.R_drew)); exact HO_391005.out⟩, ⟨by (with_reducible repeat (first | apply Kd.R_alloc | apply Kd.R_drewN | apply Kd.R_drew)); exact HO_402005.out⟩, ⟨by (with_reducible repeat (first | apply Kd.R_alloc | apply Kd.R_drewN | apply Kd.R_drew)); exact Kd.R_mono HO413.out (fun _ hk => ⟨hk.1.2, hk.2⟩)⟩, ⟨by refine bk_ ?_; exact BK390.out⟩, ⟨by refine bk_ ?_; exact BK401.out⟩, ⟨by refine bk_ ?_; exact BK416.out⟩, ⟨bt HB⟩⟩
         ·rw [if_neg c56] at H
          have c56b0 : (t414 == t388) = false := beq_eq_false_iff_ne.mpr c56
          have c56b1 : (t414 != t388) = true := bne_iff_ne.mpr c56
          (first | rw [c56b0] | (simp only [i64_w, i32_w]; rw [c56b0]) | skip)
          have H' := Aside0.mk H
          clear H
          have hnb63 := NB416_390.out
          have hnc63 := NB390_416.out
          have hnb64 := NB416_401.out
          have hnc64 := NB401_416.out
          obtain ⟨hcz65_0, hcz65_1, hcz65_2, hcz65_3, hcz65_4, hcz65_5, hfz65_0, hfz65_1, hfz65_2, hfz65_3, hfz65_4, hfz65_5⟩ := bc6 BK416
          have hnb66 := NB390_401.out
          have hnc66 := NB401_390.out
          obtain ⟨hcz67_0, hcz67_1, hcz67_2, hcz67_3, hcz67_4, hcz67_5, hfz67_0, hfz67_1, hfz67_2, hfz67_3, hfz67_4, hfz67_5⟩ := bc6 BK390
          go_wp2_with (first | ((with_reducible refine gd 67 rfl ?_); refine gl 16 67 Try.func16 #[.agg #[.int .i64 t406, .int .i64 t407, .int .i64 t408, .int .i64 t409, .int .i64 t410, .slice Ao53 t411.length co53], .agg #[.int .i64 t380, .int .i64 t381, .int .i64 t382, .int .i64 t383, .int .i64 t384, .slice Ao10 t385.length co10]] ?_; (with_reducible refine (laws_eqJournal.calls kj5 t406 t407 t408 t409 t410 _ _ t411 t380 t381 t382 t383 t384 _ _ t385 true _ ?side1 ?side2 ?side3 ?side4 A54.out).mono ?_); (case side1 => refine (Kd.R_reads' (e := 89) (base := w.heap.size) (ok := fun k_ => ((True ∧ some k_ ≠ (.slice Ao10 t385.length co10 : Value).ownBlock) ∧ some k_ ≠ (.slice Ao15 t396.length co15 : Value).ownBlock)) (n := t411.length) (c := co53) ?_).2.2; exact (by (with_reducible repeat (first | apply Kd.R_alloc | apply Kd.R_drewN | apply Kd.R_drew)); exact (Kd.R_mono (Kd.R_far (p := ⟨gb416, 5, none⟩) (Kd.R_far (p := ⟨gb416, 4, none⟩) (Kd.R_far (p := ⟨gb416, 3, none⟩) (Kd.R_far (p := ⟨gb416, 2, none⟩) (Kd.R_far (p := ⟨gb416, 1, none⟩) (Kd.R_far (p := ⟨gb416, 0, none⟩) (Kd.R_types HO413.out BK416.out (by decide)) (fun _ hk => hk.2) (.int .i64 t406)) (fun _ hk => hk.2) (.int .i64 t407)) (fun _ hk => hk.2) (.int .i64 t408)) (fun _ hk => hk.2) (.int .i64 t409)) (fun _ hk => hk.2) (.int .i64 t410)) (fun _ hk => hk.2) (.slice Ao53 t411.length co53)) (fun _ h_ => h_.1)))); (case side2 => exact (Kd.R_reads' HO413.out).2.1); (case side3 => refine (Kd.R_reads' (e := 89) (base := w.heap.size) (ok := fun k_ => (some k_ ≠ (.slice Ao15 t396.length co15 : Value).ownBlock ∧ some k_ ≠ (.slice Ao53 t411.length co53 : Value).ownBlock)) (n := t385.length) (c := co10) ?_).2.2; exact (by (with_reducible repeat (first | apply Kd.R_alloc | apply Kd.R_drewN | apply Kd.R_drew)); exact (Kd.R_mono (Kd.R_far (p := ⟨gb416, 5, none⟩) (Kd.R_far (p := ⟨gb416, 4, none⟩) (Kd.R_far (p := ⟨gb416, 3, none⟩) (Kd.R_far (p := ⟨gb416, 2, none⟩) (Kd.R_far (p := ⟨gb416, 1, none⟩) (Kd.R_far (p := ⟨gb416, 0, none⟩) (Kd.R_types HO_391005.out BK416.out (by decide)) (fun _ hk => hk.2) (.int .i64 t406)) (fun _ hk => hk.2) (.int .i64 t407)) (fun _ hk => hk.2) (.int .i64 t408)) (fun _ hk => hk.2) (.int .i64 t409)) (fun _ hk => hk.2) (.int .i64 t410)) (fun _ hk => hk.2) (.slice Ao53 t411.length co53)) (fun _ h_ => h_.1)))); (case side4 => exact (Kd.R_reads' HO_391005.out).2.1); rintro e w68 ⟨rfl, hb⟩; refine ⟨_, rfl, ?_⟩; have n0_ := Aside0.mk (Kd.R_below (by (with_reducible repeat (first | apply Kd.R_alloc | apply Kd.R_drewN | apply Kd.R_drew)); exact (Kd.R_mono (Kd.R_far (p := ⟨gb416, 5, none⟩) (Kd.R_far (p := ⟨gb416, 4, none⟩) (Kd.R_far (p := ⟨gb416, 3, none⟩) (Kd.R_far (p := ⟨gb416, 2, none⟩) (Kd.R_far (p := ⟨gb416, 1, none⟩) (Kd.R_far (p := ⟨gb416, 0, none⟩) (Kd.R_types HO_391005.out BK416.out (by decide)) (fun _ hk => hk.2) (.int .i64 t406)) (fun _ hk => hk.2) (.int .i64 t407)) (fun _ hk => hk.2) (.int .i64 t408)) (fun _ hk => hk.2) (.int .i64 t409)) (fun _ hk => hk.2) (.int .i64 t410)) (fun _ hk => hk.2) (.slice Ao53 t411.length co53)) (fun _ h_ => h_.1))) hb); have n1_ := Aside0.mk (Kd.R_below (by (with_reducible repeat (first | apply Kd.R_alloc | apply Kd.R_drewN | apply Kd.R_drew)); exact (Kd.R_mono (Kd.R_far (p := ⟨gb416, 5, none⟩) (Kd.R_far (p := ⟨gb416, 4, none⟩) (Kd.R_far (p := ⟨gb416, 3, none⟩) (Kd.R_far (p := ⟨gb416, 2, none⟩) (Kd.R_far (p := ⟨gb416, 1, none⟩) (Kd.R_far (p := ⟨gb416, 0, none⟩) (Kd.R_types HO_402005.out BK416.out (by decide)) (fun _ hk => hk.2) (.int .i64 t406)) (fun _ hk => hk.2) (.int .i64 t407)) (fun _ hk => hk.2) (.int .i64 t408)) (fun _ hk => hk.2) (.int .i64 t409)) (fun _ hk => hk.2) (.int .i64 t410)) (fun _ hk => hk.2) (.slice Ao53 t411.length co53)) (fun _ h_ => h_.1))) hb); have n2_ := Aside0.mk (Kd.R_below (by (with_reducible repeat (first | apply Kd.R_alloc | apply Kd.R_drewN | apply Kd.R_drew)); exact (Kd.R_mono (Kd.R_far (p := ⟨gb416, 5, none⟩) (Kd.R_far (p := ⟨gb416, 4, none⟩) (Kd.R_far (p := ⟨gb416, 3, none⟩) (Kd.R_far (p := ⟨gb416, 2, none⟩) (Kd.R_far (p := ⟨gb416, 1, none⟩) (Kd.R_far (p := ⟨gb416, 0, none⟩) (Kd.R_types HO413.out BK416.out (by decide)) (fun _ hk => hk.2) (.int .i64 t406)) (fun _ hk => hk.2) (.int .i64 t407)) (fun _ hk => hk.2) (.int .i64 t408)) (fun _ hk => hk.2) (.int .i64 t409)) (fun _ hk => hk.2) (.int .i64 t410)) (fun _ hk => hk.2) (.slice Ao53 t411.length co53)) (fun _ h_ => h_.1))) hb); have n3_ := Aside0.mk (blk_below (g := gb390) (o := .cells #[.int .i64 t380, .int .i64 t381, .int .i64 t382, .int .i64 t383, .int .i64 t384, .slice Ao10 t385.length co10] 42 (0, 0)) (by refine bk_ ?_; refine blk_far ?_ NB390_416.out _; refine bk_ ?_; refine blk_far ?_ NB390_416.out _; refine bk_ ?_; refine blk_far ?_ NB390_416.out _; refine bk_ ?_; refine blk_far ?_ NB390_416.out _; refine bk_ ?_; refine blk_far ?_ NB390_416.out _; refine bk_ ?_; refine blk_far ?_ NB390_416.out _; refine bk_ ?_; exact BK390.out) hb); have n4_ := Aside0.mk (blk_below (g := gb401) (o := .cells #[.int .i64 t391, .int .i64 t392, .int .i64 t393, .int .i64 t394, .int .i64 t395, .slice Ao15 t396.length co15] 42 (0, 0)) (by refine bk_ ?_; refine blk_far ?_ NB401_416.out _; refine bk_ ?_; refine blk_far ?_ NB401_416.out _; refine bk_ ?_; refine blk_far ?_ NB401_416.out _; refine bk_ ?_; refine blk_far ?_ NB401_416.out _; refine bk_ ?_; refine blk_far ?_ NB401_416.out _; refine bk_ ?_; refine blk_far ?_ NB401_416.out _; refine bk_ ?_; exact BK401.out) hb); have n5_ := Aside0.mk (blk_below (g := gb416) (o := .cells #[.int .i64 t406, .int .i64 t407, .int .i64 t408, .int .i64 t409, .int .i64 t410, .slice Ao53 t411.length co53] 42 (0, 0)) (by refine bk_ ?_; refine blk_put (cs := #[.int .i64 t406, .int .i64 t407, .int .i64 t408, .int .i64 t409, .int .i64 t410, .slice none 0 0]) ?_ 5 _ rfl; refine bk_ ?_; refine blk_put (cs := #[.int .i64 t406, .int .i64 t407, .int .i64 t408, .int .i64 t409, .int .i64 0, .slice none 0 0]) ?_ 4 _ rfl; refine bk_ ?_; refine blk_put (cs := #[.int .i64 t406, .int .i64 t407, .int .i64 t408, .int .i64 0, .int .i64 0, .slice none 0 0]) ?_ 3 _ rfl; refine bk_ ?_; refine blk_put (cs := #[.int .i64 t406, .int .i64 t407, .int .i64 0, .int .i64 0, .int .i64 0, .slice none 0 0]) ?_ 2 _ rfl; refine bk_ ?_; refine blk_put (cs := #[.int .i64 t406, .int .i64 0, .int .i64 0, .int .i64 0, .int .i64 0, .slice none 0 0]) ?_ 1 _ rfl; refine bk_ ?_; refine blk_put (cs := #[.int .i64 0, .int .i64 0, .int .i64 0, .int .i64 0, .int .i64 0, .slice none 0 0]) ?_ 0 _ rfl; refine bk_ ?_; exact BK416.out) hb); have n6_ := Aside0.mk (below_step (bt HB) hb); clear HO_391005 HO_402005 HO413 BK390 BK401 BK416 HB; revert n0_ n1_ n2_ n3_ n4_ n5_ n6_; intro HO_391005 HO_402005 HO413 BK390 BK401 BK416 HB; (try clear hb); (try clear hb2); (try clear hk); (try clear hi)))
          go_meet
          case rel => exact ⟨_, (true), fr, H', ⟨by have := HJ5.out; first | omega | exact Nat.le_refl _⟩, ⟨by (with_reducible repeat (first | apply Kd.R_alloc | apply Kd.R_drewN | apply Kd.R_drew)); exact HO_391005.out⟩, ⟨by (with_reducible repeat (first | apply Kd.R_alloc | apply Kd.R_drewN | apply Kd.R_drew)); exact HO_402005.out⟩, ⟨by (with_reducible repeat (first | apply Kd.R_alloc | apply Kd.R_drewN | apply Kd.R_drew)); exact Kd.R_mono HO413.out (fun _ hk => ⟨hk.1.2, hk.2⟩)⟩, ⟨by refine bk_ ?_; exact BK390.out⟩, ⟨by refine bk_ ?_; exact BK401.out⟩, ⟨by refine bk_ ?_; exact BK416.out⟩, ⟨bt HB⟩⟩
        ·replace c55 := Bool.eq_false_iff.mpr c55
         subst c55
         rw [if_neg nf] at H
         have H' := Aside0.mk H
         clear H
         have hnb69 := NB416_390.out
         have hnc69 := NB390_416.out
         have hnb70 := NB416_401.out
         have hnc70 := NB401_416.out
         obtain ⟨hcz71_0, hcz71_1, hcz71_2, hcz71_3, hcz71_4, hcz71_5, hfz71_0, hfz71_1, hfz71_2, hfz71_3, hfz71_4, hfz71_5⟩ := bc6 BK416
         have hnb72 := NB390_401.out
         have hnc72 := NB401_390.out
         obtain ⟨hcz73_0, hcz73_1, hcz73_2, hcz73_3, hcz73_4, hcz73_5, hfz73_0, hfz73_1, hfz73_2, hfz73_3, hfz73_4, hfz73_5⟩ := bc6 BK390
         go_wp2_with (first | ((with_reducible refine gd 67 rfl ?_); refine gl 16 67 Try.func16 #[.agg #[.int .i64 t406, .int .i64 t407, .int .i64 t408, .int .i64 t409, .int .i64 t410, .slice Ao53 t411.length co53], .agg #[.int .i64 t380, .int .i64 t381, .int .i64 t382, .int .i64 t383, .int .i64 t384, .slice Ao10 t385.length co10]] ?_; (with_reducible refine (laws_eqJournal.calls kj5 t406 t407 t408 t409 t410 _ _ t411 t380 t381 t382 t383 t384 _ _ t385 false _ ?side1 ?side2 ?side3 ?side4 A54.out).mono ?_); (case side1 => refine (Kd.R_reads' (e := 89) (base := w.heap.size) (ok := fun k_ => ((True ∧ some k_ ≠ (.slice Ao10 t385.length co10 : Value).ownBlock) ∧ some k_ ≠ (.slice Ao15 t396.length co15 : Value).ownBlock)) (n := t411.length) (c := co53) ?_).2.2; exact (by (with_reducible repeat (first | apply Kd.R_alloc | apply Kd.R_drewN | apply Kd.R_drew)); exact (Kd.R_mono (Kd.R_far (p := ⟨gb416, 5, none⟩) (Kd.R_far (p := ⟨gb416, 4, none⟩) (Kd.R_far (p := ⟨gb416, 3, none⟩) (Kd.R_far (p := ⟨gb416, 2, none⟩) (Kd.R_far (p := ⟨gb416, 1, none⟩) (Kd.R_far (p := ⟨gb416, 0, none⟩) (Kd.R_types HO413.out BK416.out (by decide)) (fun _ hk => hk.2) (.int .i64 t406)) (fun _ hk => hk.2) (.int .i64 t407)) (fun _ hk => hk.2) (.int .i64 t408)) (fun _ hk => hk.2) (.int .i64 t409)) (fun _ hk => hk.2) (.int .i64 t410)) (fun _ hk => hk.2) (.slice Ao53 t411.length co53)) (fun _ h_ => h_.1)))); (case side2 => exact (Kd.R_reads' HO413.out).2.1); (case side3 => refine (Kd.R_reads' (e := 89) (base := w.heap.size) (ok := fun k_ => (some k_ ≠ (.slice Ao15 t396.length co15 : Value).ownBlock ∧ some k_ ≠ (.slice Ao53 t411.length co53 : Value).ownBlock)) (n := t385.length) (c := co10) ?_).2.2; exact (by (with_reducible repeat (first | apply Kd.R_alloc | apply Kd.R_drewN | apply Kd.R_drew)); exact (Kd.R_mono (Kd.R_far (p := ⟨gb416, 5, none⟩) (Kd.R_far (p := ⟨gb416, 4, none⟩) (Kd.R_far (p := ⟨gb416, 3, none⟩) (Kd.R_far (p := ⟨gb416, 2, none⟩) (Kd.R_far (p := ⟨gb416, 1, none⟩) (Kd.R_far (p := ⟨gb416, 0, none⟩) (Kd.R_types HO_391005.out BK416.out (by decide)) (fun _ hk => hk.2) (.int .i64 t406)) (fun _ hk => hk.2) (.int .i64 t407)) (fun _ hk => hk.2) (.int .i64 t408)) (fun _ hk => hk.2) (.int .i64 t409)) (fun _ hk => hk.2) (.int .i64 t410)) (fun _ hk => hk.2) (.slice Ao53 t411.length co53)) (fun _ h_ => h_.1)))); (case side4 => exact (Kd.R_reads' HO_391005.out).2.1); rintro e w74 ⟨rfl, hb⟩; refine ⟨_, rfl, ?_⟩; have n0_ := Aside0.mk (Kd.R_below (by (with_reducible repeat (first | apply Kd.R_alloc | apply Kd.R_drewN | apply Kd.R_drew)); exact (Kd.R_mono (Kd.R_far (p := ⟨gb416, 5, none⟩) (Kd.R_far (p := ⟨gb416, 4, none⟩) (Kd.R_far (p := ⟨gb416, 3, none⟩) (Kd.R_far (p := ⟨gb416, 2, none⟩) (Kd.R_far (p := ⟨gb416, 1, none⟩) (Kd.R_far (p := ⟨gb416, 0, none⟩) (Kd.R_types HO_391005.out BK416.out (by decide)) (fun _ hk => hk.2) (.int .i64 t406)) (fun _ hk => hk.2) (.int .i64 t407)) (fun _ hk => hk.2) (.int .i64 t408)) (fun _ hk => hk.2) (.int .i64 t409)) (fun _ hk => hk.2) (.int .i64 t410)) (fun _ hk => hk.2) (.slice Ao53 t411.length co53)) (fun _ h_ => h_.1))) hb); have n1_ := Aside0.mk (Kd.R_below (by (with_reducible repeat (first | apply Kd.R_alloc | apply Kd.R_drewN | apply Kd.R_drew)); exact (Kd.R_mono (Kd.R_far (p := ⟨gb416, 5, none⟩) (Kd.R_far (p := ⟨gb416, 4, none⟩) (Kd.R_far (p := ⟨gb416, 3, none⟩) (Kd.R_far (p := ⟨gb416, 2, none⟩) (Kd.R_far (p := ⟨gb416, 1, none⟩) (Kd.R_far (p := ⟨gb416, 0, none⟩) (Kd.R_types HO_402005.out BK416.out (by decide)) (fun _ hk => hk.2) (.int .i64 t406)) (fun _ hk => hk.2) (.int .i64 t407)) (fun _ hk => hk.2) (.int .i64 t408)) (fun _ hk => hk.2) (.int .i64 t409)) (fun _ hk => hk.2) (.int .i64 t410)) (fun _ hk => hk.2) (.slice Ao53 t411.length co53)) (fun _ h_ => h_.1))) hb); have n2_ := Aside0.mk (Kd.R_below (by (with_reducible repeat (first | apply Kd.R_alloc | apply Kd.R_drewN | apply Kd.R_drew)); exact (Kd.R_mono (Kd.R_far (p := ⟨gb416, 5, none⟩) (Kd.R_far (p := ⟨gb416, 4, none⟩) (Kd.R_far (p := ⟨gb416, 3, none⟩) (Kd.R_far (p := ⟨gb416, 2, none⟩) (Kd.R_far (p := ⟨gb416, 1, none⟩) (Kd.R_far (p := ⟨gb416, 0, none⟩) (Kd.R_types HO413.out BK416.out (by decide)) (fun _ hk => hk.2) (.int .i64 t406)) (fun _ hk => hk.2) (.int .i64 t407)) (fun _ hk => hk.2) (.int .i64 t408)) (fun _ hk => hk.2) (.int .i64 t409)) (fun _ hk => hk.2) (.int .i64 t410)) (fun _ hk => hk.2) (.slice Ao53 t411.length co53)) (fun _ h_ => h_.1))) hb); have n3_ := Aside0.mk (blk_below (g := gb390) (o := .cells #[.int .i64 t380, .int .i64 t381, .int .i64 t382, .int .i64 t383, .int .i64 t384, .slice Ao10 t385.length co10] 42 (0, 0)) (by refine bk_ ?_; refine blk_far ?_ NB390_416.out _; refine bk_ ?_; refine blk_far ?_ NB390_416.out _; refine bk_ ?_; refine blk_far ?_ NB390_416.out _; refine bk_ ?_; refine blk_far ?_ NB390_416.out _; refine bk_ ?_; refine blk_far ?_ NB390_416.out _; refine bk_ ?_; refine blk_far ?_ NB390_416.out _; refine bk_ ?_; exact BK390.out) hb); have n4_ := Aside0.mk (blk_below (g := gb401) (o := .cells #[.int .i64 t391, .int .i64 t392, .int .i64 t393, .int .i64 t394, .int .i64 t395, .slice Ao15 t396.length co15] 42 (0, 0)) (by refine bk_ ?_; refine blk_far ?_ NB401_416.out _; refine bk_ ?_; refine blk_far ?_ NB401_416.out _; refine bk_ ?_; refine blk_far ?_ NB401_416.out _; refine bk_ ?_; refine blk_far ?_ NB401_416.out _; refine bk_ ?_; refine blk_far ?_ NB401_416.out _; refine bk_ ?_; refine blk_far ?_ NB401_416.out _; refine bk_ ?_; exact BK401.out) hb); have n5_ := Aside0.mk (blk_below (g := gb416) (o := .cells #[.int .i64 t406, .int .i64 t407, .int .i64 t408, .int .i64 t409, .int .i64 t410, .slice Ao53 t411.length co53] 42 (0, 0)) (by refine bk_ ?_; refine blk_put (cs := #[.int .i64 t406, .int .i64 t407, .int .i64 t408, .int .i64 t409, .int .i64 t410, .slice none 0 0]) ?_ 5 _ rfl; refine bk_ ?_; refine blk_put (cs := #[.int .i64 t406, .int .i64 t407, .int .i64 t408, .int .i64 t409, .int .i64 0, .slice none 0 0]) ?_ 4 _ rfl; refine bk_ ?_; refine blk_put (cs := #[.int .i64 t406, .int .i64 t407, .int .i64 t408, .int .i64 0, .int .i64 0, .slice none 0 0]) ?_ 3 _ rfl; refine bk_ ?_; refine blk_put (cs := #[.int .i64 t406, .int .i64 t407, .int .i64 0, .int .i64 0, .int .i64 0, .slice none 0 0]) ?_ 2 _ rfl; refine bk_ ?_; refine blk_put (cs := #[.int .i64 t406, .int .i64 0, .int .i64 0, .int .i64 0, .int .i64 0, .slice none 0 0]) ?_ 1 _ rfl; refine bk_ ?_; refine blk_put (cs := #[.int .i64 0, .int .i64 0, .int .i64 0, .int .i64 0, .int .i64 0, .slice none 0 0]) ?_ 0 _ rfl; refine bk_ ?_; exact BK416.out) hb); have n6_ := Aside0.mk (below_step (bt HB) hb); clear HO_391005 HO_402005 HO413 BK390 BK401 BK416 HB; revert n0_ n1_ n2_ n3_ n4_ n5_ n6_; intro HO_391005 HO_402005 HO413 BK390 BK401 BK416 HB; (try clear hb); (try clear hb2); (try clear hk); (try clear hi)))
         go_meet
         case rel => exact ⟨_, (true), fr, H', ⟨by have := HJ5.out; first | omega | exact Nat.le_refl _⟩, ⟨by (with_reducible repeat (first | apply Kd.R_alloc | apply Kd.R_drewN | apply Kd.R_drew)); exact HO_391005.out⟩, ⟨by (with_reducible repeat (first | apply Kd.R_alloc | apply Kd.R_drewN | apply Kd.R_drew)); exact HO_402005.out⟩, ⟨by (with_reducible repeat (first | apply Kd.R_alloc | apply Kd.R_drewN | apply Kd.R_drew)); exact Kd.R_mono HO413.out (fun _ hk => ⟨hk.1.2, hk.2⟩)⟩, ⟨by refine bk_ ?_; exact BK390.out⟩, ⟨by refine bk_ ?_; exact BK401.out⟩, ⟨by refine bk_ ?_; exact BK416.out⟩, ⟨bt HB⟩⟩
       case rest =>
        clear HC42
        try clear c1
        try clear c2
        try clear p2
        try clear c3
        try clear c3b0
        try clear c3b1
        try clear c4
        try clear c5
        try clear c6
        try clear c7
        try clear c13
        try clear c14
        try clear c15
        try clear c16
        try clear c17
        try clear c18
        try clear c18b0
        try clear c18b1
        try clear c19
        try clear c23
        try clear c27
        try clear c31
        try clear c34
        try clear c34b0
        try clear c35
        try clear c40
        try clear c40b0
        try clear c40b1
        try clear c43
        try clear c50
        try clear c51
        try clear c55
        try clear c56
        try clear c56b0
        try clear c56b1
        try clear c57
        try clear c58
        try clear c60
        try clear c63
        try clear c64
        try clear c66
        try clear c69
        try clear c70
        try clear c72
        try clear hcz14_0
        try clear hcz14_1
        try clear hcz14_2
        try clear hcz14_3
        try clear hcz14_4
        try clear hcz14_5
        try clear hcz20_0
        try clear hcz20_1
        try clear hcz20_2
        try clear hcz20_3
        try clear hcz20_4
        try clear hcz20_5
        try clear hcz21_0
        try clear hcz21_1
        try clear hcz21_2
        try clear hcz21_3
        try clear hcz21_4
        try clear hcz21_5
        try clear hcz24_0
        try clear hcz24_1
        try clear hcz24_2
        try clear hcz24_3
        try clear hcz24_4
        try clear hcz24_5
        try clear hcz25_0
        try clear hcz25_1
        try clear hcz25_2
        try clear hcz25_3
        try clear hcz25_4
        try clear hcz25_5
        try clear hcz28_0
        try clear hcz28_1
        try clear hcz28_2
        try clear hcz28_3
        try clear hcz28_4
        try clear hcz28_5
        try clear hcz29_0
        try clear hcz29_1
        try clear hcz29_2
        try clear hcz29_3
        try clear hcz29_4
        try clear hcz29_5
        try clear hcz36_0
        try clear hcz36_1
        try clear hcz36_2
        try clear hcz36_3
        try clear hcz36_4
        try clear hcz36_5
        try clear hcz38_0
        try clear hcz38_1
        try clear hcz38_2
        try clear hcz38_3
        try clear hcz38_4
        try clear hcz38_5
        try clear hcz44_0
        try clear hcz44_1
        try clear hcz44_2
        try clear hcz44_3
        try clear hcz44_4
        try clear hcz44_5
        try clear hcz46_0
        try clear hcz46_1
        try clear hcz46_2
        try clear hcz46_3
        try clear hcz46_4
        try clear hcz46_5
        try clear hcz52_0
        try clear hcz52_1
        try clear hcz52_2
        try clear hcz52_3
        try clear hcz52_4
        try clear hcz52_5
        try clear hcz59_0
        try clear hcz59_1
        try clear hcz59_2
        try clear hcz59_3
        try clear hcz59_4
        try clear hcz59_5
        try clear hcz61_0
        try clear hcz61_1
        try clear hcz61_2
        try clear hcz61_3
        try clear hcz61_4
        try clear hcz61_5
        try clear hcz65_0
        try clear hcz65_1
        try clear hcz65_2
        try clear hcz65_3
        try clear hcz65_4
        try clear hcz65_5
        try clear hcz67_0
        try clear hcz67_1
        try clear hcz67_2
        try clear hcz67_3
        try clear hcz67_4
        try clear hcz67_5
        try clear hcz71_0
        try clear hcz71_1
        try clear hcz71_2
        try clear hcz71_3
        try clear hcz71_4
        try clear hcz71_5
        try clear hcz73_0
        try clear hcz73_1
        try clear hcz73_2
        try clear hcz73_3
        try clear hcz73_4
        try clear hcz73_5
        try clear hcz9_0
        try clear hcz9_1
        try clear hcz9_2
        try clear hcz9_3
        try clear hcz9_4
        try clear hcz9_5
        try clear hfz14_0
        try clear hfz14_1
        try clear hfz14_2
        try clear hfz14_3
        try clear hfz14_4
        try clear hfz14_5
        try clear hfz20_0
        try clear hfz20_1
        try clear hfz20_2
        try clear hfz20_3
        try clear hfz20_4
        try clear hfz20_5
        try clear hfz21_0
        try clear hfz21_1
        try clear hfz21_2
        try clear hfz21_3
        try clear hfz21_4
        try clear hfz21_5
        try clear hfz24_0
        try clear hfz24_1
        try clear hfz24_2
        try clear hfz24_3
        try clear hfz24_4
        try clear hfz24_5
        try clear hfz25_0
        try clear hfz25_1
        try clear hfz25_2
        try clear hfz25_3
        try clear hfz25_4
        try clear hfz25_5
        try clear hfz28_0
        try clear hfz28_1
        try clear hfz28_2
        try clear hfz28_3
        try clear hfz28_4
        try clear hfz28_5
        try clear hfz29_0
        try clear hfz29_1
        try clear hfz29_2
        try clear hfz29_3
        try clear hfz29_4
        try clear hfz29_5
        try clear hfz36_0
        try clear hfz36_1
        try clear hfz36_2
        try clear hfz36_3
        try clear hfz36_4
        try clear hfz36_5
        try clear hfz38_0
        try clear hfz38_1
        try clear hfz38_2
        try clear hfz38_3
        try clear hfz38_4
        try clear hfz38_5
        try clear hfz44_0
        try clear hfz44_1
        try clear hfz44_2
        try clear hfz44_3
        try clear hfz44_4
        try clear hfz44_5
        try clear hfz46_0
        try clear hfz46_1
        try clear hfz46_2
        try clear hfz46_3
        try clear hfz46_4
        try clear hfz46_5
        try clear hfz52_0
        try clear hfz52_1
        try clear hfz52_2
        try clear hfz52_3
        try clear hfz52_4
        try clear hfz52_5
        try clear hfz59_0
        try clear hfz59_1
        try clear hfz59_2
        try clear hfz59_3
        try clear hfz59_4
        try clear hfz59_5
        try clear hfz61_0
        try clear hfz61_1
        try clear hfz61_2
        try clear hfz61_3
        try clear hfz61_4
        try clear hfz61_5
        try clear hfz65_0
        try clear hfz65_1
        try clear hfz65_2
        try clear hfz65_3
        try clear hfz65_4
        try clear hfz65_5
        try clear hfz67_0
        try clear hfz67_1
        try clear hfz67_2
        try clear hfz67_3
        try clear hfz67_4
        try clear hfz67_5
        try clear hfz71_0
        try clear hfz71_1
        try clear hfz71_2
        try clear hfz71_3
        try clear hfz71_4
        try clear hfz71_5
        try clear hfz73_0
        try clear hfz73_1
        try clear hfz73_2
        try clear hfz73_3
        try clear hfz73_4
        try clear hfz73_5
        try clear hfz9_0
        try clear hfz9_1
        try clear hfz9_2
        try clear hfz9_3
        try clear hfz9_4
        try clear hfz9_5
        try clear p2
        obtain ⟨kq, x78_41, rfl, HA, HJ41, HO_391005, HO_402005, HO_417005, BK390, BK401, BK416, HB⟩ := hcut
        have hl402005_41 := (Kd.R_reads' HO_402005.out).1
        rw [hl402005_41] at HO_402005
        (try simp only [hl402005_41])
        (try simp only [hl402005_41] at BK390)
        (try simp only [hl402005_41] at BK401)
        (try simp only [hl402005_41] at BK416)
        (try simp only [hl402005_41] at HO_391005)
        (try simp only [hl402005_41] at HO_417005)
        cases kq with
        | zero => exact absurd HA.out (by simp [laws_FnExactReadJournal.j1])
        | succ kj41 =>
         have H := HA.out
         clear HA
         simp only [laws_FnExactReadJournal.j1] at H
         by_cases c75 : x78_41 = true
         ·subst c75
          rw [if_pos rfl] at H
          obtain rfl := Option.some.inj H
          go_wp2
          go_ret
          exact ⟨by first | rfl | (simp [errW_none, errW_some] <;> rfl) | (simp [*, errW_none, errW_some] <;> rfl), bt HB⟩
         ·replace c75 := Bool.eq_false_iff.mpr c75
          subst c75
          rw [if_neg nf] at H
          replace H := Option.bind_eq_some_iff.mp H
          obtain ⟨t418, A760, H⟩ := H
          try dsimp only at H
          have A76 := Aside0.mk A760
          clear A760
          by_cases c77 : t418 < 0
          ·rw [if_pos c77] at H
           have c77b0 : decide (t418 < 0) = true := decide_eq_true c77
           clear c77
           obtain rfl := Option.some.inj H
           have hnb78 := NB401_390.out
           have hnc78 := NB390_401.out
           have hnb79 := NB401_416.out
           have hnc79 := NB416_401.out
           obtain ⟨hcz80_0, hcz80_1, hcz80_2, hcz80_3, hcz80_4, hcz80_5, hfz80_0, hfz80_1, hfz80_2, hfz80_3, hfz80_4, hfz80_5⟩ := bc6 BK401
           go_wp2_with (first | ((with_reducible refine gd 81 rfl ?_); refine gl 18 81 Try.func18 #[.agg #[.int .i64 t391, .int .i64 t392, .int .i64 t393, .int .i64 t394, .int .i64 t395, .slice Ao15 t404.length co15], .int .i64 1] ?_; (with_reducible refine (laws_heldJournal.calls kj41 t391 t392 t393 t394 t395 _ _ t404 1 t418 _ ?side1 ?side2 A76.out).mono ?_); (case side1 => repeat (first | exact (Kd.R_reads' HO_402005.out).2.2 | (with_reducible refine Kd.C_alloc ?_ _) | (with_reducible refine Kd.C_drewN ?_ _) | (with_reducible refine Kd.C_drew ?_))); (case side2 => exact (Kd.R_reads' HO_402005.out).2.1); rintro e w81 ⟨rfl, hb⟩; refine ⟨_, rfl, ?_⟩; have n0_ := rb HO_391005 hb; have n1_ := rb HO_402005 hb; have n2_ := rb HO_417005 hb; have n3_ := bb BK390 hb; have n4_ := bb BK401 hb; have n5_ := bb BK416 hb; have n6_ := Aside0.mk (below_step (bt HB) hb); clear HO_391005 HO_402005 HO_417005 BK390 BK401 BK416 HB; revert n0_ n1_ n2_ n3_ n4_ n5_ n6_; intro HO_391005 HO_402005 HO_417005 BK390 BK401 BK416 HB; (try clear hb); (try clear hb2); (try clear hk); (try clear hi)))
           go_ret
           exact ⟨by first | rfl | (simp [errW_none, errW_some] <;> rfl) | (simp [*, errW_none, errW_some] <;> rfl), bt HB⟩
          ·rw [if_neg c77] at H
           have c77b0 : decide (t418 < 0) = false := decide_eq_false c77
           clear c77
           by_cases c82 : t418 = t403
           ·rw [if_pos c82] at H
            have c82b0 : (t418 == t403) = true := beq_iff_eq.mpr c82
            have c82b1 : (t418 != t403) = false := bne_eq_false_iff_eq.mpr c82
            clear c82
            obtain rfl := Option.some.inj H
            have hnb83 := NB401_390.out
            have hnc83 := NB390_401.out
            have hnb84 := NB401_416.out
            have hnc84 := NB416_401.out
            obtain ⟨hcz85_0, hcz85_1, hcz85_2, hcz85_3, hcz85_4, hcz85_5, hfz85_0, hfz85_1, hfz85_2, hfz85_3, hfz85_4, hfz85_5⟩ := bc6 BK401
            go_wp2_with (first | ((with_reducible refine gd 81 rfl ?_); refine gl 18 81 Try.func18 #[.agg #[.int .i64 t391, .int .i64 t392, .int .i64 t393, .int .i64 t394, .int .i64 t395, .slice Ao15 t404.length co15], .int .i64 1] ?_; (with_reducible refine (laws_heldJournal.calls kj41 t391 t392 t393 t394 t395 _ _ t404 1 t418 _ ?side1 ?side2 A76.out).mono ?_); (case side1 => repeat (first | exact (Kd.R_reads' HO_402005.out).2.2 | (with_reducible refine Kd.C_alloc ?_ _) | (with_reducible refine Kd.C_drewN ?_ _) | (with_reducible refine Kd.C_drew ?_))); (case side2 => exact (Kd.R_reads' HO_402005.out).2.1); rintro e w86 ⟨rfl, hb⟩; refine ⟨_, rfl, ?_⟩; have n0_ := rb HO_391005 hb; have n1_ := rb HO_402005 hb; have n2_ := rb HO_417005 hb; have n3_ := bb BK390 hb; have n4_ := bb BK401 hb; have n5_ := bb BK416 hb; have n6_ := Aside0.mk (below_step (bt HB) hb); clear HO_391005 HO_402005 HO_417005 BK390 BK401 BK416 HB; revert n0_ n1_ n2_ n3_ n4_ n5_ n6_; intro HO_391005 HO_402005 HO_417005 BK390 BK401 BK416 HB; (try clear hb); (try clear hb2); (try clear hk); (try clear hi)))
            go_ret
            exact ⟨by first | rfl | (simp [errW_none, errW_some] <;> rfl) | (simp [*, errW_none, errW_some] <;> rfl), bt HB⟩
           ·rw [if_neg c82] at H
            have c82b0 : (t418 == t403) = false := beq_eq_false_iff_ne.mpr c82
            have c82b1 : (t418 != t403) = true := bne_iff_ne.mpr c82
            obtain rfl := Option.some.inj H
            have hnb87 := NB401_390.out
            have hnc87 := NB390_401.out
            have hnb88 := NB401_416.out
            have hnc88 := NB416_401.out
            obtain ⟨hcz89_0, hcz89_1, hcz89_2, hcz89_3, hcz89_4, hcz89_5, hfz89_0, hfz89_1, hfz89_2, hfz89_3, hfz89_4, hfz89_5⟩ := bc6 BK401
            go_wp2_with (first | ((with_reducible refine gd 81 rfl ?_); refine gl 18 81 Try.func18 #[.agg #[.int .i64 t391, .int .i64 t392, .int .i64 t393, .int .i64 t394, .int .i64 t395, .slice Ao15 t404.length co15], .int .i64 1] ?_; (with_reducible refine (laws_heldJournal.calls kj41 t391 t392 t393 t394 t395 _ _ t404 1 t418 _ ?side1 ?side2 A76.out).mono ?_); (case side1 => repeat (first | exact (Kd.R_reads' HO_402005.out).2.2 | (with_reducible refine Kd.C_alloc ?_ _) | (with_reducible refine Kd.C_drewN ?_ _) | (with_reducible refine Kd.C_drew ?_))); (case side2 => exact (Kd.R_reads' HO_402005.out).2.1); rintro e w90 ⟨rfl, hb⟩; refine ⟨_, rfl, ?_⟩; have n0_ := rb HO_391005 hb; have n1_ := rb HO_402005 hb; have n2_ := rb HO_417005 hb; have n3_ := bb BK390 hb; have n4_ := bb BK401 hb; have n5_ := bb BK416 hb; have n6_ := Aside0.mk (below_step (bt HB) hb); clear HO_391005 HO_402005 HO_417005 BK390 BK401 BK416 HB; revert n0_ n1_ n2_ n3_ n4_ n5_ n6_; intro HO_391005 HO_402005 HO_417005 BK390 BK401 BK416 HB; (try clear hb); (try clear hb2); (try clear hk); (try clear hi)))
            go_ret
            exact ⟨by first | rfl | (simp [errW_none, errW_some] <;> rfl) | (simp [*, errW_none, errW_some] <;> rfl), bt HB⟩
      ·rw [if_neg c40] at H
       have c40b0 : (t405 == t403) = false := beq_eq_false_iff_ne.mpr c40
       have c40b1 : (t405 != t403) = true := bne_iff_ne.mpr c40
       obtain rfl := Option.some.inj H
       have hnb91 := NB401_390.out
       have hnc91 := NB390_401.out
       obtain ⟨hcz92_0, hcz92_1, hcz92_2, hcz92_3, hcz92_4, hcz92_5, hfz92_0, hfz92_1, hfz92_2, hfz92_3, hfz92_4, hfz92_5⟩ := bc6 BK401
       go_wp2_with (first | ((with_reducible refine gd 49 rfl ?_); refine gl 17 49 Try.func17 #[.agg #[.int .i64 t391, .int .i64 t392, .int .i64 t393, .int .i64 t394, .int .i64 t395, .slice Ao15 t396.length co15], .int .i64 1] ?_; (with_reducible refine (laws_markJournal.calls kj5 t391 t392 t393 t394 t395 (fun k_ => some k_ = (.slice Ao15 t396.length co15 : Value).ownBlock) (.slice Ao15 t396.length co15) t396 1 t403 t404 w _ ?side1 ?side2 A32.out).mono ?_); (case side1 => repeat (first | (with_reducible first | exact HB.out | apply below_alloc | apply pw_below_drewN | apply below_drew1 | refine below_set ?_ GE390.out | refine below_set ?_ GE401.out) | exact HB.out)); (case side2 => exact Kd.R_tight rfl HO_402005.out); rintro e w93 ⟨rfl, hy0, hb, hkp⟩; refine ⟨_, rfl, ?_⟩; have n0_ := Aside0.mk (Kd.R_mono (ok' := fun k_ => some k_ ≠ (.slice Ao15 t396.length co15 : Value).ownBlock) (Kd.R_keptB (HO_391005.out) hkp (fun k_ hk_ hs_ => (hk_) hs_)) (fun k_ hk_ => hk_.1)); have n1_ := Aside0.mk (Kd.R_reok rfl hy0 (fun k_ e_ => HO_402005.out.1 k_ e_)); have n2_ := Aside0.mk (blk_kept (bk BK390) hkp (fun hs_ => (fun e_ => (Kd.R_ne HO_402005.out BK390.out (by decide)) e_) hs_)); have n3_ := Aside0.mk (blk_kept (bk BK401) hkp (fun hs_ => (fun e_ => (Kd.R_ne HO_402005.out BK401.out (by decide)) e_) hs_)); have n4_ := Aside0.mk (hb); clear HO_391005 HO_402005 BK390 BK401 HB; revert n0_ n1_ n2_ n3_ n4_; intro HO_391005 HO_402005 BK390 BK401 HB; (try clear hb); (try clear hkp); (try clear hy0); obtain ⟨hcz94_0, hcz94_1, hcz94_2, hcz94_3, hcz94_4, hcz94_5, hfz94_0, hfz94_1, hfz94_2, hfz94_3, hfz94_4, hfz94_5⟩ := bc6 BK401) | ((with_reducible refine gate_callee (f := 18) rfl ?_); refine goesL_ (some 52) rfl rfl Try.func18 (by kernel_rfl) rfl #[.agg #[.int .i64 t391, .int .i64 t392, .int .i64 t393, .int .i64 t394, .int .i64 t395, .slice Ao15 t404.length co15], .int .i64 1] rfl (by (try simp only [List.map_toArray, List.map_cons, List.map_nil]); first | done | (rw [show t404.length = t396.length from (Kd.R_reads' HO_402005.out).1.symm] <;> rfl) | rfl | (simp only [List.length_drop, List.length_take]; rfl)) ?_; (with_reducible refine (laws_heldJournal.calls kj5 t391 t392 t393 t394 t395 _ _ t404 1 t405 _ ?side1 ?side2 A33.out).mono ?_); (case side1 => repeat (first | exact (Kd.R_reads' HO_402005.out).2.2 | (with_reducible refine Kd.C_alloc ?_ _) | (with_reducible refine Kd.C_drewN ?_ _) | (with_reducible refine Kd.C_drew ?_))); (case side2 => rw [show t404.length = t396.length from (Kd.R_reads' HO_402005.out).1.symm]; exact (Kd.R_reads' HO_402005.out).2.1); rintro e w95 ⟨rfl, hb⟩; refine ⟨_, rfl, ?_⟩; have n0_ := rb HO_391005 hb; have n1_ := rb HO_402005 hb; have n2_ := bb BK390 hb; have n3_ := bb BK401 hb; have n4_ := Aside0.mk (below_step (bt HB) hb); clear HO_391005 HO_402005 BK390 BK401 HB; revert n0_ n1_ n2_ n3_ n4_; intro HO_391005 HO_402005 BK390 BK401 HB; (try clear hb); (try clear hb2); (try clear hk); (try clear hi)))
       go_ret
       exact ⟨by first | rfl | (simp [errW_none, errW_some] <;> rfl) | (simp [*, errW_none, errW_some] <;> rfl), bt HB⟩
def laws_FnExactReadJournal.Pure : Prop := ∀ (a0 : Int) (a1 : ByteArray), (Lit.int .i64 a0).wf = true → a1.size ≤ 140737488351232 → ∃ k, laws_FnExactReadJournal.f k a0 a1 = some true
theorem laws_FnExactReadJournal.walk (P : laws_FnExactReadJournal.Pure) (a0 : Int) (a1 : ByteArray) (w : World) (w0 : (Lit.int .i64 a0).wf = true) (w1 : a1.size ≤ 140737488351232) :
  Calls Try.prog 4 #[.int .i64 a0, .string a1] w fun e w' => e = .returned (.bool true) ∧ Below w.heap.size w w' := by
 obtain ⟨k, h⟩ := P a0 a1 w0 w1
 refine (laws_FnExactReadJournal.calls k a0 a1 true w h).mono ?_
 rintro e w' ⟨rfl, hd⟩
 exact ⟨rfl, hd⟩
end Go.Proofs.Ytghhepailkkneaa.PFnExactReadJournal
