/- Walks. No condition. -/
import Derived.Test.YtdepaileabejgaaGreatDoorTiny
import Derived.WalkSmall
import Derived.Test.YtdepaileabejgaaGreatDoorShelf
import Derived.Test.YtdepaileabejgaaGreatDoorQFnExactOpenJournalx0
namespace Go.Proofs.YtdepaileabejgaaGreatDoor.PFnExactOpenJournal
open Go.RowKit Go.Proofs.YtdepaileabejgaaGreatDoorW.PrintWords Go.Proofs.YtdepaileabejgaaGreatDoorW.PrintLast Go.Proofs.YtdepaileabejgaaGreatDoorW.PrintMore Go.Proofs.YtdepaileabejgaaGreatDoorW.Short
attribute [local go_sem] max2_int min2_int max_two min_two max_three min_three max_four min_four
set_option maxHeartbeats 8000000
set_option maxRecDepth 100000
set_option linter.unusedVariables false
set_option linter.unusedSimpArgs false
def laws_toFile.f (a0_0 : ByteArray) (a0_1 : ByteArray) (a0_2 : Int) : Option (ByteArray × ByteArray × Int) := some (a0_0, a0_1, a0_2)
theorem laws_toFile.calls (a0_0 : ByteArray) (a0_1 : ByteArray) (a0_2 : Int) (r1 : ByteArray) (r2 : ByteArray) (r3 : Int) (w : World) (H : laws_toFile.f a0_0 a0_1 a0_2 = some (r1, r2, r3)) :
 Calls Tryz.prog 51 #[.agg #[.string a0_0, .string a0_1, .int .i64 a0_2]] w fun e w' => e = .returned (.agg #[.string r1, .string r2, .int .i64 r3]) ∧ Below w.heap.size w w' := by
 have hu72 := Tryz.underlying72; have hu49 := Tryz.underlying49; have HB := ak (Below.refl w.heap.size w); unfold laws_toFile.f at H; obtain ⟨rfl, rfl, rfl⟩ := o3 H; go_enter Tryz.func51, Tryz.ntmps51
 go_wp2_with (first | ((with_reducible refine gd 1 rfl ?_); refine bx 1 72 #[.string a0_0, .string a0_1, .int .i64 a0_2] fun gb409 hg w2 BK409 hb => ?_; have GE409 := ge_ hg HB; replace HB := bs1 HB hb; clear hb hg) | ((with_reducible refine gd 2 rfl ?_); refine bx 2 49 #[.string (⟨#[]⟩ : ByteArray), .string (⟨#[]⟩ : ByteArray), .int .i64 0] fun gb410 hg w3 BK410 hb => ?_; have GE410 := ge_ hg HB; replace HB := bs1 HB hb; have NB409_410 := nl_ hg BK409; have NB410_409 := nr_ hg BK409; replace BK409 := bb BK409 hb; clear hb hg) | ((with_reducible refine gd 3 rfl ?_); refine bx 3 49 #[.string (⟨#[]⟩ : ByteArray), .string (⟨#[]⟩ : ByteArray), .int .i64 0] fun gb411 hg w4 BK411 hb => ?_; have GE411 := ge_ hg HB; replace HB := bs1 HB hb; have NB409_411 := nl_ hg BK409; have NB411_409 := nr_ hg BK409; replace BK409 := bb BK409 hb; have NB410_411 := nl_ hg BK410; have NB411_410 := nr_ hg BK410; replace BK410 := bb BK410 hb; clear hb hg; have := NB409_410.out; have := NB410_409.out; have := NB409_411.out; have := NB411_409.out; obtain ⟨_, _, _, _, _, _⟩ := bc3 BK409; have := NB411_410.out; have := NB410_411.out; obtain ⟨_, _, _, _, _, _⟩ := bc3 BK411; obtain ⟨_, _, _, _, _, _⟩ := bc3 BK410))
 refine bodyPost_ret (results_cell_row rfl _ _ gb410 49 #[.string a0_0, .string a0_1, .int .i64 a0_2] (0, 0) _ rfl (by refine bk_ ?_; refine blk_put (cs := #[.string a0_0, .string a0_1, .int .i64 0]) ?_ 2 _ rfl; refine bk_ ?_; refine blk_put (cs := #[.string a0_0, .string (⟨#[]⟩ : ByteArray), .int .i64 0]) ?_ 1 _ rfl; refine bk_ ?_; refine blk_put (cs := #[.string (⟨#[]⟩ : ByteArray), .string (⟨#[]⟩ : ByteArray), .int .i64 0]) ?_ 0 _ rfl; refine bk_ ?_; refine blk_far ?_ NB410_411.out _; refine bk_ ?_; refine blk_far ?_ NB410_411.out _; refine bk_ ?_; refine blk_far ?_ NB410_411.out _; refine bk_ ?_; exact BK410.out) Tryz.underlying49 rfl (by kernel_rfl)) rfl ?_
 exact ⟨fe, bt HB⟩
def laws_toFileS.l0 : Nat → List (S72) → List (S49) → Int → Option ((List (S49)))
 | 0, _, _, _ => none
 | k + 1, x0, x3, x4 => if x4 < (x0.length : Int) then (if 0 ≤ x4 then ((laws_toFile.f ((rd_T72 x0 x4).f0) ((rd_T72 x0 x4).f1) ((rd_T72 x0 x4).f2)).bind fun bt416 => (if x4 < (x3.length : Int) then (laws_toFileS.l0 k x0 (x3.set (x4 : Int).toNat (⟨bt416.1, bt416.2.1, bt416.2.2⟩ : S49)) (wrap64 (x4 + 1))) else (none))) else (none)) else (some x3)
def laws_toFileS.f (k : Nat) (l0 : List (S72)) : Option ((List (S49))) := if 0 ≤ (l0.length : Int) then (if ((l0.length : Int) : Int).toNat ≤ 7036874417766 then (laws_toFileS.l0 k l0 (List.replicate ((l0.length : Int) : Int).toNat z49) 0) else (none)) else (none)
theorem laws_toFileS.calls (k : Nat) (A0 : Option Addr) (c0 : Nat) (l0 : List (S72)) (r : List (S49)) (w : World) (hr0 : Kd.C k72 w A0 l0.length l0) (hc0 : l0.length ≤ c0) (H : laws_toFileS.f k l0 = some r) :
 Calls Tryz.prog 25 #[.slice A0 l0.length c0] w fun e w' => ∃ v0_ : Value, e = .returned (v0_) ∧ Kd.R k49 49 w' w.heap.size (fun _ => True) v0_ r ∧ Below w.heap.size w w' := by
 have hu72 := Tryz.underlying72; have hu49 := Tryz.underlying49; have HR0 := ak hr0; have HC0 := ak hc0; clear hr0 hc0; have HB := ak (Below.refl w.heap.size w); unfold laws_toFileS.f at H; obtain ⟨c2, H⟩ := ifs H; have c2b0 := eq_true c2; have c2b1 := dt c2; clear c2; obtain ⟨c3, H⟩ := ifs H; have c3b0 := eq_true c3; have c3b1 := dt c3; clear c3; obtain ⟨y412, hy412⟩ : ∃ y_ : List (S49), y_ = (List.replicate ((l0.length : Int) : Int).toNat z49) := ⟨_, rfl⟩
 first | replace H := bs hy412 H | rw [← hy412] at H
 have Ny412 := ak hy412; clear hy412; have H' := ak H; clear H; go_enter Tryz.func25, Tryz.ntmps25
 go_wp2_with (first | ((with_reducible refine gate_dst (N := 7) rfl ?_); refine Kd.R_make k49 _ 49 rfl (N := 7) rfl 34 _ _ rfl (l0.length : Int) rfl rfl Tryz.underlying34 (.agg #[(.string ⟨#[]⟩), (.string ⟨#[]⟩), (.int .i64 0)]) 40 info49 rfl (by decide) (by omega) z49 (ok := fun _ => True) (okp := fun _ => True) (k49_mkM _ _ _ z49 ) (fun _ hk => hk) trivial (da) (Nat.le_trans (Nat.mul_le_mul_right _ (da : (l0.length : Int).toNat ≤ 7036874417766)) (by omega)) (Below.refl _ _) (Nat.le_refl _) ?_; intro v413 w4 ho5 hb hg_ hnew_; clear hg_ hnew_; (first | rw [← Ny412.out] at ho5 | (simp only [Int.reduceToNat] at ho5; rw [← Ny412.out] at ho5)); have HO414 := ak (Kd.R_lower ho5 (below_size (bt HB))); replace HB := bs1 HB hb; clear hb ho5))
 go_loopg [4] k (fun kq v4 w' => ∃ (x3_1 : List (S49)) (x4_1 : Int), v4 = .int .i64 x4_1 ∧ Aside0 (laws_toFileS.l0 kq l0 x3_1 x4_1 = some r) ∧ Aside0 (kq ≤ k) ∧ Aside0 (Kd.R k49 49 w' w.heap.size (fun _ => True) v413 x3_1) ∧ Aside0 (Below w.heap.size w w'))
 case atStart => exact ⟨(y412), (0), fr, H', ⟨Nat.le_refl _⟩, ⟨rk HO414⟩, ⟨bt HB⟩⟩
 case round =>
  clear H'; obtain ⟨x3_1, x4_1, rfl, HA, HK1, HO_3, HB⟩ := hrel
  cases gk with
  | zero => exact absurd HA.out (by simp [laws_toFileS.l0])
  | succ k1 =>
   have H := HA.out; clear HA; simp only [laws_toFileS.l0] at H; revert H
   refine si (fun c6 H => ?_) fun c6 H => ?_
   ·have c6b0 := dt c6; clear c6; obtain ⟨c7, H⟩ := ifs H; have c7b0 := dt c7; clear c7; obtain ⟨⟨t416, t417, t418⟩, A8, H⟩ := bo H
    try dsimp only at H
    obtain ⟨c9, H⟩ := ifs H; have c9b0 := dt c9; clear c9; obtain ⟨y419, hy419⟩ : ∃ y_ : List (S49), y_ = (x3_1.set (x4_1 : Int).toNat (⟨t416, t417, t418⟩ : S49)) := ⟨_, rfl⟩
    first | replace H := bs hy419 H | rw [← hy419] at H
    have Ny419 := ak hy419; clear hy419; have H' := ak H; clear H; obtain ⟨ad415, e415, hx415_0, hx415_1, hx415_2, p415, q415⟩ := ax72 HR0 HB x4_1; cases e415
    go_wp2_with (first | ((with_reducible refine gd 20 rfl ?_); refine gc 20 Tryz.func51 (laws_toFile.calls ((rd_T72 l0 x4_1).f0) ((rd_T72 l0 x4_1).f1) ((rd_T72 l0 x4_1).f2) t416 t417 t418 _ A8.out) fun w11 hb => ?_; replace HO_3 := rb HO_3 hb; replace HB := bs1 HB hb; have p10 : 0 ≤ (x4_1 : Int) := da; have q10 : (x4_1 : Int) < ((x3_1.length : Int) : Int) := da; obtain ⟨go10, co10, eo10, gb10, gl10, cl10, HG10⟩ := Kd.R_form HO_3.out (by omega); (first | cases eo10 | (injection eo10 with ea_ en_ ec_; (first | subst ea_ | (injection ea_ with ea_; subst ea_)); subst ec_; clear en_)); have GB10 := ak gb10; have GG10 := ak HG10; clear gb10 gl10 HG10; obtain ⟨ce10, hcl10, hM10, hcc10, hfr10⟩ := Kd.R_elem HO_3.out z49 (x4_1 : Int) p10 q10; obtain rfl := k49_openM hM10; have hx10_0 : w11.cell? ⟨go10, (x4_1 : Int).toNat * 3, none⟩ = some (.string ((rd_T49 x3_1 x4_1).f0)) := hcc10 0 _ rfl; have hx10_1 : w11.cell? ⟨go10, (x4_1 : Int).toNat * 3 + 1, none⟩ = some (.string ((rd_T49 x3_1 x4_1).f1)) := hcc10 1 _ rfl; have hx10_2 : w11.cell? ⟨go10, (x4_1 : Int).toNat * 3 + 2, none⟩ = some (.int .i64 ((rd_T49 x3_1 x4_1).f2)) := hcc10 2 _ rfl; have hf10_0 : w11.frozen? ⟨go10, (x4_1 : Int).toNat * 3, none⟩ = false := hfr10 0; have hf10_1 : w11.frozen? ⟨go10, (x4_1 : Int).toNat * 3 + 1, none⟩ = false := hfr10 1; have hf10_2 : w11.frozen? ⟨go10, (x4_1 : Int).toNat * 3 + 2, none⟩ = false := hfr10 2; clear hcl10 hcc10 hfr10 hM10; replace p10 := eq_true p10; replace q10 := eq_true q10; have HX12 := ak (show Kd.R k49 49 w11 w.heap.size (fun _ => True) (.slice (some ⟨go10, 0, none⟩) x3_1.length co10) x3_1 from (rk HO_3)); obtain ⟨ce12, hcl12, hM12, hcc12, hfr12⟩ := Kd.R_elem HX12.out z49 (x4_1 : Int) (da) (by have h_ : (x4_1 : Int) < ((x3_1.length : Int) : Int) := da; first | exact h_ | (have e_ := (Kd.R_reads' HO_3.out).1; omega) | simpa using h_); obtain rfl := k49_openM hM12; have HP12 := Kd.R_seg HX12.out (x4_1 : Int) (da) (by have h_ : (x4_1 : Int) < ((x3_1.length : Int) : Int) := da; first | exact h_ | (have e_ := (Kd.R_reads' HO_3.out).1; omega) | simpa using h_) (seg := [.string t416, .string t417, .int .i64 t418]) (j := 0) hcl12 hcc12 (show 3 ≤ 3 from by decide) (x' := (⟨t416, t417, t418⟩ : S49)) (k49_mkM _ _ _ (⟨t416, t417, t418⟩ : S49) ) (fun _ hk => hk); have hx12_0 := hcc12 0 _ rfl; (try simp only [show (k49).sz = 3 from rfl, Nat.mul_one, Nat.add_zero] at hx12_0); have hf12_0 := hfr12 0; (try simp only [show (k49).sz = 3 from rfl, Nat.mul_one, Nat.add_zero] at hf12_0); have hx12_1 := hcc12 1 _ rfl; (try simp only [show (k49).sz = 3 from rfl, Nat.mul_one, Nat.add_zero] at hx12_1); have hf12_1 := hfr12 1; (try simp only [show (k49).sz = 3 from rfl, Nat.mul_one, Nat.add_zero] at hf12_1); have hx12_2 := hcc12 2 _ rfl; (try simp only [show (k49).sz = 3 from rfl, Nat.mul_one, Nat.add_zero] at hx12_2); have hf12_2 := hfr12 2; (try simp only [show (k49).sz = 3 from rfl, Nat.mul_one, Nat.add_zero] at hf12_2); clear hcl12 hcc12 hfr12 hM12) | ((with_reducible refine gate_store (t := 49) (p := 21) rfl ?_); refine store_event (t := 49) (p := 21) (v := ?vo_w13) (w1 := (((w11.setCell ⟨go10, (x4_1 : Int).toNat * 3, none⟩ (.string t416)).setCell ⟨go10, (x4_1 : Int).toNat * 3 + 1, none⟩ (.string t417)).setCell ⟨go10, (x4_1 : Int).toNat * 3 + 2, none⟩ (.int .i64 t418))) ?hg ?ho ?hn ?hr ?_; (case ho => rfl); (case hg => rfl); (case hn => rfl); (case hr => first | (go_simp; done) | (go_simp; rfl)); intro w13 hw; have hg : w11.grownBy w13 (some go10) := (by rw [hw]; exact HP12.2); have hp_ : Kd.R k49 49 w13 w.heap.size (fun _ => True) (.slice (some ⟨go10, 0, none⟩) x3_1.length co10) y419 := (by rw [hw, Ny419.out]; exact HP12.1); clear HP12; have n0_ := ak hp_; have n1_ := ak ((by rw [hw]; exact below_set (below_set (below_set (HB.out) GB10.out) GB10.out) GB10.out : Below w.heap.size w w13)); clear HO_3 HB; revert n0_ n1_; intro HO_3 HB; clear hg hw hp_))
    go_roundg k1
    case measure => have := HK1.out; omega
    case rel => exact ⟨(y419), (wrap64 (x4_1 + 1)), fr, H', ⟨by have := HK1.out; omega⟩, ⟨rk HO_3⟩, ⟨bt HB⟩⟩
   ·have c6b0 := df c6; clear c6; obtain rfl := oj H; go_wp2; go_ret; exact ⟨_, fe, rk HO_3, bt HB⟩
def laws_toDisk.f (k : Nat) (l0_0 : List (S72)) : Option ((List (S49))) := (laws_toFileS.f k l0_0).bind fun t423 => (some t423)
theorem laws_toDisk.calls (k : Nat) (A0_0 : Option Addr) (c0_0 : Nat) (l0_0 : List (S72)) (r : List (S49)) (w : World) (hr0_0 : Kd.C k72 w A0_0 l0_0.length l0_0) (hc0_0 : l0_0.length ≤ c0_0) (H : laws_toDisk.f k l0_0 = some r) :
 Calls Tryz.prog 6 #[.agg #[.slice A0_0 l0_0.length c0_0]] w fun e w' => ∃ v0_ : Value, e = .returned (.agg #[v0_]) ∧ Kd.R k49 49 w' w.heap.size (fun _ => True) v0_ r ∧ Below w.heap.size w w' := by
 have hu24 := Tryz.underlying24; have hu36 := Tryz.underlying36; have HR0_0 := ak hr0_0; have HC0_0 := ak hc0_0; clear hr0_0 hc0_0; have HB := ak (Below.refl w.heap.size w); unfold laws_toDisk.f at H; obtain ⟨t423, A2, H⟩ := bo H; obtain rfl := oj H; go_enter Tryz.func6, Tryz.ntmps6
 go_wp2_with (first | ((with_reducible refine gd 1 rfl ?_); refine bx 1 24 #[.slice A0_0 l0_0.length c0_0] fun gb420 hg w3 BK420 hb => ?_; have GE420 := ge_ hg HB; replace HB := bs1 HB hb; clear hb hg) | ((with_reducible refine gd 2 rfl ?_); refine bx 2 36 #[.slice none 0 0] fun gb421 hg w4 BK421 hb => ?_; have GE421 := ge_ hg HB; replace HB := bs1 HB hb; have NB420_421 := nl_ hg BK420; have NB421_420 := nr_ hg BK420; replace BK420 := bb BK420 hb; clear hb hg) | ((with_reducible refine gd 3 rfl ?_); refine bx 3 36 #[.slice none 0 0] fun gb422 hg w5 BK422 hb => ?_; have GE422 := ge_ hg HB; replace HB := bs1 HB hb; have NB420_422 := nl_ hg BK420; have NB422_420 := nr_ hg BK420; replace BK420 := bb BK420 hb; have NB421_422 := nl_ hg BK421; have NB422_421 := nr_ hg BK421; replace BK421 := bb BK421 hb; clear hb hg; have := NB420_421.out; have := NB421_420.out; have := NB420_422.out; have := NB422_420.out; obtain ⟨_, _⟩ := bc1 BK420) | ((with_reducible refine gd 6 rfl ?_); refine gcv 6 Tryz.func25 (laws_toFileS.calls k _ _ l0_0 t423 _ ?s1 ?s2 A2.out) fun v424 w9 h_ => ?_; (case s1 => exact ca HR0_0 HB); (case s2 => exact HC0_0.out); obtain ⟨ho0, hb⟩ := h_; have HO425 := ak (Kd.R_lower ho0 (below_size (bt HB))); replace BK420 := bb BK420 hb; replace BK421 := bb BK421 hb; replace BK422 := bb BK422 hb; replace HB := bs1 HB hb; (try clear ho0); obtain ⟨Ao10, co10, eo10⟩ := Kd.R_slice HO425.out; subst eo10; have := NB422_421.out; have := NB421_422.out; obtain ⟨_, _⟩ := bc1 BK422; obtain ⟨_, _⟩ := bc1 BK421))
 refine bodyPost_ret (results_cell_row rfl _ _ gb421 36 #[.slice Ao10 t423.length co10] (0, 0) _ rfl (by refine bk_ ?_; refine blk_put (cs := #[.slice none 0 0]) ?_ 0 _ rfl; refine bk_ ?_; refine blk_far ?_ NB421_422.out _; refine bk_ ?_; exact BK421.out) Tryz.underlying36 rfl (by kernel_rfl)) rfl ?_
 exact ⟨_, fe, by (with_reducible repeat (first | apply Kd.R_alloc | apply Kd.R_drewN | apply Kd.R_drew)); exact rfm2 HO425 BK422 BK421, bt HB⟩
def stringslite_HasPrefix.f (a0 : ByteArray) (a1 : ByteArray) : Option (Bool) := if (a0.size : Int) ≥ (a1.size : Int) then (if 0 ≤ (a1.size : Int) then (if (a1.size : Int) ≤ (a0.size : Int) then (some ((a0.extract 0 ((a1.size : Int) : Int).toNat).toList == a1.toList)) else (none)) else (none)) else (some false)
theorem stringslite_HasPrefix.calls (a0 : ByteArray) (a1 : ByteArray) (r : Bool) (w : World) (H : stringslite_HasPrefix.f a0 a1 = some r) :
 Calls Tryz.prog 115 #[.string a0, .string a1] w fun e w' => e = .returned (.bool r) ∧ Drawn0 w w' := by
 unfold stringslite_HasPrefix.f at H; revert H
 refine si (fun c3 H => ?_) fun c3 H => ?_
 have c3b0 : decide ((a1.size : Int) ≤ (a0.size : Int)) = true := dt c3; have c3b1 : decide (a1.size ≤ a0.size) = true := dt (Int.ofNat_le.mp c3); clear c3; obtain ⟨c4, H⟩ := ifs H; have c4b0 := eq_true c4; have c4b1 := dt c4; clear c4; obtain ⟨c5, H⟩ := ifs H; have c5b0 := eq_true c5; have c5b1 := dt c5; clear c5; obtain rfl := oj H; rotate_left; have c3b0 : decide ((a1.size : Int) ≤ (a0.size : Int)) = false := df c3
 have c3b1 : decide (a1.size ≤ a0.size) = false := df (fun h => c3 (Int.ofNat_le.mpr h))
 clear c3; obtain rfl := oj H
 all_goals
  go_enter Tryz.func115, Tryz.ntmps115; go_wp2; go_ret
  exact ⟨fr, d0⟩
def stringslite_CutPrefix.f (a0 : ByteArray) (a1 : ByteArray) : Option (ByteArray × Bool) := (stringslite_HasPrefix.f a0 a1).bind fun t426 => (if t426 = true then (if 0 ≤ (a1.size : Int) then (if (a1.size : Int) ≤ (a0.size : Int) then (some (a0.extract ((a1.size : Int) : Int).toNat a0.size, true)) else (none)) else (none)) else (some (a0, false)))
theorem stringslite_CutPrefix.calls (a0 : ByteArray) (a1 : ByteArray) (r1 : ByteArray) (r2 : Bool) (w : World) (H : stringslite_CutPrefix.f a0 a1 = some (r1, r2)) :
 Calls Tryz.prog 103 #[.string a0, .string a1] w fun e w' => e = .returned (.tuple #[.string r1, .bool r2]) ∧ Drawn0 w w' := by
 unfold stringslite_CutPrefix.f at H; obtain ⟨t426, A3, H⟩ := bo H; cases t426; rotate_left; rw [if_pos rfl] at H; obtain ⟨c5, H⟩ := ifs H; have c5b0 := eq_true c5; have c5b1 := dt c5; clear c5; obtain ⟨c6, H⟩ := ifs H; have c6b0 := eq_true c6; have c6b1 := dt c6; clear c6; obtain ⟨rfl, rfl⟩ := o2 H; rotate_left; rw [if_neg nf] at H; obtain ⟨rfl, rfl⟩ := o2 H
 all_goals
  go_enter Tryz.func103, Tryz.ntmps103
  go_wp2_with (first | ((with_reducible refine gd 8 rfl ?_); refine gc 8 Tryz.func115 (stringslite_HasPrefix.calls a0 a1 _ _ A3.out) fun w' h_ => ?_; obtain ⟨nd, rfl⟩ := h_))
  go_ret2
  exact ⟨fr, d0⟩
def strings_CutPrefix.f (a0 : ByteArray) (a1 : ByteArray) : Option (ByteArray × Bool) := (stringslite_CutPrefix.f a0 a1).bind fun bt427 => (some (bt427.1, bt427.2))
theorem strings_CutPrefix.calls (a0 : ByteArray) (a1 : ByteArray) (r1 : ByteArray) (r2 : Bool) (w : World) (H : strings_CutPrefix.f a0 a1 = some (r1, r2)) :
 Calls Tryz.prog 79 #[.string a0, .string a1] w fun e w' => e = .returned (.tuple #[.string r1, .bool r2]) ∧ Drawn0 w w' := by
 unfold strings_CutPrefix.f at H; obtain ⟨⟨t427, t428⟩, A3, H⟩ := bo H
 try dsimp only at H
 obtain ⟨rfl, rfl⟩ := o2 H; go_enter Tryz.func79, Tryz.ntmps79
 go_wp2_with (first | ((with_reducible refine gd 8 rfl ?_); refine gc 8 Tryz.func103 (stringslite_CutPrefix.calls a0 a1 t427 t428 _ A3.out) fun w' h_ => ?_; obtain ⟨nd, rfl⟩ := h_))
 go_ret2
 exact ⟨fr, d0⟩
def impl_in.f (a0 : Int) (a1 : Int) (a2 : Int) : Option (Bool) := if a0 ≥ a1 then (some (decide (a0 ≤ a2))) else (some false)
theorem impl_in.calls (a0 : Int) (a1 : Int) (a2 : Int) (r : Bool) (w : World) (H : impl_in.f a0 a1 a2 = some r) :
 Calls Tryz.prog 54 #[.int .i64 a0, .int .i64 a1, .int .i64 a2] w fun e w' => e = .returned (.bool r) ∧ Drawn0 w w' := by
 unfold impl_in.f at H; revert H
 refine si (fun c4 H => ?_) fun c4 H => ?_
 have c4b0 : decide (a1 ≤ a0) = true := dt c4; clear c4; obtain rfl := oj H; rotate_left; have c4b0 : decide (a1 ≤ a0) = false := df c4; clear c4; obtain rfl := oj H
 all_goals
  go_enter Tryz.func54, Tryz.ntmps54; go_wp2; go_ret
  exact ⟨fr, d0⟩
theorem grown_below (w : World) (k : Nat) (os : Array Obj) : Below w.heap.size w (Sort.grow (w.drewN k) os) :=
 ⟨rfl, rfl, rfl, by show w.heap.size ≤ (w.heap ++ os).size; rw [Array.size_append]; omega, fun j hj => by show (w.heap ++ os)[j]? = w.heap[j]?; exact Array.getElem?_append_left hj⟩
def Tab (w : World) : Prop := Lib.TabIs Tryz.prog w "internal/strconv.uint64pow10" .u64 Lib.pow10Tab
theorem tab_below {w w1 : World} (h : Aside0 (Tab w)) (hb : Below w.heap.size w w1) : Tab w1 := by
 have h1 : w.var? Tryz.prog "internal/strconv.uint64pow10" = some (Lib.pow10Tab.map fun z => Value.int .u64 z).toArray := h.out
 cases hg : Tryz.prog.globalNamed "internal/strconv.uint64pow10" with
 | none =>
  simp only [World.var?, hg, Option.bind_none] at h1
  cases h1
 | some g =>
 refine var?_below hb hg ?_ h1
 unfold World.var? at h1
 simp only [hg, Option.bind_some] at h1
 rcases Nat.lt_or_ge g w.heap.size with h2 | h2
 ·exact h2
 ·rw [Array.getElem?_eq_none h2] at h1
  cases h1
def strconv_Itoa_83.f (a0 : Int) : Option (ByteArray) := if decide (-9223372036854775808 ≤ a0) && decide (a0 ≤ 9223372036854775807) then some ⟨(Lib.itoa a0).toArray⟩ else none
theorem strconv_Itoa_83.calls (a0 : Int) (r : ByteArray) (w : World) (h : strconv_Itoa_83.f a0 = some r) (HT : Tab w) :
 Calls Tryz.prog 83 #[.int .i64 a0] w fun e w' => e = .returned (.string r) ∧ Below w.heap.size w w' := by
 unfold strconv_Itoa_83.f at h
 split at h
 ·rename_i hb
  simp only [Bool.and_eq_true, decide_eq_true_eq] at hb; obtain rfl := Option.some.inj h; refine (Tryz.strconv_Itoa a0 hb.1 hb.2 w HT).mono ?_; rintro e w' ⟨rfl, k, os, rfl⟩; exact ⟨rfl, grown_below _ _ _⟩
 ·cases h
def impl_Decimal.f (a0 : Int) : Option (ByteArray) := (strconv_Itoa_83.f a0).bind fun t448 => (some t448)
theorem impl_Decimal.calls (a0 : Int) (r : ByteArray) (w : World) (H : impl_Decimal.f a0 = some r) (HT0 : Tab w) :
 Calls Tryz.prog 55 #[.int .i64 a0] w fun e w' => e = .returned (.string r) ∧ Below w.heap.size w w' := by
 have HB := ak (Below.refl w.heap.size w); have HT := ak HT0; clear HT0; unfold impl_Decimal.f at H; obtain ⟨t448, A2, H⟩ := bo H; obtain rfl := oj H; go_enter Tryz.func55, Tryz.ntmps55
 go_wp2_with (first | ((with_reducible refine gd 4 rfl ?_); refine gc 4 Tryz.func83 (strconv_Itoa_83.calls a0 t448 _ A2.out (tab_below HT (bt HB))) fun w3 hb => ?_; replace HB := bs1 HB hb))
 go_ret; exact ⟨fe, bt HB⟩
