/- Walks. No condition. -/
import Derived.Test.YtdepaileabejgaaGreatDoorQFnExactOpenJournalx17
namespace Go.Proofs.YtdepaileabejgaaGreatDoor.PFnExactOpenJournal
open Go.RowKit Go.Proofs.YtdepaileabejgaaGreatDoorW.PrintWords Go.Proofs.YtdepaileabejgaaGreatDoorW.PrintLast Go.Proofs.YtdepaileabejgaaGreatDoorW.PrintMore Go.Proofs.YtdepaileabejgaaGreatDoorW.Short
attribute [local go_sem] max2_int min2_int max_two min_two max_three min_three max_four min_four
set_option maxHeartbeats 8000000
set_option maxRecDepth 100000
set_option linter.unusedVariables false
set_option linter.unusedSimpArgs false
mutual
def impl_SumMore.l0 : Nat → Int → ByteArray → Int → Int → Option (Int)
 | 0, _, _, _, _ => none
 | k + 1, x0, x1, x8, x9 => if x9 < x8 then (if 0 ≤ x9 then (if x9 < (x1.size : Int) then (impl_SumMore.l1 k (Go.bits .xor .u32 x0 ((bt x1 x9) % 4294967296)) x1 x8 x9 0) else (none)) else (none)) else (some x0)
def impl_SumMore.l1 : Nat → Int → ByteArray → Int → Int → Int → Option (Int)
 | 0, _, _, _, _, _ => none
 | k + 1, x0, x1, x8, x9, x18 => if x18 < 8 then (if (Go.bits .and .u32 x0 1) = 1 then (impl_SumMore.l1 k (Go.bits .xor .u32 (x0 / 2) 3558460437) x1 x8 x9 (wrap64 (x18 + 1))) else (impl_SumMore.l1 k (x0 / 2) x1 x8 x9 (wrap64 (x18 + 1)))) else (impl_SumMore.l0 k x0 x1 x8 (wrap64 (x9 + 1)))
end
def impl_SumMore.f (k : Nat) (a0 : Int) (a1 : ByteArray) : Option (Int) := impl_SumMore.l0 k a0 a1 (a1.size : Int) 0
theorem impl_SumMore.calls (k : Nat) (a0 : Int) (a1 : ByteArray) (r : Int) (w : World) (H : impl_SumMore.f k a0 a1 = some r) :
 Calls Tryz.prog 106 #[.int .u32 a0, .string a1] w fun e w' => e = .returned (.int .u32 r) ∧ Drawn0 w w' := by
 unfold impl_SumMore.f at H; have H' := ak H; clear H; go_enter Tryz.func106, Tryz.ntmps106; go_wp2
 go_loopg [0, 9] k (fun kq v0 v9 w' => ∃ (x0_1 : Int) (x9_1 : Int), v0 = .int .u32 x0_1 ∧ v9 = .int .i64 x9_1 ∧ Aside0 (impl_SumMore.l0 kq x0_1 a1 (a1.size : Int) x9_1 = some r) ∧ Aside0 (kq ≤ k) ∧ Drawn0 w w')
 case atStart => exact ⟨(a0), (0), fr, fr, H', ⟨Nat.le_refl _⟩, d0⟩
 case round =>
  clear H'; obtain ⟨x0_1, x9_1, rfl, rfl, HA, HK1, ⟨m1, rfl⟩⟩ := hrel
  cases gk with
  | zero => exact absurd HA.out (by simp [impl_SumMore.l0])
  | succ k1 =>
   have H := HA.out; clear HA; simp only [impl_SumMore.l0] at H; revert H
   refine si (fun c3 H => ?_) fun c3 H => ?_
   ·have c3b0 := dt c3; clear c3; obtain ⟨c4, H⟩ := ifs H; have c4b0 := dt c4; clear c4; obtain ⟨c5, H⟩ := ifs H; have c5b0 := dt c5; clear c5; have H' := ak H; clear H; have p6 : 0 ≤ (x9_1 : Int) := da; have q6 : x9_1 < (a1.size : Int) := da; have hx6 := bt_at a1 x9_1; replace p6 := eq_true p6; replace q6 := eq_true q6; go_wp2
    go_loopg [0, 18] k1 (fun kq v0 v18 w' => ∃ (x0_2 : Int) (x18_2 : Int), v0 = .int .u32 x0_2 ∧ v18 = .int .i64 x18_2 ∧ Aside0 (impl_SumMore.l1 kq x0_2 a1 (a1.size : Int) x9_1 x18_2 = some r) ∧ Aside0 (kq ≤ k1) ∧ Drawn0 w w')
    case atStart => exact ⟨(Go.bits .xor .u32 x0_1 ((bt a1 x9_1) % 4294967296)), (0), fr, fr, H', ⟨Nat.le_refl _⟩, d0⟩
    case round =>
     clear H'; obtain ⟨x0_2, x18_2, rfl, rfl, HA, HK2, ⟨m2, rfl⟩⟩ := hrel
     cases gk with
     | zero => exact absurd HA.out (by simp [impl_SumMore.l1])
     | succ k2 =>
      have H := HA.out; clear HA; simp only [impl_SumMore.l1] at H; revert H
      refine si (fun c7 H => ?_) fun c7 H => ?_
      ·have c7b0 := dt c7; clear c7; revert H
       refine si (fun c8 H => ?_) fun c8 H => ?_
       ·have c8b0 : ((Go.bits .and .u32 x0_2 1) == 1) = true := beq_iff_eq.mpr c8; have c8b1 : ((Go.bits .and .u32 x0_2 1) != 1) = false := bne_eq_false_iff_eq.mpr c8; clear c8; have H' := ak H; clear H; go_wp2; go_roundg k2
        case measure => have := HK1.out; have := HK2.out; omega
        case rel => exact ⟨(Go.bits .xor .u32 (x0_2 / 2) 3558460437), (wrap64 (x18_2 + 1)), fr, fr, H', ⟨by have := HK1.out; have := HK2.out; omega⟩, d0⟩
       ·have c8b0 : ((Go.bits .and .u32 x0_2 1) == 1) = false := beq_eq_false_iff_ne.mpr c8; have c8b1 : ((Go.bits .and .u32 x0_2 1) != 1) = true := bne_iff_ne.mpr c8; have H' := ak H; clear H; go_wp2; go_roundg k2
        case measure => have := HK1.out; have := HK2.out; omega
        case rel => exact ⟨(x0_2 / 2), (wrap64 (x18_2 + 1)), fr, fr, H', ⟨by have := HK1.out; have := HK2.out; omega⟩, d0⟩
      ·have c7b0 := df c7; clear c7; have H' := ak H; clear H; go_wp2; go_roundg k2
       case measure => have := HK1.out; have := HK2.out; omega
       case rel => exact ⟨(x0_2), (wrap64 (x9_1 + 1)), fr, fr, H', ⟨by have := HK1.out; have := HK2.out; omega⟩, d0⟩
   ·have c3b0 := df c3; clear c3; obtain rfl := oj H; go_wp2; go_ret
    exact ⟨fr, d0⟩
def impl_SumOf.f (k : Nat) (a0 : ByteArray) : Option (Int) := (impl_SumMore.f k 4294967295 a0).bind fun t483 => (some t483)
theorem impl_SumOf.calls (k : Nat) (a0 : ByteArray) (r : Int) (w : World) (H : impl_SumOf.f k a0 = some r) :
 Calls Tryz.prog 86 #[.string a0] w fun e w' => e = .returned (.int .u32 r) ∧ Drawn0 w w' := by
 unfold impl_SumOf.f at H; obtain ⟨t483, A2, H⟩ := bo H; obtain rfl := oj H; go_enter Tryz.func86, Tryz.ntmps86
 go_wp2_with (first | ((with_reducible refine gd 4 rfl ?_); refine gc 4 Tryz.func106 (impl_SumMore.calls k 4294967295 a0 t483 _ A2.out) fun w' h_ => ?_; obtain ⟨nd, rfl⟩ := h_))
 go_ret
 exact ⟨fr, d0⟩
def impl_frameAt.j0 : Nat → ByteArray → Int → Int → Bool → Option (ByteArray × Int × Bool)
 | 0, _, _, _, _ => none
 | k + 1, x0, x7, x8, x34 => if x34 = true then (some ((⟨#[]⟩ : ByteArray), 0, false)) else (if 0 ≤ (wrap64 (x8 + 4)) then (if (wrap64 (x8 + 4)) ≤ (wrap64 ((wrap64 (x8 + 4)) + x7)) then (if (wrap64 ((wrap64 (x8 + 4)) + x7)) ≤ (x0.size : Int) then (if 0 ≤ x8 then (if x8 ≤ (wrap64 (x8 + 4)) then (if (wrap64 (x8 + 4)) ≤ (x0.size : Int) then ((impl_SumOf.f k (x0.extract ((wrap64 (x8 + 4)) : Int).toNat ((wrap64 ((wrap64 (x8 + 4)) + x7)) : Int).toNat)).bind fun t488 => ((impl_fourBytes.f t488).bind fun t489 => (if (x0.extract (x8 : Int).toNat ((wrap64 (x8 + 4)) : Int).toNat).toList = t489.toList then (some (x0.extract ((wrap64 (x8 + 4)) : Int).toNat ((wrap64 ((wrap64 (x8 + 4)) + x7)) : Int).toNat, wrap64 ((wrap64 (x8 + 4)) + x7), true)) else (some ((⟨#[]⟩ : ByteArray), 0, false))))) else (none)) else (none)) else (none)) else (none)) else (none)) else (none))
def impl_frameAt.f (k : Nat) (a0 : ByteArray) (a1 : Int) : Option (ByteArray × Int × Bool) := (impl_ReadVar.f k a0 a1).bind fun bt484 => (if bt484.2.2 = true then ((impl_in.f bt484.1 1 9000).bind fun t487 => (if t487 = true then (impl_frameAt.j0 k a0 bt484.1 bt484.2.1 (decide (bt484.1 > (wrap64 ((wrap64 ((a0.size : Int) - bt484.2.1)) - 4))))) else (impl_frameAt.j0 k a0 bt484.1 bt484.2.1 true))) else (impl_frameAt.j0 k a0 bt484.1 bt484.2.1 true))
def impl_frameAt.T6 : Bool × List (List Nat × List Nat) := (true, [([], []), ([], []), ([], []), ([2], [2]), ([0, 1, 3], [0, 1, 3]), ([], []), ([5], [5]), ([6, 6], [6]), ([4, 7], [4, 7])])
def impl_frameAt.B6 : List Nat := [0, 0, 0, 4, 15, 0, 32, 96, 255]
theorem impl_frameAt.tab6 : rtab .any (opsOf Tryz.f56 6) = impl_frameAt.T6 := by kernel_rfl
theorem impl_frameAt.bits6 : waitsOk impl_frameAt.T6.2 impl_frameAt.B6 = true := by kernel_rfl
theorem impl_frameAt.calls (k : Nat) (a0 : ByteArray) (a1 : Int) (r1 : ByteArray) (r2 : Int) (r3 : Bool) (w : World) (H : impl_frameAt.f k a0 a1 = some (r1, r2, r3)) :
 Calls Tryz.prog 56 #[.string a0, .int .i64 a1] w fun e w' => e = .returned (.tuple #[.string r1, .int .i64 r2, .bool r3]) ∧ Below w.heap.size w w' := by
 have HB := ak (Below.refl w.heap.size w); unfold impl_frameAt.f at H; obtain ⟨⟨t484, t485, t486⟩, A3, H⟩ := bo H
 try dsimp only at H
 have HC4 := ak H; clear H; go_enter Tryz.func56, Tryz.ntmps56
 go_upto_region 2 with (first | ((with_reducible refine gd 15 rfl ?_); refine gc 15 Tryz.func84 (impl_ReadVar.calls k a0 a1 t484 t485 t486 _ A3.out) fun w' h_ => ?_; obtain ⟨nd, rfl⟩ := h_))
 (try simp only [Act.put, zA, zB, zC])
 go_cut [34] (fun v34 wc => ∃ (kq : Nat) (x34_3 : Bool), v34 = .bool x34_3 ∧ Aside0 (impl_frameAt.j0 kq a0 t484 t485 x34_3 = some (r1, r2, r3)) ∧ Aside0 (kq ≤ k) ∧ Aside0 (Below w.heap.size w wc))
 case first =>
  have H := HC4.out; clear HC4; cases t486; rotate_left
  focus
   rw [if_pos rfl] at H; obtain ⟨t487, A6, H⟩ := bo H; cases t487; rotate_left; rw [if_pos rfl] at H; have H' := ak H; clear H; rotate_left; rw [if_neg nf] at H; have H' := ak H; clear H
  rotate_left 2; rw [if_neg nf] at H; have H' := ak H; clear H
  all_goals
   go_wp2_with (first | (go_at_call 54; (with_reducible refine (impl_in.calls t484 1 9000 _ _ A6.out).mono ?_); rintro e w' ⟨rfl, ⟨nd, rfl⟩⟩))
  rotate_left 2
  ·go_meet
   case rel => exact ⟨_, (decide (t484 > (wrap64 ((wrap64 ((a0.size : Int) - t485)) - 4)))), fr, H', ⟨by first | omega | exact Nat.le_refl _⟩, ⟨bt HB⟩⟩
  all_goals
   go_meet
   case rel => exact ⟨_, (true), fr, H', ⟨by first | omega | exact Nat.le_refl _⟩, ⟨bt HB⟩⟩
 case rest =>
  clear HC4; obtain ⟨kq, x34_3, rfl, HA, HJ3, HB⟩ := hcut
  cases kq with
  | zero => exact absurd HA.out (by simp [impl_frameAt.j0])
  | succ kj3 =>
   have H := HA.out; clear HA; simp only [impl_frameAt.j0] at H; cases x34_3; rotate_left
   ·rw [if_pos rfl] at H; obtain ⟨rfl, rfl, rfl⟩ := o3 H; go_wp2
    go_ret3
    exact ⟨fe, bt HB⟩
   ·rw [if_neg nf] at H; obtain ⟨ji9, hji9, hji9w⟩ := jj (t485 + 4)
    first | rw [hji9] at H | simp only [hji9] at H
    obtain ⟨c10, H⟩ := ifs H; have c10b0 := eq_true c10; have c10b1 := dt c10; clear c10; obtain ⟨c11, H⟩ := ifs H; have c11b0 := eq_true c11; have c11b1 := dt c11; obtain ⟨c12, H⟩ := ifs H; have c12b0 := eq_true c12; have c12b1 := dt c12; obtain ⟨c13, H⟩ := ifs H; have c13b0 := eq_true c13; have c13b1 := dt c13; clear c13; obtain ⟨c14, H⟩ := ifs H; have c14b0 := eq_true c14; have c14b1 := dt c14; clear c14; obtain ⟨c15, H⟩ := ifs H; have c15b0 := eq_true c15; have c15b1 := dt c15; clear c15; obtain ⟨t488, A16, H⟩ := bo H; obtain ⟨t489, A17, H⟩ := bo H; revert H
    refine si (fun c18 H => ?_) fun c18 H => ?_
    have c18b0 : ((a0.extract (t485 : Int).toNat ((ji9) : Int).toNat).toList == t489.toList) = true := beq_iff_eq.mpr c18; have c18b1 : ((a0.extract (t485 : Int).toNat ((ji9) : Int).toNat).toList != t489.toList) = false := bne_eq_false_iff_eq.mpr c18; clear c18; obtain ⟨rfl, rfl, rfl⟩ := o3 H; rotate_left; have c18b0 : ((a0.extract (t485 : Int).toNat ((ji9) : Int).toNat).toList == t489.toList) = false := beq_eq_false_iff_ne.mpr c18; have c18b1 : ((a0.extract (t485 : Int).toNat ((ji9) : Int).toNat).toList != t489.toList) = true := bne_iff_ne.mpr c18; obtain ⟨rfl, rfl, rfl⟩ := o3 H
    all_goals
     try go_wp2
     replace HB := ak (below_drew1 HB.out)
     refine st 9 (fun w' => True) impl_frameAt.tab6 impl_frameAt.bits6 trivial fun hHeld HT_ HW_ => ?_
     generalize wc.drew = w21 at HB hHeld ⊢
     refine pu HT_ 0 44 ?_; refine pu HT_ 1 45 ?_; refine pu HT_ 2 46 ?_; refine pu HT_ 3 47 ?_; refine pu HT_ 4 48 ?_; refine pu HT_ 5 49 ?_
     refine on HT_ 6 50 fun K hK => ?_
     refine goes_ Tryz.func86 (by kernel_rfl) rfl #[.string (a0.extract ((ji9) : Int).toNat ((wrap64 ((ji9) + t484)) : Int).toNat)] (by rfl) rfl rfl (by (try simp only [List.map_toArray, List.map_cons, List.map_nil]); first | done | (simp only [hji9]; rfl) | rfl | (simp only [List.length_drop, List.length_take]; rfl)) ?_
     with_reducible refine (impl_SumOf.calls kj3 (a0.extract ((ji9) : Int).toNat ((wrap64 ((ji9) + t484)) : Int).toNat) t488 _ A16.out).mono ?_; rintro e w' ⟨rfl, ⟨nd, rfl⟩⟩; refine ⟨_, rfl, ?_⟩
     refine hK.out _ _ trivial (fun hHeld => ?_)
     clear hK K; refine nm 50 ?_
     refine on HT_ 7 51 fun K hK => ?_
     refine gq Tryz.func85 (impl_fourBytes.calls t488 t489 _ A17.out) fun w22 hb => ?_; replace HB := bs1 HB hb
     refine hK.out _ _ trivial (fun hHeld => ?_)
     clear hK K; refine nm 51 ?_; refine pu HT_ 8 52 ?_; refine dn HT_ ?_
     try go_wp2
     go_ret3
     exact ⟨by first | rfl | (simp [errW_none, errW_some] <;> rfl) | (simp only [← hji9]; first | rfl | (simp [errW_none, errW_some] <;> rfl)) | (simp [*, errW_none, errW_some] <;> rfl), bt HB⟩
def IsS120 (w0 W : World) (g : Nat) (f0 : ByteArray) (f1 : Int) (f2 : Bool) : Prop := W.heap[g]? = some (.cells #[.string f0, .int .i64 f1, .bool f2] 120 (0, 0)) ∧ w0.heap.size ≤ g
theorem IsS120.grown {w0 W : World} {g : Nat} {f0 : ByteArray} {f1 : Int} {f2 : Bool} {W1 : World} {row : Option Nat} (h : IsS120 w0 W g f0 f1 f2) (hw : W.grownBy W1 row) (hne : some g ≠ row) : IsS120 w0 W1 g f0 f1 f2 := by
 obtain ⟨hb, hg⟩ := h
 exact ⟨blk_grown hb hw hne, hg⟩
theorem IsS120.kept {w0 W : World} {g : Nat} {f0 : ByteArray} {f1 : Int} {f2 : Bool} {W1 : World} {S : Nat → Prop} (h : IsS120 w0 W g f0 f1 f2) (hk : Kept W W1 S) (hne : ¬ S g) : IsS120 w0 W1 g f0 f1 f2 := by
 obtain ⟨hb, hg⟩ := h
 exact ⟨blk_kept hb hk hne, hg⟩
theorem IsS120.below {w0 W : World} {g : Nat} {f0 : ByteArray} {f1 : Int} {f2 : Bool} {W1 : World} (h : IsS120 w0 W g f0 f1 f2) (hw : Below W.heap.size W W1) : IsS120 w0 W1 g f0 f1 f2 := h.grown (grown_of_below hw none) (by simp)
theorem IsS120.alloc {w0 W : World} {g : Nat} {f0 : ByteArray} {f1 : Int} {f2 : Bool} (h : IsS120 w0 W g f0 f1 f2) (o : Obj) : IsS120 w0 (W.alloc o) g f0 f1 f2 := h.below (below_alloc (Below.refl _ _) o)
theorem IsS120.drewN {w0 W : World} {g : Nat} {f0 : ByteArray} {f1 : Int} {f2 : Bool} (h : IsS120 w0 W g f0 f1 f2) (m : Nat) : IsS120 w0 (W.drewN m) g f0 f1 f2 := h
theorem IsS120.drew {w0 W : World} {g : Nat} {f0 : ByteArray} {f1 : Int} {f2 : Bool} (h : IsS120 w0 W g f0 f1 f2) : IsS120 w0 W.drew g f0 f1 f2 := h
theorem IsS120.at_ {w0 W : World} {g : Nat} {f0 : ByteArray} {f1 : Int} {f2 : Bool} {w' : World} {m : Nat} (hq : W.drewN m = w') (h : IsS120 w0 W g f0 f1 f2) : IsS120 w0 w' g f0 f1 f2 := by subst hq; exact IsS120.drewN h m
theorem IsS120.apart {w0 W : World} {g : Nat} {f0 : ByteArray} {f1 : Int} {f2 : Bool} {α : Type} {d : Kd α} {e : Nat} {base : Nat} {ok : Nat → Prop} {v : Value} {xs : List α} (h : IsS120 w0 W g f0 f1 f2) (ho : d.R e W base ok v xs) (ht : ∀ q, q ∈ e :: d.E → q ≠ 120) : d.R e W base (fun k => ok k ∧ k ≠ g) v xs := by
 obtain ⟨hb, hg⟩ := h
 exact Kd.R_types ho hb ht
theorem IsS120.own_ne {w0 W : World} {g : Nat} {f0 : ByteArray} {f1 : Int} {f2 : Bool} {α : Type} {d : Kd α} {e : Nat} {base : Nat} {ok : Nat → Prop} {v : Value} {xs : List α} (h : IsS120 w0 W g f0 f1 f2) (ho : d.R e W base ok v xs) (ht : e ≠ 120) : some g ≠ v.ownBlock := by
 obtain ⟨hb, hg⟩ := h
 exact Kd.R_ne ho hb ht
theorem IsS120.lt {w0 W : World} {g : Nat} {f0 : ByteArray} {f1 : Int} {f2 : Bool} (h : IsS120 w0 W g f0 f1 f2) : g < W.heap.size := by
 obtain ⟨hb, hg⟩ := h
 exact blk_lt hb
theorem IsS120.ge {w0 W : World} {g : Nat} {f0 : ByteArray} {f1 : Int} {f2 : Bool} (h : IsS120 w0 W g f0 f1 f2) : w0.heap.size ≤ g := by
 obtain ⟨hb, hg⟩ := h
 exact hg
theorem IsS120.far {w0 W : World} {g : Nat} {f0 : ByteArray} {f1 : Int} {f2 : Bool} {p : Addr} (h : IsS120 w0 W g f0 f1 f2) (hne : g ≠ p.block) (u : Value) : IsS120 w0 (W.setCell p u) g f0 f1 f2 := by
 obtain ⟨hb, hg⟩ := h
 exact ⟨blk_far hb hne u, hg⟩
theorem cellS120_0 {W : World} {g : Nat} {f0 : ByteArray} {f1 : Int} {f2 : Bool} (h : W.heap[g]? = some (.cells #[.string f0, .int .i64 f1, .bool f2] 120 (0, 0))) : W.cell? ⟨g, 0, none⟩ = some (.string f0) := (blk_cell h 0).trans rfl
theorem IsS120.set_0 {w0 W : World} {g : Nat} {f0 : ByteArray} {f1 : Int} {f2 : Bool} (h : IsS120 w0 W g f0 f1 f2) (x : ByteArray) : IsS120 w0 (W.setCell ⟨g, 0, none⟩ (.string x)) g x f1 f2 := by
 obtain ⟨hb, hg⟩ := h
 exact ⟨by simpa using blk_set hb 0 (.string x), hg⟩
theorem cellS120_1 {W : World} {g : Nat} {f0 : ByteArray} {f1 : Int} {f2 : Bool} (h : W.heap[g]? = some (.cells #[.string f0, .int .i64 f1, .bool f2] 120 (0, 0))) : W.cell? ⟨g, 1, none⟩ = some (.int .i64 f1) := (blk_cell h 1).trans rfl
theorem IsS120.set_1 {w0 W : World} {g : Nat} {f0 : ByteArray} {f1 : Int} {f2 : Bool} (h : IsS120 w0 W g f0 f1 f2) (x : Int) : IsS120 w0 (W.setCell ⟨g, 1, none⟩ (.int .i64 x)) g f0 x f2 := by
 obtain ⟨hb, hg⟩ := h
 exact ⟨by simpa using blk_set hb 1 (.int .i64 x), hg⟩
theorem cellS120_2 {W : World} {g : Nat} {f0 : ByteArray} {f1 : Int} {f2 : Bool} (h : W.heap[g]? = some (.cells #[.string f0, .int .i64 f1, .bool f2] 120 (0, 0))) : W.cell? ⟨g, 2, none⟩ = some (.bool f2) := (blk_cell h 2).trans rfl
theorem IsS120.set_2 {w0 W : World} {g : Nat} {f0 : ByteArray} {f1 : Int} {f2 : Bool} (h : IsS120 w0 W g f0 f1 f2) (x : Bool) : IsS120 w0 (W.setCell ⟨g, 2, none⟩ (.bool x)) g f0 f1 x := by
 obtain ⟨hb, hg⟩ := h
 exact ⟨by simpa using blk_set hb 2 (.bool x), hg⟩
theorem is120 {w0 W W' : World} {g : Nat} {f0 f0' : ByteArray} {f1 f1' : Int} {f2 f2' : Bool} (h : Aside0 (IsS120 w0 W g f0 f1 f2)) (hs : IsS120 w0 W g f0 f1 f2 → IsS120 w0 W' g f0' f1' f2' := by
 intro h_; repeat (first | (with_reducible first | exact h_ | apply IsS120.alloc | apply IsS120.drewN | apply IsS120.drew | apply IsS120.set_0 | apply IsS120.set_1 | apply IsS120.set_2 | refine IsS120.far ?_ (Aside0.out (by assumption)) _) | exact h_)) : IsS120 w0 W' g f0' f1' f2' := hs h.out
theorem ib120 {n : Nat} {w w1 w2 w0 W : World} {g : Nat} {f0 : ByteArray} {f1 : Int} {f2 : Bool} (h : Aside0 (Below n w w1)) (hi : Aside0 (IsS120 w0 W g f0 f1 f2)) (hs : Below n w w1 → w0.heap.size ≤ g → Below n w w2 := by
 intro h_ g_; repeat (first | (with_reducible first | exact h_ | apply below_alloc | apply pw_below_drewN | apply below_drew1 | refine below_set ?_ g_ | refine below_set ?_ (Aside0.out (by assumption))) | exact h_)) : Below n w w2 := hs h.out hi.out.ge
def impl_reader_number.f (k : Nat) (s0_0 : ByteArray) (s0_1 : Int) (s0_2 : Bool) : Option (Int × ByteArray × Int × Bool) := (impl_ReadVar.f k s0_0 s0_1).bind fun bt490 => (if s0_2 = true then (some (0, s0_0, s0_1, true)) else (if bt490.2.2 = true then (some (bt490.1, s0_0, bt490.2.1, s0_2)) else (some (0, s0_0, s0_1, true))))
theorem impl_reader_number.calls (k : Nat) (g : Nat) (s0_0 : ByteArray) (s0_1 : Int) (s0_2 : Bool) (r1 : Int) (r2 : ByteArray) (r3 : Int) (r4 : Bool) (w0 w : World) (hI : IsS120 w0 w g s0_0 s0_1 s0_2) (hB : Below w0.heap.size w0 w) (H : impl_reader_number.f k s0_0 s0_1 s0_2 = some (r1, r2, r3, r4)) :
 Calls Tryz.prog 87 #[.pointer (some ⟨g, 0, none⟩)] w fun e w' => e = .returned (.int .i64 r1) ∧ IsS120 w0 w' g r2 r3 r4 ∧ Below w0.heap.size w0 w' ∧ KeepBut w w' g none := by
 have HI0 := ak hI; have HK := ak (KeepBut.refl w g none); have HL := ak hB.size; clear hI; have HW0 := ak hB.size; have HB := ak hB; clear hB; unfold impl_reader_number.f at H; obtain ⟨⟨t490, t491, t492⟩, A2, H⟩ := bo H
 try dsimp only at H
 cases s0_2; rotate_left; rw [if_pos rfl] at H; obtain ⟨rfl, rfl, rfl, rfl⟩ := o4 H; obtain ⟨HGz4, hgz4⟩ := HI0.out; have hcz4_0 := cellS120_0 HGz4; have hcz4_1 := cellS120_1 HGz4; have hcz4_2 := cellS120_2 HGz4; have hfz4_0 := blk_frozen HGz4 0; have hfz4_1 := blk_frozen HGz4 1; have hfz4_2 := blk_frozen HGz4 2; clear HGz4 hgz4; rotate_left
 focus
  rw [if_neg nf] at H; cases t492; rotate_left; rw [if_pos rfl] at H; obtain ⟨rfl, rfl, rfl, rfl⟩ := o4 H; obtain ⟨HGz6, hgz6⟩ := HI0.out; have hcz6_0 := cellS120_0 HGz6; have hcz6_1 := cellS120_1 HGz6; have hcz6_2 := cellS120_2 HGz6; have hfz6_0 := blk_frozen HGz6 0; have hfz6_1 := blk_frozen HGz6 1; have hfz6_2 := blk_frozen HGz6 2; clear HGz6 hgz6; rotate_left; rw [if_neg nf] at H; obtain ⟨rfl, rfl, rfl, rfl⟩ := o4 H; obtain ⟨HGz7, hgz7⟩ := HI0.out; have hcz7_0 := cellS120_0 HGz7; have hcz7_1 := cellS120_1 HGz7; have hcz7_2 := cellS120_2 HGz7; have hfz7_0 := blk_frozen HGz7 0; have hfz7_1 := blk_frozen HGz7 1; have hfz7_2 := blk_frozen HGz7 2; clear HGz7 hgz7
 all_goals
  go_enter Tryz.func87, Tryz.ntmps87
  go_wp2_with (first | (go_at_call 84; (with_reducible refine (impl_ReadVar.calls k s0_0 s0_1 t490 t491 _ _ A2.out).mono ?_); rintro e w' ⟨rfl, ⟨nd, rfl⟩⟩; (try first | exact ⟨rfl, _, World.drewN_drewN _ _ _⟩ | exact ⟨rfl, _, Eq.trans (World.drewN_drewN _ _ _) (congrArg (World.drewN _) (Nat.add_assoc _ _ _))⟩)))
 ·repeat (go_quiet (first | (go_at_call 84; (with_reducible refine (impl_ReadVar.calls k s0_0 s0_1 t490 t491 false _ A2.out).mono ?_); rintro e w' ⟨rfl, ⟨nd, rfl⟩⟩; (try first | exact ⟨rfl, _, World.drewN_drewN _ _ _⟩ | exact ⟨rfl, _, Eq.trans (World.drewN_drewN _ _ _) (congrArg (World.drewN _) (Nat.add_assoc _ _ _))⟩))); try go_wp2_with (first | (go_at_call 84; (with_reducible refine (impl_ReadVar.calls k s0_0 s0_1 t490 t491 false _ A2.out).mono ?_); rintro e w' ⟨rfl, ⟨nd, rfl⟩⟩; (try first | exact ⟨rfl, _, World.drewN_drewN _ _ _⟩ | exact ⟨rfl, _, Eq.trans (World.drewN_drewN _ _ _) (congrArg (World.drewN _) (Nat.add_assoc _ _ _))⟩))))
  go_ret
  exact ⟨fe, is120 HI0, ib120 HB HI0, kb HK⟩
 ·repeat (go_quiet (first | (go_at_call 84; (with_reducible refine (impl_ReadVar.calls k s0_0 s0_1 t490 t491 true _ A2.out).mono ?_); rintro e w' ⟨rfl, ⟨nd, rfl⟩⟩; (try first | exact ⟨rfl, _, World.drewN_drewN _ _ _⟩ | exact ⟨rfl, _, Eq.trans (World.drewN_drewN _ _ _) (congrArg (World.drewN _) (Nat.add_assoc _ _ _))⟩))); try go_wp2_with (first | (go_at_call 84; (with_reducible refine (impl_ReadVar.calls k s0_0 s0_1 t490 t491 true _ A2.out).mono ?_); rintro e w' ⟨rfl, ⟨nd, rfl⟩⟩; (try first | exact ⟨rfl, _, World.drewN_drewN _ _ _⟩ | exact ⟨rfl, _, Eq.trans (World.drewN_drewN _ _ _) (congrArg (World.drewN _) (Nat.add_assoc _ _ _))⟩))))
  go_ret
  exact ⟨fe, is120 HI0, ib120 HB HI0, kb HK⟩
 ·repeat (go_quiet (first | (go_at_call 84; (with_reducible refine (impl_ReadVar.calls k s0_0 s0_1 t490 t491 t492 _ A2.out).mono ?_); rintro e w' ⟨rfl, ⟨nd, rfl⟩⟩; (try first | exact ⟨rfl, _, World.drewN_drewN _ _ _⟩ | exact ⟨rfl, _, Eq.trans (World.drewN_drewN _ _ _) (congrArg (World.drewN _) (Nat.add_assoc _ _ _))⟩))); try go_wp2_with (first | (go_at_call 84; (with_reducible refine (impl_ReadVar.calls k s0_0 s0_1 t490 t491 t492 _ A2.out).mono ?_); rintro e w' ⟨rfl, ⟨nd, rfl⟩⟩; (try first | exact ⟨rfl, _, World.drewN_drewN _ _ _⟩ | exact ⟨rfl, _, Eq.trans (World.drewN_drewN _ _ _) (congrArg (World.drewN _) (Nat.add_assoc _ _ _))⟩))))
  go_ret
  exact ⟨fe, is120 HI0, ib120 HB HI0, kb HK⟩
def impl_reader_done.f (s0_0 : ByteArray) (s0_1 : Int) (s0_2 : Bool) : Option (Bool × ByteArray × Int × Bool) := if s0_2 = true then (some (false, s0_0, s0_1, s0_2)) else (some ((s0_1 == (s0_0.size : Int)), s0_0, s0_1, s0_2))
theorem impl_reader_done.calls (g : Nat) (s0_0 : ByteArray) (s0_1 : Int) (s0_2 : Bool) (r1 : Bool) (r2 : ByteArray) (r3 : Int) (r4 : Bool) (w0 w : World) (hI : IsS120 w0 w g s0_0 s0_1 s0_2) (hB : Below w0.heap.size w0 w) (H : impl_reader_done.f s0_0 s0_1 s0_2 = some (r1, r2, r3, r4)) :
 Calls Tryz.prog 88 #[.pointer (some ⟨g, 0, none⟩)] w fun e w' => e = .returned (.bool r1) ∧ IsS120 w0 w' g r2 r3 r4 ∧ Below w0.heap.size w0 w' ∧ KeepBut w w' g none := by
 have HI0 := ak hI; have HK := ak (KeepBut.refl w g none); have HL := ak hB.size; clear hI; have HW0 := ak hB.size; have HB := ak hB; clear hB; unfold impl_reader_done.f at H; cases s0_2; rotate_left; rw [if_pos rfl] at H; obtain ⟨rfl, rfl, rfl, rfl⟩ := o4 H; obtain ⟨HGz3, hgz3⟩ := HI0.out; have hcz3_0 := cellS120_0 HGz3; have hcz3_1 := cellS120_1 HGz3; have hcz3_2 := cellS120_2 HGz3; have hfz3_0 := blk_frozen HGz3 0; have hfz3_1 := blk_frozen HGz3 1; have hfz3_2 := blk_frozen HGz3 2; clear HGz3 hgz3; rotate_left; rw [if_neg nf] at H; obtain ⟨rfl, rfl, rfl, rfl⟩ := o4 H; obtain ⟨HGz4, hgz4⟩ := HI0.out; have hcz4_0 := cellS120_0 HGz4; have hcz4_1 := cellS120_1 HGz4; have hcz4_2 := cellS120_2 HGz4; have hfz4_0 := blk_frozen HGz4 0; have hfz4_1 := blk_frozen HGz4 1; have hfz4_2 := blk_frozen HGz4 2; clear HGz4 hgz4
 all_goals
  go_enter Tryz.func88, Tryz.ntmps88; go_wp2
  repeat (go_quiet (fail); try go_wp2)
  go_ret
  exact ⟨fe, is120 HI0, ib120 HB HI0, kb HK⟩
def impl_twoNumbers.f (k : Nat) (a0 : ByteArray) (a1 : ByteArray) : Option (Int × Int × Bool) := (strings_CutPrefix.f a0 a1).bind fun bt493 => ((impl_reader_number.f k bt493.1 0 false).bind fun bt496 => ((impl_reader_number.f k bt496.2.1 bt496.2.2.1 bt496.2.2.2).bind fun bt500 => (if bt493.2 = true then ((impl_reader_done.f bt500.2.1 bt500.2.2.1 bt500.2.2.2).bind fun bt504 => (some (bt496.1, bt500.1, bt504.1))) else (some (bt496.1, bt500.1, false)))))
theorem impl_twoNumbers.calls (k : Nat) (a0 : ByteArray) (a1 : ByteArray) (r1 : Int) (r2 : Int) (r3 : Bool) (w : World) (H : impl_twoNumbers.f k a0 a1 = some (r1, r2, r3)) :
 Calls Tryz.prog 57 #[.string a0, .string a1] w fun e w' => e = .returned (.tuple #[.int .i64 r1, .int .i64 r2, .bool r3]) ∧ Below w.heap.size w w' := by
 have hu120 := Tryz.underlying120; have HB := ak (Below.refl w.heap.size w); unfold impl_twoNumbers.f at H; obtain ⟨⟨t493, t494⟩, A3, H⟩ := bo H
 try dsimp only at H
 obtain ⟨⟨t496, t497, t498, t499⟩, A4, H⟩ := bo H
 try dsimp only at H
 obtain ⟨⟨t500, t501, t502, t503⟩, A5, H⟩ := bo H
 try dsimp only at H
 cases t494; rotate_left; rw [if_pos rfl] at H; obtain ⟨⟨t504, t505, t506, t507⟩, A7, H⟩ := bo H
 try dsimp only at H
 obtain ⟨rfl, rfl, rfl⟩ := o3 H; rotate_left; rw [if_neg nf] at H; obtain ⟨rfl, rfl, rfl⟩ := o3 H
 all_goals
  go_enter Tryz.func57, Tryz.ntmps57
  go_wp2_with (first | ((with_reducible refine gd 15 rfl ?_); refine gc 15 Tryz.func79 (strings_CutPrefix.calls a0 a1 t493 _ _ A3.out) fun w' h_ => ?_; obtain ⟨nd, rfl⟩ := h_) | ((with_reducible refine gd 20 rfl ?_); refine bx 20 120 #[.string t493, .int .i64 0, .bool false] ?_; intro gb495 hg w8 hbox hb; have n0_ := ak (below_step (bt HB) hb); have n1_ := ak ((show IsS120 w _ gb495 t493 0 false from ⟨hbox.out, (by rw [hg]; exact (below_size (bt HB)) : w.heap.size ≤ gb495)⟩)); have n2_ := ge_ hg HB; have n3_ := ge_ hg HB; clear HB; revert n0_ n1_ n2_ n3_; intro HB HI495 GE495 GE495; clear hb hbox hg) | ((with_reducible refine gd 22 rfl ?_); refine gc 22 Tryz.func87 (impl_reader_number.calls k gb495 t493 0 false t496 t497 t498 t499 w _ ?s1 ?s2 A4.out) fun w9 h_ => ?_; (case s1 => exact is120 HI495); (case s2 => exact ib120 HB HI495); obtain ⟨hi, hb, hk⟩ := h_; replace HB := ak hb; replace HI495 := ak hi) | ((with_reducible refine gd 24 rfl ?_); refine gc 24 Tryz.func87 (impl_reader_number.calls k gb495 t497 t498 t499 t500 t501 t502 t503 w _ ?s1 ?s2 A5.out) fun w10 h_ => ?_; (case s1 => exact is120 HI495); (case s2 => exact ib120 HB HI495); obtain ⟨hi, hb, hk⟩ := h_; replace HB := ak hb; replace HI495 := ak hi) | (go_at_call 88; (with_reducible refine (impl_reader_done.calls gb495 t501 t502 t503 t504 t505 t506 t507 w _ ?side1 ?side2 A7.out).mono ?_); (case side1 => exact is120 HI495); (case side2 => exact ib120 HB HI495); rintro e w11 ⟨rfl, hi, hb, hk⟩; replace HB := ak hb; replace HI495 := ak hi))
  go_ret3
  exact ⟨fe, ib120 HB HI495⟩
end Go.Proofs.YtdepaileabejgaaGreatDoor.PFnExactOpenJournal
