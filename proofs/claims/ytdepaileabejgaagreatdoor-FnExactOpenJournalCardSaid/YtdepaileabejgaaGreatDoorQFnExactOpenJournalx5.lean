/- Walks. No condition. -/
import Derived.Test.YtdepaileabejgaaGreatDoorQFnExactOpenJournalx4
namespace Go.Proofs.YtdepaileabejgaaGreatDoor.PFnExactOpenJournal
open Go.RowKit Go.Proofs.YtdepaileabejgaaGreatDoorW.PrintWords Go.Proofs.YtdepaileabejgaaGreatDoorW.PrintLast Go.Proofs.YtdepaileabejgaaGreatDoorW.PrintMore Go.Proofs.YtdepaileabejgaaGreatDoorW.Short
attribute [local go_sem] max2_int min2_int max_two min_two max_three min_three max_four min_four
set_option maxHeartbeats 8000000
set_option maxRecDepth 100000
set_option linter.unusedVariables false
set_option linter.unusedSimpArgs false
mutual
def spec_Unframe.l0 : Nat → ByteArray → List ByteArray → Int → Option (List ByteArray × Int)
 | 0, _, _, _ => none
 | k + 1, x0, x4, x5 => if x5 < (x0.size : Int) then ((spec_ReadVar.f k x0 x5).bind fun bt154 => (if bt154.2.2 = true then (spec_Unframe.j1 k x0 x4 x5 bt154.1 bt154.2.1 (decide (bt154.1 > (wrap64 ((wrap64 ((x0.size : Int) - bt154.2.1)) - 4))))) else (spec_Unframe.j1 k x0 x4 x5 bt154.1 bt154.2.1 true))) else (some (x4, x5))
def spec_Unframe.j1 : Nat → ByteArray → List ByteArray → Int → Int → Int → Bool → Option (List ByteArray × Int)
 | 0, _, _, _, _, _, _ => none
 | k + 1, x0, x4, x5, x6, x7, x38 => if x38 = true then (some (x4, x5)) else (if 0 ≤ (wrap64 (x7 + 4)) then (if (wrap64 (x7 + 4)) ≤ (wrap64 ((wrap64 (x7 + 4)) + x6)) then (if (wrap64 ((wrap64 (x7 + 4)) + x6)) ≤ (x0.size : Int) then ((spec_Frame.f k (x0.extract ((wrap64 (x7 + 4)) : Int).toNat ((wrap64 ((wrap64 (x7 + 4)) + x6)) : Int).toNat)).bind fun bt157 => (if bt157.2 = true then (if 0 ≤ x5 then (if x5 ≤ (wrap64 ((wrap64 (x7 + 4)) + x6)) then (if bt157.1.toList = (x0.extract (x5 : Int).toNat ((wrap64 ((wrap64 (x7 + 4)) + x6)) : Int).toNat).toList then (if x4.length < 8796093022208 then (spec_Unframe.l0 k x0 (x4 ++ [x0.extract ((wrap64 (x7 + 4)) : Int).toNat ((wrap64 ((wrap64 (x7 + 4)) + x6)) : Int).toNat]) (wrap64 ((wrap64 (x7 + 4)) + x6))) else (none)) else (some (x4, x5))) else (none)) else (none)) else (some (x4, x5)))) else (none)) else (none)) else (none))
end
def spec_Unframe.f (k : Nat) (a0 : ByteArray) : Option (List ByteArray × Int) := (some (([] : List ByteArray) : List ByteArray)).bind fun y151 => (if (a0.size : Int) > 20000 then (some (y151, 0)) else (spec_Unframe.l0 k a0 y151 0))
theorem spec_Unframe.calls (k : Nat) (a0 : ByteArray) (r1 : List ByteArray) (r2 : Int) (w : World) (H : spec_Unframe.f k a0 = some (r1, r2)) :
 Calls Tryz.prog 45 #[.string a0] w fun e w' => ∃ v0_ : Value, e = .returned (.tuple #[v0_, .int .i64 r2]) ∧ Kd.R Kd.string 9 w' w.heap.size (fun _ => True) v0_ r1 ∧ Below w.heap.size w w' := by
 have HB := ak (Below.refl w.heap.size w); unfold spec_Unframe.f at H; obtain ⟨y151, Ny151, H⟩ := bsx H; revert H
 refine si (fun c2 H => ?_) fun c2 H => ?_
 have c2b0 : decide (20000 < (a0.size : Int)) = true := dt c2
 have c2b1 : decide (20000 < a0.size) = true := dt (by omega)
 clear c2; obtain ⟨rfl, rfl⟩ := o2 H; rotate_left; have c2b0 : decide (20000 < (a0.size : Int)) = false := df c2
 have c2b1 : decide (20000 < a0.size) = false := df (by omega)
 clear c2; have H' := ak H; clear H
 all_goals
  go_enter Tryz.func45, Tryz.ntmps45
  go_wp2_with (first | ((with_reducible refine gate_dst (N := 12) rfl ?_); (try (refine gate_guard (by rfl) ?_; dsimp only)); refine Kd.R_lit Kd.string _ 9 ?hg (N := 12) ?hd (xs := ([] : List ByteArray)) (inner := []) (ok := fun _ => True) (okp := fun _ => True) ?hr ?hp (fun _ hk => hk) trivial (Below.refl _ _) (Nat.le_refl _) (by simp) ?_; (case hd => rfl); (case hg => rfl); (case hr => first | (go_simp; done) | (go_simp; rfl)); (case hp => exact (Reps.none _ _)); intro v152 w5 ho6 hb hg_ hnew_; clear hg_ hnew_; (first | rw [← Ny151.out] at ho6 | (simp only [Int.reduceToNat] at ho6; rw [← Ny151.out] at ho6)); have HO153 := ak (Kd.R_lower ho6 (below_size (bt HB))); replace HB := bs1 HB hb; clear hb ho6))
 ·go_loopg [4, 5] k (fun kq v4 v5 w' => ∃ (x4_1 : List ByteArray) (x5_1 : Int), v5 = .int .i64 x5_1 ∧ Aside0 (spec_Unframe.l0 kq a0 x4_1 x5_1 = some (r1, r2)) ∧ Aside0 (kq ≤ k) ∧ Aside0 (Kd.R Kd.string 9 w' w.heap.size (fun _ => True) v4 x4_1) ∧ Aside0 (Below w.heap.size w w'))
  case atStart => exact ⟨(y151), (0), fr, H', ⟨Nat.le_refl _⟩, ⟨rk HO153⟩, ⟨bt HB⟩⟩
  case round =>
   clear H'; obtain ⟨x4_1, x5_1, rfl, HA, HK1, HO_4, HB⟩ := hrel
   cases gk with
   | zero => exact absurd HA.out (by simp [spec_Unframe.l0])
   | succ k1 =>
    have H := HA.out; clear HA; simp only [spec_Unframe.l0] at H; revert H
    refine si (fun c7 H => ?_) fun c7 H => ?_
    ·have c7b0 := dt c7; clear c7; obtain ⟨⟨t154, t155, t156⟩, A8, H⟩ := bo H
     try dsimp only at H
     have HC9 := ak H; clear H
     go_upto_region 7 with (first | ((with_reducible refine gd 24 rfl ?_); refine gc 24 Tryz.func67 (spec_ReadVar.calls k1 a0 x5_1 t154 t155 t156 _ A8.out) fun w10 hb => ?_; replace HO_4 := rb HO_4 hb; replace HB := bs1 HB hb))
     (try simp only [Act.put, zA, zB, zC])
     go_cut [38] (fun v38 wc => ∃ (kq : Nat) (x38_8 : Bool), v38 = .bool x38_8 ∧ Aside0 (spec_Unframe.j1 kq a0 x4_1 x5_1 t154 t155 x38_8 = some (r1, r2)) ∧ Aside0 (kq ≤ k1) ∧ Aside0 (Kd.R Kd.string 9 wc w.heap.size (fun _ => True) u4 x4_1) ∧ Aside0 (Below w.heap.size w wc))
     case first =>
      have H := HC9.out; clear HC9; cases t156; rotate_left
      ·rw [if_pos rfl] at H; have H' := ak H; clear H; go_wp2; go_meet
       case rel => exact ⟨_, (decide (t154 > (wrap64 ((wrap64 ((a0.size : Int) - t155)) - 4)))), fr, H', ⟨by have := HK1.out; first | omega | exact Nat.le_refl _⟩, ⟨rk HO_4⟩, ⟨bt HB⟩⟩
      ·rw [if_neg nf] at H; have H' := ak H; clear H; go_wp2; go_meet
       case rel => exact ⟨_, (true), fr, H', ⟨by have := HK1.out; first | omega | exact Nat.le_refl _⟩, ⟨rk HO_4⟩, ⟨bt HB⟩⟩
     case rest =>
      clear HC9; obtain ⟨kq, x38_8, rfl, HA, HJ8, HO_4, HB⟩ := hcut
      cases kq with
      | zero => exact absurd HA.out (by simp [spec_Unframe.j1])
      | succ kj8 =>
       have H := HA.out; clear HA; simp only [spec_Unframe.j1] at H; cases x38_8; rotate_left
       ·rw [if_pos rfl] at H; obtain ⟨rfl, rfl⟩ := o2 H; go_wp2; go_ret2; exact ⟨_, fe, rk HO_4, bt HB⟩
       ·rw [if_neg nf] at H; obtain ⟨ji13, hji13, hji13w⟩ := jj (t155 + 4)
        first | rw [hji13] at H | simp only [hji13] at H
        obtain ⟨c14, H⟩ := ifs H; have c14b0 := eq_true c14; have c14b1 := dt c14; clear c14; obtain ⟨c15, H⟩ := ifs H; have c15b0 := eq_true c15; have c15b1 := dt c15; obtain ⟨c16, H⟩ := ifs H; have c16b0 := eq_true c16; have c16b1 := dt c16; obtain ⟨⟨t157, t158⟩, A17, H⟩ := bo H
        try dsimp only at H
        cases t158; rotate_left
        focus
         rw [if_pos rfl] at H; obtain ⟨c19, H⟩ := ifs H; have c19b0 := eq_true c19; have c19b1 := dt c19; clear c19; obtain ⟨c20, H⟩ := ifs H; have c20b0 := eq_true c20; have c20b1 := dt c20; have c21b0 := eq_true (da : (wrap64 ((ji13) + t154)) ≤ (a0.size : Int)); revert H
         refine si (fun c22 H => ?_) fun c22 H => ?_
         have c22b0 : (t157.toList == (a0.extract (x5_1 : Int).toNat ((wrap64 ((ji13) + t154)) : Int).toNat).toList) = true := beq_iff_eq.mpr c22; have c22b1 : (t157.toList != (a0.extract (x5_1 : Int).toNat ((wrap64 ((ji13) + t154)) : Int).toNat).toList) = false := bne_eq_false_iff_eq.mpr c22; clear c22; obtain ⟨c23, H⟩ := ifs H; have LMc23 := ak c23; clear c23; obtain ⟨y159, hy159⟩ : ∃ y_ : List ByteArray, y_ = (x4_1 ++ [a0.extract ((ji13) : Int).toNat ((wrap64 ((ji13) + t154)) : Int).toNat]) := ⟨_, rfl⟩
         first | replace H := bs hy159 H | rw [← hy159] at H
         have Ny159 := ak hy159; clear hy159; have H' := ak H; clear H; rotate_left; have c22b0 : (t157.toList == (a0.extract (x5_1 : Int).toNat ((wrap64 ((ji13) + t154)) : Int).toNat).toList) = false := beq_eq_false_iff_ne.mpr c22; have c22b1 : (t157.toList != (a0.extract (x5_1 : Int).toNat ((wrap64 ((ji13) + t154)) : Int).toNat).toList) = true := bne_iff_ne.mpr c22; obtain ⟨rfl, rfl⟩ := o2 H
        rotate_left 2; rw [if_neg nf] at H; obtain ⟨rfl, rfl⟩ := o2 H
        all_goals
         go_wp2_with (first | ((with_reducible refine gate_callee (f := 49) rfl ?_); refine goesL_ (some 51) rfl rfl Tryz.func49 (by kernel_rfl) rfl #[.string (a0.extract ((ji13) : Int).toNat ((wrap64 ((ji13) + t154)) : Int).toNat)] rfl (by (try simp only [List.map_toArray, List.map_cons, List.map_nil]); first | done | (simp only [hji13]; rfl) | rfl | (simp only [List.length_drop, List.length_take]; rfl)) ?_; (with_reducible refine (spec_Frame.calls kj8 (a0.extract ((ji13) : Int).toNat ((wrap64 ((ji13) + t154)) : Int).toNat) t157 _ _ A17.out).mono ?_); rintro e w24 ⟨rfl, hb⟩; refine ⟨_, rfl, ?_⟩; replace HO_4 := rb HO_4 hb; replace HB := bs1 HB hb) | ((with_reducible refine gate_builtin (b := .append) (xs := #[.tmp 69, .tmp 71]) rfl ?_); (try (refine gate_guard (by rfl) ?_; dsimp only)); at_builtin; refine Kd.R_append Kd.string (w0 := w) w.heap.size rfl (.tmp 69) (.tmp 71) 77 9 (.string ⟨#[]⟩) 16 rfl Tryz.underlying77 info9 rfl (by decide) (by omega) u4 x4_1 (a0.extract ((ji13) : Int).toNat ((wrap64 ((ji13) + t154)) : Int).toNat) [.string (a0.extract ((ji13) : Int).toNat ((wrap64 ((ji13) + t154)) : Int).toNat)] (fun _ => True) (fun _ => False) rfl rfl ?aP (fun _ hk => hk.elim) ?aF ?aO ?aB ?aS ?aL ?_; (case aP => exact rfl); (case aB => exact (bt HB)); (case aF => exact (fun _ _ => trivial)); (case aO => exact (rk HO_4)); (case aS => exact (below_size (bt HB))); (case aL => have := LMc23.out; omega); intro v160 w25 ho hb hg hat; rw [← Ny159.out] at ho; have n0_ := ak hb; have n1_ := ak ho; clear HB HO_4; revert n0_ n1_; intro HB HO161; clear ho hb hg hat))
        rotate_left 2
        ·go_roundg kj8
         case measure => have := HK1.out; have := HJ8.out; omega
         case rel => exact ⟨(y159), (wrap64 ((ji13) + t154)), (by first | rfl | (simp; done) | (simp only [← hji13] <;> (first | rfl | simp)) | (simp [*]; done)), H', ⟨by have := HK1.out; have := HJ8.out; omega⟩, ⟨rk HO161⟩, ⟨bt HB⟩⟩
        all_goals
         go_ret2
         exact ⟨_, by first | rfl | (simp [errW_none, errW_some] <;> rfl) | (simp only [← hji13]; first | rfl | (simp [errW_none, errW_some] <;> rfl)) | (simp [*, errW_none, errW_some] <;> rfl), rk HO_4, bt HB⟩
    ·have c7b0 := df c7; clear c7; obtain ⟨rfl, rfl⟩ := o2 H; go_wp2; go_ret2; exact ⟨_, fe, rk HO_4, bt HB⟩
 ·go_ret2; exact ⟨_, fe, rk HO153, bt HB⟩
def IsS100 (w0 W : World) (g : Nat) (f0 : ByteArray) (f1 : Int) (f2 : Bool) : Prop := W.heap[g]? = some (.cells #[.string f0, .int .i64 f1, .bool f2] 100 (0, 0)) ∧ w0.heap.size ≤ g
theorem IsS100.grown {w0 W : World} {g : Nat} {f0 : ByteArray} {f1 : Int} {f2 : Bool} {W1 : World} {row : Option Nat} (h : IsS100 w0 W g f0 f1 f2) (hw : W.grownBy W1 row) (hne : some g ≠ row) : IsS100 w0 W1 g f0 f1 f2 := by
 obtain ⟨hb, hg⟩ := h
 exact ⟨blk_grown hb hw hne, hg⟩
theorem IsS100.kept {w0 W : World} {g : Nat} {f0 : ByteArray} {f1 : Int} {f2 : Bool} {W1 : World} {S : Nat → Prop} (h : IsS100 w0 W g f0 f1 f2) (hk : Kept W W1 S) (hne : ¬ S g) : IsS100 w0 W1 g f0 f1 f2 := by
 obtain ⟨hb, hg⟩ := h
 exact ⟨blk_kept hb hk hne, hg⟩
theorem IsS100.below {w0 W : World} {g : Nat} {f0 : ByteArray} {f1 : Int} {f2 : Bool} {W1 : World} (h : IsS100 w0 W g f0 f1 f2) (hw : Below W.heap.size W W1) : IsS100 w0 W1 g f0 f1 f2 := h.grown (grown_of_below hw none) (by simp)
theorem IsS100.alloc {w0 W : World} {g : Nat} {f0 : ByteArray} {f1 : Int} {f2 : Bool} (h : IsS100 w0 W g f0 f1 f2) (o : Obj) : IsS100 w0 (W.alloc o) g f0 f1 f2 := h.below (below_alloc (Below.refl _ _) o)
theorem IsS100.drewN {w0 W : World} {g : Nat} {f0 : ByteArray} {f1 : Int} {f2 : Bool} (h : IsS100 w0 W g f0 f1 f2) (m : Nat) : IsS100 w0 (W.drewN m) g f0 f1 f2 := h
theorem IsS100.drew {w0 W : World} {g : Nat} {f0 : ByteArray} {f1 : Int} {f2 : Bool} (h : IsS100 w0 W g f0 f1 f2) : IsS100 w0 W.drew g f0 f1 f2 := h
theorem IsS100.at_ {w0 W : World} {g : Nat} {f0 : ByteArray} {f1 : Int} {f2 : Bool} {w' : World} {m : Nat} (hq : W.drewN m = w') (h : IsS100 w0 W g f0 f1 f2) : IsS100 w0 w' g f0 f1 f2 := by subst hq; exact IsS100.drewN h m
theorem IsS100.apart {w0 W : World} {g : Nat} {f0 : ByteArray} {f1 : Int} {f2 : Bool} {α : Type} {d : Kd α} {e : Nat} {base : Nat} {ok : Nat → Prop} {v : Value} {xs : List α} (h : IsS100 w0 W g f0 f1 f2) (ho : d.R e W base ok v xs) (ht : ∀ q, q ∈ e :: d.E → q ≠ 100) : d.R e W base (fun k => ok k ∧ k ≠ g) v xs := by
 obtain ⟨hb, hg⟩ := h
 exact Kd.R_types ho hb ht
theorem IsS100.own_ne {w0 W : World} {g : Nat} {f0 : ByteArray} {f1 : Int} {f2 : Bool} {α : Type} {d : Kd α} {e : Nat} {base : Nat} {ok : Nat → Prop} {v : Value} {xs : List α} (h : IsS100 w0 W g f0 f1 f2) (ho : d.R e W base ok v xs) (ht : e ≠ 100) : some g ≠ v.ownBlock := by
 obtain ⟨hb, hg⟩ := h
 exact Kd.R_ne ho hb ht
theorem IsS100.lt {w0 W : World} {g : Nat} {f0 : ByteArray} {f1 : Int} {f2 : Bool} (h : IsS100 w0 W g f0 f1 f2) : g < W.heap.size := by
 obtain ⟨hb, hg⟩ := h
 exact blk_lt hb
theorem IsS100.ge {w0 W : World} {g : Nat} {f0 : ByteArray} {f1 : Int} {f2 : Bool} (h : IsS100 w0 W g f0 f1 f2) : w0.heap.size ≤ g := by
 obtain ⟨hb, hg⟩ := h
 exact hg
theorem IsS100.far {w0 W : World} {g : Nat} {f0 : ByteArray} {f1 : Int} {f2 : Bool} {p : Addr} (h : IsS100 w0 W g f0 f1 f2) (hne : g ≠ p.block) (u : Value) : IsS100 w0 (W.setCell p u) g f0 f1 f2 := by
 obtain ⟨hb, hg⟩ := h
 exact ⟨blk_far hb hne u, hg⟩
theorem cellS100_0 {W : World} {g : Nat} {f0 : ByteArray} {f1 : Int} {f2 : Bool} (h : W.heap[g]? = some (.cells #[.string f0, .int .i64 f1, .bool f2] 100 (0, 0))) : W.cell? ⟨g, 0, none⟩ = some (.string f0) := (blk_cell h 0).trans rfl
theorem IsS100.set_0 {w0 W : World} {g : Nat} {f0 : ByteArray} {f1 : Int} {f2 : Bool} (h : IsS100 w0 W g f0 f1 f2) (x : ByteArray) : IsS100 w0 (W.setCell ⟨g, 0, none⟩ (.string x)) g x f1 f2 := by
 obtain ⟨hb, hg⟩ := h
 exact ⟨by simpa using blk_set hb 0 (.string x), hg⟩
theorem cellS100_1 {W : World} {g : Nat} {f0 : ByteArray} {f1 : Int} {f2 : Bool} (h : W.heap[g]? = some (.cells #[.string f0, .int .i64 f1, .bool f2] 100 (0, 0))) : W.cell? ⟨g, 1, none⟩ = some (.int .i64 f1) := (blk_cell h 1).trans rfl
theorem IsS100.set_1 {w0 W : World} {g : Nat} {f0 : ByteArray} {f1 : Int} {f2 : Bool} (h : IsS100 w0 W g f0 f1 f2) (x : Int) : IsS100 w0 (W.setCell ⟨g, 1, none⟩ (.int .i64 x)) g f0 x f2 := by
 obtain ⟨hb, hg⟩ := h
 exact ⟨by simpa using blk_set hb 1 (.int .i64 x), hg⟩
theorem cellS100_2 {W : World} {g : Nat} {f0 : ByteArray} {f1 : Int} {f2 : Bool} (h : W.heap[g]? = some (.cells #[.string f0, .int .i64 f1, .bool f2] 100 (0, 0))) : W.cell? ⟨g, 2, none⟩ = some (.bool f2) := (blk_cell h 2).trans rfl
theorem IsS100.set_2 {w0 W : World} {g : Nat} {f0 : ByteArray} {f1 : Int} {f2 : Bool} (h : IsS100 w0 W g f0 f1 f2) (x : Bool) : IsS100 w0 (W.setCell ⟨g, 2, none⟩ (.bool x)) g f0 f1 x := by
 obtain ⟨hb, hg⟩ := h
 exact ⟨by simpa using blk_set hb 2 (.bool x), hg⟩
theorem is100 {w0 W W' : World} {g : Nat} {f0 f0' : ByteArray} {f1 f1' : Int} {f2 f2' : Bool} (h : Aside0 (IsS100 w0 W g f0 f1 f2)) (hs : IsS100 w0 W g f0 f1 f2 → IsS100 w0 W' g f0' f1' f2' := by
 intro h_; repeat (first | (with_reducible first | exact h_ | apply IsS100.alloc | apply IsS100.drewN | apply IsS100.drew | apply IsS100.set_0 | apply IsS100.set_1 | apply IsS100.set_2 | refine IsS100.far ?_ (Aside0.out (by assumption)) _) | exact h_)) : IsS100 w0 W' g f0' f1' f2' := hs h.out
theorem ib100 {n : Nat} {w w1 w2 w0 W : World} {g : Nat} {f0 : ByteArray} {f1 : Int} {f2 : Bool} (h : Aside0 (Below n w w1)) (hi : Aside0 (IsS100 w0 W g f0 f1 f2)) (hs : Below n w w1 → w0.heap.size ≤ g → Below n w w2 := by
 intro h_ g_; repeat (first | (with_reducible first | exact h_ | apply below_alloc | apply pw_below_drewN | apply below_drew1 | refine below_set ?_ g_ | refine below_set ?_ (Aside0.out (by assumption))) | exact h_)) : Below n w w2 := hs h.out hi.out.ge
def spec_l05Take.f (s0_0 : ByteArray) (s0_1 : Int) (s0_2 : Bool) (a1 : Int) : Option (ByteArray × ByteArray × Int × Bool) := if s0_2 = true then (some ((⟨#[]⟩ : ByteArray), s0_0, s0_1, true)) else (if a1 > (wrap64 ((s0_0.size : Int) - s0_1)) then (some ((⟨#[]⟩ : ByteArray), s0_0, s0_1, true)) else (if 0 ≤ (wrap64 ((wrap64 (s0_1 + a1)) - a1)) then (if (wrap64 ((wrap64 (s0_1 + a1)) - a1)) ≤ (wrap64 (s0_1 + a1)) then (if (wrap64 (s0_1 + a1)) ≤ (s0_0.size : Int) then (some (s0_0.extract ((wrap64 ((wrap64 (s0_1 + a1)) - a1)) : Int).toNat ((wrap64 (s0_1 + a1)) : Int).toNat, s0_0, wrap64 (s0_1 + a1), s0_2)) else (none)) else (none)) else (none)))
theorem spec_l05Take.calls (g : Nat) (s0_0 : ByteArray) (s0_1 : Int) (s0_2 : Bool) (a1 : Int) (r1 : ByteArray) (r2 : ByteArray) (r3 : Int) (r4 : Bool) (w0 w : World) (hI : IsS100 w0 w g s0_0 s0_1 s0_2) (hB : Below w0.heap.size w0 w) (H : spec_l05Take.f s0_0 s0_1 s0_2 a1 = some (r1, r2, r3, r4)) :
 Calls Tryz.prog 68 #[.pointer (some ⟨g, 0, none⟩), .int .i64 a1] w fun e w' => e = .returned (.string r1) ∧ IsS100 w0 w' g r2 r3 r4 ∧ Below w0.heap.size w0 w' ∧ KeepBut w w' g none := by
 have HI0 := ak hI; have HK := ak (KeepBut.refl w g none); have HL := ak hB.size; clear hI; have HW0 := ak hB.size; have HB := ak hB; clear hB; unfold spec_l05Take.f at H; cases s0_2; rotate_left
 ·rw [if_pos rfl] at H; obtain ⟨rfl, rfl, rfl, rfl⟩ := o4 H; obtain ⟨HGz4, hgz4⟩ := HI0.out; have hcz4_0 := cellS100_0 HGz4; have hcz4_1 := cellS100_1 HGz4; have hcz4_2 := cellS100_2 HGz4; have hfz4_0 := blk_frozen HGz4 0; have hfz4_1 := blk_frozen HGz4 1; have hfz4_2 := blk_frozen HGz4 2; clear HGz4 hgz4; go_enter Tryz.func68, Tryz.ntmps68; go_wp2
  repeat (go_quiet (fail); try go_wp2)
  go_ret
  exact ⟨fe, is100 HI0, ib100 HB HI0, kb HK⟩
 ·rw [if_neg nf] at H; revert H
  refine si (fun c5 H => ?_) fun c5 H => ?_
  ·have c5b0 : decide ((wrap64 ((s0_0.size : Int) - s0_1)) < a1) = true := dt c5; clear c5; obtain ⟨rfl, rfl, rfl, rfl⟩ := o4 H; obtain ⟨HGz6, hgz6⟩ := HI0.out; have hcz6_0 := cellS100_0 HGz6; have hcz6_1 := cellS100_1 HGz6; have hcz6_2 := cellS100_2 HGz6; have hfz6_0 := blk_frozen HGz6 0; have hfz6_1 := blk_frozen HGz6 1; have hfz6_2 := blk_frozen HGz6 2; clear HGz6 hgz6; go_enter Tryz.func68, Tryz.ntmps68; go_wp2
   repeat (go_quiet (fail); try go_wp2)
   go_ret
   exact ⟨fe, is100 HI0, ib100 HB HI0, kb HK⟩
  ·have c5b0 : decide ((wrap64 ((s0_0.size : Int) - s0_1)) < a1) = false := df c5; clear c5; obtain ⟨ji7, hji7, hji7w⟩ := jj ((wrap64 (s0_1 + a1)) - a1)
   first | rw [hji7] at H | simp only [hji7] at H
   obtain ⟨c8, H⟩ := ifs H; have c8b0 := eq_true c8; have c8b1 := dt c8; clear c8; obtain ⟨c9, H⟩ := ifs H; have c9b0 := eq_true c9; have c9b1 := dt c9; obtain ⟨c10, H⟩ := ifs H; have c10b0 := eq_true c10; have c10b1 := dt c10; obtain ⟨rfl, rfl, rfl, rfl⟩ := o4 H; obtain ⟨HGz11, hgz11⟩ := HI0.out; have hcz11_0 := cellS100_0 HGz11; have hcz11_1 := cellS100_1 HGz11; have hcz11_2 := cellS100_2 HGz11; have hfz11_0 := blk_frozen HGz11 0; have hfz11_1 := blk_frozen HGz11 1; have hfz11_2 := blk_frozen HGz11 2; clear HGz11 hgz11; go_enter Tryz.func68, Tryz.ntmps68; go_wp2
   repeat (go_quiet (fail); try go_wp2)
   go_ret
   exact ⟨by first | rfl | (simp [errW_none, errW_some] <;> rfl) | (simp only [← hji7]; first | rfl | (simp [errW_none, errW_some] <;> rfl)) | (simp [*, errW_none, errW_some] <;> rfl), is100 HI0, ib100 HB HI0, kb HK⟩
end Go.Proofs.YtdepaileabejgaaGreatDoor.PFnExactOpenJournal
