/- Walks. No condition. -/
import Derived.Lib.SliceRun
import Derived.Test.YtdepaileabejgaaGreatDoorQFnExactOpenJournalx15
namespace Go.Proofs.YtdepaileabejgaaGreatDoor.PFnExactOpenJournal
open Go.RowKit Go.Proofs.YtdepaileabejgaaGreatDoorW.PrintWords Go.Proofs.YtdepaileabejgaaGreatDoorW.PrintLast Go.Proofs.YtdepaileabejgaaGreatDoorW.PrintMore Go.Proofs.YtdepaileabejgaaGreatDoorW.Short
attribute [local go_sem] max2_int min2_int max_two min_two max_three min_three max_four min_four
set_option maxHeartbeats 8000000
set_option maxRecDepth 100000
set_option linter.unusedVariables false
set_option linter.unusedSimpArgs false
def TabE (w : World) : Prop := Tab w ∧ (∃ tp p, w.var? Tryz.prog "strconv.ErrSyntax" = some #[.iface tp p]) ∧ (∃ tp p, w.var? Tryz.prog "strconv.ErrRange" = some #[.iface tp p])
theorem tabE_tab {w : World} (h : Aside0 (TabE w)) : Aside0 (Tab w) := ⟨h.out.1⟩
theorem var_below {w w1 : World} {n : String} {cs : Array Value} (h1 : w.var? Tryz.prog n = some cs) (hb : Below w.heap.size w w1) : w1.var? Tryz.prog n = some cs := by
 cases hg : Tryz.prog.globalNamed n with
 | none =>
  simp only [World.var?, hg, Option.bind_none] at h1
  cases h1
 | some g =>
 refine var?_below hb hg ?_ h1
 unfold World.var? at h1
 simp only [hg, Option.bind_some] at h1
 rcases Nat.lt_or_ge g w.heap.size with h2 | h2
 ·exact h2
 ·rw [Array.getElem?_eq_none h2] at h1
  cases h1
theorem tabE_below {w w1 : World} (h : Aside0 (TabE w)) (hb : Below w.heap.size w w1) : TabE w1 := by
 obtain ⟨h1, ⟨tp, p, h2⟩, ⟨tq, q, h3⟩⟩ := h.out
 exact ⟨tab_below ⟨h1⟩ hb, ⟨tp, p, var_below h2 hb⟩, ⟨tq, q, var_below h3 hb⟩⟩
def itoaT (v : Int) : ByteArray := ⟨(Lib.itoa v).toArray⟩
def rdecI (s : ByteArray) : Int × Bool := match Lib.atoiAll s.data.toList with | .ok v => if (0 ≤ v ∧ v ≤ 1000000000) ∧ (itoaT v).toList = s.toList then (v, true) else (0, false) | _ => (0, false)
def impl_ReadDecimal.f (a0 : ByteArray) : Option (Int × Bool) := if a0.size ≤ 140737488351232 then some (rdecI a0) else none
theorem atoi_calls (s : ByteArray) (hs : s.size ≤ 140737488351232) (w : World) (HT : TabE w) :
 (∀ v, Lib.atoiAll s.data.toList = .ok v → Calls Tryz.prog 104 #[.string s] w fun e w' => e = .returned (.tuple #[.int .i64 v, .nilIface]) ∧ Below w.heap.size w w') ∧
 ((∀ v, Lib.atoiAll s.data.toList ≠ .ok v) → Calls Tryz.prog 104 #[.string s] w fun e w' => (∃ m t a, e = .returned (.tuple #[.int .i64 m, .iface t (.pointer (some a))])) ∧ Below w.heap.size w w') := by
 obtain ⟨_, ⟨tp, p, h2⟩, ⟨tq, q, h3⟩⟩ := HT
 refine ⟨fun v hv => ?_, fun hne => ?_⟩
 ·refine (Tryz.strconv_Atoi_ok s (by omega) v hv w).mono ?_
  rintro e w' ⟨rfl, rfl | ⟨t, rfl⟩⟩
  ·exact ⟨rfl, Below.refl _ _⟩
  ·exact ⟨rfl, bytes_below (Below.refl _ _) (Nat.le_refl _) _ _⟩
 ·cases h : Lib.atoiAll s.data.toList
  ·exact absurd h (hne _)
  ·refine (Tryz.strconv_Atoi_syntax_var s (by omega) hne (by rw [h]; exact fun y => by cases y) tp p w h2).mono ?_
   rintro e w' ⟨N, rfl, _, _, hb⟩
   exact ⟨⟨_, _, _, rfl⟩, hb⟩
  ·refine (Tryz.strconv_Atoi_range_var s (by omega) h tq q w h3).mono ?_
   rintro e w' ⟨N, rfl, _, _, hb⟩
   exact ⟨⟨_, _, _, rfl⟩, hb⟩
theorem impl_ReadDecimal.calls (a0 : ByteArray) (r1 : Int) (r2 : Bool) (w : World) (h : impl_ReadDecimal.f a0 = some (r1, r2)) (HT : TabE w) :
 Calls Tryz.prog 80 #[.string a0] w fun e w' => e = .returned (.tuple #[.int .i64 r1, .bool r2]) ∧ Below w.heap.size w w' := by
 unfold impl_ReadDecimal.f at h
 split at h
 ·rename_i hs
  have hr := Option.some.inj h
  clear h
  have hat := atoi_calls a0 hs w HT
  have hB0 := Below.refl w.heap.size w
  by_cases hv : ∃ v, Lib.atoiAll a0.data.toList = .ok v
  ·obtain ⟨v, hv⟩ := hv
   have hcon := hat.1 v hv
   have hbd := Lib.atoiAll_bounds hv
   simp only [rdecI, hv] at hr
   have e1 : IntKind.i64.min = -9223372036854775808 := rfl
   have e2 : IntKind.i64.max = 9223372036854775807 := rfl
   have hdec : ∀ W, Below w.heap.size w W → Calls Tryz.prog 55 #[.int .i64 v] W fun e w' => e = .returned (.string (itoaT v)) ∧ Below W.heap.size W w' := fun W hW => impl_Decimal.calls v (itoaT v) W (by
    show (Option.bind (if decide (-9223372036854775808 ≤ v) && decide (v ≤ 9223372036854775807) then some (itoaT v) else none) fun t => some t) = _
    rw [if_pos (by simp only [Bool.and_eq_true, decide_eq_true_eq]; omega)]; rfl) (tab_below ⟨HT.1⟩ hW)
   have hin : ∀ W, Calls Tryz.prog 54 #[.int .i64 v, .int .i64 0, .int .i64 1000000000] W fun e w' => e = .returned (.bool (decide (0 ≤ v ∧ v ≤ 1000000000))) ∧ Drawn0 W w' := fun W => impl_in.calls v 0 1000000000 _ W (by
    unfold impl_in.f
    by_cases h : v ≥ 0
    ·rw [if_pos h]; simp [show (0 : Int) ≤ v from h]
    ·rw [if_neg h]; simp [show ¬ (0 : Int) ≤ v from h])
   by_cases hrng : 0 ≤ v ∧ v ≤ 1000000000
   ·rw [dt hrng] at hin
    by_cases heq : (itoaT v).toList = a0.toList
    ·rw [if_pos ⟨hrng, heq⟩] at hr
     injection hr with h1 h2
     subst h1; subst h2
     have hne : ((itoaT v).toList == a0.toList) = true := beq_iff_eq.mpr heq
     have hne2 : ((itoaT v).toList != a0.toList) = false := bne_eq_false_iff_eq.mpr heq
     generalize itoaT v = z at hdec hne hne2
     have HD := ak hdec
     have HI := ak hin
     have HB := ak hB0
     clear hdec hin hB0 heq hrng hat hbd HT hv hs e1 e2
     go_enter Tryz.func80, Tryz.ntmps80
     go_wp2_with (first | (go_at_call 104; refine hcon.mono ?_; clear hcon; rintro e w1 ⟨rfl, hb1⟩; have n0_ := ak (below_step HB.out hb1); clear HB hb1; have HB := n0_; clear n0_) | (go_at_call 54; refine (HI.out _).mono ?_; rintro e w2 ⟨rfl, ⟨nd, rfl⟩⟩) | (go_at_call 55; refine (HD.out _ (bt HB)).mono ?_; rintro e w3 ⟨rfl, hb3⟩; have n0_ := ak (below_step (bt HB) hb3); clear HB hb3; have HB := n0_; clear n0_))
     go_ret2
     exact ⟨rfl, bt HB⟩
    ·rw [if_neg (fun h => heq h.2)] at hr
     injection hr with h1 h2
     subst h1; subst h2
     have hne : ((itoaT v).toList == a0.toList) = false := beq_eq_false_iff_ne.mpr heq
     have hne2 : ((itoaT v).toList != a0.toList) = true := bne_iff_ne.mpr heq
     generalize itoaT v = z at hdec hne hne2
     have HD := ak hdec
     have HI := ak hin
     have HB := ak hB0
     clear hdec hin hB0 heq hrng hat hbd HT hv hs e1 e2
     go_enter Tryz.func80, Tryz.ntmps80
     go_wp2_with (first | (go_at_call 104; refine hcon.mono ?_; clear hcon; rintro e w1 ⟨rfl, hb1⟩; have n0_ := ak (below_step HB.out hb1); clear HB hb1; have HB := n0_; clear n0_) | (go_at_call 54; refine (HI.out _).mono ?_; rintro e w2 ⟨rfl, ⟨nd, rfl⟩⟩) | (go_at_call 55; refine (HD.out _ (bt HB)).mono ?_; rintro e w3 ⟨rfl, hb3⟩; have n0_ := ak (below_step (bt HB) hb3); clear HB hb3; have HB := n0_; clear n0_))
     go_ret2
     exact ⟨rfl, bt HB⟩
   ·rw [if_neg (fun h => hrng h.1)] at hr
    injection hr with h1 h2
    subst h1; subst h2
    rw [df hrng] at hin
    have HI := ak hin
    have HB := ak hB0
    clear hdec hin hB0 hrng hat hbd HT hv hs e1 e2
    go_enter Tryz.func80, Tryz.ntmps80
    go_wp2_with (first | (go_at_call 104; refine hcon.mono ?_; clear hcon; rintro e w1 ⟨rfl, hb1⟩; have n0_ := ak (below_step HB.out hb1); clear HB hb1; have HB := n0_; clear n0_) | (go_at_call 54; refine (HI.out _).mono ?_; rintro e w2 ⟨rfl, ⟨nd, rfl⟩⟩))
    go_ret2
    exact ⟨rfl, bt HB⟩
  ·have hcon := hat.2 (fun v h => hv ⟨v, h⟩)
   have hr2 : rdecI a0 = (0, false) := by
    unfold rdecI
    split
    ·rename_i v h; exact absurd ⟨v, h⟩ hv
    ·rfl
   rw [hr2] at hr
   injection hr with h1 h2
   subst h1; subst h2
   clear hr2 hat hv hs HT hB0
   go_enter Tryz.func80, Tryz.ntmps80
   go_wp2_with (go_at_call 104; refine hcon.mono ?_; clear hcon; rintro e w1 ⟨⟨m, t, ad, rfl⟩, hb1⟩)
   go_ret2
   exact ⟨rfl, by repeat (first | (with_reducible first | exact hb1 | apply below_alloc | apply pw_below_drewN | apply below_drew1) | exact hb1)⟩
 ·cases h
def impl_numbered.f (a0 : ByteArray) (a1 : ByteArray) (a2 : Int) : Option (Int × Bool) := (strings_CutPrefix.f a0 a1).bind fun bt465 => ((impl_ReadDecimal.f bt465.1).bind fun bt467 => (if bt465.2 = true then (if bt467.2 = true then (some (bt467.1, decide (bt467.1 ≤ a2))) else (some (bt467.1, false))) else (some (bt467.1, false))))
theorem impl_numbered.calls (a0 : ByteArray) (a1 : ByteArray) (a2 : Int) (r1 : Int) (r2 : Bool) (w : World) (H : impl_numbered.f a0 a1 a2 = some (r1, r2)) (HT0 : TabE w) :
 Calls Tryz.prog 52 #[.string a0, .string a1, .int .i64 a2] w fun e w' => e = .returned (.tuple #[.int .i64 r1, .bool r2]) ∧ Below w.heap.size w w' := by
 have HB := ak (Below.refl w.heap.size w); have HT := ak HT0; clear HT0; unfold impl_numbered.f at H; obtain ⟨⟨t465, t466⟩, A4, H⟩ := bo H
 try dsimp only at H
 obtain ⟨⟨t467, t468⟩, A5, H⟩ := bo H
 try dsimp only at H
 cases t466; rotate_left
 focus
  rw [if_pos rfl] at H; cases t468; rotate_left; rw [if_pos rfl] at H; obtain ⟨rfl, rfl⟩ := o2 H; rotate_left; rw [if_neg nf] at H; obtain ⟨rfl, rfl⟩ := o2 H
 rotate_left 2; rw [if_neg nf] at H; obtain ⟨rfl, rfl⟩ := o2 H
 all_goals
  go_enter Tryz.func52, Tryz.ntmps52
  go_wp2_with (first | ((with_reducible refine gd 15 rfl ?_); refine gc 15 Tryz.func79 (strings_CutPrefix.calls a0 a1 t465 _ _ A4.out) fun w' h_ => ?_; obtain ⟨nd, rfl⟩ := h_) | ((with_reducible refine gd 20 rfl ?_); refine gc 20 Tryz.func80 (impl_ReadDecimal.calls t465 t467 _ _ A5.out (tabE_below HT (bt HB))) fun w10 hb => ?_; replace HB := bs1 HB hb))
  go_ret2; exact ⟨fe, bt HB⟩
def impl_newestJournal.l0 : Nat → Int → List (S49) → Int → Int → Option (Int)
 | 0, _, _, _, _ => none
 | k + 1, x3, x9, x10, x11 => if x11 < x10 then (if 0 ≤ x11 then (if x11 < (x9.length : Int) then ((impl_numbered.f ((rd_T49 x9 x11).f0) (⟨#[106]⟩ : ByteArray) 999).bind fun bt472 => (if bt472.2 = true then (impl_newestJournal.l0 k (mx x3 bt472.1) x9 x10 (wrap64 (x11 + 1))) else (impl_newestJournal.l0 k x3 x9 x10 (wrap64 (x11 + 1))))) else (none)) else (none)) else (some x3)
def impl_newestJournal.f (k : Nat) (l0_0 : List (S49)) : Option (Int) := impl_newestJournal.l0 k (-1) l0_0 (l0_0.length : Int) 0
theorem impl_newestJournal.calls (k : Nat) (A0_0 : Option Addr) (c0_0 : Nat) (l0_0 : List (S49)) (r : Int) (w : World) (hr0_0 : Kd.C k49 w A0_0 l0_0.length l0_0) (hc0_0 : l0_0.length ≤ c0_0) (H : impl_newestJournal.f k l0_0 = some r) (HT0 : TabE w) :
 Calls Tryz.prog 26 #[.agg #[.slice A0_0 l0_0.length c0_0]] w fun e w' => e = .returned (.int .i64 r) ∧ Below w.heap.size w w' := by
 have hu36 := Tryz.underlying36; have hu49 := Tryz.underlying49; have HR0_0 := ak hr0_0; have HC0_0 := ak hc0_0; clear hr0_0 hc0_0; have HB := ak (Below.refl w.heap.size w); have HT := ak HT0; clear HT0; unfold impl_newestJournal.f at H; have H' := ak H; clear H; go_enter Tryz.func26, Tryz.ntmps26
 go_wp2_with (first | ((with_reducible refine gd 1 rfl ?_); refine bx 1 36 #[.slice A0_0 l0_0.length c0_0] fun gb469 hg w2 BK469 hb => ?_; have GE469 := ge_ hg HB; replace HB := bs1 HB hb; clear hb hg; obtain ⟨_, _⟩ := bc1 BK469))
 go_loopg [3, 11] k (fun kq v3 v11 w' => ∃ (x3_1 : Int) (x11_1 : Int), v3 = .int .i64 x3_1 ∧ v11 = .int .i64 x11_1 ∧ Aside0 (impl_newestJournal.l0 kq x3_1 l0_0 (l0_0.length : Int) x11_1 = some r) ∧ Aside0 (kq ≤ k) ∧ Aside0 (w'.heap[gb469]? = some (.cells #[(.slice A0_0 l0_0.length c0_0)] 36 (0, 0))) ∧ Aside0 (Below w.heap.size w w'))
 case atStart => exact ⟨((-1)), (0), fr, fr, H', ⟨Nat.le_refl _⟩, ⟨bk BK469⟩, ⟨bt HB⟩⟩
 case round =>
  clear H'; obtain ⟨x3_1, x11_1, rfl, rfl, HA, HK1, BK469, HB⟩ := hrel
  cases gk with
  | zero => exact absurd HA.out (by simp [impl_newestJournal.l0])
  | succ k1 =>
   have H := HA.out; clear HA; simp only [impl_newestJournal.l0] at H; revert H
   refine si (fun c4 H => ?_) fun c4 H => ?_
   ·have c4b0 := dt c4; clear c4; obtain ⟨c5, H⟩ := ifs H; have c5b0 := dt c5; clear c5; obtain ⟨c6, H⟩ := ifs H; have c6b0 := dt c6; clear c6; obtain ⟨⟨t472, t473⟩, A7, H⟩ := bo H
    try dsimp only at H
    cases t473; rotate_left; rw [if_pos rfl] at H; obtain ⟨ji9, hji9⟩ : ∃ j_ : Int, (mx x3_1 t472) = j_ := ⟨_, rfl⟩
    first | rw [hji9] at H | simp only [hji9] at H
    (try rw [hji9] at A7)
    have hji9_ : (if x3_1 < t472 then t472 else x3_1) = ji9 := hji9; have H' := ak H; clear H; obtain ⟨ad470, e470, hx470_0, hx470_1, hx470_2, p470, q470⟩ := ax49 HR0_0 HB x11_1; cases e470; rotate_left; rw [if_neg nf] at H; have H' := ak H; clear H; obtain ⟨ad470, e470, hx470_0, hx470_1, hx470_2, p470, q470⟩ := ax49 HR0_0 HB x11_1; cases e470
    all_goals
     go_wp2_with (first | ((with_reducible refine gd 5 rfl ?_); refine bx 5 49 #[.string (⟨#[]⟩ : ByteArray), .string (⟨#[]⟩ : ByteArray), .int .i64 0] fun gb471 hg w14 BK471 hb => ?_; have GE471 := ge_ hg HB; replace HB := bs1 HB hb; have NB469_471 := nl_ hg BK469; have NB471_469 := nr_ hg BK469; replace BK469 := bb BK469 hb; clear hb hg; have := NB471_469.out; have := NB469_471.out; obtain ⟨_, _, _, _, _, _⟩ := bc3 BK471) | ((with_reducible refine gd 18 rfl ?_); refine gc 18 Tryz.func52 (impl_numbered.calls ((rd_T49 l0_0 x11_1).f0) (⟨#[106]⟩ : ByteArray) 999 t472 _ _ A7.out (tabE_below HT (bt HB))) fun w17 hb => ?_; replace BK469 := bbg BK469 hb; replace BK471 := bbp BK471 hb #[.string ((rd_T49 l0_0 x11_1).f0), .string ((rd_T49 l0_0 x11_1).f1), .int .i64 ((rd_T49 l0_0 x11_1).f2)]; replace HB := bs1 HB hb))
    ·go_roundg k1
     case measure => have := HK1.out; omega
     case rel => exact ⟨(x3_1), (wrap64 (x11_1 + 1)), fr, fr, H', ⟨by have := HK1.out; omega⟩, ⟨bk BK469⟩, ⟨bt HB⟩⟩
    ·go_roundg k1
     case measure => have := HK1.out; omega
     case rel => exact ⟨(ji9), (wrap64 (x11_1 + 1)), (by first | rfl | (simp; done) | (simp only [← hji9] <;> (first | rfl | simp)) | (simp [*]; done)), fr, H', ⟨by have := HK1.out; omega⟩, ⟨bk BK469⟩, ⟨bt HB⟩⟩
   ·have c4b0 := df c4; clear c4; obtain rfl := oj H; go_wp2; go_ret; exact ⟨fe, bt HB⟩
instance : Inhabited S49 := ⟨z49⟩
def enc49 (x : S49) : List Value := [.string x.f0, .string x.f1, .int .i64 x.f2]
theorem C_cells49 {w : World} {A : Option Addr} {l : List S49} (h : Kd.C k49 w A l.length l) (hl : l ≠ []) : ∃ b off, A = some ⟨b, off, none⟩ ∧ b < w.heap.size ∧ ∀ j, j < l.length → ∀ i v, (enc49 l[j]!)[i]? = some v → w.cell? ⟨b, off + j * 3 + i, none⟩ = some v := by
 obtain ⟨⟨b, off, spot⟩, rfl, hc⟩ := h.2.2 (List.length_pos_iff.2 hl)
 have at_ : ∀ j, j < l.length → ∀ i v, (enc49 l[j]!)[i]? = some v → w.cell? (Addr.add ⟨b, off, spot⟩ (j * 3 + i)) = some v := by
  intro j hj i v hv
  obtain ⟨c, _, hK, hcell⟩ := hc j l[j]! (by rw [List.getElem?_eq_getElem hj, getElem!_pos l j hj])
  obtain rfl := k49_open hK
  exact hcell i v hv
 have hpos : 0 < l.length := List.length_pos_iff.2 hl
 have h0 := at_ 0 hpos 0 _ rfl
 have hs : spot = none ∧ b < w.heap.size := by
  simp only [Nat.zero_mul, Nat.add_zero, Addr.add, if_true, World.cell?] at h0
  cases hb : w.heap[b]? with
  | none => rw [hb] at h0; cases h0
  | some o =>
   rw [hb] at h0
   refine ⟨?_, ?_⟩
   ·cases spot with
    | none => rfl
    | some x => cases o <;> simp at h0
   ·rcases Nat.lt_or_ge b w.heap.size with h2 | h2
    ·exact h2
    ·rw [Array.getElem?_eq_none h2] at hb
     cases hb
 obtain ⟨rfl, hb⟩ := hs
 refine ⟨b, off, rfl, hb, fun j hj i v hv => ?_⟩
 have h1 := at_ j hj i v hv
 rwa [Addr.add_lit, ← Nat.add_assoc] at h1
theorem idx_none (g : Nat) (lb : Array Value) (A : Option Addr) (c : Nat) (w : World) :
 Calls Tryz.prog 81 #[.slice A 0 c, .func (.func g) #[] lb] w fun e w' => e = .returned (.int .i64 (-1)) ∧ Below w.heap.size w w' := by
 go_enter Tryz.func81, Tryz.ntmps81
 go_wp2
 go_loopg [5, 8] 0 (fun gg _ s8 wr => s8 = .int .i64 0 ∧ Aside0 (Below w.heap.size w wr))
 case atStart => exact ⟨rfl, ⟨Below.refl _ w⟩⟩
 case round =>
  obtain ⟨rfl, BW⟩ := hrel
  go_wp2
  go_ret
  exact ⟨rfl, BW.out⟩
theorem place_pred (a1 : ByteArray) (B : Nat) (w : World) (hB : B < w.heap.size) (hcell : w.cell? ⟨B, 0, none⟩ = some (.string a1)) :
 PredBelow Tryz.prog 82 #[.pointer (some ⟨B, 0, none⟩)] (fun x => .agg (enc49 x).toArray) (fun x => (x.f0.toList == a1.toList)) w := fun W x hb => by
 have hc : W.cell? ⟨B, 0, none⟩ = some (.string a1) := (hb.cell (p := ⟨B, 0, none⟩) hB).trans hcell
 have hBW : B < W.heap.size := Nat.lt_of_lt_of_le hB hb.size
 have hne : B ≠ W.heap.size := by omega
 obtain ⟨f0, f1, f2⟩ := x
 show Calls Tryz.prog 82 #[.agg #[.string f0, .string f1, .int .i64 f2], .pointer (some ⟨B, 0, none⟩)] W _
 go_enter Tryz.func82, Tryz.ntmps82
 go_wp2
 all_goals (go_ret; exact ⟨by simp_all, hb.alloc hb.size _⟩)
def impl_place.f (l0_0 : List S49) (a1 : ByteArray) : Option Int := some (Lib.idxBy (fun _ (y : S49) => (y.f0.toList == a1.toList)) l0_0 default)
theorem impl_place.calls (A0_0 : Option Addr) (c0_0 : Nat) (l0_0 : List (S49)) (a1 : ByteArray) (r : Int) (w : World) (hr0_0 : Kd.C k49 w A0_0 l0_0.length l0_0) (hc0_0 : l0_0.length ≤ c0_0) (h : impl_place.f l0_0 a1 = some r) :
 Calls Tryz.prog 53 #[.agg #[.slice A0_0 l0_0.length c0_0], .string a1] w fun e w' => e = .returned (.int .i64 r) ∧ Below w.heap.size w w' := by
 have hr : Lib.idxBy (fun _ (y : S49) => (y.f0.toList == a1.toList)) l0_0 default = r := Option.some.inj h
 clear h
 by_cases hl : l0_0 = []
 ·subst hl
  obtain rfl : r = -1 := by rw [← hr]; rfl
  go_enter Tryz.func53, Tryz.ntmps53
  go_wp2_with (go_at_call 81; refine (idx_none 82 _ _ _ _).mono ?_; rintro e w' ⟨rfl, hb'⟩)
  go_ret
  exact ⟨rfl, (((Below.refl _ w).alloc (Nat.le_refl _) _).alloc (by simp) _).trans (hb'.mono (by simp; omega))⟩
 ·obtain ⟨b, off, rfl, hb, hc⟩ := C_cells49 hr0_0 hl; have hlen : l0_0.length ≤ 9223372036854775807 := hr0_0.2.1; clear hr0_0
  have eg : ∀ args w, (callFunc 82 args).run Tryz.prog w = .ok (.enter 82 args) w := enters_of Tryz.func82 (by kernel_rfl) rfl
  obtain ⟨W1, hW1⟩ : ∃ W1, W1 = (w.alloc (.cells #[.slice (some ⟨b, off, none⟩) l0_0.length c0_0] 36)).alloc (.cells #[.string a1] 9) := ⟨_, rfl⟩
  have hsz : W1.heap.size = w.heap.size + 2 := by rw [hW1]; simp
  have hcell : W1.cell? ⟨w.heap.size + 1, 0, none⟩ = some (.string a1) := by rw [hW1]; simp
  have hcon := AnyQ.slices_IndexFunc Tryz.laysSlH06 3 Tryz.isAgg49 Tryz.sizeOf49 enc49 (fun _ => rfl) (fun x => (x.f0.toList == a1.toList)) 82 #[.pointer (some ⟨w.heap.size + 1, 0, none⟩)] eg b off l0_0.length c0_0 l0_0 W1
   (place_pred a1 (w.heap.size + 1) W1 (by omega) hcell) (Nat.le_refl _) hlen (by omega) (fun j hj i v hi => by
    rw [hW1]; exact Lib.cell?_alloc_some _ (Lib.cell?_alloc_some _ (hc j hj i v hi)))
  change Calls Tryz.prog 81 _ _ _ at hcon
  rw [List.take_length, hr] at hcon; clear hc eg hcell; subst hW1; go_enter Tryz.func53, Tryz.ntmps53
  go_wp2_with (go_at_call 81; refine hcon.mono ?_; rintro e w' ⟨rfl, hb'⟩)
  go_ret
  exact ⟨rfl, (((Below.refl _ w).alloc (Nat.le_refl _) _).alloc (by simp) _).trans (hb'.mono (by simp; omega))⟩
def impl_FileAt.f (l0_0 : List (S49)) (a1 : ByteArray) : Option (ByteArray × Bool) := (impl_place.f l0_0 a1).bind fun t475 => (if t475 < 0 then (some ((⟨#[]⟩ : ByteArray), false)) else (if 0 ≤ t475 then (if t475 < (l0_0.length : Int) then (some ((rd_T49 l0_0 t475).f1, true)) else (none)) else (none)))
theorem impl_FileAt.calls (A0_0 : Option Addr) (c0_0 : Nat) (l0_0 : List (S49)) (a1 : ByteArray) (r1 : ByteArray) (r2 : Bool) (w : World) (hr0_0 : Kd.C k49 w A0_0 l0_0.length l0_0) (hc0_0 : l0_0.length ≤ c0_0) (H : impl_FileAt.f l0_0 a1 = some (r1, r2)) :
 Calls Tryz.prog 27 #[.agg #[.slice A0_0 l0_0.length c0_0], .string a1] w fun e w' => e = .returned (.tuple #[.string r1, .bool r2]) ∧ Below w.heap.size w w' := by
 have hu36 := Tryz.underlying36; have HR0_0 := ak hr0_0; have HC0_0 := ak hc0_0; clear hr0_0 hc0_0; have HB := ak (Below.refl w.heap.size w); unfold impl_FileAt.f at H; obtain ⟨t475, A3, H⟩ := bo H; revert H
 refine si (fun c4 H => ?_) fun c4 H => ?_
 ·have c4b0 := dt c4; clear c4; obtain ⟨rfl, rfl⟩ := o2 H; go_enter Tryz.func27, Tryz.ntmps27
  go_wp2_with (first | ((with_reducible refine gd 2 rfl ?_); refine bx 2 36 #[.slice A0_0 l0_0.length c0_0] fun gb474 hg w5 BK474 hb => ?_; have GE474 := ge_ hg HB; replace HB := bs1 HB hb; clear hb hg; obtain ⟨_, _⟩ := bc1 BK474) | ((with_reducible refine gd 9 rfl ?_); refine gc 9 Tryz.func53 (impl_place.calls _ _ l0_0 a1 t475 _ ?s1 ?s2 A3.out) fun w7 hb => ?_; (case s1 => exact ca HR0_0 HB); (case s2 => exact HC0_0.out); replace BK474 := bb BK474 hb; replace HB := bs1 HB hb))
  go_ret2; exact ⟨fe, bt HB⟩
 ·have c4b0 := df c4; clear c4; obtain ⟨c8, H⟩ := ifs H; have c8b0 := dt c8; clear c8; obtain ⟨c9, H⟩ := ifs H; have c9b0 := dt c9; clear c9; obtain ⟨rfl, rfl⟩ := o2 H; go_enter Tryz.func27, Tryz.ntmps27
  go_wp2_with (first | ((with_reducible refine gd 2 rfl ?_); refine bx 2 36 #[.slice A0_0 l0_0.length c0_0] fun gb474 hg w10 BK474 hb => ?_; have GE474 := ge_ hg HB; replace HB := bs1 HB hb; clear hb hg; obtain ⟨_, _⟩ := bc1 BK474) | ((with_reducible refine gd 9 rfl ?_); refine gc 9 Tryz.func53 (impl_place.calls _ _ l0_0 a1 t475 _ ?s1 ?s2 A3.out) fun w12 hb => ?_; (case s1 => exact ca HR0_0 HB); (case s2 => exact HC0_0.out); replace BK474 := bb BK474 hb; replace HB := bs1 HB hb; obtain ⟨_, _⟩ := bc1 BK474; have p476 : 0 ≤ (t475 : Int) := da; have q476 : t475 < (l0_0.length : Int) := da; obtain ⟨ad476, e476, hx476_0, hx476_1, hx476_2⟩ := at_T49 HR0_0.out t475 p476 q476; cases e476; replace hx476_0 := xb HB hx476_0; replace hx476_1 := xb HB hx476_1; replace hx476_2 := xb HB hx476_2; replace p476 := eq_true p476; replace q476 := eq_true q476))
  go_ret2; exact ⟨fe, bt HB⟩
def impl_JournalName.f (a0 : Int) : Option (ByteArray) := (impl_in.f a0 0 999).bind fun t477 => (if t477 = true then ((impl_Decimal.f a0).bind fun t478 => (if 1 + t478.size ≤ 9223372036854775807 then (some ((⟨#[106]⟩ : ByteArray) ++ t478)) else (none))) else (some (⟨#[]⟩ : ByteArray)))
theorem impl_JournalName.calls (a0 : Int) (r : ByteArray) (w : World) (H : impl_JournalName.f a0 = some r) (HT0 : Tab w) :
 Calls Tryz.prog 28 #[.int .i64 a0] w fun e w' => e = .returned (.string r) ∧ Below w.heap.size w w' := by
 have HB := ak (Below.refl w.heap.size w); have HT := ak HT0; clear HT0; unfold impl_JournalName.f at H; obtain ⟨t477, A2, H⟩ := bo H; cases t477; rotate_left; rw [if_pos rfl] at H; obtain ⟨t478, A4, H⟩ := bo H; obtain ⟨c5, H⟩ := ifs H; have c5b0 := eq_true c5; have c5b1 := dt c5
 try have c5b2 : (9223372036854775807 < 1 + t478.size) = False := eq_false (Nat.not_lt.2 c5)
 obtain rfl := oj H; rotate_left; rw [if_neg nf] at H; obtain rfl := oj H
 all_goals
  go_enter Tryz.func28, Tryz.ntmps28
  go_wp2_with (first | ((with_reducible refine gd 4 rfl ?_); refine gc 4 Tryz.func54 (impl_in.calls a0 0 999 _ _ A2.out) fun w' h_ => ?_; obtain ⟨nd, rfl⟩ := h_) | ((with_reducible refine gd 7 rfl ?_); refine gc 7 Tryz.func55 (impl_Decimal.calls a0 t478 _ A4.out (tab_below HT (bt HB))) fun w6 hb => ?_; replace HB := bs1 HB hb))
  go_ret; exact ⟨fe, bt HB⟩
mutual
def impl_ReadVar.l0 : Nat → ByteArray → Int → Int → Int → Option (Int × Int × Bool)
 | 0, _, _, _, _ => none
 | k + 1, x0, x1, x7, x8 => if x8 < 5 then (impl_ReadVar.j1 k x0 x1 x7 x8 (decide ((wrap64 (x1 + x8)) < (x0.size : Int)))) else (impl_ReadVar.j1 k x0 x1 x7 x8 false)
def impl_ReadVar.j1 : Nat → ByteArray → Int → Int → Int → Bool → Option (Int × Int × Bool)
 | 0, _, _, _, _, _ => none
 | k + 1, x0, x1, x7, x8, x24 => if x24 = true then (if 0 ≤ (wrap64 (x1 + x8)) then (if (wrap64 (x1 + x8)) < (x0.size : Int) then (if 0 ≤ (wrap64 (7 * x8)) then (if (wrap64 (bt x0 (wrap64 (x1 + x8)))) > 127 then (impl_ReadVar.l0 k x0 x1 (Go.bits .or .i64 x7 (shl .i64 (Go.bits .and .i64 (wrap64 (bt x0 (wrap64 (x1 + x8)))) 127) (wrap64 (7 * x8)))) (wrap64 (x8 + 1))) else (if (wrap64 (bt x0 (wrap64 (x1 + x8)))) = 0 then (if x8 > 0 then (some (0, 0, false)) else (if (Go.bits .or .i64 x7 (shl .i64 (Go.bits .and .i64 (wrap64 (bt x0 (wrap64 (x1 + x8)))) 127) (wrap64 (7 * x8)))) > 1000000000 then (some (0, 0, false)) else (some (Go.bits .or .i64 x7 (shl .i64 (Go.bits .and .i64 (wrap64 (bt x0 (wrap64 (x1 + x8)))) 127) (wrap64 (7 * x8))), wrap64 ((wrap64 (x1 + x8)) + 1), true)))) else (if (Go.bits .or .i64 x7 (shl .i64 (Go.bits .and .i64 (wrap64 (bt x0 (wrap64 (x1 + x8)))) 127) (wrap64 (7 * x8)))) > 1000000000 then (some (0, 0, false)) else (some (Go.bits .or .i64 x7 (shl .i64 (Go.bits .and .i64 (wrap64 (bt x0 (wrap64 (x1 + x8)))) 127) (wrap64 (7 * x8))), wrap64 ((wrap64 (x1 + x8)) + 1), true))))) else (none)) else (none)) else (none)) else (some (0, 0, false))
end
def impl_ReadVar.f (k : Nat) (a0 : ByteArray) (a1 : Int) : Option (Int × Int × Bool) := (impl_in.f a1 0 (a0.size : Int)).bind fun t479 => (if t479 = true then (impl_ReadVar.l0 k a0 a1 0 0) else (some (0, 0, false)))
theorem impl_ReadVar.calls (k : Nat) (a0 : ByteArray) (a1 : Int) (r1 : Int) (r2 : Int) (r3 : Bool) (w : World) (H : impl_ReadVar.f k a0 a1 = some (r1, r2, r3)) :
 Calls Tryz.prog 84 #[.string a0, .int .i64 a1] w fun e w' => e = .returned (.tuple #[.int .i64 r1, .int .i64 r2, .bool r3]) ∧ Drawn0 w w' := by
 unfold impl_ReadVar.f at H; obtain ⟨t479, A3, H⟩ := bo H; cases t479; rotate_left; rw [if_pos rfl] at H; have H' := ak H; clear H; rotate_left; rw [if_neg nf] at H; obtain ⟨rfl, rfl, rfl⟩ := o3 H
 all_goals
  go_enter Tryz.func84, Tryz.ntmps84
  go_wp2_with (first | ((with_reducible refine gd 13 rfl ?_); refine gc 13 Tryz.func54 (impl_in.calls a1 0 (a0.size : Int) _ _ A3.out) fun w' h_ => ?_; obtain ⟨nd, rfl⟩ := h_))
 ·go_ret3
  exact ⟨fr, d0⟩
 ·go_loopg [7, 8] k (fun kq v7 v8 w' => ∃ (x7_1 : Int) (x8_1 : Int), v7 = .int .i64 x7_1 ∧ v8 = .int .i64 x8_1 ∧ Aside0 (impl_ReadVar.l0 kq a0 a1 x7_1 x8_1 = some (r1, r2, r3)) ∧ Aside0 (kq ≤ k) ∧ Drawn0 w w')
  case atStart => exact ⟨(0), (0), fr, fr, H', ⟨Nat.le_refl _⟩, d0⟩
  case round =>
   clear H'; obtain ⟨x7_1, x8_1, rfl, rfl, HA, HK1, ⟨m1, rfl⟩⟩ := hrel
   cases gk with
   | zero => exact absurd HA.out (by simp [impl_ReadVar.l0])
   | succ k1 =>
    have H := HA.out; clear HA; simp only [impl_ReadVar.l0] at H; have HC5 := ak H; clear H
    go_upto_region 5 with (fail)
    go_cut [24] (fun v24 wc => ∃ (kq : Nat) (x24_4 : Bool), v24 = .bool x24_4 ∧ Aside0 (impl_ReadVar.j1 kq a0 a1 x7_1 x8_1 x24_4 = some (r1, r2, r3)) ∧ Aside0 (kq ≤ k1) ∧ Drawn0 w wc)
    case first =>
     have H := HC5.out; clear HC5; revert H
     refine si (fun c6 H => ?_) fun c6 H => ?_
     ·have c6b0 := dt c6; clear c6
      (first | rw [c6b0] | (simp only [i64_w, i32_w]; rw [c6b0]) | skip)
      have H' := ak H; clear H; go_wp2; go_meet
      case rel => exact ⟨_, (decide ((wrap64 (a1 + x8_1)) < (a0.size : Int))), fr, H', ⟨by have := HK1.out; first | omega | exact Nat.le_refl _⟩, d0⟩
     ·have c6b0 := df c6; clear c6
      (first | rw [c6b0] | (simp only [i64_w, i32_w]; rw [c6b0]) | skip)
      have H' := ak H; clear H; go_wp2; go_meet
      case rel => exact ⟨_, (false), fr, H', ⟨by have := HK1.out; first | omega | exact Nat.le_refl _⟩, d0⟩
    case rest =>
     clear HC5; obtain ⟨kq, x24_4, rfl, HA, HJ4, ⟨mc4, rfl⟩⟩ := hcut
     cases kq with
     | zero => exact absurd HA.out (by simp [impl_ReadVar.j1])
     | succ kj4 =>
      have H := HA.out; clear HA; simp only [impl_ReadVar.j1] at H; cases x24_4; rotate_left
      ·rw [if_pos rfl] at H; obtain ⟨ji8, hji8, hji8w⟩ := jj (a1 + x8_1)
       first | rw [hji8] at H | simp only [hji8] at H
       obtain ⟨c9, H⟩ := ifs H; have c9b0 := dt c9; clear c9; obtain ⟨c10, H⟩ := ifs H; have c10b0 := dt c10; clear c10; obtain ⟨ji12, hji12, hji12w⟩ := jj (7 * x8_1)
       first | rw [hji12] at H | simp only [hji12] at H
       obtain ⟨c13, H⟩ := ifs H; have c13b0 := eq_true c13; have c13b1 := dt c13; clear c13; obtain ⟨ji14, hji14⟩ : ∃ j_ : Int, (shl .i64 (Go.bits .and .i64 (wrap64 (bt a0 (ji8))) 127) (ji12)) = j_ := ⟨_, rfl⟩
       first | rw [hji14] at H | simp only [hji14] at H
       have hji14_ : (IntKind.i64.wrap ((Go.bits .and .i64 (wrap64 (bt a0 (ji8))) 127) * 2 ^ min (ji12).toNat 64)) = ji14 := hji14; have hji14z : (ji12) ≤ 64 → (IntKind.i64.wrap ((Go.bits .and .i64 (wrap64 (bt a0 (ji8))) 127) * 2 ^ (ji12).toNat)) = ji14 := shl_small hji14; have hji14y : (wrap64 ((Go.bits .and .i64 (wrap64 (bt a0 (ji8))) 127) * 2 ^ min (ji12).toNat 64)) = ji14 := (i64_w _).symm.trans hji14_
       have hji14x : (ji12) ≤ 64 → (wrap64 ((Go.bits .and .i64 (wrap64 (bt a0 (ji8))) 127) * 2 ^ (ji12).toNat)) = ji14 := fun h_ => (i64_w _).symm.trans (hji14z h_)
       revert H
       refine si (fun c15 H => ?_) fun c15 H => ?_
       ·have c15b0 : decide (127 < (wrap64 (bt a0 (ji8)))) = true := dt c15; clear c15; have H' := ak H; clear H; have p11 : 0 ≤ ((ji8) : Int) := da; have q11 : (ji8) < (a0.size : Int) := da; have hx11 := bt_at a0 (ji8); replace p11 := eq_true p11; replace q11 := eq_true q11; go_wp2; go_roundg kj4
        case measure => have := HK1.out; have := HJ4.out; omega
        case rel => exact ⟨(Go.bits .or .i64 x7_1 (ji14)), (wrap64 (x8_1 + 1)), (by first | rfl | (simp; done) | (simp only [← hji14] <;> (first | rfl | simp)) | (simp [*]; done)), fr, H', ⟨by have := HK1.out; have := HJ4.out; omega⟩, d0⟩
       ·have c15b0 : decide (127 < (wrap64 (bt a0 (ji8)))) = false := df c15; clear c15; revert H
        refine si (fun c16 H => ?_) fun c16 H => ?_
        focus
         have c16b0 : ((wrap64 (bt a0 (ji8))) == 0) = true := beq_iff_eq.mpr c16; have c16b1 : ((wrap64 (bt a0 (ji8))) != 0) = false := bne_eq_false_iff_eq.mpr c16; clear c16; revert H
         refine si (fun c17 H => ?_) fun c17 H => ?_
         have c17b0 : decide (0 < x8_1) = true := dt c17; clear c17; obtain ⟨rfl, rfl, rfl⟩ := o3 H; have p11 : 0 ≤ ((ji8) : Int) := da; have q11 : (ji8) < (a0.size : Int) := da; have hx11 := bt_at a0 (ji8); replace p11 := eq_true p11; replace q11 := eq_true q11; rotate_left
         focus
          have c17b0 : decide (0 < x8_1) = false := df c17; clear c17; revert H
          refine si (fun c18 H => ?_) fun c18 H => ?_
          have c18b0 : decide (1000000000 < (Go.bits .or .i64 x7_1 (ji14))) = true := dt c18; clear c18; obtain ⟨rfl, rfl, rfl⟩ := o3 H; have p11 : 0 ≤ ((ji8) : Int) := da; have q11 : (ji8) < (a0.size : Int) := da; have hx11 := bt_at a0 (ji8); replace p11 := eq_true p11; replace q11 := eq_true q11; rotate_left; have c18b0 : decide (1000000000 < (Go.bits .or .i64 x7_1 (ji14))) = false := df c18; clear c18; obtain ⟨rfl, rfl, rfl⟩ := o3 H; have p11 : 0 ≤ ((ji8) : Int) := da; have q11 : (ji8) < (a0.size : Int) := da; have hx11 := bt_at a0 (ji8); replace p11 := eq_true p11; replace q11 := eq_true q11
        rotate_left 3
        focus
         have c16b0 : ((wrap64 (bt a0 (ji8))) == 0) = false := beq_eq_false_iff_ne.mpr c16; have c16b1 : ((wrap64 (bt a0 (ji8))) != 0) = true := bne_iff_ne.mpr c16; revert H
         refine si (fun c19 H => ?_) fun c19 H => ?_
         have c19b0 : decide (1000000000 < (Go.bits .or .i64 x7_1 (ji14))) = true := dt c19; clear c19; obtain ⟨rfl, rfl, rfl⟩ := o3 H; have p11 : 0 ≤ ((ji8) : Int) := da; have q11 : (ji8) < (a0.size : Int) := da; have hx11 := bt_at a0 (ji8); replace p11 := eq_true p11; replace q11 := eq_true q11; rotate_left; have c19b0 : decide (1000000000 < (Go.bits .or .i64 x7_1 (ji14))) = false := df c19; clear c19; obtain ⟨rfl, rfl, rfl⟩ := o3 H; have p11 : 0 ≤ ((ji8) : Int) := da; have q11 : (ji8) < (a0.size : Int) := da; have hx11 := bt_at a0 (ji8); replace p11 := eq_true p11; replace q11 := eq_true q11
        all_goals
         go_wp2
         go_ret3
         exact ⟨by first | rfl | (simp; done) | (simp only [← hji8, ← hji12, ← hji14] <;> (first | rfl | simp)) | (simp [*]; done), d0⟩
      ·rw [if_neg nf] at H; obtain ⟨rfl, rfl, rfl⟩ := o3 H; go_wp2
       go_ret3
       exact ⟨fr, d0⟩
def impl_fourBytes.f (a0 : Int) : Option (ByteArray) := some (strOfNums (([(a0 / 16777216) % 256, (a0 / 65536) % 256, (a0 / 256) % 256, (a0) % 256] : List Int)))
theorem impl_fourBytes.calls (a0 : Int) (r : ByteArray) (w : World) (H : impl_fourBytes.f a0 = some r) :
 Calls Tryz.prog 85 #[.int .u32 a0] w fun e w' => e = .returned (.string r) ∧ Below w.heap.size w w' := by
 have HB := ak (Below.refl w.heap.size w); unfold impl_fourBytes.f at H; obtain ⟨y480, hy480⟩ : ∃ y_ : List Int, y_ = (([(a0 / 16777216) % 256, (a0 / 65536) % 256, (a0 / 256) % 256, (a0) % 256] : List Int)) := ⟨_, rfl⟩
 first | replace H := bs hy480 H | rw [← hy480] at H
 have Ny480 := ak hy480; clear hy480; obtain rfl := oj H; go_enter Tryz.func85, Tryz.ntmps85
 go_wp2_with (first | ((with_reducible refine gate_dst (N := 14) rfl ?_); refine Kd.R_lit (Kd.int .u8) _ 5 ?hg (N := 14) ?hd (xs := ([(a0 / 16777216) % 256, (a0 / 65536) % 256, (a0 / 256) % 256, (a0) % 256] : List Int)) (inner := [.int .u8 ((a0 / 16777216) % 256), .int .u8 ((a0 / 65536) % 256), .int .u8 ((a0 / 256) % 256), .int .u8 ((a0) % 256)]) (ok := fun _ => True) (okp := fun _ => True) ?hr ?hp (fun _ hk => hk) trivial (Below.refl _ _) (Nat.le_refl _) (by simp) ?_; (case hd => rfl); (case hg => rfl); (case hr => first | (go_simp; done) | (go_simp; rfl)); (case hp => exact (Reps.one (show Kd.M (Kd.int .u8) _ _ _ ((a0 / 16777216) % 256) [.int .u8 ((a0 / 16777216) % 256)] from rfl) (Reps.one (show Kd.M (Kd.int .u8) _ _ _ ((a0 / 65536) % 256) [.int .u8 ((a0 / 65536) % 256)] from rfl) (Reps.one (show Kd.M (Kd.int .u8) _ _ _ ((a0 / 256) % 256) [.int .u8 ((a0 / 256) % 256)] from rfl) (Reps.one (show Kd.M (Kd.int .u8) _ _ _ ((a0) % 256) [.int .u8 ((a0) % 256)] from rfl) (Reps.none _ _)))))); intro v481 w2 ho3 hb hg_ hnew_; clear hg_ hnew_; (first | rw [← Ny480.out] at ho3 | (simp only [Int.reduceToNat] at ho3; rw [← Ny480.out] at ho3)); have HO482 := ak (Kd.R_lower ho3 (below_size (bt HB))); replace HB := bs1 HB hb; clear hb ho3; have hcv4 := own_string (P := Tryz.prog) Tryz.underlying95 Tryz.underlying5 Tryz.underlying9 (Kd.own_of_R HO482.out)))
 go_ret; exact ⟨fe, bt HB⟩
end Go.Proofs.YtdepaileabejgaaGreatDoor.PFnExactOpenJournal
