/- What the functions that FnExactLogPut reaches compute, and that the machine's calls compute it. Begun as a text of the kit's print. No condition. -/
import Derived.Test.YtpmdcplmnipdeaaShort
import Derived.Test.YtpmdcplmnipdeaaQFnExactLogPutx0
import Derived.Test.YtpmdcplmnipdeaaQFnExactLogPutx1
import Derived.Test.YtpmdcplmnipdeaaQFnExactLogPutx2
import Derived.Test.YtpmdcplmnipdeaaQFnExactLogPutx4
import Derived.Test.YtpmdcplmnipdeaaQFnExactLogPutx6
import Derived.Test.YtpmdcplmnipdeaaQFnExactLogPutx7
namespace Go.Proofs.Ytpmdcplmnipdeaa.PFnExactLogPut
open Go.RowKit Go.Proofs.YtpmdcplmnipdeaaW.PrintWords Go.Proofs.YtpmdcplmnipdeaaW.PrintLast Go.Proofs.YtpmdcplmnipdeaaW.PrintMore Go.Proofs.YtpmdcplmnipdeaaW.Short
attribute [local go_sem] max2_int min2_int max_two min_two max_three min_three max_four min_four   -- for this text's walks alone
set_option linter.unusedVariables false
set_option linter.unusedSimpArgs false

/-! ### laws_FnExactLogPut: function 9 -/
mutual
def laws_FnExactLogPut.j0 : Nat → Int → Bool → Bool → Bool → Int → Int → List (S83) → Int → Int → ByteArray → Int → Int → List (S53) → Int → Int → List (S53) → Int → Int → List (S53) → Option (Bool)
  | 0, _, _, _, _, _, _, _, _, _, _, _, _, _, _, _, _, _, _, _ => none
  | k + 1, x1, x9, x12, x55, x259000, x259001, x259002, x260000, x260001, x260002, x277000, x277001, x277002, x283000, x283001, x283002, x293000, x293001, x293002 => if x55 = true then (some false) else ((laws_toLog.f k x259000 x259001 x259002).bind fun bt294 => ((laws_eqLog.f k x283000 x283001 x283002 bt294.1 bt294.2.1 bt294.2.2).bind fun t299 => (if t299 = true then ((laws_markLog.f k x283000 x283001 x283002 1).bind fun bt300 => (if bt300.1 < 0 then (laws_FnExactLogPut.j1 k x1 x9 true x259000 x259001 x259002 x260000 x260001 x260002 x277000 x277001 x277002 x293000 x293001 x293002) else ((laws_eqLog.f k x293000 x293001 x293002 x277000 x277001 x277002).bind fun t302 => (if t302 = true then (laws_FnExactLogPut.j1 k x1 x9 (x12 != x9) x259000 x259001 x259002 x260000 x260001 x260002 x277000 x277001 x277002 x293000 x293001 x293002) else (laws_FnExactLogPut.j1 k x1 x9 true x259000 x259001 x259002 x260000 x260001 x260002 x277000 x277001 x277002 x293000 x293001 x293002))))) else (some false))))
def laws_FnExactLogPut.j1 : Nat → Int → Bool → Bool → Int → Int → List (S83) → Int → Int → ByteArray → Int → Int → List (S53) → Int → Int → List (S53) → Option (Bool)
  | 0, _, _, _, _, _, _, _, _, _, _, _, _, _, _, _ => none
  | k + 1, x1, x9, x76, x259000, x259001, x259002, x260000, x260001, x260002, x277000, x277001, x277002, x293000, x293001, x293002 => if x76 = true then (some false) else ((laws_markLog.f k x293000 x293001 x293002 1).bind fun bt303 => ((laws_heldLog.f k x293000 x293001 bt303.2 1).bind fun t305 => (if t305 < 0 then (some false) else (if t305 = bt303.1 then ((laws_toLog.f k x259000 x259001 x259002).bind fun bt306 => ((laws_toEntry.f x260000 x260001 x260002).bind fun bt311 => ((impl_LogPut.f k bt306.1 bt306.2.1 bt306.2.2 x1 bt311.1 bt311.2.1 bt311.2.2).bind fun bt314 => ((laws_eqLog.f k bt314.1 bt314.2.1 bt314.2.2.1 x277000 x277001 x277002).bind fun t321 => (if t321 = true then (laws_FnExactLogPut.j2 k bt303.1 (bt314.2.2.2 != x9) x293000 x293001 bt303.2) else (laws_FnExactLogPut.j2 k bt303.1 true x293000 x293001 bt303.2)))))) else (some false)))))
def laws_FnExactLogPut.j2 : Nat → Int → Bool → Int → Int → List (S53) → Option (Bool)
  | 0, _, _, _, _, _ => none
  | k + 1, x14, x105, x293000, x293001, x293002 => if x105 = true then (some false) else ((laws_heldLog.f k x293000 x293001 x293002 1).bind fun t322 => (if t322 < 0 then (some false) else (if t322 = x14 then (some true) else (some false))))
end
def laws_FnExactLogPut.f (k : Nat) (a0_0 : Int) (a0_1 : Int) (l0_2 : List (S83)) (a1 : Int) (a2_0 : Int) (a2_1 : Int) (a2_2 : ByteArray) : Option (Bool) := (laws_szLog.f k a0_0 a0_1 l0_2 1048576).bind fun t260 => (if t260 < 0 then (some true) else ((laws_szEntry.f a2_0 a2_1 a2_2 t260).bind fun t261 => (if t261 < 0 then (some true) else ((laws_toLog.f k a0_0 a0_1 l0_2).bind fun bt262 => ((laws_toEntry.f a2_0 a2_1 a2_2).bind fun bt267 => ((spec_LogPut.f k bt262.1 bt262.2.1 bt262.2.2 a1 bt267.1 bt267.2.1 bt267.2.2).bind fun bt270 => ((laws_toLog.f k a0_0 a0_1 l0_2).bind fun bt277 => ((laws_toEntry.f a2_0 a2_1 a2_2).bind fun bt283 => ((impl_LogPut.f k bt277.1 bt277.2.1 bt277.2.2 a1 bt283.1 bt283.2.1 bt283.2.2).bind fun bt286 => ((laws_eqLog.f k bt286.1 bt286.2.1 bt286.2.2.1 bt270.1 bt270.2.1 bt270.2.2.1).bind fun t293 => (if t293 = true then (laws_FnExactLogPut.j0 k a1 bt270.2.2.2 bt286.2.2.2 (bt286.2.2.2 != bt270.2.2.2) a0_0 a0_1 l0_2 a2_0 a2_1 a2_2 bt270.1 bt270.2.1 bt270.2.2.1 bt277.1 bt277.2.1 bt277.2.2 bt286.1 bt286.2.1 bt286.2.2.1) else (laws_FnExactLogPut.j0 k a1 bt270.2.2.2 bt286.2.2.2 true a0_0 a0_1 l0_2 a2_0 a2_1 a2_2 bt270.1 bt270.2.1 bt270.2.2.1 bt277.1 bt277.2.1 bt277.2.2 bt286.1 bt286.2.1 bt286.2.2.1))))))))))))
theorem laws_FnExactLogPut.mono_l : ∀ k, (∀ y0 y1 y2 y3 y4 y5 y6 y7 y8 y9 y10 y11 y12 y13 y14 y15 y16 y17 y18, LeO (laws_FnExactLogPut.j0 k y0 y1 y2 y3 y4 y5 y6 y7 y8 y9 y10 y11 y12 y13 y14 y15 y16 y17 y18) (laws_FnExactLogPut.j0 (k + 1) y0 y1 y2 y3 y4 y5 y6 y7 y8 y9 y10 y11 y12 y13 y14 y15 y16 y17 y18)) ∧ (∀ y0 y1 y2 y3 y4 y5 y6 y7 y8 y9 y10 y11 y12 y13 y14, LeO (laws_FnExactLogPut.j1 k y0 y1 y2 y3 y4 y5 y6 y7 y8 y9 y10 y11 y12 y13 y14) (laws_FnExactLogPut.j1 (k + 1) y0 y1 y2 y3 y4 y5 y6 y7 y8 y9 y10 y11 y12 y13 y14)) ∧ (∀ y0 y1 y2 y3 y4, LeO (laws_FnExactLogPut.j2 k y0 y1 y2 y3 y4) (laws_FnExactLogPut.j2 (k + 1) y0 y1 y2 y3 y4))
  | 0 => ⟨fun _ _ _ _ _ _ _ _ _ _ _ _ _ _ _ _ _ _ _ r h => by simp [laws_FnExactLogPut.j0] at h, fun _ _ _ _ _ _ _ _ _ _ _ _ _ _ _ r h => by simp [laws_FnExactLogPut.j1] at h, fun _ _ _ _ _ r h => by simp [laws_FnExactLogPut.j2] at h⟩
  | k + 1 => by
    obtain ⟨ih0, ih1, ih2⟩ := laws_FnExactLogPut.mono_l k
    refine ⟨?_, ?_, ?_⟩
    · intro y0 y1 y2 y3 y4 y5 y6 y7 y8 y9 y10 y11 y12 y13 y14 y15 y16 y17 y18
      unfold laws_FnExactLogPut.j0
      repeat' first
      | (with_reducible exact ih0 _ _ _ _ _ _ _ _ _ _ _ _ _ _ _ _ _ _ _)
      | (with_reducible exact ih1 _ _ _ _ _ _ _ _ _ _ _ _ _ _ _)
      | (with_reducible exact ih2 _ _ _ _ _)
      | (with_reducible exact impl_LogPut.mono _ _ _ _ _ _ _ _)
      | (with_reducible exact laws_eqLog.mono _ _ _ _ _ _ _)
      | (with_reducible exact laws_heldLog.mono _ _ _ _ _)
      | (with_reducible exact laws_markLog.mono _ _ _ _ _)
      | (with_reducible exact laws_szLog.mono _ _ _ _ _)
      | (with_reducible exact laws_toLog.mono _ _ _ _)
      | (with_reducible exact spec_LogPut.mono _ _ _ _ _ _ _ _)
      | (with_reducible exact LeO.refl _)
      | (with_reducible exact LeO.none _)
      | (with_reducible refine LeO.ite ?_ ?_)
      | (with_reducible refine LeO.bind ?_ (fun _ => ?_))
      | exact ih0 _ _ _ _ _ _ _ _ _ _ _ _ _ _ _ _ _ _ _
      | exact ih1 _ _ _ _ _ _ _ _ _ _ _ _ _ _ _
      | exact ih2 _ _ _ _ _
      | exact impl_LogPut.mono _ _ _ _ _ _ _ _
      | exact laws_eqLog.mono _ _ _ _ _ _ _
      | exact laws_heldLog.mono _ _ _ _ _
      | exact laws_markLog.mono _ _ _ _ _
      | exact laws_szLog.mono _ _ _ _ _
      | exact laws_toLog.mono _ _ _ _
      | exact spec_LogPut.mono _ _ _ _ _ _ _ _
      | exact LeO.none _
      | refine LeO.ite ?_ ?_
      | refine LeO.bind ?_ (fun _ => ?_)
    · intro y0 y1 y2 y3 y4 y5 y6 y7 y8 y9 y10 y11 y12 y13 y14
      unfold laws_FnExactLogPut.j1
      repeat' first
      | (with_reducible exact ih0 _ _ _ _ _ _ _ _ _ _ _ _ _ _ _ _ _ _ _)
      | (with_reducible exact ih1 _ _ _ _ _ _ _ _ _ _ _ _ _ _ _)
      | (with_reducible exact ih2 _ _ _ _ _)
      | (with_reducible exact impl_LogPut.mono _ _ _ _ _ _ _ _)
      | (with_reducible exact laws_eqLog.mono _ _ _ _ _ _ _)
      | (with_reducible exact laws_heldLog.mono _ _ _ _ _)
      | (with_reducible exact laws_markLog.mono _ _ _ _ _)
      | (with_reducible exact laws_szLog.mono _ _ _ _ _)
      | (with_reducible exact laws_toLog.mono _ _ _ _)
      | (with_reducible exact spec_LogPut.mono _ _ _ _ _ _ _ _)
      | (with_reducible exact LeO.refl _)
      | (with_reducible exact LeO.none _)
      | (with_reducible refine LeO.ite ?_ ?_)
      | (with_reducible refine LeO.bind ?_ (fun _ => ?_))
      | exact ih0 _ _ _ _ _ _ _ _ _ _ _ _ _ _ _ _ _ _ _
      | exact ih1 _ _ _ _ _ _ _ _ _ _ _ _ _ _ _
      | exact ih2 _ _ _ _ _
      | exact impl_LogPut.mono _ _ _ _ _ _ _ _
      | exact laws_eqLog.mono _ _ _ _ _ _ _
      | exact laws_heldLog.mono _ _ _ _ _
      | exact laws_markLog.mono _ _ _ _ _
      | exact laws_szLog.mono _ _ _ _ _
      | exact laws_toLog.mono _ _ _ _
      | exact spec_LogPut.mono _ _ _ _ _ _ _ _
      | exact LeO.none _
      | refine LeO.ite ?_ ?_
      | refine LeO.bind ?_ (fun _ => ?_)
    · intro y0 y1 y2 y3 y4
      unfold laws_FnExactLogPut.j2
      repeat' first
      | (with_reducible exact ih0 _ _ _ _ _ _ _ _ _ _ _ _ _ _ _ _ _ _ _)
      | (with_reducible exact ih1 _ _ _ _ _ _ _ _ _ _ _ _ _ _ _)
      | (with_reducible exact ih2 _ _ _ _ _)
      | (with_reducible exact impl_LogPut.mono _ _ _ _ _ _ _ _)
      | (with_reducible exact laws_eqLog.mono _ _ _ _ _ _ _)
      | (with_reducible exact laws_heldLog.mono _ _ _ _ _)
      | (with_reducible exact laws_markLog.mono _ _ _ _ _)
      | (with_reducible exact laws_szLog.mono _ _ _ _ _)
      | (with_reducible exact laws_toLog.mono _ _ _ _)
      | (with_reducible exact spec_LogPut.mono _ _ _ _ _ _ _ _)
      | (with_reducible exact LeO.refl _)
      | (with_reducible exact LeO.none _)
      | (with_reducible refine LeO.ite ?_ ?_)
      | (with_reducible refine LeO.bind ?_ (fun _ => ?_))
      | exact ih0 _ _ _ _ _ _ _ _ _ _ _ _ _ _ _ _ _ _ _
      | exact ih1 _ _ _ _ _ _ _ _ _ _ _ _ _ _ _
      | exact ih2 _ _ _ _ _
      | exact impl_LogPut.mono _ _ _ _ _ _ _ _
      | exact laws_eqLog.mono _ _ _ _ _ _ _
      | exact laws_heldLog.mono _ _ _ _ _
      | exact laws_markLog.mono _ _ _ _ _
      | exact laws_szLog.mono _ _ _ _ _
      | exact laws_toLog.mono _ _ _ _
      | exact spec_LogPut.mono _ _ _ _ _ _ _ _
      | exact LeO.none _
      | refine LeO.ite ?_ ?_
      | refine LeO.bind ?_ (fun _ => ?_)
theorem laws_FnExactLogPut.mono : ∀ a0 a1 a2 a3 a4 a5 a6 k, LeO (laws_FnExactLogPut.f k a0 a1 a2 a3 a4 a5 a6) (laws_FnExactLogPut.f (k + 1) a0 a1 a2 a3 a4 a5 a6) := by
  intro a0 a1 a2 a3 a4 a5 a6 k
  obtain ⟨ih0, ih1, ih2⟩ := laws_FnExactLogPut.mono_l k
  unfold laws_FnExactLogPut.f
  repeat' first
      | (with_reducible exact ih0 _ _ _ _ _ _ _ _ _ _ _ _ _ _ _ _ _ _ _)
      | (with_reducible exact ih1 _ _ _ _ _ _ _ _ _ _ _ _ _ _ _)
      | (with_reducible exact ih2 _ _ _ _ _)
      | (with_reducible exact impl_LogPut.mono _ _ _ _ _ _ _ _)
      | (with_reducible exact laws_eqLog.mono _ _ _ _ _ _ _)
      | (with_reducible exact laws_heldLog.mono _ _ _ _ _)
      | (with_reducible exact laws_markLog.mono _ _ _ _ _)
      | (with_reducible exact laws_szLog.mono _ _ _ _ _)
      | (with_reducible exact laws_toLog.mono _ _ _ _)
      | (with_reducible exact spec_LogPut.mono _ _ _ _ _ _ _ _)
      | (with_reducible exact LeO.refl _)
      | (with_reducible exact LeO.none _)
      | (with_reducible refine LeO.ite ?_ ?_)
      | (with_reducible refine LeO.bind ?_ (fun _ => ?_))
      | exact ih0 _ _ _ _ _ _ _ _ _ _ _ _ _ _ _ _ _ _ _
      | exact ih1 _ _ _ _ _ _ _ _ _ _ _ _ _ _ _
      | exact ih2 _ _ _ _ _
      | exact impl_LogPut.mono _ _ _ _ _ _ _ _
      | exact laws_eqLog.mono _ _ _ _ _ _ _
      | exact laws_heldLog.mono _ _ _ _ _
      | exact laws_markLog.mono _ _ _ _ _
      | exact laws_szLog.mono _ _ _ _ _
      | exact laws_toLog.mono _ _ _ _
      | exact spec_LogPut.mono _ _ _ _ _ _ _ _
      | exact LeO.none _
      | refine LeO.ite ?_ ?_
      | refine LeO.bind ?_ (fun _ => ?_)
def laws_FnExactLogPut.T8 : Bool × List (List Nat × List Nat) := (true, [([], []), ([0], [0]), ([], []), ([], []), ([3, 1], [3]), ([1, 2, 4, 4], [1, 2, 4]), ([5], [5]), ([6], [6]), ([6], [6]), ([], []), ([9, 7, 5, 0, 1, 2, 3, 4, 5, 6, 7, 9], [7, 9]), ([8, 10, 0, 1, 2, 3, 4, 5, 6, 7, 8, 9, 10], [8])])
def laws_FnExactLogPut.B8 : List Nat := [0, 1, 0, 0, 11, 31, 63, 127, 127, 0, 767, 2047]
theorem laws_FnExactLogPut.tab8 : rtab .any (opsOf Try.f9 8) = laws_FnExactLogPut.T8 := by kernel_rfl
theorem laws_FnExactLogPut.bits8 : waitsOk laws_FnExactLogPut.T8.2 laws_FnExactLogPut.B8 = true := by kernel_rfl
def laws_FnExactLogPut.T10 : Bool × List (List Nat × List Nat) := (true, [([], []), ([], []), ([], []), ([2], [2]), ([0, 1, 3, 3], [0, 1, 3]), ([4], [4]), ([5], [5]), ([5], [5]), ([], []), ([8, 6, 4, 0, 1, 2, 3, 4, 5, 6, 8], [6, 8]), ([7, 9, 0, 1, 2, 3, 4, 5, 6, 7, 8, 9], [7])])
def laws_FnExactLogPut.B10 : List Nat := [0, 0, 0, 4, 15, 31, 63, 63, 0, 383, 1023]
theorem laws_FnExactLogPut.tab10 : rtab .any (opsOf Try.f9 10) = laws_FnExactLogPut.T10 := by kernel_rfl
theorem laws_FnExactLogPut.bits10 : waitsOk laws_FnExactLogPut.T10.2 laws_FnExactLogPut.B10 = true := by kernel_rfl
def laws_FnExactLogPut.T27 : Bool × List (List Nat × List Nat) := (true, [([], []), ([0], [0]), ([], []), ([], []), ([3, 1], [3]), ([1, 2, 4, 4], [1, 2, 4]), ([5], [5]), ([6], [6]), ([6], [6]), ([], []), ([9, 7, 5, 0, 1, 2, 3, 4, 5, 6, 7, 9], [7, 9]), ([8, 10, 0, 1, 2, 3, 4, 5, 6, 7, 8, 9, 10], [8])])
def laws_FnExactLogPut.B27 : List Nat := [0, 1, 0, 0, 11, 31, 63, 127, 127, 0, 767, 2047]
theorem laws_FnExactLogPut.tab27 : rtab .any (opsOf Try.f9 27) = laws_FnExactLogPut.T27 := by kernel_rfl
theorem laws_FnExactLogPut.bits27 : waitsOk laws_FnExactLogPut.T27.2 laws_FnExactLogPut.B27 = true := by kernel_rfl
set_option maxHeartbeats 80000000 in
set_option maxRecDepth 100000 in
theorem laws_FnExactLogPut.calls (k : Nat) (a0_0 : Int) (a0_1 : Int) (A0_2 : Option Addr) (c0_2 : Nat) (l0_2 : List (S83)) (a1 : Int) (a2_0 : Int) (a2_1 : Int) (a2_2 : ByteArray) (r : Bool) (w : World) (hr0_2 : Kd.C k83 w A0_2 l0_2.length l0_2) (hc0_2 : l0_2.length ≤ c0_2) (h : laws_FnExactLogPut.f k a0_0 a0_1 l0_2 a1 a2_0 a2_1 a2_2 = some r) :
  Calls Try.prog 9 #[.agg #[.int .i64 a0_0, .int .i64 a0_1, .slice A0_2 l0_2.length c0_2], .int .i64 a1, .agg #[.int .i64 a2_0, .int .i64 a2_1, .string a2_2]] w fun e w' => e = .returned (.bool r) ∧ Below w.heap.size w w' := by
 have hu35 := Try.underlying35
 have hu83 := Try.underlying83
 have hu40 := Try.underlying40
 have HR0_2 := Aside0.mk hr0_2
 have HC0_2 := Aside0.mk hc0_2
 clear hr0_2 hc0_2
 have HB := Aside0.mk (Below.refl w.heap.size w)
 have H : ((laws_szLog.f k a0_0 a0_1 l0_2 1048576).bind fun t260 => (if t260 < 0 then (some true) else ((laws_szEntry.f a2_0 a2_1 a2_2 t260).bind fun t261 => (if t261 < 0 then (some true) else ((laws_toLog.f k a0_0 a0_1 l0_2).bind fun bt262 => ((laws_toEntry.f a2_0 a2_1 a2_2).bind fun bt267 => ((spec_LogPut.f k bt262.1 bt262.2.1 bt262.2.2 a1 bt267.1 bt267.2.1 bt267.2.2).bind fun bt270 => ((laws_toLog.f k a0_0 a0_1 l0_2).bind fun bt277 => ((laws_toEntry.f a2_0 a2_1 a2_2).bind fun bt283 => ((impl_LogPut.f k bt277.1 bt277.2.1 bt277.2.2 a1 bt283.1 bt283.2.1 bt283.2.2).bind fun bt286 => ((laws_eqLog.f k bt286.1 bt286.2.1 bt286.2.2.1 bt270.1 bt270.2.1 bt270.2.2.1).bind fun t293 => (if t293 = true then (laws_FnExactLogPut.j0 k a1 bt270.2.2.2 bt286.2.2.2 (bt286.2.2.2 != bt270.2.2.2) a0_0 a0_1 l0_2 a2_0 a2_1 a2_2 bt270.1 bt270.2.1 bt270.2.2.1 bt277.1 bt277.2.1 bt277.2.2 bt286.1 bt286.2.1 bt286.2.2.1) else (laws_FnExactLogPut.j0 k a1 bt270.2.2.2 bt286.2.2.2 true a0_0 a0_1 l0_2 a2_0 a2_1 a2_2 bt270.1 bt270.2.1 bt270.2.2.1 bt277.1 bt277.2.1 bt277.2.2 bt286.1 bt286.2.1 bt286.2.2.1))))))))))))) = some r := h
 clear h
 replace H := Option.bind_eq_some_iff.mp H
 obtain ⟨t260, A40, H⟩ := H
 replace H : (if t260 < 0 then (some true) else ((laws_szEntry.f a2_0 a2_1 a2_2 t260).bind fun t261 => (if t261 < 0 then (some true) else ((laws_toLog.f k a0_0 a0_1 l0_2).bind fun bt262 => ((laws_toEntry.f a2_0 a2_1 a2_2).bind fun bt267 => ((spec_LogPut.f k bt262.1 bt262.2.1 bt262.2.2 a1 bt267.1 bt267.2.1 bt267.2.2).bind fun bt270 => ((laws_toLog.f k a0_0 a0_1 l0_2).bind fun bt277 => ((laws_toEntry.f a2_0 a2_1 a2_2).bind fun bt283 => ((impl_LogPut.f k bt277.1 bt277.2.1 bt277.2.2 a1 bt283.1 bt283.2.1 bt283.2.2).bind fun bt286 => ((laws_eqLog.f k bt286.1 bt286.2.1 bt286.2.2.1 bt270.1 bt270.2.1 bt270.2.2.1).bind fun t293 => (if t293 = true then (laws_FnExactLogPut.j0 k a1 bt270.2.2.2 bt286.2.2.2 (bt286.2.2.2 != bt270.2.2.2) a0_0 a0_1 l0_2 a2_0 a2_1 a2_2 bt270.1 bt270.2.1 bt270.2.2.1 bt277.1 bt277.2.1 bt277.2.2 bt286.1 bt286.2.1 bt286.2.2.1) else (laws_FnExactLogPut.j0 k a1 bt270.2.2.2 bt286.2.2.2 true a0_0 a0_1 l0_2 a2_0 a2_1 a2_2 bt270.1 bt270.2.1 bt270.2.2.1 bt277.1 bt277.2.1 bt277.2.2 bt286.1 bt286.2.1 bt286.2.2.1)))))))))))) = some r := H
 have A4 := Aside0.mk A40
 clear A40
 by_cases c5 : t260 < 0
 ·rw [if_pos c5] at H
  have c5b0 : decide (t260 < 0) = true := decide_eq_true c5
  clear c5
  obtain rfl := Option.some.inj H
  go_enter Try.func9, Try.ntmps9
  go_wp2_with (first | ((with_reducible refine gate_dst (N := 3) rfl ?_); refine box_event ?hg (N := 3) ?hd (cs := #[.int .i64 a0_0, .int .i64 a0_1, .slice A0_2 l0_2.length c0_2]) (t := 35) ?hr ?_; (case hd => rfl); (case hg => rfl); (case hr => first | (go_simp; done) | (go_simp; rfl)); intro gb258 hg w6 hbox hb; have n0_ := Aside0.mk (below_step (bt HB) hb); have n1_ := Aside0.mk (hbox); have n2_ := Aside0.mk ((by rw [hg]; exact (below_size (bt HB)) : w.heap.size ≤ gb258)); have n3_ := Aside0.mk ((by rw [hg]; exact (below_size (bt HB)) : w.heap.size ≤ gb258)); clear HB; revert n0_ n1_ n2_ n3_; intro HB BK258 GW258 GE258; clear hb hbox hg) | ((with_reducible refine gate_dst (N := 5) rfl ?_); refine box_event ?hg (N := 5) ?hd (cs := #[.int .i64 a2_0, .int .i64 a2_1, .string a2_2]) (t := 83) ?hr ?_; (case hd => rfl); (case hg => rfl); (case hr => first | (go_simp; done) | (go_simp; rfl)); intro gb259 hg w7 hbox hb; have n0_ := bb BK258 hb; have n1_ := Aside0.mk (below_step (bt HB) hb); have n2_ := Aside0.mk (hbox); have n3_ := Aside0.mk ((by rw [hg]; exact (below_size (bt HB)) : w.heap.size ≤ gb259)); have n4_ := Aside0.mk ((by rw [hg]; exact (below_size (bt HB)) : w.heap.size ≤ gb259)); have n5_ := Aside0.mk ((by rw [hg]; exact Nat.ne_of_lt (blk_lt (bk BK258)) : gb258 ≠ gb259)); have n6_ := Aside0.mk ((by rw [hg]; exact Nat.ne_of_gt (blk_lt (bk BK258)) : gb259 ≠ gb258)); clear BK258 HB; revert n0_ n1_ n2_ n3_ n4_ n5_ n6_; intro BK258 HB BK259 GW259 GE259 NB258_259 NB259_258; clear hb hbox hg; have hnb8 := NB258_259.out; have hnc8 := NB259_258.out; have hcz9_0 : w7.cell? ⟨gb258, 0, none⟩ = some (.int .i64 a0_0) := bc BK258 0; have hcz9_1 : w7.cell? ⟨gb258, 1, none⟩ = some (.int .i64 a0_1) := bc BK258 1; have hcz9_2 : w7.cell? ⟨gb258, 2, none⟩ = some (.slice A0_2 l0_2.length c0_2) := bc BK258 2; have hfz9_0 := blk_frozen BK258.out 0; have hfz9_1 := blk_frozen BK258.out 1; have hfz9_2 := blk_frozen BK258.out 2) | ((with_reducible refine gate_callee (f := 17) rfl ?_); refine goesL_ (some 20) rfl rfl Try.func17 (by kernel_rfl) rfl #[.agg #[.int .i64 a0_0, .int .i64 a0_1, .slice A0_2 l0_2.length c0_2], .int .i64 1048576] rfl (by (try simp only [List.map_toArray, List.map_cons, List.map_nil]); first | done | rfl | (simp only [List.length_drop, List.length_take]; rfl)) ?_; (with_reducible refine (laws_szLog.calls k a0_0 a0_1 _ _ l0_2 1048576 t260 _ ?side1 ?side2 A4.out).mono ?_); (case side1 => repeat (first | exact (Kd.C_below HR0_2.out HB.out) | (with_reducible refine Kd.C_alloc ?_ _) | (with_reducible refine Kd.C_drewN ?_ _) | (with_reducible refine Kd.C_drew ?_))); (case side2 => exact HC0_2.out); rintro e w10 ⟨rfl, hb⟩; refine ⟨_, rfl, ?_⟩; have n0_ := bb BK258 hb; have n1_ := bb BK259 hb; have n2_ := Aside0.mk (below_step (bt HB) hb); clear BK258 BK259 HB; revert n0_ n1_ n2_; intro BK258 BK259 HB; (try clear hb); (try clear hb2); (try clear hk); (try clear hi)))
  go_ret
  exact ⟨by first | rfl | (simp [errW_none, errW_some] <;> rfl) | (simp [*, errW_none, errW_some] <;> rfl), bt HB⟩
 ·rw [if_neg c5] at H
  have c5b0 : decide (t260 < 0) = false := decide_eq_false c5
  clear c5
  replace H := Option.bind_eq_some_iff.mp H
  obtain ⟨t261, A110, H⟩ := H
  replace H : (if t261 < 0 then (some true) else ((laws_toLog.f k a0_0 a0_1 l0_2).bind fun bt262 => ((laws_toEntry.f a2_0 a2_1 a2_2).bind fun bt267 => ((spec_LogPut.f k bt262.1 bt262.2.1 bt262.2.2 a1 bt267.1 bt267.2.1 bt267.2.2).bind fun bt270 => ((laws_toLog.f k a0_0 a0_1 l0_2).bind fun bt277 => ((laws_toEntry.f a2_0 a2_1 a2_2).bind fun bt283 => ((impl_LogPut.f k bt277.1 bt277.2.1 bt277.2.2 a1 bt283.1 bt283.2.1 bt283.2.2).bind fun bt286 => ((laws_eqLog.f k bt286.1 bt286.2.1 bt286.2.2.1 bt270.1 bt270.2.1 bt270.2.2.1).bind fun t293 => (if t293 = true then (laws_FnExactLogPut.j0 k a1 bt270.2.2.2 bt286.2.2.2 (bt286.2.2.2 != bt270.2.2.2) a0_0 a0_1 l0_2 a2_0 a2_1 a2_2 bt270.1 bt270.2.1 bt270.2.2.1 bt277.1 bt277.2.1 bt277.2.2 bt286.1 bt286.2.1 bt286.2.2.1) else (laws_FnExactLogPut.j0 k a1 bt270.2.2.2 bt286.2.2.2 true a0_0 a0_1 l0_2 a2_0 a2_1 a2_2 bt270.1 bt270.2.1 bt270.2.2.1 bt277.1 bt277.2.1 bt277.2.2 bt286.1 bt286.2.1 bt286.2.2.1)))))))))) = some r := H
  have A11 := Aside0.mk A110
  clear A110
  by_cases c12 : t261 < 0
  ·rw [if_pos c12] at H
   have c12b0 : decide (t261 < 0) = true := decide_eq_true c12
   clear c12
   obtain rfl := Option.some.inj H
   go_enter Try.func9, Try.ntmps9
   go_wp2_with (first | ((with_reducible refine gate_dst (N := 3) rfl ?_); refine box_event ?hg (N := 3) ?hd (cs := #[.int .i64 a0_0, .int .i64 a0_1, .slice A0_2 l0_2.length c0_2]) (t := 35) ?hr ?_; (case hd => rfl); (case hg => rfl); (case hr => first | (go_simp; done) | (go_simp; rfl)); intro gb258 hg w13 hbox hb; have n0_ := Aside0.mk (below_step (bt HB) hb); have n1_ := Aside0.mk (hbox); have n2_ := Aside0.mk ((by rw [hg]; exact (below_size (bt HB)) : w.heap.size ≤ gb258)); have n3_ := Aside0.mk ((by rw [hg]; exact (below_size (bt HB)) : w.heap.size ≤ gb258)); clear HB; revert n0_ n1_ n2_ n3_; intro HB BK258 GW258 GE258; clear hb hbox hg) | ((with_reducible refine gate_dst (N := 5) rfl ?_); refine box_event ?hg (N := 5) ?hd (cs := #[.int .i64 a2_0, .int .i64 a2_1, .string a2_2]) (t := 83) ?hr ?_; (case hd => rfl); (case hg => rfl); (case hr => first | (go_simp; done) | (go_simp; rfl)); intro gb259 hg w14 hbox hb; have n0_ := bb BK258 hb; have n1_ := Aside0.mk (below_step (bt HB) hb); have n2_ := Aside0.mk (hbox); have n3_ := Aside0.mk ((by rw [hg]; exact (below_size (bt HB)) : w.heap.size ≤ gb259)); have n4_ := Aside0.mk ((by rw [hg]; exact (below_size (bt HB)) : w.heap.size ≤ gb259)); have n5_ := Aside0.mk ((by rw [hg]; exact Nat.ne_of_lt (blk_lt (bk BK258)) : gb258 ≠ gb259)); have n6_ := Aside0.mk ((by rw [hg]; exact Nat.ne_of_gt (blk_lt (bk BK258)) : gb259 ≠ gb258)); clear BK258 HB; revert n0_ n1_ n2_ n3_ n4_ n5_ n6_; intro BK258 HB BK259 GW259 GE259 NB258_259 NB259_258; clear hb hbox hg; have hnb15 := NB258_259.out; have hnc15 := NB259_258.out; have hcz16_0 : w14.cell? ⟨gb258, 0, none⟩ = some (.int .i64 a0_0) := bc BK258 0; have hcz16_1 : w14.cell? ⟨gb258, 1, none⟩ = some (.int .i64 a0_1) := bc BK258 1; have hcz16_2 : w14.cell? ⟨gb258, 2, none⟩ = some (.slice A0_2 l0_2.length c0_2) := bc BK258 2; have hfz16_0 := blk_frozen BK258.out 0; have hfz16_1 := blk_frozen BK258.out 1; have hfz16_2 := blk_frozen BK258.out 2) | ((with_reducible refine gate_callee (f := 17) rfl ?_); refine goesL_ (some 20) rfl rfl Try.func17 (by kernel_rfl) rfl #[.agg #[.int .i64 a0_0, .int .i64 a0_1, .slice A0_2 l0_2.length c0_2], .int .i64 1048576] rfl (by (try simp only [List.map_toArray, List.map_cons, List.map_nil]); first | done | rfl | (simp only [List.length_drop, List.length_take]; rfl)) ?_; (with_reducible refine (laws_szLog.calls k a0_0 a0_1 _ _ l0_2 1048576 t260 _ ?side1 ?side2 A4.out).mono ?_); (case side1 => repeat (first | exact (Kd.C_below HR0_2.out HB.out) | (with_reducible refine Kd.C_alloc ?_ _) | (with_reducible refine Kd.C_drewN ?_ _) | (with_reducible refine Kd.C_drew ?_))); (case side2 => exact HC0_2.out); rintro e w17 ⟨rfl, hb⟩; refine ⟨_, rfl, ?_⟩; have n0_ := bb BK258 hb; have n1_ := bb BK259 hb; have n2_ := Aside0.mk (below_step (bt HB) hb); clear BK258 BK259 HB; revert n0_ n1_ n2_; intro BK258 BK259 HB; (try clear hb); (try clear hb2); (try clear hk); (try clear hi); have hcz18_0 : w17.cell? ⟨gb259, 0, none⟩ = some (.int .i64 a2_0) := bc BK259 0; have hcz18_1 : w17.cell? ⟨gb259, 1, none⟩ = some (.int .i64 a2_1) := bc BK259 1; have hcz18_2 : w17.cell? ⟨gb259, 2, none⟩ = some (.string a2_2) := bc BK259 2; have hfz18_0 := blk_frozen BK259.out 0; have hfz18_1 := blk_frozen BK259.out 1; have hfz18_2 := blk_frozen BK259.out 2) | ((with_reducible refine gate_callee (f := 45) rfl ?_); refine goesL_ (some 25) rfl rfl Try.func45 (by kernel_rfl) rfl #[.agg #[.int .i64 a2_0, .int .i64 a2_1, .string a2_2], .int .i64 t260] rfl (by (try simp only [List.map_toArray, List.map_cons, List.map_nil]); first | done | rfl | (simp only [List.length_drop, List.length_take]; rfl)) ?_; (with_reducible refine (laws_szEntry.calls a2_0 a2_1 a2_2 t260 t261 _ A11.out).mono ?_); rintro e w19 ⟨rfl, hb⟩; refine ⟨_, rfl, ?_⟩; have n0_ := bb BK258 hb; have n1_ := bb BK259 hb; have n2_ := Aside0.mk (below_step (bt HB) hb); clear BK258 BK259 HB; revert n0_ n1_ n2_; intro BK258 BK259 HB; (try clear hb); (try clear hb2); (try clear hk); (try clear hi)))
   go_ret
   exact ⟨by first | rfl | (simp [errW_none, errW_some] <;> rfl) | (simp [*, errW_none, errW_some] <;> rfl), bt HB⟩
  ·rw [if_neg c12] at H
   have c12b0 : decide (t261 < 0) = false := decide_eq_false c12
   clear c12
   replace H := Option.bind_eq_some_iff.mp H
   obtain ⟨⟨t262, t263, t264⟩, A200, H⟩ := H
   replace H : ((laws_toEntry.f a2_0 a2_1 a2_2).bind fun bt267 => ((spec_LogPut.f k t262 t263 t264 a1 bt267.1 bt267.2.1 bt267.2.2).bind fun bt270 => ((laws_toLog.f k a0_0 a0_1 l0_2).bind fun bt277 => ((laws_toEntry.f a2_0 a2_1 a2_2).bind fun bt283 => ((impl_LogPut.f k bt277.1 bt277.2.1 bt277.2.2 a1 bt283.1 bt283.2.1 bt283.2.2).bind fun bt286 => ((laws_eqLog.f k bt286.1 bt286.2.1 bt286.2.2.1 bt270.1 bt270.2.1 bt270.2.2.1).bind fun t293 => (if t293 = true then (laws_FnExactLogPut.j0 k a1 bt270.2.2.2 bt286.2.2.2 (bt286.2.2.2 != bt270.2.2.2) a0_0 a0_1 l0_2 a2_0 a2_1 a2_2 bt270.1 bt270.2.1 bt270.2.2.1 bt277.1 bt277.2.1 bt277.2.2 bt286.1 bt286.2.1 bt286.2.2.1) else (laws_FnExactLogPut.j0 k a1 bt270.2.2.2 bt286.2.2.2 true a0_0 a0_1 l0_2 a2_0 a2_1 a2_2 bt270.1 bt270.2.1 bt270.2.2.1 bt277.1 bt277.2.1 bt277.2.2 bt286.1 bt286.2.1 bt286.2.2.1)))))))) = some r := H
   have A20 := Aside0.mk A200
   clear A200
   replace H := Option.bind_eq_some_iff.mp H
   obtain ⟨⟨t267, t268, t269⟩, A210, H⟩ := H
   replace H : ((spec_LogPut.f k t262 t263 t264 a1 t267 t268 t269).bind fun bt270 => ((laws_toLog.f k a0_0 a0_1 l0_2).bind fun bt277 => ((laws_toEntry.f a2_0 a2_1 a2_2).bind fun bt283 => ((impl_LogPut.f k bt277.1 bt277.2.1 bt277.2.2 a1 bt283.1 bt283.2.1 bt283.2.2).bind fun bt286 => ((laws_eqLog.f k bt286.1 bt286.2.1 bt286.2.2.1 bt270.1 bt270.2.1 bt270.2.2.1).bind fun t293 => (if t293 = true then (laws_FnExactLogPut.j0 k a1 bt270.2.2.2 bt286.2.2.2 (bt286.2.2.2 != bt270.2.2.2) a0_0 a0_1 l0_2 a2_0 a2_1 a2_2 bt270.1 bt270.2.1 bt270.2.2.1 bt277.1 bt277.2.1 bt277.2.2 bt286.1 bt286.2.1 bt286.2.2.1) else (laws_FnExactLogPut.j0 k a1 bt270.2.2.2 bt286.2.2.2 true a0_0 a0_1 l0_2 a2_0 a2_1 a2_2 bt270.1 bt270.2.1 bt270.2.2.1 bt277.1 bt277.2.1 bt277.2.2 bt286.1 bt286.2.1 bt286.2.2.1))))))) = some r := H
   have A21 := Aside0.mk A210
   clear A210
   replace H := Option.bind_eq_some_iff.mp H
   obtain ⟨⟨t270, t271, t272, t275⟩, A220, H⟩ := H
   replace H : ((laws_toLog.f k a0_0 a0_1 l0_2).bind fun bt277 => ((laws_toEntry.f a2_0 a2_1 a2_2).bind fun bt283 => ((impl_LogPut.f k bt277.1 bt277.2.1 bt277.2.2 a1 bt283.1 bt283.2.1 bt283.2.2).bind fun bt286 => ((laws_eqLog.f k bt286.1 bt286.2.1 bt286.2.2.1 t270 t271 t272).bind fun t293 => (if t293 = true then (laws_FnExactLogPut.j0 k a1 t275 bt286.2.2.2 (bt286.2.2.2 != t275) a0_0 a0_1 l0_2 a2_0 a2_1 a2_2 t270 t271 t272 bt277.1 bt277.2.1 bt277.2.2 bt286.1 bt286.2.1 bt286.2.2.1) else (laws_FnExactLogPut.j0 k a1 t275 bt286.2.2.2 true a0_0 a0_1 l0_2 a2_0 a2_1 a2_2 t270 t271 t272 bt277.1 bt277.2.1 bt277.2.2 bt286.1 bt286.2.1 bt286.2.2.1)))))) = some r := H
   have A22 := Aside0.mk A220
   clear A220
   replace H := Option.bind_eq_some_iff.mp H
   obtain ⟨⟨t277, t278, t279⟩, A230, H⟩ := H
   replace H : ((laws_toEntry.f a2_0 a2_1 a2_2).bind fun bt283 => ((impl_LogPut.f k t277 t278 t279 a1 bt283.1 bt283.2.1 bt283.2.2).bind fun bt286 => ((laws_eqLog.f k bt286.1 bt286.2.1 bt286.2.2.1 t270 t271 t272).bind fun t293 => (if t293 = true then (laws_FnExactLogPut.j0 k a1 t275 bt286.2.2.2 (bt286.2.2.2 != t275) a0_0 a0_1 l0_2 a2_0 a2_1 a2_2 t270 t271 t272 t277 t278 t279 bt286.1 bt286.2.1 bt286.2.2.1) else (laws_FnExactLogPut.j0 k a1 t275 bt286.2.2.2 true a0_0 a0_1 l0_2 a2_0 a2_1 a2_2 t270 t271 t272 t277 t278 t279 bt286.1 bt286.2.1 bt286.2.2.1))))) = some r := H
   have A23 := Aside0.mk A230
   clear A230
   replace H := Option.bind_eq_some_iff.mp H
   obtain ⟨⟨t283, t284, t285⟩, A240, H⟩ := H
   replace H : ((impl_LogPut.f k t277 t278 t279 a1 t283 t284 t285).bind fun bt286 => ((laws_eqLog.f k bt286.1 bt286.2.1 bt286.2.2.1 t270 t271 t272).bind fun t293 => (if t293 = true then (laws_FnExactLogPut.j0 k a1 t275 bt286.2.2.2 (bt286.2.2.2 != t275) a0_0 a0_1 l0_2 a2_0 a2_1 a2_2 t270 t271 t272 t277 t278 t279 bt286.1 bt286.2.1 bt286.2.2.1) else (laws_FnExactLogPut.j0 k a1 t275 bt286.2.2.2 true a0_0 a0_1 l0_2 a2_0 a2_1 a2_2 t270 t271 t272 t277 t278 t279 bt286.1 bt286.2.1 bt286.2.2.1)))) = some r := H
   have A24 := Aside0.mk A240
   clear A240
   replace H := Option.bind_eq_some_iff.mp H
   obtain ⟨⟨t286, t287, t288, t291⟩, A250, H⟩ := H
   replace H : ((laws_eqLog.f k t286 t287 t288 t270 t271 t272).bind fun t293 => (if t293 = true then (laws_FnExactLogPut.j0 k a1 t275 t291 (t291 != t275) a0_0 a0_1 l0_2 a2_0 a2_1 a2_2 t270 t271 t272 t277 t278 t279 t286 t287 t288) else (laws_FnExactLogPut.j0 k a1 t275 t291 true a0_0 a0_1 l0_2 a2_0 a2_1 a2_2 t270 t271 t272 t277 t278 t279 t286 t287 t288))) = some r := H
   have A25 := Aside0.mk A250
   clear A250
   have HC26 := Aside0.mk H
   clear H
   go_enter Try.func9, Try.ntmps9
   try go_wp2_with (first | ((with_reducible refine gate_dst (N := 3) rfl ?_); refine box_event ?hg (N := 3) ?hd (cs := #[.int .i64 a0_0, .int .i64 a0_1, .slice A0_2 l0_2.length c0_2]) (t := 35) ?hr ?_; (case hd => rfl); (case hg => rfl); (case hr => first | (go_simp; done) | (go_simp; rfl)); intro gb258 hg w27 hbox hb; have n0_ := Aside0.mk (below_step (bt HB) hb); have n1_ := Aside0.mk (hbox); have n2_ := Aside0.mk ((by rw [hg]; exact (below_size (bt HB)) : w.heap.size ≤ gb258)); have n3_ := Aside0.mk ((by rw [hg]; exact (below_size (bt HB)) : w.heap.size ≤ gb258)); clear HB; revert n0_ n1_ n2_ n3_; intro HB BK258 GW258 GE258; clear hb hbox hg) | ((with_reducible refine gate_dst (N := 5) rfl ?_); refine box_event ?hg (N := 5) ?hd (cs := #[.int .i64 a2_0, .int .i64 a2_1, .string a2_2]) (t := 83) ?hr ?_; (case hd => rfl); (case hg => rfl); (case hr => first | (go_simp; done) | (go_simp; rfl)); intro gb259 hg w28 hbox hb; have n0_ := bb BK258 hb; have n1_ := Aside0.mk (below_step (bt HB) hb); have n2_ := Aside0.mk (hbox); have n3_ := Aside0.mk ((by rw [hg]; exact (below_size (bt HB)) : w.heap.size ≤ gb259)); have n4_ := Aside0.mk ((by rw [hg]; exact (below_size (bt HB)) : w.heap.size ≤ gb259)); have n5_ := Aside0.mk ((by rw [hg]; exact Nat.ne_of_lt (blk_lt (bk BK258)) : gb258 ≠ gb259)); have n6_ := Aside0.mk ((by rw [hg]; exact Nat.ne_of_gt (blk_lt (bk BK258)) : gb259 ≠ gb258)); clear BK258 HB; revert n0_ n1_ n2_ n3_ n4_ n5_ n6_; intro BK258 HB BK259 GW259 GE259 NB258_259 NB259_258; clear hb hbox hg; have hnb29 := NB258_259.out; have hnc29 := NB259_258.out; have hcz30_0 : w28.cell? ⟨gb258, 0, none⟩ = some (.int .i64 a0_0) := bc BK258 0; have hcz30_1 : w28.cell? ⟨gb258, 1, none⟩ = some (.int .i64 a0_1) := bc BK258 1; have hcz30_2 : w28.cell? ⟨gb258, 2, none⟩ = some (.slice A0_2 l0_2.length c0_2) := bc BK258 2; have hfz30_0 := blk_frozen BK258.out 0; have hfz30_1 := blk_frozen BK258.out 1; have hfz30_2 := blk_frozen BK258.out 2) | ((with_reducible refine gate_callee (f := 17) rfl ?_); refine goesL_ (some 20) rfl rfl Try.func17 (by kernel_rfl) rfl #[.agg #[.int .i64 a0_0, .int .i64 a0_1, .slice A0_2 l0_2.length c0_2], .int .i64 1048576] rfl (by (try simp only [List.map_toArray, List.map_cons, List.map_nil]); first | done | rfl | (simp only [List.length_drop, List.length_take]; rfl)) ?_; (with_reducible refine (laws_szLog.calls k a0_0 a0_1 _ _ l0_2 1048576 t260 _ ?side1 ?side2 A4.out).mono ?_); (case side1 => repeat (first | exact (Kd.C_below HR0_2.out HB.out) | (with_reducible refine Kd.C_alloc ?_ _) | (with_reducible refine Kd.C_drewN ?_ _) | (with_reducible refine Kd.C_drew ?_))); (case side2 => exact HC0_2.out); rintro e w31 ⟨rfl, hb⟩; refine ⟨_, rfl, ?_⟩; have n0_ := bb BK258 hb; have n1_ := bb BK259 hb; have n2_ := Aside0.mk (below_step (bt HB) hb); clear BK258 BK259 HB; revert n0_ n1_ n2_; intro BK258 BK259 HB; (try clear hb); (try clear hb2); (try clear hk); (try clear hi); have hcz32_0 : w31.cell? ⟨gb259, 0, none⟩ = some (.int .i64 a2_0) := bc BK259 0; have hcz32_1 : w31.cell? ⟨gb259, 1, none⟩ = some (.int .i64 a2_1) := bc BK259 1; have hcz32_2 : w31.cell? ⟨gb259, 2, none⟩ = some (.string a2_2) := bc BK259 2; have hfz32_0 := blk_frozen BK259.out 0; have hfz32_1 := blk_frozen BK259.out 1; have hfz32_2 := blk_frozen BK259.out 2) | ((with_reducible refine gate_callee (f := 45) rfl ?_); refine goesL_ (some 25) rfl rfl Try.func45 (by kernel_rfl) rfl #[.agg #[.int .i64 a2_0, .int .i64 a2_1, .string a2_2], .int .i64 t260] rfl (by (try simp only [List.map_toArray, List.map_cons, List.map_nil]); first | done | rfl | (simp only [List.length_drop, List.length_take]; rfl)) ?_; (with_reducible refine (laws_szEntry.calls a2_0 a2_1 a2_2 t260 t261 _ A11.out).mono ?_); rintro e w33 ⟨rfl, hb⟩; refine ⟨_, rfl, ?_⟩; have n0_ := bb BK258 hb; have n1_ := bb BK259 hb; have n2_ := Aside0.mk (below_step (bt HB) hb); clear BK258 BK259 HB; revert n0_ n1_ n2_; intro BK258 BK259 HB; (try clear hb); (try clear hb2); (try clear hk); (try clear hi)))
   have n0_ := Aside0.mk (blk_drew BK258.out)
   have n1_ := Aside0.mk (blk_drew BK259.out)
   have n2_ := Aside0.mk (below_drew1 HB.out)
   clear BK258 BK259 HB
   revert n0_ n1_ n2_
   intro BK258 BK259 HB
   refine start_ (n := 12) (S := fun w' => w'.cell? ⟨gb258, 0, none⟩ = some (.int .i64 a0_0) ∧ w'.cell? ⟨gb258, 1, none⟩ = some (.int .i64 a0_1) ∧ w'.cell? ⟨gb258, 2, none⟩ = some (.slice A0_2 l0_2.length c0_2) ∧ w'.cell? ⟨gb259, 0, none⟩ = some (.int .i64 a2_0) ∧ w'.cell? ⟨gb259, 1, none⟩ = some (.int .i64 a2_1) ∧ w'.cell? ⟨gb259, 2, none⟩ = some (.string a2_2)) (ds := []) #[false, false, false, false, false, false, false, false, false, false, false, false] (by kernel_rfl) rfl rfl ⟨bc BK258 0, bc BK258 1, bc BK258 2, bc BK259 0, bc BK259 1, bc BK259 2⟩ (fun hHeld => ?_); refine with_tabW laws_FnExactLogPut.tab8 laws_FnExactLogPut.bits8 (fun HT_ HW_ => ?_)
   generalize w33.drew = w34 at BK258 BK259 HB hHeld ⊢
   refine pure_ (i := 2) (N := some 31) (v := ?_) (a' := ?_) #[false, false, true, false, false, false, false, false, false, false, false, false] rfl rfl (any_of HT_.out (by kernel_rfl)) (fun _ _ _ h => h) (Or.inl ⟨by rfl, ?_⟩) ?_ ?_
   rotate_left
   ·intro w'
    go_simp
    with_reducible rfl
   rotate_left
   ·simp only [Act.put, zA, zB, zC, i64_w, i32_w]
    rfl
   refine take_ (i := 0) (N := some 29) (v := ?_) (a' := ?_) #[true, false, true, false, false, false, false, false, false, false, false, false] rfl rfl (take_ofW HT_.out HW_.out (by kernel_rfl)) (fun _ _ _ h => h) (Or.inl ⟨by rfl, ?_⟩) hHeld ?_ ?_
   rotate_left
   ·rintro w' ⟨s0, s1, s2, s3, s4, s5⟩
    go_simp
    with_reducible rfl
   rotate_left
   ·simp only [Act.put, zA, zB, zC, i64_w, i32_w]
    rfl
   refine take_ (i := 3) (N := some 32) (v := ?_) (a' := ?_) #[true, false, true, true, false, false, false, false, false, false, false, false] rfl rfl (take_ofW HT_.out HW_.out (by kernel_rfl)) (fun _ _ _ h => h) (Or.inl ⟨by rfl, ?_⟩) hHeld ?_ ?_
   rotate_left
   ·rintro w' ⟨s0, s1, s2, s3, s4, s5⟩
    go_simp
    with_reducible rfl
   rotate_left
   ·simp only [Act.put, zA, zB, zC, i64_w, i32_w]
    rfl
   refine join_ (σ := Value × Value × Nat) 2 #[true, true, true, true, true, true, true, true, true, true, false, false] (fun s_ => [(30, .agg #[.int .i64 t262, .int .i64 t263, s_.1]), (33, .agg #[.int .i64 t267, .int .i64 t268, .string t269]), (34, .tuple #[.agg #[.int .i64 t270, .int .i64 t271, s_.2.1], .bool t275]), (8, .pointer (some ⟨s_.2.2, 0, none⟩)), (28, .tuple #[.agg #[.int .i64 t270, .int .i64 t271, s_.2.1], .bool t275]), (35, .agg #[.int .i64 t270, .int .i64 t271, s_.2.1]), (36, .bool t275)]) (fun s_ w' => (w'.cell? ⟨gb258, 0, none⟩ = some (.int .i64 a0_0) ∧ w'.cell? ⟨gb258, 1, none⟩ = some (.int .i64 a0_1) ∧ w'.cell? ⟨gb258, 2, none⟩ = some (.slice A0_2 l0_2.length c0_2) ∧ w'.cell? ⟨gb259, 0, none⟩ = some (.int .i64 a2_0) ∧ w'.cell? ⟨gb259, 1, none⟩ = some (.int .i64 a2_1) ∧ w'.cell? ⟨gb259, 2, none⟩ = some (.string a2_2)) ∧ (Kd.R k53 53 w' w.heap.size (fun k_ => some k_ ≠ (s_.2.1 : Value).ownBlock) s_.1 t264) ∧ (Kd.R k53 53 w' w.heap.size (fun k_ => some k_ ≠ (s_.1 : Value).ownBlock) s_.2.1 t272) ∧ (w'.heap[gb258]? = some (.cells #[.int .i64 a0_0, .int .i64 a0_1, .slice A0_2 l0_2.length c0_2] 35 (0, 0))) ∧ (w'.heap[gb259]? = some (.cells #[.int .i64 a2_0, .int .i64 a2_1, .string a2_2] 83 (0, 0))) ∧ (w'.heap[s_.2.2]? = some (.cells #[.int .i64 0, .int .i64 0, .slice none 0 0] 40 (0, 0))) ∧ (w.heap.size ≤ s_.2.2) ∧ (w.heap.size ≤ s_.2.2) ∧ (gb258 ≠ s_.2.2) ∧ (s_.2.2 ≠ gb258) ∧ (gb259 ≠ s_.2.2) ∧ (s_.2.2 ≠ gb259) ∧ (Below w.heap.size w w')) ?_ ?_
   rotate_left
   ·intro hCont
    refine two_ (i := 1) (j := 9) (Ni := some 30) (Nj := some 8) #[true, true, true, true, false, false, false, false, false, false, false, false] #[true, false, true, true, false, false, false, false, false, true, false, false] rfl rfl rfl rfl (two_of HT_.out (by kernel_rfl)) (by decide) (by decide) (fun K hK => ?_) (fun K hK => ?_)
    ·skip
     refine goes_ Try.func19 (by kernel_rfl) rfl #[.agg #[.int .i64 a0_0, .int .i64 a0_1, .slice A0_2 l0_2.length c0_2]] (by rfl) rfl rfl (by (try simp only [List.map_toArray, List.map_cons, List.map_nil]); first | done | rfl | (simp only [List.length_drop, List.length_take]; rfl)) ?_
     with_reducible refine (laws_toLog.calls k a0_0 a0_1 _ _ l0_2 t262 t263 t264 _ ?side1 ?side2 A20.out).mono ?_
     (case side1 => repeat (first | exact (Kd.C_below HR0_2.out HB.out) | (with_reducible refine Kd.C_alloc ?_ _) | (with_reducible refine Kd.C_drewN ?_ _) | (with_reducible refine Kd.C_drew ?_)))
     (case side2 => exact HC0_2.out)
     rintro e w35 ⟨v265, rfl, ho0, hb⟩
     refine ⟨_, rfl, ?_⟩
     have n0_ := Aside0.mk (Kd.R_lower ho0 (below_size (bt HB)))
     have n1_ := bb BK258 hb
     have n2_ := bb BK259 hb
     have n3_ := Aside0.mk (below_step (bt HB) hb)
     clear BK258 BK259 HB
     revert n0_ n1_ n2_ n3_
     intro HO266 BK258 BK259 HB
     (try clear hb)
     (try clear hb2)
     (try clear hk)
     (try clear hi)
     (try clear ho0)
     refine hK.out _ _ ⟨bc BK258 0, bc BK258 1, bc BK258 2, bc BK259 0, bc BK259 1, bc BK259 2⟩ (fun hHeld => ?_)
     clear hK K
     refine norm_ (a' := ?_) ?_ ?_
     rotate_left
     ·show Act.put _ (some 30) _ = _
      simp only [Act.put, zA, zB, zC, i64_w, i32_w]
      rfl
     refine two_ (i := 4) (j := 9) (Ni := some 33) (Nj := some 8) #[true, true, true, true, true, false, false, false, false, false, false, false] #[true, true, true, true, false, false, false, false, false, true, false, false] rfl rfl rfl rfl (two_of HT_.out (by kernel_rfl)) (by decide) (by decide) (fun K hK => ?_) (fun K hK => ?_)
     ·skip
      refine goes_ Try.func47 (by kernel_rfl) rfl #[.agg #[.int .i64 a2_0, .int .i64 a2_1, .string a2_2]] (by rfl) rfl rfl (by (try simp only [List.map_toArray, List.map_cons, List.map_nil]); first | done | rfl | (simp only [List.length_drop, List.length_take]; rfl)) ?_
      with_reducible refine (laws_toEntry.calls a2_0 a2_1 a2_2 t267 t268 t269 _ A21.out).mono ?_
      rintro e w36 ⟨rfl, hb⟩
      refine ⟨_, rfl, ?_⟩
      have n0_ := rb HO266 hb
      have n1_ := bb BK258 hb
      have n2_ := bb BK259 hb
      have n3_ := Aside0.mk (below_step (bt HB) hb)
      clear HO266 BK258 BK259 HB
      revert n0_ n1_ n2_ n3_
      intro HO266 BK258 BK259 HB
      (try clear hb)
      (try clear hb2)
      (try clear hk)
      (try clear hi)
      obtain ⟨Ao37, co37, eo37⟩ := Kd.R_slice HO266.out
      (first | subst eo37 | (injection eo37 with f1_ f2_ f3_; have f4_ := f1_.symm; have f5_ := f3_.symm; clear f1_ f2_ f3_; subst f4_; subst f5_))
      refine hK.out _ _ ⟨bc BK258 0, bc BK258 1, bc BK258 2, bc BK259 0, bc BK259 1, bc BK259 2⟩ (fun hHeld => ?_)
      clear hK K
      refine norm_ (a' := ?_) ?_ ?_
      rotate_left
      ·show Act.put _ (some 33) _ = _
       simp only [Act.put, zA, zB, zC, i64_w, i32_w]
       rfl
      refine two_ (i := 5) (j := 9) (Ni := some 34) (Nj := some 8) #[true, true, true, true, true, true, false, false, false, false, false, false] #[true, true, true, true, true, false, false, false, false, true, false, false] rfl rfl rfl rfl (two_of HT_.out (by kernel_rfl)) (by decide) (by decide) (fun K hK => ?_) (fun K hK => ?_)
      ·skip
       refine goes_ Try.func46 (by kernel_rfl) rfl #[.agg #[.int .i64 t262, .int .i64 t263, .slice Ao37 t264.length co37], .int .i64 a1, .agg #[.int .i64 t267, .int .i64 t268, .string t269]] (by rfl) rfl rfl (by (try simp only [List.map_toArray, List.map_cons, List.map_nil]); first | done | rfl | (simp only [List.length_drop, List.length_take]; rfl)) ?_
       with_reducible refine (spec_LogPut.calls k t262 t263 _ _ t264 a1 t267 t268 t269 t270 t271 t272 t275 _ ?side1 ?side2 A22.out).mono ?_
       (case side1 => repeat (first | exact (Kd.R_reads' HO266.out).2.2 | (with_reducible refine Kd.C_alloc ?_ _) | (with_reducible refine Kd.C_drewN ?_ _) | (with_reducible refine Kd.C_drew ?_)))
       (case side2 => exact (Kd.R_reads' HO266.out).2.1)
       rintro e w38 ⟨v273, rfl, ho0, hb⟩
       refine ⟨_, rfl, ?_⟩
       have n0_ := Aside0.mk (Kd.R_elder' (rk HO266) (Kd.R_base ho0) hb)
       have n1_ := Aside0.mk (Kd.R_lower (Kd.R_new' ho0 (Kd.R_lt (rk HO266))) (below_size (bt HB)))
       have n2_ := bb BK258 hb
       have n3_ := bb BK259 hb
       have n4_ := Aside0.mk (below_step (bt HB) hb)
       clear HO266 BK258 BK259 HB
       revert n0_ n1_ n2_ n3_ n4_
       intro HO266 HO274 BK258 BK259 HB
       (try clear hb)
       (try clear hb2)
       (try clear hk)
       (try clear hi)
       (try clear ho0)
       refine hK.out _ _ ⟨bc BK258 0, bc BK258 1, bc BK258 2, bc BK259 0, bc BK259 1, bc BK259 2⟩ (fun hHeld => ?_)
       clear hK K
       refine norm_ (a' := ?_) ?_ ?_
       rotate_left
       ·show Act.put _ (some 34) _ = _
        simp only [Act.put, zA, zB, zC, i64_w, i32_w]
        rfl
       refine pure_ (i := 6) (N := some 28) (v := ?_) (a' := ?_) #[true, true, true, true, true, true, true, false, false, false, false, false] rfl rfl (any_of HT_.out (by kernel_rfl)) (fun _ _ _ h => h) (Or.inl ⟨by rfl, ?_⟩) ?_ ?_
       rotate_left
       ·intro w'
        go_simp
        with_reducible rfl
       rotate_left
       ·simp only [Act.put, zA, zB, zC, i64_w, i32_w]
        rfl
       refine pure_ (i := 7) (N := some 35) (v := ?_) (a' := ?_) #[true, true, true, true, true, true, true, true, false, false, false, false] rfl rfl (any_of HT_.out (by kernel_rfl)) (fun _ _ _ h => h) (Or.inl ⟨by rfl, ?_⟩) ?_ ?_
       rotate_left
       ·intro w'
        go_simp
        with_reducible rfl
       rotate_left
       ·simp only [Act.put, zA, zB, zC, i64_w, i32_w]
        rfl
       refine pure_ (i := 8) (N := some 36) (v := ?_) (a' := ?_) #[true, true, true, true, true, true, true, true, true, false, false, false] rfl rfl (any_of HT_.out (by kernel_rfl)) (fun _ _ _ h => h) (Or.inl ⟨by rfl, ?_⟩) ?_ ?_
       rotate_left
       ·intro w'
        go_simp
        with_reducible rfl
       rotate_left
       ·simp only [Act.put, zA, zB, zC, i64_w, i32_w]
        rfl
       refine one_ (i := 9) (N := some 8) #[true, true, true, true, true, true, true, true, true, true, false, false] rfl rfl (one_of HT_.out (by kernel_rfl)) (by decide) (fun K hK => ?_)
       refine box_step ?hg (N := 8) ?hd (cs := #[.int .i64 0, .int .i64 0, .slice none 0 0]) (t := 40) ?hr ?_; (case hd => rfl); (case hg => rfl); (case hr => first | (go_simp; done) | (go_simp; rfl))
       intro gb276 hg w39 hbox hb
       have n0_ := rb HO266 hb
       have n1_ := rb HO274 hb
       have n2_ := bb BK258 hb
       have n3_ := bb BK259 hb
       have n4_ := Aside0.mk (below_step (bt HB) hb)
       have n5_ := Aside0.mk (hbox)
       have n6_ := Aside0.mk ((by rw [hg]; exact (below_size (bt HB)) : w.heap.size ≤ gb276))
       have n7_ := Aside0.mk ((by rw [hg]; exact (below_size (bt HB)) : w.heap.size ≤ gb276))
       have n8_ := Aside0.mk ((by rw [hg]; exact Nat.ne_of_lt (blk_lt (bk BK258)) : gb258 ≠ gb276))
       have n9_ := Aside0.mk ((by rw [hg]; exact Nat.ne_of_gt (blk_lt (bk BK258)) : gb276 ≠ gb258))
       have n10_ := Aside0.mk ((by rw [hg]; exact Nat.ne_of_lt (blk_lt (bk BK259)) : gb259 ≠ gb276))
       have n11_ := Aside0.mk ((by rw [hg]; exact Nat.ne_of_gt (blk_lt (bk BK259)) : gb276 ≠ gb259))
       clear HO266 HO274 BK258 BK259 HB
       revert n0_ n1_ n2_ n3_ n4_ n5_ n6_ n7_ n8_ n9_ n10_ n11_
       intro HO266 HO274 BK258 BK259 HB BK276 GW276 GE276 NB258_276 NB276_258 NB259_276 NB276_259
       clear hb hbox hg
       refine hK.out _ _ ⟨bc BK258 0, bc BK258 1, bc BK258 2, bc BK259 0, bc BK259 1, bc BK259 2⟩ (fun hHeld => ?_)
       clear hK K
       refine norm_ (a' := ?_) ?_ ?_
       rotate_left
       ·show Act.put _ (some 8) _ = _
        simp only [Act.put, zA, zB, zC, i64_w, i32_w]
        rfl
       exact norm_ (by simp only [putAll, Act.put, zA, zB, zC]) (hCont (.slice Ao37 t264.length co37, v273, gb276) _ ⟨hHeld, (by (with_reducible repeat (first | apply Kd.R_alloc | apply Kd.R_drewN | apply Kd.R_drew)); exact Kd.R_mono HO266.out (fun _ hk => hk.2)), (by (with_reducible repeat (first | apply Kd.R_alloc | apply Kd.R_drewN | apply Kd.R_drew)); exact Kd.R_mono HO274.out (fun _ hk => hk.2)), (bk BK258), (bk BK259), (bk BK276), GW276.out, GE276.out, NB258_276.out, NB276_258.out, NB259_276.out, NB276_259.out, (bt HB)⟩)
      ·skip
       refine box_step ?hg (N := 8) ?hd (cs := #[.int .i64 0, .int .i64 0, .slice none 0 0]) (t := 40) ?hr ?_; (case hd => rfl); (case hg => rfl); (case hr => first | (go_simp; done) | (go_simp; rfl))
       intro gb276 hg w37 hbox hb
       have n0_ := rb HO266 hb
       have n1_ := bb BK258 hb
       have n2_ := bb BK259 hb
       have n3_ := Aside0.mk (below_step (bt HB) hb)
       have n4_ := Aside0.mk (hbox)
       have n5_ := Aside0.mk ((by rw [hg]; exact (below_size (bt HB)) : w.heap.size ≤ gb276))
       have n6_ := Aside0.mk ((by rw [hg]; exact (below_size (bt HB)) : w.heap.size ≤ gb276))
       have n7_ := Aside0.mk ((by rw [hg]; exact Nat.ne_of_lt (blk_lt (bk BK258)) : gb258 ≠ gb276))
       have n8_ := Aside0.mk ((by rw [hg]; exact Nat.ne_of_gt (blk_lt (bk BK258)) : gb276 ≠ gb258))
       have n9_ := Aside0.mk ((by rw [hg]; exact Nat.ne_of_lt (blk_lt (bk BK259)) : gb259 ≠ gb276))
       have n10_ := Aside0.mk ((by rw [hg]; exact Nat.ne_of_gt (blk_lt (bk BK259)) : gb276 ≠ gb259))
       clear HO266 BK258 BK259 HB
       revert n0_ n1_ n2_ n3_ n4_ n5_ n6_ n7_ n8_ n9_ n10_
       intro HO266 BK258 BK259 HB BK276 GW276 GE276 NB258_276 NB276_258 NB259_276 NB276_259
       clear hb hbox hg
       obtain ⟨Ao38, co38, eo38⟩ := Kd.R_slice HO266.out
       (first | subst eo38 | (injection eo38 with f1_ f2_ f3_; have f4_ := f1_.symm; have f5_ := f3_.symm; clear f1_ f2_ f3_; subst f4_; subst f5_))
       refine hK.out _ _ ⟨bc BK258 0, bc BK258 1, bc BK258 2, bc BK259 0, bc BK259 1, bc BK259 2⟩ (fun hHeld => ?_)
       clear hK K
       refine norm_ (a' := ?_) ?_ ?_
       rotate_left
       ·show Act.put _ (some 8) _ = _
        simp only [Act.put, zA, zB, zC, i64_w, i32_w]
        rfl
       refine one_ (i := 5) (N := some 34) #[true, true, true, true, true, true, false, false, false, true, false, false] rfl rfl (one_of HT_.out (by kernel_rfl)) (by decide) (fun K hK => ?_)
       refine goes_ Try.func46 (by kernel_rfl) rfl #[.agg #[.int .i64 t262, .int .i64 t263, .slice Ao38 t264.length co38], .int .i64 a1, .agg #[.int .i64 t267, .int .i64 t268, .string t269]] (by rfl) rfl rfl (by (try simp only [List.map_toArray, List.map_cons, List.map_nil]); first | done | rfl | (simp only [List.length_drop, List.length_take]; rfl)) ?_
       with_reducible refine (spec_LogPut.calls k t262 t263 _ _ t264 a1 t267 t268 t269 t270 t271 t272 t275 _ ?side1 ?side2 A22.out).mono ?_
       (case side1 => repeat (first | exact (Kd.R_reads' HO266.out).2.2 | (with_reducible refine Kd.C_alloc ?_ _) | (with_reducible refine Kd.C_drewN ?_ _) | (with_reducible refine Kd.C_drew ?_)))
       (case side2 => exact (Kd.R_reads' HO266.out).2.1)
       rintro e w39 ⟨v273, rfl, ho0, hb⟩
       refine ⟨_, rfl, ?_⟩
       have n0_ := Aside0.mk (Kd.R_elder' (rk HO266) (Kd.R_base ho0) hb)
       have n1_ := Aside0.mk (Kd.R_lower (Kd.R_new' ho0 (Kd.R_lt (rk HO266))) (below_size (bt HB)))
       have n2_ := bb BK258 hb
       have n3_ := bb BK259 hb
       have n4_ := bb BK276 hb
       have n5_ := Aside0.mk (below_step (bt HB) hb)
       clear HO266 BK258 BK259 BK276 HB
       revert n0_ n1_ n2_ n3_ n4_ n5_
       intro HO266 HO274 BK258 BK259 BK276 HB
       (try clear hb)
       (try clear hb2)
       (try clear hk)
       (try clear hi)
       (try clear ho0)
       refine hK.out _ _ ⟨bc BK258 0, bc BK258 1, bc BK258 2, bc BK259 0, bc BK259 1, bc BK259 2⟩ (fun hHeld => ?_)
       clear hK K
       refine norm_ (a' := ?_) ?_ ?_
       rotate_left
       ·show Act.put _ (some 34) _ = _
        simp only [Act.put, zA, zB, zC, i64_w, i32_w]
        rfl
       refine pure_ (i := 6) (N := some 28) (v := ?_) (a' := ?_) #[true, true, true, true, true, true, true, false, false, true, false, false] rfl rfl (any_of HT_.out (by kernel_rfl)) (fun _ _ _ h => h) (Or.inl ⟨by rfl, ?_⟩) ?_ ?_
       rotate_left
       ·intro w'
        go_simp
        with_reducible rfl
       rotate_left
       ·simp only [Act.put, zA, zB, zC, i64_w, i32_w]
        rfl
       refine pure_ (i := 7) (N := some 35) (v := ?_) (a' := ?_) #[true, true, true, true, true, true, true, true, false, true, false, false] rfl rfl (any_of HT_.out (by kernel_rfl)) (fun _ _ _ h => h) (Or.inl ⟨by rfl, ?_⟩) ?_ ?_
       rotate_left
       ·intro w'
        go_simp
        with_reducible rfl
       rotate_left
       ·simp only [Act.put, zA, zB, zC, i64_w, i32_w]
        rfl
       refine pure_ (i := 8) (N := some 36) (v := ?_) (a' := ?_) #[true, true, true, true, true, true, true, true, true, true, false, false] rfl rfl (any_of HT_.out (by kernel_rfl)) (fun _ _ _ h => h) (Or.inl ⟨by rfl, ?_⟩) ?_ ?_
       rotate_left
       ·intro w'
        go_simp
        with_reducible rfl
       rotate_left
       ·simp only [Act.put, zA, zB, zC, i64_w, i32_w]
        rfl
       exact norm_ (by simp only [putAll, Act.put, zA, zB, zC]) (hCont (.slice Ao38 t264.length co38, v273, gb276) _ ⟨hHeld, (by (with_reducible repeat (first | apply Kd.R_alloc | apply Kd.R_drewN | apply Kd.R_drew)); exact Kd.R_mono HO266.out (fun _ hk => hk.2)), (by (with_reducible repeat (first | apply Kd.R_alloc | apply Kd.R_drewN | apply Kd.R_drew)); exact Kd.R_mono HO274.out (fun _ hk => hk.2)), (bk BK258), (bk BK259), (bk BK276), GW276.out, GE276.out, NB258_276.out, NB276_258.out, NB259_276.out, NB276_259.out, (bt HB)⟩)
     ·skip
      refine box_step ?hg (N := 8) ?hd (cs := #[.int .i64 0, .int .i64 0, .slice none 0 0]) (t := 40) ?hr ?_; (case hd => rfl); (case hg => rfl); (case hr => first | (go_simp; done) | (go_simp; rfl))
      intro gb276 hg w36 hbox hb
      have n0_ := rb HO266 hb
      have n1_ := bb BK258 hb
      have n2_ := bb BK259 hb
      have n3_ := Aside0.mk (below_step (bt HB) hb)
      have n4_ := Aside0.mk (hbox)
      have n5_ := Aside0.mk ((by rw [hg]; exact (below_size (bt HB)) : w.heap.size ≤ gb276))
      have n6_ := Aside0.mk ((by rw [hg]; exact (below_size (bt HB)) : w.heap.size ≤ gb276))
      have n7_ := Aside0.mk ((by rw [hg]; exact Nat.ne_of_lt (blk_lt (bk BK258)) : gb258 ≠ gb276))
      have n8_ := Aside0.mk ((by rw [hg]; exact Nat.ne_of_gt (blk_lt (bk BK258)) : gb276 ≠ gb258))
      have n9_ := Aside0.mk ((by rw [hg]; exact Nat.ne_of_lt (blk_lt (bk BK259)) : gb259 ≠ gb276))
      have n10_ := Aside0.mk ((by rw [hg]; exact Nat.ne_of_gt (blk_lt (bk BK259)) : gb276 ≠ gb259))
      clear HO266 BK258 BK259 HB
      revert n0_ n1_ n2_ n3_ n4_ n5_ n6_ n7_ n8_ n9_ n10_
      intro HO266 BK258 BK259 HB BK276 GW276 GE276 NB258_276 NB276_258 NB259_276 NB276_259
      clear hb hbox hg
      refine hK.out _ _ ⟨bc BK258 0, bc BK258 1, bc BK258 2, bc BK259 0, bc BK259 1, bc BK259 2⟩ (fun hHeld => ?_)
      clear hK K
      refine norm_ (a' := ?_) ?_ ?_
      rotate_left
      ·show Act.put _ (some 8) _ = _
       simp only [Act.put, zA, zB, zC, i64_w, i32_w]
       rfl
      refine one_ (i := 4) (N := some 33) #[true, true, true, true, true, false, false, false, false, true, false, false] rfl rfl (one_of HT_.out (by kernel_rfl)) (by decide) (fun K hK => ?_)
      refine goes_ Try.func47 (by kernel_rfl) rfl #[.agg #[.int .i64 a2_0, .int .i64 a2_1, .string a2_2]] (by rfl) rfl rfl (by (try simp only [List.map_toArray, List.map_cons, List.map_nil]); first | done | rfl | (simp only [List.length_drop, List.length_take]; rfl)) ?_
      with_reducible refine (laws_toEntry.calls a2_0 a2_1 a2_2 t267 t268 t269 _ A21.out).mono ?_
      rintro e w37 ⟨rfl, hb⟩
      refine ⟨_, rfl, ?_⟩
      have n0_ := rb HO266 hb
      have n1_ := bb BK258 hb
      have n2_ := bb BK259 hb
      have n3_ := bb BK276 hb
      have n4_ := Aside0.mk (below_step (bt HB) hb)
      clear HO266 BK258 BK259 BK276 HB
      revert n0_ n1_ n2_ n3_ n4_
      intro HO266 BK258 BK259 BK276 HB
      (try clear hb)
      (try clear hb2)
      (try clear hk)
      (try clear hi)
      obtain ⟨Ao38, co38, eo38⟩ := Kd.R_slice HO266.out
      (first | subst eo38 | (injection eo38 with f1_ f2_ f3_; have f4_ := f1_.symm; have f5_ := f3_.symm; clear f1_ f2_ f3_; subst f4_; subst f5_))
      refine hK.out _ _ ⟨bc BK258 0, bc BK258 1, bc BK258 2, bc BK259 0, bc BK259 1, bc BK259 2⟩ (fun hHeld => ?_)
      clear hK K
      refine norm_ (a' := ?_) ?_ ?_
      rotate_left
      ·show Act.put _ (some 33) _ = _
       simp only [Act.put, zA, zB, zC, i64_w, i32_w]
       rfl
      refine one_ (i := 5) (N := some 34) #[true, true, true, true, true, true, false, false, false, true, false, false] rfl rfl (one_of HT_.out (by kernel_rfl)) (by decide) (fun K hK => ?_)
      refine goes_ Try.func46 (by kernel_rfl) rfl #[.agg #[.int .i64 t262, .int .i64 t263, .slice Ao38 t264.length co38], .int .i64 a1, .agg #[.int .i64 t267, .int .i64 t268, .string t269]] (by rfl) rfl rfl (by (try simp only [List.map_toArray, List.map_cons, List.map_nil]); first | done | rfl | (simp only [List.length_drop, List.length_take]; rfl)) ?_
      with_reducible refine (spec_LogPut.calls k t262 t263 _ _ t264 a1 t267 t268 t269 t270 t271 t272 t275 _ ?side1 ?side2 A22.out).mono ?_
      (case side1 => repeat (first | exact (Kd.R_reads' HO266.out).2.2 | (with_reducible refine Kd.C_alloc ?_ _) | (with_reducible refine Kd.C_drewN ?_ _) | (with_reducible refine Kd.C_drew ?_)))
      (case side2 => exact (Kd.R_reads' HO266.out).2.1)
      rintro e w39 ⟨v273, rfl, ho0, hb⟩
      refine ⟨_, rfl, ?_⟩
      have n0_ := Aside0.mk (Kd.R_elder' (rk HO266) (Kd.R_base ho0) hb)
      have n1_ := Aside0.mk (Kd.R_lower (Kd.R_new' ho0 (Kd.R_lt (rk HO266))) (below_size (bt HB)))
      have n2_ := bb BK258 hb
      have n3_ := bb BK259 hb
      have n4_ := bb BK276 hb
      have n5_ := Aside0.mk (below_step (bt HB) hb)
      clear HO266 BK258 BK259 BK276 HB
      revert n0_ n1_ n2_ n3_ n4_ n5_
      intro HO266 HO274 BK258 BK259 BK276 HB
      (try clear hb)
      (try clear hb2)
      (try clear hk)
      (try clear hi)
      (try clear ho0)
      refine hK.out _ _ ⟨bc BK258 0, bc BK258 1, bc BK258 2, bc BK259 0, bc BK259 1, bc BK259 2⟩ (fun hHeld => ?_)
      clear hK K
      refine norm_ (a' := ?_) ?_ ?_
      rotate_left
      ·show Act.put _ (some 34) _ = _
       simp only [Act.put, zA, zB, zC, i64_w, i32_w]
       rfl
      refine pure_ (i := 6) (N := some 28) (v := ?_) (a' := ?_) #[true, true, true, true, true, true, true, false, false, true, false, false] rfl rfl (any_of HT_.out (by kernel_rfl)) (fun _ _ _ h => h) (Or.inl ⟨by rfl, ?_⟩) ?_ ?_
      rotate_left
      ·intro w'
       go_simp
       with_reducible rfl
      rotate_left
      ·simp only [Act.put, zA, zB, zC, i64_w, i32_w]
       rfl
      refine pure_ (i := 7) (N := some 35) (v := ?_) (a' := ?_) #[true, true, true, true, true, true, true, true, false, true, false, false] rfl rfl (any_of HT_.out (by kernel_rfl)) (fun _ _ _ h => h) (Or.inl ⟨by rfl, ?_⟩) ?_ ?_
      rotate_left
      ·intro w'
       go_simp
       with_reducible rfl
      rotate_left
      ·simp only [Act.put, zA, zB, zC, i64_w, i32_w]
       rfl
      refine pure_ (i := 8) (N := some 36) (v := ?_) (a' := ?_) #[true, true, true, true, true, true, true, true, true, true, false, false] rfl rfl (any_of HT_.out (by kernel_rfl)) (fun _ _ _ h => h) (Or.inl ⟨by rfl, ?_⟩) ?_ ?_
      rotate_left
      ·intro w'
       go_simp
       with_reducible rfl
      rotate_left
      ·simp only [Act.put, zA, zB, zC, i64_w, i32_w]
       rfl
      exact norm_ (by simp only [putAll, Act.put, zA, zB, zC]) (hCont (.slice Ao38 t264.length co38, v273, gb276) _ ⟨hHeld, (by (with_reducible repeat (first | apply Kd.R_alloc | apply Kd.R_drewN | apply Kd.R_drew)); exact Kd.R_mono HO266.out (fun _ hk => hk.2)), (by (with_reducible repeat (first | apply Kd.R_alloc | apply Kd.R_drewN | apply Kd.R_drew)); exact Kd.R_mono HO274.out (fun _ hk => hk.2)), (bk BK258), (bk BK259), (bk BK276), GW276.out, GE276.out, NB258_276.out, NB276_258.out, NB259_276.out, NB276_259.out, (bt HB)⟩)
    ·skip
     refine box_step ?hg (N := 8) ?hd (cs := #[.int .i64 0, .int .i64 0, .slice none 0 0]) (t := 40) ?hr ?_; (case hd => rfl); (case hg => rfl); (case hr => first | (go_simp; done) | (go_simp; rfl))
     intro gb276 hg w35 hbox hb
     have n0_ := bb BK258 hb
     have n1_ := bb BK259 hb
     have n2_ := Aside0.mk (below_step (bt HB) hb)
     have n3_ := Aside0.mk (hbox)
     have n4_ := Aside0.mk ((by rw [hg]; exact (below_size (bt HB)) : w.heap.size ≤ gb276))
     have n5_ := Aside0.mk ((by rw [hg]; exact (below_size (bt HB)) : w.heap.size ≤ gb276))
     have n6_ := Aside0.mk ((by rw [hg]; exact Nat.ne_of_lt (blk_lt (bk BK258)) : gb258 ≠ gb276))
     have n7_ := Aside0.mk ((by rw [hg]; exact Nat.ne_of_gt (blk_lt (bk BK258)) : gb276 ≠ gb258))
     have n8_ := Aside0.mk ((by rw [hg]; exact Nat.ne_of_lt (blk_lt (bk BK259)) : gb259 ≠ gb276))
     have n9_ := Aside0.mk ((by rw [hg]; exact Nat.ne_of_gt (blk_lt (bk BK259)) : gb276 ≠ gb259))
     clear BK258 BK259 HB
     revert n0_ n1_ n2_ n3_ n4_ n5_ n6_ n7_ n8_ n9_
     intro BK258 BK259 HB BK276 GW276 GE276 NB258_276 NB276_258 NB259_276 NB276_259
     clear hb hbox hg
     refine hK.out _ _ ⟨bc BK258 0, bc BK258 1, bc BK258 2, bc BK259 0, bc BK259 1, bc BK259 2⟩ (fun hHeld => ?_)
     clear hK K
     refine norm_ (a' := ?_) ?_ ?_
     rotate_left
     ·show Act.put _ (some 8) _ = _
      simp only [Act.put, zA, zB, zC, i64_w, i32_w]
      rfl
     refine one_ (i := 1) (N := some 30) #[true, true, true, true, false, false, false, false, false, true, false, false] rfl rfl (one_of HT_.out (by kernel_rfl)) (by decide) (fun K hK => ?_)
     refine goes_ Try.func19 (by kernel_rfl) rfl #[.agg #[.int .i64 a0_0, .int .i64 a0_1, .slice A0_2 l0_2.length c0_2]] (by rfl) rfl rfl (by (try simp only [List.map_toArray, List.map_cons, List.map_nil]); first | done | rfl | (simp only [List.length_drop, List.length_take]; rfl)) ?_
     with_reducible refine (laws_toLog.calls k a0_0 a0_1 _ _ l0_2 t262 t263 t264 _ ?side1 ?side2 A20.out).mono ?_
     (case side1 => repeat (first | exact (Kd.C_below HR0_2.out HB.out) | (with_reducible refine Kd.C_alloc ?_ _) | (with_reducible refine Kd.C_drewN ?_ _) | (with_reducible refine Kd.C_drew ?_)))
     (case side2 => exact HC0_2.out)
     rintro e w36 ⟨v265, rfl, ho0, hb⟩
     refine ⟨_, rfl, ?_⟩
     have n0_ := Aside0.mk (Kd.R_lower ho0 (below_size (bt HB)))
     have n1_ := bb BK258 hb
     have n2_ := bb BK259 hb
     have n3_ := bb BK276 hb
     have n4_ := Aside0.mk (below_step (bt HB) hb)
     clear BK258 BK259 BK276 HB
     revert n0_ n1_ n2_ n3_ n4_
     intro HO266 BK258 BK259 BK276 HB
     (try clear hb)
     (try clear hb2)
     (try clear hk)
     (try clear hi)
     (try clear ho0)
     refine hK.out _ _ ⟨bc BK258 0, bc BK258 1, bc BK258 2, bc BK259 0, bc BK259 1, bc BK259 2⟩ (fun hHeld => ?_)
     clear hK K
     refine norm_ (a' := ?_) ?_ ?_
     rotate_left
     ·show Act.put _ (some 30) _ = _
      simp only [Act.put, zA, zB, zC, i64_w, i32_w]
      rfl
     refine one_ (i := 4) (N := some 33) #[true, true, true, true, true, false, false, false, false, true, false, false] rfl rfl (one_of HT_.out (by kernel_rfl)) (by decide) (fun K hK => ?_)
     refine goes_ Try.func47 (by kernel_rfl) rfl #[.agg #[.int .i64 a2_0, .int .i64 a2_1, .string a2_2]] (by rfl) rfl rfl (by (try simp only [List.map_toArray, List.map_cons, List.map_nil]); first | done | rfl | (simp only [List.length_drop, List.length_take]; rfl)) ?_
     with_reducible refine (laws_toEntry.calls a2_0 a2_1 a2_2 t267 t268 t269 _ A21.out).mono ?_
     rintro e w37 ⟨rfl, hb⟩
     refine ⟨_, rfl, ?_⟩
     have n0_ := rb HO266 hb
     have n1_ := bb BK258 hb
     have n2_ := bb BK259 hb
     have n3_ := bb BK276 hb
     have n4_ := Aside0.mk (below_step (bt HB) hb)
     clear HO266 BK258 BK259 BK276 HB
     revert n0_ n1_ n2_ n3_ n4_
     intro HO266 BK258 BK259 BK276 HB
     (try clear hb)
     (try clear hb2)
     (try clear hk)
     (try clear hi)
     obtain ⟨Ao38, co38, eo38⟩ := Kd.R_slice HO266.out
     (first | subst eo38 | (injection eo38 with f1_ f2_ f3_; have f4_ := f1_.symm; have f5_ := f3_.symm; clear f1_ f2_ f3_; subst f4_; subst f5_))
     refine hK.out _ _ ⟨bc BK258 0, bc BK258 1, bc BK258 2, bc BK259 0, bc BK259 1, bc BK259 2⟩ (fun hHeld => ?_)
     clear hK K
     refine norm_ (a' := ?_) ?_ ?_
     rotate_left
     ·show Act.put _ (some 33) _ = _
      simp only [Act.put, zA, zB, zC, i64_w, i32_w]
      rfl
     refine one_ (i := 5) (N := some 34) #[true, true, true, true, true, true, false, false, false, true, false, false] rfl rfl (one_of HT_.out (by kernel_rfl)) (by decide) (fun K hK => ?_)
     refine goes_ Try.func46 (by kernel_rfl) rfl #[.agg #[.int .i64 t262, .int .i64 t263, .slice Ao38 t264.length co38], .int .i64 a1, .agg #[.int .i64 t267, .int .i64 t268, .string t269]] (by rfl) rfl rfl (by (try simp only [List.map_toArray, List.map_cons, List.map_nil]); first | done | rfl | (simp only [List.length_drop, List.length_take]; rfl)) ?_
     with_reducible refine (spec_LogPut.calls k t262 t263 _ _ t264 a1 t267 t268 t269 t270 t271 t272 t275 _ ?side1 ?side2 A22.out).mono ?_
     (case side1 => repeat (first | exact (Kd.R_reads' HO266.out).2.2 | (with_reducible refine Kd.C_alloc ?_ _) | (with_reducible refine Kd.C_drewN ?_ _) | (with_reducible refine Kd.C_drew ?_)))
     (case side2 => exact (Kd.R_reads' HO266.out).2.1)
     rintro e w39 ⟨v273, rfl, ho0, hb⟩
     refine ⟨_, rfl, ?_⟩
     have n0_ := Aside0.mk (Kd.R_elder' (rk HO266) (Kd.R_base ho0) hb)
     have n1_ := Aside0.mk (Kd.R_lower (Kd.R_new' ho0 (Kd.R_lt (rk HO266))) (below_size (bt HB)))
     have n2_ := bb BK258 hb
     have n3_ := bb BK259 hb
     have n4_ := bb BK276 hb
     have n5_ := Aside0.mk (below_step (bt HB) hb)
     clear HO266 BK258 BK259 BK276 HB
     revert n0_ n1_ n2_ n3_ n4_ n5_
     intro HO266 HO274 BK258 BK259 BK276 HB
     (try clear hb)
     (try clear hb2)
     (try clear hk)
     (try clear hi)
     (try clear ho0)
     refine hK.out _ _ ⟨bc BK258 0, bc BK258 1, bc BK258 2, bc BK259 0, bc BK259 1, bc BK259 2⟩ (fun hHeld => ?_)
     clear hK K
     refine norm_ (a' := ?_) ?_ ?_
     rotate_left
     ·show Act.put _ (some 34) _ = _
      simp only [Act.put, zA, zB, zC, i64_w, i32_w]
      rfl
     refine pure_ (i := 6) (N := some 28) (v := ?_) (a' := ?_) #[true, true, true, true, true, true, true, false, false, true, false, false] rfl rfl (any_of HT_.out (by kernel_rfl)) (fun _ _ _ h => h) (Or.inl ⟨by rfl, ?_⟩) ?_ ?_
     rotate_left
     ·intro w'
      go_simp
      with_reducible rfl
     rotate_left
     ·simp only [Act.put, zA, zB, zC, i64_w, i32_w]
      rfl
     refine pure_ (i := 7) (N := some 35) (v := ?_) (a' := ?_) #[true, true, true, true, true, true, true, true, false, true, false, false] rfl rfl (any_of HT_.out (by kernel_rfl)) (fun _ _ _ h => h) (Or.inl ⟨by rfl, ?_⟩) ?_ ?_
     rotate_left
     ·intro w'
      go_simp
      with_reducible rfl
     rotate_left
     ·simp only [Act.put, zA, zB, zC, i64_w, i32_w]
      rfl
     refine pure_ (i := 8) (N := some 36) (v := ?_) (a' := ?_) #[true, true, true, true, true, true, true, true, true, true, false, false] rfl rfl (any_of HT_.out (by kernel_rfl)) (fun _ _ _ h => h) (Or.inl ⟨by rfl, ?_⟩) ?_ ?_
     rotate_left
     ·intro w'
      go_simp
      with_reducible rfl
     rotate_left
     ·simp only [Act.put, zA, zB, zC, i64_w, i32_w]
      rfl
     exact norm_ (by simp only [putAll, Act.put, zA, zB, zC]) (hCont (.slice Ao38 t264.length co38, v273, gb276) _ ⟨hHeld, (by (with_reducible repeat (first | apply Kd.R_alloc | apply Kd.R_drewN | apply Kd.R_drew)); exact Kd.R_mono HO266.out (fun _ hk => hk.2)), (by (with_reducible repeat (first | apply Kd.R_alloc | apply Kd.R_drewN | apply Kd.R_drew)); exact Kd.R_mono HO274.out (fun _ hk => hk.2)), (bk BK258), (bk BK259), (bk BK276), GW276.out, GE276.out, NB258_276.out, NB276_258.out, NB259_276.out, NB276_259.out, (bt HB)⟩)
   rintro ⟨v265, v273, gb276⟩ w40 ⟨hS_, h0_, h1_, h2_, h3_, h4_, h5_, h6_, h7_, h8_, h9_, h10_, h11_⟩
   have n0_ : Aside0 (Kd.R k53 53 w40 w.heap.size (fun k_ => some k_ ≠ (v273 : Value).ownBlock) v265 t264) := ⟨h0_⟩
   have n1_ : Aside0 (Kd.R k53 53 w40 w.heap.size (fun k_ => some k_ ≠ (v265 : Value).ownBlock) v273 t272) := ⟨h1_⟩
   have n2_ : Aside0 (w40.heap[gb258]? = some (.cells #[.int .i64 a0_0, .int .i64 a0_1, .slice A0_2 l0_2.length c0_2] 35 (0, 0))) := ⟨h2_⟩
   have n3_ : Aside0 (w40.heap[gb259]? = some (.cells #[.int .i64 a2_0, .int .i64 a2_1, .string a2_2] 83 (0, 0))) := ⟨h3_⟩
   have n4_ : Aside0 (w40.heap[gb276]? = some (.cells #[.int .i64 0, .int .i64 0, .slice none 0 0] 40 (0, 0))) := ⟨h4_⟩
   have n5_ : Aside0 (w.heap.size ≤ gb276) := ⟨h5_⟩
   have n6_ : Aside0 (w.heap.size ≤ gb276) := ⟨h6_⟩
   have n7_ : Aside0 (gb258 ≠ gb276) := ⟨h7_⟩
   have n8_ : Aside0 (gb276 ≠ gb258) := ⟨h8_⟩
   have n9_ : Aside0 (gb259 ≠ gb276) := ⟨h9_⟩
   have n10_ : Aside0 (gb276 ≠ gb259) := ⟨h10_⟩
   have n11_ : Aside0 (Below w.heap.size w w40) := ⟨h11_⟩
   clear BK258
   clear BK259
   clear HB
   clear h0_ h1_ h2_ h3_ h4_ h5_ h6_ h7_ h8_ h9_ h10_ h11_
   have HO266 := n0_
   have HO274 := n1_
   have BK258 := n2_
   have BK259 := n3_
   have BK276 := n4_
   have GW276 := n5_
   have GE276 := n6_
   have NB258_276 := n7_
   have NB276_258 := n8_
   have NB259_276 := n9_
   have NB276_259 := n10_
   have HB := n11_
   clear n0_ n1_ n2_ n3_ n4_ n5_ n6_ n7_ n8_ n9_ n10_ n11_
   have hHeld : w40.cell? ⟨gb258, 0, none⟩ = some (.int .i64 a0_0) ∧ w40.cell? ⟨gb258, 1, none⟩ = some (.int .i64 a0_1) ∧ w40.cell? ⟨gb258, 2, none⟩ = some (.slice A0_2 l0_2.length c0_2) ∧ w40.cell? ⟨gb259, 0, none⟩ = some (.int .i64 a2_0) ∧ w40.cell? ⟨gb259, 1, none⟩ = some (.int .i64 a2_1) ∧ w40.cell? ⟨gb259, 2, none⟩ = some (.string a2_2) := hS_
   obtain ⟨Ao43, co43, eo43⟩ := Kd.R_slice HO274.out
   (first | subst eo43 | (injection eo43 with f1_ f2_ f3_; have f4_ := f1_.symm; have f5_ := f3_.symm; clear f1_ f2_ f3_; subst f4_; subst f5_))
   refine norm_ (a' := ?_) ?_ ?_
   rotate_left
   ·simp only [putAll, Act.put, zA, zB, zC]
    rfl
   refine one_ (i := 10) (N := none) #[true, true, true, true, true, true, true, true, true, true, true, false] rfl rfl (one_of HT_.out (by kernel_rfl)) (by decide) (fun K hK => ?_)
   have hs41 : w40.cell? ⟨gb276, 0, none⟩ = some (.int .i64 0) := bc BK276 0
   have hfs41 := blk_frozen BK276.out 0
   have hns41_0 := NB258_276.out
   have hns41_1 := NB259_276.out
   have hms41_0 := NB276_258.out
   have hms41_1 := NB276_259.out
   have hs42 : w40.cell? ⟨gb276, 1, none⟩ = some (.int .i64 0) := bc BK276 1
   have hfs42 := blk_frozen BK276.out 1
   have hns42_0 := NB258_276.out
   have hns42_1 := NB259_276.out
   have hms42_0 := NB276_258.out
   have hms42_1 := NB276_259.out
   have hs44 : w40.cell? ⟨gb276, 2, none⟩ = some (.slice none 0 0) := bc BK276 2
   have hfs44 := blk_frozen BK276.out 2
   have hns44_0 := NB258_276.out
   have hns44_1 := NB259_276.out
   have hms44_0 := NB276_258.out
   have hms44_1 := NB276_259.out
   refine skip_ (w1 := ?_) (by rfl) rfl ?_ ?_
   rotate_left
   ·go_simp
    rfl
   refine hK.out _ _ ⟨((cell_far (p := ⟨gb276, _, none⟩) NB258_276.out _).trans (((cell_far (p := ⟨gb276, _, none⟩) NB258_276.out _).trans (((cell_far (p := ⟨gb276, _, none⟩) NB258_276.out _).trans (hHeld.1)))))), ((cell_far (p := ⟨gb276, _, none⟩) NB258_276.out _).trans (((cell_far (p := ⟨gb276, _, none⟩) NB258_276.out _).trans (((cell_far (p := ⟨gb276, _, none⟩) NB258_276.out _).trans (hHeld.2.1)))))), ((cell_far (p := ⟨gb276, _, none⟩) NB258_276.out _).trans (((cell_far (p := ⟨gb276, _, none⟩) NB258_276.out _).trans (((cell_far (p := ⟨gb276, _, none⟩) NB258_276.out _).trans (hHeld.2.2.1)))))), ((cell_far (p := ⟨gb276, _, none⟩) NB259_276.out _).trans (((cell_far (p := ⟨gb276, _, none⟩) NB259_276.out _).trans (((cell_far (p := ⟨gb276, _, none⟩) NB259_276.out _).trans (hHeld.2.2.2.1)))))), ((cell_far (p := ⟨gb276, _, none⟩) NB259_276.out _).trans (((cell_far (p := ⟨gb276, _, none⟩) NB259_276.out _).trans (((cell_far (p := ⟨gb276, _, none⟩) NB259_276.out _).trans (hHeld.2.2.2.2.1)))))), ((cell_far (p := ⟨gb276, _, none⟩) NB259_276.out _).trans (((cell_far (p := ⟨gb276, _, none⟩) NB259_276.out _).trans (((cell_far (p := ⟨gb276, _, none⟩) NB259_276.out _).trans (hHeld.2.2.2.2.2))))))⟩ (fun hHeld => ?_)
   clear hK K
   refine pure_ (i := 11) (N := some 9) (v := ?_) (a' := ?_) #[true, true, true, true, true, true, true, true, true, true, true, true] rfl rfl (any_of HT_.out (by kernel_rfl)) (fun _ _ _ h => h) (Or.inl ⟨by rfl, ?_⟩) ?_ ?_
   rotate_left
   ·intro w'
    go_simp
    with_reducible rfl
   rotate_left
   ·simp only [Act.put, zA, zB, zC, i64_w, i32_w]
    rfl
   refine done_ (done_of HT_.out (by kernel_rfl)) ?_
   have hnb45 := NB258_276.out
   have hnc45 := NB276_258.out
   have hcz46_0 : w40.cell? ⟨gb258, 0, none⟩ = some (.int .i64 a0_0) := bc BK258 0
   have hcz46_1 : w40.cell? ⟨gb258, 1, none⟩ = some (.int .i64 a0_1) := bc BK258 1
   have hcz46_2 : w40.cell? ⟨gb258, 2, none⟩ = some (.slice A0_2 l0_2.length c0_2) := bc BK258 2
   have hfz46_0 := blk_frozen BK258.out 0
   have hfz46_1 := blk_frozen BK258.out 1
   have hfz46_2 := blk_frozen BK258.out 2
   try go_wp2_with (first | ((with_reducible refine gate_callee (f := 19) rfl ?_); refine goesL_ (some 38) rfl rfl Try.func19 (by kernel_rfl) rfl #[.agg #[.int .i64 a0_0, .int .i64 a0_1, .slice A0_2 l0_2.length c0_2]] rfl (by (try simp only [List.map_toArray, List.map_cons, List.map_nil]); first | done | rfl | (simp only [List.length_drop, List.length_take]; rfl)) ?_; (with_reducible refine (laws_toLog.calls k a0_0 a0_1 _ _ l0_2 t277 t278 t279 _ ?side1 ?side2 A23.out).mono ?_); (case side1 => exact Kd.C_below HR0_2.out (bt HB)); (case side2 => exact HC0_2.out); rintro e w47 ⟨v280, rfl, ho0, hb⟩; refine ⟨_, rfl, ?_⟩; have n0_ := Aside0.mk (Kd.R_elder' (by (with_reducible repeat (first | apply Kd.R_alloc | apply Kd.R_drewN | apply Kd.R_drew)); exact (Kd.R_mono (Kd.R_far (p := ⟨gb276, 2, none⟩) (Kd.R_far (p := ⟨gb276, 1, none⟩) (Kd.R_far (p := ⟨gb276, 0, none⟩) (Kd.R_types HO266.out BK276.out (by decide)) (fun _ hk => hk.2) (.int .i64 t270)) (fun _ hk => hk.2) (.int .i64 t271)) (fun _ hk => hk.2) (.slice Ao43 t272.length co43)) (fun _ h_ => h_.1))) (Kd.R_base ho0) hb); have n1_ := Aside0.mk (Kd.R_elder' (by (with_reducible repeat (first | apply Kd.R_alloc | apply Kd.R_drewN | apply Kd.R_drew)); exact (Kd.R_mono (Kd.R_far (p := ⟨gb276, 2, none⟩) (Kd.R_far (p := ⟨gb276, 1, none⟩) (Kd.R_far (p := ⟨gb276, 0, none⟩) (Kd.R_types HO274.out BK276.out (by decide)) (fun _ hk => hk.2) (.int .i64 t270)) (fun _ hk => hk.2) (.int .i64 t271)) (fun _ hk => hk.2) (.slice Ao43 t272.length co43)) (fun _ h_ => h_.1))) (Kd.R_base ho0) hb); have n2_ := Aside0.mk (Kd.R_lower (Kd.R_new' (Kd.R_new' ho0 (Kd.R_lt (by (with_reducible repeat (first | apply Kd.R_alloc | apply Kd.R_drewN | apply Kd.R_drew)); exact (Kd.R_mono (Kd.R_far (p := ⟨gb276, 2, none⟩) (Kd.R_far (p := ⟨gb276, 1, none⟩) (Kd.R_far (p := ⟨gb276, 0, none⟩) (Kd.R_types HO266.out BK276.out (by decide)) (fun _ hk => hk.2) (.int .i64 t270)) (fun _ hk => hk.2) (.int .i64 t271)) (fun _ hk => hk.2) (.slice Ao43 t272.length co43)) (fun _ h_ => h_.1))))) (Kd.R_lt (by (with_reducible repeat (first | apply Kd.R_alloc | apply Kd.R_drewN | apply Kd.R_drew)); exact (Kd.R_mono (Kd.R_far (p := ⟨gb276, 2, none⟩) (Kd.R_far (p := ⟨gb276, 1, none⟩) (Kd.R_far (p := ⟨gb276, 0, none⟩) (Kd.R_types HO274.out BK276.out (by decide)) (fun _ hk => hk.2) (.int .i64 t270)) (fun _ hk => hk.2) (.int .i64 t271)) (fun _ hk => hk.2) (.slice Ao43 t272.length co43)) (fun _ h_ => h_.1))))) (below_size (bt HB))); have n3_ := Aside0.mk (blk_below (g := gb258) (o := .cells #[.int .i64 a0_0, .int .i64 a0_1, .slice A0_2 l0_2.length c0_2] 35 (0, 0)) (by refine bk_ ?_; refine blk_far ?_ NB258_276.out _; refine bk_ ?_; refine blk_far ?_ NB258_276.out _; refine bk_ ?_; refine blk_far ?_ NB258_276.out _; refine bk_ ?_; exact BK258.out) hb); have n4_ := Aside0.mk (blk_below (g := gb259) (o := .cells #[.int .i64 a2_0, .int .i64 a2_1, .string a2_2] 83 (0, 0)) (by refine bk_ ?_; refine blk_far ?_ NB259_276.out _; refine bk_ ?_; refine blk_far ?_ NB259_276.out _; refine bk_ ?_; refine blk_far ?_ NB259_276.out _; refine bk_ ?_; exact BK259.out) hb); have n5_ := Aside0.mk (blk_below (g := gb276) (o := .cells #[.int .i64 t270, .int .i64 t271, .slice Ao43 t272.length co43] 40 (0, 0)) (by refine bk_ ?_; refine blk_put (cs := #[.int .i64 t270, .int .i64 t271, .slice none 0 0]) ?_ 2 _ rfl; refine bk_ ?_; refine blk_put (cs := #[.int .i64 t270, .int .i64 0, .slice none 0 0]) ?_ 1 _ rfl; refine bk_ ?_; refine blk_put (cs := #[.int .i64 0, .int .i64 0, .slice none 0 0]) ?_ 0 _ rfl; refine bk_ ?_; exact BK276.out) hb); have n6_ := Aside0.mk (below_step (bt HB) hb); clear HO266 HO274 BK258 BK259 BK276 HB; revert n0_ n1_ n2_ n3_ n4_ n5_ n6_; intro HO266 HO274 HO281 BK258 BK259 BK276 HB; (try clear hb); (try clear hb2); (try clear hk); (try clear hi); (try clear ho0)) | ((with_reducible refine gate_dst (N := 10) rfl ?_); refine box_event ?hg (N := 10) ?hd (cs := #[.int .i64 0, .int .i64 0, .slice none 0 0]) (t := 40) ?hr ?_; (case hd => rfl); (case hg => rfl); (case hr => first | (go_simp; done) | (go_simp; rfl)); intro gb282 hg w48 hbox hb; have n0_ := rb HO266 hb; have n1_ := rb HO274 hb; have n2_ := rb HO281 hb; have n3_ := bb BK258 hb; have n4_ := bb BK259 hb; have n5_ := bb BK276 hb; have n6_ := Aside0.mk (below_step (bt HB) hb); have n7_ := Aside0.mk (hbox); have n8_ := Aside0.mk ((by rw [hg]; exact (below_size (bt HB)) : w.heap.size ≤ gb282)); have n9_ := Aside0.mk ((by rw [hg]; exact (below_size (bt HB)) : w.heap.size ≤ gb282)); have n10_ := Aside0.mk ((by rw [hg]; exact Nat.ne_of_lt (blk_lt (bk BK258)) : gb258 ≠ gb282)); have n11_ := Aside0.mk ((by rw [hg]; exact Nat.ne_of_gt (blk_lt (bk BK258)) : gb282 ≠ gb258)); have n12_ := Aside0.mk ((by rw [hg]; exact Nat.ne_of_lt (blk_lt (bk BK259)) : gb259 ≠ gb282)); have n13_ := Aside0.mk ((by rw [hg]; exact Nat.ne_of_gt (blk_lt (bk BK259)) : gb282 ≠ gb259)); have n14_ := Aside0.mk ((by rw [hg]; exact Nat.ne_of_lt (blk_lt (bk BK276)) : gb276 ≠ gb282)); have n15_ := Aside0.mk ((by rw [hg]; exact Nat.ne_of_gt (blk_lt (bk BK276)) : gb282 ≠ gb276)); clear HO266 HO274 HO281 BK258 BK259 BK276 HB; revert n0_ n1_ n2_ n3_ n4_ n5_ n6_ n7_ n8_ n9_ n10_ n11_ n12_ n13_ n14_ n15_; intro HO266 HO274 HO281 BK258 BK259 BK276 HB BK282 GW282 GE282 NB258_282 NB282_258 NB259_282 NB282_259 NB276_282 NB282_276; clear hb hbox hg; have hnb49 := NB282_258.out; have hnc49 := NB258_282.out; have hnb50 := NB282_259.out; have hnc50 := NB259_282.out; have hnb51 := NB282_276.out; have hnc51 := NB276_282.out; have hcz52_0 : w48.cell? ⟨gb282, 0, none⟩ = some (.int .i64 0) := bc BK282 0; have hcz52_1 : w48.cell? ⟨gb282, 1, none⟩ = some (.int .i64 0) := bc BK282 1; have hcz52_2 : w48.cell? ⟨gb282, 2, none⟩ = some (.slice none 0 0) := bc BK282 2; have hfz52_0 := blk_frozen BK282.out 0; have hfz52_1 := blk_frozen BK282.out 1; have hfz52_2 := blk_frozen BK282.out 2; obtain ⟨Ao53, co53, eo53⟩ := Kd.R_slice HO281.out; subst eo53))
   have n0_ : Aside0 (Kd.R k53 53 (((w48.setCell ⟨gb282, 0, none⟩ (.int .i64 t277)).setCell ⟨gb282, 1, none⟩ (.int .i64 t278)).setCell ⟨gb282, 2, none⟩ (.slice Ao53 t279.length co53)) w.heap.size (fun k_ => some k_ ≠ (.slice Ao43 t272.length co43 : Value).ownBlock ∧ some k_ ≠ (.slice Ao53 t279.length co53 : Value).ownBlock) v265 t264) := ⟨by (with_reducible repeat (first | apply Kd.R_alloc | apply Kd.R_drewN | apply Kd.R_drew)); exact Kd.R_mono (Kd.R_far (p := ⟨gb282, 2, none⟩) (Kd.R_far (p := ⟨gb282, 1, none⟩) (Kd.R_far (p := ⟨gb282, 0, none⟩) (Kd.R_types HO266.out BK282.out (by decide)) (fun _ hk => hk.2) (.int .i64 t277)) (fun _ hk => hk.2) (.int .i64 t278)) (fun _ hk => hk.2) (.slice Ao53 t279.length co53)) (fun _ hk => ⟨hk.1.1, hk.1.2⟩)⟩
   have n1_ : Aside0 (Kd.R k53 53 (((w48.setCell ⟨gb282, 0, none⟩ (.int .i64 t277)).setCell ⟨gb282, 1, none⟩ (.int .i64 t278)).setCell ⟨gb282, 2, none⟩ (.slice Ao53 t279.length co53)) w.heap.size (fun k_ => some k_ ≠ (v265 : Value).ownBlock ∧ some k_ ≠ (.slice Ao53 t279.length co53 : Value).ownBlock) (.slice Ao43 t272.length co43) t272) := ⟨by (with_reducible repeat (first | apply Kd.R_alloc | apply Kd.R_drewN | apply Kd.R_drew)); exact Kd.R_mono (Kd.R_far (p := ⟨gb282, 2, none⟩) (Kd.R_far (p := ⟨gb282, 1, none⟩) (Kd.R_far (p := ⟨gb282, 0, none⟩) (Kd.R_types HO274.out BK282.out (by decide)) (fun _ hk => hk.2) (.int .i64 t277)) (fun _ hk => hk.2) (.int .i64 t278)) (fun _ hk => hk.2) (.slice Ao53 t279.length co53)) (fun _ hk => ⟨hk.1.1, hk.1.2⟩)⟩
   have n2_ : Aside0 (Kd.R k53 53 (((w48.setCell ⟨gb282, 0, none⟩ (.int .i64 t277)).setCell ⟨gb282, 1, none⟩ (.int .i64 t278)).setCell ⟨gb282, 2, none⟩ (.slice Ao53 t279.length co53)) w.heap.size (fun k_ => some k_ ≠ (v265 : Value).ownBlock ∧ some k_ ≠ (.slice Ao43 t272.length co43 : Value).ownBlock) (.slice Ao53 t279.length co53) t279) := ⟨by (with_reducible repeat (first | apply Kd.R_alloc | apply Kd.R_drewN | apply Kd.R_drew)); exact Kd.R_mono (Kd.R_far (p := ⟨gb282, 2, none⟩) (Kd.R_far (p := ⟨gb282, 1, none⟩) (Kd.R_far (p := ⟨gb282, 0, none⟩) (Kd.R_types HO281.out BK282.out (by decide)) (fun _ hk => hk.2) (.int .i64 t277)) (fun _ hk => hk.2) (.int .i64 t278)) (fun _ hk => hk.2) (.slice Ao53 t279.length co53)) (fun _ hk => ⟨hk.1.1.2, hk.1.2⟩)⟩
   have n3_ : Aside0 ((((w48.setCell ⟨gb282, 0, none⟩ (.int .i64 t277)).setCell ⟨gb282, 1, none⟩ (.int .i64 t278)).setCell ⟨gb282, 2, none⟩ (.slice Ao53 t279.length co53)).heap[gb258]? = some (.cells #[.int .i64 a0_0, .int .i64 a0_1, .slice A0_2 l0_2.length c0_2] 35 (0, 0))) := ⟨by refine bk_ ?_; refine blk_far ?_ NB258_282.out _; refine bk_ ?_; refine blk_far ?_ NB258_282.out _; refine bk_ ?_; refine blk_far ?_ NB258_282.out _; refine bk_ ?_; exact BK258.out⟩
   have n4_ : Aside0 ((((w48.setCell ⟨gb282, 0, none⟩ (.int .i64 t277)).setCell ⟨gb282, 1, none⟩ (.int .i64 t278)).setCell ⟨gb282, 2, none⟩ (.slice Ao53 t279.length co53)).heap[gb259]? = some (.cells #[.int .i64 a2_0, .int .i64 a2_1, .string a2_2] 83 (0, 0))) := ⟨by refine bk_ ?_; refine blk_far ?_ NB259_282.out _; refine bk_ ?_; refine blk_far ?_ NB259_282.out _; refine bk_ ?_; refine blk_far ?_ NB259_282.out _; refine bk_ ?_; exact BK259.out⟩
   have n5_ : Aside0 ((((w48.setCell ⟨gb282, 0, none⟩ (.int .i64 t277)).setCell ⟨gb282, 1, none⟩ (.int .i64 t278)).setCell ⟨gb282, 2, none⟩ (.slice Ao53 t279.length co53)).heap[gb276]? = some (.cells #[.int .i64 t270, .int .i64 t271, .slice Ao43 t272.length co43] 40 (0, 0))) := ⟨by refine bk_ ?_; refine blk_far ?_ NB276_282.out _; refine bk_ ?_; refine blk_far ?_ NB276_282.out _; refine bk_ ?_; refine blk_far ?_ NB276_282.out _; refine bk_ ?_; exact BK276.out⟩
   have n6_ : Aside0 ((((w48.setCell ⟨gb282, 0, none⟩ (.int .i64 t277)).setCell ⟨gb282, 1, none⟩ (.int .i64 t278)).setCell ⟨gb282, 2, none⟩ (.slice Ao53 t279.length co53)).heap[gb282]? = some (.cells #[.int .i64 t277, .int .i64 t278, .slice Ao53 t279.length co53] 40 (0, 0))) := ⟨by refine bk_ ?_; refine blk_put (cs := #[.int .i64 t277, .int .i64 t278, .slice none 0 0]) ?_ 2 _ rfl; refine bk_ ?_; refine blk_put (cs := #[.int .i64 t277, .int .i64 0, .slice none 0 0]) ?_ 1 _ rfl; refine bk_ ?_; refine blk_put (cs := #[.int .i64 0, .int .i64 0, .slice none 0 0]) ?_ 0 _ rfl; refine bk_ ?_; exact BK282.out⟩
   have n7_ : Aside0 (Below w.heap.size w (((w48.setCell ⟨gb282, 0, none⟩ (.int .i64 t277)).setCell ⟨gb282, 1, none⟩ (.int .i64 t278)).setCell ⟨gb282, 2, none⟩ (.slice Ao53 t279.length co53))) := ⟨bt HB⟩
   (try clear HO266)
   (try clear HO274)
   (try clear HO281)
   (try clear BK258)
   (try clear BK259)
   (try clear BK276)
   (try clear BK282)
   (try clear HB)
   generalize (((w48.setCell ⟨gb282, 0, none⟩ (.int .i64 t277)).setCell ⟨gb282, 1, none⟩ (.int .i64 t278)).setCell ⟨gb282, 2, none⟩ (.slice Ao53 t279.length co53)) = w54 at n0_ n1_ n2_ n3_ n4_ n5_ n6_ n7_ ⊢
   have HO266 := n0_
   have HO274 := n1_
   have HO281 := n2_
   have BK258 := n3_
   have BK259 := n4_
   have BK276 := n5_
   have BK282 := n6_
   have HB := n7_
   clear n0_ n1_ n2_ n3_ n4_ n5_ n6_ n7_
   have n0_ := Aside0.mk (Kd.R_drew HO266.out)
   have n1_ := Aside0.mk (Kd.R_drew HO274.out)
   have n2_ := Aside0.mk (Kd.R_drew HO281.out)
   have n3_ := Aside0.mk (blk_drew BK258.out)
   have n4_ := Aside0.mk (blk_drew BK259.out)
   have n5_ := Aside0.mk (blk_drew BK276.out)
   have n6_ := Aside0.mk (blk_drew BK282.out)
   have n7_ := Aside0.mk (below_drew1 HB.out)
   clear HO266 HO274 HO281 BK258 BK259 BK276 BK282 HB
   revert n0_ n1_ n2_ n3_ n4_ n5_ n6_ n7_
   intro HO266 HO274 HO281 BK258 BK259 BK276 BK282 HB
   refine start_ (n := 11) (S := fun w' => w'.cell? ⟨gb282, 0, none⟩ = some (.int .i64 t277) ∧ w'.cell? ⟨gb282, 1, none⟩ = some (.int .i64 t278) ∧ w'.cell? ⟨gb282, 2, none⟩ = some (.slice Ao53 t279.length co53) ∧ w'.cell? ⟨gb259, 0, none⟩ = some (.int .i64 a2_0) ∧ w'.cell? ⟨gb259, 1, none⟩ = some (.int .i64 a2_1) ∧ w'.cell? ⟨gb259, 2, none⟩ = some (.string a2_2)) (ds := []) #[false, false, false, false, false, false, false, false, false, false, false] (by kernel_rfl) rfl rfl ⟨bc BK282 0, bc BK282 1, bc BK282 2, bc BK259 0, bc BK259 1, bc BK259 2⟩ (fun hHeld => ?_); refine with_tabW laws_FnExactLogPut.tab10 laws_FnExactLogPut.bits10 (fun HT_ HW_ => ?_)
   generalize w54.drew = w55 at HO266 HO274 HO281 BK258 BK259 BK276 BK282 HB hHeld ⊢
   refine pure_ (i := 1) (N := some 41) (v := ?_) (a' := ?_) #[false, true, false, false, false, false, false, false, false, false, false] rfl rfl (any_of HT_.out (by kernel_rfl)) (fun _ _ _ h => h) (Or.inl ⟨by rfl, ?_⟩) ?_ ?_
   rotate_left
   ·intro w'
    go_simp
    with_reducible rfl
   rotate_left
   ·simp only [Act.put, zA, zB, zC, i64_w, i32_w]
    rfl
   refine take_ (i := 0) (N := some 40) (v := ?_) (a' := ?_) #[true, true, false, false, false, false, false, false, false, false, false] rfl rfl (take_ofW HT_.out HW_.out (by kernel_rfl)) (fun _ _ _ h => h) (Or.inl ⟨by rfl, ?_⟩) hHeld ?_ ?_
   rotate_left
   ·rintro w' ⟨s0, s1, s2, s3, s4, s5⟩
    go_simp
    with_reducible rfl
   rotate_left
   ·simp only [Act.put, zA, zB, zC, i64_w, i32_w]
    rfl
   refine take_ (i := 2) (N := some 42) (v := ?_) (a' := ?_) #[true, true, true, false, false, false, false, false, false, false, false] rfl rfl (take_ofW HT_.out HW_.out (by kernel_rfl)) (fun _ _ _ h => h) (Or.inl ⟨by rfl, ?_⟩) hHeld ?_ ?_
   rotate_left
   ·rintro w' ⟨s0, s1, s2, s3, s4, s5⟩
    go_simp
    with_reducible rfl
   rotate_left
   ·simp only [Act.put, zA, zB, zC, i64_w, i32_w]
    rfl
   refine join_ (σ := Value × Nat) 2 #[true, true, true, true, true, true, true, true, true, false, false] (fun s_ => [(43, .agg #[.int .i64 t283, .int .i64 t284, .string t285]), (44, .tuple #[.agg #[.int .i64 t286, .int .i64 t287, s_.1], .bool t291]), (11, .pointer (some ⟨s_.2, 0, none⟩)), (39, .tuple #[.agg #[.int .i64 t286, .int .i64 t287, s_.1], .bool t291]), (45, .agg #[.int .i64 t286, .int .i64 t287, s_.1]), (46, .bool t291)]) (fun s_ w' => (w'.cell? ⟨gb282, 0, none⟩ = some (.int .i64 t277) ∧ w'.cell? ⟨gb282, 1, none⟩ = some (.int .i64 t278) ∧ w'.cell? ⟨gb282, 2, none⟩ = some (.slice Ao53 t279.length co53) ∧ w'.cell? ⟨gb259, 0, none⟩ = some (.int .i64 a2_0) ∧ w'.cell? ⟨gb259, 1, none⟩ = some (.int .i64 a2_1) ∧ w'.cell? ⟨gb259, 2, none⟩ = some (.string a2_2)) ∧ (Kd.R k53 53 w' w.heap.size (fun k_ => some k_ ≠ (.slice Ao43 t272.length co43 : Value).ownBlock ∧ some k_ ≠ (.slice Ao53 t279.length co53 : Value).ownBlock ∧ some k_ ≠ (s_.1 : Value).ownBlock) v265 t264) ∧ (Kd.R k53 53 w' w.heap.size (fun k_ => some k_ ≠ (v265 : Value).ownBlock ∧ some k_ ≠ (.slice Ao53 t279.length co53 : Value).ownBlock ∧ some k_ ≠ (s_.1 : Value).ownBlock) (.slice Ao43 t272.length co43) t272) ∧ (Kd.R k53 53 w' w.heap.size (fun k_ => some k_ ≠ (v265 : Value).ownBlock ∧ some k_ ≠ (.slice Ao43 t272.length co43 : Value).ownBlock ∧ some k_ ≠ (s_.1 : Value).ownBlock) (.slice Ao53 t279.length co53) t279) ∧ (Kd.R k53 53 w' w.heap.size (fun k_ => some k_ ≠ (v265 : Value).ownBlock ∧ some k_ ≠ (.slice Ao43 t272.length co43 : Value).ownBlock ∧ some k_ ≠ (.slice Ao53 t279.length co53 : Value).ownBlock) s_.1 t288) ∧ (w'.heap[gb258]? = some (.cells #[.int .i64 a0_0, .int .i64 a0_1, .slice A0_2 l0_2.length c0_2] 35 (0, 0))) ∧ (w'.heap[gb259]? = some (.cells #[.int .i64 a2_0, .int .i64 a2_1, .string a2_2] 83 (0, 0))) ∧ (w'.heap[gb276]? = some (.cells #[.int .i64 t270, .int .i64 t271, .slice Ao43 t272.length co43] 40 (0, 0))) ∧ (w'.heap[gb282]? = some (.cells #[.int .i64 t277, .int .i64 t278, .slice Ao53 t279.length co53] 40 (0, 0))) ∧ (w'.heap[s_.2]? = some (.cells #[.int .i64 0, .int .i64 0, .slice none 0 0] 40 (0, 0))) ∧ (w.heap.size ≤ s_.2) ∧ (w.heap.size ≤ s_.2) ∧ (gb258 ≠ s_.2) ∧ (s_.2 ≠ gb258) ∧ (gb259 ≠ s_.2) ∧ (s_.2 ≠ gb259) ∧ (gb276 ≠ s_.2) ∧ (s_.2 ≠ gb276) ∧ (gb282 ≠ s_.2) ∧ (s_.2 ≠ gb282) ∧ (Below w.heap.size w w')) ?_ ?_
   rotate_left
   ·intro hCont
    refine two_ (i := 3) (j := 8) (Ni := some 43) (Nj := some 11) #[true, true, true, true, false, false, false, false, false, false, false] #[true, true, true, false, false, false, false, false, true, false, false] rfl rfl rfl rfl (two_of HT_.out (by kernel_rfl)) (by decide) (by decide) (fun K hK => ?_) (fun K hK => ?_)
    ·skip
     refine goes_ Try.func47 (by kernel_rfl) rfl #[.agg #[.int .i64 a2_0, .int .i64 a2_1, .string a2_2]] (by rfl) rfl rfl (by (try simp only [List.map_toArray, List.map_cons, List.map_nil]); first | done | rfl | (simp only [List.length_drop, List.length_take]; rfl)) ?_
     with_reducible refine (laws_toEntry.calls a2_0 a2_1 a2_2 t283 t284 t285 _ A24.out).mono ?_
     rintro e w56 ⟨rfl, hb⟩
     refine ⟨_, rfl, ?_⟩
     have n0_ := rb HO266 hb
     have n1_ := rb HO274 hb
     have n2_ := rb HO281 hb
     have n3_ := bb BK258 hb
     have n4_ := bb BK259 hb
     have n5_ := bb BK276 hb
     have n6_ := bb BK282 hb
     have n7_ := Aside0.mk (below_step (bt HB) hb)
     clear HO266 HO274 HO281 BK258 BK259 BK276 BK282 HB
     revert n0_ n1_ n2_ n3_ n4_ n5_ n6_ n7_
     intro HO266 HO274 HO281 BK258 BK259 BK276 BK282 HB
     (try clear hb)
     (try clear hb2)
     (try clear hk)
     (try clear hi)
     refine hK.out _ _ ⟨bc BK282 0, bc BK282 1, bc BK282 2, bc BK259 0, bc BK259 1, bc BK259 2⟩ (fun hHeld => ?_)
     clear hK K
     refine norm_ (a' := ?_) ?_ ?_
     rotate_left
     ·show Act.put _ (some 43) _ = _
      simp only [Act.put, zA, zB, zC, i64_w, i32_w]
      rfl
     refine two_ (i := 4) (j := 8) (Ni := some 44) (Nj := some 11) #[true, true, true, true, true, false, false, false, false, false, false] #[true, true, true, true, false, false, false, false, true, false, false] rfl rfl rfl rfl (two_of HT_.out (by kernel_rfl)) (by decide) (by decide) (fun K hK => ?_) (fun K hK => ?_)
     ·skip
      refine goes_ Try.func48 (by kernel_rfl) rfl #[.agg #[.int .i64 t277, .int .i64 t278, .slice Ao53 t279.length co53], .int .i64 a1, .agg #[.int .i64 t283, .int .i64 t284, .string t285]] (by rfl) rfl rfl (by (try simp only [List.map_toArray, List.map_cons, List.map_nil]); first | done | rfl | (simp only [List.length_drop, List.length_take]; rfl)) ?_
      with_reducible refine (impl_LogPut.calls k t277 t278 _ _ t279 a1 t283 t284 t285 t286 t287 t288 t291 _ ?side1 ?side2 A25.out).mono ?_
      (case side1 => repeat (first | exact (Kd.R_reads' HO281.out).2.2 | (with_reducible refine Kd.C_alloc ?_ _) | (with_reducible refine Kd.C_drewN ?_ _) | (with_reducible refine Kd.C_drew ?_)))
      (case side2 => exact (Kd.R_reads' HO281.out).2.1)
      rintro e w57 ⟨v289, rfl, ho0, hb⟩
      refine ⟨_, rfl, ?_⟩
      have n0_ := Aside0.mk (Kd.R_elder' (rk HO266) (Kd.R_base ho0) hb)
      have n1_ := Aside0.mk (Kd.R_elder' (rk HO274) (Kd.R_base ho0) hb)
      have n2_ := Aside0.mk (Kd.R_elder' (rk HO281) (Kd.R_base ho0) hb)
      have n3_ := Aside0.mk (Kd.R_lower (Kd.R_new' (Kd.R_new' (Kd.R_new' ho0 (Kd.R_lt (rk HO266))) (Kd.R_lt (rk HO274))) (Kd.R_lt (rk HO281))) (below_size (bt HB)))
      have n4_ := bb BK258 hb
      have n5_ := bb BK259 hb
      have n6_ := bb BK276 hb
      have n7_ := bb BK282 hb
      have n8_ := Aside0.mk (below_step (bt HB) hb)
      clear HO266 HO274 HO281 BK258 BK259 BK276 BK282 HB
      revert n0_ n1_ n2_ n3_ n4_ n5_ n6_ n7_ n8_
      intro HO266 HO274 HO281 HO290 BK258 BK259 BK276 BK282 HB
      (try clear hb)
      (try clear hb2)
      (try clear hk)
      (try clear hi)
      (try clear ho0)
      refine hK.out _ _ ⟨bc BK282 0, bc BK282 1, bc BK282 2, bc BK259 0, bc BK259 1, bc BK259 2⟩ (fun hHeld => ?_)
      clear hK K
      refine norm_ (a' := ?_) ?_ ?_
      rotate_left
      ·show Act.put _ (some 44) _ = _
       simp only [Act.put, zA, zB, zC, i64_w, i32_w]
       rfl
      refine pure_ (i := 5) (N := some 39) (v := ?_) (a' := ?_) #[true, true, true, true, true, true, false, false, false, false, false] rfl rfl (any_of HT_.out (by kernel_rfl)) (fun _ _ _ h => h) (Or.inl ⟨by rfl, ?_⟩) ?_ ?_
      rotate_left
      ·intro w'
       go_simp
       with_reducible rfl
      rotate_left
      ·simp only [Act.put, zA, zB, zC, i64_w, i32_w]
       rfl
      refine pure_ (i := 6) (N := some 45) (v := ?_) (a' := ?_) #[true, true, true, true, true, true, true, false, false, false, false] rfl rfl (any_of HT_.out (by kernel_rfl)) (fun _ _ _ h => h) (Or.inl ⟨by rfl, ?_⟩) ?_ ?_
      rotate_left
      ·intro w'
       go_simp
       with_reducible rfl
      rotate_left
      ·simp only [Act.put, zA, zB, zC, i64_w, i32_w]
       rfl
      refine pure_ (i := 7) (N := some 46) (v := ?_) (a' := ?_) #[true, true, true, true, true, true, true, true, false, false, false] rfl rfl (any_of HT_.out (by kernel_rfl)) (fun _ _ _ h => h) (Or.inl ⟨by rfl, ?_⟩) ?_ ?_
      rotate_left
      ·intro w'
       go_simp
       with_reducible rfl
      rotate_left
      ·simp only [Act.put, zA, zB, zC, i64_w, i32_w]
       rfl
      refine one_ (i := 8) (N := some 11) #[true, true, true, true, true, true, true, true, true, false, false] rfl rfl (one_of HT_.out (by kernel_rfl)) (by decide) (fun K hK => ?_)
      refine box_step ?hg (N := 11) ?hd (cs := #[.int .i64 0, .int .i64 0, .slice none 0 0]) (t := 40) ?hr ?_; (case hd => rfl); (case hg => rfl); (case hr => first | (go_simp; done) | (go_simp; rfl))
      intro gb292 hg w58 hbox hb
      have n0_ := rb HO266 hb
      have n1_ := rb HO274 hb
      have n2_ := rb HO281 hb
      have n3_ := rb HO290 hb
      have n4_ := bb BK258 hb
      have n5_ := bb BK259 hb
      have n6_ := bb BK276 hb
      have n7_ := bb BK282 hb
      have n8_ := Aside0.mk (below_step (bt HB) hb)
      have n9_ := Aside0.mk (hbox)
      have n10_ := Aside0.mk ((by rw [hg]; exact (below_size (bt HB)) : w.heap.size ≤ gb292))
      have n11_ := Aside0.mk ((by rw [hg]; exact (below_size (bt HB)) : w.heap.size ≤ gb292))
      have n12_ := Aside0.mk ((by rw [hg]; exact Nat.ne_of_lt (blk_lt (bk BK258)) : gb258 ≠ gb292))
      have n13_ := Aside0.mk ((by rw [hg]; exact Nat.ne_of_gt (blk_lt (bk BK258)) : gb292 ≠ gb258))
      have n14_ := Aside0.mk ((by rw [hg]; exact Nat.ne_of_lt (blk_lt (bk BK259)) : gb259 ≠ gb292))
      have n15_ := Aside0.mk ((by rw [hg]; exact Nat.ne_of_gt (blk_lt (bk BK259)) : gb292 ≠ gb259))
      have n16_ := Aside0.mk ((by rw [hg]; exact Nat.ne_of_lt (blk_lt (bk BK276)) : gb276 ≠ gb292))
      have n17_ := Aside0.mk ((by rw [hg]; exact Nat.ne_of_gt (blk_lt (bk BK276)) : gb292 ≠ gb276))
      have n18_ := Aside0.mk ((by rw [hg]; exact Nat.ne_of_lt (blk_lt (bk BK282)) : gb282 ≠ gb292))
      have n19_ := Aside0.mk ((by rw [hg]; exact Nat.ne_of_gt (blk_lt (bk BK282)) : gb292 ≠ gb282))
      clear HO266 HO274 HO281 HO290 BK258 BK259 BK276 BK282 HB
      revert n0_ n1_ n2_ n3_ n4_ n5_ n6_ n7_ n8_ n9_ n10_ n11_ n12_ n13_ n14_ n15_ n16_ n17_ n18_ n19_
      intro HO266 HO274 HO281 HO290 BK258 BK259 BK276 BK282 HB BK292 GW292 GE292 NB258_292 NB292_258 NB259_292 NB292_259 NB276_292 NB292_276 NB282_292 NB292_282
      clear hb hbox hg
      refine hK.out _ _ ⟨bc BK282 0, bc BK282 1, bc BK282 2, bc BK259 0, bc BK259 1, bc BK259 2⟩ (fun hHeld => ?_)
      clear hK K
      refine norm_ (a' := ?_) ?_ ?_
      rotate_left
      ·show Act.put _ (some 11) _ = _
       simp only [Act.put, zA, zB, zC, i64_w, i32_w]
       rfl
      exact norm_ (by simp only [putAll, Act.put, zA, zB, zC]) (hCont (v289, gb292) _ ⟨hHeld, (by (with_reducible repeat (first | apply Kd.R_alloc | apply Kd.R_drewN | apply Kd.R_drew)); exact Kd.R_mono HO266.out (fun _ hk => ⟨hk.1.1, ⟨hk.1.2, hk.2⟩⟩)), (by (with_reducible repeat (first | apply Kd.R_alloc | apply Kd.R_drewN | apply Kd.R_drew)); exact Kd.R_mono HO274.out (fun _ hk => ⟨hk.1.1, ⟨hk.1.2, hk.2⟩⟩)), (by (with_reducible repeat (first | apply Kd.R_alloc | apply Kd.R_drewN | apply Kd.R_drew)); exact Kd.R_mono HO281.out (fun _ hk => ⟨hk.1.1, ⟨hk.1.2, hk.2⟩⟩)), (by (with_reducible repeat (first | apply Kd.R_alloc | apply Kd.R_drewN | apply Kd.R_drew)); exact Kd.R_mono HO290.out (fun _ hk => ⟨hk.1.1.2, ⟨hk.1.2, hk.2⟩⟩)), (bk BK258), (bk BK259), (bk BK276), (bk BK282), (bk BK292), GW292.out, GE292.out, NB258_292.out, NB292_258.out, NB259_292.out, NB292_259.out, NB276_292.out, NB292_276.out, NB282_292.out, NB292_282.out, (bt HB)⟩)
     ·skip
      refine box_step ?hg (N := 11) ?hd (cs := #[.int .i64 0, .int .i64 0, .slice none 0 0]) (t := 40) ?hr ?_; (case hd => rfl); (case hg => rfl); (case hr => first | (go_simp; done) | (go_simp; rfl))
      intro gb292 hg w57 hbox hb
      have n0_ := rb HO266 hb
      have n1_ := rb HO274 hb
      have n2_ := rb HO281 hb
      have n3_ := bb BK258 hb
      have n4_ := bb BK259 hb
      have n5_ := bb BK276 hb
      have n6_ := bb BK282 hb
      have n7_ := Aside0.mk (below_step (bt HB) hb)
      have n8_ := Aside0.mk (hbox)
      have n9_ := Aside0.mk ((by rw [hg]; exact (below_size (bt HB)) : w.heap.size ≤ gb292))
      have n10_ := Aside0.mk ((by rw [hg]; exact (below_size (bt HB)) : w.heap.size ≤ gb292))
      have n11_ := Aside0.mk ((by rw [hg]; exact Nat.ne_of_lt (blk_lt (bk BK258)) : gb258 ≠ gb292))
      have n12_ := Aside0.mk ((by rw [hg]; exact Nat.ne_of_gt (blk_lt (bk BK258)) : gb292 ≠ gb258))
      have n13_ := Aside0.mk ((by rw [hg]; exact Nat.ne_of_lt (blk_lt (bk BK259)) : gb259 ≠ gb292))
      have n14_ := Aside0.mk ((by rw [hg]; exact Nat.ne_of_gt (blk_lt (bk BK259)) : gb292 ≠ gb259))
      have n15_ := Aside0.mk ((by rw [hg]; exact Nat.ne_of_lt (blk_lt (bk BK276)) : gb276 ≠ gb292))
      have n16_ := Aside0.mk ((by rw [hg]; exact Nat.ne_of_gt (blk_lt (bk BK276)) : gb292 ≠ gb276))
      have n17_ := Aside0.mk ((by rw [hg]; exact Nat.ne_of_lt (blk_lt (bk BK282)) : gb282 ≠ gb292))
      have n18_ := Aside0.mk ((by rw [hg]; exact Nat.ne_of_gt (blk_lt (bk BK282)) : gb292 ≠ gb282))
      clear HO266 HO274 HO281 BK258 BK259 BK276 BK282 HB
      revert n0_ n1_ n2_ n3_ n4_ n5_ n6_ n7_ n8_ n9_ n10_ n11_ n12_ n13_ n14_ n15_ n16_ n17_ n18_
      intro HO266 HO274 HO281 BK258 BK259 BK276 BK282 HB BK292 GW292 GE292 NB258_292 NB292_258 NB259_292 NB292_259 NB276_292 NB292_276 NB282_292 NB292_282
      clear hb hbox hg
      refine hK.out _ _ ⟨bc BK282 0, bc BK282 1, bc BK282 2, bc BK259 0, bc BK259 1, bc BK259 2⟩ (fun hHeld => ?_)
      clear hK K
      refine norm_ (a' := ?_) ?_ ?_
      rotate_left
      ·show Act.put _ (some 11) _ = _
       simp only [Act.put, zA, zB, zC, i64_w, i32_w]
       rfl
      refine one_ (i := 4) (N := some 44) #[true, true, true, true, true, false, false, false, true, false, false] rfl rfl (one_of HT_.out (by kernel_rfl)) (by decide) (fun K hK => ?_)
      refine goes_ Try.func48 (by kernel_rfl) rfl #[.agg #[.int .i64 t277, .int .i64 t278, .slice Ao53 t279.length co53], .int .i64 a1, .agg #[.int .i64 t283, .int .i64 t284, .string t285]] (by rfl) rfl rfl (by (try simp only [List.map_toArray, List.map_cons, List.map_nil]); first | done | rfl | (simp only [List.length_drop, List.length_take]; rfl)) ?_
      with_reducible refine (impl_LogPut.calls k t277 t278 _ _ t279 a1 t283 t284 t285 t286 t287 t288 t291 _ ?side1 ?side2 A25.out).mono ?_
      (case side1 => repeat (first | exact (Kd.R_reads' HO281.out).2.2 | (with_reducible refine Kd.C_alloc ?_ _) | (with_reducible refine Kd.C_drewN ?_ _) | (with_reducible refine Kd.C_drew ?_)))
      (case side2 => exact (Kd.R_reads' HO281.out).2.1)
      rintro e w58 ⟨v289, rfl, ho0, hb⟩
      refine ⟨_, rfl, ?_⟩
      have n0_ := Aside0.mk (Kd.R_elder' (rk HO266) (Kd.R_base ho0) hb)
      have n1_ := Aside0.mk (Kd.R_elder' (rk HO274) (Kd.R_base ho0) hb)
      have n2_ := Aside0.mk (Kd.R_elder' (rk HO281) (Kd.R_base ho0) hb)
      have n3_ := Aside0.mk (Kd.R_lower (Kd.R_new' (Kd.R_new' (Kd.R_new' ho0 (Kd.R_lt (rk HO266))) (Kd.R_lt (rk HO274))) (Kd.R_lt (rk HO281))) (below_size (bt HB)))
      have n4_ := bb BK258 hb
      have n5_ := bb BK259 hb
      have n6_ := bb BK276 hb
      have n7_ := bb BK282 hb
      have n8_ := bb BK292 hb
      have n9_ := Aside0.mk (below_step (bt HB) hb)
      clear HO266 HO274 HO281 BK258 BK259 BK276 BK282 BK292 HB
      revert n0_ n1_ n2_ n3_ n4_ n5_ n6_ n7_ n8_ n9_
      intro HO266 HO274 HO281 HO290 BK258 BK259 BK276 BK282 BK292 HB
      (try clear hb)
      (try clear hb2)
      (try clear hk)
      (try clear hi)
      (try clear ho0)
      refine hK.out _ _ ⟨bc BK282 0, bc BK282 1, bc BK282 2, bc BK259 0, bc BK259 1, bc BK259 2⟩ (fun hHeld => ?_)
      clear hK K
      refine norm_ (a' := ?_) ?_ ?_
      rotate_left
      ·show Act.put _ (some 44) _ = _
       simp only [Act.put, zA, zB, zC, i64_w, i32_w]
       rfl
      refine pure_ (i := 5) (N := some 39) (v := ?_) (a' := ?_) #[true, true, true, true, true, true, false, false, true, false, false] rfl rfl (any_of HT_.out (by kernel_rfl)) (fun _ _ _ h => h) (Or.inl ⟨by rfl, ?_⟩) ?_ ?_
      rotate_left
      ·intro w'
       go_simp
       with_reducible rfl
      rotate_left
      ·simp only [Act.put, zA, zB, zC, i64_w, i32_w]
       rfl
      refine pure_ (i := 6) (N := some 45) (v := ?_) (a' := ?_) #[true, true, true, true, true, true, true, false, true, false, false] rfl rfl (any_of HT_.out (by kernel_rfl)) (fun _ _ _ h => h) (Or.inl ⟨by rfl, ?_⟩) ?_ ?_
      rotate_left
      ·intro w'
       go_simp
       with_reducible rfl
      rotate_left
      ·simp only [Act.put, zA, zB, zC, i64_w, i32_w]
       rfl
      refine pure_ (i := 7) (N := some 46) (v := ?_) (a' := ?_) #[true, true, true, true, true, true, true, true, true, false, false] rfl rfl (any_of HT_.out (by kernel_rfl)) (fun _ _ _ h => h) (Or.inl ⟨by rfl, ?_⟩) ?_ ?_
      rotate_left
      ·intro w'
       go_simp
       with_reducible rfl
      rotate_left
      ·simp only [Act.put, zA, zB, zC, i64_w, i32_w]
       rfl
      exact norm_ (by simp only [putAll, Act.put, zA, zB, zC]) (hCont (v289, gb292) _ ⟨hHeld, (by (with_reducible repeat (first | apply Kd.R_alloc | apply Kd.R_drewN | apply Kd.R_drew)); exact Kd.R_mono HO266.out (fun _ hk => ⟨hk.1.1, ⟨hk.1.2, hk.2⟩⟩)), (by (with_reducible repeat (first | apply Kd.R_alloc | apply Kd.R_drewN | apply Kd.R_drew)); exact Kd.R_mono HO274.out (fun _ hk => ⟨hk.1.1, ⟨hk.1.2, hk.2⟩⟩)), (by (with_reducible repeat (first | apply Kd.R_alloc | apply Kd.R_drewN | apply Kd.R_drew)); exact Kd.R_mono HO281.out (fun _ hk => ⟨hk.1.1, ⟨hk.1.2, hk.2⟩⟩)), (by (with_reducible repeat (first | apply Kd.R_alloc | apply Kd.R_drewN | apply Kd.R_drew)); exact Kd.R_mono HO290.out (fun _ hk => ⟨hk.1.1.2, ⟨hk.1.2, hk.2⟩⟩)), (bk BK258), (bk BK259), (bk BK276), (bk BK282), (bk BK292), GW292.out, GE292.out, NB258_292.out, NB292_258.out, NB259_292.out, NB292_259.out, NB276_292.out, NB292_276.out, NB282_292.out, NB292_282.out, (bt HB)⟩)
    ·skip
     refine box_step ?hg (N := 11) ?hd (cs := #[.int .i64 0, .int .i64 0, .slice none 0 0]) (t := 40) ?hr ?_; (case hd => rfl); (case hg => rfl); (case hr => first | (go_simp; done) | (go_simp; rfl))
     intro gb292 hg w56 hbox hb
     have n0_ := rb HO266 hb
     have n1_ := rb HO274 hb
     have n2_ := rb HO281 hb
     have n3_ := bb BK258 hb
     have n4_ := bb BK259 hb
     have n5_ := bb BK276 hb
     have n6_ := bb BK282 hb
     have n7_ := Aside0.mk (below_step (bt HB) hb)
     have n8_ := Aside0.mk (hbox)
     have n9_ := Aside0.mk ((by rw [hg]; exact (below_size (bt HB)) : w.heap.size ≤ gb292))
     have n10_ := Aside0.mk ((by rw [hg]; exact (below_size (bt HB)) : w.heap.size ≤ gb292))
     have n11_ := Aside0.mk ((by rw [hg]; exact Nat.ne_of_lt (blk_lt (bk BK258)) : gb258 ≠ gb292))
     have n12_ := Aside0.mk ((by rw [hg]; exact Nat.ne_of_gt (blk_lt (bk BK258)) : gb292 ≠ gb258))
     have n13_ := Aside0.mk ((by rw [hg]; exact Nat.ne_of_lt (blk_lt (bk BK259)) : gb259 ≠ gb292))
     have n14_ := Aside0.mk ((by rw [hg]; exact Nat.ne_of_gt (blk_lt (bk BK259)) : gb292 ≠ gb259))
     have n15_ := Aside0.mk ((by rw [hg]; exact Nat.ne_of_lt (blk_lt (bk BK276)) : gb276 ≠ gb292))
     have n16_ := Aside0.mk ((by rw [hg]; exact Nat.ne_of_gt (blk_lt (bk BK276)) : gb292 ≠ gb276))
     have n17_ := Aside0.mk ((by rw [hg]; exact Nat.ne_of_lt (blk_lt (bk BK282)) : gb282 ≠ gb292))
     have n18_ := Aside0.mk ((by rw [hg]; exact Nat.ne_of_gt (blk_lt (bk BK282)) : gb292 ≠ gb282))
     clear HO266 HO274 HO281 BK258 BK259 BK276 BK282 HB
     revert n0_ n1_ n2_ n3_ n4_ n5_ n6_ n7_ n8_ n9_ n10_ n11_ n12_ n13_ n14_ n15_ n16_ n17_ n18_
     intro HO266 HO274 HO281 BK258 BK259 BK276 BK282 HB BK292 GW292 GE292 NB258_292 NB292_258 NB259_292 NB292_259 NB276_292 NB292_276 NB282_292 NB292_282
     clear hb hbox hg
     refine hK.out _ _ ⟨bc BK282 0, bc BK282 1, bc BK282 2, bc BK259 0, bc BK259 1, bc BK259 2⟩ (fun hHeld => ?_)
     clear hK K
     refine norm_ (a' := ?_) ?_ ?_
     rotate_left
     ·show Act.put _ (some 11) _ = _
      simp only [Act.put, zA, zB, zC, i64_w, i32_w]
      rfl
     refine one_ (i := 3) (N := some 43) #[true, true, true, true, false, false, false, false, true, false, false] rfl rfl (one_of HT_.out (by kernel_rfl)) (by decide) (fun K hK => ?_)
     refine goes_ Try.func47 (by kernel_rfl) rfl #[.agg #[.int .i64 a2_0, .int .i64 a2_1, .string a2_2]] (by rfl) rfl rfl (by (try simp only [List.map_toArray, List.map_cons, List.map_nil]); first | done | rfl | (simp only [List.length_drop, List.length_take]; rfl)) ?_
     with_reducible refine (laws_toEntry.calls a2_0 a2_1 a2_2 t283 t284 t285 _ A24.out).mono ?_
     rintro e w57 ⟨rfl, hb⟩
     refine ⟨_, rfl, ?_⟩
     have n0_ := rb HO266 hb
     have n1_ := rb HO274 hb
     have n2_ := rb HO281 hb
     have n3_ := bb BK258 hb
     have n4_ := bb BK259 hb
     have n5_ := bb BK276 hb
     have n6_ := bb BK282 hb
     have n7_ := bb BK292 hb
     have n8_ := Aside0.mk (below_step (bt HB) hb)
     clear HO266 HO274 HO281 BK258 BK259 BK276 BK282 BK292 HB
     revert n0_ n1_ n2_ n3_ n4_ n5_ n6_ n7_ n8_
     intro HO266 HO274 HO281 BK258 BK259 BK276 BK282 BK292 HB
     (try clear hb)
     (try clear hb2)
     (try clear hk)
     (try clear hi)
     refine hK.out _ _ ⟨bc BK282 0, bc BK282 1, bc BK282 2, bc BK259 0, bc BK259 1, bc BK259 2⟩ (fun hHeld => ?_)
     clear hK K
     refine norm_ (a' := ?_) ?_ ?_
     rotate_left
     ·show Act.put _ (some 43) _ = _
      simp only [Act.put, zA, zB, zC, i64_w, i32_w]
      rfl
     refine one_ (i := 4) (N := some 44) #[true, true, true, true, true, false, false, false, true, false, false] rfl rfl (one_of HT_.out (by kernel_rfl)) (by decide) (fun K hK => ?_)
     refine goes_ Try.func48 (by kernel_rfl) rfl #[.agg #[.int .i64 t277, .int .i64 t278, .slice Ao53 t279.length co53], .int .i64 a1, .agg #[.int .i64 t283, .int .i64 t284, .string t285]] (by rfl) rfl rfl (by (try simp only [List.map_toArray, List.map_cons, List.map_nil]); first | done | rfl | (simp only [List.length_drop, List.length_take]; rfl)) ?_
     with_reducible refine (impl_LogPut.calls k t277 t278 _ _ t279 a1 t283 t284 t285 t286 t287 t288 t291 _ ?side1 ?side2 A25.out).mono ?_
     (case side1 => repeat (first | exact (Kd.R_reads' HO281.out).2.2 | (with_reducible refine Kd.C_alloc ?_ _) | (with_reducible refine Kd.C_drewN ?_ _) | (with_reducible refine Kd.C_drew ?_)))
     (case side2 => exact (Kd.R_reads' HO281.out).2.1)
     rintro e w58 ⟨v289, rfl, ho0, hb⟩
     refine ⟨_, rfl, ?_⟩
     have n0_ := Aside0.mk (Kd.R_elder' (rk HO266) (Kd.R_base ho0) hb)
     have n1_ := Aside0.mk (Kd.R_elder' (rk HO274) (Kd.R_base ho0) hb)
     have n2_ := Aside0.mk (Kd.R_elder' (rk HO281) (Kd.R_base ho0) hb)
     have n3_ := Aside0.mk (Kd.R_lower (Kd.R_new' (Kd.R_new' (Kd.R_new' ho0 (Kd.R_lt (rk HO266))) (Kd.R_lt (rk HO274))) (Kd.R_lt (rk HO281))) (below_size (bt HB)))
     have n4_ := bb BK258 hb
     have n5_ := bb BK259 hb
     have n6_ := bb BK276 hb
     have n7_ := bb BK282 hb
     have n8_ := bb BK292 hb
     have n9_ := Aside0.mk (below_step (bt HB) hb)
     clear HO266 HO274 HO281 BK258 BK259 BK276 BK282 BK292 HB
     revert n0_ n1_ n2_ n3_ n4_ n5_ n6_ n7_ n8_ n9_
     intro HO266 HO274 HO281 HO290 BK258 BK259 BK276 BK282 BK292 HB
     (try clear hb)
     (try clear hb2)
     (try clear hk)
     (try clear hi)
     (try clear ho0)
     refine hK.out _ _ ⟨bc BK282 0, bc BK282 1, bc BK282 2, bc BK259 0, bc BK259 1, bc BK259 2⟩ (fun hHeld => ?_)
     clear hK K
     refine norm_ (a' := ?_) ?_ ?_
     rotate_left
     ·show Act.put _ (some 44) _ = _
      simp only [Act.put, zA, zB, zC, i64_w, i32_w]
      rfl
     refine pure_ (i := 5) (N := some 39) (v := ?_) (a' := ?_) #[true, true, true, true, true, true, false, false, true, false, false] rfl rfl (any_of HT_.out (by kernel_rfl)) (fun _ _ _ h => h) (Or.inl ⟨by rfl, ?_⟩) ?_ ?_
     rotate_left
     ·intro w'
      go_simp
      with_reducible rfl
     rotate_left
     ·simp only [Act.put, zA, zB, zC, i64_w, i32_w]
      rfl
     refine pure_ (i := 6) (N := some 45) (v := ?_) (a' := ?_) #[true, true, true, true, true, true, true, false, true, false, false] rfl rfl (any_of HT_.out (by kernel_rfl)) (fun _ _ _ h => h) (Or.inl ⟨by rfl, ?_⟩) ?_ ?_
     rotate_left
     ·intro w'
      go_simp
      with_reducible rfl
     rotate_left
     ·simp only [Act.put, zA, zB, zC, i64_w, i32_w]
      rfl
     refine pure_ (i := 7) (N := some 46) (v := ?_) (a' := ?_) #[true, true, true, true, true, true, true, true, true, false, false] rfl rfl (any_of HT_.out (by kernel_rfl)) (fun _ _ _ h => h) (Or.inl ⟨by rfl, ?_⟩) ?_ ?_
     rotate_left
     ·intro w'
      go_simp
      with_reducible rfl
     rotate_left
     ·simp only [Act.put, zA, zB, zC, i64_w, i32_w]
      rfl
     exact norm_ (by simp only [putAll, Act.put, zA, zB, zC]) (hCont (v289, gb292) _ ⟨hHeld, (by (with_reducible repeat (first | apply Kd.R_alloc | apply Kd.R_drewN | apply Kd.R_drew)); exact Kd.R_mono HO266.out (fun _ hk => ⟨hk.1.1, ⟨hk.1.2, hk.2⟩⟩)), (by (with_reducible repeat (first | apply Kd.R_alloc | apply Kd.R_drewN | apply Kd.R_drew)); exact Kd.R_mono HO274.out (fun _ hk => ⟨hk.1.1, ⟨hk.1.2, hk.2⟩⟩)), (by (with_reducible repeat (first | apply Kd.R_alloc | apply Kd.R_drewN | apply Kd.R_drew)); exact Kd.R_mono HO281.out (fun _ hk => ⟨hk.1.1, ⟨hk.1.2, hk.2⟩⟩)), (by (with_reducible repeat (first | apply Kd.R_alloc | apply Kd.R_drewN | apply Kd.R_drew)); exact Kd.R_mono HO290.out (fun _ hk => ⟨hk.1.1.2, ⟨hk.1.2, hk.2⟩⟩)), (bk BK258), (bk BK259), (bk BK276), (bk BK282), (bk BK292), GW292.out, GE292.out, NB258_292.out, NB292_258.out, NB259_292.out, NB292_259.out, NB276_292.out, NB292_276.out, NB282_292.out, NB292_282.out, (bt HB)⟩)
   rintro ⟨v289, gb292⟩ w59 ⟨hS_, h0_, h1_, h2_, h3_, h4_, h5_, h6_, h7_, h8_, h9_, h10_, h11_, h12_, h13_, h14_, h15_, h16_, h17_, h18_, h19_⟩
   have n0_ : Aside0 (Kd.R k53 53 w59 w.heap.size (fun k_ => some k_ ≠ (.slice Ao43 t272.length co43 : Value).ownBlock ∧ some k_ ≠ (.slice Ao53 t279.length co53 : Value).ownBlock ∧ some k_ ≠ (v289 : Value).ownBlock) v265 t264) := ⟨h0_⟩
   have n1_ : Aside0 (Kd.R k53 53 w59 w.heap.size (fun k_ => some k_ ≠ (v265 : Value).ownBlock ∧ some k_ ≠ (.slice Ao53 t279.length co53 : Value).ownBlock ∧ some k_ ≠ (v289 : Value).ownBlock) (.slice Ao43 t272.length co43) t272) := ⟨h1_⟩
   have n2_ : Aside0 (Kd.R k53 53 w59 w.heap.size (fun k_ => some k_ ≠ (v265 : Value).ownBlock ∧ some k_ ≠ (.slice Ao43 t272.length co43 : Value).ownBlock ∧ some k_ ≠ (v289 : Value).ownBlock) (.slice Ao53 t279.length co53) t279) := ⟨h2_⟩
   have n3_ : Aside0 (Kd.R k53 53 w59 w.heap.size (fun k_ => some k_ ≠ (v265 : Value).ownBlock ∧ some k_ ≠ (.slice Ao43 t272.length co43 : Value).ownBlock ∧ some k_ ≠ (.slice Ao53 t279.length co53 : Value).ownBlock) v289 t288) := ⟨h3_⟩
   have n4_ : Aside0 (w59.heap[gb258]? = some (.cells #[.int .i64 a0_0, .int .i64 a0_1, .slice A0_2 l0_2.length c0_2] 35 (0, 0))) := ⟨h4_⟩
   have n5_ : Aside0 (w59.heap[gb259]? = some (.cells #[.int .i64 a2_0, .int .i64 a2_1, .string a2_2] 83 (0, 0))) := ⟨h5_⟩
   have n6_ : Aside0 (w59.heap[gb276]? = some (.cells #[.int .i64 t270, .int .i64 t271, .slice Ao43 t272.length co43] 40 (0, 0))) := ⟨h6_⟩
   have n7_ : Aside0 (w59.heap[gb282]? = some (.cells #[.int .i64 t277, .int .i64 t278, .slice Ao53 t279.length co53] 40 (0, 0))) := ⟨h7_⟩
   have n8_ : Aside0 (w59.heap[gb292]? = some (.cells #[.int .i64 0, .int .i64 0, .slice none 0 0] 40 (0, 0))) := ⟨h8_⟩
   have n9_ : Aside0 (w.heap.size ≤ gb292) := ⟨h9_⟩
   have n10_ : Aside0 (w.heap.size ≤ gb292) := ⟨h10_⟩
   have n11_ : Aside0 (gb258 ≠ gb292) := ⟨h11_⟩
   have n12_ : Aside0 (gb292 ≠ gb258) := ⟨h12_⟩
   have n13_ : Aside0 (gb259 ≠ gb292) := ⟨h13_⟩
   have n14_ : Aside0 (gb292 ≠ gb259) := ⟨h14_⟩
   have n15_ : Aside0 (gb276 ≠ gb292) := ⟨h15_⟩
   have n16_ : Aside0 (gb292 ≠ gb276) := ⟨h16_⟩
   have n17_ : Aside0 (gb282 ≠ gb292) := ⟨h17_⟩
   have n18_ : Aside0 (gb292 ≠ gb282) := ⟨h18_⟩
   have n19_ : Aside0 (Below w.heap.size w w59) := ⟨h19_⟩
   clear HO266
   clear HO274
   clear HO281
   clear BK258
   clear BK259
   clear BK276
   clear BK282
   clear HB
   clear h0_ h1_ h2_ h3_ h4_ h5_ h6_ h7_ h8_ h9_ h10_ h11_ h12_ h13_ h14_ h15_ h16_ h17_ h18_ h19_
   have HO266 := n0_
   have HO274 := n1_
   have HO281 := n2_
   have HO290 := n3_
   have BK258 := n4_
   have BK259 := n5_
   have BK276 := n6_
   have BK282 := n7_
   have BK292 := n8_
   have GW292 := n9_
   have GE292 := n10_
   have NB258_292 := n11_
   have NB292_258 := n12_
   have NB259_292 := n13_
   have NB292_259 := n14_
   have NB276_292 := n15_
   have NB292_276 := n16_
   have NB282_292 := n17_
   have NB292_282 := n18_
   have HB := n19_
   clear n0_ n1_ n2_ n3_ n4_ n5_ n6_ n7_ n8_ n9_ n10_ n11_ n12_ n13_ n14_ n15_ n16_ n17_ n18_ n19_
   have hHeld : w59.cell? ⟨gb282, 0, none⟩ = some (.int .i64 t277) ∧ w59.cell? ⟨gb282, 1, none⟩ = some (.int .i64 t278) ∧ w59.cell? ⟨gb282, 2, none⟩ = some (.slice Ao53 t279.length co53) ∧ w59.cell? ⟨gb259, 0, none⟩ = some (.int .i64 a2_0) ∧ w59.cell? ⟨gb259, 1, none⟩ = some (.int .i64 a2_1) ∧ w59.cell? ⟨gb259, 2, none⟩ = some (.string a2_2) := hS_
   obtain ⟨Ao62, co62, eo62⟩ := Kd.R_slice HO290.out
   (first | subst eo62 | (injection eo62 with f1_ f2_ f3_; have f4_ := f1_.symm; have f5_ := f3_.symm; clear f1_ f2_ f3_; subst f4_; subst f5_))
   refine norm_ (a' := ?_) ?_ ?_
   rotate_left
   ·simp only [putAll, Act.put, zA, zB, zC]
    rfl
   refine one_ (i := 9) (N := none) #[true, true, true, true, true, true, true, true, true, true, false] rfl rfl (one_of HT_.out (by kernel_rfl)) (by decide) (fun K hK => ?_)
   have hs60 : w59.cell? ⟨gb292, 0, none⟩ = some (.int .i64 0) := bc BK292 0
   have hfs60 := blk_frozen BK292.out 0
   have hns60_0 := NB258_292.out
   have hns60_1 := NB259_292.out
   have hns60_2 := NB276_292.out
   have hns60_3 := NB282_292.out
   have hms60_0 := NB292_258.out
   have hms60_1 := NB292_259.out
   have hms60_2 := NB292_276.out
   have hms60_3 := NB292_282.out
   have hs61 : w59.cell? ⟨gb292, 1, none⟩ = some (.int .i64 0) := bc BK292 1
   have hfs61 := blk_frozen BK292.out 1
   have hns61_0 := NB258_292.out
   have hns61_1 := NB259_292.out
   have hns61_2 := NB276_292.out
   have hns61_3 := NB282_292.out
   have hms61_0 := NB292_258.out
   have hms61_1 := NB292_259.out
   have hms61_2 := NB292_276.out
   have hms61_3 := NB292_282.out
   have hs63 : w59.cell? ⟨gb292, 2, none⟩ = some (.slice none 0 0) := bc BK292 2
   have hfs63 := blk_frozen BK292.out 2
   have hns63_0 := NB258_292.out
   have hns63_1 := NB259_292.out
   have hns63_2 := NB276_292.out
   have hns63_3 := NB282_292.out
   have hms63_0 := NB292_258.out
   have hms63_1 := NB292_259.out
   have hms63_2 := NB292_276.out
   have hms63_3 := NB292_282.out
   refine skip_ (w1 := ?_) (by rfl) rfl ?_ ?_
   rotate_left
   ·go_simp
    rfl
   refine hK.out _ _ ⟨((cell_far (p := ⟨gb292, _, none⟩) NB282_292.out _).trans (((cell_far (p := ⟨gb292, _, none⟩) NB282_292.out _).trans (((cell_far (p := ⟨gb292, _, none⟩) NB282_292.out _).trans (hHeld.1)))))), ((cell_far (p := ⟨gb292, _, none⟩) NB282_292.out _).trans (((cell_far (p := ⟨gb292, _, none⟩) NB282_292.out _).trans (((cell_far (p := ⟨gb292, _, none⟩) NB282_292.out _).trans (hHeld.2.1)))))), ((cell_far (p := ⟨gb292, _, none⟩) NB282_292.out _).trans (((cell_far (p := ⟨gb292, _, none⟩) NB282_292.out _).trans (((cell_far (p := ⟨gb292, _, none⟩) NB282_292.out _).trans (hHeld.2.2.1)))))), ((cell_far (p := ⟨gb292, _, none⟩) NB259_292.out _).trans (((cell_far (p := ⟨gb292, _, none⟩) NB259_292.out _).trans (((cell_far (p := ⟨gb292, _, none⟩) NB259_292.out _).trans (hHeld.2.2.2.1)))))), ((cell_far (p := ⟨gb292, _, none⟩) NB259_292.out _).trans (((cell_far (p := ⟨gb292, _, none⟩) NB259_292.out _).trans (((cell_far (p := ⟨gb292, _, none⟩) NB259_292.out _).trans (hHeld.2.2.2.2.1)))))), ((cell_far (p := ⟨gb292, _, none⟩) NB259_292.out _).trans (((cell_far (p := ⟨gb292, _, none⟩) NB259_292.out _).trans (((cell_far (p := ⟨gb292, _, none⟩) NB259_292.out _).trans (hHeld.2.2.2.2.2))))))⟩ (fun hHeld => ?_)
   clear hK K
   refine pure_ (i := 10) (N := some 12) (v := ?_) (a' := ?_) #[true, true, true, true, true, true, true, true, true, true, true] rfl rfl (any_of HT_.out (by kernel_rfl)) (fun _ _ _ h => h) (Or.inl ⟨by rfl, ?_⟩) ?_ ?_
   rotate_left
   ·intro w'
    go_simp
    with_reducible rfl
   rotate_left
   ·simp only [Act.put, zA, zB, zC, i64_w, i32_w]
    rfl
   refine done_ (done_of HT_.out (by kernel_rfl)) ?_
   go_upto_region 11 with (fail)
   go_cut [55] (fun v55 wc => ∃ (kq : Nat) (x55_25 : Bool), v55 = .bool x55_25 ∧ Aside0 (laws_FnExactLogPut.j0 kq a1 t275 t291 x55_25 a0_0 a0_1 l0_2 a2_0 a2_1 a2_2 t270 t271 t272 t277 t278 t279 t286 t287 t288 = some r) ∧ Aside0 (kq ≤ k) ∧ Aside0 (Kd.R k53 53 wc w.heap.size (fun k_ => some k_ ≠ ((.slice Ao53 t279.length co53) : Value).ownBlock ∧ some k_ ≠ ((.slice Ao62 t288.length co62) : Value).ownBlock) (.slice Ao43 t272.length co43) t272) ∧ Aside0 (Kd.R k53 53 wc w.heap.size (fun k_ => some k_ ≠ ((.slice Ao43 t272.length co43) : Value).ownBlock ∧ some k_ ≠ ((.slice Ao62 t288.length co62) : Value).ownBlock) (.slice Ao53 t279.length co53) t279) ∧ Aside0 (Kd.R k53 53 wc w.heap.size (fun k_ => some k_ ≠ ((.slice Ao43 t272.length co43) : Value).ownBlock ∧ some k_ ≠ ((.slice Ao53 t279.length co53) : Value).ownBlock) (.slice Ao62 t288.length co62) t288) ∧ Aside0 (wc.heap[gb258]? = some (.cells #[.int .i64 a0_0, .int .i64 a0_1, (.slice A0_2 l0_2.length c0_2)] 35 (0, 0))) ∧ Aside0 (wc.heap[gb259]? = some (.cells #[.int .i64 a2_0, .int .i64 a2_1, .string a2_2] 83 (0, 0))) ∧ Aside0 (wc.heap[gb276]? = some (.cells #[.int .i64 t270, .int .i64 t271, (.slice Ao43 t272.length co43)] 40 (0, 0))) ∧ Aside0 (wc.heap[gb282]? = some (.cells #[.int .i64 t277, .int .i64 t278, (.slice Ao53 t279.length co53)] 40 (0, 0))) ∧ Aside0 (wc.heap[gb292]? = some (.cells #[.int .i64 t286, .int .i64 t287, (.slice Ao62 t288.length co62)] 40 (0, 0))) ∧ Aside0 (Below w.heap.size w wc))
   case first =>
    have H := HC26.out
    clear HC26
    replace H := Option.bind_eq_some_iff.mp H
    obtain ⟨t293, A640, H⟩ := H
    replace H : (if t293 = true then (laws_FnExactLogPut.j0 k a1 t275 t291 (t291 != t275) a0_0 a0_1 l0_2 a2_0 a2_1 a2_2 t270 t271 t272 t277 t278 t279 t286 t287 t288) else (laws_FnExactLogPut.j0 k a1 t275 t291 true a0_0 a0_1 l0_2 a2_0 a2_1 a2_2 t270 t271 t272 t277 t278 t279 t286 t287 t288)) = some r := H
    have A64 := Aside0.mk A640
    clear A640
    by_cases c65 : t293 = true
    ·subst c65
     have H1 : (laws_FnExactLogPut.j0 k a1 t275 t291 (t291 != t275) a0_0 a0_1 l0_2 a2_0 a2_1 a2_2 t270 t271 t272 t277 t278 t279 t286 t287 t288) = some r := by rw [if_pos rfl] at H; exact H
     clear H
     have H := H1
     clear H1
     have H' := Aside0.mk H
     clear H
     have hnb66 := NB292_258.out
     have hnc66 := NB258_292.out
     have hnb67 := NB292_259.out
     have hnc67 := NB259_292.out
     have hnb68 := NB292_276.out
     have hnc68 := NB276_292.out
     have hnb69 := NB292_282.out
     have hnc69 := NB282_292.out
     have hcz70_0 : w59.cell? ⟨gb292, 0, none⟩ = some (.int .i64 0) := bc BK292 0
     have hcz70_1 : w59.cell? ⟨gb292, 1, none⟩ = some (.int .i64 0) := bc BK292 1
     have hcz70_2 : w59.cell? ⟨gb292, 2, none⟩ = some (.slice none 0 0) := bc BK292 2
     have hfz70_0 := blk_frozen BK292.out 0
     have hfz70_1 := blk_frozen BK292.out 1
     have hfz70_2 := blk_frozen BK292.out 2
     have hnb71 := NB276_258.out
     have hnc71 := NB258_276.out
     have hnb72 := NB276_259.out
     have hnc72 := NB259_276.out
     have hnb73 := NB276_282.out
     have hnc73 := NB282_276.out
     have hcz74_0 : w59.cell? ⟨gb276, 0, none⟩ = some (.int .i64 t270) := bc BK276 0
     have hcz74_1 : w59.cell? ⟨gb276, 1, none⟩ = some (.int .i64 t271) := bc BK276 1
     have hcz74_2 : w59.cell? ⟨gb276, 2, none⟩ = some (.slice Ao43 t272.length co43) := bc BK276 2
     have hfz74_0 := blk_frozen BK276.out 0
     have hfz74_1 := blk_frozen BK276.out 1
     have hfz74_2 := blk_frozen BK276.out 2
     go_wp2_with (first | ((with_reducible refine gate_callee (f := 21) rfl ?_); refine goesL_ (some 49) rfl rfl Try.func21 (by kernel_rfl) rfl #[.agg #[.int .i64 t286, .int .i64 t287, .slice Ao62 t288.length co62], .agg #[.int .i64 t270, .int .i64 t271, .slice Ao43 t272.length co43]] rfl (by (try simp only [List.map_toArray, List.map_cons, List.map_nil]); first | done | rfl | (simp only [List.length_drop, List.length_take]; rfl)) ?_; (with_reducible refine (laws_eqLog.calls k t286 t287 _ _ t288 t270 t271 _ _ t272 true _ ?side1 ?side2 ?side3 ?side4 A64.out).mono ?_); (case side1 => refine (Kd.R_reads' (e := 53) (base := w.heap.size) (ok := fun k_ => (some k_ ≠ (v265 : Value).ownBlock ∧ (some k_ ≠ (.slice Ao43 t272.length co43 : Value).ownBlock ∧ some k_ ≠ (.slice Ao53 t279.length co53 : Value).ownBlock))) (n := t288.length) (c := co62) ?_).2.2; exact (by (with_reducible repeat (first | apply Kd.R_alloc | apply Kd.R_drewN | apply Kd.R_drew)); exact (Kd.R_mono (Kd.R_far (p := ⟨gb292, 2, none⟩) (Kd.R_far (p := ⟨gb292, 1, none⟩) (Kd.R_far (p := ⟨gb292, 0, none⟩) (Kd.R_types HO290.out BK292.out (by decide)) (fun _ hk => hk.2) (.int .i64 t286)) (fun _ hk => hk.2) (.int .i64 t287)) (fun _ hk => hk.2) (.slice Ao62 t288.length co62)) (fun _ h_ => h_.1)))); (case side2 => exact (Kd.R_reads' HO290.out).2.1); (case side3 => refine (Kd.R_reads' (e := 53) (base := w.heap.size) (ok := fun k_ => (some k_ ≠ (v265 : Value).ownBlock ∧ (some k_ ≠ (.slice Ao53 t279.length co53 : Value).ownBlock ∧ some k_ ≠ (.slice Ao62 t288.length co62 : Value).ownBlock))) (n := t272.length) (c := co43) ?_).2.2; exact (by (with_reducible repeat (first | apply Kd.R_alloc | apply Kd.R_drewN | apply Kd.R_drew)); exact (Kd.R_mono (Kd.R_far (p := ⟨gb292, 2, none⟩) (Kd.R_far (p := ⟨gb292, 1, none⟩) (Kd.R_far (p := ⟨gb292, 0, none⟩) (Kd.R_types HO274.out BK292.out (by decide)) (fun _ hk => hk.2) (.int .i64 t286)) (fun _ hk => hk.2) (.int .i64 t287)) (fun _ hk => hk.2) (.slice Ao62 t288.length co62)) (fun _ h_ => h_.1)))); (case side4 => exact (Kd.R_reads' HO274.out).2.1); rintro e w75 ⟨rfl, hb⟩; refine ⟨_, rfl, ?_⟩; have n0_ := Aside0.mk (Kd.R_below (by (with_reducible repeat (first | apply Kd.R_alloc | apply Kd.R_drewN | apply Kd.R_drew)); exact (Kd.R_mono (Kd.R_far (p := ⟨gb292, 2, none⟩) (Kd.R_far (p := ⟨gb292, 1, none⟩) (Kd.R_far (p := ⟨gb292, 0, none⟩) (Kd.R_types HO266.out BK292.out (by decide)) (fun _ hk => hk.2) (.int .i64 t286)) (fun _ hk => hk.2) (.int .i64 t287)) (fun _ hk => hk.2) (.slice Ao62 t288.length co62)) (fun _ h_ => h_.1))) hb); have n1_ := Aside0.mk (Kd.R_below (by (with_reducible repeat (first | apply Kd.R_alloc | apply Kd.R_drewN | apply Kd.R_drew)); exact (Kd.R_mono (Kd.R_far (p := ⟨gb292, 2, none⟩) (Kd.R_far (p := ⟨gb292, 1, none⟩) (Kd.R_far (p := ⟨gb292, 0, none⟩) (Kd.R_types HO274.out BK292.out (by decide)) (fun _ hk => hk.2) (.int .i64 t286)) (fun _ hk => hk.2) (.int .i64 t287)) (fun _ hk => hk.2) (.slice Ao62 t288.length co62)) (fun _ h_ => h_.1))) hb); have n2_ := Aside0.mk (Kd.R_below (by (with_reducible repeat (first | apply Kd.R_alloc | apply Kd.R_drewN | apply Kd.R_drew)); exact (Kd.R_mono (Kd.R_far (p := ⟨gb292, 2, none⟩) (Kd.R_far (p := ⟨gb292, 1, none⟩) (Kd.R_far (p := ⟨gb292, 0, none⟩) (Kd.R_types HO281.out BK292.out (by decide)) (fun _ hk => hk.2) (.int .i64 t286)) (fun _ hk => hk.2) (.int .i64 t287)) (fun _ hk => hk.2) (.slice Ao62 t288.length co62)) (fun _ h_ => h_.1))) hb); have n3_ := Aside0.mk (Kd.R_below (by (with_reducible repeat (first | apply Kd.R_alloc | apply Kd.R_drewN | apply Kd.R_drew)); exact (Kd.R_mono (Kd.R_far (p := ⟨gb292, 2, none⟩) (Kd.R_far (p := ⟨gb292, 1, none⟩) (Kd.R_far (p := ⟨gb292, 0, none⟩) (Kd.R_types HO290.out BK292.out (by decide)) (fun _ hk => hk.2) (.int .i64 t286)) (fun _ hk => hk.2) (.int .i64 t287)) (fun _ hk => hk.2) (.slice Ao62 t288.length co62)) (fun _ h_ => h_.1))) hb); have n4_ := Aside0.mk (blk_below (g := gb258) (o := .cells #[.int .i64 a0_0, .int .i64 a0_1, .slice A0_2 l0_2.length c0_2] 35 (0, 0)) (by refine bk_ ?_; refine blk_far ?_ NB258_292.out _; refine bk_ ?_; refine blk_far ?_ NB258_292.out _; refine bk_ ?_; refine blk_far ?_ NB258_292.out _; refine bk_ ?_; exact BK258.out) hb); have n5_ := Aside0.mk (blk_below (g := gb259) (o := .cells #[.int .i64 a2_0, .int .i64 a2_1, .string a2_2] 83 (0, 0)) (by refine bk_ ?_; refine blk_far ?_ NB259_292.out _; refine bk_ ?_; refine blk_far ?_ NB259_292.out _; refine bk_ ?_; refine blk_far ?_ NB259_292.out _; refine bk_ ?_; exact BK259.out) hb); have n6_ := Aside0.mk (blk_below (g := gb276) (o := .cells #[.int .i64 t270, .int .i64 t271, .slice Ao43 t272.length co43] 40 (0, 0)) (by refine bk_ ?_; refine blk_far ?_ NB276_292.out _; refine bk_ ?_; refine blk_far ?_ NB276_292.out _; refine bk_ ?_; refine blk_far ?_ NB276_292.out _; refine bk_ ?_; exact BK276.out) hb); have n7_ := Aside0.mk (blk_below (g := gb282) (o := .cells #[.int .i64 t277, .int .i64 t278, .slice Ao53 t279.length co53] 40 (0, 0)) (by refine bk_ ?_; refine blk_far ?_ NB282_292.out _; refine bk_ ?_; refine blk_far ?_ NB282_292.out _; refine bk_ ?_; refine blk_far ?_ NB282_292.out _; refine bk_ ?_; exact BK282.out) hb); have n8_ := Aside0.mk (blk_below (g := gb292) (o := .cells #[.int .i64 t286, .int .i64 t287, .slice Ao62 t288.length co62] 40 (0, 0)) (by refine bk_ ?_; refine blk_put (cs := #[.int .i64 t286, .int .i64 t287, .slice none 0 0]) ?_ 2 _ rfl; refine bk_ ?_; refine blk_put (cs := #[.int .i64 t286, .int .i64 0, .slice none 0 0]) ?_ 1 _ rfl; refine bk_ ?_; refine blk_put (cs := #[.int .i64 0, .int .i64 0, .slice none 0 0]) ?_ 0 _ rfl; refine bk_ ?_; exact BK292.out) hb); have n9_ := Aside0.mk (below_step (bt HB) hb); clear HO266 HO274 HO281 HO290 BK258 BK259 BK276 BK282 BK292 HB; revert n0_ n1_ n2_ n3_ n4_ n5_ n6_ n7_ n8_ n9_; intro HO266 HO274 HO281 HO290 BK258 BK259 BK276 BK282 BK292 HB; (try clear hb); (try clear hb2); (try clear hk); (try clear hi)))
     go_meet
     case rel => exact ⟨_, ((t291 != t275)), (by first | rfl | (simp; done) | (simp [*]; done)), H', ⟨by first | omega | exact Nat.le_refl _⟩, ⟨by (with_reducible repeat (first | apply Kd.R_alloc | apply Kd.R_drewN | apply Kd.R_drew)); exact Kd.R_mono HO274.out (fun _ hk => ⟨hk.2.1, hk.2.2⟩)⟩, ⟨by (with_reducible repeat (first | apply Kd.R_alloc | apply Kd.R_drewN | apply Kd.R_drew)); exact Kd.R_mono HO281.out (fun _ hk => ⟨hk.2.1, hk.2.2⟩)⟩, ⟨by (with_reducible repeat (first | apply Kd.R_alloc | apply Kd.R_drewN | apply Kd.R_drew)); exact Kd.R_mono HO290.out (fun _ hk => ⟨hk.2.1, hk.2.2⟩)⟩, ⟨by refine bk_ ?_; exact BK258.out⟩, ⟨by refine bk_ ?_; exact BK259.out⟩, ⟨by refine bk_ ?_; exact BK276.out⟩, ⟨by refine bk_ ?_; exact BK282.out⟩, ⟨by refine bk_ ?_; exact BK292.out⟩, ⟨bt HB⟩⟩
    ·replace c65 := Bool.eq_false_iff.mpr c65
     subst c65
     have H1 : (laws_FnExactLogPut.j0 k a1 t275 t291 true a0_0 a0_1 l0_2 a2_0 a2_1 a2_2 t270 t271 t272 t277 t278 t279 t286 t287 t288) = some r := by rw [if_neg (show ¬ (false = true) by decide)] at H; exact H
     clear H
     have H := H1
     clear H1
     have H' := Aside0.mk H
     clear H
     have hnb76 := NB292_258.out
     have hnc76 := NB258_292.out
     have hnb77 := NB292_259.out
     have hnc77 := NB259_292.out
     have hnb78 := NB292_276.out
     have hnc78 := NB276_292.out
     have hnb79 := NB292_282.out
     have hnc79 := NB282_292.out
     have hcz80_0 : w59.cell? ⟨gb292, 0, none⟩ = some (.int .i64 0) := bc BK292 0
     have hcz80_1 : w59.cell? ⟨gb292, 1, none⟩ = some (.int .i64 0) := bc BK292 1
     have hcz80_2 : w59.cell? ⟨gb292, 2, none⟩ = some (.slice none 0 0) := bc BK292 2
     have hfz80_0 := blk_frozen BK292.out 0
     have hfz80_1 := blk_frozen BK292.out 1
     have hfz80_2 := blk_frozen BK292.out 2
     have hnb81 := NB276_258.out
     have hnc81 := NB258_276.out
     have hnb82 := NB276_259.out
     have hnc82 := NB259_276.out
     have hnb83 := NB276_282.out
     have hnc83 := NB282_276.out
     have hcz84_0 : w59.cell? ⟨gb276, 0, none⟩ = some (.int .i64 t270) := bc BK276 0
     have hcz84_1 : w59.cell? ⟨gb276, 1, none⟩ = some (.int .i64 t271) := bc BK276 1
     have hcz84_2 : w59.cell? ⟨gb276, 2, none⟩ = some (.slice Ao43 t272.length co43) := bc BK276 2
     have hfz84_0 := blk_frozen BK276.out 0
     have hfz84_1 := blk_frozen BK276.out 1
     have hfz84_2 := blk_frozen BK276.out 2
     go_wp2_with (first | ((with_reducible refine gate_callee (f := 21) rfl ?_); refine goesL_ (some 49) rfl rfl Try.func21 (by kernel_rfl) rfl #[.agg #[.int .i64 t286, .int .i64 t287, .slice Ao62 t288.length co62], .agg #[.int .i64 t270, .int .i64 t271, .slice Ao43 t272.length co43]] rfl (by (try simp only [List.map_toArray, List.map_cons, List.map_nil]); first | done | rfl | (simp only [List.length_drop, List.length_take]; rfl)) ?_; (with_reducible refine (laws_eqLog.calls k t286 t287 _ _ t288 t270 t271 _ _ t272 false _ ?side1 ?side2 ?side3 ?side4 A64.out).mono ?_); (case side1 => refine (Kd.R_reads' (e := 53) (base := w.heap.size) (ok := fun k_ => (some k_ ≠ (v265 : Value).ownBlock ∧ (some k_ ≠ (.slice Ao43 t272.length co43 : Value).ownBlock ∧ some k_ ≠ (.slice Ao53 t279.length co53 : Value).ownBlock))) (n := t288.length) (c := co62) ?_).2.2; exact (by (with_reducible repeat (first | apply Kd.R_alloc | apply Kd.R_drewN | apply Kd.R_drew)); exact (Kd.R_mono (Kd.R_far (p := ⟨gb292, 2, none⟩) (Kd.R_far (p := ⟨gb292, 1, none⟩) (Kd.R_far (p := ⟨gb292, 0, none⟩) (Kd.R_types HO290.out BK292.out (by decide)) (fun _ hk => hk.2) (.int .i64 t286)) (fun _ hk => hk.2) (.int .i64 t287)) (fun _ hk => hk.2) (.slice Ao62 t288.length co62)) (fun _ h_ => h_.1)))); (case side2 => exact (Kd.R_reads' HO290.out).2.1); (case side3 => refine (Kd.R_reads' (e := 53) (base := w.heap.size) (ok := fun k_ => (some k_ ≠ (v265 : Value).ownBlock ∧ (some k_ ≠ (.slice Ao53 t279.length co53 : Value).ownBlock ∧ some k_ ≠ (.slice Ao62 t288.length co62 : Value).ownBlock))) (n := t272.length) (c := co43) ?_).2.2; exact (by (with_reducible repeat (first | apply Kd.R_alloc | apply Kd.R_drewN | apply Kd.R_drew)); exact (Kd.R_mono (Kd.R_far (p := ⟨gb292, 2, none⟩) (Kd.R_far (p := ⟨gb292, 1, none⟩) (Kd.R_far (p := ⟨gb292, 0, none⟩) (Kd.R_types HO274.out BK292.out (by decide)) (fun _ hk => hk.2) (.int .i64 t286)) (fun _ hk => hk.2) (.int .i64 t287)) (fun _ hk => hk.2) (.slice Ao62 t288.length co62)) (fun _ h_ => h_.1)))); (case side4 => exact (Kd.R_reads' HO274.out).2.1); rintro e w85 ⟨rfl, hb⟩; refine ⟨_, rfl, ?_⟩; have n0_ := Aside0.mk (Kd.R_below (by (with_reducible repeat (first | apply Kd.R_alloc | apply Kd.R_drewN | apply Kd.R_drew)); exact (Kd.R_mono (Kd.R_far (p := ⟨gb292, 2, none⟩) (Kd.R_far (p := ⟨gb292, 1, none⟩) (Kd.R_far (p := ⟨gb292, 0, none⟩) (Kd.R_types HO266.out BK292.out (by decide)) (fun _ hk => hk.2) (.int .i64 t286)) (fun _ hk => hk.2) (.int .i64 t287)) (fun _ hk => hk.2) (.slice Ao62 t288.length co62)) (fun _ h_ => h_.1))) hb); have n1_ := Aside0.mk (Kd.R_below (by (with_reducible repeat (first | apply Kd.R_alloc | apply Kd.R_drewN | apply Kd.R_drew)); exact (Kd.R_mono (Kd.R_far (p := ⟨gb292, 2, none⟩) (Kd.R_far (p := ⟨gb292, 1, none⟩) (Kd.R_far (p := ⟨gb292, 0, none⟩) (Kd.R_types HO274.out BK292.out (by decide)) (fun _ hk => hk.2) (.int .i64 t286)) (fun _ hk => hk.2) (.int .i64 t287)) (fun _ hk => hk.2) (.slice Ao62 t288.length co62)) (fun _ h_ => h_.1))) hb); have n2_ := Aside0.mk (Kd.R_below (by (with_reducible repeat (first | apply Kd.R_alloc | apply Kd.R_drewN | apply Kd.R_drew)); exact (Kd.R_mono (Kd.R_far (p := ⟨gb292, 2, none⟩) (Kd.R_far (p := ⟨gb292, 1, none⟩) (Kd.R_far (p := ⟨gb292, 0, none⟩) (Kd.R_types HO281.out BK292.out (by decide)) (fun _ hk => hk.2) (.int .i64 t286)) (fun _ hk => hk.2) (.int .i64 t287)) (fun _ hk => hk.2) (.slice Ao62 t288.length co62)) (fun _ h_ => h_.1))) hb); have n3_ := Aside0.mk (Kd.R_below (by (with_reducible repeat (first | apply Kd.R_alloc | apply Kd.R_drewN | apply Kd.R_drew)); exact (Kd.R_mono (Kd.R_far (p := ⟨gb292, 2, none⟩) (Kd.R_far (p := ⟨gb292, 1, none⟩) (Kd.R_far (p := ⟨gb292, 0, none⟩) (Kd.R_types HO290.out BK292.out (by decide)) (fun _ hk => hk.2) (.int .i64 t286)) (fun _ hk => hk.2) (.int .i64 t287)) (fun _ hk => hk.2) (.slice Ao62 t288.length co62)) (fun _ h_ => h_.1))) hb); have n4_ := Aside0.mk (blk_below (g := gb258) (o := .cells #[.int .i64 a0_0, .int .i64 a0_1, .slice A0_2 l0_2.length c0_2] 35 (0, 0)) (by refine bk_ ?_; refine blk_far ?_ NB258_292.out _; refine bk_ ?_; refine blk_far ?_ NB258_292.out _; refine bk_ ?_; refine blk_far ?_ NB258_292.out _; refine bk_ ?_; exact BK258.out) hb); have n5_ := Aside0.mk (blk_below (g := gb259) (o := .cells #[.int .i64 a2_0, .int .i64 a2_1, .string a2_2] 83 (0, 0)) (by refine bk_ ?_; refine blk_far ?_ NB259_292.out _; refine bk_ ?_; refine blk_far ?_ NB259_292.out _; refine bk_ ?_; refine blk_far ?_ NB259_292.out _; refine bk_ ?_; exact BK259.out) hb); have n6_ := Aside0.mk (blk_below (g := gb276) (o := .cells #[.int .i64 t270, .int .i64 t271, .slice Ao43 t272.length co43] 40 (0, 0)) (by refine bk_ ?_; refine blk_far ?_ NB276_292.out _; refine bk_ ?_; refine blk_far ?_ NB276_292.out _; refine bk_ ?_; refine blk_far ?_ NB276_292.out _; refine bk_ ?_; exact BK276.out) hb); have n7_ := Aside0.mk (blk_below (g := gb282) (o := .cells #[.int .i64 t277, .int .i64 t278, .slice Ao53 t279.length co53] 40 (0, 0)) (by refine bk_ ?_; refine blk_far ?_ NB282_292.out _; refine bk_ ?_; refine blk_far ?_ NB282_292.out _; refine bk_ ?_; refine blk_far ?_ NB282_292.out _; refine bk_ ?_; exact BK282.out) hb); have n8_ := Aside0.mk (blk_below (g := gb292) (o := .cells #[.int .i64 t286, .int .i64 t287, .slice Ao62 t288.length co62] 40 (0, 0)) (by refine bk_ ?_; refine blk_put (cs := #[.int .i64 t286, .int .i64 t287, .slice none 0 0]) ?_ 2 _ rfl; refine bk_ ?_; refine blk_put (cs := #[.int .i64 t286, .int .i64 0, .slice none 0 0]) ?_ 1 _ rfl; refine bk_ ?_; refine blk_put (cs := #[.int .i64 0, .int .i64 0, .slice none 0 0]) ?_ 0 _ rfl; refine bk_ ?_; exact BK292.out) hb); have n9_ := Aside0.mk (below_step (bt HB) hb); clear HO266 HO274 HO281 HO290 BK258 BK259 BK276 BK282 BK292 HB; revert n0_ n1_ n2_ n3_ n4_ n5_ n6_ n7_ n8_ n9_; intro HO266 HO274 HO281 HO290 BK258 BK259 BK276 BK282 BK292 HB; (try clear hb); (try clear hb2); (try clear hk); (try clear hi)))
     go_meet
     case rel => exact ⟨_, (true), (by first | rfl | (simp; done) | (simp [*]; done)), H', ⟨by first | omega | exact Nat.le_refl _⟩, ⟨by (with_reducible repeat (first | apply Kd.R_alloc | apply Kd.R_drewN | apply Kd.R_drew)); exact Kd.R_mono HO274.out (fun _ hk => ⟨hk.2.1, hk.2.2⟩)⟩, ⟨by (with_reducible repeat (first | apply Kd.R_alloc | apply Kd.R_drewN | apply Kd.R_drew)); exact Kd.R_mono HO281.out (fun _ hk => ⟨hk.2.1, hk.2.2⟩)⟩, ⟨by (with_reducible repeat (first | apply Kd.R_alloc | apply Kd.R_drewN | apply Kd.R_drew)); exact Kd.R_mono HO290.out (fun _ hk => ⟨hk.2.1, hk.2.2⟩)⟩, ⟨by refine bk_ ?_; exact BK258.out⟩, ⟨by refine bk_ ?_; exact BK259.out⟩, ⟨by refine bk_ ?_; exact BK276.out⟩, ⟨by refine bk_ ?_; exact BK282.out⟩, ⟨by refine bk_ ?_; exact BK292.out⟩, ⟨bt HB⟩⟩
   case rest =>
    clear HC26
    try clear c2
    try clear p2
    try clear c4
    try clear c6
    try clear c7
    try clear c8
    try clear c21
    try clear c47
    try clear c48
    try clear c65
    try clear c66
    try clear c67
    try clear c68
    try clear c69
    try clear c71
    try clear c72
    try clear c73
    try clear c76
    try clear c77
    try clear c78
    try clear c79
    try clear c81
    try clear c82
    try clear c83
    try clear hcz70_0
    try clear hcz70_1
    try clear hcz70_2
    try clear hcz74_0
    try clear hcz74_1
    try clear hcz74_2
    try clear hcz80_0
    try clear hcz80_1
    try clear hcz80_2
    try clear hcz84_0
    try clear hcz84_1
    try clear hcz84_2
    try clear hfz70_0
    try clear hfz70_1
    try clear hfz70_2
    try clear hfz74_0
    try clear hfz74_1
    try clear hfz74_2
    try clear hfz80_0
    try clear hfz80_1
    try clear hfz80_2
    try clear hfz84_0
    try clear hfz84_1
    try clear hfz84_2
    obtain ⟨kq, x55_25, rfl, HA, HJ25, HO_277002, HO_283002, HO_293002, BK258, BK259, BK276, BK282, BK292, HB⟩ := hcut
    cases kq with
    | zero => exact absurd HA.out (by simp [laws_FnExactLogPut.j0])
    | succ kj25 =>
     have H := HA.out
     clear HA
     simp only [laws_FnExactLogPut.j0] at H
     by_cases c86 : x55_25 = true
     ·subst c86
      have H1 : (some false) = some r := by rw [if_pos rfl] at H; exact H
      clear H
      have H := H1
      clear H1
      obtain rfl := Option.some.inj H
      go_wp2
      go_ret
      exact ⟨by first | rfl | (simp [errW_none, errW_some] <;> rfl) | (simp [*, errW_none, errW_some] <;> rfl), bt HB⟩
     ·replace c86 := Bool.eq_false_iff.mpr c86
      subst c86
      have H1 : ((laws_toLog.f kj25 a0_0 a0_1 l0_2).bind fun bt294 => ((laws_eqLog.f kj25 t277 t278 t279 bt294.1 bt294.2.1 bt294.2.2).bind fun t299 => (if t299 = true then ((laws_markLog.f kj25 t277 t278 t279 1).bind fun bt300 => (if bt300.1 < 0 then (laws_FnExactLogPut.j1 kj25 a1 t275 true a0_0 a0_1 l0_2 a2_0 a2_1 a2_2 t270 t271 t272 t286 t287 t288) else ((laws_eqLog.f kj25 t286 t287 t288 t270 t271 t272).bind fun t302 => (if t302 = true then (laws_FnExactLogPut.j1 kj25 a1 t275 (t291 != t275) a0_0 a0_1 l0_2 a2_0 a2_1 a2_2 t270 t271 t272 t286 t287 t288) else (laws_FnExactLogPut.j1 kj25 a1 t275 true a0_0 a0_1 l0_2 a2_0 a2_1 a2_2 t270 t271 t272 t286 t287 t288))))) else (some false)))) = some r := by rw [if_neg (show ¬ (false = true) by decide)] at H; exact H
      clear H
      have H := H1
      clear H1
      replace H := Option.bind_eq_some_iff.mp H
      obtain ⟨⟨t294, t295, t296⟩, A870, H⟩ := H
      replace H : ((laws_eqLog.f kj25 t277 t278 t279 t294 t295 t296).bind fun t299 => (if t299 = true then ((laws_markLog.f kj25 t277 t278 t279 1).bind fun bt300 => (if bt300.1 < 0 then (laws_FnExactLogPut.j1 kj25 a1 t275 true a0_0 a0_1 l0_2 a2_0 a2_1 a2_2 t270 t271 t272 t286 t287 t288) else ((laws_eqLog.f kj25 t286 t287 t288 t270 t271 t272).bind fun t302 => (if t302 = true then (laws_FnExactLogPut.j1 kj25 a1 t275 (t291 != t275) a0_0 a0_1 l0_2 a2_0 a2_1 a2_2 t270 t271 t272 t286 t287 t288) else (laws_FnExactLogPut.j1 kj25 a1 t275 true a0_0 a0_1 l0_2 a2_0 a2_1 a2_2 t270 t271 t272 t286 t287 t288))))) else (some false))) = some r := H
      have A87 := Aside0.mk A870
      clear A870
      replace H := Option.bind_eq_some_iff.mp H
      obtain ⟨t299, A880, H⟩ := H
      replace H : (if t299 = true then ((laws_markLog.f kj25 t277 t278 t279 1).bind fun bt300 => (if bt300.1 < 0 then (laws_FnExactLogPut.j1 kj25 a1 t275 true a0_0 a0_1 l0_2 a2_0 a2_1 a2_2 t270 t271 t272 t286 t287 t288) else ((laws_eqLog.f kj25 t286 t287 t288 t270 t271 t272).bind fun t302 => (if t302 = true then (laws_FnExactLogPut.j1 kj25 a1 t275 (t291 != t275) a0_0 a0_1 l0_2 a2_0 a2_1 a2_2 t270 t271 t272 t286 t287 t288) else (laws_FnExactLogPut.j1 kj25 a1 t275 true a0_0 a0_1 l0_2 a2_0 a2_1 a2_2 t270 t271 t272 t286 t287 t288))))) else (some false)) = some r := H
      have A88 := Aside0.mk A880
      clear A880
      by_cases c89 : t299 = true
      ·subst c89
       have H1 : ((laws_markLog.f kj25 t277 t278 t279 1).bind fun bt300 => (if bt300.1 < 0 then (laws_FnExactLogPut.j1 kj25 a1 t275 true a0_0 a0_1 l0_2 a2_0 a2_1 a2_2 t270 t271 t272 t286 t287 t288) else ((laws_eqLog.f kj25 t286 t287 t288 t270 t271 t272).bind fun t302 => (if t302 = true then (laws_FnExactLogPut.j1 kj25 a1 t275 (t291 != t275) a0_0 a0_1 l0_2 a2_0 a2_1 a2_2 t270 t271 t272 t286 t287 t288) else (laws_FnExactLogPut.j1 kj25 a1 t275 true a0_0 a0_1 l0_2 a2_0 a2_1 a2_2 t270 t271 t272 t286 t287 t288))))) = some r := by rw [if_pos rfl] at H; exact H
       clear H
       have H := H1
       clear H1
       replace H := Option.bind_eq_some_iff.mp H
       obtain ⟨⟨t300, t301⟩, A900, H⟩ := H
       replace H : (if t300 < 0 then (laws_FnExactLogPut.j1 kj25 a1 t275 true a0_0 a0_1 l0_2 a2_0 a2_1 a2_2 t270 t271 t272 t286 t287 t288) else ((laws_eqLog.f kj25 t286 t287 t288 t270 t271 t272).bind fun t302 => (if t302 = true then (laws_FnExactLogPut.j1 kj25 a1 t275 (t291 != t275) a0_0 a0_1 l0_2 a2_0 a2_1 a2_2 t270 t271 t272 t286 t287 t288) else (laws_FnExactLogPut.j1 kj25 a1 t275 true a0_0 a0_1 l0_2 a2_0 a2_1 a2_2 t270 t271 t272 t286 t287 t288)))) = some r := H
       have A90 := Aside0.mk A900
       clear A900
       have HC91 := Aside0.mk H
       clear H
       try go_wp2
       have n0_ := Aside0.mk (Kd.R_drew HO_277002.out)
       have n1_ := Aside0.mk (Kd.R_drew HO_283002.out)
       have n2_ := Aside0.mk (Kd.R_drew HO_293002.out)
       have n3_ := Aside0.mk (blk_drew BK258.out)
       have n4_ := Aside0.mk (blk_drew BK259.out)
       have n5_ := Aside0.mk (blk_drew BK276.out)
       have n6_ := Aside0.mk (blk_drew BK282.out)
       have n7_ := Aside0.mk (blk_drew BK292.out)
       have n8_ := Aside0.mk (below_drew1 HB.out)
       clear HO_277002 HO_283002 HO_293002 BK258 BK259 BK276 BK282 BK292 HB
       revert n0_ n1_ n2_ n3_ n4_ n5_ n6_ n7_ n8_
       intro HO_277002 HO_283002 HO_293002 BK258 BK259 BK276 BK282 BK292 HB
       refine start_ (n := 5) (S := fun w' => w'.cell? ⟨gb282, 0, none⟩ = some (.int .i64 t277) ∧ w'.cell? ⟨gb282, 1, none⟩ = some (.int .i64 t278) ∧ w'.cell? ⟨gb282, 2, none⟩ = some (.slice Ao53 t279.length co53) ∧ w'.cell? ⟨gb258, 0, none⟩ = some (.int .i64 a0_0) ∧ w'.cell? ⟨gb258, 1, none⟩ = some (.int .i64 a0_1) ∧ w'.cell? ⟨gb258, 2, none⟩ = some (.slice A0_2 l0_2.length c0_2)) (ds := []) #[false, false, false, false, false] (by kernel_rfl) rfl rfl ⟨bc BK282 0, bc BK282 1, bc BK282 2, bc BK258 0, bc BK258 1, bc BK258 2⟩ (fun hHeld => ?_)
       generalize wc.drew = w92 at HO_277002 HO_283002 HO_293002 BK258 BK259 BK276 BK282 BK292 HB hHeld ⊢
       refine take_ (i := 0) (N := some 56) (v := ?_) (a' := ?_) #[true, false, false, false, false] rfl rfl (by kernel_rfl) (fun _ _ _ h => h) (Or.inl ⟨by rfl, ?_⟩) hHeld ?_ ?_
       rotate_left
       ·rintro w' ⟨s0, s1, s2, s3, s4, s5⟩
        go_simp
        with_reducible rfl
       rotate_left
       ·simp only [Act.put, zA, zB, zC, i64_w, i32_w]
        rfl
       refine take_ (i := 1) (N := some 57) (v := ?_) (a' := ?_) #[true, true, false, false, false] rfl rfl (by kernel_rfl) (fun _ _ _ h => h) (Or.inl ⟨by rfl, ?_⟩) hHeld ?_ ?_
       rotate_left
       ·rintro w' ⟨s0, s1, s2, s3, s4, s5⟩
        go_simp
        with_reducible rfl
       rotate_left
       ·simp only [Act.put, zA, zB, zC, i64_w, i32_w]
        rfl
       refine one_ (i := 2) (N := some 58) #[true, true, true, false, false] rfl rfl (by kernel_rfl) (by decide) (fun K hK => ?_)
       refine goes_ Try.func19 (by kernel_rfl) rfl #[.agg #[.int .i64 a0_0, .int .i64 a0_1, .slice A0_2 l0_2.length c0_2]] (by rfl) rfl rfl (by (try simp only [List.map_toArray, List.map_cons, List.map_nil]); first | done | rfl | (simp only [List.length_drop, List.length_take]; rfl)) ?_
       with_reducible refine (laws_toLog.calls kj25 a0_0 a0_1 _ _ l0_2 t294 t295 t296 _ ?side1 ?side2 A87.out).mono ?_
       (case side1 => repeat (first | exact (Kd.C_below HR0_2.out HB.out) | (with_reducible refine Kd.C_alloc ?_ _) | (with_reducible refine Kd.C_drewN ?_ _) | (with_reducible refine Kd.C_drew ?_)))
       (case side2 => exact HC0_2.out)
       rintro e w93 ⟨v297, rfl, ho0, hb⟩
       refine ⟨_, rfl, ?_⟩
       have n0_ := Aside0.mk (Kd.R_elder' (rk HO_277002) (Kd.R_base ho0) hb)
       have n1_ := Aside0.mk (Kd.R_elder' (rk HO_283002) (Kd.R_base ho0) hb)
       have n2_ := Aside0.mk (Kd.R_elder' (rk HO_293002) (Kd.R_base ho0) hb)
       have n3_ := Aside0.mk (Kd.R_lower (Kd.R_new' (Kd.R_new' (Kd.R_new' ho0 (Kd.R_lt (rk HO_277002))) (Kd.R_lt (rk HO_283002))) (Kd.R_lt (rk HO_293002))) (below_size (bt HB)))
       have n4_ := bb BK258 hb
       have n5_ := bb BK259 hb
       have n6_ := bb BK276 hb
       have n7_ := bb BK282 hb
       have n8_ := bb BK292 hb
       have n9_ := Aside0.mk (below_step (bt HB) hb)
       clear HO_277002 HO_283002 HO_293002 BK258 BK259 BK276 BK282 BK292 HB
       revert n0_ n1_ n2_ n3_ n4_ n5_ n6_ n7_ n8_ n9_
       intro HO_277002 HO_283002 HO_293002 HO298 BK258 BK259 BK276 BK282 BK292 HB
       (try clear hb)
       (try clear hb2)
       (try clear hk)
       (try clear hi)
       (try clear ho0)
       obtain ⟨Ao94, co94, eo94⟩ := Kd.R_slice HO298.out
       (first | subst eo94 | (injection eo94 with f1_ f2_ f3_; have f4_ := f1_.symm; have f5_ := f3_.symm; clear f1_ f2_ f3_; subst f4_; subst f5_))
       refine hK.out _ _ ⟨bc BK282 0, bc BK282 1, bc BK282 2, bc BK258 0, bc BK258 1, bc BK258 2⟩ (fun hHeld => ?_)
       clear hK K
       refine norm_ (a' := ?_) ?_ ?_
       rotate_left
       ·show Act.put _ (some 58) _ = _
        simp only [Act.put, zA, zB, zC, i64_w, i32_w]
        rfl
       refine one_ (i := 3) (N := some 59) #[true, true, true, true, false] rfl rfl (by kernel_rfl) (by decide) (fun K hK => ?_)
       refine goes_ Try.func21 (by kernel_rfl) rfl #[.agg #[.int .i64 t277, .int .i64 t278, .slice Ao53 t279.length co53], .agg #[.int .i64 t294, .int .i64 t295, .slice Ao94 t296.length co94]] (by rfl) rfl rfl (by (try simp only [List.map_toArray, List.map_cons, List.map_nil]); first | done | rfl | (simp only [List.length_drop, List.length_take]; rfl)) ?_
       with_reducible refine (laws_eqLog.calls kj25 t277 t278 _ _ t279 t294 t295 _ _ t296 true _ ?side1 ?side2 ?side3 ?side4 A88.out).mono ?_
       (case side1 => repeat (first | exact (Kd.R_reads' HO_283002.out).2.2 | (with_reducible refine Kd.C_alloc ?_ _) | (with_reducible refine Kd.C_drewN ?_ _) | (with_reducible refine Kd.C_drew ?_)))
       (case side2 => exact (Kd.R_reads' HO_283002.out).2.1)
       (case side3 => repeat (first | exact (Kd.R_reads' HO298.out).2.2 | (with_reducible refine Kd.C_alloc ?_ _) | (with_reducible refine Kd.C_drewN ?_ _) | (with_reducible refine Kd.C_drew ?_)))
       (case side4 => exact (Kd.R_reads' HO298.out).2.1)
       rintro e w95 ⟨rfl, hb⟩
       refine ⟨_, rfl, ?_⟩
       have n0_ := rb HO_277002 hb
       have n1_ := rb HO_283002 hb
       have n2_ := rb HO_293002 hb
       have n3_ := rb HO298 hb
       have n4_ := bb BK258 hb
       have n5_ := bb BK259 hb
       have n6_ := bb BK276 hb
       have n7_ := bb BK282 hb
       have n8_ := bb BK292 hb
       have n9_ := Aside0.mk (below_step (bt HB) hb)
       clear HO_277002 HO_283002 HO_293002 HO298 BK258 BK259 BK276 BK282 BK292 HB
       revert n0_ n1_ n2_ n3_ n4_ n5_ n6_ n7_ n8_ n9_
       intro HO_277002 HO_283002 HO_293002 HO298 BK258 BK259 BK276 BK282 BK292 HB
       (try clear hb)
       (try clear hb2)
       (try clear hk)
       (try clear hi)
       refine hK.out _ _ ⟨bc BK282 0, bc BK282 1, bc BK282 2, bc BK258 0, bc BK258 1, bc BK258 2⟩ (fun hHeld => ?_)
       clear hK K
       refine norm_ (a' := ?_) ?_ ?_
       rotate_left
       ·show Act.put _ (some 59) _ = _
        simp only [Act.put, zA, zB, zC, i64_w, i32_w]
        rfl
       refine pure_ (i := 4) (N := some 60) (v := ?_) (a' := ?_) #[true, true, true, true, true] rfl rfl (by kernel_rfl) (fun _ _ _ h => h) (Or.inl ⟨by rfl, ?_⟩) ?_ ?_
       rotate_left
       ·intro w'
        go_simp
        with_reducible rfl
       rotate_left
       ·simp only [Act.put, zA, zB, zC, i64_w, i32_w]
        rfl
       refine done_ (by kernel_rfl) ?_
       have hnb96 := NB282_258.out
       have hnc96 := NB258_282.out
       have hnb97 := NB282_259.out
       have hnc97 := NB259_282.out
       have hnb98 := NB282_276.out
       have hnc98 := NB276_282.out
       have hnb99 := NB282_292.out
       have hnc99 := NB292_282.out
       have hcz100_0 : w95.cell? ⟨gb282, 0, none⟩ = some (.int .i64 t277) := bc BK282 0
       have hcz100_1 : w95.cell? ⟨gb282, 1, none⟩ = some (.int .i64 t278) := bc BK282 1
       have hcz100_2 : w95.cell? ⟨gb282, 2, none⟩ = some (.slice Ao53 t279.length co53) := bc BK282 2
       have hfz100_0 := blk_frozen BK282.out 0
       have hfz100_1 := blk_frozen BK282.out 1
       have hfz100_2 := blk_frozen BK282.out 2
       go_upto_region 17 with (first | ((with_reducible refine gate_callee (f := 49) rfl ?_); refine goesL_ (some 63) rfl rfl Try.func49 (by kernel_rfl) rfl #[.agg #[.int .i64 t277, .int .i64 t278, .slice Ao53 t279.length co53], .int .i64 1] rfl (by (try simp only [List.map_toArray, List.map_cons, List.map_nil]); first | done | rfl | (simp only [List.length_drop, List.length_take]; rfl)) ?_; (with_reducible refine (laws_markLog.calls kj25 t277 t278 (fun k_ => some k_ = (.slice Ao53 t279.length co53 : Value).ownBlock) (.slice Ao53 t279.length co53) t279 1 t300 t301 w _ ?side1 ?side2 A90.out).mono ?_); (case side1 => repeat (first | (with_reducible first | exact HB.out | apply below_alloc | apply pw_below_drewN | apply below_drew1 | refine below_set ?_ GE258.out | refine below_set ?_ GE259.out | refine below_set ?_ GE276.out | refine below_set ?_ GE282.out | refine below_set ?_ GE292.out) | exact HB.out)); (case side2 => exact Kd.R_tight rfl HO_283002.out); rintro e w101 ⟨rfl, hy0, hb, hkp⟩; refine ⟨_, rfl, ?_⟩; have n0_ := Aside0.mk (Kd.R_mono (ok' := fun k_ => some k_ ≠ (.slice Ao53 t279.length co53 : Value).ownBlock ∧ some k_ ≠ (.slice Ao62 t288.length co62 : Value).ownBlock ∧ some k_ ≠ (.slice Ao94 t296.length co94 : Value).ownBlock) (Kd.R_keptB (HO_277002.out) hkp (fun k_ hk_ hs_ => (hk_.1.1) hs_)) (fun k_ hk_ => ⟨hk_.1.1.1, hk_.1.1.2, hk_.1.2⟩)); have n1_ := Aside0.mk (Kd.R_reok rfl hy0 (fun k_ e_ => HO_283002.out.1 k_ e_)); have n2_ := Aside0.mk (Kd.R_mono (ok' := fun k_ => some k_ ≠ (.slice Ao43 t272.length co43 : Value).ownBlock ∧ some k_ ≠ (.slice Ao53 t279.length co53 : Value).ownBlock ∧ some k_ ≠ (.slice Ao94 t296.length co94 : Value).ownBlock) (Kd.R_keptB (HO_293002.out) hkp (fun k_ hk_ hs_ => (hk_.1.2) hs_)) (fun k_ hk_ => ⟨hk_.1.1.1, hk_.1.1.2, hk_.1.2⟩)); have n3_ := Aside0.mk (blk_kept (bk BK258) hkp (fun hs_ => (fun e_ => (Kd.R_ne HO_283002.out BK258.out (by decide)) e_) hs_)); have n4_ := Aside0.mk (blk_kept (bk BK259) hkp (fun hs_ => (fun e_ => (Kd.R_ne HO_283002.out BK259.out (by decide)) e_) hs_)); have n5_ := Aside0.mk (blk_kept (bk BK276) hkp (fun hs_ => (fun e_ => (Kd.R_ne HO_283002.out BK276.out (by decide)) e_) hs_)); have n6_ := Aside0.mk (blk_kept (bk BK282) hkp (fun hs_ => (fun e_ => (Kd.R_ne HO_283002.out BK282.out (by decide)) e_) hs_)); have n7_ := Aside0.mk (blk_kept (bk BK292) hkp (fun hs_ => (fun e_ => (Kd.R_ne HO_283002.out BK292.out (by decide)) e_) hs_)); have n8_ := Aside0.mk (Kd.R_mono (ok' := fun k_ => some k_ ≠ (.slice Ao43 t272.length co43 : Value).ownBlock ∧ some k_ ≠ (.slice Ao53 t279.length co53 : Value).ownBlock ∧ some k_ ≠ (.slice Ao62 t288.length co62 : Value).ownBlock) (Kd.R_keptB (HO298.out) hkp (fun k_ hk_ hs_ => (hk_.1.2) hs_)) (fun k_ hk_ => ⟨hk_.1.1.1.2, hk_.1.1.2, hk_.1.2⟩)); have n9_ := Aside0.mk (hb); clear HO_277002 HO_283002 HO_293002 BK258 BK259 BK276 BK282 BK292 HO298 HB; revert n0_ n1_ n2_ n3_ n4_ n5_ n6_ n7_ n8_ n9_; intro HO_277002 HO_283002 HO_293002 BK258 BK259 BK276 BK282 BK292 HO298 HB; (try clear hb); (try clear hkp); (try clear hy0)))
       (try simp only [Act.put, zA, zB, zC])
       go_cut [76] (fun v76 wc => ∃ (kq : Nat) (x76_90 : Bool), v76 = .bool x76_90 ∧ Aside0 (laws_FnExactLogPut.j1 kq a1 t275 x76_90 a0_0 a0_1 l0_2 a2_0 a2_1 a2_2 t270 t271 t272 t286 t287 t288 = some r) ∧ Aside0 (kq ≤ kj25) ∧ Aside0 (Kd.R k53 53 wc w.heap.size (fun k_ => some k_ ≠ ((.slice Ao53 t279.length co53) : Value).ownBlock ∧ some k_ ≠ ((.slice Ao62 t288.length co62) : Value).ownBlock) (.slice Ao43 t272.length co43) t272) ∧ Aside0 (Kd.R k53 53 wc w.heap.size (fun k_ => some k_ ≠ ((.slice Ao43 t272.length co43) : Value).ownBlock ∧ some k_ ≠ ((.slice Ao62 t288.length co62) : Value).ownBlock) (.slice Ao53 t279.length co53) t301) ∧ Aside0 (Kd.R k53 53 wc w.heap.size (fun k_ => some k_ ≠ ((.slice Ao43 t272.length co43) : Value).ownBlock ∧ some k_ ≠ ((.slice Ao53 t279.length co53) : Value).ownBlock) (.slice Ao62 t288.length co62) t288) ∧ Aside0 (wc.heap[gb258]? = some (.cells #[.int .i64 a0_0, .int .i64 a0_1, (.slice A0_2 l0_2.length c0_2)] 35 (0, 0))) ∧ Aside0 (wc.heap[gb259]? = some (.cells #[.int .i64 a2_0, .int .i64 a2_1, .string a2_2] 83 (0, 0))) ∧ Aside0 (wc.heap[gb276]? = some (.cells #[.int .i64 t270, .int .i64 t271, (.slice Ao43 t272.length co43)] 40 (0, 0))) ∧ Aside0 (wc.heap[gb282]? = some (.cells #[.int .i64 t277, .int .i64 t278, (.slice Ao53 t279.length co53)] 40 (0, 0))) ∧ Aside0 (wc.heap[gb292]? = some (.cells #[.int .i64 t286, .int .i64 t287, (.slice Ao62 t288.length co62)] 40 (0, 0))) ∧ Aside0 (Below w.heap.size w wc))
       case first =>
        have H := HC91.out
        clear HC91
        by_cases c102 : t300 < 0
        ·rw [if_pos c102] at H
         have c102b0 : decide (t300 < 0) = true := decide_eq_true c102
         clear c102
         (first | rw [c102b0] | (simp only [i64_w, i32_w]; rw [c102b0]) | skip)
         have H' := Aside0.mk H
         clear H
         go_wp2
         go_meet
         case rel => exact ⟨_, (true), (by first | rfl | (simp; done) | (simp [*]; done)), H', ⟨by have := HJ25.out; first | omega | exact Nat.le_refl _⟩, ⟨by (with_reducible repeat (first | apply Kd.R_alloc | apply Kd.R_drewN | apply Kd.R_drew)); exact Kd.R_mono HO_277002.out (fun _ hk => ⟨hk.1, hk.2.1⟩)⟩, ⟨by (with_reducible repeat (first | apply Kd.R_alloc | apply Kd.R_drewN | apply Kd.R_drew)); exact Kd.R_mono HO_283002.out (fun _ hk => ⟨hk.1.1, hk.1.2⟩)⟩, ⟨by (with_reducible repeat (first | apply Kd.R_alloc | apply Kd.R_drewN | apply Kd.R_drew)); exact Kd.R_mono HO_293002.out (fun _ hk => ⟨hk.1, hk.2.1⟩)⟩, ⟨by refine bk_ ?_; exact BK258.out⟩, ⟨by refine bk_ ?_; exact BK259.out⟩, ⟨by refine bk_ ?_; exact BK276.out⟩, ⟨by refine bk_ ?_; exact BK282.out⟩, ⟨by refine bk_ ?_; exact BK292.out⟩, ⟨bt HB⟩⟩
        ·rw [if_neg c102] at H
         have c102b0 : decide (t300 < 0) = false := decide_eq_false c102
         clear c102
         (first | rw [c102b0] | (simp only [i64_w, i32_w]; rw [c102b0]) | skip)
         replace H := Option.bind_eq_some_iff.mp H
         obtain ⟨t302, A1030, H⟩ := H
         replace H : (if t302 = true then (laws_FnExactLogPut.j1 kj25 a1 t275 (t291 != t275) a0_0 a0_1 l0_2 a2_0 a2_1 a2_2 t270 t271 t272 t286 t287 t288) else (laws_FnExactLogPut.j1 kj25 a1 t275 true a0_0 a0_1 l0_2 a2_0 a2_1 a2_2 t270 t271 t272 t286 t287 t288)) = some r := H
         have A103 := Aside0.mk A1030
         clear A1030
         by_cases c104 : t302 = true
         ·subst c104
          have H1 : (laws_FnExactLogPut.j1 kj25 a1 t275 (t291 != t275) a0_0 a0_1 l0_2 a2_0 a2_1 a2_2 t270 t271 t272 t286 t287 t288) = some r := by rw [if_pos rfl] at H; exact H
          clear H
          have H := H1
          clear H1
          have H' := Aside0.mk H
          clear H
          have hnb105 := NB292_258.out
          have hnc105 := NB258_292.out
          have hnb106 := NB292_259.out
          have hnc106 := NB259_292.out
          have hnb107 := NB292_276.out
          have hnc107 := NB276_292.out
          have hnb108 := NB292_282.out
          have hnc108 := NB282_292.out
          have hcz109_0 : w101.cell? ⟨gb292, 0, none⟩ = some (.int .i64 t286) := bc BK292 0
          have hcz109_1 : w101.cell? ⟨gb292, 1, none⟩ = some (.int .i64 t287) := bc BK292 1
          have hcz109_2 : w101.cell? ⟨gb292, 2, none⟩ = some (.slice Ao62 t288.length co62) := bc BK292 2
          have hfz109_0 := blk_frozen BK292.out 0
          have hfz109_1 := blk_frozen BK292.out 1
          have hfz109_2 := blk_frozen BK292.out 2
          have hnb110 := NB276_258.out
          have hnc110 := NB258_276.out
          have hnb111 := NB276_259.out
          have hnc111 := NB259_276.out
          have hnb112 := NB276_282.out
          have hnc112 := NB282_276.out
          have hcz113_0 : w101.cell? ⟨gb276, 0, none⟩ = some (.int .i64 t270) := bc BK276 0
          have hcz113_1 : w101.cell? ⟨gb276, 1, none⟩ = some (.int .i64 t271) := bc BK276 1
          have hcz113_2 : w101.cell? ⟨gb276, 2, none⟩ = some (.slice Ao43 t272.length co43) := bc BK276 2
          have hfz113_0 := blk_frozen BK276.out 0
          have hfz113_1 := blk_frozen BK276.out 1
          have hfz113_2 := blk_frozen BK276.out 2
          go_wp2_with (first | (go_at_call 21; (with_reducible refine (laws_eqLog.calls kj25 t286 t287 _ _ t288 t270 t271 _ _ t272 true _ ?side1 ?side2 ?side3 ?side4 A103.out).mono ?_); (case side1 => repeat (first | exact (Kd.R_reads' HO_293002.out).2.2 | (with_reducible refine Kd.C_alloc ?_ _) | (with_reducible refine Kd.C_drewN ?_ _) | (with_reducible refine Kd.C_drew ?_))); (case side2 => exact (Kd.R_reads' HO_293002.out).2.1); (case side3 => repeat (first | exact (Kd.R_reads' HO_277002.out).2.2 | (with_reducible refine Kd.C_alloc ?_ _) | (with_reducible refine Kd.C_drewN ?_ _) | (with_reducible refine Kd.C_drew ?_))); (case side4 => exact (Kd.R_reads' HO_277002.out).2.1); rintro e w114 ⟨rfl, hb⟩; have n0_ := rb HO_277002 hb; have n1_ := rb HO_283002 hb; have n2_ := rb HO_293002 hb; have n3_ := rb HO298 hb; have n4_ := bb BK258 hb; have n5_ := bb BK259 hb; have n6_ := bb BK276 hb; have n7_ := bb BK282 hb; have n8_ := bb BK292 hb; have n9_ := Aside0.mk (below_step (bt HB) hb); clear HO_277002 HO_283002 HO_293002 HO298 BK258 BK259 BK276 BK282 BK292 HB; revert n0_ n1_ n2_ n3_ n4_ n5_ n6_ n7_ n8_ n9_; intro HO_277002 HO_283002 HO_293002 HO298 BK258 BK259 BK276 BK282 BK292 HB; (try clear hb); (try clear hb2); (try clear hk); (try clear hi)))
          go_meet
          case rel => exact ⟨_, ((t291 != t275)), (by first | rfl | (simp; done) | (simp [*]; done)), H', ⟨by have := HJ25.out; first | omega | exact Nat.le_refl _⟩, ⟨by (with_reducible repeat (first | apply Kd.R_alloc | apply Kd.R_drewN | apply Kd.R_drew)); exact Kd.R_mono HO_277002.out (fun _ hk => ⟨hk.1, hk.2.1⟩)⟩, ⟨by (with_reducible repeat (first | apply Kd.R_alloc | apply Kd.R_drewN | apply Kd.R_drew)); exact Kd.R_mono HO_283002.out (fun _ hk => ⟨hk.1.1, hk.1.2⟩)⟩, ⟨by (with_reducible repeat (first | apply Kd.R_alloc | apply Kd.R_drewN | apply Kd.R_drew)); exact Kd.R_mono HO_293002.out (fun _ hk => ⟨hk.1, hk.2.1⟩)⟩, ⟨by refine bk_ ?_; exact BK258.out⟩, ⟨by refine bk_ ?_; exact BK259.out⟩, ⟨by refine bk_ ?_; exact BK276.out⟩, ⟨by refine bk_ ?_; exact BK282.out⟩, ⟨by refine bk_ ?_; exact BK292.out⟩, ⟨bt HB⟩⟩
         ·replace c104 := Bool.eq_false_iff.mpr c104
          subst c104
          have H1 : (laws_FnExactLogPut.j1 kj25 a1 t275 true a0_0 a0_1 l0_2 a2_0 a2_1 a2_2 t270 t271 t272 t286 t287 t288) = some r := by rw [if_neg (show ¬ (false = true) by decide)] at H; exact H
          clear H
          have H := H1
          clear H1
          have H' := Aside0.mk H
          clear H
          have hnb115 := NB292_258.out
          have hnc115 := NB258_292.out
          have hnb116 := NB292_259.out
          have hnc116 := NB259_292.out
          have hnb117 := NB292_276.out
          have hnc117 := NB276_292.out
          have hnb118 := NB292_282.out
          have hnc118 := NB282_292.out
          have hcz119_0 : w101.cell? ⟨gb292, 0, none⟩ = some (.int .i64 t286) := bc BK292 0
          have hcz119_1 : w101.cell? ⟨gb292, 1, none⟩ = some (.int .i64 t287) := bc BK292 1
          have hcz119_2 : w101.cell? ⟨gb292, 2, none⟩ = some (.slice Ao62 t288.length co62) := bc BK292 2
          have hfz119_0 := blk_frozen BK292.out 0
          have hfz119_1 := blk_frozen BK292.out 1
          have hfz119_2 := blk_frozen BK292.out 2
          have hnb120 := NB276_258.out
          have hnc120 := NB258_276.out
          have hnb121 := NB276_259.out
          have hnc121 := NB259_276.out
          have hnb122 := NB276_282.out
          have hnc122 := NB282_276.out
          have hcz123_0 : w101.cell? ⟨gb276, 0, none⟩ = some (.int .i64 t270) := bc BK276 0
          have hcz123_1 : w101.cell? ⟨gb276, 1, none⟩ = some (.int .i64 t271) := bc BK276 1
          have hcz123_2 : w101.cell? ⟨gb276, 2, none⟩ = some (.slice Ao43 t272.length co43) := bc BK276 2
          have hfz123_0 := blk_frozen BK276.out 0
          have hfz123_1 := blk_frozen BK276.out 1
          have hfz123_2 := blk_frozen BK276.out 2
          go_wp2_with (first | (go_at_call 21; (with_reducible refine (laws_eqLog.calls kj25 t286 t287 _ _ t288 t270 t271 _ _ t272 false _ ?side1 ?side2 ?side3 ?side4 A103.out).mono ?_); (case side1 => repeat (first | exact (Kd.R_reads' HO_293002.out).2.2 | (with_reducible refine Kd.C_alloc ?_ _) | (with_reducible refine Kd.C_drewN ?_ _) | (with_reducible refine Kd.C_drew ?_))); (case side2 => exact (Kd.R_reads' HO_293002.out).2.1); (case side3 => repeat (first | exact (Kd.R_reads' HO_277002.out).2.2 | (with_reducible refine Kd.C_alloc ?_ _) | (with_reducible refine Kd.C_drewN ?_ _) | (with_reducible refine Kd.C_drew ?_))); (case side4 => exact (Kd.R_reads' HO_277002.out).2.1); rintro e w124 ⟨rfl, hb⟩; have n0_ := rb HO_277002 hb; have n1_ := rb HO_283002 hb; have n2_ := rb HO_293002 hb; have n3_ := rb HO298 hb; have n4_ := bb BK258 hb; have n5_ := bb BK259 hb; have n6_ := bb BK276 hb; have n7_ := bb BK282 hb; have n8_ := bb BK292 hb; have n9_ := Aside0.mk (below_step (bt HB) hb); clear HO_277002 HO_283002 HO_293002 HO298 BK258 BK259 BK276 BK282 BK292 HB; revert n0_ n1_ n2_ n3_ n4_ n5_ n6_ n7_ n8_ n9_; intro HO_277002 HO_283002 HO_293002 HO298 BK258 BK259 BK276 BK282 BK292 HB; (try clear hb); (try clear hb2); (try clear hk); (try clear hi)))
          go_meet
          case rel => exact ⟨_, (true), (by first | rfl | (simp; done) | (simp [*]; done)), H', ⟨by have := HJ25.out; first | omega | exact Nat.le_refl _⟩, ⟨by (with_reducible repeat (first | apply Kd.R_alloc | apply Kd.R_drewN | apply Kd.R_drew)); exact Kd.R_mono HO_277002.out (fun _ hk => ⟨hk.1, hk.2.1⟩)⟩, ⟨by (with_reducible repeat (first | apply Kd.R_alloc | apply Kd.R_drewN | apply Kd.R_drew)); exact Kd.R_mono HO_283002.out (fun _ hk => ⟨hk.1.1, hk.1.2⟩)⟩, ⟨by (with_reducible repeat (first | apply Kd.R_alloc | apply Kd.R_drewN | apply Kd.R_drew)); exact Kd.R_mono HO_293002.out (fun _ hk => ⟨hk.1, hk.2.1⟩)⟩, ⟨by refine bk_ ?_; exact BK258.out⟩, ⟨by refine bk_ ?_; exact BK259.out⟩, ⟨by refine bk_ ?_; exact BK276.out⟩, ⟨by refine bk_ ?_; exact BK282.out⟩, ⟨by refine bk_ ?_; exact BK292.out⟩, ⟨bt HB⟩⟩
       case rest =>
        clear HC91
        try clear c1
        try clear c2
        try clear p2
        try clear c4
        try clear c6
        try clear c7
        try clear c8
        try clear c9
        try clear c10
        try clear c11
        try clear c12
        try clear c19
        try clear c21
        try clear c47
        try clear c48
        try clear c49
        try clear c65
        try clear c66
        try clear c67
        try clear c68
        try clear c69
        try clear c71
        try clear c72
        try clear c73
        try clear c76
        try clear c77
        try clear c78
        try clear c79
        try clear c81
        try clear c82
        try clear c83
        try clear c86
        try clear c89
        try clear c96
        try clear c97
        try clear c98
        try clear c99
        try clear c102
        try clear c102b0
        try clear c104
        try clear c105
        try clear c106
        try clear c107
        try clear c108
        try clear c110
        try clear c111
        try clear c112
        try clear c115
        try clear c116
        try clear c117
        try clear c118
        try clear c120
        try clear c121
        try clear c122
        try clear hcz100_0
        try clear hcz100_1
        try clear hcz100_2
        try clear hcz109_0
        try clear hcz109_1
        try clear hcz109_2
        try clear hcz113_0
        try clear hcz113_1
        try clear hcz113_2
        try clear hcz119_0
        try clear hcz119_1
        try clear hcz119_2
        try clear hcz123_0
        try clear hcz123_1
        try clear hcz123_2
        try clear hcz70_0
        try clear hcz70_1
        try clear hcz70_2
        try clear hcz74_0
        try clear hcz74_1
        try clear hcz74_2
        try clear hcz80_0
        try clear hcz80_1
        try clear hcz80_2
        try clear hcz84_0
        try clear hcz84_1
        try clear hcz84_2
        try clear hfz100_0
        try clear hfz100_1
        try clear hfz100_2
        try clear hfz109_0
        try clear hfz109_1
        try clear hfz109_2
        try clear hfz113_0
        try clear hfz113_1
        try clear hfz113_2
        try clear hfz119_0
        try clear hfz119_1
        try clear hfz119_2
        try clear hfz123_0
        try clear hfz123_1
        try clear hfz123_2
        try clear hfz70_0
        try clear hfz70_1
        try clear hfz70_2
        try clear hfz74_0
        try clear hfz74_1
        try clear hfz74_2
        try clear hfz80_0
        try clear hfz80_1
        try clear hfz80_2
        try clear hfz84_0
        try clear hfz84_1
        try clear hfz84_2
        try clear p2
        obtain ⟨kq, x76_90, rfl, HA, HJ90, HO_277002, HO_283002, HO_293002, BK258, BK259, BK276, BK282, BK292, HB⟩ := hcut
        have hl283002_90 := (Kd.R_reads' HO_283002.out).1
        rw [hl283002_90] at HO_283002
        (try simp only [hl283002_90])
        (try simp only [hl283002_90] at BK258)
        (try simp only [hl283002_90] at BK259)
        (try simp only [hl283002_90] at BK276)
        (try simp only [hl283002_90] at BK282)
        (try simp only [hl283002_90] at BK292)
        (try simp only [hl283002_90] at HO_277002)
        (try simp only [hl283002_90] at HO_293002)
        cases kq with
        | zero => exact absurd HA.out (by simp [laws_FnExactLogPut.j1])
        | succ kj90 =>
         have H := HA.out
         clear HA
         simp only [laws_FnExactLogPut.j1] at H
         by_cases c125 : x76_90 = true
         ·subst c125
          have H1 : (some false) = some r := by rw [if_pos rfl] at H; exact H
          clear H
          have H := H1
          clear H1
          obtain rfl := Option.some.inj H
          go_wp2
          go_ret
          exact ⟨by first | rfl | (simp [errW_none, errW_some] <;> rfl) | (simp [*, errW_none, errW_some] <;> rfl), bt HB⟩
         ·replace c125 := Bool.eq_false_iff.mpr c125
          subst c125
          have H1 : ((laws_markLog.f kj90 t286 t287 t288 1).bind fun bt303 => ((laws_heldLog.f kj90 t286 t287 bt303.2 1).bind fun t305 => (if t305 < 0 then (some false) else (if t305 = bt303.1 then ((laws_toLog.f kj90 a0_0 a0_1 l0_2).bind fun bt306 => ((laws_toEntry.f a2_0 a2_1 a2_2).bind fun bt311 => ((impl_LogPut.f kj90 bt306.1 bt306.2.1 bt306.2.2 a1 bt311.1 bt311.2.1 bt311.2.2).bind fun bt314 => ((laws_eqLog.f kj90 bt314.1 bt314.2.1 bt314.2.2.1 t270 t271 t272).bind fun t321 => (if t321 = true then (laws_FnExactLogPut.j2 kj90 bt303.1 (bt314.2.2.2 != t275) t286 t287 bt303.2) else (laws_FnExactLogPut.j2 kj90 bt303.1 true t286 t287 bt303.2)))))) else (some false))))) = some r := by rw [if_neg (show ¬ (false = true) by decide)] at H; exact H
          clear H
          have H := H1
          clear H1
          replace H := Option.bind_eq_some_iff.mp H
          obtain ⟨⟨t303, t304⟩, A1260, H⟩ := H
          replace H : ((laws_heldLog.f kj90 t286 t287 t304 1).bind fun t305 => (if t305 < 0 then (some false) else (if t305 = t303 then ((laws_toLog.f kj90 a0_0 a0_1 l0_2).bind fun bt306 => ((laws_toEntry.f a2_0 a2_1 a2_2).bind fun bt311 => ((impl_LogPut.f kj90 bt306.1 bt306.2.1 bt306.2.2 a1 bt311.1 bt311.2.1 bt311.2.2).bind fun bt314 => ((laws_eqLog.f kj90 bt314.1 bt314.2.1 bt314.2.2.1 t270 t271 t272).bind fun t321 => (if t321 = true then (laws_FnExactLogPut.j2 kj90 t303 (bt314.2.2.2 != t275) t286 t287 t304) else (laws_FnExactLogPut.j2 kj90 t303 true t286 t287 t304)))))) else (some false)))) = some r := H
          have A126 := Aside0.mk A1260
          clear A1260
          replace H := Option.bind_eq_some_iff.mp H
          obtain ⟨t305, A1270, H⟩ := H
          replace H : (if t305 < 0 then (some false) else (if t305 = t303 then ((laws_toLog.f kj90 a0_0 a0_1 l0_2).bind fun bt306 => ((laws_toEntry.f a2_0 a2_1 a2_2).bind fun bt311 => ((impl_LogPut.f kj90 bt306.1 bt306.2.1 bt306.2.2 a1 bt311.1 bt311.2.1 bt311.2.2).bind fun bt314 => ((laws_eqLog.f kj90 bt314.1 bt314.2.1 bt314.2.2.1 t270 t271 t272).bind fun t321 => (if t321 = true then (laws_FnExactLogPut.j2 kj90 t303 (bt314.2.2.2 != t275) t286 t287 t304) else (laws_FnExactLogPut.j2 kj90 t303 true t286 t287 t304)))))) else (some false))) = some r := H
          have A127 := Aside0.mk A1270
          clear A1270
          by_cases c128 : t305 < 0
          ·rw [if_pos c128] at H
           have c128b0 : decide (t305 < 0) = true := decide_eq_true c128
           clear c128
           obtain rfl := Option.some.inj H
           have hnb129 := NB292_258.out
           have hnc129 := NB258_292.out
           have hnb130 := NB292_259.out
           have hnc130 := NB259_292.out
           have hnb131 := NB292_276.out
           have hnc131 := NB276_292.out
           have hnb132 := NB292_282.out
           have hnc132 := NB282_292.out
           have hcz133_0 : wc.cell? ⟨gb292, 0, none⟩ = some (.int .i64 t286) := bc BK292 0
           have hcz133_1 : wc.cell? ⟨gb292, 1, none⟩ = some (.int .i64 t287) := bc BK292 1
           have hcz133_2 : wc.cell? ⟨gb292, 2, none⟩ = some (.slice Ao62 t288.length co62) := bc BK292 2
           have hfz133_0 := blk_frozen BK292.out 0
           have hfz133_1 := blk_frozen BK292.out 1
           have hfz133_2 := blk_frozen BK292.out 2
           go_wp2_with (first | ((with_reducible refine gate_callee (f := 49) rfl ?_); refine goesL_ (some 79) rfl rfl Try.func49 (by kernel_rfl) rfl #[.agg #[.int .i64 t286, .int .i64 t287, .slice Ao62 t288.length co62], .int .i64 1] rfl (by (try simp only [List.map_toArray, List.map_cons, List.map_nil]); first | done | rfl | (simp only [List.length_drop, List.length_take]; rfl)) ?_; (with_reducible refine (laws_markLog.calls kj90 t286 t287 (fun k_ => some k_ = (.slice Ao62 t288.length co62 : Value).ownBlock) (.slice Ao62 t288.length co62) t288 1 t303 t304 w _ ?side1 ?side2 A126.out).mono ?_); (case side1 => repeat (first | (with_reducible first | exact HB.out | apply below_alloc | apply pw_below_drewN | apply below_drew1 | refine below_set ?_ GE258.out | refine below_set ?_ GE259.out | refine below_set ?_ GE276.out | refine below_set ?_ GE282.out | refine below_set ?_ GE292.out) | exact HB.out)); (case side2 => exact Kd.R_tight rfl HO_293002.out); rintro e w134 ⟨rfl, hy0, hb, hkp⟩; refine ⟨_, rfl, ?_⟩; have n0_ := Aside0.mk (Kd.R_mono (ok' := fun k_ => some k_ ≠ (.slice Ao53 t301.length co53 : Value).ownBlock ∧ some k_ ≠ (.slice Ao62 t288.length co62 : Value).ownBlock) (Kd.R_keptB (HO_277002.out) hkp (fun k_ hk_ hs_ => (hk_.2) hs_)) (fun k_ hk_ => ⟨hk_.1.1, hk_.1.2⟩)); have n1_ := Aside0.mk (Kd.R_mono (ok' := fun k_ => some k_ ≠ (.slice Ao43 t272.length co43 : Value).ownBlock ∧ some k_ ≠ (.slice Ao62 t288.length co62 : Value).ownBlock) (Kd.R_keptB (HO_283002.out) hkp (fun k_ hk_ hs_ => (hk_.2) hs_)) (fun k_ hk_ => ⟨hk_.1.1, hk_.1.2⟩)); have n2_ := Aside0.mk (Kd.R_reok rfl hy0 (fun k_ e_ => HO_293002.out.1 k_ e_)); have n3_ := Aside0.mk (blk_kept (bk BK258) hkp (fun hs_ => (fun e_ => (Kd.R_ne HO_293002.out BK258.out (by decide)) e_) hs_)); have n4_ := Aside0.mk (blk_kept (bk BK259) hkp (fun hs_ => (fun e_ => (Kd.R_ne HO_293002.out BK259.out (by decide)) e_) hs_)); have n5_ := Aside0.mk (blk_kept (bk BK276) hkp (fun hs_ => (fun e_ => (Kd.R_ne HO_293002.out BK276.out (by decide)) e_) hs_)); have n6_ := Aside0.mk (blk_kept (bk BK282) hkp (fun hs_ => (fun e_ => (Kd.R_ne HO_293002.out BK282.out (by decide)) e_) hs_)); have n7_ := Aside0.mk (blk_kept (bk BK292) hkp (fun hs_ => (fun e_ => (Kd.R_ne HO_293002.out BK292.out (by decide)) e_) hs_)); have n8_ := Aside0.mk (hb); clear HO_277002 HO_283002 HO_293002 BK258 BK259 BK276 BK282 BK292 HB; revert n0_ n1_ n2_ n3_ n4_ n5_ n6_ n7_ n8_; intro HO_277002 HO_283002 HO_293002 BK258 BK259 BK276 BK282 BK292 HB; (try clear hb); (try clear hkp); (try clear hy0); have hcz135_0 : w134.cell? ⟨gb292, 0, none⟩ = some (.int .i64 t286) := bc BK292 0; have hcz135_1 : w134.cell? ⟨gb292, 1, none⟩ = some (.int .i64 t287) := bc BK292 1; have hcz135_2 : w134.cell? ⟨gb292, 2, none⟩ = some (.slice Ao62 t288.length co62) := bc BK292 2; have hfz135_0 := blk_frozen BK292.out 0; have hfz135_1 := blk_frozen BK292.out 1; have hfz135_2 := blk_frozen BK292.out 2) | ((with_reducible refine gate_callee (f := 50) rfl ?_); refine goesL_ (some 82) rfl rfl Try.func50 (by kernel_rfl) rfl #[.agg #[.int .i64 t286, .int .i64 t287, .slice Ao62 t304.length co62], .int .i64 1] rfl (by (try simp only [List.map_toArray, List.map_cons, List.map_nil]); first | done | (rw [show t304.length = t288.length from (Kd.R_reads' HO_293002.out).1.symm] <;> rfl) | rfl | (simp only [List.length_drop, List.length_take]; rfl)) ?_; (with_reducible refine (laws_heldLog.calls kj90 t286 t287 _ _ t304 1 t305 _ ?side1 ?side2 A127.out).mono ?_); (case side1 => repeat (first | exact (Kd.R_reads' HO_293002.out).2.2 | (with_reducible refine Kd.C_alloc ?_ _) | (with_reducible refine Kd.C_drewN ?_ _) | (with_reducible refine Kd.C_drew ?_))); (case side2 => rw [show t304.length = t288.length from (Kd.R_reads' HO_293002.out).1.symm]; exact (Kd.R_reads' HO_293002.out).2.1); rintro e w136 ⟨rfl, hb⟩; refine ⟨_, rfl, ?_⟩; have n0_ := rb HO_277002 hb; have n1_ := rb HO_283002 hb; have n2_ := rb HO_293002 hb; have n3_ := bb BK258 hb; have n4_ := bb BK259 hb; have n5_ := bb BK276 hb; have n6_ := bb BK282 hb; have n7_ := bb BK292 hb; have n8_ := Aside0.mk (below_step (bt HB) hb); clear HO_277002 HO_283002 HO_293002 BK258 BK259 BK276 BK282 BK292 HB; revert n0_ n1_ n2_ n3_ n4_ n5_ n6_ n7_ n8_; intro HO_277002 HO_283002 HO_293002 BK258 BK259 BK276 BK282 BK292 HB; (try clear hb); (try clear hb2); (try clear hk); (try clear hi)))
           go_ret
           exact ⟨by first | rfl | (simp [errW_none, errW_some] <;> rfl) | (simp [*, errW_none, errW_some] <;> rfl), bt HB⟩
          ·rw [if_neg c128] at H
           have c128b0 : decide (t305 < 0) = false := decide_eq_false c128
           clear c128
           by_cases c137 : t305 = t303
           ·rw [if_pos c137] at H
            have c137b0 : (t305 == t303) = true := beq_iff_eq.mpr c137
            have c137b1 : (t305 != t303) = false := bne_eq_false_iff_eq.mpr c137
            clear c137
            replace H := Option.bind_eq_some_iff.mp H
            obtain ⟨⟨t306, t307, t308⟩, A1380, H⟩ := H
            replace H : ((laws_toEntry.f a2_0 a2_1 a2_2).bind fun bt311 => ((impl_LogPut.f kj90 t306 t307 t308 a1 bt311.1 bt311.2.1 bt311.2.2).bind fun bt314 => ((laws_eqLog.f kj90 bt314.1 bt314.2.1 bt314.2.2.1 t270 t271 t272).bind fun t321 => (if t321 = true then (laws_FnExactLogPut.j2 kj90 t303 (bt314.2.2.2 != t275) t286 t287 t304) else (laws_FnExactLogPut.j2 kj90 t303 true t286 t287 t304))))) = some r := H
            have A138 := Aside0.mk A1380
            clear A1380
            replace H := Option.bind_eq_some_iff.mp H
            obtain ⟨⟨t311, t312, t313⟩, A1390, H⟩ := H
            replace H : ((impl_LogPut.f kj90 t306 t307 t308 a1 t311 t312 t313).bind fun bt314 => ((laws_eqLog.f kj90 bt314.1 bt314.2.1 bt314.2.2.1 t270 t271 t272).bind fun t321 => (if t321 = true then (laws_FnExactLogPut.j2 kj90 t303 (bt314.2.2.2 != t275) t286 t287 t304) else (laws_FnExactLogPut.j2 kj90 t303 true t286 t287 t304)))) = some r := H
            have A139 := Aside0.mk A1390
            clear A1390
            replace H := Option.bind_eq_some_iff.mp H
            obtain ⟨⟨t314, t315, t316, t319⟩, A1400, H⟩ := H
            replace H : ((laws_eqLog.f kj90 t314 t315 t316 t270 t271 t272).bind fun t321 => (if t321 = true then (laws_FnExactLogPut.j2 kj90 t303 (t319 != t275) t286 t287 t304) else (laws_FnExactLogPut.j2 kj90 t303 true t286 t287 t304))) = some r := H
            have A140 := Aside0.mk A1400
            clear A1400
            have HC141 := Aside0.mk H
            clear H
            have hnb142 := NB292_258.out
            have hnc142 := NB258_292.out
            have hnb143 := NB292_259.out
            have hnc143 := NB259_292.out
            have hnb144 := NB292_276.out
            have hnc144 := NB276_292.out
            have hnb145 := NB292_282.out
            have hnc145 := NB282_292.out
            have hcz146_0 : wc.cell? ⟨gb292, 0, none⟩ = some (.int .i64 t286) := bc BK292 0
            have hcz146_1 : wc.cell? ⟨gb292, 1, none⟩ = some (.int .i64 t287) := bc BK292 1
            have hcz146_2 : wc.cell? ⟨gb292, 2, none⟩ = some (.slice Ao62 t288.length co62) := bc BK292 2
            have hfz146_0 := blk_frozen BK292.out 0
            have hfz146_1 := blk_frozen BK292.out 1
            have hfz146_2 := blk_frozen BK292.out 2
            try go_wp2_with (first | ((with_reducible refine gate_callee (f := 49) rfl ?_); refine goesL_ (some 79) rfl rfl Try.func49 (by kernel_rfl) rfl #[.agg #[.int .i64 t286, .int .i64 t287, .slice Ao62 t288.length co62], .int .i64 1] rfl (by (try simp only [List.map_toArray, List.map_cons, List.map_nil]); first | done | rfl | (simp only [List.length_drop, List.length_take]; rfl)) ?_; (with_reducible refine (laws_markLog.calls kj90 t286 t287 (fun k_ => some k_ = (.slice Ao62 t288.length co62 : Value).ownBlock) (.slice Ao62 t288.length co62) t288 1 t303 t304 w _ ?side1 ?side2 A126.out).mono ?_); (case side1 => repeat (first | (with_reducible first | exact HB.out | apply below_alloc | apply pw_below_drewN | apply below_drew1 | refine below_set ?_ GE258.out | refine below_set ?_ GE259.out | refine below_set ?_ GE276.out | refine below_set ?_ GE282.out | refine below_set ?_ GE292.out) | exact HB.out)); (case side2 => exact Kd.R_tight rfl HO_293002.out); rintro e w147 ⟨rfl, hy0, hb, hkp⟩; refine ⟨_, rfl, ?_⟩; have n0_ := Aside0.mk (Kd.R_mono (ok' := fun k_ => some k_ ≠ (.slice Ao53 t301.length co53 : Value).ownBlock ∧ some k_ ≠ (.slice Ao62 t288.length co62 : Value).ownBlock) (Kd.R_keptB (HO_277002.out) hkp (fun k_ hk_ hs_ => (hk_.2) hs_)) (fun k_ hk_ => ⟨hk_.1.1, hk_.1.2⟩)); have n1_ := Aside0.mk (Kd.R_mono (ok' := fun k_ => some k_ ≠ (.slice Ao43 t272.length co43 : Value).ownBlock ∧ some k_ ≠ (.slice Ao62 t288.length co62 : Value).ownBlock) (Kd.R_keptB (HO_283002.out) hkp (fun k_ hk_ hs_ => (hk_.2) hs_)) (fun k_ hk_ => ⟨hk_.1.1, hk_.1.2⟩)); have n2_ := Aside0.mk (Kd.R_reok rfl hy0 (fun k_ e_ => HO_293002.out.1 k_ e_)); have n3_ := Aside0.mk (blk_kept (bk BK258) hkp (fun hs_ => (fun e_ => (Kd.R_ne HO_293002.out BK258.out (by decide)) e_) hs_)); have n4_ := Aside0.mk (blk_kept (bk BK259) hkp (fun hs_ => (fun e_ => (Kd.R_ne HO_293002.out BK259.out (by decide)) e_) hs_)); have n5_ := Aside0.mk (blk_kept (bk BK276) hkp (fun hs_ => (fun e_ => (Kd.R_ne HO_293002.out BK276.out (by decide)) e_) hs_)); have n6_ := Aside0.mk (blk_kept (bk BK282) hkp (fun hs_ => (fun e_ => (Kd.R_ne HO_293002.out BK282.out (by decide)) e_) hs_)); have n7_ := Aside0.mk (blk_kept (bk BK292) hkp (fun hs_ => (fun e_ => (Kd.R_ne HO_293002.out BK292.out (by decide)) e_) hs_)); have n8_ := Aside0.mk (hb); clear HO_277002 HO_283002 HO_293002 BK258 BK259 BK276 BK282 BK292 HB; revert n0_ n1_ n2_ n3_ n4_ n5_ n6_ n7_ n8_; intro HO_277002 HO_283002 HO_293002 BK258 BK259 BK276 BK282 BK292 HB; (try clear hb); (try clear hkp); (try clear hy0); have hcz148_0 : w147.cell? ⟨gb292, 0, none⟩ = some (.int .i64 t286) := bc BK292 0; have hcz148_1 : w147.cell? ⟨gb292, 1, none⟩ = some (.int .i64 t287) := bc BK292 1; have hcz148_2 : w147.cell? ⟨gb292, 2, none⟩ = some (.slice Ao62 t288.length co62) := bc BK292 2; have hfz148_0 := blk_frozen BK292.out 0; have hfz148_1 := blk_frozen BK292.out 1; have hfz148_2 := blk_frozen BK292.out 2) | ((with_reducible refine gate_callee (f := 50) rfl ?_); refine goesL_ (some 82) rfl rfl Try.func50 (by kernel_rfl) rfl #[.agg #[.int .i64 t286, .int .i64 t287, .slice Ao62 t304.length co62], .int .i64 1] rfl (by (try simp only [List.map_toArray, List.map_cons, List.map_nil]); first | done | (rw [show t304.length = t288.length from (Kd.R_reads' HO_293002.out).1.symm] <;> rfl) | rfl | (simp only [List.length_drop, List.length_take]; rfl)) ?_; (with_reducible refine (laws_heldLog.calls kj90 t286 t287 _ _ t304 1 t305 _ ?side1 ?side2 A127.out).mono ?_); (case side1 => repeat (first | exact (Kd.R_reads' HO_293002.out).2.2 | (with_reducible refine Kd.C_alloc ?_ _) | (with_reducible refine Kd.C_drewN ?_ _) | (with_reducible refine Kd.C_drew ?_))); (case side2 => rw [show t304.length = t288.length from (Kd.R_reads' HO_293002.out).1.symm]; exact (Kd.R_reads' HO_293002.out).2.1); rintro e w149 ⟨rfl, hb⟩; refine ⟨_, rfl, ?_⟩; have n0_ := rb HO_277002 hb; have n1_ := rb HO_283002 hb; have n2_ := rb HO_293002 hb; have n3_ := bb BK258 hb; have n4_ := bb BK259 hb; have n5_ := bb BK276 hb; have n6_ := bb BK282 hb; have n7_ := bb BK292 hb; have n8_ := Aside0.mk (below_step (bt HB) hb); clear HO_277002 HO_283002 HO_293002 BK258 BK259 BK276 BK282 BK292 HB; revert n0_ n1_ n2_ n3_ n4_ n5_ n6_ n7_ n8_; intro HO_277002 HO_283002 HO_293002 BK258 BK259 BK276 BK282 BK292 HB; (try clear hb); (try clear hb2); (try clear hk); (try clear hi)))
            have n0_ := Aside0.mk (Kd.R_drew HO_277002.out)
            have n1_ := Aside0.mk (Kd.R_drew HO_283002.out)
            have n2_ := Aside0.mk (Kd.R_drew HO_293002.out)
            have n3_ := Aside0.mk (blk_drew BK258.out)
            have n4_ := Aside0.mk (blk_drew BK259.out)
            have n5_ := Aside0.mk (blk_drew BK276.out)
            have n6_ := Aside0.mk (blk_drew BK282.out)
            have n7_ := Aside0.mk (blk_drew BK292.out)
            have n8_ := Aside0.mk (below_drew1 HB.out)
            clear HO_277002 HO_283002 HO_293002 BK258 BK259 BK276 BK282 BK292 HB
            revert n0_ n1_ n2_ n3_ n4_ n5_ n6_ n7_ n8_
            intro HO_277002 HO_283002 HO_293002 BK258 BK259 BK276 BK282 BK292 HB
            refine start_ (n := 12) (S := fun w' => w'.cell? ⟨gb258, 0, none⟩ = some (.int .i64 a0_0) ∧ w'.cell? ⟨gb258, 1, none⟩ = some (.int .i64 a0_1) ∧ w'.cell? ⟨gb258, 2, none⟩ = some (.slice A0_2 l0_2.length c0_2) ∧ w'.cell? ⟨gb259, 0, none⟩ = some (.int .i64 a2_0) ∧ w'.cell? ⟨gb259, 1, none⟩ = some (.int .i64 a2_1) ∧ w'.cell? ⟨gb259, 2, none⟩ = some (.string a2_2)) (ds := []) #[false, false, false, false, false, false, false, false, false, false, false, false] (by kernel_rfl) rfl rfl ⟨bc BK258 0, bc BK258 1, bc BK258 2, bc BK259 0, bc BK259 1, bc BK259 2⟩ (fun hHeld => ?_); refine with_tabW laws_FnExactLogPut.tab27 laws_FnExactLogPut.bits27 (fun HT_ HW_ => ?_)
            generalize w149.drew = w150 at HO_277002 HO_283002 HO_293002 BK258 BK259 BK276 BK282 BK292 HB hHeld ⊢
            refine pure_ (i := 2) (N := some 91) (v := ?_) (a' := ?_) #[false, false, true, false, false, false, false, false, false, false, false, false] rfl rfl (any_of HT_.out (by kernel_rfl)) (fun _ _ _ h => h) (Or.inl ⟨by rfl, ?_⟩) ?_ ?_
            rotate_left
            ·intro w'
             go_simp
             with_reducible rfl
            rotate_left
            ·simp only [Act.put, zA, zB, zC, i64_w, i32_w]
             rfl
            refine take_ (i := 0) (N := some 89) (v := ?_) (a' := ?_) #[true, false, true, false, false, false, false, false, false, false, false, false] rfl rfl (take_ofW HT_.out HW_.out (by kernel_rfl)) (fun _ _ _ h => h) (Or.inl ⟨by rfl, ?_⟩) hHeld ?_ ?_
            rotate_left
            ·rintro w' ⟨s0, s1, s2, s3, s4, s5⟩
             go_simp
             with_reducible rfl
            rotate_left
            ·simp only [Act.put, zA, zB, zC, i64_w, i32_w]
             rfl
            refine take_ (i := 3) (N := some 92) (v := ?_) (a' := ?_) #[true, false, true, true, false, false, false, false, false, false, false, false] rfl rfl (take_ofW HT_.out HW_.out (by kernel_rfl)) (fun _ _ _ h => h) (Or.inl ⟨by rfl, ?_⟩) hHeld ?_ ?_
            rotate_left
            ·rintro w' ⟨s0, s1, s2, s3, s4, s5⟩
             go_simp
             with_reducible rfl
            rotate_left
            ·simp only [Act.put, zA, zB, zC, i64_w, i32_w]
             rfl
            refine join_ (σ := Value × Value × Nat) 2 #[true, true, true, true, true, true, true, true, true, true, false, false] (fun s_ => [(90, .agg #[.int .i64 t306, .int .i64 t307, s_.1]), (93, .agg #[.int .i64 t311, .int .i64 t312, .string t313]), (94, .tuple #[.agg #[.int .i64 t314, .int .i64 t315, s_.2.1], .bool t319]), (16, .pointer (some ⟨s_.2.2, 0, none⟩)), (88, .tuple #[.agg #[.int .i64 t314, .int .i64 t315, s_.2.1], .bool t319]), (95, .agg #[.int .i64 t314, .int .i64 t315, s_.2.1]), (96, .bool t319)]) (fun s_ w' => (w'.cell? ⟨gb258, 0, none⟩ = some (.int .i64 a0_0) ∧ w'.cell? ⟨gb258, 1, none⟩ = some (.int .i64 a0_1) ∧ w'.cell? ⟨gb258, 2, none⟩ = some (.slice A0_2 l0_2.length c0_2) ∧ w'.cell? ⟨gb259, 0, none⟩ = some (.int .i64 a2_0) ∧ w'.cell? ⟨gb259, 1, none⟩ = some (.int .i64 a2_1) ∧ w'.cell? ⟨gb259, 2, none⟩ = some (.string a2_2)) ∧ (Kd.R k53 53 w' w.heap.size (fun k_ => some k_ ≠ (s_.2.1 : Value).ownBlock ∧ some k_ ≠ (.slice Ao43 t272.length co43 : Value).ownBlock ∧ some k_ ≠ (.slice Ao53 t301.length co53 : Value).ownBlock ∧ some k_ ≠ (.slice Ao62 t288.length co62 : Value).ownBlock) s_.1 t308) ∧ (Kd.R k53 53 w' w.heap.size (fun k_ => some k_ ≠ (s_.1 : Value).ownBlock ∧ some k_ ≠ (.slice Ao43 t272.length co43 : Value).ownBlock ∧ some k_ ≠ (.slice Ao53 t301.length co53 : Value).ownBlock ∧ some k_ ≠ (.slice Ao62 t288.length co62 : Value).ownBlock) s_.2.1 t316) ∧ (Kd.R k53 53 w' w.heap.size (fun k_ => some k_ ≠ (s_.1 : Value).ownBlock ∧ some k_ ≠ (s_.2.1 : Value).ownBlock ∧ some k_ ≠ (.slice Ao53 t301.length co53 : Value).ownBlock ∧ some k_ ≠ (.slice Ao62 t288.length co62 : Value).ownBlock) (.slice Ao43 t272.length co43) t272) ∧ (Kd.R k53 53 w' w.heap.size (fun k_ => some k_ ≠ (s_.1 : Value).ownBlock ∧ some k_ ≠ (s_.2.1 : Value).ownBlock ∧ some k_ ≠ (.slice Ao43 t272.length co43 : Value).ownBlock ∧ some k_ ≠ (.slice Ao62 t288.length co62 : Value).ownBlock) (.slice Ao53 t301.length co53) t301) ∧ (Kd.R k53 53 w' w.heap.size (fun k_ => some k_ ≠ (s_.1 : Value).ownBlock ∧ some k_ ≠ (s_.2.1 : Value).ownBlock ∧ some k_ ≠ (.slice Ao43 t272.length co43 : Value).ownBlock ∧ some k_ ≠ (.slice Ao53 t301.length co53 : Value).ownBlock) (.slice Ao62 t288.length co62) t304) ∧ (w'.heap[gb258]? = some (.cells #[.int .i64 a0_0, .int .i64 a0_1, .slice A0_2 l0_2.length c0_2] 35 (0, 0))) ∧ (w'.heap[gb259]? = some (.cells #[.int .i64 a2_0, .int .i64 a2_1, .string a2_2] 83 (0, 0))) ∧ (w'.heap[gb276]? = some (.cells #[.int .i64 t270, .int .i64 t271, .slice Ao43 t272.length co43] 40 (0, 0))) ∧ (w'.heap[gb282]? = some (.cells #[.int .i64 t277, .int .i64 t278, .slice Ao53 t301.length co53] 40 (0, 0))) ∧ (w'.heap[gb292]? = some (.cells #[.int .i64 t286, .int .i64 t287, .slice Ao62 t288.length co62] 40 (0, 0))) ∧ (w'.heap[s_.2.2]? = some (.cells #[.int .i64 0, .int .i64 0, .slice none 0 0] 40 (0, 0))) ∧ (w.heap.size ≤ s_.2.2) ∧ (w.heap.size ≤ s_.2.2) ∧ (gb258 ≠ s_.2.2) ∧ (s_.2.2 ≠ gb258) ∧ (gb259 ≠ s_.2.2) ∧ (s_.2.2 ≠ gb259) ∧ (gb276 ≠ s_.2.2) ∧ (s_.2.2 ≠ gb276) ∧ (gb282 ≠ s_.2.2) ∧ (s_.2.2 ≠ gb282) ∧ (gb292 ≠ s_.2.2) ∧ (s_.2.2 ≠ gb292) ∧ (Below w.heap.size w w')) ?_ ?_
            rotate_left
            ·intro hCont
             refine two_ (i := 1) (j := 9) (Ni := some 90) (Nj := some 16) #[true, true, true, true, false, false, false, false, false, false, false, false] #[true, false, true, true, false, false, false, false, false, true, false, false] rfl rfl rfl rfl (two_of HT_.out (by kernel_rfl)) (by decide) (by decide) (fun K hK => ?_) (fun K hK => ?_)
             ·skip
              refine goes_ Try.func19 (by kernel_rfl) rfl #[.agg #[.int .i64 a0_0, .int .i64 a0_1, .slice A0_2 l0_2.length c0_2]] (by rfl) rfl rfl (by (try simp only [List.map_toArray, List.map_cons, List.map_nil]); first | done | rfl | (simp only [List.length_drop, List.length_take]; rfl)) ?_
              with_reducible refine (laws_toLog.calls kj90 a0_0 a0_1 _ _ l0_2 t306 t307 t308 _ ?side1 ?side2 A138.out).mono ?_
              (case side1 => repeat (first | exact (Kd.C_below HR0_2.out HB.out) | (with_reducible refine Kd.C_alloc ?_ _) | (with_reducible refine Kd.C_drewN ?_ _) | (with_reducible refine Kd.C_drew ?_)))
              (case side2 => exact HC0_2.out)
              rintro e w151 ⟨v309, rfl, ho0, hb⟩
              refine ⟨_, rfl, ?_⟩
              have n0_ := Aside0.mk (Kd.R_elder' (rk HO_277002) (Kd.R_base ho0) hb)
              have n1_ := Aside0.mk (Kd.R_elder' (rk HO_283002) (Kd.R_base ho0) hb)
              have n2_ := Aside0.mk (Kd.R_elder' (rk HO_293002) (Kd.R_base ho0) hb)
              have n3_ := Aside0.mk (Kd.R_lower (Kd.R_new' (Kd.R_new' (Kd.R_new' ho0 (Kd.R_lt (rk HO_277002))) (Kd.R_lt (rk HO_283002))) (Kd.R_lt (rk HO_293002))) (below_size (bt HB)))
              have n4_ := bb BK258 hb
              have n5_ := bb BK259 hb
              have n6_ := bb BK276 hb
              have n7_ := bb BK282 hb
              have n8_ := bb BK292 hb
              have n9_ := Aside0.mk (below_step (bt HB) hb)
              clear HO_277002 HO_283002 HO_293002 BK258 BK259 BK276 BK282 BK292 HB
              revert n0_ n1_ n2_ n3_ n4_ n5_ n6_ n7_ n8_ n9_
              intro HO_277002 HO_283002 HO_293002 HO310 BK258 BK259 BK276 BK282 BK292 HB
              (try clear hb)
              (try clear hb2)
              (try clear hk)
              (try clear hi)
              (try clear ho0)
              refine hK.out _ _ ⟨bc BK258 0, bc BK258 1, bc BK258 2, bc BK259 0, bc BK259 1, bc BK259 2⟩ (fun hHeld => ?_)
              clear hK K
              refine norm_ (a' := ?_) ?_ ?_
              rotate_left
              ·show Act.put _ (some 90) _ = _
               simp only [Act.put, zA, zB, zC, i64_w, i32_w]
               rfl
              refine two_ (i := 4) (j := 9) (Ni := some 93) (Nj := some 16) #[true, true, true, true, true, false, false, false, false, false, false, false] #[true, true, true, true, false, false, false, false, false, true, false, false] rfl rfl rfl rfl (two_of HT_.out (by kernel_rfl)) (by decide) (by decide) (fun K hK => ?_) (fun K hK => ?_)
              ·skip
               refine goes_ Try.func47 (by kernel_rfl) rfl #[.agg #[.int .i64 a2_0, .int .i64 a2_1, .string a2_2]] (by rfl) rfl rfl (by (try simp only [List.map_toArray, List.map_cons, List.map_nil]); first | done | rfl | (simp only [List.length_drop, List.length_take]; rfl)) ?_
               with_reducible refine (laws_toEntry.calls a2_0 a2_1 a2_2 t311 t312 t313 _ A139.out).mono ?_
               rintro e w152 ⟨rfl, hb⟩
               refine ⟨_, rfl, ?_⟩
               have n0_ := rb HO_277002 hb
               have n1_ := rb HO_283002 hb
               have n2_ := rb HO_293002 hb
               have n3_ := rb HO310 hb
               have n4_ := bb BK258 hb
               have n5_ := bb BK259 hb
               have n6_ := bb BK276 hb
               have n7_ := bb BK282 hb
               have n8_ := bb BK292 hb
               have n9_ := Aside0.mk (below_step (bt HB) hb)
               clear HO_277002 HO_283002 HO_293002 HO310 BK258 BK259 BK276 BK282 BK292 HB
               revert n0_ n1_ n2_ n3_ n4_ n5_ n6_ n7_ n8_ n9_
               intro HO_277002 HO_283002 HO_293002 HO310 BK258 BK259 BK276 BK282 BK292 HB
               (try clear hb)
               (try clear hb2)
               (try clear hk)
               (try clear hi)
               obtain ⟨Ao153, co153, eo153⟩ := Kd.R_slice HO310.out
               (first | subst eo153 | (injection eo153 with f1_ f2_ f3_; have f4_ := f1_.symm; have f5_ := f3_.symm; clear f1_ f2_ f3_; subst f4_; subst f5_))
               refine hK.out _ _ ⟨bc BK258 0, bc BK258 1, bc BK258 2, bc BK259 0, bc BK259 1, bc BK259 2⟩ (fun hHeld => ?_)
               clear hK K
               refine norm_ (a' := ?_) ?_ ?_
               rotate_left
               ·show Act.put _ (some 93) _ = _
                simp only [Act.put, zA, zB, zC, i64_w, i32_w]
                rfl
               refine two_ (i := 5) (j := 9) (Ni := some 94) (Nj := some 16) #[true, true, true, true, true, true, false, false, false, false, false, false] #[true, true, true, true, true, false, false, false, false, true, false, false] rfl rfl rfl rfl (two_of HT_.out (by kernel_rfl)) (by decide) (by decide) (fun K hK => ?_) (fun K hK => ?_)
               ·skip
                refine goes_ Try.func48 (by kernel_rfl) rfl #[.agg #[.int .i64 t306, .int .i64 t307, .slice Ao153 t308.length co153], .int .i64 a1, .agg #[.int .i64 t311, .int .i64 t312, .string t313]] (by rfl) rfl rfl (by (try simp only [List.map_toArray, List.map_cons, List.map_nil]); first | done | rfl | (simp only [List.length_drop, List.length_take]; rfl)) ?_
                with_reducible refine (impl_LogPut.calls kj90 t306 t307 _ _ t308 a1 t311 t312 t313 t314 t315 t316 t319 _ ?side1 ?side2 A140.out).mono ?_
                (case side1 => repeat (first | exact (Kd.R_reads' HO310.out).2.2 | (with_reducible refine Kd.C_alloc ?_ _) | (with_reducible refine Kd.C_drewN ?_ _) | (with_reducible refine Kd.C_drew ?_)))
                (case side2 => exact (Kd.R_reads' HO310.out).2.1)
                rintro e w154 ⟨v317, rfl, ho0, hb⟩
                refine ⟨_, rfl, ?_⟩
                have n0_ := Aside0.mk (Kd.R_elder' (rk HO_277002) (Kd.R_base ho0) hb)
                have n1_ := Aside0.mk (Kd.R_elder' (rk HO_283002) (Kd.R_base ho0) hb)
                have n2_ := Aside0.mk (Kd.R_elder' (rk HO_293002) (Kd.R_base ho0) hb)
                have n3_ := Aside0.mk (Kd.R_elder' (rk HO310) (Kd.R_base ho0) hb)
                have n4_ := Aside0.mk (Kd.R_lower (Kd.R_new' (Kd.R_new' (Kd.R_new' (Kd.R_new' ho0 (Kd.R_lt (rk HO_277002))) (Kd.R_lt (rk HO_283002))) (Kd.R_lt (rk HO_293002))) (Kd.R_lt (rk HO310))) (below_size (bt HB)))
                have n5_ := bb BK258 hb
                have n6_ := bb BK259 hb
                have n7_ := bb BK276 hb
                have n8_ := bb BK282 hb
                have n9_ := bb BK292 hb
                have n10_ := Aside0.mk (below_step (bt HB) hb)
                clear HO_277002 HO_283002 HO_293002 HO310 BK258 BK259 BK276 BK282 BK292 HB
                revert n0_ n1_ n2_ n3_ n4_ n5_ n6_ n7_ n8_ n9_ n10_
                intro HO_277002 HO_283002 HO_293002 HO310 HO318 BK258 BK259 BK276 BK282 BK292 HB
                (try clear hb)
                (try clear hb2)
                (try clear hk)
                (try clear hi)
                (try clear ho0)
                refine hK.out _ _ ⟨bc BK258 0, bc BK258 1, bc BK258 2, bc BK259 0, bc BK259 1, bc BK259 2⟩ (fun hHeld => ?_)
                clear hK K
                refine norm_ (a' := ?_) ?_ ?_
                rotate_left
                ·show Act.put _ (some 94) _ = _
                 simp only [Act.put, zA, zB, zC, i64_w, i32_w]
                 rfl
                refine pure_ (i := 6) (N := some 88) (v := ?_) (a' := ?_) #[true, true, true, true, true, true, true, false, false, false, false, false] rfl rfl (any_of HT_.out (by kernel_rfl)) (fun _ _ _ h => h) (Or.inl ⟨by rfl, ?_⟩) ?_ ?_
                rotate_left
                ·intro w'
                 go_simp
                 with_reducible rfl
                rotate_left
                ·simp only [Act.put, zA, zB, zC, i64_w, i32_w]
                 rfl
                refine pure_ (i := 7) (N := some 95) (v := ?_) (a' := ?_) #[true, true, true, true, true, true, true, true, false, false, false, false] rfl rfl (any_of HT_.out (by kernel_rfl)) (fun _ _ _ h => h) (Or.inl ⟨by rfl, ?_⟩) ?_ ?_
                rotate_left
                ·intro w'
                 go_simp
                 with_reducible rfl
                rotate_left
                ·simp only [Act.put, zA, zB, zC, i64_w, i32_w]
                 rfl
                refine pure_ (i := 8) (N := some 96) (v := ?_) (a' := ?_) #[true, true, true, true, true, true, true, true, true, false, false, false] rfl rfl (any_of HT_.out (by kernel_rfl)) (fun _ _ _ h => h) (Or.inl ⟨by rfl, ?_⟩) ?_ ?_
                rotate_left
                ·intro w'
                 go_simp
                 with_reducible rfl
                rotate_left
                ·simp only [Act.put, zA, zB, zC, i64_w, i32_w]
                 rfl
                refine one_ (i := 9) (N := some 16) #[true, true, true, true, true, true, true, true, true, true, false, false] rfl rfl (one_of HT_.out (by kernel_rfl)) (by decide) (fun K hK => ?_)
                refine box_step ?hg (N := 16) ?hd (cs := #[.int .i64 0, .int .i64 0, .slice none 0 0]) (t := 40) ?hr ?_; (case hd => rfl); (case hg => rfl); (case hr => first | (go_simp; done) | (go_simp; rfl))
                intro gb320 hg w155 hbox hb
                have n0_ := rb HO_277002 hb
                have n1_ := rb HO_283002 hb
                have n2_ := rb HO_293002 hb
                have n3_ := rb HO310 hb
                have n4_ := rb HO318 hb
                have n5_ := bb BK258 hb
                have n6_ := bb BK259 hb
                have n7_ := bb BK276 hb
                have n8_ := bb BK282 hb
                have n9_ := bb BK292 hb
                have n10_ := Aside0.mk (below_step (bt HB) hb)
                have n11_ := Aside0.mk (hbox)
                have n12_ := Aside0.mk ((by rw [hg]; exact (below_size (bt HB)) : w.heap.size ≤ gb320))
                have n13_ := Aside0.mk ((by rw [hg]; exact (below_size (bt HB)) : w.heap.size ≤ gb320))
                have n14_ := Aside0.mk ((by rw [hg]; exact Nat.ne_of_lt (blk_lt (bk BK258)) : gb258 ≠ gb320))
                have n15_ := Aside0.mk ((by rw [hg]; exact Nat.ne_of_gt (blk_lt (bk BK258)) : gb320 ≠ gb258))
                have n16_ := Aside0.mk ((by rw [hg]; exact Nat.ne_of_lt (blk_lt (bk BK259)) : gb259 ≠ gb320))
                have n17_ := Aside0.mk ((by rw [hg]; exact Nat.ne_of_gt (blk_lt (bk BK259)) : gb320 ≠ gb259))
                have n18_ := Aside0.mk ((by rw [hg]; exact Nat.ne_of_lt (blk_lt (bk BK276)) : gb276 ≠ gb320))
                have n19_ := Aside0.mk ((by rw [hg]; exact Nat.ne_of_gt (blk_lt (bk BK276)) : gb320 ≠ gb276))
                have n20_ := Aside0.mk ((by rw [hg]; exact Nat.ne_of_lt (blk_lt (bk BK282)) : gb282 ≠ gb320))
                have n21_ := Aside0.mk ((by rw [hg]; exact Nat.ne_of_gt (blk_lt (bk BK282)) : gb320 ≠ gb282))
                have n22_ := Aside0.mk ((by rw [hg]; exact Nat.ne_of_lt (blk_lt (bk BK292)) : gb292 ≠ gb320))
                have n23_ := Aside0.mk ((by rw [hg]; exact Nat.ne_of_gt (blk_lt (bk BK292)) : gb320 ≠ gb292))
                clear HO_277002 HO_283002 HO_293002 HO310 HO318 BK258 BK259 BK276 BK282 BK292 HB
                revert n0_ n1_ n2_ n3_ n4_ n5_ n6_ n7_ n8_ n9_ n10_ n11_ n12_ n13_ n14_ n15_ n16_ n17_ n18_ n19_ n20_ n21_ n22_ n23_
                intro HO_277002 HO_283002 HO_293002 HO310 HO318 BK258 BK259 BK276 BK282 BK292 HB BK320 GW320 GE320 NB258_320 NB320_258 NB259_320 NB320_259 NB276_320 NB320_276 NB282_320 NB320_282 NB292_320 NB320_292
                clear hb hbox hg
                refine hK.out _ _ ⟨bc BK258 0, bc BK258 1, bc BK258 2, bc BK259 0, bc BK259 1, bc BK259 2⟩ (fun hHeld => ?_)
                clear hK K
                refine norm_ (a' := ?_) ?_ ?_
                rotate_left
                ·show Act.put _ (some 16) _ = _
                 simp only [Act.put, zA, zB, zC, i64_w, i32_w]
                 rfl
                exact norm_ (by simp only [putAll, Act.put, zA, zB, zC]) (hCont (.slice Ao153 t308.length co153, v317, gb320) _ ⟨hHeld, (by (with_reducible repeat (first | apply Kd.R_alloc | apply Kd.R_drewN | apply Kd.R_drew)); exact Kd.R_mono HO310.out (fun _ hk => ⟨hk.2, ⟨hk.1.1.1.2, ⟨hk.1.1.2, hk.1.2⟩⟩⟩)), (by (with_reducible repeat (first | apply Kd.R_alloc | apply Kd.R_drewN | apply Kd.R_drew)); exact Kd.R_mono HO318.out (fun _ hk => ⟨hk.2, ⟨hk.1.1.1.2, ⟨hk.1.1.2, hk.1.2⟩⟩⟩)), (by (with_reducible repeat (first | apply Kd.R_alloc | apply Kd.R_drewN | apply Kd.R_drew)); exact Kd.R_mono HO_277002.out (fun _ hk => ⟨hk.1.2, ⟨hk.2, ⟨hk.1.1.1, hk.1.1.2⟩⟩⟩)), (by (with_reducible repeat (first | apply Kd.R_alloc | apply Kd.R_drewN | apply Kd.R_drew)); exact Kd.R_mono HO_283002.out (fun _ hk => ⟨hk.1.2, ⟨hk.2, ⟨hk.1.1.1, hk.1.1.2⟩⟩⟩)), (by (with_reducible repeat (first | apply Kd.R_alloc | apply Kd.R_drewN | apply Kd.R_drew)); exact Kd.R_mono HO_293002.out (fun _ hk => ⟨hk.1.2, ⟨hk.2, ⟨hk.1.1.1, hk.1.1.2⟩⟩⟩)), (bk BK258), (bk BK259), (bk BK276), (bk BK282), (bk BK292), (bk BK320), GW320.out, GE320.out, NB258_320.out, NB320_258.out, NB259_320.out, NB320_259.out, NB276_320.out, NB320_276.out, NB282_320.out, NB320_282.out, NB292_320.out, NB320_292.out, (bt HB)⟩)
               ·skip
                refine box_step ?hg (N := 16) ?hd (cs := #[.int .i64 0, .int .i64 0, .slice none 0 0]) (t := 40) ?hr ?_; (case hd => rfl); (case hg => rfl); (case hr => first | (go_simp; done) | (go_simp; rfl))
                intro gb320 hg w153 hbox hb
                have n0_ := rb HO_277002 hb
                have n1_ := rb HO_283002 hb
                have n2_ := rb HO_293002 hb
                have n3_ := rb HO310 hb
                have n4_ := bb BK258 hb
                have n5_ := bb BK259 hb
                have n6_ := bb BK276 hb
                have n7_ := bb BK282 hb
                have n8_ := bb BK292 hb
                have n9_ := Aside0.mk (below_step (bt HB) hb)
                have n10_ := Aside0.mk (hbox)
                have n11_ := Aside0.mk ((by rw [hg]; exact (below_size (bt HB)) : w.heap.size ≤ gb320))
                have n12_ := Aside0.mk ((by rw [hg]; exact (below_size (bt HB)) : w.heap.size ≤ gb320))
                have n13_ := Aside0.mk ((by rw [hg]; exact Nat.ne_of_lt (blk_lt (bk BK258)) : gb258 ≠ gb320))
                have n14_ := Aside0.mk ((by rw [hg]; exact Nat.ne_of_gt (blk_lt (bk BK258)) : gb320 ≠ gb258))
                have n15_ := Aside0.mk ((by rw [hg]; exact Nat.ne_of_lt (blk_lt (bk BK259)) : gb259 ≠ gb320))
                have n16_ := Aside0.mk ((by rw [hg]; exact Nat.ne_of_gt (blk_lt (bk BK259)) : gb320 ≠ gb259))
                have n17_ := Aside0.mk ((by rw [hg]; exact Nat.ne_of_lt (blk_lt (bk BK276)) : gb276 ≠ gb320))
                have n18_ := Aside0.mk ((by rw [hg]; exact Nat.ne_of_gt (blk_lt (bk BK276)) : gb320 ≠ gb276))
                have n19_ := Aside0.mk ((by rw [hg]; exact Nat.ne_of_lt (blk_lt (bk BK282)) : gb282 ≠ gb320))
                have n20_ := Aside0.mk ((by rw [hg]; exact Nat.ne_of_gt (blk_lt (bk BK282)) : gb320 ≠ gb282))
                have n21_ := Aside0.mk ((by rw [hg]; exact Nat.ne_of_lt (blk_lt (bk BK292)) : gb292 ≠ gb320))
                have n22_ := Aside0.mk ((by rw [hg]; exact Nat.ne_of_gt (blk_lt (bk BK292)) : gb320 ≠ gb292))
                clear HO_277002 HO_283002 HO_293002 HO310 BK258 BK259 BK276 BK282 BK292 HB
                revert n0_ n1_ n2_ n3_ n4_ n5_ n6_ n7_ n8_ n9_ n10_ n11_ n12_ n13_ n14_ n15_ n16_ n17_ n18_ n19_ n20_ n21_ n22_
                intro HO_277002 HO_283002 HO_293002 HO310 BK258 BK259 BK276 BK282 BK292 HB BK320 GW320 GE320 NB258_320 NB320_258 NB259_320 NB320_259 NB276_320 NB320_276 NB282_320 NB320_282 NB292_320 NB320_292
                clear hb hbox hg
                obtain ⟨Ao154, co154, eo154⟩ := Kd.R_slice HO310.out
                (first | subst eo154 | (injection eo154 with f1_ f2_ f3_; have f4_ := f1_.symm; have f5_ := f3_.symm; clear f1_ f2_ f3_; subst f4_; subst f5_))
                refine hK.out _ _ ⟨bc BK258 0, bc BK258 1, bc BK258 2, bc BK259 0, bc BK259 1, bc BK259 2⟩ (fun hHeld => ?_)
                clear hK K
                refine norm_ (a' := ?_) ?_ ?_
                rotate_left
                ·show Act.put _ (some 16) _ = _
                 simp only [Act.put, zA, zB, zC, i64_w, i32_w]
                 rfl
                refine one_ (i := 5) (N := some 94) #[true, true, true, true, true, true, false, false, false, true, false, false] rfl rfl (one_of HT_.out (by kernel_rfl)) (by decide) (fun K hK => ?_)
                refine goes_ Try.func48 (by kernel_rfl) rfl #[.agg #[.int .i64 t306, .int .i64 t307, .slice Ao154 t308.length co154], .int .i64 a1, .agg #[.int .i64 t311, .int .i64 t312, .string t313]] (by rfl) rfl rfl (by (try simp only [List.map_toArray, List.map_cons, List.map_nil]); first | done | rfl | (simp only [List.length_drop, List.length_take]; rfl)) ?_
                with_reducible refine (impl_LogPut.calls kj90 t306 t307 _ _ t308 a1 t311 t312 t313 t314 t315 t316 t319 _ ?side1 ?side2 A140.out).mono ?_
                (case side1 => repeat (first | exact (Kd.R_reads' HO310.out).2.2 | (with_reducible refine Kd.C_alloc ?_ _) | (with_reducible refine Kd.C_drewN ?_ _) | (with_reducible refine Kd.C_drew ?_)))
                (case side2 => exact (Kd.R_reads' HO310.out).2.1)
                rintro e w155 ⟨v317, rfl, ho0, hb⟩
                refine ⟨_, rfl, ?_⟩
                have n0_ := Aside0.mk (Kd.R_elder' (rk HO_277002) (Kd.R_base ho0) hb)
                have n1_ := Aside0.mk (Kd.R_elder' (rk HO_283002) (Kd.R_base ho0) hb)
                have n2_ := Aside0.mk (Kd.R_elder' (rk HO_293002) (Kd.R_base ho0) hb)
                have n3_ := Aside0.mk (Kd.R_elder' (rk HO310) (Kd.R_base ho0) hb)
                have n4_ := Aside0.mk (Kd.R_lower (Kd.R_new' (Kd.R_new' (Kd.R_new' (Kd.R_new' ho0 (Kd.R_lt (rk HO_277002))) (Kd.R_lt (rk HO_283002))) (Kd.R_lt (rk HO_293002))) (Kd.R_lt (rk HO310))) (below_size (bt HB)))
                have n5_ := bb BK258 hb
                have n6_ := bb BK259 hb
                have n7_ := bb BK276 hb
                have n8_ := bb BK282 hb
                have n9_ := bb BK292 hb
                have n10_ := bb BK320 hb
                have n11_ := Aside0.mk (below_step (bt HB) hb)
                clear HO_277002 HO_283002 HO_293002 HO310 BK258 BK259 BK276 BK282 BK292 BK320 HB
                revert n0_ n1_ n2_ n3_ n4_ n5_ n6_ n7_ n8_ n9_ n10_ n11_
                intro HO_277002 HO_283002 HO_293002 HO310 HO318 BK258 BK259 BK276 BK282 BK292 BK320 HB
                (try clear hb)
                (try clear hb2)
                (try clear hk)
                (try clear hi)
                (try clear ho0)
                refine hK.out _ _ ⟨bc BK258 0, bc BK258 1, bc BK258 2, bc BK259 0, bc BK259 1, bc BK259 2⟩ (fun hHeld => ?_)
                clear hK K
                refine norm_ (a' := ?_) ?_ ?_
                rotate_left
                ·show Act.put _ (some 94) _ = _
                 simp only [Act.put, zA, zB, zC, i64_w, i32_w]
                 rfl
                refine pure_ (i := 6) (N := some 88) (v := ?_) (a' := ?_) #[true, true, true, true, true, true, true, false, false, true, false, false] rfl rfl (any_of HT_.out (by kernel_rfl)) (fun _ _ _ h => h) (Or.inl ⟨by rfl, ?_⟩) ?_ ?_
                rotate_left
                ·intro w'
                 go_simp
                 with_reducible rfl
                rotate_left
                ·simp only [Act.put, zA, zB, zC, i64_w, i32_w]
                 rfl
                refine pure_ (i := 7) (N := some 95) (v := ?_) (a' := ?_) #[true, true, true, true, true, true, true, true, false, true, false, false] rfl rfl (any_of HT_.out (by kernel_rfl)) (fun _ _ _ h => h) (Or.inl ⟨by rfl, ?_⟩) ?_ ?_
                rotate_left
                ·intro w'
                 go_simp
                 with_reducible rfl
                rotate_left
                ·simp only [Act.put, zA, zB, zC, i64_w, i32_w]
                 rfl
                refine pure_ (i := 8) (N := some 96) (v := ?_) (a' := ?_) #[true, true, true, true, true, true, true, true, true, true, false, false] rfl rfl (any_of HT_.out (by kernel_rfl)) (fun _ _ _ h => h) (Or.inl ⟨by rfl, ?_⟩) ?_ ?_
                rotate_left
                ·intro w'
                 go_simp
                 with_reducible rfl
                rotate_left
                ·simp only [Act.put, zA, zB, zC, i64_w, i32_w]
                 rfl
                exact norm_ (by simp only [putAll, Act.put, zA, zB, zC]) (hCont (.slice Ao154 t308.length co154, v317, gb320) _ ⟨hHeld, (by (with_reducible repeat (first | apply Kd.R_alloc | apply Kd.R_drewN | apply Kd.R_drew)); exact Kd.R_mono HO310.out (fun _ hk => ⟨hk.2, ⟨hk.1.1.1.2, ⟨hk.1.1.2, hk.1.2⟩⟩⟩)), (by (with_reducible repeat (first | apply Kd.R_alloc | apply Kd.R_drewN | apply Kd.R_drew)); exact Kd.R_mono HO318.out (fun _ hk => ⟨hk.2, ⟨hk.1.1.1.2, ⟨hk.1.1.2, hk.1.2⟩⟩⟩)), (by (with_reducible repeat (first | apply Kd.R_alloc | apply Kd.R_drewN | apply Kd.R_drew)); exact Kd.R_mono HO_277002.out (fun _ hk => ⟨hk.1.2, ⟨hk.2, ⟨hk.1.1.1, hk.1.1.2⟩⟩⟩)), (by (with_reducible repeat (first | apply Kd.R_alloc | apply Kd.R_drewN | apply Kd.R_drew)); exact Kd.R_mono HO_283002.out (fun _ hk => ⟨hk.1.2, ⟨hk.2, ⟨hk.1.1.1, hk.1.1.2⟩⟩⟩)), (by (with_reducible repeat (first | apply Kd.R_alloc | apply Kd.R_drewN | apply Kd.R_drew)); exact Kd.R_mono HO_293002.out (fun _ hk => ⟨hk.1.2, ⟨hk.2, ⟨hk.1.1.1, hk.1.1.2⟩⟩⟩)), (bk BK258), (bk BK259), (bk BK276), (bk BK282), (bk BK292), (bk BK320), GW320.out, GE320.out, NB258_320.out, NB320_258.out, NB259_320.out, NB320_259.out, NB276_320.out, NB320_276.out, NB282_320.out, NB320_282.out, NB292_320.out, NB320_292.out, (bt HB)⟩)
              ·skip
               refine box_step ?hg (N := 16) ?hd (cs := #[.int .i64 0, .int .i64 0, .slice none 0 0]) (t := 40) ?hr ?_; (case hd => rfl); (case hg => rfl); (case hr => first | (go_simp; done) | (go_simp; rfl))
               intro gb320 hg w152 hbox hb
               have n0_ := rb HO_277002 hb
               have n1_ := rb HO_283002 hb
               have n2_ := rb HO_293002 hb
               have n3_ := rb HO310 hb
               have n4_ := bb BK258 hb
               have n5_ := bb BK259 hb
               have n6_ := bb BK276 hb
               have n7_ := bb BK282 hb
               have n8_ := bb BK292 hb
               have n9_ := Aside0.mk (below_step (bt HB) hb)
               have n10_ := Aside0.mk (hbox)
               have n11_ := Aside0.mk ((by rw [hg]; exact (below_size (bt HB)) : w.heap.size ≤ gb320))
               have n12_ := Aside0.mk ((by rw [hg]; exact (below_size (bt HB)) : w.heap.size ≤ gb320))
               have n13_ := Aside0.mk ((by rw [hg]; exact Nat.ne_of_lt (blk_lt (bk BK258)) : gb258 ≠ gb320))
               have n14_ := Aside0.mk ((by rw [hg]; exact Nat.ne_of_gt (blk_lt (bk BK258)) : gb320 ≠ gb258))
               have n15_ := Aside0.mk ((by rw [hg]; exact Nat.ne_of_lt (blk_lt (bk BK259)) : gb259 ≠ gb320))
               have n16_ := Aside0.mk ((by rw [hg]; exact Nat.ne_of_gt (blk_lt (bk BK259)) : gb320 ≠ gb259))
               have n17_ := Aside0.mk ((by rw [hg]; exact Nat.ne_of_lt (blk_lt (bk BK276)) : gb276 ≠ gb320))
               have n18_ := Aside0.mk ((by rw [hg]; exact Nat.ne_of_gt (blk_lt (bk BK276)) : gb320 ≠ gb276))
               have n19_ := Aside0.mk ((by rw [hg]; exact Nat.ne_of_lt (blk_lt (bk BK282)) : gb282 ≠ gb320))
               have n20_ := Aside0.mk ((by rw [hg]; exact Nat.ne_of_gt (blk_lt (bk BK282)) : gb320 ≠ gb282))
               have n21_ := Aside0.mk ((by rw [hg]; exact Nat.ne_of_lt (blk_lt (bk BK292)) : gb292 ≠ gb320))
               have n22_ := Aside0.mk ((by rw [hg]; exact Nat.ne_of_gt (blk_lt (bk BK292)) : gb320 ≠ gb292))
               clear HO_277002 HO_283002 HO_293002 HO310 BK258 BK259 BK276 BK282 BK292 HB
               revert n0_ n1_ n2_ n3_ n4_ n5_ n6_ n7_ n8_ n9_ n10_ n11_ n12_ n13_ n14_ n15_ n16_ n17_ n18_ n19_ n20_ n21_ n22_
               intro HO_277002 HO_283002 HO_293002 HO310 BK258 BK259 BK276 BK282 BK292 HB BK320 GW320 GE320 NB258_320 NB320_258 NB259_320 NB320_259 NB276_320 NB320_276 NB282_320 NB320_282 NB292_320 NB320_292
               clear hb hbox hg
               refine hK.out _ _ ⟨bc BK258 0, bc BK258 1, bc BK258 2, bc BK259 0, bc BK259 1, bc BK259 2⟩ (fun hHeld => ?_)
               clear hK K
               refine norm_ (a' := ?_) ?_ ?_
               rotate_left
               ·show Act.put _ (some 16) _ = _
                simp only [Act.put, zA, zB, zC, i64_w, i32_w]
                rfl
               refine one_ (i := 4) (N := some 93) #[true, true, true, true, true, false, false, false, false, true, false, false] rfl rfl (one_of HT_.out (by kernel_rfl)) (by decide) (fun K hK => ?_)
               refine goes_ Try.func47 (by kernel_rfl) rfl #[.agg #[.int .i64 a2_0, .int .i64 a2_1, .string a2_2]] (by rfl) rfl rfl (by (try simp only [List.map_toArray, List.map_cons, List.map_nil]); first | done | rfl | (simp only [List.length_drop, List.length_take]; rfl)) ?_
               with_reducible refine (laws_toEntry.calls a2_0 a2_1 a2_2 t311 t312 t313 _ A139.out).mono ?_
               rintro e w153 ⟨rfl, hb⟩
               refine ⟨_, rfl, ?_⟩
               have n0_ := rb HO_277002 hb
               have n1_ := rb HO_283002 hb
               have n2_ := rb HO_293002 hb
               have n3_ := rb HO310 hb
               have n4_ := bb BK258 hb
               have n5_ := bb BK259 hb
               have n6_ := bb BK276 hb
               have n7_ := bb BK282 hb
               have n8_ := bb BK292 hb
               have n9_ := bb BK320 hb
               have n10_ := Aside0.mk (below_step (bt HB) hb)
               clear HO_277002 HO_283002 HO_293002 HO310 BK258 BK259 BK276 BK282 BK292 BK320 HB
               revert n0_ n1_ n2_ n3_ n4_ n5_ n6_ n7_ n8_ n9_ n10_
               intro HO_277002 HO_283002 HO_293002 HO310 BK258 BK259 BK276 BK282 BK292 BK320 HB
               (try clear hb)
               (try clear hb2)
               (try clear hk)
               (try clear hi)
               obtain ⟨Ao154, co154, eo154⟩ := Kd.R_slice HO310.out
               (first | subst eo154 | (injection eo154 with f1_ f2_ f3_; have f4_ := f1_.symm; have f5_ := f3_.symm; clear f1_ f2_ f3_; subst f4_; subst f5_))
               refine hK.out _ _ ⟨bc BK258 0, bc BK258 1, bc BK258 2, bc BK259 0, bc BK259 1, bc BK259 2⟩ (fun hHeld => ?_)
               clear hK K
               refine norm_ (a' := ?_) ?_ ?_
               rotate_left
               ·show Act.put _ (some 93) _ = _
                simp only [Act.put, zA, zB, zC, i64_w, i32_w]
                rfl
               refine one_ (i := 5) (N := some 94) #[true, true, true, true, true, true, false, false, false, true, false, false] rfl rfl (one_of HT_.out (by kernel_rfl)) (by decide) (fun K hK => ?_)
               refine goes_ Try.func48 (by kernel_rfl) rfl #[.agg #[.int .i64 t306, .int .i64 t307, .slice Ao154 t308.length co154], .int .i64 a1, .agg #[.int .i64 t311, .int .i64 t312, .string t313]] (by rfl) rfl rfl (by (try simp only [List.map_toArray, List.map_cons, List.map_nil]); first | done | rfl | (simp only [List.length_drop, List.length_take]; rfl)) ?_
               with_reducible refine (impl_LogPut.calls kj90 t306 t307 _ _ t308 a1 t311 t312 t313 t314 t315 t316 t319 _ ?side1 ?side2 A140.out).mono ?_
               (case side1 => repeat (first | exact (Kd.R_reads' HO310.out).2.2 | (with_reducible refine Kd.C_alloc ?_ _) | (with_reducible refine Kd.C_drewN ?_ _) | (with_reducible refine Kd.C_drew ?_)))
               (case side2 => exact (Kd.R_reads' HO310.out).2.1)
               rintro e w155 ⟨v317, rfl, ho0, hb⟩
               refine ⟨_, rfl, ?_⟩
               have n0_ := Aside0.mk (Kd.R_elder' (rk HO_277002) (Kd.R_base ho0) hb)
               have n1_ := Aside0.mk (Kd.R_elder' (rk HO_283002) (Kd.R_base ho0) hb)
               have n2_ := Aside0.mk (Kd.R_elder' (rk HO_293002) (Kd.R_base ho0) hb)
               have n3_ := Aside0.mk (Kd.R_elder' (rk HO310) (Kd.R_base ho0) hb)
               have n4_ := Aside0.mk (Kd.R_lower (Kd.R_new' (Kd.R_new' (Kd.R_new' (Kd.R_new' ho0 (Kd.R_lt (rk HO_277002))) (Kd.R_lt (rk HO_283002))) (Kd.R_lt (rk HO_293002))) (Kd.R_lt (rk HO310))) (below_size (bt HB)))
               have n5_ := bb BK258 hb
               have n6_ := bb BK259 hb
               have n7_ := bb BK276 hb
               have n8_ := bb BK282 hb
               have n9_ := bb BK292 hb
               have n10_ := bb BK320 hb
               have n11_ := Aside0.mk (below_step (bt HB) hb)
               clear HO_277002 HO_283002 HO_293002 HO310 BK258 BK259 BK276 BK282 BK292 BK320 HB
               revert n0_ n1_ n2_ n3_ n4_ n5_ n6_ n7_ n8_ n9_ n10_ n11_
               intro HO_277002 HO_283002 HO_293002 HO310 HO318 BK258 BK259 BK276 BK282 BK292 BK320 HB
               (try clear hb)
               (try clear hb2)
               (try clear hk)
               (try clear hi)
               (try clear ho0)
               refine hK.out _ _ ⟨bc BK258 0, bc BK258 1, bc BK258 2, bc BK259 0, bc BK259 1, bc BK259 2⟩ (fun hHeld => ?_)
               clear hK K
               refine norm_ (a' := ?_) ?_ ?_
               rotate_left
               ·show Act.put _ (some 94) _ = _
                simp only [Act.put, zA, zB, zC, i64_w, i32_w]
                rfl
               refine pure_ (i := 6) (N := some 88) (v := ?_) (a' := ?_) #[true, true, true, true, true, true, true, false, false, true, false, false] rfl rfl (any_of HT_.out (by kernel_rfl)) (fun _ _ _ h => h) (Or.inl ⟨by rfl, ?_⟩) ?_ ?_
               rotate_left
               ·intro w'
                go_simp
                with_reducible rfl
               rotate_left
               ·simp only [Act.put, zA, zB, zC, i64_w, i32_w]
                rfl
               refine pure_ (i := 7) (N := some 95) (v := ?_) (a' := ?_) #[true, true, true, true, true, true, true, true, false, true, false, false] rfl rfl (any_of HT_.out (by kernel_rfl)) (fun _ _ _ h => h) (Or.inl ⟨by rfl, ?_⟩) ?_ ?_
               rotate_left
               ·intro w'
                go_simp
                with_reducible rfl
               rotate_left
               ·simp only [Act.put, zA, zB, zC, i64_w, i32_w]
                rfl
               refine pure_ (i := 8) (N := some 96) (v := ?_) (a' := ?_) #[true, true, true, true, true, true, true, true, true, true, false, false] rfl rfl (any_of HT_.out (by kernel_rfl)) (fun _ _ _ h => h) (Or.inl ⟨by rfl, ?_⟩) ?_ ?_
               rotate_left
               ·intro w'
                go_simp
                with_reducible rfl
               rotate_left
               ·simp only [Act.put, zA, zB, zC, i64_w, i32_w]
                rfl
               exact norm_ (by simp only [putAll, Act.put, zA, zB, zC]) (hCont (.slice Ao154 t308.length co154, v317, gb320) _ ⟨hHeld, (by (with_reducible repeat (first | apply Kd.R_alloc | apply Kd.R_drewN | apply Kd.R_drew)); exact Kd.R_mono HO310.out (fun _ hk => ⟨hk.2, ⟨hk.1.1.1.2, ⟨hk.1.1.2, hk.1.2⟩⟩⟩)), (by (with_reducible repeat (first | apply Kd.R_alloc | apply Kd.R_drewN | apply Kd.R_drew)); exact Kd.R_mono HO318.out (fun _ hk => ⟨hk.2, ⟨hk.1.1.1.2, ⟨hk.1.1.2, hk.1.2⟩⟩⟩)), (by (with_reducible repeat (first | apply Kd.R_alloc | apply Kd.R_drewN | apply Kd.R_drew)); exact Kd.R_mono HO_277002.out (fun _ hk => ⟨hk.1.2, ⟨hk.2, ⟨hk.1.1.1, hk.1.1.2⟩⟩⟩)), (by (with_reducible repeat (first | apply Kd.R_alloc | apply Kd.R_drewN | apply Kd.R_drew)); exact Kd.R_mono HO_283002.out (fun _ hk => ⟨hk.1.2, ⟨hk.2, ⟨hk.1.1.1, hk.1.1.2⟩⟩⟩)), (by (with_reducible repeat (first | apply Kd.R_alloc | apply Kd.R_drewN | apply Kd.R_drew)); exact Kd.R_mono HO_293002.out (fun _ hk => ⟨hk.1.2, ⟨hk.2, ⟨hk.1.1.1, hk.1.1.2⟩⟩⟩)), (bk BK258), (bk BK259), (bk BK276), (bk BK282), (bk BK292), (bk BK320), GW320.out, GE320.out, NB258_320.out, NB320_258.out, NB259_320.out, NB320_259.out, NB276_320.out, NB320_276.out, NB282_320.out, NB320_282.out, NB292_320.out, NB320_292.out, (bt HB)⟩)
             ·skip
              refine box_step ?hg (N := 16) ?hd (cs := #[.int .i64 0, .int .i64 0, .slice none 0 0]) (t := 40) ?hr ?_; (case hd => rfl); (case hg => rfl); (case hr => first | (go_simp; done) | (go_simp; rfl))
              intro gb320 hg w151 hbox hb
              have n0_ := rb HO_277002 hb
              have n1_ := rb HO_283002 hb
              have n2_ := rb HO_293002 hb
              have n3_ := bb BK258 hb
              have n4_ := bb BK259 hb
              have n5_ := bb BK276 hb
              have n6_ := bb BK282 hb
              have n7_ := bb BK292 hb
              have n8_ := Aside0.mk (below_step (bt HB) hb)
              have n9_ := Aside0.mk (hbox)
              have n10_ := Aside0.mk ((by rw [hg]; exact (below_size (bt HB)) : w.heap.size ≤ gb320))
              have n11_ := Aside0.mk ((by rw [hg]; exact (below_size (bt HB)) : w.heap.size ≤ gb320))
              have n12_ := Aside0.mk ((by rw [hg]; exact Nat.ne_of_lt (blk_lt (bk BK258)) : gb258 ≠ gb320))
              have n13_ := Aside0.mk ((by rw [hg]; exact Nat.ne_of_gt (blk_lt (bk BK258)) : gb320 ≠ gb258))
              have n14_ := Aside0.mk ((by rw [hg]; exact Nat.ne_of_lt (blk_lt (bk BK259)) : gb259 ≠ gb320))
              have n15_ := Aside0.mk ((by rw [hg]; exact Nat.ne_of_gt (blk_lt (bk BK259)) : gb320 ≠ gb259))
              have n16_ := Aside0.mk ((by rw [hg]; exact Nat.ne_of_lt (blk_lt (bk BK276)) : gb276 ≠ gb320))
              have n17_ := Aside0.mk ((by rw [hg]; exact Nat.ne_of_gt (blk_lt (bk BK276)) : gb320 ≠ gb276))
              have n18_ := Aside0.mk ((by rw [hg]; exact Nat.ne_of_lt (blk_lt (bk BK282)) : gb282 ≠ gb320))
              have n19_ := Aside0.mk ((by rw [hg]; exact Nat.ne_of_gt (blk_lt (bk BK282)) : gb320 ≠ gb282))
              have n20_ := Aside0.mk ((by rw [hg]; exact Nat.ne_of_lt (blk_lt (bk BK292)) : gb292 ≠ gb320))
              have n21_ := Aside0.mk ((by rw [hg]; exact Nat.ne_of_gt (blk_lt (bk BK292)) : gb320 ≠ gb292))
              clear HO_277002 HO_283002 HO_293002 BK258 BK259 BK276 BK282 BK292 HB
              revert n0_ n1_ n2_ n3_ n4_ n5_ n6_ n7_ n8_ n9_ n10_ n11_ n12_ n13_ n14_ n15_ n16_ n17_ n18_ n19_ n20_ n21_
              intro HO_277002 HO_283002 HO_293002 BK258 BK259 BK276 BK282 BK292 HB BK320 GW320 GE320 NB258_320 NB320_258 NB259_320 NB320_259 NB276_320 NB320_276 NB282_320 NB320_282 NB292_320 NB320_292
              clear hb hbox hg
              refine hK.out _ _ ⟨bc BK258 0, bc BK258 1, bc BK258 2, bc BK259 0, bc BK259 1, bc BK259 2⟩ (fun hHeld => ?_)
              clear hK K
              refine norm_ (a' := ?_) ?_ ?_
              rotate_left
              ·show Act.put _ (some 16) _ = _
               simp only [Act.put, zA, zB, zC, i64_w, i32_w]
               rfl
              refine one_ (i := 1) (N := some 90) #[true, true, true, true, false, false, false, false, false, true, false, false] rfl rfl (one_of HT_.out (by kernel_rfl)) (by decide) (fun K hK => ?_)
              refine goes_ Try.func19 (by kernel_rfl) rfl #[.agg #[.int .i64 a0_0, .int .i64 a0_1, .slice A0_2 l0_2.length c0_2]] (by rfl) rfl rfl (by (try simp only [List.map_toArray, List.map_cons, List.map_nil]); first | done | rfl | (simp only [List.length_drop, List.length_take]; rfl)) ?_
              with_reducible refine (laws_toLog.calls kj90 a0_0 a0_1 _ _ l0_2 t306 t307 t308 _ ?side1 ?side2 A138.out).mono ?_
              (case side1 => repeat (first | exact (Kd.C_below HR0_2.out HB.out) | (with_reducible refine Kd.C_alloc ?_ _) | (with_reducible refine Kd.C_drewN ?_ _) | (with_reducible refine Kd.C_drew ?_)))
              (case side2 => exact HC0_2.out)
              rintro e w152 ⟨v309, rfl, ho0, hb⟩
              refine ⟨_, rfl, ?_⟩
              have n0_ := Aside0.mk (Kd.R_elder' (rk HO_277002) (Kd.R_base ho0) hb)
              have n1_ := Aside0.mk (Kd.R_elder' (rk HO_283002) (Kd.R_base ho0) hb)
              have n2_ := Aside0.mk (Kd.R_elder' (rk HO_293002) (Kd.R_base ho0) hb)
              have n3_ := Aside0.mk (Kd.R_lower (Kd.R_new' (Kd.R_new' (Kd.R_new' ho0 (Kd.R_lt (rk HO_277002))) (Kd.R_lt (rk HO_283002))) (Kd.R_lt (rk HO_293002))) (below_size (bt HB)))
              have n4_ := bb BK258 hb
              have n5_ := bb BK259 hb
              have n6_ := bb BK276 hb
              have n7_ := bb BK282 hb
              have n8_ := bb BK292 hb
              have n9_ := bb BK320 hb
              have n10_ := Aside0.mk (below_step (bt HB) hb)
              clear HO_277002 HO_283002 HO_293002 BK258 BK259 BK276 BK282 BK292 BK320 HB
              revert n0_ n1_ n2_ n3_ n4_ n5_ n6_ n7_ n8_ n9_ n10_
              intro HO_277002 HO_283002 HO_293002 HO310 BK258 BK259 BK276 BK282 BK292 BK320 HB
              (try clear hb)
              (try clear hb2)
              (try clear hk)
              (try clear hi)
              (try clear ho0)
              refine hK.out _ _ ⟨bc BK258 0, bc BK258 1, bc BK258 2, bc BK259 0, bc BK259 1, bc BK259 2⟩ (fun hHeld => ?_)
              clear hK K
              refine norm_ (a' := ?_) ?_ ?_
              rotate_left
              ·show Act.put _ (some 90) _ = _
               simp only [Act.put, zA, zB, zC, i64_w, i32_w]
               rfl
              refine one_ (i := 4) (N := some 93) #[true, true, true, true, true, false, false, false, false, true, false, false] rfl rfl (one_of HT_.out (by kernel_rfl)) (by decide) (fun K hK => ?_)
              refine goes_ Try.func47 (by kernel_rfl) rfl #[.agg #[.int .i64 a2_0, .int .i64 a2_1, .string a2_2]] (by rfl) rfl rfl (by (try simp only [List.map_toArray, List.map_cons, List.map_nil]); first | done | rfl | (simp only [List.length_drop, List.length_take]; rfl)) ?_
              with_reducible refine (laws_toEntry.calls a2_0 a2_1 a2_2 t311 t312 t313 _ A139.out).mono ?_
              rintro e w153 ⟨rfl, hb⟩
              refine ⟨_, rfl, ?_⟩
              have n0_ := rb HO_277002 hb
              have n1_ := rb HO_283002 hb
              have n2_ := rb HO_293002 hb
              have n3_ := rb HO310 hb
              have n4_ := bb BK258 hb
              have n5_ := bb BK259 hb
              have n6_ := bb BK276 hb
              have n7_ := bb BK282 hb
              have n8_ := bb BK292 hb
              have n9_ := bb BK320 hb
              have n10_ := Aside0.mk (below_step (bt HB) hb)
              clear HO_277002 HO_283002 HO_293002 HO310 BK258 BK259 BK276 BK282 BK292 BK320 HB
              revert n0_ n1_ n2_ n3_ n4_ n5_ n6_ n7_ n8_ n9_ n10_
              intro HO_277002 HO_283002 HO_293002 HO310 BK258 BK259 BK276 BK282 BK292 BK320 HB
              (try clear hb)
              (try clear hb2)
              (try clear hk)
              (try clear hi)
              obtain ⟨Ao154, co154, eo154⟩ := Kd.R_slice HO310.out
              (first | subst eo154 | (injection eo154 with f1_ f2_ f3_; have f4_ := f1_.symm; have f5_ := f3_.symm; clear f1_ f2_ f3_; subst f4_; subst f5_))
              refine hK.out _ _ ⟨bc BK258 0, bc BK258 1, bc BK258 2, bc BK259 0, bc BK259 1, bc BK259 2⟩ (fun hHeld => ?_)
              clear hK K
              refine norm_ (a' := ?_) ?_ ?_
              rotate_left
              ·show Act.put _ (some 93) _ = _
               simp only [Act.put, zA, zB, zC, i64_w, i32_w]
               rfl
              refine one_ (i := 5) (N := some 94) #[true, true, true, true, true, true, false, false, false, true, false, false] rfl rfl (one_of HT_.out (by kernel_rfl)) (by decide) (fun K hK => ?_)
              refine goes_ Try.func48 (by kernel_rfl) rfl #[.agg #[.int .i64 t306, .int .i64 t307, .slice Ao154 t308.length co154], .int .i64 a1, .agg #[.int .i64 t311, .int .i64 t312, .string t313]] (by rfl) rfl rfl (by (try simp only [List.map_toArray, List.map_cons, List.map_nil]); first | done | rfl | (simp only [List.length_drop, List.length_take]; rfl)) ?_
              with_reducible refine (impl_LogPut.calls kj90 t306 t307 _ _ t308 a1 t311 t312 t313 t314 t315 t316 t319 _ ?side1 ?side2 A140.out).mono ?_
              (case side1 => repeat (first | exact (Kd.R_reads' HO310.out).2.2 | (with_reducible refine Kd.C_alloc ?_ _) | (with_reducible refine Kd.C_drewN ?_ _) | (with_reducible refine Kd.C_drew ?_)))
              (case side2 => exact (Kd.R_reads' HO310.out).2.1)
              rintro e w155 ⟨v317, rfl, ho0, hb⟩
              refine ⟨_, rfl, ?_⟩
              have n0_ := Aside0.mk (Kd.R_elder' (rk HO_277002) (Kd.R_base ho0) hb)
              have n1_ := Aside0.mk (Kd.R_elder' (rk HO_283002) (Kd.R_base ho0) hb)
              have n2_ := Aside0.mk (Kd.R_elder' (rk HO_293002) (Kd.R_base ho0) hb)
              have n3_ := Aside0.mk (Kd.R_elder' (rk HO310) (Kd.R_base ho0) hb)
              have n4_ := Aside0.mk (Kd.R_lower (Kd.R_new' (Kd.R_new' (Kd.R_new' (Kd.R_new' ho0 (Kd.R_lt (rk HO_277002))) (Kd.R_lt (rk HO_283002))) (Kd.R_lt (rk HO_293002))) (Kd.R_lt (rk HO310))) (below_size (bt HB)))
              have n5_ := bb BK258 hb
              have n6_ := bb BK259 hb
              have n7_ := bb BK276 hb
              have n8_ := bb BK282 hb
              have n9_ := bb BK292 hb
              have n10_ := bb BK320 hb
              have n11_ := Aside0.mk (below_step (bt HB) hb)
              clear HO_277002 HO_283002 HO_293002 HO310 BK258 BK259 BK276 BK282 BK292 BK320 HB
              revert n0_ n1_ n2_ n3_ n4_ n5_ n6_ n7_ n8_ n9_ n10_ n11_
              intro HO_277002 HO_283002 HO_293002 HO310 HO318 BK258 BK259 BK276 BK282 BK292 BK320 HB
              (try clear hb)
              (try clear hb2)
              (try clear hk)
              (try clear hi)
              (try clear ho0)
              refine hK.out _ _ ⟨bc BK258 0, bc BK258 1, bc BK258 2, bc BK259 0, bc BK259 1, bc BK259 2⟩ (fun hHeld => ?_)
              clear hK K
              refine norm_ (a' := ?_) ?_ ?_
              rotate_left
              ·show Act.put _ (some 94) _ = _
               simp only [Act.put, zA, zB, zC, i64_w, i32_w]
               rfl
              refine pure_ (i := 6) (N := some 88) (v := ?_) (a' := ?_) #[true, true, true, true, true, true, true, false, false, true, false, false] rfl rfl (any_of HT_.out (by kernel_rfl)) (fun _ _ _ h => h) (Or.inl ⟨by rfl, ?_⟩) ?_ ?_
              rotate_left
              ·intro w'
               go_simp
               with_reducible rfl
              rotate_left
              ·simp only [Act.put, zA, zB, zC, i64_w, i32_w]
               rfl
              refine pure_ (i := 7) (N := some 95) (v := ?_) (a' := ?_) #[true, true, true, true, true, true, true, true, false, true, false, false] rfl rfl (any_of HT_.out (by kernel_rfl)) (fun _ _ _ h => h) (Or.inl ⟨by rfl, ?_⟩) ?_ ?_
              rotate_left
              ·intro w'
               go_simp
               with_reducible rfl
              rotate_left
              ·simp only [Act.put, zA, zB, zC, i64_w, i32_w]
               rfl
              refine pure_ (i := 8) (N := some 96) (v := ?_) (a' := ?_) #[true, true, true, true, true, true, true, true, true, true, false, false] rfl rfl (any_of HT_.out (by kernel_rfl)) (fun _ _ _ h => h) (Or.inl ⟨by rfl, ?_⟩) ?_ ?_
              rotate_left
              ·intro w'
               go_simp
               with_reducible rfl
              rotate_left
              ·simp only [Act.put, zA, zB, zC, i64_w, i32_w]
               rfl
              exact norm_ (by simp only [putAll, Act.put, zA, zB, zC]) (hCont (.slice Ao154 t308.length co154, v317, gb320) _ ⟨hHeld, (by (with_reducible repeat (first | apply Kd.R_alloc | apply Kd.R_drewN | apply Kd.R_drew)); exact Kd.R_mono HO310.out (fun _ hk => ⟨hk.2, ⟨hk.1.1.1.2, ⟨hk.1.1.2, hk.1.2⟩⟩⟩)), (by (with_reducible repeat (first | apply Kd.R_alloc | apply Kd.R_drewN | apply Kd.R_drew)); exact Kd.R_mono HO318.out (fun _ hk => ⟨hk.2, ⟨hk.1.1.1.2, ⟨hk.1.1.2, hk.1.2⟩⟩⟩)), (by (with_reducible repeat (first | apply Kd.R_alloc | apply Kd.R_drewN | apply Kd.R_drew)); exact Kd.R_mono HO_277002.out (fun _ hk => ⟨hk.1.2, ⟨hk.2, ⟨hk.1.1.1, hk.1.1.2⟩⟩⟩)), (by (with_reducible repeat (first | apply Kd.R_alloc | apply Kd.R_drewN | apply Kd.R_drew)); exact Kd.R_mono HO_283002.out (fun _ hk => ⟨hk.1.2, ⟨hk.2, ⟨hk.1.1.1, hk.1.1.2⟩⟩⟩)), (by (with_reducible repeat (first | apply Kd.R_alloc | apply Kd.R_drewN | apply Kd.R_drew)); exact Kd.R_mono HO_293002.out (fun _ hk => ⟨hk.1.2, ⟨hk.2, ⟨hk.1.1.1, hk.1.1.2⟩⟩⟩)), (bk BK258), (bk BK259), (bk BK276), (bk BK282), (bk BK292), (bk BK320), GW320.out, GE320.out, NB258_320.out, NB320_258.out, NB259_320.out, NB320_259.out, NB276_320.out, NB320_276.out, NB282_320.out, NB320_282.out, NB292_320.out, NB320_292.out, (bt HB)⟩)
            rintro ⟨v309, v317, gb320⟩ w156 ⟨hS_, h0_, h1_, h2_, h3_, h4_, h5_, h6_, h7_, h8_, h9_, h10_, h11_, h12_, h13_, h14_, h15_, h16_, h17_, h18_, h19_, h20_, h21_, h22_, h23_⟩
            have n0_ : Aside0 (Kd.R k53 53 w156 w.heap.size (fun k_ => some k_ ≠ (v317 : Value).ownBlock ∧ some k_ ≠ (.slice Ao43 t272.length co43 : Value).ownBlock ∧ some k_ ≠ (.slice Ao53 t301.length co53 : Value).ownBlock ∧ some k_ ≠ (.slice Ao62 t288.length co62 : Value).ownBlock) v309 t308) := ⟨h0_⟩
            have n1_ : Aside0 (Kd.R k53 53 w156 w.heap.size (fun k_ => some k_ ≠ (v309 : Value).ownBlock ∧ some k_ ≠ (.slice Ao43 t272.length co43 : Value).ownBlock ∧ some k_ ≠ (.slice Ao53 t301.length co53 : Value).ownBlock ∧ some k_ ≠ (.slice Ao62 t288.length co62 : Value).ownBlock) v317 t316) := ⟨h1_⟩
            have n2_ : Aside0 (Kd.R k53 53 w156 w.heap.size (fun k_ => some k_ ≠ (v309 : Value).ownBlock ∧ some k_ ≠ (v317 : Value).ownBlock ∧ some k_ ≠ (.slice Ao53 t301.length co53 : Value).ownBlock ∧ some k_ ≠ (.slice Ao62 t288.length co62 : Value).ownBlock) (.slice Ao43 t272.length co43) t272) := ⟨h2_⟩
            have n3_ : Aside0 (Kd.R k53 53 w156 w.heap.size (fun k_ => some k_ ≠ (v309 : Value).ownBlock ∧ some k_ ≠ (v317 : Value).ownBlock ∧ some k_ ≠ (.slice Ao43 t272.length co43 : Value).ownBlock ∧ some k_ ≠ (.slice Ao62 t288.length co62 : Value).ownBlock) (.slice Ao53 t301.length co53) t301) := ⟨h3_⟩
            have n4_ : Aside0 (Kd.R k53 53 w156 w.heap.size (fun k_ => some k_ ≠ (v309 : Value).ownBlock ∧ some k_ ≠ (v317 : Value).ownBlock ∧ some k_ ≠ (.slice Ao43 t272.length co43 : Value).ownBlock ∧ some k_ ≠ (.slice Ao53 t301.length co53 : Value).ownBlock) (.slice Ao62 t288.length co62) t304) := ⟨h4_⟩
            have n5_ : Aside0 (w156.heap[gb258]? = some (.cells #[.int .i64 a0_0, .int .i64 a0_1, .slice A0_2 l0_2.length c0_2] 35 (0, 0))) := ⟨h5_⟩
            have n6_ : Aside0 (w156.heap[gb259]? = some (.cells #[.int .i64 a2_0, .int .i64 a2_1, .string a2_2] 83 (0, 0))) := ⟨h6_⟩
            have n7_ : Aside0 (w156.heap[gb276]? = some (.cells #[.int .i64 t270, .int .i64 t271, .slice Ao43 t272.length co43] 40 (0, 0))) := ⟨h7_⟩
            have n8_ : Aside0 (w156.heap[gb282]? = some (.cells #[.int .i64 t277, .int .i64 t278, .slice Ao53 t301.length co53] 40 (0, 0))) := ⟨h8_⟩
            have n9_ : Aside0 (w156.heap[gb292]? = some (.cells #[.int .i64 t286, .int .i64 t287, .slice Ao62 t288.length co62] 40 (0, 0))) := ⟨h9_⟩
            have n10_ : Aside0 (w156.heap[gb320]? = some (.cells #[.int .i64 0, .int .i64 0, .slice none 0 0] 40 (0, 0))) := ⟨h10_⟩
            have n11_ : Aside0 (w.heap.size ≤ gb320) := ⟨h11_⟩
            have n12_ : Aside0 (w.heap.size ≤ gb320) := ⟨h12_⟩
            have n13_ : Aside0 (gb258 ≠ gb320) := ⟨h13_⟩
            have n14_ : Aside0 (gb320 ≠ gb258) := ⟨h14_⟩
            have n15_ : Aside0 (gb259 ≠ gb320) := ⟨h15_⟩
            have n16_ : Aside0 (gb320 ≠ gb259) := ⟨h16_⟩
            have n17_ : Aside0 (gb276 ≠ gb320) := ⟨h17_⟩
            have n18_ : Aside0 (gb320 ≠ gb276) := ⟨h18_⟩
            have n19_ : Aside0 (gb282 ≠ gb320) := ⟨h19_⟩
            have n20_ : Aside0 (gb320 ≠ gb282) := ⟨h20_⟩
            have n21_ : Aside0 (gb292 ≠ gb320) := ⟨h21_⟩
            have n22_ : Aside0 (gb320 ≠ gb292) := ⟨h22_⟩
            have n23_ : Aside0 (Below w.heap.size w w156) := ⟨h23_⟩
            clear HO_277002
            clear HO_283002
            clear HO_293002
            clear BK258
            clear BK259
            clear BK276
            clear BK282
            clear BK292
            clear HB
            clear h0_ h1_ h2_ h3_ h4_ h5_ h6_ h7_ h8_ h9_ h10_ h11_ h12_ h13_ h14_ h15_ h16_ h17_ h18_ h19_ h20_ h21_ h22_ h23_
            have HO310 := n0_
            have HO318 := n1_
            have HO_277002 := n2_
            have HO_283002 := n3_
            have HO_293002 := n4_
            have BK258 := n5_
            have BK259 := n6_
            have BK276 := n7_
            have BK282 := n8_
            have BK292 := n9_
            have BK320 := n10_
            have GW320 := n11_
            have GE320 := n12_
            have NB258_320 := n13_
            have NB320_258 := n14_
            have NB259_320 := n15_
            have NB320_259 := n16_
            have NB276_320 := n17_
            have NB320_276 := n18_
            have NB282_320 := n19_
            have NB320_282 := n20_
            have NB292_320 := n21_
            have NB320_292 := n22_
            have HB := n23_
            clear n0_ n1_ n2_ n3_ n4_ n5_ n6_ n7_ n8_ n9_ n10_ n11_ n12_ n13_ n14_ n15_ n16_ n17_ n18_ n19_ n20_ n21_ n22_ n23_
            have hHeld : w156.cell? ⟨gb258, 0, none⟩ = some (.int .i64 a0_0) ∧ w156.cell? ⟨gb258, 1, none⟩ = some (.int .i64 a0_1) ∧ w156.cell? ⟨gb258, 2, none⟩ = some (.slice A0_2 l0_2.length c0_2) ∧ w156.cell? ⟨gb259, 0, none⟩ = some (.int .i64 a2_0) ∧ w156.cell? ⟨gb259, 1, none⟩ = some (.int .i64 a2_1) ∧ w156.cell? ⟨gb259, 2, none⟩ = some (.string a2_2) := hS_
            obtain ⟨Ao159, co159, eo159⟩ := Kd.R_slice HO318.out
            (first | subst eo159 | (injection eo159 with f1_ f2_ f3_; have f4_ := f1_.symm; have f5_ := f3_.symm; clear f1_ f2_ f3_; subst f4_; subst f5_))
            refine norm_ (a' := ?_) ?_ ?_
            rotate_left
            ·simp only [putAll, Act.put, zA, zB, zC]
             rfl
            refine one_ (i := 10) (N := none) #[true, true, true, true, true, true, true, true, true, true, true, false] rfl rfl (one_of HT_.out (by kernel_rfl)) (by decide) (fun K hK => ?_)
            have hs157 : w156.cell? ⟨gb320, 0, none⟩ = some (.int .i64 0) := bc BK320 0
            have hfs157 := blk_frozen BK320.out 0
            have hns157_0 := NB258_320.out
            have hns157_1 := NB259_320.out
            have hns157_2 := NB276_320.out
            have hns157_3 := NB282_320.out
            have hns157_4 := NB292_320.out
            have hms157_0 := NB320_258.out
            have hms157_1 := NB320_259.out
            have hms157_2 := NB320_276.out
            have hms157_3 := NB320_282.out
            have hms157_4 := NB320_292.out
            have hs158 : w156.cell? ⟨gb320, 1, none⟩ = some (.int .i64 0) := bc BK320 1
            have hfs158 := blk_frozen BK320.out 1
            have hns158_0 := NB258_320.out
            have hns158_1 := NB259_320.out
            have hns158_2 := NB276_320.out
            have hns158_3 := NB282_320.out
            have hns158_4 := NB292_320.out
            have hms158_0 := NB320_258.out
            have hms158_1 := NB320_259.out
            have hms158_2 := NB320_276.out
            have hms158_3 := NB320_282.out
            have hms158_4 := NB320_292.out
            have hs160 : w156.cell? ⟨gb320, 2, none⟩ = some (.slice none 0 0) := bc BK320 2
            have hfs160 := blk_frozen BK320.out 2
            have hns160_0 := NB258_320.out
            have hns160_1 := NB259_320.out
            have hns160_2 := NB276_320.out
            have hns160_3 := NB282_320.out
            have hns160_4 := NB292_320.out
            have hms160_0 := NB320_258.out
            have hms160_1 := NB320_259.out
            have hms160_2 := NB320_276.out
            have hms160_3 := NB320_282.out
            have hms160_4 := NB320_292.out
            refine skip_ (w1 := ?_) (by rfl) rfl ?_ ?_
            rotate_left
            ·go_simp
             rfl
            refine hK.out _ _ ⟨((cell_far (p := ⟨gb320, _, none⟩) NB258_320.out _).trans (((cell_far (p := ⟨gb320, _, none⟩) NB258_320.out _).trans (((cell_far (p := ⟨gb320, _, none⟩) NB258_320.out _).trans (hHeld.1)))))), ((cell_far (p := ⟨gb320, _, none⟩) NB258_320.out _).trans (((cell_far (p := ⟨gb320, _, none⟩) NB258_320.out _).trans (((cell_far (p := ⟨gb320, _, none⟩) NB258_320.out _).trans (hHeld.2.1)))))), ((cell_far (p := ⟨gb320, _, none⟩) NB258_320.out _).trans (((cell_far (p := ⟨gb320, _, none⟩) NB258_320.out _).trans (((cell_far (p := ⟨gb320, _, none⟩) NB258_320.out _).trans (hHeld.2.2.1)))))), ((cell_far (p := ⟨gb320, _, none⟩) NB259_320.out _).trans (((cell_far (p := ⟨gb320, _, none⟩) NB259_320.out _).trans (((cell_far (p := ⟨gb320, _, none⟩) NB259_320.out _).trans (hHeld.2.2.2.1)))))), ((cell_far (p := ⟨gb320, _, none⟩) NB259_320.out _).trans (((cell_far (p := ⟨gb320, _, none⟩) NB259_320.out _).trans (((cell_far (p := ⟨gb320, _, none⟩) NB259_320.out _).trans (hHeld.2.2.2.2.1)))))), ((cell_far (p := ⟨gb320, _, none⟩) NB259_320.out _).trans (((cell_far (p := ⟨gb320, _, none⟩) NB259_320.out _).trans (((cell_far (p := ⟨gb320, _, none⟩) NB259_320.out _).trans (hHeld.2.2.2.2.2))))))⟩ (fun hHeld => ?_)
            clear hK K
            refine pure_ (i := 11) (N := some 17) (v := ?_) (a' := ?_) #[true, true, true, true, true, true, true, true, true, true, true, true] rfl rfl (any_of HT_.out (by kernel_rfl)) (fun _ _ _ h => h) (Or.inl ⟨by rfl, ?_⟩) ?_ ?_
            rotate_left
            ·intro w'
             go_simp
             with_reducible rfl
            rotate_left
            ·simp only [Act.put, zA, zB, zC, i64_w, i32_w]
             rfl
            refine done_ (done_of HT_.out (by kernel_rfl)) ?_
            go_upto_region 28 with (fail)
            go_cut [105] (fun v105 wc => ∃ (kq : Nat) (x105_140 : Bool), v105 = .bool x105_140 ∧ Aside0 (laws_FnExactLogPut.j2 kq t303 x105_140 t286 t287 t304 = some r) ∧ Aside0 (kq ≤ kj90) ∧ Aside0 (Kd.R k53 53 wc w.heap.size (fun k_ => some k_ ≠ ((.slice Ao53 t301.length co53) : Value).ownBlock ∧ some k_ ≠ ((.slice Ao62 t288.length co62) : Value).ownBlock ∧ some k_ ≠ ((.slice Ao159 t316.length co159) : Value).ownBlock) (.slice Ao43 t272.length co43) t272) ∧ Aside0 (Kd.R k53 53 wc w.heap.size (fun k_ => some k_ ≠ ((.slice Ao43 t272.length co43) : Value).ownBlock ∧ some k_ ≠ ((.slice Ao62 t288.length co62) : Value).ownBlock ∧ some k_ ≠ ((.slice Ao159 t316.length co159) : Value).ownBlock) (.slice Ao53 t301.length co53) t301) ∧ Aside0 (Kd.R k53 53 wc w.heap.size (fun k_ => some k_ ≠ ((.slice Ao43 t272.length co43) : Value).ownBlock ∧ some k_ ≠ ((.slice Ao53 t301.length co53) : Value).ownBlock ∧ some k_ ≠ ((.slice Ao159 t316.length co159) : Value).ownBlock) (.slice Ao62 t288.length co62) t304) ∧ Aside0 (Kd.R k53 53 wc w.heap.size (fun k_ => some k_ ≠ ((.slice Ao43 t272.length co43) : Value).ownBlock ∧ some k_ ≠ ((.slice Ao53 t301.length co53) : Value).ownBlock ∧ some k_ ≠ ((.slice Ao62 t288.length co62) : Value).ownBlock) (.slice Ao159 t316.length co159) t316) ∧ Aside0 (wc.heap[gb258]? = some (.cells #[.int .i64 a0_0, .int .i64 a0_1, (.slice A0_2 l0_2.length c0_2)] 35 (0, 0))) ∧ Aside0 (wc.heap[gb259]? = some (.cells #[.int .i64 a2_0, .int .i64 a2_1, .string a2_2] 83 (0, 0))) ∧ Aside0 (wc.heap[gb276]? = some (.cells #[.int .i64 t270, .int .i64 t271, (.slice Ao43 t272.length co43)] 40 (0, 0))) ∧ Aside0 (wc.heap[gb282]? = some (.cells #[.int .i64 t277, .int .i64 t278, (.slice Ao53 t301.length co53)] 40 (0, 0))) ∧ Aside0 (wc.heap[gb292]? = some (.cells #[.int .i64 t286, .int .i64 t287, (.slice Ao62 t288.length co62)] 40 (0, 0))) ∧ Aside0 (wc.heap[gb320]? = some (.cells #[.int .i64 t314, .int .i64 t315, (.slice Ao159 t316.length co159)] 40 (0, 0))) ∧ Aside0 (Below w.heap.size w wc))
            case first =>
             have H := HC141.out
             clear HC141
             replace H := Option.bind_eq_some_iff.mp H
             obtain ⟨t321, A1610, H⟩ := H
             replace H : (if t321 = true then (laws_FnExactLogPut.j2 kj90 t303 (t319 != t275) t286 t287 t304) else (laws_FnExactLogPut.j2 kj90 t303 true t286 t287 t304)) = some r := H
             have A161 := Aside0.mk A1610
             clear A1610
             by_cases c162 : t321 = true
             ·subst c162
              have H1 : (laws_FnExactLogPut.j2 kj90 t303 (t319 != t275) t286 t287 t304) = some r := by rw [if_pos rfl] at H; exact H
              clear H
              have H := H1
              clear H1
              have H' := Aside0.mk H
              clear H
              have hnb163 := NB320_258.out
              have hnc163 := NB258_320.out
              have hnb164 := NB320_259.out
              have hnc164 := NB259_320.out
              have hnb165 := NB320_276.out
              have hnc165 := NB276_320.out
              have hnb166 := NB320_282.out
              have hnc166 := NB282_320.out
              have hnb167 := NB320_292.out
              have hnc167 := NB292_320.out
              have hcz168_0 : w156.cell? ⟨gb320, 0, none⟩ = some (.int .i64 0) := bc BK320 0
              have hcz168_1 : w156.cell? ⟨gb320, 1, none⟩ = some (.int .i64 0) := bc BK320 1
              have hcz168_2 : w156.cell? ⟨gb320, 2, none⟩ = some (.slice none 0 0) := bc BK320 2
              have hfz168_0 := blk_frozen BK320.out 0
              have hfz168_1 := blk_frozen BK320.out 1
              have hfz168_2 := blk_frozen BK320.out 2
              have hnb169 := NB276_258.out
              have hnc169 := NB258_276.out
              have hnb170 := NB276_259.out
              have hnc170 := NB259_276.out
              have hnb171 := NB276_282.out
              have hnc171 := NB282_276.out
              have hnb172 := NB276_292.out
              have hnc172 := NB292_276.out
              have hcz173_0 : w156.cell? ⟨gb276, 0, none⟩ = some (.int .i64 t270) := bc BK276 0
              have hcz173_1 : w156.cell? ⟨gb276, 1, none⟩ = some (.int .i64 t271) := bc BK276 1
              have hcz173_2 : w156.cell? ⟨gb276, 2, none⟩ = some (.slice Ao43 t272.length co43) := bc BK276 2
              have hfz173_0 := blk_frozen BK276.out 0
              have hfz173_1 := blk_frozen BK276.out 1
              have hfz173_2 := blk_frozen BK276.out 2
              go_wp2_with (first | ((with_reducible refine gate_callee (f := 21) rfl ?_); refine goesL_ (some 99) rfl rfl Try.func21 (by kernel_rfl) rfl #[.agg #[.int .i64 t314, .int .i64 t315, .slice Ao159 t316.length co159], .agg #[.int .i64 t270, .int .i64 t271, .slice Ao43 t272.length co43]] rfl (by (try simp only [List.map_toArray, List.map_cons, List.map_nil]); first | done | rfl | (simp only [List.length_drop, List.length_take]; rfl)) ?_; (with_reducible refine (laws_eqLog.calls kj90 t314 t315 _ _ t316 t270 t271 _ _ t272 true _ ?side1 ?side2 ?side3 ?side4 A161.out).mono ?_); (case side1 => refine (Kd.R_reads' (e := 53) (base := w.heap.size) (ok := fun k_ => (some k_ ≠ (v309 : Value).ownBlock ∧ (some k_ ≠ (.slice Ao43 t272.length co43 : Value).ownBlock ∧ (some k_ ≠ (.slice Ao53 t301.length co53 : Value).ownBlock ∧ some k_ ≠ (.slice Ao62 t288.length co62 : Value).ownBlock)))) (n := t316.length) (c := co159) ?_).2.2; exact (by (with_reducible repeat (first | apply Kd.R_alloc | apply Kd.R_drewN | apply Kd.R_drew)); exact (Kd.R_mono (Kd.R_far (p := ⟨gb320, 2, none⟩) (Kd.R_far (p := ⟨gb320, 1, none⟩) (Kd.R_far (p := ⟨gb320, 0, none⟩) (Kd.R_types HO318.out BK320.out (by decide)) (fun _ hk => hk.2) (.int .i64 t314)) (fun _ hk => hk.2) (.int .i64 t315)) (fun _ hk => hk.2) (.slice Ao159 t316.length co159)) (fun _ h_ => h_.1)))); (case side2 => exact (Kd.R_reads' HO318.out).2.1); (case side3 => refine (Kd.R_reads' (e := 53) (base := w.heap.size) (ok := fun k_ => (some k_ ≠ (v309 : Value).ownBlock ∧ (some k_ ≠ (.slice Ao159 t316.length co159 : Value).ownBlock ∧ (some k_ ≠ (.slice Ao53 t301.length co53 : Value).ownBlock ∧ some k_ ≠ (.slice Ao62 t288.length co62 : Value).ownBlock)))) (n := t272.length) (c := co43) ?_).2.2; exact (by (with_reducible repeat (first | apply Kd.R_alloc | apply Kd.R_drewN | apply Kd.R_drew)); exact (Kd.R_mono (Kd.R_far (p := ⟨gb320, 2, none⟩) (Kd.R_far (p := ⟨gb320, 1, none⟩) (Kd.R_far (p := ⟨gb320, 0, none⟩) (Kd.R_types HO_277002.out BK320.out (by decide)) (fun _ hk => hk.2) (.int .i64 t314)) (fun _ hk => hk.2) (.int .i64 t315)) (fun _ hk => hk.2) (.slice Ao159 t316.length co159)) (fun _ h_ => h_.1)))); (case side4 => exact (Kd.R_reads' HO_277002.out).2.1); rintro e w174 ⟨rfl, hb⟩; refine ⟨_, rfl, ?_⟩; have n0_ := Aside0.mk (Kd.R_below (by (with_reducible repeat (first | apply Kd.R_alloc | apply Kd.R_drewN | apply Kd.R_drew)); exact (Kd.R_mono (Kd.R_far (p := ⟨gb320, 2, none⟩) (Kd.R_far (p := ⟨gb320, 1, none⟩) (Kd.R_far (p := ⟨gb320, 0, none⟩) (Kd.R_types HO_277002.out BK320.out (by decide)) (fun _ hk => hk.2) (.int .i64 t314)) (fun _ hk => hk.2) (.int .i64 t315)) (fun _ hk => hk.2) (.slice Ao159 t316.length co159)) (fun _ h_ => h_.1))) hb); have n1_ := Aside0.mk (Kd.R_below (by (with_reducible repeat (first | apply Kd.R_alloc | apply Kd.R_drewN | apply Kd.R_drew)); exact (Kd.R_mono (Kd.R_far (p := ⟨gb320, 2, none⟩) (Kd.R_far (p := ⟨gb320, 1, none⟩) (Kd.R_far (p := ⟨gb320, 0, none⟩) (Kd.R_types HO_283002.out BK320.out (by decide)) (fun _ hk => hk.2) (.int .i64 t314)) (fun _ hk => hk.2) (.int .i64 t315)) (fun _ hk => hk.2) (.slice Ao159 t316.length co159)) (fun _ h_ => h_.1))) hb); have n2_ := Aside0.mk (Kd.R_below (by (with_reducible repeat (first | apply Kd.R_alloc | apply Kd.R_drewN | apply Kd.R_drew)); exact (Kd.R_mono (Kd.R_far (p := ⟨gb320, 2, none⟩) (Kd.R_far (p := ⟨gb320, 1, none⟩) (Kd.R_far (p := ⟨gb320, 0, none⟩) (Kd.R_types HO_293002.out BK320.out (by decide)) (fun _ hk => hk.2) (.int .i64 t314)) (fun _ hk => hk.2) (.int .i64 t315)) (fun _ hk => hk.2) (.slice Ao159 t316.length co159)) (fun _ h_ => h_.1))) hb); have n3_ := Aside0.mk (Kd.R_below (by (with_reducible repeat (first | apply Kd.R_alloc | apply Kd.R_drewN | apply Kd.R_drew)); exact (Kd.R_mono (Kd.R_far (p := ⟨gb320, 2, none⟩) (Kd.R_far (p := ⟨gb320, 1, none⟩) (Kd.R_far (p := ⟨gb320, 0, none⟩) (Kd.R_types HO310.out BK320.out (by decide)) (fun _ hk => hk.2) (.int .i64 t314)) (fun _ hk => hk.2) (.int .i64 t315)) (fun _ hk => hk.2) (.slice Ao159 t316.length co159)) (fun _ h_ => h_.1))) hb); have n4_ := Aside0.mk (Kd.R_below (by (with_reducible repeat (first | apply Kd.R_alloc | apply Kd.R_drewN | apply Kd.R_drew)); exact (Kd.R_mono (Kd.R_far (p := ⟨gb320, 2, none⟩) (Kd.R_far (p := ⟨gb320, 1, none⟩) (Kd.R_far (p := ⟨gb320, 0, none⟩) (Kd.R_types HO318.out BK320.out (by decide)) (fun _ hk => hk.2) (.int .i64 t314)) (fun _ hk => hk.2) (.int .i64 t315)) (fun _ hk => hk.2) (.slice Ao159 t316.length co159)) (fun _ h_ => h_.1))) hb); have n5_ := Aside0.mk (blk_below (g := gb258) (o := .cells #[.int .i64 a0_0, .int .i64 a0_1, .slice A0_2 l0_2.length c0_2] 35 (0, 0)) (by refine bk_ ?_; refine blk_far ?_ NB258_320.out _; refine bk_ ?_; refine blk_far ?_ NB258_320.out _; refine bk_ ?_; refine blk_far ?_ NB258_320.out _; refine bk_ ?_; exact BK258.out) hb); have n6_ := Aside0.mk (blk_below (g := gb259) (o := .cells #[.int .i64 a2_0, .int .i64 a2_1, .string a2_2] 83 (0, 0)) (by refine bk_ ?_; refine blk_far ?_ NB259_320.out _; refine bk_ ?_; refine blk_far ?_ NB259_320.out _; refine bk_ ?_; refine blk_far ?_ NB259_320.out _; refine bk_ ?_; exact BK259.out) hb); have n7_ := Aside0.mk (blk_below (g := gb276) (o := .cells #[.int .i64 t270, .int .i64 t271, .slice Ao43 t272.length co43] 40 (0, 0)) (by refine bk_ ?_; refine blk_far ?_ NB276_320.out _; refine bk_ ?_; refine blk_far ?_ NB276_320.out _; refine bk_ ?_; refine blk_far ?_ NB276_320.out _; refine bk_ ?_; exact BK276.out) hb); have n8_ := Aside0.mk (blk_below (g := gb282) (o := .cells #[.int .i64 t277, .int .i64 t278, .slice Ao53 t301.length co53] 40 (0, 0)) (by refine bk_ ?_; refine blk_far ?_ NB282_320.out _; refine bk_ ?_; refine blk_far ?_ NB282_320.out _; refine bk_ ?_; refine blk_far ?_ NB282_320.out _; refine bk_ ?_; exact BK282.out) hb); have n9_ := Aside0.mk (blk_below (g := gb292) (o := .cells #[.int .i64 t286, .int .i64 t287, .slice Ao62 t288.length co62] 40 (0, 0)) (by refine bk_ ?_; refine blk_far ?_ NB292_320.out _; refine bk_ ?_; refine blk_far ?_ NB292_320.out _; refine bk_ ?_; refine blk_far ?_ NB292_320.out _; refine bk_ ?_; exact BK292.out) hb); have n10_ := Aside0.mk (blk_below (g := gb320) (o := .cells #[.int .i64 t314, .int .i64 t315, .slice Ao159 t316.length co159] 40 (0, 0)) (by refine bk_ ?_; refine blk_put (cs := #[.int .i64 t314, .int .i64 t315, .slice none 0 0]) ?_ 2 _ rfl; refine bk_ ?_; refine blk_put (cs := #[.int .i64 t314, .int .i64 0, .slice none 0 0]) ?_ 1 _ rfl; refine bk_ ?_; refine blk_put (cs := #[.int .i64 0, .int .i64 0, .slice none 0 0]) ?_ 0 _ rfl; refine bk_ ?_; exact BK320.out) hb); have n11_ := Aside0.mk (below_step (bt HB) hb); clear HO_277002 HO_283002 HO_293002 HO310 HO318 BK258 BK259 BK276 BK282 BK292 BK320 HB; revert n0_ n1_ n2_ n3_ n4_ n5_ n6_ n7_ n8_ n9_ n10_ n11_; intro HO_277002 HO_283002 HO_293002 HO310 HO318 BK258 BK259 BK276 BK282 BK292 BK320 HB; (try clear hb); (try clear hb2); (try clear hk); (try clear hi)))
              go_meet
              case rel => exact ⟨_, ((t319 != t275)), (by first | rfl | (simp; done) | (simp [*]; done)), H', ⟨by have := HJ25.out; have := HJ90.out; first | omega | exact Nat.le_refl _⟩, ⟨by (try simp only [hl283002_90]); (with_reducible repeat (first | apply Kd.R_alloc | apply Kd.R_drewN | apply Kd.R_drew)); exact Kd.R_mono HO_277002.out (fun _ hk => ⟨hk.2.2.1, ⟨hk.2.2.2, hk.2.1⟩⟩)⟩, ⟨by (try simp only [hl283002_90]); (with_reducible repeat (first | apply Kd.R_alloc | apply Kd.R_drewN | apply Kd.R_drew)); exact Kd.R_mono HO_283002.out (fun _ hk => ⟨hk.2.2.1, ⟨hk.2.2.2, hk.2.1⟩⟩)⟩, ⟨by (try simp only [hl283002_90]); (with_reducible repeat (first | apply Kd.R_alloc | apply Kd.R_drewN | apply Kd.R_drew)); exact Kd.R_mono HO_293002.out (fun _ hk => ⟨hk.2.2.1, ⟨hk.2.2.2, hk.2.1⟩⟩)⟩, ⟨by (try simp only [hl283002_90]); (with_reducible repeat (first | apply Kd.R_alloc | apply Kd.R_drewN | apply Kd.R_drew)); exact Kd.R_mono HO318.out (fun _ hk => ⟨hk.2.1, ⟨hk.2.2.1, hk.2.2.2⟩⟩)⟩, ⟨by (try simp only [hl283002_90]); refine bk_ ?_; exact BK258.out⟩, ⟨by (try simp only [hl283002_90]); refine bk_ ?_; exact BK259.out⟩, ⟨by (try simp only [hl283002_90]); refine bk_ ?_; exact BK276.out⟩, ⟨by (try simp only [hl283002_90]); refine bk_ ?_; exact BK282.out⟩, ⟨by (try simp only [hl283002_90]); refine bk_ ?_; exact BK292.out⟩, ⟨by (try simp only [hl283002_90]); refine bk_ ?_; exact BK320.out⟩, ⟨bt HB⟩⟩
             ·replace c162 := Bool.eq_false_iff.mpr c162
              subst c162
              have H1 : (laws_FnExactLogPut.j2 kj90 t303 true t286 t287 t304) = some r := by rw [if_neg (show ¬ (false = true) by decide)] at H; exact H
              clear H
              have H := H1
              clear H1
              have H' := Aside0.mk H
              clear H
              have hnb175 := NB320_258.out
              have hnc175 := NB258_320.out
              have hnb176 := NB320_259.out
              have hnc176 := NB259_320.out
              have hnb177 := NB320_276.out
              have hnc177 := NB276_320.out
              have hnb178 := NB320_282.out
              have hnc178 := NB282_320.out
              have hnb179 := NB320_292.out
              have hnc179 := NB292_320.out
              have hcz180_0 : w156.cell? ⟨gb320, 0, none⟩ = some (.int .i64 0) := bc BK320 0
              have hcz180_1 : w156.cell? ⟨gb320, 1, none⟩ = some (.int .i64 0) := bc BK320 1
              have hcz180_2 : w156.cell? ⟨gb320, 2, none⟩ = some (.slice none 0 0) := bc BK320 2
              have hfz180_0 := blk_frozen BK320.out 0
              have hfz180_1 := blk_frozen BK320.out 1
              have hfz180_2 := blk_frozen BK320.out 2
              have hnb181 := NB276_258.out
              have hnc181 := NB258_276.out
              have hnb182 := NB276_259.out
              have hnc182 := NB259_276.out
              have hnb183 := NB276_282.out
              have hnc183 := NB282_276.out
              have hnb184 := NB276_292.out
              have hnc184 := NB292_276.out
              have hcz185_0 : w156.cell? ⟨gb276, 0, none⟩ = some (.int .i64 t270) := bc BK276 0
              have hcz185_1 : w156.cell? ⟨gb276, 1, none⟩ = some (.int .i64 t271) := bc BK276 1
              have hcz185_2 : w156.cell? ⟨gb276, 2, none⟩ = some (.slice Ao43 t272.length co43) := bc BK276 2
              have hfz185_0 := blk_frozen BK276.out 0
              have hfz185_1 := blk_frozen BK276.out 1
              have hfz185_2 := blk_frozen BK276.out 2
              go_wp2_with (first | ((with_reducible refine gate_callee (f := 21) rfl ?_); refine goesL_ (some 99) rfl rfl Try.func21 (by kernel_rfl) rfl #[.agg #[.int .i64 t314, .int .i64 t315, .slice Ao159 t316.length co159], .agg #[.int .i64 t270, .int .i64 t271, .slice Ao43 t272.length co43]] rfl (by (try simp only [List.map_toArray, List.map_cons, List.map_nil]); first | done | rfl | (simp only [List.length_drop, List.length_take]; rfl)) ?_; (with_reducible refine (laws_eqLog.calls kj90 t314 t315 _ _ t316 t270 t271 _ _ t272 false _ ?side1 ?side2 ?side3 ?side4 A161.out).mono ?_); (case side1 => refine (Kd.R_reads' (e := 53) (base := w.heap.size) (ok := fun k_ => (some k_ ≠ (v309 : Value).ownBlock ∧ (some k_ ≠ (.slice Ao43 t272.length co43 : Value).ownBlock ∧ (some k_ ≠ (.slice Ao53 t301.length co53 : Value).ownBlock ∧ some k_ ≠ (.slice Ao62 t288.length co62 : Value).ownBlock)))) (n := t316.length) (c := co159) ?_).2.2; exact (by (with_reducible repeat (first | apply Kd.R_alloc | apply Kd.R_drewN | apply Kd.R_drew)); exact (Kd.R_mono (Kd.R_far (p := ⟨gb320, 2, none⟩) (Kd.R_far (p := ⟨gb320, 1, none⟩) (Kd.R_far (p := ⟨gb320, 0, none⟩) (Kd.R_types HO318.out BK320.out (by decide)) (fun _ hk => hk.2) (.int .i64 t314)) (fun _ hk => hk.2) (.int .i64 t315)) (fun _ hk => hk.2) (.slice Ao159 t316.length co159)) (fun _ h_ => h_.1)))); (case side2 => exact (Kd.R_reads' HO318.out).2.1); (case side3 => refine (Kd.R_reads' (e := 53) (base := w.heap.size) (ok := fun k_ => (some k_ ≠ (v309 : Value).ownBlock ∧ (some k_ ≠ (.slice Ao159 t316.length co159 : Value).ownBlock ∧ (some k_ ≠ (.slice Ao53 t301.length co53 : Value).ownBlock ∧ some k_ ≠ (.slice Ao62 t288.length co62 : Value).ownBlock)))) (n := t272.length) (c := co43) ?_).2.2; exact (by (with_reducible repeat (first | apply Kd.R_alloc | apply Kd.R_drewN | apply Kd.R_drew)); exact (Kd.R_mono (Kd.R_far (p := ⟨gb320, 2, none⟩) (Kd.R_far (p := ⟨gb320, 1, none⟩) (Kd.R_far (p := ⟨gb320, 0, none⟩) (Kd.R_types HO_277002.out BK320.out (by decide)) (fun _ hk => hk.2) (.int .i64 t314)) (fun _ hk => hk.2) (.int .i64 t315)) (fun _ hk => hk.2) (.slice Ao159 t316.length co159)) (fun _ h_ => h_.1)))); (case side4 => exact (Kd.R_reads' HO_277002.out).2.1); rintro e w186 ⟨rfl, hb⟩; refine ⟨_, rfl, ?_⟩; have n0_ := Aside0.mk (Kd.R_below (by (with_reducible repeat (first | apply Kd.R_alloc | apply Kd.R_drewN | apply Kd.R_drew)); exact (Kd.R_mono (Kd.R_far (p := ⟨gb320, 2, none⟩) (Kd.R_far (p := ⟨gb320, 1, none⟩) (Kd.R_far (p := ⟨gb320, 0, none⟩) (Kd.R_types HO_277002.out BK320.out (by decide)) (fun _ hk => hk.2) (.int .i64 t314)) (fun _ hk => hk.2) (.int .i64 t315)) (fun _ hk => hk.2) (.slice Ao159 t316.length co159)) (fun _ h_ => h_.1))) hb); have n1_ := Aside0.mk (Kd.R_below (by (with_reducible repeat (first | apply Kd.R_alloc | apply Kd.R_drewN | apply Kd.R_drew)); exact (Kd.R_mono (Kd.R_far (p := ⟨gb320, 2, none⟩) (Kd.R_far (p := ⟨gb320, 1, none⟩) (Kd.R_far (p := ⟨gb320, 0, none⟩) (Kd.R_types HO_283002.out BK320.out (by decide)) (fun _ hk => hk.2) (.int .i64 t314)) (fun _ hk => hk.2) (.int .i64 t315)) (fun _ hk => hk.2) (.slice Ao159 t316.length co159)) (fun _ h_ => h_.1))) hb); have n2_ := Aside0.mk (Kd.R_below (by (with_reducible repeat (first | apply Kd.R_alloc | apply Kd.R_drewN | apply Kd.R_drew)); exact (Kd.R_mono (Kd.R_far (p := ⟨gb320, 2, none⟩) (Kd.R_far (p := ⟨gb320, 1, none⟩) (Kd.R_far (p := ⟨gb320, 0, none⟩) (Kd.R_types HO_293002.out BK320.out (by decide)) (fun _ hk => hk.2) (.int .i64 t314)) (fun _ hk => hk.2) (.int .i64 t315)) (fun _ hk => hk.2) (.slice Ao159 t316.length co159)) (fun _ h_ => h_.1))) hb); have n3_ := Aside0.mk (Kd.R_below (by (with_reducible repeat (first | apply Kd.R_alloc | apply Kd.R_drewN | apply Kd.R_drew)); exact (Kd.R_mono (Kd.R_far (p := ⟨gb320, 2, none⟩) (Kd.R_far (p := ⟨gb320, 1, none⟩) (Kd.R_far (p := ⟨gb320, 0, none⟩) (Kd.R_types HO310.out BK320.out (by decide)) (fun _ hk => hk.2) (.int .i64 t314)) (fun _ hk => hk.2) (.int .i64 t315)) (fun _ hk => hk.2) (.slice Ao159 t316.length co159)) (fun _ h_ => h_.1))) hb); have n4_ := Aside0.mk (Kd.R_below (by (with_reducible repeat (first | apply Kd.R_alloc | apply Kd.R_drewN | apply Kd.R_drew)); exact (Kd.R_mono (Kd.R_far (p := ⟨gb320, 2, none⟩) (Kd.R_far (p := ⟨gb320, 1, none⟩) (Kd.R_far (p := ⟨gb320, 0, none⟩) (Kd.R_types HO318.out BK320.out (by decide)) (fun _ hk => hk.2) (.int .i64 t314)) (fun _ hk => hk.2) (.int .i64 t315)) (fun _ hk => hk.2) (.slice Ao159 t316.length co159)) (fun _ h_ => h_.1))) hb); have n5_ := Aside0.mk (blk_below (g := gb258) (o := .cells #[.int .i64 a0_0, .int .i64 a0_1, .slice A0_2 l0_2.length c0_2] 35 (0, 0)) (by refine bk_ ?_; refine blk_far ?_ NB258_320.out _; refine bk_ ?_; refine blk_far ?_ NB258_320.out _; refine bk_ ?_; refine blk_far ?_ NB258_320.out _; refine bk_ ?_; exact BK258.out) hb); have n6_ := Aside0.mk (blk_below (g := gb259) (o := .cells #[.int .i64 a2_0, .int .i64 a2_1, .string a2_2] 83 (0, 0)) (by refine bk_ ?_; refine blk_far ?_ NB259_320.out _; refine bk_ ?_; refine blk_far ?_ NB259_320.out _; refine bk_ ?_; refine blk_far ?_ NB259_320.out _; refine bk_ ?_; exact BK259.out) hb); have n7_ := Aside0.mk (blk_below (g := gb276) (o := .cells #[.int .i64 t270, .int .i64 t271, .slice Ao43 t272.length co43] 40 (0, 0)) (by refine bk_ ?_; refine blk_far ?_ NB276_320.out _; refine bk_ ?_; refine blk_far ?_ NB276_320.out _; refine bk_ ?_; refine blk_far ?_ NB276_320.out _; refine bk_ ?_; exact BK276.out) hb); have n8_ := Aside0.mk (blk_below (g := gb282) (o := .cells #[.int .i64 t277, .int .i64 t278, .slice Ao53 t301.length co53] 40 (0, 0)) (by refine bk_ ?_; refine blk_far ?_ NB282_320.out _; refine bk_ ?_; refine blk_far ?_ NB282_320.out _; refine bk_ ?_; refine blk_far ?_ NB282_320.out _; refine bk_ ?_; exact BK282.out) hb); have n9_ := Aside0.mk (blk_below (g := gb292) (o := .cells #[.int .i64 t286, .int .i64 t287, .slice Ao62 t288.length co62] 40 (0, 0)) (by refine bk_ ?_; refine blk_far ?_ NB292_320.out _; refine bk_ ?_; refine blk_far ?_ NB292_320.out _; refine bk_ ?_; refine blk_far ?_ NB292_320.out _; refine bk_ ?_; exact BK292.out) hb); have n10_ := Aside0.mk (blk_below (g := gb320) (o := .cells #[.int .i64 t314, .int .i64 t315, .slice Ao159 t316.length co159] 40 (0, 0)) (by refine bk_ ?_; refine blk_put (cs := #[.int .i64 t314, .int .i64 t315, .slice none 0 0]) ?_ 2 _ rfl; refine bk_ ?_; refine blk_put (cs := #[.int .i64 t314, .int .i64 0, .slice none 0 0]) ?_ 1 _ rfl; refine bk_ ?_; refine blk_put (cs := #[.int .i64 0, .int .i64 0, .slice none 0 0]) ?_ 0 _ rfl; refine bk_ ?_; exact BK320.out) hb); have n11_ := Aside0.mk (below_step (bt HB) hb); clear HO_277002 HO_283002 HO_293002 HO310 HO318 BK258 BK259 BK276 BK282 BK292 BK320 HB; revert n0_ n1_ n2_ n3_ n4_ n5_ n6_ n7_ n8_ n9_ n10_ n11_; intro HO_277002 HO_283002 HO_293002 HO310 HO318 BK258 BK259 BK276 BK282 BK292 BK320 HB; (try clear hb); (try clear hb2); (try clear hk); (try clear hi)))
              go_meet
              case rel => exact ⟨_, (true), (by first | rfl | (simp; done) | (simp [*]; done)), H', ⟨by have := HJ25.out; have := HJ90.out; first | omega | exact Nat.le_refl _⟩, ⟨by (try simp only [hl283002_90]); (with_reducible repeat (first | apply Kd.R_alloc | apply Kd.R_drewN | apply Kd.R_drew)); exact Kd.R_mono HO_277002.out (fun _ hk => ⟨hk.2.2.1, ⟨hk.2.2.2, hk.2.1⟩⟩)⟩, ⟨by (try simp only [hl283002_90]); (with_reducible repeat (first | apply Kd.R_alloc | apply Kd.R_drewN | apply Kd.R_drew)); exact Kd.R_mono HO_283002.out (fun _ hk => ⟨hk.2.2.1, ⟨hk.2.2.2, hk.2.1⟩⟩)⟩, ⟨by (try simp only [hl283002_90]); (with_reducible repeat (first | apply Kd.R_alloc | apply Kd.R_drewN | apply Kd.R_drew)); exact Kd.R_mono HO_293002.out (fun _ hk => ⟨hk.2.2.1, ⟨hk.2.2.2, hk.2.1⟩⟩)⟩, ⟨by (try simp only [hl283002_90]); (with_reducible repeat (first | apply Kd.R_alloc | apply Kd.R_drewN | apply Kd.R_drew)); exact Kd.R_mono HO318.out (fun _ hk => ⟨hk.2.1, ⟨hk.2.2.1, hk.2.2.2⟩⟩)⟩, ⟨by (try simp only [hl283002_90]); refine bk_ ?_; exact BK258.out⟩, ⟨by (try simp only [hl283002_90]); refine bk_ ?_; exact BK259.out⟩, ⟨by (try simp only [hl283002_90]); refine bk_ ?_; exact BK276.out⟩, ⟨by (try simp only [hl283002_90]); refine bk_ ?_; exact BK282.out⟩, ⟨by (try simp only [hl283002_90]); refine bk_ ?_; exact BK292.out⟩, ⟨by (try simp only [hl283002_90]); refine bk_ ?_; exact BK320.out⟩, ⟨bt HB⟩⟩
            case rest =>
             clear HC141
             try clear c1
             try clear c2
             try clear p2
             try clear c4
             try clear c16
             try clear c17
             try clear c18
             try clear c19
             try clear c21
             try clear c47
             try clear c48
             try clear c162
             try clear c163
             try clear c164
             try clear c165
             try clear c166
             try clear c167
             try clear c169
             try clear c170
             try clear c171
             try clear c172
             try clear c175
             try clear c176
             try clear c177
             try clear c178
             try clear c179
             try clear c181
             try clear c182
             try clear c183
             try clear c184
             try clear hcz168_0
             try clear hcz168_1
             try clear hcz168_2
             try clear hcz173_0
             try clear hcz173_1
             try clear hcz173_2
             try clear hcz180_0
             try clear hcz180_1
             try clear hcz180_2
             try clear hcz185_0
             try clear hcz185_1
             try clear hcz185_2
             try clear hfz168_0
             try clear hfz168_1
             try clear hfz168_2
             try clear hfz173_0
             try clear hfz173_1
             try clear hfz173_2
             try clear hfz180_0
             try clear hfz180_1
             try clear hfz180_2
             try clear hfz185_0
             try clear hfz185_1
             try clear hfz185_2
             obtain ⟨kq, x105_140, rfl, HA, HJ140, HO_277002, HO_283002, HO_293002, HO_321002, BK258, BK259, BK276, BK282, BK292, BK320, HB⟩ := hcut
             have hl293002_140 := (Kd.R_reads' HO_293002.out).1
             rw [hl293002_140] at HO_293002
             (try simp only [hl293002_140])
             (try simp only [hl293002_140] at BK258)
             (try simp only [hl293002_140] at BK259)
             (try simp only [hl293002_140] at BK276)
             (try simp only [hl293002_140] at BK282)
             (try simp only [hl293002_140] at BK292)
             (try simp only [hl293002_140] at BK320)
             (try simp only [hl293002_140] at HO_277002)
             (try simp only [hl293002_140] at HO_283002)
             (try simp only [hl293002_140] at HO_321002)
             cases kq with
             | zero => exact absurd HA.out (by simp [laws_FnExactLogPut.j2])
             | succ kj140 =>
              have H := HA.out
              clear HA
              simp only [laws_FnExactLogPut.j2] at H
              by_cases c187 : x105_140 = true
              ·subst c187
               have H1 : (some false) = some r := by rw [if_pos rfl] at H; exact H
               clear H
               have H := H1
               clear H1
               obtain rfl := Option.some.inj H
               go_wp2
               go_ret
               exact ⟨by first | rfl | (simp [errW_none, errW_some] <;> rfl) | (simp [*, errW_none, errW_some] <;> rfl), bt HB⟩
              ·replace c187 := Bool.eq_false_iff.mpr c187
               subst c187
               have H1 : ((laws_heldLog.f kj140 t286 t287 t304 1).bind fun t322 => (if t322 < 0 then (some false) else (if t322 = t303 then (some true) else (some false)))) = some r := by rw [if_neg (show ¬ (false = true) by decide)] at H; exact H
               clear H
               have H := H1
               clear H1
               replace H := Option.bind_eq_some_iff.mp H
               obtain ⟨t322, A1880, H⟩ := H
               replace H : (if t322 < 0 then (some false) else (if t322 = t303 then (some true) else (some false))) = some r := H
               have A188 := Aside0.mk A1880
               clear A1880
               by_cases c189 : t322 < 0
               ·rw [if_pos c189] at H
                have c189b0 : decide (t322 < 0) = true := decide_eq_true c189
                clear c189
                obtain rfl := Option.some.inj H
                have hnb190 := NB292_258.out
                have hnc190 := NB258_292.out
                have hnb191 := NB292_259.out
                have hnc191 := NB259_292.out
                have hnb192 := NB292_276.out
                have hnc192 := NB276_292.out
                have hnb193 := NB292_282.out
                have hnc193 := NB282_292.out
                have hnb194 := NB292_320.out
                have hnc194 := NB320_292.out
                have hcz195_0 : wc.cell? ⟨gb292, 0, none⟩ = some (.int .i64 t286) := bc BK292 0
                have hcz195_1 : wc.cell? ⟨gb292, 1, none⟩ = some (.int .i64 t287) := bc BK292 1
                have hcz195_2 : wc.cell? ⟨gb292, 2, none⟩ = some (.slice Ao62 t304.length co62) := bc BK292 2
                have hfz195_0 := blk_frozen BK292.out 0
                have hfz195_1 := blk_frozen BK292.out 1
                have hfz195_2 := blk_frozen BK292.out 2
                go_wp2_with (first | ((with_reducible refine gate_callee (f := 50) rfl ?_); refine goesL_ (some 108) rfl rfl Try.func50 (by kernel_rfl) rfl #[.agg #[.int .i64 t286, .int .i64 t287, .slice Ao62 t304.length co62], .int .i64 1] rfl (by (try simp only [List.map_toArray, List.map_cons, List.map_nil]); first | done | rfl | (simp only [List.length_drop, List.length_take]; rfl)) ?_; (with_reducible refine (laws_heldLog.calls kj140 t286 t287 _ _ t304 1 t322 _ ?side1 ?side2 A188.out).mono ?_); (case side1 => repeat (first | exact (Kd.R_reads' HO_293002.out).2.2 | (with_reducible refine Kd.C_alloc ?_ _) | (with_reducible refine Kd.C_drewN ?_ _) | (with_reducible refine Kd.C_drew ?_))); (case side2 => exact (Kd.R_reads' HO_293002.out).2.1); rintro e w196 ⟨rfl, hb⟩; refine ⟨_, rfl, ?_⟩; have n0_ := rb HO_277002 hb; have n1_ := rb HO_283002 hb; have n2_ := rb HO_293002 hb; have n3_ := rb HO_321002 hb; have n4_ := bb BK258 hb; have n5_ := bb BK259 hb; have n6_ := bb BK276 hb; have n7_ := bb BK282 hb; have n8_ := bb BK292 hb; have n9_ := bb BK320 hb; have n10_ := Aside0.mk (below_step (bt HB) hb); clear HO_277002 HO_283002 HO_293002 HO_321002 BK258 BK259 BK276 BK282 BK292 BK320 HB; revert n0_ n1_ n2_ n3_ n4_ n5_ n6_ n7_ n8_ n9_ n10_; intro HO_277002 HO_283002 HO_293002 HO_321002 BK258 BK259 BK276 BK282 BK292 BK320 HB; (try clear hb); (try clear hb2); (try clear hk); (try clear hi)))
                go_ret
                exact ⟨by first | rfl | (simp [errW_none, errW_some] <;> rfl) | (simp [*, errW_none, errW_some] <;> rfl), bt HB⟩
               ·rw [if_neg c189] at H
                have c189b0 : decide (t322 < 0) = false := decide_eq_false c189
                clear c189
                by_cases c197 : t322 = t303
                ·rw [if_pos c197] at H
                 have c197b0 : (t322 == t303) = true := beq_iff_eq.mpr c197
                 have c197b1 : (t322 != t303) = false := bne_eq_false_iff_eq.mpr c197
                 clear c197
                 obtain rfl := Option.some.inj H
                 have hnb198 := NB292_258.out
                 have hnc198 := NB258_292.out
                 have hnb199 := NB292_259.out
                 have hnc199 := NB259_292.out
                 have hnb200 := NB292_276.out
                 have hnc200 := NB276_292.out
                 have hnb201 := NB292_282.out
                 have hnc201 := NB282_292.out
                 have hnb202 := NB292_320.out
                 have hnc202 := NB320_292.out
                 have hcz203_0 : wc.cell? ⟨gb292, 0, none⟩ = some (.int .i64 t286) := bc BK292 0
                 have hcz203_1 : wc.cell? ⟨gb292, 1, none⟩ = some (.int .i64 t287) := bc BK292 1
                 have hcz203_2 : wc.cell? ⟨gb292, 2, none⟩ = some (.slice Ao62 t304.length co62) := bc BK292 2
                 have hfz203_0 := blk_frozen BK292.out 0
                 have hfz203_1 := blk_frozen BK292.out 1
                 have hfz203_2 := blk_frozen BK292.out 2
                 go_wp2_with (first | ((with_reducible refine gate_callee (f := 50) rfl ?_); refine goesL_ (some 108) rfl rfl Try.func50 (by kernel_rfl) rfl #[.agg #[.int .i64 t286, .int .i64 t287, .slice Ao62 t304.length co62], .int .i64 1] rfl (by (try simp only [List.map_toArray, List.map_cons, List.map_nil]); first | done | rfl | (simp only [List.length_drop, List.length_take]; rfl)) ?_; (with_reducible refine (laws_heldLog.calls kj140 t286 t287 _ _ t304 1 t322 _ ?side1 ?side2 A188.out).mono ?_); (case side1 => repeat (first | exact (Kd.R_reads' HO_293002.out).2.2 | (with_reducible refine Kd.C_alloc ?_ _) | (with_reducible refine Kd.C_drewN ?_ _) | (with_reducible refine Kd.C_drew ?_))); (case side2 => exact (Kd.R_reads' HO_293002.out).2.1); rintro e w204 ⟨rfl, hb⟩; refine ⟨_, rfl, ?_⟩; have n0_ := rb HO_277002 hb; have n1_ := rb HO_283002 hb; have n2_ := rb HO_293002 hb; have n3_ := rb HO_321002 hb; have n4_ := bb BK258 hb; have n5_ := bb BK259 hb; have n6_ := bb BK276 hb; have n7_ := bb BK282 hb; have n8_ := bb BK292 hb; have n9_ := bb BK320 hb; have n10_ := Aside0.mk (below_step (bt HB) hb); clear HO_277002 HO_283002 HO_293002 HO_321002 BK258 BK259 BK276 BK282 BK292 BK320 HB; revert n0_ n1_ n2_ n3_ n4_ n5_ n6_ n7_ n8_ n9_ n10_; intro HO_277002 HO_283002 HO_293002 HO_321002 BK258 BK259 BK276 BK282 BK292 BK320 HB; (try clear hb); (try clear hb2); (try clear hk); (try clear hi)))
                 go_ret
                 exact ⟨by first | rfl | (simp [errW_none, errW_some] <;> rfl) | (simp [*, errW_none, errW_some] <;> rfl), bt HB⟩
                ·rw [if_neg c197] at H
                 have c197b0 : (t322 == t303) = false := beq_eq_false_iff_ne.mpr c197
                 have c197b1 : (t322 != t303) = true := bne_iff_ne.mpr c197
                 obtain rfl := Option.some.inj H
                 have hnb205 := NB292_258.out
                 have hnc205 := NB258_292.out
                 have hnb206 := NB292_259.out
                 have hnc206 := NB259_292.out
                 have hnb207 := NB292_276.out
                 have hnc207 := NB276_292.out
                 have hnb208 := NB292_282.out
                 have hnc208 := NB282_292.out
                 have hnb209 := NB292_320.out
                 have hnc209 := NB320_292.out
                 have hcz210_0 : wc.cell? ⟨gb292, 0, none⟩ = some (.int .i64 t286) := bc BK292 0
                 have hcz210_1 : wc.cell? ⟨gb292, 1, none⟩ = some (.int .i64 t287) := bc BK292 1
                 have hcz210_2 : wc.cell? ⟨gb292, 2, none⟩ = some (.slice Ao62 t304.length co62) := bc BK292 2
                 have hfz210_0 := blk_frozen BK292.out 0
                 have hfz210_1 := blk_frozen BK292.out 1
                 have hfz210_2 := blk_frozen BK292.out 2
                 go_wp2_with (first | ((with_reducible refine gate_callee (f := 50) rfl ?_); refine goesL_ (some 108) rfl rfl Try.func50 (by kernel_rfl) rfl #[.agg #[.int .i64 t286, .int .i64 t287, .slice Ao62 t304.length co62], .int .i64 1] rfl (by (try simp only [List.map_toArray, List.map_cons, List.map_nil]); first | done | rfl | (simp only [List.length_drop, List.length_take]; rfl)) ?_; (with_reducible refine (laws_heldLog.calls kj140 t286 t287 _ _ t304 1 t322 _ ?side1 ?side2 A188.out).mono ?_); (case side1 => repeat (first | exact (Kd.R_reads' HO_293002.out).2.2 | (with_reducible refine Kd.C_alloc ?_ _) | (with_reducible refine Kd.C_drewN ?_ _) | (with_reducible refine Kd.C_drew ?_))); (case side2 => exact (Kd.R_reads' HO_293002.out).2.1); rintro e w211 ⟨rfl, hb⟩; refine ⟨_, rfl, ?_⟩; have n0_ := rb HO_277002 hb; have n1_ := rb HO_283002 hb; have n2_ := rb HO_293002 hb; have n3_ := rb HO_321002 hb; have n4_ := bb BK258 hb; have n5_ := bb BK259 hb; have n6_ := bb BK276 hb; have n7_ := bb BK282 hb; have n8_ := bb BK292 hb; have n9_ := bb BK320 hb; have n10_ := Aside0.mk (below_step (bt HB) hb); clear HO_277002 HO_283002 HO_293002 HO_321002 BK258 BK259 BK276 BK282 BK292 BK320 HB; revert n0_ n1_ n2_ n3_ n4_ n5_ n6_ n7_ n8_ n9_ n10_; intro HO_277002 HO_283002 HO_293002 HO_321002 BK258 BK259 BK276 BK282 BK292 BK320 HB; (try clear hb); (try clear hb2); (try clear hk); (try clear hi)))
                 go_ret
                 exact ⟨by first | rfl | (simp [errW_none, errW_some] <;> rfl) | (simp [*, errW_none, errW_some] <;> rfl), bt HB⟩
           ·rw [if_neg c137] at H
            have c137b0 : (t305 == t303) = false := beq_eq_false_iff_ne.mpr c137
            have c137b1 : (t305 != t303) = true := bne_iff_ne.mpr c137
            obtain rfl := Option.some.inj H
            have hnb212 := NB292_258.out
            have hnc212 := NB258_292.out
            have hnb213 := NB292_259.out
            have hnc213 := NB259_292.out
            have hnb214 := NB292_276.out
            have hnc214 := NB276_292.out
            have hnb215 := NB292_282.out
            have hnc215 := NB282_292.out
            have hcz216_0 : wc.cell? ⟨gb292, 0, none⟩ = some (.int .i64 t286) := bc BK292 0
            have hcz216_1 : wc.cell? ⟨gb292, 1, none⟩ = some (.int .i64 t287) := bc BK292 1
            have hcz216_2 : wc.cell? ⟨gb292, 2, none⟩ = some (.slice Ao62 t288.length co62) := bc BK292 2
            have hfz216_0 := blk_frozen BK292.out 0
            have hfz216_1 := blk_frozen BK292.out 1
            have hfz216_2 := blk_frozen BK292.out 2
            go_wp2_with (first | ((with_reducible refine gate_callee (f := 49) rfl ?_); refine goesL_ (some 79) rfl rfl Try.func49 (by kernel_rfl) rfl #[.agg #[.int .i64 t286, .int .i64 t287, .slice Ao62 t288.length co62], .int .i64 1] rfl (by (try simp only [List.map_toArray, List.map_cons, List.map_nil]); first | done | rfl | (simp only [List.length_drop, List.length_take]; rfl)) ?_; (with_reducible refine (laws_markLog.calls kj90 t286 t287 (fun k_ => some k_ = (.slice Ao62 t288.length co62 : Value).ownBlock) (.slice Ao62 t288.length co62) t288 1 t303 t304 w _ ?side1 ?side2 A126.out).mono ?_); (case side1 => repeat (first | (with_reducible first | exact HB.out | apply below_alloc | apply pw_below_drewN | apply below_drew1 | refine below_set ?_ GE258.out | refine below_set ?_ GE259.out | refine below_set ?_ GE276.out | refine below_set ?_ GE282.out | refine below_set ?_ GE292.out) | exact HB.out)); (case side2 => exact Kd.R_tight rfl HO_293002.out); rintro e w217 ⟨rfl, hy0, hb, hkp⟩; refine ⟨_, rfl, ?_⟩; have n0_ := Aside0.mk (Kd.R_mono (ok' := fun k_ => some k_ ≠ (.slice Ao53 t301.length co53 : Value).ownBlock ∧ some k_ ≠ (.slice Ao62 t288.length co62 : Value).ownBlock) (Kd.R_keptB (HO_277002.out) hkp (fun k_ hk_ hs_ => (hk_.2) hs_)) (fun k_ hk_ => ⟨hk_.1.1, hk_.1.2⟩)); have n1_ := Aside0.mk (Kd.R_mono (ok' := fun k_ => some k_ ≠ (.slice Ao43 t272.length co43 : Value).ownBlock ∧ some k_ ≠ (.slice Ao62 t288.length co62 : Value).ownBlock) (Kd.R_keptB (HO_283002.out) hkp (fun k_ hk_ hs_ => (hk_.2) hs_)) (fun k_ hk_ => ⟨hk_.1.1, hk_.1.2⟩)); have n2_ := Aside0.mk (Kd.R_reok rfl hy0 (fun k_ e_ => HO_293002.out.1 k_ e_)); have n3_ := Aside0.mk (blk_kept (bk BK258) hkp (fun hs_ => (fun e_ => (Kd.R_ne HO_293002.out BK258.out (by decide)) e_) hs_)); have n4_ := Aside0.mk (blk_kept (bk BK259) hkp (fun hs_ => (fun e_ => (Kd.R_ne HO_293002.out BK259.out (by decide)) e_) hs_)); have n5_ := Aside0.mk (blk_kept (bk BK276) hkp (fun hs_ => (fun e_ => (Kd.R_ne HO_293002.out BK276.out (by decide)) e_) hs_)); have n6_ := Aside0.mk (blk_kept (bk BK282) hkp (fun hs_ => (fun e_ => (Kd.R_ne HO_293002.out BK282.out (by decide)) e_) hs_)); have n7_ := Aside0.mk (blk_kept (bk BK292) hkp (fun hs_ => (fun e_ => (Kd.R_ne HO_293002.out BK292.out (by decide)) e_) hs_)); have n8_ := Aside0.mk (hb); clear HO_277002 HO_283002 HO_293002 BK258 BK259 BK276 BK282 BK292 HB; revert n0_ n1_ n2_ n3_ n4_ n5_ n6_ n7_ n8_; intro HO_277002 HO_283002 HO_293002 BK258 BK259 BK276 BK282 BK292 HB; (try clear hb); (try clear hkp); (try clear hy0); have hcz218_0 : w217.cell? ⟨gb292, 0, none⟩ = some (.int .i64 t286) := bc BK292 0; have hcz218_1 : w217.cell? ⟨gb292, 1, none⟩ = some (.int .i64 t287) := bc BK292 1; have hcz218_2 : w217.cell? ⟨gb292, 2, none⟩ = some (.slice Ao62 t288.length co62) := bc BK292 2; have hfz218_0 := blk_frozen BK292.out 0; have hfz218_1 := blk_frozen BK292.out 1; have hfz218_2 := blk_frozen BK292.out 2) | ((with_reducible refine gate_callee (f := 50) rfl ?_); refine goesL_ (some 82) rfl rfl Try.func50 (by kernel_rfl) rfl #[.agg #[.int .i64 t286, .int .i64 t287, .slice Ao62 t304.length co62], .int .i64 1] rfl (by (try simp only [List.map_toArray, List.map_cons, List.map_nil]); first | done | (rw [show t304.length = t288.length from (Kd.R_reads' HO_293002.out).1.symm] <;> rfl) | rfl | (simp only [List.length_drop, List.length_take]; rfl)) ?_; (with_reducible refine (laws_heldLog.calls kj90 t286 t287 _ _ t304 1 t305 _ ?side1 ?side2 A127.out).mono ?_); (case side1 => repeat (first | exact (Kd.R_reads' HO_293002.out).2.2 | (with_reducible refine Kd.C_alloc ?_ _) | (with_reducible refine Kd.C_drewN ?_ _) | (with_reducible refine Kd.C_drew ?_))); (case side2 => rw [show t304.length = t288.length from (Kd.R_reads' HO_293002.out).1.symm]; exact (Kd.R_reads' HO_293002.out).2.1); rintro e w219 ⟨rfl, hb⟩; refine ⟨_, rfl, ?_⟩; have n0_ := rb HO_277002 hb; have n1_ := rb HO_283002 hb; have n2_ := rb HO_293002 hb; have n3_ := bb BK258 hb; have n4_ := bb BK259 hb; have n5_ := bb BK276 hb; have n6_ := bb BK282 hb; have n7_ := bb BK292 hb; have n8_ := Aside0.mk (below_step (bt HB) hb); clear HO_277002 HO_283002 HO_293002 BK258 BK259 BK276 BK282 BK292 HB; revert n0_ n1_ n2_ n3_ n4_ n5_ n6_ n7_ n8_; intro HO_277002 HO_283002 HO_293002 BK258 BK259 BK276 BK282 BK292 HB; (try clear hb); (try clear hb2); (try clear hk); (try clear hi)))
            go_ret
            exact ⟨by first | rfl | (simp [errW_none, errW_some] <;> rfl) | (simp [*, errW_none, errW_some] <;> rfl), bt HB⟩
      ·replace c89 := Bool.eq_false_iff.mpr c89
       subst c89
       have H1 : (some false) = some r := by rw [if_neg (show ¬ (false = true) by decide)] at H; exact H
       clear H
       have H := H1
       clear H1
       obtain rfl := Option.some.inj H
       try go_wp2
       have n0_ := Aside0.mk (Kd.R_drew HO_277002.out)
       have n1_ := Aside0.mk (Kd.R_drew HO_283002.out)
       have n2_ := Aside0.mk (Kd.R_drew HO_293002.out)
       have n3_ := Aside0.mk (blk_drew BK258.out)
       have n4_ := Aside0.mk (blk_drew BK259.out)
       have n5_ := Aside0.mk (blk_drew BK276.out)
       have n6_ := Aside0.mk (blk_drew BK282.out)
       have n7_ := Aside0.mk (blk_drew BK292.out)
       have n8_ := Aside0.mk (below_drew1 HB.out)
       clear HO_277002 HO_283002 HO_293002 BK258 BK259 BK276 BK282 BK292 HB
       revert n0_ n1_ n2_ n3_ n4_ n5_ n6_ n7_ n8_
       intro HO_277002 HO_283002 HO_293002 BK258 BK259 BK276 BK282 BK292 HB
       refine start_ (n := 5) (S := fun w' => w'.cell? ⟨gb282, 0, none⟩ = some (.int .i64 t277) ∧ w'.cell? ⟨gb282, 1, none⟩ = some (.int .i64 t278) ∧ w'.cell? ⟨gb282, 2, none⟩ = some (.slice Ao53 t279.length co53) ∧ w'.cell? ⟨gb258, 0, none⟩ = some (.int .i64 a0_0) ∧ w'.cell? ⟨gb258, 1, none⟩ = some (.int .i64 a0_1) ∧ w'.cell? ⟨gb258, 2, none⟩ = some (.slice A0_2 l0_2.length c0_2)) (ds := []) #[false, false, false, false, false] (by kernel_rfl) rfl rfl ⟨bc BK282 0, bc BK282 1, bc BK282 2, bc BK258 0, bc BK258 1, bc BK258 2⟩ (fun hHeld => ?_)
       generalize wc.drew = w220 at HO_277002 HO_283002 HO_293002 BK258 BK259 BK276 BK282 BK292 HB hHeld ⊢
       refine take_ (i := 0) (N := some 56) (v := ?_) (a' := ?_) #[true, false, false, false, false] rfl rfl (by kernel_rfl) (fun _ _ _ h => h) (Or.inl ⟨by rfl, ?_⟩) hHeld ?_ ?_
       rotate_left
       ·rintro w' ⟨s0, s1, s2, s3, s4, s5⟩
        go_simp
        with_reducible rfl
       rotate_left
       ·simp only [Act.put, zA, zB, zC, i64_w, i32_w]
        rfl
       refine take_ (i := 1) (N := some 57) (v := ?_) (a' := ?_) #[true, true, false, false, false] rfl rfl (by kernel_rfl) (fun _ _ _ h => h) (Or.inl ⟨by rfl, ?_⟩) hHeld ?_ ?_
       rotate_left
       ·rintro w' ⟨s0, s1, s2, s3, s4, s5⟩
        go_simp
        with_reducible rfl
       rotate_left
       ·simp only [Act.put, zA, zB, zC, i64_w, i32_w]
        rfl
       refine one_ (i := 2) (N := some 58) #[true, true, true, false, false] rfl rfl (by kernel_rfl) (by decide) (fun K hK => ?_)
       refine goes_ Try.func19 (by kernel_rfl) rfl #[.agg #[.int .i64 a0_0, .int .i64 a0_1, .slice A0_2 l0_2.length c0_2]] (by rfl) rfl rfl (by (try simp only [List.map_toArray, List.map_cons, List.map_nil]); first | done | rfl | (simp only [List.length_drop, List.length_take]; rfl)) ?_
       with_reducible refine (laws_toLog.calls kj25 a0_0 a0_1 _ _ l0_2 t294 t295 t296 _ ?side1 ?side2 A87.out).mono ?_
       (case side1 => repeat (first | exact (Kd.C_below HR0_2.out HB.out) | (with_reducible refine Kd.C_alloc ?_ _) | (with_reducible refine Kd.C_drewN ?_ _) | (with_reducible refine Kd.C_drew ?_)))
       (case side2 => exact HC0_2.out)
       rintro e w221 ⟨v297, rfl, ho0, hb⟩
       refine ⟨_, rfl, ?_⟩
       have n0_ := Aside0.mk (Kd.R_elder' (rk HO_277002) (Kd.R_base ho0) hb)
       have n1_ := Aside0.mk (Kd.R_elder' (rk HO_283002) (Kd.R_base ho0) hb)
       have n2_ := Aside0.mk (Kd.R_elder' (rk HO_293002) (Kd.R_base ho0) hb)
       have n3_ := Aside0.mk (Kd.R_lower (Kd.R_new' (Kd.R_new' (Kd.R_new' ho0 (Kd.R_lt (rk HO_277002))) (Kd.R_lt (rk HO_283002))) (Kd.R_lt (rk HO_293002))) (below_size (bt HB)))
       have n4_ := bb BK258 hb
       have n5_ := bb BK259 hb
       have n6_ := bb BK276 hb
       have n7_ := bb BK282 hb
       have n8_ := bb BK292 hb
       have n9_ := Aside0.mk (below_step (bt HB) hb)
       clear HO_277002 HO_283002 HO_293002 BK258 BK259 BK276 BK282 BK292 HB
       revert n0_ n1_ n2_ n3_ n4_ n5_ n6_ n7_ n8_ n9_
       intro HO_277002 HO_283002 HO_293002 HO298 BK258 BK259 BK276 BK282 BK292 HB
       (try clear hb)
       (try clear hb2)
       (try clear hk)
       (try clear hi)
       (try clear ho0)
       obtain ⟨Ao222, co222, eo222⟩ := Kd.R_slice HO298.out
       (first | subst eo222 | (injection eo222 with f1_ f2_ f3_; have f4_ := f1_.symm; have f5_ := f3_.symm; clear f1_ f2_ f3_; subst f4_; subst f5_))
       refine hK.out _ _ ⟨bc BK282 0, bc BK282 1, bc BK282 2, bc BK258 0, bc BK258 1, bc BK258 2⟩ (fun hHeld => ?_)
       clear hK K
       refine norm_ (a' := ?_) ?_ ?_
       rotate_left
       ·show Act.put _ (some 58) _ = _
        simp only [Act.put, zA, zB, zC, i64_w, i32_w]
        rfl
       refine one_ (i := 3) (N := some 59) #[true, true, true, true, false] rfl rfl (by kernel_rfl) (by decide) (fun K hK => ?_)
       refine goes_ Try.func21 (by kernel_rfl) rfl #[.agg #[.int .i64 t277, .int .i64 t278, .slice Ao53 t279.length co53], .agg #[.int .i64 t294, .int .i64 t295, .slice Ao222 t296.length co222]] (by rfl) rfl rfl (by (try simp only [List.map_toArray, List.map_cons, List.map_nil]); first | done | rfl | (simp only [List.length_drop, List.length_take]; rfl)) ?_
       with_reducible refine (laws_eqLog.calls kj25 t277 t278 _ _ t279 t294 t295 _ _ t296 false _ ?side1 ?side2 ?side3 ?side4 A88.out).mono ?_
       (case side1 => repeat (first | exact (Kd.R_reads' HO_283002.out).2.2 | (with_reducible refine Kd.C_alloc ?_ _) | (with_reducible refine Kd.C_drewN ?_ _) | (with_reducible refine Kd.C_drew ?_)))
       (case side2 => exact (Kd.R_reads' HO_283002.out).2.1)
       (case side3 => repeat (first | exact (Kd.R_reads' HO298.out).2.2 | (with_reducible refine Kd.C_alloc ?_ _) | (with_reducible refine Kd.C_drewN ?_ _) | (with_reducible refine Kd.C_drew ?_)))
       (case side4 => exact (Kd.R_reads' HO298.out).2.1)
       rintro e w223 ⟨rfl, hb⟩
       refine ⟨_, rfl, ?_⟩
       have n0_ := rb HO_277002 hb
       have n1_ := rb HO_283002 hb
       have n2_ := rb HO_293002 hb
       have n3_ := rb HO298 hb
       have n4_ := bb BK258 hb
       have n5_ := bb BK259 hb
       have n6_ := bb BK276 hb
       have n7_ := bb BK282 hb
       have n8_ := bb BK292 hb
       have n9_ := Aside0.mk (below_step (bt HB) hb)
       clear HO_277002 HO_283002 HO_293002 HO298 BK258 BK259 BK276 BK282 BK292 HB
       revert n0_ n1_ n2_ n3_ n4_ n5_ n6_ n7_ n8_ n9_
       intro HO_277002 HO_283002 HO_293002 HO298 BK258 BK259 BK276 BK282 BK292 HB
       (try clear hb)
       (try clear hb2)
       (try clear hk)
       (try clear hi)
       refine hK.out _ _ ⟨bc BK282 0, bc BK282 1, bc BK282 2, bc BK258 0, bc BK258 1, bc BK258 2⟩ (fun hHeld => ?_)
       clear hK K
       refine norm_ (a' := ?_) ?_ ?_
       rotate_left
       ·show Act.put _ (some 59) _ = _
        simp only [Act.put, zA, zB, zC, i64_w, i32_w]
        rfl
       refine pure_ (i := 4) (N := some 60) (v := ?_) (a' := ?_) #[true, true, true, true, true] rfl rfl (by kernel_rfl) (fun _ _ _ h => h) (Or.inl ⟨by rfl, ?_⟩) ?_ ?_
       rotate_left
       ·intro w'
        go_simp
        with_reducible rfl
       rotate_left
       ·simp only [Act.put, zA, zB, zC, i64_w, i32_w]
        rfl
       refine done_ (by kernel_rfl) ?_
       try go_wp2
       go_ret
       exact ⟨by first | rfl | (simp [errW_none, errW_some] <;> rfl) | (simp [*, errW_none, errW_some] <;> rfl), bt HB⟩

end Go.Proofs.Ytpmdcplmnipdeaa.PFnExactLogPut
