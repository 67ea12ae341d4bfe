/- For every log, the program's LogLast returns what the reference's LogLast returns, and leaves the log as it was: FnExactLogLast returns true. No condition. -/
import Derived.Test.YtpmnepbcbjdkoaaPFnExactLogLastx3
namespace Go.Proofs.Ytpmnepbcbjdkoaa.Pure
open Go.RowKit Go.Proofs.Ytpmnepbcbjdkoaa.PFnExactLogLast Go.Proofs.YtpmnepbcbjdkoaaW.PrintWords Go.Proofs.YtpmnepbcbjdkoaaW.PrintLast Go.Proofs.YtpmnepbcbjdkoaaW.PrintMore

theorem drop_getD {α : Type} {l : List α} (z : α) {i : Nat} (h : i < l.length) : l.drop i = l.getD i z :: l.drop (i + 1) := by
  rw [List.drop_eq_getElem_cons h]
  congr 1
  rw [List.getD_eq_getElem?_getD, List.getElem?_eq_getElem h]; rfl
theorem take_getD {α : Type} {l : List α} (z : α) {i : Nat} (h : i < l.length) : l.take (i + 1) = l.take i ++ [l.getD i z] := by
  rw [List.take_add_one]
  congr 1
  rw [List.getD_eq_getElem?_getD, List.getElem?_eq_getElem h]; rfl
theorem getD_mem {α : Type} {l : List α} (z : α) {i : Nat} (h : i < l.length) : l.getD i z ∈ l := by
  rw [List.getD_eq_getElem?_getD, List.getElem?_eq_getElem h]
  exact List.getElem_mem h

/-! ### texts as lists of bytes -/
theorem bytesOf_range (s : ByteArray) : ∀ b ∈ bytesOf s, 0 ≤ b ∧ b ≤ 255 := by
  intro b hb
  obtain ⟨u, _, rfl⟩ := List.mem_map.1 hb
  have := u.toNat_lt
  omega
theorem bytesOf_inj {s t : ByteArray} (h : bytesOf s = bytesOf t) : s = t := by
  apply ByteArray.ext
  apply Array.toList_inj.1
  unfold bytesOf at h
  refine (List.map_inj_right ?_).1 h
  intro a b hab
  exact UInt8.toNat_inj.1 (by omega)
theorem bytesOf_app (s t : ByteArray) : bytesOf (s ++ t) = bytesOf s ++ bytesOf t := by
  simp [bytesOf]
theorem bytesOf_ext (s : ByteArray) (a b : Nat) : bytesOf (s.extract a b) = ((bytesOf s).drop a).take (b - a) := by
  simp [bytesOf, List.map_take, List.map_drop]
theorem bytesOf_str (xs : List Int) (h : ∀ b ∈ xs, 0 ≤ b ∧ b ≤ 255) : bytesOf (strOfNums xs) = xs := by
  unfold bytesOf
  rw [strOfNums_data, List.map_map]
  conv => rhs; rw [← List.map_id xs]
  refine List.map_congr_left fun b hb => ?_
  have := h b hb
  simp only [Function.comp_apply, id_eq, UInt8.toNat_ofNat']
  omega
theorem str_bytesOf (s : ByteArray) : strOfNums (bytesOf s) = s := bytesOf_inj (bytesOf_str _ (bytesOf_range s))
theorem bytesOf_nil : bytesOf (⟨#[]⟩ : ByteArray) = [] := rfl
theorem toList_iff {s t : ByteArray} : s.toList = t.toList ↔ s = t := by
  constructor
  · intro h
    rw [ByteArray.toList_eq, ByteArray.toList_eq] at h
    exact ByteArray.ext (Array.toList_inj.1 h)
  · rintro rfl; rfl
theorem bt_getElem {s : ByteArray} {i : Int} (h1 : i.toNat < s.size) : (bytesOf s)[i.toNat]? = some (bt s i) := by
  rw [← rd_bytesOf]
  unfold rd
  rw [List.getD_eq_getElem?_getD, List.getElem?_eq_getElem (by rw [bytesOf_length]; exact h1)]; rfl
theorem bytesOf_drop {s : ByteArray} {i : Int} (h0 : 0 ≤ i) (h : i < (s.size : Int)) : (bytesOf s).drop i.toNat = bt s i :: (bytesOf s).drop (i + 1).toNat := by
  have hl : i.toNat < (bytesOf s).length := by rw [bytesOf_length]; omega
  rw [List.drop_eq_getElem_cons hl, show (i + 1).toNat = i.toNat + 1 by omega]
  congr 1
  have := bt_getElem (s := s) (i := i) (by omega)
  rw [List.getElem?_eq_getElem hl] at this
  exact Option.some.inj this
theorem bytesOf_drop_end {s : ByteArray} {i : Int} (h : ¬ i < (s.size : Int)) : (bytesOf s).drop i.toNat = [] := by
  apply List.drop_eq_nil_of_le
  rw [bytesOf_length]; omega
theorem extract_all (s : ByteArray) : s.extract 0 s.size = s := bytesOf_inj (by rw [bytesOf_ext, List.drop_zero, Nat.sub_zero, ← bytesOf_length, List.take_length])
theorem w64 {n : Int} (h0 : -9223372036854775808 ≤ n) (h1 : n ≤ 9223372036854775807) : wrap64 n = n := by
  unfold wrap64; omega
theorem i64wf {n : Int} (h : (Lit.int .i64 n).wf = true) : -9223372036854775808 ≤ n ∧ n ≤ 9223372036854775807 := by
  simp [Lit.wf, IntKind.min, IntKind.max, IntKind.bits, IntKind.signed] at h
  omega
theorem u32wf {n : Int} (h : (Lit.int .u32 n).wf = true) : 0 ≤ n ∧ n ≤ 4294967295 := by
  simp [Lit.wf, IntKind.min, IntKind.max, IntKind.bits, IntKind.signed] at h
  omega
theorem tmod_nat {n : Int} (h : 0 ≤ n) (m : Int) : Int.tmod n m = n % m := Int.tmod_eq_emod_of_nonneg h
theorem tdiv_nat {n : Int} (h : 0 ≤ n) (m : Int) : Int.tdiv n m = n / m := Int.tdiv_eq_ediv_of_nonneg h

def lastC (a b : Int) (l : List S37) : Int × Int := if l.length = 0 then (a, b) else (wrap64 (a + (l.length : Int)), (l.getD (l.length - 1) z37).f0)
theorem spec_LogLast_eq (a b : Int) (l : List S37) (hl : l.length ≤ 1048576) : spec_LogLast.f a b l = some (lastC a b l) := by
  simp only [spec_LogLast.f, lastC, rd_T37]
  by_cases h : l.length = 0
  · rw [if_pos (by omega), if_pos h]
  · rw [if_neg (by omega), if_neg h, w64 (n := (l.length : Int) - 1) (by omega) (by omega), if_pos (by omega), if_pos (by omega), show ((l.length : Int) - 1).toNat = l.length - 1 by omega]

theorem impl_LogLast_eq (a b : Int) (l : List S37) (hl : l.length ≤ 1048576) : impl_LogLast.f a b l = some (lastC a b l) := by
  simp only [impl_LogLast.f, lastC, rd_T37]
  by_cases h : l.length = 0
  · rw [if_pos (by omega), if_pos h]
  · rw [if_neg (by omega), if_neg h, w64 (n := (l.length : Int) - 1) (by omega) (by omega), if_pos (by omega), if_pos (by omega), show ((l.length : Int) - 1).toNat = l.length - 1 by omega]

theorem laws_szEntry_eq (t k : Int) (d : ByteArray) (left : Int) (hl : 0 ≤ left) (hl2 : left ≤ 1048576) (hd : d.size ≤ 9223372036854775807) :
    laws_szEntry.f t k d left = some (if left - (d.size : Int) < 0 then -1 else left - (d.size : Int)) := by
  simp only [laws_szEntry.f]
  rw [w64 (by omega) (by omega)]
  by_cases h : left - (d.size : Int) < 0
  · rw [if_pos h, if_pos h]
  · rw [if_neg h, if_neg h]

theorem drop_rd {l : List Int} {i : Nat} (h : i < l.length) : l.drop i = rd l (i : Int) :: l.drop (i + 1) := by
  rw [List.drop_eq_getElem_cons h]
  congr 1
  unfold rd
  rw [Int.toNat_natCast, List.getD_eq_getElem?_getD, List.getElem?_eq_getElem h]; rfl
theorem take_set_succ {α : Type} (l : List α) (i : Nat) (v : α) (h : i < l.length) : (l.set i v).take (i + 1) = l.take i ++ [v] := by
  rw [List.take_add_one, List.getElem?_set_self h, List.take_set_of_le (Nat.le_refl i)]; rfl
theorem take_rd {l : List Int} {i : Nat} (h : i < l.length) : l.take (i + 1) = l.take i ++ [rd l (i : Int)] := by
  rw [List.take_add_one]
  congr 1
  unfold rd
  rw [Int.toNat_natCast, List.getD_eq_getElem?_getD, List.getElem?_eq_getElem h]; rfl

theorem laws_szEntryS_l0 (l : List S34) (hlen : l.length ≤ 1048576) (hd : ∀ y ∈ l, y.f2.size ≤ 9223372036854775807) : ∀ (d i : Nat) (left : Int), i + d = l.length → 0 ≤ left → left ≤ 1048576 →
    ∃ r, Ev (fun k => laws_szEntryS.l0 k l left (i : Int)) r ∧ (0 ≤ r → r ≤ left ∧ ∀ y ∈ l.drop i, (y.f2.size : Int) ≤ left)
  | 0, i, left, hi, h0, h1 => by
    refine ⟨left, ?_, fun _ => ⟨Int.le_refl _, ?_⟩⟩
    · refine Ev.step (f := fun _ => some left) (fun k => ?_) (Ev.now _)
      simp only [laws_szEntryS.l0]; rw [if_neg (by omega)]
    · rw [List.drop_eq_nil_of_le (by omega)]; simp
  | d + 1, i, left, hi, h0, h1 => by
    have hm := hd _ (getD_mem z34 (l := l) (i := i) (by omega))
    have e := laws_szEntry_eq (l.getD i z34).f0 (l.getD i z34).f1 (l.getD i z34).f2 left h0 h1 hm
    by_cases h : left - ((l.getD i z34).f2.size : Int) < 0
    · rw [if_pos h] at e
      refine ⟨-1, ?_, fun h => by omega⟩
      refine Ev.step (f := fun _ => some (-1)) (fun k => ?_) (Ev.now _)
      simp only [laws_szEntryS.l0, rd_T34]
      rw [if_pos (by omega), if_pos (by omega), Int.toNat_natCast, e, Option.bind_some, if_pos (by omega)]
    · rw [if_neg h] at e
      obtain ⟨r, ⟨K, hK⟩, hr⟩ := laws_szEntryS_l0 l hlen hd d (i + 1) (left - ((l.getD i z34).f2.size : Int)) (by omega) (by omega) (by omega)
      refine ⟨r, ⟨K + 1, fun k hk => ?_⟩, fun h => ?_⟩
      · obtain ⟨k, rfl⟩ : ∃ m, k = m + 1 := ⟨k - 1, by omega⟩
        have e2 : laws_szEntryS.l0 k l (left - ((l.getD i z34).f2.size : Int)) ((i + 1 : Nat) : Int) = some _ := hK k (by omega)
        simp only [laws_szEntryS.l0, rd_T34]
        rw [if_pos (by omega), if_pos (by omega), Int.toNat_natCast, e, Option.bind_some, if_neg (by omega), w64 (by omega) (by omega), show (i : Int) + 1 = ((i + 1 : Nat) : Int) by omega, e2]
      · have h2 := hr h
        refine ⟨by omega, fun y hy => ?_⟩
        rw [drop_getD z34 (by omega)] at hy
        rcases List.mem_cons.1 hy with rfl | hy
        · omega
        · have := h2.2 y hy; omega
theorem laws_szEntryS_ev (l : List S34) (hlen : l.length ≤ 9223372036854775807) (hd : ∀ y ∈ l, y.f2.size ≤ 9223372036854775807) (left : Int) (h0 : 0 ≤ left) (h1 : left ≤ 1048576) :
    ∃ r, Ev (fun k => laws_szEntryS.f k l left) r ∧ (0 ≤ r → r ≤ left ∧ (l.length : Int) ≤ left ∧ ∀ y ∈ l, (y.f2.size : Int) ≤ left) := by
  by_cases h : left - (l.length : Int) < 0
  · refine ⟨-1, ⟨0, fun k _ => ?_⟩, fun h => by omega⟩
    simp only [laws_szEntryS.f]
    rw [w64 (by omega) (by omega), if_pos h]
  · obtain ⟨r, ⟨K, hK⟩, hr⟩ := laws_szEntryS_l0 l (by omega) hd l.length 0 (left - (l.length : Int)) (by omega) (by omega) (by omega)
    refine ⟨r, ⟨K, fun k hk => ?_⟩, fun h => ?_⟩
    · have e2 : laws_szEntryS.l0 k l (left - (l.length : Int)) 0 = some _ := hK k hk
      simp only [laws_szEntryS.f]
      rw [w64 (by omega) (by omega), if_neg h, e2]
    · have h2 := hr h
      rw [List.drop_zero] at h2
      exact ⟨by omega, by omega, fun y hy => by have := h2.2 y hy; omega⟩

theorem laws_szLog_ev (a b : Int) (l : List S34) (hlen : l.length ≤ 9223372036854775807) (hd : ∀ y ∈ l, y.f2.size ≤ 9223372036854775807) (left : Int) (h0 : 0 ≤ left) (h1 : left ≤ 1048576) :
    ∃ r, Ev (fun k => laws_szLog.f k a b l left) r ∧ (0 ≤ r → r ≤ left ∧ (l.length : Int) ≤ left ∧ ∀ y ∈ l, (y.f2.size : Int) ≤ left) := by
  obtain ⟨r, ⟨K, hK⟩, hr⟩ := laws_szEntryS_ev l hlen hd left h0 h1
  by_cases h : r < 0
  · refine ⟨-1, ⟨K, fun k hk => ?_⟩, fun h => by omega⟩
    have e : laws_szEntryS.f k l left = some _ := hK k hk
    simp only [laws_szLog.f]
    rw [e, Option.bind_some, if_pos h]
  · refine ⟨r, ⟨K, fun k hk => ?_⟩, hr⟩
    have e : laws_szEntryS.f k l left = some _ := hK k hk
    simp only [laws_szLog.f]
    rw [e, Option.bind_some, if_neg h]

def cvE (y : S34) : S37 := ⟨y.f0, y.f1, y.f2⟩
theorem laws_toEntryS_l0 (l : List S34) (hl : l.length ≤ 1048576) : ∀ (d i : Nat) (x : List S37), i + d = l.length → x.length = l.length → x.take i = (l.take i).map cvE →
    Ev (fun k => laws_toEntryS.l0 k l x (i : Int)) (l.map cvE)
  | 0, i, x, hd, hx, ht => by
    refine Ev.step (f := fun _ => some x) (fun k => ?_) ?_
    · simp only [laws_toEntryS.l0]; rw [if_neg (by omega)]
    · have : x = l.map cvE := by rw [← List.take_of_length_le (i := i) (l := x) (by omega), ht, List.take_of_length_le (by omega)]
      rw [this]; exact Ev.now _
  | d + 1, i, x, hd, hx, ht => by
    refine Ev.step (f := fun k => laws_toEntryS.l0 k l (x.set i (cvE (l.getD i z34))) ((i + 1 : Nat) : Int)) (fun k => ?_) (laws_toEntryS_l0 l hl d (i + 1) _ (by omega) (by rw [List.length_set]; exact hx) ?_)
    · simp only [laws_toEntryS.l0, laws_toEntry.f, rd_T34]
      rw [if_pos (by omega), if_pos (by omega), Option.bind_some, if_pos (by omega), w64 (by omega) (by omega), Int.toNat_natCast]; rfl
    · rw [take_set_succ _ _ _ (by omega), ht, take_getD z34 (by omega), List.map_append]; rfl
theorem laws_toEntryS_ev (l : List S34) (hl : l.length ≤ 1048576) : Ev (fun k => laws_toEntryS.f k l) (l.map cvE) := by
  obtain ⟨K, hK⟩ := laws_toEntryS_l0 l hl l.length 0 (List.replicate l.length z37) (by omega) (by simp) (by simp)
  refine ⟨K, fun k hk => ?_⟩
  have e : laws_toEntryS.l0 k l (List.replicate l.length z37) 0 = some _ := hK k hk
  simp only [laws_toEntryS.f]
  rw [if_pos (by omega), if_pos (by omega), Int.toNat_natCast, e]

theorem laws_toLog_ev (a b : Int) (l : List S34) (hl : l.length ≤ 1048576) : Ev (fun k => laws_toLog.f k a b l) (a, b, l.map cvE) := by
  obtain ⟨K, hK⟩ := laws_toEntryS_ev l hl
  refine ⟨K, fun k hk => ?_⟩
  have e : laws_toEntryS.f k l = some _ := hK k hk
  simp only [laws_toLog.f]
  rw [e, Option.bind_some]

theorem laws_eqEntry_self (a b : Int) (c : ByteArray) : laws_eqEntry.f a b c a b c = some true := by
  simp only [laws_eqEntry.f, if_true]
theorem laws_eqEntryS_l0 (l : List S37) (hl : l.length ≤ 140737488351232) : ∀ (d i : Nat), i + d = l.length → Ev (fun k => laws_eqEntryS.l0 k l l (i : Int)) true
  | 0, i, hd => by
    refine Ev.step (f := fun _ => some true) (fun k => ?_) (Ev.now _)
    simp only [laws_eqEntryS.l0]; rw [if_neg (by omega)]
  | d + 1, i, hd => by
    refine Ev.step (f := fun k => laws_eqEntryS.l0 k l l ((i + 1 : Nat) : Int)) (fun k => ?_) (laws_eqEntryS_l0 l hl d (i + 1) (by omega))
    simp only [laws_eqEntryS.l0]
    rw [if_pos (by omega), if_pos (by omega), if_pos (by omega), laws_eqEntry_self, Option.bind_some, if_pos rfl, w64 (by omega) (by omega)]; rfl
theorem laws_eqEntryS_ev (l : List S37) (hl : l.length ≤ 140737488351232) : Ev (fun k => laws_eqEntryS.f k l l) true := by
  obtain ⟨K, hK⟩ := laws_eqEntryS_l0 l hl l.length 0 (by omega)
  refine ⟨K, fun k hk => ?_⟩
  have e : laws_eqEntryS.l0 k l l 0 = some _ := hK k hk
  simp only [laws_eqEntryS.f]
  rw [if_pos trivial, e]

theorem laws_eqLog_ev (a b : Int) (l : List S37) (hl : l.length ≤ 140737488351232) : Ev (fun k => laws_eqLog.f k a b l a b l) true := by
  obtain ⟨K, hK⟩ := laws_eqEntryS_ev l hl
  refine ⟨K, fun k hk => ?_⟩
  have e : laws_eqEntryS.f k l l = some _ := hK k hk
  simp only [laws_eqLog.f, if_true]
  rw [e, Option.bind_some, if_pos rfl]

theorem FnExactLogLast (a0_0 : Int) (a0_1 : Int) (l0_2 : List S34) (_ : (Lit.int .i64 a0_0).wf = true) (_ : (Lit.int .i64 a0_1).wf = true) (g2 : (l0_2.length ≤ 9223372036854775807 ∧ ∀ y ∈ l0_2, (Lit.int .i64 y.f0).wf = true ∧ (Lit.int .i64 y.f1).wf = true ∧ y.f2.size ≤ maxLen)) : ∃ k, laws_FnExactLogLast.f k a0_0 a0_1 l0_2 = some true := by
  obtain ⟨r, ⟨K1, h1⟩, hr⟩ := laws_szLog_ev a0_0 a0_1 l0_2 g2.1 (fun y hy => by have := (g2.2 y hy).2.2; simpa [maxLen] using this) 1048576 (by omega) (by omega)
  by_cases hneg : r < 0
  · refine ⟨K1, ?_⟩
    have e1 : laws_szLog.f K1 a0_0 a0_1 l0_2 1048576 = some _ := h1 K1 (Nat.le_refl _)
    simp only [laws_FnExactLogLast.f]
    rw [e1, Option.bind_some, if_pos hneg]
  · have hb := hr (by omega)
    have hlen : (l0_2.map cvE).length ≤ 1048576 := by rw [List.length_map]; omega
    obtain ⟨K2, h2⟩ := laws_toLog_ev a0_0 a0_1 l0_2 (by omega)
    obtain ⟨K3, h3⟩ := laws_eqLog_ev a0_0 a0_1 (l0_2.map cvE) (by omega)
    have key : ∀ k, K1 + K2 + K3 ≤ k → laws_FnExactLogLast.f (k + 1) a0_0 a0_1 l0_2 = some true := by
      intro k hk
      have e1 : laws_szLog.f (k + 1) a0_0 a0_1 l0_2 1048576 = some _ := h1 _ (by omega)
      have e2 : laws_toLog.f (k + 1) a0_0 a0_1 l0_2 = some _ := h2 _ (by omega)
      have f2 : laws_toLog.f k a0_0 a0_1 l0_2 = some _ := h2 _ (by omega)
      have f3 : laws_eqLog.f k a0_0 a0_1 (l0_2.map cvE) a0_0 a0_1 (l0_2.map cvE) = some _ := h3 _ (by omega)
      simp only [laws_FnExactLogLast.f]
      rw [e1, Option.bind_some, if_neg hneg, e2, Option.bind_some, spec_LogLast_eq _ _ _ hlen, Option.bind_some, Option.bind_some, impl_LogLast_eq _ _ _ hlen, Option.bind_some, if_pos rfl, show ((lastC a0_0 a0_1 (l0_2.map cvE)).2 != (lastC a0_0 a0_1 (l0_2.map cvE)).2) = false by simp]
      simp only [laws_FnExactLogLast.j0]
      rw [if_neg (by simp), f2, Option.bind_some, f3, Option.bind_some, if_pos rfl]
    exact ⟨_, key _ (Nat.le_refl _)⟩

end Go.Proofs.Ytpmnepbcbjdkoaa.Pure
