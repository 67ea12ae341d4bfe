/- For every disk and every name, the program's FileAt returns what the reference's FileAt returns, and leaves the disk as it was: FnExactFileAt returns true. No condition. -/
import Derived.Test.YtpmnepbcbjdkoaaQFnExactFileAtx2
namespace Go.Proofs.Ytpmnepbcbjdkoaa.Pure
open Go.RowKit Go.Proofs.Ytpmnepbcbjdkoaa.PFnExactFileAt Go.Proofs.YtpmnepbcbjdkoaaW.PrintWords Go.Proofs.YtpmnepbcbjdkoaaW.PrintLast Go.Proofs.YtpmnepbcbjdkoaaW.PrintMore

theorem drop_getD {α : Type} {l : List α} (z : α) {i : Nat} (h : i < l.length) : l.drop i = l.getD i z :: l.drop (i + 1) := by
  rw [List.drop_eq_getElem_cons h]
  congr 1
  rw [List.getD_eq_getElem?_getD, List.getElem?_eq_getElem h]; rfl
theorem take_getD {α : Type} {l : List α} (z : α) {i : Nat} (h : i < l.length) : l.take (i + 1) = l.take i ++ [l.getD i z] := by
  rw [List.take_add_one]
  congr 1
  rw [List.getD_eq_getElem?_getD, List.getElem?_eq_getElem h]; rfl
theorem getD_mem {α : Type} {l : List α} (z : α) {i : Nat} (h : i < l.length) : l.getD i z ∈ l := by
  rw [List.getD_eq_getElem?_getD, List.getElem?_eq_getElem h]
  exact List.getElem_mem h

theorem rdF (l : List S97) (i : Nat) : rd_T97 l (i : Int) = l.getD i z97 := by unfold rd_T97; rw [Int.toNat_natCast]
theorem rdF' (l : List S97) {i : Nat} (h : 0 < i) : rd_T97 l ((i : Int) - 1) = l.getD (i - 1) z97 := by unfold rd_T97; rw [show ((i : Int) - 1).toNat = i - 1 by omega]

/-! ### texts as lists of bytes -/
theorem bytesOf_range (s : ByteArray) : ∀ b ∈ bytesOf s, 0 ≤ b ∧ b ≤ 255 := by
  intro b hb
  obtain ⟨u, _, rfl⟩ := List.mem_map.1 hb
  have := u.toNat_lt
  omega
theorem bytesOf_inj {s t : ByteArray} (h : bytesOf s = bytesOf t) : s = t := by
  apply ByteArray.ext
  apply Array.toList_inj.1
  unfold bytesOf at h
  refine (List.map_inj_right ?_).1 h
  intro a b hab
  exact UInt8.toNat_inj.1 (by omega)
theorem bytesOf_app (s t : ByteArray) : bytesOf (s ++ t) = bytesOf s ++ bytesOf t := by
  simp [bytesOf]
theorem bytesOf_ext (s : ByteArray) (a b : Nat) : bytesOf (s.extract a b) = ((bytesOf s).drop a).take (b - a) := by
  simp [bytesOf, List.map_take, List.map_drop]
theorem bytesOf_str (xs : List Int) (h : ∀ b ∈ xs, 0 ≤ b ∧ b ≤ 255) : bytesOf (strOfNums xs) = xs := by
  unfold bytesOf
  rw [strOfNums_data, List.map_map]
  conv => rhs; rw [← List.map_id xs]
  refine List.map_congr_left fun b hb => ?_
  have := h b hb
  simp only [Function.comp_apply, id_eq, UInt8.toNat_ofNat']
  omega
theorem str_bytesOf (s : ByteArray) : strOfNums (bytesOf s) = s := bytesOf_inj (bytesOf_str _ (bytesOf_range s))
theorem bytesOf_nil : bytesOf (⟨#[]⟩ : ByteArray) = [] := rfl
theorem toList_iff {s t : ByteArray} : s.toList = t.toList ↔ s = t := by
  constructor
  · intro h
    rw [ByteArray.toList_eq, ByteArray.toList_eq] at h
    exact ByteArray.ext (Array.toList_inj.1 h)
  · rintro rfl; rfl
theorem bt_getElem {s : ByteArray} {i : Int} (h1 : i.toNat < s.size) : (bytesOf s)[i.toNat]? = some (bt s i) := by
  rw [← rd_bytesOf]
  unfold rd
  rw [List.getD_eq_getElem?_getD, List.getElem?_eq_getElem (by rw [bytesOf_length]; exact h1)]; rfl
theorem bytesOf_drop {s : ByteArray} {i : Int} (h0 : 0 ≤ i) (h : i < (s.size : Int)) : (bytesOf s).drop i.toNat = bt s i :: (bytesOf s).drop (i + 1).toNat := by
  have hl : i.toNat < (bytesOf s).length := by rw [bytesOf_length]; omega
  rw [List.drop_eq_getElem_cons hl, show (i + 1).toNat = i.toNat + 1 by omega]
  congr 1
  have := bt_getElem (s := s) (i := i) (by omega)
  rw [List.getElem?_eq_getElem hl] at this
  exact Option.some.inj this
theorem bytesOf_drop_end {s : ByteArray} {i : Int} (h : ¬ i < (s.size : Int)) : (bytesOf s).drop i.toNat = [] := by
  apply List.drop_eq_nil_of_le
  rw [bytesOf_length]; omega
theorem extract_all (s : ByteArray) : s.extract 0 s.size = s := bytesOf_inj (by rw [bytesOf_ext, List.drop_zero, Nat.sub_zero, ← bytesOf_length, List.take_length])
theorem w64 {n : Int} (h0 : -9223372036854775808 ≤ n) (h1 : n ≤ 9223372036854775807) : wrap64 n = n := by
  unfold wrap64; omega
theorem i64wf {n : Int} (h : (Lit.int .i64 n).wf = true) : -9223372036854775808 ≤ n ∧ n ≤ 9223372036854775807 := by
  simp [Lit.wf, IntKind.min, IntKind.max, IntKind.bits, IntKind.signed] at h
  omega
theorem u32wf {n : Int} (h : (Lit.int .u32 n).wf = true) : 0 ≤ n ∧ n ≤ 4294967295 := by
  simp [Lit.wf, IntKind.min, IntKind.max, IntKind.bits, IntKind.signed] at h
  omega
theorem tmod_nat {n : Int} (h : 0 ≤ n) (m : Int) : Int.tmod n m = n % m := Int.tmod_eq_emod_of_nonneg h
theorem tdiv_nat {n : Int} (h : 0 ≤ n) (m : Int) : Int.tdiv n m = n / m := Int.tdiv_eq_ediv_of_nonneg h

/-- Where the name a stands, counted from i; -1 where it does not. -/
def fIdx (a : ByteArray) (l : List S97) (i : Nat) : Int := Lib.idxByFrom (fun _ (y : S97) => (y.f0.toList == a.toList)) default l i
theorem fIdx_bounds (a : ByteArray) : ∀ (l : List S97) (i : Nat), fIdx a l i = -1 ∨ ((i : Int) ≤ fIdx a l i ∧ fIdx a l i < (i : Int) + (l.length : Int))
  | [], _ => .inl rfl
  | x :: xs, i => by
    unfold fIdx Lib.idxByFrom
    by_cases h : (x.f0.toList == a.toList) = true
    · rw [if_pos h]; right; simp only [List.length_cons]; omega
    · rw [if_neg h]
      rcases fIdx_bounds a xs (i + 1) with h1 | h1
      · exact .inl h1
      · right
        unfold fIdx at h1
        simp only [List.length_cons]
        omega
def atFC (a : ByteArray) (l : List S97) : ByteArray × Bool := if fIdx a l 0 < 0 then (⟨#[]⟩, false) else ((rd_T97 l (fIdx a l 0)).f1, true)
theorem spec_l03At_l0 (a : ByteArray) (l : List S97) (hl : l.length ≤ 1048576) : ∀ (d i : Nat), i + d = l.length → Ev (fun k => spec_l03At.l0 k a (i : Int) l) (fIdx a (l.drop i) i)
  | 0, i, hd => by
    refine Ev.step (f := fun _ => some (-1)) (fun k => ?_) ?_
    · simp only [spec_l03At.l0]; rw [if_neg (by omega)]
    · rw [List.drop_eq_nil_of_le (by omega)]; exact Ev.now _
  | d + 1, i, hd => by
    have ih := spec_l03At_l0 a l hl d (i + 1) (by omega)
    rw [drop_getD z97 (by omega)]
    unfold fIdx Lib.idxByFrom
    have hw : wrap64 ((i : Int) + 1) = ((i + 1 : Nat) : Int) := by rw [w64 (by omega) (by omega)]; rfl
    by_cases h : ((l.getD i z97).f0.toList == a.toList) = true
    · rw [if_pos h]
      refine Ev.step (f := fun _ => some (i : Int)) (fun k => ?_) (Ev.now _)
      simp only [spec_l03At.l0]
      rw [if_pos (by omega), if_pos (by omega), rdF, if_pos (beq_iff_eq.mp h)]
    · rw [if_neg h]
      refine Ev.step (f := fun k => spec_l03At.l0 k a ((i + 1 : Nat) : Int) l) (fun k => ?_) ih
      simp only [spec_l03At.l0]
      rw [if_pos (by omega), if_pos (by omega), rdF, if_neg (fun e => h (beq_iff_eq.mpr e)), hw]
theorem spec_FileAt_ev (a : ByteArray) (l : List S97) (hl : l.length ≤ 1048576) : Ev (fun k => spec_FileAt.f k l a) (atFC a l) := by
  obtain ⟨K, hK⟩ := spec_l03At_l0 a l hl l.length 0 (by omega)
  refine ⟨K, fun k hk => ?_⟩
  have e : spec_l03At.l0 k a 0 l = some (fIdx a l 0) := hK k hk
  simp only [spec_FileAt.f, spec_l03At.f, e, Option.bind_some, atFC]
  by_cases h : fIdx a l 0 < 0
  · rw [if_pos h, if_pos h]
  · have := fIdx_bounds a l 0
    rw [if_neg h, if_neg h, if_pos (by omega), if_pos (by omega)]
theorem impl_FileAt_eq (a : ByteArray) (l : List S97) : impl_FileAt.f l a = some (atFC a l) := by
  simp only [impl_FileAt.f, impl_place.f, Option.bind_some, atFC]
  change (if fIdx a l 0 < 0 then _ else _) = _
  by_cases h : fIdx a l 0 < 0
  · rw [if_pos h, if_pos h]
  · have := fIdx_bounds a l 0
    rw [if_neg h, if_neg h, if_pos (by show 0 ≤ fIdx a l 0; omega), if_pos (by show fIdx a l 0 < _; omega)]
    rfl

theorem laws_szFile_eq (n t : ByteArray) (q : Int) (left : Int) (hl : 0 ≤ left) (hl2 : left ≤ 1048576) (hn : n.size ≤ 9223372036854775807) (ht : t.size ≤ 9223372036854775807) :
    laws_szFile.f n t q left = some (if left - (n.size : Int) < 0 then -1 else if left - (n.size : Int) - (t.size : Int) < 0 then -1 else left - (n.size : Int) - (t.size : Int)) := by
  simp only [laws_szFile.f]
  rw [w64 (n := left - (n.size : Int)) (by omega) (by omega)]
  by_cases h : left - (n.size : Int) < 0
  · rw [if_pos h, if_pos h]
  · rw [if_neg h, if_neg h, w64 (by omega) (by omega)]
    by_cases h2 : left - (n.size : Int) - (t.size : Int) < 0
    · rw [if_pos h2, if_pos h2]
    · rw [if_neg h2, if_neg h2]

theorem drop_rd {l : List Int} {i : Nat} (h : i < l.length) : l.drop i = rd l (i : Int) :: l.drop (i + 1) := by
  rw [List.drop_eq_getElem_cons h]
  congr 1
  unfold rd
  rw [Int.toNat_natCast, List.getD_eq_getElem?_getD, List.getElem?_eq_getElem h]; rfl
theorem take_set_succ {α : Type} (l : List α) (i : Nat) (v : α) (h : i < l.length) : (l.set i v).take (i + 1) = l.take i ++ [v] := by
  rw [List.take_add_one, List.getElem?_set_self h, List.take_set_of_le (Nat.le_refl i)]; rfl
theorem take_rd {l : List Int} {i : Nat} (h : i < l.length) : l.take (i + 1) = l.take i ++ [rd l (i : Int)] := by
  rw [List.take_add_one]
  congr 1
  unfold rd
  rw [Int.toNat_natCast, List.getD_eq_getElem?_getD, List.getElem?_eq_getElem h]; rfl

theorem laws_szFileS_l0 (l : List S113) (hlen : l.length ≤ 1048576) (hd : ∀ y ∈ l, y.f0.size ≤ 9223372036854775807 ∧ y.f1.size ≤ 9223372036854775807) : ∀ (d i : Nat) (left : Int), i + d = l.length → 0 ≤ left → left ≤ 1048576 →
    ∃ r, Ev (fun k => laws_szFileS.l0 k l left (i : Int)) r ∧ (0 ≤ r → r ≤ left ∧ ∀ y ∈ l.drop i, (y.f0.size : Int) ≤ left ∧ (y.f1.size : Int) ≤ left)
  | 0, i, left, hi, h0, h1 => by
    refine ⟨left, ?_, fun _ => ⟨Int.le_refl _, ?_⟩⟩
    · refine Ev.step (f := fun _ => some left) (fun k => ?_) (Ev.now _)
      simp only [laws_szFileS.l0]; rw [if_neg (by omega)]
    · rw [List.drop_eq_nil_of_le (by omega)]; simp
  | d + 1, i, left, hi, h0, h1 => by
    have hm := hd _ (getD_mem z113 (l := l) (i := i) (by omega))
    have e := laws_szFile_eq (l.getD i z113).f0 (l.getD i z113).f1 (l.getD i z113).f2 left h0 h1 hm.1 hm.2
    by_cases h : left - ((l.getD i z113).f0.size : Int) < 0 ∨ left - ((l.getD i z113).f0.size : Int) - ((l.getD i z113).f1.size : Int) < 0
    · have e1 : laws_szFile.f (l.getD i z113).f0 (l.getD i z113).f1 (l.getD i z113).f2 left = some (-1) := by
        rw [e]
        rcases h with h | h
        · rw [if_pos h]
        · by_cases h2 : left - ((l.getD i z113).f0.size : Int) < 0
          · rw [if_pos h2]
          · rw [if_neg h2, if_pos h]
      refine ⟨-1, ?_, fun h => by omega⟩
      refine Ev.step (f := fun _ => some (-1)) (fun k => ?_) (Ev.now _)
      simp only [laws_szFileS.l0, rd_T113]
      rw [if_pos (by omega), if_pos (by omega), Int.toNat_natCast, e1, Option.bind_some, if_pos (by omega)]
    · rw [if_neg (fun h2 => h (.inl h2)), if_neg (fun h2 => h (.inr h2))] at e
      obtain ⟨r, ⟨K, hK⟩, hr⟩ := laws_szFileS_l0 l hlen hd d (i + 1) (left - ((l.getD i z113).f0.size : Int) - ((l.getD i z113).f1.size : Int)) (by omega) (by omega) (by omega)
      refine ⟨r, ⟨K + 1, fun k hk => ?_⟩, fun h => ?_⟩
      · obtain ⟨k, rfl⟩ : ∃ m, k = m + 1 := ⟨k - 1, by omega⟩
        have e2 : laws_szFileS.l0 k l (left - ((l.getD i z113).f0.size : Int) - ((l.getD i z113).f1.size : Int)) ((i + 1 : Nat) : Int) = some _ := hK k (by omega)
        simp only [laws_szFileS.l0, rd_T113]
        rw [if_pos (by omega), if_pos (by omega), Int.toNat_natCast, e, Option.bind_some, if_neg (by omega), w64 (by omega) (by omega), show (i : Int) + 1 = ((i + 1 : Nat) : Int) by omega, e2]
      · have h2 := hr h
        refine ⟨by omega, fun y hy => ?_⟩
        rw [drop_getD z113 (by omega)] at hy
        rcases List.mem_cons.1 hy with rfl | hy
        · omega
        · have := h2.2 y hy; omega
theorem laws_szFileS_ev (l : List S113) (hlen : l.length ≤ 9223372036854775807) (hd : ∀ y ∈ l, y.f0.size ≤ 9223372036854775807 ∧ y.f1.size ≤ 9223372036854775807) (left : Int) (h0 : 0 ≤ left) (h1 : left ≤ 1048576) :
    ∃ r, Ev (fun k => laws_szFileS.f k l left) r ∧ (0 ≤ r → r ≤ left ∧ (l.length : Int) ≤ left ∧ ∀ y ∈ l, (y.f0.size : Int) ≤ left ∧ (y.f1.size : Int) ≤ left) := by
  by_cases h : left - (l.length : Int) < 0
  · refine ⟨-1, ⟨0, fun k _ => ?_⟩, fun h => by omega⟩
    simp only [laws_szFileS.f]
    rw [w64 (by omega) (by omega), if_pos h]
  · obtain ⟨r, ⟨K, hK⟩, hr⟩ := laws_szFileS_l0 l (by omega) hd l.length 0 (left - (l.length : Int)) (by omega) (by omega) (by omega)
    refine ⟨r, ⟨K, fun k hk => ?_⟩, fun h => ?_⟩
    · have e2 : laws_szFileS.l0 k l (left - (l.length : Int)) 0 = some _ := hK k hk
      simp only [laws_szFileS.f]
      rw [w64 (by omega) (by omega), if_neg h, e2]
    · have h2 := hr h
      rw [List.drop_zero] at h2
      exact ⟨by omega, by omega, fun y hy => by have := h2.2 y hy; omega⟩

theorem laws_szDisk_ev (l : List S113) (hlen : l.length ≤ 9223372036854775807) (hd : ∀ y ∈ l, y.f0.size ≤ 9223372036854775807 ∧ y.f1.size ≤ 9223372036854775807) (left : Int) (h0 : 0 ≤ left) (h1 : left ≤ 1048576) :
    ∃ r, Ev (fun k => laws_szDisk.f k l left) r ∧ (0 ≤ r → r ≤ left ∧ (l.length : Int) ≤ left ∧ ∀ y ∈ l, (y.f0.size : Int) ≤ left ∧ (y.f1.size : Int) ≤ left) := by
  obtain ⟨r, ⟨K, hK⟩, hr⟩ := laws_szFileS_ev l hlen hd left h0 h1
  by_cases h : r < 0
  · refine ⟨-1, ⟨K, fun k hk => ?_⟩, fun h => by omega⟩
    have e : laws_szFileS.f k l left = some _ := hK k hk
    simp only [laws_szDisk.f]
    rw [e, Option.bind_some, if_pos h]
  · refine ⟨r, ⟨K, fun k hk => ?_⟩, hr⟩
    have e : laws_szFileS.f k l left = some _ := hK k hk
    simp only [laws_szDisk.f]
    rw [e, Option.bind_some, if_neg h]

def cvF (y : S113) : S97 := ⟨y.f0, y.f1, y.f2⟩
theorem laws_toFileS_l0 (l : List S113) (hl : l.length ≤ 1048576) : ∀ (d i : Nat) (x : List S97), i + d = l.length → x.length = l.length → x.take i = (l.take i).map cvF →
    Ev (fun k => laws_toFileS.l0 k l x (i : Int)) (l.map cvF)
  | 0, i, x, hd, hx, ht => by
    refine Ev.step (f := fun _ => some x) (fun k => ?_) ?_
    · simp only [laws_toFileS.l0]; rw [if_neg (by omega)]
    · have : x = l.map cvF := by rw [← List.take_of_length_le (i := i) (l := x) (by omega), ht, List.take_of_length_le (by omega)]
      rw [this]; exact Ev.now _
  | d + 1, i, x, hd, hx, ht => by
    refine Ev.step (f := fun k => laws_toFileS.l0 k l (x.set i (cvF (l.getD i z113))) ((i + 1 : Nat) : Int)) (fun k => ?_) (laws_toFileS_l0 l hl d (i + 1) _ (by omega) (by rw [List.length_set]; exact hx) ?_)
    · simp only [laws_toFileS.l0, laws_toFile.f, rd_T113]
      rw [if_pos (by omega), if_pos (by omega), Option.bind_some, if_pos (by omega), w64 (by omega) (by omega), Int.toNat_natCast]; rfl
    · rw [take_set_succ _ _ _ (by omega), ht, take_getD z113 (by omega), List.map_append]; rfl
theorem laws_toFileS_ev (l : List S113) (hl : l.length ≤ 1048576) : Ev (fun k => laws_toFileS.f k l) (l.map cvF) := by
  obtain ⟨K, hK⟩ := laws_toFileS_l0 l hl l.length 0 (List.replicate l.length z97) (by omega) (by simp) (by simp)
  refine ⟨K, fun k hk => ?_⟩
  have e : laws_toFileS.l0 k l (List.replicate l.length z97) 0 = some _ := hK k hk
  simp only [laws_toFileS.f]
  rw [if_pos (by omega), if_pos (by omega), Int.toNat_natCast, e]

theorem laws_toDisk_ev (l : List S113) (hl : l.length ≤ 1048576) : Ev (fun k => laws_toDisk.f k l) (l.map cvF) := by
  obtain ⟨K, hK⟩ := laws_toFileS_ev l hl
  refine ⟨K, fun k hk => ?_⟩
  have e : laws_toFileS.f k l = some _ := hK k hk
  simp only [laws_toDisk.f]
  rw [e, Option.bind_some]

theorem laws_eqFile_self (a b : ByteArray) (c : Int) : laws_eqFile.f a b c a b c = some true := by
  simp only [laws_eqFile.f, if_true]
theorem laws_eqFileS_l0 (l : List S97) (hl : l.length ≤ 140737488351232) : ∀ (d i : Nat), i + d = l.length → Ev (fun k => laws_eqFileS.l0 k l l (i : Int)) true
  | 0, i, hd => by
    refine Ev.step (f := fun _ => some true) (fun k => ?_) (Ev.now _)
    simp only [laws_eqFileS.l0]; rw [if_neg (by omega)]
  | d + 1, i, hd => by
    refine Ev.step (f := fun k => laws_eqFileS.l0 k l l ((i + 1 : Nat) : Int)) (fun k => ?_) (laws_eqFileS_l0 l hl d (i + 1) (by omega))
    simp only [laws_eqFileS.l0]
    rw [if_pos (by omega), if_pos (by omega), if_pos (by omega), laws_eqFile_self, Option.bind_some, if_pos rfl, w64 (by omega) (by omega)]; rfl
theorem laws_eqFileS_ev (l : List S97) (hl : l.length ≤ 140737488351232) : Ev (fun k => laws_eqFileS.f k l l) true := by
  obtain ⟨K, hK⟩ := laws_eqFileS_l0 l hl l.length 0 (by omega)
  refine ⟨K, fun k hk => ?_⟩
  have e : laws_eqFileS.l0 k l l 0 = some _ := hK k hk
  simp only [laws_eqFileS.f]
  rw [if_pos trivial, e]

theorem laws_eqDisk_ev (l : List S97) (hl : l.length ≤ 140737488351232) : Ev (fun k => laws_eqDisk.f k l l) true := by
  obtain ⟨K, hK⟩ := laws_eqFileS_ev l hl
  refine ⟨K, fun k hk => ?_⟩
  have e : laws_eqFileS.f k l l = some _ := hK k hk
  simp only [laws_eqDisk.f]
  rw [e, Option.bind_some, if_pos rfl]

theorem FnExactFileAt (l : List S113) (a1 : ByteArray) (g0 : (l.length ≤ 9223372036854775807 ∧ ∀ y ∈ l, y.f0.size ≤ maxLen ∧ y.f1.size ≤ maxLen ∧ (Lit.int .i64 y.f2).wf = true)) (_g1 : a1.size ≤ maxLen) : ∃ k, laws_FnExactFileAt.f k l a1 = some true := by
  by_cases hbig : (a1.size : Int) > 1048576
  · refine ⟨0, ?_⟩
    simp only [laws_FnExactFileAt.f]
    rw [if_pos hbig]
  obtain ⟨r, ⟨K1, h1⟩, hr⟩ := laws_szDisk_ev l g0.1 (fun y hy => by have := g0.2 y hy; simp only [maxLen] at this; exact ⟨this.1, this.2.1⟩) 1048576 (by omega) (by omega)
  by_cases hneg : r < 0
  · refine ⟨K1, ?_⟩
    have e1 : laws_szDisk.f K1 l 1048576 = some _ := h1 K1 (Nat.le_refl _)
    simp only [laws_FnExactFileAt.f]
    rw [if_neg hbig, e1, Option.bind_some, if_pos hneg]
  · have hb := hr (by omega)
    have hlen : (l.map cvF).length ≤ 1048576 := by rw [List.length_map]; omega
    obtain ⟨K2, h2⟩ := laws_toDisk_ev l (by omega)
    obtain ⟨K3, h3⟩ := laws_eqDisk_ev (l.map cvF) (by omega)
    obtain ⟨K4, h4⟩ := spec_FileAt_ev a1 (l.map cvF) hlen
    refine ⟨K1 + K2 + K3 + K4 + 1, ?_⟩
    have e1 : laws_szDisk.f (K1 + K2 + K3 + K4 + 1) l 1048576 = some _ := h1 _ (by omega)
    have e2 : laws_toDisk.f (K1 + K2 + K3 + K4 + 1) l = some _ := h2 _ (by omega)
    have e2' : laws_toDisk.f (K1 + K2 + K3 + K4) l = some _ := h2 _ (by omega)
    have e3 : laws_eqDisk.f (K1 + K2 + K3 + K4) (l.map cvF) (l.map cvF) = some _ := h3 _ (by omega)
    have e4 : spec_FileAt.f (K1 + K2 + K3 + K4 + 1) (l.map cvF) a1 = some _ := h4 _ (by omega)
    simp only [laws_FnExactFileAt.f]
    rw [if_neg hbig, e1, Option.bind_some, if_neg hneg, e2, Option.bind_some, e4, Option.bind_some, Option.bind_some, impl_FileAt_eq, Option.bind_some, if_pos rfl]
    simp only [laws_FnExactFileAt.j0]
    rw [if_neg (by simp), e2', Option.bind_some, e3, Option.bind_some, if_pos rfl]

end Go.Proofs.Ytpmnepbcbjdkoaa.Pure
