/- For every text, the program's ReadConf returns what the reference's ReadConf returns, in memory of its own, and so at a second call: FnExactReadConf returns true. No condition. -/
import Derived.Test.YtpmnepbcbjdkoaaPFnExactReadConfx2
namespace Go.Proofs.Ytpmnepbcbjdkoaa.Pure
open Go.RowKit Go.Proofs.Ytpmnepbcbjdkoaa.PFnExactReadConf Go.Proofs.YtpmnepbcbjdkoaaW.PrintWords Go.Proofs.YtpmnepbcbjdkoaaW.PrintLast Go.Proofs.YtpmnepbcbjdkoaaW.PrintMore

/-! ### texts as lists of bytes -/
theorem bytesOf_range (s : ByteArray) : ∀ b ∈ bytesOf s, 0 ≤ b ∧ b ≤ 255 := by
  intro b hb
  obtain ⟨u, _, rfl⟩ := List.mem_map.1 hb
  have := u.toNat_lt
  omega
theorem bytesOf_inj {s t : ByteArray} (h : bytesOf s = bytesOf t) : s = t := by
  apply ByteArray.ext
  apply Array.toList_inj.1
  unfold bytesOf at h
  refine (List.map_inj_right ?_).1 h
  intro a b hab
  exact UInt8.toNat_inj.1 (by omega)
theorem bytesOf_app (s t : ByteArray) : bytesOf (s ++ t) = bytesOf s ++ bytesOf t := by
  simp [bytesOf]
theorem bytesOf_ext (s : ByteArray) (a b : Nat) : bytesOf (s.extract a b) = ((bytesOf s).drop a).take (b - a) := by
  simp [bytesOf, List.map_take, List.map_drop]
theorem bytesOf_str (xs : List Int) (h : ∀ b ∈ xs, 0 ≤ b ∧ b ≤ 255) : bytesOf (strOfNums xs) = xs := by
  unfold bytesOf
  rw [strOfNums_data, List.map_map]
  conv => rhs; rw [← List.map_id xs]
  refine List.map_congr_left fun b hb => ?_
  have := h b hb
  simp only [Function.comp_apply, id_eq, UInt8.toNat_ofNat']
  omega
theorem str_bytesOf (s : ByteArray) : strOfNums (bytesOf s) = s := bytesOf_inj (bytesOf_str _ (bytesOf_range s))
theorem bytesOf_nil : bytesOf (⟨#[]⟩ : ByteArray) = [] := rfl
theorem toList_iff {s t : ByteArray} : s.toList = t.toList ↔ s = t := by
  constructor
  · intro h
    rw [ByteArray.toList_eq, ByteArray.toList_eq] at h
    exact ByteArray.ext (Array.toList_inj.1 h)
  · rintro rfl; rfl
theorem bt_getElem {s : ByteArray} {i : Int} (h1 : i.toNat < s.size) : (bytesOf s)[i.toNat]? = some (bt s i) := by
  rw [← rd_bytesOf]
  unfold rd
  rw [List.getD_eq_getElem?_getD, List.getElem?_eq_getElem (by rw [bytesOf_length]; exact h1)]; rfl
theorem bytesOf_drop {s : ByteArray} {i : Int} (h0 : 0 ≤ i) (h : i < (s.size : Int)) : (bytesOf s).drop i.toNat = bt s i :: (bytesOf s).drop (i + 1).toNat := by
  have hl : i.toNat < (bytesOf s).length := by rw [bytesOf_length]; omega
  rw [List.drop_eq_getElem_cons hl, show (i + 1).toNat = i.toNat + 1 by omega]
  congr 1
  have := bt_getElem (s := s) (i := i) (by omega)
  rw [List.getElem?_eq_getElem hl] at this
  exact Option.some.inj this
theorem bytesOf_drop_end {s : ByteArray} {i : Int} (h : ¬ i < (s.size : Int)) : (bytesOf s).drop i.toNat = [] := by
  apply List.drop_eq_nil_of_le
  rw [bytesOf_length]; omega
theorem extract_all (s : ByteArray) : s.extract 0 s.size = s := bytesOf_inj (by rw [bytesOf_ext, List.drop_zero, Nat.sub_zero, ← bytesOf_length, List.take_length])
theorem w64 {n : Int} (h0 : -9223372036854775808 ≤ n) (h1 : n ≤ 9223372036854775807) : wrap64 n = n := by
  unfold wrap64; omega
theorem i64wf {n : Int} (h : (Lit.int .i64 n).wf = true) : -9223372036854775808 ≤ n ∧ n ≤ 9223372036854775807 := by
  simp [Lit.wf, IntKind.min, IntKind.max, IntKind.bits, IntKind.signed] at h
  omega
theorem u32wf {n : Int} (h : (Lit.int .u32 n).wf = true) : 0 ≤ n ∧ n ≤ 4294967295 := by
  simp [Lit.wf, IntKind.min, IntKind.max, IntKind.bits, IntKind.signed] at h
  omega
theorem tmod_nat {n : Int} (h : 0 ≤ n) (m : Int) : Int.tmod n m = n % m := Int.tmod_eq_emod_of_nonneg h
theorem tdiv_nat {n : Int} (h : 0 ≤ n) (m : Int) : Int.tdiv n m = n / m := Int.tdiv_eq_ediv_of_nonneg h

theorem drop_rd {l : List Int} {i : Nat} (h : i < l.length) : l.drop i = rd l (i : Int) :: l.drop (i + 1) := by
  rw [List.drop_eq_getElem_cons h]
  congr 1
  unfold rd
  rw [Int.toNat_natCast, List.getD_eq_getElem?_getD, List.getElem?_eq_getElem h]; rfl
theorem take_set_succ {α : Type} (l : List α) (i : Nat) (v : α) (h : i < l.length) : (l.set i v).take (i + 1) = l.take i ++ [v] := by
  rw [List.take_add_one, List.getElem?_set_self h, List.take_set_of_le (Nat.le_refl i)]; rfl
theorem take_rd {l : List Int} {i : Nat} (h : i < l.length) : l.take (i + 1) = l.take i ++ [rd l (i : Int)] := by
  rw [List.take_add_one]
  congr 1
  unfold rd
  rw [Int.toNat_natCast, List.getD_eq_getElem?_getD, List.getElem?_eq_getElem h]; rfl

/-- Rising, each in 1 .. 4, and above p. -/
def riseL : Int → List Int → Bool
  | _, [] => true
  | p, x :: xs => if 1 ≤ x ∧ x ≤ 4 ∧ p < x then riseL x xs else false
theorem riseL_len : ∀ (l : List Int) (p : Int), riseL p l = true → l = [] ∨ p + (l.length : Int) ≤ 4
  | [], _, _ => .inl rfl
  | x :: xs, p, h => by
    simp only [riseL] at h
    by_cases h1 : 1 ≤ x ∧ x ≤ 4 ∧ p < x
    · rw [if_pos h1] at h
      rcases riseL_len xs x h with rfl | h2
      · right; simp; omega
      · right; simp only [List.length_cons]; omega
    · rw [if_neg h1] at h; simp at h
def confC (l : List Int) : Bool := decide (1 ≤ l.length) && riseL 0 l
theorem confC_len {l : List Int} (h : confC l = true) : 1 ≤ l.length ∧ l.length ≤ 4 := by
  unfold confC at h
  simp only [Bool.and_eq_true, decide_eq_true_eq] at h
  rcases riseL_len l 0 h.2 with rfl | h2
  · simp at h
  · omega
theorem riseL_range : ∀ (l : List Int) (p : Int), riseL p l = true → ∀ x ∈ l, 1 ≤ x ∧ x ≤ 4
  | [], _, _, _, h => by simp at h
  | y :: ys, p, h, x, hx => by
    simp only [riseL] at h
    by_cases h1 : 1 ≤ y ∧ y ≤ 4 ∧ p < y
    · rw [if_pos h1] at h
      rcases List.mem_cons.1 hx with rfl | hx
      · omega
      · exact riseL_range ys y h x hx
    · rw [if_neg h1] at h; simp at h
theorem confC_range {l : List Int} (h : confC l = true) : ∀ x ∈ l, 1 ≤ x ∧ x ≤ 4 := by
  unfold confC at h
  simp only [Bool.and_eq_true] at h
  exact riseL_range l 0 h.2
/-- What stands ahead of place i. -/
def prv (l : List Int) (i : Nat) : Int := if i = 0 then 0 else rd l ((i : Int) - 1)
theorem prv_succ (l : List Int) (i : Nat) : prv l (i + 1) = rd l (i : Int) := by
  unfold prv
  rw [if_neg (by omega), show ((i + 1 : Nat) : Int) - 1 = (i : Int) by omega]

def rconfC (s : ByteArray) : List Int × Bool := if confC (bytesOf s) = true then (bytesOf s, true) else ([], false)
theorem take_bytes_succ {s : ByteArray} {i : Nat} (h : i < s.size) : (bytesOf s).take (i + 1) = (bytesOf s).take i ++ [bt s (i : Int)] := by
  rw [take_rd (by rw [bytesOf_length]; exact h), rd_bytesOf]

theorem impl_in_eq (a b c : Int) : impl_in.f a b c = some (decide (b ≤ a ∧ a ≤ c)) := by
  unfold impl_in.f
  by_cases h : a ≥ b
  · rw [if_pos h]; simp [show b ≤ a from h]
  · rw [if_neg h]; simp [show ¬ b ≤ a from h]

theorem impl_ConfOk_l0 (l : List Int) (hl : l.length ≤ 140737488351232) : ∀ (d i : Nat), i + d = l.length →
    Ev (fun k => impl_ConfOk.l0 k l l (l.length : Int) (i : Int)) (riseL (prv l i) (l.drop i) && decide (1 ≤ l.length))
  | 0, i, hd => by
    refine Ev.step (f := fun _ => some (decide ((l.length : Int) ≥ 1))) (fun k => ?_) ?_
    · simp only [impl_ConfOk.l0]; rw [if_neg (by omega)]
    · rw [List.drop_eq_nil_of_le (by omega)]
      have : (true && decide (1 ≤ l.length)) = decide ((l.length : Int) ≥ 1) := by
        rw [Bool.true_and]
        by_cases h : 1 ≤ l.length
        · rw [decide_eq_true h, decide_eq_true (by omega)]
        · rw [decide_eq_false h, decide_eq_false (by omega)]
      simp only [riseL]
      rw [this]
      exact Ev.now _
  | d + 1, i, hd => by
    have ih := impl_ConfOk_l0 l hl d (i + 1) (by omega)
    rw [prv_succ] at ih
    rw [drop_rd (by omega)]
    simp only [riseL]
    have hw : wrap64 ((i : Int) + 1) = ((i + 1 : Nat) : Int) := by rw [w64 (by omega) (by omega)]; rfl
    have hw2 : wrap64 ((i : Int) - 1) = (i : Int) - 1 := w64 (by omega) (by omega)
    by_cases h1 : 1 ≤ rd l (i : Int) ∧ rd l (i : Int) ≤ 4
    · by_cases h2 : prv l i < rd l (i : Int)
      · rw [if_pos ⟨h1.1, h1.2, h2⟩]
        refine Ev.step (f := fun k => impl_ConfOk.l0 k l l (l.length : Int) ((i + 1 : Nat) : Int)) (fun k => ?_) ih
        simp only [impl_ConfOk.l0, impl_in_eq]
        rw [if_pos (by omega), if_pos (by omega), if_pos (by omega), Option.bind_some, if_pos (by simpa using h1), hw, hw2]
        by_cases h3 : (i : Int) > 0
        · unfold prv at h2
          rw [if_neg (by omega)] at h2
          rw [if_pos h3, if_pos (by omega), if_pos (by omega), if_neg (by omega)]
        · rw [if_neg h3]
      · rw [if_neg (fun h => h2 h.2.2)]
        refine Ev.step (f := fun _ => some false) (fun k => ?_) (Ev.now _)
        have h3 : (i : Int) > 0 := by
          rcases Nat.eq_zero_or_pos i with rfl | h3
          · rw [show prv l 0 = 0 from rfl] at h2; omega
          · omega
        unfold prv at h2
        rw [if_neg (by omega)] at h2
        simp only [impl_ConfOk.l0, impl_in_eq]
        rw [if_pos (by omega), if_pos (by omega), if_pos (by omega), Option.bind_some, if_pos (by simpa using h1), hw2, if_pos h3, if_pos (by omega), if_pos (by omega), if_pos (by omega)]
    · rw [if_neg (fun h => h1 ⟨h.1, h.2.1⟩)]
      refine Ev.step (f := fun _ => some false) (fun k => ?_) (Ev.now _)
      simp only [impl_ConfOk.l0, impl_in_eq]
      rw [if_pos (by omega), if_pos (by omega), if_pos (by omega), Option.bind_some, if_neg (by simpa using h1)]
theorem impl_ConfOk_ev (l : List Int) (hl : l.length ≤ 140737488351232) : Ev (fun k => impl_ConfOk.f k l) (confC l) := by
  have h := impl_ConfOk_l0 l hl l.length 0 (by omega)
  unfold confC
  rw [Bool.and_comm]
  exact h

theorem impl_ReadConf_l0 (s : ByteArray) (hs : s.size ≤ 1048576) : ∀ (d i : Nat), i + d = s.size →
    Ev (fun k => impl_ReadConf.l0 k s ((bytesOf s).take i) (s.size : Int) (i : Int)) (rconfC s)
  | 0, i, hd => by
    have hbl := bytesOf_length s
    have e : (bytesOf s).take i = bytesOf s := List.take_of_length_le (by omega)
    rw [e]
    obtain ⟨K, hK⟩ := impl_ConfOk_ev (bytesOf s) (by omega)
    refine ⟨K + 1, fun k hk => ?_⟩
    obtain ⟨k, rfl⟩ : ∃ m, k = m + 1 := ⟨k - 1, by omega⟩
    have e2 : impl_ConfOk.f k (bytesOf s) = some _ := hK k (by omega)
    simp only [impl_ReadConf.l0]
    rw [if_neg (by omega), e2, Option.bind_some]
    unfold rconfC
    by_cases hc : confC (bytesOf s) = true
    · rw [if_pos hc, if_pos hc]
    · rw [if_neg hc, if_neg hc]
  | d + 1, i, hd => by
    have hb := bt_range s (i : Int)
    have hlen : ((bytesOf s).take i).length = i := by rw [List.length_take, bytesOf_length]; omega
    refine Ev.step (f := fun k => impl_ReadConf.l0 k s ((bytesOf s).take (i + 1)) (s.size : Int) ((i + 1 : Nat) : Int)) (fun k => ?_) (impl_ReadConf_l0 s hs d (i + 1) (by omega))
    simp only [impl_ReadConf.l0]
    rw [if_pos (by omega), if_pos (by omega), if_pos (by omega), if_pos (by omega), w64 (n := bt s (i : Int)) (by omega) (by omega), w64 (by omega) (by omega), take_bytes_succ (by omega)]; rfl
theorem impl_ReadConf_ev (s : ByteArray) (hs : s.size ≤ 1048576) : Ev (fun k => impl_ReadConf.f k s) (rconfC s) :=
  impl_ReadConf_l0 s hs s.size 0 (by omega)

theorem spec_l01In_eq (a b c : Int) : spec_l01In.f a b c = some (decide (b ≤ a ∧ a ≤ c)) := by
  unfold spec_l01In.f
  by_cases h : a ≥ b
  · rw [if_pos h]; simp [show b ≤ a from h]
  · rw [if_neg h]; simp [show ¬ b ≤ a from h]

theorem spec_l05Rise_l0 (l : List Int) (hl : l.length ≤ 140737488351232) : ∀ (d i : Nat), i + d = l.length →
    Ev (fun k => spec_l05Rise.l0 k l 1 4 (i : Int)) (riseL (prv l i) (l.drop i))
  | 0, i, hd => by
    refine Ev.step (f := fun _ => some true) (fun k => ?_) ?_
    · simp only [spec_l05Rise.l0]; rw [if_neg (by omega)]
    · rw [List.drop_eq_nil_of_le (by omega)]; exact Ev.now _
  | d + 1, i, hd => by
    have ih := spec_l05Rise_l0 l hl d (i + 1) (by omega)
    rw [prv_succ] at ih
    rw [drop_rd (by omega)]
    simp only [riseL]
    have hw : wrap64 ((i : Int) + 1) = ((i + 1 : Nat) : Int) := by rw [w64 (by omega) (by omega)]; rfl
    have hw2 : wrap64 ((i : Int) - 1) = (i : Int) - 1 := w64 (by omega) (by omega)
    by_cases h1 : 1 ≤ rd l (i : Int) ∧ rd l (i : Int) ≤ 4
    · by_cases h2 : prv l i < rd l (i : Int)
      · rw [if_pos ⟨h1.1, h1.2, h2⟩]
        refine Ev.step (f := fun k => spec_l05Rise.l0 k l 1 4 ((i + 1 : Nat) : Int)) (fun k => ?_) ih
        simp only [spec_l05Rise.l0, spec_l01In_eq]
        rw [if_pos (by omega), if_pos (by omega), Option.bind_some, if_pos (by simpa using h1), hw, hw2]
        by_cases h3 : (i : Int) > 0
        · unfold prv at h2
          rw [if_neg (by omega)] at h2
          rw [if_pos h3, if_pos (by omega), if_pos (by omega), if_neg (by omega)]
        · rw [if_neg h3]
      · rw [if_neg (fun h => h2 h.2.2)]
        refine Ev.step (f := fun _ => some false) (fun k => ?_) (Ev.now _)
        have h3 : (i : Int) > 0 := by
          rcases Nat.eq_zero_or_pos i with rfl | h3
          · rw [show prv l 0 = 0 from rfl] at h2; omega
          · omega
        unfold prv at h2
        rw [if_neg (by omega)] at h2
        simp only [spec_l05Rise.l0, spec_l01In_eq]
        rw [if_pos (by omega), if_pos (by omega), Option.bind_some, if_pos (by simpa using h1), hw2, if_pos h3, if_pos (by omega), if_pos (by omega), if_pos (by omega)]
    · rw [if_neg (fun h => h1 ⟨h.1, h.2.1⟩)]
      refine Ev.step (f := fun _ => some false) (fun k => ?_) (Ev.now _)
      simp only [spec_l05Rise.l0, spec_l01In_eq]
      rw [if_pos (by omega), if_pos (by omega), Option.bind_some, if_neg (by simpa using h1)]
theorem spec_ConfOk_ev (l : List Int) (hl : l.length ≤ 140737488351232) : Ev (fun k => spec_ConfOk.f k l) (confC l) := by
  by_cases h : 1 ≤ l.length ∧ l.length ≤ 4
  · obtain ⟨K, hK⟩ := spec_l05Rise_l0 l hl l.length 0 (by omega)
    refine ⟨K, fun k hk => ?_⟩
    have e : spec_l05Rise.l0 k l 1 4 0 = some _ := hK k hk
    simp only [spec_ConfOk.f, spec_l05Rise.f, spec_l01In_eq]
    rw [Option.bind_some, if_pos (by simp; omega), e, Option.bind_some]
    unfold confC
    rw [decide_eq_true h.1]; rfl
  · refine ⟨0, fun k _ => ?_⟩
    simp only [spec_ConfOk.f, spec_l01In_eq]
    rw [Option.bind_some, if_neg (by simp; omega)]
    cases hc : confC l with
    | false => rfl
    | true => exact absurd (confC_len hc) h

theorem spec_ReadConf_l0 (s : ByteArray) (hs : s.size ≤ 1048576) : ∀ (d i : Nat), i + d = min s.size 5 →
    Ev (fun k => spec_ReadConf.l0 k s ((bytesOf s).take i) (i : Int)) (rconfC s)
  | 0, i, hd => by
    have hbl := bytesOf_length s
    have hlen : ((bytesOf s).take i).length = i := by rw [List.length_take, bytesOf_length]; omega
    by_cases h : i < s.size
    · refine Ev.step (f := fun _ => some ([], false)) (fun k => ?_) ?_
      · simp only [spec_ReadConf.l0]; rw [if_pos (by omega), if_neg (by omega), if_neg (by omega)]
      · have : ¬ confC (bytesOf s) = true := fun h => by have := confC_len h; omega
        unfold rconfC
        rw [if_neg this]; exact Ev.now _
    · have e : (bytesOf s).take i = bytesOf s := List.take_of_length_le (by omega)
      rw [e]
      obtain ⟨K, hK⟩ := spec_ConfOk_ev (bytesOf s) (by omega)
      refine ⟨K + 1, fun k hk => ?_⟩
      obtain ⟨k, rfl⟩ : ∃ m, k = m + 1 := ⟨k - 1, by omega⟩
      have e2 : spec_ConfOk.f k (bytesOf s) = some _ := hK k (by omega)
      simp only [spec_ReadConf.l0]
      rw [if_neg (by omega), if_pos (by omega), e2, Option.bind_some]
      unfold rconfC
      by_cases hc : confC (bytesOf s) = true
      · rw [if_pos hc, if_pos hc]
      · rw [if_neg hc, if_neg hc]
  | d + 1, i, hd => by
    have hb := bt_range s (i : Int)
    have hlen : ((bytesOf s).take i).length = i := by rw [List.length_take, bytesOf_length]; omega
    refine Ev.step (f := fun k => spec_ReadConf.l0 k s ((bytesOf s).take (i + 1)) ((i + 1 : Nat) : Int)) (fun k => ?_) (spec_ReadConf_l0 s hs d (i + 1) (by omega))
    simp only [spec_ReadConf.l0]
    rw [if_pos (by omega), if_pos (by omega), if_pos (by omega), if_pos (by omega), w64 (n := bt s (i : Int)) (by omega) (by omega), w64 (by omega) (by omega), take_bytes_succ (by omega)]; rfl
theorem spec_ReadConf_ev (s : ByteArray) (hs : s.size ≤ 1048576) : Ev (fun k => spec_ReadConf.f k s) (rconfC s) :=
  spec_ReadConf_l0 s hs (min s.size 5) 0 (by omega)

theorem laws_eqIntS_l0 (l : List Int) (hl : l.length ≤ 140737488351232) : ∀ (d i : Nat), i + d = l.length → Ev (fun k => laws_eqIntS.l0 k l l (i : Int)) true
  | 0, i, hd => by
    refine Ev.step (f := fun _ => some true) (fun k => ?_) (Ev.now _)
    simp only [laws_eqIntS.l0]; rw [if_neg (by omega)]
  | d + 1, i, hd => by
    refine Ev.step (f := fun k => laws_eqIntS.l0 k l l ((i + 1 : Nat) : Int)) (fun k => ?_) (laws_eqIntS_l0 l hl d (i + 1) (by omega))
    simp only [laws_eqIntS.l0]
    rw [if_pos (by omega), if_pos (by omega), if_pos (by omega), if_pos trivial, w64 (by omega) (by omega)]; rfl
theorem laws_eqIntS_ev (l : List Int) (hl : l.length ≤ 140737488351232) : Ev (fun k => laws_eqIntS.f k l l) true := by
  obtain ⟨K, hK⟩ := laws_eqIntS_l0 l hl l.length 0 (by omega)
  refine ⟨K, fun k hk => ?_⟩
  have e : laws_eqIntS.l0 k l l 0 = some _ := hK k hk
  simp only [laws_eqIntS.f]
  rw [if_pos trivial, e]

def markI (k : Int) (n : Nat) : List Int := (List.range n).map fun (j : Nat) => k + (j : Int)
theorem markI_len (k : Int) (n : Nat) : (markI k n).length = n := by simp [markI]
theorem markI_succ (k : Int) (n : Nat) : markI k (n + 1) = markI k n ++ [k + (n : Int)] := by simp [markI, List.range_succ]
theorem rd_markI {k : Int} {n i : Nat} (h : i < n) : rd (markI k n) (i : Int) = k + (i : Int) := by
  unfold rd markI
  rw [Int.toNat_natCast, List.getD_eq_getElem?_getD, List.getElem?_map, List.getElem?_range h]; rfl

theorem laws_markIntS_l0 (k0 : Int) (n : Nat) (h0 : 0 ≤ k0) (hk : k0 + (n : Int) ≤ 4611686018427387904) : ∀ (d i : Nat) (x : List Int), i + d = n → x.length = n → x.take i = markI k0 i →
    Ev (fun k => laws_markIntS.l0 k x (k0 + (i : Int)) (i : Int)) (k0 + (n : Int), markI k0 n)
  | 0, i, x, hd, hx, ht => by
    refine Ev.step (f := fun _ => some (k0 + (i : Int), x)) (fun k => ?_) ?_
    · simp only [laws_markIntS.l0]; rw [if_neg (by omega)]
    · have e : x = markI k0 n := by rw [← List.take_of_length_le (i := i) (l := x) (by omega), ht, show i = n by omega]
      rw [e, show i = n by omega]; exact Ev.now _
  | d + 1, i, x, hd, hx, ht => by
    refine Ev.step (f := fun k => laws_markIntS.l0 k (x.set i (k0 + (i : Int))) (k0 + ((i + 1 : Nat) : Int)) ((i + 1 : Nat) : Int)) (fun k => ?_) (laws_markIntS_l0 k0 n h0 hk d (i + 1) _ (by omega) (by rw [List.length_set]; exact hx) ?_)
    · simp only [laws_markIntS.l0]
      rw [if_pos (by omega), if_pos (by omega), w64 (by omega) (by omega), w64 (by omega) (by omega), Int.toNat_natCast, show k0 + (i : Int) + 1 = k0 + ((i + 1 : Nat) : Int) by omega]; rfl
    · rw [take_set_succ _ _ _ (by omega), ht, markI_succ]
theorem laws_markIntS_ev (l : List Int) (k0 : Int) (h0 : 0 ≤ k0) (hk : k0 + (l.length : Int) ≤ 4611686018427387904) : Ev (fun k => laws_markIntS.f k l k0) (k0 + (l.length : Int), markI k0 l.length) := by
  have h := laws_markIntS_l0 k0 l.length h0 hk l.length 0 l (by omega) rfl (by simp [markI])
  rw [show k0 + ((0 : Nat) : Int) = k0 by omega] at h
  exact h

theorem laws_heldIntS_l0 (k0 : Int) (n : Nat) (h0 : 0 ≤ k0) (hk : k0 + (n : Int) ≤ 4611686018427387904) : ∀ (d i : Nat), i + d = n →
    Ev (fun k => laws_heldIntS.l0 k (markI k0 n) (k0 + (i : Int)) (i : Int)) (k0 + (n : Int))
  | 0, i, hd => by
    have hl := markI_len k0 n
    refine Ev.step (f := fun _ => some (k0 + (i : Int))) (fun k => ?_) ?_
    · simp only [laws_heldIntS.l0]; rw [if_neg (by omega)]
    · rw [show i = n by omega]; exact Ev.now _
  | d + 1, i, hd => by
    have hl := markI_len k0 n
    refine Ev.step (f := fun k => laws_heldIntS.l0 k (markI k0 n) (k0 + ((i + 1 : Nat) : Int)) ((i + 1 : Nat) : Int)) (fun k => ?_) (laws_heldIntS_l0 k0 n h0 hk d (i + 1) (by omega))
    simp only [laws_heldIntS.l0]
    rw [if_pos (by omega), if_pos (by omega), rd_markI (by omega), if_pos rfl, w64 (by omega) (by omega), w64 (by omega) (by omega), show k0 + (i : Int) + 1 = k0 + ((i + 1 : Nat) : Int) by omega]; rfl
theorem laws_heldIntS_ev (k0 : Int) (n : Nat) (h0 : 0 ≤ k0) (hk : k0 + (n : Int) ≤ 4611686018427387904) : Ev (fun k => laws_heldIntS.f k (markI k0 n) k0) (k0 + (n : Int)) := by
  have h := laws_heldIntS_l0 k0 n h0 hk n 0 (by omega)
  rw [show k0 + ((0 : Nat) : Int) = k0 by omega] at h
  exact h

theorem FnExactReadConf : laws_FnExactReadConf.Pure := by
  intro s _
  by_cases hb : (s.size : Int) > 1048576
  · exact ⟨0, by simp only [laws_FnExactReadConf.f]; rw [if_pos hb]⟩
  · have hlen : (rconfC s).1.length ≤ 1048576 := by
      unfold rconfC
      have := bytesOf_length s
      split <;> simp <;> omega
    obtain ⟨K1, h1⟩ := spec_ReadConf_ev s (by omega)
    obtain ⟨K2, h2⟩ := impl_ReadConf_ev s (by omega)
    obtain ⟨K3, h3⟩ := laws_eqIntS_ev (rconfC s).1 (by omega)
    obtain ⟨K4, h4⟩ := laws_markIntS_ev (rconfC s).1 1 (by omega) (by omega)
    obtain ⟨K5, h5⟩ := laws_heldIntS_ev 1 (rconfC s).1.length (by omega) (by omega)
    have key : ∀ k, K1 + K2 + K3 + K4 + K5 ≤ k → laws_FnExactReadConf.f (k + 2) s = some true := by
      intro k hk
      have a1 : spec_ReadConf.f (k + 2) s = some _ := h1 _ (by omega)
      have a2 : impl_ReadConf.f (k + 2) s = some _ := h2 _ (by omega)
      have a3 : laws_eqIntS.f (k + 2) (rconfC s).1 (rconfC s).1 = some true := h3 _ (by omega)
      have b2 : impl_ReadConf.f (k + 1) s = some _ := h2 _ (by omega)
      have b3 : laws_eqIntS.f (k + 1) (rconfC s).1 (rconfC s).1 = some true := h3 _ (by omega)
      have b4 : laws_markIntS.f (k + 1) (rconfC s).1 1 = some _ := h4 _ (by omega)
      have b5 : laws_heldIntS.f (k + 1) (markI 1 (rconfC s).1.length) 1 = some _ := h5 _ (by omega)
      have c5 : laws_heldIntS.f k (markI 1 (rconfC s).1.length) 1 = some _ := h5 _ (by omega)
      simp only [laws_FnExactReadConf.f]
      rw [if_neg hb, a1, Option.bind_some, a2, Option.bind_some, a3, Option.bind_some, if_pos rfl, show ((rconfC s).2 != (rconfC s).2) = false by simp]
      simp only [laws_FnExactReadConf.j0]
      rw [if_neg (by simp), b4, Option.bind_some, b5, Option.bind_some, if_neg (by omega), if_pos rfl, b2, Option.bind_some, b3, Option.bind_some, if_pos rfl, show ((rconfC s).2 != (rconfC s).2) = false by simp]
      simp only [laws_FnExactReadConf.j1]
      rw [if_neg (by simp), c5, Option.bind_some, if_neg (by omega), if_pos rfl]
    exact ⟨_, key _ (Nat.le_refl _)⟩

end Go.Proofs.Ytpmnepbcbjdkoaa.Pure
