/- For every text, the program's Unhex returns what the reference's Unhex returns: FnExactUnhex returns true. No condition. -/
import Derived.Test.YtmnejhmilbnldaaQFnExactUnhexx1
namespace Go.Proofs.Ytmnejhmilbnldaa.Pure
open Go.RowKit Go.Proofs.Ytmnejhmilbnldaa.PFnExactUnhex Go.Proofs.YtmnejhmilbnldaaW.PrintWords Go.Proofs.YtmnejhmilbnldaaW.PrintLast Go.Proofs.YtmnejhmilbnldaaW.PrintMore

/-! ### texts as lists of bytes -/
theorem bytesOf_range (s : ByteArray) : ∀ b ∈ bytesOf s, 0 ≤ b ∧ b ≤ 255 := by
  intro b hb
  obtain ⟨u, _, rfl⟩ := List.mem_map.1 hb
  have := u.toNat_lt
  omega
theorem bytesOf_inj {s t : ByteArray} (h : bytesOf s = bytesOf t) : s = t := by
  apply ByteArray.ext
  apply Array.toList_inj.1
  unfold bytesOf at h
  refine (List.map_inj_right ?_).1 h
  intro a b hab
  exact UInt8.toNat_inj.1 (by omega)
theorem bytesOf_app (s t : ByteArray) : bytesOf (s ++ t) = bytesOf s ++ bytesOf t := by
  simp [bytesOf]
theorem bytesOf_ext (s : ByteArray) (a b : Nat) : bytesOf (s.extract a b) = ((bytesOf s).drop a).take (b - a) := by
  simp [bytesOf, List.map_take, List.map_drop]
theorem bytesOf_str (xs : List Int) (h : ∀ b ∈ xs, 0 ≤ b ∧ b ≤ 255) : bytesOf (strOfNums xs) = xs := by
  unfold bytesOf
  rw [strOfNums_data, List.map_map]
  conv => rhs; rw [← List.map_id xs]
  refine List.map_congr_left fun b hb => ?_
  have := h b hb
  simp only [Function.comp_apply, id_eq, UInt8.toNat_ofNat']
  omega
theorem str_bytesOf (s : ByteArray) : strOfNums (bytesOf s) = s := bytesOf_inj (bytesOf_str _ (bytesOf_range s))
theorem bytesOf_nil : bytesOf (⟨#[]⟩ : ByteArray) = [] := rfl
theorem toList_iff {s t : ByteArray} : s.toList = t.toList ↔ s = t := by
  constructor
  · intro h
    rw [ByteArray.toList_eq, ByteArray.toList_eq] at h
    exact ByteArray.ext (Array.toList_inj.1 h)
  · rintro rfl; rfl
theorem bt_getElem {s : ByteArray} {i : Int} (h1 : i.toNat < s.size) : (bytesOf s)[i.toNat]? = some (bt s i) := by
  rw [← rd_bytesOf]
  unfold rd
  rw [List.getD_eq_getElem?_getD, List.getElem?_eq_getElem (by rw [bytesOf_length]; exact h1)]; rfl
theorem bytesOf_drop {s : ByteArray} {i : Int} (h0 : 0 ≤ i) (h : i < (s.size : Int)) : (bytesOf s).drop i.toNat = bt s i :: (bytesOf s).drop (i + 1).toNat := by
  have hl : i.toNat < (bytesOf s).length := by rw [bytesOf_length]; omega
  rw [List.drop_eq_getElem_cons hl, show (i + 1).toNat = i.toNat + 1 by omega]
  congr 1
  have := bt_getElem (s := s) (i := i) (by omega)
  rw [List.getElem?_eq_getElem hl] at this
  exact Option.some.inj this
theorem bytesOf_drop_end {s : ByteArray} {i : Int} (h : ¬ i < (s.size : Int)) : (bytesOf s).drop i.toNat = [] := by
  apply List.drop_eq_nil_of_le
  rw [bytesOf_length]; omega
theorem extract_all (s : ByteArray) : s.extract 0 s.size = s := bytesOf_inj (by rw [bytesOf_ext, List.drop_zero, Nat.sub_zero, ← bytesOf_length, List.take_length])
theorem w64 {n : Int} (h0 : -9223372036854775808 ≤ n) (h1 : n ≤ 9223372036854775807) : wrap64 n = n := by
  unfold wrap64; omega
theorem i64wf {n : Int} (h : (Lit.int .i64 n).wf = true) : -9223372036854775808 ≤ n ∧ n ≤ 9223372036854775807 := by
  simp [Lit.wf, IntKind.min, IntKind.max, IntKind.bits, IntKind.signed] at h
  omega
theorem u32wf {n : Int} (h : (Lit.int .u32 n).wf = true) : 0 ≤ n ∧ n ≤ 4294967295 := by
  simp [Lit.wf, IntKind.min, IntKind.max, IntKind.bits, IntKind.signed] at h
  omega
theorem tmod_nat {n : Int} (h : 0 ≤ n) (m : Int) : Int.tmod n m = n % m := Int.tmod_eq_emod_of_nonneg h
theorem tdiv_nat {n : Int} (h : 0 ≤ n) (m : Int) : Int.tdiv n m = n / m := Int.tdiv_eq_ediv_of_nonneg h

theorem drop_rd {l : List Int} {i : Nat} (h : i < l.length) : l.drop i = rd l (i : Int) :: l.drop (i + 1) := by
  rw [List.drop_eq_getElem_cons h]
  congr 1
  unfold rd
  rw [Int.toNat_natCast, List.getD_eq_getElem?_getD, List.getElem?_eq_getElem h]; rfl
theorem take_set_succ {α : Type} (l : List α) (i : Nat) (v : α) (h : i < l.length) : (l.set i v).take (i + 1) = l.take i ++ [v] := by
  rw [List.take_add_one, List.getElem?_set_self h, List.take_set_of_le (Nat.le_refl i)]; rfl
theorem take_rd {l : List Int} {i : Nat} (h : i < l.length) : l.take (i + 1) = l.take i ++ [rd l (i : Int)] := by
  rw [List.take_add_one]
  congr 1
  unfold rd
  rw [Int.toNat_natCast, List.getD_eq_getElem?_getD, List.getElem?_eq_getElem h]; rfl

theorem bits_low7 {n : Int} (h0 : 0 ≤ n) (h1 : n ≤ 9223372036854775807) : Go.bits .and .i64 n 127 = n % 128 :=
  bits_mask .i64 63 (by decide) (fun n h0 h1 => by rw [IntKind.wrap_i64]; omega) 7 (by decide) n h0 (by omega)
theorem bits_or128 {n : Int} (h0 : 0 ≤ n) (h1 : n < 128) : Go.bits .or .i64 n 128 = n + 128 := by
  obtain ⟨a, rfl⟩ := Int.eq_ofNat_of_zero_le h0
  have h := (bits_nat .i64 63 (by decide) (fun n h0 h1 => by rw [IntKind.wrap_i64]; omega) a 128 (by omega) (by omega)).2
  have e : a ||| 128 = 128 + a := by
    have := Nat.two_pow_add_eq_or_of_lt (i := 7) (b := a) (by omega) 1
    rw [Nat.or_comm, show (128 : Nat) ||| a = 2 ^ 7 * 1 ||| a from rfl, ← this]
  rw [e] at h
  rw [show (128 : Int) = ((128 : Nat) : Int) from rfl, h]; omega

def uhv (b : Int) : Int := if 48 ≤ b ∧ b ≤ 57 then b - 48 else if 97 ≤ b ∧ b ≤ 102 then b - 87 else -1
theorem uhv_lt {b : Int} : -1 ≤ uhv b ∧ uhv b < 16 := by
  unfold uhv
  split
  · omega
  · split <;> omega
/-- Two figures a byte. -/
def unh : List Int → Option (List Int)
  | [] => some []
  | [_] => none
  | h :: l :: rest => if uhv h < 0 ∨ uhv l < 0 then none else (unh rest).map fun t => (16 * uhv h + uhv l) :: t
def unhO (acc : List Int) (o : Option (List Int)) : ByteArray × Bool := match o with
  | some t => (strOfNums (acc ++ t), true)
  | none => (⟨#[]⟩, false)
def unhexC (s : ByteArray) : ByteArray × Bool := if s.size % 2 = 0 ∧ s.size ≤ 40000 then unhO [] (unh (bytesOf s)) else (⟨#[]⟩, false)
theorem drop_two {s : ByteArray} {i : Nat} (h : i + 1 < s.size) : (bytesOf s).drop i = bt s (i : Int) :: bt s ((i : Int) + 1) :: (bytesOf s).drop (i + 2) := by
  have h1 := bytesOf_drop (s := s) (i := (i : Int)) (by omega) (by omega)
  have h2 := bytesOf_drop (s := s) (i := (i : Int) + 1) (by omega) (by omega)
  rw [show ((i : Int) + 1 + 1).toNat = i + 2 by omega] at h2
  rw [Int.toNat_natCast] at h1
  rw [h1, h2]
theorem unhO_step (acc : List Int) (x : Int) (o : Option (List Int)) : unhO acc (o.map fun t => x :: t) = unhO (acc ++ [x]) o := by
  cases o with
  | none => rfl
  | some t => simp [unhO]

theorem index_digit_nat : ∀ c : Fin 256, Lib.indexByte [48, 49, 50, 51, 52, 53, 54, 55, 56, 57, 97, 98, 99, 100, 101, 102] (c.val.toUInt8) = uhv (c.val : Int) := by decide +kernel
theorem index_digit {c : Int} (h0 : 0 ≤ c) (h1 : c ≤ 255) : strings_IndexByte.f (⟨#[48, 49, 50, 51, 52, 53, 54, 55, 56, 57, 97, 98, 99, 100, 101, 102]⟩ : ByteArray) c = some (uhv c) := by
  have h := index_digit_nat ⟨c.toNat, by omega⟩
  simp only [strings_IndexByte.f]
  congr 1
  rw [show ((⟨c.toNat, by omega⟩ : Fin 256).val : Int) = c by simp; omega] at h
  exact h
theorem or_nibble {a b : Int} (h0 : 0 ≤ a) (h1 : a < 16) (h2 : 0 ≤ b) (h3 : b < 16) : Go.bits .or .i64 (wrap64 (a * 16)) b = 16 * a + b := by
  rw [w64 (by omega) (by omega)]
  have := bits_join .i64 63 (by decide) (fun n h0 h1 => by rw [IntKind.wrap_i64]; omega) 4 (a * 16) b (by omega) (by omega) (by omega) h2 (by omega) (by omega)
  rw [this]; omega
theorem impl_Unhex_l0 (s : ByteArray) (hs : s.size ≤ 40000) (hev : s.size % 2 = 0) : ∀ (d i : Nat) (acc : List Int), i + 2 * d = s.size → acc.length ≤ i → Ev (fun k => impl_Unhex.l0 k s acc (i : Int)) (unhO acc (unh ((bytesOf s).drop i)))
  | 0, i, acc, hd, ha => by
    refine Ev.step (f := fun _ => some (strOfNums acc, true)) (fun k => ?_) ?_
    · simp only [impl_Unhex.l0]; rw [if_neg (by omega)]
    · rw [List.drop_eq_nil_of_le (by rw [bytesOf_length]; omega)]
      simp only [unh, unhO, List.append_nil]
      exact Ev.now _
  | d + 1, i, acc, hd, ha => by
    have hb := bt_range s (i : Int)
    have hb2 := bt_range s ((i : Int) + 1)
    rw [drop_two (by omega)]
    simp only [unh]
    have u1 := uhv_lt (b := bt s (i : Int))
    have u2 := uhv_lt (b := bt s ((i : Int) + 1))
    by_cases hn : uhv (bt s (i : Int)) < 0 ∨ uhv (bt s ((i : Int) + 1)) < 0
    · rw [if_pos hn]
      refine ⟨1, fun k hk => ?_⟩
      obtain ⟨k, rfl⟩ : ∃ m, k = m + 1 := ⟨k - 1, by omega⟩
      simp only [impl_Unhex.l0]
      rw [if_pos (by omega), if_pos (by omega), index_digit hb.1 hb.2, Option.bind_some, w64 (n := (i : Int) + 1) (by omega) (by omega), if_pos (by omega), if_pos (by omega), index_digit hb2.1 hb2.2, Option.bind_some]
      by_cases h1 : uhv (bt s (i : Int)) < 0
      · rw [if_pos h1]; rfl
      · rw [if_neg h1, if_pos (by omega)]; rfl
    · rw [if_neg hn, unhO_step]
      obtain ⟨K, hK⟩ := impl_Unhex_l0 s hs hev d (i + 2) (acc ++ [16 * uhv (bt s (i : Int)) + uhv (bt s ((i : Int) + 1))]) (by omega) (by simp; omega)
      refine ⟨K + 1, fun k hk => ?_⟩
      obtain ⟨k, rfl⟩ : ∃ m, k = m + 1 := ⟨k - 1, by omega⟩
      have e : impl_Unhex.l0 k s (acc ++ [16 * uhv (bt s (i : Int)) + uhv (bt s ((i : Int) + 1))]) ((i + 2 : Nat) : Int) = some _ := hK k (by omega)
      simp only [impl_Unhex.l0]
      rw [if_pos (by omega), if_pos (by omega), index_digit hb.1 hb.2, Option.bind_some, w64 (n := (i : Int) + 1) (by omega) (by omega), if_pos (by omega), if_pos (by omega), index_digit hb2.1 hb2.2, Option.bind_some, if_neg (by omega), if_neg (by omega), if_pos (by omega), or_nibble (by omega) (by omega) (by omega) (by omega), w64 (by omega) (by omega), show (16 * uhv (bt s (i : Int)) + uhv (bt s ((i : Int) + 1))) % 256 = 16 * uhv (bt s (i : Int)) + uhv (bt s ((i : Int) + 1)) by omega, show (i : Int) + 2 = ((i + 2 : Nat) : Int) by omega]
      exact e
theorem impl_Unhex_ev (s : ByteArray) (_ : s.size ≤ 140737488351232) : Ev (fun k => impl_Unhex.f k s) (unhexC s) := by
  unfold unhexC
  by_cases h2 : s.size % 2 = 0
  · by_cases h1 : s.size ≤ 40000
    · obtain ⟨K, hK⟩ := impl_Unhex_l0 s h1 h2 (s.size / 2) 0 [] (by omega) (by simp)
      refine ⟨K + 1, fun k hk => ?_⟩
      obtain ⟨k, rfl⟩ : ∃ m, k = m + 1 := ⟨k - 1, by omega⟩
      have e : impl_Unhex.l0 k s [] 0 = some _ := hK k (by omega)
      rw [List.drop_zero] at e
      rw [if_pos ⟨h2, h1⟩]
      simp only [impl_Unhex.f]
      rw [if_pos (by omega), decide_eq_false (by omega)]
      simp only [impl_Unhex.j0]
      rw [if_neg (by simp), w64 (by omega) (by omega), if_pos (by omega), if_pos (by omega), e]
    · refine ⟨1, fun k hk => ?_⟩
      obtain ⟨k, rfl⟩ : ∃ m, k = m + 1 := ⟨k - 1, by omega⟩
      rw [if_neg (fun h => h1 h.2)]
      simp only [impl_Unhex.f]
      rw [if_pos (by omega), decide_eq_true (by omega)]
      simp only [impl_Unhex.j0]
      rw [if_pos trivial]
  · refine ⟨1, fun k hk => ?_⟩
    obtain ⟨k, rfl⟩ : ∃ m, k = m + 1 := ⟨k - 1, by omega⟩
    rw [if_neg (fun h => h2 h.1)]
    simp only [impl_Unhex.f]
    rw [if_neg (by omega)]
    simp only [impl_Unhex.j0]
    rw [if_pos trivial]

theorem spec_l01Value_ev {b : Int} (h0 : 0 ≤ b) (h1 : b ≤ 255) : ∀ k, spec_l01Value.f (k + 1) b = some (uhv b) := by
  intro k
  simp only [spec_l01Value.f]
  unfold uhv
  have hw := w64 (n := b) (by omega) (by omega)
  have hw2 := w64 (n := b - 48) (by omega) (by omega)
  have hw3 := w64 (n := b - 97) (by omega) (by omega)
  have hw4 := w64 (n := b - 97 + 10) (by omega) (by omega)
  by_cases c1 : b ≥ 48
  · rw [if_pos c1]
    by_cases c2 : b ≤ 57
    · rw [decide_eq_true c2, if_pos ⟨c1, c2⟩]
      simp only [spec_l01Value.j0]
      rw [if_pos trivial, hw, hw2]
    · rw [decide_eq_false c2, if_neg (fun h => c2 h.2)]
      simp only [spec_l01Value.j0]
      rw [if_neg (by simp)]
      by_cases c3 : b ≥ 97
      · rw [if_pos c3]
        by_cases c4 : b ≤ 102
        · rw [if_pos c4, if_pos ⟨c3, c4⟩, hw, hw3, hw4]
          congr 1; omega
        · rw [if_neg c4, if_neg (fun h => c4 h.2)]
      · rw [if_neg c3, if_neg (fun h => c3 h.1)]
  · rw [if_neg c1, if_neg (fun h => c1 h.1), if_neg (by omega)]
    simp only [spec_l01Value.j0]
    rw [if_neg (by simp), if_neg (by omega)]
theorem spec_l01Value_at {b : Int} (h0 : 0 ≤ b) (h1 : b ≤ 255) {k : Nat} (hk : 1 ≤ k) : spec_l01Value.f k b = some (uhv b) := by
  obtain ⟨m, rfl⟩ : ∃ m, k = m + 1 := ⟨k - 1, by omega⟩
  exact spec_l01Value_ev h0 h1 m
theorem spec_Unhex_l0 (s : ByteArray) (hs : s.size ≤ 40000) (hev : s.size % 2 = 0) : ∀ (d i : Nat) (acc : List Int), i + 2 * d = s.size → acc.length ≤ i → Ev (fun k => spec_Unhex.l0 k s acc (i : Int)) (unhO acc (unh ((bytesOf s).drop i)))
  | 0, i, acc, hd, ha => by
    refine Ev.step (f := fun _ => some (strOfNums acc, true)) (fun k => ?_) ?_
    · simp only [spec_Unhex.l0]; rw [if_neg (by omega)]
    · rw [List.drop_eq_nil_of_le (by rw [bytesOf_length]; omega)]
      simp only [unh, unhO, List.append_nil]
      exact Ev.now _
  | d + 1, i, acc, hd, ha => by
    have hb := bt_range s (i : Int)
    have hb2 := bt_range s ((i : Int) + 1)
    rw [drop_two (by omega)]
    simp only [unh]
    have u1 := uhv_lt (b := bt s (i : Int))
    have u2 := uhv_lt (b := bt s ((i : Int) + 1))
    by_cases hn : uhv (bt s (i : Int)) < 0 ∨ uhv (bt s ((i : Int) + 1)) < 0
    · rw [if_pos hn]
      refine ⟨2, fun k hk => ?_⟩
      obtain ⟨k, rfl⟩ : ∃ m, k = m + 2 := ⟨k - 2, by omega⟩
      simp only [spec_Unhex.l0]
      rw [if_pos (by omega), if_pos (by omega), spec_l01Value_ev hb.1 hb.2, Option.bind_some, w64 (n := (i : Int) + 1) (by omega) (by omega), if_pos (by omega), if_pos (by omega), spec_l01Value_ev hb2.1 hb2.2, Option.bind_some]
      by_cases h1 : uhv (bt s (i : Int)) < 0
      · rw [if_pos h1]; rfl
      · rw [if_neg h1, if_pos (by omega)]; rfl
    · rw [if_neg hn, unhO_step]
      obtain ⟨K, hK⟩ := spec_Unhex_l0 s hs hev d (i + 2) (acc ++ [16 * uhv (bt s (i : Int)) + uhv (bt s ((i : Int) + 1))]) (by omega) (by simp; omega)
      refine ⟨K + 2, fun k hk => ?_⟩
      obtain ⟨k, rfl⟩ : ∃ m, k = m + 1 := ⟨k - 1, by omega⟩
      have e : spec_Unhex.l0 k s (acc ++ [16 * uhv (bt s (i : Int)) + uhv (bt s ((i : Int) + 1))]) ((i + 2 : Nat) : Int) = some _ := hK k (by omega)
      simp only [spec_Unhex.l0]
      rw [if_pos (by omega), if_pos (by omega), spec_l01Value_at hb.1 hb.2 (by omega), Option.bind_some, w64 (n := (i : Int) + 1) (by omega) (by omega), if_pos (by omega), if_pos (by omega), spec_l01Value_at hb2.1 hb2.2 (by omega), Option.bind_some, if_neg (by omega), if_neg (by omega), if_pos (by omega), w64 (n := 16 * uhv (bt s (i : Int))) (by omega) (by omega), w64 (by omega) (by omega), w64 (by omega) (by omega), show (16 * uhv (bt s (i : Int)) + uhv (bt s ((i : Int) + 1))) % 256 = 16 * uhv (bt s (i : Int)) + uhv (bt s ((i : Int) + 1)) by omega, show (i : Int) + 2 = ((i + 2 : Nat) : Int) by omega]
      exact e
theorem spec_Unhex_ev (s : ByteArray) (_ : s.size ≤ 140737488351232) : Ev (fun k => spec_Unhex.f k s) (unhexC s) := by
  unfold unhexC
  by_cases h1 : s.size ≤ 40000
  · by_cases h2 : s.size % 2 = 0
    · obtain ⟨K, hK⟩ := spec_Unhex_l0 s h1 h2 (s.size / 2) 0 [] (by omega) (by simp)
      refine ⟨K + 1, fun k hk => ?_⟩
      obtain ⟨k, rfl⟩ : ∃ m, k = m + 1 := ⟨k - 1, by omega⟩
      have e : spec_Unhex.l0 k s [] 0 = some _ := hK k (by omega)
      rw [List.drop_zero] at e
      rw [if_pos ⟨h2, h1⟩]
      have hm : (((s.size : Int) % 2) != 0) = false := by rw [bne_eq_false_iff_eq]; omega
      simp only [spec_Unhex.f]
      rw [if_neg (by omega), hm]
      simp only [spec_Unhex.j0]
      rw [if_neg (by simp), e]
    · refine ⟨1, fun k hk => ?_⟩
      obtain ⟨k, rfl⟩ : ∃ m, k = m + 1 := ⟨k - 1, by omega⟩
      rw [if_neg (fun h => h2 h.1)]
      have hm : (((s.size : Int) % 2) != 0) = true := by rw [bne_iff_ne]; omega
      simp only [spec_Unhex.f]
      rw [if_neg (by omega), hm]
      simp only [spec_Unhex.j0]
      rw [if_pos trivial]
  · refine ⟨1, fun k hk => ?_⟩
    obtain ⟨k, rfl⟩ : ∃ m, k = m + 1 := ⟨k - 1, by omega⟩
    rw [if_neg (fun h => h1 h.2)]
    simp only [spec_Unhex.f]
    rw [if_pos (by omega)]
    simp only [spec_Unhex.j0]
    rw [if_pos trivial]

theorem FnExactUnhex (a0 : ByteArray) (_ : a0.size ≤ maxLen) : ∃ k, laws_FnExactUnhex.f k a0 = some true := by
  by_cases hb : (a0.size : Int) > 1048576
  · exact ⟨0, by simp only [laws_FnExactUnhex.f]; rw [if_pos hb]⟩
  · obtain ⟨K1, h1⟩ := spec_Unhex_ev a0 (by omega)
    obtain ⟨K2, h2⟩ := impl_Unhex_ev a0 (by omega)
    refine ⟨max K1 K2, ?_⟩
    simp only [laws_FnExactUnhex.f, h1 _ (Nat.le_max_left K1 K2), h2 _ (Nat.le_max_right K1 K2), Option.bind_some]
    split <;> simp

end Go.Proofs.Ytmnejhmilbnldaa.Pure
