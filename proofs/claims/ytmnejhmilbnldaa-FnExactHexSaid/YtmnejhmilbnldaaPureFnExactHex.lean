/- For every text, the program's Hex returns what the reference's Hex returns: FnExactHex returns true. No condition. -/
import Derived.Test.YtmnejhmilbnldaaQFnExactHexx1
namespace Go.Proofs.Ytmnejhmilbnldaa.Pure
open Go.RowKit Go.Proofs.Ytmnejhmilbnldaa.PFnExactHex Go.Proofs.YtmnejhmilbnldaaW.PrintWords Go.Proofs.YtmnejhmilbnldaaW.PrintLast Go.Proofs.YtmnejhmilbnldaaW.PrintMore

/-! ### texts as lists of bytes -/
theorem bytesOf_range (s : ByteArray) : ∀ b ∈ bytesOf s, 0 ≤ b ∧ b ≤ 255 := by
  intro b hb
  obtain ⟨u, _, rfl⟩ := List.mem_map.1 hb
  have := u.toNat_lt
  omega
theorem bytesOf_inj {s t : ByteArray} (h : bytesOf s = bytesOf t) : s = t := by
  apply ByteArray.ext
  apply Array.toList_inj.1
  unfold bytesOf at h
  refine (List.map_inj_right ?_).1 h
  intro a b hab
  exact UInt8.toNat_inj.1 (by omega)
theorem bytesOf_app (s t : ByteArray) : bytesOf (s ++ t) = bytesOf s ++ bytesOf t := by
  simp [bytesOf]
theorem bytesOf_ext (s : ByteArray) (a b : Nat) : bytesOf (s.extract a b) = ((bytesOf s).drop a).take (b - a) := by
  simp [bytesOf, List.map_take, List.map_drop]
theorem bytesOf_str (xs : List Int) (h : ∀ b ∈ xs, 0 ≤ b ∧ b ≤ 255) : bytesOf (strOfNums xs) = xs := by
  unfold bytesOf
  rw [strOfNums_data, List.map_map]
  conv => rhs; rw [← List.map_id xs]
  refine List.map_congr_left fun b hb => ?_
  have := h b hb
  simp only [Function.comp_apply, id_eq, UInt8.toNat_ofNat']
  omega
theorem str_bytesOf (s : ByteArray) : strOfNums (bytesOf s) = s := bytesOf_inj (bytesOf_str _ (bytesOf_range s))
theorem bytesOf_nil : bytesOf (⟨#[]⟩ : ByteArray) = [] := rfl
theorem toList_iff {s t : ByteArray} : s.toList = t.toList ↔ s = t := by
  constructor
  · intro h
    rw [ByteArray.toList_eq, ByteArray.toList_eq] at h
    exact ByteArray.ext (Array.toList_inj.1 h)
  · rintro rfl; rfl
theorem bt_getElem {s : ByteArray} {i : Int} (h1 : i.toNat < s.size) : (bytesOf s)[i.toNat]? = some (bt s i) := by
  rw [← rd_bytesOf]
  unfold rd
  rw [List.getD_eq_getElem?_getD, List.getElem?_eq_getElem (by rw [bytesOf_length]; exact h1)]; rfl
theorem bytesOf_drop {s : ByteArray} {i : Int} (h0 : 0 ≤ i) (h : i < (s.size : Int)) : (bytesOf s).drop i.toNat = bt s i :: (bytesOf s).drop (i + 1).toNat := by
  have hl : i.toNat < (bytesOf s).length := by rw [bytesOf_length]; omega
  rw [List.drop_eq_getElem_cons hl, show (i + 1).toNat = i.toNat + 1 by omega]
  congr 1
  have := bt_getElem (s := s) (i := i) (by omega)
  rw [List.getElem?_eq_getElem hl] at this
  exact Option.some.inj this
theorem bytesOf_drop_end {s : ByteArray} {i : Int} (h : ¬ i < (s.size : Int)) : (bytesOf s).drop i.toNat = [] := by
  apply List.drop_eq_nil_of_le
  rw [bytesOf_length]; omega
theorem extract_all (s : ByteArray) : s.extract 0 s.size = s := bytesOf_inj (by rw [bytesOf_ext, List.drop_zero, Nat.sub_zero, ← bytesOf_length, List.take_length])
theorem w64 {n : Int} (h0 : -9223372036854775808 ≤ n) (h1 : n ≤ 9223372036854775807) : wrap64 n = n := by
  unfold wrap64; omega
theorem i64wf {n : Int} (h : (Lit.int .i64 n).wf = true) : -9223372036854775808 ≤ n ∧ n ≤ 9223372036854775807 := by
  simp [Lit.wf, IntKind.min, IntKind.max, IntKind.bits, IntKind.signed] at h
  omega
theorem u32wf {n : Int} (h : (Lit.int .u32 n).wf = true) : 0 ≤ n ∧ n ≤ 4294967295 := by
  simp [Lit.wf, IntKind.min, IntKind.max, IntKind.bits, IntKind.signed] at h
  omega
theorem tmod_nat {n : Int} (h : 0 ≤ n) (m : Int) : Int.tmod n m = n % m := Int.tmod_eq_emod_of_nonneg h
theorem tdiv_nat {n : Int} (h : 0 ≤ n) (m : Int) : Int.tdiv n m = n / m := Int.tdiv_eq_ediv_of_nonneg h

theorem bits_low7 {n : Int} (h0 : 0 ≤ n) (h1 : n ≤ 9223372036854775807) : Go.bits .and .i64 n 127 = n % 128 :=
  bits_mask .i64 63 (by decide) (fun n h0 h1 => by rw [IntKind.wrap_i64]; omega) 7 (by decide) n h0 (by omega)
theorem bits_or128 {n : Int} (h0 : 0 ≤ n) (h1 : n < 128) : Go.bits .or .i64 n 128 = n + 128 := by
  obtain ⟨a, rfl⟩ := Int.eq_ofNat_of_zero_le h0
  have h := (bits_nat .i64 63 (by decide) (fun n h0 h1 => by rw [IntKind.wrap_i64]; omega) a 128 (by omega) (by omega)).2
  have e : a ||| 128 = 128 + a := by
    have := Nat.two_pow_add_eq_or_of_lt (i := 7) (b := a) (by omega) 1
    rw [Nat.or_comm, show (128 : Nat) ||| a = 2 ^ 7 * 1 ||| a from rfl, ← this]
  rw [e] at h
  rw [show (128 : Int) = ((128 : Nat) : Int) from rfl, h]; omega

def fig (d : Int) : Int := if d < 10 then 48 + d else 87 + d
def hexL : List Int → List Int
  | [] => []
  | b :: bs => fig (b / 16) :: fig (b % 16) :: hexL bs
def hexC (s : ByteArray) : ByteArray × Bool := if s.size ≤ 20000 then (strOfNums (hexL (bytesOf s)), true) else (⟨#[]⟩, false)
theorem hexL_len : ∀ l, (hexL l).length = 2 * l.length
  | [] => rfl
  | b :: bs => by simp only [hexL, List.length_cons, hexL_len bs]; omega
theorem hexL_app : ∀ l m, hexL (l ++ m) = hexL l ++ hexL m
  | [], _ => rfl
  | b :: bs, m => by simp only [List.cons_append, hexL, hexL_app bs m]
theorem take_b_succ {s : ByteArray} {i : Nat} (h : i < s.size) : (bytesOf s).take (i + 1) = (bytesOf s).take i ++ [bt s (i : Int)] := by
  rw [List.take_add_one]
  congr 1
  have := bt_getElem (s := s) (i := (i : Int)) (by omega)
  rw [Int.toNat_natCast] at this
  rw [this]; rfl
theorem hex_digit {d : Int} (h0 : 0 ≤ d) (h1 : d < 16) : bt (⟨#[48, 49, 50, 51, 52, 53, 54, 55, 56, 57, 97, 98, 99, 100, 101, 102]⟩ : ByteArray) d = fig d := by
  obtain rfl | rfl | rfl | rfl | rfl | rfl | rfl | rfl | rfl | rfl | rfl | rfl | rfl | rfl | rfl | rfl : d = 0 ∨ d = 1 ∨ d = 2 ∨ d = 3 ∨ d = 4 ∨ d = 5 ∨ d = 6 ∨ d = 7 ∨ d = 8 ∨ d = 9 ∨ d = 10 ∨ d = 11 ∨ d = 12 ∨ d = 13 ∨ d = 14 ∨ d = 15 := by omega
  all_goals rfl

theorem impl_Hex_l0 (s : ByteArray) (hs : s.size ≤ 20000) : ∀ (d i : Nat), i + d = s.size → Ev (fun k => impl_Hex.l0 k s (hexL ((bytesOf s).take i)) (s.size : Int) (i : Int)) (strOfNums (hexL (bytesOf s)), true)
  | 0, i, hd => by
    refine Ev.step (f := fun _ => some (strOfNums (hexL (bytesOf s)), true)) (fun k => ?_) (Ev.now _)
    simp only [impl_Hex.l0]
    rw [if_neg (by omega), List.take_of_length_le (by rw [bytesOf_length]; omega)]
  | d + 1, i, hd => by
    have hb := bt_range s (i : Int)
    have hl := hexL_len ((bytesOf s).take i)
    have hlen : ((bytesOf s).take i).length = i := by rw [List.length_take, bytesOf_length]; omega
    have h15 : Go.bits .and .u8 (bt s (i : Int)) 15 = bt s (i : Int) % 16 := u8_and15 _ hb.1 (by omega)
    refine Ev.step (f := fun k => impl_Hex.l0 k s (hexL ((bytesOf s).take (i + 1))) (s.size : Int) ((i + 1 : Nat) : Int)) (fun k => ?_) (impl_Hex_l0 s hs d (i + 1) (by omega))
    simp only [impl_Hex.l0]
    rw [h15, if_pos (by omega), if_pos (by omega), if_pos (by omega), if_pos (by omega), if_pos (by omega), if_pos (by omega), if_pos (by omega), hex_digit (by omega) (by omega), hex_digit (by omega) (by omega), Option.bind_some, if_pos (by simp only [List.length_cons, List.length_nil]; omega), w64 (by omega) (by omega), take_b_succ (by omega), hexL_app]
    rfl
theorem impl_Hex_ev (s : ByteArray) (_ : s.size ≤ 140737488351232) : Ev (fun k => impl_Hex.f k s) (hexC s) := by
  by_cases h : s.size ≤ 20000
  · obtain ⟨K, hK⟩ := impl_Hex_l0 s h s.size 0 (by omega)
    refine ⟨K, fun k hk => ?_⟩
    have e : impl_Hex.l0 k s [] (s.size : Int) 0 = some _ := hK k hk
    simp only [impl_Hex.f, hexC]
    rw [if_neg (by omega), w64 (by omega) (by omega), if_pos (by omega), if_pos (by omega), e, if_pos h]
  · refine ⟨0, fun k _ => ?_⟩
    simp only [impl_Hex.f, hexC]
    rw [if_pos (by omega), if_neg h]

theorem spec_l01Figure_eq {d : Int} (h0 : 0 ≤ d) (h1 : d < 16) : spec_l01Figure.f d = some (fig d) := by
  simp only [spec_l01Figure.f, fig]
  by_cases h : d < 10
  · rw [if_pos h, if_pos h, w64 (by omega) (by omega)]
    congr 1; omega
  · rw [if_neg h, if_neg h]
    first | rw [w64 (n := 97 + d) (by omega) (by omega), w64 (by omega) (by omega)] | rw [w64 (by omega) (by omega)]
    congr 1; omega
theorem spec_Hex_l0 (s : ByteArray) (hs : s.size ≤ 20000) : ∀ (d i : Nat), i + d = s.size → Ev (fun k => spec_Hex.l0 k s (hexL ((bytesOf s).take i)) (i : Int)) (strOfNums (hexL (bytesOf s)), true)
  | 0, i, hd => by
    refine Ev.step (f := fun _ => some (strOfNums (hexL (bytesOf s)), true)) (fun k => ?_) (Ev.now _)
    simp only [spec_Hex.l0]
    rw [if_neg (by omega), List.take_of_length_le (by rw [bytesOf_length]; omega)]
  | d + 1, i, hd => by
    have hb := bt_range s (i : Int)
    have hl := hexL_len ((bytesOf s).take i)
    have hlen : ((bytesOf s).take i).length = i := by rw [List.length_take, bytesOf_length]; omega
    refine Ev.step (f := fun k => spec_Hex.l0 k s (hexL ((bytesOf s).take (i + 1))) ((i + 1 : Nat) : Int)) (fun k => ?_) (spec_Hex_l0 s hs d (i + 1) (by omega))
    simp only [spec_Hex.l0]
    rw [if_pos (by omega), if_pos (by omega), w64 (n := bt s (i : Int)) (by omega) (by omega), tdiv_nat hb.1, tmod_nat hb.1, w64 (n := bt s (i : Int) / 16) (by omega) (by omega), spec_l01Figure_eq (by omega) (by omega), Option.bind_some, spec_l01Figure_eq (by omega) (by omega), Option.bind_some, Option.bind_some, if_pos (by simp only [List.length_cons, List.length_nil]; omega), w64 (by omega) (by omega), take_b_succ (by omega), hexL_app]
    rfl
theorem spec_Hex_ev (s : ByteArray) (_ : s.size ≤ 140737488351232) : Ev (fun k => spec_Hex.f k s) (hexC s) := by
  by_cases h : s.size ≤ 20000
  · obtain ⟨K, hK⟩ := spec_Hex_l0 s h s.size 0 (by omega)
    refine ⟨K, fun k hk => ?_⟩
    have e : spec_Hex.l0 k s [] 0 = some _ := hK k hk
    simp only [spec_Hex.f, hexC]
    rw [if_neg (by omega), e, if_pos h]
  · refine ⟨0, fun k _ => ?_⟩
    simp only [spec_Hex.f, hexC]
    rw [if_pos (by omega), if_neg h]

theorem FnExactHex (a0 : ByteArray) (_ : a0.size ≤ maxLen) : ∃ k, laws_FnExactHex.f k a0 = some true := by
  by_cases hb : (a0.size : Int) > 1048576
  · exact ⟨0, by simp only [laws_FnExactHex.f]; rw [if_pos hb]⟩
  · obtain ⟨K1, h1⟩ := spec_Hex_ev a0 (by omega)
    obtain ⟨K2, h2⟩ := impl_Hex_ev a0 (by omega)
    refine ⟨max K1 K2, ?_⟩
    simp only [laws_FnExactHex.f, h1 _ (Nat.le_max_left K1 K2), h2 _ (Nat.le_max_right K1 K2), Option.bind_some]
    split <;> simp

end Go.Proofs.Ytmnejhmilbnldaa.Pure
