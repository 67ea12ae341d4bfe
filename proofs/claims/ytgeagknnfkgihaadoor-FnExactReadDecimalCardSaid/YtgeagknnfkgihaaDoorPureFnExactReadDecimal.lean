/- For every text, the program's ReadDecimal returns what the reference's ReadDecimal returns: FnExactReadDecimal returns true. The condition is the row's own: the tables and the errors of the library hold what its text lays there (tied by the given ties). -/
import Derived.Test.YtgeagknnfkgihaaDoorQFnExactReadDecimalx3
namespace Go.Proofs.YtgeagknnfkgihaaDoor.Pure
open Go.RowKit Go.Proofs.YtgeagknnfkgihaaDoor.PFnExactReadDecimal Go.Proofs.YtgeagknnfkgihaaDoorW.PrintWords Go.Proofs.YtgeagknnfkgihaaDoorW.PrintLast Go.Proofs.YtgeagknnfkgihaaDoorW.PrintMore

/-! ### texts as lists of bytes -/
theorem bytesOf_range (s : ByteArray) : ∀ b ∈ bytesOf s, 0 ≤ b ∧ b ≤ 255 := by
  intro b hb
  obtain ⟨u, _, rfl⟩ := List.mem_map.1 hb
  have := u.toNat_lt
  omega
theorem bytesOf_inj {s t : ByteArray} (h : bytesOf s = bytesOf t) : s = t := by
  apply ByteArray.ext
  apply Array.toList_inj.1
  unfold bytesOf at h
  refine (List.map_inj_right ?_).1 h
  intro a b hab
  exact UInt8.toNat_inj.1 (by omega)
theorem bytesOf_app (s t : ByteArray) : bytesOf (s ++ t) = bytesOf s ++ bytesOf t := by
  simp [bytesOf]
theorem bytesOf_ext (s : ByteArray) (a b : Nat) : bytesOf (s.extract a b) = ((bytesOf s).drop a).take (b - a) := by
  simp [bytesOf, List.map_take, List.map_drop]
theorem bytesOf_str (xs : List Int) (h : ∀ b ∈ xs, 0 ≤ b ∧ b ≤ 255) : bytesOf (strOfNums xs) = xs := by
  unfold bytesOf
  rw [strOfNums_data, List.map_map]
  conv => rhs; rw [← List.map_id xs]
  refine List.map_congr_left fun b hb => ?_
  have := h b hb
  simp only [Function.comp_apply, id_eq, UInt8.toNat_ofNat']
  omega
theorem str_bytesOf (s : ByteArray) : strOfNums (bytesOf s) = s := bytesOf_inj (bytesOf_str _ (bytesOf_range s))
theorem bytesOf_nil : bytesOf (⟨#[]⟩ : ByteArray) = [] := rfl
theorem toList_iff {s t : ByteArray} : s.toList = t.toList ↔ s = t := by
  constructor
  · intro h
    rw [ByteArray.toList_eq, ByteArray.toList_eq] at h
    exact ByteArray.ext (Array.toList_inj.1 h)
  · rintro rfl; rfl
theorem bt_getElem {s : ByteArray} {i : Int} (h1 : i.toNat < s.size) : (bytesOf s)[i.toNat]? = some (bt s i) := by
  rw [← rd_bytesOf]
  unfold rd
  rw [List.getD_eq_getElem?_getD, List.getElem?_eq_getElem (by rw [bytesOf_length]; exact h1)]; rfl
theorem bytesOf_drop {s : ByteArray} {i : Int} (h0 : 0 ≤ i) (h : i < (s.size : Int)) : (bytesOf s).drop i.toNat = bt s i :: (bytesOf s).drop (i + 1).toNat := by
  have hl : i.toNat < (bytesOf s).length := by rw [bytesOf_length]; omega
  rw [List.drop_eq_getElem_cons hl, show (i + 1).toNat = i.toNat + 1 by omega]
  congr 1
  have := bt_getElem (s := s) (i := i) (by omega)
  rw [List.getElem?_eq_getElem hl] at this
  exact Option.some.inj this
theorem bytesOf_drop_end {s : ByteArray} {i : Int} (h : ¬ i < (s.size : Int)) : (bytesOf s).drop i.toNat = [] := by
  apply List.drop_eq_nil_of_le
  rw [bytesOf_length]; omega
theorem extract_all (s : ByteArray) : s.extract 0 s.size = s := bytesOf_inj (by rw [bytesOf_ext, List.drop_zero, Nat.sub_zero, ← bytesOf_length, List.take_length])
theorem w64 {n : Int} (h0 : -9223372036854775808 ≤ n) (h1 : n ≤ 9223372036854775807) : wrap64 n = n := by
  unfold wrap64; omega
theorem i64wf {n : Int} (h : (Lit.int .i64 n).wf = true) : -9223372036854775808 ≤ n ∧ n ≤ 9223372036854775807 := by
  simp [Lit.wf, IntKind.min, IntKind.max, IntKind.bits, IntKind.signed] at h
  omega
theorem u32wf {n : Int} (h : (Lit.int .u32 n).wf = true) : 0 ≤ n ∧ n ≤ 4294967295 := by
  simp [Lit.wf, IntKind.min, IntKind.max, IntKind.bits, IntKind.signed] at h
  omega
theorem tmod_nat {n : Int} (h : 0 ≤ n) (m : Int) : Int.tmod n m = n % m := Int.tmod_eq_emod_of_nonneg h
theorem tdiv_nat {n : Int} (h : 0 ≤ n) (m : Int) : Int.tdiv n m = n / m := Int.tdiv_eq_ediv_of_nonneg h

/-! ### decimal numerals -/
theorem ddg_lt {u : Nat} (h : u < 10) : Lib.decDigits u = [UInt8.ofNat (48 + u)] := by
  rw [Lib.decDigits, dif_pos h]
theorem ddg_ge {u : Nat} (h : 10 ≤ u) : Lib.decDigits u = Lib.decDigits (u / 10) ++ [UInt8.ofNat (48 + u % 10)] := by
  rw [Lib.decDigits, dif_neg (by omega)]
theorem abs_div (n : Int) : (n.tdiv 10).natAbs = n.natAbs / 10 := by
  rw [Int.natAbs_tdiv]; rfl
theorem abs_mod (n : Int) : (n.tmod 10).natAbs = n.natAbs % 10 := by
  rw [Int.natAbs_tmod]; rfl
theorem dec_step (n : Int) (s : List UInt8) : Lib.decDigits n.natAbs ++ s = (if n.tdiv 10 = 0 then [] else Lib.decDigits (n.tdiv 10).natAbs) ++ (UInt8.ofNat (48 + n.natAbs % 10) :: s) := by
  rw [abs_div]
  by_cases hlt : n.natAbs < 10
  · have h0 : n.tdiv 10 = 0 := by
      have := abs_div n
      omega
    rw [if_pos h0, ddg_lt hlt, Nat.mod_eq_of_lt hlt]; rfl
  · have h0 : n.tdiv 10 ≠ 0 := by
      intro e
      have := abs_div n
      rw [e] at this
      simp at this; omega
    rw [if_neg h0, ddg_ge (by omega)]; simp
def decT (n : Int) : ByteArray := ⟨(Lib.itoa n).toArray⟩
def decJoin (b : Bool) (l : List UInt8) : ByteArray := ⟨(if b then 45 :: l else l).toArray⟩
theorem figure_data (t : Nat) (ht : t < 10) (s : ByteArray) : ((strOfNums [(48 + (t : Int)) % 256]) ++ s).data.toList = UInt8.ofNat (48 + t) :: s.data.toList := by
  rw [ByteArray.data_append, Array.toList_append, strOfNums_data]
  simp only [List.map_cons, List.map_nil, List.cons_append, List.nil_append]
  congr 2
  omega
theorem dec_len (j : Nat) : ∀ u, u < 10 ^ (j + 1) → (Lib.decDigits u).length ≤ j + 1 := by
  induction j with
  | zero => intro u h; rw [ddg_lt (by simpa using h)]; simp
  | succ j ih =>
    intro u h
    by_cases hs : u < 10
    · rw [ddg_lt hs]; simp
    · rw [ddg_ge (by omega), List.length_append]
      have := ih (u / 10) (by rw [Nat.pow_succ] at h; omega)
      simp; omega
theorem decT_size {n : Int} (h0 : -9223372036854775808 ≤ n) (h1 : n ≤ 9223372036854775807) : (decT n).size ≤ 21 := by
  show (Lib.itoa n).toArray.size ≤ 21
  rw [List.size_toArray]
  unfold Lib.itoa
  split
  · have := dec_len 19 n.natAbs (by omega)
    simp; omega
  · have := dec_len 19 n.toNat (by omega)
    omega

/-! ### decimal numerals, read -/
def stepD (a : Nat) (c : UInt8) : Nat := 10 * a + (c.toNat - 48)
def valD (acc : Nat) (l : List UInt8) : Nat := l.foldl stepD acc
def digB (c : UInt8) : Bool := decide (48 ≤ c.toNat ∧ c.toNat ≤ 57)
theorem valD_nil (acc : Nat) : valD acc [] = acc := rfl
theorem valD_cons (acc : Nat) (c : UInt8) (r : List UInt8) : valD acc (c :: r) = valD (10 * acc + (c.toNat - 48)) r := by
  show List.foldl stepD (stepD acc c) r = _
  rfl
theorem valD_ge (l : List UInt8) : ∀ (acc : Nat), acc ≤ valD acc l := by
  induction l with
  | nil => intro acc; rw [valD_nil]; exact Nat.le_refl acc
  | cons c r ih =>
    intro acc
    have := ih (10 * acc + (c.toNat - 48))
    rw [valD_cons]; omega
theorem valD_app (l : List UInt8) (c : UInt8) (acc : Nat) : valD acc (l ++ [c]) = 10 * valD acc l + (c.toNat - 48) := by
  unfold valD
  rw [List.foldl_append]
  rfl
theorem fig_toNat {t : Nat} (h : t < 10) : (UInt8.ofNat (48 + t)).toNat = 48 + t := by
  rw [UInt8.toNat_ofNat']; omega
theorem dec_val (u : Nat) : valD 0 (Lib.decDigits u) = u := by
  induction u using Nat.strongRecOn with
  | _ u ih =>
    by_cases h : u < 10
    · rw [ddg_lt h, valD_cons, valD_nil, fig_toNat h]; omega
    · rw [ddg_ge (by omega), valD_app, ih (u / 10) (by omega), fig_toNat (Nat.mod_lt _ (by omega))]; omega
theorem dec_dig (u : Nat) : (Lib.decDigits u).all digB = true := by
  induction u using Nat.strongRecOn with
  | _ u ih =>
    by_cases h : u < 10
    · rw [ddg_lt h, List.all_cons, List.all_nil, Bool.and_true]; exact decide_eq_true (by rw [fig_toNat h]; omega)
    · have hm : u % 10 < 10 := Nat.mod_lt _ (by omega)
      rw [ddg_ge (by omega), List.all_append, ih (u / 10) (by omega), List.all_cons, List.all_nil, Bool.and_true, Bool.true_and]
      exact decide_eq_true (by rw [fig_toNat hm]; omega)
theorem dec_ne (u : Nat) : Lib.decDigits u ≠ [] := by
  by_cases h : u < 10
  · rw [ddg_lt h]; simp
  · rw [ddg_ge (by omega)]; simp
theorem parse_val : ∀ (l : List UInt8) (acc : Nat), l.all digB = true → valD acc l ≤ 1000000000 → Lib.parseUint10 acc l = .ok (valD acc l)
  | [], _, _, _ => rfl
  | c :: r, acc, hd, hv => by
    rw [List.all_cons, Bool.and_eq_true] at hd
    have hc := of_decide_eq_true hd.1
    rw [valD_cons] at hv
    have h1 := valD_ge r (10 * acc + (c.toNat - 48))
    rw [valD_cons]
    simp only [Lib.parseUint10]
    rw [if_pos hc, if_neg (by omega), if_neg (by omega), Nat.mul_comm acc 10]
    exact parse_val r _ hd.2 hv
theorem atoi_dec (u : Nat) (hu : u ≤ 1000000000) : Lib.atoiAll (Lib.decDigits u) = .ok (u : Int) := by
  have hp := parse_val (Lib.decDigits u) 0 (dec_dig u) (by rw [dec_val]; exact hu)
  rw [dec_val] at hp
  cases hl : Lib.decDigits u with
  | nil => exact absurd hl (dec_ne u)
  | cons c r =>
    have hd := dec_dig u
    rw [hl, List.all_cons, Bool.and_eq_true] at hd
    have hc := of_decide_eq_true hd.1
    unfold Lib.atoiAll
    simp only
    rw [if_neg (by omega)]
    rw [hl] at hp
    simp only [Lib.parseMag, hp]
    rw [if_neg (by simp)]
    simp only
    rw [if_neg (by omega), if_neg (by omega), if_neg (by omega)]
theorem itoa_nat (u : Nat) : Lib.itoa (u : Int) = Lib.decDigits u := by
  unfold Lib.itoa
  rw [if_neg (by omega), Int.toNat_natCast]
/-- What ReadDecimal returns. -/
def rdecC (s : ByteArray) : Int × Bool := if s.size ≤ 10 ∧ s.data.toList.all digB = true ∧ valD 0 s.data.toList ≤ 1000000000 ∧ decT (valD 0 s.data.toList : Nat) = s then ((valD 0 s.data.toList : Nat), true) else (0, false)
theorem decT_data (u : Nat) : (decT (u : Int)).data.toList = Lib.decDigits u := by
  unfold decT; rw [itoa_nat]
theorem rdecC_dec (u : Nat) (hu : u ≤ 1000000000) : rdecC (decT (u : Int)) = ((u : Int), true) := by
  have hs : (decT (u : Int)).size ≤ 10 := by
    show (Lib.itoa (u : Int)).toArray.size ≤ 10
    rw [List.size_toArray, itoa_nat]
    have := dec_len 9 u (by omega)
    omega
  unfold rdecC
  rw [decT_data, dec_val, if_pos ⟨hs, dec_dig u, hu, rfl⟩]
/-- What the program's way comes to. -/
theorem rdecC_impl (s : ByteArray) : (match Lib.atoiAll s.data.toList with | .ok v => if (0 ≤ v ∧ v ≤ 1000000000) ∧ decT v = s then (v, true) else (0, false) | _ => (0, false)) = rdecC s := by
  have no : rdecC s ≠ (0, false) → ∃ u : Nat, u ≤ 1000000000 ∧ s = decT (u : Int) := by
    intro h
    unfold rdecC at h
    split at h
    · rename_i hc; exact ⟨_, hc.2.2.1, hc.2.2.2.symm⟩
    · exact absurd rfl h
  by_cases hs : ∃ u : Nat, u ≤ 1000000000 ∧ s = decT (u : Int)
  · obtain ⟨u, hu, rfl⟩ := hs
    rw [rdecC_dec u hu, decT_data, atoi_dec u hu]
    simp only
    rw [if_pos ⟨⟨by omega, by omega⟩, trivial⟩]
  · have hr : rdecC s = (0, false) := Classical.byContradiction fun h => hs (no h)
    rw [hr]
    split
    · rename_i v hv
      split
      · rename_i hc
        exact absurd ⟨v.toNat, by omega, by rw [Int.toNat_of_nonneg hc.1.1]; exact hc.2.symm⟩ hs
      · rfl
    · rfl

theorem at_byte {s : ByteArray} {i : Nat} (h : i < s.size) : ∃ b : UInt8, s.data.toList[i]? = some b ∧ s.data.toList.drop i = b :: s.data.toList.drop (i + 1) ∧ bt s (i : Int) = (b.toNat : Int) := by
  have hl : i < s.data.toList.length := by rw [Array.length_toList]; exact h
  refine ⟨s.data.toList[i], List.getElem?_eq_getElem hl, List.drop_eq_getElem_cons hl, ?_⟩
  have h1 := bt_getElem (s := s) (i := (i : Int)) (by simpa using h)
  simp only [bytesOf, List.getElem?_map, Int.toNat_natCast, List.getElem?_eq_getElem hl, Option.map_some, Option.some.injEq] at h1
  exact h1.symm

theorem spec_Decimal_l0 (j : Nat) : ∀ (n : Int) (b : Bool) (s : ByteArray), n.natAbs < 10 ^ j → n.natAbs ≤ 9223372036854775808 → s.size + j + 1 ≤ 9223372036854775807 →
    Ev (fun k => spec_Decimal.l0 k n b s) (decJoin b ((if n = 0 then [] else Lib.decDigits n.natAbs) ++ s.data.toList)) := by
  induction j with
  | zero =>
    intro n b s h _ hs
    have h0 : n = 0 := by simp at h; omega
    subst h0
    refine Ev.step (f := fun _ => some (decJoin b s.data.toList)) (fun k => ?_) (by simpa using Ev.now _)
    simp only [spec_Decimal.l0]
    rw [if_pos trivial]
    cases b with
    | true =>
      rw [if_pos rfl, if_pos (by omega)]
      simp only [decJoin, if_true]
      congr 1
    | false =>
      rw [if_neg (by simp)]
      simp [decJoin]
  | succ j ih =>
    intro n b s h hm hs
    by_cases h0 : n = 0
    · subst h0
      refine Ev.step (f := fun _ => some (decJoin b s.data.toList)) (fun k => ?_) (by simpa using Ev.now _)
      simp only [spec_Decimal.l0]
      rw [if_pos trivial]
      cases b with
      | true =>
        rw [if_pos rfl, if_pos (by omega)]
        simp only [decJoin, if_true]
        congr 1
      | false =>
        rw [if_neg (by simp)]
        simp [decJoin]
    · rw [if_neg h0, dec_step]
      have ha := abs_mod n
      have hd := abs_div n
      have hlt : n.natAbs % 10 < 10 := Nat.mod_lt _ (by omega)
      have hsz : (strOfNums [(48 + ((n.natAbs % 10 : Nat) : Int)) % 256]).size = 1 := by simp [← bytesOf_length, bytesOf, strOfNums_data]
      have key := ih (n.tdiv 10) b ((strOfNums [(48 + ((n.natAbs % 10 : Nat) : Int)) % 256]) ++ s) (by rw [hd]; rw [Nat.pow_succ] at h; omega) (by omega) (by rw [ByteArray.size_append, hsz]; omega)
      rw [figure_data _ hlt] at key
      refine Ev.step (f := fun k => spec_Decimal.l0 k (n.tdiv 10) b ((strOfNums [(48 + ((n.natAbs % 10 : Nat) : Int)) % 256]) ++ s)) (fun k => ?_) key
      simp only [spec_Decimal.l0]
      rw [if_neg h0]
      have hw : wrap64 (n.tdiv 10) = n.tdiv 10 := w64 (by omega) (by omega)
      have fig : ∀ t : Int, t = ((n.natAbs % 10 : Nat) : Int) → spec_l01Figure.f t = some ((48 + ((n.natAbs % 10 : Nat) : Int)) % 256) := by
        intro t ht
        unfold spec_l01Figure.f
        rw [if_pos (by omega), w64 (by omega) (by omega), ht]
      by_cases hneg : n.tmod 10 < 0
      · rw [if_pos hneg, fig _ (by rw [w64 (by omega) (by omega)]; omega)]
        simp only [Option.bind_some]
        rw [if_pos (by rw [hsz]; omega), hw]
      · rw [if_neg hneg, fig _ (by omega)]
        simp only [Option.bind_some]
        rw [if_pos (by rw [hsz]; omega), hw]
theorem spec_Decimal_ev (n : Int) (h0 : -9223372036854775808 ≤ n) (h1 : n ≤ 9223372036854775807) : Ev (fun k => spec_Decimal.f k n) (decT n) := by
  by_cases hz : n = 0
  · subst hz
    refine ⟨0, fun k _ => ?_⟩
    simp only [spec_Decimal.f]
    rw [if_pos trivial]
    simp only [decT, Lib.itoa]
    rw [if_neg (by omega), show (0 : Int).toNat = 0 from rfl, ddg_lt (by omega)]
    rfl
  · obtain ⟨K, hK⟩ := spec_Decimal_l0 20 n (decide (n < 0)) (⟨#[]⟩ : ByteArray) (by omega) (by omega) (by show 0 + 20 + 1 ≤ _; omega)
    refine ⟨K, fun k hk => ?_⟩
    simp only [spec_Decimal.f]
    rw [if_neg hz]
    refine (hK k hk).trans ?_
    rw [if_neg hz]
    congr 1
    simp only [decT, decJoin, Lib.itoa]
    by_cases hn : n < 0
    · simp [hn]
    · simp only [hn, decide_false, if_false]
      congr 2
      simp
      congr 1
      omega

def finD (v : Nat) (s : ByteArray) : Int × Bool := if v ≤ 1000000000 ∧ decT (v : Int) = s then ((v : Int), true) else (0, false)
theorem spec_ReadDecimal_l0 (s : ByteArray) (hs : s.size ≤ 10) : ∀ (d i acc : Nat), i + d = s.size → acc < 10 ^ i →
    Ev (fun k => spec_ReadDecimal.l0 k s (acc : Int) (i : Int)) (if (s.data.toList.drop i).all digB = true then finD (valD acc (s.data.toList.drop i)) s else (0, false))
  | 0, i, acc, hd, ha => by
    have hl : s.data.toList.length = s.size := by rw [Array.length_toList]; rfl
    have hp : 10 ^ i ≤ 10 ^ 10 := Nat.pow_le_pow_right (by omega) (by omega)
    have hq : (10 : Nat) ^ 10 = 10000000000 := by decide
    rw [List.drop_eq_nil_of_le (by omega), List.all_nil, if_pos rfl, valD_nil]
    obtain ⟨K, hK⟩ := spec_Decimal_ev (acc : Int) (by omega) (by omega)
    refine ⟨K + 1, fun k hk => ?_⟩
    obtain ⟨k, rfl⟩ : ∃ m, k = m + 1 := ⟨k - 1, by omega⟩
    have e : spec_Decimal.f k (acc : Int) = some _ := hK k (by omega)
    simp only [spec_ReadDecimal.l0, finD]
    rw [if_neg (by omega)]
    by_cases h1 : (acc : Int) > 1000000000
    · rw [if_pos h1, if_neg (by omega)]
    · rw [if_neg h1, e, Option.bind_some]
      by_cases h2 : (decT (acc : Int)).toList = s.toList
      · rw [if_pos h2, if_pos ⟨by omega, toList_iff.1 h2⟩]
      · rw [if_neg h2, if_neg (fun h => h2 (toList_iff.2 h.2))]
  | d + 1, i, acc, hd, ha => by
    have hp : 10 ^ i ≤ 10 ^ 9 := Nat.pow_le_pow_right (by omega) (by omega)
    have hq : (10 : Nat) ^ 9 = 1000000000 := by decide
    have hr : 10 ^ (i + 1) = 10 * 10 ^ i := by rw [Nat.pow_succ]; omega
    obtain ⟨b, hb, hdrop, hbt⟩ := at_byte (s := s) (i := i) (by omega)
    have hw : wrap64 ((i : Int) + 1) = ((i + 1 : Nat) : Int) := by rw [w64 (by omega) (by omega)]; rfl
    have hb8 : b.toNat < 256 := b.toNat_lt
    rw [hdrop, List.all_cons, valD_cons]
    by_cases hdg : digB b = true
    · have hc := of_decide_eq_true hdg
      rw [hdg, Bool.true_and]
      refine Ev.step (f := fun k => spec_ReadDecimal.l0 k s ((10 * acc + (b.toNat - 48) : Nat) : Int) ((i + 1 : Nat) : Int)) (fun k => ?_) (spec_ReadDecimal_l0 s hs d (i + 1) (10 * acc + (b.toNat - 48)) (by omega) (by omega))
      simp only [spec_ReadDecimal.l0]
      rw [if_pos (by omega), if_pos (by omega), hbt, if_neg (by omega), if_neg (by omega), hw, w64 (n := (b.toNat : Int)) (by omega) (by omega), w64 (n := 10 * (acc : Int)) (by omega) (by omega), w64 (n := 10 * (acc : Int) + (b.toNat : Int)) (by omega) (by omega), w64 (n := 10 * (acc : Int) + (b.toNat : Int) - 48) (by omega) (by omega), show 10 * (acc : Int) + (b.toNat : Int) - 48 = ((10 * acc + (b.toNat - 48) : Nat) : Int) by omega]
    · rw [Bool.eq_false_iff.mpr hdg, Bool.false_and, if_neg (by simp)]
      have hn : ¬ (48 ≤ b.toNat ∧ b.toNat ≤ 57) := fun h => hdg (decide_eq_true h)
      refine Ev.step (f := fun _ => some (0, false)) (fun k => ?_) (Ev.now _)
      simp only [spec_ReadDecimal.l0]
      rw [if_pos (by omega), if_pos (by omega), hbt]
      by_cases h48 : (b.toNat : Int) < 48
      · rw [if_pos h48]
      · rw [if_neg h48, if_pos (by omega)]
theorem spec_ReadDecimal_ev (s : ByteArray) : Ev (fun k => spec_ReadDecimal.f k s) (rdecC s) := by
  by_cases h : (s.size : Int) > 10
  · refine ⟨0, fun k _ => ?_⟩
    simp only [spec_ReadDecimal.f, rdecC]
    rw [if_pos h, if_neg (by omega)]
  · obtain ⟨K, hK⟩ := spec_ReadDecimal_l0 s (by omega) s.size 0 0 (by omega) (by simp)
    refine ⟨K, fun k hk => ?_⟩
    have e : spec_ReadDecimal.l0 k s 0 0 = _ := hK k hk
    simp only [spec_ReadDecimal.f]
    rw [if_neg h]
    refine e.trans ?_
    rw [List.drop_zero]
    unfold rdecC finD
    by_cases hd : s.data.toList.all digB = true
    · rw [if_pos hd]
      by_cases hv : valD 0 s.data.toList ≤ 1000000000 ∧ decT (valD 0 s.data.toList : Nat) = s
      · rw [if_pos hv, if_pos ⟨by omega, hd, hv.1, hv.2⟩]
      · rw [if_neg hv, if_neg (fun h => hv ⟨h.2.2.1, h.2.2.2⟩)]
    · rw [if_neg hd, if_neg (fun h => hd h.2.1)]
theorem rdecI_eq (s : ByteArray) : rdecI s = rdecC s := by
  rw [← rdecC_impl]
  unfold rdecI
  cases hv : Lib.atoiAll s.data.toList
  rotate_left
  · rfl
  · rfl
  rename_i v
  have hi : (itoaT v).toList = s.toList ↔ decT v = s := by
    rw [toList_iff]; rfl
  simp only [hi]
theorem impl_ReadDecimal_eq (s : ByteArray) (hs : s.size ≤ 140737488351232) : impl_ReadDecimal.f s = some (rdecC s) := by
  unfold impl_ReadDecimal.f
  rw [if_pos hs, rdecI_eq]

theorem FnExactReadDecimal : laws_FnExactReadDecimal.Pure := by
  intro s hs
  by_cases hb : (s.size : Int) > 1048576
  · exact ⟨0, by simp only [laws_FnExactReadDecimal.f]; rw [if_pos hb]⟩
  · obtain ⟨K, hK⟩ := spec_ReadDecimal_ev s
    refine ⟨K, ?_⟩
    have e : spec_ReadDecimal.f K s = some _ := hK K (Nat.le_refl _)
    simp only [laws_FnExactReadDecimal.f]
    rw [if_neg hb, e, Option.bind_some, impl_ReadDecimal_eq s hs, Option.bind_some, if_pos rfl, if_neg (by simp)]

end Go.Proofs.YtgeagknnfkgihaaDoor.Pure
