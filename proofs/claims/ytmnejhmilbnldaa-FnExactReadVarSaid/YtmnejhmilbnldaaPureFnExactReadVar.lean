/- For every text and every int, the program's ReadVar returns what the reference's ReadVar returns: FnExactReadVar returns true. No condition. -/
import Derived.Test.YtmnejhmilbnldaaPFnExactReadVarx2
namespace Go.Proofs.Ytmnejhmilbnldaa.Pure
open Go.RowKit Go.Proofs.Ytmnejhmilbnldaa.PFnExactReadVar Go.Proofs.YtmnejhmilbnldaaW.PrintWords Go.Proofs.YtmnejhmilbnldaaW.PrintLast Go.Proofs.YtmnejhmilbnldaaW.PrintMore

/-! ### numbers in bytes, in plain Lean -/
/-- The bytes of a number: seven bits each, the lowest first. -/
def vl (n : Nat) : List Int := if 127 < n then ((n % 128 + 128 : Nat) : Int) :: vl (n / 128) else [(n : Int)]
  termination_by n
  decreasing_by omega
theorem vl_big {n : Nat} (h : 127 < n) : vl n = ((n % 128 + 128 : Nat) : Int) :: vl (n / 128) := by rw [vl, if_pos h]
theorem vl_small {n : Nat} (h : ¬ 127 < n) : vl n = [(n : Int)] := by rw [vl, if_neg h]
theorem vl_pos (n : Nat) : 0 < (vl n).length := by
  by_cases h : 127 < n
  · rw [vl_big h]; simp
  · rw [vl_small h]; simp
theorem vl_bytes (n : Nat) : ∀ b ∈ vl n, 0 ≤ b ∧ b ≤ 255 := by
  induction n using Nat.strongRecOn with
  | _ n ih =>
    by_cases h : 127 < n
    · rw [vl_big h]
      intro b hb
      rcases List.mem_cons.1 hb with rfl | hb
      · omega
      · exact ih _ (by omega) b hb
    · rw [vl_small h]
      intro b hb
      have := List.mem_singleton.1 hb
      omega
/-- The number that bytes make. -/
def dec : List Int → Int
  | [] => 0
  | b :: bs => b % 128 + 128 * dec bs
theorem dec_nonneg : ∀ bs : List Int, 0 ≤ dec bs
  | [] => by simp [dec]
  | b :: bs => by have := dec_nonneg bs; simp only [dec]; omega
theorem dec_vl (n : Nat) : dec (vl n) = (n : Int) := by
  induction n using Nat.strongRecOn with
  | _ n ih =>
    by_cases h : 127 < n
    · rw [vl_big h, dec, ih _ (by omega)]; omega
    · rw [vl_small h, dec, dec]; omega
theorem vl_form (n : Nat) : ∃ bs c, vl n = bs ++ [c] ∧ (∀ b ∈ bs, 128 ≤ b ∧ b ≤ 255) ∧ 0 ≤ c ∧ c ≤ 127 ∧ (bs = [] ∨ c ≠ 0) := by
  induction n using Nat.strongRecOn with
  | _ n ih =>
    by_cases h : 127 < n
    · obtain ⟨bs, c, h1, h2, h3, h4, h5⟩ := ih (n / 128) (by omega)
      refine ⟨((n % 128 + 128 : Nat) : Int) :: bs, c, by rw [vl_big h, h1]; rfl, ?_, h3, h4, .inr ?_⟩
      · intro b hb
        rcases List.mem_cons.1 hb with rfl | hb
        · omega
        · exact h2 b hb
      · rcases h5 with rfl | h5
        · have := dec_vl (n / 128)
          rw [h1] at this
          simp [dec] at this
          omega
        · exact h5
    · exact ⟨[], (n : Int), by rw [vl_small h]; rfl, by simp, by omega, by omega, .inl rfl⟩
theorem dec_pos : ∀ (bs : List Int) (c : Int), (∀ b ∈ bs, 128 ≤ b ∧ b ≤ 255) → 0 ≤ c → c ≤ 127 → c ≠ 0 → 1 ≤ dec (bs ++ [c])
  | [], c, _, h0, h1, h2 => by simp [dec]; omega
  | b :: bs, c, h, h0, h1, h2 => by
    have := dec_pos bs c (fun x hx => h x (List.mem_cons_of_mem _ hx)) h0 h1 h2
    simp only [List.cons_append, dec]; omega
theorem vl_dec : ∀ (bs : List Int) (c : Int), (∀ b ∈ bs, 128 ≤ b ∧ b ≤ 255) → 0 ≤ c → c ≤ 127 → (bs = [] ∨ c ≠ 0) → vl (dec (bs ++ [c])).toNat = bs ++ [c]
  | [], c, _, h0, h1, _ => by
    have e : (dec ([] ++ [c])).toNat = c.toNat := by simp [dec]; omega
    rw [e, vl_small (by omega)]
    simp; omega
  | b :: bs, c, h, h0, h1, h2 => by
    have hc : c ≠ 0 := by rcases h2 with h2 | h2 <;> simp_all
    have hb := h b List.mem_cons_self
    have hp := dec_pos bs c (fun x hx => h x (List.mem_cons_of_mem _ hx)) h0 h1 hc
    have ih := vl_dec bs c (fun x hx => h x (List.mem_cons_of_mem _ hx)) h0 h1 (.inr hc)
    have e : dec (b :: bs ++ [c]) = b % 128 + 128 * dec (bs ++ [c]) := by simp only [List.cons_append, dec]
    rw [e, vl_big (by omega)]
    have e2 : (b % 128 + 128 * dec (bs ++ [c])).toNat / 128 = (dec (bs ++ [c])).toNat := by omega
    rw [e2, ih]
    simp only [List.cons_append, List.cons.injEq, and_true]
    omega
/-- No longer form: the last byte is nought behind others. -/
theorem vl_ne (bs : List Int) (hb : bs ≠ []) (m : Nat) : vl m ≠ bs ++ [(0 : Int)] := by
  intro e
  obtain ⟨bs', c', h1, h2, h3, h4, h5⟩ := vl_form m
  rw [h1] at e
  have := List.append_inj' e rfl
  obtain ⟨rfl, e2⟩ := this
  simp at e2
  rcases h5 with h5 | h5
  · exact hb h5
  · exact h5 e2

/-- What ReadVar does with the bytes from a place on: k of them are gone, n is what they made. -/
def rvL : Nat → List Int → Nat → Int → Option (Int × Nat)
  | 0, _, _, _ => none
  | _ + 1, [], _, _ => none
  | f + 1, b :: bs, k, n =>
    if b < 128 then (if (b = 0 ∧ 0 < k) ∨ 1000000000 < n + b % 128 * 128 ^ k then none else some (n + b % 128 * 128 ^ k, k + 1))
    else rvL f bs (k + 1) (n + b % 128 * 128 ^ k)
theorem dec_app : ∀ (xs ys : List Int), dec (xs ++ ys) = dec xs + 128 ^ xs.length * dec ys
  | [], ys => by simp [dec]
  | x :: xs, ys => by
    have := dec_app xs ys
    simp only [List.cons_append, dec, List.length_cons, Int.pow_succ] at this ⊢
    rw [this, Int.mul_add, ← Int.mul_assoc, Int.mul_comm (128 : Int) (128 ^ xs.length)]
    omega
theorem dec_one (b : Int) : dec [b] = b % 128 := by simp [dec]
theorem dec_snoc (xs : List Int) (b : Int) : dec (xs ++ [b]) = dec xs + b % 128 * 128 ^ xs.length := by
  rw [dec_app, dec_one, Int.mul_comm]
theorem rvL_sound : ∀ (f : Nat) (bs : List Int) (k : Nat) (pre : List Int) (m : Int) (j : Nat), (∀ b ∈ pre, 128 ≤ b ∧ b ≤ 255) → pre.length = k → (∀ b ∈ bs, 0 ≤ b ∧ b ≤ 255) →
    rvL f bs k (dec pre) = some (m, j) → 0 ≤ m ∧ m ≤ 1000000000 ∧ k < j ∧ j ≤ k + bs.length ∧ vl m.toNat = pre ++ bs.take (j - k)
  | 0, _, _, _, _, _, _, _, _, h => by simp [rvL] at h
  | _ + 1, [], _, _, _, _, _, _, _, h => by simp [rvL] at h
  | f + 1, b :: bs, k, pre, m, j, hp, hk, hb, h => by
    have hb0 := hb b List.mem_cons_self
    have hn : dec pre + b % 128 * 128 ^ k = dec (pre ++ [b]) := by rw [dec_snoc, hk]
    simp only [rvL] at h
    rw [hn] at h
    by_cases h1 : b < 128
    · rw [if_pos h1] at h
      by_cases h2 : (b = 0 ∧ 0 < k) ∨ 1000000000 < dec (pre ++ [b])
      · rw [if_pos h2] at h; cases h
      · rw [if_neg h2] at h
        simp only [Option.some.injEq, Prod.mk.injEq] at h
        obtain ⟨rfl, rfl⟩ := h
        refine ⟨dec_nonneg _, by omega, by omega, by simp, ?_⟩
        rw [vl_dec pre b hp hb0.1 (by omega) (by
          rcases Nat.eq_zero_or_pos k with h0 | h0
          · left; exact List.eq_nil_of_length_eq_zero (by omega)
          · right; intro e; exact h2 (.inl ⟨e, h0⟩))]
        rw [show k + 1 - k = 1 by omega]; rfl
    · rw [if_neg h1] at h
      obtain ⟨h3, h4, h5, h6, h7⟩ := rvL_sound f bs (k + 1) (pre ++ [b]) m j (by
        intro x hx
        rcases List.mem_append.1 hx with hx | hx
        · exact hp x hx
        · have := List.mem_singleton.1 hx
          subst this
          omega) (by simp [hk]) (fun x hx => hb x (List.mem_cons_of_mem _ hx)) h
      refine ⟨h3, h4, by omega, by simp only [List.length_cons]; omega, ?_⟩
      rw [h7, show j - k = (j - (k + 1)) + 1 by omega, List.take_succ_cons, List.append_assoc]; rfl
theorem rvL_full : ∀ (t : List Int) (f : Nat) (rest : List Int) (m : Nat) (pre : List Int), vl m = pre ++ t → t ≠ [] → t.length ≤ f → m ≤ 1000000000 →
    rvL f (t ++ rest) pre.length (dec pre) = some ((m : Int), (vl m).length)
  | [], _, _, _, _, _, h, _, _ => absurd rfl h
  | b :: t, 0, _, _, _, _, _, h, _ => by simp at h
  | b :: t, f + 1, rest, m, pre, hm, _, hf, hmax => by
    have hn : dec pre + b % 128 * 128 ^ pre.length = dec (pre ++ [b]) := by rw [dec_snoc]
    obtain ⟨bs, c, h1, h2, h3, h4, h5⟩ := vl_form m
    simp only [List.cons_append, rvL]
    rw [hn]
    cases t with
    | nil =>
      have e : bs ++ [c] = pre ++ [b] := by rw [← h1, hm]
      obtain ⟨rfl, e2⟩ := List.append_inj' e rfl
      simp only [List.cons.injEq, and_true] at e2
      subst e2
      have hd : dec (bs ++ [c]) = (m : Int) := by rw [← h1, dec_vl]
      rw [hd, if_pos (by omega), if_neg (by
        rintro (⟨h6, h7⟩ | h6)
        · rcases h5 with rfl | h5
          · simp at h7
          · exact h5 h6
        · omega)]
      simp [hm]
    | cons b2 t =>
      have hbm : b ∈ bs := by
        have e : bs ++ [c] = pre ++ b :: b2 :: t := by rw [← h1, hm]
        have e2 : pre ++ b :: b2 :: t = (pre ++ b :: (b2 :: t).dropLast) ++ [(b2 :: t).getLast (by simp)] := by
          rw [List.append_assoc, List.cons_append, List.dropLast_concat_getLast]
        rw [e2] at e
        obtain ⟨rfl, _⟩ := List.append_inj' e rfl
        simp
      have := h2 b hbm
      rw [if_neg (by omega)]
      have ih := rvL_full (b2 :: t) f rest m (pre ++ [b]) (by rw [hm]; simp) (by simp) (by simp at hf ⊢; omega) hmax
      simpa using ih
theorem vl_len : ∀ (j m : Nat), 1 ≤ j → m < 128 ^ j → (vl m).length ≤ j
  | 0, _, h, _ => by omega
  | j + 1, m, _, h => by
    by_cases h1 : 127 < m
    · rw [vl_big h1]
      rcases Nat.eq_zero_or_pos j with rfl | hj
      · simp at h; omega
      · have := vl_len j (m / 128) hj (by rw [Nat.pow_succ] at h; omega)
        simp only [List.length_cons]; omega
    · rw [vl_small h1]; simp
/-- ReadVar's answer at the bytes that are left. -/
def rv (bs : List Int) : Option (Int × Nat) := rvL 5 bs 0 0
theorem rv_sound {bs : List Int} {m : Int} {j : Nat} (hb : ∀ b ∈ bs, 0 ≤ b ∧ b ≤ 255) (h : rv bs = some (m, j)) : 0 ≤ m ∧ m ≤ 1000000000 ∧ 0 < j ∧ j ≤ bs.length ∧ vl m.toNat = bs.take j := by
  obtain ⟨h1, h2, h3, h4, h5⟩ := rvL_sound 5 bs 0 [] m j (by simp) rfl hb h
  exact ⟨h1, h2, h3, by omega, by simpa using h5⟩
theorem rv_full (m : Nat) (rest : List Int) (hm : m ≤ 1000000000) : rv (vl m ++ rest) = some ((m : Int), (vl m).length) :=
  rvL_full (vl m) 5 rest m [] rfl (by have := vl_pos m; intro e; rw [e] at this; simp at this) (vl_len 5 m (by omega) (by omega)) hm

/-! ### texts as lists of bytes -/
theorem bytesOf_range (s : ByteArray) : ∀ b ∈ bytesOf s, 0 ≤ b ∧ b ≤ 255 := by
  intro b hb
  obtain ⟨u, _, rfl⟩ := List.mem_map.1 hb
  have := u.toNat_lt
  omega
theorem bytesOf_inj {s t : ByteArray} (h : bytesOf s = bytesOf t) : s = t := by
  apply ByteArray.ext
  apply Array.toList_inj.1
  unfold bytesOf at h
  refine (List.map_inj_right ?_).1 h
  intro a b hab
  exact UInt8.toNat_inj.1 (by omega)
theorem bytesOf_app (s t : ByteArray) : bytesOf (s ++ t) = bytesOf s ++ bytesOf t := by
  simp [bytesOf]
theorem bytesOf_ext (s : ByteArray) (a b : Nat) : bytesOf (s.extract a b) = ((bytesOf s).drop a).take (b - a) := by
  simp [bytesOf, List.map_take, List.map_drop]
theorem bytesOf_str (xs : List Int) (h : ∀ b ∈ xs, 0 ≤ b ∧ b ≤ 255) : bytesOf (strOfNums xs) = xs := by
  unfold bytesOf
  rw [strOfNums_data, List.map_map]
  conv => rhs; rw [← List.map_id xs]
  refine List.map_congr_left fun b hb => ?_
  have := h b hb
  simp only [Function.comp_apply, id_eq, UInt8.toNat_ofNat']
  omega
theorem str_bytesOf (s : ByteArray) : strOfNums (bytesOf s) = s := bytesOf_inj (bytesOf_str _ (bytesOf_range s))
theorem bytesOf_nil : bytesOf (⟨#[]⟩ : ByteArray) = [] := rfl
theorem toList_iff {s t : ByteArray} : s.toList = t.toList ↔ s = t := by
  constructor
  · intro h
    rw [ByteArray.toList_eq, ByteArray.toList_eq] at h
    exact ByteArray.ext (Array.toList_inj.1 h)
  · rintro rfl; rfl
theorem bt_getElem {s : ByteArray} {i : Int} (h1 : i.toNat < s.size) : (bytesOf s)[i.toNat]? = some (bt s i) := by
  rw [← rd_bytesOf]
  unfold rd
  rw [List.getD_eq_getElem?_getD, List.getElem?_eq_getElem (by rw [bytesOf_length]; exact h1)]; rfl
theorem bytesOf_drop {s : ByteArray} {i : Int} (h0 : 0 ≤ i) (h : i < (s.size : Int)) : (bytesOf s).drop i.toNat = bt s i :: (bytesOf s).drop (i + 1).toNat := by
  have hl : i.toNat < (bytesOf s).length := by rw [bytesOf_length]; omega
  rw [List.drop_eq_getElem_cons hl, show (i + 1).toNat = i.toNat + 1 by omega]
  congr 1
  have := bt_getElem (s := s) (i := i) (by omega)
  rw [List.getElem?_eq_getElem hl] at this
  exact Option.some.inj this
theorem bytesOf_drop_end {s : ByteArray} {i : Int} (h : ¬ i < (s.size : Int)) : (bytesOf s).drop i.toNat = [] := by
  apply List.drop_eq_nil_of_le
  rw [bytesOf_length]; omega
theorem extract_all (s : ByteArray) : s.extract 0 s.size = s := bytesOf_inj (by rw [bytesOf_ext, List.drop_zero, Nat.sub_zero, ← bytesOf_length, List.take_length])
theorem w64 {n : Int} (h0 : -9223372036854775808 ≤ n) (h1 : n ≤ 9223372036854775807) : wrap64 n = n := by
  unfold wrap64; omega
theorem i64wf {n : Int} (h : (Lit.int .i64 n).wf = true) : -9223372036854775808 ≤ n ∧ n ≤ 9223372036854775807 := by
  simp [Lit.wf, IntKind.min, IntKind.max, IntKind.bits, IntKind.signed] at h
  omega
theorem u32wf {n : Int} (h : (Lit.int .u32 n).wf = true) : 0 ≤ n ∧ n ≤ 4294967295 := by
  simp [Lit.wf, IntKind.min, IntKind.max, IntKind.bits, IntKind.signed] at h
  omega
theorem tmod_nat {n : Int} (h : 0 ≤ n) (m : Int) : Int.tmod n m = n % m := Int.tmod_eq_emod_of_nonneg h
theorem tdiv_nat {n : Int} (h : 0 ≤ n) (m : Int) : Int.tdiv n m = n / m := Int.tdiv_eq_ediv_of_nonneg h

def rvO (at0 : Int) (o : Option (Int × Nat)) : Int × Int × Bool := match o with
  | some (m, j) => (m, at0 + (j : Int), true)
  | none => (0, 0, false)
def rvC (s : ByteArray) (at0 : Int) : Int × Int × Bool := if 0 ≤ at0 ∧ at0 ≤ (s.size : Int) then rvO at0 (rv ((bytesOf s).drop at0.toNat)) else (0, 0, false)
theorem p128 : (128 : Int) ^ 0 = 1 ∧ (128 : Int) ^ 1 = 128 ∧ (128 : Int) ^ 2 = 16384 ∧ (128 : Int) ^ 3 = 2097152 ∧ (128 : Int) ^ 4 = 268435456 ∧ (128 : Int) ^ 5 = 34359738368 := by decide
theorem pow5 {kk : Nat} (h : kk ≤ 4) : (128 : Int) ^ (kk + 1) ≤ 34359738368 := by
  obtain rfl | rfl | rfl | rfl | rfl : kk = 0 ∨ kk = 1 ∨ kk = 2 ∨ kk = 3 ∨ kk = 4 := by omega
  all_goals decide
theorem dec_lt : ∀ (xs : List Int) {k : Nat}, xs.length ≤ k → dec xs < 128 ^ k
  | [], k, _ => by simp only [dec]; exact Int.pow_pos (by decide)
  | x :: xs, k, h => by
    obtain ⟨j, rfl⟩ : ∃ j, k = j + 1 := ⟨k - 1, by simp at h; omega⟩
    have := dec_lt xs (k := j) (by simp at h; omega)
    simp only [dec]
    rw [Int.pow_succ]
    omega

theorem impl_in_eq (a b c : Int) : impl_in.f a b c = some (decide (b ≤ a ∧ a ≤ c)) := by
  unfold impl_in.f
  by_cases h : a ≥ b
  · rw [if_pos h]; simp [show b ≤ a from h]
  · rw [if_neg h]; simp [show ¬ b ≤ a from h]

theorem bits_low7 {n : Int} (h0 : 0 ≤ n) (h1 : n ≤ 9223372036854775807) : Go.bits .and .i64 n 127 = n % 128 :=
  bits_mask .i64 63 (by decide) (fun n h0 h1 => by rw [IntKind.wrap_i64]; omega) 7 (by decide) n h0 (by omega)
theorem bits_or128 {n : Int} (h0 : 0 ≤ n) (h1 : n < 128) : Go.bits .or .i64 n 128 = n + 128 := by
  obtain ⟨a, rfl⟩ := Int.eq_ofNat_of_zero_le h0
  have h := (bits_nat .i64 63 (by decide) (fun n h0 h1 => by rw [IntKind.wrap_i64]; omega) a 128 (by omega) (by omega)).2
  have e : a ||| 128 = 128 + a := by
    have := Nat.two_pow_add_eq_or_of_lt (i := 7) (b := a) (by omega) 1
    rw [Nat.or_comm, show (128 : Nat) ||| a = 2 ^ 7 * 1 ||| a from rfl, ← this]
  rw [e] at h
  rw [show (128 : Int) = ((128 : Nat) : Int) from rfl, h]; omega

theorem or_add (a b i : Nat) (hi : i ≤ 40) (ha : a < 2 ^ i) (hb : b < 128) : Go.bits .or .i64 (a : Int) ((2 ^ i * b : Nat) : Int) = (a : Int) + ((2 ^ i * b : Nat) : Int) := by
  have e : 2 ^ i * b < 2 ^ 63 := by
    have h1 : 2 ^ i ≤ 2 ^ 40 := Nat.pow_le_pow_right (by decide) hi
    calc 2 ^ i * b ≤ 2 ^ 40 * b := Nat.mul_le_mul_right _ h1
      _ < 2 ^ 63 := by omega
  have e2 : a < 2 ^ 63 := Nat.lt_of_lt_of_le ha (Nat.pow_le_pow_right (by decide) (by omega))
  rw [(bits_nat .i64 63 (by decide) (fun n h0 h1 => by rw [IntKind.wrap_i64]; omega) a (2 ^ i * b) e2 e).2, Nat.or_comm, ← Nat.two_pow_add_eq_or_of_lt ha b]
  omega
theorem or_shl {n b : Int} {kk : Nat} (hk : kk ≤ 4) (h0 : 0 ≤ n) (h1 : n < 128 ^ kk) (hb0 : 0 ≤ b) (hb1 : b ≤ 255) :
    Go.bits .or .i64 n (shl .i64 (Go.bits .and .i64 (wrap64 b) 127) (wrap64 (7 * (kk : Int)))) = n + b % 128 * 128 ^ kk := by
  rw [w64 (by omega) (by omega), w64 (by omega) (by omega), bits_low7 hb0 (by omega)]
  obtain ⟨a, rfl⟩ := Int.eq_ofNat_of_zero_le h0
  obtain ⟨c, rfl⟩ := Int.eq_ofNat_of_zero_le hb0
  have key := or_add a (c % 128) (7 * kk) (by omega) (by
    have : ((a : Nat) : Int) < ((128 ^ kk : Nat) : Int) := by simpa using h1
    have h2 : a < 128 ^ kk := by omega
    rwa [show 2 ^ (7 * kk) = 128 ^ kk by rw [Nat.pow_mul]]) (by omega)
  have es : shl .i64 ((c : Int) % 128) (7 * (kk : Int)) = ((2 ^ (7 * kk) * (c % 128) : Nat) : Int) := by
    unfold shl
    have hm : min ((7 * (kk : Int)).toNat) IntKind.i64.bits = 7 * kk := by
      have : (7 * (kk : Int)).toNat = 7 * kk := by omega
      rw [this]
      exact Nat.min_eq_left (by simp [IntKind.bits]; omega)
    rw [hm, IntKind.wrap_i64]
    obtain rfl | rfl | rfl | rfl | rfl : kk = 0 ∨ kk = 1 ∨ kk = 2 ∨ kk = 3 ∨ kk = 4 := by omega
    all_goals simp only [Nat.reduceMul, Nat.reducePow, Int.reducePow, Nat.mul_zero, Nat.pow_zero, Int.pow_zero]; omega
  rw [es, key]
  congr 1
  rw [show 2 ^ (7 * kk) = 128 ^ kk by rw [Nat.pow_mul]]
  simp [Int.mul_comm]
theorem impl_ReadVar_l0 (s : ByteArray) (at0 : Int) (h0 : 0 ≤ at0) (h1 : at0 ≤ (s.size : Int)) (hs : s.size ≤ 140737488351232) : ∀ (f kk : Nat) (n : Int), f + kk = 5 → 0 ≤ n → n < 128 ^ kk →
    Ev (fun k => impl_ReadVar.l0 k s at0 n (kk : Int)) (rvO at0 (rvL f ((bytesOf s).drop (at0 + kk).toNat) kk n))
  | 0, kk, n, hf, _, _ => by
    refine Ev.step (f := fun k => impl_ReadVar.j1 k s at0 n (kk : Int) false) (fun k => ?_) ?_
    · simp only [impl_ReadVar.l0]; rw [if_neg (by omega)]
    · refine Ev.step (f := fun _ => some (0, 0, false)) (fun k => ?_) (Ev.now _)
      simp [impl_ReadVar.j1]
  | f + 1, kk, n, hf, hn0, hn1 => by
    refine Ev.step (f := fun k => impl_ReadVar.j1 k s at0 n (kk : Int) (decide (wrap64 (at0 + (kk : Int)) < (s.size : Int)))) (fun k => ?_) ?_
    · simp only [impl_ReadVar.l0]; rw [if_pos (by omega)]
    · rw [w64 (by omega) (by omega)]
      by_cases hlt : at0 + (kk : Int) < (s.size : Int)
      · have hb := bt_range s (at0 + kk)
        have hor := or_shl (n := n) (b := bt s (at0 + kk)) (kk := kk) (by omega) hn0 hn1 hb.1 hb.2
        rw [bytesOf_drop (by omega) hlt]
        have hpow : n + bt s (at0 + kk) % 128 * 128 ^ kk < 128 ^ (kk + 1) := by
          rw [Int.pow_succ]
          have h3 : bt s (at0 + kk) % 128 * 128 ^ kk ≤ 127 * 128 ^ kk := Int.mul_le_mul_of_nonneg_right (by omega) (Int.le_of_lt (Int.pow_pos (by decide)))
          omega
        have hge : 0 ≤ n + bt s (at0 + kk) % 128 * 128 ^ kk := by
          have : 0 ≤ bt s (at0 + kk) % 128 * 128 ^ kk := Int.mul_nonneg (by omega) (Int.le_of_lt (Int.pow_pos (by decide)))
          omega
        by_cases hb2 : bt s (at0 + kk) < 128
        · refine Ev.step (f := fun _ => some (rvO at0 (rvL (f + 1) (bt s (at0 + kk) :: (bytesOf s).drop (at0 + kk + 1).toNat) kk n))) (fun k => ?_) (Ev.now _)
          simp only [impl_ReadVar.j1, rvL]
          rw [w64 (n := at0 + kk) (by omega) (by omega), if_pos (by simpa using hlt), if_pos (by omega), if_pos hlt, if_pos (by rw [w64 (by omega) (by omega)]; omega), hor, w64 (n := bt s (at0 + kk)) (by omega) (by omega), if_neg (by omega), if_pos hb2]
          by_cases hz : bt s (at0 + kk) = 0
          · rw [if_pos hz]
            by_cases hk : (kk : Int) > 0
            · rw [if_pos hk, if_pos (.inl ⟨hz, by omega⟩)]; rfl
            · rw [if_neg hk]
              by_cases hm : n + bt s (at0 + kk) % 128 * 128 ^ kk > 1000000000
              · rw [if_pos hm, if_pos (.inr hm)]; rfl
              · rw [if_neg hm, if_neg (by omega), w64 (by omega) (by omega)]
                simp only [rvO, Int.add_assoc, Int.natCast_add, Int.cast_ofNat_Int]
          · rw [if_neg hz]
            by_cases hm : n + bt s (at0 + kk) % 128 * 128 ^ kk > 1000000000
            · rw [if_pos hm, if_pos (.inr hm)]; rfl
            · rw [if_neg hm, if_neg (by omega), w64 (by omega) (by omega)]
              simp only [rvO, Int.add_assoc, Int.natCast_add, Int.cast_ofNat_Int]
        · refine Ev.step (f := fun k => impl_ReadVar.l0 k s at0 (n + bt s (at0 + kk) % 128 * 128 ^ kk) ((kk + 1 : Nat) : Int)) (fun k => ?_) ?_
          · simp only [impl_ReadVar.j1]
            rw [w64 (n := at0 + kk) (by omega) (by omega), if_pos (by simpa using hlt), if_pos (by omega), if_pos hlt, if_pos (by rw [w64 (by omega) (by omega)]; omega), hor, w64 (n := bt s (at0 + kk)) (by omega) (by omega), if_pos (by omega), w64 (n := (kk : Int) + 1) (by omega) (by omega)]
            rfl
          · have ih := impl_ReadVar_l0 s at0 h0 h1 hs f (kk + 1) (n + bt s (at0 + kk) % 128 * 128 ^ kk) (by omega) hge hpow
            simp only [rvL]
            rw [if_neg hb2]
            rw [show at0 + (kk : Int) + 1 = at0 + ((kk + 1 : Nat) : Int) by omega]
            exact ih
      · rw [bytesOf_drop_end hlt]
        refine Ev.step (f := fun _ => some (0, 0, false)) (fun k => ?_) (Ev.now _)
        simp [impl_ReadVar.j1, hlt]
theorem impl_ReadVar_ev (s : ByteArray) (at0 : Int) (hs : s.size ≤ 140737488351232) : Ev (fun k => impl_ReadVar.f k s at0) (rvC s at0) := by
  by_cases h : 0 ≤ at0 ∧ at0 ≤ (s.size : Int)
  · obtain ⟨K, hK⟩ := impl_ReadVar_l0 s at0 h.1 h.2 hs 5 0 0 rfl (by omega) (by decide)
    refine ⟨K, fun k hk => ?_⟩
    have := hK k hk
    simp only [impl_ReadVar.f, impl_in_eq, Option.bind_some, h, rvC, rv]
    simpa using this
  · refine ⟨0, fun k _ => ?_⟩
    simp only [impl_ReadVar.f, impl_in_eq, Option.bind_some, h, rvC]
    simp

theorem spec_l01In_eq (a b c : Int) : spec_l01In.f a b c = some (decide (b ≤ a ∧ a ≤ c)) := by
  unfold spec_l01In.f
  by_cases h : a ≥ b
  · rw [if_pos h]; simp [show b ≤ a from h]
  · rw [if_neg h]; simp [show ¬ b ≤ a from h]

def varC (n : Int) : ByteArray × Bool := if 0 ≤ n ∧ n ≤ 1000000000 then (strOfNums (vl n.toNat), true) else (⟨#[]⟩, false)
def varT (n : Int) : ByteArray := strOfNums (vl n.toNat)
theorem bytesOf_varT (n : Int) : bytesOf (varT n) = vl n.toNat := bytesOf_str _ (vl_bytes _)

theorem spec_l01Var_l0 (n : Nat) : ∀ out : List Int, n ≤ 9223372036854775807 → out.length + (vl n).length ≤ 140737488355328 →
    Ev (fun k => spec_l01Var.l0 k (n : Int) out) (strOfNums (out ++ vl n)) := by
  induction n using Nat.strongRecOn with
  | _ n ih =>
    intro out hn hl
    by_cases h : 127 < n
    · rw [vl_big h] at hl ⊢
      simp only [List.length_cons] at hl
      refine Ev.step (f := fun k => spec_l01Var.l0 k ((n / 128 : Nat) : Int) (out ++ [((n % 128 + 128 : Nat) : Int)])) (fun k => ?_) ?_
      · simp only [spec_l01Var.l0]
        rw [if_pos (by omega), if_pos (by omega), tmod_nat (by omega), tdiv_nat (by omega), w64 (by omega) (by omega), w64 (by omega) (by omega)]
        congr 3
        omega
      · have := ih (n / 128) (by omega) (out ++ [((n % 128 + 128 : Nat) : Int)]) (by omega) (by simp; omega)
        rwa [List.append_assoc] at this
    · rw [vl_small h] at hl ⊢
      simp only [List.length_cons, List.length_nil] at hl
      refine Ev.step (f := fun _ => some (strOfNums (out ++ [(n : Int)]))) (fun k => ?_) (Ev.now _)
      simp only [spec_l01Var.l0]
      rw [if_neg (by omega), if_pos (by omega), show (n : Int) % 256 = n by omega]
theorem spec_l01Var_ev {n : Int} (h0 : 0 ≤ n) (h1 : n ≤ 9223372036854775807) : Ev (fun k => spec_l01Var.f k n) (varT n) := by
  have hl := vl_len 10 n.toNat (by omega) (by omega)
  have := spec_l01Var_l0 n.toNat [] (by omega) (by simp; omega)
  rw [Int.toNat_of_nonneg h0] at this
  exact this

theorem pre_snoc {s : ByteArray} {a kk : Nat} (h : ((a : Int) + (kk : Int)) < (s.size : Int)) : ((bytesOf s).drop a).take (kk + 1) = ((bytesOf s).drop a).take kk ++ [bt s ((a : Int) + kk)] := by
  rw [List.take_add_one]
  congr 1
  rw [List.getElem?_drop]
  have := bt_getElem (s := s) (i := (a : Int) + kk) (by omega)
  rw [show ((a : Int) + (kk : Int)).toNat = a + kk by omega] at this
  rw [this]; rfl
theorem spec_ReadVar_l0 (s : ByteArray) (a : Nat) (h1 : a ≤ s.size) (hs : s.size ≤ 140737488351232) : ∀ (f kk : Nat), f + kk = 5 → a + kk ≤ s.size → (∀ b ∈ ((bytesOf s).drop a).take kk, 128 ≤ b ∧ b ≤ 255) →
    Ev (fun k => spec_ReadVar.l0 k s (a : Int) (dec (((bytesOf s).drop a).take kk)) (128 ^ kk) ((a : Int) + (kk : Int))) (rvO (a : Int) (rvL f ((bytesOf s).drop (a + kk)) kk (dec (((bytesOf s).drop a).take kk))))
  | 0, kk, hf, hk, hp => by
    refine Ev.step (f := fun k => spec_ReadVar.j1 k s (a : Int) (dec (((bytesOf s).drop a).take kk)) (128 ^ kk) ((a : Int) + (kk : Int)) false) (fun k => ?_) ?_
    · simp only [spec_ReadVar.l0]
      rw [w64 (by omega) (by omega)]
      have : decide ((a : Int) + (kk : Int) < (a : Int) + 5) = false := decide_eq_false (by omega)
      rw [this]
      split <;> rfl
    · refine Ev.step (f := fun _ => some (0, 0, false)) (fun k => ?_) (Ev.now _)
      simp [spec_ReadVar.j1]
  | f + 1, kk, hf, hk, hp => by
    have hlen : (((bytesOf s).drop a).take kk).length = kk := by
      rw [List.length_take, List.length_drop, bytesOf_length]; omega
    by_cases hlt : (a : Int) + (kk : Int) < (s.size : Int)
    · have c1 : (0 : Int) ≤ (a : Int) := Int.natCast_nonneg a
      have c2 : (a : Int) ≤ (a : Int) + (kk : Int) + 1 := by omega
      have c3 : (a : Int) + (kk : Int) + 1 ≤ (s.size : Int) := by omega
      have c4 : wrap64 ((a : Int) + (kk : Int) + 1) = (a : Int) + (kk : Int) + 1 := w64 (by omega) (by omega)
      have hb := bt_range s ((a : Int) + kk)
      have hsn := pre_snoc (s := s) (a := a) (kk := kk) hlt
      have hn : dec (((bytesOf s).drop a).take kk) + bt s ((a : Int) + kk) % 128 * 128 ^ kk = dec (((bytesOf s).drop a).take (kk + 1)) := by
        rw [hsn, dec_snoc, hlen]
      have hnn := dec_nonneg (((bytesOf s).drop a).take kk)
      have hbound : dec (((bytesOf s).drop a).take (kk + 1)) < 128 ^ (kk + 1) := dec_lt _ (by rw [List.length_take]; omega)
      have hdrop : (bytesOf s).drop (a + kk) = bt s ((a : Int) + kk) :: (bytesOf s).drop (a + (kk + 1)) := by
        have := bytesOf_drop (s := s) (i := (a : Int) + kk) (by omega) hlt
        rwa [show ((a : Int) + (kk : Int)).toNat = a + kk by omega, show ((a : Int) + (kk : Int) + 1).toNat = a + (kk + 1) by omega] at this
      have h128 := pow5 (kk := kk) (by omega)
      have h128' : (128 : Int) ^ (kk + 1) = 128 ^ kk * 128 := Int.pow_succ ..
      have hpos : (0 : Int) < 128 ^ kk := Int.pow_pos (by decide)
      have hmul : 0 ≤ bt s ((a : Int) + kk) % 128 * 128 ^ kk := Int.mul_nonneg (by omega) (by omega)
      have hmul2 : bt s ((a : Int) + kk) % 128 * 128 ^ kk ≤ 127 * 128 ^ kk := Int.mul_le_mul_of_nonneg_right (by omega) (by omega)
      have hnn1 := dec_nonneg (((bytesOf s).drop a).take (kk + 1))
      have hcalc : wrap64 (dec (((bytesOf s).drop a).take kk) + wrap64 (Int.tmod (wrap64 (bt s ((a : Int) + kk))) 128 * 128 ^ kk)) = dec (((bytesOf s).drop a).take (kk + 1)) := by
        rw [w64 (n := bt s ((a : Int) + kk)) (by omega) (by omega), tmod_nat hb.1, w64 (n := bt s ((a : Int) + kk) % 128 * 128 ^ kk) (by omega) (by omega), hn, w64 (by omega) (by omega)]
      refine Ev.step (f := fun k => spec_ReadVar.j1 k s (a : Int) (dec (((bytesOf s).drop a).take kk)) (128 ^ kk) ((a : Int) + (kk : Int)) true) (fun k => ?_) ?_
      · simp only [spec_ReadVar.l0]
        rw [w64 (by omega) (by omega), if_pos hlt]
        have : decide ((a : Int) + (kk : Int) < (a : Int) + 5) = true := decide_eq_true (by omega)
        rw [this]
      · rw [hdrop]
        by_cases hb2 : bt s ((a : Int) + kk) < 128
        · by_cases hm : dec (((bytesOf s).drop a).take (kk + 1)) > 1000000000
          · refine Ev.step (f := fun _ => some (0, 0, false)) (fun k => ?_) ?_
            · simp only [spec_ReadVar.j1]
              rw [if_pos trivial, if_pos (by omega), if_pos hlt, if_pos hb2, hcalc, if_pos hm]
            · simp only [rvL]
              rw [hn, if_pos hb2, if_pos (.inr hm)]
              exact Ev.now _
          · obtain ⟨K, hK⟩ := spec_l01Var_ev (n := dec (((bytesOf s).drop a).take (kk + 1))) hnn1 (by omega)
            refine ⟨K + 1, fun k hk => ?_⟩
            obtain ⟨k, rfl⟩ : ∃ m, k = m + 1 := ⟨k - 1, by omega⟩
            have e0 : spec_l01Var.f k _ = some _ := hK k (by omega)
            simp only [spec_ReadVar.j1]
            rw [if_pos trivial, if_pos (by omega), if_pos hlt, if_pos hb2, hcalc, if_neg hm, e0, Option.bind_some]
            rw [if_pos c1, c4, if_pos c2, if_pos c3]
            have hext : bytesOf (s.extract ((a : Int)).toNat ((a : Int) + (kk : Int) + 1).toNat) = ((bytesOf s).drop a).take kk ++ [bt s ((a : Int) + kk)] := by
              rw [bytesOf_ext, ← hsn, Int.toNat_natCast, show ((a : Int) + (kk : Int) + 1).toNat - a = kk + 1 by omega]
            simp only [rvL]
            rw [hn, if_pos hb2]
            by_cases hz : bt s ((a : Int) + kk) = 0 ∧ 0 < kk
            · have hne : ¬ (varT (dec (((bytesOf s).drop a).take (kk + 1)))).toList = (s.extract ((a : Int)).toNat ((a : Int) + (kk : Int) + 1).toNat).toList := by
                rw [toList_iff]
                intro e
                have e2 := congrArg bytesOf e
                rw [bytesOf_varT, hext, hz.1] at e2
                refine vl_ne _ (fun e3 => ?_) _ e2
                rw [e3] at hlen
                simp at hlen
                omega
              rw [if_neg hne, if_pos (.inl hz)]; rfl
            · have heq : (varT (dec (((bytesOf s).drop a).take (kk + 1)))).toList = (s.extract ((a : Int)).toNat ((a : Int) + (kk : Int) + 1).toNat).toList := by
                rw [toList_iff]
                apply bytesOf_inj
                rw [bytesOf_varT, hext]
                rw [hsn]
                refine vl_dec _ _ hp hb.1 (by omega) ?_
                rcases Nat.eq_zero_or_pos kk with h3 | h3
                · left; subst h3; rfl
                · right; intro e; exact hz ⟨e, h3⟩
              rw [if_pos heq, if_neg (by omega)]
              simp only [rvO, Int.add_assoc, Int.natCast_add, Int.cast_ofNat_Int]
        · refine Ev.step (f := fun k => spec_ReadVar.l0 k s (a : Int) (dec (((bytesOf s).drop a).take (kk + 1))) (128 ^ (kk + 1)) ((a : Int) + ((kk + 1 : Nat) : Int))) (fun k => ?_) ?_
          · simp only [spec_ReadVar.j1]
            rw [if_pos trivial, if_pos (by omega), if_pos hlt, if_neg hb2, hcalc, w64 (n := (a : Int) + kk + 1) (by omega) (by omega), w64 (n := 128 ^ kk * 128) (by omega) (by omega), ← h128', show (a : Int) + (kk : Int) + 1 = (a : Int) + ((kk + 1 : Nat) : Int) by omega]
          · simp only [rvL]
            rw [if_neg hb2, hn]
            refine spec_ReadVar_l0 s a h1 hs f (kk + 1) (by omega) (by omega) ?_
            intro x hx
            rw [hsn] at hx
            rcases List.mem_append.1 hx with hx | hx
            · exact hp x hx
            · have := List.mem_singleton.1 hx
              subst this
              omega
    · have hend : (bytesOf s).drop (a + kk) = [] := by
        have := bytesOf_drop_end (s := s) (i := (a : Int) + kk) hlt
        rwa [show ((a : Int) + (kk : Int)).toNat = a + kk by omega] at this
      rw [hend]
      refine Ev.step (f := fun k => spec_ReadVar.j1 k s (a : Int) (dec (((bytesOf s).drop a).take kk)) (128 ^ kk) ((a : Int) + (kk : Int)) false) (fun k => ?_) ?_
      · simp only [spec_ReadVar.l0]
        rw [if_neg hlt]
      · refine Ev.step (f := fun _ => some (0, 0, false)) (fun k => ?_) (Ev.now _)
        simp [spec_ReadVar.j1]
theorem spec_ReadVar_ev (s : ByteArray) (at0 : Int) (hs : s.size ≤ 140737488351232) : Ev (fun k => spec_ReadVar.f k s at0) (rvC s at0) := by
  by_cases h : 0 ≤ at0 ∧ at0 ≤ (s.size : Int)
  · obtain ⟨a, rfl⟩ := Int.eq_ofNat_of_zero_le h.1
    obtain ⟨K, hK⟩ := spec_ReadVar_l0 s a (by omega) hs 5 0 rfl (by omega) (by simp)
    refine ⟨K, fun k hk => ?_⟩
    have := hK k hk
    simp only [spec_ReadVar.f, spec_l01In_eq, Option.bind_some, h, rvC, rv]
    simpa [dec] using this
  · refine ⟨0, fun k _ => ?_⟩
    simp only [spec_ReadVar.f, spec_l01In_eq, Option.bind_some, h, rvC]
    simp

theorem FnExactReadVar : laws_FnExactReadVar.Pure := by
  intro a0 a1 h0 _
  obtain ⟨K1, h1⟩ := spec_ReadVar_ev a0 a1 h0
  obtain ⟨K2, h2⟩ := impl_ReadVar_ev a0 a1 h0
  refine ⟨max K1 K2, ?_⟩
  simp only [laws_FnExactReadVar.f, h1 _ (Nat.le_max_left K1 K2), h2 _ (Nat.le_max_right K1 K2), Option.bind_some]
  split <;> simp

end Go.Proofs.Ytmnejhmilbnldaa.Pure
