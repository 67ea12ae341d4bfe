/- For every journal, the program's JournalText returns what the reference's JournalText returns, and leaves the journal as it was: FnExactJournalText returns true. No condition. -/
import Derived.Test.YtgeagknnfkgihaaQFnExactJournalTextx12
namespace Go.Proofs.Ytgeagknnfkgihaa.Pure
open Go.RowKit Go.Proofs.Ytgeagknnfkgihaa.PFnExactJournalText Go.Proofs.YtgeagknnfkgihaaW.PrintWords Go.Proofs.YtgeagknnfkgihaaW.PrintLast Go.Proofs.YtgeagknnfkgihaaW.PrintMore

/-! ### texts as lists of bytes -/
theorem bytesOf_range (s : ByteArray) : ∀ b ∈ bytesOf s, 0 ≤ b ∧ b ≤ 255 := by
  intro b hb
  obtain ⟨u, _, rfl⟩ := List.mem_map.1 hb
  have := u.toNat_lt
  omega
theorem bytesOf_inj {s t : ByteArray} (h : bytesOf s = bytesOf t) : s = t := by
  apply ByteArray.ext
  apply Array.toList_inj.1
  unfold bytesOf at h
  refine (List.map_inj_right ?_).1 h
  intro a b hab
  exact UInt8.toNat_inj.1 (by omega)
theorem bytesOf_app (s t : ByteArray) : bytesOf (s ++ t) = bytesOf s ++ bytesOf t := by
  simp [bytesOf]
theorem bytesOf_ext (s : ByteArray) (a b : Nat) : bytesOf (s.extract a b) = ((bytesOf s).drop a).take (b - a) := by
  simp [bytesOf, List.map_take, List.map_drop]
theorem bytesOf_str (xs : List Int) (h : ∀ b ∈ xs, 0 ≤ b ∧ b ≤ 255) : bytesOf (strOfNums xs) = xs := by
  unfold bytesOf
  rw [strOfNums_data, List.map_map]
  conv => rhs; rw [← List.map_id xs]
  refine List.map_congr_left fun b hb => ?_
  have := h b hb
  simp only [Function.comp_apply, id_eq, UInt8.toNat_ofNat']
  omega
theorem str_bytesOf (s : ByteArray) : strOfNums (bytesOf s) = s := bytesOf_inj (bytesOf_str _ (bytesOf_range s))
theorem bytesOf_nil : bytesOf (⟨#[]⟩ : ByteArray) = [] := rfl
theorem toList_iff {s t : ByteArray} : s.toList = t.toList ↔ s = t := by
  constructor
  · intro h
    rw [ByteArray.toList_eq, ByteArray.toList_eq] at h
    exact ByteArray.ext (Array.toList_inj.1 h)
  · rintro rfl; rfl
theorem bt_getElem {s : ByteArray} {i : Int} (h1 : i.toNat < s.size) : (bytesOf s)[i.toNat]? = some (bt s i) := by
  rw [← rd_bytesOf]
  unfold rd
  rw [List.getD_eq_getElem?_getD, List.getElem?_eq_getElem (by rw [bytesOf_length]; exact h1)]; rfl
theorem bytesOf_drop {s : ByteArray} {i : Int} (h0 : 0 ≤ i) (h : i < (s.size : Int)) : (bytesOf s).drop i.toNat = bt s i :: (bytesOf s).drop (i + 1).toNat := by
  have hl : i.toNat < (bytesOf s).length := by rw [bytesOf_length]; omega
  rw [List.drop_eq_getElem_cons hl, show (i + 1).toNat = i.toNat + 1 by omega]
  congr 1
  have := bt_getElem (s := s) (i := i) (by omega)
  rw [List.getElem?_eq_getElem hl] at this
  exact Option.some.inj this
theorem bytesOf_drop_end {s : ByteArray} {i : Int} (h : ¬ i < (s.size : Int)) : (bytesOf s).drop i.toNat = [] := by
  apply List.drop_eq_nil_of_le
  rw [bytesOf_length]; omega
theorem extract_all (s : ByteArray) : s.extract 0 s.size = s := bytesOf_inj (by rw [bytesOf_ext, List.drop_zero, Nat.sub_zero, ← bytesOf_length, List.take_length])
theorem w64 {n : Int} (h0 : -9223372036854775808 ≤ n) (h1 : n ≤ 9223372036854775807) : wrap64 n = n := by
  unfold wrap64; omega
theorem i64wf {n : Int} (h : (Lit.int .i64 n).wf = true) : -9223372036854775808 ≤ n ∧ n ≤ 9223372036854775807 := by
  simp [Lit.wf, IntKind.min, IntKind.max, IntKind.bits, IntKind.signed] at h
  omega
theorem u32wf {n : Int} (h : (Lit.int .u32 n).wf = true) : 0 ≤ n ∧ n ≤ 4294967295 := by
  simp [Lit.wf, IntKind.min, IntKind.max, IntKind.bits, IntKind.signed] at h
  omega
theorem tmod_nat {n : Int} (h : 0 ≤ n) (m : Int) : Int.tmod n m = n % m := Int.tmod_eq_emod_of_nonneg h
theorem tdiv_nat {n : Int} (h : 0 ≤ n) (m : Int) : Int.tdiv n m = n / m := Int.tdiv_eq_ediv_of_nonneg h

theorem drop_rd {l : List Int} {i : Nat} (h : i < l.length) : l.drop i = rd l (i : Int) :: l.drop (i + 1) := by
  rw [List.drop_eq_getElem_cons h]
  congr 1
  unfold rd
  rw [Int.toNat_natCast, List.getD_eq_getElem?_getD, List.getElem?_eq_getElem h]; rfl
theorem take_set_succ {α : Type} (l : List α) (i : Nat) (v : α) (h : i < l.length) : (l.set i v).take (i + 1) = l.take i ++ [v] := by
  rw [List.take_add_one, List.getElem?_set_self h, List.take_set_of_le (Nat.le_refl i)]; rfl
theorem take_rd {l : List Int} {i : Nat} (h : i < l.length) : l.take (i + 1) = l.take i ++ [rd l (i : Int)] := by
  rw [List.take_add_one]
  congr 1
  unfold rd
  rw [Int.toNat_natCast, List.getD_eq_getElem?_getD, List.getElem?_eq_getElem h]; rfl

/-- Rising, each in 1 .. 4, and above p. -/
def riseL : Int → List Int → Bool
  | _, [] => true
  | p, x :: xs => if 1 ≤ x ∧ x ≤ 4 ∧ p < x then riseL x xs else false
theorem riseL_len : ∀ (l : List Int) (p : Int), riseL p l = true → l = [] ∨ p + (l.length : Int) ≤ 4
  | [], _, _ => .inl rfl
  | x :: xs, p, h => by
    simp only [riseL] at h
    by_cases h1 : 1 ≤ x ∧ x ≤ 4 ∧ p < x
    · rw [if_pos h1] at h
      rcases riseL_len xs x h with rfl | h2
      · right; simp; omega
      · right; simp only [List.length_cons]; omega
    · rw [if_neg h1] at h; simp at h
def confC (l : List Int) : Bool := decide (1 ≤ l.length) && riseL 0 l
theorem confC_len {l : List Int} (h : confC l = true) : 1 ≤ l.length ∧ l.length ≤ 4 := by
  unfold confC at h
  simp only [Bool.and_eq_true, decide_eq_true_eq] at h
  rcases riseL_len l 0 h.2 with rfl | h2
  · simp at h
  · omega
theorem riseL_range : ∀ (l : List Int) (p : Int), riseL p l = true → ∀ x ∈ l, 1 ≤ x ∧ x ≤ 4
  | [], _, _, _, h => by simp at h
  | y :: ys, p, h, x, hx => by
    simp only [riseL] at h
    by_cases h1 : 1 ≤ y ∧ y ≤ 4 ∧ p < y
    · rw [if_pos h1] at h
      rcases List.mem_cons.1 hx with rfl | hx
      · omega
      · exact riseL_range ys y h x hx
    · rw [if_neg h1] at h; simp at h
theorem confC_range {l : List Int} (h : confC l = true) : ∀ x ∈ l, 1 ≤ x ∧ x ≤ 4 := by
  unfold confC at h
  simp only [Bool.and_eq_true] at h
  exact riseL_range l 0 h.2
/-- What stands ahead of place i. -/
def prv (l : List Int) (i : Nat) : Int := if i = 0 then 0 else rd l ((i : Int) - 1)
theorem prv_succ (l : List Int) (i : Nat) : prv l (i + 1) = rd l (i : Int) := by
  unfold prv
  rw [if_neg (by omega), show ((i + 1 : Nat) : Int) - 1 = (i : Int) by omega]

def rconfC (s : ByteArray) : List Int × Bool := if confC (bytesOf s) = true then (bytesOf s, true) else ([], false)
theorem take_bytes_succ {s : ByteArray} {i : Nat} (h : i < s.size) : (bytesOf s).take (i + 1) = (bytesOf s).take i ++ [bt s (i : Int)] := by
  rw [take_rd (by rw [bytesOf_length]; exact h), rd_bytesOf]

/-! ### numbers in bytes, in plain Lean -/
/-- The bytes of a number: seven bits each, the lowest first. -/
def vl (n : Nat) : List Int := if 127 < n then ((n % 128 + 128 : Nat) : Int) :: vl (n / 128) else [(n : Int)]
  termination_by n
  decreasing_by omega
theorem vl_big {n : Nat} (h : 127 < n) : vl n = ((n % 128 + 128 : Nat) : Int) :: vl (n / 128) := by rw [vl, if_pos h]
theorem vl_small {n : Nat} (h : ¬ 127 < n) : vl n = [(n : Int)] := by rw [vl, if_neg h]
theorem vl_pos (n : Nat) : 0 < (vl n).length := by
  by_cases h : 127 < n
  · rw [vl_big h]; simp
  · rw [vl_small h]; simp
theorem vl_bytes (n : Nat) : ∀ b ∈ vl n, 0 ≤ b ∧ b ≤ 255 := by
  induction n using Nat.strongRecOn with
  | _ n ih =>
    by_cases h : 127 < n
    · rw [vl_big h]
      intro b hb
      rcases List.mem_cons.1 hb with rfl | hb
      · omega
      · exact ih _ (by omega) b hb
    · rw [vl_small h]
      intro b hb
      have := List.mem_singleton.1 hb
      omega
/-- The number that bytes make. -/
def dec : List Int → Int
  | [] => 0
  | b :: bs => b % 128 + 128 * dec bs
theorem dec_nonneg : ∀ bs : List Int, 0 ≤ dec bs
  | [] => by simp [dec]
  | b :: bs => by have := dec_nonneg bs; simp only [dec]; omega
theorem dec_vl (n : Nat) : dec (vl n) = (n : Int) := by
  induction n using Nat.strongRecOn with
  | _ n ih =>
    by_cases h : 127 < n
    · rw [vl_big h, dec, ih _ (by omega)]; omega
    · rw [vl_small h, dec, dec]; omega
theorem vl_form (n : Nat) : ∃ bs c, vl n = bs ++ [c] ∧ (∀ b ∈ bs, 128 ≤ b ∧ b ≤ 255) ∧ 0 ≤ c ∧ c ≤ 127 ∧ (bs = [] ∨ c ≠ 0) := by
  induction n using Nat.strongRecOn with
  | _ n ih =>
    by_cases h : 127 < n
    · obtain ⟨bs, c, h1, h2, h3, h4, h5⟩ := ih (n / 128) (by omega)
      refine ⟨((n % 128 + 128 : Nat) : Int) :: bs, c, by rw [vl_big h, h1]; rfl, ?_, h3, h4, .inr ?_⟩
      · intro b hb
        rcases List.mem_cons.1 hb with rfl | hb
        · omega
        · exact h2 b hb
      · rcases h5 with rfl | h5
        · have := dec_vl (n / 128)
          rw [h1] at this
          simp [dec] at this
          omega
        · exact h5
    · exact ⟨[], (n : Int), by rw [vl_small h]; rfl, by simp, by omega, by omega, .inl rfl⟩
theorem dec_pos : ∀ (bs : List Int) (c : Int), (∀ b ∈ bs, 128 ≤ b ∧ b ≤ 255) → 0 ≤ c → c ≤ 127 → c ≠ 0 → 1 ≤ dec (bs ++ [c])
  | [], c, _, h0, h1, h2 => by simp [dec]; omega
  | b :: bs, c, h, h0, h1, h2 => by
    have := dec_pos bs c (fun x hx => h x (List.mem_cons_of_mem _ hx)) h0 h1 h2
    simp only [List.cons_append, dec]; omega
theorem vl_dec : ∀ (bs : List Int) (c : Int), (∀ b ∈ bs, 128 ≤ b ∧ b ≤ 255) → 0 ≤ c → c ≤ 127 → (bs = [] ∨ c ≠ 0) → vl (dec (bs ++ [c])).toNat = bs ++ [c]
  | [], c, _, h0, h1, _ => by
    have e : (dec ([] ++ [c])).toNat = c.toNat := by simp [dec]; omega
    rw [e, vl_small (by omega)]
    simp; omega
  | b :: bs, c, h, h0, h1, h2 => by
    have hc : c ≠ 0 := by rcases h2 with h2 | h2 <;> simp_all
    have hb := h b List.mem_cons_self
    have hp := dec_pos bs c (fun x hx => h x (List.mem_cons_of_mem _ hx)) h0 h1 hc
    have ih := vl_dec bs c (fun x hx => h x (List.mem_cons_of_mem _ hx)) h0 h1 (.inr hc)
    have e : dec (b :: bs ++ [c]) = b % 128 + 128 * dec (bs ++ [c]) := by simp only [List.cons_append, dec]
    rw [e, vl_big (by omega)]
    have e2 : (b % 128 + 128 * dec (bs ++ [c])).toNat / 128 = (dec (bs ++ [c])).toNat := by omega
    rw [e2, ih]
    simp only [List.cons_append, List.cons.injEq, and_true]
    omega
/-- No longer form: the last byte is nought behind others. -/
theorem vl_ne (bs : List Int) (hb : bs ≠ []) (m : Nat) : vl m ≠ bs ++ [(0 : Int)] := by
  intro e
  obtain ⟨bs', c', h1, h2, h3, h4, h5⟩ := vl_form m
  rw [h1] at e
  have := List.append_inj' e rfl
  obtain ⟨rfl, e2⟩ := this
  simp at e2
  rcases h5 with h5 | h5
  · exact hb h5
  · exact h5 e2

/-- What ReadVar does with the bytes from a place on: k of them are gone, n is what they made. -/
def rvL : Nat → List Int → Nat → Int → Option (Int × Nat)
  | 0, _, _, _ => none
  | _ + 1, [], _, _ => none
  | f + 1, b :: bs, k, n =>
    if b < 128 then (if (b = 0 ∧ 0 < k) ∨ 1000000000 < n + b % 128 * 128 ^ k then none else some (n + b % 128 * 128 ^ k, k + 1))
    else rvL f bs (k + 1) (n + b % 128 * 128 ^ k)
theorem dec_app : ∀ (xs ys : List Int), dec (xs ++ ys) = dec xs + 128 ^ xs.length * dec ys
  | [], ys => by simp [dec]
  | x :: xs, ys => by
    have := dec_app xs ys
    simp only [List.cons_append, dec, List.length_cons, Int.pow_succ] at this ⊢
    rw [this, Int.mul_add, ← Int.mul_assoc, Int.mul_comm (128 : Int) (128 ^ xs.length)]
    omega
theorem dec_one (b : Int) : dec [b] = b % 128 := by simp [dec]
theorem dec_snoc (xs : List Int) (b : Int) : dec (xs ++ [b]) = dec xs + b % 128 * 128 ^ xs.length := by
  rw [dec_app, dec_one, Int.mul_comm]
theorem rvL_sound : ∀ (f : Nat) (bs : List Int) (k : Nat) (pre : List Int) (m : Int) (j : Nat), (∀ b ∈ pre, 128 ≤ b ∧ b ≤ 255) → pre.length = k → (∀ b ∈ bs, 0 ≤ b ∧ b ≤ 255) →
    rvL f bs k (dec pre) = some (m, j) → 0 ≤ m ∧ m ≤ 1000000000 ∧ k < j ∧ j ≤ k + bs.length ∧ vl m.toNat = pre ++ bs.take (j - k)
  | 0, _, _, _, _, _, _, _, _, h => by simp [rvL] at h
  | _ + 1, [], _, _, _, _, _, _, _, h => by simp [rvL] at h
  | f + 1, b :: bs, k, pre, m, j, hp, hk, hb, h => by
    have hb0 := hb b List.mem_cons_self
    have hn : dec pre + b % 128 * 128 ^ k = dec (pre ++ [b]) := by rw [dec_snoc, hk]
    simp only [rvL] at h
    rw [hn] at h
    by_cases h1 : b < 128
    · rw [if_pos h1] at h
      by_cases h2 : (b = 0 ∧ 0 < k) ∨ 1000000000 < dec (pre ++ [b])
      · rw [if_pos h2] at h; cases h
      · rw [if_neg h2] at h
        simp only [Option.some.injEq, Prod.mk.injEq] at h
        obtain ⟨rfl, rfl⟩ := h
        refine ⟨dec_nonneg _, by omega, by omega, by simp, ?_⟩
        rw [vl_dec pre b hp hb0.1 (by omega) (by
          rcases Nat.eq_zero_or_pos k with h0 | h0
          · left; exact List.eq_nil_of_length_eq_zero (by omega)
          · right; intro e; exact h2 (.inl ⟨e, h0⟩))]
        rw [show k + 1 - k = 1 by omega]; rfl
    · rw [if_neg h1] at h
      obtain ⟨h3, h4, h5, h6, h7⟩ := rvL_sound f bs (k + 1) (pre ++ [b]) m j (by
        intro x hx
        rcases List.mem_append.1 hx with hx | hx
        · exact hp x hx
        · have := List.mem_singleton.1 hx
          subst this
          omega) (by simp [hk]) (fun x hx => hb x (List.mem_cons_of_mem _ hx)) h
      refine ⟨h3, h4, by omega, by simp only [List.length_cons]; omega, ?_⟩
      rw [h7, show j - k = (j - (k + 1)) + 1 by omega, List.take_succ_cons, List.append_assoc]; rfl
theorem rvL_full : ∀ (t : List Int) (f : Nat) (rest : List Int) (m : Nat) (pre : List Int), vl m = pre ++ t → t ≠ [] → t.length ≤ f → m ≤ 1000000000 →
    rvL f (t ++ rest) pre.length (dec pre) = some ((m : Int), (vl m).length)
  | [], _, _, _, _, _, h, _, _ => absurd rfl h
  | b :: t, 0, _, _, _, _, _, h, _ => by simp at h
  | b :: t, f + 1, rest, m, pre, hm, _, hf, hmax => by
    have hn : dec pre + b % 128 * 128 ^ pre.length = dec (pre ++ [b]) := by rw [dec_snoc]
    obtain ⟨bs, c, h1, h2, h3, h4, h5⟩ := vl_form m
    simp only [List.cons_append, rvL]
    rw [hn]
    cases t with
    | nil =>
      have e : bs ++ [c] = pre ++ [b] := by rw [← h1, hm]
      obtain ⟨rfl, e2⟩ := List.append_inj' e rfl
      simp only [List.cons.injEq, and_true] at e2
      subst e2
      have hd : dec (bs ++ [c]) = (m : Int) := by rw [← h1, dec_vl]
      rw [hd, if_pos (by omega), if_neg (by
        rintro (⟨h6, h7⟩ | h6)
        · rcases h5 with rfl | h5
          · simp at h7
          · exact h5 h6
        · omega)]
      simp [hm]
    | cons b2 t =>
      have hbm : b ∈ bs := by
        have e : bs ++ [c] = pre ++ b :: b2 :: t := by rw [← h1, hm]
        have e2 : pre ++ b :: b2 :: t = (pre ++ b :: (b2 :: t).dropLast) ++ [(b2 :: t).getLast (by simp)] := by
          rw [List.append_assoc, List.cons_append, List.dropLast_concat_getLast]
        rw [e2] at e
        obtain ⟨rfl, _⟩ := List.append_inj' e rfl
        simp
      have := h2 b hbm
      rw [if_neg (by omega)]
      have ih := rvL_full (b2 :: t) f rest m (pre ++ [b]) (by rw [hm]; simp) (by simp) (by simp at hf ⊢; omega) hmax
      simpa using ih
theorem vl_len : ∀ (j m : Nat), 1 ≤ j → m < 128 ^ j → (vl m).length ≤ j
  | 0, _, h, _ => by omega
  | j + 1, m, _, h => by
    by_cases h1 : 127 < m
    · rw [vl_big h1]
      rcases Nat.eq_zero_or_pos j with rfl | hj
      · simp at h; omega
      · have := vl_len j (m / 128) hj (by rw [Nat.pow_succ] at h; omega)
        simp only [List.length_cons]; omega
    · rw [vl_small h1]; simp
/-- ReadVar's answer at the bytes that are left. -/
def rv (bs : List Int) : Option (Int × Nat) := rvL 5 bs 0 0
theorem rv_sound {bs : List Int} {m : Int} {j : Nat} (hb : ∀ b ∈ bs, 0 ≤ b ∧ b ≤ 255) (h : rv bs = some (m, j)) : 0 ≤ m ∧ m ≤ 1000000000 ∧ 0 < j ∧ j ≤ bs.length ∧ vl m.toNat = bs.take j := by
  obtain ⟨h1, h2, h3, h4, h5⟩ := rvL_sound 5 bs 0 [] m j (by simp) rfl hb h
  exact ⟨h1, h2, h3, by omega, by simpa using h5⟩
theorem rv_full (m : Nat) (rest : List Int) (hm : m ≤ 1000000000) : rv (vl m ++ rest) = some ((m : Int), (vl m).length) :=
  rvL_full (vl m) 5 rest m [] rfl (by have := vl_pos m; intro e; rw [e] at this; simp at this) (vl_len 5 m (by omega) (by omega)) hm

def varC (n : Int) : ByteArray × Bool := if 0 ≤ n ∧ n ≤ 1000000000 then (strOfNums (vl n.toNat), true) else (⟨#[]⟩, false)
def varT (n : Int) : ByteArray := strOfNums (vl n.toNat)
theorem bytesOf_varT (n : Int) : bytesOf (varT n) = vl n.toNat := bytesOf_str _ (vl_bytes _)

theorem varT_size {n : Int} (h0 : 0 ≤ n) (h1 : n ≤ 9223372036854775807) : (varT n).size ≤ 10 := by
  unfold varT
  rw [strOfNums_size]
  exact vl_len 10 n.toNat (by omega) (by omega)
def shortT (s : ByteArray) : ByteArray := varT (s.size : Int) ++ s
def shortC (s : ByteArray) : ByteArray × Bool := if s.size ≤ 20000 then (shortT s, true) else (⟨#[]⟩, false)

def oneB (l : List Int) : ByteArray := strOfNums (l.map (· % 256))
theorem map_take_rd {l : List Int} {i : Nat} (h : i < l.length) : (l.take (i + 1)).map (· % 256) = (l.take i).map (· % 256) ++ [rd l (i : Int) % 256] := by
  rw [take_rd h, List.map_append]; rfl

def eokC (t k : Int) (d : ByteArray) : Bool := if 0 ≤ t ∧ t ≤ 100000 then (if k = 1 then d.toList == [] else if k = 2 then (rconfC d).2 else if k = 3 then decide ((d.size : Int) ≤ 120) else false) else false
def entT (i t k : Int) (d : ByteArray) : ByteArray := ((((⟨#[69]⟩ : ByteArray) ++ varT i) ++ varT t) ++ oneB [k]) ++ d
def entC (i t k : Int) (d : ByteArray) : ByteArray × Bool := if eokC t k d = true ∧ 1 ≤ i ∧ i ≤ 1000000 then (entT i t k d, true) else (⟨#[]⟩, false)
theorem eokC_term {t k : Int} {d : ByteArray} (h : eokC t k d = true) : 0 ≤ t ∧ t ≤ 100000 := by
  unfold eokC at h
  by_cases h1 : 0 ≤ t ∧ t ≤ 100000
  · exact h1
  · rw [if_neg h1] at h; cases h
theorem eokC_kind {t k : Int} {d : ByteArray} (h : eokC t k d = true) : k = 1 ∨ k = 2 ∨ k = 3 := by
  unfold eokC at h
  rw [if_pos (eokC_term h)] at h
  by_cases h1 : k = 1
  · exact .inl h1
  · rw [if_neg h1] at h
    by_cases h2 : k = 2
    · exact .inr (.inl h2)
    · rw [if_neg h2] at h
      by_cases h3 : k = 3
      · exact .inr (.inr h3)
      · rw [if_neg h3] at h; cases h
theorem oneB_size (k : Int) : (oneB [k]).size = 1 := by unfold oneB; rw [strOfNums_size]; rfl

theorem drop_getD {α : Type} {l : List α} (z : α) {i : Nat} (h : i < l.length) : l.drop i = l.getD i z :: l.drop (i + 1) := by
  rw [List.drop_eq_getElem_cons h]
  congr 1
  rw [List.getD_eq_getElem?_getD, List.getElem?_eq_getElem h]; rfl
theorem take_getD {α : Type} {l : List α} (z : α) {i : Nat} (h : i < l.length) : l.take (i + 1) = l.take i ++ [l.getD i z] := by
  rw [List.take_add_one]
  congr 1
  rw [List.getD_eq_getElem?_getD, List.getElem?_eq_getElem h]; rfl
theorem getD_mem {α : Type} {l : List α} (z : α) {i : Nat} (h : i < l.length) : l.getD i z ∈ l := by
  rw [List.getD_eq_getElem?_getD, List.getElem?_eq_getElem h]
  exact List.getElem_mem h

/-- Right entries, their terms never falling, from t on. -/
def lgL : Int → List S56 → Bool
  | _, [] => true
  | t, x :: xs => if eokC x.f0 x.f1 x.f2 = true ∧ t ≤ x.f0 then lgL x.f0 xs else false
def logC (a b : Int) (l : List S56) : Bool := if (0 ≤ a ∧ a ≤ 1000000) ∧ (0 ≤ b ∧ b ≤ 100000) ∧ l.length ≤ 60 ∧ a + (l.length : Int) ≤ 1000000 then lgL b l else false
def tmL (b : Int) (l : List S56) (i : Nat) : Int := if i = 0 then b else (l.getD (i - 1) z56).f0
theorem tmL_succ (b : Int) (l : List S56) (i : Nat) : tmL b l (i + 1) = (l.getD i z56).f0 := by
  unfold tmL
  rw [if_neg (by omega), Nat.add_sub_cancel]
theorem tmL_zero (b : Int) (l : List S56) : tmL b l 0 = b := rfl

def jokC (n t v a b : Int) (l : List S56) : Bool := if (0 ≤ n ∧ n ≤ 999) ∧ (0 ≤ t ∧ t ≤ 100000) ∧ (0 ≤ v ∧ v ≤ 4) then logC a b l else false

/-! ### check sums, in plain Lean -/
theorem xor_cancel {a b c : Nat} (h : a ^^^ c = b ^^^ c) : a = b := by
  have := congrArg (· ^^^ c) h
  simpa [Nat.xor_assoc, Nat.xor_self] using this
theorem xor_cancel' {a b c : Nat} (h : c ^^^ a = c ^^^ b) : a = b := by
  rw [Nat.xor_comm c a, Nat.xor_comm c b] at h
  exact xor_cancel h
/-- One of the eight steps of a byte. -/
def cst (x : Nat) : Nat := if x % 2 = 1 then x / 2 ^^^ 3558460437 else x / 2
theorem cst_lt {x : Nat} (h : x < 4294967296) : cst x < 4294967296 := by
  unfold cst
  split
  · exact Nat.xor_lt_two_pow (n := 32) (by omega) (by omega)
  · omega
theorem cst_top {x : Nat} (h : x < 4294967296) : (cst x).testBit 31 = decide (x % 2 = 1) := by
  have hq : (x / 2).testBit 31 = false := Nat.testBit_lt_two_pow (by omega)
  unfold cst
  by_cases h1 : x % 2 = 1
  · rw [if_pos h1, Nat.testBit_xor, hq]; simp [h1]; decide
  · rw [if_neg h1, hq]; simp [h1]
theorem cst_inj {x y : Nat} (hx : x < 4294967296) (hy : y < 4294967296) (h : cst x = cst y) : x = y := by
  have hp : decide (x % 2 = 1) = decide (y % 2 = 1) := by rw [← cst_top hx, ← cst_top hy, h]
  unfold cst at h
  by_cases h1 : x % 2 = 1
  · have h2 : y % 2 = 1 := by simpa [h1] using hp
    rw [if_pos h1, if_pos h2] at h
    have : x / 2 = y / 2 := xor_cancel h
    omega
  · have h2 : ¬ y % 2 = 1 := by simpa [h1] using hp
    rw [if_neg h1, if_neg h2] at h
    omega
/-- n steps. -/
def csts : Nat → Nat → Nat
  | 0, x => x
  | n + 1, x => csts n (cst x)
theorem csts_lt : ∀ (n : Nat) {x : Nat}, x < 4294967296 → csts n x < 4294967296
  | 0, _, h => h
  | n + 1, _, h => csts_lt n (cst_lt h)
theorem csts_inj : ∀ (n : Nat) {x y : Nat}, x < 4294967296 → y < 4294967296 → csts n x = csts n y → x = y
  | 0, _, _, _, _, h => h
  | n + 1, _, _, hx, hy, h => cst_inj hx hy (csts_inj n (cst_lt hx) (cst_lt hy) h)
/-- The sum behind more bytes. -/
def crc : Nat → List Nat → Nat
  | s, [] => s
  | s, b :: bs => crc (csts 8 (s ^^^ b)) bs
theorem xor_byte_lt {s b : Nat} (h : s < 4294967296) (hb : b < 256) : s ^^^ b < 4294967296 := Nat.xor_lt_two_pow (n := 32) (by omega) (by omega)
theorem crc_lt : ∀ (bs : List Nat) {s : Nat}, (∀ b ∈ bs, b < 256) → s < 4294967296 → crc s bs < 4294967296
  | [], _, _, h => h
  | b :: bs, _, hb, h => crc_lt bs (fun x hx => hb x (List.mem_cons_of_mem _ hx)) (csts_lt 8 (xor_byte_lt h (hb b List.mem_cons_self)))
theorem crc_inj : ∀ (bs : List Nat) {s t : Nat}, (∀ b ∈ bs, b < 256) → s < 4294967296 → t < 4294967296 → crc s bs = crc t bs → s = t
  | [], _, _, _, _, _, h => h
  | b :: bs, _, _, hb, hs, ht, h => by
    have hb0 := hb b List.mem_cons_self
    have h1 := crc_inj bs (fun x hx => hb x (List.mem_cons_of_mem _ hx)) (csts_lt 8 (xor_byte_lt hs hb0)) (csts_lt 8 (xor_byte_lt ht hb0)) h
    exact xor_cancel (csts_inj 8 (xor_byte_lt hs hb0) (xor_byte_lt ht hb0) h1)
theorem crc_app : ∀ (xs ys : List Nat) (s : Nat), crc s (xs ++ ys) = crc (crc s xs) ys
  | [], _, _ => rfl
  | _ :: xs, ys, _ => crc_app xs ys _
/-- One byte is another: the sum is another. -/
theorem crc_turned (xs ys : List Nat) (a b s : Nat) (hx : ∀ c ∈ xs, c < 256) (hy : ∀ c ∈ ys, c < 256) (ha : a < 256) (hb : b < 256) (hab : a ≠ b) (hs : s < 4294967296) :
    crc s (xs ++ a :: ys) ≠ crc s (xs ++ b :: ys) := by
  rw [crc_app, crc_app]
  intro h
  have h0 := crc_lt xs hx hs
  have h1 := crc_inj ys hy (csts_lt 8 (xor_byte_lt h0 ha)) (csts_lt 8 (xor_byte_lt h0 hb)) h
  have h2 := csts_inj 8 (xor_byte_lt h0 ha) (xor_byte_lt h0 hb) h1
  exact hab (xor_cancel' h2)
/-- A sum in four bytes, the highest first. -/
def four (n : Nat) : List Int := [((n / 16777216 % 256 : Nat) : Int), ((n / 65536 % 256 : Nat) : Int), ((n / 256 % 256 : Nat) : Int), ((n % 256 : Nat) : Int)]
theorem four_inj {m n : Nat} (hm : m < 4294967296) (hn : n < 4294967296) (h : four m = four n) : m = n := by
  simp only [four, List.cons.injEq] at h
  omega

theorem xor_nat {a b : Nat} (ha : a < 4294967296) (hb : b < 4294967296) : Go.bits .xor .u32 (a : Int) (b : Int) = ((a ^^^ b : Nat) : Int) := by
  have hx : a ^^^ b < 2 ^ 32 := Nat.xor_lt_two_pow (n := 32) (by omega) (by omega)
  have h32 : IntKind.u32.bits = 32 := rfl
  simp only [Go.bits, h32, BitVec.ofInt_natCast, BitVec.toNat_xor, BitVec.toNat_ofNat]
  rw [Nat.mod_eq_of_lt (show a < 2 ^ 32 by omega), Nat.mod_eq_of_lt (show b < 2 ^ 32 by omega), IntKind.wrap_u32]
  omega
theorem and_one {a : Nat} (ha : a < 4294967296) : Go.bits .and .u32 (a : Int) 1 = ((a % 2 : Nat) : Int) := by
  have := bits_mask .u32 32 (by decide) (fun n h0 h1 => by rw [IntKind.wrap_u32]; omega) 1 (by decide) (a : Int) (by omega) (by omega)
  simpa using this
/-- A text's bytes. -/
def nb (s : ByteArray) : List Nat := (bytesOf s).map Int.toNat
theorem nb_lt (s : ByteArray) : ∀ b ∈ nb s, b < 256 := by
  intro b hb
  obtain ⟨x, hx, rfl⟩ := List.mem_map.1 hb
  have := bytesOf_range s x hx
  omega
theorem nb_drop {s : ByteArray} {i : Nat} (h : i < s.size) : (nb s).drop i = (bt s (i : Int)).toNat :: (nb s).drop (i + 1) := by
  unfold nb
  rw [← List.map_drop, ← List.map_drop]
  have := bytesOf_drop (s := s) (i := (i : Int)) (by omega) (by omega)
  rw [Int.toNat_natCast, show ((i : Int) + 1).toNat = i + 1 by omega] at this
  rw [this]; rfl
theorem nb_drop_end {s : ByteArray} {i : Nat} (h : ¬ i < s.size) : (nb s).drop i = [] := by
  apply List.drop_eq_nil_of_le
  unfold nb
  rw [List.length_map, bytesOf_length]; omega
theorem nb_app (s t : ByteArray) : nb (s ++ t) = nb s ++ nb t := by simp [nb, bytesOf_app]
theorem sum_lt (s : ByteArray) {n : Nat} (h : n < 4294967296) : crc n (nb s) < 4294967296 := crc_lt _ (nb_lt s) h

def sumC (s : ByteArray) : Nat := crc 4294967295 (nb s)
theorem sumC_lt (s : ByteArray) : sumC s < 4294967296 := sum_lt s (by omega)
theorem four_bytes (n : Nat) : ∀ b ∈ four n, 0 ≤ b ∧ b ≤ 255 := by
  intro b hb
  simp only [four, List.mem_cons, List.not_mem_nil, or_false] at hb
  omega
/-- A sum in four bytes, as a text. -/
def fourT (n : Nat) : ByteArray := strOfNums (four n)
theorem bytesOf_fourT (n : Nat) : bytesOf (fourT n) = four n := bytesOf_str _ (four_bytes n)
theorem fourT_size (n : Nat) : (fourT n).size = 4 := by unfold fourT; rw [strOfNums_size]; rfl
theorem fourT_inj {m n : Nat} (hm : m < 4294967296) (hn : n < 4294967296) (h : fourT m = fourT n) : m = n := by
  have := congrArg bytesOf h
  rw [bytesOf_fourT, bytesOf_fourT] at this
  exact four_inj hm hn this

def frameT (s : ByteArray) : ByteArray := varT (s.size : Int) ++ fourT (sumC s) ++ s
def frameC (s : ByteArray) : ByteArray × Bool := if 1 ≤ s.size ∧ s.size ≤ 9000 then (frameT s, true) else (⟨#[]⟩, false)

theorem rdE (l : List S56) (i : Nat) : rd_T56 l (i : Int) = l.getD i z56 := by unfold rd_T56; rw [Int.toNat_natCast]
theorem rdE' (l : List S56) {i : Nat} (h : 0 < i) : rd_T56 l ((i : Int) - 1) = l.getD (i - 1) z56 := by unfold rd_T56; rw [show ((i : Int) - 1).toNat = i - 1 by omega]

theorem impl_in_eq (a b c : Int) : impl_in.f a b c = some (decide (b ≤ a ∧ a ≤ c)) := by
  unfold impl_in.f
  by_cases h : a ≥ b
  · rw [if_pos h]; simp [show b ≤ a from h]
  · rw [if_neg h]; simp [show ¬ b ≤ a from h]

theorem bits_low7 {n : Int} (h0 : 0 ≤ n) (h1 : n ≤ 9223372036854775807) : Go.bits .and .i64 n 127 = n % 128 :=
  bits_mask .i64 63 (by decide) (fun n h0 h1 => by rw [IntKind.wrap_i64]; omega) 7 (by decide) n h0 (by omega)
theorem bits_or128 {n : Int} (h0 : 0 ≤ n) (h1 : n < 128) : Go.bits .or .i64 n 128 = n + 128 := by
  obtain ⟨a, rfl⟩ := Int.eq_ofNat_of_zero_le h0
  have h := (bits_nat .i64 63 (by decide) (fun n h0 h1 => by rw [IntKind.wrap_i64]; omega) a 128 (by omega) (by omega)).2
  have e : a ||| 128 = 128 + a := by
    have := Nat.two_pow_add_eq_or_of_lt (i := 7) (b := a) (by omega) 1
    rw [Nat.or_comm, show (128 : Nat) ||| a = 2 ^ 7 * 1 ||| a from rfl, ← this]
  rw [e] at h
  rw [show (128 : Int) = ((128 : Nat) : Int) from rfl, h]; omega

theorem impl_VarText_l0 (n : Nat) : ∀ out : List Int, n ≤ 9223372036854775807 → out.length + (vl n).length ≤ 140737488355328 →
    Ev (fun k => impl_VarText.l0 k (n : Int) out) (strOfNums (out ++ vl n), true) := by
  induction n using Nat.strongRecOn with
  | _ n ih =>
    intro out hn hl
    by_cases h : 127 < n
    · rw [vl_big h] at hl ⊢
      simp only [List.length_cons] at hl
      refine Ev.step (f := fun k => impl_VarText.l0 k ((n / 128 : Nat) : Int) (out ++ [((n % 128 + 128 : Nat) : Int)])) (fun k => ?_) ?_
      · simp only [impl_VarText.l0]
        rw [if_pos (by omega), if_pos (by omega), bits_low7 (by omega) (by omega), bits_or128 (by omega) (by omega)]
        congr 3
        omega
      · have := ih (n / 128) (by omega) (out ++ [((n % 128 + 128 : Nat) : Int)]) (by omega) (by simp; omega)
        rwa [List.append_assoc] at this
    · rw [vl_small h] at hl ⊢
      simp only [List.length_cons, List.length_nil] at hl
      refine Ev.step (f := fun _ => some (strOfNums (out ++ [(n : Int)]), true)) (fun k => ?_) (Ev.now _)
      simp only [impl_VarText.l0]
      rw [if_neg (by omega), if_pos (by omega), show (n : Int) % 256 = n by omega]
theorem impl_VarText_ev (n : Int) : Ev (fun k => impl_VarText.f k n) (varC n) := by
  by_cases h : 0 ≤ n ∧ n ≤ 1000000000
  · have hl := vl_len 10 n.toNat (by omega) (by omega)
    obtain ⟨K, hK⟩ := impl_VarText_l0 n.toNat [] (by omega) (by simp; omega)
    refine ⟨K, fun k hk => ?_⟩
    have := hK k hk
    rw [Int.toNat_of_nonneg h.1] at this
    simp only [impl_VarText.f, impl_in_eq, Option.bind_some, h, varC, this]
    simp
  · refine ⟨0, fun k _ => ?_⟩
    simp only [impl_VarText.f, impl_in_eq, Option.bind_some, h, varC]
    simp

theorem impl_varOf_ev {n : Int} (h0 : 0 ≤ n) (h1 : n ≤ 1000000000) : Ev (fun k => impl_varOf.f k n) (varT n) := by
  obtain ⟨K, hK⟩ := impl_VarText_ev n
  refine ⟨K, fun k hk => ?_⟩
  simp only [impl_varOf.f, hK k hk, Option.bind_some, varC, varT]
  rw [if_pos ⟨h0, h1⟩]

theorem impl_SumMore_l0 (s : ByteArray) (hs : s.size ≤ 140737488351232) : ∀ (d i : Nat), i + d = s.size → ∀ x : Nat, x < 4294967296 →
    Ev (fun k => impl_SumMore.l0 k (x : Int) s (s.size : Int) (i : Int)) ((crc x ((nb s).drop i) : Nat) : Int)
  | 0, i, hd, x, _ => by
    refine Ev.step (f := fun _ => some (x : Int)) (fun k => ?_) ?_
    · simp only [impl_SumMore.l0]; rw [if_neg (by omega)]
    · rw [nb_drop_end (by omega)]; exact Ev.now _
  | d + 1, i, hd, x, hx => by
    have hb := bt_range s (i : Int)
    obtain ⟨b, hb'⟩ := Int.eq_ofNat_of_zero_le hb.1
    have hbl : b < 256 := by omega
    have inner : ∀ (e j : Nat), j + e = 8 → ∀ y : Nat, y < 4294967296 → Ev (fun k => impl_SumMore.l1 k (y : Int) s (s.size : Int) (i : Int) (j : Int)) ((crc (csts e y) ((nb s).drop (i + 1)) : Nat) : Int) := by
      intro e
      induction e with
      | zero =>
        intro j hj y hy
        refine Ev.step (f := fun k => impl_SumMore.l0 k (y : Int) s (s.size : Int) ((i + 1 : Nat) : Int)) (fun k => ?_) (impl_SumMore_l0 s hs d (i + 1) (by omega) y hy)
        simp only [impl_SumMore.l1]
        rw [if_neg (by omega), w64 (by omega) (by omega)]; rfl
      | succ e ih =>
        intro j hj y hy
        refine Ev.step (f := fun k => impl_SumMore.l1 k ((cst y : Nat) : Int) s (s.size : Int) (i : Int) ((j + 1 : Nat) : Int)) (fun k => ?_) (ih (j + 1) (by omega) (cst y) (cst_lt hy))
        simp only [impl_SumMore.l1]
        rw [if_pos (by omega), w64 (by omega) (by omega), and_one hy, show (y : Int) / 2 = ((y / 2 : Nat) : Int) by omega]
        unfold cst
        by_cases h1 : y % 2 = 1
        · rw [if_pos (by omega), if_pos h1, show (3558460437 : Int) = ((3558460437 : Nat) : Int) from rfl, xor_nat (by omega) (by omega)]; rfl
        · rw [if_neg (by omega), if_neg h1]; rfl
    refine Ev.step (f := fun k => impl_SumMore.l1 k ((x ^^^ b : Nat) : Int) s (s.size : Int) (i : Int) ((0 : Nat) : Int)) (fun k => ?_) ?_
    · simp only [impl_SumMore.l0]
      rw [if_pos (by omega), if_pos (by omega), if_pos (by omega), hb', show (b : Int) % 4294967296 = (b : Int) by omega, xor_nat hx (by omega)]; rfl
    · have h := inner 8 0 rfl (x ^^^ b) (xor_byte_lt hx hbl)
      rw [nb_drop (by omega), hb', Int.toNat_natCast]
      exact h
theorem impl_SumMore_ev (s : ByteArray) (x : Nat) (hx : x < 4294967296) (hs : s.size ≤ 140737488351232) : Ev (fun k => impl_SumMore.f k (x : Int) s) ((crc x (nb s) : Nat) : Int) :=
  impl_SumMore_l0 s hs s.size 0 (by omega) x hx

theorem impl_SumOf_ev (s : ByteArray) (hs : s.size ≤ 140737488351232) : Ev (fun k => impl_SumOf.f k s) ((sumC s : Nat) : Int) := by
  obtain ⟨K, hK⟩ := impl_SumMore_ev s 4294967295 (by omega) hs
  refine ⟨K, fun k hk => ?_⟩
  have e : impl_SumMore.f k 4294967295 s = some _ := hK k hk
  simp only [impl_SumOf.f]
  rw [e]; rfl

theorem impl_fourBytes_eq (n : Nat) : impl_fourBytes.f (n : Int) = some (fourT n) := by
  simp only [impl_fourBytes.f, fourT, four]
  congr 2

theorem impl_framed_ev (s : ByteArray) (hs : s.size ≤ 1000000000) : Ev (fun k => impl_framed.f k s) (frameT s) := by
  obtain ⟨K1, h1⟩ := impl_varOf_ev (n := (s.size : Int)) (by omega) (by omega)
  obtain ⟨K2, h2⟩ := impl_SumOf_ev s (by omega)
  refine ⟨K1 + K2, fun k hk => ?_⟩
  have e1 : impl_varOf.f k (s.size : Int) = some _ := h1 k (by omega)
  have e2 : impl_SumOf.f k s = some _ := h2 k (by omega)
  have z1 := varT_size (n := (s.size : Int)) (by omega) (by omega)
  have z2 := fourT_size (sumC s)
  have z3 : (varT (s.size : Int) ++ fourT (sumC s)).size ≤ 14 := by rw [ByteArray.size_append]; omega
  simp only [impl_framed.f]
  rw [e1, Option.bind_some, e2, Option.bind_some, impl_fourBytes_eq, Option.bind_some, if_pos (by omega), if_pos (by omega)]; rfl

theorem impl_ConfOk_l0 (l : List Int) (hl : l.length ≤ 140737488351232) : ∀ (d i : Nat), i + d = l.length →
    Ev (fun k => impl_ConfOk.l0 k l l (l.length : Int) (i : Int)) (riseL (prv l i) (l.drop i) && decide (1 ≤ l.length))
  | 0, i, hd => by
    refine Ev.step (f := fun _ => some (decide ((l.length : Int) ≥ 1))) (fun k => ?_) ?_
    · simp only [impl_ConfOk.l0]; rw [if_neg (by omega)]
    · rw [List.drop_eq_nil_of_le (by omega)]
      have : (true && decide (1 ≤ l.length)) = decide ((l.length : Int) ≥ 1) := by
        rw [Bool.true_and]
        by_cases h : 1 ≤ l.length
        · rw [decide_eq_true h, decide_eq_true (by omega)]
        · rw [decide_eq_false h, decide_eq_false (by omega)]
      simp only [riseL]
      rw [this]
      exact Ev.now _
  | d + 1, i, hd => by
    have ih := impl_ConfOk_l0 l hl d (i + 1) (by omega)
    rw [prv_succ] at ih
    rw [drop_rd (by omega)]
    simp only [riseL]
    have hw : wrap64 ((i : Int) + 1) = ((i + 1 : Nat) : Int) := by rw [w64 (by omega) (by omega)]; rfl
    have hw2 : wrap64 ((i : Int) - 1) = (i : Int) - 1 := w64 (by omega) (by omega)
    by_cases h1 : 1 ≤ rd l (i : Int) ∧ rd l (i : Int) ≤ 4
    · by_cases h2 : prv l i < rd l (i : Int)
      · rw [if_pos ⟨h1.1, h1.2, h2⟩]
        refine Ev.step (f := fun k => impl_ConfOk.l0 k l l (l.length : Int) ((i + 1 : Nat) : Int)) (fun k => ?_) ih
        simp only [impl_ConfOk.l0, impl_in_eq]
        rw [if_pos (by omega), if_pos (by omega), if_pos (by omega), Option.bind_some, if_pos (by simpa using h1), hw, hw2]
        by_cases h3 : (i : Int) > 0
        · unfold prv at h2
          rw [if_neg (by omega)] at h2
          rw [if_pos h3, if_pos (by omega), if_pos (by omega), if_neg (by omega)]
        · rw [if_neg h3]
      · rw [if_neg (fun h => h2 h.2.2)]
        refine Ev.step (f := fun _ => some false) (fun k => ?_) (Ev.now _)
        have h3 : (i : Int) > 0 := by
          rcases Nat.eq_zero_or_pos i with rfl | h3
          · rw [show prv l 0 = 0 from rfl] at h2; omega
          · omega
        unfold prv at h2
        rw [if_neg (by omega)] at h2
        simp only [impl_ConfOk.l0, impl_in_eq]
        rw [if_pos (by omega), if_pos (by omega), if_pos (by omega), Option.bind_some, if_pos (by simpa using h1), hw2, if_pos h3, if_pos (by omega), if_pos (by omega), if_pos (by omega)]
    · rw [if_neg (fun h => h1 ⟨h.1, h.2.1⟩)]
      refine Ev.step (f := fun _ => some false) (fun k => ?_) (Ev.now _)
      simp only [impl_ConfOk.l0, impl_in_eq]
      rw [if_pos (by omega), if_pos (by omega), if_pos (by omega), Option.bind_some, if_neg (by simpa using h1)]
theorem impl_ConfOk_ev (l : List Int) (hl : l.length ≤ 140737488351232) : Ev (fun k => impl_ConfOk.f k l) (confC l) := by
  have h := impl_ConfOk_l0 l hl l.length 0 (by omega)
  unfold confC
  rw [Bool.and_comm]
  exact h

theorem impl_ReadConf_l0 (s : ByteArray) (hs : s.size ≤ 1048576) : ∀ (d i : Nat), i + d = s.size →
    Ev (fun k => impl_ReadConf.l0 k s ((bytesOf s).take i) (s.size : Int) (i : Int)) (rconfC s)
  | 0, i, hd => by
    have hbl := bytesOf_length s
    have e : (bytesOf s).take i = bytesOf s := List.take_of_length_le (by omega)
    rw [e]
    obtain ⟨K, hK⟩ := impl_ConfOk_ev (bytesOf s) (by omega)
    refine ⟨K + 1, fun k hk => ?_⟩
    obtain ⟨k, rfl⟩ : ∃ m, k = m + 1 := ⟨k - 1, by omega⟩
    have e2 : impl_ConfOk.f k (bytesOf s) = some _ := hK k (by omega)
    simp only [impl_ReadConf.l0]
    rw [if_neg (by omega), e2, Option.bind_some]
    unfold rconfC
    by_cases hc : confC (bytesOf s) = true
    · rw [if_pos hc, if_pos hc]
    · rw [if_neg hc, if_neg hc]
  | d + 1, i, hd => by
    have hb := bt_range s (i : Int)
    have hlen : ((bytesOf s).take i).length = i := by rw [List.length_take, bytesOf_length]; omega
    refine Ev.step (f := fun k => impl_ReadConf.l0 k s ((bytesOf s).take (i + 1)) (s.size : Int) ((i + 1 : Nat) : Int)) (fun k => ?_) (impl_ReadConf_l0 s hs d (i + 1) (by omega))
    simp only [impl_ReadConf.l0]
    rw [if_pos (by omega), if_pos (by omega), if_pos (by omega), if_pos (by omega), w64 (n := bt s (i : Int)) (by omega) (by omega), w64 (by omega) (by omega), take_bytes_succ (by omega)]; rfl
theorem impl_ReadConf_ev (s : ByteArray) (hs : s.size ≤ 1048576) : Ev (fun k => impl_ReadConf.f k s) (rconfC s) :=
  impl_ReadConf_l0 s hs s.size 0 (by omega)

theorem impl_EntryOk_ev (t k : Int) (d : ByteArray) (hd : d.size ≤ 1048576) : Ev (fun n => impl_EntryOk.f n t k d) (eokC t k d) := by
  obtain ⟨K, hK⟩ := impl_ReadConf_ev d hd
  refine ⟨K, fun n hn => ?_⟩
  have e : impl_ReadConf.f n d = some _ := hK n hn
  simp only [impl_EntryOk.f, impl_in_eq, eokC]
  rw [Option.bind_some]
  by_cases h : 0 ≤ t ∧ t ≤ 100000
  · rw [if_pos (by simpa using h), if_pos h]
    by_cases h1 : k = 1
    · rw [if_pos h1, if_pos h1]
    · rw [if_neg h1, if_neg h1]
      by_cases h2 : k = 2
      · rw [if_pos h2, if_pos h2, e, Option.bind_some]
      · rw [if_neg h2, if_neg h2]
        by_cases h3 : k = 3
        · rw [if_pos h3, if_pos h3]
        · rw [if_neg h3, if_neg h3]
  · rw [if_neg (by simpa using h), if_neg h]

theorem impl_oneByte_l0 (l : List Int) (hl : l.length ≤ 17592186043904) : ∀ (d i : Nat), i + d = l.length →
    Ev (fun k => impl_oneByte.l0 k ((l.take i).map (· % 256)) l (l.length : Int) (i : Int)) (oneB l)
  | 0, i, hd => by
    refine Ev.step (f := fun _ => some (oneB l)) (fun k => ?_) (Ev.now _)
    simp only [impl_oneByte.l0]; rw [if_neg (by omega), List.take_of_length_le (by omega)]; rfl
  | d + 1, i, hd => by
    have hlen : ((l.take i).map (· % 256)).length = i := by rw [List.length_map, List.length_take]; omega
    refine Ev.step (f := fun k => impl_oneByte.l0 k ((l.take (i + 1)).map (· % 256)) l (l.length : Int) ((i + 1 : Nat) : Int)) (fun k => ?_) (impl_oneByte_l0 l hl d (i + 1) (by omega))
    simp only [impl_oneByte.l0]
    rw [if_pos (by omega), if_pos (by omega), if_pos (by omega), if_pos (by omega), w64 (by omega) (by omega), map_take_rd (by omega)]; rfl
theorem impl_oneByte_ev (l : List Int) (hl : l.length ≤ 17592186043904) : Ev (fun k => impl_oneByte.f k l) (oneB l) :=
  impl_oneByte_l0 l hl l.length 0 (by omega)

theorem impl_EntryText_ev (i t k : Int) (d : ByteArray) (hd : d.size ≤ 1048576) : Ev (fun n => impl_EntryText.f n i t k d) (entC i t k d) := by
  obtain ⟨K, hK⟩ := impl_EntryOk_ev t k d hd
  by_cases h : eokC t k d = true
  · by_cases h1 : 1 ≤ i ∧ i ≤ 1000000
    · have ht := eokC_term h
      obtain ⟨K1, hK1⟩ := impl_varOf_ev (n := i) (by omega) (by omega)
      obtain ⟨K2, hK2⟩ := impl_varOf_ev (n := t) (by omega) (by omega)
      obtain ⟨K3, hK3⟩ := impl_oneByte_ev [k] (by simp)
      refine ⟨K + K1 + K2 + K3 + 1, fun n hn => ?_⟩
      obtain ⟨n, rfl⟩ : ∃ m, n = m + 1 := ⟨n - 1, by omega⟩
      have e : impl_EntryOk.f (n + 1) t k d = some _ := hK _ (by omega)
      have e1 : impl_varOf.f n i = some _ := hK1 _ (by omega)
      have e2 : impl_varOf.f n t = some _ := hK2 _ (by omega)
      have e3 : impl_oneByte.f n [k] = some _ := hK3 _ (by omega)
      have z1 := varT_size (n := i) (by omega) (by omega)
      have z2 := varT_size (n := t) (by omega) (by omega)
      have z3 := oneB_size k
      have z0 : (⟨#[69]⟩ : ByteArray).size = 1 := rfl
      simp only [impl_EntryText.f, impl_in_eq, entC]
      rw [e, Option.bind_some, if_pos h, Option.bind_some, show (!(decide (1 ≤ i ∧ i ≤ 1000000))) = false by simp; omega, if_pos ⟨h, h1⟩]
      simp only [impl_EntryText.j0]
      rw [if_neg (by simp), e1, Option.bind_some, if_pos (by omega), e2, Option.bind_some, if_pos (by simp only [ByteArray.size_append]; omega), e3, Option.bind_some, if_pos (by simp only [ByteArray.size_append]; omega), if_pos (by simp only [ByteArray.size_append]; omega)]
      rfl
    · refine ⟨K + 1, fun n hn => ?_⟩
      obtain ⟨n, rfl⟩ : ∃ m, n = m + 1 := ⟨n - 1, by omega⟩
      have e : impl_EntryOk.f (n + 1) t k d = some _ := hK _ (by omega)
      simp only [impl_EntryText.f, impl_in_eq, entC]
      rw [e, Option.bind_some, if_pos h, Option.bind_some, show (!(decide (1 ≤ i ∧ i ≤ 1000000))) = true by simp; omega, if_neg (fun h2 => h1 h2.2)]
      simp only [impl_EntryText.j0]
      rw [if_pos trivial]
  · refine ⟨K + 1, fun n hn => ?_⟩
    obtain ⟨n, rfl⟩ : ∃ m, n = m + 1 := ⟨n - 1, by omega⟩
    have e : impl_EntryOk.f (n + 1) t k d = some _ := hK _ (by omega)
    simp only [impl_EntryText.f, entC]
    rw [e, Option.bind_some, if_neg h, if_neg (fun h2 => h h2.1)]
    simp only [impl_EntryText.j0]
    rw [if_pos trivial]

theorem spec_l01In_eq (a b c : Int) : spec_l01In.f a b c = some (decide (b ≤ a ∧ a ≤ c)) := by
  unfold spec_l01In.f
  by_cases h : a ≥ b
  · rw [if_pos h]; simp [show b ≤ a from h]
  · rw [if_neg h]; simp [show ¬ b ≤ a from h]

theorem spec_l05Rise_l0 (l : List Int) (hl : l.length ≤ 140737488351232) : ∀ (d i : Nat), i + d = l.length →
    Ev (fun k => spec_l05Rise.l0 k l 1 4 (i : Int)) (riseL (prv l i) (l.drop i))
  | 0, i, hd => by
    refine Ev.step (f := fun _ => some true) (fun k => ?_) ?_
    · simp only [spec_l05Rise.l0]; rw [if_neg (by omega)]
    · rw [List.drop_eq_nil_of_le (by omega)]; exact Ev.now _
  | d + 1, i, hd => by
    have ih := spec_l05Rise_l0 l hl d (i + 1) (by omega)
    rw [prv_succ] at ih
    rw [drop_rd (by omega)]
    simp only [riseL]
    have hw : wrap64 ((i : Int) + 1) = ((i + 1 : Nat) : Int) := by rw [w64 (by omega) (by omega)]; rfl
    have hw2 : wrap64 ((i : Int) - 1) = (i : Int) - 1 := w64 (by omega) (by omega)
    by_cases h1 : 1 ≤ rd l (i : Int) ∧ rd l (i : Int) ≤ 4
    · by_cases h2 : prv l i < rd l (i : Int)
      · rw [if_pos ⟨h1.1, h1.2, h2⟩]
        refine Ev.step (f := fun k => spec_l05Rise.l0 k l 1 4 ((i + 1 : Nat) : Int)) (fun k => ?_) ih
        simp only [spec_l05Rise.l0, spec_l01In_eq]
        rw [if_pos (by omega), if_pos (by omega), Option.bind_some, if_pos (by simpa using h1), hw, hw2]
        by_cases h3 : (i : Int) > 0
        · unfold prv at h2
          rw [if_neg (by omega)] at h2
          rw [if_pos h3, if_pos (by omega), if_pos (by omega), if_neg (by omega)]
        · rw [if_neg h3]
      · rw [if_neg (fun h => h2 h.2.2)]
        refine Ev.step (f := fun _ => some false) (fun k => ?_) (Ev.now _)
        have h3 : (i : Int) > 0 := by
          rcases Nat.eq_zero_or_pos i with rfl | h3
          · rw [show prv l 0 = 0 from rfl] at h2; omega
          · omega
        unfold prv at h2
        rw [if_neg (by omega)] at h2
        simp only [spec_l05Rise.l0, spec_l01In_eq]
        rw [if_pos (by omega), if_pos (by omega), Option.bind_some, if_pos (by simpa using h1), hw2, if_pos h3, if_pos (by omega), if_pos (by omega), if_pos (by omega)]
    · rw [if_neg (fun h => h1 ⟨h.1, h.2.1⟩)]
      refine Ev.step (f := fun _ => some false) (fun k => ?_) (Ev.now _)
      simp only [spec_l05Rise.l0, spec_l01In_eq]
      rw [if_pos (by omega), if_pos (by omega), Option.bind_some, if_neg (by simpa using h1)]
theorem spec_ConfOk_ev (l : List Int) (hl : l.length ≤ 140737488351232) : Ev (fun k => spec_ConfOk.f k l) (confC l) := by
  by_cases h : 1 ≤ l.length ∧ l.length ≤ 4
  · obtain ⟨K, hK⟩ := spec_l05Rise_l0 l hl l.length 0 (by omega)
    refine ⟨K, fun k hk => ?_⟩
    have e : spec_l05Rise.l0 k l 1 4 0 = some _ := hK k hk
    simp only [spec_ConfOk.f, spec_l05Rise.f, spec_l01In_eq]
    rw [Option.bind_some, if_pos (by simp; omega), e, Option.bind_some]
    unfold confC
    rw [decide_eq_true h.1]; rfl
  · refine ⟨0, fun k _ => ?_⟩
    simp only [spec_ConfOk.f, spec_l01In_eq]
    rw [Option.bind_some, if_neg (by simp; omega)]
    cases hc : confC l with
    | false => rfl
    | true => exact absurd (confC_len hc) h

theorem spec_ReadConf_l0 (s : ByteArray) (hs : s.size ≤ 1048576) : ∀ (d i : Nat), i + d = min s.size 5 →
    Ev (fun k => spec_ReadConf.l0 k s ((bytesOf s).take i) (i : Int)) (rconfC s)
  | 0, i, hd => by
    have hbl := bytesOf_length s
    have hlen : ((bytesOf s).take i).length = i := by rw [List.length_take, bytesOf_length]; omega
    by_cases h : i < s.size
    · refine Ev.step (f := fun _ => some ([], false)) (fun k => ?_) ?_
      · simp only [spec_ReadConf.l0]; rw [if_pos (by omega), if_neg (by omega), if_neg (by omega)]
      · have : ¬ confC (bytesOf s) = true := fun h => by have := confC_len h; omega
        unfold rconfC
        rw [if_neg this]; exact Ev.now _
    · have e : (bytesOf s).take i = bytesOf s := List.take_of_length_le (by omega)
      rw [e]
      obtain ⟨K, hK⟩ := spec_ConfOk_ev (bytesOf s) (by omega)
      refine ⟨K + 1, fun k hk => ?_⟩
      obtain ⟨k, rfl⟩ : ∃ m, k = m + 1 := ⟨k - 1, by omega⟩
      have e2 : spec_ConfOk.f k (bytesOf s) = some _ := hK k (by omega)
      simp only [spec_ReadConf.l0]
      rw [if_neg (by omega), if_pos (by omega), e2, Option.bind_some]
      unfold rconfC
      by_cases hc : confC (bytesOf s) = true
      · rw [if_pos hc, if_pos hc]
      · rw [if_neg hc, if_neg hc]
  | d + 1, i, hd => by
    have hb := bt_range s (i : Int)
    have hlen : ((bytesOf s).take i).length = i := by rw [List.length_take, bytesOf_length]; omega
    refine Ev.step (f := fun k => spec_ReadConf.l0 k s ((bytesOf s).take (i + 1)) ((i + 1 : Nat) : Int)) (fun k => ?_) (spec_ReadConf_l0 s hs d (i + 1) (by omega))
    simp only [spec_ReadConf.l0]
    rw [if_pos (by omega), if_pos (by omega), if_pos (by omega), if_pos (by omega), w64 (n := bt s (i : Int)) (by omega) (by omega), w64 (by omega) (by omega), take_bytes_succ (by omega)]; rfl
theorem spec_ReadConf_ev (s : ByteArray) (hs : s.size ≤ 1048576) : Ev (fun k => spec_ReadConf.f k s) (rconfC s) :=
  spec_ReadConf_l0 s hs (min s.size 5) 0 (by omega)

theorem spec_EntryOk_ev (t k : Int) (d : ByteArray) (hd : d.size ≤ 1048576) : Ev (fun n => spec_EntryOk.f n t k d) (eokC t k d) := by
  obtain ⟨K, hK⟩ := spec_ReadConf_ev d hd
  refine ⟨K, fun n hn => ?_⟩
  have e : spec_ReadConf.f n d = some _ := hK n hn
  simp only [spec_EntryOk.f, spec_l01In_eq, eokC]
  rw [Option.bind_some]
  by_cases h : 0 ≤ t ∧ t ≤ 100000
  · rw [if_pos (by simpa using h), if_pos h]
    by_cases h1 : k = 1
    · rw [if_pos h1, if_pos h1]
    · rw [if_neg h1, if_neg h1]
      by_cases h2 : k = 2
      · rw [if_pos h2, if_pos h2, e, Option.bind_some]
      · rw [if_neg h2, if_neg h2]
        by_cases h3 : k = 3
        · rw [if_pos h3, if_pos h3]
        · rw [if_neg h3, if_neg h3]
  · rw [if_neg (by simpa using h), if_neg h]

theorem spec_l01Var_l0 (n : Nat) : ∀ out : List Int, n ≤ 9223372036854775807 → out.length + (vl n).length ≤ 140737488355328 →
    Ev (fun k => spec_l01Var.l0 k (n : Int) out) (strOfNums (out ++ vl n)) := by
  induction n using Nat.strongRecOn with
  | _ n ih =>
    intro out hn hl
    by_cases h : 127 < n
    · rw [vl_big h] at hl ⊢
      simp only [List.length_cons] at hl
      refine Ev.step (f := fun k => spec_l01Var.l0 k ((n / 128 : Nat) : Int) (out ++ [((n % 128 + 128 : Nat) : Int)])) (fun k => ?_) ?_
      · simp only [spec_l01Var.l0]
        rw [if_pos (by omega), if_pos (by omega), tmod_nat (by omega), tdiv_nat (by omega), w64 (by omega) (by omega), w64 (by omega) (by omega)]
        congr 3
        omega
      · have := ih (n / 128) (by omega) (out ++ [((n % 128 + 128 : Nat) : Int)]) (by omega) (by simp; omega)
        rwa [List.append_assoc] at this
    · rw [vl_small h] at hl ⊢
      simp only [List.length_cons, List.length_nil] at hl
      refine Ev.step (f := fun _ => some (strOfNums (out ++ [(n : Int)]))) (fun k => ?_) (Ev.now _)
      simp only [spec_l01Var.l0]
      rw [if_neg (by omega), if_pos (by omega), show (n : Int) % 256 = n by omega]
theorem spec_l01Var_ev {n : Int} (h0 : 0 ≤ n) (h1 : n ≤ 9223372036854775807) : Ev (fun k => spec_l01Var.f k n) (varT n) := by
  have hl := vl_len 10 n.toNat (by omega) (by omega)
  have := spec_l01Var_l0 n.toNat [] (by omega) (by simp; omega)
  rw [Int.toNat_of_nonneg h0] at this
  exact this

theorem spec_EntryText_ev (i t k : Int) (d : ByteArray) (hd : d.size ≤ 1048576) : Ev (fun n => spec_EntryText.f n i t k d) (entC i t k d) := by
  obtain ⟨K, hK⟩ := spec_EntryOk_ev t k d hd
  by_cases h : eokC t k d = true
  · by_cases h1 : 1 ≤ i ∧ i ≤ 1000000
    · have ht := eokC_term h
      obtain ⟨K1, hK1⟩ := spec_l01Var_ev (n := i) (by omega) (by omega)
      obtain ⟨K2, hK2⟩ := spec_l01Var_ev (n := t) (by omega) (by omega)
      refine ⟨K + K1 + K2 + 1, fun n hn => ?_⟩
      obtain ⟨n, rfl⟩ : ∃ m, n = m + 1 := ⟨n - 1, by omega⟩
      have e : spec_EntryOk.f (n + 1) t k d = some _ := hK _ (by omega)
      have e1 : spec_l01Var.f n i = some _ := hK1 _ (by omega)
      have e2 : spec_l01Var.f n t = some _ := hK2 _ (by omega)
      have z1 := varT_size (n := i) (by omega) (by omega)
      have z2 := varT_size (n := t) (by omega) (by omega)
      have z3 : (strOfNums [k % 256]).size = 1 := by rw [strOfNums_size]; rfl
      have z0 : (⟨#[69]⟩ : ByteArray).size = 1 := rfl
      simp only [spec_EntryText.f, spec_l01In_eq, entC]
      rw [e, Option.bind_some, if_pos h, Option.bind_some, show (!(decide (1 ≤ i ∧ i ≤ 1000000))) = false by simp; omega, if_pos ⟨h, h1⟩]
      simp only [spec_EntryText.j0]
      rw [if_neg (by simp), e1, Option.bind_some, if_pos (by omega), e2, Option.bind_some, if_pos (by simp only [ByteArray.size_append]; omega), Option.bind_some, if_pos (by simp only [ByteArray.size_append]; omega), if_pos (by simp only [ByteArray.size_append]; omega)]
      rfl
    · refine ⟨K + 1, fun n hn => ?_⟩
      obtain ⟨n, rfl⟩ : ∃ m, n = m + 1 := ⟨n - 1, by omega⟩
      have e : spec_EntryOk.f (n + 1) t k d = some _ := hK _ (by omega)
      simp only [spec_EntryText.f, spec_l01In_eq, entC]
      rw [e, Option.bind_some, if_pos h, Option.bind_some, show (!(decide (1 ≤ i ∧ i ≤ 1000000))) = true by simp; omega, if_neg (fun h2 => h1 h2.2)]
      simp only [spec_EntryText.j0]
      rw [if_pos trivial]
  · refine ⟨K + 1, fun n hn => ?_⟩
    obtain ⟨n, rfl⟩ : ∃ m, n = m + 1 := ⟨n - 1, by omega⟩
    have e : spec_EntryOk.f (n + 1) t k d = some _ := hK _ (by omega)
    simp only [spec_EntryText.f, entC]
    rw [e, Option.bind_some, if_neg h, if_neg (fun h2 => h h2.1)]
    simp only [spec_EntryText.j0]
    rw [if_pos trivial]

theorem spec_SumMore_l0 (s : ByteArray) (hs : s.size ≤ 140737488351232) : ∀ (d i : Nat), i + d = s.size → ∀ x : Nat, x < 4294967296 →
    Ev (fun k => spec_SumMore.l0 k (x : Int) s (i : Int)) ((crc x ((nb s).drop i) : Nat) : Int)
  | 0, i, hd, x, _ => by
    refine Ev.step (f := fun _ => some (x : Int)) (fun k => ?_) ?_
    · simp only [spec_SumMore.l0]; rw [if_neg (by omega)]
    · rw [nb_drop_end (by omega)]; exact Ev.now _
  | d + 1, i, hd, x, hx => by
    have hb := bt_range s (i : Int)
    obtain ⟨b, hb'⟩ := Int.eq_ofNat_of_zero_le hb.1
    have hbl : b < 256 := by omega
    have inner : ∀ (e j : Nat), j + e = 8 → ∀ y : Nat, y < 4294967296 → Ev (fun k => spec_SumMore.l1 k (y : Int) s (i : Int) (j : Int)) ((crc (csts e y) ((nb s).drop (i + 1)) : Nat) : Int) := by
      intro e
      induction e with
      | zero =>
        intro j hj y hy
        refine Ev.step (f := fun k => spec_SumMore.l0 k (y : Int) s ((i + 1 : Nat) : Int)) (fun k => ?_) (spec_SumMore_l0 s hs d (i + 1) (by omega) y hy)
        simp only [spec_SumMore.l1]
        rw [if_neg (by omega), w64 (by omega) (by omega)]; rfl
      | succ e ih =>
        intro j hj y hy
        refine Ev.step (f := fun k => spec_SumMore.l1 k ((cst y : Nat) : Int) s (i : Int) ((j + 1 : Nat) : Int)) (fun k => ?_) (ih (j + 1) (by omega) (cst y) (cst_lt hy))
        simp only [spec_SumMore.l1]
        rw [if_pos (by omega), w64 (by omega) (by omega), tmod_nat (by omega), tdiv_nat (by omega), show (y : Int) / 2 % 4294967296 = ((y / 2 : Nat) : Int) by omega]
        unfold cst
        by_cases h1 : y % 2 = 1
        · rw [if_pos (by omega), if_pos h1, show (3558460437 : Int) = ((3558460437 : Nat) : Int) from rfl, xor_nat (by omega) (by omega)]; rfl
        · rw [if_neg (by omega), if_neg h1]; rfl
    refine Ev.step (f := fun k => spec_SumMore.l1 k ((x ^^^ b : Nat) : Int) s (i : Int) ((0 : Nat) : Int)) (fun k => ?_) ?_
    · simp only [spec_SumMore.l0]
      rw [if_pos (by omega), if_pos (by omega), hb', show (b : Int) % 4294967296 = (b : Int) by omega, xor_nat hx (by omega)]; rfl
    · have h := inner 8 0 rfl (x ^^^ b) (xor_byte_lt hx hbl)
      rw [nb_drop (by omega), hb', Int.toNat_natCast]
      exact h
theorem spec_SumMore_ev (s : ByteArray) (x : Nat) (hx : x < 4294967296) (hs : s.size ≤ 140737488351232) : Ev (fun k => spec_SumMore.f k (x : Int) s) ((crc x (nb s) : Nat) : Int) :=
  spec_SumMore_l0 s hs s.size 0 (by omega) x hx

theorem spec_SumOf_ev (s : ByteArray) (hs : s.size ≤ 140737488351232) : Ev (fun k => spec_SumOf.f k s) ((sumC s : Nat) : Int) := by
  obtain ⟨K, hK⟩ := spec_SumMore_ev s 4294967295 (by omega) hs
  refine ⟨K, fun k hk => ?_⟩
  have e : spec_SumMore.f k 4294967295 s = some _ := hK k hk
  simp only [spec_SumOf.f]
  rw [e]; rfl

theorem spec_l02Four_eq (n : Nat) : spec_l02Four.f (n : Int) = some (fourT n) := by
  simp only [spec_l02Four.f, fourT, four]
  congr 2

theorem spec_Frame_ev (s : ByteArray) (hs : s.size ≤ 140737488351232) : Ev (fun k => spec_Frame.f k s) (frameC s) := by
  by_cases h : 1 ≤ s.size ∧ s.size ≤ 9000
  · obtain ⟨K1, h1⟩ := spec_l01Var_ev (n := (s.size : Int)) (by omega) (by omega)
    obtain ⟨K2, h2⟩ := spec_SumOf_ev s hs
    refine ⟨K1 + K2, fun k hk => ?_⟩
    have e1 : spec_l01Var.f k (s.size : Int) = some _ := h1 k (by omega)
    have e2 : spec_SumOf.f k s = some _ := h2 k (by omega)
    have z1 := varT_size (n := (s.size : Int)) (by omega) (by omega)
    have z2 := fourT_size (sumC s)
    have z3 : (varT (s.size : Int) ++ fourT (sumC s)).size ≤ 14 := by rw [ByteArray.size_append]; omega
    simp only [spec_Frame.f, frameC, spec_l01In_eq]
    rw [Option.bind_some, if_pos (by simp; omega), e1, Option.bind_some, e2, Option.bind_some, spec_l02Four_eq, Option.bind_some, if_pos (by omega), if_pos (by omega), if_pos h]; rfl
  · refine ⟨0, fun k _ => ?_⟩
    simp only [spec_Frame.f, frameC, spec_l01In_eq]
    rw [Option.bind_some, if_neg (by simp; omega), if_neg h]

theorem impl_LogOk_l0 (b : Int) (l : List S56) (hl : l.length ≤ 1048576) (hd : ∀ y ∈ l, y.f2.size ≤ 1048576) : ∀ (d i : Nat), i + d = l.length → Ev (fun k => impl_LogOk.l0 k (tmL b l i) l (l.length : Int) (i : Int)) (lgL (tmL b l i) (l.drop i))
  | 0, i, hi => by
    refine Ev.step (f := fun _ => some true) (fun k => ?_) ?_
    · simp only [impl_LogOk.l0]; rw [if_neg (by omega)]
    · rw [List.drop_eq_nil_of_le (by omega)]; exact Ev.now _
  | d + 1, i, hi => by
    obtain ⟨K2, h2⟩ := impl_LogOk_l0 b l hl hd d (i + 1) (by omega)
    have hm := hd _ (getD_mem z56 (l := l) (i := i) (by omega))
    obtain ⟨K1, h1⟩ := impl_EntryOk_ev (l.getD i z56).f0 (l.getD i z56).f1 (l.getD i z56).f2 hm
    rw [drop_getD z56 (by omega)]
    simp only [lgL]
    have hw : wrap64 ((i : Int) + 1) = ((i + 1 : Nat) : Int) := by rw [w64 (by omega) (by omega)]; rfl
    refine ⟨K1 + K2 + 1, fun k hk => ?_⟩
    obtain ⟨k, rfl⟩ : ∃ m, k = m + 1 := ⟨k - 1, by omega⟩
    have e1 : impl_EntryOk.f k (l.getD i z56).f0 (l.getD i z56).f1 (l.getD i z56).f2 = some _ := h1 k (by omega)
    have e2 : impl_LogOk.l0 k (tmL b l (i + 1)) l (l.length : Int) ((i + 1 : Nat) : Int) = some _ := h2 k (by omega)
    rw [tmL_succ] at e2
    simp only [impl_LogOk.l0]
    rw [if_pos (by omega), if_pos (by omega), if_pos (by omega), rdE, e1, Option.bind_some]
    by_cases c1 : eokC (l.getD i z56).f0 (l.getD i z56).f1 (l.getD i z56).f2 = true
    · rw [if_pos c1]
      by_cases c2 : tmL b l i ≤ (l.getD i z56).f0
      · rw [if_neg (by omega), hw, e2, if_pos ⟨c1, c2⟩]
      · rw [if_pos (by omega), if_neg (fun h => c2 h.2)]
    · rw [if_neg c1, if_neg (fun h => c1 h.1)]
theorem impl_LogOk_ev (a b : Int) (l : List S56) (hl : l.length ≤ 1048576) (hd : ∀ y ∈ l, y.f2.size ≤ 1048576) : Ev (fun k => impl_LogOk.f k a b l) (logC a b l) := by
  obtain ⟨K, hK⟩ := impl_LogOk_l0 b l hl hd l.length 0 (by omega)
  refine ⟨K + 2, fun k hk => ?_⟩
  obtain ⟨k, rfl⟩ : ∃ m, k = m + 2 := ⟨k - 2, by omega⟩
  have e : impl_LogOk.l0 k b l (l.length : Int) 0 = some _ := hK k (by omega)
  rw [List.drop_zero, tmL_zero] at e
  have hf : impl_LogOk.j0 (k + 1) true a b l = some false := by
    simp only [impl_LogOk.j0]; rw [if_pos trivial]
  simp only [impl_LogOk.f, impl_in_eq, logC]
  rw [Option.bind_some]
  by_cases h1 : 0 ≤ a ∧ a ≤ 1000000
  · rw [if_pos (by simpa using h1), Option.bind_some]
    by_cases h2 : 0 ≤ b ∧ b ≤ 100000
    · rw [if_pos (by simpa using h2)]
      by_cases h3 : l.length ≤ 60
      · rw [if_neg (by omega), w64 (by omega) (by omega)]
        by_cases h4 : a + (l.length : Int) ≤ 1000000
        · rw [decide_eq_false (by omega), if_pos ⟨h1, h2, h3, h4⟩]
          show impl_LogOk.j0 (k + 1 + 1) false a b l = _
          simp only [impl_LogOk.j0]
          rw [if_neg (by simp)]
          have e : impl_LogOk.l0 (k + 1) b l (l.length : Int) 0 = some _ := hK (k + 1) (by omega)
          rw [List.drop_zero, tmL_zero] at e
          exact e
        · rw [decide_eq_true (by omega), if_neg (fun h => h4 h.2.2.2)]
          simp only [impl_LogOk.j0]; rw [if_pos trivial]
      · rw [if_pos (by omega), if_neg (fun h => h3 h.2.2.1)]
        simp only [impl_LogOk.j0]; rw [if_pos trivial]
    · rw [if_neg (by simpa using h2), if_neg (fun h => h2 h.2.1)]
      simp only [impl_LogOk.j0]; rw [if_pos trivial]
  · rw [if_neg (by simpa using h1), if_neg (fun h => h1 h.1)]
    simp only [impl_LogOk.j0]; rw [if_pos trivial]

theorem impl_hardOk_eq (t v : Int) : impl_hardOk.f t v = some (decide ((0 ≤ t ∧ t ≤ 100000) ∧ (0 ≤ v ∧ v ≤ 4))) := by
  simp only [impl_hardOk.f, impl_in_eq]
  simp only [Option.bind_some]
  by_cases h2 : 0 ≤ t ∧ t ≤ 100000
  · rw [if_pos (by simpa using h2)]
    by_cases h3 : 0 ≤ v ∧ v ≤ 4
    · rw [decide_eq_true h3, decide_eq_true ⟨h2, h3⟩]
    · rw [decide_eq_false h3, decide_eq_false (fun h => h3 h.2)]
  · rw [if_neg (by simpa using h2), decide_eq_false (fun h => h2 h.1)]
theorem impl_JournalOk_ev (n t v a b : Int) (l : List S56) (hl : l.length ≤ 1048576) (hd : ∀ y ∈ l, y.f2.size ≤ 1048576) : Ev (fun k => impl_JournalOk.f k n t v a b l) (jokC n t v a b l) := by
  obtain ⟨K, hK⟩ := impl_LogOk_ev a b l hl hd
  refine ⟨K, fun k hk => ?_⟩
  have e : impl_LogOk.f k a b l = some _ := hK k hk
  simp only [impl_JournalOk.f, impl_in_eq, impl_hardOk_eq, jokC]
  simp only [Option.bind_some]
  rw [e]
  by_cases h1 : 0 ≤ n ∧ n ≤ 999
  · rw [if_pos (by simpa using h1)]
    by_cases h2 : (0 ≤ t ∧ t ≤ 100000) ∧ (0 ≤ v ∧ v ≤ 4)
    · rw [if_pos (decide_eq_true h2), if_pos ⟨h1, h2.1, h2.2⟩]; rfl
    · rw [if_neg (by rw [decide_eq_false h2]; simp), if_neg (fun h => h2 ⟨h.2.1, h.2.2⟩)]
  · rw [if_neg (by simpa using h1), if_neg (fun h => h1 h.1)]

theorem spec_LogOk_l0 (a b : Int) (l : List S56) (hl : l.length ≤ 1048576) (hd : ∀ y ∈ l, y.f2.size ≤ 1048576) : ∀ (d i : Nat), i + d = l.length → Ev (fun k => spec_LogOk.l0 k (tmL b l i) (i : Int) a b l) (lgL (tmL b l i) (l.drop i))
  | 0, i, hi => by
    refine Ev.step (f := fun _ => some true) (fun k => ?_) ?_
    · simp only [spec_LogOk.l0]; rw [if_neg (by omega)]
    · rw [List.drop_eq_nil_of_le (by omega)]; exact Ev.now _
  | d + 1, i, hi => by
    obtain ⟨K2, h2⟩ := spec_LogOk_l0 a b l hl hd d (i + 1) (by omega)
    have hm := hd _ (getD_mem z56 (l := l) (i := i) (by omega))
    obtain ⟨K1, h1⟩ := spec_EntryOk_ev (l.getD i z56).f0 (l.getD i z56).f1 (l.getD i z56).f2 hm
    rw [drop_getD z56 (by omega)]
    simp only [lgL]
    have hw : wrap64 ((i : Int) + 1) = ((i + 1 : Nat) : Int) := by rw [w64 (by omega) (by omega)]; rfl
    refine ⟨K1 + K2 + 1, fun k hk => ?_⟩
    obtain ⟨k, rfl⟩ : ∃ m, k = m + 1 := ⟨k - 1, by omega⟩
    have e1 : spec_EntryOk.f k (l.getD i z56).f0 (l.getD i z56).f1 (l.getD i z56).f2 = some _ := h1 k (by omega)
    have e2 : spec_LogOk.l0 k (tmL b l (i + 1)) ((i + 1 : Nat) : Int) a b l = some _ := h2 k (by omega)
    rw [tmL_succ] at e2
    simp only [spec_LogOk.l0]
    rw [if_pos (by omega), if_pos (by omega), rdE, e1, Option.bind_some]
    by_cases c1 : eokC (l.getD i z56).f0 (l.getD i z56).f1 (l.getD i z56).f2 = true
    · rw [if_pos c1]
      by_cases c2 : tmL b l i ≤ (l.getD i z56).f0
      · rw [if_neg (by omega), hw, e2, if_pos ⟨c1, c2⟩]
      · rw [if_pos (by omega), if_neg (fun h => c2 h.2)]
    · rw [if_neg c1, if_neg (fun h => c1 h.1)]
theorem spec_LogOk_ev (a b : Int) (l : List S56) (hl : l.length ≤ 1048576) (hd : ∀ y ∈ l, y.f2.size ≤ 1048576) : Ev (fun k => spec_LogOk.f k a b l) (logC a b l) := by
  obtain ⟨K, hK⟩ := spec_LogOk_l0 a b l hl hd l.length 0 (by omega)
  refine ⟨K + 2, fun k hk => ?_⟩
  obtain ⟨k, rfl⟩ : ∃ m, k = m + 2 := ⟨k - 2, by omega⟩
  have e : spec_LogOk.l0 k b 0 a b l = some _ := hK k (by omega)
  rw [List.drop_zero, tmL_zero] at e
  have hf : spec_LogOk.j0 (k + 1) true a b l = some false := by
    simp only [spec_LogOk.j0]; rw [if_pos trivial]
  simp only [spec_LogOk.f, spec_l01In_eq, logC]
  rw [Option.bind_some]
  by_cases h1 : 0 ≤ a ∧ a ≤ 1000000
  · rw [if_pos (by simpa using h1), Option.bind_some]
    by_cases h2 : 0 ≤ b ∧ b ≤ 100000
    · rw [if_pos (by simpa using h2)]
      by_cases h3 : l.length ≤ 60
      · rw [if_neg (by omega), w64 (by omega) (by omega)]
        by_cases h4 : a + (l.length : Int) ≤ 1000000
        · rw [decide_eq_false (by omega), if_pos ⟨h1, h2, h3, h4⟩]
          show spec_LogOk.j0 (k + 1 + 1) false a b l = _
          simp only [spec_LogOk.j0]
          rw [if_neg (by simp)]
          have e : spec_LogOk.l0 (k + 1) b 0 a b l = some _ := hK (k + 1) (by omega)
          rw [List.drop_zero, tmL_zero] at e
          exact e
        · rw [decide_eq_true (by omega), if_neg (fun h => h4 h.2.2.2)]
          simp only [spec_LogOk.j0]; rw [if_pos trivial]
      · rw [if_pos (by omega), if_neg (fun h => h3 h.2.2.1)]
        simp only [spec_LogOk.j0]; rw [if_pos trivial]
    · rw [if_neg (by simpa using h2), if_neg (fun h => h2 h.2.1)]
      simp only [spec_LogOk.j0]; rw [if_pos trivial]
  · rw [if_neg (by simpa using h1), if_neg (fun h => h1 h.1)]
    simp only [spec_LogOk.j0]; rw [if_pos trivial]

theorem spec_JournalOk_ev (n t v a b : Int) (l : List S56) (hl : l.length ≤ 1048576) (hd : ∀ y ∈ l, y.f2.size ≤ 1048576) : Ev (fun k => spec_JournalOk.f k n t v a b l) (jokC n t v a b l) := by
  obtain ⟨K, hK⟩ := spec_LogOk_ev a b l hl hd
  refine ⟨K, fun k hk => ?_⟩
  have e : spec_LogOk.f k a b l = some _ := hK k hk
  simp only [spec_JournalOk.f, spec_l01In_eq, jokC]
  simp only [Option.bind_some]
  rw [e]
  by_cases h1 : 0 ≤ n ∧ n ≤ 999
  · rw [if_pos (by simpa using h1)]
    by_cases h2 : 0 ≤ t ∧ t ≤ 100000
    · rw [if_pos (by simpa using h2)]
      by_cases h3 : 0 ≤ v ∧ v ≤ 4
      · rw [if_pos (by simpa using h3), if_pos ⟨h1, h2, h3⟩]; rfl
      · rw [if_neg (by simpa using h3), if_neg (fun h => h3 h.2.2)]
    · rw [if_neg (by simpa using h2), if_neg (fun h => h2 h.2.1)]
  · rw [if_neg (by simpa using h1), if_neg (fun h => h1 h.1)]

theorem eokC_size {t k : Int} {d : ByteArray} (h : eokC t k d = true) : d.size ≤ 120 := by
  have ht := eokC_term h
  unfold eokC at h
  rw [if_pos ht] at h
  by_cases h1 : k = 1
  · rw [if_pos h1] at h
    have h2 : d.toList = [] := beq_iff_eq.mp h
    have h3 : d.data.toList = [] := by rw [← ByteArray.toList_eq]; exact h2
    have h4 : d.size = d.data.toList.length := by rw [Array.length_toList]; rfl
    rw [h3, List.length_nil] at h4
    omega
  · rw [if_neg h1] at h
    by_cases h2 : k = 2
    · rw [if_pos h2] at h
      unfold rconfC at h
      by_cases hc : confC (bytesOf d) = true
      · have := confC_len hc
        rw [bytesOf_length] at this
        omega
      · rw [if_neg hc] at h; cases h
    · rw [if_neg h2] at h
      by_cases h3 : k = 3
      · rw [if_pos h3] at h
        have := of_decide_eq_true h
        omega
      · rw [if_neg h3] at h; cases h
theorem lgL_all : ∀ (l : List S56) (t : Int), lgL t l = true → ∀ x ∈ l, eokC x.f0 x.f1 x.f2 = true
  | [], _, _ => by simp
  | y :: ys, t, h => by
    simp only [lgL] at h
    split at h
    · rename_i hy
      intro x hx
      rcases List.mem_cons.1 hx with rfl | hx
      · exact hy.1
      · exact lgL_all ys _ h x hx
    · cases h
theorem logC_facts {a b : Int} {l : List S56} (h : logC a b l = true) : (0 ≤ a ∧ a ≤ 1000000) ∧ (0 ≤ b ∧ b ≤ 100000) ∧ l.length ≤ 60 ∧ a + (l.length : Int) ≤ 1000000 ∧ ∀ x ∈ l, eokC x.f0 x.f1 x.f2 = true := by
  unfold logC at h
  split at h
  · rename_i hc
    exact ⟨hc.1, hc.2.1, hc.2.2.1, hc.2.2.2, lgL_all l b h⟩
  · cases h
def twoT (c : UInt8) (a b : Int) : ByteArray := ((⟨#[c]⟩ : ByteArray) ++ varT a) ++ varT b
def frmT (a : Int) (e : S56) (i : Nat) : ByteArray := frameT (entT (a + (i : Int) + 1) e.f0 e.f1 e.f2)
def frmsL (a : Int) : List S56 → Nat → List Int
  | [], _ => []
  | e :: es, i => bytesOf (frmT a e i) ++ frmsL a es (i + 1)
theorem twoT_size (c : UInt8) {a b : Int} (h0 : 0 ≤ a) (h1 : a ≤ 1000000000) (h2 : 0 ≤ b) (h3 : b ≤ 1000000000) : 1 ≤ (twoT c a b).size ∧ (twoT c a b).size ≤ 21 := by
  have z1 := varT_size (n := a) h0 (by omega)
  have z2 := varT_size (n := b) h2 (by omega)
  have z0 : (⟨#[c]⟩ : ByteArray).size = 1 := rfl
  unfold twoT
  rw [ByteArray.size_append, ByteArray.size_append]
  omega
theorem frameT_size (s : ByteArray) (h : s.size ≤ 1000000) : (frameT s).size ≤ s.size + 14 := by
  have z1 := varT_size (n := (s.size : Int)) (by omega) (by omega)
  unfold frameT
  rw [ByteArray.size_append, ByteArray.size_append, fourT_size]
  omega
theorem entT_size {i t k : Int} {d : ByteArray} (h : eokC t k d = true) (h0 : 0 ≤ i) (h1 : i ≤ 1000000000) : 1 ≤ (entT i t k d).size ∧ (entT i t k d).size ≤ 150 := by
  have ht := eokC_term h
  have hd := eokC_size h
  have z1 := varT_size (n := i) h0 (by omega)
  have z2 := varT_size (n := t) (by omega) (by omega)
  have z3 := oneB_size k
  have z0 : (⟨#[69]⟩ : ByteArray).size = 1 := rfl
  unfold entT
  rw [ByteArray.size_append, ByteArray.size_append, ByteArray.size_append, ByteArray.size_append]
  omega
theorem frmsL_len (a : Int) (h0 : 0 ≤ a) (h1 : a ≤ 1000000) : ∀ (l : List S56) (i : Nat), i + l.length ≤ 100 → (∀ x ∈ l, eokC x.f0 x.f1 x.f2 = true) → (frmsL a l i).length ≤ 200 * l.length
  | [], _, _, _ => by simp [frmsL]
  | e :: es, i, hi, he => by
    simp only [List.length_cons] at hi
    have ih := frmsL_len a h0 h1 es (i + 1) (by omega) (fun x hx => he x (List.mem_cons_of_mem _ hx))
    have z := entT_size (i := a + (i : Int) + 1) (he e List.mem_cons_self) (by omega) (by omega)
    have z2 := frameT_size (entT (a + (i : Int) + 1) e.f0 e.f1 e.f2) (by omega)
    simp only [frmsL, List.length_append, List.length_cons, bytesOf_length]
    have z3 : (frmT a e i).size ≤ 164 := by unfold frmT; omega
    omega
theorem frmsL_bytes (a : Int) : ∀ (l : List S56) (i : Nat), ∀ b ∈ frmsL a l i, 0 ≤ b ∧ b ≤ 255
  | [], _, b, hb => by simp [frmsL] at hb
  | e :: es, i, b, hb => by
    simp only [frmsL, List.mem_append] at hb
    rcases hb with hb | hb
    · exact bytesOf_range _ b hb
    · exact frmsL_bytes a es (i + 1) b hb
theorem frame_ok (s : ByteArray) (h0 : 1 ≤ s.size) (h1 : s.size ≤ 9000) : frameC s = (frameT s, true) := if_pos ⟨h0, h1⟩
theorem ent_ok {i t k : Int} {d : ByteArray} (h : eokC t k d = true) (h0 : 1 ≤ i) (h1 : i ≤ 1000000) : entC i t k d = (entT i t k d, true) := if_pos ⟨h, h0, h1⟩
theorem spec_l07Frames_l0 (a b : Int) (l : List S56) (h : logC a b l = true) : ∀ (d i : Nat) (out : List Int), i + d = l.length → out.length ≤ 200 * i →
    Ev (fun k => spec_l07Frames.l0 k out (i : Int) a b l) (strOfNums (out ++ frmsL a (l.drop i) i))
  | 0, i, out, hd, ho => by
    refine Ev.step (f := fun _ => some (strOfNums out)) (fun k => ?_) ?_
    · simp only [spec_l07Frames.l0]; rw [if_neg (by omega)]
    · rw [List.drop_eq_nil_of_le (by omega)]
      simp only [frmsL, List.append_nil]
      exact Ev.now _
  | d + 1, i, out, hd, ho => by
    obtain ⟨ha, hb, hl, hs, hall⟩ := logC_facts h
    have he := hall _ (getD_mem z56 (show i < l.length by omega))
    have z := entT_size (i := a + (i : Int) + 1) he (by omega) (by omega)
    have hd2 := eokC_size he
    have z2 := frameT_size (entT (a + (i : Int) + 1) (l.getD i z56).f0 (l.getD i z56).f1 (l.getD i z56).f2) (by omega)
    have z3 : (frmT a (l.getD i z56) i).size ≤ 164 := by unfold frmT; omega
    obtain ⟨K0, k0⟩ := spec_EntryText_ev (a + (i : Int) + 1) (l.getD i z56).f0 (l.getD i z56).f1 (l.getD i z56).f2 (by omega)
    obtain ⟨K1, k1⟩ := spec_Frame_ev (entT (a + (i : Int) + 1) (l.getD i z56).f0 (l.getD i z56).f1 (l.getD i z56).f2) (by omega)
    obtain ⟨K2, k2⟩ := spec_l07Frames_l0 a b l h d (i + 1) (out ++ bytesOf (frmT a (l.getD i z56) i)) (by omega) (by rw [List.length_append, bytesOf_length]; omega)
    rw [ent_ok he (by omega) (by omega)] at k0
    rw [frame_ok _ z.1 (by omega)] at k1
    refine ⟨K0 + K1 + K2 + 1, fun k hk => ?_⟩
    obtain ⟨k, rfl⟩ : ∃ m, k = m + 1 := ⟨k - 1, by omega⟩
    have e0 : spec_EntryText.f k (a + (i : Int) + 1) (l.getD i z56).f0 (l.getD i z56).f1 (l.getD i z56).f2 = some _ := k0 k (by omega)
    have e1 : spec_Frame.f k (entT (a + (i : Int) + 1) (l.getD i z56).f0 (l.getD i z56).f1 (l.getD i z56).f2) = some _ := k1 k (by omega)
    have e2 : spec_l07Frames.l0 k (out ++ bytesOf (frmT a (l.getD i z56) i)) ((i + 1 : Nat) : Int) a b l = some _ := k2 k (by omega)
    rw [drop_getD z56 (by omega)]
    simp only [spec_l07Frames.l0, frmsL]
    rw [if_pos (by omega), if_pos (by omega), rdE, w64 (n := a + 1) (by omega) (by omega), w64 (n := a + 1 + (i : Int)) (by omega) (by omega), show a + 1 + (i : Int) = a + (i : Int) + 1 by omega, e0, Option.bind_some, e1, Option.bind_some, w64 (n := (i : Int) + 1) (by omega) (by omega)]
    rw [if_pos (by show out.length + (frmT a (l.getD i z56) i).size < _; omega)]
    rw [← List.append_assoc]
    exact e2
theorem impl_entryFrames_l0 (a b : Int) (l : List S56) (h : logC a b l = true) : ∀ (d i : Nat) (out : ByteArray), i + d = l.length → out.size ≤ 200 * i →
    Ev (fun k => impl_entryFrames.l0 k out (i : Int) a b l) (strOfNums (bytesOf out ++ frmsL a (l.drop i) i))
  | 0, i, out, hd, ho => by
    refine Ev.step (f := fun _ => some out) (fun k => ?_) ?_
    · simp only [impl_entryFrames.l0]; rw [if_neg (by omega)]
    · rw [List.drop_eq_nil_of_le (by omega)]
      simp only [frmsL, List.append_nil]
      rw [str_bytesOf]
      exact Ev.now _
  | d + 1, i, out, hd, ho => by
    obtain ⟨ha, hb, hl, hs, hall⟩ := logC_facts h
    have he := hall _ (getD_mem z56 (show i < l.length by omega))
    have z := entT_size (i := a + (i : Int) + 1) he (by omega) (by omega)
    have hd2 := eokC_size he
    have z2 := frameT_size (entT (a + (i : Int) + 1) (l.getD i z56).f0 (l.getD i z56).f1 (l.getD i z56).f2) (by omega)
    have z3 : (frmT a (l.getD i z56) i).size ≤ 164 := by unfold frmT; omega
    obtain ⟨K0, k0⟩ := impl_EntryText_ev (a + (i : Int) + 1) (l.getD i z56).f0 (l.getD i z56).f1 (l.getD i z56).f2 (by omega)
    obtain ⟨K1, k1⟩ := impl_framed_ev (entT (a + (i : Int) + 1) (l.getD i z56).f0 (l.getD i z56).f1 (l.getD i z56).f2) (by omega)
    obtain ⟨K2, k2⟩ := impl_entryFrames_l0 a b l h d (i + 1) (out ++ frmT a (l.getD i z56) i) (by omega) (by rw [ByteArray.size_append]; omega)
    rw [ent_ok he (by omega) (by omega)] at k0
    refine ⟨K0 + K1 + K2 + 1, fun k hk => ?_⟩
    obtain ⟨k, rfl⟩ : ∃ m, k = m + 1 := ⟨k - 1, by omega⟩
    have e0 : impl_EntryText.f k (a + (i : Int) + 1) (l.getD i z56).f0 (l.getD i z56).f1 (l.getD i z56).f2 = some _ := k0 k (by omega)
    have e1 : impl_framed.f k (entT (a + (i : Int) + 1) (l.getD i z56).f0 (l.getD i z56).f1 (l.getD i z56).f2) = some _ := k1 k (by omega)
    have e2 : impl_entryFrames.l0 k (out ++ frmT a (l.getD i z56) i) ((i + 1 : Nat) : Int) a b l = some _ := k2 k (by omega)
    rw [drop_getD z56 (by omega)]
    simp only [impl_entryFrames.l0, frmsL]
    rw [if_pos (by omega), if_pos (by omega), rdE, w64 (n := a + (i : Int)) (by omega) (by omega), w64 (n := a + (i : Int) + 1) (by omega) (by omega), e0, Option.bind_some, e1, Option.bind_some, w64 (n := (i : Int) + 1) (by omega) (by omega)]
    rw [if_pos (by show out.size + (frmT a (l.getD i z56) i).size ≤ _; omega)]
    rw [bytesOf_app, List.append_assoc] at e2
    exact e2
def jtT (t v a b : Int) (l : List S56) : ByteArray := (frameT (twoT 66 a b) ++ frameT (twoT 72 t v)) ++ strOfNums (frmsL a l 0)
def jtC (n t v a b : Int) (l : List S56) : ByteArray × Bool := if jokC n t v a b l = true then (if ((jtT t v a b l).size : Int) > 20000 then (⟨#[]⟩, false) else (jtT t v a b l, true)) else (⟨#[]⟩, false)
theorem jokC_facts {n t v a b : Int} {l : List S56} (h : jokC n t v a b l = true) : (0 ≤ t ∧ t ≤ 100000) ∧ (0 ≤ v ∧ v ≤ 4) ∧ logC a b l = true := by
  unfold jokC at h
  split at h
  · rename_i hc; exact ⟨hc.2.1, hc.2.2, h⟩
  · cases h
theorem spec_JournalText_ev (n t v a b : Int) (l : List S56) (hl : l.length ≤ 1048576) (hd : ∀ y ∈ l, y.f2.size ≤ 1048576) : Ev (fun k => spec_JournalText.f k n t v a b l) (jtC n t v a b l) := by
  obtain ⟨K0, k0⟩ := spec_JournalOk_ev n t v a b l hl hd
  by_cases h : jokC n t v a b l = true
  · obtain ⟨ht, hv, hlog⟩ := jokC_facts h
    obtain ⟨ha, hb, hl2, hs, hall⟩ := logC_facts hlog
    obtain ⟨K1, k1⟩ := spec_l01Var_ev (n := a) (by omega) (by omega)
    obtain ⟨K2, k2⟩ := spec_l01Var_ev (n := b) (by omega) (by omega)
    obtain ⟨K3, k3⟩ := spec_l01Var_ev (n := t) (by omega) (by omega)
    obtain ⟨K4, k4⟩ := spec_l01Var_ev (n := v) (by omega) (by omega)
    have zB := twoT_size 66 (a := a) (b := b) (by omega) (by omega) (by omega) (by omega)
    have zH := twoT_size 72 (a := t) (b := v) (by omega) (by omega) (by omega) (by omega)
    have fB := frameT_size (twoT 66 a b) (by omega)
    have fH := frameT_size (twoT 72 t v) (by omega)
    obtain ⟨K5, k5⟩ := spec_Frame_ev (twoT 66 a b) (by omega)
    obtain ⟨K6, k6⟩ := spec_Frame_ev (twoT 72 t v) (by omega)
    rw [frame_ok _ zB.1 (by omega)] at k5
    rw [frame_ok _ zH.1 (by omega)] at k6
    obtain ⟨K7, k7⟩ := spec_l07Frames_l0 a b l hlog l.length 0 [] (by omega) (by simp)
    have zF := frmsL_len a ha.1 ha.2 l 0 (by omega) hall
    have z1 := varT_size (n := a) (by omega) (by omega)
    have z2 := varT_size (n := b) (by omega) (by omega)
    have z3 := varT_size (n := t) (by omega) (by omega)
    have z4 := varT_size (n := v) (by omega) (by omega)
    have o66 : (⟨#[66]⟩ : ByteArray).size = 1 := rfl
    have o72 : (⟨#[72]⟩ : ByteArray).size = 1 := rfl
    have zS : (strOfNums (frmsL a l 0)).size ≤ 200 * l.length := by rw [strOfNums_size]; exact zF
    refine ⟨K0 + K1 + K2 + K3 + K4 + K5 + K6 + K7, fun k hk => ?_⟩
    have e0 : spec_JournalOk.f k n t v a b l = some _ := k0 k (by omega)
    have e1 : spec_l01Var.f k a = some _ := k1 k (by omega)
    have e2 : spec_l01Var.f k b = some _ := k2 k (by omega)
    have e3 : spec_l01Var.f k t = some _ := k3 k (by omega)
    have e4 : spec_l01Var.f k v = some _ := k4 k (by omega)
    have e5 : spec_Frame.f k (((⟨#[66]⟩ : ByteArray) ++ varT a) ++ varT b) = some _ := k5 k (by omega)
    have e6 : spec_Frame.f k (((⟨#[72]⟩ : ByteArray) ++ varT t) ++ varT v) = some _ := k6 k (by omega)
    have e7 : spec_l07Frames.l0 k [] 0 a b l = some (strOfNums (frmsL a l 0)) := k7 k (by omega)
    have eH : spec_l07Hard.f k t v = some (frameT (twoT 72 t v)) := by
      simp only [spec_l07Hard.f]
      rw [e3, Option.bind_some, if_pos (by omega), e4, Option.bind_some, if_pos (by rw [ByteArray.size_append]; omega), e6, Option.bind_some]
    simp only [spec_JournalText.f, spec_l07Frames.f, jtC]
    rw [e0, Option.bind_some, if_pos h, if_pos h, e1, Option.bind_some, if_pos (by omega), e2, Option.bind_some, if_pos (by rw [ByteArray.size_append]; omega), e5, Option.bind_some, eH, Option.bind_some, if_pos (by show (frameT (twoT 66 a b)).size + (frameT (twoT 72 t v)).size ≤ _; omega), e7, Option.bind_some, if_pos (by show (frameT (twoT 66 a b) ++ frameT (twoT 72 t v)).size + (strOfNums (frmsL a l 0)).size ≤ _; rw [ByteArray.size_append]; omega)]
    by_cases hz : ((jtT t v a b l).size : Int) > 20000
    · rw [if_pos hz]; exact if_pos hz
    · rw [if_neg hz]; exact if_neg hz
  · refine ⟨K0, fun k hk => ?_⟩
    have e0 : spec_JournalOk.f k n t v a b l = some _ := k0 k hk
    simp only [spec_JournalText.f, jtC]
    rw [e0, Option.bind_some, if_neg h, if_neg h]
theorem impl_JournalText_ev (n t v a b : Int) (l : List S56) (hl : l.length ≤ 1048576) (hd : ∀ y ∈ l, y.f2.size ≤ 1048576) : Ev (fun k => impl_JournalText.f k n t v a b l) (jtC n t v a b l) := by
  obtain ⟨K0, k0⟩ := impl_JournalOk_ev n t v a b l hl hd
  by_cases h : jokC n t v a b l = true
  · obtain ⟨ht, hv, hlog⟩ := jokC_facts h
    obtain ⟨ha, hb, hl2, hs, hall⟩ := logC_facts hlog
    obtain ⟨K1, k1⟩ := impl_varOf_ev (n := a) (by omega) (by omega)
    obtain ⟨K2, k2⟩ := impl_varOf_ev (n := b) (by omega) (by omega)
    obtain ⟨K3, k3⟩ := impl_varOf_ev (n := t) (by omega) (by omega)
    obtain ⟨K4, k4⟩ := impl_varOf_ev (n := v) (by omega) (by omega)
    have zB := twoT_size 66 (a := a) (b := b) (by omega) (by omega) (by omega) (by omega)
    have zH := twoT_size 72 (a := t) (b := v) (by omega) (by omega) (by omega) (by omega)
    have fB := frameT_size (twoT 66 a b) (by omega)
    have fH := frameT_size (twoT 72 t v) (by omega)
    obtain ⟨K5, k5⟩ := impl_framed_ev (twoT 66 a b) (by omega)
    obtain ⟨K6, k6⟩ := impl_framed_ev (twoT 72 t v) (by omega)
    obtain ⟨K7, k7⟩ := impl_entryFrames_l0 a b l hlog l.length 0 (⟨#[]⟩ : ByteArray) (by omega) (by show 0 ≤ 200 * 0; omega)
    have zF := frmsL_len a ha.1 ha.2 l 0 (by omega) hall
    have z1 := varT_size (n := a) (by omega) (by omega)
    have z2 := varT_size (n := b) (by omega) (by omega)
    have z3 := varT_size (n := t) (by omega) (by omega)
    have z4 := varT_size (n := v) (by omega) (by omega)
    have o66 : (⟨#[66]⟩ : ByteArray).size = 1 := rfl
    have o72 : (⟨#[72]⟩ : ByteArray).size = 1 := rfl
    have zS : (strOfNums (frmsL a l 0)).size ≤ 200 * l.length := by rw [strOfNums_size]; exact zF
    refine ⟨K0 + K1 + K2 + K3 + K4 + K5 + K6 + K7, fun k hk => ?_⟩
    have e0 : impl_JournalOk.f k n t v a b l = some _ := k0 k (by omega)
    have e1 : impl_varOf.f k a = some _ := k1 k (by omega)
    have e2 : impl_varOf.f k b = some _ := k2 k (by omega)
    have e3 : impl_varOf.f k t = some _ := k3 k (by omega)
    have e4 : impl_varOf.f k v = some _ := k4 k (by omega)
    have e5 : impl_framed.f k (((⟨#[66]⟩ : ByteArray) ++ varT a) ++ varT b) = some (frameT (twoT 66 a b)) := k5 k (by omega)
    have e6 : impl_framed.f k (((⟨#[72]⟩ : ByteArray) ++ varT t) ++ varT v) = some (frameT (twoT 72 t v)) := k6 k (by omega)
    have e7 : impl_entryFrames.l0 k (⟨#[]⟩ : ByteArray) 0 a b l = some (strOfNums (frmsL a l 0)) := k7 k (by omega)
    have eH : impl_hardFrame.f k t v = some (frameT (twoT 72 t v)) := by
      simp only [impl_hardFrame.f]
      rw [e3, Option.bind_some, if_pos (by omega), e4, Option.bind_some, if_pos (by rw [ByteArray.size_append]; omega), e6, Option.bind_some]
    simp only [impl_JournalText.f, impl_entryFrames.f, jtC]
    rw [e0, Option.bind_some, if_pos h, if_pos h, e1, Option.bind_some, if_pos (by omega), e2, Option.bind_some, if_pos (by rw [ByteArray.size_append]; omega), e5, Option.bind_some, eH, Option.bind_some, if_pos (by show (frameT (twoT 66 a b)).size + (frameT (twoT 72 t v)).size ≤ _; omega), e7, Option.bind_some, if_pos (by show (frameT (twoT 66 a b) ++ frameT (twoT 72 t v)).size + (strOfNums (frmsL a l 0)).size ≤ _; rw [ByteArray.size_append]; omega)]
    by_cases hz : ((jtT t v a b l).size : Int) > 20000
    · rw [if_pos hz]; exact if_pos hz
    · rw [if_neg hz]; exact if_neg hz
  · refine ⟨K0, fun k hk => ?_⟩
    have e0 : impl_JournalOk.f k n t v a b l = some _ := k0 k hk
    simp only [impl_JournalText.f, jtC]
    rw [e0, Option.bind_some, if_neg h, if_neg h]

theorem laws_szEntry_eq (t k : Int) (d : ByteArray) (left : Int) (hl : 0 ≤ left) (hl2 : left ≤ 1048576) (hd : d.size ≤ 9223372036854775807) :
    laws_szEntry.f t k d left = some (if left - (d.size : Int) < 0 then -1 else left - (d.size : Int)) := by
  simp only [laws_szEntry.f]
  rw [w64 (by omega) (by omega)]
  by_cases h : left - (d.size : Int) < 0
  · rw [if_pos h, if_pos h]
  · rw [if_neg h, if_neg h]

theorem laws_szEntryS_l0 (l : List S62) (hlen : l.length ≤ 1048576) (hd : ∀ y ∈ l, y.f2.size ≤ 9223372036854775807) : ∀ (d i : Nat) (left : Int), i + d = l.length → 0 ≤ left → left ≤ 1048576 →
    ∃ r, Ev (fun k => laws_szEntryS.l0 k l left (i : Int)) r ∧ (0 ≤ r → r ≤ left ∧ ∀ y ∈ l.drop i, (y.f2.size : Int) ≤ left)
  | 0, i, left, hi, h0, h1 => by
    refine ⟨left, ?_, fun _ => ⟨Int.le_refl _, ?_⟩⟩
    · refine Ev.step (f := fun _ => some left) (fun k => ?_) (Ev.now _)
      simp only [laws_szEntryS.l0]; rw [if_neg (by omega)]
    · rw [List.drop_eq_nil_of_le (by omega)]; simp
  | d + 1, i, left, hi, h0, h1 => by
    have hm := hd _ (getD_mem z62 (l := l) (i := i) (by omega))
    have e := laws_szEntry_eq (l.getD i z62).f0 (l.getD i z62).f1 (l.getD i z62).f2 left h0 h1 hm
    by_cases h : left - ((l.getD i z62).f2.size : Int) < 0
    · rw [if_pos h] at e
      refine ⟨-1, ?_, fun h => by omega⟩
      refine Ev.step (f := fun _ => some (-1)) (fun k => ?_) (Ev.now _)
      simp only [laws_szEntryS.l0, rd_T62]
      rw [if_pos (by omega), if_pos (by omega), Int.toNat_natCast, e, Option.bind_some, if_pos (by omega)]
    · rw [if_neg h] at e
      obtain ⟨r, ⟨K, hK⟩, hr⟩ := laws_szEntryS_l0 l hlen hd d (i + 1) (left - ((l.getD i z62).f2.size : Int)) (by omega) (by omega) (by omega)
      refine ⟨r, ⟨K + 1, fun k hk => ?_⟩, fun h => ?_⟩
      · obtain ⟨k, rfl⟩ : ∃ m, k = m + 1 := ⟨k - 1, by omega⟩
        have e2 : laws_szEntryS.l0 k l (left - ((l.getD i z62).f2.size : Int)) ((i + 1 : Nat) : Int) = some _ := hK k (by omega)
        simp only [laws_szEntryS.l0, rd_T62]
        rw [if_pos (by omega), if_pos (by omega), Int.toNat_natCast, e, Option.bind_some, if_neg (by omega), w64 (by omega) (by omega), show (i : Int) + 1 = ((i + 1 : Nat) : Int) by omega, e2]
      · have h2 := hr h
        refine ⟨by omega, fun y hy => ?_⟩
        rw [drop_getD z62 (by omega)] at hy
        rcases List.mem_cons.1 hy with rfl | hy
        · omega
        · have := h2.2 y hy; omega
theorem laws_szEntryS_ev (l : List S62) (hlen : l.length ≤ 9223372036854775807) (hd : ∀ y ∈ l, y.f2.size ≤ 9223372036854775807) (left : Int) (h0 : 0 ≤ left) (h1 : left ≤ 1048576) :
    ∃ r, Ev (fun k => laws_szEntryS.f k l left) r ∧ (0 ≤ r → r ≤ left ∧ (l.length : Int) ≤ left ∧ ∀ y ∈ l, (y.f2.size : Int) ≤ left) := by
  by_cases h : left - (l.length : Int) < 0
  · refine ⟨-1, ⟨0, fun k _ => ?_⟩, fun h => by omega⟩
    simp only [laws_szEntryS.f]
    rw [w64 (by omega) (by omega), if_pos h]
  · obtain ⟨r, ⟨K, hK⟩, hr⟩ := laws_szEntryS_l0 l (by omega) hd l.length 0 (left - (l.length : Int)) (by omega) (by omega) (by omega)
    refine ⟨r, ⟨K, fun k hk => ?_⟩, fun h => ?_⟩
    · have e2 : laws_szEntryS.l0 k l (left - (l.length : Int)) 0 = some _ := hK k hk
      simp only [laws_szEntryS.f]
      rw [w64 (by omega) (by omega), if_neg h, e2]
    · have h2 := hr h
      rw [List.drop_zero] at h2
      exact ⟨by omega, by omega, fun y hy => by have := h2.2 y hy; omega⟩

theorem laws_szLog_ev (a b : Int) (l : List S62) (hlen : l.length ≤ 9223372036854775807) (hd : ∀ y ∈ l, y.f2.size ≤ 9223372036854775807) (left : Int) (h0 : 0 ≤ left) (h1 : left ≤ 1048576) :
    ∃ r, Ev (fun k => laws_szLog.f k a b l left) r ∧ (0 ≤ r → r ≤ left ∧ (l.length : Int) ≤ left ∧ ∀ y ∈ l, (y.f2.size : Int) ≤ left) := by
  obtain ⟨r, ⟨K, hK⟩, hr⟩ := laws_szEntryS_ev l hlen hd left h0 h1
  by_cases h : r < 0
  · refine ⟨-1, ⟨K, fun k hk => ?_⟩, fun h => by omega⟩
    have e : laws_szEntryS.f k l left = some _ := hK k hk
    simp only [laws_szLog.f]
    rw [e, Option.bind_some, if_pos h]
  · refine ⟨r, ⟨K, fun k hk => ?_⟩, hr⟩
    have e : laws_szEntryS.f k l left = some _ := hK k hk
    simp only [laws_szLog.f]
    rw [e, Option.bind_some, if_neg h]

def cvE (y : S62) : S56 := ⟨y.f0, y.f1, y.f2⟩
theorem laws_toEntryS_l0 (l : List S62) (hl : l.length ≤ 1048576) : ∀ (d i : Nat) (x : List S56), i + d = l.length → x.length = l.length → x.take i = (l.take i).map cvE →
    Ev (fun k => laws_toEntryS.l0 k l x (i : Int)) (l.map cvE)
  | 0, i, x, hd, hx, ht => by
    refine Ev.step (f := fun _ => some x) (fun k => ?_) ?_
    · simp only [laws_toEntryS.l0]; rw [if_neg (by omega)]
    · have : x = l.map cvE := by rw [← List.take_of_length_le (i := i) (l := x) (by omega), ht, List.take_of_length_le (by omega)]
      rw [this]; exact Ev.now _
  | d + 1, i, x, hd, hx, ht => by
    refine Ev.step (f := fun k => laws_toEntryS.l0 k l (x.set i (cvE (l.getD i z62))) ((i + 1 : Nat) : Int)) (fun k => ?_) (laws_toEntryS_l0 l hl d (i + 1) _ (by omega) (by rw [List.length_set]; exact hx) ?_)
    · simp only [laws_toEntryS.l0, laws_toEntry.f, rd_T62]
      rw [if_pos (by omega), if_pos (by omega), Option.bind_some, if_pos (by omega), w64 (by omega) (by omega), Int.toNat_natCast]; rfl
    · rw [take_set_succ _ _ _ (by omega), ht, take_getD z62 (by omega), List.map_append]; rfl
theorem laws_toEntryS_ev (l : List S62) (hl : l.length ≤ 1048576) : Ev (fun k => laws_toEntryS.f k l) (l.map cvE) := by
  obtain ⟨K, hK⟩ := laws_toEntryS_l0 l hl l.length 0 (List.replicate l.length z56) (by omega) (by simp) (by simp)
  refine ⟨K, fun k hk => ?_⟩
  have e : laws_toEntryS.l0 k l (List.replicate l.length z56) 0 = some _ := hK k hk
  simp only [laws_toEntryS.f]
  rw [if_pos (by omega), if_pos (by omega), Int.toNat_natCast, e]

theorem laws_toLog_ev (a b : Int) (l : List S62) (hl : l.length ≤ 1048576) : Ev (fun k => laws_toLog.f k a b l) (a, b, l.map cvE) := by
  obtain ⟨K, hK⟩ := laws_toEntryS_ev l hl
  refine ⟨K, fun k hk => ?_⟩
  have e : laws_toEntryS.f k l = some _ := hK k hk
  simp only [laws_toLog.f]
  rw [e, Option.bind_some]

theorem laws_eqEntry_self (a b : Int) (c : ByteArray) : laws_eqEntry.f a b c a b c = some true := by
  simp only [laws_eqEntry.f, if_true]
theorem laws_eqEntryS_l0 (l : List S56) (hl : l.length ≤ 140737488351232) : ∀ (d i : Nat), i + d = l.length → Ev (fun k => laws_eqEntryS.l0 k l l (i : Int)) true
  | 0, i, hd => by
    refine Ev.step (f := fun _ => some true) (fun k => ?_) (Ev.now _)
    simp only [laws_eqEntryS.l0]; rw [if_neg (by omega)]
  | d + 1, i, hd => by
    refine Ev.step (f := fun k => laws_eqEntryS.l0 k l l ((i + 1 : Nat) : Int)) (fun k => ?_) (laws_eqEntryS_l0 l hl d (i + 1) (by omega))
    simp only [laws_eqEntryS.l0]
    rw [if_pos (by omega), if_pos (by omega), if_pos (by omega), laws_eqEntry_self, Option.bind_some, if_pos rfl, w64 (by omega) (by omega)]; rfl
theorem laws_eqEntryS_ev (l : List S56) (hl : l.length ≤ 140737488351232) : Ev (fun k => laws_eqEntryS.f k l l) true := by
  obtain ⟨K, hK⟩ := laws_eqEntryS_l0 l hl l.length 0 (by omega)
  refine ⟨K, fun k hk => ?_⟩
  have e : laws_eqEntryS.l0 k l l 0 = some _ := hK k hk
  simp only [laws_eqEntryS.f]
  rw [if_pos trivial, e]

theorem laws_eqLog_ev (a b : Int) (l : List S56) (hl : l.length ≤ 140737488351232) : Ev (fun k => laws_eqLog.f k a b l a b l) true := by
  obtain ⟨K, hK⟩ := laws_eqEntryS_ev l hl
  refine ⟨K, fun k hk => ?_⟩
  have e : laws_eqEntryS.f k l l = some _ := hK k hk
  simp only [laws_eqLog.f, if_true]
  rw [e, Option.bind_some, if_pos rfl]

theorem laws_szJournal_ev (n t v a b : Int) (l : List S62) (hlen : l.length ≤ 9223372036854775807) (hd : ∀ y ∈ l, y.f2.size ≤ 9223372036854775807) (left : Int) (h0 : 0 ≤ left) (h1 : left ≤ 1048576) :
    ∃ r, Ev (fun k => laws_szJournal.f k n t v a b l left) r ∧ (0 ≤ r → r ≤ left ∧ (l.length : Int) ≤ left ∧ ∀ y ∈ l, (y.f2.size : Int) ≤ left) := by
  obtain ⟨r, ⟨K, hK⟩, hr⟩ := laws_szLog_ev a b l hlen hd left h0 h1
  by_cases h : r < 0
  · refine ⟨-1, ⟨K, fun k hk => ?_⟩, fun h => by omega⟩
    have e : laws_szLog.f k a b l left = some _ := hK k hk
    simp only [laws_szJournal.f]
    rw [e, Option.bind_some, if_pos h]
  · refine ⟨r, ⟨K, fun k hk => ?_⟩, hr⟩
    have e : laws_szLog.f k a b l left = some _ := hK k hk
    simp only [laws_szJournal.f]
    rw [e, Option.bind_some, if_neg h]
theorem laws_toJournal_ev (n t v a b : Int) (l : List S62) (hl : l.length ≤ 1048576) : Ev (fun k => laws_toJournal.f k n t v a b l) (n, t, v, a, b, l.map cvE) := by
  obtain ⟨K, hK⟩ := laws_toLog_ev a b l hl
  refine ⟨K, fun k hk => ?_⟩
  have e : laws_toLog.f k a b l = some _ := hK k hk
  simp only [laws_toJournal.f]
  rw [e, Option.bind_some]
theorem laws_eqJournal_ev (n t v a b : Int) (l : List S56) (hl : l.length ≤ 140737488351232) : Ev (fun k => laws_eqJournal.f k n t v a b l n t v a b l) true := by
  obtain ⟨K, hK⟩ := laws_eqLog_ev a b l hl
  refine ⟨K, fun k hk => ?_⟩
  have e : laws_eqLog.f k a b l a b l = some _ := hK k hk
  simp only [laws_eqJournal.f, if_true]
  rw [e, Option.bind_some, if_pos rfl]

theorem FnExactJournalText (n t v a b : Int) (l : List S62) (_ : (Lit.int .i64 n).wf = true) (_ : (Lit.int .i64 t).wf = true) (_ : (Lit.int .i64 v).wf = true) (_ : (Lit.int .i64 a).wf = true) (_ : (Lit.int .i64 b).wf = true) (g2 : (l.length ≤ 9223372036854775807 ∧ ∀ y ∈ l, (Lit.int .i64 y.f0).wf = true ∧ (Lit.int .i64 y.f1).wf = true ∧ y.f2.size ≤ maxLen)) : ∃ k, laws_FnExactJournalText.f k n t v a b l = some true := by
  obtain ⟨r, ⟨K1, h1⟩, hr⟩ := laws_szJournal_ev n t v a b l g2.1 (fun y hy => by have := (g2.2 y hy).2.2; simpa [maxLen] using this) 1048576 (by omega) (by omega)
  by_cases hneg : r < 0
  · refine ⟨K1, ?_⟩
    have e1 : laws_szJournal.f K1 n t v a b l 1048576 = some _ := h1 K1 (Nat.le_refl _)
    simp only [laws_FnExactJournalText.f]
    rw [e1, Option.bind_some, if_pos hneg]
  · have hb := hr (by omega)
    have hlen : (l.map cvE).length ≤ 1048576 := by rw [List.length_map]; omega
    have hsz : ∀ y ∈ l.map cvE, y.f2.size ≤ 1048576 := by
      intro y hy
      obtain ⟨x, hx, rfl⟩ := List.mem_map.1 hy
      have := hb.2.2 x hx
      show x.f2.size ≤ _
      omega
    obtain ⟨K2, h2⟩ := laws_toJournal_ev n t v a b l (by omega)
    obtain ⟨K3, h3⟩ := laws_eqJournal_ev n t v a b (l.map cvE) (by omega)
    obtain ⟨K4, h4⟩ := spec_JournalText_ev n t v a b (l.map cvE) hlen hsz
    obtain ⟨K5, h5⟩ := impl_JournalText_ev n t v a b (l.map cvE) hlen hsz
    generalize hk : K1 + K2 + K3 + K4 + K5 = k
    refine ⟨k + 1, ?_⟩
    have e1 : laws_szJournal.f (k + 1) n t v a b l 1048576 = some _ := h1 _ (by omega)
    have e2 : laws_toJournal.f (k + 1) n t v a b l = some _ := h2 _ (by omega)
    have e2' : laws_toJournal.f k n t v a b l = some _ := h2 _ (by omega)
    have e3 : laws_eqJournal.f k n t v a b (l.map cvE) n t v a b (l.map cvE) = some _ := h3 _ (by omega)
    have e4 : spec_JournalText.f (k + 1) n t v a b (l.map cvE) = some _ := h4 _ (by omega)
    have e5 : impl_JournalText.f (k + 1) n t v a b (l.map cvE) = some _ := h5 _ (by omega)
    simp only [laws_FnExactJournalText.f]
    rw [e1, Option.bind_some, if_neg hneg, e2, Option.bind_some, e4, Option.bind_some, Option.bind_some, e5, Option.bind_some, if_pos rfl]
    simp only [laws_FnExactJournalText.j0]
    rw [if_neg (by simp), e2', Option.bind_some, e3, Option.bind_some, if_pos rfl]

end Go.Proofs.Ytgeagknnfkgihaa.Pure
