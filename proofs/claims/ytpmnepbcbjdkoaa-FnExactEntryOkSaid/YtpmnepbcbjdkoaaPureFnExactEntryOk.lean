/- For every entry, the program's EntryOk returns what the reference's EntryOk returns: FnExactEntryOk returns true. No condition. -/
import Derived.Test.YtpmnepbcbjdkoaaPFnExactEntryOkx2
namespace Go.Proofs.Ytpmnepbcbjdkoaa.Pure
open Go.RowKit Go.Proofs.Ytpmnepbcbjdkoaa.PFnExactEntryOk Go.Proofs.YtpmnepbcbjdkoaaW.PrintWords Go.Proofs.YtpmnepbcbjdkoaaW.PrintLast Go.Proofs.YtpmnepbcbjdkoaaW.PrintMore

/-! ### texts as lists of bytes -/
theorem bytesOf_range (s : ByteArray) : ∀ b ∈ bytesOf s, 0 ≤ b ∧ b ≤ 255 := by
  intro b hb
  obtain ⟨u, _, rfl⟩ := List.mem_map.1 hb
  have := u.toNat_lt
  omega
theorem bytesOf_inj {s t : ByteArray} (h : bytesOf s = bytesOf t) : s = t := by
  apply ByteArray.ext
  apply Array.toList_inj.1
  unfold bytesOf at h
  refine (List.map_inj_right ?_).1 h
  intro a b hab
  exact UInt8.toNat_inj.1 (by omega)
theorem bytesOf_app (s t : ByteArray) : bytesOf (s ++ t) = bytesOf s ++ bytesOf t := by
  simp [bytesOf]
theorem bytesOf_ext (s : ByteArray) (a b : Nat) : bytesOf (s.extract a b) = ((bytesOf s).drop a).take (b - a) := by
  simp [bytesOf, List.map_take, List.map_drop]
theorem bytesOf_str (xs : List Int) (h : ∀ b ∈ xs, 0 ≤ b ∧ b ≤ 255) : bytesOf (strOfNums xs) = xs := by
  unfold bytesOf
  rw [strOfNums_data, List.map_map]
  conv => rhs; rw [← List.map_id xs]
  refine List.map_congr_left fun b hb => ?_
  have := h b hb
  simp only [Function.comp_apply, id_eq, UInt8.toNat_ofNat']
  omega
theorem str_bytesOf (s : ByteArray) : strOfNums (bytesOf s) = s := bytesOf_inj (bytesOf_str _ (bytesOf_range s))
theorem bytesOf_nil : bytesOf (⟨#[]⟩ : ByteArray) = [] := rfl
theorem toList_iff {s t : ByteArray} : s.toList = t.toList ↔ s = t := by
  constructor
  · intro h
    rw [ByteArray.toList_eq, ByteArray.toList_eq] at h
    exact ByteArray.ext (Array.toList_inj.1 h)
  · rintro rfl; rfl
theorem bt_getElem {s : ByteArray} {i : Int} (h1 : i.toNat < s.size) : (bytesOf s)[i.toNat]? = some (bt s i) := by
  rw [← rd_bytesOf]
  unfold rd
  rw [List.getD_eq_getElem?_getD, List.getElem?_eq_getElem (by rw [bytesOf_length]; exact h1)]; rfl
theorem bytesOf_drop {s : ByteArray} {i : Int} (h0 : 0 ≤ i) (h : i < (s.size : Int)) : (bytesOf s).drop i.toNat = bt s i :: (bytesOf s).drop (i + 1).toNat := by
  have hl : i.toNat < (bytesOf s).length := by rw [bytesOf_length]; omega
  rw [List.drop_eq_getElem_cons hl, show (i + 1).toNat = i.toNat + 1 by omega]
  congr 1
  have := bt_getElem (s := s) (i := i) (by omega)
  rw [List.getElem?_eq_getElem hl] at this
  exact Option.some.inj this
theorem bytesOf_drop_end {s : ByteArray} {i : Int} (h : ¬ i < (s.size : Int)) : (bytesOf s).drop i.toNat = [] := by
  apply List.drop_eq_nil_of_le
  rw [bytesOf_length]; omega
theorem extract_all (s : ByteArray) : s.extract 0 s.size = s := bytesOf_inj (by rw [bytesOf_ext, List.drop_zero, Nat.sub_zero, ← bytesOf_length, List.take_length])
theorem w64 {n : Int} (h0 : -9223372036854775808 ≤ n) (h1 : n ≤ 9223372036854775807) : wrap64 n = n := by
  unfold wrap64; omega
theorem i64wf {n : Int} (h : (Lit.int .i64 n).wf = true) : -9223372036854775808 ≤ n ∧ n ≤ 9223372036854775807 := by
  simp [Lit.wf, IntKind.min, IntKind.max, IntKind.bits, IntKind.signed] at h
  omega
theorem u32wf {n : Int} (h : (Lit.int .u32 n).wf = true) : 0 ≤ n ∧ n ≤ 4294967295 := by
  simp [Lit.wf, IntKind.min, IntKind.max, IntKind.bits, IntKind.signed] at h
  omega
theorem tmod_nat {n : Int} (h : 0 ≤ n) (m : Int) : Int.tmod n m = n % m := Int.tmod_eq_emod_of_nonneg h
theorem tdiv_nat {n : Int} (h : 0 ≤ n) (m : Int) : Int.tdiv n m = n / m := Int.tdiv_eq_ediv_of_nonneg h

theorem drop_rd {l : List Int} {i : Nat} (h : i < l.length) : l.drop i = rd l (i : Int) :: l.drop (i + 1) := by
  rw [List.drop_eq_getElem_cons h]
  congr 1
  unfold rd
  rw [Int.toNat_natCast, List.getD_eq_getElem?_getD, List.getElem?_eq_getElem h]; rfl
theorem take_set_succ {α : Type} (l : List α) (i : Nat) (v : α) (h : i < l.length) : (l.set i v).take (i + 1) = l.take i ++ [v] := by
  rw [List.take_add_one, List.getElem?_set_self h, List.take_set_of_le (Nat.le_refl i)]; rfl
theorem take_rd {l : List Int} {i : Nat} (h : i < l.length) : l.take (i + 1) = l.take i ++ [rd l (i : Int)] := by
  rw [List.take_add_one]
  congr 1
  unfold rd
  rw [Int.toNat_natCast, List.getD_eq_getElem?_getD, List.getElem?_eq_getElem h]; rfl

/-- Rising, each in 1 .. 4, and above p. -/
def riseL : Int → List Int → Bool
  | _, [] => true
  | p, x :: xs => if 1 ≤ x ∧ x ≤ 4 ∧ p < x then riseL x xs else false
theorem riseL_len : ∀ (l : List Int) (p : Int), riseL p l = true → l = [] ∨ p + (l.length : Int) ≤ 4
  | [], _, _ => .inl rfl
  | x :: xs, p, h => by
    simp only [riseL] at h
    by_cases h1 : 1 ≤ x ∧ x ≤ 4 ∧ p < x
    · rw [if_pos h1] at h
      rcases riseL_len xs x h with rfl | h2
      · right; simp; omega
      · right; simp only [List.length_cons]; omega
    · rw [if_neg h1] at h; simp at h
def confC (l : List Int) : Bool := decide (1 ≤ l.length) && riseL 0 l
theorem confC_len {l : List Int} (h : confC l = true) : 1 ≤ l.length ∧ l.length ≤ 4 := by
  unfold confC at h
  simp only [Bool.and_eq_true, decide_eq_true_eq] at h
  rcases riseL_len l 0 h.2 with rfl | h2
  · simp at h
  · omega
theorem riseL_range : ∀ (l : List Int) (p : Int), riseL p l = true → ∀ x ∈ l, 1 ≤ x ∧ x ≤ 4
  | [], _, _, _, h => by simp at h
  | y :: ys, p, h, x, hx => by
    simp only [riseL] at h
    by_cases h1 : 1 ≤ y ∧ y ≤ 4 ∧ p < y
    · rw [if_pos h1] at h
      rcases List.mem_cons.1 hx with rfl | hx
      · omega
      · exact riseL_range ys y h x hx
    · rw [if_neg h1] at h; simp at h
theorem confC_range {l : List Int} (h : confC l = true) : ∀ x ∈ l, 1 ≤ x ∧ x ≤ 4 := by
  unfold confC at h
  simp only [Bool.and_eq_true] at h
  exact riseL_range l 0 h.2
/-- What stands ahead of place i. -/
def prv (l : List Int) (i : Nat) : Int := if i = 0 then 0 else rd l ((i : Int) - 1)
theorem prv_succ (l : List Int) (i : Nat) : prv l (i + 1) = rd l (i : Int) := by
  unfold prv
  rw [if_neg (by omega), show ((i + 1 : Nat) : Int) - 1 = (i : Int) by omega]

def rconfC (s : ByteArray) : List Int × Bool := if confC (bytesOf s) = true then (bytesOf s, true) else ([], false)
theorem take_bytes_succ {s : ByteArray} {i : Nat} (h : i < s.size) : (bytesOf s).take (i + 1) = (bytesOf s).take i ++ [bt s (i : Int)] := by
  rw [take_rd (by rw [bytesOf_length]; exact h), rd_bytesOf]

/-! ### numbers in bytes, in plain Lean -/
/-- The bytes of a number: seven bits each, the lowest first. -/
def vl (n : Nat) : List Int := if 127 < n then ((n % 128 + 128 : Nat) : Int) :: vl (n / 128) else [(n : Int)]
  termination_by n
  decreasing_by omega
theorem vl_big {n : Nat} (h : 127 < n) : vl n = ((n % 128 + 128 : Nat) : Int) :: vl (n / 128) := by rw [vl, if_pos h]
theorem vl_small {n : Nat} (h : ¬ 127 < n) : vl n = [(n : Int)] := by rw [vl, if_neg h]
theorem vl_pos (n : Nat) : 0 < (vl n).length := by
  by_cases h : 127 < n
  · rw [vl_big h]; simp
  · rw [vl_small h]; simp
theorem vl_bytes (n : Nat) : ∀ b ∈ vl n, 0 ≤ b ∧ b ≤ 255 := by
  induction n using Nat.strongRecOn with
  | _ n ih =>
    by_cases h : 127 < n
    · rw [vl_big h]
      intro b hb
      rcases List.mem_cons.1 hb with rfl | hb
      · omega
      · exact ih _ (by omega) b hb
    · rw [vl_small h]
      intro b hb
      have := List.mem_singleton.1 hb
      omega
/-- The number that bytes make. -/
def dec : List Int → Int
  | [] => 0
  | b :: bs => b % 128 + 128 * dec bs
theorem dec_nonneg : ∀ bs : List Int, 0 ≤ dec bs
  | [] => by simp [dec]
  | b :: bs => by have := dec_nonneg bs; simp only [dec]; omega
theorem dec_vl (n : Nat) : dec (vl n) = (n : Int) := by
  induction n using Nat.strongRecOn with
  | _ n ih =>
    by_cases h : 127 < n
    · rw [vl_big h, dec, ih _ (by omega)]; omega
    · rw [vl_small h, dec, dec]; omega
theorem vl_form (n : Nat) : ∃ bs c, vl n = bs ++ [c] ∧ (∀ b ∈ bs, 128 ≤ b ∧ b ≤ 255) ∧ 0 ≤ c ∧ c ≤ 127 ∧ (bs = [] ∨ c ≠ 0) := by
  induction n using Nat.strongRecOn with
  | _ n ih =>
    by_cases h : 127 < n
    · obtain ⟨bs, c, h1, h2, h3, h4, h5⟩ := ih (n / 128) (by omega)
      refine ⟨((n % 128 + 128 : Nat) : Int) :: bs, c, by rw [vl_big h, h1]; rfl, ?_, h3, h4, .inr ?_⟩
      · intro b hb
        rcases List.mem_cons.1 hb with rfl | hb
        · omega
        · exact h2 b hb
      · rcases h5 with rfl | h5
        · have := dec_vl (n / 128)
          rw [h1] at this
          simp [dec] at this
          omega
        · exact h5
    · exact ⟨[], (n : Int), by rw [vl_small h]; rfl, by simp, by omega, by omega, .inl rfl⟩
theorem dec_pos : ∀ (bs : List Int) (c : Int), (∀ b ∈ bs, 128 ≤ b ∧ b ≤ 255) → 0 ≤ c → c ≤ 127 → c ≠ 0 → 1 ≤ dec (bs ++ [c])
  | [], c, _, h0, h1, h2 => by simp [dec]; omega
  | b :: bs, c, h, h0, h1, h2 => by
    have := dec_pos bs c (fun x hx => h x (List.mem_cons_of_mem _ hx)) h0 h1 h2
    simp only [List.cons_append, dec]; omega
theorem vl_dec : ∀ (bs : List Int) (c : Int), (∀ b ∈ bs, 128 ≤ b ∧ b ≤ 255) → 0 ≤ c → c ≤ 127 → (bs = [] ∨ c ≠ 0) → vl (dec (bs ++ [c])).toNat = bs ++ [c]
  | [], c, _, h0, h1, _ => by
    have e : (dec ([] ++ [c])).toNat = c.toNat := by simp [dec]; omega
    rw [e, vl_small (by omega)]
    simp; omega
  | b :: bs, c, h, h0, h1, h2 => by
    have hc : c ≠ 0 := by rcases h2 with h2 | h2 <;> simp_all
    have hb := h b List.mem_cons_self
    have hp := dec_pos bs c (fun x hx => h x (List.mem_cons_of_mem _ hx)) h0 h1 hc
    have ih := vl_dec bs c (fun x hx => h x (List.mem_cons_of_mem _ hx)) h0 h1 (.inr hc)
    have e : dec (b :: bs ++ [c]) = b % 128 + 128 * dec (bs ++ [c]) := by simp only [List.cons_append, dec]
    rw [e, vl_big (by omega)]
    have e2 : (b % 128 + 128 * dec (bs ++ [c])).toNat / 128 = (dec (bs ++ [c])).toNat := by omega
    rw [e2, ih]
    simp only [List.cons_append, List.cons.injEq, and_true]
    omega
/-- No longer form: the last byte is nought behind others. -/
theorem vl_ne (bs : List Int) (hb : bs ≠ []) (m : Nat) : vl m ≠ bs ++ [(0 : Int)] := by
  intro e
  obtain ⟨bs', c', h1, h2, h3, h4, h5⟩ := vl_form m
  rw [h1] at e
  have := List.append_inj' e rfl
  obtain ⟨rfl, e2⟩ := this
  simp at e2
  rcases h5 with h5 | h5
  · exact hb h5
  · exact h5 e2

/-- What ReadVar does with the bytes from a place on: k of them are gone, n is what they made. -/
def rvL : Nat → List Int → Nat → Int → Option (Int × Nat)
  | 0, _, _, _ => none
  | _ + 1, [], _, _ => none
  | f + 1, b :: bs, k, n =>
    if b < 128 then (if (b = 0 ∧ 0 < k) ∨ 1000000000 < n + b % 128 * 128 ^ k then none else some (n + b % 128 * 128 ^ k, k + 1))
    else rvL f bs (k + 1) (n + b % 128 * 128 ^ k)
theorem dec_app : ∀ (xs ys : List Int), dec (xs ++ ys) = dec xs + 128 ^ xs.length * dec ys
  | [], ys => by simp [dec]
  | x :: xs, ys => by
    have := dec_app xs ys
    simp only [List.cons_append, dec, List.length_cons, Int.pow_succ] at this ⊢
    rw [this, Int.mul_add, ← Int.mul_assoc, Int.mul_comm (128 : Int) (128 ^ xs.length)]
    omega
theorem dec_one (b : Int) : dec [b] = b % 128 := by simp [dec]
theorem dec_snoc (xs : List Int) (b : Int) : dec (xs ++ [b]) = dec xs + b % 128 * 128 ^ xs.length := by
  rw [dec_app, dec_one, Int.mul_comm]
theorem rvL_sound : ∀ (f : Nat) (bs : List Int) (k : Nat) (pre : List Int) (m : Int) (j : Nat), (∀ b ∈ pre, 128 ≤ b ∧ b ≤ 255) → pre.length = k → (∀ b ∈ bs, 0 ≤ b ∧ b ≤ 255) →
    rvL f bs k (dec pre) = some (m, j) → 0 ≤ m ∧ m ≤ 1000000000 ∧ k < j ∧ j ≤ k + bs.length ∧ vl m.toNat = pre ++ bs.take (j - k)
  | 0, _, _, _, _, _, _, _, _, h => by simp [rvL] at h
  | _ + 1, [], _, _, _, _, _, _, _, h => by simp [rvL] at h
  | f + 1, b :: bs, k, pre, m, j, hp, hk, hb, h => by
    have hb0 := hb b List.mem_cons_self
    have hn : dec pre + b % 128 * 128 ^ k = dec (pre ++ [b]) := by rw [dec_snoc, hk]
    simp only [rvL] at h
    rw [hn] at h
    by_cases h1 : b < 128
    · rw [if_pos h1] at h
      by_cases h2 : (b = 0 ∧ 0 < k) ∨ 1000000000 < dec (pre ++ [b])
      · rw [if_pos h2] at h; cases h
      · rw [if_neg h2] at h
        simp only [Option.some.injEq, Prod.mk.injEq] at h
        obtain ⟨rfl, rfl⟩ := h
        refine ⟨dec_nonneg _, by omega, by omega, by simp, ?_⟩
        rw [vl_dec pre b hp hb0.1 (by omega) (by
          rcases Nat.eq_zero_or_pos k with h0 | h0
          · left; exact List.eq_nil_of_length_eq_zero (by omega)
          · right; intro e; exact h2 (.inl ⟨e, h0⟩))]
        rw [show k + 1 - k = 1 by omega]; rfl
    · rw [if_neg h1] at h
      obtain ⟨h3, h4, h5, h6, h7⟩ := rvL_sound f bs (k + 1) (pre ++ [b]) m j (by
        intro x hx
        rcases List.mem_append.1 hx with hx | hx
        · exact hp x hx
        · have := List.mem_singleton.1 hx
          subst this
          omega) (by simp [hk]) (fun x hx => hb x (List.mem_cons_of_mem _ hx)) h
      refine ⟨h3, h4, by omega, by simp only [List.length_cons]; omega, ?_⟩
      rw [h7, show j - k = (j - (k + 1)) + 1 by omega, List.take_succ_cons, List.append_assoc]; rfl
theorem rvL_full : ∀ (t : List Int) (f : Nat) (rest : List Int) (m : Nat) (pre : List Int), vl m = pre ++ t → t ≠ [] → t.length ≤ f → m ≤ 1000000000 →
    rvL f (t ++ rest) pre.length (dec pre) = some ((m : Int), (vl m).length)
  | [], _, _, _, _, _, h, _, _ => absurd rfl h
  | b :: t, 0, _, _, _, _, _, h, _ => by simp at h
  | b :: t, f + 1, rest, m, pre, hm, _, hf, hmax => by
    have hn : dec pre + b % 128 * 128 ^ pre.length = dec (pre ++ [b]) := by rw [dec_snoc]
    obtain ⟨bs, c, h1, h2, h3, h4, h5⟩ := vl_form m
    simp only [List.cons_append, rvL]
    rw [hn]
    cases t with
    | nil =>
      have e : bs ++ [c] = pre ++ [b] := by rw [← h1, hm]
      obtain ⟨rfl, e2⟩ := List.append_inj' e rfl
      simp only [List.cons.injEq, and_true] at e2
      subst e2
      have hd : dec (bs ++ [c]) = (m : Int) := by rw [← h1, dec_vl]
      rw [hd, if_pos (by omega), if_neg (by
        rintro (⟨h6, h7⟩ | h6)
        · rcases h5 with rfl | h5
          · simp at h7
          · exact h5 h6
        · omega)]
      simp [hm]
    | cons b2 t =>
      have hbm : b ∈ bs := by
        have e : bs ++ [c] = pre ++ b :: b2 :: t := by rw [← h1, hm]
        have e2 : pre ++ b :: b2 :: t = (pre ++ b :: (b2 :: t).dropLast) ++ [(b2 :: t).getLast (by simp)] := by
          rw [List.append_assoc, List.cons_append, List.dropLast_concat_getLast]
        rw [e2] at e
        obtain ⟨rfl, _⟩ := List.append_inj' e rfl
        simp
      have := h2 b hbm
      rw [if_neg (by omega)]
      have ih := rvL_full (b2 :: t) f rest m (pre ++ [b]) (by rw [hm]; simp) (by simp) (by simp at hf ⊢; omega) hmax
      simpa using ih
theorem vl_len : ∀ (j m : Nat), 1 ≤ j → m < 128 ^ j → (vl m).length ≤ j
  | 0, _, h, _ => by omega
  | j + 1, m, _, h => by
    by_cases h1 : 127 < m
    · rw [vl_big h1]
      rcases Nat.eq_zero_or_pos j with rfl | hj
      · simp at h; omega
      · have := vl_len j (m / 128) hj (by rw [Nat.pow_succ] at h; omega)
        simp only [List.length_cons]; omega
    · rw [vl_small h1]; simp
/-- ReadVar's answer at the bytes that are left. -/
def rv (bs : List Int) : Option (Int × Nat) := rvL 5 bs 0 0
theorem rv_sound {bs : List Int} {m : Int} {j : Nat} (hb : ∀ b ∈ bs, 0 ≤ b ∧ b ≤ 255) (h : rv bs = some (m, j)) : 0 ≤ m ∧ m ≤ 1000000000 ∧ 0 < j ∧ j ≤ bs.length ∧ vl m.toNat = bs.take j := by
  obtain ⟨h1, h2, h3, h4, h5⟩ := rvL_sound 5 bs 0 [] m j (by simp) rfl hb h
  exact ⟨h1, h2, h3, by omega, by simpa using h5⟩
theorem rv_full (m : Nat) (rest : List Int) (hm : m ≤ 1000000000) : rv (vl m ++ rest) = some ((m : Int), (vl m).length) :=
  rvL_full (vl m) 5 rest m [] rfl (by have := vl_pos m; intro e; rw [e] at this; simp at this) (vl_len 5 m (by omega) (by omega)) hm

def varC (n : Int) : ByteArray × Bool := if 0 ≤ n ∧ n ≤ 1000000000 then (strOfNums (vl n.toNat), true) else (⟨#[]⟩, false)
def varT (n : Int) : ByteArray := strOfNums (vl n.toNat)
theorem bytesOf_varT (n : Int) : bytesOf (varT n) = vl n.toNat := bytesOf_str _ (vl_bytes _)

theorem varT_size {n : Int} (h0 : 0 ≤ n) (h1 : n ≤ 9223372036854775807) : (varT n).size ≤ 10 := by
  unfold varT
  rw [strOfNums_size]
  exact vl_len 10 n.toNat (by omega) (by omega)
def shortT (s : ByteArray) : ByteArray := varT (s.size : Int) ++ s
def shortC (s : ByteArray) : ByteArray × Bool := if s.size ≤ 20000 then (shortT s, true) else (⟨#[]⟩, false)

def oneB (l : List Int) : ByteArray := strOfNums (l.map (· % 256))
theorem map_take_rd {l : List Int} {i : Nat} (h : i < l.length) : (l.take (i + 1)).map (· % 256) = (l.take i).map (· % 256) ++ [rd l (i : Int) % 256] := by
  rw [take_rd h, List.map_append]; rfl

def eokC (t k : Int) (d : ByteArray) : Bool := if 0 ≤ t ∧ t ≤ 100000 then (if k = 1 then d.toList == [] else if k = 2 then (rconfC d).2 else if k = 3 then decide ((d.size : Int) ≤ 120) else false) else false
def entT (i t k : Int) (d : ByteArray) : ByteArray := ((((⟨#[69]⟩ : ByteArray) ++ varT i) ++ varT t) ++ oneB [k]) ++ d
def entC (i t k : Int) (d : ByteArray) : ByteArray × Bool := if eokC t k d = true ∧ 1 ≤ i ∧ i ≤ 1000000 then (entT i t k d, true) else (⟨#[]⟩, false)
theorem eokC_term {t k : Int} {d : ByteArray} (h : eokC t k d = true) : 0 ≤ t ∧ t ≤ 100000 := by
  unfold eokC at h
  by_cases h1 : 0 ≤ t ∧ t ≤ 100000
  · exact h1
  · rw [if_neg h1] at h; cases h
theorem eokC_kind {t k : Int} {d : ByteArray} (h : eokC t k d = true) : k = 1 ∨ k = 2 ∨ k = 3 := by
  unfold eokC at h
  rw [if_pos (eokC_term h)] at h
  by_cases h1 : k = 1
  · exact .inl h1
  · rw [if_neg h1] at h
    by_cases h2 : k = 2
    · exact .inr (.inl h2)
    · rw [if_neg h2] at h
      by_cases h3 : k = 3
      · exact .inr (.inr h3)
      · rw [if_neg h3] at h; cases h
theorem oneB_size (k : Int) : (oneB [k]).size = 1 := by unfold oneB; rw [strOfNums_size]; rfl

theorem spec_l01In_eq (a b c : Int) : spec_l01In.f a b c = some (decide (b ≤ a ∧ a ≤ c)) := by
  unfold spec_l01In.f
  by_cases h : a ≥ b
  · rw [if_pos h]; simp [show b ≤ a from h]
  · rw [if_neg h]; simp [show ¬ b ≤ a from h]

theorem spec_l05Rise_l0 (l : List Int) (hl : l.length ≤ 140737488351232) : ∀ (d i : Nat), i + d = l.length →
    Ev (fun k => spec_l05Rise.l0 k l 1 4 (i : Int)) (riseL (prv l i) (l.drop i))
  | 0, i, hd => by
    refine Ev.step (f := fun _ => some true) (fun k => ?_) ?_
    · simp only [spec_l05Rise.l0]; rw [if_neg (by omega)]
    · rw [List.drop_eq_nil_of_le (by omega)]; exact Ev.now _
  | d + 1, i, hd => by
    have ih := spec_l05Rise_l0 l hl d (i + 1) (by omega)
    rw [prv_succ] at ih
    rw [drop_rd (by omega)]
    simp only [riseL]
    have hw : wrap64 ((i : Int) + 1) = ((i + 1 : Nat) : Int) := by rw [w64 (by omega) (by omega)]; rfl
    have hw2 : wrap64 ((i : Int) - 1) = (i : Int) - 1 := w64 (by omega) (by omega)
    by_cases h1 : 1 ≤ rd l (i : Int) ∧ rd l (i : Int) ≤ 4
    · by_cases h2 : prv l i < rd l (i : Int)
      · rw [if_pos ⟨h1.1, h1.2, h2⟩]
        refine Ev.step (f := fun k => spec_l05Rise.l0 k l 1 4 ((i + 1 : Nat) : Int)) (fun k => ?_) ih
        simp only [spec_l05Rise.l0, spec_l01In_eq]
        rw [if_pos (by omega), if_pos (by omega), Option.bind_some, if_pos (by simpa using h1), hw, hw2]
        by_cases h3 : (i : Int) > 0
        · unfold prv at h2
          rw [if_neg (by omega)] at h2
          rw [if_pos h3, if_pos (by omega), if_pos (by omega), if_neg (by omega)]
        · rw [if_neg h3]
      · rw [if_neg (fun h => h2 h.2.2)]
        refine Ev.step (f := fun _ => some false) (fun k => ?_) (Ev.now _)
        have h3 : (i : Int) > 0 := by
          rcases Nat.eq_zero_or_pos i with rfl | h3
          · rw [show prv l 0 = 0 from rfl] at h2; omega
          · omega
        unfold prv at h2
        rw [if_neg (by omega)] at h2
        simp only [spec_l05Rise.l0, spec_l01In_eq]
        rw [if_pos (by omega), if_pos (by omega), Option.bind_some, if_pos (by simpa using h1), hw2, if_pos h3, if_pos (by omega), if_pos (by omega), if_pos (by omega)]
    · rw [if_neg (fun h => h1 ⟨h.1, h.2.1⟩)]
      refine Ev.step (f := fun _ => some false) (fun k => ?_) (Ev.now _)
      simp only [spec_l05Rise.l0, spec_l01In_eq]
      rw [if_pos (by omega), if_pos (by omega), Option.bind_some, if_neg (by simpa using h1)]
theorem spec_ConfOk_ev (l : List Int) (hl : l.length ≤ 140737488351232) : Ev (fun k => spec_ConfOk.f k l) (confC l) := by
  by_cases h : 1 ≤ l.length ∧ l.length ≤ 4
  · obtain ⟨K, hK⟩ := spec_l05Rise_l0 l hl l.length 0 (by omega)
    refine ⟨K, fun k hk => ?_⟩
    have e : spec_l05Rise.l0 k l 1 4 0 = some _ := hK k hk
    simp only [spec_ConfOk.f, spec_l05Rise.f, spec_l01In_eq]
    rw [Option.bind_some, if_pos (by simp; omega), e, Option.bind_some]
    unfold confC
    rw [decide_eq_true h.1]; rfl
  · refine ⟨0, fun k _ => ?_⟩
    simp only [spec_ConfOk.f, spec_l01In_eq]
    rw [Option.bind_some, if_neg (by simp; omega)]
    cases hc : confC l with
    | false => rfl
    | true => exact absurd (confC_len hc) h

theorem spec_ReadConf_l0 (s : ByteArray) (hs : s.size ≤ 1048576) : ∀ (d i : Nat), i + d = min s.size 5 →
    Ev (fun k => spec_ReadConf.l0 k s ((bytesOf s).take i) (i : Int)) (rconfC s)
  | 0, i, hd => by
    have hbl := bytesOf_length s
    have hlen : ((bytesOf s).take i).length = i := by rw [List.length_take, bytesOf_length]; omega
    by_cases h : i < s.size
    · refine Ev.step (f := fun _ => some ([], false)) (fun k => ?_) ?_
      · simp only [spec_ReadConf.l0]; rw [if_pos (by omega), if_neg (by omega), if_neg (by omega)]
      · have : ¬ confC (bytesOf s) = true := fun h => by have := confC_len h; omega
        unfold rconfC
        rw [if_neg this]; exact Ev.now _
    · have e : (bytesOf s).take i = bytesOf s := List.take_of_length_le (by omega)
      rw [e]
      obtain ⟨K, hK⟩ := spec_ConfOk_ev (bytesOf s) (by omega)
      refine ⟨K + 1, fun k hk => ?_⟩
      obtain ⟨k, rfl⟩ : ∃ m, k = m + 1 := ⟨k - 1, by omega⟩
      have e2 : spec_ConfOk.f k (bytesOf s) = some _ := hK k (by omega)
      simp only [spec_ReadConf.l0]
      rw [if_neg (by omega), if_pos (by omega), e2, Option.bind_some]
      unfold rconfC
      by_cases hc : confC (bytesOf s) = true
      · rw [if_pos hc, if_pos hc]
      · rw [if_neg hc, if_neg hc]
  | d + 1, i, hd => by
    have hb := bt_range s (i : Int)
    have hlen : ((bytesOf s).take i).length = i := by rw [List.length_take, bytesOf_length]; omega
    refine Ev.step (f := fun k => spec_ReadConf.l0 k s ((bytesOf s).take (i + 1)) ((i + 1 : Nat) : Int)) (fun k => ?_) (spec_ReadConf_l0 s hs d (i + 1) (by omega))
    simp only [spec_ReadConf.l0]
    rw [if_pos (by omega), if_pos (by omega), if_pos (by omega), if_pos (by omega), w64 (n := bt s (i : Int)) (by omega) (by omega), w64 (by omega) (by omega), take_bytes_succ (by omega)]; rfl
theorem spec_ReadConf_ev (s : ByteArray) (hs : s.size ≤ 1048576) : Ev (fun k => spec_ReadConf.f k s) (rconfC s) :=
  spec_ReadConf_l0 s hs (min s.size 5) 0 (by omega)

theorem spec_EntryOk_ev (t k : Int) (d : ByteArray) (hd : d.size ≤ 1048576) : Ev (fun n => spec_EntryOk.f n t k d) (eokC t k d) := by
  obtain ⟨K, hK⟩ := spec_ReadConf_ev d hd
  refine ⟨K, fun n hn => ?_⟩
  have e : spec_ReadConf.f n d = some _ := hK n hn
  simp only [spec_EntryOk.f, spec_l01In_eq, eokC]
  rw [Option.bind_some]
  by_cases h : 0 ≤ t ∧ t ≤ 100000
  · rw [if_pos (by simpa using h), if_pos h]
    by_cases h1 : k = 1
    · rw [if_pos h1, if_pos h1]
    · rw [if_neg h1, if_neg h1]
      by_cases h2 : k = 2
      · rw [if_pos h2, if_pos h2, e, Option.bind_some]
      · rw [if_neg h2, if_neg h2]
        by_cases h3 : k = 3
        · rw [if_pos h3, if_pos h3]
        · rw [if_neg h3, if_neg h3]
  · rw [if_neg (by simpa using h), if_neg h]

theorem impl_in_eq (a b c : Int) : impl_in.f a b c = some (decide (b ≤ a ∧ a ≤ c)) := by
  unfold impl_in.f
  by_cases h : a ≥ b
  · rw [if_pos h]; simp [show b ≤ a from h]
  · rw [if_neg h]; simp [show ¬ b ≤ a from h]

theorem impl_ConfOk_l0 (l : List Int) (hl : l.length ≤ 140737488351232) : ∀ (d i : Nat), i + d = l.length →
    Ev (fun k => impl_ConfOk.l0 k l l (l.length : Int) (i : Int)) (riseL (prv l i) (l.drop i) && decide (1 ≤ l.length))
  | 0, i, hd => by
    refine Ev.step (f := fun _ => some (decide ((l.length : Int) ≥ 1))) (fun k => ?_) ?_
    · simp only [impl_ConfOk.l0]; rw [if_neg (by omega)]
    · rw [List.drop_eq_nil_of_le (by omega)]
      have : (true && decide (1 ≤ l.length)) = decide ((l.length : Int) ≥ 1) := by
        rw [Bool.true_and]
        by_cases h : 1 ≤ l.length
        · rw [decide_eq_true h, decide_eq_true (by omega)]
        · rw [decide_eq_false h, decide_eq_false (by omega)]
      simp only [riseL]
      rw [this]
      exact Ev.now _
  | d + 1, i, hd => by
    have ih := impl_ConfOk_l0 l hl d (i + 1) (by omega)
    rw [prv_succ] at ih
    rw [drop_rd (by omega)]
    simp only [riseL]
    have hw : wrap64 ((i : Int) + 1) = ((i + 1 : Nat) : Int) := by rw [w64 (by omega) (by omega)]; rfl
    have hw2 : wrap64 ((i : Int) - 1) = (i : Int) - 1 := w64 (by omega) (by omega)
    by_cases h1 : 1 ≤ rd l (i : Int) ∧ rd l (i : Int) ≤ 4
    · by_cases h2 : prv l i < rd l (i : Int)
      · rw [if_pos ⟨h1.1, h1.2, h2⟩]
        refine Ev.step (f := fun k => impl_ConfOk.l0 k l l (l.length : Int) ((i + 1 : Nat) : Int)) (fun k => ?_) ih
        simp only [impl_ConfOk.l0, impl_in_eq]
        rw [if_pos (by omega), if_pos (by omega), if_pos (by omega), Option.bind_some, if_pos (by simpa using h1), hw, hw2]
        by_cases h3 : (i : Int) > 0
        · unfold prv at h2
          rw [if_neg (by omega)] at h2
          rw [if_pos h3, if_pos (by omega), if_pos (by omega), if_neg (by omega)]
        · rw [if_neg h3]
      · rw [if_neg (fun h => h2 h.2.2)]
        refine Ev.step (f := fun _ => some false) (fun k => ?_) (Ev.now _)
        have h3 : (i : Int) > 0 := by
          rcases Nat.eq_zero_or_pos i with rfl | h3
          · rw [show prv l 0 = 0 from rfl] at h2; omega
          · omega
        unfold prv at h2
        rw [if_neg (by omega)] at h2
        simp only [impl_ConfOk.l0, impl_in_eq]
        rw [if_pos (by omega), if_pos (by omega), if_pos (by omega), Option.bind_some, if_pos (by simpa using h1), hw2, if_pos h3, if_pos (by omega), if_pos (by omega), if_pos (by omega)]
    · rw [if_neg (fun h => h1 ⟨h.1, h.2.1⟩)]
      refine Ev.step (f := fun _ => some false) (fun k => ?_) (Ev.now _)
      simp only [impl_ConfOk.l0, impl_in_eq]
      rw [if_pos (by omega), if_pos (by omega), if_pos (by omega), Option.bind_some, if_neg (by simpa using h1)]
theorem impl_ConfOk_ev (l : List Int) (hl : l.length ≤ 140737488351232) : Ev (fun k => impl_ConfOk.f k l) (confC l) := by
  have h := impl_ConfOk_l0 l hl l.length 0 (by omega)
  unfold confC
  rw [Bool.and_comm]
  exact h

theorem impl_ReadConf_l0 (s : ByteArray) (hs : s.size ≤ 1048576) : ∀ (d i : Nat), i + d = s.size →
    Ev (fun k => impl_ReadConf.l0 k s ((bytesOf s).take i) (s.size : Int) (i : Int)) (rconfC s)
  | 0, i, hd => by
    have hbl := bytesOf_length s
    have e : (bytesOf s).take i = bytesOf s := List.take_of_length_le (by omega)
    rw [e]
    obtain ⟨K, hK⟩ := impl_ConfOk_ev (bytesOf s) (by omega)
    refine ⟨K + 1, fun k hk => ?_⟩
    obtain ⟨k, rfl⟩ : ∃ m, k = m + 1 := ⟨k - 1, by omega⟩
    have e2 : impl_ConfOk.f k (bytesOf s) = some _ := hK k (by omega)
    simp only [impl_ReadConf.l0]
    rw [if_neg (by omega), e2, Option.bind_some]
    unfold rconfC
    by_cases hc : confC (bytesOf s) = true
    · rw [if_pos hc, if_pos hc]
    · rw [if_neg hc, if_neg hc]
  | d + 1, i, hd => by
    have hb := bt_range s (i : Int)
    have hlen : ((bytesOf s).take i).length = i := by rw [List.length_take, bytesOf_length]; omega
    refine Ev.step (f := fun k => impl_ReadConf.l0 k s ((bytesOf s).take (i + 1)) (s.size : Int) ((i + 1 : Nat) : Int)) (fun k => ?_) (impl_ReadConf_l0 s hs d (i + 1) (by omega))
    simp only [impl_ReadConf.l0]
    rw [if_pos (by omega), if_pos (by omega), if_pos (by omega), if_pos (by omega), w64 (n := bt s (i : Int)) (by omega) (by omega), w64 (by omega) (by omega), take_bytes_succ (by omega)]; rfl
theorem impl_ReadConf_ev (s : ByteArray) (hs : s.size ≤ 1048576) : Ev (fun k => impl_ReadConf.f k s) (rconfC s) :=
  impl_ReadConf_l0 s hs s.size 0 (by omega)

theorem impl_EntryOk_ev (t k : Int) (d : ByteArray) (hd : d.size ≤ 1048576) : Ev (fun n => impl_EntryOk.f n t k d) (eokC t k d) := by
  obtain ⟨K, hK⟩ := impl_ReadConf_ev d hd
  refine ⟨K, fun n hn => ?_⟩
  have e : impl_ReadConf.f n d = some _ := hK n hn
  simp only [impl_EntryOk.f, impl_in_eq, eokC]
  rw [Option.bind_some]
  by_cases h : 0 ≤ t ∧ t ≤ 100000
  · rw [if_pos (by simpa using h), if_pos h]
    by_cases h1 : k = 1
    · rw [if_pos h1, if_pos h1]
    · rw [if_neg h1, if_neg h1]
      by_cases h2 : k = 2
      · rw [if_pos h2, if_pos h2, e, Option.bind_some]
      · rw [if_neg h2, if_neg h2]
        by_cases h3 : k = 3
        · rw [if_pos h3, if_pos h3]
        · rw [if_neg h3, if_neg h3]
  · rw [if_neg (by simpa using h), if_neg h]

theorem laws_szEntry_eq (t k : Int) (d : ByteArray) (left : Int) (hl : 0 ≤ left) (hl2 : left ≤ 1048576) (hd : d.size ≤ 9223372036854775807) :
    laws_szEntry.f t k d left = some (if left - (d.size : Int) < 0 then -1 else left - (d.size : Int)) := by
  simp only [laws_szEntry.f]
  rw [w64 (by omega) (by omega)]
  by_cases h : left - (d.size : Int) < 0
  · rw [if_pos h, if_pos h]
  · rw [if_neg h, if_neg h]

theorem FnExactEntryOk (a0_0 : Int) (a0_1 : Int) (a0_2 : ByteArray) (_ : (Lit.int .i64 a0_0).wf = true) (_ : (Lit.int .i64 a0_1).wf = true) (g2 : a0_2.size ≤ maxLen) : ∃ k, laws_FnExactEntryOk.f k a0_0 a0_1 a0_2 = some true := by
  have e1 := laws_szEntry_eq a0_0 a0_1 a0_2 1048576 (by omega) (by omega) (by simpa [maxLen] using g2)
  by_cases h : 1048576 - (a0_2.size : Int) < 0
  · rw [if_pos h] at e1
    refine ⟨0, ?_⟩
    simp only [laws_FnExactEntryOk.f]
    rw [e1, Option.bind_some, if_pos (by omega)]
  · rw [if_neg h] at e1
    obtain ⟨K1, h1⟩ := spec_EntryOk_ev a0_0 a0_1 a0_2 (by omega)
    obtain ⟨K2, h2⟩ := impl_EntryOk_ev a0_0 a0_1 a0_2 (by omega)
    refine ⟨K1 + K2, ?_⟩
    have e2 : spec_EntryOk.f (K1 + K2) a0_0 a0_1 a0_2 = some _ := h1 _ (by omega)
    have e3 : impl_EntryOk.f (K1 + K2) a0_0 a0_1 a0_2 = some _ := h2 _ (by omega)
    simp only [laws_FnExactEntryOk.f, laws_toEntry.f]
    rw [e1, Option.bind_some, if_neg h, Option.bind_some, e2, Option.bind_some, Option.bind_some, e3, Option.bind_some, if_neg (by simp)]

end Go.Proofs.Ytpmnepbcbjdkoaa.Pure
