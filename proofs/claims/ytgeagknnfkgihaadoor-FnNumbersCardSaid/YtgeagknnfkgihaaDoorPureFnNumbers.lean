/- For every code: a drawn number comes back from VarText and from Decimal, a drawn text from ShortText and from Hex: FnNumbers returns true. The condition is the row's own: the tables and the errors of the library hold what its text lays there (tied by the given ties). -/
import Derived.Test.YtgeagknnfkgihaaDoorQFnNumbersx6
namespace Go.Proofs.YtgeagknnfkgihaaDoor.Pure
open Go.RowKit Go.Proofs.YtgeagknnfkgihaaDoor.PFnNumbers Go.Proofs.YtgeagknnfkgihaaDoorW.PrintWords Go.Proofs.YtgeagknnfkgihaaDoorW.PrintLast Go.Proofs.YtgeagknnfkgihaaDoorW.PrintMore

/-! ### texts as lists of bytes -/
theorem bytesOf_range (s : ByteArray) : ∀ b ∈ bytesOf s, 0 ≤ b ∧ b ≤ 255 := by
  intro b hb
  obtain ⟨u, _, rfl⟩ := List.mem_map.1 hb
  have := u.toNat_lt
  omega
theorem bytesOf_inj {s t : ByteArray} (h : bytesOf s = bytesOf t) : s = t := by
  apply ByteArray.ext
  apply Array.toList_inj.1
  unfold bytesOf at h
  refine (List.map_inj_right ?_).1 h
  intro a b hab
  exact UInt8.toNat_inj.1 (by omega)
theorem bytesOf_app (s t : ByteArray) : bytesOf (s ++ t) = bytesOf s ++ bytesOf t := by
  simp [bytesOf]
theorem bytesOf_ext (s : ByteArray) (a b : Nat) : bytesOf (s.extract a b) = ((bytesOf s).drop a).take (b - a) := by
  simp [bytesOf, List.map_take, List.map_drop]
theorem bytesOf_str (xs : List Int) (h : ∀ b ∈ xs, 0 ≤ b ∧ b ≤ 255) : bytesOf (strOfNums xs) = xs := by
  unfold bytesOf
  rw [strOfNums_data, List.map_map]
  conv => rhs; rw [← List.map_id xs]
  refine List.map_congr_left fun b hb => ?_
  have := h b hb
  simp only [Function.comp_apply, id_eq, UInt8.toNat_ofNat']
  omega
theorem str_bytesOf (s : ByteArray) : strOfNums (bytesOf s) = s := bytesOf_inj (bytesOf_str _ (bytesOf_range s))
theorem bytesOf_nil : bytesOf (⟨#[]⟩ : ByteArray) = [] := rfl
theorem toList_iff {s t : ByteArray} : s.toList = t.toList ↔ s = t := by
  constructor
  · intro h
    rw [ByteArray.toList_eq, ByteArray.toList_eq] at h
    exact ByteArray.ext (Array.toList_inj.1 h)
  · rintro rfl; rfl
theorem bt_getElem {s : ByteArray} {i : Int} (h1 : i.toNat < s.size) : (bytesOf s)[i.toNat]? = some (bt s i) := by
  rw [← rd_bytesOf]
  unfold rd
  rw [List.getD_eq_getElem?_getD, List.getElem?_eq_getElem (by rw [bytesOf_length]; exact h1)]; rfl
theorem bytesOf_drop {s : ByteArray} {i : Int} (h0 : 0 ≤ i) (h : i < (s.size : Int)) : (bytesOf s).drop i.toNat = bt s i :: (bytesOf s).drop (i + 1).toNat := by
  have hl : i.toNat < (bytesOf s).length := by rw [bytesOf_length]; omega
  rw [List.drop_eq_getElem_cons hl, show (i + 1).toNat = i.toNat + 1 by omega]
  congr 1
  have := bt_getElem (s := s) (i := i) (by omega)
  rw [List.getElem?_eq_getElem hl] at this
  exact Option.some.inj this
theorem bytesOf_drop_end {s : ByteArray} {i : Int} (h : ¬ i < (s.size : Int)) : (bytesOf s).drop i.toNat = [] := by
  apply List.drop_eq_nil_of_le
  rw [bytesOf_length]; omega
theorem extract_all (s : ByteArray) : s.extract 0 s.size = s := bytesOf_inj (by rw [bytesOf_ext, List.drop_zero, Nat.sub_zero, ← bytesOf_length, List.take_length])
theorem w64 {n : Int} (h0 : -9223372036854775808 ≤ n) (h1 : n ≤ 9223372036854775807) : wrap64 n = n := by
  unfold wrap64; omega
theorem i64wf {n : Int} (h : (Lit.int .i64 n).wf = true) : -9223372036854775808 ≤ n ∧ n ≤ 9223372036854775807 := by
  simp [Lit.wf, IntKind.min, IntKind.max, IntKind.bits, IntKind.signed] at h
  omega
theorem u32wf {n : Int} (h : (Lit.int .u32 n).wf = true) : 0 ≤ n ∧ n ≤ 4294967295 := by
  simp [Lit.wf, IntKind.min, IntKind.max, IntKind.bits, IntKind.signed] at h
  omega
theorem tmod_nat {n : Int} (h : 0 ≤ n) (m : Int) : Int.tmod n m = n % m := Int.tmod_eq_emod_of_nonneg h
theorem tdiv_nat {n : Int} (h : 0 ≤ n) (m : Int) : Int.tdiv n m = n / m := Int.tdiv_eq_ediv_of_nonneg h

theorem bits_low7 {n : Int} (h0 : 0 ≤ n) (h1 : n ≤ 9223372036854775807) : Go.bits .and .i64 n 127 = n % 128 :=
  bits_mask .i64 63 (by decide) (fun n h0 h1 => by rw [IntKind.wrap_i64]; omega) 7 (by decide) n h0 (by omega)
theorem bits_or128 {n : Int} (h0 : 0 ≤ n) (h1 : n < 128) : Go.bits .or .i64 n 128 = n + 128 := by
  obtain ⟨a, rfl⟩ := Int.eq_ofNat_of_zero_le h0
  have h := (bits_nat .i64 63 (by decide) (fun n h0 h1 => by rw [IntKind.wrap_i64]; omega) a 128 (by omega) (by omega)).2
  have e : a ||| 128 = 128 + a := by
    have := Nat.two_pow_add_eq_or_of_lt (i := 7) (b := a) (by omega) 1
    rw [Nat.or_comm, show (128 : Nat) ||| a = 2 ^ 7 * 1 ||| a from rfl, ← this]
  rw [e] at h
  rw [show (128 : Int) = ((128 : Nat) : Int) from rfl, h]; omega

def fig (d : Int) : Int := if d < 10 then 48 + d else 87 + d
def hexL : List Int → List Int
  | [] => []
  | b :: bs => fig (b / 16) :: fig (b % 16) :: hexL bs
def hexC (s : ByteArray) : ByteArray × Bool := if s.size ≤ 20000 then (strOfNums (hexL (bytesOf s)), true) else (⟨#[]⟩, false)
theorem hexL_len : ∀ l, (hexL l).length = 2 * l.length
  | [] => rfl
  | b :: bs => by simp only [hexL, List.length_cons, hexL_len bs]; omega
theorem hexL_app : ∀ l m, hexL (l ++ m) = hexL l ++ hexL m
  | [], _ => rfl
  | b :: bs, m => by simp only [List.cons_append, hexL, hexL_app bs m]
theorem take_b_succ {s : ByteArray} {i : Nat} (h : i < s.size) : (bytesOf s).take (i + 1) = (bytesOf s).take i ++ [bt s (i : Int)] := by
  rw [List.take_add_one]
  congr 1
  have := bt_getElem (s := s) (i := (i : Int)) (by omega)
  rw [Int.toNat_natCast] at this
  rw [this]; rfl
theorem hex_digit {d : Int} (h0 : 0 ≤ d) (h1 : d < 16) : bt (⟨#[48, 49, 50, 51, 52, 53, 54, 55, 56, 57, 97, 98, 99, 100, 101, 102]⟩ : ByteArray) d = fig d := by
  obtain rfl | rfl | rfl | rfl | rfl | rfl | rfl | rfl | rfl | rfl | rfl | rfl | rfl | rfl | rfl | rfl : d = 0 ∨ d = 1 ∨ d = 2 ∨ d = 3 ∨ d = 4 ∨ d = 5 ∨ d = 6 ∨ d = 7 ∨ d = 8 ∨ d = 9 ∨ d = 10 ∨ d = 11 ∨ d = 12 ∨ d = 13 ∨ d = 14 ∨ d = 15 := by omega
  all_goals rfl

theorem drop_rd {l : List Int} {i : Nat} (h : i < l.length) : l.drop i = rd l (i : Int) :: l.drop (i + 1) := by
  rw [List.drop_eq_getElem_cons h]
  congr 1
  unfold rd
  rw [Int.toNat_natCast, List.getD_eq_getElem?_getD, List.getElem?_eq_getElem h]; rfl
theorem take_set_succ {α : Type} (l : List α) (i : Nat) (v : α) (h : i < l.length) : (l.set i v).take (i + 1) = l.take i ++ [v] := by
  rw [List.take_add_one, List.getElem?_set_self h, List.take_set_of_le (Nat.le_refl i)]; rfl
theorem take_rd {l : List Int} {i : Nat} (h : i < l.length) : l.take (i + 1) = l.take i ++ [rd l (i : Int)] := by
  rw [List.take_add_one]
  congr 1
  unfold rd
  rw [Int.toNat_natCast, List.getD_eq_getElem?_getD, List.getElem?_eq_getElem h]; rfl

def uhv (b : Int) : Int := if 48 ≤ b ∧ b ≤ 57 then b - 48 else if 97 ≤ b ∧ b ≤ 102 then b - 87 else -1
theorem uhv_lt {b : Int} : -1 ≤ uhv b ∧ uhv b < 16 := by
  unfold uhv
  split
  · omega
  · split <;> omega
/-- Two figures a byte. -/
def unh : List Int → Option (List Int)
  | [] => some []
  | [_] => none
  | h :: l :: rest => if uhv h < 0 ∨ uhv l < 0 then none else (unh rest).map fun t => (16 * uhv h + uhv l) :: t
def unhO (acc : List Int) (o : Option (List Int)) : ByteArray × Bool := match o with
  | some t => (strOfNums (acc ++ t), true)
  | none => (⟨#[]⟩, false)
def unhexC (s : ByteArray) : ByteArray × Bool := if s.size % 2 = 0 ∧ s.size ≤ 40000 then unhO [] (unh (bytesOf s)) else (⟨#[]⟩, false)
theorem drop_two {s : ByteArray} {i : Nat} (h : i + 1 < s.size) : (bytesOf s).drop i = bt s (i : Int) :: bt s ((i : Int) + 1) :: (bytesOf s).drop (i + 2) := by
  have h1 := bytesOf_drop (s := s) (i := (i : Int)) (by omega) (by omega)
  have h2 := bytesOf_drop (s := s) (i := (i : Int) + 1) (by omega) (by omega)
  rw [show ((i : Int) + 1 + 1).toNat = i + 2 by omega] at h2
  rw [Int.toNat_natCast] at h1
  rw [h1, h2]
theorem unhO_step (acc : List Int) (x : Int) (o : Option (List Int)) : unhO acc (o.map fun t => x :: t) = unhO (acc ++ [x]) o := by
  cases o with
  | none => rfl
  | some t => simp [unhO]

/-! ### numbers in bytes, in plain Lean -/
/-- The bytes of a number: seven bits each, the lowest first. -/
def vl (n : Nat) : List Int := if 127 < n then ((n % 128 + 128 : Nat) : Int) :: vl (n / 128) else [(n : Int)]
  termination_by n
  decreasing_by omega
theorem vl_big {n : Nat} (h : 127 < n) : vl n = ((n % 128 + 128 : Nat) : Int) :: vl (n / 128) := by rw [vl, if_pos h]
theorem vl_small {n : Nat} (h : ¬ 127 < n) : vl n = [(n : Int)] := by rw [vl, if_neg h]
theorem vl_pos (n : Nat) : 0 < (vl n).length := by
  by_cases h : 127 < n
  · rw [vl_big h]; simp
  · rw [vl_small h]; simp
theorem vl_bytes (n : Nat) : ∀ b ∈ vl n, 0 ≤ b ∧ b ≤ 255 := by
  induction n using Nat.strongRecOn with
  | _ n ih =>
    by_cases h : 127 < n
    · rw [vl_big h]
      intro b hb
      rcases List.mem_cons.1 hb with rfl | hb
      · omega
      · exact ih _ (by omega) b hb
    · rw [vl_small h]
      intro b hb
      have := List.mem_singleton.1 hb
      omega
/-- The number that bytes make. -/
def dec : List Int → Int
  | [] => 0
  | b :: bs => b % 128 + 128 * dec bs
theorem dec_nonneg : ∀ bs : List Int, 0 ≤ dec bs
  | [] => by simp [dec]
  | b :: bs => by have := dec_nonneg bs; simp only [dec]; omega
theorem dec_vl (n : Nat) : dec (vl n) = (n : Int) := by
  induction n using Nat.strongRecOn with
  | _ n ih =>
    by_cases h : 127 < n
    · rw [vl_big h, dec, ih _ (by omega)]; omega
    · rw [vl_small h, dec, dec]; omega
theorem vl_form (n : Nat) : ∃ bs c, vl n = bs ++ [c] ∧ (∀ b ∈ bs, 128 ≤ b ∧ b ≤ 255) ∧ 0 ≤ c ∧ c ≤ 127 ∧ (bs = [] ∨ c ≠ 0) := by
  induction n using Nat.strongRecOn with
  | _ n ih =>
    by_cases h : 127 < n
    · obtain ⟨bs, c, h1, h2, h3, h4, h5⟩ := ih (n / 128) (by omega)
      refine ⟨((n % 128 + 128 : Nat) : Int) :: bs, c, by rw [vl_big h, h1]; rfl, ?_, h3, h4, .inr ?_⟩
      · intro b hb
        rcases List.mem_cons.1 hb with rfl | hb
        · omega
        · exact h2 b hb
      · rcases h5 with rfl | h5
        · have := dec_vl (n / 128)
          rw [h1] at this
          simp [dec] at this
          omega
        · exact h5
    · exact ⟨[], (n : Int), by rw [vl_small h]; rfl, by simp, by omega, by omega, .inl rfl⟩
theorem dec_pos : ∀ (bs : List Int) (c : Int), (∀ b ∈ bs, 128 ≤ b ∧ b ≤ 255) → 0 ≤ c → c ≤ 127 → c ≠ 0 → 1 ≤ dec (bs ++ [c])
  | [], c, _, h0, h1, h2 => by simp [dec]; omega
  | b :: bs, c, h, h0, h1, h2 => by
    have := dec_pos bs c (fun x hx => h x (List.mem_cons_of_mem _ hx)) h0 h1 h2
    simp only [List.cons_append, dec]; omega
theorem vl_dec : ∀ (bs : List Int) (c : Int), (∀ b ∈ bs, 128 ≤ b ∧ b ≤ 255) → 0 ≤ c → c ≤ 127 → (bs = [] ∨ c ≠ 0) → vl (dec (bs ++ [c])).toNat = bs ++ [c]
  | [], c, _, h0, h1, _ => by
    have e : (dec ([] ++ [c])).toNat = c.toNat := by simp [dec]; omega
    rw [e, vl_small (by omega)]
    simp; omega
  | b :: bs, c, h, h0, h1, h2 => by
    have hc : c ≠ 0 := by rcases h2 with h2 | h2 <;> simp_all
    have hb := h b List.mem_cons_self
    have hp := dec_pos bs c (fun x hx => h x (List.mem_cons_of_mem _ hx)) h0 h1 hc
    have ih := vl_dec bs c (fun x hx => h x (List.mem_cons_of_mem _ hx)) h0 h1 (.inr hc)
    have e : dec (b :: bs ++ [c]) = b % 128 + 128 * dec (bs ++ [c]) := by simp only [List.cons_append, dec]
    rw [e, vl_big (by omega)]
    have e2 : (b % 128 + 128 * dec (bs ++ [c])).toNat / 128 = (dec (bs ++ [c])).toNat := by omega
    rw [e2, ih]
    simp only [List.cons_append, List.cons.injEq, and_true]
    omega
/-- No longer form: the last byte is nought behind others. -/
theorem vl_ne (bs : List Int) (hb : bs ≠ []) (m : Nat) : vl m ≠ bs ++ [(0 : Int)] := by
  intro e
  obtain ⟨bs', c', h1, h2, h3, h4, h5⟩ := vl_form m
  rw [h1] at e
  have := List.append_inj' e rfl
  obtain ⟨rfl, e2⟩ := this
  simp at e2
  rcases h5 with h5 | h5
  · exact hb h5
  · exact h5 e2

/-- What ReadVar does with the bytes from a place on: k of them are gone, n is what they made. -/
def rvL : Nat → List Int → Nat → Int → Option (Int × Nat)
  | 0, _, _, _ => none
  | _ + 1, [], _, _ => none
  | f + 1, b :: bs, k, n =>
    if b < 128 then (if (b = 0 ∧ 0 < k) ∨ 1000000000 < n + b % 128 * 128 ^ k then none else some (n + b % 128 * 128 ^ k, k + 1))
    else rvL f bs (k + 1) (n + b % 128 * 128 ^ k)
theorem dec_app : ∀ (xs ys : List Int), dec (xs ++ ys) = dec xs + 128 ^ xs.length * dec ys
  | [], ys => by simp [dec]
  | x :: xs, ys => by
    have := dec_app xs ys
    simp only [List.cons_append, dec, List.length_cons, Int.pow_succ] at this ⊢
    rw [this, Int.mul_add, ← Int.mul_assoc, Int.mul_comm (128 : Int) (128 ^ xs.length)]
    omega
theorem dec_one (b : Int) : dec [b] = b % 128 := by simp [dec]
theorem dec_snoc (xs : List Int) (b : Int) : dec (xs ++ [b]) = dec xs + b % 128 * 128 ^ xs.length := by
  rw [dec_app, dec_one, Int.mul_comm]
theorem rvL_sound : ∀ (f : Nat) (bs : List Int) (k : Nat) (pre : List Int) (m : Int) (j : Nat), (∀ b ∈ pre, 128 ≤ b ∧ b ≤ 255) → pre.length = k → (∀ b ∈ bs, 0 ≤ b ∧ b ≤ 255) →
    rvL f bs k (dec pre) = some (m, j) → 0 ≤ m ∧ m ≤ 1000000000 ∧ k < j ∧ j ≤ k + bs.length ∧ vl m.toNat = pre ++ bs.take (j - k)
  | 0, _, _, _, _, _, _, _, _, h => by simp [rvL] at h
  | _ + 1, [], _, _, _, _, _, _, _, h => by simp [rvL] at h
  | f + 1, b :: bs, k, pre, m, j, hp, hk, hb, h => by
    have hb0 := hb b List.mem_cons_self
    have hn : dec pre + b % 128 * 128 ^ k = dec (pre ++ [b]) := by rw [dec_snoc, hk]
    simp only [rvL] at h
    rw [hn] at h
    by_cases h1 : b < 128
    · rw [if_pos h1] at h
      by_cases h2 : (b = 0 ∧ 0 < k) ∨ 1000000000 < dec (pre ++ [b])
      · rw [if_pos h2] at h; cases h
      · rw [if_neg h2] at h
        simp only [Option.some.injEq, Prod.mk.injEq] at h
        obtain ⟨rfl, rfl⟩ := h
        refine ⟨dec_nonneg _, by omega, by omega, by simp, ?_⟩
        rw [vl_dec pre b hp hb0.1 (by omega) (by
          rcases Nat.eq_zero_or_pos k with h0 | h0
          · left; exact List.eq_nil_of_length_eq_zero (by omega)
          · right; intro e; exact h2 (.inl ⟨e, h0⟩))]
        rw [show k + 1 - k = 1 by omega]; rfl
    · rw [if_neg h1] at h
      obtain ⟨h3, h4, h5, h6, h7⟩ := rvL_sound f bs (k + 1) (pre ++ [b]) m j (by
        intro x hx
        rcases List.mem_append.1 hx with hx | hx
        · exact hp x hx
        · have := List.mem_singleton.1 hx
          subst this
          omega) (by simp [hk]) (fun x hx => hb x (List.mem_cons_of_mem _ hx)) h
      refine ⟨h3, h4, by omega, by simp only [List.length_cons]; omega, ?_⟩
      rw [h7, show j - k = (j - (k + 1)) + 1 by omega, List.take_succ_cons, List.append_assoc]; rfl
theorem rvL_full : ∀ (t : List Int) (f : Nat) (rest : List Int) (m : Nat) (pre : List Int), vl m = pre ++ t → t ≠ [] → t.length ≤ f → m ≤ 1000000000 →
    rvL f (t ++ rest) pre.length (dec pre) = some ((m : Int), (vl m).length)
  | [], _, _, _, _, _, h, _, _ => absurd rfl h
  | b :: t, 0, _, _, _, _, _, h, _ => by simp at h
  | b :: t, f + 1, rest, m, pre, hm, _, hf, hmax => by
    have hn : dec pre + b % 128 * 128 ^ pre.length = dec (pre ++ [b]) := by rw [dec_snoc]
    obtain ⟨bs, c, h1, h2, h3, h4, h5⟩ := vl_form m
    simp only [List.cons_append, rvL]
    rw [hn]
    cases t with
    | nil =>
      have e : bs ++ [c] = pre ++ [b] := by rw [← h1, hm]
      obtain ⟨rfl, e2⟩ := List.append_inj' e rfl
      simp only [List.cons.injEq, and_true] at e2
      subst e2
      have hd : dec (bs ++ [c]) = (m : Int) := by rw [← h1, dec_vl]
      rw [hd, if_pos (by omega), if_neg (by
        rintro (⟨h6, h7⟩ | h6)
        · rcases h5 with rfl | h5
          · simp at h7
          · exact h5 h6
        · omega)]
      simp [hm]
    | cons b2 t =>
      have hbm : b ∈ bs := by
        have e : bs ++ [c] = pre ++ b :: b2 :: t := by rw [← h1, hm]
        have e2 : pre ++ b :: b2 :: t = (pre ++ b :: (b2 :: t).dropLast) ++ [(b2 :: t).getLast (by simp)] := by
          rw [List.append_assoc, List.cons_append, List.dropLast_concat_getLast]
        rw [e2] at e
        obtain ⟨rfl, _⟩ := List.append_inj' e rfl
        simp
      have := h2 b hbm
      rw [if_neg (by omega)]
      have ih := rvL_full (b2 :: t) f rest m (pre ++ [b]) (by rw [hm]; simp) (by simp) (by simp at hf ⊢; omega) hmax
      simpa using ih
theorem vl_len : ∀ (j m : Nat), 1 ≤ j → m < 128 ^ j → (vl m).length ≤ j
  | 0, _, h, _ => by omega
  | j + 1, m, _, h => by
    by_cases h1 : 127 < m
    · rw [vl_big h1]
      rcases Nat.eq_zero_or_pos j with rfl | hj
      · simp at h; omega
      · have := vl_len j (m / 128) hj (by rw [Nat.pow_succ] at h; omega)
        simp only [List.length_cons]; omega
    · rw [vl_small h1]; simp
/-- ReadVar's answer at the bytes that are left. -/
def rv (bs : List Int) : Option (Int × Nat) := rvL 5 bs 0 0
theorem rv_sound {bs : List Int} {m : Int} {j : Nat} (hb : ∀ b ∈ bs, 0 ≤ b ∧ b ≤ 255) (h : rv bs = some (m, j)) : 0 ≤ m ∧ m ≤ 1000000000 ∧ 0 < j ∧ j ≤ bs.length ∧ vl m.toNat = bs.take j := by
  obtain ⟨h1, h2, h3, h4, h5⟩ := rvL_sound 5 bs 0 [] m j (by simp) rfl hb h
  exact ⟨h1, h2, h3, by omega, by simpa using h5⟩
theorem rv_full (m : Nat) (rest : List Int) (hm : m ≤ 1000000000) : rv (vl m ++ rest) = some ((m : Int), (vl m).length) :=
  rvL_full (vl m) 5 rest m [] rfl (by have := vl_pos m; intro e; rw [e] at this; simp at this) (vl_len 5 m (by omega) (by omega)) hm

def rvO (at0 : Int) (o : Option (Int × Nat)) : Int × Int × Bool := match o with
  | some (m, j) => (m, at0 + (j : Int), true)
  | none => (0, 0, false)
def rvC (s : ByteArray) (at0 : Int) : Int × Int × Bool := if 0 ≤ at0 ∧ at0 ≤ (s.size : Int) then rvO at0 (rv ((bytesOf s).drop at0.toNat)) else (0, 0, false)
theorem p128 : (128 : Int) ^ 0 = 1 ∧ (128 : Int) ^ 1 = 128 ∧ (128 : Int) ^ 2 = 16384 ∧ (128 : Int) ^ 3 = 2097152 ∧ (128 : Int) ^ 4 = 268435456 ∧ (128 : Int) ^ 5 = 34359738368 := by decide
theorem pow5 {kk : Nat} (h : kk ≤ 4) : (128 : Int) ^ (kk + 1) ≤ 34359738368 := by
  obtain rfl | rfl | rfl | rfl | rfl : kk = 0 ∨ kk = 1 ∨ kk = 2 ∨ kk = 3 ∨ kk = 4 := by omega
  all_goals decide
theorem dec_lt : ∀ (xs : List Int) {k : Nat}, xs.length ≤ k → dec xs < 128 ^ k
  | [], k, _ => by simp only [dec]; exact Int.pow_pos (by decide)
  | x :: xs, k, h => by
    obtain ⟨j, rfl⟩ : ∃ j, k = j + 1 := ⟨k - 1, by simp at h; omega⟩
    have := dec_lt xs (k := j) (by simp at h; omega)
    simp only [dec]
    rw [Int.pow_succ]
    omega

theorem rvC_range (s : ByteArray) (at0 : Int) (h : (rvC s at0).2.2 = true) : 0 ≤ at0 ∧ 0 ≤ (rvC s at0).1 ∧ (rvC s at0).1 ≤ 1000000000 ∧ at0 < (rvC s at0).2.1 ∧ (rvC s at0).2.1 ≤ (s.size : Int) := by
  unfold rvC at h ⊢
  by_cases h1 : 0 ≤ at0 ∧ at0 ≤ (s.size : Int)
  · rw [if_pos h1] at h ⊢
    cases e : rv ((bytesOf s).drop at0.toNat) with
    | none => rw [e] at h; simp [rvO] at h
    | some p =>
      obtain ⟨m, j⟩ := p
      have := rv_sound (fun b hb => bytesOf_range s b (List.mem_of_mem_drop hb)) e
      rw [List.length_drop, bytesOf_length] at this
      simp only [rvO]
      omega
  · rw [if_neg h1] at h; simp at h
def rsC (s : ByteArray) (at0 : Int) : ByteArray × Int × Bool :=
  if (rvC s at0).2.2 = true then (if (rvC s at0).1 > 20000 then (⟨#[]⟩, 0, false) else if (rvC s at0).1 > (s.size : Int) - (rvC s at0).2.1 then (⟨#[]⟩, 0, false)
    else (s.extract (rvC s at0).2.1.toNat ((rvC s at0).2.1 + (rvC s at0).1).toNat, (rvC s at0).2.1 + (rvC s at0).1, true)) else (⟨#[]⟩, 0, false)

def varC (n : Int) : ByteArray × Bool := if 0 ≤ n ∧ n ≤ 1000000000 then (strOfNums (vl n.toNat), true) else (⟨#[]⟩, false)
def varT (n : Int) : ByteArray := strOfNums (vl n.toNat)
theorem bytesOf_varT (n : Int) : bytesOf (varT n) = vl n.toNat := bytesOf_str _ (vl_bytes _)

theorem varT_size {n : Int} (h0 : 0 ≤ n) (h1 : n ≤ 9223372036854775807) : (varT n).size ≤ 10 := by
  unfold varT
  rw [strOfNums_size]
  exact vl_len 10 n.toNat (by omega) (by omega)
def shortT (s : ByteArray) : ByteArray := varT (s.size : Int) ++ s
def shortC (s : ByteArray) : ByteArray × Bool := if s.size ≤ 20000 then (shortT s, true) else (⟨#[]⟩, false)

/-! ### what is written comes back -/
theorem uhv_fig {d : Int} (h0 : 0 ≤ d) (h1 : d < 16) : uhv (fig d) = d := by
  unfold uhv fig
  repeat' split
  all_goals omega
theorem unh_hexL : ∀ (l : List Int), (∀ b ∈ l, 0 ≤ b ∧ b ≤ 255) → unh (hexL l) = some l
  | [], _ => rfl
  | b :: bs, h => by
    have hb := h b (List.mem_cons_self)
    have ih := unh_hexL bs (fun x hx => h x (List.mem_cons_of_mem _ hx))
    simp only [hexL, unh]
    rw [uhv_fig (by omega) (by omega), uhv_fig (by omega) (by omega), if_neg (by omega), ih]
    simp only [Option.map_some, Option.some.injEq, List.cons.injEq, and_true]
    omega
theorem hexL_bytes : ∀ (l : List Int), (∀ b ∈ l, 0 ≤ b ∧ b ≤ 255) → ∀ c ∈ hexL l, 0 ≤ c ∧ c ≤ 255
  | [], _, c, hc => by simp [hexL] at hc
  | b :: bs, h, c, hc => by
    have hb := h b (List.mem_cons_self)
    simp only [hexL, List.mem_cons] at hc
    rcases hc with rfl | rfl | hc
    · unfold fig; split <;> omega
    · unfold fig; split <;> omega
    · exact hexL_bytes bs (fun x hx => h x (List.mem_cons_of_mem _ hx)) c hc
theorem unhex_hex (s : ByteArray) (hs : s.size ≤ 20000) : unhexC (strOfNums (hexL (bytesOf s))) = (s, true) := by
  have hb := bytesOf_range s
  have hz : (strOfNums (hexL (bytesOf s))).size = 2 * s.size := by rw [strOfNums_size, hexL_len, bytesOf_length]
  unfold unhexC
  rw [if_pos ⟨by omega, by omega⟩, bytesOf_str _ (hexL_bytes _ hb), unh_hexL _ hb]
  simp only [unhO, List.nil_append, str_bytesOf]
theorem rv_text (a b : ByteArray) (n : Nat) (hn : n ≤ 1000000000) (at0 : Int) (ha : at0 = (a.size : Int)) : rvC ((a ++ varT (n : Int)) ++ b) at0 = ((n : Int), at0 + ((varT (n : Int)).size : Int), true) := by
  subst ha
  unfold rvC
  rw [if_pos ⟨by omega, by rw [ByteArray.size_append, ByteArray.size_append]; omega⟩, bytesOf_app, bytesOf_app, bytesOf_varT, Int.toNat_natCast, Int.toNat_natCast]
  rw [List.append_assoc, List.drop_append_of_le_length (by rw [bytesOf_length]; omega), List.drop_of_length_le (by rw [bytesOf_length]; omega), List.nil_append, rv_full n _ hn]
  simp only [rvO, Prod.mk.injEq, true_and, and_true]
  rw [← bytesOf_length (varT (n : Int)), bytesOf_varT, Int.toNat_natCast]
theorem rs_short (s : ByteArray) (hs : s.size ≤ 20000) : rsC (shortT s) 0 = (s, ((shortT s).size : Int), true) := by
  have h := rv_text (⟨#[]⟩ : ByteArray) s s.size (by omega) 0 rfl
  have e0 : (⟨#[]⟩ : ByteArray) ++ varT (s.size : Int) = varT (s.size : Int) := bytesOf_inj (by rw [bytesOf_app]; rfl)
  have e : ((⟨#[]⟩ : ByteArray) ++ varT (s.size : Int)) ++ s = shortT s := by
    rw [e0]; rfl
  rw [e] at h
  have hz : (shortT s).size = (varT (s.size : Int)).size + s.size := by unfold shortT; rw [ByteArray.size_append]
  unfold rsC
  rw [h]
  simp only []
  rw [if_pos trivial, if_neg (by omega), if_neg (by omega)]
  simp only [Prod.mk.injEq, and_true]
  refine ⟨bytesOf_inj ?_, by omega⟩
  rw [bytesOf_ext]
  unfold shortT
  rw [bytesOf_app, Int.zero_add, Int.toNat_natCast, List.drop_append_of_le_length (by rw [bytesOf_length]; omega), List.drop_of_length_le (by rw [bytesOf_length]; omega), List.nil_append]
  rw [show ((((varT (s.size : Int)).size : Int) + (s.size : Int)).toNat - (varT (s.size : Int)).size) = s.size by omega, List.take_of_length_le (by rw [bytesOf_length]; omega)]

theorem and255 (x : Int) : 0 ≤ Go.bits .and .i64 x 255 ∧ Go.bits .and .i64 x 255 ≤ 255 := by
  have h : ((BitVec.ofInt 64 x) &&& (BitVec.ofInt 64 255)).toNat ≤ 255 := by
    rw [BitVec.toNat_and]; exact Nat.le_trans Nat.and_le_right (by decide)
  show 0 ≤ IntKind.i64.wrap (((BitVec.ofInt 64 x) &&& (BitVec.ofInt 64 255)).toNat : Int) ∧ IntKind.i64.wrap (((BitVec.ofInt 64 x) &&& (BitVec.ofInt 64 255)).toNat : Int) ≤ 255
  rw [IntKind.wrap_i64]; omega
theorem spec_l01New_l0 (l : List Int) (hl : l.length ≤ 1048576) : ∀ (d i : Nat) (x : Int), i + d = l.length → ∃ h, Ev (fun k => spec_l01New.l0 k l x (i : Int)) (l, 0, h)
  | 0, i, x, hi => by
    refine ⟨x, Ev.step (f := fun _ => some (l, 0, x)) (fun k => ?_) (Ev.now _)⟩
    simp only [spec_l01New.l0]; rw [if_neg (by omega)]
  | d + 1, i, x, hi => by
    by_cases c : i < 4000
    · obtain ⟨h, hh⟩ := spec_l01New_l0 l hl d (i + 1) (Go.bits .and .i64 (wrap64 ((wrap64 ((wrap64 (x * 131)) + (wrap64 (rd l (i : Int))))) + 7)) 1073741823) (by omega)
      refine ⟨h, Ev.step (f := fun k => spec_l01New.l0 k l (Go.bits .and .i64 (wrap64 ((wrap64 ((wrap64 (x * 131)) + (wrap64 (rd l (i : Int))))) + 7)) 1073741823) ((i + 1 : Nat) : Int)) (fun k => ?_) hh⟩
      simp only [spec_l01New.l0]
      rw [if_pos (by omega), if_pos (by omega), if_pos (by omega), w64 (n := (i : Int) + 1) (by omega) (by omega)]; rfl
    · refine ⟨x, Ev.step (f := fun _ => some (l, 0, x)) (fun k => ?_) (Ev.now _)⟩
      simp only [spec_l01New.l0]; rw [if_pos (by omega), if_neg (by omega)]
theorem spec_l01New_ev (l : List Int) (hl : l.length ≤ 1048576) : ∃ h, Ev (fun k => spec_l01New.f k l) (l, 0, h) := spec_l01New_l0 l hl l.length 0 _ (by omega)
theorem spec_l01Byte_eq (l : List Int) (hl : l.length ≤ 1048576) (p h : Int) (h0 : 0 ≤ p) (h1 : p ≤ (l.length : Int)) :
    ∃ b p' h', spec_l01Byte.f l p h = some (b, p', h') ∧ 0 ≤ b ∧ b ≤ 255 ∧ 0 ≤ p' ∧ p' ≤ (l.length : Int) := by
  simp only [spec_l01Byte.f]
  by_cases c : p < (l.length : Int)
  · rw [if_pos c, if_pos h0, w64 (n := p + 1) (by omega) (by omega)]
    refine ⟨_, _, _, rfl, ?_⟩
    have := and255 (wrap64 ((Go.bits .and .i64 (Go.bits .xor .i64 ((wrap64 ((wrap64 (h * 6364136223846793005)) + 1442695040888963407)) / 8589934592) ((wrap64 ((wrap64 (h * 6364136223846793005)) + 1442695040888963407)) / 35184372088832)) 255) + (wrap64 (rd l p))))
    exact ⟨this.1, this.2, by omega, by omega⟩
  · rw [if_neg c]
    refine ⟨_, _, _, rfl, ?_⟩
    have := and255 (Go.bits .xor .i64 ((wrap64 ((wrap64 (h * 6364136223846793005)) + 1442695040888963407)) / 8589934592) ((wrap64 ((wrap64 (h * 6364136223846793005)) + 1442695040888963407)) / 35184372088832))
    exact ⟨this.1, this.2, h0, h1⟩
theorem spec_l01Below_eq (l : List Int) (hl : l.length ≤ 1048576) (p h n : Int) (hn : 0 < n) (h0 : 0 ≤ p) (h1 : p ≤ (l.length : Int)) :
    ∃ b p' h', spec_l01Below.f l p h n = some (b, p', h') ∧ 0 ≤ b ∧ b < n ∧ 0 ≤ p' ∧ p' ≤ (l.length : Int) := by
  simp only [spec_l01Below.f]
  rw [if_neg (by omega)]
  obtain ⟨x, p1, g1, e1, x0, x1, q0, q1⟩ := spec_l01Byte_eq l hl p h h0 h1
  by_cases c : n ≤ 256
  · rw [if_pos c, e1, Option.bind_some, if_neg (by omega)]
    refine ⟨_, _, _, rfl, ?_, ?_, q0, q1⟩
    · exact Int.tmod_nonneg _ x0
    · exact Int.tmod_lt_of_pos _ hn
  · obtain ⟨y, p2, g2, e2, y0, y1, r0, r1⟩ := spec_l01Byte_eq l hl p1 g1 q0 q1
    obtain ⟨z, p3, g3, e3, z0, z1, s0, s1⟩ := spec_l01Byte_eq l hl p2 g2 r0 r1
    obtain ⟨u, p4, g4, e4, u0, u1, t0, t1⟩ := spec_l01Byte_eq l hl p3 g3 s0 s1
    rw [if_neg c, e1, Option.bind_some, e2, Option.bind_some, e3, Option.bind_some, e4, Option.bind_some, if_neg (by omega)]
    refine ⟨_, _, _, rfl, ?_, ?_, t0, t1⟩
    · refine Int.tmod_nonneg _ ?_
      simp only []
      rw [w64 (n := x * 16777216) (by omega) (by omega), w64 (n := y * 65536) (by omega) (by omega), w64 (n := z * 256) (by omega) (by omega), w64 (n := x * 16777216 + y * 65536) (by omega) (by omega), w64 (n := x * 16777216 + y * 65536 + z * 256) (by omega) (by omega), w64 (by omega) (by omega)]
      omega
    · exact Int.tmod_lt_of_pos _ hn

theorem spec_DrawVarText_ev (l : List Int) (hl : l.length ≤ 1048576) : ∃ n, Ev (fun k => spec_DrawVarText.f k l) n := by
  obtain ⟨g, K1, h1⟩ := spec_l01New_ev l hl
  obtain ⟨b, p1, g1, e1, b0, b1, q0, q1⟩ := spec_l01Below_eq l hl 0 g 4 (by omega) (by omega) (by omega)
  have key : ∃ n p2 g2, spec_l01Number.f l 0 g = some (n, p2, g2) := by
    simp only [spec_l01Number.f]
    rw [e1, Option.bind_some]
    by_cases c0 : b = 0
    · rw [if_pos c0]
      simp only [spec_l01PickInt.f]
      obtain ⟨b2, p2, g2, e2, d0, d1, r0, r1⟩ := spec_l01Below_eq l hl p1 g1 10 (by omega) q0 q1
      rw [show ((([(-1), 0, 127, 128, 16383, 16384, 1000000000, 1000000001, 9223372036854775807, (-9223372036854775808)] : List Int).length : Nat) : Int) = 10 from rfl, e2, Option.bind_some, if_pos d0, if_pos d1]
      exact ⟨_, _, _, rfl⟩
    · rw [if_neg c0]
      by_cases c1 : b = 1
      · rw [if_pos c1]
        obtain ⟨b2, p2, g2, e2, d0, d1, r0, r1⟩ := spec_l01Below_eq l hl p1 g1 1000000000 (by omega) q0 q1
        rw [e2]
        exact ⟨_, _, _, rfl⟩
      · rw [if_neg c1]
        obtain ⟨b2, p2, g2, e2, d0, d1, r0, r1⟩ := spec_l01Below_eq l hl p1 g1 400 (by omega) q0 q1
        rw [e2]
        exact ⟨_, _, _, rfl⟩
  obtain ⟨n, p2, g2, e⟩ := key
  refine ⟨n, K1, fun k hk => ?_⟩
  have e3 : spec_l01New.f k l = some _ := h1 k hk
  simp only [spec_DrawVarText.f]
  rw [e3, Option.bind_some, e, Option.bind_some]

theorem spec_l01Long_l0 (n v : Int) (hn : n ≤ 30000) : ∀ (d i : Nat) (x : List Int), (i : Int) + (d : Int) = n → (x.length : Int) = n → ∃ o, Ev (fun k => spec_l01Long.l0 k n v x (i : Int)) o
  | 0, i, x, hi, hx => by
    refine ⟨_, Ev.step (f := fun _ => some (strOfNums x)) (fun k => ?_) (Ev.now _)⟩
    simp only [spec_l01Long.l0]; rw [if_neg (by omega)]
  | d + 1, i, x, hi, hx => by
    obtain ⟨o, ho⟩ := spec_l01Long_l0 n v hn d (i + 1) (x.set i v) (by omega) (by rw [List.length_set]; exact hx)
    refine ⟨o, Ev.step (f := fun k => spec_l01Long.l0 k n v (x.set i v) ((i + 1 : Nat) : Int)) (fun k => ?_) ho⟩
    simp only [spec_l01Long.l0]
    rw [if_pos (by omega), if_pos (by omega), if_pos (by omega), w64 (by omega) (by omega), Int.toNat_natCast]; rfl
theorem spec_l01Long_ev (n v : Int) (h0 : 0 ≤ n) (hn : n ≤ 30000) : ∃ o, Ev (fun k => spec_l01Long.f k n v) o := by
  obtain ⟨o, K, hK⟩ := spec_l01Long_l0 n v hn n.toNat 0 (List.replicate n.toNat 0) (by omega) (by rw [List.length_replicate]; omega)
  refine ⟨o, K, fun k hk => ?_⟩
  have e : spec_l01Long.l0 k n v (List.replicate n.toNat 0) 0 = some _ := hK k hk
  simp only [spec_l01Long.f]
  rw [if_pos h0, if_pos (by omega), e]
theorem spec_l01Text_l0 (l : List Int) (hl : l.length ≤ 1048576) (n : Int) (hn : n ≤ 30000) : ∀ (d i : Nat) (x : List Int) (p h : Int), (n - (i : Int) ≤ (d : Int)) → x.length = i → i ≤ 30000 → 0 ≤ p → p ≤ (l.length : Int) →
    ∃ o p' h', Ev (fun k => spec_l01Text.l0 k n x (i : Int) l p h) (o, p', h')
  | 0, i, x, p, h, hi, hx, hm, h0, h1 => by
    refine ⟨_, _, _, Ev.step (f := fun _ => some (strOfNums x, p, h)) (fun k => ?_) (Ev.now _)⟩
    simp only [spec_l01Text.l0]; rw [if_neg (by omega)]
  | d + 1, i, x, p, h, hi, hx, hm, h0, h1 => by
    by_cases c : (i : Int) < n
    · obtain ⟨b, p', h', e, _, _, q0, q1⟩ := spec_l01Byte_eq l hl p h h0 h1
      obtain ⟨o, p2, h2, ho⟩ := spec_l01Text_l0 l hl n hn d (i + 1) (x ++ [b % 256]) p' h' (by omega) (by simp; omega) (by omega) q0 q1
      refine ⟨o, p2, h2, Ev.step (f := fun k => spec_l01Text.l0 k n (x ++ [b % 256]) ((i + 1 : Nat) : Int) l p' h') (fun k => ?_) ho⟩
      simp only [spec_l01Text.l0]
      rw [if_pos c, e, Option.bind_some, if_pos (by omega), w64 (by omega) (by omega)]; rfl
    · refine ⟨_, _, _, Ev.step (f := fun _ => some (strOfNums x, p, h)) (fun k => ?_) (Ev.now _)⟩
      simp only [spec_l01Text.l0]; rw [if_neg (by omega)]
theorem spec_l01Text_ev (l : List Int) (hl : l.length ≤ 1048576) (n : Int) (hn : n ≤ 5000) (p h : Int) (h0 : 0 ≤ p) (h1 : p ≤ (l.length : Int)) : ∃ o p' h', Ev (fun k => spec_l01Text.f k l p h n) (o, p', h') := by
  obtain ⟨o, p', h', K, hK⟩ := spec_l01Text_l0 l hl n (by omega) n.toNat 0 [] p h (by omega) rfl (by omega) h0 h1
  refine ⟨o, p', h', K + 1, fun k hk => ?_⟩
  obtain ⟨k, rfl⟩ : ∃ m, k = m + 1 := ⟨k - 1, by omega⟩
  have e : spec_l01Text.l0 k n [] 0 l p h = some _ := hK k (by omega)
  simp only [spec_l01Text.f]
  rw [if_neg (by omega)]
  simp only [spec_l01Text.j0]
  rw [e]
theorem spec_DrawHex_ev (l : List Int) (hl : l.length ≤ 1048576) : ∃ o, Ev (fun k => spec_DrawHex.f k l) o := by
  obtain ⟨g, K1, h1⟩ := spec_l01New_ev l hl
  obtain ⟨b, p1, g1, e1, _, _, q0, q1⟩ := spec_l01Below_eq l hl 0 g 60 (by omega) (by omega) (by omega)
  by_cases c : b = 0
  · obtain ⟨b2, p2, g2, e2, b0, b1, r0, r1⟩ := spec_l01Below_eq l hl p1 g1 2 (by omega) q0 q1
    obtain ⟨o, K2, h2⟩ := spec_l01Long_ev (20000 + b2) 200 (by omega) (by omega)
    refine ⟨o, K1 + K2, fun k hk => ?_⟩
    have e3 : spec_l01New.f k l = some _ := h1 k (by omega)
    have e4 : spec_l01Long.f k (20000 + b2) 200 = some _ := h2 k (by omega)
    simp only [spec_DrawHex.f, spec_l01Once.f]
    rw [e3, Option.bind_some, e1, Option.bind_some, Option.bind_some, if_pos (by simp [c]), e2, Option.bind_some, w64 (n := 20000 + b2) (by omega) (by omega), e4, Option.bind_some]
  · obtain ⟨b2, p2, g2, e2, b0, b1, r0, r1⟩ := spec_l01Below_eq l hl p1 g1 30 (by omega) q0 q1
    obtain ⟨o, p3, g3, K2, h2⟩ := spec_l01Text_ev l hl b2 (by omega) p2 g2 r0 r1
    refine ⟨o, K1 + K2, fun k hk => ?_⟩
    have e3 : spec_l01New.f k l = some _ := h1 k (by omega)
    have e4 : spec_l01Text.f k l p2 g2 b2 = some _ := h2 k (by omega)
    simp only [spec_DrawHex.f, spec_l01Once.f]
    rw [e3, Option.bind_some, e1, Option.bind_some, Option.bind_some, if_neg (by simp [c]), e2, Option.bind_some, e4, Option.bind_some]

theorem impl_in_eq (a b c : Int) : impl_in.f a b c = some (decide (b ≤ a ∧ a ≤ c)) := by
  unfold impl_in.f
  by_cases h : a ≥ b
  · rw [if_pos h]; simp [show b ≤ a from h]
  · rw [if_neg h]; simp [show ¬ b ≤ a from h]

theorem impl_VarText_l0 (n : Nat) : ∀ out : List Int, n ≤ 9223372036854775807 → out.length + (vl n).length ≤ 140737488355328 →
    Ev (fun k => impl_VarText.l0 k (n : Int) out) (strOfNums (out ++ vl n), true) := by
  induction n using Nat.strongRecOn with
  | _ n ih =>
    intro out hn hl
    by_cases h : 127 < n
    · rw [vl_big h] at hl ⊢
      simp only [List.length_cons] at hl
      refine Ev.step (f := fun k => impl_VarText.l0 k ((n / 128 : Nat) : Int) (out ++ [((n % 128 + 128 : Nat) : Int)])) (fun k => ?_) ?_
      · simp only [impl_VarText.l0]
        rw [if_pos (by omega), if_pos (by omega), bits_low7 (by omega) (by omega), bits_or128 (by omega) (by omega)]
        congr 3
        omega
      · have := ih (n / 128) (by omega) (out ++ [((n % 128 + 128 : Nat) : Int)]) (by omega) (by simp; omega)
        rwa [List.append_assoc] at this
    · rw [vl_small h] at hl ⊢
      simp only [List.length_cons, List.length_nil] at hl
      refine Ev.step (f := fun _ => some (strOfNums (out ++ [(n : Int)]), true)) (fun k => ?_) (Ev.now _)
      simp only [impl_VarText.l0]
      rw [if_neg (by omega), if_pos (by omega), show (n : Int) % 256 = n by omega]
theorem impl_VarText_ev (n : Int) : Ev (fun k => impl_VarText.f k n) (varC n) := by
  by_cases h : 0 ≤ n ∧ n ≤ 1000000000
  · have hl := vl_len 10 n.toNat (by omega) (by omega)
    obtain ⟨K, hK⟩ := impl_VarText_l0 n.toNat [] (by omega) (by simp; omega)
    refine ⟨K, fun k hk => ?_⟩
    have := hK k hk
    rw [Int.toNat_of_nonneg h.1] at this
    simp only [impl_VarText.f, impl_in_eq, Option.bind_some, h, varC, this]
    simp
  · refine ⟨0, fun k _ => ?_⟩
    simp only [impl_VarText.f, impl_in_eq, Option.bind_some, h, varC]
    simp

theorem or_add (a b i : Nat) (hi : i ≤ 40) (ha : a < 2 ^ i) (hb : b < 128) : Go.bits .or .i64 (a : Int) ((2 ^ i * b : Nat) : Int) = (a : Int) + ((2 ^ i * b : Nat) : Int) := by
  have e : 2 ^ i * b < 2 ^ 63 := by
    have h1 : 2 ^ i ≤ 2 ^ 40 := Nat.pow_le_pow_right (by decide) hi
    calc 2 ^ i * b ≤ 2 ^ 40 * b := Nat.mul_le_mul_right _ h1
      _ < 2 ^ 63 := by omega
  have e2 : a < 2 ^ 63 := Nat.lt_of_lt_of_le ha (Nat.pow_le_pow_right (by decide) (by omega))
  rw [(bits_nat .i64 63 (by decide) (fun n h0 h1 => by rw [IntKind.wrap_i64]; omega) a (2 ^ i * b) e2 e).2, Nat.or_comm, ← Nat.two_pow_add_eq_or_of_lt ha b]
  omega
theorem or_shl {n b : Int} {kk : Nat} (hk : kk ≤ 4) (h0 : 0 ≤ n) (h1 : n < 128 ^ kk) (hb0 : 0 ≤ b) (hb1 : b ≤ 255) :
    Go.bits .or .i64 n (shl .i64 (Go.bits .and .i64 (wrap64 b) 127) (wrap64 (7 * (kk : Int)))) = n + b % 128 * 128 ^ kk := by
  rw [w64 (by omega) (by omega), w64 (by omega) (by omega), bits_low7 hb0 (by omega)]
  obtain ⟨a, rfl⟩ := Int.eq_ofNat_of_zero_le h0
  obtain ⟨c, rfl⟩ := Int.eq_ofNat_of_zero_le hb0
  have key := or_add a (c % 128) (7 * kk) (by omega) (by
    have : ((a : Nat) : Int) < ((128 ^ kk : Nat) : Int) := by simpa using h1
    have h2 : a < 128 ^ kk := by omega
    rwa [show 2 ^ (7 * kk) = 128 ^ kk by rw [Nat.pow_mul]]) (by omega)
  have es : shl .i64 ((c : Int) % 128) (7 * (kk : Int)) = ((2 ^ (7 * kk) * (c % 128) : Nat) : Int) := by
    unfold shl
    have hm : min ((7 * (kk : Int)).toNat) IntKind.i64.bits = 7 * kk := by
      have : (7 * (kk : Int)).toNat = 7 * kk := by omega
      rw [this]
      exact Nat.min_eq_left (by simp [IntKind.bits]; omega)
    rw [hm, IntKind.wrap_i64]
    obtain rfl | rfl | rfl | rfl | rfl : kk = 0 ∨ kk = 1 ∨ kk = 2 ∨ kk = 3 ∨ kk = 4 := by omega
    all_goals simp only [Nat.reduceMul, Nat.reducePow, Int.reducePow, Nat.mul_zero, Nat.pow_zero, Int.pow_zero]; omega
  rw [es, key]
  congr 1
  rw [show 2 ^ (7 * kk) = 128 ^ kk by rw [Nat.pow_mul]]
  simp [Int.mul_comm]
theorem impl_ReadVar_l0 (s : ByteArray) (at0 : Int) (h0 : 0 ≤ at0) (h1 : at0 ≤ (s.size : Int)) (hs : s.size ≤ 140737488351232) : ∀ (f kk : Nat) (n : Int), f + kk = 5 → 0 ≤ n → n < 128 ^ kk →
    Ev (fun k => impl_ReadVar.l0 k s at0 n (kk : Int)) (rvO at0 (rvL f ((bytesOf s).drop (at0 + kk).toNat) kk n))
  | 0, kk, n, hf, _, _ => by
    refine Ev.step (f := fun k => impl_ReadVar.j1 k s at0 n (kk : Int) false) (fun k => ?_) ?_
    · simp only [impl_ReadVar.l0]; rw [if_neg (by omega)]
    · refine Ev.step (f := fun _ => some (0, 0, false)) (fun k => ?_) (Ev.now _)
      simp [impl_ReadVar.j1]
  | f + 1, kk, n, hf, hn0, hn1 => by
    refine Ev.step (f := fun k => impl_ReadVar.j1 k s at0 n (kk : Int) (decide (wrap64 (at0 + (kk : Int)) < (s.size : Int)))) (fun k => ?_) ?_
    · simp only [impl_ReadVar.l0]; rw [if_pos (by omega)]
    · rw [w64 (by omega) (by omega)]
      by_cases hlt : at0 + (kk : Int) < (s.size : Int)
      · have hb := bt_range s (at0 + kk)
        have hor := or_shl (n := n) (b := bt s (at0 + kk)) (kk := kk) (by omega) hn0 hn1 hb.1 hb.2
        rw [bytesOf_drop (by omega) hlt]
        have hpow : n + bt s (at0 + kk) % 128 * 128 ^ kk < 128 ^ (kk + 1) := by
          rw [Int.pow_succ]
          have h3 : bt s (at0 + kk) % 128 * 128 ^ kk ≤ 127 * 128 ^ kk := Int.mul_le_mul_of_nonneg_right (by omega) (Int.le_of_lt (Int.pow_pos (by decide)))
          omega
        have hge : 0 ≤ n + bt s (at0 + kk) % 128 * 128 ^ kk := by
          have : 0 ≤ bt s (at0 + kk) % 128 * 128 ^ kk := Int.mul_nonneg (by omega) (Int.le_of_lt (Int.pow_pos (by decide)))
          omega
        by_cases hb2 : bt s (at0 + kk) < 128
        · refine Ev.step (f := fun _ => some (rvO at0 (rvL (f + 1) (bt s (at0 + kk) :: (bytesOf s).drop (at0 + kk + 1).toNat) kk n))) (fun k => ?_) (Ev.now _)
          simp only [impl_ReadVar.j1, rvL]
          rw [w64 (n := at0 + kk) (by omega) (by omega), if_pos (by simpa using hlt), if_pos (by omega), if_pos hlt, if_pos (by rw [w64 (by omega) (by omega)]; omega), hor, w64 (n := bt s (at0 + kk)) (by omega) (by omega), if_neg (by omega), if_pos hb2]
          by_cases hz : bt s (at0 + kk) = 0
          · rw [if_pos hz]
            by_cases hk : (kk : Int) > 0
            · rw [if_pos hk, if_pos (.inl ⟨hz, by omega⟩)]; rfl
            · rw [if_neg hk]
              by_cases hm : n + bt s (at0 + kk) % 128 * 128 ^ kk > 1000000000
              · rw [if_pos hm, if_pos (.inr hm)]; rfl
              · rw [if_neg hm, if_neg (by omega), w64 (by omega) (by omega)]
                simp only [rvO, Int.add_assoc, Int.natCast_add, Int.cast_ofNat_Int]
          · rw [if_neg hz]
            by_cases hm : n + bt s (at0 + kk) % 128 * 128 ^ kk > 1000000000
            · rw [if_pos hm, if_pos (.inr hm)]; rfl
            · rw [if_neg hm, if_neg (by omega), w64 (by omega) (by omega)]
              simp only [rvO, Int.add_assoc, Int.natCast_add, Int.cast_ofNat_Int]
        · refine Ev.step (f := fun k => impl_ReadVar.l0 k s at0 (n + bt s (at0 + kk) % 128 * 128 ^ kk) ((kk + 1 : Nat) : Int)) (fun k => ?_) ?_
          · simp only [impl_ReadVar.j1]
            rw [w64 (n := at0 + kk) (by omega) (by omega), if_pos (by simpa using hlt), if_pos (by omega), if_pos hlt, if_pos (by rw [w64 (by omega) (by omega)]; omega), hor, w64 (n := bt s (at0 + kk)) (by omega) (by omega), if_pos (by omega), w64 (n := (kk : Int) + 1) (by omega) (by omega)]
            rfl
          · have ih := impl_ReadVar_l0 s at0 h0 h1 hs f (kk + 1) (n + bt s (at0 + kk) % 128 * 128 ^ kk) (by omega) hge hpow
            simp only [rvL]
            rw [if_neg hb2]
            rw [show at0 + (kk : Int) + 1 = at0 + ((kk + 1 : Nat) : Int) by omega]
            exact ih
      · rw [bytesOf_drop_end hlt]
        refine Ev.step (f := fun _ => some (0, 0, false)) (fun k => ?_) (Ev.now _)
        simp [impl_ReadVar.j1, hlt]
theorem impl_ReadVar_ev (s : ByteArray) (at0 : Int) (hs : s.size ≤ 140737488351232) : Ev (fun k => impl_ReadVar.f k s at0) (rvC s at0) := by
  by_cases h : 0 ≤ at0 ∧ at0 ≤ (s.size : Int)
  · obtain ⟨K, hK⟩ := impl_ReadVar_l0 s at0 h.1 h.2 hs 5 0 0 rfl (by omega) (by decide)
    refine ⟨K, fun k hk => ?_⟩
    have := hK k hk
    simp only [impl_ReadVar.f, impl_in_eq, Option.bind_some, h, rvC, rv]
    simpa using this
  · refine ⟨0, fun k _ => ?_⟩
    simp only [impl_ReadVar.f, impl_in_eq, Option.bind_some, h, rvC]
    simp

/-! ### decimal numerals -/
theorem ddg_lt {u : Nat} (h : u < 10) : Lib.decDigits u = [UInt8.ofNat (48 + u)] := by
  rw [Lib.decDigits, dif_pos h]
theorem ddg_ge {u : Nat} (h : 10 ≤ u) : Lib.decDigits u = Lib.decDigits (u / 10) ++ [UInt8.ofNat (48 + u % 10)] := by
  rw [Lib.decDigits, dif_neg (by omega)]
theorem abs_div (n : Int) : (n.tdiv 10).natAbs = n.natAbs / 10 := by
  rw [Int.natAbs_tdiv]; rfl
theorem abs_mod (n : Int) : (n.tmod 10).natAbs = n.natAbs % 10 := by
  rw [Int.natAbs_tmod]; rfl
theorem dec_step (n : Int) (s : List UInt8) : Lib.decDigits n.natAbs ++ s = (if n.tdiv 10 = 0 then [] else Lib.decDigits (n.tdiv 10).natAbs) ++ (UInt8.ofNat (48 + n.natAbs % 10) :: s) := by
  rw [abs_div]
  by_cases hlt : n.natAbs < 10
  · have h0 : n.tdiv 10 = 0 := by
      have := abs_div n
      omega
    rw [if_pos h0, ddg_lt hlt, Nat.mod_eq_of_lt hlt]; rfl
  · have h0 : n.tdiv 10 ≠ 0 := by
      intro e
      have := abs_div n
      rw [e] at this
      simp at this; omega
    rw [if_neg h0, ddg_ge (by omega)]; simp
def decT (n : Int) : ByteArray := ⟨(Lib.itoa n).toArray⟩
def decJoin (b : Bool) (l : List UInt8) : ByteArray := ⟨(if b then 45 :: l else l).toArray⟩
theorem figure_data (t : Nat) (ht : t < 10) (s : ByteArray) : ((strOfNums [(48 + (t : Int)) % 256]) ++ s).data.toList = UInt8.ofNat (48 + t) :: s.data.toList := by
  rw [ByteArray.data_append, Array.toList_append, strOfNums_data]
  simp only [List.map_cons, List.map_nil, List.cons_append, List.nil_append]
  congr 2
  omega
theorem dec_len (j : Nat) : ∀ u, u < 10 ^ (j + 1) → (Lib.decDigits u).length ≤ j + 1 := by
  induction j with
  | zero => intro u h; rw [ddg_lt (by simpa using h)]; simp
  | succ j ih =>
    intro u h
    by_cases hs : u < 10
    · rw [ddg_lt hs]; simp
    · rw [ddg_ge (by omega), List.length_append]
      have := ih (u / 10) (by rw [Nat.pow_succ] at h; omega)
      simp; omega
theorem decT_size {n : Int} (h0 : -9223372036854775808 ≤ n) (h1 : n ≤ 9223372036854775807) : (decT n).size ≤ 21 := by
  show (Lib.itoa n).toArray.size ≤ 21
  rw [List.size_toArray]
  unfold Lib.itoa
  split
  · have := dec_len 19 n.natAbs (by omega)
    simp; omega
  · have := dec_len 19 n.toNat (by omega)
    omega

theorem impl_Decimal_eq (n : Int) (h0 : -9223372036854775808 ≤ n) (h1 : n ≤ 9223372036854775807) : impl_Decimal.f n = some (decT n) := by
  show (Option.bind (if decide (-9223372036854775808 ≤ n) && decide (n ≤ 9223372036854775807) then some (decT n) else none) fun t => some t) = _
  rw [if_pos (by simp [h0, h1])]; rfl

/-! ### decimal numerals, read -/
def stepD (a : Nat) (c : UInt8) : Nat := 10 * a + (c.toNat - 48)
def valD (acc : Nat) (l : List UInt8) : Nat := l.foldl stepD acc
def digB (c : UInt8) : Bool := decide (48 ≤ c.toNat ∧ c.toNat ≤ 57)
theorem valD_nil (acc : Nat) : valD acc [] = acc := rfl
theorem valD_cons (acc : Nat) (c : UInt8) (r : List UInt8) : valD acc (c :: r) = valD (10 * acc + (c.toNat - 48)) r := by
  show List.foldl stepD (stepD acc c) r = _
  rfl
theorem valD_ge (l : List UInt8) : ∀ (acc : Nat), acc ≤ valD acc l := by
  induction l with
  | nil => intro acc; rw [valD_nil]; exact Nat.le_refl acc
  | cons c r ih =>
    intro acc
    have := ih (10 * acc + (c.toNat - 48))
    rw [valD_cons]; omega
theorem valD_app (l : List UInt8) (c : UInt8) (acc : Nat) : valD acc (l ++ [c]) = 10 * valD acc l + (c.toNat - 48) := by
  unfold valD
  rw [List.foldl_append]
  rfl
theorem fig_toNat {t : Nat} (h : t < 10) : (UInt8.ofNat (48 + t)).toNat = 48 + t := by
  rw [UInt8.toNat_ofNat']; omega
theorem dec_val (u : Nat) : valD 0 (Lib.decDigits u) = u := by
  induction u using Nat.strongRecOn with
  | _ u ih =>
    by_cases h : u < 10
    · rw [ddg_lt h, valD_cons, valD_nil, fig_toNat h]; omega
    · rw [ddg_ge (by omega), valD_app, ih (u / 10) (by omega), fig_toNat (Nat.mod_lt _ (by omega))]; omega
theorem dec_dig (u : Nat) : (Lib.decDigits u).all digB = true := by
  induction u using Nat.strongRecOn with
  | _ u ih =>
    by_cases h : u < 10
    · rw [ddg_lt h, List.all_cons, List.all_nil, Bool.and_true]; exact decide_eq_true (by rw [fig_toNat h]; omega)
    · have hm : u % 10 < 10 := Nat.mod_lt _ (by omega)
      rw [ddg_ge (by omega), List.all_append, ih (u / 10) (by omega), List.all_cons, List.all_nil, Bool.and_true, Bool.true_and]
      exact decide_eq_true (by rw [fig_toNat hm]; omega)
theorem dec_ne (u : Nat) : Lib.decDigits u ≠ [] := by
  by_cases h : u < 10
  · rw [ddg_lt h]; simp
  · rw [ddg_ge (by omega)]; simp
theorem parse_val : ∀ (l : List UInt8) (acc : Nat), l.all digB = true → valD acc l ≤ 1000000000 → Lib.parseUint10 acc l = .ok (valD acc l)
  | [], _, _, _ => rfl
  | c :: r, acc, hd, hv => by
    rw [List.all_cons, Bool.and_eq_true] at hd
    have hc := of_decide_eq_true hd.1
    rw [valD_cons] at hv
    have h1 := valD_ge r (10 * acc + (c.toNat - 48))
    rw [valD_cons]
    simp only [Lib.parseUint10]
    rw [if_pos hc, if_neg (by omega), if_neg (by omega), Nat.mul_comm acc 10]
    exact parse_val r _ hd.2 hv
theorem atoi_dec (u : Nat) (hu : u ≤ 1000000000) : Lib.atoiAll (Lib.decDigits u) = .ok (u : Int) := by
  have hp := parse_val (Lib.decDigits u) 0 (dec_dig u) (by rw [dec_val]; exact hu)
  rw [dec_val] at hp
  cases hl : Lib.decDigits u with
  | nil => exact absurd hl (dec_ne u)
  | cons c r =>
    have hd := dec_dig u
    rw [hl, List.all_cons, Bool.and_eq_true] at hd
    have hc := of_decide_eq_true hd.1
    unfold Lib.atoiAll
    simp only
    rw [if_neg (by omega)]
    rw [hl] at hp
    simp only [Lib.parseMag, hp]
    rw [if_neg (by simp)]
    simp only
    rw [if_neg (by omega), if_neg (by omega), if_neg (by omega)]
theorem itoa_nat (u : Nat) : Lib.itoa (u : Int) = Lib.decDigits u := by
  unfold Lib.itoa
  rw [if_neg (by omega), Int.toNat_natCast]
/-- What ReadDecimal returns. -/
def rdecC (s : ByteArray) : Int × Bool := if s.size ≤ 10 ∧ s.data.toList.all digB = true ∧ valD 0 s.data.toList ≤ 1000000000 ∧ decT (valD 0 s.data.toList : Nat) = s then ((valD 0 s.data.toList : Nat), true) else (0, false)
theorem decT_data (u : Nat) : (decT (u : Int)).data.toList = Lib.decDigits u := by
  unfold decT; rw [itoa_nat]
theorem rdecC_dec (u : Nat) (hu : u ≤ 1000000000) : rdecC (decT (u : Int)) = ((u : Int), true) := by
  have hs : (decT (u : Int)).size ≤ 10 := by
    show (Lib.itoa (u : Int)).toArray.size ≤ 10
    rw [List.size_toArray, itoa_nat]
    have := dec_len 9 u (by omega)
    omega
  unfold rdecC
  rw [decT_data, dec_val, if_pos ⟨hs, dec_dig u, hu, rfl⟩]
/-- What the program's way comes to. -/
theorem rdecC_impl (s : ByteArray) : (match Lib.atoiAll s.data.toList with | .ok v => if (0 ≤ v ∧ v ≤ 1000000000) ∧ decT v = s then (v, true) else (0, false) | _ => (0, false)) = rdecC s := by
  have no : rdecC s ≠ (0, false) → ∃ u : Nat, u ≤ 1000000000 ∧ s = decT (u : Int) := by
    intro h
    unfold rdecC at h
    split at h
    · rename_i hc; exact ⟨_, hc.2.2.1, hc.2.2.2.symm⟩
    · exact absurd rfl h
  by_cases hs : ∃ u : Nat, u ≤ 1000000000 ∧ s = decT (u : Int)
  · obtain ⟨u, hu, rfl⟩ := hs
    rw [rdecC_dec u hu, decT_data, atoi_dec u hu]
    simp only
    rw [if_pos ⟨⟨by omega, by omega⟩, trivial⟩]
  · have hr : rdecC s = (0, false) := Classical.byContradiction fun h => hs (no h)
    rw [hr]
    split
    · rename_i v hv
      split
      · rename_i hc
        exact absurd ⟨v.toNat, by omega, by rw [Int.toNat_of_nonneg hc.1.1]; exact hc.2.symm⟩ hs
      · rfl
    · rfl

theorem rdecI_eq (s : ByteArray) : rdecI s = rdecC s := by
  rw [← rdecC_impl]
  unfold rdecI
  cases hv : Lib.atoiAll s.data.toList
  rotate_left
  · rfl
  · rfl
  rename_i v
  have hi : (itoaT v).toList = s.toList ↔ decT v = s := by
    rw [toList_iff]; rfl
  simp only [hi]
theorem impl_ReadDecimal_eq (s : ByteArray) (hs : s.size ≤ 140737488351232) : impl_ReadDecimal.f s = some (rdecC s) := by
  unfold impl_ReadDecimal.f
  rw [if_pos hs, rdecI_eq]

theorem impl_varOf_ev {n : Int} (h0 : 0 ≤ n) (h1 : n ≤ 1000000000) : Ev (fun k => impl_varOf.f k n) (varT n) := by
  obtain ⟨K, hK⟩ := impl_VarText_ev n
  refine ⟨K, fun k hk => ?_⟩
  simp only [impl_varOf.f, hK k hk, Option.bind_some, varC, varT]
  rw [if_pos ⟨h0, h1⟩]

theorem impl_ShortText_ev (s : ByteArray) (hs : s.size ≤ 140737488351232) : Ev (fun k => impl_ShortText.f k s) (shortC s) := by
  by_cases h : s.size ≤ 20000
  · obtain ⟨K, hK⟩ := impl_varOf_ev (n := (s.size : Int)) (by omega) (by omega)
    refine ⟨K, fun k hk => ?_⟩
    have := varT_size (n := (s.size : Int)) (by omega) (by omega)
    simp only [impl_ShortText.f, shortC, hK k hk, Option.bind_some, h]
    rw [if_neg (by omega), if_pos (by omega)]
    rfl
  · refine ⟨0, fun k _ => ?_⟩
    simp only [impl_ShortText.f, shortC, h]
    rw [if_pos (by omega)]
    rfl

theorem impl_ReadShort_ev (s : ByteArray) (at0 : Int) (hs : s.size ≤ 140737488351232) : Ev (fun k => impl_ReadShort.f k s at0) (rsC s at0) := by
  obtain ⟨K, hK⟩ := impl_ReadVar_ev s at0 hs
  refine ⟨K, fun k hk => ?_⟩
  have e : impl_ReadVar.f k s at0 = some _ := hK k hk
  have hr := rvC_range s at0
  simp only [impl_ReadShort.f, rsC]
  rw [e, Option.bind_some]
  by_cases h1 : (rvC s at0).2.2 = true
  · have hr := hr h1
    rw [if_pos h1, if_pos h1]
    by_cases h2 : (rvC s at0).1 > 20000
    · rw [if_pos h2, if_pos h2]
    · rw [if_neg h2, if_neg h2, w64 (by omega) (by omega)]
      by_cases h3 : (rvC s at0).1 > (s.size : Int) - (rvC s at0).2.1
      · rw [if_pos h3, if_pos h3]
      · rw [if_neg h3, if_neg h3, w64 (by omega) (by omega), if_pos (by omega), if_pos (by omega), if_pos (by omega)]
  · rw [if_neg h1, if_neg h1]

theorem impl_Hex_l0 (s : ByteArray) (hs : s.size ≤ 20000) : ∀ (d i : Nat), i + d = s.size → Ev (fun k => impl_Hex.l0 k s (hexL ((bytesOf s).take i)) (s.size : Int) (i : Int)) (strOfNums (hexL (bytesOf s)), true)
  | 0, i, hd => by
    refine Ev.step (f := fun _ => some (strOfNums (hexL (bytesOf s)), true)) (fun k => ?_) (Ev.now _)
    simp only [impl_Hex.l0]
    rw [if_neg (by omega), List.take_of_length_le (by rw [bytesOf_length]; omega)]
  | d + 1, i, hd => by
    have hb := bt_range s (i : Int)
    have hl := hexL_len ((bytesOf s).take i)
    have hlen : ((bytesOf s).take i).length = i := by rw [List.length_take, bytesOf_length]; omega
    have h15 : Go.bits .and .u8 (bt s (i : Int)) 15 = bt s (i : Int) % 16 := u8_and15 _ hb.1 (by omega)
    refine Ev.step (f := fun k => impl_Hex.l0 k s (hexL ((bytesOf s).take (i + 1))) (s.size : Int) ((i + 1 : Nat) : Int)) (fun k => ?_) (impl_Hex_l0 s hs d (i + 1) (by omega))
    simp only [impl_Hex.l0]
    rw [h15, if_pos (by omega), if_pos (by omega), if_pos (by omega), if_pos (by omega), if_pos (by omega), if_pos (by omega), if_pos (by omega), hex_digit (by omega) (by omega), hex_digit (by omega) (by omega), Option.bind_some, if_pos (by simp only [List.length_cons, List.length_nil]; omega), w64 (by omega) (by omega), take_b_succ (by omega), hexL_app]
    rfl
theorem impl_Hex_ev (s : ByteArray) (_ : s.size ≤ 140737488351232) : Ev (fun k => impl_Hex.f k s) (hexC s) := by
  by_cases h : s.size ≤ 20000
  · obtain ⟨K, hK⟩ := impl_Hex_l0 s h s.size 0 (by omega)
    refine ⟨K, fun k hk => ?_⟩
    have e : impl_Hex.l0 k s [] (s.size : Int) 0 = some _ := hK k hk
    simp only [impl_Hex.f, hexC]
    rw [if_neg (by omega), w64 (by omega) (by omega), if_pos (by omega), if_pos (by omega), e, if_pos h]
  · refine ⟨0, fun k _ => ?_⟩
    simp only [impl_Hex.f, hexC]
    rw [if_pos (by omega), if_neg h]

theorem index_digit_nat : ∀ c : Fin 256, Lib.indexByte [48, 49, 50, 51, 52, 53, 54, 55, 56, 57, 97, 98, 99, 100, 101, 102] (c.val.toUInt8) = uhv (c.val : Int) := by decide +kernel
theorem index_digit {c : Int} (h0 : 0 ≤ c) (h1 : c ≤ 255) : strings_IndexByte.f (⟨#[48, 49, 50, 51, 52, 53, 54, 55, 56, 57, 97, 98, 99, 100, 101, 102]⟩ : ByteArray) c = some (uhv c) := by
  have h := index_digit_nat ⟨c.toNat, by omega⟩
  simp only [strings_IndexByte.f]
  congr 1
  rw [show ((⟨c.toNat, by omega⟩ : Fin 256).val : Int) = c by simp; omega] at h
  exact h
theorem or_nibble {a b : Int} (h0 : 0 ≤ a) (h1 : a < 16) (h2 : 0 ≤ b) (h3 : b < 16) : Go.bits .or .i64 (wrap64 (a * 16)) b = 16 * a + b := by
  rw [w64 (by omega) (by omega)]
  have := bits_join .i64 63 (by decide) (fun n h0 h1 => by rw [IntKind.wrap_i64]; omega) 4 (a * 16) b (by omega) (by omega) (by omega) h2 (by omega) (by omega)
  rw [this]; omega
theorem impl_Unhex_l0 (s : ByteArray) (hs : s.size ≤ 40000) (hev : s.size % 2 = 0) : ∀ (d i : Nat) (acc : List Int), i + 2 * d = s.size → acc.length ≤ i → Ev (fun k => impl_Unhex.l0 k s acc (i : Int)) (unhO acc (unh ((bytesOf s).drop i)))
  | 0, i, acc, hd, ha => by
    refine Ev.step (f := fun _ => some (strOfNums acc, true)) (fun k => ?_) ?_
    · simp only [impl_Unhex.l0]; rw [if_neg (by omega)]
    · rw [List.drop_eq_nil_of_le (by rw [bytesOf_length]; omega)]
      simp only [unh, unhO, List.append_nil]
      exact Ev.now _
  | d + 1, i, acc, hd, ha => by
    have hb := bt_range s (i : Int)
    have hb2 := bt_range s ((i : Int) + 1)
    rw [drop_two (by omega)]
    simp only [unh]
    have u1 := uhv_lt (b := bt s (i : Int))
    have u2 := uhv_lt (b := bt s ((i : Int) + 1))
    by_cases hn : uhv (bt s (i : Int)) < 0 ∨ uhv (bt s ((i : Int) + 1)) < 0
    · rw [if_pos hn]
      refine ⟨1, fun k hk => ?_⟩
      obtain ⟨k, rfl⟩ : ∃ m, k = m + 1 := ⟨k - 1, by omega⟩
      simp only [impl_Unhex.l0]
      rw [if_pos (by omega), if_pos (by omega), index_digit hb.1 hb.2, Option.bind_some, w64 (n := (i : Int) + 1) (by omega) (by omega), if_pos (by omega), if_pos (by omega), index_digit hb2.1 hb2.2, Option.bind_some]
      by_cases h1 : uhv (bt s (i : Int)) < 0
      · rw [if_pos h1]; rfl
      · rw [if_neg h1, if_pos (by omega)]; rfl
    · rw [if_neg hn, unhO_step]
      obtain ⟨K, hK⟩ := impl_Unhex_l0 s hs hev d (i + 2) (acc ++ [16 * uhv (bt s (i : Int)) + uhv (bt s ((i : Int) + 1))]) (by omega) (by simp; omega)
      refine ⟨K + 1, fun k hk => ?_⟩
      obtain ⟨k, rfl⟩ : ∃ m, k = m + 1 := ⟨k - 1, by omega⟩
      have e : impl_Unhex.l0 k s (acc ++ [16 * uhv (bt s (i : Int)) + uhv (bt s ((i : Int) + 1))]) ((i + 2 : Nat) : Int) = some _ := hK k (by omega)
      simp only [impl_Unhex.l0]
      rw [if_pos (by omega), if_pos (by omega), index_digit hb.1 hb.2, Option.bind_some, w64 (n := (i : Int) + 1) (by omega) (by omega), if_pos (by omega), if_pos (by omega), index_digit hb2.1 hb2.2, Option.bind_some, if_neg (by omega), if_neg (by omega), if_pos (by omega), or_nibble (by omega) (by omega) (by omega) (by omega), w64 (by omega) (by omega), show (16 * uhv (bt s (i : Int)) + uhv (bt s ((i : Int) + 1))) % 256 = 16 * uhv (bt s (i : Int)) + uhv (bt s ((i : Int) + 1)) by omega, show (i : Int) + 2 = ((i + 2 : Nat) : Int) by omega]
      exact e
theorem impl_Unhex_ev (s : ByteArray) (_ : s.size ≤ 140737488351232) : Ev (fun k => impl_Unhex.f k s) (unhexC s) := by
  unfold unhexC
  by_cases h2 : s.size % 2 = 0
  · by_cases h1 : s.size ≤ 40000
    · obtain ⟨K, hK⟩ := impl_Unhex_l0 s h1 h2 (s.size / 2) 0 [] (by omega) (by simp)
      refine ⟨K + 1, fun k hk => ?_⟩
      obtain ⟨k, rfl⟩ : ∃ m, k = m + 1 := ⟨k - 1, by omega⟩
      have e : impl_Unhex.l0 k s [] 0 = some _ := hK k (by omega)
      rw [List.drop_zero] at e
      rw [if_pos ⟨h2, h1⟩]
      simp only [impl_Unhex.f]
      rw [if_pos (by omega), decide_eq_false (by omega)]
      simp only [impl_Unhex.j0]
      rw [if_neg (by simp), w64 (by omega) (by omega), if_pos (by omega), if_pos (by omega), e]
    · refine ⟨1, fun k hk => ?_⟩
      obtain ⟨k, rfl⟩ : ∃ m, k = m + 1 := ⟨k - 1, by omega⟩
      rw [if_neg (fun h => h1 h.2)]
      simp only [impl_Unhex.f]
      rw [if_pos (by omega), decide_eq_true (by omega)]
      simp only [impl_Unhex.j0]
      rw [if_pos trivial]
  · refine ⟨1, fun k hk => ?_⟩
    obtain ⟨k, rfl⟩ : ∃ m, k = m + 1 := ⟨k - 1, by omega⟩
    rw [if_neg (fun h => h2 h.1)]
    simp only [impl_Unhex.f]
    rw [if_neg (by omega)]
    simp only [impl_Unhex.j0]
    rw [if_pos trivial]

theorem numbers_j2 (n : Nat) (hn : n ≤ 1000000000) (t : ByteArray) (ht : t.size ≤ 300) : ∃ K, ∀ k, K ≤ k → laws_FnNumbers.j2 (k + 1) (n : Int) (varT (n : Int)) true (n : Int) (1 + ((varT (n : Int)).size : Int)) true (n : Int) true t = some true := by
  have z := varT_size (n := (n : Int)) (by omega) (by omega)
  have zs : (shortT t).size ≤ 310 := by
    have := varT_size (n := (t.size : Int)) (by omega) (by omega)
    unfold shortT
    rw [ByteArray.size_append]
    omega
  obtain ⟨K1, h1⟩ := impl_ShortText_ev t (by omega)
  obtain ⟨K2, h2⟩ := impl_ReadShort_ev (shortT t) 0 (by omega)
  obtain ⟨K3, h3⟩ := impl_Hex_ev t (by omega)
  obtain ⟨K4, h4⟩ := impl_Unhex_ev (strOfNums (hexL (bytesOf t))) (by rw [strOfNums_size, hexL_len, bytesOf_length]; omega)
  rw [show shortC t = (shortT t, true) from if_pos (by omega)] at h1
  rw [rs_short t (by omega)] at h2
  rw [show hexC t = (strOfNums (hexL (bytesOf t)), true) from if_pos (by omega)] at h3
  rw [unhex_hex t (by omega)] at h4
  refine ⟨K1 + K2 + K3 + K4, fun k hk => ?_⟩
  have e1 : impl_ShortText.f k t = some _ := h1 k (by omega)
  have e2 : impl_ReadShort.f k (shortT t) 0 = some _ := h2 k (by omega)
  have e3 : impl_Hex.f k t = some _ := h3 k (by omega)
  have e4 : impl_Unhex.f k (strOfNums (hexL (bytesOf t))) = some _ := h4 k (by omega)
  simp only [laws_FnNumbers.j2]
  rw [e1, Option.bind_some, e2, Option.bind_some, e3, Option.bind_some, e4, Option.bind_some]
  simp only [if_true]
  rw [w64 (n := ((varT (n : Int)).size : Int) + 1) (by omega) (by omega), if_pos (by omega)]
  simp
theorem numbers_j1 (l : List Int) (hl : l.length ≤ 1048576) (n : Nat) (hn : n ≤ 1000000000) : ∃ K, ∀ k, K ≤ k → laws_FnNumbers.j1 (k + 1 + 1) l (n : Int) = some true := by
  have z := varT_size (n := (n : Int)) (by omega) (by omega)
  obtain ⟨t, K5, h5⟩ := spec_DrawHex_ev l hl
  obtain ⟨K1, h1⟩ := impl_VarText_ev (n : Int)
  rw [show varC (n : Int) = (varT (n : Int), true) from if_pos ⟨by omega, by omega⟩] at h1
  have z1 : (⟨#[120]⟩ : ByteArray).size = 1 := rfl
  have z2 : (⟨#[121]⟩ : ByteArray).size = 1 := rfl
  obtain ⟨K2, h2⟩ := impl_ReadVar_ev (((⟨#[120]⟩ : ByteArray) ++ varT (n : Int)) ++ (⟨#[121]⟩ : ByteArray)) 1 (by rw [ByteArray.size_append, ByteArray.size_append]; omega)
  rw [rv_text (⟨#[120]⟩ : ByteArray) (⟨#[121]⟩ : ByteArray) n hn 1 rfl] at h2
  have hd : impl_Decimal.f (n : Int) = some (decT (n : Int)) := impl_Decimal_eq _ (by omega) (by omega)
  have hr : impl_ReadDecimal.f (decT (n : Int)) = some ((n : Int), true) := by
    rw [impl_ReadDecimal_eq _ (by have := decT_size (n := (n : Int)) (by omega) (by omega); omega), rdecC_dec n hn]
  have fin : ∃ K, ∀ k, K ≤ k → (if (t.size : Int) > 300 then laws_FnNumbers.j2 (k + 1) (n : Int) (varT (n : Int)) true (n : Int) (1 + ((varT (n : Int)).size : Int)) true (n : Int) true (⟨#[97, 98, 99]⟩ : ByteArray) else laws_FnNumbers.j2 (k + 1) (n : Int) (varT (n : Int)) true (n : Int) (1 + ((varT (n : Int)).size : Int)) true (n : Int) true t) = some true := by
    by_cases c : (t.size : Int) > 300
    · obtain ⟨K, hK⟩ := numbers_j2 n hn (⟨#[97, 98, 99]⟩ : ByteArray) (by decide)
      exact ⟨K, fun k hk => by rw [if_pos c]; exact hK k hk⟩
    · obtain ⟨K, hK⟩ := numbers_j2 n hn t (by omega)
      exact ⟨K, fun k hk => by rw [if_neg c]; exact hK k hk⟩
  obtain ⟨K6, h6⟩ := fin
  refine ⟨K1 + K2 + K5 + K6, fun k hk => ?_⟩
  have e1 : impl_VarText.f (k + 1) (n : Int) = some _ := h1 _ (by omega)
  have e2 : impl_ReadVar.f (k + 1) (((⟨#[120]⟩ : ByteArray) ++ varT (n : Int)) ++ (⟨#[121]⟩ : ByteArray)) 1 = some _ := h2 _ (by omega)
  have e5 : spec_DrawHex.f (k + 1) l = some _ := h5 _ (by omega)
  have e6 := h6 k (by omega)
  simp only [laws_FnNumbers.j1]
  rw [e1, Option.bind_some, if_pos (by show 1 + (varT (n : Int)).size ≤ _; omega), if_pos (by show ((⟨#[120]⟩ : ByteArray) ++ varT (n : Int)).size + 1 ≤ _; rw [ByteArray.size_append]; omega), e2, Option.bind_some, hd, Option.bind_some, hr, Option.bind_some, e5, Option.bind_some]
  exact e6
theorem FnNumbers (l0 : List Int) (_g0 : (l0.length ≤ 9223372036854775807 ∧ ∀ y ∈ l0, (Lit.int .u8 y).wf = true)) : ∃ k, laws_FnNumbers.f k l0 = some true := by
  by_cases hbig : (l0.length : Int) > 1048576
  · refine ⟨0, ?_⟩
    simp only [laws_FnNumbers.f, laws_big.f]
    rw [Option.bind_some, if_pos (by simpa using hbig)]
  · obtain ⟨n0, K1, h1⟩ := spec_DrawVarText_ev l0 (by omega)
    have j0 : ∃ K, ∀ k, K ≤ k → (if n0 < 0 then laws_FnNumbers.j0 (k + 1 + 1 + 1) l0 n0 true else laws_FnNumbers.j0 (k + 1 + 1 + 1) l0 n0 (decide (n0 > 1000000000))) = some true := by
      obtain ⟨K2, h2⟩ := numbers_j1 l0 (by omega) 12345 (by omega)
      by_cases c0 : n0 < 0
      · refine ⟨K2, fun k hk => ?_⟩
        rw [if_pos c0]
        simp only [laws_FnNumbers.j0]
        rw [if_pos trivial]
        exact h2 k hk
      · by_cases c1 : n0 > 1000000000
        · refine ⟨K2, fun k hk => ?_⟩
          rw [if_neg c0, decide_eq_true c1]
          simp only [laws_FnNumbers.j0]
          rw [if_pos trivial]
          exact h2 k hk
        · obtain ⟨K3, h3⟩ := numbers_j1 l0 (by omega) n0.toNat (by omega)
          rw [Int.toNat_of_nonneg (by omega)] at h3
          refine ⟨K3, fun k hk => ?_⟩
          rw [if_neg c0, decide_eq_false c1]
          simp only [laws_FnNumbers.j0]
          rw [if_neg (by simp)]
          exact h3 k hk
    obtain ⟨K2, h2⟩ := j0
    refine ⟨K1 + K2 + 1 + 1 + 1, ?_⟩
    have e1 : spec_DrawVarText.f (K1 + K2 + 1 + 1 + 1) l0 = some _ := h1 _ (by omega)
    simp only [laws_FnNumbers.f, laws_big.f]
    rw [Option.bind_some, if_neg (by simpa using hbig), e1, Option.bind_some]
    exact h2 (K1 + K2) (by omega)

end Go.Proofs.YtgeagknnfkgihaaDoor.Pure
