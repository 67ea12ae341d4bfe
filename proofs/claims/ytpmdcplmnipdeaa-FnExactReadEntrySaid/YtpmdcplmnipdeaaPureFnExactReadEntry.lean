/- For every text, the program's ReadEntry returns what the reference's ReadEntry returns: FnExactReadEntry returns true. No condition. -/
import Derived.Test.YtpmdcplmnipdeaaQFnExactReadEntryx6
namespace Go.Proofs.Ytpmdcplmnipdeaa.Pure
open Go.RowKit Go.Proofs.Ytpmdcplmnipdeaa.PFnExactReadEntry Go.Proofs.YtpmdcplmnipdeaaW.PrintWords Go.Proofs.YtpmdcplmnipdeaaW.PrintLast Go.Proofs.YtpmdcplmnipdeaaW.PrintMore

/-! ### texts as lists of bytes -/
theorem bytesOf_range (s : ByteArray) : ∀ b ∈ bytesOf s, 0 ≤ b ∧ b ≤ 255 := by
  intro b hb
  obtain ⟨u, _, rfl⟩ := List.mem_map.1 hb
  have := u.toNat_lt
  omega
theorem bytesOf_inj {s t : ByteArray} (h : bytesOf s = bytesOf t) : s = t := by
  apply ByteArray.ext
  apply Array.toList_inj.1
  unfold bytesOf at h
  refine (List.map_inj_right ?_).1 h
  intro a b hab
  exact UInt8.toNat_inj.1 (by omega)
theorem bytesOf_app (s t : ByteArray) : bytesOf (s ++ t) = bytesOf s ++ bytesOf t := by
  simp [bytesOf]
theorem bytesOf_ext (s : ByteArray) (a b : Nat) : bytesOf (s.extract a b) = ((bytesOf s).drop a).take (b - a) := by
  simp [bytesOf, List.map_take, List.map_drop]
theorem bytesOf_str (xs : List Int) (h : ∀ b ∈ xs, 0 ≤ b ∧ b ≤ 255) : bytesOf (strOfNums xs) = xs := by
  unfold bytesOf
  rw [strOfNums_data, List.map_map]
  conv => rhs; rw [← List.map_id xs]
  refine List.map_congr_left fun b hb => ?_
  have := h b hb
  simp only [Function.comp_apply, id_eq, UInt8.toNat_ofNat']
  omega
theorem toList_iff {s t : ByteArray} : s.toList = t.toList ↔ s = t := by
  constructor
  · intro h
    rw [ByteArray.toList_eq, ByteArray.toList_eq] at h
    exact ByteArray.ext (Array.toList_inj.1 h)
  · rintro rfl; rfl
theorem bt_getElem {s : ByteArray} {i : Int} (h1 : i.toNat < s.size) : (bytesOf s)[i.toNat]? = some (bt s i) := by
  rw [← rd_bytesOf]
  unfold rd
  rw [List.getD_eq_getElem?_getD, List.getElem?_eq_getElem (by rw [bytesOf_length]; exact h1)]; rfl
theorem bytesOf_drop {s : ByteArray} {i : Int} (h0 : 0 ≤ i) (h : i < (s.size : Int)) : (bytesOf s).drop i.toNat = bt s i :: (bytesOf s).drop (i + 1).toNat := by
  have hl : i.toNat < (bytesOf s).length := by rw [bytesOf_length]; omega
  rw [List.drop_eq_getElem_cons hl, show (i + 1).toNat = i.toNat + 1 by omega]
  congr 1
  have := bt_getElem (s := s) (i := i) (by omega)
  rw [List.getElem?_eq_getElem hl] at this
  exact Option.some.inj this
theorem bytesOf_drop_end {s : ByteArray} {i : Int} (h : ¬ i < (s.size : Int)) : (bytesOf s).drop i.toNat = [] := by
  apply List.drop_eq_nil_of_le
  rw [bytesOf_length]; omega
theorem w64 {n : Int} (h0 : -9223372036854775808 ≤ n) (h1 : n ≤ 9223372036854775807) : wrap64 n = n := by
  unfold wrap64; omega
theorem tmod_nat {n : Int} (h : 0 ≤ n) (m : Int) : Int.tmod n m = n % m := Int.tmod_eq_emod_of_nonneg h
theorem tdiv_nat {n : Int} (h : 0 ≤ n) (m : Int) : Int.tdiv n m = n / m := Int.tdiv_eq_ediv_of_nonneg h

theorem drop_rd {l : List Int} {i : Nat} (h : i < l.length) : l.drop i = rd l (i : Int) :: l.drop (i + 1) := by
  rw [List.drop_eq_getElem_cons h]
  congr 1
  unfold rd
  rw [Int.toNat_natCast, List.getD_eq_getElem?_getD, List.getElem?_eq_getElem h]; rfl
theorem take_rd {l : List Int} {i : Nat} (h : i < l.length) : l.take (i + 1) = l.take i ++ [rd l (i : Int)] := by
  rw [List.take_add_one]
  congr 1
  unfold rd
  rw [Int.toNat_natCast, List.getD_eq_getElem?_getD, List.getElem?_eq_getElem h]; rfl

/-- Rising, each in 1 .. 4, and above p. -/
def riseL : Int → List Int → Bool
  | _, [] => true
  | p, x :: xs => if 1 ≤ x ∧ x ≤ 4 ∧ p < x then riseL x xs else false
theorem riseL_len : ∀ (l : List Int) (p : Int), riseL p l = true → l = [] ∨ p + (l.length : Int) ≤ 4
  | [], _, _ => .inl rfl
  | x :: xs, p, h => by
    simp only [riseL] at h
    by_cases h1 : 1 ≤ x ∧ x ≤ 4 ∧ p < x
    · rw [if_pos h1] at h
      rcases riseL_len xs x h with rfl | h2
      · right; simp; omega
      · right; simp only [List.length_cons]; omega
    · rw [if_neg h1] at h; simp at h
def confC (l : List Int) : Bool := decide (1 ≤ l.length) && riseL 0 l
theorem confC_len {l : List Int} (h : confC l = true) : 1 ≤ l.length ∧ l.length ≤ 4 := by
  unfold confC at h
  simp only [Bool.and_eq_true, decide_eq_true_eq] at h
  rcases riseL_len l 0 h.2 with rfl | h2
  · simp at h
  · omega
/-- What stands ahead of place i. -/
def prv (l : List Int) (i : Nat) : Int := if i = 0 then 0 else rd l ((i : Int) - 1)
theorem prv_succ (l : List Int) (i : Nat) : prv l (i + 1) = rd l (i : Int) := by
  unfold prv
  rw [if_neg (by omega), show ((i + 1 : Nat) : Int) - 1 = (i : Int) by omega]

def rconfC (s : ByteArray) : List Int × Bool := if confC (bytesOf s) = true then (bytesOf s, true) else ([], false)
theorem take_bytes_succ {s : ByteArray} {i : Nat} (h : i < s.size) : (bytesOf s).take (i + 1) = (bytesOf s).take i ++ [bt s (i : Int)] := by
  rw [take_rd (by rw [bytesOf_length]; exact h), rd_bytesOf]

/-! ### numbers in bytes, in plain Lean -/
/-- The bytes of a number: seven bits each, the lowest first. -/
def vl (n : Nat) : List Int := if 127 < n then ((n % 128 + 128 : Nat) : Int) :: vl (n / 128) else [(n : Int)]
  termination_by n
  decreasing_by omega
theorem vl_big {n : Nat} (h : 127 < n) : vl n = ((n % 128 + 128 : Nat) : Int) :: vl (n / 128) := by rw [vl, if_pos h]
theorem vl_small {n : Nat} (h : ¬ 127 < n) : vl n = [(n : Int)] := by rw [vl, if_neg h]
theorem vl_bytes (n : Nat) : ∀ b ∈ vl n, 0 ≤ b ∧ b ≤ 255 := by
  induction n using Nat.strongRecOn with
  | _ n ih =>
    by_cases h : 127 < n
    · rw [vl_big h]
      intro b hb
      rcases List.mem_cons.1 hb with rfl | hb
      · omega
      · exact ih _ (by omega) b hb
    · rw [vl_small h]
      intro b hb
      have := List.mem_singleton.1 hb
      omega
/-- The number that bytes make. -/
def dec : List Int → Int
  | [] => 0
  | b :: bs => b % 128 + 128 * dec bs
theorem dec_nonneg : ∀ bs : List Int, 0 ≤ dec bs
  | [] => by simp [dec]
  | b :: bs => by have := dec_nonneg bs; simp only [dec]; omega
theorem dec_vl (n : Nat) : dec (vl n) = (n : Int) := by
  induction n using Nat.strongRecOn with
  | _ n ih =>
    by_cases h : 127 < n
    · rw [vl_big h, dec, ih _ (by omega)]; omega
    · rw [vl_small h, dec, dec]; omega
theorem vl_form (n : Nat) : ∃ bs c, vl n = bs ++ [c] ∧ (∀ b ∈ bs, 128 ≤ b ∧ b ≤ 255) ∧ 0 ≤ c ∧ c ≤ 127 ∧ (bs = [] ∨ c ≠ 0) := by
  induction n using Nat.strongRecOn with
  | _ n ih =>
    by_cases h : 127 < n
    · obtain ⟨bs, c, h1, h2, h3, h4, h5⟩ := ih (n / 128) (by omega)
      refine ⟨((n % 128 + 128 : Nat) : Int) :: bs, c, by rw [vl_big h, h1]; rfl, ?_, h3, h4, .inr ?_⟩
      · intro b hb
        rcases List.mem_cons.1 hb with rfl | hb
        · omega
        · exact h2 b hb
      · rcases h5 with rfl | h5
        · have := dec_vl (n / 128)
          rw [h1] at this
          simp [dec] at this
          omega
        · exact h5
    · exact ⟨[], (n : Int), by rw [vl_small h]; rfl, by simp, by omega, by omega, .inl rfl⟩
theorem dec_pos : ∀ (bs : List Int) (c : Int), (∀ b ∈ bs, 128 ≤ b ∧ b ≤ 255) → 0 ≤ c → c ≤ 127 → c ≠ 0 → 1 ≤ dec (bs ++ [c])
  | [], c, _, h0, h1, h2 => by simp [dec]; omega
  | b :: bs, c, h, h0, h1, h2 => by
    have := dec_pos bs c (fun x hx => h x (List.mem_cons_of_mem _ hx)) h0 h1 h2
    simp only [List.cons_append, dec]; omega
theorem vl_dec : ∀ (bs : List Int) (c : Int), (∀ b ∈ bs, 128 ≤ b ∧ b ≤ 255) → 0 ≤ c → c ≤ 127 → (bs = [] ∨ c ≠ 0) → vl (dec (bs ++ [c])).toNat = bs ++ [c]
  | [], c, _, h0, h1, _ => by
    have e : (dec ([] ++ [c])).toNat = c.toNat := by simp [dec]; omega
    rw [e, vl_small (by omega)]
    simp; omega
  | b :: bs, c, h, h0, h1, h2 => by
    have hc : c ≠ 0 := by rcases h2 with h2 | h2 <;> simp_all
    have hb := h b List.mem_cons_self
    have hp := dec_pos bs c (fun x hx => h x (List.mem_cons_of_mem _ hx)) h0 h1 hc
    have ih := vl_dec bs c (fun x hx => h x (List.mem_cons_of_mem _ hx)) h0 h1 (.inr hc)
    have e : dec (b :: bs ++ [c]) = b % 128 + 128 * dec (bs ++ [c]) := by simp only [List.cons_append, dec]
    rw [e, vl_big (by omega)]
    have e2 : (b % 128 + 128 * dec (bs ++ [c])).toNat / 128 = (dec (bs ++ [c])).toNat := by omega
    rw [e2, ih]
    simp only [List.cons_append, List.cons.injEq, and_true]
    omega
/-- No longer form: the last byte is nought behind others. -/
theorem vl_ne (bs : List Int) (hb : bs ≠ []) (m : Nat) : vl m ≠ bs ++ [(0 : Int)] := by
  intro e
  obtain ⟨bs', c', h1, h2, h3, h4, h5⟩ := vl_form m
  rw [h1] at e
  have := List.append_inj' e rfl
  obtain ⟨rfl, e2⟩ := this
  simp at e2
  rcases h5 with h5 | h5
  · exact hb h5
  · exact h5 e2

/-- What ReadVar does with the bytes from a place on: k of them are gone, n is what they made. -/
def rvL : Nat → List Int → Nat → Int → Option (Int × Nat)
  | 0, _, _, _ => none
  | _ + 1, [], _, _ => none
  | f + 1, b :: bs, k, n =>
    if b < 128 then (if (b = 0 ∧ 0 < k) ∨ 1000000000 < n + b % 128 * 128 ^ k then none else some (n + b % 128 * 128 ^ k, k + 1))
    else rvL f bs (k + 1) (n + b % 128 * 128 ^ k)
theorem dec_app : ∀ (xs ys : List Int), dec (xs ++ ys) = dec xs + 128 ^ xs.length * dec ys
  | [], ys => by simp [dec]
  | x :: xs, ys => by
    have := dec_app xs ys
    simp only [List.cons_append, dec, List.length_cons, Int.pow_succ] at this ⊢
    rw [this, Int.mul_add, ← Int.mul_assoc, Int.mul_comm (128 : Int) (128 ^ xs.length)]
    omega
theorem dec_one (b : Int) : dec [b] = b % 128 := by simp [dec]
theorem dec_snoc (xs : List Int) (b : Int) : dec (xs ++ [b]) = dec xs + b % 128 * 128 ^ xs.length := by
  rw [dec_app, dec_one, Int.mul_comm]
theorem rvL_sound : ∀ (f : Nat) (bs : List Int) (k : Nat) (pre : List Int) (m : Int) (j : Nat), (∀ b ∈ pre, 128 ≤ b ∧ b ≤ 255) → pre.length = k → (∀ b ∈ bs, 0 ≤ b ∧ b ≤ 255) →
    rvL f bs k (dec pre) = some (m, j) → 0 ≤ m ∧ m ≤ 1000000000 ∧ k < j ∧ j ≤ k + bs.length ∧ vl m.toNat = pre ++ bs.take (j - k)
  | 0, _, _, _, _, _, _, _, _, h => by simp [rvL] at h
  | _ + 1, [], _, _, _, _, _, _, _, h => by simp [rvL] at h
  | f + 1, b :: bs, k, pre, m, j, hp, hk, hb, h => by
    have hb0 := hb b List.mem_cons_self
    have hn : dec pre + b % 128 * 128 ^ k = dec (pre ++ [b]) := by rw [dec_snoc, hk]
    simp only [rvL] at h
    rw [hn] at h
    by_cases h1 : b < 128
    · rw [if_pos h1] at h
      by_cases h2 : (b = 0 ∧ 0 < k) ∨ 1000000000 < dec (pre ++ [b])
      · rw [if_pos h2] at h; cases h
      · rw [if_neg h2] at h
        simp only [Option.some.injEq, Prod.mk.injEq] at h
        obtain ⟨rfl, rfl⟩ := h
        refine ⟨dec_nonneg _, by omega, by omega, by simp, ?_⟩
        rw [vl_dec pre b hp hb0.1 (by omega) (by
          rcases Nat.eq_zero_or_pos k with h0 | h0
          · left; exact List.eq_nil_of_length_eq_zero (by omega)
          · right; intro e; exact h2 (.inl ⟨e, h0⟩))]
        rw [show k + 1 - k = 1 by omega]; rfl
    · rw [if_neg h1] at h
      obtain ⟨h3, h4, h5, h6, h7⟩ := rvL_sound f bs (k + 1) (pre ++ [b]) m j (by
        intro x hx
        rcases List.mem_append.1 hx with hx | hx
        · exact hp x hx
        · have := List.mem_singleton.1 hx
          subst this
          omega) (by simp [hk]) (fun x hx => hb x (List.mem_cons_of_mem _ hx)) h
      refine ⟨h3, h4, by omega, by simp only [List.length_cons]; omega, ?_⟩
      rw [h7, show j - k = (j - (k + 1)) + 1 by omega, List.take_succ_cons, List.append_assoc]; rfl
theorem vl_len : ∀ (j m : Nat), 1 ≤ j → m < 128 ^ j → (vl m).length ≤ j
  | 0, _, h, _ => by omega
  | j + 1, m, _, h => by
    by_cases h1 : 127 < m
    · rw [vl_big h1]
      rcases Nat.eq_zero_or_pos j with rfl | hj
      · simp at h; omega
      · have := vl_len j (m / 128) hj (by rw [Nat.pow_succ] at h; omega)
        simp only [List.length_cons]; omega
    · rw [vl_small h1]; simp
/-- ReadVar's answer at the bytes that are left. -/
def rv (bs : List Int) : Option (Int × Nat) := rvL 5 bs 0 0
theorem rv_sound {bs : List Int} {m : Int} {j : Nat} (hb : ∀ b ∈ bs, 0 ≤ b ∧ b ≤ 255) (h : rv bs = some (m, j)) : 0 ≤ m ∧ m ≤ 1000000000 ∧ 0 < j ∧ j ≤ bs.length ∧ vl m.toNat = bs.take j := by
  obtain ⟨h1, h2, h3, h4, h5⟩ := rvL_sound 5 bs 0 [] m j (by simp) rfl hb h
  exact ⟨h1, h2, h3, by omega, by simpa using h5⟩
def varT (n : Int) : ByteArray := strOfNums (vl n.toNat)
theorem bytesOf_varT (n : Int) : bytesOf (varT n) = vl n.toNat := bytesOf_str _ (vl_bytes _)

theorem varT_size {n : Int} (h0 : 0 ≤ n) (h1 : n ≤ 9223372036854775807) : (varT n).size ≤ 10 := by
  unfold varT
  rw [strOfNums_size]
  exact vl_len 10 n.toNat (by omega) (by omega)
def oneB (l : List Int) : ByteArray := strOfNums (l.map (· % 256))
def eokC (t k : Int) (d : ByteArray) : Bool := if 0 ≤ t ∧ t ≤ 100000 then (if k = 1 then d.toList == [] else if k = 2 then (rconfC d).2 else if k = 3 then decide ((d.size : Int) ≤ 120) else false) else false
def entT (i t k : Int) (d : ByteArray) : ByteArray := ((((⟨#[69]⟩ : ByteArray) ++ varT i) ++ varT t) ++ oneB [k]) ++ d
def entC (i t k : Int) (d : ByteArray) : ByteArray × Bool := if eokC t k d = true ∧ 1 ≤ i ∧ i ≤ 1000000 then (entT i t k d, true) else (⟨#[]⟩, false)
theorem eokC_term {t k : Int} {d : ByteArray} (h : eokC t k d = true) : 0 ≤ t ∧ t ≤ 100000 := by
  unfold eokC at h
  by_cases h1 : 0 ≤ t ∧ t ≤ 100000
  · exact h1
  · rw [if_neg h1] at h; cases h
def rvO (at0 : Int) (o : Option (Int × Nat)) : Int × Int × Bool := match o with
  | some (m, j) => (m, at0 + (j : Int), true)
  | none => (0, 0, false)
def rvC (s : ByteArray) (at0 : Int) : Int × Int × Bool := if 0 ≤ at0 ∧ at0 ≤ (s.size : Int) then rvO at0 (rv ((bytesOf s).drop at0.toNat)) else (0, 0, false)
theorem pow5 {kk : Nat} (h : kk ≤ 4) : (128 : Int) ^ (kk + 1) ≤ 34359738368 := by
  obtain rfl | rfl | rfl | rfl | rfl : kk = 0 ∨ kk = 1 ∨ kk = 2 ∨ kk = 3 ∨ kk = 4 := by omega
  all_goals decide
theorem dec_lt : ∀ (xs : List Int) {k : Nat}, xs.length ≤ k → dec xs < 128 ^ k
  | [], k, _ => by simp only [dec]; exact Int.pow_pos (by decide)
  | x :: xs, k, h => by
    obtain ⟨j, rfl⟩ : ∃ j, k = j + 1 := ⟨k - 1, by simp at h; omega⟩
    have := dec_lt xs (k := j) (by simp at h; omega)
    simp only [dec]
    rw [Int.pow_succ]
    omega

theorem rvC_range (s : ByteArray) (at0 : Int) (h : (rvC s at0).2.2 = true) : 0 ≤ at0 ∧ 0 ≤ (rvC s at0).1 ∧ (rvC s at0).1 ≤ 1000000000 ∧ at0 < (rvC s at0).2.1 ∧ (rvC s at0).2.1 ≤ (s.size : Int) := by
  unfold rvC at h ⊢
  by_cases h1 : 0 ≤ at0 ∧ at0 ≤ (s.size : Int)
  · rw [if_pos h1] at h ⊢
    cases e : rv ((bytesOf s).drop at0.toNat) with
    | none => rw [e] at h; simp [rvO] at h
    | some p =>
      obtain ⟨m, j⟩ := p
      have := rv_sound (fun b hb => bytesOf_range s b (List.mem_of_mem_drop hb)) e
      rw [List.length_drop, bytesOf_length] at this
      simp only [rvO]
      omega
  · rw [if_neg h1] at h; simp at h
theorem spec_l01In_eq (a b c : Int) : spec_l01In.f a b c = some (decide (b ≤ a ∧ a ≤ c)) := by
  unfold spec_l01In.f
  by_cases h : a ≥ b
  · rw [if_pos h]; simp [show b ≤ a from h]
  · rw [if_neg h]; simp [show ¬ b ≤ a from h]

theorem spec_l01Var_l0 (n : Nat) : ∀ out : List Int, n ≤ 9223372036854775807 → out.length + (vl n).length ≤ 140737488355328 →
    Ev (fun k => spec_l01Var.l0 k (n : Int) out) (strOfNums (out ++ vl n)) := by
  induction n using Nat.strongRecOn with
  | _ n ih =>
    intro out hn hl
    by_cases h : 127 < n
    · rw [vl_big h] at hl ⊢
      simp only [List.length_cons] at hl
      refine Ev.step (f := fun k => spec_l01Var.l0 k ((n / 128 : Nat) : Int) (out ++ [((n % 128 + 128 : Nat) : Int)])) (fun k => ?_) ?_
      · simp only [spec_l01Var.l0]
        rw [if_pos (by omega), if_pos (by omega), tmod_nat (by omega), tdiv_nat (by omega), w64 (by omega) (by omega), w64 (by omega) (by omega)]
        congr 3
        omega
      · have := ih (n / 128) (by omega) (out ++ [((n % 128 + 128 : Nat) : Int)]) (by omega) (by simp; omega)
        rwa [List.append_assoc] at this
    · rw [vl_small h] at hl ⊢
      simp only [List.length_cons, List.length_nil] at hl
      refine Ev.step (f := fun _ => some (strOfNums (out ++ [(n : Int)]))) (fun k => ?_) (Ev.now _)
      simp only [spec_l01Var.l0]
      rw [if_neg (by omega), if_pos (by omega), show (n : Int) % 256 = n by omega]
theorem spec_l01Var_ev {n : Int} (h0 : 0 ≤ n) (h1 : n ≤ 9223372036854775807) : Ev (fun k => spec_l01Var.f k n) (varT n) := by
  have hl := vl_len 10 n.toNat (by omega) (by omega)
  have := spec_l01Var_l0 n.toNat [] (by omega) (by simp; omega)
  rw [Int.toNat_of_nonneg h0] at this
  exact this

theorem pre_snoc {s : ByteArray} {a kk : Nat} (h : ((a : Int) + (kk : Int)) < (s.size : Int)) : ((bytesOf s).drop a).take (kk + 1) = ((bytesOf s).drop a).take kk ++ [bt s ((a : Int) + kk)] := by
  rw [List.take_add_one]
  congr 1
  rw [List.getElem?_drop]
  have := bt_getElem (s := s) (i := (a : Int) + kk) (by omega)
  rw [show ((a : Int) + (kk : Int)).toNat = a + kk by omega] at this
  rw [this]; rfl
theorem spec_ReadVar_l0 (s : ByteArray) (a : Nat) (h1 : a ≤ s.size) (hs : s.size ≤ 140737488351232) : ∀ (f kk : Nat), f + kk = 5 → a + kk ≤ s.size → (∀ b ∈ ((bytesOf s).drop a).take kk, 128 ≤ b ∧ b ≤ 255) →
    Ev (fun k => spec_ReadVar.l0 k s (a : Int) (dec (((bytesOf s).drop a).take kk)) (128 ^ kk) ((a : Int) + (kk : Int))) (rvO (a : Int) (rvL f ((bytesOf s).drop (a + kk)) kk (dec (((bytesOf s).drop a).take kk))))
  | 0, kk, hf, hk, hp => by
    refine Ev.step (f := fun k => spec_ReadVar.j1 k s (a : Int) (dec (((bytesOf s).drop a).take kk)) (128 ^ kk) ((a : Int) + (kk : Int)) false) (fun k => ?_) ?_
    · simp only [spec_ReadVar.l0]
      rw [w64 (by omega) (by omega)]
      have : decide ((a : Int) + (kk : Int) < (a : Int) + 5) = false := decide_eq_false (by omega)
      rw [this]
      split <;> rfl
    · refine Ev.step (f := fun _ => some (0, 0, false)) (fun k => ?_) (Ev.now _)
      simp [spec_ReadVar.j1]
  | f + 1, kk, hf, hk, hp => by
    have hlen : (((bytesOf s).drop a).take kk).length = kk := by
      rw [List.length_take, List.length_drop, bytesOf_length]; omega
    by_cases hlt : (a : Int) + (kk : Int) < (s.size : Int)
    · have c1 : (0 : Int) ≤ (a : Int) := Int.natCast_nonneg a
      have c2 : (a : Int) ≤ (a : Int) + (kk : Int) + 1 := by omega
      have c3 : (a : Int) + (kk : Int) + 1 ≤ (s.size : Int) := by omega
      have c4 : wrap64 ((a : Int) + (kk : Int) + 1) = (a : Int) + (kk : Int) + 1 := w64 (by omega) (by omega)
      have hb := bt_range s ((a : Int) + kk)
      have hsn := pre_snoc (s := s) (a := a) (kk := kk) hlt
      have hn : dec (((bytesOf s).drop a).take kk) + bt s ((a : Int) + kk) % 128 * 128 ^ kk = dec (((bytesOf s).drop a).take (kk + 1)) := by
        rw [hsn, dec_snoc, hlen]
      have hnn := dec_nonneg (((bytesOf s).drop a).take kk)
      have hbound : dec (((bytesOf s).drop a).take (kk + 1)) < 128 ^ (kk + 1) := dec_lt _ (by rw [List.length_take]; omega)
      have hdrop : (bytesOf s).drop (a + kk) = bt s ((a : Int) + kk) :: (bytesOf s).drop (a + (kk + 1)) := by
        have := bytesOf_drop (s := s) (i := (a : Int) + kk) (by omega) hlt
        rwa [show ((a : Int) + (kk : Int)).toNat = a + kk by omega, show ((a : Int) + (kk : Int) + 1).toNat = a + (kk + 1) by omega] at this
      have h128 := pow5 (kk := kk) (by omega)
      have h128' : (128 : Int) ^ (kk + 1) = 128 ^ kk * 128 := Int.pow_succ ..
      have hpos : (0 : Int) < 128 ^ kk := Int.pow_pos (by decide)
      have hmul : 0 ≤ bt s ((a : Int) + kk) % 128 * 128 ^ kk := Int.mul_nonneg (by omega) (by omega)
      have hmul2 : bt s ((a : Int) + kk) % 128 * 128 ^ kk ≤ 127 * 128 ^ kk := Int.mul_le_mul_of_nonneg_right (by omega) (by omega)
      have hnn1 := dec_nonneg (((bytesOf s).drop a).take (kk + 1))
      have hcalc : wrap64 (dec (((bytesOf s).drop a).take kk) + wrap64 (Int.tmod (wrap64 (bt s ((a : Int) + kk))) 128 * 128 ^ kk)) = dec (((bytesOf s).drop a).take (kk + 1)) := by
        rw [w64 (n := bt s ((a : Int) + kk)) (by omega) (by omega), tmod_nat hb.1, w64 (n := bt s ((a : Int) + kk) % 128 * 128 ^ kk) (by omega) (by omega), hn, w64 (by omega) (by omega)]
      refine Ev.step (f := fun k => spec_ReadVar.j1 k s (a : Int) (dec (((bytesOf s).drop a).take kk)) (128 ^ kk) ((a : Int) + (kk : Int)) true) (fun k => ?_) ?_
      · simp only [spec_ReadVar.l0]
        rw [w64 (by omega) (by omega), if_pos hlt]
        have : decide ((a : Int) + (kk : Int) < (a : Int) + 5) = true := decide_eq_true (by omega)
        rw [this]
      · rw [hdrop]
        by_cases hb2 : bt s ((a : Int) + kk) < 128
        · by_cases hm : dec (((bytesOf s).drop a).take (kk + 1)) > 1000000000
          · refine Ev.step (f := fun _ => some (0, 0, false)) (fun k => ?_) ?_
            · simp only [spec_ReadVar.j1]
              rw [if_pos trivial, if_pos (by omega), if_pos hlt, if_pos hb2, hcalc, if_pos hm]
            · simp only [rvL]
              rw [hn, if_pos hb2, if_pos (.inr hm)]
              exact Ev.now _
          · obtain ⟨K, hK⟩ := spec_l01Var_ev (n := dec (((bytesOf s).drop a).take (kk + 1))) hnn1 (by omega)
            refine ⟨K + 1, fun k hk => ?_⟩
            obtain ⟨k, rfl⟩ : ∃ m, k = m + 1 := ⟨k - 1, by omega⟩
            have e0 : spec_l01Var.f k _ = some _ := hK k (by omega)
            simp only [spec_ReadVar.j1]
            rw [if_pos trivial, if_pos (by omega), if_pos hlt, if_pos hb2, hcalc, if_neg hm, e0, Option.bind_some]
            rw [if_pos c1, c4, if_pos c2, if_pos c3]
            have hext : bytesOf (s.extract ((a : Int)).toNat ((a : Int) + (kk : Int) + 1).toNat) = ((bytesOf s).drop a).take kk ++ [bt s ((a : Int) + kk)] := by
              rw [bytesOf_ext, ← hsn, Int.toNat_natCast, show ((a : Int) + (kk : Int) + 1).toNat - a = kk + 1 by omega]
            simp only [rvL]
            rw [hn, if_pos hb2]
            by_cases hz : bt s ((a : Int) + kk) = 0 ∧ 0 < kk
            · have hne : ¬ (varT (dec (((bytesOf s).drop a).take (kk + 1)))).toList = (s.extract ((a : Int)).toNat ((a : Int) + (kk : Int) + 1).toNat).toList := by
                rw [toList_iff]
                intro e
                have e2 := congrArg bytesOf e
                rw [bytesOf_varT, hext, hz.1] at e2
                refine vl_ne _ (fun e3 => ?_) _ e2
                rw [e3] at hlen
                simp at hlen
                omega
              rw [if_neg hne, if_pos (.inl hz)]; rfl
            · have heq : (varT (dec (((bytesOf s).drop a).take (kk + 1)))).toList = (s.extract ((a : Int)).toNat ((a : Int) + (kk : Int) + 1).toNat).toList := by
                rw [toList_iff]
                apply bytesOf_inj
                rw [bytesOf_varT, hext]
                rw [hsn]
                refine vl_dec _ _ hp hb.1 (by omega) ?_
                rcases Nat.eq_zero_or_pos kk with h3 | h3
                · left; subst h3; rfl
                · right; intro e; exact hz ⟨e, h3⟩
              rw [if_pos heq, if_neg (by omega)]
              simp only [rvO, Int.add_assoc, Int.natCast_add, Int.cast_ofNat_Int]
        · refine Ev.step (f := fun k => spec_ReadVar.l0 k s (a : Int) (dec (((bytesOf s).drop a).take (kk + 1))) (128 ^ (kk + 1)) ((a : Int) + ((kk + 1 : Nat) : Int))) (fun k => ?_) ?_
          · simp only [spec_ReadVar.j1]
            rw [if_pos trivial, if_pos (by omega), if_pos hlt, if_neg hb2, hcalc, w64 (n := (a : Int) + kk + 1) (by omega) (by omega), w64 (n := 128 ^ kk * 128) (by omega) (by omega), ← h128', show (a : Int) + (kk : Int) + 1 = (a : Int) + ((kk + 1 : Nat) : Int) by omega]
          · simp only [rvL]
            rw [if_neg hb2, hn]
            refine spec_ReadVar_l0 s a h1 hs f (kk + 1) (by omega) (by omega) ?_
            intro x hx
            rw [hsn] at hx
            rcases List.mem_append.1 hx with hx | hx
            · exact hp x hx
            · have := List.mem_singleton.1 hx
              subst this
              omega
    · have hend : (bytesOf s).drop (a + kk) = [] := by
        have := bytesOf_drop_end (s := s) (i := (a : Int) + kk) hlt
        rwa [show ((a : Int) + (kk : Int)).toNat = a + kk by omega] at this
      rw [hend]
      refine Ev.step (f := fun k => spec_ReadVar.j1 k s (a : Int) (dec (((bytesOf s).drop a).take kk)) (128 ^ kk) ((a : Int) + (kk : Int)) false) (fun k => ?_) ?_
      · simp only [spec_ReadVar.l0]
        rw [if_neg hlt]
      · refine Ev.step (f := fun _ => some (0, 0, false)) (fun k => ?_) (Ev.now _)
        simp [spec_ReadVar.j1]
theorem spec_ReadVar_ev (s : ByteArray) (at0 : Int) (hs : s.size ≤ 140737488351232) : Ev (fun k => spec_ReadVar.f k s at0) (rvC s at0) := by
  by_cases h : 0 ≤ at0 ∧ at0 ≤ (s.size : Int)
  · obtain ⟨a, rfl⟩ := Int.eq_ofNat_of_zero_le h.1
    obtain ⟨K, hK⟩ := spec_ReadVar_l0 s a (by omega) hs 5 0 rfl (by omega) (by simp)
    refine ⟨K, fun k hk => ?_⟩
    have := hK k hk
    simp only [spec_ReadVar.f, spec_l01In_eq, Option.bind_some, h, rvC, rv]
    simpa [dec] using this
  · refine ⟨0, fun k _ => ?_⟩
    simp only [spec_ReadVar.f, spec_l01In_eq, Option.bind_some, h, rvC]
    simp

theorem impl_in_eq (a b c : Int) : impl_in.f a b c = some (decide (b ≤ a ∧ a ≤ c)) := by
  unfold impl_in.f
  by_cases h : a ≥ b
  · rw [if_pos h]; simp [show b ≤ a from h]
  · rw [if_neg h]; simp [show ¬ b ≤ a from h]

theorem bits_low7 {n : Int} (h0 : 0 ≤ n) (h1 : n ≤ 9223372036854775807) : Go.bits .and .i64 n 127 = n % 128 :=
  bits_mask .i64 63 (by decide) (fun n h0 h1 => by rw [IntKind.wrap_i64]; omega) 7 (by decide) n h0 (by omega)
theorem or_add (a b i : Nat) (hi : i ≤ 40) (ha : a < 2 ^ i) (hb : b < 128) : Go.bits .or .i64 (a : Int) ((2 ^ i * b : Nat) : Int) = (a : Int) + ((2 ^ i * b : Nat) : Int) := by
  have e : 2 ^ i * b < 2 ^ 63 := by
    have h1 : 2 ^ i ≤ 2 ^ 40 := Nat.pow_le_pow_right (by decide) hi
    calc 2 ^ i * b ≤ 2 ^ 40 * b := Nat.mul_le_mul_right _ h1
      _ < 2 ^ 63 := by omega
  have e2 : a < 2 ^ 63 := Nat.lt_of_lt_of_le ha (Nat.pow_le_pow_right (by decide) (by omega))
  rw [(bits_nat .i64 63 (by decide) (fun n h0 h1 => by rw [IntKind.wrap_i64]; omega) a (2 ^ i * b) e2 e).2, Nat.or_comm, ← Nat.two_pow_add_eq_or_of_lt ha b]
  omega
theorem or_shl {n b : Int} {kk : Nat} (hk : kk ≤ 4) (h0 : 0 ≤ n) (h1 : n < 128 ^ kk) (hb0 : 0 ≤ b) (hb1 : b ≤ 255) :
    Go.bits .or .i64 n (shl .i64 (Go.bits .and .i64 (wrap64 b) 127) (wrap64 (7 * (kk : Int)))) = n + b % 128 * 128 ^ kk := by
  rw [w64 (by omega) (by omega), w64 (by omega) (by omega), bits_low7 hb0 (by omega)]
  obtain ⟨a, rfl⟩ := Int.eq_ofNat_of_zero_le h0
  obtain ⟨c, rfl⟩ := Int.eq_ofNat_of_zero_le hb0
  have key := or_add a (c % 128) (7 * kk) (by omega) (by
    have : ((a : Nat) : Int) < ((128 ^ kk : Nat) : Int) := by simpa using h1
    have h2 : a < 128 ^ kk := by omega
    rwa [show 2 ^ (7 * kk) = 128 ^ kk by rw [Nat.pow_mul]]) (by omega)
  have es : shl .i64 ((c : Int) % 128) (7 * (kk : Int)) = ((2 ^ (7 * kk) * (c % 128) : Nat) : Int) := by
    unfold shl
    have hm : min ((7 * (kk : Int)).toNat) IntKind.i64.bits = 7 * kk := by
      have : (7 * (kk : Int)).toNat = 7 * kk := by omega
      rw [this]
      exact Nat.min_eq_left (by simp [IntKind.bits]; omega)
    rw [hm, IntKind.wrap_i64]
    obtain rfl | rfl | rfl | rfl | rfl : kk = 0 ∨ kk = 1 ∨ kk = 2 ∨ kk = 3 ∨ kk = 4 := by omega
    all_goals simp only [Nat.reduceMul, Nat.reducePow, Int.reducePow, Nat.mul_zero, Nat.pow_zero, Int.pow_zero]; omega
  rw [es, key]
  congr 1
  rw [show 2 ^ (7 * kk) = 128 ^ kk by rw [Nat.pow_mul]]
  simp [Int.mul_comm]
theorem impl_ReadVar_l0 (s : ByteArray) (at0 : Int) (h0 : 0 ≤ at0) (h1 : at0 ≤ (s.size : Int)) (hs : s.size ≤ 140737488351232) : ∀ (f kk : Nat) (n : Int), f + kk = 5 → 0 ≤ n → n < 128 ^ kk →
    Ev (fun k => impl_ReadVar.l0 k s at0 n (kk : Int)) (rvO at0 (rvL f ((bytesOf s).drop (at0 + kk).toNat) kk n))
  | 0, kk, n, hf, _, _ => by
    refine Ev.step (f := fun k => impl_ReadVar.j1 k s at0 n (kk : Int) false) (fun k => ?_) ?_
    · simp only [impl_ReadVar.l0]; rw [if_neg (by omega)]
    · refine Ev.step (f := fun _ => some (0, 0, false)) (fun k => ?_) (Ev.now _)
      simp [impl_ReadVar.j1]
  | f + 1, kk, n, hf, hn0, hn1 => by
    refine Ev.step (f := fun k => impl_ReadVar.j1 k s at0 n (kk : Int) (decide (wrap64 (at0 + (kk : Int)) < (s.size : Int)))) (fun k => ?_) ?_
    · simp only [impl_ReadVar.l0]; rw [if_pos (by omega)]
    · rw [w64 (by omega) (by omega)]
      by_cases hlt : at0 + (kk : Int) < (s.size : Int)
      · have hb := bt_range s (at0 + kk)
        have hor := or_shl (n := n) (b := bt s (at0 + kk)) (kk := kk) (by omega) hn0 hn1 hb.1 hb.2
        rw [bytesOf_drop (by omega) hlt]
        have hpow : n + bt s (at0 + kk) % 128 * 128 ^ kk < 128 ^ (kk + 1) := by
          rw [Int.pow_succ]
          have h3 : bt s (at0 + kk) % 128 * 128 ^ kk ≤ 127 * 128 ^ kk := Int.mul_le_mul_of_nonneg_right (by omega) (Int.le_of_lt (Int.pow_pos (by decide)))
          omega
        have hge : 0 ≤ n + bt s (at0 + kk) % 128 * 128 ^ kk := by
          have : 0 ≤ bt s (at0 + kk) % 128 * 128 ^ kk := Int.mul_nonneg (by omega) (Int.le_of_lt (Int.pow_pos (by decide)))
          omega
        by_cases hb2 : bt s (at0 + kk) < 128
        · refine Ev.step (f := fun _ => some (rvO at0 (rvL (f + 1) (bt s (at0 + kk) :: (bytesOf s).drop (at0 + kk + 1).toNat) kk n))) (fun k => ?_) (Ev.now _)
          simp only [impl_ReadVar.j1, rvL]
          rw [w64 (n := at0 + kk) (by omega) (by omega), if_pos (by simpa using hlt), if_pos (by omega), if_pos hlt, if_pos (by rw [w64 (by omega) (by omega)]; omega), hor, w64 (n := bt s (at0 + kk)) (by omega) (by omega), if_neg (by omega), if_pos hb2]
          by_cases hz : bt s (at0 + kk) = 0
          · rw [if_pos hz]
            by_cases hk : (kk : Int) > 0
            · rw [if_pos hk, if_pos (.inl ⟨hz, by omega⟩)]; rfl
            · rw [if_neg hk]
              by_cases hm : n + bt s (at0 + kk) % 128 * 128 ^ kk > 1000000000
              · rw [if_pos hm, if_pos (.inr hm)]; rfl
              · rw [if_neg hm, if_neg (by omega), w64 (by omega) (by omega)]
                simp only [rvO, Int.add_assoc, Int.natCast_add, Int.cast_ofNat_Int]
          · rw [if_neg hz]
            by_cases hm : n + bt s (at0 + kk) % 128 * 128 ^ kk > 1000000000
            · rw [if_pos hm, if_pos (.inr hm)]; rfl
            · rw [if_neg hm, if_neg (by omega), w64 (by omega) (by omega)]
              simp only [rvO, Int.add_assoc, Int.natCast_add, Int.cast_ofNat_Int]
        · refine Ev.step (f := fun k => impl_ReadVar.l0 k s at0 (n + bt s (at0 + kk) % 128 * 128 ^ kk) ((kk + 1 : Nat) : Int)) (fun k => ?_) ?_
          · simp only [impl_ReadVar.j1]
            rw [w64 (n := at0 + kk) (by omega) (by omega), if_pos (by simpa using hlt), if_pos (by omega), if_pos hlt, if_pos (by rw [w64 (by omega) (by omega)]; omega), hor, w64 (n := bt s (at0 + kk)) (by omega) (by omega), if_pos (by omega), w64 (n := (kk : Int) + 1) (by omega) (by omega)]
            rfl
          · have ih := impl_ReadVar_l0 s at0 h0 h1 hs f (kk + 1) (n + bt s (at0 + kk) % 128 * 128 ^ kk) (by omega) hge hpow
            simp only [rvL]
            rw [if_neg hb2]
            rw [show at0 + (kk : Int) + 1 = at0 + ((kk + 1 : Nat) : Int) by omega]
            exact ih
      · rw [bytesOf_drop_end hlt]
        refine Ev.step (f := fun _ => some (0, 0, false)) (fun k => ?_) (Ev.now _)
        simp [impl_ReadVar.j1, hlt]
theorem impl_ReadVar_ev (s : ByteArray) (at0 : Int) (hs : s.size ≤ 140737488351232) : Ev (fun k => impl_ReadVar.f k s at0) (rvC s at0) := by
  by_cases h : 0 ≤ at0 ∧ at0 ≤ (s.size : Int)
  · obtain ⟨K, hK⟩ := impl_ReadVar_l0 s at0 h.1 h.2 hs 5 0 0 rfl (by omega) (by decide)
    refine ⟨K, fun k hk => ?_⟩
    have := hK k hk
    simp only [impl_ReadVar.f, impl_in_eq, Option.bind_some, h, rvC, rv]
    simpa using this
  · refine ⟨0, fun k _ => ?_⟩
    simp only [impl_ReadVar.f, impl_in_eq, Option.bind_some, h, rvC]
    simp

theorem spec_l05Rise_l0 (l : List Int) (hl : l.length ≤ 140737488351232) : ∀ (d i : Nat), i + d = l.length →
    Ev (fun k => spec_l05Rise.l0 k l 1 4 (i : Int)) (riseL (prv l i) (l.drop i))
  | 0, i, hd => by
    refine Ev.step (f := fun _ => some true) (fun k => ?_) ?_
    · simp only [spec_l05Rise.l0]; rw [if_neg (by omega)]
    · rw [List.drop_eq_nil_of_le (by omega)]; exact Ev.now _
  | d + 1, i, hd => by
    have ih := spec_l05Rise_l0 l hl d (i + 1) (by omega)
    rw [prv_succ] at ih
    rw [drop_rd (by omega)]
    simp only [riseL]
    have hw : wrap64 ((i : Int) + 1) = ((i + 1 : Nat) : Int) := by rw [w64 (by omega) (by omega)]; rfl
    have hw2 : wrap64 ((i : Int) - 1) = (i : Int) - 1 := w64 (by omega) (by omega)
    by_cases h1 : 1 ≤ rd l (i : Int) ∧ rd l (i : Int) ≤ 4
    · by_cases h2 : prv l i < rd l (i : Int)
      · rw [if_pos ⟨h1.1, h1.2, h2⟩]
        refine Ev.step (f := fun k => spec_l05Rise.l0 k l 1 4 ((i + 1 : Nat) : Int)) (fun k => ?_) ih
        simp only [spec_l05Rise.l0, spec_l01In_eq]
        rw [if_pos (by omega), if_pos (by omega), Option.bind_some, if_pos (by simpa using h1), hw, hw2]
        by_cases h3 : (i : Int) > 0
        · unfold prv at h2
          rw [if_neg (by omega)] at h2
          rw [if_pos h3, if_pos (by omega), if_pos (by omega), if_neg (by omega)]
        · rw [if_neg h3]
      · rw [if_neg (fun h => h2 h.2.2)]
        refine Ev.step (f := fun _ => some false) (fun k => ?_) (Ev.now _)
        have h3 : (i : Int) > 0 := by
          rcases Nat.eq_zero_or_pos i with rfl | h3
          · rw [show prv l 0 = 0 from rfl] at h2; omega
          · omega
        unfold prv at h2
        rw [if_neg (by omega)] at h2
        simp only [spec_l05Rise.l0, spec_l01In_eq]
        rw [if_pos (by omega), if_pos (by omega), Option.bind_some, if_pos (by simpa using h1), hw2, if_pos h3, if_pos (by omega), if_pos (by omega), if_pos (by omega)]
    · rw [if_neg (fun h => h1 ⟨h.1, h.2.1⟩)]
      refine Ev.step (f := fun _ => some false) (fun k => ?_) (Ev.now _)
      simp only [spec_l05Rise.l0, spec_l01In_eq]
      rw [if_pos (by omega), if_pos (by omega), Option.bind_some, if_neg (by simpa using h1)]
theorem spec_ConfOk_ev (l : List Int) (hl : l.length ≤ 140737488351232) : Ev (fun k => spec_ConfOk.f k l) (confC l) := by
  by_cases h : 1 ≤ l.length ∧ l.length ≤ 4
  · obtain ⟨K, hK⟩ := spec_l05Rise_l0 l hl l.length 0 (by omega)
    refine ⟨K, fun k hk => ?_⟩
    have e : spec_l05Rise.l0 k l 1 4 0 = some _ := hK k hk
    simp only [spec_ConfOk.f, spec_l05Rise.f, spec_l01In_eq]
    rw [Option.bind_some, if_pos (by simp; omega), e, Option.bind_some]
    unfold confC
    rw [decide_eq_true h.1]; rfl
  · refine ⟨0, fun k _ => ?_⟩
    simp only [spec_ConfOk.f, spec_l01In_eq]
    rw [Option.bind_some, if_neg (by simp; omega)]
    cases hc : confC l with
    | false => rfl
    | true => exact absurd (confC_len hc) h

theorem spec_ReadConf_l0 (s : ByteArray) (hs : s.size ≤ 1048576) : ∀ (d i : Nat), i + d = min s.size 5 →
    Ev (fun k => spec_ReadConf.l0 k s ((bytesOf s).take i) (i : Int)) (rconfC s)
  | 0, i, hd => by
    have hbl := bytesOf_length s
    have hlen : ((bytesOf s).take i).length = i := by rw [List.length_take, bytesOf_length]; omega
    by_cases h : i < s.size
    · refine Ev.step (f := fun _ => some ([], false)) (fun k => ?_) ?_
      · simp only [spec_ReadConf.l0]; rw [if_pos (by omega), if_neg (by omega), if_neg (by omega)]
      · have : ¬ confC (bytesOf s) = true := fun h => by have := confC_len h; omega
        unfold rconfC
        rw [if_neg this]; exact Ev.now _
    · have e : (bytesOf s).take i = bytesOf s := List.take_of_length_le (by omega)
      rw [e]
      obtain ⟨K, hK⟩ := spec_ConfOk_ev (bytesOf s) (by omega)
      refine ⟨K + 1, fun k hk => ?_⟩
      obtain ⟨k, rfl⟩ : ∃ m, k = m + 1 := ⟨k - 1, by omega⟩
      have e2 : spec_ConfOk.f k (bytesOf s) = some _ := hK k (by omega)
      simp only [spec_ReadConf.l0]
      rw [if_neg (by omega), if_pos (by omega), e2, Option.bind_some]
      unfold rconfC
      by_cases hc : confC (bytesOf s) = true
      · rw [if_pos hc, if_pos hc]
      · rw [if_neg hc, if_neg hc]
  | d + 1, i, hd => by
    have hb := bt_range s (i : Int)
    have hlen : ((bytesOf s).take i).length = i := by rw [List.length_take, bytesOf_length]; omega
    refine Ev.step (f := fun k => spec_ReadConf.l0 k s ((bytesOf s).take (i + 1)) ((i + 1 : Nat) : Int)) (fun k => ?_) (spec_ReadConf_l0 s hs d (i + 1) (by omega))
    simp only [spec_ReadConf.l0]
    rw [if_pos (by omega), if_pos (by omega), if_pos (by omega), if_pos (by omega), w64 (n := bt s (i : Int)) (by omega) (by omega), w64 (by omega) (by omega), take_bytes_succ (by omega)]; rfl
theorem spec_ReadConf_ev (s : ByteArray) (hs : s.size ≤ 1048576) : Ev (fun k => spec_ReadConf.f k s) (rconfC s) :=
  spec_ReadConf_l0 s hs (min s.size 5) 0 (by omega)

theorem spec_EntryOk_ev (t k : Int) (d : ByteArray) (hd : d.size ≤ 1048576) : Ev (fun n => spec_EntryOk.f n t k d) (eokC t k d) := by
  obtain ⟨K, hK⟩ := spec_ReadConf_ev d hd
  refine ⟨K, fun n hn => ?_⟩
  have e : spec_ReadConf.f n d = some _ := hK n hn
  simp only [spec_EntryOk.f, spec_l01In_eq, eokC]
  rw [Option.bind_some]
  by_cases h : 0 ≤ t ∧ t ≤ 100000
  · rw [if_pos (by simpa using h), if_pos h]
    by_cases h1 : k = 1
    · rw [if_pos h1, if_pos h1]
    · rw [if_neg h1, if_neg h1]
      by_cases h2 : k = 2
      · rw [if_pos h2, if_pos h2, e, Option.bind_some]
      · rw [if_neg h2, if_neg h2]
        by_cases h3 : k = 3
        · rw [if_pos h3, if_pos h3]
        · rw [if_neg h3, if_neg h3]
  · rw [if_neg (by simpa using h), if_neg h]

theorem spec_EntryText_ev (i t k : Int) (d : ByteArray) (hd : d.size ≤ 1048576) : Ev (fun n => spec_EntryText.f n i t k d) (entC i t k d) := by
  obtain ⟨K, hK⟩ := spec_EntryOk_ev t k d hd
  by_cases h : eokC t k d = true
  · by_cases h1 : 1 ≤ i ∧ i ≤ 1000000
    · have ht := eokC_term h
      obtain ⟨K1, hK1⟩ := spec_l01Var_ev (n := i) (by omega) (by omega)
      obtain ⟨K2, hK2⟩ := spec_l01Var_ev (n := t) (by omega) (by omega)
      refine ⟨K + K1 + K2 + 1, fun n hn => ?_⟩
      obtain ⟨n, rfl⟩ : ∃ m, n = m + 1 := ⟨n - 1, by omega⟩
      have e : spec_EntryOk.f (n + 1) t k d = some _ := hK _ (by omega)
      have e1 : spec_l01Var.f n i = some _ := hK1 _ (by omega)
      have e2 : spec_l01Var.f n t = some _ := hK2 _ (by omega)
      have z1 := varT_size (n := i) (by omega) (by omega)
      have z2 := varT_size (n := t) (by omega) (by omega)
      have z3 : (strOfNums [k % 256]).size = 1 := by rw [strOfNums_size]; rfl
      have z0 : (⟨#[69]⟩ : ByteArray).size = 1 := rfl
      simp only [spec_EntryText.f, spec_l01In_eq, entC]
      rw [e, Option.bind_some, if_pos h, Option.bind_some, show (!(decide (1 ≤ i ∧ i ≤ 1000000))) = false by simp; omega, if_pos ⟨h, h1⟩]
      simp only [spec_EntryText.j0]
      rw [if_neg (by simp), e1, Option.bind_some, if_pos (by omega), e2, Option.bind_some, if_pos (by simp only [ByteArray.size_append]; omega), Option.bind_some, if_pos (by simp only [ByteArray.size_append]; omega), if_pos (by simp only [ByteArray.size_append]; omega)]
      rfl
    · refine ⟨K + 1, fun n hn => ?_⟩
      obtain ⟨n, rfl⟩ : ∃ m, n = m + 1 := ⟨n - 1, by omega⟩
      have e : spec_EntryOk.f (n + 1) t k d = some _ := hK _ (by omega)
      simp only [spec_EntryText.f, spec_l01In_eq, entC]
      rw [e, Option.bind_some, if_pos h, Option.bind_some, show (!(decide (1 ≤ i ∧ i ≤ 1000000))) = true by simp; omega, if_neg (fun h2 => h1 h2.2)]
      simp only [spec_EntryText.j0]
      rw [if_pos trivial]
  · refine ⟨K + 1, fun n hn => ?_⟩
    obtain ⟨n, rfl⟩ : ∃ m, n = m + 1 := ⟨n - 1, by omega⟩
    have e : spec_EntryOk.f (n + 1) t k d = some _ := hK _ (by omega)
    simp only [spec_EntryText.f, entC]
    rw [e, Option.bind_some, if_neg h, if_neg (fun h2 => h h2.1)]
    simp only [spec_EntryText.j0]
    rw [if_pos trivial]

theorem impl_ConfOk_l0 (l : List Int) (hl : l.length ≤ 140737488351232) : ∀ (d i : Nat), i + d = l.length →
    Ev (fun k => impl_ConfOk.l0 k l l (l.length : Int) (i : Int)) (riseL (prv l i) (l.drop i) && decide (1 ≤ l.length))
  | 0, i, hd => by
    refine Ev.step (f := fun _ => some (decide ((l.length : Int) ≥ 1))) (fun k => ?_) ?_
    · simp only [impl_ConfOk.l0]; rw [if_neg (by omega)]
    · rw [List.drop_eq_nil_of_le (by omega)]
      have : (true && decide (1 ≤ l.length)) = decide ((l.length : Int) ≥ 1) := by
        rw [Bool.true_and]
        by_cases h : 1 ≤ l.length
        · rw [decide_eq_true h, decide_eq_true (by omega)]
        · rw [decide_eq_false h, decide_eq_false (by omega)]
      simp only [riseL]
      rw [this]
      exact Ev.now _
  | d + 1, i, hd => by
    have ih := impl_ConfOk_l0 l hl d (i + 1) (by omega)
    rw [prv_succ] at ih
    rw [drop_rd (by omega)]
    simp only [riseL]
    have hw : wrap64 ((i : Int) + 1) = ((i + 1 : Nat) : Int) := by rw [w64 (by omega) (by omega)]; rfl
    have hw2 : wrap64 ((i : Int) - 1) = (i : Int) - 1 := w64 (by omega) (by omega)
    by_cases h1 : 1 ≤ rd l (i : Int) ∧ rd l (i : Int) ≤ 4
    · by_cases h2 : prv l i < rd l (i : Int)
      · rw [if_pos ⟨h1.1, h1.2, h2⟩]
        refine Ev.step (f := fun k => impl_ConfOk.l0 k l l (l.length : Int) ((i + 1 : Nat) : Int)) (fun k => ?_) ih
        simp only [impl_ConfOk.l0, impl_in_eq]
        rw [if_pos (by omega), if_pos (by omega), if_pos (by omega), Option.bind_some, if_pos (by simpa using h1), hw, hw2]
        by_cases h3 : (i : Int) > 0
        · unfold prv at h2
          rw [if_neg (by omega)] at h2
          rw [if_pos h3, if_pos (by omega), if_pos (by omega), if_neg (by omega)]
        · rw [if_neg h3]
      · rw [if_neg (fun h => h2 h.2.2)]
        refine Ev.step (f := fun _ => some false) (fun k => ?_) (Ev.now _)
        have h3 : (i : Int) > 0 := by
          rcases Nat.eq_zero_or_pos i with rfl | h3
          · rw [show prv l 0 = 0 from rfl] at h2; omega
          · omega
        unfold prv at h2
        rw [if_neg (by omega)] at h2
        simp only [impl_ConfOk.l0, impl_in_eq]
        rw [if_pos (by omega), if_pos (by omega), if_pos (by omega), Option.bind_some, if_pos (by simpa using h1), hw2, if_pos h3, if_pos (by omega), if_pos (by omega), if_pos (by omega)]
    · rw [if_neg (fun h => h1 ⟨h.1, h.2.1⟩)]
      refine Ev.step (f := fun _ => some false) (fun k => ?_) (Ev.now _)
      simp only [impl_ConfOk.l0, impl_in_eq]
      rw [if_pos (by omega), if_pos (by omega), if_pos (by omega), Option.bind_some, if_neg (by simpa using h1)]
theorem impl_ConfOk_ev (l : List Int) (hl : l.length ≤ 140737488351232) : Ev (fun k => impl_ConfOk.f k l) (confC l) := by
  have h := impl_ConfOk_l0 l hl l.length 0 (by omega)
  unfold confC
  rw [Bool.and_comm]
  exact h

theorem impl_ReadConf_l0 (s : ByteArray) (hs : s.size ≤ 1048576) : ∀ (d i : Nat), i + d = s.size →
    Ev (fun k => impl_ReadConf.l0 k s ((bytesOf s).take i) (s.size : Int) (i : Int)) (rconfC s)
  | 0, i, hd => by
    have hbl := bytesOf_length s
    have e : (bytesOf s).take i = bytesOf s := List.take_of_length_le (by omega)
    rw [e]
    obtain ⟨K, hK⟩ := impl_ConfOk_ev (bytesOf s) (by omega)
    refine ⟨K + 1, fun k hk => ?_⟩
    obtain ⟨k, rfl⟩ : ∃ m, k = m + 1 := ⟨k - 1, by omega⟩
    have e2 : impl_ConfOk.f k (bytesOf s) = some _ := hK k (by omega)
    simp only [impl_ReadConf.l0]
    rw [if_neg (by omega), e2, Option.bind_some]
    unfold rconfC
    by_cases hc : confC (bytesOf s) = true
    · rw [if_pos hc, if_pos hc]
    · rw [if_neg hc, if_neg hc]
  | d + 1, i, hd => by
    have hb := bt_range s (i : Int)
    have hlen : ((bytesOf s).take i).length = i := by rw [List.length_take, bytesOf_length]; omega
    refine Ev.step (f := fun k => impl_ReadConf.l0 k s ((bytesOf s).take (i + 1)) (s.size : Int) ((i + 1 : Nat) : Int)) (fun k => ?_) (impl_ReadConf_l0 s hs d (i + 1) (by omega))
    simp only [impl_ReadConf.l0]
    rw [if_pos (by omega), if_pos (by omega), if_pos (by omega), if_pos (by omega), w64 (n := bt s (i : Int)) (by omega) (by omega), w64 (by omega) (by omega), take_bytes_succ (by omega)]; rfl
theorem impl_ReadConf_ev (s : ByteArray) (hs : s.size ≤ 1048576) : Ev (fun k => impl_ReadConf.f k s) (rconfC s) :=
  impl_ReadConf_l0 s hs s.size 0 (by omega)

theorem impl_EntryOk_ev (t k : Int) (d : ByteArray) (hd : d.size ≤ 1048576) : Ev (fun n => impl_EntryOk.f n t k d) (eokC t k d) := by
  obtain ⟨K, hK⟩ := impl_ReadConf_ev d hd
  refine ⟨K, fun n hn => ?_⟩
  have e : impl_ReadConf.f n d = some _ := hK n hn
  simp only [impl_EntryOk.f, impl_in_eq, eokC]
  rw [Option.bind_some]
  by_cases h : 0 ≤ t ∧ t ≤ 100000
  · rw [if_pos (by simpa using h), if_pos h]
    by_cases h1 : k = 1
    · rw [if_pos h1, if_pos h1]
    · rw [if_neg h1, if_neg h1]
      by_cases h2 : k = 2
      · rw [if_pos h2, if_pos h2, e, Option.bind_some]
      · rw [if_neg h2, if_neg h2]
        by_cases h3 : k = 3
        · rw [if_pos h3, if_pos h3]
        · rw [if_neg h3, if_neg h3]
  · rw [if_neg (by simpa using h), if_neg h]

/-- A number taken: what it is, where it ends, and whether the text was not of its form. -/
def vnC (s : ByteArray) (at0 : Int) (bad : Bool) : Int × Int × Bool := if bad = true then (0, at0, true) else if (rvC s at0).2.2 = true then ((rvC s at0).1, (rvC s at0).2.1, false) else (0, at0, true)
/-- A byte taken. -/
def byC (s : ByteArray) (at0 : Int) (bad : Bool) : Int × Int × Bool := if bad = true then (0, at0, true) else if at0 < (s.size : Int) then (bt s at0, at0 + 1, false) else (0, at0, true)
theorem vnC_at {s : ByteArray} {at0 : Int} {bad : Bool} (h0 : 0 ≤ at0) (h1 : at0 ≤ (s.size : Int)) : 0 ≤ (vnC s at0 bad).2.1 ∧ (vnC s at0 bad).2.1 ≤ (s.size : Int) := by
  unfold vnC
  split
  · exact ⟨h0, h1⟩
  · split
    · rename_i h
      have := rvC_range s at0 h
      exact ⟨by show 0 ≤ (rvC s at0).2.1; omega, this.2.2.2.2⟩
    · exact ⟨h0, h1⟩
theorem byC_at {s : ByteArray} {at0 : Int} {bad : Bool} (h0 : 0 ≤ at0) (h1 : at0 ≤ (s.size : Int)) : 0 ≤ (byC s at0 bad).2.1 ∧ (byC s at0 bad).2.1 ≤ (s.size : Int) := by
  unfold byC
  split
  · exact ⟨h0, h1⟩
  · split
    · exact ⟨by show 0 ≤ at0 + 1; omega, by show at0 + 1 ≤ (s.size : Int); omega⟩
    · exact ⟨h0, h1⟩
theorem vnC_good {s : ByteArray} {at0 : Int} {bad : Bool} (h : (vnC s at0 bad).2.2 = false) : bad = false ∧ 0 ≤ at0 ∧ (vnC s at0 bad).2.1 ≤ (s.size : Int) ∧
    (bytesOf s).drop at0.toNat = vl (vnC s at0 bad).1.toNat ++ (bytesOf s).drop (vnC s at0 bad).2.1.toNat := by
  unfold vnC at h ⊢
  cases bad with
  | true => simp at h
  | false =>
    rw [if_neg (by simp)] at h ⊢
    by_cases c : (rvC s at0).2.2 = true
    · rw [if_pos c]
      have hr := rvC_range s at0 c
      refine ⟨rfl, hr.1, hr.2.2.2.2, ?_⟩
      unfold rvC at c ⊢
      by_cases h1 : 0 ≤ at0 ∧ at0 ≤ (s.size : Int)
      · rw [if_pos h1] at c ⊢
        cases hv : rv ((bytesOf s).drop at0.toNat) with
        | none => rw [hv] at c; simp [rvO] at c
        | some v =>
          obtain ⟨m, j⟩ := v
          have hs := rv_sound (fun b hb => bytesOf_range s b (List.mem_of_mem_drop hb)) hv
          show _ = vl m.toNat ++ (bytesOf s).drop (at0 + (j : Int)).toNat
          rw [hs.2.2.2.2, show (at0 + (j : Int)).toNat = at0.toNat + j by omega, ← List.drop_drop, List.take_append_drop]
      · rw [if_neg h1] at c; simp at c
    · rw [if_neg c] at h; simp at h
theorem byC_good {s : ByteArray} {at0 : Int} {bad : Bool} (h0 : 0 ≤ at0) (h : (byC s at0 bad).2.2 = false) : bad = false ∧ at0 < (s.size : Int) ∧ (byC s at0 bad).2.1 = at0 + 1 ∧ (byC s at0 bad).1 = bt s at0 ∧
    (bytesOf s).drop at0.toNat = (byC s at0 bad).1 :: (bytesOf s).drop (byC s at0 bad).2.1.toNat := by
  unfold byC at h ⊢
  cases bad with
  | true => simp at h
  | false =>
    rw [if_neg (by simp)] at h ⊢
    by_cases c : at0 < (s.size : Int)
    · rw [if_pos c]
      exact ⟨rfl, c, rfl, rfl, bytesOf_drop h0 c⟩
    · rw [if_neg c] at h; simp at h
/-- What an entry's text tells. -/
def rentR (m i t k : Int) (d : ByteArray) (bad : Bool) : Int × Int × Int × ByteArray × Bool :=
  if bad = true then (0, 0, 0, ⟨#[]⟩, false) else if m = 69 ∧ eokC t k d = true ∧ 1 ≤ i ∧ i ≤ 1000000 then (i, t, k, d, true) else (0, 0, 0, ⟨#[]⟩, false)
def rentC (s : ByteArray) : Int × Int × Int × ByteArray × Bool :=
  let q1 := byC s 0 false
  let q2 := vnC s q1.2.1 q1.2.2
  let q3 := vnC s q2.2.1 q2.2.2
  let q4 := byC s q3.2.1 q3.2.2
  rentR q1.1 q2.1 q3.1 q4.1 (s.extract q4.2.1.toNat s.size) q4.2.2
theorem spec_l05Var_ev (s : ByteArray) (hs : s.size ≤ 140737488351232) (at0 : Int) (bad : Bool) : Ev (fun k => spec_l05Var.f k s at0 bad) ((vnC s at0 bad).1, s, (vnC s at0 bad).2.1, (vnC s at0 bad).2.2) := by
  obtain ⟨K, hK⟩ := spec_ReadVar_ev s at0 hs
  refine ⟨K, fun k hk => ?_⟩
  have e : spec_ReadVar.f k s at0 = some _ := hK k hk
  simp only [spec_l05Var.f]
  rw [e, Option.bind_some]
  unfold vnC
  cases bad with
  | true => simp
  | false =>
    by_cases c : (rvC s at0).2.2 = true
    · simp [c]
    · simp [c]
theorem impl_reader_number_ev (s : ByteArray) (hs : s.size ≤ 140737488351232) (at0 : Int) (bad : Bool) : Ev (fun k => impl_reader_number.f k s at0 bad) ((vnC s at0 bad).1, s, (vnC s at0 bad).2.1, (vnC s at0 bad).2.2) := by
  obtain ⟨K, hK⟩ := impl_ReadVar_ev s at0 hs
  refine ⟨K, fun k hk => ?_⟩
  have e : impl_ReadVar.f k s at0 = some _ := hK k hk
  simp only [impl_reader_number.f]
  rw [e, Option.bind_some]
  unfold vnC
  cases bad with
  | true => simp
  | false =>
    by_cases c : (rvC s at0).2.2 = true
    · simp [c]
    · simp [c]
theorem impl_reader_byte_eq (s : ByteArray) (hs : s.size ≤ 140737488351232) (at0 : Int) (bad : Bool) (h0 : 0 ≤ at0) (h1 : at0 ≤ (s.size : Int)) : impl_reader_byte.f s at0 bad = some ((byC s at0 bad).1, s, (byC s at0 bad).2.1, (byC s at0 bad).2.2) := by
  unfold impl_reader_byte.f byC
  cases bad with
  | true => rw [if_pos rfl, if_pos rfl]
  | false =>
    simp only [Bool.false_eq_true, ↓reduceIte]
    by_cases c : at0 < (s.size : Int)
    · have hb := bt_range s at0
      rw [if_neg (by omega), if_pos c, w64 (n := at0 + 1) (by omega) (by omega), w64 (n := at0 + 1 - 1) (by omega) (by omega), if_pos (by omega), if_pos (by omega), show at0 + 1 - 1 = at0 by omega, w64 (by omega) (by omega)]
    · rw [if_pos (by omega), if_neg c]
theorem spec_l05Take_eq (s : ByteArray) (hs : s.size ≤ 140737488351232) (at0 : Int) (bad : Bool) (h0 : 0 ≤ at0) (h1 : at0 ≤ (s.size : Int)) :
    ∃ x, spec_l05Take.f s at0 bad 1 = some (x, s, (byC s at0 bad).2.1, (byC s at0 bad).2.2) ∧ ((byC s at0 bad).2.2 = false → x.size = 1 ∧ bt x 0 = (byC s at0 bad).1) := by
  unfold spec_l05Take.f byC
  cases bad with
  | true => exact ⟨_, by rw [if_pos rfl, if_pos rfl], by simp⟩
  | false =>
    simp only [Bool.false_eq_true, ↓reduceIte]
    by_cases c : at0 < (s.size : Int)
    · rw [w64 (n := (s.size : Int) - at0) (by omega) (by omega), if_neg (by omega), if_pos c, w64 (n := at0 + 1) (by omega) (by omega), w64 (n := at0 + 1 - 1) (by omega) (by omega), if_pos (by omega), if_pos (by omega), if_pos (by omega), show at0 + 1 - 1 = at0 by omega]
      refine ⟨_, rfl, fun _ => ?_⟩
      have hb : bytesOf (s.extract at0.toNat (at0 + 1).toNat) = [bt s at0] := by
        rw [bytesOf_ext, bytesOf_drop h0 c, show (at0 + 1).toNat - at0.toNat = 1 by omega]; rfl
      refine ⟨by rw [← bytesOf_length, hb]; rfl, ?_⟩
      rw [← rd_bytesOf, hb]; rfl
    · rw [w64 (n := (s.size : Int) - at0) (by omega) (by omega), if_pos (by omega), if_neg c]
      exact ⟨_, rfl, by simp⟩
theorem entT_back (s : ByteArray) (m i t k : Int) (a1 a2 a3 a4 : Int) (b1 b2 b3 : Bool)
    (e1 : byC s 0 false = (m, a1, b1)) (e2 : vnC s a1 b1 = (i, a2, b2)) (e3 : vnC s a2 b2 = (t, a3, b3)) (e4 : byC s a3 b3 = (k, a4, false)) :
    entT i t k (s.extract a4.toNat s.size) = s ↔ m = 69 := by
  have r1 := byC_at (s := s) (at0 := 0) (bad := false) (by omega) (by omega)
  rw [e1] at r1
  have r2 := vnC_at (s := s) (at0 := a1) (bad := b1) r1.1 r1.2
  rw [e2] at r2
  have r3 := vnC_at (s := s) (at0 := a2) (bad := b2) r2.1 r2.2
  rw [e3] at r3
  have g4 := byC_good (s := s) (at0 := a3) (bad := b3) r3.1 (by rw [e4])
  obtain ⟨rfl, c4, d4, f4, g4⟩ := g4
  rw [e4] at d4 f4 g4
  have g3 := vnC_good (s := s) (at0 := a2) (bad := b2) (by rw [e3])
  obtain ⟨rfl, c3, d3, g3⟩ := g3
  rw [e3] at d3 g3
  have g2 := vnC_good (s := s) (at0 := a1) (bad := b1) (by rw [e2])
  obtain ⟨rfl, c2, d2, g2⟩ := g2
  rw [e2] at d2 g2
  have g1 := byC_good (s := s) (at0 := 0) (bad := false) (by omega) (by rw [e1])
  obtain ⟨_, c1, d1, f1, g1⟩ := g1
  rw [e1] at d1 f1 g1
  simp only [] at d1 f1 g1 d2 g2 d3 g3 d4 f4 g4
  have hall : bytesOf s = m :: (vl i.toNat ++ (vl t.toNat ++ k :: (bytesOf s).drop a4.toNat)) := by
    rw [← g4, ← g3, ← g2, ← g1]; rfl
  have hk := bt_range s a3
  rw [← f4] at hk
  have hx : bytesOf (s.extract a4.toNat s.size) = (bytesOf s).drop a4.toNat := by
    rw [bytesOf_ext]
    exact List.take_of_length_le (by rw [List.length_drop, bytesOf_length]; omega)
  have hE : bytesOf (entT i t k (s.extract a4.toNat s.size)) = 69 :: (vl i.toNat ++ (vl t.toNat ++ k :: (bytesOf s).drop a4.toNat)) := by
    have h1 : bytesOf (oneB [k]) = [k] := by
      unfold oneB
      rw [show [k].map (· % 256) = [k] by simp; omega]
      exact bytesOf_str _ (fun b hb => by rw [List.mem_singleton.1 hb]; exact hk)
    unfold entT
    simp only [bytesOf_app, bytesOf_varT, h1, hx, List.append_assoc, List.cons_append, List.nil_append]
    rfl
  constructor
  · intro h
    have := congrArg bytesOf h
    rw [hE, hall] at this
    exact (List.cons.inj this).1.symm
  · rintro rfl
    exact bytesOf_inj (hE.trans hall.symm)
theorem spec_ReadEntry_ev (s : ByteArray) (hs : s.size ≤ 1048576) : Ev (fun k => spec_ReadEntry.f k s) (rentC s) := by
  obtain ⟨m, a1, b1, e1⟩ : ∃ m a1 b1, byC s 0 false = (m, a1, b1) := ⟨_, _, _, rfl⟩
  obtain ⟨i, a2, b2, e2⟩ : ∃ i a2 b2, vnC s a1 b1 = (i, a2, b2) := ⟨_, _, _, rfl⟩
  obtain ⟨t, a3, b3, e3⟩ : ∃ t a3 b3, vnC s a2 b2 = (t, a3, b3) := ⟨_, _, _, rfl⟩
  obtain ⟨kd, a4, b4, e4⟩ : ∃ kd a4 b4, byC s a3 b3 = (kd, a4, b4) := ⟨_, _, _, rfl⟩
  have r1 := byC_at (s := s) (at0 := 0) (bad := false) (by omega) (by omega)
  rw [e1] at r1
  have r2 := vnC_at (s := s) (at0 := a1) (bad := b1) r1.1 r1.2
  rw [e2] at r2
  have r3 := vnC_at (s := s) (at0 := a2) (bad := b2) r2.1 r2.2
  rw [e3] at r3
  have r4 := byC_at (s := s) (at0 := a3) (bad := b3) r3.1 r3.2
  rw [e4] at r4
  simp only [] at r1 r2 r3 r4
  obtain ⟨x1, h1, _⟩ := spec_l05Take_eq s (by omega) 0 false (by omega) (by omega)
  obtain ⟨x4, h4, hx4⟩ := spec_l05Take_eq s (by omega) a3 b3 r3.1 r3.2
  obtain ⟨K2, h2⟩ := spec_l05Var_ev s (by omega) a1 b1
  obtain ⟨K3, h3⟩ := spec_l05Var_ev s (by omega) a2 b2
  rw [e1] at h1
  rw [e2] at h2
  rw [e3] at h3
  rw [e4] at h4 hx4
  simp only [] at h1 h2 h3 h4 hx4
  have hC : rentC s = rentR m i t kd (s.extract a4.toNat s.size) b4 := by
    unfold rentC
    simp only [e1, e2, e3, e4]
  rw [hC]
  cases b4 with
  | true =>
    refine ⟨K2 + K3, fun k hk => ?_⟩
    have f2 : spec_l05Var.f k s a1 b1 = some _ := h2 k (by omega)
    have f3 : spec_l05Var.f k s a2 b2 = some _ := h3 k (by omega)
    simp only [spec_ReadEntry.f]
    rw [h1, Option.bind_some, f2, Option.bind_some, f3, Option.bind_some, h4, Option.bind_some, if_pos rfl]
    unfold rentR
    rw [if_pos rfl]
  | false =>
    have hx := hx4 rfl
    have hk0 := bt_range x4 0
    rw [hx.2] at hk0
    have hxs : (s.extract a4.toNat s.size).size ≤ 1048576 := by
      rw [← bytesOf_length, bytesOf_ext, List.length_take, List.length_drop, bytesOf_length]; omega
    obtain ⟨K5, h5⟩ := spec_EntryText_ev i t kd (s.extract a4.toNat s.size) (by omega)
    refine ⟨K2 + K3 + K5, fun k hk => ?_⟩
    have f2 : spec_l05Var.f k s a1 b1 = some _ := h2 k (by omega)
    have f3 : spec_l05Var.f k s a2 b2 = some _ := h3 k (by omega)
    have f5 : spec_EntryText.f k i t kd (s.extract a4.toNat s.size) = some _ := h5 k (by omega)
    simp only [spec_ReadEntry.f]
    rw [h1, Option.bind_some, f2, Option.bind_some, f3, Option.bind_some, h4, Option.bind_some]
    simp only [Bool.false_eq_true, ↓reduceIte]
    rw [if_pos (by omega), if_pos r4.1, if_pos r4.2, hx.2, w64 (n := kd) (by omega) (by omega), f5, Option.bind_some]
    have key := entT_back s m i t kd a1 a2 a3 a4 b1 b2 b3 e1 e2 e3 e4
    unfold rentR entC
    simp only [Bool.false_eq_true, ↓reduceIte]
    by_cases c : eokC t kd (s.extract a4.toNat s.size) = true ∧ 1 ≤ i ∧ i ≤ 1000000
    · rw [if_pos c, if_pos rfl]
      by_cases c2 : m = 69
      · rw [if_pos (toList_iff.2 (key.2 c2)), if_pos ⟨c2, c⟩]
      · rw [if_neg (fun h => c2 (key.1 (toList_iff.1 h))), if_neg (fun h => c2 h.1)]
    · rw [if_neg c, if_neg (by simp : ¬ ((⟨#[]⟩ : ByteArray), false).2 = true), if_neg (fun h => c h.2)]
theorem impl_ReadEntry_ev (s : ByteArray) (hs : s.size ≤ 1048576) : Ev (fun k => impl_ReadEntry.f k s) (rentC s) := by
  obtain ⟨m, a1, b1, e1⟩ : ∃ m a1 b1, byC s 0 false = (m, a1, b1) := ⟨_, _, _, rfl⟩
  obtain ⟨i, a2, b2, e2⟩ : ∃ i a2 b2, vnC s a1 b1 = (i, a2, b2) := ⟨_, _, _, rfl⟩
  obtain ⟨t, a3, b3, e3⟩ : ∃ t a3 b3, vnC s a2 b2 = (t, a3, b3) := ⟨_, _, _, rfl⟩
  obtain ⟨kd, a4, b4, e4⟩ : ∃ kd a4 b4, byC s a3 b3 = (kd, a4, b4) := ⟨_, _, _, rfl⟩
  have r1 := byC_at (s := s) (at0 := 0) (bad := false) (by omega) (by omega)
  rw [e1] at r1
  have r2 := vnC_at (s := s) (at0 := a1) (bad := b1) r1.1 r1.2
  rw [e2] at r2
  have r3 := vnC_at (s := s) (at0 := a2) (bad := b2) r2.1 r2.2
  rw [e3] at r3
  have r4 := byC_at (s := s) (at0 := a3) (bad := b3) r3.1 r3.2
  rw [e4] at r4
  simp only [] at r1 r2 r3 r4
  have h1 := impl_reader_byte_eq s (by omega) 0 false (by omega) (by omega)
  have h4 := impl_reader_byte_eq s (by omega) a3 b3 r3.1 r3.2
  obtain ⟨K2, h2⟩ := impl_reader_number_ev s (by omega) a1 b1
  obtain ⟨K3, h3⟩ := impl_reader_number_ev s (by omega) a2 b2
  rw [e1] at h1
  rw [e2] at h2
  rw [e3] at h3
  rw [e4] at h4
  simp only [] at h1 h2 h3 h4
  have hC : rentC s = rentR m i t kd (s.extract a4.toNat s.size) b4 := by
    unfold rentC
    simp only [e1, e2, e3, e4]
  rw [hC]
  have hxs : (s.extract a4.toNat s.size).size ≤ 1048576 := by
    rw [← bytesOf_length, bytesOf_ext, List.length_take, List.length_drop, bytesOf_length]; omega
  obtain ⟨K5, h5⟩ := impl_EntryOk_ev t kd (s.extract a4.toNat s.size) (by omega)
  refine ⟨K2 + K3 + K5, fun k hk => ?_⟩
  have f2 : impl_reader_number.f k s a1 b1 = some _ := h2 k (by omega)
  have f3 : impl_reader_number.f k s a2 b2 = some _ := h3 k (by omega)
  have f5 : impl_EntryOk.f k t kd (s.extract a4.toNat s.size) = some _ := h5 k (by omega)
  simp only [impl_ReadEntry.f, impl_reader_rest.f]
  rw [h1, Option.bind_some, f2, Option.bind_some, f3, Option.bind_some, h4, Option.bind_some, if_pos r4.1, if_pos r4.2, Option.bind_some]
  simp only []
  unfold rentR
  cases b4 with
  | true => rw [if_pos rfl, if_pos rfl]
  | false =>
    simp only [Bool.false_eq_true, ↓reduceIte]
    by_cases c2 : m = 69
    · rw [if_pos c2, f5, Option.bind_some]
      by_cases c : eokC t kd (s.extract a4.toNat s.size) = true
      · rw [if_pos c, impl_in_eq, Option.bind_some]
        by_cases c3 : 1 ≤ i ∧ i ≤ 1000000
        · rw [if_pos (decide_eq_true c3), if_pos ⟨c2, c, c3⟩]
        · rw [if_neg (by simpa using c3), if_neg (fun h => c3 h.2.2)]
      · rw [if_neg c, if_neg (fun h => c h.2.1)]
    · rw [if_neg c2, if_neg (fun h => c2 h.1)]

theorem FnExactReadEntry (s : ByteArray) (_ : s.size ≤ maxLen) : ∃ k, laws_FnExactReadEntry.f k s = some true := by
  by_cases h : (s.size : Int) > 1048576
  · refine ⟨0, ?_⟩
    simp only [laws_FnExactReadEntry.f]
    rw [if_pos h]
  · obtain ⟨K1, h1⟩ := spec_ReadEntry_ev s (by omega)
    obtain ⟨K2, h2⟩ := impl_ReadEntry_ev s (by omega)
    refine ⟨K1 + K2, ?_⟩
    have e1 : spec_ReadEntry.f (K1 + K2) s = some _ := h1 _ (by omega)
    have e2 : impl_ReadEntry.f (K1 + K2) s = some _ := h2 _ (by omega)
    simp only [laws_FnExactReadEntry.f, laws_eqEntry.f]
    rw [if_neg h, e1, Option.bind_some, e2, Option.bind_some, if_pos rfl, if_pos rfl, if_pos rfl, if_pos rfl, Option.bind_some, if_pos rfl, if_neg (by simp)]

end Go.Proofs.Ytpmdcplmnipdeaa.Pure
