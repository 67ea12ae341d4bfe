/- For every disk, the program's OpenJournal returns what the reference's OpenJournal returns, in memory of its own, leaves the disk as it was, and so at a second call: FnExactOpenJournal returns true. The condition is the row's own: Go's library's tables hold what its text lays there (tied by the card). -/
import Derived.Test.YtdepaileabejgaaGreatDoorQFnExactOpenJournalx33
namespace Go.Proofs.YtdepaileabejgaaGreatDoor.Pure
open Go.RowKit Go.Proofs.YtdepaileabejgaaGreatDoor.PFnExactOpenJournal Go.Proofs.YtdepaileabejgaaGreatDoorW.PrintWords Go.Proofs.YtdepaileabejgaaGreatDoorW.PrintLast Go.Proofs.YtdepaileabejgaaGreatDoorW.PrintMore
theorem bytesOf_range (s : ByteArray) : ∀ b ∈ bytesOf s, 0 ≤ b ∧ b ≤ 255 := by
 intro b hb
 obtain ⟨u, _, rfl⟩ := List.mem_map.1 hb
 have := u.toNat_lt
 omega
theorem bytesOf_inj {s t : ByteArray} (h : bytesOf s = bytesOf t) : s = t := by
 apply ByteArray.ext
 apply Array.toList_inj.1
 unfold bytesOf at h
 refine (List.map_inj_right ?_).1 h
 intro a b hab
 exact UInt8.toNat_inj.1 (by omega)
theorem bytesOf_app (s t : ByteArray) : bytesOf (s ++ t) = bytesOf s ++ bytesOf t := by
 simp [bytesOf]
theorem bytesOf_ext (s : ByteArray) (a b : Nat) : bytesOf (s.extract a b) = ((bytesOf s).drop a).take (b - a) := by
 simp [bytesOf, List.map_take, List.map_drop]
theorem bytesOf_str (xs : List Int) (h : ∀ b ∈ xs, 0 ≤ b ∧ b ≤ 255) : bytesOf (strOfNums xs) = xs := by
 unfold bytesOf
 rw [strOfNums_data, List.map_map]
 conv => rhs; rw [← List.map_id xs]
 refine List.map_congr_left fun b hb => ?_
 have := h b hb
 simp only [Function.comp_apply, id_eq, UInt8.toNat_ofNat']
 omega
theorem str_bytesOf (s : ByteArray) : strOfNums (bytesOf s) = s := bytesOf_inj (bytesOf_str _ (bytesOf_range s))
theorem toList_iff {s t : ByteArray} : s.toList = t.toList ↔ s = t := by
 constructor
 ·intro h
  rw [ByteArray.toList_eq, ByteArray.toList_eq] at h
  exact ByteArray.ext (Array.toList_inj.1 h)
 ·rintro rfl; rfl
theorem bt_getElem {s : ByteArray} {i : Int} (h1 : i.toNat < s.size) : (bytesOf s)[i.toNat]? = some (bt s i) := by
 rw [← rd_bytesOf]
 unfold rd
 rw [List.getD_eq_getElem?_getD, List.getElem?_eq_getElem (by rw [bytesOf_length]; exact h1)]; rfl
theorem bytesOf_drop {s : ByteArray} {i : Int} (h0 : 0 ≤ i) (h : i < (s.size : Int)) : (bytesOf s).drop i.toNat = bt s i :: (bytesOf s).drop (i + 1).toNat := by
 have hl : i.toNat < (bytesOf s).length := by rw [bytesOf_length]; omega
 rw [List.drop_eq_getElem_cons hl, show (i + 1).toNat = i.toNat + 1 by omega]
 congr 1
 have := bt_getElem (s := s) (i := i) (by omega)
 rw [List.getElem?_eq_getElem hl] at this
 exact Option.some.inj this
theorem bytesOf_drop_end {s : ByteArray} {i : Int} (h : ¬ i < (s.size : Int)) : (bytesOf s).drop i.toNat = [] := by
 apply List.drop_eq_nil_of_le
 rw [bytesOf_length]; omega
theorem w64 {n : Int} (h0 : -9223372036854775808 ≤ n) (h1 : n ≤ 9223372036854775807) : wrap64 n = n := by
 unfold wrap64; omega
theorem tmod_nat {n : Int} (h : 0 ≤ n) (m : Int) : Int.tmod n m = n % m := Int.tmod_eq_emod_of_nonneg h
theorem tdiv_nat {n : Int} (h : 0 ≤ n) (m : Int) : Int.tdiv n m = n / m := Int.tdiv_eq_ediv_of_nonneg h
theorem drop_rd {l : List Int} {i : Nat} (h : i < l.length) : l.drop i = rd l (i : Int) :: l.drop (i + 1) := by
 rw [List.drop_eq_getElem_cons h]
 congr 1
 unfold rd
 rw [Int.toNat_natCast, List.getD_eq_getElem?_getD, List.getElem?_eq_getElem h]; rfl
theorem take_set_succ {α : Type} (l : List α) (i : Nat) (v : α) (h : i < l.length) : (l.set i v).take (i + 1) = l.take i ++ [v] := by
 rw [List.take_add_one, List.getElem?_set_self h, List.take_set_of_le (Nat.le_refl i)]; rfl
theorem take_rd {l : List Int} {i : Nat} (h : i < l.length) : l.take (i + 1) = l.take i ++ [rd l (i : Int)] := by
 rw [List.take_add_one]
 congr 1
 unfold rd
 rw [Int.toNat_natCast, List.getD_eq_getElem?_getD, List.getElem?_eq_getElem h]; rfl
def riseL : Int → List Int → Bool
 | _, [] => true
 | p, x :: xs => if 1 ≤ x ∧ x ≤ 4 ∧ p < x then riseL x xs else false
theorem riseL_len : ∀ (l : List Int) (p : Int), riseL p l = true → l = [] ∨ p + (l.length : Int) ≤ 4
 | [], _, _ => .inl rfl
 | x :: xs, p, h => by
  simp only [riseL] at h
  by_cases h1 : 1 ≤ x ∧ x ≤ 4 ∧ p < x
  ·rw [if_pos h1] at h
   rcases riseL_len xs x h with rfl | h2
   ·right; simp; omega
   ·right; simp only [List.length_cons]; omega
  ·rw [if_neg h1] at h; simp at h
def confC (l : List Int) : Bool := decide (1 ≤ l.length) && riseL 0 l
theorem confC_len {l : List Int} (h : confC l = true) : 1 ≤ l.length ∧ l.length ≤ 4 := by
 unfold confC at h
 simp only [Bool.and_eq_true, decide_eq_true_eq] at h
 rcases riseL_len l 0 h.2 with rfl | h2
 ·simp at h
 ·omega
def prv (l : List Int) (i : Nat) : Int := if i = 0 then 0 else rd l ((i : Int) - 1)
theorem prv_succ (l : List Int) (i : Nat) : prv l (i + 1) = rd l (i : Int) := by
 unfold prv
 rw [if_neg (by omega), show ((i + 1 : Nat) : Int) - 1 = (i : Int) by omega]
def rconfC (s : ByteArray) : List Int × Bool := if confC (bytesOf s) = true then (bytesOf s, true) else ([], false)
theorem take_bytes_succ {s : ByteArray} {i : Nat} (h : i < s.size) : (bytesOf s).take (i + 1) = (bytesOf s).take i ++ [bt s (i : Int)] := by
 rw [take_rd (by rw [bytesOf_length]; exact h), rd_bytesOf]
def vl (n : Nat) : List Int := if 127 < n then ((n % 128 + 128 : Nat) : Int) :: vl (n / 128) else [(n : Int)]
 termination_by n
 decreasing_by omega
theorem vl_big {n : Nat} (h : 127 < n) : vl n = ((n % 128 + 128 : Nat) : Int) :: vl (n / 128) := by rw [vl, if_pos h]
theorem vl_small {n : Nat} (h : ¬ 127 < n) : vl n = [(n : Int)] := by rw [vl, if_neg h]
theorem vl_bytes (n : Nat) : ∀ b ∈ vl n, 0 ≤ b ∧ b ≤ 255 := by
 induction n using Nat.strongRecOn with
 | _ n ih =>
  by_cases h : 127 < n
  ·rw [vl_big h]
   intro b hb
   rcases List.mem_cons.1 hb with rfl | hb
   ·omega
   ·exact ih _ (by omega) b hb
  ·rw [vl_small h]
   intro b hb
   have := List.mem_singleton.1 hb
   omega
def dec : List Int → Int
 | [] => 0
 | b :: bs => b % 128 + 128 * dec bs
theorem dec_nonneg : ∀ bs : List Int, 0 ≤ dec bs
 | [] => by simp [dec]
 | b :: bs => by have := dec_nonneg bs; simp only [dec]; omega
theorem dec_vl (n : Nat) : dec (vl n) = (n : Int) := by
 induction n using Nat.strongRecOn with
 | _ n ih =>
  by_cases h : 127 < n
  ·rw [vl_big h, dec, ih _ (by omega)]; omega
  ·rw [vl_small h, dec, dec]; omega
theorem vl_form (n : Nat) : ∃ bs c, vl n = bs ++ [c] ∧ (∀ b ∈ bs, 128 ≤ b ∧ b ≤ 255) ∧ 0 ≤ c ∧ c ≤ 127 ∧ (bs = [] ∨ c ≠ 0) := by
 induction n using Nat.strongRecOn with
 | _ n ih =>
  by_cases h : 127 < n
  ·obtain ⟨bs, c, h1, h2, h3, h4, h5⟩ := ih (n / 128) (by omega)
   refine ⟨((n % 128 + 128 : Nat) : Int) :: bs, c, by rw [vl_big h, h1]; rfl, ?_, h3, h4, .inr ?_⟩
   ·intro b hb
    rcases List.mem_cons.1 hb with rfl | hb
    ·omega
    ·exact h2 b hb
   ·rcases h5 with rfl | h5
    ·have := dec_vl (n / 128)
     rw [h1] at this
     simp [dec] at this
     omega
    ·exact h5
  ·exact ⟨[], (n : Int), by rw [vl_small h]; rfl, by simp, by omega, by omega, .inl rfl⟩
theorem dec_pos : ∀ (bs : List Int) (c : Int), (∀ b ∈ bs, 128 ≤ b ∧ b ≤ 255) → 0 ≤ c → c ≤ 127 → c ≠ 0 → 1 ≤ dec (bs ++ [c])
 | [], c, _, h0, h1, h2 => by simp [dec]; omega
 | b :: bs, c, h, h0, h1, h2 => by
  have := dec_pos bs c (fun x hx => h x (List.mem_cons_of_mem _ hx)) h0 h1 h2
  simp only [List.cons_append, dec]; omega
theorem vl_dec : ∀ (bs : List Int) (c : Int), (∀ b ∈ bs, 128 ≤ b ∧ b ≤ 255) → 0 ≤ c → c ≤ 127 → (bs = [] ∨ c ≠ 0) → vl (dec (bs ++ [c])).toNat = bs ++ [c]
 | [], c, _, h0, h1, _ => by
  have e : (dec ([] ++ [c])).toNat = c.toNat := by simp [dec]; omega
  rw [e, vl_small (by omega)]
  simp; omega
 | b :: bs, c, h, h0, h1, h2 => by
  have hc : c ≠ 0 := by rcases h2 with h2 | h2 <;> simp_all
  have hb := h b List.mem_cons_self
  have hp := dec_pos bs c (fun x hx => h x (List.mem_cons_of_mem _ hx)) h0 h1 hc
  have ih := vl_dec bs c (fun x hx => h x (List.mem_cons_of_mem _ hx)) h0 h1 (.inr hc)
  have e : dec (b :: bs ++ [c]) = b % 128 + 128 * dec (bs ++ [c]) := by simp only [List.cons_append, dec]
  rw [e, vl_big (by omega)]
  have e2 : (b % 128 + 128 * dec (bs ++ [c])).toNat / 128 = (dec (bs ++ [c])).toNat := by omega
  rw [e2, ih]
  simp only [List.cons_append, List.cons.injEq, and_true]
  omega
theorem vl_ne (bs : List Int) (hb : bs ≠ []) (m : Nat) : vl m ≠ bs ++ [(0 : Int)] := by
 intro e
 obtain ⟨bs', c', h1, h2, h3, h4, h5⟩ := vl_form m
 rw [h1] at e
 have := List.append_inj' e rfl
 obtain ⟨rfl, e2⟩ := this
 simp at e2
 rcases h5 with h5 | h5
 ·exact hb h5
 ·exact h5 e2
def rvL : Nat → List Int → Nat → Int → Option (Int × Nat)
 | 0, _, _, _ => none
 | _ + 1, [], _, _ => none
 | f + 1, b :: bs, k, n =>
  if b < 128 then (if (b = 0 ∧ 0 < k) ∨ 1000000000 < n + b % 128 * 128 ^ k then none else some (n + b % 128 * 128 ^ k, k + 1))
  else rvL f bs (k + 1) (n + b % 128 * 128 ^ k)
theorem dec_app : ∀ (xs ys : List Int), dec (xs ++ ys) = dec xs + 128 ^ xs.length * dec ys
 | [], ys => by simp [dec]
 | x :: xs, ys => by
  have := dec_app xs ys
  simp only [List.cons_append, dec, List.length_cons, Int.pow_succ] at this ⊢
  rw [this, Int.mul_add, ← Int.mul_assoc, Int.mul_comm (128 : Int) (128 ^ xs.length)]
  omega
theorem dec_one (b : Int) : dec [b] = b % 128 := by simp [dec]
theorem dec_snoc (xs : List Int) (b : Int) : dec (xs ++ [b]) = dec xs + b % 128 * 128 ^ xs.length := by
 rw [dec_app, dec_one, Int.mul_comm]
theorem rvL_sound : ∀ (f : Nat) (bs : List Int) (k : Nat) (pre : List Int) (m : Int) (j : Nat), (∀ b ∈ pre, 128 ≤ b ∧ b ≤ 255) → pre.length = k → (∀ b ∈ bs, 0 ≤ b ∧ b ≤ 255) →
 rvL f bs k (dec pre) = some (m, j) → 0 ≤ m ∧ m ≤ 1000000000 ∧ k < j ∧ j ≤ k + bs.length ∧ vl m.toNat = pre ++ bs.take (j - k)
 | 0, _, _, _, _, _, _, _, _, h => by simp [rvL] at h
 | _ + 1, [], _, _, _, _, _, _, _, h => by simp [rvL] at h
 | f + 1, b :: bs, k, pre, m, j, hp, hk, hb, h => by
  have hb0 := hb b List.mem_cons_self
  have hn : dec pre + b % 128 * 128 ^ k = dec (pre ++ [b]) := by rw [dec_snoc, hk]
  simp only [rvL] at h
  rw [hn] at h
  by_cases h1 : b < 128
  ·rw [if_pos h1] at h
   by_cases h2 : (b = 0 ∧ 0 < k) ∨ 1000000000 < dec (pre ++ [b])
   ·rw [if_pos h2] at h; cases h
   ·rw [if_neg h2] at h
    simp only [Option.some.injEq, Prod.mk.injEq] at h
    obtain ⟨rfl, rfl⟩ := h
    refine ⟨dec_nonneg _, by omega, by omega, by simp, ?_⟩
    rw [vl_dec pre b hp hb0.1 (by omega) (by
     rcases Nat.eq_zero_or_pos k with h0 | h0
     ·left; exact List.eq_nil_of_length_eq_zero (by omega)
     ·right; intro e; exact h2 (.inl ⟨e, h0⟩))]
    rw [show k + 1 - k = 1 by omega]; rfl
  ·rw [if_neg h1] at h
   obtain ⟨h3, h4, h5, h6, h7⟩ := rvL_sound f bs (k + 1) (pre ++ [b]) m j (by
    intro x hx
    rcases List.mem_append.1 hx with hx | hx
    ·exact hp x hx
    ·have := List.mem_singleton.1 hx
     subst this
     omega) (by simp [hk]) (fun x hx => hb x (List.mem_cons_of_mem _ hx)) h
   refine ⟨h3, h4, by omega, by simp only [List.length_cons]; omega, ?_⟩
   rw [h7, show j - k = (j - (k + 1)) + 1 by omega, List.take_succ_cons, List.append_assoc]; rfl
theorem vl_len : ∀ (j m : Nat), 1 ≤ j → m < 128 ^ j → (vl m).length ≤ j
 | 0, _, h, _ => by omega
 | j + 1, m, _, h => by
  by_cases h1 : 127 < m
  ·rw [vl_big h1]
   rcases Nat.eq_zero_or_pos j with rfl | hj
   ·simp at h; omega
   ·have := vl_len j (m / 128) hj (by rw [Nat.pow_succ] at h; omega)
    simp only [List.length_cons]; omega
  ·rw [vl_small h1]; simp
def rv (bs : List Int) : Option (Int × Nat) := rvL 5 bs 0 0
theorem rv_sound {bs : List Int} {m : Int} {j : Nat} (hb : ∀ b ∈ bs, 0 ≤ b ∧ b ≤ 255) (h : rv bs = some (m, j)) : 0 ≤ m ∧ m ≤ 1000000000 ∧ 0 < j ∧ j ≤ bs.length ∧ vl m.toNat = bs.take j := by
 obtain ⟨h1, h2, h3, h4, h5⟩ := rvL_sound 5 bs 0 [] m j (by simp) rfl hb h
 exact ⟨h1, h2, h3, by omega, by simpa using h5⟩
def varC (n : Int) : ByteArray × Bool := if 0 ≤ n ∧ n ≤ 1000000000 then (strOfNums (vl n.toNat), true) else (⟨#[]⟩, false)
def varT (n : Int) : ByteArray := strOfNums (vl n.toNat)
theorem bytesOf_varT (n : Int) : bytesOf (varT n) = vl n.toNat := bytesOf_str _ (vl_bytes _)
theorem varT_size {n : Int} (h0 : 0 ≤ n) (h1 : n ≤ 9223372036854775807) : (varT n).size ≤ 10 := by
 unfold varT
 rw [strOfNums_size]
 exact vl_len 10 n.toNat (by omega) (by omega)
def oneB (l : List Int) : ByteArray := strOfNums (l.map (· % 256))
theorem map_take_rd {l : List Int} {i : Nat} (h : i < l.length) : (l.take (i + 1)).map (· % 256) = (l.take i).map (· % 256) ++ [rd l (i : Int) % 256] := by
 rw [take_rd h, List.map_append]; rfl
def eokC (t k : Int) (d : ByteArray) : Bool := if 0 ≤ t ∧ t ≤ 100000 then (if k = 1 then d.toList == [] else if k = 2 then (rconfC d).2 else if k = 3 then decide ((d.size : Int) ≤ 120) else false) else false
def entT (i t k : Int) (d : ByteArray) : ByteArray := ((((⟨#[69]⟩ : ByteArray) ++ varT i) ++ varT t) ++ oneB [k]) ++ d
def entC (i t k : Int) (d : ByteArray) : ByteArray × Bool := if eokC t k d = true ∧ 1 ≤ i ∧ i ≤ 1000000 then (entT i t k d, true) else (⟨#[]⟩, false)
theorem eokC_term {t k : Int} {d : ByteArray} (h : eokC t k d = true) : 0 ≤ t ∧ t ≤ 100000 := by
 unfold eokC at h
 by_cases h1 : 0 ≤ t ∧ t ≤ 100000
 ·exact h1
 ·rw [if_neg h1] at h; cases h
theorem oneB_size (k : Int) : (oneB [k]).size = 1 := by unfold oneB; rw [strOfNums_size]; rfl
def rvO (at0 : Int) (o : Option (Int × Nat)) : Int × Int × Bool := match o with
 | some (m, j) => (m, at0 + (j : Int), true)
 | none => (0, 0, false)
def rvC (s : ByteArray) (at0 : Int) : Int × Int × Bool := if 0 ≤ at0 ∧ at0 ≤ (s.size : Int) then rvO at0 (rv ((bytesOf s).drop at0.toNat)) else (0, 0, false)
theorem p128 : (128 : Int) ^ 0 = 1 ∧ (128 : Int) ^ 1 = 128 ∧ (128 : Int) ^ 2 = 16384 ∧ (128 : Int) ^ 3 = 2097152 ∧ (128 : Int) ^ 4 = 268435456 ∧ (128 : Int) ^ 5 = 34359738368 := by decide
theorem pow5 {kk : Nat} (h : kk ≤ 4) : (128 : Int) ^ (kk + 1) ≤ 34359738368 := by
 obtain rfl | rfl | rfl | rfl | rfl : kk = 0 ∨ kk = 1 ∨ kk = 2 ∨ kk = 3 ∨ kk = 4 := by omega
 all_goals decide
theorem dec_lt : ∀ (xs : List Int) {k : Nat}, xs.length ≤ k → dec xs < 128 ^ k
 | [], k, _ => by simp only [dec]; exact Int.pow_pos (by decide)
 | x :: xs, k, h => by
  obtain ⟨j, rfl⟩ : ∃ j, k = j + 1 := ⟨k - 1, by simp at h; omega⟩
  have := dec_lt xs (k := j) (by simp at h; omega)
  simp only [dec]
  rw [Int.pow_succ]
  omega
theorem rvC_range (s : ByteArray) (at0 : Int) (h : (rvC s at0).2.2 = true) : 0 ≤ at0 ∧ 0 ≤ (rvC s at0).1 ∧ (rvC s at0).1 ≤ 1000000000 ∧ at0 < (rvC s at0).2.1 ∧ (rvC s at0).2.1 ≤ (s.size : Int) := by
 unfold rvC at h ⊢
 by_cases h1 : 0 ≤ at0 ∧ at0 ≤ (s.size : Int)
 ·rw [if_pos h1] at h ⊢
  cases e : rv ((bytesOf s).drop at0.toNat) with
  | none => rw [e] at h; simp [rvO] at h
  | some p =>
   obtain ⟨m, j⟩ := p
   have := rv_sound (fun b hb => bytesOf_range s b (List.mem_of_mem_drop hb)) e
   rw [List.length_drop, bytesOf_length] at this
   simp only [rvO]
   omega
 ·rw [if_neg h1] at h; simp at h
theorem spec_l01In_eq (a b c : Int) : spec_l01In.f a b c = some (decide (b ≤ a ∧ a ≤ c)) := by
 unfold spec_l01In.f
 by_cases h : a ≥ b
 ·rw [if_pos h]; simp [show b ≤ a from h]
 ·rw [if_neg h]; simp [show ¬ b ≤ a from h]
theorem spec_l01Var_l0 (n : Nat) : ∀ out : List Int, n ≤ 9223372036854775807 → out.length + (vl n).length ≤ 140737488355328 →
 Ev (fun k => spec_l01Var.l0 k (n : Int) out) (strOfNums (out ++ vl n)) := by
 induction n using Nat.strongRecOn with
 | _ n ih =>
  intro out hn hl
  by_cases h : 127 < n
  ·rw [vl_big h] at hl ⊢
   simp only [List.length_cons] at hl
   refine Ev.step (f := fun k => spec_l01Var.l0 k ((n / 128 : Nat) : Int) (out ++ [((n % 128 + 128 : Nat) : Int)])) (fun k => ?_) ?_
   ·simp only [spec_l01Var.l0]
    rw [if_pos (by omega), if_pos (by omega), tmod_nat (by omega), tdiv_nat (by omega), w64 (by omega) (by omega), w64 (by omega) (by omega)]
    congr 3
    omega
   ·have := ih (n / 128) (by omega) (out ++ [((n % 128 + 128 : Nat) : Int)]) (by omega) (by simp; omega)
    rwa [List.append_assoc] at this
  ·rw [vl_small h] at hl ⊢
   simp only [List.length_cons, List.length_nil] at hl
   refine Ev.step (f := fun _ => some (strOfNums (out ++ [(n : Int)]))) (fun k => ?_) (Ev.now _)
   simp only [spec_l01Var.l0]
   rw [if_neg (by omega), if_pos (by omega), show (n : Int) % 256 = n by omega]
theorem spec_l01Var_ev {n : Int} (h0 : 0 ≤ n) (h1 : n ≤ 9223372036854775807) : Ev (fun k => spec_l01Var.f k n) (varT n) := by
 have hl := vl_len 10 n.toNat (by omega) (by omega)
 have := spec_l01Var_l0 n.toNat [] (by omega) (by simp; omega)
 rw [Int.toNat_of_nonneg h0] at this
 exact this
theorem pre_snoc {s : ByteArray} {a kk : Nat} (h : ((a : Int) + (kk : Int)) < (s.size : Int)) : ((bytesOf s).drop a).take (kk + 1) = ((bytesOf s).drop a).take kk ++ [bt s ((a : Int) + kk)] := by
 rw [List.take_add_one]
 congr 1
 rw [List.getElem?_drop]
 have := bt_getElem (s := s) (i := (a : Int) + kk) (by omega)
 rw [show ((a : Int) + (kk : Int)).toNat = a + kk by omega] at this
 rw [this]; rfl
theorem spec_ReadVar_l0 (s : ByteArray) (a : Nat) (h1 : a ≤ s.size) (hs : s.size ≤ 140737488351232) : ∀ (f kk : Nat), f + kk = 5 → a + kk ≤ s.size → (∀ b ∈ ((bytesOf s).drop a).take kk, 128 ≤ b ∧ b ≤ 255) →
 Ev (fun k => spec_ReadVar.l0 k s (a : Int) (dec (((bytesOf s).drop a).take kk)) (128 ^ kk) ((a : Int) + (kk : Int))) (rvO (a : Int) (rvL f ((bytesOf s).drop (a + kk)) kk (dec (((bytesOf s).drop a).take kk))))
 | 0, kk, hf, hk, hp => by
  refine Ev.step (f := fun k => spec_ReadVar.j1 k s (a : Int) (dec (((bytesOf s).drop a).take kk)) (128 ^ kk) ((a : Int) + (kk : Int)) false) (fun k => ?_) ?_
  ·simp only [spec_ReadVar.l0]
   rw [w64 (by omega) (by omega)]
   have : decide ((a : Int) + (kk : Int) < (a : Int) + 5) = false := decide_eq_false (by omega)
   rw [this]
   split <;> rfl
  ·refine Ev.step (f := fun _ => some (0, 0, false)) (fun k => ?_) (Ev.now _)
   simp [spec_ReadVar.j1]
 | f + 1, kk, hf, hk, hp => by
  have hlen : (((bytesOf s).drop a).take kk).length = kk := by
   rw [List.length_take, List.length_drop, bytesOf_length]; omega
  by_cases hlt : (a : Int) + (kk : Int) < (s.size : Int)
  ·have c1 : (0 : Int) ≤ (a : Int) := Int.natCast_nonneg a
   have c2 : (a : Int) ≤ (a : Int) + (kk : Int) + 1 := by omega
   have c3 : (a : Int) + (kk : Int) + 1 ≤ (s.size : Int) := by omega
   have c4 : wrap64 ((a : Int) + (kk : Int) + 1) = (a : Int) + (kk : Int) + 1 := w64 (by omega) (by omega)
   have hb := bt_range s ((a : Int) + kk)
   have hsn := pre_snoc (s := s) (a := a) (kk := kk) hlt
   have hn : dec (((bytesOf s).drop a).take kk) + bt s ((a : Int) + kk) % 128 * 128 ^ kk = dec (((bytesOf s).drop a).take (kk + 1)) := by
    rw [hsn, dec_snoc, hlen]
   have hnn := dec_nonneg (((bytesOf s).drop a).take kk)
   have hbound : dec (((bytesOf s).drop a).take (kk + 1)) < 128 ^ (kk + 1) := dec_lt _ (by rw [List.length_take]; omega)
   have hdrop : (bytesOf s).drop (a + kk) = bt s ((a : Int) + kk) :: (bytesOf s).drop (a + (kk + 1)) := by
    have := bytesOf_drop (s := s) (i := (a : Int) + kk) (by omega) hlt
    rwa [show ((a : Int) + (kk : Int)).toNat = a + kk by omega, show ((a : Int) + (kk : Int) + 1).toNat = a + (kk + 1) by omega] at this
   have h128 := pow5 (kk := kk) (by omega)
   have h128' : (128 : Int) ^ (kk + 1) = 128 ^ kk * 128 := Int.pow_succ ..
   have hpos : (0 : Int) < 128 ^ kk := Int.pow_pos (by decide)
   have hmul : 0 ≤ bt s ((a : Int) + kk) % 128 * 128 ^ kk := Int.mul_nonneg (by omega) (by omega)
   have hmul2 : bt s ((a : Int) + kk) % 128 * 128 ^ kk ≤ 127 * 128 ^ kk := Int.mul_le_mul_of_nonneg_right (by omega) (by omega)
   have hnn1 := dec_nonneg (((bytesOf s).drop a).take (kk + 1))
   have hcalc : wrap64 (dec (((bytesOf s).drop a).take kk) + wrap64 (Int.tmod (wrap64 (bt s ((a : Int) + kk))) 128 * 128 ^ kk)) = dec (((bytesOf s).drop a).take (kk + 1)) := by
    rw [w64 (n := bt s ((a : Int) + kk)) (by omega) (by omega), tmod_nat hb.1, w64 (n := bt s ((a : Int) + kk) % 128 * 128 ^ kk) (by omega) (by omega), hn, w64 (by omega) (by omega)]
   refine Ev.step (f := fun k => spec_ReadVar.j1 k s (a : Int) (dec (((bytesOf s).drop a).take kk)) (128 ^ kk) ((a : Int) + (kk : Int)) true) (fun k => ?_) ?_
   ·simp only [spec_ReadVar.l0]
    rw [w64 (by omega) (by omega), if_pos hlt]
    have : decide ((a : Int) + (kk : Int) < (a : Int) + 5) = true := decide_eq_true (by omega)
    rw [this]
   ·rw [hdrop]
    by_cases hb2 : bt s ((a : Int) + kk) < 128
    ·by_cases hm : dec (((bytesOf s).drop a).take (kk + 1)) > 1000000000
     ·refine Ev.step (f := fun _ => some (0, 0, false)) (fun k => ?_) ?_
      ·simp only [spec_ReadVar.j1]
       rw [if_pos trivial, if_pos (by omega), if_pos hlt, if_pos hb2, hcalc, if_pos hm]
      ·simp only [rvL]
       rw [hn, if_pos hb2, if_pos (.inr hm)]
       exact Ev.now _
     ·obtain ⟨K, hK⟩ := spec_l01Var_ev (n := dec (((bytesOf s).drop a).take (kk + 1))) hnn1 (by omega)
      refine ⟨K + 1, fun k hk => ?_⟩
      obtain ⟨k, rfl⟩ : ∃ m, k = m + 1 := ⟨k - 1, by omega⟩
      have e0 : spec_l01Var.f k _ = some _ := hK k (by omega)
      simp only [spec_ReadVar.j1]
      rw [if_pos trivial, if_pos (by omega), if_pos hlt, if_pos hb2, hcalc, if_neg hm, e0, Option.bind_some]
      rw [if_pos c1, c4, if_pos c2, if_pos c3]
      have hext : bytesOf (s.extract ((a : Int)).toNat ((a : Int) + (kk : Int) + 1).toNat) = ((bytesOf s).drop a).take kk ++ [bt s ((a : Int) + kk)] := by
       rw [bytesOf_ext, ← hsn, Int.toNat_natCast, show ((a : Int) + (kk : Int) + 1).toNat - a = kk + 1 by omega]
      simp only [rvL]
      rw [hn, if_pos hb2]
      by_cases hz : bt s ((a : Int) + kk) = 0 ∧ 0 < kk
      ·have hne : ¬ (varT (dec (((bytesOf s).drop a).take (kk + 1)))).toList = (s.extract ((a : Int)).toNat ((a : Int) + (kk : Int) + 1).toNat).toList := by
        rw [toList_iff]
        intro e
        have e2 := congrArg bytesOf e
        rw [bytesOf_varT, hext, hz.1] at e2
        refine vl_ne _ (fun e3 => ?_) _ e2
        rw [e3] at hlen
        simp at hlen
        omega
       rw [if_neg hne, if_pos (.inl hz)]; rfl
      ·have heq : (varT (dec (((bytesOf s).drop a).take (kk + 1)))).toList = (s.extract ((a : Int)).toNat ((a : Int) + (kk : Int) + 1).toNat).toList := by
        rw [toList_iff]
        apply bytesOf_inj
        rw [bytesOf_varT, hext]
        rw [hsn]
        refine vl_dec _ _ hp hb.1 (by omega) ?_
        rcases Nat.eq_zero_or_pos kk with h3 | h3
        ·left; subst h3; rfl
        ·right; intro e; exact hz ⟨e, h3⟩
       rw [if_pos heq, if_neg (by omega)]
       simp only [rvO, Int.add_assoc, Int.natCast_add, Int.cast_ofNat_Int]
    ·refine Ev.step (f := fun k => spec_ReadVar.l0 k s (a : Int) (dec (((bytesOf s).drop a).take (kk + 1))) (128 ^ (kk + 1)) ((a : Int) + ((kk + 1 : Nat) : Int))) (fun k => ?_) ?_
     ·simp only [spec_ReadVar.j1]
      rw [if_pos trivial, if_pos (by omega), if_pos hlt, if_neg hb2, hcalc, w64 (n := (a : Int) + kk + 1) (by omega) (by omega), w64 (n := 128 ^ kk * 128) (by omega) (by omega), ← h128', show (a : Int) + (kk : Int) + 1 = (a : Int) + ((kk + 1 : Nat) : Int) by omega]
     ·simp only [rvL]
      rw [if_neg hb2, hn]
      refine spec_ReadVar_l0 s a h1 hs f (kk + 1) (by omega) (by omega) ?_
      intro x hx
      rw [hsn] at hx
      rcases List.mem_append.1 hx with hx | hx
      ·exact hp x hx
      ·have := List.mem_singleton.1 hx
       subst this
       omega
  ·have hend : (bytesOf s).drop (a + kk) = [] := by
    have := bytesOf_drop_end (s := s) (i := (a : Int) + kk) hlt
    rwa [show ((a : Int) + (kk : Int)).toNat = a + kk by omega] at this
   rw [hend]
   refine Ev.step (f := fun k => spec_ReadVar.j1 k s (a : Int) (dec (((bytesOf s).drop a).take kk)) (128 ^ kk) ((a : Int) + (kk : Int)) false) (fun k => ?_) ?_
   ·simp only [spec_ReadVar.l0]
    rw [if_neg hlt]
   ·refine Ev.step (f := fun _ => some (0, 0, false)) (fun k => ?_) (Ev.now _)
    simp [spec_ReadVar.j1]
theorem spec_ReadVar_ev (s : ByteArray) (at0 : Int) (hs : s.size ≤ 140737488351232) : Ev (fun k => spec_ReadVar.f k s at0) (rvC s at0) := by
 by_cases h : 0 ≤ at0 ∧ at0 ≤ (s.size : Int)
 ·obtain ⟨a, rfl⟩ := Int.eq_ofNat_of_zero_le h.1
  obtain ⟨K, hK⟩ := spec_ReadVar_l0 s a (by omega) hs 5 0 rfl (by omega) (by simp)
  refine ⟨K, fun k hk => ?_⟩
  have := hK k hk
  simp only [spec_ReadVar.f, spec_l01In_eq, Option.bind_some, h, rvC, rv]
  simpa [dec] using this
 ·refine ⟨0, fun k _ => ?_⟩
  simp only [spec_ReadVar.f, spec_l01In_eq, Option.bind_some, h, rvC]
  simp
theorem impl_in_eq (a b c : Int) : impl_in.f a b c = some (decide (b ≤ a ∧ a ≤ c)) := by
 unfold impl_in.f
 by_cases h : a ≥ b
 ·rw [if_pos h]; simp [show b ≤ a from h]
 ·rw [if_neg h]; simp [show ¬ b ≤ a from h]
theorem bits_low7 {n : Int} (h0 : 0 ≤ n) (h1 : n ≤ 9223372036854775807) : Go.bits .and .i64 n 127 = n % 128 :=
 bits_mask .i64 63 (by decide) (fun n h0 h1 => by rw [IntKind.wrap_i64]; omega) 7 (by decide) n h0 (by omega)
theorem bits_or128 {n : Int} (h0 : 0 ≤ n) (h1 : n < 128) : Go.bits .or .i64 n 128 = n + 128 := by
 obtain ⟨a, rfl⟩ := Int.eq_ofNat_of_zero_le h0
 have h := (bits_nat .i64 63 (by decide) (fun n h0 h1 => by rw [IntKind.wrap_i64]; omega) a 128 (by omega) (by omega)).2
 have e : a ||| 128 = 128 + a := by
  have := Nat.two_pow_add_eq_or_of_lt (i := 7) (b := a) (by omega) 1
  rw [Nat.or_comm, show (128 : Nat) ||| a = 2 ^ 7 * 1 ||| a from rfl, ← this]
 rw [e] at h
 rw [show (128 : Int) = ((128 : Nat) : Int) from rfl, h]; omega
theorem or_add (a b i : Nat) (hi : i ≤ 40) (ha : a < 2 ^ i) (hb : b < 128) : Go.bits .or .i64 (a : Int) ((2 ^ i * b : Nat) : Int) = (a : Int) + ((2 ^ i * b : Nat) : Int) := by
 have e : 2 ^ i * b < 2 ^ 63 := by
  have h1 : 2 ^ i ≤ 2 ^ 40 := Nat.pow_le_pow_right (by decide) hi
  calc 2 ^ i * b ≤ 2 ^ 40 * b := Nat.mul_le_mul_right _ h1
   _ < 2 ^ 63 := by omega
 have e2 : a < 2 ^ 63 := Nat.lt_of_lt_of_le ha (Nat.pow_le_pow_right (by decide) (by omega))
 rw [(bits_nat .i64 63 (by decide) (fun n h0 h1 => by rw [IntKind.wrap_i64]; omega) a (2 ^ i * b) e2 e).2, Nat.or_comm, ← Nat.two_pow_add_eq_or_of_lt ha b]
 omega
theorem or_shl {n b : Int} {kk : Nat} (hk : kk ≤ 4) (h0 : 0 ≤ n) (h1 : n < 128 ^ kk) (hb0 : 0 ≤ b) (hb1 : b ≤ 255) :
 Go.bits .or .i64 n (shl .i64 (Go.bits .and .i64 (wrap64 b) 127) (wrap64 (7 * (kk : Int)))) = n + b % 128 * 128 ^ kk := by
 rw [w64 (by omega) (by omega), w64 (by omega) (by omega), bits_low7 hb0 (by omega)]
 obtain ⟨a, rfl⟩ := Int.eq_ofNat_of_zero_le h0
 obtain ⟨c, rfl⟩ := Int.eq_ofNat_of_zero_le hb0
 have key := or_add a (c % 128) (7 * kk) (by omega) (by
  have : ((a : Nat) : Int) < ((128 ^ kk : Nat) : Int) := by simpa using h1
  have h2 : a < 128 ^ kk := by omega
  rwa [show 2 ^ (7 * kk) = 128 ^ kk by rw [Nat.pow_mul]]) (by omega)
 have es : shl .i64 ((c : Int) % 128) (7 * (kk : Int)) = ((2 ^ (7 * kk) * (c % 128) : Nat) : Int) := by
  unfold shl
  have hm : min ((7 * (kk : Int)).toNat) IntKind.i64.bits = 7 * kk := by
   have : (7 * (kk : Int)).toNat = 7 * kk := by omega
   rw [this]
   exact Nat.min_eq_left (by simp [IntKind.bits]; omega)
  rw [hm, IntKind.wrap_i64]
  obtain rfl | rfl | rfl | rfl | rfl : kk = 0 ∨ kk = 1 ∨ kk = 2 ∨ kk = 3 ∨ kk = 4 := by omega
  all_goals simp only [Nat.reduceMul, Nat.reducePow, Int.reducePow, Nat.mul_zero, Nat.pow_zero, Int.pow_zero]; omega
 rw [es, key]
 congr 1
 rw [show 2 ^ (7 * kk) = 128 ^ kk by rw [Nat.pow_mul]]
 simp [Int.mul_comm]
theorem impl_ReadVar_l0 (s : ByteArray) (at0 : Int) (h0 : 0 ≤ at0) (h1 : at0 ≤ (s.size : Int)) (hs : s.size ≤ 140737488351232) : ∀ (f kk : Nat) (n : Int), f + kk = 5 → 0 ≤ n → n < 128 ^ kk →
 Ev (fun k => impl_ReadVar.l0 k s at0 n (kk : Int)) (rvO at0 (rvL f ((bytesOf s).drop (at0 + kk).toNat) kk n))
 | 0, kk, n, hf, _, _ => by
  refine Ev.step (f := fun k => impl_ReadVar.j1 k s at0 n (kk : Int) false) (fun k => ?_) ?_
  ·simp only [impl_ReadVar.l0]; rw [if_neg (by omega)]
  ·refine Ev.step (f := fun _ => some (0, 0, false)) (fun k => ?_) (Ev.now _)
   simp [impl_ReadVar.j1]
 | f + 1, kk, n, hf, hn0, hn1 => by
  refine Ev.step (f := fun k => impl_ReadVar.j1 k s at0 n (kk : Int) (decide (wrap64 (at0 + (kk : Int)) < (s.size : Int)))) (fun k => ?_) ?_
  ·simp only [impl_ReadVar.l0]; rw [if_pos (by omega)]
  ·rw [w64 (by omega) (by omega)]
   by_cases hlt : at0 + (kk : Int) < (s.size : Int)
   ·have hb := bt_range s (at0 + kk)
    have hor := or_shl (n := n) (b := bt s (at0 + kk)) (kk := kk) (by omega) hn0 hn1 hb.1 hb.2
    rw [bytesOf_drop (by omega) hlt]
    have hpow : n + bt s (at0 + kk) % 128 * 128 ^ kk < 128 ^ (kk + 1) := by
     rw [Int.pow_succ]
     have h3 : bt s (at0 + kk) % 128 * 128 ^ kk ≤ 127 * 128 ^ kk := Int.mul_le_mul_of_nonneg_right (by omega) (Int.le_of_lt (Int.pow_pos (by decide)))
     omega
    have hge : 0 ≤ n + bt s (at0 + kk) % 128 * 128 ^ kk := by
     have : 0 ≤ bt s (at0 + kk) % 128 * 128 ^ kk := Int.mul_nonneg (by omega) (Int.le_of_lt (Int.pow_pos (by decide)))
     omega
    by_cases hb2 : bt s (at0 + kk) < 128
    ·refine Ev.step (f := fun _ => some (rvO at0 (rvL (f + 1) (bt s (at0 + kk) :: (bytesOf s).drop (at0 + kk + 1).toNat) kk n))) (fun k => ?_) (Ev.now _)
     simp only [impl_ReadVar.j1, rvL]
     rw [w64 (n := at0 + kk) (by omega) (by omega), if_pos (by simpa using hlt), if_pos (by omega), if_pos hlt, if_pos (by rw [w64 (by omega) (by omega)]; omega), hor, w64 (n := bt s (at0 + kk)) (by omega) (by omega), if_neg (by omega), if_pos hb2]
     by_cases hz : bt s (at0 + kk) = 0
     ·rw [if_pos hz]
      by_cases hk : (kk : Int) > 0
      ·rw [if_pos hk, if_pos (.inl ⟨hz, by omega⟩)]; rfl
      ·rw [if_neg hk]
       by_cases hm : n + bt s (at0 + kk) % 128 * 128 ^ kk > 1000000000
       ·rw [if_pos hm, if_pos (.inr hm)]; rfl
       ·rw [if_neg hm, if_neg (by omega), w64 (by omega) (by omega)]
        simp only [rvO, Int.add_assoc, Int.natCast_add, Int.cast_ofNat_Int]
     ·rw [if_neg hz]
      by_cases hm : n + bt s (at0 + kk) % 128 * 128 ^ kk > 1000000000
      ·rw [if_pos hm, if_pos (.inr hm)]; rfl
      ·rw [if_neg hm, if_neg (by omega), w64 (by omega) (by omega)]
       simp only [rvO, Int.add_assoc, Int.natCast_add, Int.cast_ofNat_Int]
    ·refine Ev.step (f := fun k => impl_ReadVar.l0 k s at0 (n + bt s (at0 + kk) % 128 * 128 ^ kk) ((kk + 1 : Nat) : Int)) (fun k => ?_) ?_
     ·simp only [impl_ReadVar.j1]
      rw [w64 (n := at0 + kk) (by omega) (by omega), if_pos (by simpa using hlt), if_pos (by omega), if_pos hlt, if_pos (by rw [w64 (by omega) (by omega)]; omega), hor, w64 (n := bt s (at0 + kk)) (by omega) (by omega), if_pos (by omega), w64 (n := (kk : Int) + 1) (by omega) (by omega)]
      rfl
     ·have ih := impl_ReadVar_l0 s at0 h0 h1 hs f (kk + 1) (n + bt s (at0 + kk) % 128 * 128 ^ kk) (by omega) hge hpow
      simp only [rvL]
      rw [if_neg hb2]
      rw [show at0 + (kk : Int) + 1 = at0 + ((kk + 1 : Nat) : Int) by omega]
      exact ih
   ·rw [bytesOf_drop_end hlt]
    refine Ev.step (f := fun _ => some (0, 0, false)) (fun k => ?_) (Ev.now _)
    simp [impl_ReadVar.j1, hlt]
theorem impl_ReadVar_ev (s : ByteArray) (at0 : Int) (hs : s.size ≤ 140737488351232) : Ev (fun k => impl_ReadVar.f k s at0) (rvC s at0) := by
 by_cases h : 0 ≤ at0 ∧ at0 ≤ (s.size : Int)
 ·obtain ⟨K, hK⟩ := impl_ReadVar_l0 s at0 h.1 h.2 hs 5 0 0 rfl (by omega) (by decide)
  refine ⟨K, fun k hk => ?_⟩
  have := hK k hk
  simp only [impl_ReadVar.f, impl_in_eq, Option.bind_some, h, rvC, rv]
  simpa using this
 ·refine ⟨0, fun k _ => ?_⟩
  simp only [impl_ReadVar.f, impl_in_eq, Option.bind_some, h, rvC]
  simp
theorem spec_l05Rise_l0 (l : List Int) (hl : l.length ≤ 140737488351232) : ∀ (d i : Nat), i + d = l.length →
 Ev (fun k => spec_l05Rise.l0 k l 1 4 (i : Int)) (riseL (prv l i) (l.drop i))
 | 0, i, hd => by
  refine Ev.step (f := fun _ => some true) (fun k => ?_) ?_
  ·simp only [spec_l05Rise.l0]; rw [if_neg (by omega)]
  ·rw [List.drop_eq_nil_of_le (by omega)]; exact Ev.now _
 | d + 1, i, hd => by
  have ih := spec_l05Rise_l0 l hl d (i + 1) (by omega)
  rw [prv_succ] at ih
  rw [drop_rd (by omega)]
  simp only [riseL]
  have hw : wrap64 ((i : Int) + 1) = ((i + 1 : Nat) : Int) := by rw [w64 (by omega) (by omega)]; rfl
  have hw2 : wrap64 ((i : Int) - 1) = (i : Int) - 1 := w64 (by omega) (by omega)
  by_cases h1 : 1 ≤ rd l (i : Int) ∧ rd l (i : Int) ≤ 4
  ·by_cases h2 : prv l i < rd l (i : Int)
   ·rw [if_pos ⟨h1.1, h1.2, h2⟩]
    refine Ev.step (f := fun k => spec_l05Rise.l0 k l 1 4 ((i + 1 : Nat) : Int)) (fun k => ?_) ih
    simp only [spec_l05Rise.l0, spec_l01In_eq]
    rw [if_pos (by omega), if_pos (by omega), Option.bind_some, if_pos (by simpa using h1), hw, hw2]
    by_cases h3 : (i : Int) > 0
    ·unfold prv at h2
     rw [if_neg (by omega)] at h2
     rw [if_pos h3, if_pos (by omega), if_pos (by omega), if_neg (by omega)]
    ·rw [if_neg h3]
   ·rw [if_neg (fun h => h2 h.2.2)]
    refine Ev.step (f := fun _ => some false) (fun k => ?_) (Ev.now _)
    have h3 : (i : Int) > 0 := by
     rcases Nat.eq_zero_or_pos i with rfl | h3
     ·rw [show prv l 0 = 0 from rfl] at h2; omega
     ·omega
    unfold prv at h2
    rw [if_neg (by omega)] at h2
    simp only [spec_l05Rise.l0, spec_l01In_eq]
    rw [if_pos (by omega), if_pos (by omega), Option.bind_some, if_pos (by simpa using h1), hw2, if_pos h3, if_pos (by omega), if_pos (by omega), if_pos (by omega)]
  ·rw [if_neg (fun h => h1 ⟨h.1, h.2.1⟩)]
   refine Ev.step (f := fun _ => some false) (fun k => ?_) (Ev.now _)
   simp only [spec_l05Rise.l0, spec_l01In_eq]
   rw [if_pos (by omega), if_pos (by omega), Option.bind_some, if_neg (by simpa using h1)]
theorem spec_ConfOk_ev (l : List Int) (hl : l.length ≤ 140737488351232) : Ev (fun k => spec_ConfOk.f k l) (confC l) := by
 by_cases h : 1 ≤ l.length ∧ l.length ≤ 4
 ·obtain ⟨K, hK⟩ := spec_l05Rise_l0 l hl l.length 0 (by omega)
  refine ⟨K, fun k hk => ?_⟩
  have e : spec_l05Rise.l0 k l 1 4 0 = some _ := hK k hk
  simp only [spec_ConfOk.f, spec_l05Rise.f, spec_l01In_eq]
  rw [Option.bind_some, if_pos (by simp; omega), e, Option.bind_some]
  unfold confC
  rw [decide_eq_true h.1]; rfl
 ·refine ⟨0, fun k _ => ?_⟩
  simp only [spec_ConfOk.f, spec_l01In_eq]
  rw [Option.bind_some, if_neg (by simp; omega)]
  cases hc : confC l with
  | false => rfl
  | true => exact absurd (confC_len hc) h
theorem spec_ReadConf_l0 (s : ByteArray) (hs : s.size ≤ 1048576) : ∀ (d i : Nat), i + d = min s.size 5 →
 Ev (fun k => spec_ReadConf.l0 k s ((bytesOf s).take i) (i : Int)) (rconfC s)
 | 0, i, hd => by
  have hbl := bytesOf_length s
  have hlen : ((bytesOf s).take i).length = i := by rw [List.length_take, bytesOf_length]; omega
  by_cases h : i < s.size
  ·refine Ev.step (f := fun _ => some ([], false)) (fun k => ?_) ?_
   ·simp only [spec_ReadConf.l0]; rw [if_pos (by omega), if_neg (by omega), if_neg (by omega)]
   ·have : ¬ confC (bytesOf s) = true := fun h => by have := confC_len h; omega
    unfold rconfC
    rw [if_neg this]; exact Ev.now _
  ·have e : (bytesOf s).take i = bytesOf s := List.take_of_length_le (by omega)
   rw [e]
   obtain ⟨K, hK⟩ := spec_ConfOk_ev (bytesOf s) (by omega)
   refine ⟨K + 1, fun k hk => ?_⟩
   obtain ⟨k, rfl⟩ : ∃ m, k = m + 1 := ⟨k - 1, by omega⟩
   have e2 : spec_ConfOk.f k (bytesOf s) = some _ := hK k (by omega)
   simp only [spec_ReadConf.l0]
   rw [if_neg (by omega), if_pos (by omega), e2, Option.bind_some]
   unfold rconfC
   by_cases hc : confC (bytesOf s) = true
   ·rw [if_pos hc, if_pos hc]
   ·rw [if_neg hc, if_neg hc]
 | d + 1, i, hd => by
  have hb := bt_range s (i : Int)
  have hlen : ((bytesOf s).take i).length = i := by rw [List.length_take, bytesOf_length]; omega
  refine Ev.step (f := fun k => spec_ReadConf.l0 k s ((bytesOf s).take (i + 1)) ((i + 1 : Nat) : Int)) (fun k => ?_) (spec_ReadConf_l0 s hs d (i + 1) (by omega))
  simp only [spec_ReadConf.l0]
  rw [if_pos (by omega), if_pos (by omega), if_pos (by omega), if_pos (by omega), w64 (n := bt s (i : Int)) (by omega) (by omega), w64 (by omega) (by omega), take_bytes_succ (by omega)]; rfl
theorem spec_ReadConf_ev (s : ByteArray) (hs : s.size ≤ 1048576) : Ev (fun k => spec_ReadConf.f k s) (rconfC s) :=
 spec_ReadConf_l0 s hs (min s.size 5) 0 (by omega)
theorem spec_EntryOk_ev (t k : Int) (d : ByteArray) (hd : d.size ≤ 1048576) : Ev (fun n => spec_EntryOk.f n t k d) (eokC t k d) := by
 obtain ⟨K, hK⟩ := spec_ReadConf_ev d hd
 refine ⟨K, fun n hn => ?_⟩
 have e : spec_ReadConf.f n d = some _ := hK n hn
 simp only [spec_EntryOk.f, spec_l01In_eq, eokC]
 rw [Option.bind_some]
 by_cases h : 0 ≤ t ∧ t ≤ 100000
 ·rw [if_pos (by simpa using h), if_pos h]
  by_cases h1 : k = 1
  ·rw [if_pos h1, if_pos h1]
  ·rw [if_neg h1, if_neg h1]
   by_cases h2 : k = 2
   ·rw [if_pos h2, if_pos h2, e, Option.bind_some]
   ·rw [if_neg h2, if_neg h2]
    by_cases h3 : k = 3
    ·rw [if_pos h3, if_pos h3]
    ·rw [if_neg h3, if_neg h3]
 ·rw [if_neg (by simpa using h), if_neg h]
theorem spec_EntryText_ev (i t k : Int) (d : ByteArray) (hd : d.size ≤ 1048576) : Ev (fun n => spec_EntryText.f n i t k d) (entC i t k d) := by
 obtain ⟨K, hK⟩ := spec_EntryOk_ev t k d hd
 by_cases h : eokC t k d = true
 ·by_cases h1 : 1 ≤ i ∧ i ≤ 1000000
  ·have ht := eokC_term h
   obtain ⟨K1, hK1⟩ := spec_l01Var_ev (n := i) (by omega) (by omega)
   obtain ⟨K2, hK2⟩ := spec_l01Var_ev (n := t) (by omega) (by omega)
   refine ⟨K + K1 + K2 + 1, fun n hn => ?_⟩
   obtain ⟨n, rfl⟩ : ∃ m, n = m + 1 := ⟨n - 1, by omega⟩
   have e : spec_EntryOk.f (n + 1) t k d = some _ := hK _ (by omega)
   have e1 : spec_l01Var.f n i = some _ := hK1 _ (by omega)
   have e2 : spec_l01Var.f n t = some _ := hK2 _ (by omega)
   have z1 := varT_size (n := i) (by omega) (by omega)
   have z2 := varT_size (n := t) (by omega) (by omega)
   have z3 : (strOfNums [k % 256]).size = 1 := by rw [strOfNums_size]; rfl
   have z0 : (⟨#[69]⟩ : ByteArray).size = 1 := rfl
   simp only [spec_EntryText.f, spec_l01In_eq, entC]
   rw [e, Option.bind_some, if_pos h, Option.bind_some, show (!(decide (1 ≤ i ∧ i ≤ 1000000))) = false by simp; omega, if_pos ⟨h, h1⟩]
   simp only [spec_EntryText.j0]
   rw [if_neg (by simp), e1, Option.bind_some, if_pos (by omega), e2, Option.bind_some, if_pos (by simp only [ByteArray.size_append]; omega), Option.bind_some, if_pos (by simp only [ByteArray.size_append]; omega), if_pos (by simp only [ByteArray.size_append]; omega)]
   rfl
  ·refine ⟨K + 1, fun n hn => ?_⟩
   obtain ⟨n, rfl⟩ : ∃ m, n = m + 1 := ⟨n - 1, by omega⟩
   have e : spec_EntryOk.f (n + 1) t k d = some _ := hK _ (by omega)
   simp only [spec_EntryText.f, spec_l01In_eq, entC]
   rw [e, Option.bind_some, if_pos h, Option.bind_some, show (!(decide (1 ≤ i ∧ i ≤ 1000000))) = true by simp; omega, if_neg (fun h2 => h1 h2.2)]
   simp only [spec_EntryText.j0]
   rw [if_pos trivial]
 ·refine ⟨K + 1, fun n hn => ?_⟩
  obtain ⟨n, rfl⟩ : ∃ m, n = m + 1 := ⟨n - 1, by omega⟩
  have e : spec_EntryOk.f (n + 1) t k d = some _ := hK _ (by omega)
  simp only [spec_EntryText.f, entC]
  rw [e, Option.bind_some, if_neg h, if_neg (fun h2 => h h2.1)]
  simp only [spec_EntryText.j0]
  rw [if_pos trivial]
theorem impl_ConfOk_l0 (l : List Int) (hl : l.length ≤ 140737488351232) : ∀ (d i : Nat), i + d = l.length →
 Ev (fun k => impl_ConfOk.l0 k l l (l.length : Int) (i : Int)) (riseL (prv l i) (l.drop i) && decide (1 ≤ l.length))
 | 0, i, hd => by
  refine Ev.step (f := fun _ => some (decide ((l.length : Int) ≥ 1))) (fun k => ?_) ?_
  ·simp only [impl_ConfOk.l0]; rw [if_neg (by omega)]
  ·rw [List.drop_eq_nil_of_le (by omega)]
   have : (true && decide (1 ≤ l.length)) = decide ((l.length : Int) ≥ 1) := by
    rw [Bool.true_and]
    by_cases h : 1 ≤ l.length
    ·rw [decide_eq_true h, decide_eq_true (by omega)]
    ·rw [decide_eq_false h, decide_eq_false (by omega)]
   simp only [riseL]
   rw [this]
   exact Ev.now _
 | d + 1, i, hd => by
  have ih := impl_ConfOk_l0 l hl d (i + 1) (by omega)
  rw [prv_succ] at ih
  rw [drop_rd (by omega)]
  simp only [riseL]
  have hw : wrap64 ((i : Int) + 1) = ((i + 1 : Nat) : Int) := by rw [w64 (by omega) (by omega)]; rfl
  have hw2 : wrap64 ((i : Int) - 1) = (i : Int) - 1 := w64 (by omega) (by omega)
  by_cases h1 : 1 ≤ rd l (i : Int) ∧ rd l (i : Int) ≤ 4
  ·by_cases h2 : prv l i < rd l (i : Int)
   ·rw [if_pos ⟨h1.1, h1.2, h2⟩]
    refine Ev.step (f := fun k => impl_ConfOk.l0 k l l (l.length : Int) ((i + 1 : Nat) : Int)) (fun k => ?_) ih
    simp only [impl_ConfOk.l0, impl_in_eq]
    rw [if_pos (by omega), if_pos (by omega), if_pos (by omega), Option.bind_some, if_pos (by simpa using h1), hw, hw2]
    by_cases h3 : (i : Int) > 0
    ·unfold prv at h2
     rw [if_neg (by omega)] at h2
     rw [if_pos h3, if_pos (by omega), if_pos (by omega), if_neg (by omega)]
    ·rw [if_neg h3]
   ·rw [if_neg (fun h => h2 h.2.2)]
    refine Ev.step (f := fun _ => some false) (fun k => ?_) (Ev.now _)
    have h3 : (i : Int) > 0 := by
     rcases Nat.eq_zero_or_pos i with rfl | h3
     ·rw [show prv l 0 = 0 from rfl] at h2; omega
     ·omega
    unfold prv at h2
    rw [if_neg (by omega)] at h2
    simp only [impl_ConfOk.l0, impl_in_eq]
    rw [if_pos (by omega), if_pos (by omega), if_pos (by omega), Option.bind_some, if_pos (by simpa using h1), hw2, if_pos h3, if_pos (by omega), if_pos (by omega), if_pos (by omega)]
  ·rw [if_neg (fun h => h1 ⟨h.1, h.2.1⟩)]
   refine Ev.step (f := fun _ => some false) (fun k => ?_) (Ev.now _)
   simp only [impl_ConfOk.l0, impl_in_eq]
   rw [if_pos (by omega), if_pos (by omega), if_pos (by omega), Option.bind_some, if_neg (by simpa using h1)]
theorem impl_ConfOk_ev (l : List Int) (hl : l.length ≤ 140737488351232) : Ev (fun k => impl_ConfOk.f k l) (confC l) := by
 have h := impl_ConfOk_l0 l hl l.length 0 (by omega)
 unfold confC
 rw [Bool.and_comm]
 exact h
theorem impl_ReadConf_l0 (s : ByteArray) (hs : s.size ≤ 1048576) : ∀ (d i : Nat), i + d = s.size →
 Ev (fun k => impl_ReadConf.l0 k s ((bytesOf s).take i) (s.size : Int) (i : Int)) (rconfC s)
 | 0, i, hd => by
  have hbl := bytesOf_length s
  have e : (bytesOf s).take i = bytesOf s := List.take_of_length_le (by omega)
  rw [e]
  obtain ⟨K, hK⟩ := impl_ConfOk_ev (bytesOf s) (by omega)
  refine ⟨K + 1, fun k hk => ?_⟩
  obtain ⟨k, rfl⟩ : ∃ m, k = m + 1 := ⟨k - 1, by omega⟩
  have e2 : impl_ConfOk.f k (bytesOf s) = some _ := hK k (by omega)
  simp only [impl_ReadConf.l0]
  rw [if_neg (by omega), e2, Option.bind_some]
  unfold rconfC
  by_cases hc : confC (bytesOf s) = true
  ·rw [if_pos hc, if_pos hc]
  ·rw [if_neg hc, if_neg hc]
 | d + 1, i, hd => by
  have hb := bt_range s (i : Int)
  have hlen : ((bytesOf s).take i).length = i := by rw [List.length_take, bytesOf_length]; omega
  refine Ev.step (f := fun k => impl_ReadConf.l0 k s ((bytesOf s).take (i + 1)) (s.size : Int) ((i + 1 : Nat) : Int)) (fun k => ?_) (impl_ReadConf_l0 s hs d (i + 1) (by omega))
  simp only [impl_ReadConf.l0]
  rw [if_pos (by omega), if_pos (by omega), if_pos (by omega), if_pos (by omega), w64 (n := bt s (i : Int)) (by omega) (by omega), w64 (by omega) (by omega), take_bytes_succ (by omega)]; rfl
theorem impl_ReadConf_ev (s : ByteArray) (hs : s.size ≤ 1048576) : Ev (fun k => impl_ReadConf.f k s) (rconfC s) :=
 impl_ReadConf_l0 s hs s.size 0 (by omega)
theorem impl_EntryOk_ev (t k : Int) (d : ByteArray) (hd : d.size ≤ 1048576) : Ev (fun n => impl_EntryOk.f n t k d) (eokC t k d) := by
 obtain ⟨K, hK⟩ := impl_ReadConf_ev d hd
 refine ⟨K, fun n hn => ?_⟩
 have e : impl_ReadConf.f n d = some _ := hK n hn
 simp only [impl_EntryOk.f, impl_in_eq, eokC]
 rw [Option.bind_some]
 by_cases h : 0 ≤ t ∧ t ≤ 100000
 ·rw [if_pos (by simpa using h), if_pos h]
  by_cases h1 : k = 1
  ·rw [if_pos h1, if_pos h1]
  ·rw [if_neg h1, if_neg h1]
   by_cases h2 : k = 2
   ·rw [if_pos h2, if_pos h2, e, Option.bind_some]
   ·rw [if_neg h2, if_neg h2]
    by_cases h3 : k = 3
    ·rw [if_pos h3, if_pos h3]
    ·rw [if_neg h3, if_neg h3]
 ·rw [if_neg (by simpa using h), if_neg h]
theorem at_byte {s : ByteArray} {i : Nat} (h : i < s.size) : ∃ b : UInt8, s.data.toList[i]? = some b ∧ s.data.toList.drop i = b :: s.data.toList.drop (i + 1) ∧ bt s (i : Int) = (b.toNat : Int) := by
 have hl : i < s.data.toList.length := by rw [Array.length_toList]; exact h
 refine ⟨s.data.toList[i], List.getElem?_eq_getElem hl, List.drop_eq_getElem_cons hl, ?_⟩
 have h1 := bt_getElem (s := s) (i := (i : Int)) (by simpa using h)
 simp only [bytesOf, List.getElem?_map, Int.toNat_natCast, List.getElem?_eq_getElem hl, Option.map_some, Option.some.injEq] at h1
 exact h1.symm
def vnC (s : ByteArray) (at0 : Int) (bad : Bool) : Int × Int × Bool := if bad = true then (0, at0, true) else if (rvC s at0).2.2 = true then ((rvC s at0).1, (rvC s at0).2.1, false) else (0, at0, true)
def byC (s : ByteArray) (at0 : Int) (bad : Bool) : Int × Int × Bool := if bad = true then (0, at0, true) else if at0 < (s.size : Int) then (bt s at0, at0 + 1, false) else (0, at0, true)
theorem vnC_at {s : ByteArray} {at0 : Int} {bad : Bool} (h0 : 0 ≤ at0) (h1 : at0 ≤ (s.size : Int)) : 0 ≤ (vnC s at0 bad).2.1 ∧ (vnC s at0 bad).2.1 ≤ (s.size : Int) := by
 unfold vnC
 split
 ·exact ⟨h0, h1⟩
 ·split
  ·rename_i h
   have := rvC_range s at0 h
   exact ⟨by show 0 ≤ (rvC s at0).2.1; omega, this.2.2.2.2⟩
  ·exact ⟨h0, h1⟩
theorem byC_at {s : ByteArray} {at0 : Int} {bad : Bool} (h0 : 0 ≤ at0) (h1 : at0 ≤ (s.size : Int)) : 0 ≤ (byC s at0 bad).2.1 ∧ (byC s at0 bad).2.1 ≤ (s.size : Int) := by
 unfold byC
 split
 ·exact ⟨h0, h1⟩
 ·split
  ·exact ⟨by show 0 ≤ at0 + 1; omega, by show at0 + 1 ≤ (s.size : Int); omega⟩
  ·exact ⟨h0, h1⟩
theorem vnC_good {s : ByteArray} {at0 : Int} {bad : Bool} (h : (vnC s at0 bad).2.2 = false) : bad = false ∧ 0 ≤ at0 ∧ (vnC s at0 bad).2.1 ≤ (s.size : Int) ∧
 (bytesOf s).drop at0.toNat = vl (vnC s at0 bad).1.toNat ++ (bytesOf s).drop (vnC s at0 bad).2.1.toNat := by
 unfold vnC at h ⊢
 cases bad with
 | true => simp at h
 | false =>
  rw [if_neg (by simp)] at h ⊢
  by_cases c : (rvC s at0).2.2 = true
  ·rw [if_pos c]
   have hr := rvC_range s at0 c
   refine ⟨rfl, hr.1, hr.2.2.2.2, ?_⟩
   unfold rvC at c ⊢
   by_cases h1 : 0 ≤ at0 ∧ at0 ≤ (s.size : Int)
   ·rw [if_pos h1] at c ⊢
    cases hv : rv ((bytesOf s).drop at0.toNat) with
    | none => rw [hv] at c; simp [rvO] at c
    | some v =>
     obtain ⟨m, j⟩ := v
     have hs := rv_sound (fun b hb => bytesOf_range s b (List.mem_of_mem_drop hb)) hv
     show _ = vl m.toNat ++ (bytesOf s).drop (at0 + (j : Int)).toNat
     rw [hs.2.2.2.2, show (at0 + (j : Int)).toNat = at0.toNat + j by omega, ← List.drop_drop, List.take_append_drop]
   ·rw [if_neg h1] at c; simp at c
  ·rw [if_neg c] at h; simp at h
theorem byC_good {s : ByteArray} {at0 : Int} {bad : Bool} (h0 : 0 ≤ at0) (h : (byC s at0 bad).2.2 = false) : bad = false ∧ at0 < (s.size : Int) ∧ (byC s at0 bad).2.1 = at0 + 1 ∧ (byC s at0 bad).1 = bt s at0 ∧
 (bytesOf s).drop at0.toNat = (byC s at0 bad).1 :: (bytesOf s).drop (byC s at0 bad).2.1.toNat := by
 unfold byC at h ⊢
 cases bad with
 | true => simp at h
 | false =>
  rw [if_neg (by simp)] at h ⊢
  by_cases c : at0 < (s.size : Int)
  ·rw [if_pos c]
   exact ⟨rfl, c, rfl, rfl, bytesOf_drop h0 c⟩
  ·rw [if_neg c] at h; simp at h
def rentR (m i t k : Int) (d : ByteArray) (bad : Bool) : Int × Int × Int × ByteArray × Bool :=
 if bad = true then (0, 0, 0, ⟨#[]⟩, false) else if m = 69 ∧ eokC t k d = true ∧ 1 ≤ i ∧ i ≤ 1000000 then (i, t, k, d, true) else (0, 0, 0, ⟨#[]⟩, false)
def rentC (s : ByteArray) : Int × Int × Int × ByteArray × Bool :=
 let q1 := byC s 0 false
 let q2 := vnC s q1.2.1 q1.2.2
 let q3 := vnC s q2.2.1 q2.2.2
 let q4 := byC s q3.2.1 q3.2.2
 rentR q1.1 q2.1 q3.1 q4.1 (s.extract q4.2.1.toNat s.size) q4.2.2
theorem spec_l05Var_ev (s : ByteArray) (hs : s.size ≤ 140737488351232) (at0 : Int) (bad : Bool) : Ev (fun k => spec_l05Var.f k s at0 bad) ((vnC s at0 bad).1, s, (vnC s at0 bad).2.1, (vnC s at0 bad).2.2) := by
 obtain ⟨K, hK⟩ := spec_ReadVar_ev s at0 hs
 refine ⟨K, fun k hk => ?_⟩
 have e : spec_ReadVar.f k s at0 = some _ := hK k hk
 simp only [spec_l05Var.f]
 rw [e, Option.bind_some]
 unfold vnC
 cases bad with
 | true => simp
 | false =>
  by_cases c : (rvC s at0).2.2 = true
  ·simp [c]
  ·simp [c]
theorem impl_reader_number_ev (s : ByteArray) (hs : s.size ≤ 140737488351232) (at0 : Int) (bad : Bool) : Ev (fun k => impl_reader_number.f k s at0 bad) ((vnC s at0 bad).1, s, (vnC s at0 bad).2.1, (vnC s at0 bad).2.2) := by
 obtain ⟨K, hK⟩ := impl_ReadVar_ev s at0 hs
 refine ⟨K, fun k hk => ?_⟩
 have e : impl_ReadVar.f k s at0 = some _ := hK k hk
 simp only [impl_reader_number.f]
 rw [e, Option.bind_some]
 unfold vnC
 cases bad with
 | true => simp
 | false =>
  by_cases c : (rvC s at0).2.2 = true
  ·simp [c]
  ·simp [c]
theorem impl_reader_byte_eq (s : ByteArray) (hs : s.size ≤ 140737488351232) (at0 : Int) (bad : Bool) (h0 : 0 ≤ at0) (h1 : at0 ≤ (s.size : Int)) : impl_reader_byte.f s at0 bad = some ((byC s at0 bad).1, s, (byC s at0 bad).2.1, (byC s at0 bad).2.2) := by
 unfold impl_reader_byte.f byC
 cases bad with
 | true => rw [if_pos rfl, if_pos rfl]
 | false =>
  simp only [Bool.false_eq_true, ↓reduceIte]
  by_cases c : at0 < (s.size : Int)
  ·have hb := bt_range s at0
   rw [if_neg (by omega), if_pos c, w64 (n := at0 + 1) (by omega) (by omega), w64 (n := at0 + 1 - 1) (by omega) (by omega), if_pos (by omega), if_pos (by omega), show at0 + 1 - 1 = at0 by omega, w64 (by omega) (by omega)]
  ·rw [if_pos (by omega), if_neg c]
theorem spec_l05Take_eq (s : ByteArray) (hs : s.size ≤ 140737488351232) (at0 : Int) (bad : Bool) (h0 : 0 ≤ at0) (h1 : at0 ≤ (s.size : Int)) :
 ∃ x, spec_l05Take.f s at0 bad 1 = some (x, s, (byC s at0 bad).2.1, (byC s at0 bad).2.2) ∧ ((byC s at0 bad).2.2 = false → x.size = 1 ∧ bt x 0 = (byC s at0 bad).1) := by
 unfold spec_l05Take.f byC
 cases bad with
 | true => exact ⟨_, by rw [if_pos rfl, if_pos rfl], by simp⟩
 | false =>
  simp only [Bool.false_eq_true, ↓reduceIte]
  by_cases c : at0 < (s.size : Int)
  ·rw [w64 (n := (s.size : Int) - at0) (by omega) (by omega), if_neg (by omega), if_pos c, w64 (n := at0 + 1) (by omega) (by omega), w64 (n := at0 + 1 - 1) (by omega) (by omega), if_pos (by omega), if_pos (by omega), if_pos (by omega), show at0 + 1 - 1 = at0 by omega]
   refine ⟨_, rfl, fun _ => ?_⟩
   have hb : bytesOf (s.extract at0.toNat (at0 + 1).toNat) = [bt s at0] := by
    rw [bytesOf_ext, bytesOf_drop h0 c, show (at0 + 1).toNat - at0.toNat = 1 by omega]; rfl
   refine ⟨by rw [← bytesOf_length, hb]; rfl, ?_⟩
   rw [← rd_bytesOf, hb]; rfl
  ·rw [w64 (n := (s.size : Int) - at0) (by omega) (by omega), if_pos (by omega), if_neg c]
   exact ⟨_, rfl, by simp⟩
theorem entT_back (s : ByteArray) (m i t k : Int) (a1 a2 a3 a4 : Int) (b1 b2 b3 : Bool)
 (e1 : byC s 0 false = (m, a1, b1)) (e2 : vnC s a1 b1 = (i, a2, b2)) (e3 : vnC s a2 b2 = (t, a3, b3)) (e4 : byC s a3 b3 = (k, a4, false)) :
 entT i t k (s.extract a4.toNat s.size) = s ↔ m = 69 := by
 have r1 := byC_at (s := s) (at0 := 0) (bad := false) (by omega) (by omega)
 rw [e1] at r1
 have r2 := vnC_at (s := s) (at0 := a1) (bad := b1) r1.1 r1.2
 rw [e2] at r2
 have r3 := vnC_at (s := s) (at0 := a2) (bad := b2) r2.1 r2.2
 rw [e3] at r3
 have g4 := byC_good (s := s) (at0 := a3) (bad := b3) r3.1 (by rw [e4])
 obtain ⟨rfl, c4, d4, f4, g4⟩ := g4
 rw [e4] at d4 f4 g4
 have g3 := vnC_good (s := s) (at0 := a2) (bad := b2) (by rw [e3])
 obtain ⟨rfl, c3, d3, g3⟩ := g3
 rw [e3] at d3 g3
 have g2 := vnC_good (s := s) (at0 := a1) (bad := b1) (by rw [e2])
 obtain ⟨rfl, c2, d2, g2⟩ := g2
 rw [e2] at d2 g2
 have g1 := byC_good (s := s) (at0 := 0) (bad := false) (by omega) (by rw [e1])
 obtain ⟨_, c1, d1, f1, g1⟩ := g1
 rw [e1] at d1 f1 g1
 simp only [] at d1 f1 g1 d2 g2 d3 g3 d4 f4 g4
 have hall : bytesOf s = m :: (vl i.toNat ++ (vl t.toNat ++ k :: (bytesOf s).drop a4.toNat)) := by
  rw [← g4, ← g3, ← g2, ← g1]; rfl
 have hk := bt_range s a3
 rw [← f4] at hk
 have hx : bytesOf (s.extract a4.toNat s.size) = (bytesOf s).drop a4.toNat := by
  rw [bytesOf_ext]
  exact List.take_of_length_le (by rw [List.length_drop, bytesOf_length]; omega)
 have hE : bytesOf (entT i t k (s.extract a4.toNat s.size)) = 69 :: (vl i.toNat ++ (vl t.toNat ++ k :: (bytesOf s).drop a4.toNat)) := by
  have h1 : bytesOf (oneB [k]) = [k] := by
   unfold oneB
   rw [show [k].map (· % 256) = [k] by simp; omega]
   exact bytesOf_str _ (fun b hb => by rw [List.mem_singleton.1 hb]; exact hk)
  unfold entT
  simp only [bytesOf_app, bytesOf_varT, h1, hx, List.append_assoc, List.cons_append, List.nil_append]
  rfl
 constructor
 ·intro h
  have := congrArg bytesOf h
  rw [hE, hall] at this
  exact (List.cons.inj this).1.symm
 ·rintro rfl
  exact bytesOf_inj (hE.trans hall.symm)
theorem spec_ReadEntry_ev (s : ByteArray) (hs : s.size ≤ 1048576) : Ev (fun k => spec_ReadEntry.f k s) (rentC s) := by
 obtain ⟨m, a1, b1, e1⟩ : ∃ m a1 b1, byC s 0 false = (m, a1, b1) := ⟨_, _, _, rfl⟩
 obtain ⟨i, a2, b2, e2⟩ : ∃ i a2 b2, vnC s a1 b1 = (i, a2, b2) := ⟨_, _, _, rfl⟩
 obtain ⟨t, a3, b3, e3⟩ : ∃ t a3 b3, vnC s a2 b2 = (t, a3, b3) := ⟨_, _, _, rfl⟩
 obtain ⟨kd, a4, b4, e4⟩ : ∃ kd a4 b4, byC s a3 b3 = (kd, a4, b4) := ⟨_, _, _, rfl⟩
 have r1 := byC_at (s := s) (at0 := 0) (bad := false) (by omega) (by omega)
 rw [e1] at r1
 have r2 := vnC_at (s := s) (at0 := a1) (bad := b1) r1.1 r1.2
 rw [e2] at r2
 have r3 := vnC_at (s := s) (at0 := a2) (bad := b2) r2.1 r2.2
 rw [e3] at r3
 have r4 := byC_at (s := s) (at0 := a3) (bad := b3) r3.1 r3.2
 rw [e4] at r4
 simp only [] at r1 r2 r3 r4
 obtain ⟨x1, h1, _⟩ := spec_l05Take_eq s (by omega) 0 false (by omega) (by omega)
 obtain ⟨x4, h4, hx4⟩ := spec_l05Take_eq s (by omega) a3 b3 r3.1 r3.2
 obtain ⟨K2, h2⟩ := spec_l05Var_ev s (by omega) a1 b1
 obtain ⟨K3, h3⟩ := spec_l05Var_ev s (by omega) a2 b2
 rw [e1] at h1
 rw [e2] at h2
 rw [e3] at h3
 rw [e4] at h4 hx4
 simp only [] at h1 h2 h3 h4 hx4
 have hC : rentC s = rentR m i t kd (s.extract a4.toNat s.size) b4 := by
  unfold rentC
  simp only [e1, e2, e3, e4]
 rw [hC]
 cases b4 with
 | true =>
  refine ⟨K2 + K3, fun k hk => ?_⟩
  have f2 : spec_l05Var.f k s a1 b1 = some _ := h2 k (by omega)
  have f3 : spec_l05Var.f k s a2 b2 = some _ := h3 k (by omega)
  simp only [spec_ReadEntry.f]
  rw [h1, Option.bind_some, f2, Option.bind_some, f3, Option.bind_some, h4, Option.bind_some, if_pos rfl]
  unfold rentR
  rw [if_pos rfl]
 | false =>
  have hx := hx4 rfl
  have hk0 := bt_range x4 0
  rw [hx.2] at hk0
  have hxs : (s.extract a4.toNat s.size).size ≤ 1048576 := by
   rw [← bytesOf_length, bytesOf_ext, List.length_take, List.length_drop, bytesOf_length]; omega
  obtain ⟨K5, h5⟩ := spec_EntryText_ev i t kd (s.extract a4.toNat s.size) (by omega)
  refine ⟨K2 + K3 + K5, fun k hk => ?_⟩
  have f2 : spec_l05Var.f k s a1 b1 = some _ := h2 k (by omega)
  have f3 : spec_l05Var.f k s a2 b2 = some _ := h3 k (by omega)
  have f5 : spec_EntryText.f k i t kd (s.extract a4.toNat s.size) = some _ := h5 k (by omega)
  simp only [spec_ReadEntry.f]
  rw [h1, Option.bind_some, f2, Option.bind_some, f3, Option.bind_some, h4, Option.bind_some]
  simp only [Bool.false_eq_true, ↓reduceIte]
  rw [if_pos (by omega), if_pos r4.1, if_pos r4.2, hx.2, w64 (n := kd) (by omega) (by omega), f5, Option.bind_some]
  have key := entT_back s m i t kd a1 a2 a3 a4 b1 b2 b3 e1 e2 e3 e4
  unfold rentR entC
  simp only [Bool.false_eq_true, ↓reduceIte]
  by_cases c : eokC t kd (s.extract a4.toNat s.size) = true ∧ 1 ≤ i ∧ i ≤ 1000000
  ·rw [if_pos c, if_pos rfl]
   by_cases c2 : m = 69
   ·rw [if_pos (toList_iff.2 (key.2 c2)), if_pos ⟨c2, c⟩]
   ·rw [if_neg (fun h => c2 (key.1 (toList_iff.1 h))), if_neg (fun h => c2 h.1)]
  ·rw [if_neg c, if_neg (by simp : ¬ ((⟨#[]⟩ : ByteArray), false).2 = true), if_neg (fun h => c h.2)]
theorem impl_ReadEntry_ev (s : ByteArray) (hs : s.size ≤ 1048576) : Ev (fun k => impl_ReadEntry.f k s) (rentC s) := by
 obtain ⟨m, a1, b1, e1⟩ : ∃ m a1 b1, byC s 0 false = (m, a1, b1) := ⟨_, _, _, rfl⟩
 obtain ⟨i, a2, b2, e2⟩ : ∃ i a2 b2, vnC s a1 b1 = (i, a2, b2) := ⟨_, _, _, rfl⟩
 obtain ⟨t, a3, b3, e3⟩ : ∃ t a3 b3, vnC s a2 b2 = (t, a3, b3) := ⟨_, _, _, rfl⟩
 obtain ⟨kd, a4, b4, e4⟩ : ∃ kd a4 b4, byC s a3 b3 = (kd, a4, b4) := ⟨_, _, _, rfl⟩
 have r1 := byC_at (s := s) (at0 := 0) (bad := false) (by omega) (by omega)
 rw [e1] at r1
 have r2 := vnC_at (s := s) (at0 := a1) (bad := b1) r1.1 r1.2
 rw [e2] at r2
 have r3 := vnC_at (s := s) (at0 := a2) (bad := b2) r2.1 r2.2
 rw [e3] at r3
 have r4 := byC_at (s := s) (at0 := a3) (bad := b3) r3.1 r3.2
 rw [e4] at r4
 simp only [] at r1 r2 r3 r4
 have h1 := impl_reader_byte_eq s (by omega) 0 false (by omega) (by omega)
 have h4 := impl_reader_byte_eq s (by omega) a3 b3 r3.1 r3.2
 obtain ⟨K2, h2⟩ := impl_reader_number_ev s (by omega) a1 b1
 obtain ⟨K3, h3⟩ := impl_reader_number_ev s (by omega) a2 b2
 rw [e1] at h1
 rw [e2] at h2
 rw [e3] at h3
 rw [e4] at h4
 simp only [] at h1 h2 h3 h4
 have hC : rentC s = rentR m i t kd (s.extract a4.toNat s.size) b4 := by
  unfold rentC
  simp only [e1, e2, e3, e4]
 rw [hC]
 have hxs : (s.extract a4.toNat s.size).size ≤ 1048576 := by
  rw [← bytesOf_length, bytesOf_ext, List.length_take, List.length_drop, bytesOf_length]; omega
 obtain ⟨K5, h5⟩ := impl_EntryOk_ev t kd (s.extract a4.toNat s.size) (by omega)
 refine ⟨K2 + K3 + K5, fun k hk => ?_⟩
 have f2 : impl_reader_number.f k s a1 b1 = some _ := h2 k (by omega)
 have f3 : impl_reader_number.f k s a2 b2 = some _ := h3 k (by omega)
 have f5 : impl_EntryOk.f k t kd (s.extract a4.toNat s.size) = some _ := h5 k (by omega)
 simp only [impl_ReadEntry.f, impl_reader_rest.f]
 rw [h1, Option.bind_some, f2, Option.bind_some, f3, Option.bind_some, h4, Option.bind_some, if_pos r4.1, if_pos r4.2, Option.bind_some]
 simp only []
 unfold rentR
 cases b4 with
 | true => rw [if_pos rfl, if_pos rfl]
 | false =>
  simp only [Bool.false_eq_true, ↓reduceIte]
  by_cases c2 : m = 69
  ·rw [if_pos c2, f5, Option.bind_some]
   by_cases c : eokC t kd (s.extract a4.toNat s.size) = true
   ·rw [if_pos c, impl_in_eq, Option.bind_some]
    by_cases c3 : 1 ≤ i ∧ i ≤ 1000000
    ·rw [if_pos (decide_eq_true c3), if_pos ⟨c2, c, c3⟩]
    ·rw [if_neg (by simpa using c3), if_neg (fun h => c3 h.2.2)]
   ·rw [if_neg c, if_neg (fun h => c h.2.1)]
  ·rw [if_neg c2, if_neg (fun h => c2 h.1)]
def cst (x : Nat) : Nat := if x % 2 = 1 then x / 2 ^^^ 3558460437 else x / 2
theorem cst_lt {x : Nat} (h : x < 4294967296) : cst x < 4294967296 := by
 unfold cst
 split
 ·exact Nat.xor_lt_two_pow (n := 32) (by omega) (by omega)
 ·omega
def csts : Nat → Nat → Nat
 | 0, x => x
 | n + 1, x => csts n (cst x)
def crc : Nat → List Nat → Nat
 | s, [] => s
 | s, b :: bs => crc (csts 8 (s ^^^ b)) bs
theorem xor_byte_lt {s b : Nat} (h : s < 4294967296) (hb : b < 256) : s ^^^ b < 4294967296 := Nat.xor_lt_two_pow (n := 32) (by omega) (by omega)
def four (n : Nat) : List Int := [((n / 16777216 % 256 : Nat) : Int), ((n / 65536 % 256 : Nat) : Int), ((n / 256 % 256 : Nat) : Int), ((n % 256 : Nat) : Int)]
theorem xor_nat {a b : Nat} (ha : a < 4294967296) (hb : b < 4294967296) : Go.bits .xor .u32 (a : Int) (b : Int) = ((a ^^^ b : Nat) : Int) := by
 have hx : a ^^^ b < 2 ^ 32 := Nat.xor_lt_two_pow (n := 32) (by omega) (by omega)
 have h32 : IntKind.u32.bits = 32 := rfl
 simp only [Go.bits, h32, BitVec.ofInt_natCast, BitVec.toNat_xor, BitVec.toNat_ofNat]
 rw [Nat.mod_eq_of_lt (show a < 2 ^ 32 by omega), Nat.mod_eq_of_lt (show b < 2 ^ 32 by omega), IntKind.wrap_u32]
 omega
theorem and_one {a : Nat} (ha : a < 4294967296) : Go.bits .and .u32 (a : Int) 1 = ((a % 2 : Nat) : Int) := by
 have := bits_mask .u32 32 (by decide) (fun n h0 h1 => by rw [IntKind.wrap_u32]; omega) 1 (by decide) (a : Int) (by omega) (by omega)
 simpa using this
def nb (s : ByteArray) : List Nat := (bytesOf s).map Int.toNat
theorem nb_drop {s : ByteArray} {i : Nat} (h : i < s.size) : (nb s).drop i = (bt s (i : Int)).toNat :: (nb s).drop (i + 1) := by
 unfold nb
 rw [← List.map_drop, ← List.map_drop]
 have := bytesOf_drop (s := s) (i := (i : Int)) (by omega) (by omega)
 rw [Int.toNat_natCast, show ((i : Int) + 1).toNat = i + 1 by omega] at this
 rw [this]; rfl
theorem nb_drop_end {s : ByteArray} {i : Nat} (h : ¬ i < s.size) : (nb s).drop i = [] := by
 apply List.drop_eq_nil_of_le
 unfold nb
 rw [List.length_map, bytesOf_length]; omega
def sumC (s : ByteArray) : Nat := crc 4294967295 (nb s)
def fourT (n : Nat) : ByteArray := strOfNums (four n)
theorem fourT_size (n : Nat) : (fourT n).size = 4 := by unfold fourT; rw [strOfNums_size]; rfl
def frameT (s : ByteArray) : ByteArray := varT (s.size : Int) ++ fourT (sumC s) ++ s
def frameC (s : ByteArray) : ByteArray × Bool := if 1 ≤ s.size ∧ s.size ≤ 9000 then (frameT s, true) else (⟨#[]⟩, false)
theorem ext_size (s : ByteArray) {a b : Nat} (h1 : a ≤ b) (h2 : b ≤ s.size) : (s.extract a b).size = b - a := by
 rw [← bytesOf_length, bytesOf_ext, List.length_take, List.length_drop, bytesOf_length]; omega
theorem ext_ext (s : ByteArray) (a b c : Nat) (h1 : a ≤ b) (h2 : b ≤ c) : s.extract a b ++ s.extract b c = s.extract a c := by
 apply bytesOf_inj
 rw [bytesOf_app, bytesOf_ext, bytesOf_ext, bytesOf_ext]
 rw [show c - a = (b - a) + (c - b) by omega, List.take_add, List.drop_drop, show a + (b - a) = b by omega]
theorem rvC_text (s : ByteArray) (at0 : Int) (h : (rvC s at0).2.2 = true) : s.extract at0.toNat (rvC s at0).2.1.toNat = varT (rvC s at0).1 := by
 unfold rvC at h ⊢
 by_cases h1 : 0 ≤ at0 ∧ at0 ≤ (s.size : Int)
 ·rw [if_pos h1] at h ⊢
  cases e : rv ((bytesOf s).drop at0.toNat) with
  | none => rw [e] at h; simp [rvO] at h
  | some p =>
   obtain ⟨m, j⟩ := p
   have := rv_sound (fun b hb => bytesOf_range s b (List.mem_of_mem_drop hb)) e
   apply bytesOf_inj
   simp only [rvO]
   rw [bytesOf_varT, bytesOf_ext, this.2.2.2.2]
   congr 1
   omega
 ·rw [if_neg h1] at h; simp at h
def faOk (s : ByteArray) (at0 : Int) : Prop :=
 (rvC s at0).2.2 = true ∧ 1 ≤ (rvC s at0).1 ∧ (rvC s at0).1 ≤ 9000 ∧ (rvC s at0).1 ≤ (s.size : Int) - (rvC s at0).2.1 - 4 ∧
 s.extract (rvC s at0).2.1.toNat ((rvC s at0).2.1 + 4).toNat = fourT (sumC (s.extract ((rvC s at0).2.1 + 4).toNat ((rvC s at0).2.1 + 4 + (rvC s at0).1).toNat))
instance (s : ByteArray) (at0 : Int) : Decidable (faOk s at0) := by unfold faOk; infer_instance
def faText (s : ByteArray) (at0 : Int) : ByteArray := s.extract ((rvC s at0).2.1 + 4).toNat ((rvC s at0).2.1 + 4 + (rvC s at0).1).toNat
def faEnd (s : ByteArray) (at0 : Int) : Int := (rvC s at0).2.1 + 4 + (rvC s at0).1
def faC (s : ByteArray) (at0 : Int) : ByteArray × Int × Bool := if faOk s at0 then (faText s at0, faEnd s at0, true) else (⟨#[]⟩, 0, false)
theorem faEnd_range {s : ByteArray} {at0 : Int} (h : faOk s at0) : 0 ≤ at0 ∧ at0 + 6 ≤ faEnd s at0 ∧ faEnd s at0 ≤ (s.size : Int) := by
 have h1 := rvC_range s at0 h.1
 have h2 := h.2
 unfold faEnd
 omega
theorem fa_frame {s : ByteArray} {at0 : Int} (h1 : (rvC s at0).2.2 = true) (h2 : 1 ≤ (rvC s at0).1) (h3 : (rvC s at0).1 ≤ (s.size : Int) - (rvC s at0).2.1 - 4) :
 frameT (faText s at0) = s.extract at0.toNat (faEnd s at0).toNat ↔ s.extract (rvC s at0).2.1.toNat ((rvC s at0).2.1 + 4).toNat = fourT (sumC (faText s at0)) := by
 have hr := rvC_range s at0 h1
 have ht := rvC_text s at0 h1
 have hsz : ((faText s at0).size : Int) = (rvC s at0).1 := by
  unfold faText
  rw [ext_size s (by omega) (by omega)]
  omega
 have hsplit : s.extract at0.toNat (faEnd s at0).toNat = s.extract at0.toNat (rvC s at0).2.1.toNat ++ s.extract (rvC s at0).2.1.toNat ((rvC s at0).2.1 + 4).toNat ++ faText s at0 := by
  unfold faText faEnd
  rw [ext_ext s _ _ _ (by omega) (by omega), ext_ext s _ _ _ (by omega) (by omega)]
 rw [hsplit, ht]
 unfold frameT
 rw [hsz]
 constructor
 ·intro h
  have hb := congrArg bytesOf h
  simp only [bytesOf_app, List.append_assoc] at hb
  have h4 := List.append_cancel_left hb
  have h5 := List.append_cancel_right h4
  exact (bytesOf_inj h5).symm
 ·intro h
  rw [h]
theorem faText_size {s : ByteArray} {at0 : Int} (h1 : (rvC s at0).2.2 = true) (h2 : 0 ≤ (rvC s at0).1) (h3 : (rvC s at0).1 ≤ (s.size : Int) - (rvC s at0).2.1 - 4) : ((faText s at0).size : Int) = (rvC s at0).1 := by
 have hr := rvC_range s at0 h1
 unfold faText
 rw [ext_size s (by omega) (by omega)]
 omega
theorem impl_SumMore_l0 (s : ByteArray) (hs : s.size ≤ 140737488351232) : ∀ (d i : Nat), i + d = s.size → ∀ x : Nat, x < 4294967296 →
 Ev (fun k => impl_SumMore.l0 k (x : Int) s (s.size : Int) (i : Int)) ((crc x ((nb s).drop i) : Nat) : Int)
 | 0, i, hd, x, _ => by
  refine Ev.step (f := fun _ => some (x : Int)) (fun k => ?_) ?_
  ·simp only [impl_SumMore.l0]; rw [if_neg (by omega)]
  ·rw [nb_drop_end (by omega)]; exact Ev.now _
 | d + 1, i, hd, x, hx => by
  have hb := bt_range s (i : Int)
  obtain ⟨b, hb'⟩ := Int.eq_ofNat_of_zero_le hb.1
  have hbl : b < 256 := by omega
  have inner : ∀ (e j : Nat), j + e = 8 → ∀ y : Nat, y < 4294967296 → Ev (fun k => impl_SumMore.l1 k (y : Int) s (s.size : Int) (i : Int) (j : Int)) ((crc (csts e y) ((nb s).drop (i + 1)) : Nat) : Int) := by
   intro e
   induction e with
   | zero =>
    intro j hj y hy
    refine Ev.step (f := fun k => impl_SumMore.l0 k (y : Int) s (s.size : Int) ((i + 1 : Nat) : Int)) (fun k => ?_) (impl_SumMore_l0 s hs d (i + 1) (by omega) y hy)
    simp only [impl_SumMore.l1]
    rw [if_neg (by omega), w64 (by omega) (by omega)]; rfl
   | succ e ih =>
    intro j hj y hy
    refine Ev.step (f := fun k => impl_SumMore.l1 k ((cst y : Nat) : Int) s (s.size : Int) (i : Int) ((j + 1 : Nat) : Int)) (fun k => ?_) (ih (j + 1) (by omega) (cst y) (cst_lt hy))
    simp only [impl_SumMore.l1]
    rw [if_pos (by omega), w64 (by omega) (by omega), and_one hy, show (y : Int) / 2 = ((y / 2 : Nat) : Int) by omega]
    unfold cst
    by_cases h1 : y % 2 = 1
    ·rw [if_pos (by omega), if_pos h1, show (3558460437 : Int) = ((3558460437 : Nat) : Int) from rfl, xor_nat (by omega) (by omega)]; rfl
    ·rw [if_neg (by omega), if_neg h1]; rfl
  refine Ev.step (f := fun k => impl_SumMore.l1 k ((x ^^^ b : Nat) : Int) s (s.size : Int) (i : Int) ((0 : Nat) : Int)) (fun k => ?_) ?_
  ·simp only [impl_SumMore.l0]
   rw [if_pos (by omega), if_pos (by omega), if_pos (by omega), hb', show (b : Int) % 4294967296 = (b : Int) by omega, xor_nat hx (by omega)]; rfl
  ·have h := inner 8 0 rfl (x ^^^ b) (xor_byte_lt hx hbl)
   rw [nb_drop (by omega), hb', Int.toNat_natCast]
   exact h
theorem impl_SumMore_ev (s : ByteArray) (x : Nat) (hx : x < 4294967296) (hs : s.size ≤ 140737488351232) : Ev (fun k => impl_SumMore.f k (x : Int) s) ((crc x (nb s) : Nat) : Int) :=
 impl_SumMore_l0 s hs s.size 0 (by omega) x hx
theorem impl_SumOf_ev (s : ByteArray) (hs : s.size ≤ 140737488351232) : Ev (fun k => impl_SumOf.f k s) ((sumC s : Nat) : Int) := by
 obtain ⟨K, hK⟩ := impl_SumMore_ev s 4294967295 (by omega) hs
 refine ⟨K, fun k hk => ?_⟩
 have e : impl_SumMore.f k 4294967295 s = some _ := hK k hk
 simp only [impl_SumOf.f]
 rw [e]; rfl
theorem impl_fourBytes_eq (n : Nat) : impl_fourBytes.f (n : Int) = some (fourT n) := by
 simp only [impl_fourBytes.f, fourT, four]
 congr 2
theorem impl_frameAt_no (s : ByteArray) (at0 : Int) (h : ¬ faOk s at0) : faC s at0 = (⟨#[]⟩, 0, false) := by unfold faC; rw [if_neg h]
theorem impl_frameAt_ev (s : ByteArray) (at0 : Int) (hs : s.size ≤ 140737488351232) : Ev (fun k => impl_frameAt.f k s at0) (faC s at0) := by
 obtain ⟨K1, h1⟩ := impl_ReadVar_ev s at0 hs
 by_cases hok : (rvC s at0).2.2 = true
 ·have hr := rvC_range s at0 hok
  by_cases hin : 1 ≤ (rvC s at0).1 ∧ (rvC s at0).1 ≤ 9000
  ·by_cases hle : (rvC s at0).1 ≤ (s.size : Int) - (rvC s at0).2.1 - 4
   ·have hsz := faText_size hok (by omega) hle
    obtain ⟨K2, h2⟩ := impl_SumOf_ev (faText s at0) (by omega)
    refine ⟨K1 + K2 + 1, fun k hk => ?_⟩
    obtain ⟨k, rfl⟩ : ∃ m, k = m + 1 := ⟨k - 1, by omega⟩
    have e1 : impl_ReadVar.f (k + 1) s at0 = some _ := h1 _ (by omega)
    have e2 : impl_SumOf.f k (s.extract ((rvC s at0).2.1 + 4).toNat ((rvC s at0).2.1 + 4 + (rvC s at0).1).toNat) = some _ := h2 _ (by omega)
    simp only [impl_frameAt.f, impl_in_eq]
    rw [e1, Option.bind_some, if_pos hok, Option.bind_some, if_pos (by simpa using hin), w64 (n := (s.size : Int) - (rvC s at0).2.1) (by omega) (by omega), w64 (by omega) (by omega)]
    rw [decide_eq_false (show ¬ ((rvC s at0).1 > (s.size : Int) - (rvC s at0).2.1 - 4) by omega)]
    simp only [impl_frameAt.j0]
    rw [if_neg (by simp), w64 (n := (rvC s at0).2.1 + 4) (by omega) (by omega), w64 (n := (rvC s at0).2.1 + 4 + (rvC s at0).1) (by omega) (by omega), if_pos (by omega), if_pos (by omega), if_pos (by omega), if_pos (by omega), if_pos (by omega), if_pos (by omega), e2, Option.bind_some, impl_fourBytes_eq, Option.bind_some]
    by_cases he : s.extract (rvC s at0).2.1.toNat ((rvC s at0).2.1 + 4).toNat = fourT (sumC (faText s at0))
    ·rw [if_pos (toList_iff.2 he)]
     unfold faC
     rw [if_pos ⟨hok, hin.1, hin.2, hle, he⟩]; rfl
    ·rw [if_neg (fun h => he (toList_iff.1 h)), impl_frameAt_no s at0 (fun h => he h.2.2.2.2)]
   ·refine ⟨K1 + 1, fun k hk => ?_⟩
    obtain ⟨k, rfl⟩ : ∃ m, k = m + 1 := ⟨k - 1, by omega⟩
    have e1 : impl_ReadVar.f (k + 1) s at0 = some _ := h1 _ (by omega)
    simp only [impl_frameAt.f, impl_in_eq]
    rw [e1, Option.bind_some, if_pos hok, Option.bind_some, if_pos (by simpa using hin), w64 (n := (s.size : Int) - (rvC s at0).2.1) (by omega) (by omega), w64 (by omega) (by omega)]
    rw [decide_eq_true (show (rvC s at0).1 > (s.size : Int) - (rvC s at0).2.1 - 4 by omega), impl_frameAt_no s at0 (fun h => hle h.2.2.2.1)]
    simp only [impl_frameAt.j0]
    rw [if_pos trivial]
  ·refine ⟨K1 + 1, fun k hk => ?_⟩
   obtain ⟨k, rfl⟩ : ∃ m, k = m + 1 := ⟨k - 1, by omega⟩
   have e1 : impl_ReadVar.f (k + 1) s at0 = some _ := h1 _ (by omega)
   simp only [impl_frameAt.f, impl_in_eq]
   rw [e1, Option.bind_some, if_pos hok, Option.bind_some, if_neg (by simpa using hin), impl_frameAt_no s at0 (fun h => hin ⟨h.2.1, h.2.2.1⟩)]
   simp only [impl_frameAt.j0]
   rw [if_pos trivial]
 ·refine ⟨K1 + 1, fun k hk => ?_⟩
  obtain ⟨k, rfl⟩ : ∃ m, k = m + 1 := ⟨k - 1, by omega⟩
  have e1 : impl_ReadVar.f (k + 1) s at0 = some _ := h1 _ (by omega)
  simp only [impl_frameAt.f, impl_in_eq]
  rw [e1, Option.bind_some, if_neg hok, impl_frameAt_no s at0 (fun h => hok h.1)]
  simp only [impl_frameAt.j0]
  rw [if_pos trivial]
def twoC (s : ByteArray) (c : Int) : Int × Int × Bool :=
 if 0 < s.size ∧ bt s 0 = c ∧ (vnC s (vnC s 1 false).2.1 (vnC s 1 false).2.2).2.2 = false ∧ (vnC s (vnC s 1 false).2.1 (vnC s 1 false).2.2).2.1 = (s.size : Int) then ((vnC s 1 false).1, (vnC s (vnC s 1 false).2.1 (vnC s 1 false).2.2).1, true) else (0, 0, false)
theorem vnC_val (s : ByteArray) (at0 : Int) (bad : Bool) : 0 ≤ (vnC s at0 bad).1 ∧ (vnC s at0 bad).1 ≤ 1000000000 := by
 unfold vnC
 split
 ·exact ⟨by show (0 : Int) ≤ 0; omega, by show (0 : Int) ≤ _; omega⟩
 ·split
  ·rename_i h
   have := rvC_range s at0 h
   exact ⟨this.2.1, this.2.2.1⟩
  ·exact ⟨by show (0 : Int) ≤ 0; omega, by show (0 : Int) ≤ _; omega⟩
theorem bytes_tail (s : ByteArray) : bytesOf (s.extract 1 s.size) = (bytesOf s).drop 1 := by
 rw [bytesOf_ext]
 exact List.take_of_length_le (by rw [List.length_drop, bytesOf_length]; omega)
theorem rvC_tail {s : ByteArray} (hs : 1 ≤ s.size) (i : Int) (h0 : 0 ≤ i) : rvC (s.extract 1 s.size) i = ((rvC s (i + 1)).1, if (rvC s (i + 1)).2.2 = true then (rvC s (i + 1)).2.1 - 1 else 0, (rvC s (i + 1)).2.2) := by
 have hz : ((s.extract 1 s.size).size : Int) = (s.size : Int) - 1 := by rw [ext_size s hs (Nat.le_refl _)]; omega
 unfold rvC
 rw [hz]
 by_cases c : i ≤ (s.size : Int) - 1
 ·rw [if_pos ⟨h0, c⟩, if_pos ⟨by omega, by omega⟩, bytes_tail, List.drop_drop, show (i + 1).toNat = 1 + i.toNat by omega]
  cases rv ((bytesOf s).drop (1 + i.toNat)) with
  | none => rfl
  | some p =>
   obtain ⟨m, j⟩ := p
   show (m, i + (j : Int), true) = (m, i + 1 + (j : Int) - 1, true)
   rw [show i + 1 + (j : Int) - 1 = i + (j : Int) by omega]
 ·rw [if_neg (fun h => c h.2), if_neg (fun h => c (by omega))]; rfl
theorem vnC_bad (s : ByteArray) (p : Int) : vnC s p true = (0, p, true) := by unfold vnC; rw [if_pos rfl]
theorem vnC_tail {s : ByteArray} (hs : 1 ≤ s.size) (i : Int) (h0 : 0 ≤ i) (bad : Bool) : vnC (s.extract 1 s.size) i bad = ((vnC s (i + 1) bad).1, (vnC s (i + 1) bad).2.1 - 1, (vnC s (i + 1) bad).2.2) := by
 cases bad with
 | true =>
  rw [vnC_bad, vnC_bad]
  show (0, i, true) = (0, i + 1 - 1, true)
  rw [show i + 1 - 1 = i by omega]
 | false =>
  have e1 : ∀ (z : ByteArray) (j : Int), vnC z j false = if (rvC z j).2.2 = true then ((rvC z j).1, (rvC z j).2.1, false) else (0, j, true) := fun z j => by unfold vnC; rw [if_neg (by simp)]
  rw [e1, e1, rvC_tail hs i h0]
  by_cases c : (rvC s (i + 1)).2.2 = true
  ·simp [c]
  ·simp [c]
theorem two_text {s : ByteArray} (hs : 0 < s.size) {a b p1 p2 : Int} {b1 : Bool} (e2 : vnC s 1 false = (a, p1, b1)) (e3 : vnC s p1 b1 = (b, p2, false)) {C : ByteArray} {c : Int} (hC : bytesOf C = [c]) :
 C ++ varT a ++ varT b = s ↔ bt s 0 = c ∧ p2 = (s.size : Int) := by
 have g3 := vnC_good (s := s) (at0 := p1) (bad := b1) (by rw [e3])
 obtain ⟨rfl, c3, d3, g3⟩ := g3
 rw [e3] at d3 g3
 have g2 := vnC_good (s := s) (at0 := 1) (bad := false) (by rw [e2])
 obtain ⟨_, c2, d2, g2⟩ := g2
 rw [e2] at d2 g2
 simp only [] at d2 g2 d3 g3
 have h0 := bytesOf_drop (s := s) (i := 0) (by omega) (by omega)
 rw [show (0 : Int).toNat = 0 from rfl, List.drop_zero, show ((0 : Int) + 1).toNat = (1 : Int).toNat from rfl, g2, g3] at h0
 have r2 := vnC_at (s := s) (at0 := p1) (bad := false) c3 (by omega)
 rw [e3] at r2
 simp only [] at r2
 constructor
 ·intro h
  have hb := congrArg bytesOf h
  simp only [bytesOf_app, hC, bytesOf_varT, List.cons_append, List.nil_append] at hb
  rw [h0] at hb
  obtain ⟨hc, ht⟩ := List.cons.inj hb
  have ht := List.append_cancel_left ht
  have h3 := congrArg List.length ht
  rw [List.length_append, List.length_drop, bytesOf_length] at h3
  exact ⟨hc.symm, by omega⟩
 ·rintro ⟨rfl, rfl⟩
  refine bytesOf_inj ?_
  simp only [bytesOf_app, hC, bytesOf_varT, List.cons_append, List.nil_append]
  rw [h0, List.drop_eq_nil_of_le (by rw [bytesOf_length]; omega), List.append_nil]
theorem spec_l07Two_ev (s : ByteArray) (hs : s.size ≤ 1048576) {C : ByteArray} {c : Int} (hC : bytesOf C = [c]) : Ev (fun k => spec_l07Two.f k s C) (twoC s c) := by
 have hCs : C.size = 1 := by rw [← bytesOf_length, hC]; rfl
 obtain ⟨x1, h1, _⟩ := spec_l05Take_eq s (by omega) 0 false (by omega) (by omega)
 by_cases e : 0 < s.size
 ·have hby : byC s 0 false = (bt s 0, 0 + 1, false) := by unfold byC; rw [if_neg (by simp), if_pos (by omega)]
  rw [hby] at h1
  obtain ⟨a, p1, b1, e2⟩ : ∃ a p1 b1, vnC s 1 false = (a, p1, b1) := ⟨_, _, _, rfl⟩
  obtain ⟨b, p2, b2, e3⟩ : ∃ b p2 b2, vnC s p1 b1 = (b, p2, b2) := ⟨_, _, _, rfl⟩
  obtain ⟨K2, h2⟩ := spec_l05Var_ev s (by omega) 1 false
  obtain ⟨K3, h3⟩ := spec_l05Var_ev s (by omega) p1 b1
  rw [e2] at h2
  rw [e3] at h3
  have v2 := vnC_val s 1 false
  rw [e2] at v2
  have v3 := vnC_val s p1 b1
  rw [e3] at v3
  simp only [] at v2 v3 h1 h2 h3
  rw [show (0 : Int) + 1 = 1 from rfl] at h1
  obtain ⟨K4, h4⟩ := spec_l01Var_ev (n := a) (by omega) (by omega)
  obtain ⟨K5, h5⟩ := spec_l01Var_ev (n := b) (by omega) (by omega)
  refine ⟨K2 + K3 + K4 + K5, fun k hk => ?_⟩
  have f2 : spec_l05Var.f k s 1 false = some _ := h2 k (by omega)
  have f3 : spec_l05Var.f k s p1 b1 = some _ := h3 k (by omega)
  have f4 : spec_l01Var.f k a = some _ := h4 k (by omega)
  have f5 : spec_l01Var.f k b = some _ := h5 k (by omega)
  have z4 := varT_size (n := a) (by omega) (by omega)
  have z5 := varT_size (n := b) (by omega) (by omega)
  simp only [spec_l07Two.f, twoC]
  rw [h1, Option.bind_some, f2, Option.bind_some, f3, Option.bind_some, e2]
  simp only []
  rw [e3]
  simp only []
  cases b2 with
  | true => rw [if_pos rfl, if_neg (by simp)]
  | false =>
   rw [if_neg (by simp), f4, Option.bind_some, if_pos (by omega), f5, Option.bind_some, if_pos (by rw [ByteArray.size_append]; omega)]
   have key := two_text e e2 e3 hC
   by_cases q : bt s 0 = c ∧ p2 = (s.size : Int)
   ·rw [if_pos (toList_iff.2 (key.2 q)), if_pos ⟨e, q.1, rfl, q.2⟩]
   ·rw [if_neg (fun h => q (key.1 (toList_iff.1 h))), if_neg (fun h => q ⟨h.2.1, h.2.2.2⟩)]
 ·have hby : byC s 0 false = (0, 0, true) := by unfold byC; rw [if_neg (by simp), if_neg (by omega)]
  rw [hby] at h1
  obtain ⟨K2, h2⟩ := spec_l05Var_ev s (by omega) 0 true
  rw [vnC_bad] at h2
  refine ⟨K2, fun k hk => ?_⟩
  have f2 : spec_l05Var.f k s 0 true = some _ := h2 k (by omega)
  simp only [spec_l07Two.f, twoC]
  rw [h1, Option.bind_some, f2, Option.bind_some, f2, Option.bind_some, if_pos rfl, if_neg (fun h => e h.1)]
theorem cut_eq (s C : ByteArray) {c : Int} (hC : bytesOf C = [c]) : strings_CutPrefix.f s C = some (if 0 < s.size ∧ bt s 0 = c then (s.extract 1 s.size, true) else (s, false)) := by
 have hCs : C.size = 1 := by rw [← bytesOf_length, hC]; rfl
 simp only [strings_CutPrefix.f, stringslite_CutPrefix.f, stringslite_HasPrefix.f, hCs]
 by_cases e : 0 < s.size
 ·rw [if_pos (by omega), if_pos (by omega), if_pos (by omega), Option.bind_some, show (((1 : Nat) : Int)).toNat = 1 from rfl]
  have hb : bytesOf (s.extract 0 1) = [bt s 0] := by
   have h0 := bytesOf_drop (s := s) (i := 0) (by omega) (by omega)
   rw [show (0 : Int).toNat = 0 from rfl, List.drop_zero] at h0
   rw [bytesOf_ext, List.drop_zero, h0]; rfl
  by_cases q : bt s 0 = c
  ·have : s.extract 0 1 = C := bytesOf_inj (by rw [hb, hC, q])
   rw [this, if_pos (by simp), if_pos (by omega), if_pos (by omega), Option.bind_some, if_pos ⟨e, q⟩]
  ·have : ¬ ((s.extract 0 1).toList == C.toList) = true := fun h => q (by
    have h2 := toList_iff.1 (beq_iff_eq.1 h)
    rw [← h2, hb] at hC
    exact (List.cons.inj hC).1)
   rw [if_neg this, Option.bind_some, if_neg (fun h => q h.2)]
 ·rw [if_neg (by omega), Option.bind_some, if_neg (by simp), Option.bind_some, if_neg (fun h => e h.1)]
theorem impl_twoNumbers_ev (s : ByteArray) (hs : s.size ≤ 1048576) {C : ByteArray} {c : Int} (hC : bytesOf C = [c]) :
 ∃ x y, Ev (fun k => impl_twoNumbers.f k s C) (x, y, (twoC s c).2.2) ∧ ((twoC s c).2.2 = true → x = (twoC s c).1 ∧ y = (twoC s c).2.1) := by
 by_cases e : 0 < s.size ∧ bt s 0 = c
 ·have hz : ((s.extract 1 s.size).size : Int) = (s.size : Int) - 1 := by rw [ext_size s e.1 (Nat.le_refl _)]; omega
  obtain ⟨a, p1, b1, e2⟩ : ∃ a p1 b1, vnC s 1 false = (a, p1, b1) := ⟨_, _, _, rfl⟩
  have r1 := vnC_at (s := s) (at0 := 1) (bad := false) (by omega) (by omega)
  obtain ⟨b, p2, b2, e3⟩ : ∃ b p2 b2, vnC s p1 b1 = (b, p2, b2) := ⟨_, _, _, rfl⟩
  have hp1 : 1 ≤ p1 := by
   unfold vnC at e2
   rw [if_neg (by simp)] at e2
   split at e2
   ·rename_i h
    have := rvC_range s 1 h
    have h2 := congrArg (fun z => z.2.1) e2
    simp only [] at h2
    omega
   ·have h2 := congrArg (fun z => z.2.1) e2
    simp only [] at h2
    omega
  obtain ⟨K2, h2⟩ := impl_reader_number_ev (s.extract 1 s.size) (by omega) 0 false
  rw [vnC_tail e.1 0 (by omega), show (0 : Int) + 1 = 1 from rfl, e2] at h2
  obtain ⟨K3, h3⟩ := impl_reader_number_ev (s.extract 1 s.size) (by omega) (p1 - 1) b1
  rw [vnC_tail e.1 (p1 - 1) (by omega), show p1 - 1 + 1 = p1 by omega, e3] at h3
  simp only [] at h2 h3
  have ht : twoC s c = if b2 = false ∧ p2 = (s.size : Int) then (a, b, true) else (0, 0, false) := by
   unfold twoC
   rw [e2]
   simp only []
   rw [e3]
   simp only []
   by_cases q : b2 = false ∧ p2 = (s.size : Int)
   ·rw [if_pos q, if_pos ⟨e.1, e.2, q⟩]
   ·rw [if_neg q, if_neg (fun h => q h.2.2)]
  refine ⟨a, b, ⟨K2 + K3, fun k hk => ?_⟩, fun h => ?_⟩
  ·have f2 : impl_reader_number.f k (s.extract 1 s.size) 0 false = some _ := h2 k (by omega)
   have f3 : impl_reader_number.f k (s.extract 1 s.size) (p1 - 1) b1 = some _ := h3 k (by omega)
   simp only [impl_twoNumbers.f, impl_reader_done.f]
   rw [cut_eq s C hC, if_pos e, Option.bind_some, f2, Option.bind_some, f3, Option.bind_some, if_pos rfl, ht]
   cases b2 with
   | true => rw [if_pos rfl, Option.bind_some, if_neg (by simp)]
   | false =>
    rw [if_neg (by simp), Option.bind_some]
    by_cases q : p2 = (s.size : Int)
    ·rw [if_pos ⟨rfl, q⟩, show ((p2 - 1) == ((s.extract 1 s.size).size : Int)) = true from beq_iff_eq.2 (by omega)]
    ·rw [if_neg (fun h => q h.2), show ((p2 - 1) == ((s.extract 1 s.size).size : Int)) = false from beq_eq_false_iff_ne.2 (by omega)]
  ·rw [ht] at h ⊢
   split at h
   ·rename_i q
    rw [if_pos q]; exact ⟨rfl, rfl⟩
   ·simp at h
 ·obtain ⟨K2, h2⟩ := impl_reader_number_ev s (by omega) 0 false
  obtain ⟨K3, h3⟩ := impl_reader_number_ev s (by omega) (vnC s 0 false).2.1 (vnC s 0 false).2.2
  have ht : twoC s c = (0, 0, false) := by unfold twoC; rw [if_neg (fun h => e ⟨h.1, h.2.1⟩)]
  refine ⟨(vnC s 0 false).1, (vnC s (vnC s 0 false).2.1 (vnC s 0 false).2.2).1, ⟨K2 + K3, fun k hk => ?_⟩, fun h => ?_⟩
  ·have f2 : impl_reader_number.f k s 0 false = some _ := h2 k (by omega)
   have f3 : impl_reader_number.f k s (vnC s 0 false).2.1 (vnC s 0 false).2.2 = some _ := h3 k (by omega)
   simp only [impl_twoNumbers.f]
   rw [cut_eq s C hC, if_neg e, Option.bind_some, f2, Option.bind_some, f3, Option.bind_some, if_neg (by simp), ht]
  ·rw [ht] at h; simp at h
def uf : Nat → ByteArray → List ByteArray → Int → List ByteArray × Int
 | 0, _, out, at0 => (out, at0)
 | n + 1, s, out, at0 => if faOk s at0 then uf n s (out ++ [faText s at0]) (faEnd s at0) else (out, at0)
def ufC (s : ByteArray) : List ByteArray × Int := if s.size ≤ 20000 then uf (s.size + 1) s [] 0 else ([], 0)
theorem uf_len : ∀ (n : Nat) (s : ByteArray) (out : List ByteArray) (at0 : Int), 0 ≤ at0 → at0 ≤ (s.size : Int) → (out.length : Int) ≤ at0 → ((uf n s out at0).1.length : Int) ≤ (s.size : Int)
 | 0, s, out, at0, h0, h1, h2 => by simp only [uf]; omega
 | n + 1, s, out, at0, h0, h1, h2 => by
  simp only [uf]
  by_cases h : faOk s at0
  ·rw [if_pos h]
   have := faEnd_range h
   exact uf_len n s _ _ (by omega) (by omega) (by simp; omega)
  ·rw [if_neg h]; simp only; omega
theorem ufC_len (s : ByteArray) : (ufC s).1.length ≤ 20000 := by
 unfold ufC
 by_cases h : s.size ≤ 20000
 ·rw [if_pos h]
  have := uf_len (s.size + 1) s [] 0 (by omega) (by omega) (by simp)
  omega
 ·rw [if_neg h]; simp
theorem spec_SumMore_l0 (s : ByteArray) (hs : s.size ≤ 140737488351232) : ∀ (d i : Nat), i + d = s.size → ∀ x : Nat, x < 4294967296 →
 Ev (fun k => spec_SumMore.l0 k (x : Int) s (i : Int)) ((crc x ((nb s).drop i) : Nat) : Int)
 | 0, i, hd, x, _ => by
  refine Ev.step (f := fun _ => some (x : Int)) (fun k => ?_) ?_
  ·simp only [spec_SumMore.l0]; rw [if_neg (by omega)]
  ·rw [nb_drop_end (by omega)]; exact Ev.now _
 | d + 1, i, hd, x, hx => by
  have hb := bt_range s (i : Int)
  obtain ⟨b, hb'⟩ := Int.eq_ofNat_of_zero_le hb.1
  have hbl : b < 256 := by omega
  have inner : ∀ (e j : Nat), j + e = 8 → ∀ y : Nat, y < 4294967296 → Ev (fun k => spec_SumMore.l1 k (y : Int) s (i : Int) (j : Int)) ((crc (csts e y) ((nb s).drop (i + 1)) : Nat) : Int) := by
   intro e
   induction e with
   | zero =>
    intro j hj y hy
    refine Ev.step (f := fun k => spec_SumMore.l0 k (y : Int) s ((i + 1 : Nat) : Int)) (fun k => ?_) (spec_SumMore_l0 s hs d (i + 1) (by omega) y hy)
    simp only [spec_SumMore.l1]
    rw [if_neg (by omega), w64 (by omega) (by omega)]; rfl
   | succ e ih =>
    intro j hj y hy
    refine Ev.step (f := fun k => spec_SumMore.l1 k ((cst y : Nat) : Int) s (i : Int) ((j + 1 : Nat) : Int)) (fun k => ?_) (ih (j + 1) (by omega) (cst y) (cst_lt hy))
    simp only [spec_SumMore.l1]
    rw [if_pos (by omega), w64 (by omega) (by omega), tmod_nat (by omega), tdiv_nat (by omega), show (y : Int) / 2 % 4294967296 = ((y / 2 : Nat) : Int) by omega]
    unfold cst
    by_cases h1 : y % 2 = 1
    ·rw [if_pos (by omega), if_pos h1, show (3558460437 : Int) = ((3558460437 : Nat) : Int) from rfl, xor_nat (by omega) (by omega)]; rfl
    ·rw [if_neg (by omega), if_neg h1]; rfl
  refine Ev.step (f := fun k => spec_SumMore.l1 k ((x ^^^ b : Nat) : Int) s (i : Int) ((0 : Nat) : Int)) (fun k => ?_) ?_
  ·simp only [spec_SumMore.l0]
   rw [if_pos (by omega), if_pos (by omega), hb', show (b : Int) % 4294967296 = (b : Int) by omega, xor_nat hx (by omega)]; rfl
  ·have h := inner 8 0 rfl (x ^^^ b) (xor_byte_lt hx hbl)
   rw [nb_drop (by omega), hb', Int.toNat_natCast]
   exact h
theorem spec_SumMore_ev (s : ByteArray) (x : Nat) (hx : x < 4294967296) (hs : s.size ≤ 140737488351232) : Ev (fun k => spec_SumMore.f k (x : Int) s) ((crc x (nb s) : Nat) : Int) :=
 spec_SumMore_l0 s hs s.size 0 (by omega) x hx
theorem spec_SumOf_ev (s : ByteArray) (hs : s.size ≤ 140737488351232) : Ev (fun k => spec_SumOf.f k s) ((sumC s : Nat) : Int) := by
 obtain ⟨K, hK⟩ := spec_SumMore_ev s 4294967295 (by omega) hs
 refine ⟨K, fun k hk => ?_⟩
 have e : spec_SumMore.f k 4294967295 s = some _ := hK k hk
 simp only [spec_SumOf.f]
 rw [e]; rfl
theorem spec_l02Four_eq (n : Nat) : spec_l02Four.f (n : Int) = some (fourT n) := by
 simp only [spec_l02Four.f, fourT, four]
 congr 2
theorem spec_Frame_ev (s : ByteArray) (hs : s.size ≤ 140737488351232) : Ev (fun k => spec_Frame.f k s) (frameC s) := by
 by_cases h : 1 ≤ s.size ∧ s.size ≤ 9000
 ·obtain ⟨K1, h1⟩ := spec_l01Var_ev (n := (s.size : Int)) (by omega) (by omega)
  obtain ⟨K2, h2⟩ := spec_SumOf_ev s hs
  refine ⟨K1 + K2, fun k hk => ?_⟩
  have e1 : spec_l01Var.f k (s.size : Int) = some _ := h1 k (by omega)
  have e2 : spec_SumOf.f k s = some _ := h2 k (by omega)
  have z1 := varT_size (n := (s.size : Int)) (by omega) (by omega)
  have z2 := fourT_size (sumC s)
  have z3 : (varT (s.size : Int) ++ fourT (sumC s)).size ≤ 14 := by rw [ByteArray.size_append]; omega
  simp only [spec_Frame.f, frameC, spec_l01In_eq]
  rw [Option.bind_some, if_pos (by simp; omega), e1, Option.bind_some, e2, Option.bind_some, spec_l02Four_eq, Option.bind_some, if_pos (by omega), if_pos (by omega), if_pos h]; rfl
 ·refine ⟨0, fun k _ => ?_⟩
  simp only [spec_Frame.f, frameC, spec_l01In_eq]
  rw [Option.bind_some, if_neg (by simp; omega), if_neg h]
theorem spec_Unframe_l0 (s : ByteArray) (hs : s.size ≤ 20000) : ∀ (n : Nat) (out : List ByteArray) (at0 : Int), 0 ≤ at0 → at0 ≤ (s.size : Int) → (out.length : Int) ≤ at0 → (s.size : Int) - at0 < (n : Int) →
 Ev (fun k => spec_Unframe.l0 k s out at0) (uf n s out at0)
 | 0, out, at0, h0, h1, h2, h3 => by omega
 | n + 1, out, at0, h0, h1, h2, h3 => by
  simp only [uf]
  by_cases hlt : at0 < (s.size : Int)
  ·obtain ⟨K1, hK1⟩ := spec_ReadVar_ev s at0 (by omega)
   by_cases hok : (rvC s at0).2.2 = true
   ·have hr := rvC_range s at0 hok
    by_cases hle : (rvC s at0).1 ≤ (s.size : Int) - (rvC s at0).2.1 - 4
    ·have hsz := faText_size hok (by omega) hle
     obtain ⟨K2, hK2⟩ := spec_Frame_ev (faText s at0) (by omega)
     by_cases hin : 1 ≤ (rvC s at0).1 ∧ (rvC s at0).1 ≤ 9000
     ·have hfr := fa_frame hok hin.1 hle
      by_cases he : s.extract (rvC s at0).2.1.toNat ((rvC s at0).2.1 + 4).toNat = fourT (sumC (faText s at0))
      ·have h : faOk s at0 := ⟨hok, hin.1, hin.2, hle, he⟩
       have hre := faEnd_range h
       rw [if_pos h]
       obtain ⟨K3, hK3⟩ := spec_Unframe_l0 s hs n (out ++ [faText s at0]) (faEnd s at0) (by omega) (by omega) (by simp; omega) (by omega)
       refine ⟨K1 + K2 + K3 + 2, fun k hk => ?_⟩
       obtain ⟨k, rfl⟩ : ∃ m, k = m + 2 := ⟨k - 2, by omega⟩
       have e1 : spec_ReadVar.f (k + 1) s at0 = some _ := hK1 _ (by omega)
       have e2 : spec_Frame.f k (s.extract ((rvC s at0).2.1 + 4).toNat ((rvC s at0).2.1 + 4 + (rvC s at0).1).toNat) = some _ := hK2 _ (by omega)
       have e3 : spec_Unframe.l0 k s (out ++ [faText s at0]) (faEnd s at0) = some _ := hK3 _ (by omega)
       unfold frameC at e2
       rw [if_pos (by omega)] at e2
       have heq : ((frameT (faText s at0), true) : ByteArray × Bool).1.toList = (s.extract at0.toNat ((rvC s at0).2.1 + 4 + (rvC s at0).1).toNat).toList := toList_iff.2 (hfr.2 he)
       simp only [spec_Unframe.l0]
       rw [if_pos hlt, e1, Option.bind_some, if_pos hok, w64 (n := (s.size : Int) - (rvC s at0).2.1) (by omega) (by omega), w64 (by omega) (by omega)]
       rw [decide_eq_false (show ¬ ((rvC s at0).1 > (s.size : Int) - (rvC s at0).2.1 - 4) by omega)]
       simp only [spec_Unframe.j1]
       rw [if_neg (by simp), w64 (n := (rvC s at0).2.1 + 4) (by omega) (by omega), w64 (n := (rvC s at0).2.1 + 4 + (rvC s at0).1) (by omega) (by omega), if_pos (by omega), if_pos (by omega), if_pos (by omega), e2, Option.bind_some, if_pos rfl, if_pos (by omega), if_pos (by omega), if_pos heq, if_pos (by omega)]
       exact e3
      ·have h : ¬ faOk s at0 := fun h => he h.2.2.2.2
       rw [if_neg h]
       refine ⟨K1 + K2 + 2, fun k hk => ?_⟩
       obtain ⟨k, rfl⟩ : ∃ m, k = m + 2 := ⟨k - 2, by omega⟩
       have e1 : spec_ReadVar.f (k + 1) s at0 = some _ := hK1 _ (by omega)
       have e2 : spec_Frame.f k (s.extract ((rvC s at0).2.1 + 4).toNat ((rvC s at0).2.1 + 4 + (rvC s at0).1).toNat) = some _ := hK2 _ (by omega)
       unfold frameC at e2
       rw [if_pos (by omega)] at e2
       have hne : ¬ ((frameT (faText s at0), true) : ByteArray × Bool).1.toList = (s.extract at0.toNat ((rvC s at0).2.1 + 4 + (rvC s at0).1).toNat).toList := fun h3 => he (hfr.1 (toList_iff.1 h3))
       simp only [spec_Unframe.l0]
       rw [if_pos hlt, e1, Option.bind_some, if_pos hok, w64 (n := (s.size : Int) - (rvC s at0).2.1) (by omega) (by omega), w64 (by omega) (by omega)]
       rw [decide_eq_false (show ¬ ((rvC s at0).1 > (s.size : Int) - (rvC s at0).2.1 - 4) by omega)]
       simp only [spec_Unframe.j1]
       rw [if_neg (by simp), w64 (n := (rvC s at0).2.1 + 4) (by omega) (by omega), w64 (n := (rvC s at0).2.1 + 4 + (rvC s at0).1) (by omega) (by omega), if_pos (by omega), if_pos (by omega), if_pos (by omega), e2, Option.bind_some, if_pos rfl, if_pos (by omega), if_pos (by omega), if_neg hne]
     ·have h : ¬ faOk s at0 := fun h => hin ⟨h.2.1, h.2.2.1⟩
      rw [if_neg h]
      refine ⟨K1 + K2 + 2, fun k hk => ?_⟩
      obtain ⟨k, rfl⟩ : ∃ m, k = m + 2 := ⟨k - 2, by omega⟩
      have e1 : spec_ReadVar.f (k + 1) s at0 = some _ := hK1 _ (by omega)
      have e2 : spec_Frame.f k (s.extract ((rvC s at0).2.1 + 4).toNat ((rvC s at0).2.1 + 4 + (rvC s at0).1).toNat) = some _ := hK2 _ (by omega)
      unfold frameC at e2
      rw [if_neg (by omega)] at e2
      simp only [spec_Unframe.l0]
      rw [if_pos hlt, e1, Option.bind_some, if_pos hok, w64 (n := (s.size : Int) - (rvC s at0).2.1) (by omega) (by omega), w64 (by omega) (by omega)]
      rw [decide_eq_false (show ¬ ((rvC s at0).1 > (s.size : Int) - (rvC s at0).2.1 - 4) by omega)]
      simp only [spec_Unframe.j1]
      rw [if_neg (by simp), w64 (n := (rvC s at0).2.1 + 4) (by omega) (by omega), w64 (n := (rvC s at0).2.1 + 4 + (rvC s at0).1) (by omega) (by omega), if_pos (by omega), if_pos (by omega), if_pos (by omega), e2, Option.bind_some, if_neg (by simp)]
    ·have h : ¬ faOk s at0 := fun h => hle h.2.2.2.1
     rw [if_neg h]
     refine ⟨K1 + 2, fun k hk => ?_⟩
     obtain ⟨k, rfl⟩ : ∃ m, k = m + 2 := ⟨k - 2, by omega⟩
     have e1 : spec_ReadVar.f (k + 1) s at0 = some _ := hK1 _ (by omega)
     simp only [spec_Unframe.l0]
     rw [if_pos hlt, e1, Option.bind_some, if_pos hok, w64 (n := (s.size : Int) - (rvC s at0).2.1) (by omega) (by omega), w64 (by omega) (by omega)]
     rw [decide_eq_true (show (rvC s at0).1 > (s.size : Int) - (rvC s at0).2.1 - 4 by omega)]
     simp only [spec_Unframe.j1]
     rw [if_pos trivial]
   ·have h : ¬ faOk s at0 := fun h => hok h.1
    rw [if_neg h]
    refine ⟨K1 + 2, fun k hk => ?_⟩
    obtain ⟨k, rfl⟩ : ∃ m, k = m + 2 := ⟨k - 2, by omega⟩
    have e1 : spec_ReadVar.f (k + 1) s at0 = some _ := hK1 _ (by omega)
    simp only [spec_Unframe.l0]
    rw [if_pos hlt, e1, Option.bind_some, if_neg hok]
    simp only [spec_Unframe.j1]
    rw [if_pos trivial]
  ·have h : ¬ faOk s at0 := fun h => by have := faEnd_range h; omega
   rw [if_neg h]
   refine ⟨1, fun k hk => ?_⟩
   obtain ⟨k, rfl⟩ : ∃ m, k = m + 1 := ⟨k - 1, by omega⟩
   simp only [spec_Unframe.l0]
   rw [if_neg hlt]
theorem spec_Unframe_ev (s : ByteArray) : Ev (fun k => spec_Unframe.f k s) (ufC s) := by
 by_cases h : s.size ≤ 20000
 ·obtain ⟨K, hK⟩ := spec_Unframe_l0 s h (s.size + 1) [] 0 (by omega) (by omega) (by simp) (by omega)
  refine ⟨K, fun k hk => ?_⟩
  have e : spec_Unframe.l0 k s [] 0 = some _ := hK k hk
  unfold ufC
  rw [if_pos h]
  simp only [spec_Unframe.f]
  rw [Option.bind_some, if_neg (by omega), e]
 ·refine ⟨0, fun k _ => ?_⟩
  unfold ufC
  rw [if_neg h]
  simp only [spec_Unframe.f]
  rw [Option.bind_some, if_pos (by omega)]
theorem drop_getD {α : Type} {l : List α} (z : α) {i : Nat} (h : i < l.length) : l.drop i = l.getD i z :: l.drop (i + 1) := by
 rw [List.drop_eq_getElem_cons h]
 congr 1
 rw [List.getD_eq_getElem?_getD, List.getElem?_eq_getElem h]; rfl
theorem take_getD {α : Type} {l : List α} (z : α) {i : Nat} (h : i < l.length) : l.take (i + 1) = l.take i ++ [l.getD i z] := by
 rw [List.take_add_one]
 congr 1
 rw [List.getD_eq_getElem?_getD, List.getElem?_eq_getElem h]; rfl
theorem getD_mem {α : Type} {l : List α} (z : α) {i : Nat} (h : i < l.length) : l.getD i z ∈ l := by
 rw [List.getD_eq_getElem?_getD, List.getElem?_eq_getElem h]
 exact List.getElem_mem h
def lgL : Int → List S105 → Bool
 | _, [] => true
 | t, x :: xs => if eokC x.f0 x.f1 x.f2 = true ∧ t ≤ x.f0 then lgL x.f0 xs else false
def logC (a b : Int) (l : List S105) : Bool := if (0 ≤ a ∧ a ≤ 1000000) ∧ (0 ≤ b ∧ b ≤ 100000) ∧ l.length ≤ 60 ∧ a + (l.length : Int) ≤ 1000000 then lgL b l else false
def tmL (b : Int) (l : List S105) (i : Nat) : Int := if i = 0 then b else (l.getD (i - 1) z105).f0
theorem tmL_succ (b : Int) (l : List S105) (i : Nat) : tmL b l (i + 1) = (l.getD i z105).f0 := by
 unfold tmL
 rw [if_neg (by omega), Nat.add_sub_cancel]
theorem tmL_zero (b : Int) (l : List S105) : tmL b l 0 = b := rfl
theorem logC_range {a b : Int} {l : List S105} (h : logC a b l = true) : 0 ≤ a ∧ a ≤ 1000000 ∧ l.length ≤ 60 := by
 unfold logC at h
 by_cases c : (0 ≤ a ∧ a ≤ 1000000) ∧ (0 ≤ b ∧ b ≤ 100000) ∧ l.length ≤ 60 ∧ a + (l.length : Int) ≤ 1000000
 ·exact ⟨c.1.1, c.1.2, c.2.2.1⟩
 ·rw [if_neg c] at h; cases h
def putL (a : Int) (l : List S105) (n : Int) (e : S105) : List S105 := l.take (n - a - 1).toNat ++ [e]
def putC (a b : Int) (l : List S105) (n : Int) (e : S105) : Int × Int × List S105 × Bool := if logC a b l = true ∧ (a + 1 ≤ n ∧ n ≤ a + (l.length : Int) + 1) ∧ logC a b (putL a l n e) = true then (a, b, putL a l n e, true) else (0, 0, [], false)
theorem putL_len (a : Int) (l : List S105) (n : Int) (e : S105) : (putL a l n e).length ≤ l.length + 1 := by
 unfold putL
 rw [List.length_append, List.length_take]; simp only [List.length_cons, List.length_nil]; omega
theorem putL_mem {a : Int} {l : List S105} {n : Int} {e : S105} (hd : ∀ y ∈ l, y.f2.size ≤ 1048576) (he : e.f2.size ≤ 1048576) : ∀ y ∈ putL a l n e, y.f2.size ≤ 1048576 := by
 intro y hy
 unfold putL at hy
 rcases List.mem_append.1 hy with h | h
 ·exact hd y (List.mem_of_mem_take h)
 ·rw [List.mem_singleton.1 h]; exact he
theorem rdE (l : List S105) (i : Nat) : rd_T105 l (i : Int) = l.getD i z105 := by unfold rd_T105; rw [Int.toNat_natCast]
theorem spec_LogOk_l0 (a b : Int) (l : List S105) (hl : l.length ≤ 1048576) (hd : ∀ y ∈ l, y.f2.size ≤ 1048576) : ∀ (d i : Nat), i + d = l.length → Ev (fun k => spec_LogOk.l0 k (tmL b l i) (i : Int) a b l) (lgL (tmL b l i) (l.drop i))
 | 0, i, hi => by
  refine Ev.step (f := fun _ => some true) (fun k => ?_) ?_
  ·simp only [spec_LogOk.l0]; rw [if_neg (by omega)]
  ·rw [List.drop_eq_nil_of_le (by omega)]; exact Ev.now _
 | d + 1, i, hi => by
  obtain ⟨K2, h2⟩ := spec_LogOk_l0 a b l hl hd d (i + 1) (by omega)
  have hm := hd _ (getD_mem z105 (l := l) (i := i) (by omega))
  obtain ⟨K1, h1⟩ := spec_EntryOk_ev (l.getD i z105).f0 (l.getD i z105).f1 (l.getD i z105).f2 hm
  rw [drop_getD z105 (by omega)]
  simp only [lgL]
  have hw : wrap64 ((i : Int) + 1) = ((i + 1 : Nat) : Int) := by rw [w64 (by omega) (by omega)]; rfl
  refine ⟨K1 + K2 + 1, fun k hk => ?_⟩
  obtain ⟨k, rfl⟩ : ∃ m, k = m + 1 := ⟨k - 1, by omega⟩
  have e1 : spec_EntryOk.f k (l.getD i z105).f0 (l.getD i z105).f1 (l.getD i z105).f2 = some _ := h1 k (by omega)
  have e2 : spec_LogOk.l0 k (tmL b l (i + 1)) ((i + 1 : Nat) : Int) a b l = some _ := h2 k (by omega)
  rw [tmL_succ] at e2
  simp only [spec_LogOk.l0]
  rw [if_pos (by omega), if_pos (by omega), rdE, e1, Option.bind_some]
  by_cases c1 : eokC (l.getD i z105).f0 (l.getD i z105).f1 (l.getD i z105).f2 = true
  ·rw [if_pos c1]
   by_cases c2 : tmL b l i ≤ (l.getD i z105).f0
   ·rw [if_neg (by omega), hw, e2, if_pos ⟨c1, c2⟩]
   ·rw [if_pos (by omega), if_neg (fun h => c2 h.2)]
  ·rw [if_neg c1, if_neg (fun h => c1 h.1)]
theorem spec_LogOk_ev (a b : Int) (l : List S105) (hl : l.length ≤ 1048576) (hd : ∀ y ∈ l, y.f2.size ≤ 1048576) : Ev (fun k => spec_LogOk.f k a b l) (logC a b l) := by
 obtain ⟨K, hK⟩ := spec_LogOk_l0 a b l hl hd l.length 0 (by omega)
 refine ⟨K + 2, fun k hk => ?_⟩
 obtain ⟨k, rfl⟩ : ∃ m, k = m + 2 := ⟨k - 2, by omega⟩
 have e : spec_LogOk.l0 k b 0 a b l = some _ := hK k (by omega)
 rw [List.drop_zero, tmL_zero] at e
 have hf : spec_LogOk.j0 (k + 1) true a b l = some false := by
  simp only [spec_LogOk.j0]; rw [if_pos trivial]
 simp only [spec_LogOk.f, spec_l01In_eq, logC]
 rw [Option.bind_some]
 by_cases h1 : 0 ≤ a ∧ a ≤ 1000000
 ·rw [if_pos (by simpa using h1), Option.bind_some]
  by_cases h2 : 0 ≤ b ∧ b ≤ 100000
  ·rw [if_pos (by simpa using h2)]
   by_cases h3 : l.length ≤ 60
   ·rw [if_neg (by omega), w64 (by omega) (by omega)]
    by_cases h4 : a + (l.length : Int) ≤ 1000000
    ·rw [decide_eq_false (by omega), if_pos ⟨h1, h2, h3, h4⟩]
     show spec_LogOk.j0 (k + 1 + 1) false a b l = _
     simp only [spec_LogOk.j0]
     rw [if_neg (by simp)]
     have e : spec_LogOk.l0 (k + 1) b 0 a b l = some _ := hK (k + 1) (by omega)
     rw [List.drop_zero, tmL_zero] at e
     exact e
    ·rw [decide_eq_true (by omega), if_neg (fun h => h4 h.2.2.2)]
     simp only [spec_LogOk.j0]; rw [if_pos trivial]
   ·rw [if_pos (by omega), if_neg (fun h => h3 h.2.2.1)]
    simp only [spec_LogOk.j0]; rw [if_pos trivial]
  ·rw [if_neg (by simpa using h2), if_neg (fun h => h2 h.2.1)]
   simp only [spec_LogOk.j0]; rw [if_pos trivial]
 ·rw [if_neg (by simpa using h1), if_neg (fun h => h1 h.1)]
  simp only [spec_LogOk.j0]; rw [if_pos trivial]
theorem spec_LogPut_ev (a b : Int) (l : List S105) (n : Int) (e : S105) (hl : l.length ≤ 1048576) (hd : ∀ y ∈ l, y.f2.size ≤ 1048576) (he : e.f2.size ≤ 1048576) : Ev (fun k => spec_LogPut.f k a b l n e.f0 e.f1 e.f2) (putC a b l n e) := by
 obtain ⟨K1, h1⟩ := spec_LogOk_ev a b l (by omega) hd
 by_cases c1 : logC a b l = true
 ·obtain ⟨g0, g1, g2⟩ := logC_range c1
  obtain ⟨K2, h2⟩ := spec_LogOk_ev a b (putL a l n e) (Nat.le_trans (putL_len _ _ _ _) (by omega)) (putL_mem hd he)
  refine ⟨K1 + K2 + 1, fun k hk => ?_⟩
  obtain ⟨k, rfl⟩ : ∃ m, k = m + 1 := ⟨k - 1, by omega⟩
  have e1 : spec_LogOk.f (k + 1) a b l = some _ := h1 _ (by omega)
  have e2 : spec_LogOk.f k a b (putL a l n e) = some _ := h2 k (by omega)
  simp only [spec_LogPut.f, spec_l06Last.f, spec_l01In_eq]
  rw [e1, Option.bind_some, if_pos c1, Option.bind_some, w64 (n := a + (l.length : Int)) (by omega) (by omega), w64 (n := a + (l.length : Int) + 1) (by omega) (by omega), w64 (n := a + 1) (by omega) (by omega), Option.bind_some]
  by_cases c2 : a + 1 ≤ n ∧ n ≤ a + (l.length : Int) + 1
  ·rw [decide_eq_true c2]
   show spec_LogPut.j0 (k + 1) n false a b l e.f0 e.f1 e.f2 = _
   have ht : (l.take (n - a - 1).toNat).length ≤ l.length := by rw [List.length_take]; omega
   simp only [spec_LogPut.j0]
   rw [if_neg (by simp), Option.bind_some, w64 (n := n - a) (by omega) (by omega), w64 (n := n - a - 1) (by omega) (by omega), if_pos (by omega), if_pos (by omega), Option.bind_some, if_pos (by simp only [List.length_nil]; omega), Option.bind_some, Option.bind_some, if_pos (by simp only [List.nil_append, List.length_cons, List.length_nil]; omega), Option.bind_some]
   rw [show ([] ++ l.take (n - a - 1).toNat) ++ [(⟨e.f0, e.f1, e.f2⟩ : S105)] = putL a l n e from rfl, e2, Option.bind_some]
   unfold putC
   by_cases c3 : logC a b (putL a l n e) = true
   ·rw [if_pos c3, if_pos ⟨c1, c2, c3⟩]
   ·rw [if_neg c3, if_neg (fun h => c3 h.2.2)]
  ·rw [decide_eq_false c2]
   show spec_LogPut.j0 (k + 1) n true a b l e.f0 e.f1 e.f2 = _
   unfold putC
   rw [if_neg (fun h => c2 h.2.1)]
   simp only [spec_LogPut.j0]; rw [if_pos trivial]
 ·refine ⟨K1 + 1, fun k hk => ?_⟩
  obtain ⟨k, rfl⟩ : ∃ m, k = m + 1 := ⟨k - 1, by omega⟩
  have e1 : spec_LogOk.f (k + 1) a b l = some _ := h1 _ (by omega)
  simp only [spec_LogPut.f, putC]
  rw [e1, Option.bind_some, if_neg c1, if_neg (fun h => c1 h.1)]
  simp only [spec_LogPut.j0]; rw [if_pos trivial]
theorem impl_LogOk_l0 (b : Int) (l : List S105) (hl : l.length ≤ 1048576) (hd : ∀ y ∈ l, y.f2.size ≤ 1048576) : ∀ (d i : Nat), i + d = l.length → Ev (fun k => impl_LogOk.l0 k (tmL b l i) l (l.length : Int) (i : Int)) (lgL (tmL b l i) (l.drop i))
 | 0, i, hi => by
  refine Ev.step (f := fun _ => some true) (fun k => ?_) ?_
  ·simp only [impl_LogOk.l0]; rw [if_neg (by omega)]
  ·rw [List.drop_eq_nil_of_le (by omega)]; exact Ev.now _
 | d + 1, i, hi => by
  obtain ⟨K2, h2⟩ := impl_LogOk_l0 b l hl hd d (i + 1) (by omega)
  have hm := hd _ (getD_mem z105 (l := l) (i := i) (by omega))
  obtain ⟨K1, h1⟩ := impl_EntryOk_ev (l.getD i z105).f0 (l.getD i z105).f1 (l.getD i z105).f2 hm
  rw [drop_getD z105 (by omega)]
  simp only [lgL]
  have hw : wrap64 ((i : Int) + 1) = ((i + 1 : Nat) : Int) := by rw [w64 (by omega) (by omega)]; rfl
  refine ⟨K1 + K2 + 1, fun k hk => ?_⟩
  obtain ⟨k, rfl⟩ : ∃ m, k = m + 1 := ⟨k - 1, by omega⟩
  have e1 : impl_EntryOk.f k (l.getD i z105).f0 (l.getD i z105).f1 (l.getD i z105).f2 = some _ := h1 k (by omega)
  have e2 : impl_LogOk.l0 k (tmL b l (i + 1)) l (l.length : Int) ((i + 1 : Nat) : Int) = some _ := h2 k (by omega)
  rw [tmL_succ] at e2
  simp only [impl_LogOk.l0]
  rw [if_pos (by omega), if_pos (by omega), if_pos (by omega), rdE, e1, Option.bind_some]
  by_cases c1 : eokC (l.getD i z105).f0 (l.getD i z105).f1 (l.getD i z105).f2 = true
  ·rw [if_pos c1]
   by_cases c2 : tmL b l i ≤ (l.getD i z105).f0
   ·rw [if_neg (by omega), hw, e2, if_pos ⟨c1, c2⟩]
   ·rw [if_pos (by omega), if_neg (fun h => c2 h.2)]
  ·rw [if_neg c1, if_neg (fun h => c1 h.1)]
theorem impl_LogOk_ev (a b : Int) (l : List S105) (hl : l.length ≤ 1048576) (hd : ∀ y ∈ l, y.f2.size ≤ 1048576) : Ev (fun k => impl_LogOk.f k a b l) (logC a b l) := by
 obtain ⟨K, hK⟩ := impl_LogOk_l0 b l hl hd l.length 0 (by omega)
 refine ⟨K + 2, fun k hk => ?_⟩
 obtain ⟨k, rfl⟩ : ∃ m, k = m + 2 := ⟨k - 2, by omega⟩
 have e : impl_LogOk.l0 k b l (l.length : Int) 0 = some _ := hK k (by omega)
 rw [List.drop_zero, tmL_zero] at e
 have hf : impl_LogOk.j0 (k + 1) true a b l = some false := by
  simp only [impl_LogOk.j0]; rw [if_pos trivial]
 simp only [impl_LogOk.f, impl_in_eq, logC]
 rw [Option.bind_some]
 by_cases h1 : 0 ≤ a ∧ a ≤ 1000000
 ·rw [if_pos (by simpa using h1), Option.bind_some]
  by_cases h2 : 0 ≤ b ∧ b ≤ 100000
  ·rw [if_pos (by simpa using h2)]
   by_cases h3 : l.length ≤ 60
   ·rw [if_neg (by omega), w64 (by omega) (by omega)]
    by_cases h4 : a + (l.length : Int) ≤ 1000000
    ·rw [decide_eq_false (by omega), if_pos ⟨h1, h2, h3, h4⟩]
     show impl_LogOk.j0 (k + 1 + 1) false a b l = _
     simp only [impl_LogOk.j0]
     rw [if_neg (by simp)]
     have e : impl_LogOk.l0 (k + 1) b l (l.length : Int) 0 = some _ := hK (k + 1) (by omega)
     rw [List.drop_zero, tmL_zero] at e
     exact e
    ·rw [decide_eq_true (by omega), if_neg (fun h => h4 h.2.2.2)]
     simp only [impl_LogOk.j0]; rw [if_pos trivial]
   ·rw [if_pos (by omega), if_neg (fun h => h3 h.2.2.1)]
    simp only [impl_LogOk.j0]; rw [if_pos trivial]
  ·rw [if_neg (by simpa using h2), if_neg (fun h => h2 h.2.1)]
   simp only [impl_LogOk.j0]; rw [if_pos trivial]
 ·rw [if_neg (by simpa using h1), if_neg (fun h => h1 h.1)]
  simp only [impl_LogOk.j0]; rw [if_pos trivial]
theorem impl_LogPut_ev (a b : Int) (l : List S105) (n : Int) (e : S105) (hl : l.length ≤ 1048576) (hd : ∀ y ∈ l, y.f2.size ≤ 1048576) (he : e.f2.size ≤ 1048576) : Ev (fun k => impl_LogPut.f k a b l n e.f0 e.f1 e.f2) (putC a b l n e) := by
 obtain ⟨K1, h1⟩ := impl_LogOk_ev a b l (by omega) hd
 by_cases c1 : logC a b l = true
 ·obtain ⟨g0, g1, g2⟩ := logC_range c1
  obtain ⟨K2, h2⟩ := impl_LogOk_ev a b (putL a l n e) (Nat.le_trans (putL_len _ _ _ _) (by omega)) (putL_mem hd he)
  refine ⟨K1 + K2 + 1, fun k hk => ?_⟩
  obtain ⟨k, rfl⟩ : ∃ m, k = m + 1 := ⟨k - 1, by omega⟩
  have e1 : impl_LogOk.f (k + 1) a b l = some _ := h1 _ (by omega)
  have e2 : impl_LogOk.f k a b (putL a l n e) = some _ := h2 k (by omega)
  simp only [impl_LogPut.f, impl_lastOf.f, impl_in_eq]
  rw [e1, Option.bind_some, if_pos c1, Option.bind_some, w64 (n := a + (l.length : Int)) (by omega) (by omega), w64 (n := a + (l.length : Int) + 1) (by omega) (by omega), w64 (n := a + 1) (by omega) (by omega), Option.bind_some]
  by_cases c2 : a + 1 ≤ n ∧ n ≤ a + (l.length : Int) + 1
  ·rw [decide_eq_true c2]
   show impl_LogPut.j0 (k + 1) n false a b l e.f0 e.f1 e.f2 = _
   have ht : (l.take (n - a - 1).toNat).length ≤ l.length := by rw [List.length_take]; omega
   simp only [impl_LogPut.j0, impl_cloneLog.f, impl_Entry.f]
   rw [if_neg (by simp), if_pos (show l.length < 4398046511104 by omega), Option.bind_some, Option.bind_some, w64 (n := n - a) (by omega) (by omega), w64 (n := n - a - 1) (by omega) (by omega), if_pos (by omega)]
   dsimp only
   rw [if_pos (by omega), Option.bind_some, if_pos (by omega), Option.bind_some]
   rw [show l.take (n - a - 1).toNat ++ [(⟨e.f0, e.f1, e.f2⟩ : S105)] = putL a l n e from rfl, e2, Option.bind_some]
   unfold putC
   by_cases c3 : logC a b (putL a l n e) = true
   ·rw [if_pos c3, if_pos ⟨c1, c2, c3⟩]
   ·rw [if_neg c3, if_neg (fun h => c3 h.2.2)]
  ·rw [decide_eq_false c2]
   show impl_LogPut.j0 (k + 1) n true a b l e.f0 e.f1 e.f2 = _
   unfold putC
   rw [if_neg (fun h => c2 h.2.1)]
   simp only [impl_LogPut.j0]; rw [if_pos trivial]
 ·refine ⟨K1 + 1, fun k hk => ?_⟩
  obtain ⟨k, rfl⟩ : ∃ m, k = m + 1 := ⟨k - 1, by omega⟩
  have e1 : impl_LogOk.f (k + 1) a b l = some _ := h1 _ (by omega)
  simp only [impl_LogPut.f, putC]
  rw [e1, Option.bind_some, if_neg c1, if_neg (fun h => c1 h.1)]
  simp only [impl_LogPut.j0]; rw [if_pos trivial]
def entM (t v a b : Int) (l : List S105) (e : Int × Int × Int × ByteArray × Bool) : Bool × Int × Int × Int × Int × List S105 :=
 if e.2.2.2.2 = true then (if (putC a b l e.1 ⟨e.2.1, e.2.2.1, e.2.2.2.1⟩).2.2.2 = true then (true, t, v, (putC a b l e.1 ⟨e.2.1, e.2.2.1, e.2.2.2.1⟩).1, (putC a b l e.1 ⟨e.2.1, e.2.2.1, e.2.2.2.1⟩).2.1, (putC a b l e.1 ⟨e.2.1, e.2.2.1, e.2.2.2.1⟩).2.2.1) else (false, t, v, a, b, l)) else (false, t, v, a, b, l)
def moreC (t v a b : Int) (l : List S105) (x : ByteArray) : Bool × Int × Int × Int × Int × List S105 :=
 if (twoC x 72).2.2 = true then (if (0 ≤ (twoC x 72).1 ∧ (twoC x 72).1 ≤ 100000) ∧ (0 ≤ (twoC x 72).2.1 ∧ (twoC x 72).2.1 ≤ 4) then (true, (twoC x 72).1, (twoC x 72).2.1, a, b, l) else (false, t, v, a, b, l)) else entM t v a b l (rentC x)
def GoodL (a b : Int) (l : List S105) : Prop := logC a b l = true ∧ ∀ y ∈ l, y.f2.size ≤ 1048576
theorem rentC_size (x : ByteArray) (hx : x.size ≤ 1048576) : (rentC x).2.2.2.1.size ≤ 1048576 := by
 have h0 : ∀ p : Nat, (x.extract p x.size).size ≤ 1048576 := fun p => by
  rw [← bytesOf_length, bytesOf_ext, List.length_take, List.length_drop, bytesOf_length]; omega
 unfold rentC rentR
 simp only []
 split
 ·exact Nat.zero_le _
 ·split
  ·exact h0 _
  ·exact Nat.zero_le _
theorem rentC_H (x : ByteArray) (h : (twoC x 72).2.2 = true) : (rentC x).2.2.2.2 = false := by
 unfold twoC at h
 split at h
 ·rename_i c
  have hby : (byC x 0 false).1 = 72 := by unfold byC; rw [if_neg (by simp), if_pos (by omega)]; exact c.2.1
  unfold rentC rentR
  simp only [hby]
  split
  ·rfl
  ·rw [if_neg (by rintro ⟨h, _⟩; omega)]
 ·simp at h
theorem entM_good {t v a b : Int} {l : List S105} {e : Int × Int × Int × ByteArray × Bool} (he : e.2.2.2.1.size ≤ 1048576) (h : GoodL a b l) : GoodL (entM t v a b l e).2.2.2.1 (entM t v a b l e).2.2.2.2.1 (entM t v a b l e).2.2.2.2.2 := by
 unfold entM
 split
 ·split
  ·rename_i h2
   unfold putC at h2 ⊢
   split at h2
   ·rename_i c
    rw [if_pos c]
    exact ⟨c.2.2, putL_mem h.2 he⟩
   ·simp at h2
  ·exact h
 ·exact h
theorem moreC_good {t v a b : Int} {l : List S105} {x : ByteArray} (hx : x.size ≤ 1048576) (h : GoodL a b l) : GoodL (moreC t v a b l x).2.2.2.1 (moreC t v a b l x).2.2.2.2.1 (moreC t v a b l x).2.2.2.2.2 := by
 unfold moreC
 split
 ·split
  ·exact h
  ·exact h
 ·exact entM_good (rentC_size x hx) h
theorem spec_l07More_ev (t v a b : Int) (l : List S105) (x : ByteArray) (hx : x.size ≤ 1048576) (h : GoodL a b l) : Ev (fun k => spec_l07More.f k t v a b l x) (moreC t v a b l x) := by
 obtain ⟨_, _, hl⟩ := logC_range h.1
 obtain ⟨K1, h1⟩ := spec_l07Two_ev x hx (C := (⟨#[72]⟩ : ByteArray)) (c := 72) rfl
 obtain ⟨K2, h2⟩ := spec_ReadEntry_ev x hx
 obtain ⟨K3, h3⟩ := spec_LogPut_ev a b l (rentC x).1 ⟨(rentC x).2.1, (rentC x).2.2.1, (rentC x).2.2.2.1⟩ (by omega) h.2 (rentC_size x hx)
 refine ⟨K1 + K2 + K3, fun k hk => ?_⟩
 have e1 : spec_l07Two.f k x (⟨#[72]⟩ : ByteArray) = some _ := h1 k (by omega)
 have e2 : spec_ReadEntry.f k x = some _ := h2 k (by omega)
 have e3 : spec_LogPut.f k a b l (rentC x).1 (rentC x).2.1 (rentC x).2.2.1 (rentC x).2.2.2.1 = some _ := h3 k (by omega)
 simp only [spec_l07More.f, moreC, entM]
 rw [e1, Option.bind_some]
 by_cases c : (twoC x 72).2.2 = true
 ·rw [if_pos c, if_pos c]
  by_cases c1 : 0 ≤ (twoC x 72).1 ∧ (twoC x 72).1 ≤ 100000
  ·rw [if_pos c1]
   by_cases c2 : 0 ≤ (twoC x 72).2.1 ∧ (twoC x 72).2.1 ≤ 4
   ·rw [if_pos c2, if_pos ⟨c1, c2⟩]
   ·rw [if_neg c2, if_neg (fun h => c2 h.2)]
  ·rw [if_neg c1, if_neg (fun h => c1 h.1)]
 ·rw [if_neg c, if_neg c, e2, Option.bind_some]
  by_cases c1 : (rentC x).2.2.2.2 = true
  ·rw [if_pos c1, if_pos c1, e3, Option.bind_some]
   split <;> rfl
  ·rw [if_neg c1, if_neg c1]
theorem impl_Journal_tells_ev (t v a b : Int) (l : List S105) (x : ByteArray) (hx : x.size ≤ 1048576) (h : GoodL a b l) : Ev (fun k => impl_Journal_tells.f k t v a b l x) (moreC t v a b l x) := by
 obtain ⟨_, _, hl⟩ := logC_range h.1
 obtain ⟨n1, n2, ⟨K1, h1⟩, hn⟩ := impl_twoNumbers_ev x hx (C := (⟨#[72]⟩ : ByteArray)) (c := 72) rfl
 obtain ⟨K2, h2⟩ := impl_ReadEntry_ev x hx
 obtain ⟨K3, h3⟩ := impl_LogPut_ev a b l (rentC x).1 ⟨(rentC x).2.1, (rentC x).2.2.1, (rentC x).2.2.2.1⟩ (by omega) h.2 (rentC_size x hx)
 refine ⟨K1 + K2 + K3, fun k hk => ?_⟩
 have e1 : impl_twoNumbers.f k x (⟨#[72]⟩ : ByteArray) = some _ := h1 k (by omega)
 have e2 : impl_ReadEntry.f k x = some _ := h2 k (by omega)
 have e3 : impl_LogPut.f k a b l (rentC x).1 (rentC x).2.1 (rentC x).2.2.1 (rentC x).2.2.2.1 = some _ := h3 k (by omega)
 simp only [impl_Journal_tells.f, moreC, entM]
 rw [e1, Option.bind_some]
 by_cases c : (twoC x 72).2.2 = true
 ·obtain ⟨rfl, rfl⟩ := hn c
  rw [if_pos c]
  by_cases c1 : (0 ≤ (twoC x 72).1 ∧ (twoC x 72).1 ≤ 100000) ∧ (0 ≤ (twoC x 72).2.1 ∧ (twoC x 72).2.1 ≤ 4)
  ·rw [if_pos ⟨c, c1⟩, if_pos c1]
  ·rw [if_neg (fun h => c1 h.2), if_neg c1, e2, Option.bind_some, if_neg (by rw [rentC_H x c]; simp)]
 ·rw [if_neg (fun h => c h.1), if_neg c, e2, Option.bind_some]
  by_cases c1 : (rentC x).2.2.2.2 = true
  ·rw [if_pos c1, if_pos c1, e3, Option.bind_some]
   split <;> rfl
  ·rw [if_neg c1, if_neg c1]
def fl : Nat → ByteArray → Int → List ByteArray
 | 0, _, _ => []
 | n + 1, s, p => if faOk s p then faText s p :: fl n s (faEnd s p) else []
theorem uf_fl : ∀ (n : Nat) (s : ByteArray) (out : List ByteArray) (p : Int), (uf n s out p).1 = out ++ fl n s p
 | 0, s, out, p => by simp only [uf, fl, List.append_nil]
 | n + 1, s, out, p => by
  simp only [uf, fl]
  by_cases h : faOk s p
  ·rw [if_pos h, if_pos h, uf_fl n]; simp
  ·rw [if_neg h, if_neg h]; simp
theorem faText_small {s : ByteArray} {p : Int} (h : faOk s p) : 1 ≤ (faText s p).size ∧ (faText s p).size ≤ 9000 := by
 have := faText_size h.1 (by have := h.2.1; omega) h.2.2.2.1
 have := h.2.1
 have := h.2.2.1
 omega
theorem frame_size {s : ByteArray} {p : Int} (h : faOk s p) : ((frameT (faText s p)).size : Int) = faEnd s p - p := by
 have hr := faEnd_range h
 rw [(fa_frame h.1 h.2.1 h.2.2.2.1).2 h.2.2.2.2, ext_size s (by omega) (by omega)]
 omega
def rjL : Nat → ByteArray → Int → Int → Int → Int → Int → List S105 → Int × Int × Int × Int × List S105 × Int
 | 0, _, p, t, v, a, b, l => (t, v, a, b, l, p)
 | n + 1, s, p, t, v, a, b, l => if faOk s p then (if (moreC t v a b l (faText s p)).1 = true then rjL n s (faEnd s p) (moreC t v a b l (faText s p)).2.1 (moreC t v a b l (faText s p)).2.2.1 (moreC t v a b l (faText s p)).2.2.2.1 (moreC t v a b l (faText s p)).2.2.2.2.1 (moreC t v a b l (faText s p)).2.2.2.2.2 else ((moreC t v a b l (faText s p)).2.1, (moreC t v a b l (faText s p)).2.2.1, (moreC t v a b l (faText s p)).2.2.2.1, (moreC t v a b l (faText s p)).2.2.2.2.1, (moreC t v a b l (faText s p)).2.2.2.2.2, p)) else (t, v, a, b, l, p)
def outJ (n : Int) (r : Int × Int × Int × Int × List S105 × Int) : Int × Int × Int × Int × Int × List S105 × Int × Bool := (n, r.1, r.2.1, r.2.2.1, r.2.2.2.1, r.2.2.2.2.1, r.2.2.2.2.2, true)
theorem rjL_len : ∀ (n : Nat) (s : ByteArray) (p t v a b : Int) (l : List S105), GoodL a b l → (rjL n s p t v a b l).2.2.2.2.1.length ≤ 60
 | 0, s, p, t, v, a, b, l, h => (logC_range h.1).2.2
 | n + 1, s, p, t, v, a, b, l, h => by
  simp only [rjL]
  by_cases c : faOk s p
  ·have hg := moreC_good (t := t) (v := v) (x := faText s p) (by have := (faText_small c).2; omega) h
   rw [if_pos c]
   split
   ·exact rjL_len n _ _ _ _ _ _ _ hg
   ·exact (logC_range hg.1).2.2
  ·rw [if_neg c]
   exact (logC_range h.1).2.2
theorem impl_ReadJournal_l0 (s : ByteArray) (hs : s.size ≤ 20000) (num : Int) : ∀ (n : Nat) (p t v a b : Int) (l : List S105), 0 ≤ p → p ≤ (s.size : Int) → (s.size : Int) - p < (n : Int) → GoodL a b l →
 Ev (fun k => impl_ReadJournal.l0 k s num t v a b l p) (outJ num (rjL n s p t v a b l))
 | 0, p, t, v, a, b, l, h0, h1, h2, hg => by omega
 | n + 1, p, t, v, a, b, l, h0, h1, h2, hg => by
  obtain ⟨K1, e1⟩ := impl_frameAt_ev s p (by omega)
  simp only [rjL]
  by_cases c : faOk s p
  ·have hsm := faText_small c
   have hr := faEnd_range c
   obtain ⟨K2, e2⟩ := impl_Journal_tells_ev t v a b l (faText s p) (by omega) hg
   have hg2 := moreC_good (t := t) (v := v) (x := faText s p) (by omega) hg
   rw [if_pos c]
   by_cases c2 : (moreC t v a b l (faText s p)).1 = true
   ·rw [if_pos c2]
    obtain ⟨K3, e3⟩ := impl_ReadJournal_l0 s hs num n (faEnd s p) _ _ _ _ _ (by omega) (by omega) (by omega) hg2
    refine ⟨K1 + K2 + K3 + 1, fun k hk => ?_⟩
    obtain ⟨k, rfl⟩ : ∃ m, k = m + 1 := ⟨k - 1, by omega⟩
    have f1 : impl_frameAt.f k s p = some _ := e1 k (by omega)
    have f2 : impl_Journal_tells.f k t v a b l (faText s p) = some _ := e2 k (by omega)
    unfold faC at f1
    rw [if_pos c] at f1
    simp only [impl_ReadJournal.l0]
    rw [f1, Option.bind_some, if_pos rfl, f2, Option.bind_some, if_pos c2]
    exact e3 k (by omega)
   ·rw [if_neg c2]
    refine ⟨K1 + K2 + 1, fun k hk => ?_⟩
    obtain ⟨k, rfl⟩ : ∃ m, k = m + 1 := ⟨k - 1, by omega⟩
    have f1 : impl_frameAt.f k s p = some _ := e1 k (by omega)
    have f2 : impl_Journal_tells.f k t v a b l (faText s p) = some _ := e2 k (by omega)
    unfold faC at f1
    rw [if_pos c] at f1
    simp only [impl_ReadJournal.l0]
    rw [f1, Option.bind_some, if_pos rfl, f2, Option.bind_some, if_neg c2]; rfl
  ·rw [if_neg c]
   refine ⟨K1 + 1, fun k hk => ?_⟩
   obtain ⟨k, rfl⟩ : ∃ m, k = m + 1 := ⟨k - 1, by omega⟩
   have f1 : impl_frameAt.f k s p = some _ := e1 k (by omega)
   unfold faC at f1
   rw [if_neg c] at f1
   simp only [impl_ReadJournal.l0]
   rw [f1, Option.bind_some, if_neg (by simp)]; rfl
theorem spec_ReadJournal_l0 (s : ByteArray) (hs : s.size ≤ 20000) (num : Int) (L : List ByteArray) (hL : L.length ≤ 20000) : ∀ (n : Nat) (p : Int) (i : Nat) (t v a b : Int) (l : List S105), 0 ≤ p → p ≤ (s.size : Int) → (s.size : Int) - p < (n : Int) → GoodL a b l → 1 ≤ i → i ≤ L.length → L.drop i = fl n s p →
 Ev (fun k => spec_ReadJournal.l0 k L num t v a b l p (i : Int)) (outJ num (rjL n s p t v a b l))
 | 0, p, i, t, v, a, b, l, h0, h1, h2, hg, hi, hil, hd => by omega
 | n + 1, p, i, t, v, a, b, l, h0, h1, h2, hg, hi, hil, hd => by
  simp only [rjL]
  simp only [fl] at hd
  by_cases c : faOk s p
  ·have hsm := faText_small c
   have hr := faEnd_range c
   have hfs := frame_size c
   rw [if_pos c] at hd
   have hlt : i < L.length := by
    rcases Nat.lt_or_ge i L.length with h | h
    ·exact h
    ·rw [List.drop_eq_nil_of_le h] at hd; cases hd
   rw [drop_getD ByteArray.empty hlt] at hd
   obtain ⟨hx, hd⟩ := List.cons.inj hd
   have hrd : rdOf ByteArray.empty L (i : Int) = faText s p := by unfold rdOf; rw [Int.toNat_natCast]; exact hx
   obtain ⟨K1, e1⟩ := spec_Frame_ev (faText s p) (by omega)
   obtain ⟨K2, e2⟩ := spec_l07More_ev t v a b l (faText s p) (by omega) hg
   have hg2 := moreC_good (t := t) (v := v) (x := faText s p) (by omega) hg
   rw [if_pos c]
   by_cases c2 : (moreC t v a b l (faText s p)).1 = true
   ·rw [if_pos c2]
    obtain ⟨K3, e3⟩ := spec_ReadJournal_l0 s hs num L hL n (faEnd s p) (i + 1) _ _ _ _ _ (by omega) (by omega) (by omega) hg2 (by omega) (by omega) hd
    refine ⟨K1 + K2 + K3 + 1, fun k hk => ?_⟩
    obtain ⟨k, rfl⟩ : ∃ m, k = m + 1 := ⟨k - 1, by omega⟩
    have f1 : spec_Frame.f k (faText s p) = some _ := e1 k (by omega)
    have f2 : spec_l07More.f k t v a b l (faText s p) = some _ := e2 k (by omega)
    unfold frameC at f1
    rw [if_pos hsm] at f1
    simp only [spec_ReadJournal.l0]
    rw [if_pos (by omega), if_pos (by omega), if_pos (by omega), hrd, f2, Option.bind_some, if_pos c2, f1, Option.bind_some]
    show spec_ReadJournal.l0 k L num _ _ _ _ _ (wrap64 (p + ((frameT (faText s p)).size : Int))) (wrap64 ((i : Int) + 1)) = _
    rw [hfs, show p + (faEnd s p - p) = faEnd s p by omega, w64 (by omega) (by omega), w64 (by omega) (by omega)]
    exact e3 k (by omega)
   ·rw [if_neg c2]
    refine ⟨K1 + K2 + 1, fun k hk => ?_⟩
    obtain ⟨k, rfl⟩ : ∃ m, k = m + 1 := ⟨k - 1, by omega⟩
    have f2 : spec_l07More.f k t v a b l (faText s p) = some _ := e2 k (by omega)
    simp only [spec_ReadJournal.l0]
    rw [if_pos (by omega), if_pos (by omega), if_pos (by omega), hrd, f2, Option.bind_some, if_neg c2]; rfl
  ·rw [if_neg c] at hd ⊢
   have hge : ¬ (i : Int) < (L.length : Int) := by
    have := congrArg List.length hd
    rw [List.length_drop] at this
    simp only [List.length_nil] at this
    omega
   refine ⟨1, fun k hk => ?_⟩
   obtain ⟨k, rfl⟩ : ∃ m, k = m + 1 := ⟨k - 1, by omega⟩
   simp only [spec_ReadJournal.l0]
   rw [if_neg hge]; rfl
def rjOk (n : Int) (s : ByteArray) : Prop := (0 ≤ n ∧ n ≤ 999) ∧ s.size ≤ 20000 ∧ faOk s 0 ∧ (twoC (faText s 0) 66).2.2 = true ∧ logC (twoC (faText s 0) 66).1 (twoC (faText s 0) 66).2.1 [] = true
instance (n : Int) (s : ByteArray) : Decidable (rjOk n s) := by unfold rjOk; infer_instance
def rjC (n : Int) (s : ByteArray) : Int × Int × Int × Int × Int × List S105 × Int × Bool :=
 if rjOk n s then outJ n (rjL s.size s (faEnd s 0) 0 0 (twoC (faText s 0) 66).1 (twoC (faText s 0) 66).2.1 []) else (0, 0, 0, 0, 0, [], 0, false)
theorem rjC_len (n : Int) (s : ByteArray) : (rjC n s).2.2.2.2.2.1.length ≤ 60 := by
 unfold rjC
 split
 ·rename_i h
  exact rjL_len _ _ _ _ _ _ _ _ ⟨h.2.2.2.2, by simp⟩
 ·exact Nat.zero_le _
theorem impl_ReadJournal_ev (n : Int) (s : ByteArray) (hs : s.size ≤ 1048576) : Ev (fun k => impl_ReadJournal.f k n s) (rjC n s) := by
 unfold rjC
 by_cases c0 : 0 ≤ n ∧ n ≤ 999
 ·by_cases c1 : s.size ≤ 20000
  ·obtain ⟨K1, e1⟩ := impl_frameAt_ev s 0 (by omega)
   by_cases c2 : faOk s 0
   ·have hsm := faText_small c2
    have hr := faEnd_range c2
    obtain ⟨x, y, ⟨K2, e2⟩, hxy⟩ := impl_twoNumbers_ev (faText s 0) (by omega) (C := (⟨#[66]⟩ : ByteArray)) (c := 66) rfl
    by_cases c3 : (twoC (faText s 0) 66).2.2 = true
    ·obtain ⟨rfl, rfl⟩ := hxy c3
     obtain ⟨K3, e3⟩ := impl_LogOk_ev (twoC (faText s 0) 66).1 (twoC (faText s 0) 66).2.1 [] (by simp) (by simp)
     by_cases c4 : logC (twoC (faText s 0) 66).1 (twoC (faText s 0) 66).2.1 [] = true
     ·rw [if_pos ⟨c0, c1, c2, c3, c4⟩]
      obtain ⟨K4, e4⟩ := impl_ReadJournal_l0 s c1 n s.size (faEnd s 0) 0 0 _ _ [] (by omega) (by omega) (by omega) ⟨c4, by simp⟩
      refine ⟨K1 + K2 + K3 + K4, fun k hk => ?_⟩
      have f1 : impl_frameAt.f k s 0 = some _ := e1 k (by omega)
      have f2 : impl_twoNumbers.f k (faText s 0) (⟨#[66]⟩ : ByteArray) = some _ := e2 k (by omega)
      have f3 : impl_LogOk.f k (twoC (faText s 0) 66).1 (twoC (faText s 0) 66).2.1 [] = some _ := e3 k (by omega)
      unfold faC at f1
      rw [if_pos c2] at f1
      simp only [impl_ReadJournal.f]
      rw [if_pos c0, if_neg (by omega), f1, Option.bind_some, if_pos rfl, f2, Option.bind_some, if_pos c3, f3, Option.bind_some, if_pos c4]
      exact e4 k (by omega)
     ·rw [if_neg (fun h => c4 h.2.2.2.2)]
      refine ⟨K1 + K2 + K3, fun k hk => ?_⟩
      have f1 : impl_frameAt.f k s 0 = some _ := e1 k (by omega)
      have f2 : impl_twoNumbers.f k (faText s 0) (⟨#[66]⟩ : ByteArray) = some _ := e2 k (by omega)
      have f3 : impl_LogOk.f k (twoC (faText s 0) 66).1 (twoC (faText s 0) 66).2.1 [] = some _ := e3 k (by omega)
      unfold faC at f1
      rw [if_pos c2] at f1
      simp only [impl_ReadJournal.f]
      rw [if_pos c0, if_neg (by omega), f1, Option.bind_some, if_pos rfl, f2, Option.bind_some, if_pos c3, f3, Option.bind_some, if_neg c4]
    ·rw [if_neg (fun h => c3 h.2.2.2.1)]
     refine ⟨K1 + K2, fun k hk => ?_⟩
     have f1 : impl_frameAt.f k s 0 = some _ := e1 k (by omega)
     have f2 : impl_twoNumbers.f k (faText s 0) (⟨#[66]⟩ : ByteArray) = some _ := e2 k (by omega)
     unfold faC at f1
     rw [if_pos c2] at f1
     simp only [impl_ReadJournal.f]
     rw [if_pos c0, if_neg (by omega), f1, Option.bind_some, if_pos rfl, f2, Option.bind_some, if_neg c3]
   ·rw [if_neg (fun h => c2 h.2.2.1)]
    refine ⟨K1, fun k hk => ?_⟩
    have f1 : impl_frameAt.f k s 0 = some _ := e1 k (by omega)
    unfold faC at f1
    rw [if_neg c2] at f1
    simp only [impl_ReadJournal.f]
    rw [if_pos c0, if_neg (by omega), f1, Option.bind_some, if_neg (by simp)]
  ·rw [if_neg (fun h => c1 h.2.1)]
   refine ⟨0, fun k _ => ?_⟩
   simp only [impl_ReadJournal.f]
   rw [if_pos c0, if_pos (by omega)]
 ·rw [if_neg (fun h => c0 h.1)]
  refine ⟨0, fun k _ => ?_⟩
  simp only [impl_ReadJournal.f]
  rw [if_neg c0]
theorem spec_ReadJournal_ev (n : Int) (s : ByteArray) (hs : s.size ≤ 1048576) : Ev (fun k => spec_ReadJournal.f k n s) (rjC n s) := by
 unfold rjC
 obtain ⟨K0, e0⟩ := spec_Unframe_ev s
 have hlen := ufC_len s
 by_cases c0 : 0 ≤ n ∧ n ≤ 999
 ·by_cases c1 : s.size ≤ 20000
  ·have hL : (ufC s).1 = fl (s.size + 1) s 0 := by unfold ufC; rw [if_pos c1, uf_fl, List.nil_append]
   simp only [fl] at hL
   by_cases c2 : faOk s 0
   ·have hsm := faText_small c2
    have hr := faEnd_range c2
    have hfs := frame_size c2
    rw [if_pos c2] at hL
    have hne : ¬ (ufC s).1.length = 0 := by rw [hL]; simp
    have hrd : rdOf ByteArray.empty (ufC s).1 0 = faText s 0 := by rw [hL]; rfl
    obtain ⟨K2, e2⟩ := spec_l07Two_ev (faText s 0) (by omega) (C := (⟨#[66]⟩ : ByteArray)) (c := 66) rfl
    by_cases c3 : (twoC (faText s 0) 66).2.2 = true
    ·obtain ⟨K3, e3⟩ := spec_LogOk_ev (twoC (faText s 0) 66).1 (twoC (faText s 0) 66).2.1 [] (by simp) (by simp)
     by_cases c4 : logC (twoC (faText s 0) 66).1 (twoC (faText s 0) 66).2.1 [] = true
     ·rw [if_pos ⟨c0, c1, c2, c3, c4⟩]
      obtain ⟨K4, e4⟩ := spec_ReadJournal_l0 s c1 n (ufC s).1 hlen s.size (faEnd s 0) 1 0 0 _ _ [] (by omega) (by omega) (by omega) ⟨c4, by simp⟩ (Nat.le_refl 1) (by rw [hL]; simp) (by rw [hL]; rfl)
      obtain ⟨K5, e5⟩ := spec_Frame_ev (faText s 0) (by omega)
      refine ⟨K0 + K2 + K3 + K4 + K5 + 1, fun k hk => ?_⟩
      obtain ⟨k, rfl⟩ : ∃ m, k = m + 1 := ⟨k - 1, by omega⟩
      have f0 : spec_Unframe.f (k + 1) s = some _ := e0 _ (by omega)
      have f2 : spec_l07Two.f (k + 1) (faText s 0) (⟨#[66]⟩ : ByteArray) = some _ := e2 _ (by omega)
      have f3 : spec_LogOk.f (k + 1) (twoC (faText s 0) 66).1 (twoC (faText s 0) 66).2.1 [] = some _ := e3 _ (by omega)
      have f5 : spec_Frame.f k (faText s 0) = some _ := e5 k (by omega)
      unfold frameC at f5
      rw [if_pos hsm] at f5
      simp only [spec_ReadJournal.f]
      rw [f0, Option.bind_some, if_pos c0, if_neg hne, hrd, f2, Option.bind_some, if_pos c3, f3, Option.bind_some, if_pos c4]
      simp only [spec_ReadJournal.l0]
      rw [if_pos (by omega), if_pos (by omega), if_neg (by omega), hrd, f5, Option.bind_some]
      show spec_ReadJournal.l0 k (ufC s).1 n 0 0 _ _ [] (wrap64 (0 + ((frameT (faText s 0)).size : Int))) (wrap64 (0 + 1)) = _
      rw [hfs, show 0 + (faEnd s 0 - 0) = faEnd s 0 by omega, w64 (by omega) (by omega), w64 (by omega) (by omega)]
      exact e4 k (by omega)
     ·rw [if_neg (fun h => c4 h.2.2.2.2)]
      refine ⟨K0 + K2 + K3, fun k hk => ?_⟩
      have f0 : spec_Unframe.f k s = some _ := e0 _ (by omega)
      have f2 : spec_l07Two.f k (faText s 0) (⟨#[66]⟩ : ByteArray) = some _ := e2 _ (by omega)
      have f3 : spec_LogOk.f k (twoC (faText s 0) 66).1 (twoC (faText s 0) 66).2.1 [] = some _ := e3 _ (by omega)
      simp only [spec_ReadJournal.f]
      rw [f0, Option.bind_some, if_pos c0, if_neg hne, hrd, f2, Option.bind_some, if_pos c3, f3, Option.bind_some, if_neg c4]
    ·rw [if_neg (fun h => c3 h.2.2.2.1)]
     refine ⟨K0 + K2, fun k hk => ?_⟩
     have f0 : spec_Unframe.f k s = some _ := e0 _ (by omega)
     have f2 : spec_l07Two.f k (faText s 0) (⟨#[66]⟩ : ByteArray) = some _ := e2 _ (by omega)
     simp only [spec_ReadJournal.f]
     rw [f0, Option.bind_some, if_pos c0, if_neg hne, hrd, f2, Option.bind_some, if_neg c3]
   ·rw [if_neg (fun h => c2 h.2.2.1)]
    rw [if_neg c2] at hL
    refine ⟨K0, fun k hk => ?_⟩
    have f0 : spec_Unframe.f k s = some _ := e0 _ (by omega)
    simp only [spec_ReadJournal.f]
    rw [f0, Option.bind_some, if_pos c0, if_pos (by rw [hL]; rfl)]
  ·rw [if_neg (fun h => c1 h.2.1)]
   have hL : (ufC s).1.length = 0 := by unfold ufC; rw [if_neg c1]; rfl
   refine ⟨K0, fun k hk => ?_⟩
   have f0 : spec_Unframe.f k s = some _ := e0 _ (by omega)
   simp only [spec_ReadJournal.f]
   rw [f0, Option.bind_some, if_pos c0, if_pos hL]
 ·rw [if_neg (fun h => c0 h.1)]
  refine ⟨K0, fun k hk => ?_⟩
  have f0 : spec_Unframe.f k s = some _ := e0 _ (by omega)
  simp only [spec_ReadJournal.f]
  rw [f0, Option.bind_some, if_neg c0]
theorem rdF (l : List S49) (i : Nat) : rd_T49 l (i : Int) = l.getD i z49 := by unfold rd_T49; rw [Int.toNat_natCast]
theorem rdF' (l : List S49) {i : Nat} (h : 0 < i) : rd_T49 l ((i : Int) - 1) = l.getD (i - 1) z49 := by unfold rd_T49; rw [show ((i : Int) - 1).toNat = i - 1 by omega]
def fIdx (a : ByteArray) (l : List S49) (i : Nat) : Int := Lib.idxByFrom (fun _ (y : S49) => (y.f0.toList == a.toList)) default l i
theorem fIdx_bounds (a : ByteArray) : ∀ (l : List S49) (i : Nat), fIdx a l i = -1 ∨ ((i : Int) ≤ fIdx a l i ∧ fIdx a l i < (i : Int) + (l.length : Int))
 | [], _ => .inl rfl
 | x :: xs, i => by
  unfold fIdx Lib.idxByFrom
  by_cases h : (x.f0.toList == a.toList) = true
  ·rw [if_pos h]; right; simp only [List.length_cons]; omega
  ·rw [if_neg h]
   rcases fIdx_bounds a xs (i + 1) with h1 | h1
   ·exact .inl h1
   ·right
    unfold fIdx at h1
    simp only [List.length_cons]
    omega
def atFC (a : ByteArray) (l : List S49) : ByteArray × Bool := if fIdx a l 0 < 0 then (⟨#[]⟩, false) else ((rd_T49 l (fIdx a l 0)).f1, true)
theorem spec_l03At_l0 (a : ByteArray) (l : List S49) (hl : l.length ≤ 1048576) : ∀ (d i : Nat), i + d = l.length → Ev (fun k => spec_l03At.l0 k a (i : Int) l) (fIdx a (l.drop i) i)
 | 0, i, hd => by
  refine Ev.step (f := fun _ => some (-1)) (fun k => ?_) ?_
  ·simp only [spec_l03At.l0]; rw [if_neg (by omega)]
  ·rw [List.drop_eq_nil_of_le (by omega)]; exact Ev.now _
 | d + 1, i, hd => by
  have ih := spec_l03At_l0 a l hl d (i + 1) (by omega)
  rw [drop_getD z49 (by omega)]
  unfold fIdx Lib.idxByFrom
  have hw : wrap64 ((i : Int) + 1) = ((i + 1 : Nat) : Int) := by rw [w64 (by omega) (by omega)]; rfl
  by_cases h : ((l.getD i z49).f0.toList == a.toList) = true
  ·rw [if_pos h]
   refine Ev.step (f := fun _ => some (i : Int)) (fun k => ?_) (Ev.now _)
   simp only [spec_l03At.l0]
   rw [if_pos (by omega), if_pos (by omega), rdF, if_pos (beq_iff_eq.mp h)]
  ·rw [if_neg h]
   refine Ev.step (f := fun k => spec_l03At.l0 k a ((i + 1 : Nat) : Int) l) (fun k => ?_) ih
   simp only [spec_l03At.l0]
   rw [if_pos (by omega), if_pos (by omega), rdF, if_neg (fun e => h (beq_iff_eq.mpr e)), hw]
theorem spec_FileAt_ev (a : ByteArray) (l : List S49) (hl : l.length ≤ 1048576) : Ev (fun k => spec_FileAt.f k l a) (atFC a l) := by
 obtain ⟨K, hK⟩ := spec_l03At_l0 a l hl l.length 0 (by omega)
 refine ⟨K, fun k hk => ?_⟩
 have e : spec_l03At.l0 k a 0 l = some (fIdx a l 0) := hK k hk
 simp only [spec_FileAt.f, spec_l03At.f, e, Option.bind_some, atFC]
 by_cases h : fIdx a l 0 < 0
 ·rw [if_pos h, if_pos h]
 ·have := fIdx_bounds a l 0
  rw [if_neg h, if_neg h, if_pos (by omega), if_pos (by omega)]
theorem impl_FileAt_eq (a : ByteArray) (l : List S49) : impl_FileAt.f l a = some (atFC a l) := by
 simp only [impl_FileAt.f, impl_place.f, Option.bind_some, atFC]
 change (if fIdx a l 0 < 0 then _ else _) = _
 by_cases h : fIdx a l 0 < 0
 ·rw [if_pos h, if_pos h]
 ·have := fIdx_bounds a l 0
  rw [if_neg h, if_neg h, if_pos (by show 0 ≤ fIdx a l 0; omega), if_pos (by show fIdx a l 0 < _; omega)]
  rfl
def fileB (x : S49) : Bool := decide ((1 ≤ x.f0.size ∧ x.f0.size ≤ 8) ∧ x.f1.size ≤ 20000 ∧ 0 ≤ x.f2 ∧ x.f2 ≤ (x.f1.size : Int))
def dkL : Option ByteArray → List S49 → Bool
 | _, [] => true
 | p, x :: xs => if fileB x = true ∧ (∀ q, p = some q → Op.bytesLess q.toList x.f0.toList = true) then dkL (some x.f0) xs else false
def diskC (l : List S49) : Bool := decide (l.length ≤ 30) && dkL none l
def prvF (l : List S49) (i : Nat) : Option ByteArray := if i = 0 then none else some (l.getD (i - 1) z49).f0
theorem prvF_succ (l : List S49) (i : Nat) : prvF l (i + 1) = some (l.getD i z49).f0 := by
 unfold prvF
 rw [if_neg (by omega), Nat.add_sub_cancel]
theorem prvF_pos {l : List S49} {i : Nat} (h : 0 < i) : prvF l i = some (l.getD (i - 1) z49).f0 := by
 unfold prvF
 rw [if_neg (by omega)]
theorem spec_DiskOk_l0 (l : List S49) (hl : l.length ≤ 1048576) : ∀ (d i : Nat), i + d = l.length → Ev (fun k => spec_DiskOk.l0 k (i : Int) l) (dkL (prvF l i) (l.drop i))
 | 0, i, hd => by
  refine Ev.step (f := fun _ => some true) (fun k => ?_) ?_
  ·simp only [spec_DiskOk.l0]; rw [if_neg (by omega)]
  ·rw [List.drop_eq_nil_of_le (by omega)]; exact Ev.now _
 | d + 1, i, hd => by
  have ih := spec_DiskOk_l0 l hl d (i + 1) (by omega)
  rw [prvF_succ] at ih
  rw [drop_getD z49 (by omega)]
  generalize hx : l.getD i z49 = x at ih ⊢
  simp only [dkL]
  have hw : wrap64 ((i : Int) + 1) = ((i + 1 : Nat) : Int) := by rw [w64 (by omega) (by omega)]; rfl
  have hw2 : wrap64 ((i : Int) - 1) = (i : Int) - 1 := w64 (by omega) (by omega)
  by_cases h1 : 1 ≤ x.f0.size ∧ x.f0.size ≤ 8
  ·by_cases h2 : x.f1.size ≤ 20000
   ·by_cases h3 : 0 ≤ x.f2 ∧ x.f2 ≤ (x.f1.size : Int)
    ·have hf : fileB x = true := decide_eq_true ⟨h1, h2, h3⟩
     rcases Nat.eq_zero_or_pos i with h0 | h0
     ·have hp : prvF l i = none := by unfold prvF; rw [if_pos h0]
      rw [if_pos ⟨hf, fun q hq => by rw [hp] at hq; cases hq⟩]
      refine Ev.step (f := fun k => spec_DiskOk.l0 k ((i + 1 : Nat) : Int) l) (fun k => ?_) ih
      simp only [spec_DiskOk.l0, spec_l03Name.f, spec_l01In_eq]
      rw [if_pos (by omega), if_pos (by omega), rdF, hx]
      simp only [Option.bind_some]
      rw [if_pos (by simp; omega), if_neg (by omega), if_pos (by simp; omega), if_neg (by omega), hw]
     ·by_cases h4 : Op.bytesLess (l.getD (i - 1) z49).f0.toList x.f0.toList = true
      ·rw [if_pos ⟨hf, fun q hq => by rw [prvF_pos h0] at hq; cases hq; exact h4⟩]
       refine Ev.step (f := fun k => spec_DiskOk.l0 k ((i + 1 : Nat) : Int) l) (fun k => ?_) ih
       simp only [spec_DiskOk.l0, spec_l03Name.f, spec_l01In_eq]
       rw [if_pos (by omega), if_pos (by omega), rdF, hx]
       simp only [Option.bind_some]
       rw [if_pos (by simp; omega), if_neg (by omega), if_pos (by simp; omega), if_pos (by omega), hw2, if_pos (by omega), if_pos (by omega), rdF' l h0, if_pos h4, hw]
      ·rw [if_neg (fun h => h4 (h.2 _ (prvF_pos h0)))]
       refine Ev.step (f := fun _ => some false) (fun k => ?_) (Ev.now _)
       simp only [spec_DiskOk.l0, spec_l03Name.f, spec_l01In_eq]
       rw [if_pos (by omega), if_pos (by omega), rdF, hx]
       simp only [Option.bind_some]
       rw [if_pos (by simp; omega), if_neg (by omega), if_pos (by simp; omega), if_pos (by omega), hw2, if_pos (by omega), if_pos (by omega), rdF' l h0, if_neg h4]
    ·rw [if_neg (fun h => h3 (of_decide_eq_true h.1).2.2)]
     refine Ev.step (f := fun _ => some false) (fun k => ?_) (Ev.now _)
     simp only [spec_DiskOk.l0, spec_l03Name.f, spec_l01In_eq]
     rw [if_pos (by omega), if_pos (by omega), rdF, hx]
     simp only [Option.bind_some]
     rw [if_pos (by simp; omega), if_neg (by omega), if_neg (by simp; omega)]
   ·rw [if_neg (fun h => h2 (of_decide_eq_true h.1).2.1)]
    refine Ev.step (f := fun _ => some false) (fun k => ?_) (Ev.now _)
    simp only [spec_DiskOk.l0, spec_l03Name.f, spec_l01In_eq]
    rw [if_pos (by omega), if_pos (by omega), rdF, hx]
    simp only [Option.bind_some]
    rw [if_pos (by simp; omega), if_pos (by omega)]
  ·rw [if_neg (fun h => h1 (of_decide_eq_true h.1).1)]
   refine Ev.step (f := fun _ => some false) (fun k => ?_) (Ev.now _)
   simp only [spec_DiskOk.l0, spec_l03Name.f, spec_l01In_eq]
   rw [if_pos (by omega), if_pos (by omega), rdF, hx]
   simp only [Option.bind_some]
   rw [if_neg (by simp; omega)]
theorem spec_DiskOk_ev (l : List S49) (hl : l.length ≤ 1048576) : Ev (fun k => spec_DiskOk.f k l) (diskC l) := by
 unfold diskC
 by_cases h : l.length ≤ 30
 ·obtain ⟨K, hK⟩ := spec_DiskOk_l0 l hl l.length 0 (by omega)
  refine ⟨K, fun k hk => ?_⟩
  have e : spec_DiskOk.l0 k 0 l = some _ := hK k hk
  simp only [spec_DiskOk.f]
  rw [if_neg (by omega), e, decide_eq_true h]; rfl
 ·refine ⟨0, fun k _ => ?_⟩
  simp only [spec_DiskOk.f]
  rw [if_pos (by omega), decide_eq_false h]; rfl
theorem impl_fileOk_eq (x : S49) : impl_fileOk.f x.f0 x.f1 x.f2 = some (fileB x) := by
 simp only [impl_fileOk.f, impl_in_eq, fileB]
 simp only [Option.bind_some]
 by_cases h1 : 1 ≤ x.f0.size ∧ x.f0.size ≤ 8
 ·rw [if_pos (by simp; omega)]
  by_cases h2 : x.f1.size ≤ 20000
  ·rw [if_pos (by omega)]
   congr 1
   by_cases h3 : 0 ≤ x.f2 ∧ x.f2 ≤ (x.f1.size : Int)
   ·rw [decide_eq_true h3, decide_eq_true ⟨h1, h2, h3⟩]
   ·rw [decide_eq_false h3, decide_eq_false (fun h => h3 h.2.2)]
  ·rw [if_neg (by omega), decide_eq_false (fun h => h2 h.2.1)]
 ·rw [if_neg (by simp; omega), decide_eq_false (fun h => h1 h.1)]
theorem impl_DiskOk_l0 (l : List S49) (hl : l.length ≤ 1048576) : ∀ (d i : Nat), i + d = l.length → Ev (fun k => impl_DiskOk.l0 k l (l.length : Int) (i : Int) l) (dkL (prvF l i) (l.drop i) && decide (l.length ≤ 30))
 | 0, i, hd => by
  refine Ev.step (f := fun _ => some (decide ((l.length : Int) ≤ 30))) (fun k => ?_) ?_
  ·simp only [impl_DiskOk.l0]; rw [if_neg (by omega)]
  ·rw [List.drop_eq_nil_of_le (by omega)]
   simp only [dkL]
   have : (true && decide (l.length ≤ 30)) = decide ((l.length : Int) ≤ 30) := by
    rw [Bool.true_and]
    by_cases h : l.length ≤ 30
    ·rw [decide_eq_true h, decide_eq_true (by omega)]
    ·rw [decide_eq_false h, decide_eq_false (by omega)]
   rw [this]
   exact Ev.now _
 | d + 1, i, hd => by
  have ih := impl_DiskOk_l0 l hl d (i + 1) (by omega)
  rw [prvF_succ] at ih
  rw [drop_getD z49 (by omega)]
  generalize hx : l.getD i z49 = x at ih ⊢
  simp only [dkL]
  have hw : wrap64 ((i : Int) + 1) = ((i + 1 : Nat) : Int) := by rw [w64 (by omega) (by omega)]; rfl
  have hw2 : wrap64 ((i : Int) - 1) = (i : Int) - 1 := w64 (by omega) (by omega)
  by_cases hf : fileB x = true
  ·rcases Nat.eq_zero_or_pos i with h0 | h0
   ·have hp : prvF l i = none := by unfold prvF; rw [if_pos h0]
    rw [if_pos ⟨hf, fun q hq => by rw [hp] at hq; cases hq⟩]
    refine Ev.step (f := fun k => impl_DiskOk.l0 k l (l.length : Int) ((i + 1 : Nat) : Int) l) (fun k => ?_) ih
    simp only [impl_DiskOk.l0]
    rw [if_pos (by omega), if_pos (by omega), if_pos (by omega), rdF, hx, impl_fileOk_eq, Option.bind_some, if_pos hf, if_neg (by omega), hw]
   ·by_cases h4 : Op.bytesLess (l.getD (i - 1) z49).f0.toList x.f0.toList = true
    ·rw [if_pos ⟨hf, fun q hq => by rw [prvF_pos h0] at hq; cases hq; exact h4⟩]
     refine Ev.step (f := fun k => impl_DiskOk.l0 k l (l.length : Int) ((i + 1 : Nat) : Int) l) (fun k => ?_) ih
     simp only [impl_DiskOk.l0]
     rw [if_pos (by omega), if_pos (by omega), if_pos (by omega), rdF, hx, impl_fileOk_eq, Option.bind_some, if_pos hf, if_pos (by omega), hw2, if_pos (by omega), if_pos (by omega), rdF' l h0, if_pos h4, hw]
    ·rw [if_neg (fun h => h4 (h.2 _ (prvF_pos h0)))]
     refine Ev.step (f := fun _ => some false) (fun k => ?_) (Ev.now _)
     simp only [impl_DiskOk.l0]
     rw [if_pos (by omega), if_pos (by omega), if_pos (by omega), rdF, hx, impl_fileOk_eq, Option.bind_some, if_pos hf, if_pos (by omega), hw2, if_pos (by omega), if_pos (by omega), rdF' l h0, if_neg h4]
  ·rw [if_neg (fun h => hf h.1)]
   refine Ev.step (f := fun _ => some false) (fun k => ?_) (Ev.now _)
   simp only [impl_DiskOk.l0]
   rw [if_pos (by omega), if_pos (by omega), if_pos (by omega), rdF, hx, impl_fileOk_eq, Option.bind_some, if_neg hf]
theorem impl_DiskOk_ev (l : List S49) (hl : l.length ≤ 1048576) : Ev (fun k => impl_DiskOk.f k l) (diskC l) := by
 have h := impl_DiskOk_l0 l hl l.length 0 (by omega)
 unfold diskC
 rw [Bool.and_comm]
 exact h
def jokC (n t v a b : Int) (l : List S105) : Bool := if (0 ≤ n ∧ n ≤ 999) ∧ (0 ≤ t ∧ t ≤ 100000) ∧ (0 ≤ v ∧ v ≤ 4) then logC a b l else false
theorem impl_VarText_l0 (n : Nat) : ∀ out : List Int, n ≤ 9223372036854775807 → out.length + (vl n).length ≤ 140737488355328 →
 Ev (fun k => impl_VarText.l0 k (n : Int) out) (strOfNums (out ++ vl n), true) := by
 induction n using Nat.strongRecOn with
 | _ n ih =>
  intro out hn hl
  by_cases h : 127 < n
  ·rw [vl_big h] at hl ⊢
   simp only [List.length_cons] at hl
   refine Ev.step (f := fun k => impl_VarText.l0 k ((n / 128 : Nat) : Int) (out ++ [((n % 128 + 128 : Nat) : Int)])) (fun k => ?_) ?_
   ·simp only [impl_VarText.l0]
    rw [if_pos (by omega), if_pos (by omega), bits_low7 (by omega) (by omega), bits_or128 (by omega) (by omega)]
    congr 3
    omega
   ·have := ih (n / 128) (by omega) (out ++ [((n % 128 + 128 : Nat) : Int)]) (by omega) (by simp; omega)
    rwa [List.append_assoc] at this
  ·rw [vl_small h] at hl ⊢
   simp only [List.length_cons, List.length_nil] at hl
   refine Ev.step (f := fun _ => some (strOfNums (out ++ [(n : Int)]), true)) (fun k => ?_) (Ev.now _)
   simp only [impl_VarText.l0]
   rw [if_neg (by omega), if_pos (by omega), show (n : Int) % 256 = n by omega]
theorem impl_VarText_ev (n : Int) : Ev (fun k => impl_VarText.f k n) (varC n) := by
 by_cases h : 0 ≤ n ∧ n ≤ 1000000000
 ·have hl := vl_len 10 n.toNat (by omega) (by omega)
  obtain ⟨K, hK⟩ := impl_VarText_l0 n.toNat [] (by omega) (by simp; omega)
  refine ⟨K, fun k hk => ?_⟩
  have := hK k hk
  rw [Int.toNat_of_nonneg h.1] at this
  simp only [impl_VarText.f, impl_in_eq, Option.bind_some, h, varC, this]
  simp
 ·refine ⟨0, fun k _ => ?_⟩
  simp only [impl_VarText.f, impl_in_eq, Option.bind_some, h, varC]
  simp
theorem impl_varOf_ev {n : Int} (h0 : 0 ≤ n) (h1 : n ≤ 1000000000) : Ev (fun k => impl_varOf.f k n) (varT n) := by
 obtain ⟨K, hK⟩ := impl_VarText_ev n
 refine ⟨K, fun k hk => ?_⟩
 simp only [impl_varOf.f, hK k hk, Option.bind_some, varC, varT]
 rw [if_pos ⟨h0, h1⟩]
theorem impl_framed_ev (s : ByteArray) (hs : s.size ≤ 1000000000) : Ev (fun k => impl_framed.f k s) (frameT s) := by
 obtain ⟨K1, h1⟩ := impl_varOf_ev (n := (s.size : Int)) (by omega) (by omega)
 obtain ⟨K2, h2⟩ := impl_SumOf_ev s (by omega)
 refine ⟨K1 + K2, fun k hk => ?_⟩
 have e1 : impl_varOf.f k (s.size : Int) = some _ := h1 k (by omega)
 have e2 : impl_SumOf.f k s = some _ := h2 k (by omega)
 have z1 := varT_size (n := (s.size : Int)) (by omega) (by omega)
 have z2 := fourT_size (sumC s)
 have z3 : (varT (s.size : Int) ++ fourT (sumC s)).size ≤ 14 := by rw [ByteArray.size_append]; omega
 simp only [impl_framed.f]
 rw [e1, Option.bind_some, e2, Option.bind_some, impl_fourBytes_eq, Option.bind_some, if_pos (by omega), if_pos (by omega)]; rfl
theorem impl_oneByte_l0 (l : List Int) (hl : l.length ≤ 17592186043904) : ∀ (d i : Nat), i + d = l.length →
 Ev (fun k => impl_oneByte.l0 k ((l.take i).map (· % 256)) l (l.length : Int) (i : Int)) (oneB l)
 | 0, i, hd => by
  refine Ev.step (f := fun _ => some (oneB l)) (fun k => ?_) (Ev.now _)
  simp only [impl_oneByte.l0]; rw [if_neg (by omega), List.take_of_length_le (by omega)]; rfl
 | d + 1, i, hd => by
  have hlen : ((l.take i).map (· % 256)).length = i := by rw [List.length_map, List.length_take]; omega
  refine Ev.step (f := fun k => impl_oneByte.l0 k ((l.take (i + 1)).map (· % 256)) l (l.length : Int) ((i + 1 : Nat) : Int)) (fun k => ?_) (impl_oneByte_l0 l hl d (i + 1) (by omega))
  simp only [impl_oneByte.l0]
  rw [if_pos (by omega), if_pos (by omega), if_pos (by omega), if_pos (by omega), w64 (by omega) (by omega), map_take_rd (by omega)]; rfl
theorem impl_oneByte_ev (l : List Int) (hl : l.length ≤ 17592186043904) : Ev (fun k => impl_oneByte.f k l) (oneB l) :=
 impl_oneByte_l0 l hl l.length 0 (by omega)
theorem impl_EntryText_ev (i t k : Int) (d : ByteArray) (hd : d.size ≤ 1048576) : Ev (fun n => impl_EntryText.f n i t k d) (entC i t k d) := by
 obtain ⟨K, hK⟩ := impl_EntryOk_ev t k d hd
 by_cases h : eokC t k d = true
 ·by_cases h1 : 1 ≤ i ∧ i ≤ 1000000
  ·have ht := eokC_term h
   obtain ⟨K1, hK1⟩ := impl_varOf_ev (n := i) (by omega) (by omega)
   obtain ⟨K2, hK2⟩ := impl_varOf_ev (n := t) (by omega) (by omega)
   obtain ⟨K3, hK3⟩ := impl_oneByte_ev [k] (by simp)
   refine ⟨K + K1 + K2 + K3 + 1, fun n hn => ?_⟩
   obtain ⟨n, rfl⟩ : ∃ m, n = m + 1 := ⟨n - 1, by omega⟩
   have e : impl_EntryOk.f (n + 1) t k d = some _ := hK _ (by omega)
   have e1 : impl_varOf.f n i = some _ := hK1 _ (by omega)
   have e2 : impl_varOf.f n t = some _ := hK2 _ (by omega)
   have e3 : impl_oneByte.f n [k] = some _ := hK3 _ (by omega)
   have z1 := varT_size (n := i) (by omega) (by omega)
   have z2 := varT_size (n := t) (by omega) (by omega)
   have z3 := oneB_size k
   have z0 : (⟨#[69]⟩ : ByteArray).size = 1 := rfl
   simp only [impl_EntryText.f, impl_in_eq, entC]
   rw [e, Option.bind_some, if_pos h, Option.bind_some, show (!(decide (1 ≤ i ∧ i ≤ 1000000))) = false by simp; omega, if_pos ⟨h, h1⟩]
   simp only [impl_EntryText.j0]
   rw [if_neg (by simp), e1, Option.bind_some, if_pos (by omega), e2, Option.bind_some, if_pos (by simp only [ByteArray.size_append]; omega), e3, Option.bind_some, if_pos (by simp only [ByteArray.size_append]; omega), if_pos (by simp only [ByteArray.size_append]; omega)]
   rfl
  ·refine ⟨K + 1, fun n hn => ?_⟩
   obtain ⟨n, rfl⟩ : ∃ m, n = m + 1 := ⟨n - 1, by omega⟩
   have e : impl_EntryOk.f (n + 1) t k d = some _ := hK _ (by omega)
   simp only [impl_EntryText.f, impl_in_eq, entC]
   rw [e, Option.bind_some, if_pos h, Option.bind_some, show (!(decide (1 ≤ i ∧ i ≤ 1000000))) = true by simp; omega, if_neg (fun h2 => h1 h2.2)]
   simp only [impl_EntryText.j0]
   rw [if_pos trivial]
 ·refine ⟨K + 1, fun n hn => ?_⟩
  obtain ⟨n, rfl⟩ : ∃ m, n = m + 1 := ⟨n - 1, by omega⟩
  have e : impl_EntryOk.f (n + 1) t k d = some _ := hK _ (by omega)
  simp only [impl_EntryText.f, entC]
  rw [e, Option.bind_some, if_neg h, if_neg (fun h2 => h h2.1)]
  simp only [impl_EntryText.j0]
  rw [if_pos trivial]
theorem impl_hardOk_eq (t v : Int) : impl_hardOk.f t v = some (decide ((0 ≤ t ∧ t ≤ 100000) ∧ (0 ≤ v ∧ v ≤ 4))) := by
 simp only [impl_hardOk.f, impl_in_eq]
 simp only [Option.bind_some]
 by_cases h2 : 0 ≤ t ∧ t ≤ 100000
 ·rw [if_pos (by simpa using h2)]
  by_cases h3 : 0 ≤ v ∧ v ≤ 4
  ·rw [decide_eq_true h3, decide_eq_true ⟨h2, h3⟩]
  ·rw [decide_eq_false h3, decide_eq_false (fun h => h3 h.2)]
 ·rw [if_neg (by simpa using h2), decide_eq_false (fun h => h2 h.1)]
theorem impl_JournalOk_ev (n t v a b : Int) (l : List S105) (hl : l.length ≤ 1048576) (hd : ∀ y ∈ l, y.f2.size ≤ 1048576) : Ev (fun k => impl_JournalOk.f k n t v a b l) (jokC n t v a b l) := by
 obtain ⟨K, hK⟩ := impl_LogOk_ev a b l hl hd
 refine ⟨K, fun k hk => ?_⟩
 have e : impl_LogOk.f k a b l = some _ := hK k hk
 simp only [impl_JournalOk.f, impl_in_eq, impl_hardOk_eq, jokC]
 simp only [Option.bind_some]
 rw [e]
 by_cases h1 : 0 ≤ n ∧ n ≤ 999
 ·rw [if_pos (by simpa using h1)]
  by_cases h2 : (0 ≤ t ∧ t ≤ 100000) ∧ (0 ≤ v ∧ v ≤ 4)
  ·rw [if_pos (decide_eq_true h2), if_pos ⟨h1, h2.1, h2.2⟩]; rfl
  ·rw [if_neg (by rw [decide_eq_false h2]; simp), if_neg (fun h => h2 ⟨h.2.1, h.2.2⟩)]
 ·rw [if_neg (by simpa using h1), if_neg (fun h => h1 h.1)]
theorem spec_JournalOk_ev (n t v a b : Int) (l : List S105) (hl : l.length ≤ 1048576) (hd : ∀ y ∈ l, y.f2.size ≤ 1048576) : Ev (fun k => spec_JournalOk.f k n t v a b l) (jokC n t v a b l) := by
 obtain ⟨K, hK⟩ := spec_LogOk_ev a b l hl hd
 refine ⟨K, fun k hk => ?_⟩
 have e : spec_LogOk.f k a b l = some _ := hK k hk
 simp only [spec_JournalOk.f, spec_l01In_eq, jokC]
 simp only [Option.bind_some]
 rw [e]
 by_cases h1 : 0 ≤ n ∧ n ≤ 999
 ·rw [if_pos (by simpa using h1)]
  by_cases h2 : 0 ≤ t ∧ t ≤ 100000
  ·rw [if_pos (by simpa using h2)]
   by_cases h3 : 0 ≤ v ∧ v ≤ 4
   ·rw [if_pos (by simpa using h3), if_pos ⟨h1, h2, h3⟩]; rfl
   ·rw [if_neg (by simpa using h3), if_neg (fun h => h3 h.2.2)]
  ·rw [if_neg (by simpa using h2), if_neg (fun h => h2 h.2.1)]
 ·rw [if_neg (by simpa using h1), if_neg (fun h => h1 h.1)]
theorem eokC_size {t k : Int} {d : ByteArray} (h : eokC t k d = true) : d.size ≤ 120 := by
 have ht := eokC_term h
 unfold eokC at h
 rw [if_pos ht] at h
 by_cases h1 : k = 1
 ·rw [if_pos h1] at h
  have h2 : d.toList = [] := beq_iff_eq.mp h
  have h3 : d.data.toList = [] := by rw [← ByteArray.toList_eq]; exact h2
  have h4 : d.size = d.data.toList.length := by rw [Array.length_toList]; rfl
  rw [h3, List.length_nil] at h4
  omega
 ·rw [if_neg h1] at h
  by_cases h2 : k = 2
  ·rw [if_pos h2] at h
   unfold rconfC at h
   by_cases hc : confC (bytesOf d) = true
   ·have := confC_len hc
    rw [bytesOf_length] at this
    omega
   ·rw [if_neg hc] at h; cases h
  ·rw [if_neg h2] at h
   by_cases h3 : k = 3
   ·rw [if_pos h3] at h
    have := of_decide_eq_true h
    omega
   ·rw [if_neg h3] at h; cases h
theorem lgL_all : ∀ (l : List S105) (t : Int), lgL t l = true → ∀ x ∈ l, eokC x.f0 x.f1 x.f2 = true
 | [], _, _ => by simp
 | y :: ys, t, h => by
  simp only [lgL] at h
  split at h
  ·rename_i hy
   intro x hx
   rcases List.mem_cons.1 hx with rfl | hx
   ·exact hy.1
   ·exact lgL_all ys _ h x hx
  ·cases h
theorem logC_facts {a b : Int} {l : List S105} (h : logC a b l = true) : (0 ≤ a ∧ a ≤ 1000000) ∧ (0 ≤ b ∧ b ≤ 100000) ∧ l.length ≤ 60 ∧ a + (l.length : Int) ≤ 1000000 ∧ ∀ x ∈ l, eokC x.f0 x.f1 x.f2 = true := by
 unfold logC at h
 split at h
 ·rename_i hc
  exact ⟨hc.1, hc.2.1, hc.2.2.1, hc.2.2.2, lgL_all l b h⟩
 ·cases h
def twoT (c : UInt8) (a b : Int) : ByteArray := ((⟨#[c]⟩ : ByteArray) ++ varT a) ++ varT b
def frmT (a : Int) (e : S105) (i : Nat) : ByteArray := frameT (entT (a + (i : Int) + 1) e.f0 e.f1 e.f2)
def frmsL (a : Int) : List S105 → Nat → List Int
 | [], _ => []
 | e :: es, i => bytesOf (frmT a e i) ++ frmsL a es (i + 1)
theorem twoT_size (c : UInt8) {a b : Int} (h0 : 0 ≤ a) (h1 : a ≤ 1000000000) (h2 : 0 ≤ b) (h3 : b ≤ 1000000000) : 1 ≤ (twoT c a b).size ∧ (twoT c a b).size ≤ 21 := by
 have z1 := varT_size (n := a) h0 (by omega)
 have z2 := varT_size (n := b) h2 (by omega)
 have z0 : (⟨#[c]⟩ : ByteArray).size = 1 := rfl
 unfold twoT
 rw [ByteArray.size_append, ByteArray.size_append]
 omega
theorem frameT_size (s : ByteArray) (h : s.size ≤ 1000000) : (frameT s).size ≤ s.size + 14 := by
 have z1 := varT_size (n := (s.size : Int)) (by omega) (by omega)
 unfold frameT
 rw [ByteArray.size_append, ByteArray.size_append, fourT_size]
 omega
theorem entT_size {i t k : Int} {d : ByteArray} (h : eokC t k d = true) (h0 : 0 ≤ i) (h1 : i ≤ 1000000000) : 1 ≤ (entT i t k d).size ∧ (entT i t k d).size ≤ 150 := by
 have ht := eokC_term h
 have hd := eokC_size h
 have z1 := varT_size (n := i) h0 (by omega)
 have z2 := varT_size (n := t) (by omega) (by omega)
 have z3 := oneB_size k
 have z0 : (⟨#[69]⟩ : ByteArray).size = 1 := rfl
 unfold entT
 rw [ByteArray.size_append, ByteArray.size_append, ByteArray.size_append, ByteArray.size_append]
 omega
theorem frmsL_len (a : Int) (h0 : 0 ≤ a) (h1 : a ≤ 1000000) : ∀ (l : List S105) (i : Nat), i + l.length ≤ 100 → (∀ x ∈ l, eokC x.f0 x.f1 x.f2 = true) → (frmsL a l i).length ≤ 200 * l.length
 | [], _, _, _ => by simp [frmsL]
 | e :: es, i, hi, he => by
  simp only [List.length_cons] at hi
  have ih := frmsL_len a h0 h1 es (i + 1) (by omega) (fun x hx => he x (List.mem_cons_of_mem _ hx))
  have z := entT_size (i := a + (i : Int) + 1) (he e List.mem_cons_self) (by omega) (by omega)
  have z2 := frameT_size (entT (a + (i : Int) + 1) e.f0 e.f1 e.f2) (by omega)
  simp only [frmsL, List.length_append, List.length_cons, bytesOf_length]
  have z3 : (frmT a e i).size ≤ 164 := by unfold frmT; omega
  omega
theorem frame_ok (s : ByteArray) (h0 : 1 ≤ s.size) (h1 : s.size ≤ 9000) : frameC s = (frameT s, true) := if_pos ⟨h0, h1⟩
theorem ent_ok {i t k : Int} {d : ByteArray} (h : eokC t k d = true) (h0 : 1 ≤ i) (h1 : i ≤ 1000000) : entC i t k d = (entT i t k d, true) := if_pos ⟨h, h0, h1⟩
theorem spec_l07Frames_l0 (a b : Int) (l : List S105) (h : logC a b l = true) : ∀ (d i : Nat) (out : List Int), i + d = l.length → out.length ≤ 200 * i →
 Ev (fun k => spec_l07Frames.l0 k out (i : Int) a b l) (strOfNums (out ++ frmsL a (l.drop i) i))
 | 0, i, out, hd, ho => by
  refine Ev.step (f := fun _ => some (strOfNums out)) (fun k => ?_) ?_
  ·simp only [spec_l07Frames.l0]; rw [if_neg (by omega)]
  ·rw [List.drop_eq_nil_of_le (by omega)]
   simp only [frmsL, List.append_nil]
   exact Ev.now _
 | d + 1, i, out, hd, ho => by
  obtain ⟨ha, hb, hl, hs, hall⟩ := logC_facts h
  have he := hall _ (getD_mem z105 (show i < l.length by omega))
  have z := entT_size (i := a + (i : Int) + 1) he (by omega) (by omega)
  have hd2 := eokC_size he
  have z2 := frameT_size (entT (a + (i : Int) + 1) (l.getD i z105).f0 (l.getD i z105).f1 (l.getD i z105).f2) (by omega)
  have z3 : (frmT a (l.getD i z105) i).size ≤ 164 := by unfold frmT; omega
  obtain ⟨K0, k0⟩ := spec_EntryText_ev (a + (i : Int) + 1) (l.getD i z105).f0 (l.getD i z105).f1 (l.getD i z105).f2 (by omega)
  obtain ⟨K1, k1⟩ := spec_Frame_ev (entT (a + (i : Int) + 1) (l.getD i z105).f0 (l.getD i z105).f1 (l.getD i z105).f2) (by omega)
  obtain ⟨K2, k2⟩ := spec_l07Frames_l0 a b l h d (i + 1) (out ++ bytesOf (frmT a (l.getD i z105) i)) (by omega) (by rw [List.length_append, bytesOf_length]; omega)
  rw [ent_ok he (by omega) (by omega)] at k0
  rw [frame_ok _ z.1 (by omega)] at k1
  refine ⟨K0 + K1 + K2 + 1, fun k hk => ?_⟩
  obtain ⟨k, rfl⟩ : ∃ m, k = m + 1 := ⟨k - 1, by omega⟩
  have e0 : spec_EntryText.f k (a + (i : Int) + 1) (l.getD i z105).f0 (l.getD i z105).f1 (l.getD i z105).f2 = some _ := k0 k (by omega)
  have e1 : spec_Frame.f k (entT (a + (i : Int) + 1) (l.getD i z105).f0 (l.getD i z105).f1 (l.getD i z105).f2) = some _ := k1 k (by omega)
  have e2 : spec_l07Frames.l0 k (out ++ bytesOf (frmT a (l.getD i z105) i)) ((i + 1 : Nat) : Int) a b l = some _ := k2 k (by omega)
  rw [drop_getD z105 (by omega)]
  simp only [spec_l07Frames.l0, frmsL]
  rw [if_pos (by omega), if_pos (by omega), rdE, w64 (n := a + 1) (by omega) (by omega), w64 (n := a + 1 + (i : Int)) (by omega) (by omega), show a + 1 + (i : Int) = a + (i : Int) + 1 by omega, e0, Option.bind_some, e1, Option.bind_some, w64 (n := (i : Int) + 1) (by omega) (by omega)]
  rw [if_pos (by show out.length + (frmT a (l.getD i z105) i).size < _; omega)]
  rw [← List.append_assoc]
  exact e2
theorem impl_entryFrames_l0 (a b : Int) (l : List S105) (h : logC a b l = true) : ∀ (d i : Nat) (out : ByteArray), i + d = l.length → out.size ≤ 200 * i →
 Ev (fun k => impl_entryFrames.l0 k out (i : Int) a b l) (strOfNums (bytesOf out ++ frmsL a (l.drop i) i))
 | 0, i, out, hd, ho => by
  refine Ev.step (f := fun _ => some out) (fun k => ?_) ?_
  ·simp only [impl_entryFrames.l0]; rw [if_neg (by omega)]
  ·rw [List.drop_eq_nil_of_le (by omega)]
   simp only [frmsL, List.append_nil]
   rw [str_bytesOf]
   exact Ev.now _
 | d + 1, i, out, hd, ho => by
  obtain ⟨ha, hb, hl, hs, hall⟩ := logC_facts h
  have he := hall _ (getD_mem z105 (show i < l.length by omega))
  have z := entT_size (i := a + (i : Int) + 1) he (by omega) (by omega)
  have hd2 := eokC_size he
  have z2 := frameT_size (entT (a + (i : Int) + 1) (l.getD i z105).f0 (l.getD i z105).f1 (l.getD i z105).f2) (by omega)
  have z3 : (frmT a (l.getD i z105) i).size ≤ 164 := by unfold frmT; omega
  obtain ⟨K0, k0⟩ := impl_EntryText_ev (a + (i : Int) + 1) (l.getD i z105).f0 (l.getD i z105).f1 (l.getD i z105).f2 (by omega)
  obtain ⟨K1, k1⟩ := impl_framed_ev (entT (a + (i : Int) + 1) (l.getD i z105).f0 (l.getD i z105).f1 (l.getD i z105).f2) (by omega)
  obtain ⟨K2, k2⟩ := impl_entryFrames_l0 a b l h d (i + 1) (out ++ frmT a (l.getD i z105) i) (by omega) (by rw [ByteArray.size_append]; omega)
  rw [ent_ok he (by omega) (by omega)] at k0
  refine ⟨K0 + K1 + K2 + 1, fun k hk => ?_⟩
  obtain ⟨k, rfl⟩ : ∃ m, k = m + 1 := ⟨k - 1, by omega⟩
  have e0 : impl_EntryText.f k (a + (i : Int) + 1) (l.getD i z105).f0 (l.getD i z105).f1 (l.getD i z105).f2 = some _ := k0 k (by omega)
  have e1 : impl_framed.f k (entT (a + (i : Int) + 1) (l.getD i z105).f0 (l.getD i z105).f1 (l.getD i z105).f2) = some _ := k1 k (by omega)
  have e2 : impl_entryFrames.l0 k (out ++ frmT a (l.getD i z105) i) ((i + 1 : Nat) : Int) a b l = some _ := k2 k (by omega)
  rw [drop_getD z105 (by omega)]
  simp only [impl_entryFrames.l0, frmsL]
  rw [if_pos (by omega), if_pos (by omega), rdE, w64 (n := a + (i : Int)) (by omega) (by omega), w64 (n := a + (i : Int) + 1) (by omega) (by omega), e0, Option.bind_some, e1, Option.bind_some, w64 (n := (i : Int) + 1) (by omega) (by omega)]
  rw [if_pos (by show out.size + (frmT a (l.getD i z105) i).size ≤ _; omega)]
  rw [bytesOf_app, List.append_assoc] at e2
  exact e2
def jtT (t v a b : Int) (l : List S105) : ByteArray := (frameT (twoT 66 a b) ++ frameT (twoT 72 t v)) ++ strOfNums (frmsL a l 0)
def jtC (n t v a b : Int) (l : List S105) : ByteArray × Bool := if jokC n t v a b l = true then (if ((jtT t v a b l).size : Int) > 20000 then (⟨#[]⟩, false) else (jtT t v a b l, true)) else (⟨#[]⟩, false)
theorem jokC_facts {n t v a b : Int} {l : List S105} (h : jokC n t v a b l = true) : (0 ≤ t ∧ t ≤ 100000) ∧ (0 ≤ v ∧ v ≤ 4) ∧ logC a b l = true := by
 unfold jokC at h
 split at h
 ·rename_i hc; exact ⟨hc.2.1, hc.2.2, h⟩
 ·cases h
theorem spec_JournalText_ev (n t v a b : Int) (l : List S105) (hl : l.length ≤ 1048576) (hd : ∀ y ∈ l, y.f2.size ≤ 1048576) : Ev (fun k => spec_JournalText.f k n t v a b l) (jtC n t v a b l) := by
 obtain ⟨K0, k0⟩ := spec_JournalOk_ev n t v a b l hl hd
 by_cases h : jokC n t v a b l = true
 ·obtain ⟨ht, hv, hlog⟩ := jokC_facts h
  obtain ⟨ha, hb, hl2, hs, hall⟩ := logC_facts hlog
  obtain ⟨K1, k1⟩ := spec_l01Var_ev (n := a) (by omega) (by omega)
  obtain ⟨K2, k2⟩ := spec_l01Var_ev (n := b) (by omega) (by omega)
  obtain ⟨K3, k3⟩ := spec_l01Var_ev (n := t) (by omega) (by omega)
  obtain ⟨K4, k4⟩ := spec_l01Var_ev (n := v) (by omega) (by omega)
  have zB := twoT_size 66 (a := a) (b := b) (by omega) (by omega) (by omega) (by omega)
  have zH := twoT_size 72 (a := t) (b := v) (by omega) (by omega) (by omega) (by omega)
  have fB := frameT_size (twoT 66 a b) (by omega)
  have fH := frameT_size (twoT 72 t v) (by omega)
  obtain ⟨K5, k5⟩ := spec_Frame_ev (twoT 66 a b) (by omega)
  obtain ⟨K6, k6⟩ := spec_Frame_ev (twoT 72 t v) (by omega)
  rw [frame_ok _ zB.1 (by omega)] at k5
  rw [frame_ok _ zH.1 (by omega)] at k6
  obtain ⟨K7, k7⟩ := spec_l07Frames_l0 a b l hlog l.length 0 [] (by omega) (by simp)
  have zF := frmsL_len a ha.1 ha.2 l 0 (by omega) hall
  have z1 := varT_size (n := a) (by omega) (by omega)
  have z2 := varT_size (n := b) (by omega) (by omega)
  have z3 := varT_size (n := t) (by omega) (by omega)
  have z4 := varT_size (n := v) (by omega) (by omega)
  have o66 : (⟨#[66]⟩ : ByteArray).size = 1 := rfl
  have o72 : (⟨#[72]⟩ : ByteArray).size = 1 := rfl
  have zS : (strOfNums (frmsL a l 0)).size ≤ 200 * l.length := by rw [strOfNums_size]; exact zF
  refine ⟨K0 + K1 + K2 + K3 + K4 + K5 + K6 + K7, fun k hk => ?_⟩
  have e0 : spec_JournalOk.f k n t v a b l = some _ := k0 k (by omega)
  have e1 : spec_l01Var.f k a = some _ := k1 k (by omega)
  have e2 : spec_l01Var.f k b = some _ := k2 k (by omega)
  have e3 : spec_l01Var.f k t = some _ := k3 k (by omega)
  have e4 : spec_l01Var.f k v = some _ := k4 k (by omega)
  have e5 : spec_Frame.f k (((⟨#[66]⟩ : ByteArray) ++ varT a) ++ varT b) = some _ := k5 k (by omega)
  have e6 : spec_Frame.f k (((⟨#[72]⟩ : ByteArray) ++ varT t) ++ varT v) = some _ := k6 k (by omega)
  have e7 : spec_l07Frames.l0 k [] 0 a b l = some (strOfNums (frmsL a l 0)) := k7 k (by omega)
  have eH : spec_l07Hard.f k t v = some (frameT (twoT 72 t v)) := by
   simp only [spec_l07Hard.f]
   rw [e3, Option.bind_some, if_pos (by omega), e4, Option.bind_some, if_pos (by rw [ByteArray.size_append]; omega), e6, Option.bind_some]
  simp only [spec_JournalText.f, spec_l07Frames.f, jtC]
  rw [e0, Option.bind_some, if_pos h, if_pos h, e1, Option.bind_some, if_pos (by omega), e2, Option.bind_some, if_pos (by rw [ByteArray.size_append]; omega), e5, Option.bind_some, eH, Option.bind_some, if_pos (by show (frameT (twoT 66 a b)).size + (frameT (twoT 72 t v)).size ≤ _; omega), e7, Option.bind_some, if_pos (by show (frameT (twoT 66 a b) ++ frameT (twoT 72 t v)).size + (strOfNums (frmsL a l 0)).size ≤ _; rw [ByteArray.size_append]; omega)]
  by_cases hz : ((jtT t v a b l).size : Int) > 20000
  ·rw [if_pos hz]; exact if_pos hz
  ·rw [if_neg hz]; exact if_neg hz
 ·refine ⟨K0, fun k hk => ?_⟩
  have e0 : spec_JournalOk.f k n t v a b l = some _ := k0 k hk
  simp only [spec_JournalText.f, jtC]
  rw [e0, Option.bind_some, if_neg h, if_neg h]
theorem impl_JournalText_ev (n t v a b : Int) (l : List S105) (hl : l.length ≤ 1048576) (hd : ∀ y ∈ l, y.f2.size ≤ 1048576) : Ev (fun k => impl_JournalText.f k n t v a b l) (jtC n t v a b l) := by
 obtain ⟨K0, k0⟩ := impl_JournalOk_ev n t v a b l hl hd
 by_cases h : jokC n t v a b l = true
 ·obtain ⟨ht, hv, hlog⟩ := jokC_facts h
  obtain ⟨ha, hb, hl2, hs, hall⟩ := logC_facts hlog
  obtain ⟨K1, k1⟩ := impl_varOf_ev (n := a) (by omega) (by omega)
  obtain ⟨K2, k2⟩ := impl_varOf_ev (n := b) (by omega) (by omega)
  obtain ⟨K3, k3⟩ := impl_varOf_ev (n := t) (by omega) (by omega)
  obtain ⟨K4, k4⟩ := impl_varOf_ev (n := v) (by omega) (by omega)
  have zB := twoT_size 66 (a := a) (b := b) (by omega) (by omega) (by omega) (by omega)
  have zH := twoT_size 72 (a := t) (b := v) (by omega) (by omega) (by omega) (by omega)
  have fB := frameT_size (twoT 66 a b) (by omega)
  have fH := frameT_size (twoT 72 t v) (by omega)
  obtain ⟨K5, k5⟩ := impl_framed_ev (twoT 66 a b) (by omega)
  obtain ⟨K6, k6⟩ := impl_framed_ev (twoT 72 t v) (by omega)
  obtain ⟨K7, k7⟩ := impl_entryFrames_l0 a b l hlog l.length 0 (⟨#[]⟩ : ByteArray) (by omega) (by show 0 ≤ 200 * 0; omega)
  have zF := frmsL_len a ha.1 ha.2 l 0 (by omega) hall
  have z1 := varT_size (n := a) (by omega) (by omega)
  have z2 := varT_size (n := b) (by omega) (by omega)
  have z3 := varT_size (n := t) (by omega) (by omega)
  have z4 := varT_size (n := v) (by omega) (by omega)
  have o66 : (⟨#[66]⟩ : ByteArray).size = 1 := rfl
  have o72 : (⟨#[72]⟩ : ByteArray).size = 1 := rfl
  have zS : (strOfNums (frmsL a l 0)).size ≤ 200 * l.length := by rw [strOfNums_size]; exact zF
  refine ⟨K0 + K1 + K2 + K3 + K4 + K5 + K6 + K7, fun k hk => ?_⟩
  have e0 : impl_JournalOk.f k n t v a b l = some _ := k0 k (by omega)
  have e1 : impl_varOf.f k a = some _ := k1 k (by omega)
  have e2 : impl_varOf.f k b = some _ := k2 k (by omega)
  have e3 : impl_varOf.f k t = some _ := k3 k (by omega)
  have e4 : impl_varOf.f k v = some _ := k4 k (by omega)
  have e5 : impl_framed.f k (((⟨#[66]⟩ : ByteArray) ++ varT a) ++ varT b) = some (frameT (twoT 66 a b)) := k5 k (by omega)
  have e6 : impl_framed.f k (((⟨#[72]⟩ : ByteArray) ++ varT t) ++ varT v) = some (frameT (twoT 72 t v)) := k6 k (by omega)
  have e7 : impl_entryFrames.l0 k (⟨#[]⟩ : ByteArray) 0 a b l = some (strOfNums (frmsL a l 0)) := k7 k (by omega)
  have eH : impl_hardFrame.f k t v = some (frameT (twoT 72 t v)) := by
   simp only [impl_hardFrame.f]
   rw [e3, Option.bind_some, if_pos (by omega), e4, Option.bind_some, if_pos (by rw [ByteArray.size_append]; omega), e6, Option.bind_some]
  simp only [impl_JournalText.f, impl_entryFrames.f, jtC]
  rw [e0, Option.bind_some, if_pos h, if_pos h, e1, Option.bind_some, if_pos (by omega), e2, Option.bind_some, if_pos (by rw [ByteArray.size_append]; omega), e5, Option.bind_some, eH, Option.bind_some, if_pos (by show (frameT (twoT 66 a b)).size + (frameT (twoT 72 t v)).size ≤ _; omega), e7, Option.bind_some, if_pos (by show (frameT (twoT 66 a b) ++ frameT (twoT 72 t v)).size + (strOfNums (frmsL a l 0)).size ≤ _; rw [ByteArray.size_append]; omega)]
  by_cases hz : ((jtT t v a b l).size : Int) > 20000
  ·rw [if_pos hz]; exact if_pos hz
  ·rw [if_neg hz]; exact if_neg hz
 ·refine ⟨K0, fun k hk => ?_⟩
  have e0 : impl_JournalOk.f k n t v a b l = some _ := k0 k hk
  simp only [impl_JournalText.f, jtC]
  rw [e0, Option.bind_some, if_neg h, if_neg h]
theorem ddg_lt {u : Nat} (h : u < 10) : Lib.decDigits u = [UInt8.ofNat (48 + u)] := by
 rw [Lib.decDigits, dif_pos h]
theorem ddg_ge {u : Nat} (h : 10 ≤ u) : Lib.decDigits u = Lib.decDigits (u / 10) ++ [UInt8.ofNat (48 + u % 10)] := by
 rw [Lib.decDigits, dif_neg (by omega)]
theorem abs_div (n : Int) : (n.tdiv 10).natAbs = n.natAbs / 10 := by
 rw [Int.natAbs_tdiv]; rfl
theorem abs_mod (n : Int) : (n.tmod 10).natAbs = n.natAbs % 10 := by
 rw [Int.natAbs_tmod]; rfl
theorem dec_step (n : Int) (s : List UInt8) : Lib.decDigits n.natAbs ++ s = (if n.tdiv 10 = 0 then [] else Lib.decDigits (n.tdiv 10).natAbs) ++ (UInt8.ofNat (48 + n.natAbs % 10) :: s) := by
 rw [abs_div]
 by_cases hlt : n.natAbs < 10
 ·have h0 : n.tdiv 10 = 0 := by
   have := abs_div n
   omega
  rw [if_pos h0, ddg_lt hlt, Nat.mod_eq_of_lt hlt]; rfl
 ·have h0 : n.tdiv 10 ≠ 0 := by
   intro e
   have := abs_div n
   rw [e] at this
   simp at this; omega
  rw [if_neg h0, ddg_ge (by omega)]; simp
def decT (n : Int) : ByteArray := ⟨(Lib.itoa n).toArray⟩
def decJoin (b : Bool) (l : List UInt8) : ByteArray := ⟨(if b then 45 :: l else l).toArray⟩
theorem figure_data (t : Nat) (ht : t < 10) (s : ByteArray) : ((strOfNums [(48 + (t : Int)) % 256]) ++ s).data.toList = UInt8.ofNat (48 + t) :: s.data.toList := by
 rw [ByteArray.data_append, Array.toList_append, strOfNums_data]
 simp only [List.map_cons, List.map_nil, List.cons_append, List.nil_append]
 congr 2
 omega
theorem dec_len (j : Nat) : ∀ u, u < 10 ^ (j + 1) → (Lib.decDigits u).length ≤ j + 1 := by
 induction j with
 | zero => intro u h; rw [ddg_lt (by simpa using h)]; simp
 | succ j ih =>
  intro u h
  by_cases hs : u < 10
  ·rw [ddg_lt hs]; simp
  ·rw [ddg_ge (by omega), List.length_append]
   have := ih (u / 10) (by rw [Nat.pow_succ] at h; omega)
   simp; omega
theorem decT_size {n : Int} (h0 : -9223372036854775808 ≤ n) (h1 : n ≤ 9223372036854775807) : (decT n).size ≤ 21 := by
 show (Lib.itoa n).toArray.size ≤ 21
 rw [List.size_toArray]
 unfold Lib.itoa
 split
 ·have := dec_len 19 n.natAbs (by omega)
  simp; omega
 ·have := dec_len 19 n.toNat (by omega)
  omega
def stepD (a : Nat) (c : UInt8) : Nat := 10 * a + (c.toNat - 48)
def valD (acc : Nat) (l : List UInt8) : Nat := l.foldl stepD acc
def digB (c : UInt8) : Bool := decide (48 ≤ c.toNat ∧ c.toNat ≤ 57)
theorem valD_nil (acc : Nat) : valD acc [] = acc := rfl
theorem valD_cons (acc : Nat) (c : UInt8) (r : List UInt8) : valD acc (c :: r) = valD (10 * acc + (c.toNat - 48)) r := by
 show List.foldl stepD (stepD acc c) r = _
 rfl
theorem valD_ge (l : List UInt8) : ∀ (acc : Nat), acc ≤ valD acc l := by
 induction l with
 | nil => intro acc; rw [valD_nil]; exact Nat.le_refl acc
 | cons c r ih =>
  intro acc
  have := ih (10 * acc + (c.toNat - 48))
  rw [valD_cons]; omega
theorem valD_app (l : List UInt8) (c : UInt8) (acc : Nat) : valD acc (l ++ [c]) = 10 * valD acc l + (c.toNat - 48) := by
 unfold valD
 rw [List.foldl_append]
 rfl
theorem fig_toNat {t : Nat} (h : t < 10) : (UInt8.ofNat (48 + t)).toNat = 48 + t := by
 rw [UInt8.toNat_ofNat']; omega
theorem dec_val (u : Nat) : valD 0 (Lib.decDigits u) = u := by
 induction u using Nat.strongRecOn with
 | _ u ih =>
  by_cases h : u < 10
  ·rw [ddg_lt h, valD_cons, valD_nil, fig_toNat h]; omega
  ·rw [ddg_ge (by omega), valD_app, ih (u / 10) (by omega), fig_toNat (Nat.mod_lt _ (by omega))]; omega
theorem dec_dig (u : Nat) : (Lib.decDigits u).all digB = true := by
 induction u using Nat.strongRecOn with
 | _ u ih =>
  by_cases h : u < 10
  ·rw [ddg_lt h, List.all_cons, List.all_nil, Bool.and_true]; exact decide_eq_true (by rw [fig_toNat h]; omega)
  ·have hm : u % 10 < 10 := Nat.mod_lt _ (by omega)
   rw [ddg_ge (by omega), List.all_append, ih (u / 10) (by omega), List.all_cons, List.all_nil, Bool.and_true, Bool.true_and]
   exact decide_eq_true (by rw [fig_toNat hm]; omega)
theorem dec_ne (u : Nat) : Lib.decDigits u ≠ [] := by
 by_cases h : u < 10
 ·rw [ddg_lt h]; simp
 ·rw [ddg_ge (by omega)]; simp
theorem parse_val : ∀ (l : List UInt8) (acc : Nat), l.all digB = true → valD acc l ≤ 1000000000 → Lib.parseUint10 acc l = .ok (valD acc l)
 | [], _, _, _ => rfl
 | c :: r, acc, hd, hv => by
  rw [List.all_cons, Bool.and_eq_true] at hd
  have hc := of_decide_eq_true hd.1
  rw [valD_cons] at hv
  have h1 := valD_ge r (10 * acc + (c.toNat - 48))
  rw [valD_cons]
  simp only [Lib.parseUint10]
  rw [if_pos hc, if_neg (by omega), if_neg (by omega), Nat.mul_comm acc 10]
  exact parse_val r _ hd.2 hv
theorem atoi_dec (u : Nat) (hu : u ≤ 1000000000) : Lib.atoiAll (Lib.decDigits u) = .ok (u : Int) := by
 have hp := parse_val (Lib.decDigits u) 0 (dec_dig u) (by rw [dec_val]; exact hu)
 rw [dec_val] at hp
 cases hl : Lib.decDigits u with
 | nil => exact absurd hl (dec_ne u)
 | cons c r =>
  have hd := dec_dig u
  rw [hl, List.all_cons, Bool.and_eq_true] at hd
  have hc := of_decide_eq_true hd.1
  unfold Lib.atoiAll
  simp only
  rw [if_neg (by omega)]
  rw [hl] at hp
  simp only [Lib.parseMag, hp]
  rw [if_neg (by simp)]
  simp only
  rw [if_neg (by omega), if_neg (by omega), if_neg (by omega)]
theorem itoa_nat (u : Nat) : Lib.itoa (u : Int) = Lib.decDigits u := by
 unfold Lib.itoa
 rw [if_neg (by omega), Int.toNat_natCast]
def rdecC (s : ByteArray) : Int × Bool := if s.size ≤ 10 ∧ s.data.toList.all digB = true ∧ valD 0 s.data.toList ≤ 1000000000 ∧ decT (valD 0 s.data.toList : Nat) = s then ((valD 0 s.data.toList : Nat), true) else (0, false)
theorem decT_data (u : Nat) : (decT (u : Int)).data.toList = Lib.decDigits u := by
 unfold decT; rw [itoa_nat]
theorem rdecC_dec (u : Nat) (hu : u ≤ 1000000000) : rdecC (decT (u : Int)) = ((u : Int), true) := by
 have hs : (decT (u : Int)).size ≤ 10 := by
  show (Lib.itoa (u : Int)).toArray.size ≤ 10
  rw [List.size_toArray, itoa_nat]
  have := dec_len 9 u (by omega)
  omega
 unfold rdecC
 rw [decT_data, dec_val, if_pos ⟨hs, dec_dig u, hu, rfl⟩]
theorem rdecC_impl (s : ByteArray) : (match Lib.atoiAll s.data.toList with | .ok v => if (0 ≤ v ∧ v ≤ 1000000000) ∧ decT v = s then (v, true) else (0, false) | _ => (0, false)) = rdecC s := by
 have no : rdecC s ≠ (0, false) → ∃ u : Nat, u ≤ 1000000000 ∧ s = decT (u : Int) := by
  intro h
  unfold rdecC at h
  split at h
  ·rename_i hc; exact ⟨_, hc.2.2.1, hc.2.2.2.symm⟩
  ·exact absurd rfl h
 by_cases hs : ∃ u : Nat, u ≤ 1000000000 ∧ s = decT (u : Int)
 ·obtain ⟨u, hu, rfl⟩ := hs
  rw [rdecC_dec u hu, decT_data, atoi_dec u hu]
  simp only
  rw [if_pos ⟨⟨by omega, by omega⟩, trivial⟩]
 ·have hr : rdecC s = (0, false) := Classical.byContradiction fun h => hs (no h)
  rw [hr]
  split
  ·rename_i v hv
   split
   ·rename_i hc
    exact absurd ⟨v.toNat, by omega, by rw [Int.toNat_of_nonneg hc.1.1]; exact hc.2.symm⟩ hs
   ·rfl
  ·rfl
theorem spec_Decimal_l0 (j : Nat) : ∀ (n : Int) (b : Bool) (s : ByteArray), n.natAbs < 10 ^ j → n.natAbs ≤ 9223372036854775808 → s.size + j + 1 ≤ 9223372036854775807 →
 Ev (fun k => spec_Decimal.l0 k n b s) (decJoin b ((if n = 0 then [] else Lib.decDigits n.natAbs) ++ s.data.toList)) := by
 induction j with
 | zero =>
  intro n b s h _ hs
  have h0 : n = 0 := by simp at h; omega
  subst h0
  refine Ev.step (f := fun _ => some (decJoin b s.data.toList)) (fun k => ?_) (by simpa using Ev.now _)
  simp only [spec_Decimal.l0]
  rw [if_pos trivial]
  cases b with
  | true =>
   rw [if_pos rfl, if_pos (by omega)]
   simp only [decJoin, if_true]
   congr 1
  | false =>
   rw [if_neg (by simp)]
   simp [decJoin]
 | succ j ih =>
  intro n b s h hm hs
  by_cases h0 : n = 0
  ·subst h0
   refine Ev.step (f := fun _ => some (decJoin b s.data.toList)) (fun k => ?_) (by simpa using Ev.now _)
   simp only [spec_Decimal.l0]
   rw [if_pos trivial]
   cases b with
   | true =>
    rw [if_pos rfl, if_pos (by omega)]
    simp only [decJoin, if_true]
    congr 1
   | false =>
    rw [if_neg (by simp)]
    simp [decJoin]
  ·rw [if_neg h0, dec_step]
   have ha := abs_mod n
   have hd := abs_div n
   have hlt : n.natAbs % 10 < 10 := Nat.mod_lt _ (by omega)
   have hsz : (strOfNums [(48 + ((n.natAbs % 10 : Nat) : Int)) % 256]).size = 1 := by simp [← bytesOf_length, bytesOf, strOfNums_data]
   have key := ih (n.tdiv 10) b ((strOfNums [(48 + ((n.natAbs % 10 : Nat) : Int)) % 256]) ++ s) (by rw [hd]; rw [Nat.pow_succ] at h; omega) (by omega) (by rw [ByteArray.size_append, hsz]; omega)
   rw [figure_data _ hlt] at key
   refine Ev.step (f := fun k => spec_Decimal.l0 k (n.tdiv 10) b ((strOfNums [(48 + ((n.natAbs % 10 : Nat) : Int)) % 256]) ++ s)) (fun k => ?_) key
   simp only [spec_Decimal.l0]
   rw [if_neg h0]
   have hw : wrap64 (n.tdiv 10) = n.tdiv 10 := w64 (by omega) (by omega)
   have fig : ∀ t : Int, t = ((n.natAbs % 10 : Nat) : Int) → spec_l01Figure.f t = some ((48 + ((n.natAbs % 10 : Nat) : Int)) % 256) := by
    intro t ht
    unfold spec_l01Figure.f
    rw [if_pos (by omega), w64 (by omega) (by omega), ht]
   by_cases hneg : n.tmod 10 < 0
   ·rw [if_pos hneg, fig _ (by rw [w64 (by omega) (by omega)]; omega)]
    simp only [Option.bind_some]
    rw [if_pos (by rw [hsz]; omega), hw]
   ·rw [if_neg hneg, fig _ (by omega)]
    simp only [Option.bind_some]
    rw [if_pos (by rw [hsz]; omega), hw]
theorem spec_Decimal_ev (n : Int) (h0 : -9223372036854775808 ≤ n) (h1 : n ≤ 9223372036854775807) : Ev (fun k => spec_Decimal.f k n) (decT n) := by
 by_cases hz : n = 0
 ·subst hz
  refine ⟨0, fun k _ => ?_⟩
  simp only [spec_Decimal.f]
  rw [if_pos trivial]
  simp only [decT, Lib.itoa]
  rw [if_neg (by omega), show (0 : Int).toNat = 0 from rfl, ddg_lt (by omega)]
  rfl
 ·obtain ⟨K, hK⟩ := spec_Decimal_l0 20 n (decide (n < 0)) (⟨#[]⟩ : ByteArray) (by omega) (by omega) (by show 0 + 20 + 1 ≤ _; omega)
  refine ⟨K, fun k hk => ?_⟩
  simp only [spec_Decimal.f]
  rw [if_neg hz]
  refine (hK k hk).trans ?_
  rw [if_neg hz]
  congr 1
  simp only [decT, decJoin, Lib.itoa]
  by_cases hn : n < 0
  ·simp [hn]
  ·simp only [hn, decide_false, if_false]
   congr 2
   simp
   congr 1
   omega
theorem rdecI_eq (s : ByteArray) : rdecI s = rdecC s := by
 rw [← rdecC_impl]
 unfold rdecI
 cases hv : Lib.atoiAll s.data.toList
 rotate_left
 · rfl
 · rfl
 rename_i v
 have hi : (itoaT v).toList = s.toList ↔ decT v = s := by
  rw [toList_iff]; rfl
 simp only [hi]
theorem impl_ReadDecimal_eq (s : ByteArray) (hs : s.size ≤ 140737488351232) : impl_ReadDecimal.f s = some (rdecC s) := by
 unfold impl_ReadDecimal.f
 rw [if_pos hs, rdecI_eq]
def finD (v : Nat) (s : ByteArray) : Int × Bool := if v ≤ 1000000000 ∧ decT (v : Int) = s then ((v : Int), true) else (0, false)
theorem spec_ReadDecimal_l0 (s : ByteArray) (hs : s.size ≤ 10) : ∀ (d i acc : Nat), i + d = s.size → acc < 10 ^ i →
 Ev (fun k => spec_ReadDecimal.l0 k s (acc : Int) (i : Int)) (if (s.data.toList.drop i).all digB = true then finD (valD acc (s.data.toList.drop i)) s else (0, false))
 | 0, i, acc, hd, ha => by
  have hl : s.data.toList.length = s.size := by rw [Array.length_toList]; rfl
  have hp : 10 ^ i ≤ 10 ^ 10 := Nat.pow_le_pow_right (by omega) (by omega)
  have hq : (10 : Nat) ^ 10 = 10000000000 := by decide
  rw [List.drop_eq_nil_of_le (by omega), List.all_nil, if_pos rfl, valD_nil]
  obtain ⟨K, hK⟩ := spec_Decimal_ev (acc : Int) (by omega) (by omega)
  refine ⟨K + 1, fun k hk => ?_⟩
  obtain ⟨k, rfl⟩ : ∃ m, k = m + 1 := ⟨k - 1, by omega⟩
  have e : spec_Decimal.f k (acc : Int) = some _ := hK k (by omega)
  simp only [spec_ReadDecimal.l0, finD]
  rw [if_neg (by omega)]
  by_cases h1 : (acc : Int) > 1000000000
  ·rw [if_pos h1, if_neg (by omega)]
  ·rw [if_neg h1, e, Option.bind_some]
   by_cases h2 : (decT (acc : Int)).toList = s.toList
   ·rw [if_pos h2, if_pos ⟨by omega, toList_iff.1 h2⟩]
   ·rw [if_neg h2, if_neg (fun h => h2 (toList_iff.2 h.2))]
 | d + 1, i, acc, hd, ha => by
  have hp : 10 ^ i ≤ 10 ^ 9 := Nat.pow_le_pow_right (by omega) (by omega)
  have hq : (10 : Nat) ^ 9 = 1000000000 := by decide
  have hr : 10 ^ (i + 1) = 10 * 10 ^ i := by rw [Nat.pow_succ]; omega
  obtain ⟨b, hb, hdrop, hbt⟩ := at_byte (s := s) (i := i) (by omega)
  have hw : wrap64 ((i : Int) + 1) = ((i + 1 : Nat) : Int) := by rw [w64 (by omega) (by omega)]; rfl
  have hb8 : b.toNat < 256 := b.toNat_lt
  rw [hdrop, List.all_cons, valD_cons]
  by_cases hdg : digB b = true
  ·have hc := of_decide_eq_true hdg
   rw [hdg, Bool.true_and]
   refine Ev.step (f := fun k => spec_ReadDecimal.l0 k s ((10 * acc + (b.toNat - 48) : Nat) : Int) ((i + 1 : Nat) : Int)) (fun k => ?_) (spec_ReadDecimal_l0 s hs d (i + 1) (10 * acc + (b.toNat - 48)) (by omega) (by omega))
   simp only [spec_ReadDecimal.l0]
   rw [if_pos (by omega), if_pos (by omega), hbt, if_neg (by omega), if_neg (by omega), hw, w64 (n := (b.toNat : Int)) (by omega) (by omega), w64 (n := 10 * (acc : Int)) (by omega) (by omega), w64 (n := 10 * (acc : Int) + (b.toNat : Int)) (by omega) (by omega), w64 (n := 10 * (acc : Int) + (b.toNat : Int) - 48) (by omega) (by omega), show 10 * (acc : Int) + (b.toNat : Int) - 48 = ((10 * acc + (b.toNat - 48) : Nat) : Int) by omega]
  ·rw [Bool.eq_false_iff.mpr hdg, Bool.false_and, if_neg (by simp)]
   have hn : ¬ (48 ≤ b.toNat ∧ b.toNat ≤ 57) := fun h => hdg (decide_eq_true h)
   refine Ev.step (f := fun _ => some (0, false)) (fun k => ?_) (Ev.now _)
   simp only [spec_ReadDecimal.l0]
   rw [if_pos (by omega), if_pos (by omega), hbt]
   by_cases h48 : (b.toNat : Int) < 48
   ·rw [if_pos h48]
   ·rw [if_neg h48, if_pos (by omega)]
theorem spec_ReadDecimal_ev (s : ByteArray) : Ev (fun k => spec_ReadDecimal.f k s) (rdecC s) := by
 by_cases h : (s.size : Int) > 10
 ·refine ⟨0, fun k _ => ?_⟩
  simp only [spec_ReadDecimal.f, rdecC]
  rw [if_pos h, if_neg (by omega)]
 ·obtain ⟨K, hK⟩ := spec_ReadDecimal_l0 s (by omega) s.size 0 0 (by omega) (by simp)
  refine ⟨K, fun k hk => ?_⟩
  have e : spec_ReadDecimal.l0 k s 0 0 = _ := hK k hk
  simp only [spec_ReadDecimal.f]
  rw [if_neg h]
  refine e.trans ?_
  rw [List.drop_zero]
  unfold rdecC finD
  by_cases hd : s.data.toList.all digB = true
  ·rw [if_pos hd]
   by_cases hv : valD 0 s.data.toList ≤ 1000000000 ∧ decT (valD 0 s.data.toList : Nat) = s
   ·rw [if_pos hv, if_pos ⟨by omega, hd, hv.1, hv.2⟩]
   ·rw [if_neg hv, if_neg (fun h => hv ⟨h.2.2.1, h.2.2.2⟩)]
  ·rw [if_neg hd, if_neg (fun h => hd h.2.1)]
theorem impl_Decimal_eq (n : Int) (h0 : -9223372036854775808 ≤ n) (h1 : n ≤ 9223372036854775807) : impl_Decimal.f n = some (decT n) := by
 show (Option.bind (if decide (-9223372036854775808 ≤ n) && decide (n ≤ 9223372036854775807) then some (decT n) else none) fun t => some t) = _
 rw [if_pos (by simp [h0, h1])]; rfl
def jT (n : Int) : ByteArray := (⟨#[106]⟩ : ByteArray) ++ decT n
def jnC (n : Int) : ByteArray := if 0 ≤ n ∧ n ≤ 999 then jT n else ⟨#[]⟩
theorem spec_JournalName_ev (n : Int) (h0 : -9223372036854775808 ≤ n) (h1 : n ≤ 9223372036854775807) : Ev (fun k => spec_JournalName.f k n) (jnC n) := by
 obtain ⟨K, hK⟩ := spec_Decimal_ev n h0 h1
 have hs := decT_size h0 h1
 refine ⟨K, fun k hk => ?_⟩
 have e : spec_Decimal.f k n = some (decT n) := hK k hk
 simp only [spec_JournalName.f, spec_l01In_eq, jnC]
 rw [Option.bind_some]
 by_cases c : 0 ≤ n ∧ n ≤ 999
 ·rw [if_pos (decide_eq_true c), if_pos c, e, Option.bind_some, if_pos (by omega)]; rfl
 ·rw [if_neg (by simpa using c), if_neg c]
theorem impl_JournalName_eq (n : Int) (h0 : -9223372036854775808 ≤ n) (h1 : n ≤ 9223372036854775807) : impl_JournalName.f n = some (jnC n) := by
 have hs := decT_size h0 h1
 simp only [impl_JournalName.f, impl_in_eq, jnC]
 rw [Option.bind_some]
 by_cases c : 0 ≤ n ∧ n ≤ 999
 ·rw [if_pos (decide_eq_true c), if_pos c, impl_Decimal_eq n h0 h1, Option.bind_some, if_pos (by omega)]; rfl
 ·rw [if_neg (by simpa using c), if_neg c]
def numC (s : ByteArray) : Int := if 0 < s.size ∧ bt s 0 = 106 ∧ (rdecC (s.extract 1 s.size)).2 = true ∧ (rdecC (s.extract 1 s.size)).1 ≤ 999 then (rdecC (s.extract 1 s.size)).1 else -1
theorem rdecC_facts {s : ByteArray} (h : (rdecC s).2 = true) : ∃ u : Nat, u ≤ 1000000000 ∧ (rdecC s).1 = (u : Int) ∧ s = decT (u : Int) := by
 unfold rdecC at h ⊢
 split at h
 ·rename_i c
  rw [if_pos c]
  exact ⟨_, c.2.2.1, rfl, c.2.2.2.symm⟩
 ·simp at h
theorem j_ext (s : ByteArray) (h : 0 < s.size) : (⟨#[106]⟩ : ByteArray) ++ s.extract 1 s.size = s ↔ bt s 0 = 106 := by
 have h0 := bytesOf_drop (s := s) (i := 0) (by omega) (by omega)
 rw [show (0 : Int).toNat = 0 from rfl, List.drop_zero, show ((0 : Int) + 1).toNat = 1 from rfl] at h0
 have hj : bytesOf (⟨#[106]⟩ : ByteArray) = [106] := rfl
 constructor
 ·intro e
  have := congrArg bytesOf e
  rw [bytesOf_app, bytes_tail, hj, h0] at this
  exact (List.cons.inj this).1.symm
 ·intro e
  refine bytesOf_inj ?_
  rw [bytesOf_app, bytes_tail, hj, h0, e]; rfl
theorem bytes_len1 {s : ByteArray} (h : 0 < s.size) : (s.extract 1 s.size).size = s.size - 1 := ext_size s h (Nat.le_refl _)
theorem decT_pos (u : Nat) : 1 ≤ (decT (u : Int)).size := by
 show 1 ≤ (Lib.itoa (u : Int)).toArray.size
 rw [List.size_toArray, itoa_nat]
 have := dec_ne u
 cases h : Lib.decDigits u with
 | nil => exact absurd h this
 | cons c r => simp
theorem spec_l07Number_ev (s : ByteArray) : Ev (fun k => spec_l07Number.f k s) (numC s) := by
 by_cases c0 : (s.size : Int) < 2
 ·refine ⟨0, fun k _ => ?_⟩
  simp only [spec_l07Number.f]
  rw [if_pos c0]
  unfold numC
  rw [if_neg]
  rintro ⟨h, _, h2, _⟩
  obtain ⟨u, _, _, e⟩ := rdecC_facts h2
  have := congrArg ByteArray.size e
  rw [bytes_len1 h] at this
  have := decT_pos u
  omega
 ·obtain ⟨K1, h1⟩ := spec_ReadDecimal_ev (s.extract 1 s.size)
  by_cases c1 : (rdecC (s.extract 1 s.size)).2 = true
  ·obtain ⟨u, hu, e1, e2⟩ := rdecC_facts c1
   obtain ⟨K2, h2⟩ := spec_JournalName_ev (u : Int) (by omega) (by omega)
   refine ⟨K1 + K2, fun k hk => ?_⟩
   have f1 : spec_ReadDecimal.f k (s.extract 1 s.size) = some _ := h1 k (by omega)
   have f2 : spec_JournalName.f k (u : Int) = some _ := h2 k (by omega)
   simp only [spec_l07Number.f]
   rw [if_neg c0, if_pos (by omega), f1, Option.bind_some, if_pos c1, e1, f2, Option.bind_some]
   unfold numC
   rw [e1]
   by_cases c2 : (u : Int) ≤ 999
   ·have hj := j_ext s (by omega)
    rw [e2] at hj
    by_cases c3 : bt s 0 = 106
    ·rw [if_pos (toList_iff.2 (by unfold jnC; rw [if_pos ⟨by omega, c2⟩]; exact hj.2 c3)), if_pos ⟨by omega, c3, c1, c2⟩]
    ·rw [if_neg (fun h => c3 (hj.1 (by have := toList_iff.1 h; unfold jnC at this; rw [if_pos ⟨by omega, c2⟩] at this; exact this))), if_neg (fun h => c3 h.2.1)]
   ·have hne : ¬ (jnC (u : Int)).toList = s.toList := by
     intro h
     have := toList_iff.1 h
     unfold jnC at this
     rw [if_neg (fun h => c2 h.2)] at this
     have := congrArg ByteArray.size this
     have : (0 : Nat) = s.size := this
     omega
    rw [if_neg hne, if_neg (fun h => c2 h.2.2.2)]
  ·refine ⟨K1, fun k hk => ?_⟩
   have f1 : spec_ReadDecimal.f k (s.extract 1 s.size) = some _ := h1 k (by omega)
   simp only [spec_l07Number.f]
   rw [if_neg c0, if_pos (by omega), f1, Option.bind_some, if_neg c1]
   unfold numC
   rw [if_neg (fun h => c1 h.2.2.1)]
theorem numC_range (s : ByteArray) : -1 ≤ numC s ∧ numC s ≤ 999 := by
 unfold numC
 split
 ·rename_i h
  obtain ⟨u, _, e, _⟩ := rdecC_facts h.2.2.1
  omega
 ·omega
theorem impl_numbered_eq (s : ByteArray) (hs : s.size ≤ 1048576) : ∃ x, impl_numbered.f s (⟨#[106]⟩ : ByteArray) 999 = some (x, decide (0 ≤ numC s)) ∧ (0 ≤ numC s → x = numC s) := by
 simp only [impl_numbered.f]
 rw [cut_eq s (⟨#[106]⟩ : ByteArray) (c := 106) rfl, Option.bind_some]
 by_cases c : 0 < s.size ∧ bt s 0 = 106
 ·have hz := bytes_len1 c.1
  rw [if_pos c, impl_ReadDecimal_eq _ (by show (s.extract 1 s.size).size ≤ _; omega), Option.bind_some, if_pos rfl]
  by_cases c1 : (rdecC (s.extract 1 s.size)).2 = true
  ·obtain ⟨u, hu, e1, e2⟩ := rdecC_facts c1
   rw [if_pos c1, e1]
   unfold numC
   rw [e1]
   by_cases c2 : (u : Int) ≤ 999
   ·rw [if_pos ⟨c.1, c.2, c1, c2⟩]
    exact ⟨_, by rw [decide_eq_true c2, decide_eq_true (by omega : (0 : Int) ≤ (u : Int))], fun _ => rfl⟩
   ·rw [if_neg (fun h => c2 h.2.2.2)]
    exact ⟨_, by rw [decide_eq_false c2, decide_eq_false (by omega : ¬ (0 : Int) ≤ -1)], fun h => by omega⟩
  ·unfold numC
   rw [if_neg c1, if_neg (fun h => c1 h.2.2.1)]
   exact ⟨_, by rw [decide_eq_false (by omega : ¬ (0 : Int) ≤ -1)], fun h => by omega⟩
 ·unfold numC
  rw [if_neg c, impl_ReadDecimal_eq _ (by show s.size ≤ _; omega), Option.bind_some, if_neg (by simp), if_neg (fun h => c ⟨h.1, h.2.1⟩)]
  exact ⟨_, by rw [decide_eq_false (by omega : ¬ (0 : Int) ≤ -1)], fun h => by omega⟩
theorem numC_jn {s : ByteArray} (h : 0 ≤ numC s) : s = jnC (numC s) := by
 have hr := numC_range s
 unfold numC at h hr ⊢
 split at h
 ·rename_i c
  rw [if_pos c] at hr ⊢
  obtain ⟨u, hu, e1, e2⟩ := rdecC_facts c.2.2.1
  unfold jnC
  rw [if_pos ⟨h, hr.2⟩]
  refine ((j_ext s c.1).2 c.2.1).symm.trans ?_
  rw [e1]
  show _ = (⟨#[106]⟩ : ByteArray) ++ decT (u : Int)
  rw [e2]
 ·omega
theorem jn_numC {n : Int} (h0 : 0 ≤ n) (h1 : n ≤ 999) : numC (jnC n) = n := by
 obtain ⟨u, rfl⟩ : ∃ u : Nat, n = (u : Int) := ⟨n.toNat, by omega⟩
 have hs := decT_size (n := (u : Int)) (by omega) (by omega)
 have hp := decT_pos u
 have hj : jnC (u : Int) = (⟨#[106]⟩ : ByteArray) ++ decT (u : Int) := by unfold jnC; rw [if_pos ⟨h0, h1⟩]; rfl
 have hz : (jnC (u : Int)).size = 1 + (decT (u : Int)).size := by rw [hj, ByteArray.size_append]; rfl
 have he : (jnC (u : Int)).extract 1 (jnC (u : Int)).size = decT (u : Int) := by
  refine bytesOf_inj ?_
  rw [bytes_tail, hj, bytesOf_app]; rfl
 have hb : bt (jnC (u : Int)) 0 = 106 := (j_ext _ (by omega)).1 (by rw [he, hj])
 unfold numC
 rw [he, rdecC_dec u (by omega), if_pos ⟨by omega, hb, rfl, h1⟩]
def bestL : Int → List S49 → Int
 | b, [] => b
 | b, x :: xs => bestL (if b < numC x.f0 then numC x.f0 else b) xs
theorem bestL_range : ∀ (l : List S49) (b : Int), -1 ≤ b → b ≤ 999 → -1 ≤ bestL b l ∧ bestL b l ≤ 999
 | [], b, h0, h1 => ⟨h0, h1⟩
 | x :: xs, b, h0, h1 => by
  have := numC_range x.f0
  exact bestL_range xs _ (by split <;> omega) (by split <;> omega)
def actD (s : ByteArray) : S57 := ⟨4, s, ⟨#[]⟩, ⟨#[]⟩⟩
def drL (b : Int) : List S49 → List S57
 | [] => []
 | x :: xs => if 0 ≤ numC x.f0 ∧ numC x.f0 ≠ b then actD x.f0 :: drL b xs else drL b xs
theorem drL_len (b : Int) : ∀ l : List S49, (drL b l).length ≤ l.length
 | [] => Nat.le_refl _
 | x :: xs => by
  have := drL_len b xs
  unfold drL
  split
  ·simp only [List.length_cons]; omega
  ·simp only [List.length_cons]; omega
def jNew : ByteArray := ⟨#[106, 43]⟩
def dr0 (l : List S49) : List S57 := if fIdx jNew l 0 ≥ 0 then [actD jNew] else []
theorem dr0_len (l : List S49) : (dr0 l).length ≤ 1 := by unfold dr0; split <;> simp
def NamesOk (l : List S49) : Prop := ∀ x ∈ l, x.f0.size ≤ 1048576 ∧ x.f1.size ≤ 1048576
theorem impl_newestJournal_l0 (l : List S49) (hl : l.length ≤ 1048576) (hn : NamesOk l) : ∀ (d i : Nat) (b : Int), i + d = l.length → -1 ≤ b → Ev (fun k => impl_newestJournal.l0 k b l (l.length : Int) (i : Int)) (bestL b (l.drop i))
 | 0, i, b, hd, h0 => by
  refine Ev.step (f := fun _ => some b) (fun k => ?_) ?_
  ·simp only [impl_newestJournal.l0]; rw [if_neg (by omega)]
  ·rw [List.drop_eq_nil_of_le (by omega)]; exact Ev.now _
 | d + 1, i, b, hd, h0 => by
  have hr := numC_range (l.getD i z49).f0
  have ih := impl_newestJournal_l0 l hl hn d (i + 1) (if b < numC (l.getD i z49).f0 then numC (l.getD i z49).f0 else b) (by omega) (by split <;> omega)
  obtain ⟨x, e, hx⟩ := impl_numbered_eq (l.getD i z49).f0 (hn _ (getD_mem z49 (by omega))).1
  rw [drop_getD z49 (by omega)]
  refine Ev.step (f := fun k => impl_newestJournal.l0 k (if b < numC (l.getD i z49).f0 then numC (l.getD i z49).f0 else b) l (l.length : Int) ((i + 1 : Nat) : Int)) (fun k => ?_) ih
  simp only [impl_newestJournal.l0]
  rw [if_pos (by omega), if_pos (by omega), if_pos (by omega), rdF, e, Option.bind_some, show wrap64 ((i : Int) + 1) = ((i + 1 : Nat) : Int) by rw [w64 (by omega) (by omega)]; rfl]
  by_cases c : 0 ≤ numC (l.getD i z49).f0
  ·rw [if_pos (decide_eq_true c), hx c]; rfl
  ·rw [if_neg (by simpa using c), if_neg (show ¬ b < numC (l.getD i z49).f0 by omega)]
theorem impl_newestJournal_ev (l : List S49) (hl : l.length ≤ 1048576) (hn : NamesOk l) : Ev (fun k => impl_newestJournal.f k l) (bestL (-1) l) := by
 have h := impl_newestJournal_l0 l hl hn l.length 0 (-1) (by omega) (by omega)
 rw [List.drop_zero] at h
 exact h
theorem impl_dropOthers_l0 (b : Int) (h0 : 0 ≤ b) (h1 : b ≤ 999) (l : List S49) (hl : l.length ≤ 1048576) (hn : NamesOk l) : ∀ (d i : Nat) (out : List S57), i + d = l.length → out.length ≤ i + 1 →
 Ev (fun k => impl_dropOthers.l0 k (⟨#[106]⟩ : ByteArray) 999 (jnC b) out l (l.length : Int) (i : Int)) (out ++ drL b (l.drop i))
 | 0, i, out, hd, ho => by
  refine Ev.step (f := fun _ => some out) (fun k => ?_) ?_
  ·simp only [impl_dropOthers.l0]; rw [if_neg (by omega)]
  ·rw [List.drop_eq_nil_of_le (by omega)]
   simp only [drL, List.append_nil]
   exact Ev.now _
 | d + 1, i, out, hd, ho => by
  obtain ⟨x, e, hx⟩ := impl_numbered_eq (l.getD i z49).f0 (hn _ (getD_mem z49 (by omega))).1
  have hw : wrap64 ((i : Int) + 1) = ((i + 1 : Nat) : Int) := by rw [w64 (by omega) (by omega)]; rfl
  have hjn : (l.getD i z49).f0 = jnC b ↔ numC (l.getD i z49).f0 = b := by
   constructor
   ·intro e; rw [e]; exact jn_numC h0 h1
   ·intro e; have := numC_jn (s := (l.getD i z49).f0) (by omega); rw [e] at this; exact this
  rw [drop_getD z49 (by omega)]
  unfold drL
  by_cases c : 0 ≤ numC (l.getD i z49).f0 ∧ numC (l.getD i z49).f0 ≠ b
  ·have ih := impl_dropOthers_l0 b h0 h1 l hl hn d (i + 1) (out ++ [actD (l.getD i z49).f0]) (by omega) (by simp; omega)
   rw [if_pos c]
   rw [List.append_assoc, List.singleton_append] at ih
   refine Ev.step (f := fun k => impl_dropOthers.l0 k (⟨#[106]⟩ : ByteArray) 999 (jnC b) (out ++ [actD (l.getD i z49).f0]) l (l.length : Int) ((i + 1 : Nat) : Int)) (fun k => ?_) ih
   simp only [impl_dropOthers.l0]
   rw [if_pos (by omega), if_pos (by omega), if_pos (by omega), rdF, e, Option.bind_some, if_pos (decide_eq_true c.1), if_neg (fun h => c.2 (hjn.1 (toList_iff.1 h))), if_pos (by omega), hw]; rfl
  ·have ih := impl_dropOthers_l0 b h0 h1 l hl hn d (i + 1) out (by omega) (by omega)
   rw [if_neg c]
   refine Ev.step (f := fun k => impl_dropOthers.l0 k (⟨#[106]⟩ : ByteArray) 999 (jnC b) out l (l.length : Int) ((i + 1 : Nat) : Int)) (fun k => ?_) ih
   simp only [impl_dropOthers.l0]
   rw [if_pos (by omega), if_pos (by omega), if_pos (by omega), rdF, e, Option.bind_some]
   by_cases c1 : 0 ≤ numC (l.getD i z49).f0
   ·rw [if_pos (decide_eq_true c1), if_pos (toList_iff.2 (hjn.2 (Classical.byContradiction fun h => c ⟨c1, h⟩))), hw]
   ·rw [if_neg (by simpa using c1), hw]
theorem impl_dropOthers_ev (b : Int) (h0 : 0 ≤ b) (h1 : b ≤ 999) (l : List S49) (hl : l.length ≤ 1048576) (hn : NamesOk l) : Ev (fun k => impl_dropOthers.f k l jNew (⟨#[106]⟩ : ByteArray) 999 (jnC b)) (dr0 l ++ drL b l) := by
 obtain ⟨K, hK⟩ := impl_dropOthers_l0 b h0 h1 l hl hn l.length 0 (dr0 l) (by omega) (by have := dr0_len l; omega)
 rw [List.drop_zero] at hK
 refine ⟨K + 1, fun k hk => ?_⟩
 obtain ⟨k, rfl⟩ : ∃ m, k = m + 1 := ⟨k - 1, by omega⟩
 have e : impl_dropOthers.l0 k (⟨#[106]⟩ : ByteArray) 999 (jnC b) (dr0 l) l (l.length : Int) 0 = some _ := hK k (by omega)
 simp only [impl_dropOthers.f, impl_place.f]
 rw [Option.bind_some, Option.bind_some]
 change (if fIdx jNew l 0 ≥ 0 then _ else _) = _
 unfold dr0 at e ⊢
 by_cases c : fIdx jNew l 0 ≥ 0
 ·rw [if_pos c] at e ⊢
  rw [if_pos c, if_pos (by simp)]
  simp only [impl_dropOthers.j0]
  exact e
 ·rw [if_neg c] at e ⊢
  rw [if_neg c]
  simp only [impl_dropOthers.j0]
  exact e
def rnL (n : Int) (t : ByteArray) : List S57 := [⟨1, jNew, t, ⟨#[]⟩⟩, ⟨2, jNew, ⟨#[]⟩, ⟨#[]⟩⟩, ⟨3, jNew, ⟨#[]⟩, jnC (n + 1)⟩, ⟨4, jnC n, ⟨#[]⟩, ⟨#[]⟩⟩]
abbrev OutO := Int × Int × Int × Int × Int × List S105 × List S57 × Bool
def noO : OutO := (0, 0, 0, 0, 0, [], [], false)
def endO (b : Int) (text : ByteArray) (acts : List S57) (r : Int × Int × Int × Int × Int × List S105 × Int × Bool) : OutO :=
 if r.2.2.2.2.2.2.1 = (text.size : Int) then (r.1, r.2.1, r.2.2.1, r.2.2.2.1, r.2.2.2.2.1, r.2.2.2.2.2.1, acts, true)
 else if (jtC (b + 1) r.2.1 r.2.2.1 r.2.2.2.1 r.2.2.2.2.1 r.2.2.2.2.2.1).2 = true then (b + 1, r.2.1, r.2.2.1, r.2.2.2.1, r.2.2.2.2.1, r.2.2.2.2.2.1, acts ++ rnL b (jtC (b + 1) r.2.1 r.2.2.1 r.2.2.2.1 r.2.2.2.2.1 r.2.2.2.2.2.1).1, true) else noO
def finO (b : Int) (l : List S49) : OutO := if 0 ≤ b then (if (rjC b (atFC (jnC b) l).1).2.2.2.2.2.2.2 = true then endO b (atFC (jnC b) l).1 (dr0 l ++ drL b l) (rjC b (atFC (jnC b) l).1) else noO) else noO
def ojC (l : List S49) : OutO :=
 if diskC l = true ∧ 0 ≤ bestL (-1) l then (if (rjC (bestL (-1) l) (atFC (jnC (bestL (-1) l)) l).1).2.2.2.2.2.2.2 = true then endO (bestL (-1) l) (atFC (jnC (bestL (-1) l)) l).1 (dr0 l ++ drL (bestL (-1) l) l) (rjC (bestL (-1) l) (atFC (jnC (bestL (-1) l)) l).1) else noO) else noO
theorem rjC_facts {n : Int} {s : ByteArray} (h : (rjC n s).2.2.2.2.2.2.2 = true) : (rjC n s).1 = n ∧ ∀ y ∈ (rjC n s).2.2.2.2.2.1, y.f2.size ≤ 1048576 := by
 unfold rjC at h ⊢
 split at h
 ·rename_i c
  rw [if_pos c]
  refine ⟨rfl, ?_⟩
  have : ∀ (m : Nat) (s : ByteArray) (p t v a b : Int) (l : List S105), GoodL a b l → ∀ y ∈ (rjL m s p t v a b l).2.2.2.2.1, y.f2.size ≤ 1048576 := by
   intro m
   induction m with
   | zero => intro s p t v a b l h; exact h.2
   | succ m ih =>
    intro s p t v a b l h
    simp only [rjL]
    by_cases c : faOk s p
    ·have hg := moreC_good (t := t) (v := v) (x := faText s p) (by have := (faText_small c).2; omega) h
     rw [if_pos c]
     split
     ·exact ih _ _ _ _ _ _ _ hg
     ·exact hg.2
    ·rw [if_neg c]
     exact h.2
  exact this _ _ _ _ _ _ _ _ ⟨c.2.2.2.2, by simp⟩
 ·simp at h
theorem atFC_size (a : ByteArray) (l : List S49) (hn : NamesOk l) : (atFC a l).1.size ≤ 1048576 := by
 unfold atFC
 have hb := fIdx_bounds a l 0
 split
 ·exact Nat.zero_le _
 ·obtain ⟨i, hi⟩ : ∃ i : Nat, fIdx a l 0 = (i : Int) := ⟨(fIdx a l 0).toNat, by omega⟩
  rw [hi, rdF]
  exact (hn _ (getD_mem z49 (by omega))).2
theorem spec_l07Anew_ev (n t v a b : Int) (l : List S105) (h0 : 0 ≤ n) (h1 : n ≤ 999) (hl : l.length ≤ 60) (hd : ∀ y ∈ l, y.f2.size ≤ 1048576) :
 Ev (fun k => spec_l07Anew.f k n t v a b l n t v a b l) (if (jtC (n + 1) t v a b l).2 = true then (rnL n (jtC (n + 1) t v a b l).1, n + 1, t, v, a, b, l, true) else ([], 0, 0, 0, 0, 0, [], false)) := by
 obtain ⟨K1, e1⟩ := spec_JournalText_ev (n + 1) t v a b l (by omega) hd
 obtain ⟨K2, e2⟩ := spec_JournalName_ev (n + 1) (by omega) (by omega)
 obtain ⟨K3, e3⟩ := spec_JournalName_ev n (by omega) (by omega)
 refine ⟨K1 + K2 + K3, fun k hk => ?_⟩
 have f1 : spec_JournalText.f k (n + 1) t v a b l = some _ := e1 k (by omega)
 have f2 : spec_JournalName.f k (n + 1) = some _ := e2 k (by omega)
 have f3 : spec_JournalName.f k n = some _ := e3 k (by omega)
 simp only [spec_l07Anew.f, spec_l07Copy.f]
 rw [w64 (n := n + 1) (by omega) (by omega), f1, Option.bind_some]
 by_cases c : (jtC (n + 1) t v a b l).2 = true
 ·rw [if_pos c, if_pos c, f2, Option.bind_some, f3, Option.bind_some, Option.bind_some, if_pos (by simp only [List.length_nil]; omega), Option.bind_some]; rfl
 ·rw [if_neg c, if_neg c]
theorem impl_renewActs_ev (n t v a b : Int) (l : List S105) (h0 : 0 ≤ n) (h1 : n ≤ 999) (hl : l.length ≤ 60) (hd : ∀ y ∈ l, y.f2.size ≤ 1048576) :
 Ev (fun k => impl_renewActs.f k (n + 1) t v a b l (jnC n)) (if (jtC (n + 1) t v a b l).2 = true then (rnL n (jtC (n + 1) t v a b l).1, true) else ([], false)) := by
 obtain ⟨K1, e1⟩ := impl_JournalText_ev (n + 1) t v a b l (by omega) hd
 refine ⟨K1, fun k hk => ?_⟩
 have f1 : impl_JournalText.f k (n + 1) t v a b l = some _ := e1 k (by omega)
 simp only [impl_renewActs.f]
 rw [f1, Option.bind_some]
 by_cases c : (jtC (n + 1) t v a b l).2 = true
 ·rw [if_pos c, if_pos c, impl_JournalName_eq (n + 1) (by omega) (by omega), Option.bind_some]; rfl
 ·rw [if_neg c, if_neg c]
theorem impl_OpenJournal_ev (l : List S49) (hl : l.length ≤ 1048576) (hn : NamesOk l) : Ev (fun k => impl_OpenJournal.f k l) (ojC l) := by
 have hb := bestL_range l (-1) (by omega) (by omega)
 obtain ⟨K1, h1⟩ := impl_newestJournal_ev l hl hn
 unfold ojC
 generalize bestL (-1) l = b at hb h1 ⊢
 have hts := atFC_size (jnC b) l hn
 have e2 := impl_JournalName_eq b (by omega) (by omega)
 have e3 := impl_FileAt_eq (jnC b) l
 generalize (atFC (jnC b) l) = at_ at hts e3 ⊢
 obtain ⟨text, fnd⟩ := at_
 simp only [] at hts ⊢
 obtain ⟨K4, h4⟩ := impl_ReadJournal_ev b text hts
 obtain ⟨K5, h5⟩ := impl_DiskOk_ev l hl
 have hrl := rjC_len b text
 have hrf := fun h => rjC_facts (n := b) (s := text) h
 generalize rjC b text = r at h4 hrl hrf ⊢
 obtain ⟨r1, r2, r3, r4, r5, r6, r7, r8⟩ := r
 simp only [] at hrl hrf ⊢
 by_cases c0 : diskC l = true ∧ 0 ≤ b
 ·rw [if_pos c0]
  by_cases c1 : r8 = true
  ·subst c1
   obtain ⟨rfl, hd⟩ := hrf rfl
   rw [if_pos rfl]
   obtain ⟨K6, h6⟩ := impl_dropOthers_ev r1 c0.2 hb.2 l hl hn
   have hda := drL_len r1 l
   have hd0 := dr0_len l
   obtain ⟨K7, h7⟩ := impl_renewActs_ev r1 r2 r3 r4 r5 r6 c0.2 hb.2 hrl hd
   refine ⟨K1 + K4 + K5 + K6 + K7 + 1, fun k hk => ?_⟩
   obtain ⟨k, rfl⟩ : ∃ m, k = m + 1 := ⟨k - 1, by omega⟩
   have f1 : impl_newestJournal.f (k + 1) l = some _ := h1 _ (by omega)
   have f4 : impl_ReadJournal.f (k + 1) r1 text = some _ := h4 _ (by omega)
   have f5 : impl_DiskOk.f (k + 1) l = some _ := h5 _ (by omega)
   have f6 : impl_dropOthers.f k l jNew (⟨#[106]⟩ : ByteArray) 999 (jnC r1) = some _ := h6 _ (by omega)
   have f7 : impl_renewActs.f k (r1 + 1) r2 r3 r4 r5 r6 (jnC r1) = some _ := h7 _ (by omega)
   simp only [impl_OpenJournal.f]
   rw [f1, Option.bind_some, e2, Option.bind_some, e3, Option.bind_some, f4, Option.bind_some, f5, Option.bind_some, if_pos c0.1, if_neg (by omega)]
   show impl_OpenJournal.j0 (k + 1) r1 text r7 false l r1 r2 r3 r4 r5 r6 = _
   simp only [impl_OpenJournal.j0]
   rw [if_neg (by simp), e2, Option.bind_some]
   change (Option.bind (impl_dropOthers.f k l jNew (⟨#[106]⟩ : ByteArray) 999 (jnC r1)) _) = _
   rw [f6, Option.bind_some]
   unfold endO
   simp only []
   by_cases c2 : r7 = (text.size : Int)
   ·rw [if_pos c2, if_pos c2]
   ·rw [if_neg c2, if_neg c2, Option.bind_some, w64 (n := r1 + 1) (by omega) (by omega), f7, Option.bind_some]
    by_cases c3 : (jtC (r1 + 1) r2 r3 r4 r5 r6).2 = true
    ·rw [if_pos c3, if_pos rfl, if_pos c3, if_pos (by rw [List.length_append]; simp only [rnL, List.length_cons, List.length_nil]; omega)]
    ·rw [if_neg c3, if_neg (by simp), if_neg c3]; rfl
  ·rw [if_neg c1]
   replace c1 := Bool.eq_false_iff.mpr c1
   subst c1
   refine ⟨K1 + K4 + K5 + 1, fun k hk => ?_⟩
   obtain ⟨k, rfl⟩ : ∃ m, k = m + 1 := ⟨k - 1, by omega⟩
   have f1 : impl_newestJournal.f (k + 1) l = some _ := h1 _ (by omega)
   have f4 : impl_ReadJournal.f (k + 1) b text = some _ := h4 _ (by omega)
   have f5 : impl_DiskOk.f (k + 1) l = some _ := h5 _ (by omega)
   simp only [impl_OpenJournal.f]
   rw [f1, Option.bind_some, e2, Option.bind_some, e3, Option.bind_some, f4, Option.bind_some, f5, Option.bind_some, if_pos c0.1, if_neg (by omega)]
   show impl_OpenJournal.j0 (k + 1) b text r7 true l r1 r2 r3 r4 r5 r6 = _
   simp only [impl_OpenJournal.j0]
   rw [if_pos trivial]; rfl
 ·rw [if_neg c0]
  refine ⟨K1 + K4 + K5 + 1, fun k hk => ?_⟩
  obtain ⟨k, rfl⟩ : ∃ m, k = m + 1 := ⟨k - 1, by omega⟩
  have f1 : impl_newestJournal.f (k + 1) l = some _ := h1 _ (by omega)
  have f4 : impl_ReadJournal.f (k + 1) b text = some _ := h4 _ (by omega)
  have f5 : impl_DiskOk.f (k + 1) l = some _ := h5 _ (by omega)
  have fin : impl_OpenJournal.j0 (k + 1) b text r7 true l r1 r2 r3 r4 r5 r6 = some noO := by
   simp only [impl_OpenJournal.j0]
   rw [if_pos trivial]; rfl
  simp only [impl_OpenJournal.f]
  rw [f1, Option.bind_some, e2, Option.bind_some, e3, Option.bind_some, f4, Option.bind_some, f5, Option.bind_some]
  by_cases c1 : diskC l = true
  ·rw [if_pos c1, if_pos (Int.not_le.1 fun h => c0 ⟨c1, h⟩)]; exact fin
  ·rw [if_neg c1]; exact fin
theorem spec_OpenJournal_l1 (b : Int) (h0 : 0 ≤ b) (h1 : b ≤ 999) (text : ByteArray) (r2 r3 r4 r5 : Int) (r6 : List S105) (r7 : Int) (hrl : r6.length ≤ 60) (hd : ∀ y ∈ r6, y.f2.size ≤ 1048576) (l : List S49) (hl : l.length ≤ 1048576) :
 ∀ (d i : Nat) (out : List S57), i + d = l.length → out.length ≤ i + 1 → Ev (fun k => spec_OpenJournal.l1 k out b text r7 (i : Int) l b r2 r3 r4 r5 r6) (endO b text (out ++ drL b (l.drop i)) (b, r2, r3, r4, r5, r6, r7, true))
 | 0, i, out, hi, ho => by
  obtain ⟨K, hK⟩ := spec_l07Anew_ev b r2 r3 r4 r5 r6 h0 h1 hrl hd
  refine ⟨K + 1, fun k hk => ?_⟩
  obtain ⟨k, rfl⟩ : ∃ m, k = m + 1 := ⟨k - 1, by omega⟩
  have f : spec_l07Anew.f k b r2 r3 r4 r5 r6 b r2 r3 r4 r5 r6 = some _ := hK k (by omega)
  rw [List.drop_eq_nil_of_le (by omega)]
  simp only [drL, List.append_nil, spec_OpenJournal.l1, spec_l07Copy.f]
  rw [if_neg (by omega)]
  unfold endO
  simp only []
  by_cases c : r7 = (text.size : Int)
  ·rw [if_pos c, if_pos c, Option.bind_some, if_pos (by simp only [List.length_nil]; omega), Option.bind_some]; rfl
  ·rw [if_neg c, if_neg c, f, Option.bind_some]
   by_cases c3 : (jtC (b + 1) r2 r3 r4 r5 r6).2 = true
   ·rw [if_pos c3, if_pos rfl, if_pos c3, if_pos (by simp only [rnL, List.length_cons, List.length_nil]; omega)]
   ·rw [if_neg c3, if_neg (by simp), if_neg c3]; rfl
 | d + 1, i, out, hi, ho => by
  obtain ⟨K1, e1⟩ := spec_l07Number_ev (l.getD i z49).f0
  have hw : wrap64 ((i : Int) + 1) = ((i + 1 : Nat) : Int) := by rw [w64 (by omega) (by omega)]; rfl
  rw [drop_getD z49 (by omega)]
  unfold drL
  by_cases c : 0 ≤ numC (l.getD i z49).f0 ∧ numC (l.getD i z49).f0 ≠ b
  ·obtain ⟨K2, e2⟩ := spec_OpenJournal_l1 b h0 h1 text r2 r3 r4 r5 r6 r7 hrl hd l hl d (i + 1) (out ++ [actD (l.getD i z49).f0]) (by omega) (by simp; omega)
   rw [if_pos c]
   rw [List.append_assoc, List.singleton_append] at e2
   refine ⟨K1 + K2 + 1, fun k hk => ?_⟩
   obtain ⟨k, rfl⟩ : ∃ m, k = m + 1 := ⟨k - 1, by omega⟩
   have f1 : spec_l07Number.f k (l.getD i z49).f0 = some _ := e1 k (by omega)
   simp only [spec_OpenJournal.l1]
   rw [if_pos (by omega), if_pos (by omega), rdF, f1, Option.bind_some, if_pos c.1, if_neg c.2, if_pos (by omega), hw]
   exact e2 k (by omega)
  ·obtain ⟨K2, e2⟩ := spec_OpenJournal_l1 b h0 h1 text r2 r3 r4 r5 r6 r7 hrl hd l hl d (i + 1) out (by omega) (by omega)
   rw [if_neg c]
   refine ⟨K1 + K2 + 1, fun k hk => ?_⟩
   obtain ⟨k, rfl⟩ : ∃ m, k = m + 1 := ⟨k - 1, by omega⟩
   have f1 : spec_l07Number.f k (l.getD i z49).f0 = some _ := e1 k (by omega)
   simp only [spec_OpenJournal.l1]
   rw [if_pos (by omega), if_pos (by omega), rdF, f1, Option.bind_some]
   by_cases c1 : numC (l.getD i z49).f0 ≥ 0
   ·rw [if_pos c1, if_pos (Classical.byContradiction fun h => c ⟨c1, h⟩), hw]
    exact e2 k (by omega)
   ·rw [if_neg c1, hw]
    exact e2 k (by omega)
theorem spec_OpenJournal_end (l : List S49) (hl : l.length ≤ 1048576) (hn : NamesOk l) (b : Int) (hb0 : -1 ≤ b) (hb1 : b ≤ 999) (i : Int) :
 Ev (fun k => spec_OpenJournal.j1 k [] b i false l) (finO b l) := by
 unfold finO
 by_cases c0 : 0 ≤ b
 ·rw [if_pos c0]
  obtain ⟨K2, h2⟩ := spec_JournalName_ev b (by omega) (by omega)
  obtain ⟨K3, h3⟩ := spec_FileAt_ev (jnC b) l hl
  have hts := atFC_size (jnC b) l hn
  generalize (atFC (jnC b) l) = at_ at hts h3 ⊢
  obtain ⟨text, fnd⟩ := at_
  simp only [] at hts ⊢
  obtain ⟨K4, h4⟩ := spec_ReadJournal_ev b text hts
  have hrl := rjC_len b text
  have hrf := fun h => rjC_facts (n := b) (s := text) h
  generalize rjC b text = r at h4 hrl hrf ⊢
  obtain ⟨r1, r2, r3, r4, r5, r6, r7, r8⟩ := r
  simp only [] at hrl hrf ⊢
  by_cases c1 : r8 = true
  ·subst c1
   obtain ⟨rfl, hd⟩ := hrf rfl
   rw [if_pos rfl]
   obtain ⟨K5, h5⟩ := spec_l03At_l0 jNew l hl l.length 0 (by omega)
   rw [List.drop_zero] at h5
   obtain ⟨K6, h6⟩ := spec_OpenJournal_l1 r1 c0 hb1 text r2 r3 r4 r5 r6 r7 hrl hd l hl l.length 0 (dr0 l) (by omega) (by have := dr0_len l; omega)
   rw [List.drop_zero] at h6
   refine ⟨K2 + K3 + K4 + K5 + K6 + 2, fun k hk => ?_⟩
   obtain ⟨k, rfl⟩ : ∃ m, k = m + 2 := ⟨k - 2, by omega⟩
   have f2 : spec_JournalName.f (k + 1) r1 = some _ := h2 _ (by omega)
   have f3 : spec_FileAt.f (k + 1) l (jnC r1) = some _ := h3 _ (by omega)
   have f4 : spec_ReadJournal.f (k + 1) r1 text = some _ := h4 _ (by omega)
   have f5 : spec_l03At.l0 (k + 1) jNew 0 l = some (fIdx jNew l 0) := h5 _ (by omega)
   have f6 : spec_OpenJournal.l1 k (dr0 l) r1 text r7 0 l r1 r2 r3 r4 r5 r6 = some _ := h6 _ (by omega)
   simp only [spec_OpenJournal.j1, spec_l03At.f]
   rw [if_neg (by simp), if_neg (by omega), f2, Option.bind_some, f3, Option.bind_some, f4, Option.bind_some, if_pos rfl]
   change (Option.bind (spec_l03At.l0 (k + 1) jNew 0 l) _) = _
   rw [f5, Option.bind_some]
   unfold dr0 at f6 ⊢
   by_cases c2 : fIdx jNew l 0 ≥ 0
   ·rw [if_pos c2] at f6 ⊢
    rw [if_pos c2, if_pos (by simp)]
    simp only [spec_OpenJournal.j2]
    exact f6
   ·rw [if_neg c2] at f6 ⊢
    rw [if_neg c2]
    simp only [spec_OpenJournal.j2]
    exact f6
  ·rw [if_neg c1]
   refine ⟨K2 + K3 + K4 + 1, fun k hk => ?_⟩
   obtain ⟨k, rfl⟩ : ∃ m, k = m + 1 := ⟨k - 1, by omega⟩
   have f2 : spec_JournalName.f k b = some _ := h2 _ (by omega)
   have f3 : spec_FileAt.f k l (jnC b) = some _ := h3 _ (by omega)
   have f4 : spec_ReadJournal.f k b text = some _ := h4 _ (by omega)
   simp only [spec_OpenJournal.j1]
   rw [if_neg (by simp), if_neg (by omega), f2, Option.bind_some, f3, Option.bind_some, f4, Option.bind_some, if_neg c1]; rfl
 ·rw [if_neg c0]
  refine ⟨1, fun k hk => ?_⟩
  obtain ⟨k, rfl⟩ : ∃ m, k = m + 1 := ⟨k - 1, by omega⟩
  simp only [spec_OpenJournal.j1]
  rw [if_neg (by simp), if_pos (by omega)]; rfl
theorem spec_OpenJournal_l0 (l : List S49) (hl : l.length ≤ 1048576) (hn : NamesOk l) (hd : diskC l = true) : ∀ (d i : Nat) (b : Int), i + d = l.length → -1 ≤ b → b ≤ 999 →
 Ev (fun k => spec_OpenJournal.l0 k [] b (i : Int) l) (finO (bestL b (l.drop i)) l)
 | 0, i, b, hi, h0, h1 => by
  rw [List.drop_eq_nil_of_le (by omega)]
  simp only [bestL]
  obtain ⟨K, hK⟩ := spec_OpenJournal_end l hl hn b h0 h1 (i : Int)
  refine ⟨K + 1, fun k hk => ?_⟩
  obtain ⟨k, rfl⟩ : ∃ m, k = m + 1 := ⟨k - 1, by omega⟩
  simp only [spec_OpenJournal.l0]
  rw [if_neg (by omega)]
  exact hK k (by omega)
 | d + 1, i, b, hi, h0, h1 => by
  have hr := numC_range (l.getD i z49).f0
  rw [drop_getD z49 (by omega)]
  simp only [bestL]
  obtain ⟨K1, e1⟩ := spec_DiskOk_ev l hl
  obtain ⟨K2, e2⟩ := spec_l07Number_ev (l.getD i z49).f0
  obtain ⟨K3, e3⟩ := spec_OpenJournal_l0 l hl hn hd d (i + 1) (if b < numC (l.getD i z49).f0 then numC (l.getD i z49).f0 else b) (by omega) (by split <;> omega) (by split <;> omega)
  refine ⟨K1 + K2 + K3 + 2, fun k hk => ?_⟩
  obtain ⟨k, rfl⟩ : ∃ m, k = m + 2 := ⟨k - 2, by omega⟩
  have f1 : spec_DiskOk.f (k + 1) l = some _ := e1 _ (by omega)
  have f2 : spec_l07Number.f k (l.getD i z49).f0 = some _ := e2 _ (by omega)
  have f3 := e3 k (by omega)
  rw [hd] at f1
  simp only [spec_OpenJournal.l0]
  rw [if_pos (by omega), f1, Option.bind_some]
  simp only [spec_OpenJournal.j1]
  rw [if_pos trivial, if_pos (by omega), if_pos (by omega), rdF, f2, Option.bind_some, show wrap64 ((i : Int) + 1) = ((i + 1 : Nat) : Int) by rw [w64 (by omega) (by omega)]; rfl]
  simp only [] at f3
  by_cases c : b < numC (l.getD i z49).f0
  ·rw [if_pos c] at f3 ⊢
   rw [if_pos c]
   exact f3
  ·rw [if_neg c] at f3 ⊢
   rw [if_neg c]
   exact f3
theorem spec_OpenJournal_ev (l : List S49) (hl : l.length ≤ 1048576) (hn : NamesOk l) : Ev (fun k => spec_OpenJournal.f k l) (ojC l) := by
 unfold ojC
 by_cases hd : diskC l = true
 ·have h := spec_OpenJournal_l0 l hl hn hd l.length 0 (-1) (by omega) (by omega) (by omega)
  rw [List.drop_zero] at h
  unfold finO at h
  by_cases c : 0 ≤ bestL (-1) l
  ·rw [if_pos ⟨hd, c⟩]
   rw [if_pos c] at h
   exact h
  ·rw [if_neg (fun h => c h.2)]
   rw [if_neg c] at h
   exact h
 ·rw [if_neg (fun h => hd h.1)]
  obtain ⟨K1, e1⟩ := spec_DiskOk_ev l hl
  refine ⟨K1 + 2, fun k hk => ?_⟩
  obtain ⟨k, rfl⟩ : ∃ m, k = m + 2 := ⟨k - 2, by omega⟩
  have f1 : spec_DiskOk.f (k + 1) l = some _ := e1 _ (by omega)
  rw [Bool.eq_false_iff.mpr hd] at f1
  have fin : spec_OpenJournal.j1 (k + 1) [] (-1) 0 false l = some noO := by
   simp only [spec_OpenJournal.j1]
   rw [if_neg (by simp), if_pos (by omega)]; rfl
  simp only [spec_OpenJournal.f, spec_OpenJournal.l0]
  by_cases c : (0 : Int) < (l.length : Int)
  ·rw [if_pos c, f1, Option.bind_some]; exact fin
  ·rw [if_neg c]; exact fin
theorem endO_len (b : Int) (text : ByteArray) (acts : List S57) (r : Int × Int × Int × Int × Int × List S105 × Int × Bool) (h : r.2.2.2.2.2.1.length ≤ 60) : (endO b text acts r).2.2.2.2.2.1.length ≤ 60 ∧ (endO b text acts r).2.2.2.2.2.2.1.length ≤ acts.length + 4 := by
 unfold endO
 split
 ·exact ⟨h, by show acts.length ≤ _; omega⟩
 ·split
  ·exact ⟨h, by show (acts ++ _).length ≤ _; rw [List.length_append]; simp [rnL]⟩
  ·exact ⟨Nat.zero_le _, Nat.zero_le _⟩
theorem ojC_len (l : List S49) : (ojC l).2.2.2.2.2.1.length ≤ 60 ∧ (ojC l).2.2.2.2.2.2.1.length ≤ l.length + 5 := by
 unfold ojC
 split
 ·split
  ·have := endO_len (bestL (-1) l) (atFC (jnC (bestL (-1) l)) l).1 (dr0 l ++ drL (bestL (-1) l) l) (rjC (bestL (-1) l) (atFC (jnC (bestL (-1) l)) l).1) (rjC_len _ _)
   have h1 := drL_len (bestL (-1) l) l
   have h2 := dr0_len l
   rw [List.length_append] at this
   exact ⟨this.1, by omega⟩
  ·exact ⟨Nat.zero_le _, Nat.zero_le _⟩
 ·exact ⟨Nat.zero_le _, Nat.zero_le _⟩
def dgT (n : Nat) (t : ByteArray) : ByteArray := if _h : 0 < n then dgT (n / 10) (strOfNums [((48 + n % 10 : Nat) : Int)] ++ t) else t
 termination_by n
 decreasing_by omega
theorem dgT_pos {n : Nat} (h : 0 < n) (t : ByteArray) : dgT n t = dgT (n / 10) (strOfNums [((48 + n % 10 : Nat) : Int)] ++ t) := by rw [dgT, dif_pos h]
theorem dgT_zero (t : ByteArray) : dgT 0 t = t := by rw [dgT, dif_neg (by omega)]
def mtT (n : Int) : ByteArray := if n ≤ 0 then ⟨#[109, 48]⟩ else ⟨#[109]⟩ ++ dgT n.toNat ⟨#[]⟩
theorem laws_markText_l0 (n : Nat) : ∀ t : ByteArray, n + t.size ≤ 4611686018427387904 → Ev (fun k => laws_markText.l0 k (n : Int) t) ((⟨#[109]⟩ : ByteArray) ++ dgT n t) := by
 induction n using Nat.strongRecOn with
 | _ n ih =>
  intro t ht
  by_cases h : 0 < n
  ·have hz : (strOfNums [((48 + n % 10 : Nat) : Int)]).size = 1 := by rw [strOfNums_size]; rfl
   rw [dgT_pos h]
   refine Ev.step (f := fun k => laws_markText.l0 k ((n / 10 : Nat) : Int) (strOfNums [((48 + n % 10 : Nat) : Int)] ++ t)) (fun k => ?_) (ih (n / 10) (by omega) _ (by rw [ByteArray.size_append]; omega))
   simp only [laws_markText.l0]
   rw [if_pos (by omega), Option.bind_some, tmod_nat (by omega), tdiv_nat (by omega), w64 (by omega) (by omega), w64 (by omega) (by omega), show ((48 + (n : Int) % 10) % 256) = ((48 + n % 10 : Nat) : Int) by omega, if_pos (by omega)]
   rfl
  ·obtain rfl : n = 0 := by omega
   rw [dgT_zero]
   refine Ev.step (f := fun _ => some ((⟨#[109]⟩ : ByteArray) ++ t)) (fun k => ?_) (Ev.now _)
   simp only [laws_markText.l0]
   rw [if_neg (by omega), if_pos (by omega)]
theorem laws_markText_ev (n : Int) (h : n ≤ 4611686018427387904) : Ev (fun k => laws_markText.f k n) (mtT n) := by
 by_cases h0 : n ≤ 0
 ·refine ⟨0, fun k _ => ?_⟩
  simp only [laws_markText.f, mtT]
  rw [if_pos h0, if_pos h0]
 ·obtain ⟨K, hK⟩ := laws_markText_l0 n.toNat ⟨#[]⟩ (by show n.toNat + 0 ≤ _; omega)
  refine ⟨K, fun k hk => ?_⟩
  have e : laws_markText.l0 k (n.toNat : Int) ⟨#[]⟩ = some _ := hK k hk
  rw [Int.toNat_of_nonneg (by omega)] at e
  simp only [laws_markText.f, mtT]
  rw [if_neg h0, if_neg h0, e]
theorem rdA (l : List S57) (i : Nat) : rd_T57 l (i : Int) = l.getD i z57 := by unfold rd_T57; rw [Int.toNat_natCast]
def meA (k : Int) (j : Nat) : S57 := ⟨k + 4 * (j : Int), mtT (k + 4 * (j : Int) + 1), mtT (k + 4 * (j : Int) + 2), mtT (k + 4 * (j : Int) + 3)⟩
def markA (k : Int) (n : Nat) : List S57 := (List.range n).map (meA k)
theorem markA_len (k : Int) (n : Nat) : (markA k n).length = n := by simp [markA]
theorem markA_succ (k : Int) (n : Nat) : markA k (n + 1) = markA k n ++ [meA k n] := by simp [markA, List.range_succ]
theorem getD_markA {k : Int} {n i : Nat} (z : S57) (h : i < n) : (markA k n).getD i z = meA k i := by
 unfold markA
 rw [List.getD_eq_getElem?_getD, List.getElem?_map, List.getElem?_range h]; rfl
theorem getD_setA {l : List S57} {i : Nat} (v z : S57) (h : i < l.length) : (l.set i v).getD i z = v := by
 rw [List.getD_eq_getElem?_getD, List.getElem?_set_self h]; rfl
theorem laws_markActS_l0 (k0 : Int) (n : Nat) (h0 : 0 ≤ k0) (hk : k0 + 4 * (n : Int) ≤ 4611686018427387903) : ∀ (d i : Nat) (x : List S57), i + d = n → x.length = n → x.take i = markA k0 i →
 Ev (fun k => laws_markActS.l0 k x (k0 + 4 * (i : Int)) (i : Int)) (k0 + 4 * (n : Int), markA k0 n)
 | 0, i, x, hd, hx, ht => by
  refine Ev.step (f := fun _ => some (k0 + 4 * (i : Int), x)) (fun k => ?_) ?_
  ·simp only [laws_markActS.l0]; rw [if_neg (by omega)]
  ·have e : x = markA k0 n := by rw [← List.take_of_length_le (i := i) (l := x) (by omega), ht, show i = n by omega]
   rw [e, show i = n by omega]; exact Ev.now _
 | d + 1, i, x, hd, hx, ht => by
  obtain ⟨K1, h1⟩ := laws_markText_ev (k0 + 4 * (i : Int) + 1) (by omega)
  obtain ⟨K2, h2⟩ := laws_markText_ev (k0 + 4 * (i : Int) + 2) (by omega)
  obtain ⟨K3, h3⟩ := laws_markText_ev (k0 + 4 * (i : Int) + 3) (by omega)
  obtain ⟨K4, h4⟩ := laws_markActS_l0 k0 n h0 hk d (i + 1) (x.set i (meA k0 i)) (by omega) (by rw [List.length_set]; exact hx) (by rw [take_set_succ _ _ _ (by omega), ht, markA_succ])
  refine ⟨K1 + K2 + K3 + K4 + 1, fun k hk => ?_⟩
  obtain ⟨k, rfl⟩ : ∃ m, k = m + 1 := ⟨k - 1, by omega⟩
  have e1 : laws_markText.f k (k0 + 4 * (i : Int) + 1) = some _ := h1 k (by omega)
  have e2 : laws_markText.f k (k0 + 4 * (i : Int) + 2) = some _ := h2 k (by omega)
  have e3 : laws_markText.f k (k0 + 4 * (i : Int) + 3) = some _ := h3 k (by omega)
  have e4 : laws_markActS.l0 k (x.set i (meA k0 i)) (k0 + 4 * ((i + 1 : Nat) : Int)) ((i + 1 : Nat) : Int) = some _ := h4 k (by omega)
  simp only [laws_markActS.l0]
  rw [if_pos (by omega), if_pos (by omega), Option.bind_some]
  rw [w64 (n := k0 + 4 * (i : Int) + 1) (by omega) (by omega), e1, Option.bind_some, Option.bind_some, w64 (n := k0 + 4 * (i : Int) + 1 + 1) (by omega) (by omega), show k0 + 4 * (i : Int) + 1 + 1 = k0 + 4 * (i : Int) + 2 by omega, e2, Option.bind_some, Option.bind_some, w64 (n := k0 + 4 * (i : Int) + 2 + 1) (by omega) (by omega), show k0 + 4 * (i : Int) + 2 + 1 = k0 + 4 * (i : Int) + 3 by omega, e3, Option.bind_some, w64 (n := k0 + 4 * (i : Int) + 3 + 1) (by omega) (by omega), w64 (n := (i : Int) + 1) (by omega) (by omega)]
  simp only [rdA, Int.toNat_natCast, List.set_set]
  rw [getD_setA _ _ (by omega), getD_setA _ _ (by omega), getD_setA _ _ (by omega), show k0 + 4 * (i : Int) + 3 + 1 = k0 + 4 * ((i + 1 : Nat) : Int) by omega, show (i : Int) + 1 = ((i + 1 : Nat) : Int) by omega]
  exact e4
theorem laws_markActS_ev (l : List S57) (k0 : Int) (h0 : 0 ≤ k0) (hk : k0 + 4 * (l.length : Int) ≤ 4611686018427387903) : Ev (fun k => laws_markActS.f k l k0) (k0 + 4 * (l.length : Int), markA k0 l.length) := by
 have h := laws_markActS_l0 k0 l.length h0 hk l.length 0 l (by omega) rfl (by simp [markA])
 rw [show k0 + 4 * ((0 : Nat) : Int) = k0 by omega] at h
 exact h
theorem laws_heldActS_l0 (k0 : Int) (n : Nat) (h0 : 0 ≤ k0) (hk : k0 + 4 * (n : Int) ≤ 4611686018427387903) : ∀ (d i : Nat), i + d = n →
 Ev (fun k => laws_heldActS.l0 k (markA k0 n) (k0 + 4 * (i : Int)) (i : Int)) (k0 + 4 * (n : Int))
 | 0, i, hd => by
  have hl := markA_len k0 n
  refine Ev.step (f := fun _ => some (k0 + 4 * (i : Int))) (fun k => ?_) ?_
  ·simp only [laws_heldActS.l0]; rw [if_neg (by omega)]
  ·rw [show i = n by omega]; exact Ev.now _
 | d + 1, i, hd => by
  have hl := markA_len k0 n
  obtain ⟨K1, h1⟩ := laws_markText_ev (k0 + 4 * (i : Int) + 1) (by omega)
  obtain ⟨K2, h2⟩ := laws_markText_ev (k0 + 4 * (i : Int) + 2) (by omega)
  obtain ⟨K3, h3⟩ := laws_markText_ev (k0 + 4 * (i : Int) + 3) (by omega)
  obtain ⟨K4, h4⟩ := laws_heldActS_l0 k0 n h0 hk d (i + 1) (by omega)
  refine ⟨K1 + K2 + K3 + K4 + 1, fun k hk => ?_⟩
  obtain ⟨k, rfl⟩ : ∃ m, k = m + 1 := ⟨k - 1, by omega⟩
  have e1 : laws_markText.f k (k0 + 4 * (i : Int) + 1) = some _ := h1 k (by omega)
  have e2 : laws_markText.f k (k0 + 4 * (i : Int) + 2) = some _ := h2 k (by omega)
  have e3 : laws_markText.f k (k0 + 4 * (i : Int) + 3) = some _ := h3 k (by omega)
  have e4 : laws_heldActS.l0 k (markA k0 n) (k0 + 4 * ((i + 1 : Nat) : Int)) ((i + 1 : Nat) : Int) = some _ := h4 k (by omega)
  simp only [laws_heldActS.l0]
  rw [if_pos (by omega), if_pos (by omega), rdA, getD_markA _ (by omega), if_pos (show (meA k0 i).f0 = k0 + 4 * (i : Int) from rfl), w64 (n := k0 + 4 * (i : Int) + 1) (by omega) (by omega), e1, Option.bind_some, if_pos (show (meA k0 i).f1.toList = (mtT (k0 + 4 * (i : Int) + 1)).toList from rfl), w64 (n := k0 + 4 * (i : Int) + 1 + 1) (by omega) (by omega), show k0 + 4 * (i : Int) + 1 + 1 = k0 + 4 * (i : Int) + 2 by omega, e2, Option.bind_some, if_pos (show (meA k0 i).f2.toList = (mtT (k0 + 4 * (i : Int) + 2)).toList from rfl), w64 (n := k0 + 4 * (i : Int) + 2 + 1) (by omega) (by omega), show k0 + 4 * (i : Int) + 2 + 1 = k0 + 4 * (i : Int) + 3 by omega, e3, Option.bind_some, if_pos (show (meA k0 i).f3.toList = (mtT (k0 + 4 * (i : Int) + 3)).toList from rfl), w64 (n := k0 + 4 * (i : Int) + 3 + 1) (by omega) (by omega), w64 (n := (i : Int) + 1) (by omega) (by omega), show k0 + 4 * (i : Int) + 3 + 1 = k0 + 4 * ((i + 1 : Nat) : Int) by omega, show (i : Int) + 1 = ((i + 1 : Nat) : Int) by omega]
  exact e4
theorem laws_heldActS_ev (k0 : Int) (n : Nat) (h0 : 0 ≤ k0) (hk : k0 + 4 * (n : Int) ≤ 4611686018427387903) : Ev (fun k => laws_heldActS.f k (markA k0 n) k0) (k0 + 4 * (n : Int)) := by
 have h := laws_heldActS_l0 k0 n h0 hk n 0 (by omega)
 rw [show k0 + 4 * ((0 : Nat) : Int) = k0 by omega] at h
 exact h
theorem laws_eqAct_self (a : Int) (b c d : ByteArray) : laws_eqAct.f a b c d a b c d = some true := by
 simp only [laws_eqAct.f, if_true]
theorem laws_eqActS_l0 (l : List S57) (hl : l.length ≤ 140737488351232) : ∀ (d i : Nat), i + d = l.length → Ev (fun k => laws_eqActS.l0 k l l (i : Int)) true
 | 0, i, hd => by
  refine Ev.step (f := fun _ => some true) (fun k => ?_) (Ev.now _)
  simp only [laws_eqActS.l0]; rw [if_neg (by omega)]
 | d + 1, i, hd => by
  refine Ev.step (f := fun k => laws_eqActS.l0 k l l ((i + 1 : Nat) : Int)) (fun k => ?_) (laws_eqActS_l0 l hl d (i + 1) (by omega))
  simp only [laws_eqActS.l0]
  rw [if_pos (by omega), if_pos (by omega), if_pos (by omega), laws_eqAct_self, Option.bind_some, if_pos rfl, w64 (by omega) (by omega)]; rfl
theorem laws_eqActS_ev (l : List S57) (hl : l.length ≤ 140737488351232) : Ev (fun k => laws_eqActS.f k l l) true := by
 obtain ⟨K, hK⟩ := laws_eqActS_l0 l hl l.length 0 (by omega)
 refine ⟨K, fun k hk => ?_⟩
 have e : laws_eqActS.l0 k l l 0 = some _ := hK k hk
 simp only [laws_eqActS.f]
 rw [if_pos trivial, e]
theorem laws_szFile_eq (n t : ByteArray) (q : Int) (left : Int) (hl : 0 ≤ left) (hl2 : left ≤ 1048576) (hn : n.size ≤ 9223372036854775807) (ht : t.size ≤ 9223372036854775807) :
 laws_szFile.f n t q left = some (if left - (n.size : Int) < 0 then -1 else if left - (n.size : Int) - (t.size : Int) < 0 then -1 else left - (n.size : Int) - (t.size : Int)) := by
 simp only [laws_szFile.f]
 rw [w64 (n := left - (n.size : Int)) (by omega) (by omega)]
 by_cases h : left - (n.size : Int) < 0
 ·rw [if_pos h, if_pos h]
 ·rw [if_neg h, if_neg h, w64 (by omega) (by omega)]
  by_cases h2 : left - (n.size : Int) - (t.size : Int) < 0
  ·rw [if_pos h2, if_pos h2]
  ·rw [if_neg h2, if_neg h2]
theorem laws_szFileS_l0 (l : List S72) (hlen : l.length ≤ 1048576) (hd : ∀ y ∈ l, y.f0.size ≤ 9223372036854775807 ∧ y.f1.size ≤ 9223372036854775807) : ∀ (d i : Nat) (left : Int), i + d = l.length → 0 ≤ left → left ≤ 1048576 →
 ∃ r, Ev (fun k => laws_szFileS.l0 k l left (i : Int)) r ∧ (0 ≤ r → r ≤ left ∧ ∀ y ∈ l.drop i, (y.f0.size : Int) ≤ left ∧ (y.f1.size : Int) ≤ left)
 | 0, i, left, hi, h0, h1 => by
  refine ⟨left, ?_, fun _ => ⟨Int.le_refl _, ?_⟩⟩
  ·refine Ev.step (f := fun _ => some left) (fun k => ?_) (Ev.now _)
   simp only [laws_szFileS.l0]; rw [if_neg (by omega)]
  ·rw [List.drop_eq_nil_of_le (by omega)]; simp
 | d + 1, i, left, hi, h0, h1 => by
  have hm := hd _ (getD_mem z72 (l := l) (i := i) (by omega))
  have e := laws_szFile_eq (l.getD i z72).f0 (l.getD i z72).f1 (l.getD i z72).f2 left h0 h1 hm.1 hm.2
  by_cases h : left - ((l.getD i z72).f0.size : Int) < 0 ∨ left - ((l.getD i z72).f0.size : Int) - ((l.getD i z72).f1.size : Int) < 0
  ·have e1 : laws_szFile.f (l.getD i z72).f0 (l.getD i z72).f1 (l.getD i z72).f2 left = some (-1) := by
    rw [e]
    rcases h with h | h
    ·rw [if_pos h]
    ·by_cases h2 : left - ((l.getD i z72).f0.size : Int) < 0
     ·rw [if_pos h2]
     ·rw [if_neg h2, if_pos h]
   refine ⟨-1, ?_, fun h => by omega⟩
   refine Ev.step (f := fun _ => some (-1)) (fun k => ?_) (Ev.now _)
   simp only [laws_szFileS.l0, rd_T72]
   rw [if_pos (by omega), if_pos (by omega), Int.toNat_natCast, e1, Option.bind_some, if_pos (by omega)]
  ·rw [if_neg (fun h2 => h (.inl h2)), if_neg (fun h2 => h (.inr h2))] at e
   obtain ⟨r, ⟨K, hK⟩, hr⟩ := laws_szFileS_l0 l hlen hd d (i + 1) (left - ((l.getD i z72).f0.size : Int) - ((l.getD i z72).f1.size : Int)) (by omega) (by omega) (by omega)
   refine ⟨r, ⟨K + 1, fun k hk => ?_⟩, fun h => ?_⟩
   ·obtain ⟨k, rfl⟩ : ∃ m, k = m + 1 := ⟨k - 1, by omega⟩
    have e2 : laws_szFileS.l0 k l (left - ((l.getD i z72).f0.size : Int) - ((l.getD i z72).f1.size : Int)) ((i + 1 : Nat) : Int) = some _ := hK k (by omega)
    simp only [laws_szFileS.l0, rd_T72]
    rw [if_pos (by omega), if_pos (by omega), Int.toNat_natCast, e, Option.bind_some, if_neg (by omega), w64 (by omega) (by omega), show (i : Int) + 1 = ((i + 1 : Nat) : Int) by omega, e2]
   ·have h2 := hr h
    refine ⟨by omega, fun y hy => ?_⟩
    rw [drop_getD z72 (by omega)] at hy
    rcases List.mem_cons.1 hy with rfl | hy
    ·omega
    ·have := h2.2 y hy; omega
theorem laws_szFileS_ev (l : List S72) (hlen : l.length ≤ 9223372036854775807) (hd : ∀ y ∈ l, y.f0.size ≤ 9223372036854775807 ∧ y.f1.size ≤ 9223372036854775807) (left : Int) (h0 : 0 ≤ left) (h1 : left ≤ 1048576) :
 ∃ r, Ev (fun k => laws_szFileS.f k l left) r ∧ (0 ≤ r → r ≤ left ∧ (l.length : Int) ≤ left ∧ ∀ y ∈ l, (y.f0.size : Int) ≤ left ∧ (y.f1.size : Int) ≤ left) := by
 by_cases h : left - (l.length : Int) < 0
 ·refine ⟨-1, ⟨0, fun k _ => ?_⟩, fun h => by omega⟩
  simp only [laws_szFileS.f]
  rw [w64 (by omega) (by omega), if_pos h]
 ·obtain ⟨r, ⟨K, hK⟩, hr⟩ := laws_szFileS_l0 l (by omega) hd l.length 0 (left - (l.length : Int)) (by omega) (by omega) (by omega)
  refine ⟨r, ⟨K, fun k hk => ?_⟩, fun h => ?_⟩
  ·have e2 : laws_szFileS.l0 k l (left - (l.length : Int)) 0 = some _ := hK k hk
   simp only [laws_szFileS.f]
   rw [w64 (by omega) (by omega), if_neg h, e2]
  ·have h2 := hr h
   rw [List.drop_zero] at h2
   exact ⟨by omega, by omega, fun y hy => by have := h2.2 y hy; omega⟩
theorem laws_szDisk_ev (l : List S72) (hlen : l.length ≤ 9223372036854775807) (hd : ∀ y ∈ l, y.f0.size ≤ 9223372036854775807 ∧ y.f1.size ≤ 9223372036854775807) (left : Int) (h0 : 0 ≤ left) (h1 : left ≤ 1048576) :
 ∃ r, Ev (fun k => laws_szDisk.f k l left) r ∧ (0 ≤ r → r ≤ left ∧ (l.length : Int) ≤ left ∧ ∀ y ∈ l, (y.f0.size : Int) ≤ left ∧ (y.f1.size : Int) ≤ left) := by
 obtain ⟨r, ⟨K, hK⟩, hr⟩ := laws_szFileS_ev l hlen hd left h0 h1
 by_cases h : r < 0
 ·refine ⟨-1, ⟨K, fun k hk => ?_⟩, fun h => by omega⟩
  have e : laws_szFileS.f k l left = some _ := hK k hk
  simp only [laws_szDisk.f]
  rw [e, Option.bind_some, if_pos h]
 ·refine ⟨r, ⟨K, fun k hk => ?_⟩, hr⟩
  have e : laws_szFileS.f k l left = some _ := hK k hk
  simp only [laws_szDisk.f]
  rw [e, Option.bind_some, if_neg h]
def cvF (y : S72) : S49 := ⟨y.f0, y.f1, y.f2⟩
theorem laws_toFileS_l0 (l : List S72) (hl : l.length ≤ 1048576) : ∀ (d i : Nat) (x : List S49), i + d = l.length → x.length = l.length → x.take i = (l.take i).map cvF →
 Ev (fun k => laws_toFileS.l0 k l x (i : Int)) (l.map cvF)
 | 0, i, x, hd, hx, ht => by
  refine Ev.step (f := fun _ => some x) (fun k => ?_) ?_
  ·simp only [laws_toFileS.l0]; rw [if_neg (by omega)]
  ·have : x = l.map cvF := by rw [← List.take_of_length_le (i := i) (l := x) (by omega), ht, List.take_of_length_le (by omega)]
   rw [this]; exact Ev.now _
 | d + 1, i, x, hd, hx, ht => by
  refine Ev.step (f := fun k => laws_toFileS.l0 k l (x.set i (cvF (l.getD i z72))) ((i + 1 : Nat) : Int)) (fun k => ?_) (laws_toFileS_l0 l hl d (i + 1) _ (by omega) (by rw [List.length_set]; exact hx) ?_)
  ·simp only [laws_toFileS.l0, laws_toFile.f, rd_T72]
   rw [if_pos (by omega), if_pos (by omega), Option.bind_some, if_pos (by omega), w64 (by omega) (by omega), Int.toNat_natCast]; rfl
  ·rw [take_set_succ _ _ _ (by omega), ht, take_getD z72 (by omega), List.map_append]; rfl
theorem laws_toFileS_ev (l : List S72) (hl : l.length ≤ 1048576) : Ev (fun k => laws_toFileS.f k l) (l.map cvF) := by
 obtain ⟨K, hK⟩ := laws_toFileS_l0 l hl l.length 0 (List.replicate l.length z49) (by omega) (by simp) (by simp)
 refine ⟨K, fun k hk => ?_⟩
 have e : laws_toFileS.l0 k l (List.replicate l.length z49) 0 = some _ := hK k hk
 simp only [laws_toFileS.f]
 rw [if_pos (by omega), if_pos (by omega), Int.toNat_natCast, e]
theorem laws_toDisk_ev (l : List S72) (hl : l.length ≤ 1048576) : Ev (fun k => laws_toDisk.f k l) (l.map cvF) := by
 obtain ⟨K, hK⟩ := laws_toFileS_ev l hl
 refine ⟨K, fun k hk => ?_⟩
 have e : laws_toFileS.f k l = some _ := hK k hk
 simp only [laws_toDisk.f]
 rw [e, Option.bind_some]
theorem laws_eqFile_self (a b : ByteArray) (c : Int) : laws_eqFile.f a b c a b c = some true := by
 simp only [laws_eqFile.f, if_true]
theorem laws_eqFileS_l0 (l : List S49) (hl : l.length ≤ 140737488351232) : ∀ (d i : Nat), i + d = l.length → Ev (fun k => laws_eqFileS.l0 k l l (i : Int)) true
 | 0, i, hd => by
  refine Ev.step (f := fun _ => some true) (fun k => ?_) (Ev.now _)
  simp only [laws_eqFileS.l0]; rw [if_neg (by omega)]
 | d + 1, i, hd => by
  refine Ev.step (f := fun k => laws_eqFileS.l0 k l l ((i + 1 : Nat) : Int)) (fun k => ?_) (laws_eqFileS_l0 l hl d (i + 1) (by omega))
  simp only [laws_eqFileS.l0]
  rw [if_pos (by omega), if_pos (by omega), if_pos (by omega), laws_eqFile_self, Option.bind_some, if_pos rfl, w64 (by omega) (by omega)]; rfl
theorem laws_eqFileS_ev (l : List S49) (hl : l.length ≤ 140737488351232) : Ev (fun k => laws_eqFileS.f k l l) true := by
 obtain ⟨K, hK⟩ := laws_eqFileS_l0 l hl l.length 0 (by omega)
 refine ⟨K, fun k hk => ?_⟩
 have e : laws_eqFileS.l0 k l l 0 = some _ := hK k hk
 simp only [laws_eqFileS.f]
 rw [if_pos trivial, e]
theorem laws_eqDisk_ev (l : List S49) (hl : l.length ≤ 140737488351232) : Ev (fun k => laws_eqDisk.f k l l) true := by
 obtain ⟨K, hK⟩ := laws_eqFileS_ev l hl
 refine ⟨K, fun k hk => ?_⟩
 have e : laws_eqFileS.f k l l = some _ := hK k hk
 simp only [laws_eqDisk.f]
 rw [e, Option.bind_some, if_pos rfl]
theorem getD_setF {l : List S49} {i : Nat} (v z : S49) (h : i < l.length) : (l.set i v).getD i z = v := by
 rw [List.getD_eq_getElem?_getD, List.getElem?_set_self h]; rfl
def meF (k : Int) (j : Nat) : S49 := ⟨mtT (k + 3 * (j : Int)), mtT (k + 3 * (j : Int) + 1), k + 3 * (j : Int) + 2⟩
def markF (k : Int) (n : Nat) : List S49 := (List.range n).map (meF k)
theorem markF_succ (k : Int) (n : Nat) : markF k (n + 1) = markF k n ++ [meF k n] := by simp [markF, List.range_succ]
theorem laws_markFileS_l0 (k0 : Int) (n : Nat) (h0 : 0 ≤ k0) (hk : k0 + 3 * (n : Int) ≤ 4611686018427387903) : ∀ (d i : Nat) (x : List S49), i + d = n → x.length = n → x.take i = markF k0 i →
 Ev (fun k => laws_markFileS.l0 k x (k0 + 3 * (i : Int)) (i : Int)) (k0 + 3 * (n : Int), markF k0 n)
 | 0, i, x, hd, hx, ht => by
  refine Ev.step (f := fun _ => some (k0 + 3 * (i : Int), x)) (fun k => ?_) ?_
  ·simp only [laws_markFileS.l0]; rw [if_neg (by omega)]
  ·have e : x = markF k0 n := by rw [← List.take_of_length_le (i := i) (l := x) (by omega), ht, show i = n by omega]
   rw [e, show i = n by omega]; exact Ev.now _
 | d + 1, i, x, hd, hx, ht => by
  obtain ⟨K0, h00⟩ := laws_markText_ev (k0 + 3 * (i : Int)) (by omega)
  obtain ⟨K1, h1⟩ := laws_markText_ev (k0 + 3 * (i : Int) + 1) (by omega)
  obtain ⟨K2, h2⟩ := laws_markFileS_l0 k0 n h0 hk d (i + 1) (x.set i (meF k0 i)) (by omega) (by rw [List.length_set]; exact hx) (by rw [take_set_succ _ _ _ (by omega), ht, markF_succ])
  refine ⟨K0 + K1 + K2 + 1, fun k hk => ?_⟩
  obtain ⟨k, rfl⟩ : ∃ m, k = m + 1 := ⟨k - 1, by omega⟩
  have e0 : laws_markText.f k (k0 + 3 * (i : Int)) = some _ := h00 k (by omega)
  have e1 : laws_markText.f k (k0 + 3 * (i : Int) + 1) = some _ := h1 k (by omega)
  have e2 : laws_markFileS.l0 k (x.set i (meF k0 i)) (k0 + 3 * ((i + 1 : Nat) : Int)) ((i + 1 : Nat) : Int) = some _ := h2 k (by omega)
  simp only [laws_markFileS.l0]
  rw [if_pos (by omega), e0, Option.bind_some, if_pos (by omega), Option.bind_some]
  rw [w64 (n := k0 + 3 * (i : Int) + 1) (by omega) (by omega), e1, Option.bind_some, Option.bind_some, w64 (n := k0 + 3 * (i : Int) + 1 + 1) (by omega) (by omega), w64 (n := k0 + 3 * (i : Int) + 1 + 1 + 1) (by omega) (by omega), w64 (n := (i : Int) + 1) (by omega) (by omega)]
  simp only [rdF, Int.toNat_natCast, List.set_set]
  rw [getD_setF _ _ (by omega), getD_setF _ _ (by omega), show k0 + 3 * (i : Int) + 1 + 1 + 1 = k0 + 3 * ((i + 1 : Nat) : Int) by omega, show (i : Int) + 1 = ((i + 1 : Nat) : Int) by omega, show k0 + 3 * (i : Int) + 1 + 1 = k0 + 3 * (i : Int) + 2 by omega]
  exact e2
theorem laws_markDisk_ev (l : List S49) (k0 : Int) (h0 : 0 ≤ k0) (hk : k0 + 3 * (l.length : Int) ≤ 4611686018427387903) : Ev (fun k => laws_markDisk.f k l k0) (k0 + 3 * (l.length : Int), markF k0 l.length) := by
 have h := laws_markFileS_l0 k0 l.length h0 hk l.length 0 l (by omega) rfl (by simp [markF])
 rw [show k0 + 3 * ((0 : Nat) : Int) = k0 by omega] at h
 obtain ⟨K, hK⟩ := h
 refine ⟨K, fun k hk => ?_⟩
 have e : laws_markFileS.f k l k0 = some _ := hK k hk
 simp only [laws_markDisk.f]
 rw [e, Option.bind_some]
theorem laws_eqEntry_self (a b : Int) (c : ByteArray) : laws_eqEntry.f a b c a b c = some true := by
 simp only [laws_eqEntry.f, if_true]
theorem laws_eqEntryS_l0 (l : List S105) (hl : l.length ≤ 140737488351232) : ∀ (d i : Nat), i + d = l.length → Ev (fun k => laws_eqEntryS.l0 k l l (i : Int)) true
 | 0, i, hd => by
  refine Ev.step (f := fun _ => some true) (fun k => ?_) (Ev.now _)
  simp only [laws_eqEntryS.l0]; rw [if_neg (by omega)]
 | d + 1, i, hd => by
  refine Ev.step (f := fun k => laws_eqEntryS.l0 k l l ((i + 1 : Nat) : Int)) (fun k => ?_) (laws_eqEntryS_l0 l hl d (i + 1) (by omega))
  simp only [laws_eqEntryS.l0]
  rw [if_pos (by omega), if_pos (by omega), if_pos (by omega), laws_eqEntry_self, Option.bind_some, if_pos rfl, w64 (by omega) (by omega)]; rfl
theorem laws_eqEntryS_ev (l : List S105) (hl : l.length ≤ 140737488351232) : Ev (fun k => laws_eqEntryS.f k l l) true := by
 obtain ⟨K, hK⟩ := laws_eqEntryS_l0 l hl l.length 0 (by omega)
 refine ⟨K, fun k hk => ?_⟩
 have e : laws_eqEntryS.l0 k l l 0 = some _ := hK k hk
 simp only [laws_eqEntryS.f]
 rw [if_pos trivial, e]
theorem laws_eqLog_ev (a b : Int) (l : List S105) (hl : l.length ≤ 140737488351232) : Ev (fun k => laws_eqLog.f k a b l a b l) true := by
 obtain ⟨K, hK⟩ := laws_eqEntryS_ev l hl
 refine ⟨K, fun k hk => ?_⟩
 have e : laws_eqEntryS.f k l l = some _ := hK k hk
 simp only [laws_eqLog.f, if_true]
 rw [e, Option.bind_some, if_pos rfl]
def meE (k : Int) (j : Nat) : S105 := ⟨k + 3 * (j : Int), k + 3 * (j : Int) + 1, mtT (k + 3 * (j : Int) + 2)⟩
def markE (k : Int) (n : Nat) : List S105 := (List.range n).map (meE k)
theorem markE_len (k : Int) (n : Nat) : (markE k n).length = n := by simp [markE]
theorem markE_succ (k : Int) (n : Nat) : markE k (n + 1) = markE k n ++ [meE k n] := by simp [markE, List.range_succ]
theorem getD_markE {k : Int} {n i : Nat} (z : S105) (h : i < n) : (markE k n).getD i z = meE k i := by
 unfold markE
 rw [List.getD_eq_getElem?_getD, List.getElem?_map, List.getElem?_range h]; rfl
theorem getD_setE {l : List S105} {i : Nat} (v z : S105) (h : i < l.length) : (l.set i v).getD i z = v := by
 rw [List.getD_eq_getElem?_getD, List.getElem?_set_self h]; rfl
theorem laws_markEntryS_l0 (k0 : Int) (n : Nat) (h0 : 0 ≤ k0) (hk : k0 + 3 * (n : Int) ≤ 4611686018427387903) : ∀ (d i : Nat) (x : List S105), i + d = n → x.length = n → x.take i = markE k0 i →
 Ev (fun k => laws_markEntryS.l0 k x (k0 + 3 * (i : Int)) (i : Int)) (k0 + 3 * (n : Int), markE k0 n)
 | 0, i, x, hd, hx, ht => by
  refine Ev.step (f := fun _ => some (k0 + 3 * (i : Int), x)) (fun k => ?_) ?_
  ·simp only [laws_markEntryS.l0]; rw [if_neg (by omega)]
  ·have e : x = markE k0 n := by rw [← List.take_of_length_le (i := i) (l := x) (by omega), ht, show i = n by omega]
   rw [e, show i = n by omega]; exact Ev.now _
 | d + 1, i, x, hd, hx, ht => by
  obtain ⟨K1, h1⟩ := laws_markText_ev (k0 + 3 * (i : Int) + 2) (by omega)
  obtain ⟨K2, h2⟩ := laws_markEntryS_l0 k0 n h0 hk d (i + 1) (x.set i (meE k0 i)) (by omega) (by rw [List.length_set]; exact hx) (by rw [take_set_succ _ _ _ (by omega), ht, markE_succ])
  refine ⟨K1 + K2 + 1, fun k hk => ?_⟩
  obtain ⟨k, rfl⟩ : ∃ m, k = m + 1 := ⟨k - 1, by omega⟩
  have e1 : laws_markText.f k (k0 + 3 * (i : Int) + 2) = some _ := h1 k (by omega)
  have e2 : laws_markEntryS.l0 k (x.set i (meE k0 i)) (k0 + 3 * ((i + 1 : Nat) : Int)) ((i + 1 : Nat) : Int) = some _ := h2 k (by omega)
  simp only [laws_markEntryS.l0]
  rw [if_pos (by omega), if_pos (by omega), Option.bind_some, Option.bind_some]
  rw [w64 (n := k0 + 3 * (i : Int) + 1) (by omega) (by omega), w64 (n := k0 + 3 * (i : Int) + 1 + 1) (by omega) (by omega), show k0 + 3 * (i : Int) + 1 + 1 = k0 + 3 * (i : Int) + 2 by omega, e1, Option.bind_some, w64 (n := k0 + 3 * (i : Int) + 2 + 1) (by omega) (by omega), w64 (n := (i : Int) + 1) (by omega) (by omega)]
  simp only [rdE, Int.toNat_natCast, List.set_set]
  rw [getD_setE _ _ (by omega), getD_setE _ _ (by omega), show k0 + 3 * (i : Int) + 2 + 1 = k0 + 3 * ((i + 1 : Nat) : Int) by omega, show (i : Int) + 1 = ((i + 1 : Nat) : Int) by omega]
  exact e2
theorem laws_markEntryS_ev (l : List S105) (k0 : Int) (h0 : 0 ≤ k0) (hk : k0 + 3 * (l.length : Int) ≤ 4611686018427387903) : Ev (fun k => laws_markEntryS.f k l k0) (k0 + 3 * (l.length : Int), markE k0 l.length) := by
 have h := laws_markEntryS_l0 k0 l.length h0 hk l.length 0 l (by omega) rfl (by simp [markE])
 rw [show k0 + 3 * ((0 : Nat) : Int) = k0 by omega] at h
 exact h
theorem laws_markLog_ev (a b : Int) (l : List S105) (k0 : Int) (h0 : 0 ≤ k0) (hk : k0 + 3 * (l.length : Int) ≤ 4611686018427387903) : Ev (fun k => laws_markLog.f k a b l k0) (k0 + 3 * (l.length : Int), markE k0 l.length) := by
 obtain ⟨K, hK⟩ := laws_markEntryS_ev l k0 h0 hk
 refine ⟨K, fun k hk => ?_⟩
 have e : laws_markEntryS.f k l k0 = some _ := hK k hk
 simp only [laws_markLog.f]
 rw [e, Option.bind_some]
theorem laws_heldEntryS_l0 (k0 : Int) (n : Nat) (h0 : 0 ≤ k0) (hk : k0 + 3 * (n : Int) ≤ 4611686018427387903) : ∀ (d i : Nat), i + d = n →
 Ev (fun k => laws_heldEntryS.l0 k (markE k0 n) (k0 + 3 * (i : Int)) (i : Int)) (k0 + 3 * (n : Int))
 | 0, i, hd => by
  have hl := markE_len k0 n
  refine Ev.step (f := fun _ => some (k0 + 3 * (i : Int))) (fun k => ?_) ?_
  ·simp only [laws_heldEntryS.l0]; rw [if_neg (by omega)]
  ·rw [show i = n by omega]; exact Ev.now _
 | d + 1, i, hd => by
  have hl := markE_len k0 n
  obtain ⟨K1, h1⟩ := laws_markText_ev (k0 + 3 * (i : Int) + 2) (by omega)
  obtain ⟨K2, h2⟩ := laws_heldEntryS_l0 k0 n h0 hk d (i + 1) (by omega)
  refine ⟨K1 + K2 + 1, fun k hk => ?_⟩
  obtain ⟨k, rfl⟩ : ∃ m, k = m + 1 := ⟨k - 1, by omega⟩
  have e1 : laws_markText.f k (k0 + 3 * (i : Int) + 2) = some _ := h1 k (by omega)
  have e2 : laws_heldEntryS.l0 k (markE k0 n) (k0 + 3 * ((i + 1 : Nat) : Int)) ((i + 1 : Nat) : Int) = some _ := h2 k (by omega)
  simp only [laws_heldEntryS.l0]
  rw [if_pos (by omega), if_pos (by omega), rdE, getD_markE _ (by omega), w64 (n := k0 + 3 * (i : Int) + 1) (by omega) (by omega), if_pos (show (meE k0 i).f0 = k0 + 3 * (i : Int) from rfl), if_pos (show (meE k0 i).f1 = k0 + 3 * (i : Int) + 1 from rfl), w64 (n := k0 + 3 * (i : Int) + 1 + 1) (by omega) (by omega), show k0 + 3 * (i : Int) + 1 + 1 = k0 + 3 * (i : Int) + 2 by omega, e1, Option.bind_some, if_pos (show (meE k0 i).f2.toList = (mtT (k0 + 3 * (i : Int) + 2)).toList from rfl), w64 (n := k0 + 3 * (i : Int) + 2 + 1) (by omega) (by omega), w64 (n := (i : Int) + 1) (by omega) (by omega), show k0 + 3 * (i : Int) + 2 + 1 = k0 + 3 * ((i + 1 : Nat) : Int) by omega, show (i : Int) + 1 = ((i + 1 : Nat) : Int) by omega, e2]
theorem laws_heldEntryS_ev (k0 : Int) (n : Nat) (h0 : 0 ≤ k0) (hk : k0 + 3 * (n : Int) ≤ 4611686018427387903) : Ev (fun k => laws_heldEntryS.f k (markE k0 n) k0) (k0 + 3 * (n : Int)) := by
 have h := laws_heldEntryS_l0 k0 n h0 hk n 0 (by omega)
 rw [show k0 + 3 * ((0 : Nat) : Int) = k0 by omega] at h
 exact h
theorem laws_heldLog_ev (a b : Int) (k0 : Int) (n : Nat) (h0 : 0 ≤ k0) (hk : k0 + 3 * (n : Int) ≤ 4611686018427387903) : Ev (fun k => laws_heldLog.f k a b (markE k0 n) k0) (k0 + 3 * (n : Int)) := by
 obtain ⟨K, hK⟩ := laws_heldEntryS_ev k0 n h0 hk
 refine ⟨K, fun k hk => ?_⟩
 have e : laws_heldEntryS.f k (markE k0 n) k0 = some _ := hK k hk
 simp only [laws_heldLog.f]
 rw [e, Option.bind_some, if_neg (by omega)]
theorem laws_eqJournal_ev2 (n t v a b : Int) (l : List S105) (hl : l.length ≤ 140737488351232) : Ev (fun k => laws_eqJournal.f k n t v a b l n t v a b l) true := by
 obtain ⟨K, hK⟩ := laws_eqLog_ev a b l hl
 refine ⟨K, fun k hk => ?_⟩
 have e : laws_eqLog.f k a b l a b l = some _ := hK k hk
 simp only [laws_eqJournal.f, if_true]
 rw [e, Option.bind_some, if_pos rfl]
theorem laws_markJournal_ev2 (n t v a b : Int) (l : List S105) (k0 : Int) (h0 : 0 ≤ k0) (hk : k0 + 3 * (l.length : Int) ≤ 4611686018427387903) : Ev (fun k => laws_markJournal.f k n t v a b l k0) (k0 + 3 * (l.length : Int), markE k0 l.length) := by
 obtain ⟨K, hK⟩ := laws_markLog_ev a b l k0 h0 hk
 refine ⟨K, fun k hk => ?_⟩
 have e : laws_markLog.f k a b l k0 = some _ := hK k hk
 simp only [laws_markJournal.f]
 rw [e, Option.bind_some]
theorem laws_heldJournal_ev2 (n t v a b : Int) (k0 : Int) (m : Nat) (h0 : 0 ≤ k0) (hk : k0 + 3 * (m : Int) ≤ 4611686018427387903) : Ev (fun k => laws_heldJournal.f k n t v a b (markE k0 m) k0) (k0 + 3 * (m : Int)) := by
 obtain ⟨K, hK⟩ := laws_heldLog_ev a b k0 m h0 hk
 refine ⟨K, fun k hk => ?_⟩
 have e : laws_heldLog.f k a b (markE k0 m) k0 = some _ := hK k hk
 simp only [laws_heldJournal.f]
 rw [e, Option.bind_some, if_neg (by omega)]
theorem FnExactOpenJournal (l : List S72) (g0 : (l.length ≤ 9223372036854775807 ∧ ∀ y ∈ l, y.f0.size ≤ maxLen ∧ y.f1.size ≤ maxLen ∧ (Lit.int .i64 y.f2).wf = true)) : ∃ k, laws_FnExactOpenJournal.f k l = some true := by
 obtain ⟨r, ⟨K1, h1⟩, hr⟩ := laws_szDisk_ev l g0.1 (fun y hy => by have := g0.2 y hy; simp only [maxLen] at this; exact ⟨this.1, this.2.1⟩) 1048576 (by omega) (by omega)
 by_cases hneg : r < 0
 ·refine ⟨K1, ?_⟩
  have e1 : laws_szDisk.f K1 l 1048576 = some _ := h1 K1 (Nat.le_refl _)
  simp only [laws_FnExactOpenJournal.f]
  rw [e1, Option.bind_some, if_pos hneg]
 ·have hb := hr (by omega)
  have hlen : (l.map cvF).length ≤ 1048576 := by rw [List.length_map]; omega
  have hn : NamesOk (l.map cvF) := by
   intro y hy
   obtain ⟨x, hx, rfl⟩ := List.mem_map.1 hy
   have := hb.2.2 x hx
   exact ⟨by show x.f0.size ≤ _; omega, by show x.f1.size ≤ _; omega⟩
  obtain ⟨K2, h2⟩ := laws_toDisk_ev l (by omega)
  obtain ⟨K3, h3⟩ := laws_eqDisk_ev (l.map cvF) (by omega)
  obtain ⟨K4, h4⟩ := spec_OpenJournal_ev (l.map cvF) hlen hn
  obtain ⟨K5, h5⟩ := impl_OpenJournal_ev (l.map cvF) hlen hn
  have hz := ojC_len (l.map cvF)
  obtain ⟨⟨o1, o2, o3, o4, o5, ol, oa, ob⟩, hP⟩ : ∃ o, ojC (l.map cvF) = o := ⟨_, rfl⟩
  rw [hP] at h4 h5 hz
  simp only [] at hz
  obtain ⟨hz1, hz2⟩ := hz
  obtain ⟨K6, h6⟩ := laws_eqJournal_ev2 o1 o2 o3 o4 o5 ol (by omega)
  obtain ⟨K7, h7⟩ := laws_eqActS_ev oa (by omega)
  obtain ⟨K8, h8⟩ := laws_markDisk_ev (l.map cvF) 1 (by omega) (by omega)
  obtain ⟨K9, h9⟩ := laws_markJournal_ev2 o1 o2 o3 o4 o5 ol 1 (by omega) (by omega)
  obtain ⟨K10, h10⟩ := laws_markActS_ev oa (1 + 3 * (ol.length : Int)) (by omega) (by omega)
  obtain ⟨K11, h11⟩ := laws_heldJournal_ev2 o1 o2 o3 o4 o5 1 ol.length (by omega) (by omega)
  obtain ⟨K12, h12⟩ := laws_heldActS_ev (1 + 3 * (ol.length : Int)) oa.length (by omega) (by omega)
  generalize hk : K1 + K2 + K3 + K4 + K5 + K6 + K7 + K8 + K9 + K10 + K11 + K12 = k
  have j2 : laws_FnExactOpenJournal.j2 (k + 1) (markA (1 + 3 * (ol.length : Int)) oa.length) (1 + 3 * (ol.length : Int) + 4 * (oa.length : Int)) (ob != ob) o1 o2 o3 o4 o5 (markE 1 ol.length) = some true := by
   have e11 : laws_heldJournal.f k o1 o2 o3 o4 o5 (markE 1 ol.length) 1 = some _ := h11 _ (by omega)
   have e12 : laws_heldActS.f k (markA (1 + 3 * (ol.length : Int)) oa.length) (1 + 3 * (ol.length : Int)) = some _ := h12 _ (by omega)
   simp only [laws_FnExactOpenJournal.j2]
   rw [if_neg (by simp), e11, Option.bind_some, if_neg (by omega), e12, Option.bind_some, if_neg (by omega), if_pos rfl]
  have j1 : laws_FnExactOpenJournal.j1 (k + 2) oa ob oa (ob != ob) l o1 o2 o3 o4 o5 ol o1 o2 o3 o4 o5 ol = some true := by
   have e2 : laws_toDisk.f (k + 1) l = some _ := h2 _ (by omega)
   have e5 : impl_OpenJournal.f (k + 1) (l.map cvF) = some _ := h5 _ (by omega)
   have e6 : laws_eqJournal.f (k + 1) o1 o2 o3 o4 o5 ol o1 o2 o3 o4 o5 ol = some _ := h6 _ (by omega)
   have e7 : laws_eqActS.f (k + 1) oa oa = some _ := h7 _ (by omega)
   have e9 : laws_markJournal.f (k + 1) o1 o2 o3 o4 o5 ol 1 = some _ := h9 _ (by omega)
   have e10 : laws_markActS.f (k + 1) oa (1 + 3 * (ol.length : Int)) = some _ := h10 _ (by omega)
   have e11 : laws_heldJournal.f (k + 1) o1 o2 o3 o4 o5 (markE 1 ol.length) 1 = some _ := h11 _ (by omega)
   have e12 : laws_heldActS.f (k + 1) (markA (1 + 3 * (ol.length : Int)) oa.length) (1 + 3 * (ol.length : Int)) = some _ := h12 _ (by omega)
   simp only [laws_FnExactOpenJournal.j1]
   rw [if_neg (by simp), e9, Option.bind_some, e10, Option.bind_some, e11, Option.bind_some, if_neg (by omega), e12, Option.bind_some, if_neg (by omega), if_pos rfl, e2, Option.bind_some, e5, Option.bind_some, e6, Option.bind_some, if_pos rfl, e7, Option.bind_some, if_pos rfl]
   exact j2
  have j0 : laws_FnExactOpenJournal.j0 (k + 3) oa ob oa ob (ob != ob) l o1 o2 o3 o4 o5 ol (l.map cvF) o1 o2 o3 o4 o5 ol = some true := by
   have e2 : laws_toDisk.f (k + 2) l = some _ := h2 _ (by omega)
   have e3 : laws_eqDisk.f (k + 2) (l.map cvF) (l.map cvF) = some _ := h3 _ (by omega)
   have e6 : laws_eqJournal.f (k + 2) o1 o2 o3 o4 o5 ol o1 o2 o3 o4 o5 ol = some _ := h6 _ (by omega)
   have e7 : laws_eqActS.f (k + 2) oa oa = some _ := h7 _ (by omega)
   have e8 : laws_markDisk.f (k + 2) (l.map cvF) 1 = some _ := h8 _ (by omega)
   simp only [laws_FnExactOpenJournal.j0]
   rw [if_neg (by simp), e2, Option.bind_some, e3, Option.bind_some, if_pos rfl, e8, Option.bind_some, if_neg (by omega), e6, Option.bind_some, if_pos rfl, e7, Option.bind_some, if_pos rfl]
   exact j1
  refine ⟨k + 3, ?_⟩
  have e1 : laws_szDisk.f (k + 3) l 1048576 = some _ := h1 _ (by omega)
  have e2 : laws_toDisk.f (k + 3) l = some _ := h2 _ (by omega)
  have e4 : spec_OpenJournal.f (k + 3) (l.map cvF) = some _ := h4 _ (by omega)
  have e5 : impl_OpenJournal.f (k + 3) (l.map cvF) = some _ := h5 _ (by omega)
  have e6 : laws_eqJournal.f (k + 3) o1 o2 o3 o4 o5 ol o1 o2 o3 o4 o5 ol = some _ := h6 _ (by omega)
  have e7 : laws_eqActS.f (k + 3) oa oa = some _ := h7 _ (by omega)
  simp only [laws_FnExactOpenJournal.f]
  rw [e1, Option.bind_some, if_neg hneg, e2, Option.bind_some, e4, Option.bind_some, Option.bind_some, e5, Option.bind_some, e6, Option.bind_some, if_pos rfl, e7, Option.bind_some, if_pos rfl]
  exact j0
end Go.Proofs.YtdepaileabejgaaGreatDoor.Pure
