/- For every snapshot, the program's SnapText returns what the reference's SnapText returns, and leaves the snapshot as it was: FnExactSnapText returns true. No condition. -/
import Derived.Test.YtpmdcplmnipdeaaQFnExactSnapTextx5
namespace Go.Proofs.Ytpmdcplmnipdeaa.Pure
open Go.RowKit Go.Proofs.Ytpmdcplmnipdeaa.PFnExactSnapText Go.Proofs.YtpmdcplmnipdeaaW.PrintWords Go.Proofs.YtpmdcplmnipdeaaW.PrintLast Go.Proofs.YtpmdcplmnipdeaaW.PrintMore

/-! ### texts as lists of bytes -/
theorem bytesOf_range (s : ByteArray) : ∀ b ∈ bytesOf s, 0 ≤ b ∧ b ≤ 255 := by
  intro b hb
  obtain ⟨u, _, rfl⟩ := List.mem_map.1 hb
  have := u.toNat_lt
  omega
theorem bytesOf_inj {s t : ByteArray} (h : bytesOf s = bytesOf t) : s = t := by
  apply ByteArray.ext
  apply Array.toList_inj.1
  unfold bytesOf at h
  refine (List.map_inj_right ?_).1 h
  intro a b hab
  exact UInt8.toNat_inj.1 (by omega)
theorem bytesOf_app (s t : ByteArray) : bytesOf (s ++ t) = bytesOf s ++ bytesOf t := by
  simp [bytesOf]
theorem bytesOf_ext (s : ByteArray) (a b : Nat) : bytesOf (s.extract a b) = ((bytesOf s).drop a).take (b - a) := by
  simp [bytesOf, List.map_take, List.map_drop]
theorem bytesOf_str (xs : List Int) (h : ∀ b ∈ xs, 0 ≤ b ∧ b ≤ 255) : bytesOf (strOfNums xs) = xs := by
  unfold bytesOf
  rw [strOfNums_data, List.map_map]
  conv => rhs; rw [← List.map_id xs]
  refine List.map_congr_left fun b hb => ?_
  have := h b hb
  simp only [Function.comp_apply, id_eq, UInt8.toNat_ofNat']
  omega
theorem str_bytesOf (s : ByteArray) : strOfNums (bytesOf s) = s := bytesOf_inj (bytesOf_str _ (bytesOf_range s))
theorem bytesOf_nil : bytesOf (⟨#[]⟩ : ByteArray) = [] := rfl
theorem toList_iff {s t : ByteArray} : s.toList = t.toList ↔ s = t := by
  constructor
  · intro h
    rw [ByteArray.toList_eq, ByteArray.toList_eq] at h
    exact ByteArray.ext (Array.toList_inj.1 h)
  · rintro rfl; rfl
theorem bt_getElem {s : ByteArray} {i : Int} (h1 : i.toNat < s.size) : (bytesOf s)[i.toNat]? = some (bt s i) := by
  rw [← rd_bytesOf]
  unfold rd
  rw [List.getD_eq_getElem?_getD, List.getElem?_eq_getElem (by rw [bytesOf_length]; exact h1)]; rfl
theorem bytesOf_drop {s : ByteArray} {i : Int} (h0 : 0 ≤ i) (h : i < (s.size : Int)) : (bytesOf s).drop i.toNat = bt s i :: (bytesOf s).drop (i + 1).toNat := by
  have hl : i.toNat < (bytesOf s).length := by rw [bytesOf_length]; omega
  rw [List.drop_eq_getElem_cons hl, show (i + 1).toNat = i.toNat + 1 by omega]
  congr 1
  have := bt_getElem (s := s) (i := i) (by omega)
  rw [List.getElem?_eq_getElem hl] at this
  exact Option.some.inj this
theorem bytesOf_drop_end {s : ByteArray} {i : Int} (h : ¬ i < (s.size : Int)) : (bytesOf s).drop i.toNat = [] := by
  apply List.drop_eq_nil_of_le
  rw [bytesOf_length]; omega
theorem extract_all (s : ByteArray) : s.extract 0 s.size = s := bytesOf_inj (by rw [bytesOf_ext, List.drop_zero, Nat.sub_zero, ← bytesOf_length, List.take_length])
theorem w64 {n : Int} (h0 : -9223372036854775808 ≤ n) (h1 : n ≤ 9223372036854775807) : wrap64 n = n := by
  unfold wrap64; omega
theorem i64wf {n : Int} (h : (Lit.int .i64 n).wf = true) : -9223372036854775808 ≤ n ∧ n ≤ 9223372036854775807 := by
  simp [Lit.wf, IntKind.min, IntKind.max, IntKind.bits, IntKind.signed] at h
  omega
theorem u32wf {n : Int} (h : (Lit.int .u32 n).wf = true) : 0 ≤ n ∧ n ≤ 4294967295 := by
  simp [Lit.wf, IntKind.min, IntKind.max, IntKind.bits, IntKind.signed] at h
  omega
theorem tmod_nat {n : Int} (h : 0 ≤ n) (m : Int) : Int.tmod n m = n % m := Int.tmod_eq_emod_of_nonneg h
theorem tdiv_nat {n : Int} (h : 0 ≤ n) (m : Int) : Int.tdiv n m = n / m := Int.tdiv_eq_ediv_of_nonneg h

theorem drop_rd {l : List Int} {i : Nat} (h : i < l.length) : l.drop i = rd l (i : Int) :: l.drop (i + 1) := by
  rw [List.drop_eq_getElem_cons h]
  congr 1
  unfold rd
  rw [Int.toNat_natCast, List.getD_eq_getElem?_getD, List.getElem?_eq_getElem h]; rfl
theorem take_set_succ {α : Type} (l : List α) (i : Nat) (v : α) (h : i < l.length) : (l.set i v).take (i + 1) = l.take i ++ [v] := by
  rw [List.take_add_one, List.getElem?_set_self h, List.take_set_of_le (Nat.le_refl i)]; rfl
theorem take_rd {l : List Int} {i : Nat} (h : i < l.length) : l.take (i + 1) = l.take i ++ [rd l (i : Int)] := by
  rw [List.take_add_one]
  congr 1
  unfold rd
  rw [Int.toNat_natCast, List.getD_eq_getElem?_getD, List.getElem?_eq_getElem h]; rfl

/-- Rising, each in 1 .. 4, and above p. -/
def riseL : Int → List Int → Bool
  | _, [] => true
  | p, x :: xs => if 1 ≤ x ∧ x ≤ 4 ∧ p < x then riseL x xs else false
theorem riseL_len : ∀ (l : List Int) (p : Int), riseL p l = true → l = [] ∨ p + (l.length : Int) ≤ 4
  | [], _, _ => .inl rfl
  | x :: xs, p, h => by
    simp only [riseL] at h
    by_cases h1 : 1 ≤ x ∧ x ≤ 4 ∧ p < x
    · rw [if_pos h1] at h
      rcases riseL_len xs x h with rfl | h2
      · right; simp; omega
      · right; simp only [List.length_cons]; omega
    · rw [if_neg h1] at h; simp at h
def confC (l : List Int) : Bool := decide (1 ≤ l.length) && riseL 0 l
theorem confC_len {l : List Int} (h : confC l = true) : 1 ≤ l.length ∧ l.length ≤ 4 := by
  unfold confC at h
  simp only [Bool.and_eq_true, decide_eq_true_eq] at h
  rcases riseL_len l 0 h.2 with rfl | h2
  · simp at h
  · omega
theorem riseL_range : ∀ (l : List Int) (p : Int), riseL p l = true → ∀ x ∈ l, 1 ≤ x ∧ x ≤ 4
  | [], _, _, _, h => by simp at h
  | y :: ys, p, h, x, hx => by
    simp only [riseL] at h
    by_cases h1 : 1 ≤ y ∧ y ≤ 4 ∧ p < y
    · rw [if_pos h1] at h
      rcases List.mem_cons.1 hx with rfl | hx
      · omega
      · exact riseL_range ys y h x hx
    · rw [if_neg h1] at h; simp at h
theorem confC_range {l : List Int} (h : confC l = true) : ∀ x ∈ l, 1 ≤ x ∧ x ≤ 4 := by
  unfold confC at h
  simp only [Bool.and_eq_true] at h
  exact riseL_range l 0 h.2
/-- What stands ahead of place i. -/
def prv (l : List Int) (i : Nat) : Int := if i = 0 then 0 else rd l ((i : Int) - 1)
theorem prv_succ (l : List Int) (i : Nat) : prv l (i + 1) = rd l (i : Int) := by
  unfold prv
  rw [if_neg (by omega), show ((i + 1 : Nat) : Int) - 1 = (i : Int) by omega]

def oneB (l : List Int) : ByteArray := strOfNums (l.map (· % 256))
theorem map_take_rd {l : List Int} {i : Nat} (h : i < l.length) : (l.take (i + 1)).map (· % 256) = (l.take i).map (· % 256) ++ [rd l (i : Int) % 256] := by
  rw [take_rd h, List.map_append]; rfl

def confTC (l : List Int) : ByteArray × Bool := if confC l = true then (oneB l, true) else (⟨#[]⟩, false)

/-! ### check sums, in plain Lean -/
theorem xor_cancel {a b c : Nat} (h : a ^^^ c = b ^^^ c) : a = b := by
  have := congrArg (· ^^^ c) h
  simpa [Nat.xor_assoc, Nat.xor_self] using this
theorem xor_cancel' {a b c : Nat} (h : c ^^^ a = c ^^^ b) : a = b := by
  rw [Nat.xor_comm c a, Nat.xor_comm c b] at h
  exact xor_cancel h
/-- One of the eight steps of a byte. -/
def cst (x : Nat) : Nat := if x % 2 = 1 then x / 2 ^^^ 3558460437 else x / 2
theorem cst_lt {x : Nat} (h : x < 4294967296) : cst x < 4294967296 := by
  unfold cst
  split
  · exact Nat.xor_lt_two_pow (n := 32) (by omega) (by omega)
  · omega
theorem cst_top {x : Nat} (h : x < 4294967296) : (cst x).testBit 31 = decide (x % 2 = 1) := by
  have hq : (x / 2).testBit 31 = false := Nat.testBit_lt_two_pow (by omega)
  unfold cst
  by_cases h1 : x % 2 = 1
  · rw [if_pos h1, Nat.testBit_xor, hq]; simp [h1]; decide
  · rw [if_neg h1, hq]; simp [h1]
theorem cst_inj {x y : Nat} (hx : x < 4294967296) (hy : y < 4294967296) (h : cst x = cst y) : x = y := by
  have hp : decide (x % 2 = 1) = decide (y % 2 = 1) := by rw [← cst_top hx, ← cst_top hy, h]
  unfold cst at h
  by_cases h1 : x % 2 = 1
  · have h2 : y % 2 = 1 := by simpa [h1] using hp
    rw [if_pos h1, if_pos h2] at h
    have : x / 2 = y / 2 := xor_cancel h
    omega
  · have h2 : ¬ y % 2 = 1 := by simpa [h1] using hp
    rw [if_neg h1, if_neg h2] at h
    omega
/-- n steps. -/
def csts : Nat → Nat → Nat
  | 0, x => x
  | n + 1, x => csts n (cst x)
theorem csts_lt : ∀ (n : Nat) {x : Nat}, x < 4294967296 → csts n x < 4294967296
  | 0, _, h => h
  | n + 1, _, h => csts_lt n (cst_lt h)
theorem csts_inj : ∀ (n : Nat) {x y : Nat}, x < 4294967296 → y < 4294967296 → csts n x = csts n y → x = y
  | 0, _, _, _, _, h => h
  | n + 1, _, _, hx, hy, h => cst_inj hx hy (csts_inj n (cst_lt hx) (cst_lt hy) h)
/-- The sum behind more bytes. -/
def crc : Nat → List Nat → Nat
  | s, [] => s
  | s, b :: bs => crc (csts 8 (s ^^^ b)) bs
theorem xor_byte_lt {s b : Nat} (h : s < 4294967296) (hb : b < 256) : s ^^^ b < 4294967296 := Nat.xor_lt_two_pow (n := 32) (by omega) (by omega)
theorem crc_lt : ∀ (bs : List Nat) {s : Nat}, (∀ b ∈ bs, b < 256) → s < 4294967296 → crc s bs < 4294967296
  | [], _, _, h => h
  | b :: bs, _, hb, h => crc_lt bs (fun x hx => hb x (List.mem_cons_of_mem _ hx)) (csts_lt 8 (xor_byte_lt h (hb b List.mem_cons_self)))
theorem crc_inj : ∀ (bs : List Nat) {s t : Nat}, (∀ b ∈ bs, b < 256) → s < 4294967296 → t < 4294967296 → crc s bs = crc t bs → s = t
  | [], _, _, _, _, _, h => h
  | b :: bs, _, _, hb, hs, ht, h => by
    have hb0 := hb b List.mem_cons_self
    have h1 := crc_inj bs (fun x hx => hb x (List.mem_cons_of_mem _ hx)) (csts_lt 8 (xor_byte_lt hs hb0)) (csts_lt 8 (xor_byte_lt ht hb0)) h
    exact xor_cancel (csts_inj 8 (xor_byte_lt hs hb0) (xor_byte_lt ht hb0) h1)
theorem crc_app : ∀ (xs ys : List Nat) (s : Nat), crc s (xs ++ ys) = crc (crc s xs) ys
  | [], _, _ => rfl
  | _ :: xs, ys, _ => crc_app xs ys _
/-- One byte is another: the sum is another. -/
theorem crc_turned (xs ys : List Nat) (a b s : Nat) (hx : ∀ c ∈ xs, c < 256) (hy : ∀ c ∈ ys, c < 256) (ha : a < 256) (hb : b < 256) (hab : a ≠ b) (hs : s < 4294967296) :
    crc s (xs ++ a :: ys) ≠ crc s (xs ++ b :: ys) := by
  rw [crc_app, crc_app]
  intro h
  have h0 := crc_lt xs hx hs
  have h1 := crc_inj ys hy (csts_lt 8 (xor_byte_lt h0 ha)) (csts_lt 8 (xor_byte_lt h0 hb)) h
  have h2 := csts_inj 8 (xor_byte_lt h0 ha) (xor_byte_lt h0 hb) h1
  exact hab (xor_cancel' h2)
/-- A sum in four bytes, the highest first. -/
def four (n : Nat) : List Int := [((n / 16777216 % 256 : Nat) : Int), ((n / 65536 % 256 : Nat) : Int), ((n / 256 % 256 : Nat) : Int), ((n % 256 : Nat) : Int)]
theorem four_inj {m n : Nat} (hm : m < 4294967296) (hn : n < 4294967296) (h : four m = four n) : m = n := by
  simp only [four, List.cons.injEq] at h
  omega

theorem xor_nat {a b : Nat} (ha : a < 4294967296) (hb : b < 4294967296) : Go.bits .xor .u32 (a : Int) (b : Int) = ((a ^^^ b : Nat) : Int) := by
  have hx : a ^^^ b < 2 ^ 32 := Nat.xor_lt_two_pow (n := 32) (by omega) (by omega)
  have h32 : IntKind.u32.bits = 32 := rfl
  simp only [Go.bits, h32, BitVec.ofInt_natCast, BitVec.toNat_xor, BitVec.toNat_ofNat]
  rw [Nat.mod_eq_of_lt (show a < 2 ^ 32 by omega), Nat.mod_eq_of_lt (show b < 2 ^ 32 by omega), IntKind.wrap_u32]
  omega
theorem and_one {a : Nat} (ha : a < 4294967296) : Go.bits .and .u32 (a : Int) 1 = ((a % 2 : Nat) : Int) := by
  have := bits_mask .u32 32 (by decide) (fun n h0 h1 => by rw [IntKind.wrap_u32]; omega) 1 (by decide) (a : Int) (by omega) (by omega)
  simpa using this
/-- A text's bytes. -/
def nb (s : ByteArray) : List Nat := (bytesOf s).map Int.toNat
theorem nb_lt (s : ByteArray) : ∀ b ∈ nb s, b < 256 := by
  intro b hb
  obtain ⟨x, hx, rfl⟩ := List.mem_map.1 hb
  have := bytesOf_range s x hx
  omega
theorem nb_drop {s : ByteArray} {i : Nat} (h : i < s.size) : (nb s).drop i = (bt s (i : Int)).toNat :: (nb s).drop (i + 1) := by
  unfold nb
  rw [← List.map_drop, ← List.map_drop]
  have := bytesOf_drop (s := s) (i := (i : Int)) (by omega) (by omega)
  rw [Int.toNat_natCast, show ((i : Int) + 1).toNat = i + 1 by omega] at this
  rw [this]; rfl
theorem nb_drop_end {s : ByteArray} {i : Nat} (h : ¬ i < s.size) : (nb s).drop i = [] := by
  apply List.drop_eq_nil_of_le
  unfold nb
  rw [List.length_map, bytesOf_length]; omega
theorem nb_app (s t : ByteArray) : nb (s ++ t) = nb s ++ nb t := by simp [nb, bytesOf_app]
theorem sum_lt (s : ByteArray) {n : Nat} (h : n < 4294967296) : crc n (nb s) < 4294967296 := crc_lt _ (nb_lt s) h

def sumC (s : ByteArray) : Nat := crc 4294967295 (nb s)
theorem sumC_lt (s : ByteArray) : sumC s < 4294967296 := sum_lt s (by omega)
theorem four_bytes (n : Nat) : ∀ b ∈ four n, 0 ≤ b ∧ b ≤ 255 := by
  intro b hb
  simp only [four, List.mem_cons, List.not_mem_nil, or_false] at hb
  omega
/-- A sum in four bytes, as a text. -/
def fourT (n : Nat) : ByteArray := strOfNums (four n)
theorem bytesOf_fourT (n : Nat) : bytesOf (fourT n) = four n := bytesOf_str _ (four_bytes n)
theorem fourT_size (n : Nat) : (fourT n).size = 4 := by unfold fourT; rw [strOfNums_size]; rfl
theorem fourT_inj {m n : Nat} (hm : m < 4294967296) (hn : n < 4294967296) (h : fourT m = fourT n) : m = n := by
  have := congrArg bytesOf h
  rw [bytesOf_fourT, bytesOf_fourT] at this
  exact four_inj hm hn this

def sealC (s : ByteArray) : ByteArray × Bool := if s.size ≤ 20000 then (s ++ fourT (sumC s), true) else (⟨#[]⟩, false)
def unsealC (s : ByteArray) : ByteArray × Bool :=
  if 4 ≤ s.size ∧ s.size ≤ 20004 ∧ s.extract (s.size - 4) s.size = fourT (sumC (s.extract 0 (s.size - 4))) then (s.extract 0 (s.size - 4), true) else (⟨#[]⟩, false)
theorem extract_split (s : ByteArray) (n : Nat) : s.extract 0 n ++ s.extract n s.size = s := by
  apply bytesOf_inj
  rw [bytesOf_app, bytesOf_ext, bytesOf_ext, List.drop_zero, Nat.sub_zero]
  rw [List.take_of_length_le (i := s.size - n) (by rw [List.length_drop, bytesOf_length]; omega)]
  exact List.take_append_drop ..
theorem ext_size (s : ByteArray) {a b : Nat} (h1 : a ≤ b) (h2 : b ≤ s.size) : (s.extract a b).size = b - a := by
  rw [← bytesOf_length, bytesOf_ext, List.length_take, List.length_drop, bytesOf_length]; omega
theorem app_cancel {s t u : ByteArray} : s ++ t = s ++ u ↔ t = u := by
  constructor
  · intro h
    have := congrArg bytesOf h
    rw [bytesOf_app, bytesOf_app] at this
    exact bytesOf_inj (List.append_cancel_left this)
  · rintro rfl; rfl
theorem seal_key (s u : ByteArray) (n : Nat) : s.extract 0 n ++ u = s ↔ s.extract n s.size = u := by
  have hsp := extract_split s n
  constructor
  · intro h
    exact (app_cancel.1 (h.trans hsp.symm)).symm
  · rintro rfl
    exact hsp

/-! ### numbers in bytes, in plain Lean -/
/-- The bytes of a number: seven bits each, the lowest first. -/
def vl (n : Nat) : List Int := if 127 < n then ((n % 128 + 128 : Nat) : Int) :: vl (n / 128) else [(n : Int)]
  termination_by n
  decreasing_by omega
theorem vl_big {n : Nat} (h : 127 < n) : vl n = ((n % 128 + 128 : Nat) : Int) :: vl (n / 128) := by rw [vl, if_pos h]
theorem vl_small {n : Nat} (h : ¬ 127 < n) : vl n = [(n : Int)] := by rw [vl, if_neg h]
theorem vl_pos (n : Nat) : 0 < (vl n).length := by
  by_cases h : 127 < n
  · rw [vl_big h]; simp
  · rw [vl_small h]; simp
theorem vl_bytes (n : Nat) : ∀ b ∈ vl n, 0 ≤ b ∧ b ≤ 255 := by
  induction n using Nat.strongRecOn with
  | _ n ih =>
    by_cases h : 127 < n
    · rw [vl_big h]
      intro b hb
      rcases List.mem_cons.1 hb with rfl | hb
      · omega
      · exact ih _ (by omega) b hb
    · rw [vl_small h]
      intro b hb
      have := List.mem_singleton.1 hb
      omega
/-- The number that bytes make. -/
def dec : List Int → Int
  | [] => 0
  | b :: bs => b % 128 + 128 * dec bs
theorem dec_nonneg : ∀ bs : List Int, 0 ≤ dec bs
  | [] => by simp [dec]
  | b :: bs => by have := dec_nonneg bs; simp only [dec]; omega
theorem dec_vl (n : Nat) : dec (vl n) = (n : Int) := by
  induction n using Nat.strongRecOn with
  | _ n ih =>
    by_cases h : 127 < n
    · rw [vl_big h, dec, ih _ (by omega)]; omega
    · rw [vl_small h, dec, dec]; omega
theorem vl_form (n : Nat) : ∃ bs c, vl n = bs ++ [c] ∧ (∀ b ∈ bs, 128 ≤ b ∧ b ≤ 255) ∧ 0 ≤ c ∧ c ≤ 127 ∧ (bs = [] ∨ c ≠ 0) := by
  induction n using Nat.strongRecOn with
  | _ n ih =>
    by_cases h : 127 < n
    · obtain ⟨bs, c, h1, h2, h3, h4, h5⟩ := ih (n / 128) (by omega)
      refine ⟨((n % 128 + 128 : Nat) : Int) :: bs, c, by rw [vl_big h, h1]; rfl, ?_, h3, h4, .inr ?_⟩
      · intro b hb
        rcases List.mem_cons.1 hb with rfl | hb
        · omega
        · exact h2 b hb
      · rcases h5 with rfl | h5
        · have := dec_vl (n / 128)
          rw [h1] at this
          simp [dec] at this
          omega
        · exact h5
    · exact ⟨[], (n : Int), by rw [vl_small h]; rfl, by simp, by omega, by omega, .inl rfl⟩
theorem dec_pos : ∀ (bs : List Int) (c : Int), (∀ b ∈ bs, 128 ≤ b ∧ b ≤ 255) → 0 ≤ c → c ≤ 127 → c ≠ 0 → 1 ≤ dec (bs ++ [c])
  | [], c, _, h0, h1, h2 => by simp [dec]; omega
  | b :: bs, c, h, h0, h1, h2 => by
    have := dec_pos bs c (fun x hx => h x (List.mem_cons_of_mem _ hx)) h0 h1 h2
    simp only [List.cons_append, dec]; omega
theorem vl_dec : ∀ (bs : List Int) (c : Int), (∀ b ∈ bs, 128 ≤ b ∧ b ≤ 255) → 0 ≤ c → c ≤ 127 → (bs = [] ∨ c ≠ 0) → vl (dec (bs ++ [c])).toNat = bs ++ [c]
  | [], c, _, h0, h1, _ => by
    have e : (dec ([] ++ [c])).toNat = c.toNat := by simp [dec]; omega
    rw [e, vl_small (by omega)]
    simp; omega
  | b :: bs, c, h, h0, h1, h2 => by
    have hc : c ≠ 0 := by rcases h2 with h2 | h2 <;> simp_all
    have hb := h b List.mem_cons_self
    have hp := dec_pos bs c (fun x hx => h x (List.mem_cons_of_mem _ hx)) h0 h1 hc
    have ih := vl_dec bs c (fun x hx => h x (List.mem_cons_of_mem _ hx)) h0 h1 (.inr hc)
    have e : dec (b :: bs ++ [c]) = b % 128 + 128 * dec (bs ++ [c]) := by simp only [List.cons_append, dec]
    rw [e, vl_big (by omega)]
    have e2 : (b % 128 + 128 * dec (bs ++ [c])).toNat / 128 = (dec (bs ++ [c])).toNat := by omega
    rw [e2, ih]
    simp only [List.cons_append, List.cons.injEq, and_true]
    omega
/-- No longer form: the last byte is nought behind others. -/
theorem vl_ne (bs : List Int) (hb : bs ≠ []) (m : Nat) : vl m ≠ bs ++ [(0 : Int)] := by
  intro e
  obtain ⟨bs', c', h1, h2, h3, h4, h5⟩ := vl_form m
  rw [h1] at e
  have := List.append_inj' e rfl
  obtain ⟨rfl, e2⟩ := this
  simp at e2
  rcases h5 with h5 | h5
  · exact hb h5
  · exact h5 e2

/-- What ReadVar does with the bytes from a place on: k of them are gone, n is what they made. -/
def rvL : Nat → List Int → Nat → Int → Option (Int × Nat)
  | 0, _, _, _ => none
  | _ + 1, [], _, _ => none
  | f + 1, b :: bs, k, n =>
    if b < 128 then (if (b = 0 ∧ 0 < k) ∨ 1000000000 < n + b % 128 * 128 ^ k then none else some (n + b % 128 * 128 ^ k, k + 1))
    else rvL f bs (k + 1) (n + b % 128 * 128 ^ k)
theorem dec_app : ∀ (xs ys : List Int), dec (xs ++ ys) = dec xs + 128 ^ xs.length * dec ys
  | [], ys => by simp [dec]
  | x :: xs, ys => by
    have := dec_app xs ys
    simp only [List.cons_append, dec, List.length_cons, Int.pow_succ] at this ⊢
    rw [this, Int.mul_add, ← Int.mul_assoc, Int.mul_comm (128 : Int) (128 ^ xs.length)]
    omega
theorem dec_one (b : Int) : dec [b] = b % 128 := by simp [dec]
theorem dec_snoc (xs : List Int) (b : Int) : dec (xs ++ [b]) = dec xs + b % 128 * 128 ^ xs.length := by
  rw [dec_app, dec_one, Int.mul_comm]
theorem rvL_sound : ∀ (f : Nat) (bs : List Int) (k : Nat) (pre : List Int) (m : Int) (j : Nat), (∀ b ∈ pre, 128 ≤ b ∧ b ≤ 255) → pre.length = k → (∀ b ∈ bs, 0 ≤ b ∧ b ≤ 255) →
    rvL f bs k (dec pre) = some (m, j) → 0 ≤ m ∧ m ≤ 1000000000 ∧ k < j ∧ j ≤ k + bs.length ∧ vl m.toNat = pre ++ bs.take (j - k)
  | 0, _, _, _, _, _, _, _, _, h => by simp [rvL] at h
  | _ + 1, [], _, _, _, _, _, _, _, h => by simp [rvL] at h
  | f + 1, b :: bs, k, pre, m, j, hp, hk, hb, h => by
    have hb0 := hb b List.mem_cons_self
    have hn : dec pre + b % 128 * 128 ^ k = dec (pre ++ [b]) := by rw [dec_snoc, hk]
    simp only [rvL] at h
    rw [hn] at h
    by_cases h1 : b < 128
    · rw [if_pos h1] at h
      by_cases h2 : (b = 0 ∧ 0 < k) ∨ 1000000000 < dec (pre ++ [b])
      · rw [if_pos h2] at h; cases h
      · rw [if_neg h2] at h
        simp only [Option.some.injEq, Prod.mk.injEq] at h
        obtain ⟨rfl, rfl⟩ := h
        refine ⟨dec_nonneg _, by omega, by omega, by simp, ?_⟩
        rw [vl_dec pre b hp hb0.1 (by omega) (by
          rcases Nat.eq_zero_or_pos k with h0 | h0
          · left; exact List.eq_nil_of_length_eq_zero (by omega)
          · right; intro e; exact h2 (.inl ⟨e, h0⟩))]
        rw [show k + 1 - k = 1 by omega]; rfl
    · rw [if_neg h1] at h
      obtain ⟨h3, h4, h5, h6, h7⟩ := rvL_sound f bs (k + 1) (pre ++ [b]) m j (by
        intro x hx
        rcases List.mem_append.1 hx with hx | hx
        · exact hp x hx
        · have := List.mem_singleton.1 hx
          subst this
          omega) (by simp [hk]) (fun x hx => hb x (List.mem_cons_of_mem _ hx)) h
      refine ⟨h3, h4, by omega, by simp only [List.length_cons]; omega, ?_⟩
      rw [h7, show j - k = (j - (k + 1)) + 1 by omega, List.take_succ_cons, List.append_assoc]; rfl
theorem rvL_full : ∀ (t : List Int) (f : Nat) (rest : List Int) (m : Nat) (pre : List Int), vl m = pre ++ t → t ≠ [] → t.length ≤ f → m ≤ 1000000000 →
    rvL f (t ++ rest) pre.length (dec pre) = some ((m : Int), (vl m).length)
  | [], _, _, _, _, _, h, _, _ => absurd rfl h
  | b :: t, 0, _, _, _, _, _, h, _ => by simp at h
  | b :: t, f + 1, rest, m, pre, hm, _, hf, hmax => by
    have hn : dec pre + b % 128 * 128 ^ pre.length = dec (pre ++ [b]) := by rw [dec_snoc]
    obtain ⟨bs, c, h1, h2, h3, h4, h5⟩ := vl_form m
    simp only [List.cons_append, rvL]
    rw [hn]
    cases t with
    | nil =>
      have e : bs ++ [c] = pre ++ [b] := by rw [← h1, hm]
      obtain ⟨rfl, e2⟩ := List.append_inj' e rfl
      simp only [List.cons.injEq, and_true] at e2
      subst e2
      have hd : dec (bs ++ [c]) = (m : Int) := by rw [← h1, dec_vl]
      rw [hd, if_pos (by omega), if_neg (by
        rintro (⟨h6, h7⟩ | h6)
        · rcases h5 with rfl | h5
          · simp at h7
          · exact h5 h6
        · omega)]
      simp [hm]
    | cons b2 t =>
      have hbm : b ∈ bs := by
        have e : bs ++ [c] = pre ++ b :: b2 :: t := by rw [← h1, hm]
        have e2 : pre ++ b :: b2 :: t = (pre ++ b :: (b2 :: t).dropLast) ++ [(b2 :: t).getLast (by simp)] := by
          rw [List.append_assoc, List.cons_append, List.dropLast_concat_getLast]
        rw [e2] at e
        obtain ⟨rfl, _⟩ := List.append_inj' e rfl
        simp
      have := h2 b hbm
      rw [if_neg (by omega)]
      have ih := rvL_full (b2 :: t) f rest m (pre ++ [b]) (by rw [hm]; simp) (by simp) (by simp at hf ⊢; omega) hmax
      simpa using ih
theorem vl_len : ∀ (j m : Nat), 1 ≤ j → m < 128 ^ j → (vl m).length ≤ j
  | 0, _, h, _ => by omega
  | j + 1, m, _, h => by
    by_cases h1 : 127 < m
    · rw [vl_big h1]
      rcases Nat.eq_zero_or_pos j with rfl | hj
      · simp at h; omega
      · have := vl_len j (m / 128) hj (by rw [Nat.pow_succ] at h; omega)
        simp only [List.length_cons]; omega
    · rw [vl_small h1]; simp
/-- ReadVar's answer at the bytes that are left. -/
def rv (bs : List Int) : Option (Int × Nat) := rvL 5 bs 0 0
theorem rv_sound {bs : List Int} {m : Int} {j : Nat} (hb : ∀ b ∈ bs, 0 ≤ b ∧ b ≤ 255) (h : rv bs = some (m, j)) : 0 ≤ m ∧ m ≤ 1000000000 ∧ 0 < j ∧ j ≤ bs.length ∧ vl m.toNat = bs.take j := by
  obtain ⟨h1, h2, h3, h4, h5⟩ := rvL_sound 5 bs 0 [] m j (by simp) rfl hb h
  exact ⟨h1, h2, h3, by omega, by simpa using h5⟩
theorem rv_full (m : Nat) (rest : List Int) (hm : m ≤ 1000000000) : rv (vl m ++ rest) = some ((m : Int), (vl m).length) :=
  rvL_full (vl m) 5 rest m [] rfl (by have := vl_pos m; intro e; rw [e] at this; simp at this) (vl_len 5 m (by omega) (by omega)) hm

def varC (n : Int) : ByteArray × Bool := if 0 ≤ n ∧ n ≤ 1000000000 then (strOfNums (vl n.toNat), true) else (⟨#[]⟩, false)
def varT (n : Int) : ByteArray := strOfNums (vl n.toNat)
theorem bytesOf_varT (n : Int) : bytesOf (varT n) = vl n.toNat := bytesOf_str _ (vl_bytes _)

theorem varT_size {n : Int} (h0 : 0 ≤ n) (h1 : n ≤ 9223372036854775807) : (varT n).size ≤ 10 := by
  unfold varT
  rw [strOfNums_size]
  exact vl_len 10 n.toNat (by omega) (by omega)
def shortT (s : ByteArray) : ByteArray := varT (s.size : Int) ++ s
def shortC (s : ByteArray) : ByteArray × Bool := if s.size ≤ 20000 then (shortT s, true) else (⟨#[]⟩, false)

def snapT (i t : Int) (c : ByteArray) (b : ByteArray) : ByteArray := ((varT i ++ varT t) ++ shortT c) ++ shortT b
def snapC (i t : Int) (l : List Int) (b : ByteArray) : ByteArray × Bool :=
  if (0 ≤ i ∧ i ≤ 1000000) ∧ (0 ≤ t ∧ t ≤ 100000) ∧ confC l = true ∧ b.size ≤ 20000 ∧ (snapT i t (oneB l) b).size ≤ 19996
  then (snapT i t (oneB l) b ++ fourT (sumC (snapT i t (oneB l) b)), true) else (⟨#[]⟩, false)
theorem shortT_size {s : ByteArray} (h : s.size ≤ 9223372036854775807) : (shortT s).size ≤ s.size + 10 := by
  unfold shortT
  rw [ByteArray.size_append]
  have := varT_size (n := (s.size : Int)) (by omega) (by omega)
  omega
theorem oneB_len (l : List Int) : (oneB l).size = l.length := by unfold oneB; rw [strOfNums_size, List.length_map]
theorem snapT_size {i t : Int} {l : List Int} {b : ByteArray} (h1 : 0 ≤ i ∧ i ≤ 1000000) (h2 : 0 ≤ t ∧ t ≤ 100000) (h3 : confC l = true) (h4 : b.size ≤ 20000) : (snapT i t (oneB l) b).size ≤ 20054 := by
  unfold snapT
  simp only [ByteArray.size_append]
  have z1 := varT_size (n := i) (by omega) (by omega)
  have z2 := varT_size (n := t) (by omega) (by omega)
  have z3 := oneB_len l
  have z4 := confC_len h3
  have z5 := shortT_size (s := oneB l) (by omega)
  have z6 := shortT_size (s := b) (by omega)
  omega

theorem spec_l01In_eq (a b c : Int) : spec_l01In.f a b c = some (decide (b ≤ a ∧ a ≤ c)) := by
  unfold spec_l01In.f
  by_cases h : a ≥ b
  · rw [if_pos h]; simp [show b ≤ a from h]
  · rw [if_neg h]; simp [show ¬ b ≤ a from h]

theorem spec_l05Rise_l0 (l : List Int) (hl : l.length ≤ 140737488351232) : ∀ (d i : Nat), i + d = l.length →
    Ev (fun k => spec_l05Rise.l0 k l 1 4 (i : Int)) (riseL (prv l i) (l.drop i))
  | 0, i, hd => by
    refine Ev.step (f := fun _ => some true) (fun k => ?_) ?_
    · simp only [spec_l05Rise.l0]; rw [if_neg (by omega)]
    · rw [List.drop_eq_nil_of_le (by omega)]; exact Ev.now _
  | d + 1, i, hd => by
    have ih := spec_l05Rise_l0 l hl d (i + 1) (by omega)
    rw [prv_succ] at ih
    rw [drop_rd (by omega)]
    simp only [riseL]
    have hw : wrap64 ((i : Int) + 1) = ((i + 1 : Nat) : Int) := by rw [w64 (by omega) (by omega)]; rfl
    have hw2 : wrap64 ((i : Int) - 1) = (i : Int) - 1 := w64 (by omega) (by omega)
    by_cases h1 : 1 ≤ rd l (i : Int) ∧ rd l (i : Int) ≤ 4
    · by_cases h2 : prv l i < rd l (i : Int)
      · rw [if_pos ⟨h1.1, h1.2, h2⟩]
        refine Ev.step (f := fun k => spec_l05Rise.l0 k l 1 4 ((i + 1 : Nat) : Int)) (fun k => ?_) ih
        simp only [spec_l05Rise.l0, spec_l01In_eq]
        rw [if_pos (by omega), if_pos (by omega), Option.bind_some, if_pos (by simpa using h1), hw, hw2]
        by_cases h3 : (i : Int) > 0
        · unfold prv at h2
          rw [if_neg (by omega)] at h2
          rw [if_pos h3, if_pos (by omega), if_pos (by omega), if_neg (by omega)]
        · rw [if_neg h3]
      · rw [if_neg (fun h => h2 h.2.2)]
        refine Ev.step (f := fun _ => some false) (fun k => ?_) (Ev.now _)
        have h3 : (i : Int) > 0 := by
          rcases Nat.eq_zero_or_pos i with rfl | h3
          · rw [show prv l 0 = 0 from rfl] at h2; omega
          · omega
        unfold prv at h2
        rw [if_neg (by omega)] at h2
        simp only [spec_l05Rise.l0, spec_l01In_eq]
        rw [if_pos (by omega), if_pos (by omega), Option.bind_some, if_pos (by simpa using h1), hw2, if_pos h3, if_pos (by omega), if_pos (by omega), if_pos (by omega)]
    · rw [if_neg (fun h => h1 ⟨h.1, h.2.1⟩)]
      refine Ev.step (f := fun _ => some false) (fun k => ?_) (Ev.now _)
      simp only [spec_l05Rise.l0, spec_l01In_eq]
      rw [if_pos (by omega), if_pos (by omega), Option.bind_some, if_neg (by simpa using h1)]
theorem spec_ConfOk_ev (l : List Int) (hl : l.length ≤ 140737488351232) : Ev (fun k => spec_ConfOk.f k l) (confC l) := by
  by_cases h : 1 ≤ l.length ∧ l.length ≤ 4
  · obtain ⟨K, hK⟩ := spec_l05Rise_l0 l hl l.length 0 (by omega)
    refine ⟨K, fun k hk => ?_⟩
    have e : spec_l05Rise.l0 k l 1 4 0 = some _ := hK k hk
    simp only [spec_ConfOk.f, spec_l05Rise.f, spec_l01In_eq]
    rw [Option.bind_some, if_pos (by simp; omega), e, Option.bind_some]
    unfold confC
    rw [decide_eq_true h.1]; rfl
  · refine ⟨0, fun k _ => ?_⟩
    simp only [spec_ConfOk.f, spec_l01In_eq]
    rw [Option.bind_some, if_neg (by simp; omega)]
    cases hc : confC l with
    | false => rfl
    | true => exact absurd (confC_len hc) h

theorem spec_ConfText_l0 (l : List Int) (hl : l.length ≤ 17592186043904) : ∀ (d i : Nat), i + d = l.length →
    Ev (fun k => spec_ConfText.l0 k l ((l.take i).map (· % 256)) (i : Int)) (oneB l, true)
  | 0, i, hd => by
    refine Ev.step (f := fun _ => some (oneB l, true)) (fun k => ?_) (Ev.now _)
    simp only [spec_ConfText.l0]; rw [if_neg (by omega), List.take_of_length_le (by omega)]; rfl
  | d + 1, i, hd => by
    have hlen : ((l.take i).map (· % 256)).length = i := by rw [List.length_map, List.length_take]; omega
    refine Ev.step (f := fun k => spec_ConfText.l0 k l ((l.take (i + 1)).map (· % 256)) ((i + 1 : Nat) : Int)) (fun k => ?_) (spec_ConfText_l0 l hl d (i + 1) (by omega))
    simp only [spec_ConfText.l0]
    rw [if_pos (by omega), if_pos (by omega), if_pos (by omega), w64 (by omega) (by omega), map_take_rd (by omega)]; rfl
theorem spec_ConfText_ev (l : List Int) (hl : l.length ≤ 17592186043904) : Ev (fun k => spec_ConfText.f k l) (confTC l) := by
  obtain ⟨K, hK⟩ := spec_ConfOk_ev l (by omega)
  obtain ⟨K2, hK2⟩ := spec_ConfText_l0 l hl l.length 0 (by omega)
  refine ⟨K + K2, fun k hk => ?_⟩
  have e : spec_ConfOk.f k l = some _ := hK k (by omega)
  have e2 : spec_ConfText.l0 k l [] 0 = some _ := hK2 k (by omega)
  simp only [spec_ConfText.f, confTC]
  rw [e, Option.bind_some]
  by_cases h : confC l = true
  · rw [if_pos h, if_pos h, e2]
  · rw [if_neg h, if_neg h]

theorem spec_l01Var_l0 (n : Nat) : ∀ out : List Int, n ≤ 9223372036854775807 → out.length + (vl n).length ≤ 140737488355328 →
    Ev (fun k => spec_l01Var.l0 k (n : Int) out) (strOfNums (out ++ vl n)) := by
  induction n using Nat.strongRecOn with
  | _ n ih =>
    intro out hn hl
    by_cases h : 127 < n
    · rw [vl_big h] at hl ⊢
      simp only [List.length_cons] at hl
      refine Ev.step (f := fun k => spec_l01Var.l0 k ((n / 128 : Nat) : Int) (out ++ [((n % 128 + 128 : Nat) : Int)])) (fun k => ?_) ?_
      · simp only [spec_l01Var.l0]
        rw [if_pos (by omega), if_pos (by omega), tmod_nat (by omega), tdiv_nat (by omega), w64 (by omega) (by omega), w64 (by omega) (by omega)]
        congr 3
        omega
      · have := ih (n / 128) (by omega) (out ++ [((n % 128 + 128 : Nat) : Int)]) (by omega) (by simp; omega)
        rwa [List.append_assoc] at this
    · rw [vl_small h] at hl ⊢
      simp only [List.length_cons, List.length_nil] at hl
      refine Ev.step (f := fun _ => some (strOfNums (out ++ [(n : Int)]))) (fun k => ?_) (Ev.now _)
      simp only [spec_l01Var.l0]
      rw [if_neg (by omega), if_pos (by omega), show (n : Int) % 256 = n by omega]
theorem spec_l01Var_ev {n : Int} (h0 : 0 ≤ n) (h1 : n ≤ 9223372036854775807) : Ev (fun k => spec_l01Var.f k n) (varT n) := by
  have hl := vl_len 10 n.toNat (by omega) (by omega)
  have := spec_l01Var_l0 n.toNat [] (by omega) (by simp; omega)
  rw [Int.toNat_of_nonneg h0] at this
  exact this

theorem spec_l05Short_ev (s : ByteArray) (hs : s.size ≤ 1048576) : Ev (fun k => spec_l05Short.f k s) (shortT s) := by
  obtain ⟨K, hK⟩ := spec_l01Var_ev (n := (s.size : Int)) (by omega) (by omega)
  refine ⟨K, fun k hk => ?_⟩
  have e : spec_l01Var.f k (s.size : Int) = some _ := hK k hk
  have := varT_size (n := (s.size : Int)) (by omega) (by omega)
  simp only [spec_l05Short.f]
  rw [e, Option.bind_some, if_pos (by omega)]; rfl

theorem spec_SumMore_l0 (s : ByteArray) (hs : s.size ≤ 140737488351232) : ∀ (d i : Nat), i + d = s.size → ∀ x : Nat, x < 4294967296 →
    Ev (fun k => spec_SumMore.l0 k (x : Int) s (i : Int)) ((crc x ((nb s).drop i) : Nat) : Int)
  | 0, i, hd, x, _ => by
    refine Ev.step (f := fun _ => some (x : Int)) (fun k => ?_) ?_
    · simp only [spec_SumMore.l0]; rw [if_neg (by omega)]
    · rw [nb_drop_end (by omega)]; exact Ev.now _
  | d + 1, i, hd, x, hx => by
    have hb := bt_range s (i : Int)
    obtain ⟨b, hb'⟩ := Int.eq_ofNat_of_zero_le hb.1
    have hbl : b < 256 := by omega
    have inner : ∀ (e j : Nat), j + e = 8 → ∀ y : Nat, y < 4294967296 → Ev (fun k => spec_SumMore.l1 k (y : Int) s (i : Int) (j : Int)) ((crc (csts e y) ((nb s).drop (i + 1)) : Nat) : Int) := by
      intro e
      induction e with
      | zero =>
        intro j hj y hy
        refine Ev.step (f := fun k => spec_SumMore.l0 k (y : Int) s ((i + 1 : Nat) : Int)) (fun k => ?_) (spec_SumMore_l0 s hs d (i + 1) (by omega) y hy)
        simp only [spec_SumMore.l1]
        rw [if_neg (by omega), w64 (by omega) (by omega)]; rfl
      | succ e ih =>
        intro j hj y hy
        refine Ev.step (f := fun k => spec_SumMore.l1 k ((cst y : Nat) : Int) s (i : Int) ((j + 1 : Nat) : Int)) (fun k => ?_) (ih (j + 1) (by omega) (cst y) (cst_lt hy))
        simp only [spec_SumMore.l1]
        rw [if_pos (by omega), w64 (by omega) (by omega), tmod_nat (by omega), tdiv_nat (by omega), show (y : Int) / 2 % 4294967296 = ((y / 2 : Nat) : Int) by omega]
        unfold cst
        by_cases h1 : y % 2 = 1
        · rw [if_pos (by omega), if_pos h1, show (3558460437 : Int) = ((3558460437 : Nat) : Int) from rfl, xor_nat (by omega) (by omega)]; rfl
        · rw [if_neg (by omega), if_neg h1]; rfl
    refine Ev.step (f := fun k => spec_SumMore.l1 k ((x ^^^ b : Nat) : Int) s (i : Int) ((0 : Nat) : Int)) (fun k => ?_) ?_
    · simp only [spec_SumMore.l0]
      rw [if_pos (by omega), if_pos (by omega), hb', show (b : Int) % 4294967296 = (b : Int) by omega, xor_nat hx (by omega)]; rfl
    · have h := inner 8 0 rfl (x ^^^ b) (xor_byte_lt hx hbl)
      rw [nb_drop (by omega), hb', Int.toNat_natCast]
      exact h
theorem spec_SumMore_ev (s : ByteArray) (x : Nat) (hx : x < 4294967296) (hs : s.size ≤ 140737488351232) : Ev (fun k => spec_SumMore.f k (x : Int) s) ((crc x (nb s) : Nat) : Int) :=
  spec_SumMore_l0 s hs s.size 0 (by omega) x hx

theorem spec_SumOf_ev (s : ByteArray) (hs : s.size ≤ 140737488351232) : Ev (fun k => spec_SumOf.f k s) ((sumC s : Nat) : Int) := by
  obtain ⟨K, hK⟩ := spec_SumMore_ev s 4294967295 (by omega) hs
  refine ⟨K, fun k hk => ?_⟩
  have e : spec_SumMore.f k 4294967295 s = some _ := hK k hk
  simp only [spec_SumOf.f]
  rw [e]; rfl

theorem spec_l02Four_eq (n : Nat) : spec_l02Four.f (n : Int) = some (fourT n) := by
  simp only [spec_l02Four.f, fourT, four]
  congr 2

theorem spec_Sealed_ev (s : ByteArray) (hs : s.size ≤ 140737488351232) : Ev (fun k => spec_Sealed.f k s) (sealC s) := by
  by_cases h : s.size ≤ 20000
  · obtain ⟨K, hK⟩ := spec_SumOf_ev s hs
    refine ⟨K, fun k hk => ?_⟩
    have e : spec_SumOf.f k s = some _ := hK k hk
    have hz := fourT_size (sumC s)
    simp only [spec_Sealed.f, sealC]
    rw [if_neg (by omega), e, Option.bind_some, spec_l02Four_eq, Option.bind_some, if_pos (by omega), if_pos h]
  · refine ⟨0, fun k _ => ?_⟩
    simp only [spec_Sealed.f, sealC]
    rw [if_pos (by omega), if_neg h]

theorem spec_SnapText_ev (i t : Int) (l : List Int) (b : ByteArray) (hl : l.length ≤ 1048576) : Ev (fun k => spec_SnapText.f k i t l b) (snapC i t l b) := by
  obtain ⟨K0, h0⟩ := spec_ConfText_ev l (by omega)
  by_cases hc : confC l = true
  · by_cases h1 : 0 ≤ i ∧ i ≤ 1000000
    · by_cases h2 : 0 ≤ t ∧ t ≤ 100000
      · by_cases h3 : b.size ≤ 20000
        · obtain ⟨K1, g1⟩ := spec_l01Var_ev (n := i) (by omega) (by omega)
          obtain ⟨K2, g2⟩ := spec_l01Var_ev (n := t) (by omega) (by omega)
          have z3 := oneB_len l
          have z4 := confC_len hc
          obtain ⟨K3, g3⟩ := spec_l05Short_ev (oneB l) (by omega)
          obtain ⟨K4, g4⟩ := spec_l05Short_ev b (by omega)
          have hz := snapT_size h1 h2 hc h3
          obtain ⟨K5, g5⟩ := spec_Sealed_ev (snapT i t (oneB l) b) (by omega)
          refine ⟨K0 + K1 + K2 + K3 + K4 + K5 + 1, fun k hk => ?_⟩
          obtain ⟨k, rfl⟩ : ∃ m, k = m + 1 := ⟨k - 1, by omega⟩
          have e0 : spec_ConfText.f (k + 1) l = some _ := h0 _ (by omega)
          have e1 : spec_l01Var.f k i = some _ := g1 _ (by omega)
          have e2 : spec_l01Var.f k t = some _ := g2 _ (by omega)
          have e3 : spec_l05Short.f k (oneB l) = some _ := g3 _ (by omega)
          have e4 : spec_l05Short.f k b = some _ := g4 _ (by omega)
          have e5 : spec_Sealed.f k (((varT i ++ varT t) ++ shortT (oneB l)) ++ shortT b) = some _ := g5 _ (by omega)
          have hsz : (((varT i ++ varT t) ++ shortT (oneB l)) ++ shortT b).size ≤ 20054 := hz
          have hsz2 := hsz
          simp only [ByteArray.size_append] at hsz2
          unfold confTC at e0
          rw [if_pos hc] at e0
          simp only [spec_SnapText.f, spec_l01In_eq]
          rw [e0, Option.bind_some, if_pos rfl, Option.bind_some, if_pos (by simpa using h1), Option.bind_some, if_pos (by simpa using h2), decide_eq_false (by omega)]
          simp only [spec_SnapText.j0]
          rw [if_neg (by simp), e1, Option.bind_some, e2, Option.bind_some, if_pos (by omega), e3, Option.bind_some, if_pos (by simp only [ByteArray.size_append]; omega), e4, Option.bind_some, if_pos (by simp only [ByteArray.size_append]; omega), w64 (by omega) (by omega), e5]
          unfold snapC
          by_cases h4 : (snapT i t (oneB l) b).size ≤ 19996
          · rw [if_neg (by show ¬ (((((varT i ++ varT t) ++ shortT (oneB l)) ++ shortT b).size : Int) + 4 > 20000); have : (((varT i ++ varT t) ++ shortT (oneB l)) ++ shortT b).size ≤ 19996 := h4; omega), Option.bind_some, if_pos ⟨h1, h2, hc, h3, h4⟩]
            unfold sealC
            rw [if_pos (by omega)]
          · rw [if_pos (by show (((((varT i ++ varT t) ++ shortT (oneB l)) ++ shortT b).size : Int) + 4 > 20000); have : ¬ (((varT i ++ varT t) ++ shortT (oneB l)) ++ shortT b).size ≤ 19996 := h4; omega), if_neg (fun h => h4 h.2.2.2.2)]
        · refine ⟨K0 + 1, fun k hk => ?_⟩
          obtain ⟨k, rfl⟩ : ∃ m, k = m + 1 := ⟨k - 1, by omega⟩
          have e0 : spec_ConfText.f (k + 1) l = some _ := h0 _ (by omega)
          unfold confTC at e0
          rw [if_pos hc] at e0
          simp only [spec_SnapText.f, spec_l01In_eq, snapC]
          rw [e0, Option.bind_some, if_pos rfl, Option.bind_some, if_pos (by simpa using h1), Option.bind_some, if_pos (by simpa using h2), decide_eq_true (by omega), if_neg (fun h => h3 h.2.2.2.1)]
          simp only [spec_SnapText.j0]; rw [if_pos trivial]
      · refine ⟨K0 + 1, fun k hk => ?_⟩
        obtain ⟨k, rfl⟩ : ∃ m, k = m + 1 := ⟨k - 1, by omega⟩
        have e0 : spec_ConfText.f (k + 1) l = some _ := h0 _ (by omega)
        unfold confTC at e0
        rw [if_pos hc] at e0
        simp only [spec_SnapText.f, spec_l01In_eq, snapC]
        rw [e0, Option.bind_some, if_pos rfl, Option.bind_some, if_pos (by simpa using h1), Option.bind_some, if_neg (by simpa using h2), if_neg (fun h => h2 h.2.1)]
        simp only [spec_SnapText.j0]; rw [if_pos trivial]
    · refine ⟨K0 + 1, fun k hk => ?_⟩
      obtain ⟨k, rfl⟩ : ∃ m, k = m + 1 := ⟨k - 1, by omega⟩
      have e0 : spec_ConfText.f (k + 1) l = some _ := h0 _ (by omega)
      unfold confTC at e0
      rw [if_pos hc] at e0
      simp only [spec_SnapText.f, spec_l01In_eq, snapC]
      rw [e0, Option.bind_some, if_pos rfl, Option.bind_some, if_neg (by simpa using h1), if_neg (fun h => h1 h.1)]
      simp only [spec_SnapText.j0]; rw [if_pos trivial]
  · refine ⟨K0 + 1, fun k hk => ?_⟩
    obtain ⟨k, rfl⟩ : ∃ m, k = m + 1 := ⟨k - 1, by omega⟩
    have e0 : spec_ConfText.f (k + 1) l = some _ := h0 _ (by omega)
    unfold confTC at e0
    rw [if_neg hc] at e0
    simp only [spec_SnapText.f, snapC]
    rw [e0, Option.bind_some, if_neg (by simp), if_neg (fun h => hc h.2.2.1)]
    simp only [spec_SnapText.j0]; rw [if_pos trivial]

theorem impl_in_eq (a b c : Int) : impl_in.f a b c = some (decide (b ≤ a ∧ a ≤ c)) := by
  unfold impl_in.f
  by_cases h : a ≥ b
  · rw [if_pos h]; simp [show b ≤ a from h]
  · rw [if_neg h]; simp [show ¬ b ≤ a from h]

theorem impl_ConfOk_l0 (l : List Int) (hl : l.length ≤ 140737488351232) : ∀ (d i : Nat), i + d = l.length →
    Ev (fun k => impl_ConfOk.l0 k l l (l.length : Int) (i : Int)) (riseL (prv l i) (l.drop i) && decide (1 ≤ l.length))
  | 0, i, hd => by
    refine Ev.step (f := fun _ => some (decide ((l.length : Int) ≥ 1))) (fun k => ?_) ?_
    · simp only [impl_ConfOk.l0]; rw [if_neg (by omega)]
    · rw [List.drop_eq_nil_of_le (by omega)]
      have : (true && decide (1 ≤ l.length)) = decide ((l.length : Int) ≥ 1) := by
        rw [Bool.true_and]
        by_cases h : 1 ≤ l.length
        · rw [decide_eq_true h, decide_eq_true (by omega)]
        · rw [decide_eq_false h, decide_eq_false (by omega)]
      simp only [riseL]
      rw [this]
      exact Ev.now _
  | d + 1, i, hd => by
    have ih := impl_ConfOk_l0 l hl d (i + 1) (by omega)
    rw [prv_succ] at ih
    rw [drop_rd (by omega)]
    simp only [riseL]
    have hw : wrap64 ((i : Int) + 1) = ((i + 1 : Nat) : Int) := by rw [w64 (by omega) (by omega)]; rfl
    have hw2 : wrap64 ((i : Int) - 1) = (i : Int) - 1 := w64 (by omega) (by omega)
    by_cases h1 : 1 ≤ rd l (i : Int) ∧ rd l (i : Int) ≤ 4
    · by_cases h2 : prv l i < rd l (i : Int)
      · rw [if_pos ⟨h1.1, h1.2, h2⟩]
        refine Ev.step (f := fun k => impl_ConfOk.l0 k l l (l.length : Int) ((i + 1 : Nat) : Int)) (fun k => ?_) ih
        simp only [impl_ConfOk.l0, impl_in_eq]
        rw [if_pos (by omega), if_pos (by omega), if_pos (by omega), Option.bind_some, if_pos (by simpa using h1), hw, hw2]
        by_cases h3 : (i : Int) > 0
        · unfold prv at h2
          rw [if_neg (by omega)] at h2
          rw [if_pos h3, if_pos (by omega), if_pos (by omega), if_neg (by omega)]
        · rw [if_neg h3]
      · rw [if_neg (fun h => h2 h.2.2)]
        refine Ev.step (f := fun _ => some false) (fun k => ?_) (Ev.now _)
        have h3 : (i : Int) > 0 := by
          rcases Nat.eq_zero_or_pos i with rfl | h3
          · rw [show prv l 0 = 0 from rfl] at h2; omega
          · omega
        unfold prv at h2
        rw [if_neg (by omega)] at h2
        simp only [impl_ConfOk.l0, impl_in_eq]
        rw [if_pos (by omega), if_pos (by omega), if_pos (by omega), Option.bind_some, if_pos (by simpa using h1), hw2, if_pos h3, if_pos (by omega), if_pos (by omega), if_pos (by omega)]
    · rw [if_neg (fun h => h1 ⟨h.1, h.2.1⟩)]
      refine Ev.step (f := fun _ => some false) (fun k => ?_) (Ev.now _)
      simp only [impl_ConfOk.l0, impl_in_eq]
      rw [if_pos (by omega), if_pos (by omega), if_pos (by omega), Option.bind_some, if_neg (by simpa using h1)]
theorem impl_ConfOk_ev (l : List Int) (hl : l.length ≤ 140737488351232) : Ev (fun k => impl_ConfOk.f k l) (confC l) := by
  have h := impl_ConfOk_l0 l hl l.length 0 (by omega)
  unfold confC
  rw [Bool.and_comm]
  exact h

theorem impl_oneByte_l0 (l : List Int) (hl : l.length ≤ 17592186043904) : ∀ (d i : Nat), i + d = l.length →
    Ev (fun k => impl_oneByte.l0 k ((l.take i).map (· % 256)) l (l.length : Int) (i : Int)) (oneB l)
  | 0, i, hd => by
    refine Ev.step (f := fun _ => some (oneB l)) (fun k => ?_) (Ev.now _)
    simp only [impl_oneByte.l0]; rw [if_neg (by omega), List.take_of_length_le (by omega)]; rfl
  | d + 1, i, hd => by
    have hlen : ((l.take i).map (· % 256)).length = i := by rw [List.length_map, List.length_take]; omega
    refine Ev.step (f := fun k => impl_oneByte.l0 k ((l.take (i + 1)).map (· % 256)) l (l.length : Int) ((i + 1 : Nat) : Int)) (fun k => ?_) (impl_oneByte_l0 l hl d (i + 1) (by omega))
    simp only [impl_oneByte.l0]
    rw [if_pos (by omega), if_pos (by omega), if_pos (by omega), if_pos (by omega), w64 (by omega) (by omega), map_take_rd (by omega)]; rfl
theorem impl_oneByte_ev (l : List Int) (hl : l.length ≤ 17592186043904) : Ev (fun k => impl_oneByte.f k l) (oneB l) :=
  impl_oneByte_l0 l hl l.length 0 (by omega)

theorem impl_ConfText_ev (l : List Int) (hl : l.length ≤ 17592186043904) : Ev (fun k => impl_ConfText.f k l) (confTC l) := by
  obtain ⟨K, hK⟩ := impl_ConfOk_ev l (by omega)
  obtain ⟨K2, hK2⟩ := impl_oneByte_ev l hl
  refine ⟨K + K2, fun k hk => ?_⟩
  have e : impl_ConfOk.f k l = some _ := hK k (by omega)
  have e2 : impl_oneByte.f k l = some _ := hK2 k (by omega)
  simp only [impl_ConfText.f, confTC]
  rw [e, Option.bind_some]
  by_cases h : confC l = true
  · rw [if_pos h, if_pos h, e2, Option.bind_some]
  · rw [if_neg h, if_neg h]

theorem bits_low7 {n : Int} (h0 : 0 ≤ n) (h1 : n ≤ 9223372036854775807) : Go.bits .and .i64 n 127 = n % 128 :=
  bits_mask .i64 63 (by decide) (fun n h0 h1 => by rw [IntKind.wrap_i64]; omega) 7 (by decide) n h0 (by omega)
theorem bits_or128 {n : Int} (h0 : 0 ≤ n) (h1 : n < 128) : Go.bits .or .i64 n 128 = n + 128 := by
  obtain ⟨a, rfl⟩ := Int.eq_ofNat_of_zero_le h0
  have h := (bits_nat .i64 63 (by decide) (fun n h0 h1 => by rw [IntKind.wrap_i64]; omega) a 128 (by omega) (by omega)).2
  have e : a ||| 128 = 128 + a := by
    have := Nat.two_pow_add_eq_or_of_lt (i := 7) (b := a) (by omega) 1
    rw [Nat.or_comm, show (128 : Nat) ||| a = 2 ^ 7 * 1 ||| a from rfl, ← this]
  rw [e] at h
  rw [show (128 : Int) = ((128 : Nat) : Int) from rfl, h]; omega

theorem impl_VarText_l0 (n : Nat) : ∀ out : List Int, n ≤ 9223372036854775807 → out.length + (vl n).length ≤ 140737488355328 →
    Ev (fun k => impl_VarText.l0 k (n : Int) out) (strOfNums (out ++ vl n), true) := by
  induction n using Nat.strongRecOn with
  | _ n ih =>
    intro out hn hl
    by_cases h : 127 < n
    · rw [vl_big h] at hl ⊢
      simp only [List.length_cons] at hl
      refine Ev.step (f := fun k => impl_VarText.l0 k ((n / 128 : Nat) : Int) (out ++ [((n % 128 + 128 : Nat) : Int)])) (fun k => ?_) ?_
      · simp only [impl_VarText.l0]
        rw [if_pos (by omega), if_pos (by omega), bits_low7 (by omega) (by omega), bits_or128 (by omega) (by omega)]
        congr 3
        omega
      · have := ih (n / 128) (by omega) (out ++ [((n % 128 + 128 : Nat) : Int)]) (by omega) (by simp; omega)
        rwa [List.append_assoc] at this
    · rw [vl_small h] at hl ⊢
      simp only [List.length_cons, List.length_nil] at hl
      refine Ev.step (f := fun _ => some (strOfNums (out ++ [(n : Int)]), true)) (fun k => ?_) (Ev.now _)
      simp only [impl_VarText.l0]
      rw [if_neg (by omega), if_pos (by omega), show (n : Int) % 256 = n by omega]
theorem impl_VarText_ev (n : Int) : Ev (fun k => impl_VarText.f k n) (varC n) := by
  by_cases h : 0 ≤ n ∧ n ≤ 1000000000
  · have hl := vl_len 10 n.toNat (by omega) (by omega)
    obtain ⟨K, hK⟩ := impl_VarText_l0 n.toNat [] (by omega) (by simp; omega)
    refine ⟨K, fun k hk => ?_⟩
    have := hK k hk
    rw [Int.toNat_of_nonneg h.1] at this
    simp only [impl_VarText.f, impl_in_eq, Option.bind_some, h, varC, this]
    simp
  · refine ⟨0, fun k _ => ?_⟩
    simp only [impl_VarText.f, impl_in_eq, Option.bind_some, h, varC]
    simp

theorem impl_varOf_ev {n : Int} (h0 : 0 ≤ n) (h1 : n ≤ 1000000000) : Ev (fun k => impl_varOf.f k n) (varT n) := by
  obtain ⟨K, hK⟩ := impl_VarText_ev n
  refine ⟨K, fun k hk => ?_⟩
  simp only [impl_varOf.f, hK k hk, Option.bind_some, varC, varT]
  rw [if_pos ⟨h0, h1⟩]

theorem impl_shortOf_ev (s : ByteArray) (hs : s.size ≤ 1048576) : Ev (fun k => impl_shortOf.f k s) (shortT s) := by
  obtain ⟨K, hK⟩ := impl_varOf_ev (n := (s.size : Int)) (by omega) (by omega)
  refine ⟨K, fun k hk => ?_⟩
  have e : impl_varOf.f k (s.size : Int) = some _ := hK k hk
  have := varT_size (n := (s.size : Int)) (by omega) (by omega)
  simp only [impl_shortOf.f]
  rw [e, Option.bind_some, if_pos (by omega)]; rfl

theorem impl_SumMore_l0 (s : ByteArray) (hs : s.size ≤ 140737488351232) : ∀ (d i : Nat), i + d = s.size → ∀ x : Nat, x < 4294967296 →
    Ev (fun k => impl_SumMore.l0 k (x : Int) s (s.size : Int) (i : Int)) ((crc x ((nb s).drop i) : Nat) : Int)
  | 0, i, hd, x, _ => by
    refine Ev.step (f := fun _ => some (x : Int)) (fun k => ?_) ?_
    · simp only [impl_SumMore.l0]; rw [if_neg (by omega)]
    · rw [nb_drop_end (by omega)]; exact Ev.now _
  | d + 1, i, hd, x, hx => by
    have hb := bt_range s (i : Int)
    obtain ⟨b, hb'⟩ := Int.eq_ofNat_of_zero_le hb.1
    have hbl : b < 256 := by omega
    have inner : ∀ (e j : Nat), j + e = 8 → ∀ y : Nat, y < 4294967296 → Ev (fun k => impl_SumMore.l1 k (y : Int) s (s.size : Int) (i : Int) (j : Int)) ((crc (csts e y) ((nb s).drop (i + 1)) : Nat) : Int) := by
      intro e
      induction e with
      | zero =>
        intro j hj y hy
        refine Ev.step (f := fun k => impl_SumMore.l0 k (y : Int) s (s.size : Int) ((i + 1 : Nat) : Int)) (fun k => ?_) (impl_SumMore_l0 s hs d (i + 1) (by omega) y hy)
        simp only [impl_SumMore.l1]
        rw [if_neg (by omega), w64 (by omega) (by omega)]; rfl
      | succ e ih =>
        intro j hj y hy
        refine Ev.step (f := fun k => impl_SumMore.l1 k ((cst y : Nat) : Int) s (s.size : Int) (i : Int) ((j + 1 : Nat) : Int)) (fun k => ?_) (ih (j + 1) (by omega) (cst y) (cst_lt hy))
        simp only [impl_SumMore.l1]
        rw [if_pos (by omega), w64 (by omega) (by omega), and_one hy, show (y : Int) / 2 = ((y / 2 : Nat) : Int) by omega]
        unfold cst
        by_cases h1 : y % 2 = 1
        · rw [if_pos (by omega), if_pos h1, show (3558460437 : Int) = ((3558460437 : Nat) : Int) from rfl, xor_nat (by omega) (by omega)]; rfl
        · rw [if_neg (by omega), if_neg h1]; rfl
    refine Ev.step (f := fun k => impl_SumMore.l1 k ((x ^^^ b : Nat) : Int) s (s.size : Int) (i : Int) ((0 : Nat) : Int)) (fun k => ?_) ?_
    · simp only [impl_SumMore.l0]
      rw [if_pos (by omega), if_pos (by omega), if_pos (by omega), hb', show (b : Int) % 4294967296 = (b : Int) by omega, xor_nat hx (by omega)]; rfl
    · have h := inner 8 0 rfl (x ^^^ b) (xor_byte_lt hx hbl)
      rw [nb_drop (by omega), hb', Int.toNat_natCast]
      exact h
theorem impl_SumMore_ev (s : ByteArray) (x : Nat) (hx : x < 4294967296) (hs : s.size ≤ 140737488351232) : Ev (fun k => impl_SumMore.f k (x : Int) s) ((crc x (nb s) : Nat) : Int) :=
  impl_SumMore_l0 s hs s.size 0 (by omega) x hx

theorem impl_SumOf_ev (s : ByteArray) (hs : s.size ≤ 140737488351232) : Ev (fun k => impl_SumOf.f k s) ((sumC s : Nat) : Int) := by
  obtain ⟨K, hK⟩ := impl_SumMore_ev s 4294967295 (by omega) hs
  refine ⟨K, fun k hk => ?_⟩
  have e : impl_SumMore.f k 4294967295 s = some _ := hK k hk
  simp only [impl_SumOf.f]
  rw [e]; rfl

theorem impl_fourBytes_eq (n : Nat) : impl_fourBytes.f (n : Int) = some (fourT n) := by
  simp only [impl_fourBytes.f, fourT, four]
  congr 2

theorem impl_Sealed_ev (s : ByteArray) (hs : s.size ≤ 140737488351232) : Ev (fun k => impl_Sealed.f k s) (sealC s) := by
  by_cases h : s.size ≤ 20000
  · obtain ⟨K, hK⟩ := impl_SumOf_ev s hs
    refine ⟨K, fun k hk => ?_⟩
    have e : impl_SumOf.f k s = some _ := hK k hk
    have hz := fourT_size (sumC s)
    simp only [impl_Sealed.f, sealC]
    rw [if_neg (by omega), e, Option.bind_some, impl_fourBytes_eq, Option.bind_some, if_pos (by omega), if_pos h]
  · refine ⟨0, fun k _ => ?_⟩
    simp only [impl_Sealed.f, sealC]
    rw [if_pos (by omega), if_neg h]

theorem impl_SnapText_ev (i t : Int) (l : List Int) (b : ByteArray) (hl : l.length ≤ 1048576) : Ev (fun k => impl_SnapText.f k i t l b) (snapC i t l b) := by
  obtain ⟨K0, h0⟩ := impl_ConfText_ev l (by omega)
  by_cases h1 : 0 ≤ i ∧ i ≤ 1000000
  · by_cases h2 : 0 ≤ t ∧ t ≤ 100000
    · by_cases hc : confC l = true
      · by_cases h3 : b.size ≤ 20000
        · obtain ⟨K1, g1⟩ := impl_varOf_ev (n := i) (by omega) (by omega)
          obtain ⟨K2, g2⟩ := impl_varOf_ev (n := t) (by omega) (by omega)
          have z3 := oneB_len l
          have z4 := confC_len hc
          obtain ⟨K3, g3⟩ := impl_shortOf_ev (oneB l) (by omega)
          obtain ⟨K4, g4⟩ := impl_shortOf_ev b (by omega)
          have hz := snapT_size h1 h2 hc h3
          obtain ⟨K5, g5⟩ := impl_Sealed_ev (snapT i t (oneB l) b) (by omega)
          refine ⟨K0 + K1 + K2 + K3 + K4 + K5 + 1, fun k hk => ?_⟩
          obtain ⟨k, rfl⟩ : ∃ m, k = m + 1 := ⟨k - 1, by omega⟩
          have e0 : impl_ConfText.f (k + 1) l = some _ := h0 _ (by omega)
          have e1 : impl_varOf.f k i = some _ := g1 _ (by omega)
          have e2 : impl_varOf.f k t = some _ := g2 _ (by omega)
          have e3 : impl_shortOf.f k (oneB l) = some _ := g3 _ (by omega)
          have e4 : impl_shortOf.f k b = some _ := g4 _ (by omega)
          have e5 : impl_Sealed.f k (((varT i ++ varT t) ++ shortT (oneB l)) ++ shortT b) = some _ := g5 _ (by omega)
          have hsz : (((varT i ++ varT t) ++ shortT (oneB l)) ++ shortT b).size ≤ 20054 := hz
          have hsz2 := hsz
          simp only [ByteArray.size_append] at hsz2
          have hf := fourT_size (sumC (snapT i t (oneB l) b))
          unfold confTC at e0
          rw [if_pos hc] at e0
          simp only [impl_SnapText.f, impl_in_eq]
          rw [e0, Option.bind_some, Option.bind_some, if_pos (by simpa using h1), Option.bind_some, if_pos (by simpa using h2), if_pos rfl, decide_eq_false (by omega)]
          simp only [impl_SnapText.j0]
          rw [if_neg (by simp), e1, Option.bind_some, e2, Option.bind_some, if_pos (by omega), e3, Option.bind_some, if_pos (by simp only [ByteArray.size_append]; omega), e4, Option.bind_some, if_pos (by simp only [ByteArray.size_append]; omega), e5, Option.bind_some]
          unfold snapC sealC
          by_cases h4 : (snapT i t (oneB l) b).size ≤ 19996
          · rw [if_pos (by omega : (snapT i t (oneB l) b).size ≤ 20000), if_pos rfl, if_neg (by show ¬ (((snapT i t (oneB l) b ++ fourT (sumC (snapT i t (oneB l) b))).size : Int) > 20000); rw [ByteArray.size_append]; omega), if_pos ⟨h1, h2, hc, h3, h4⟩]
          · rw [if_neg (c := (0 ≤ i ∧ i ≤ 1000000) ∧ _) (fun h => h4 h.2.2.2.2)]
            by_cases h5 : (snapT i t (oneB l) b).size ≤ 20000
            · rw [if_pos h5, if_pos rfl, if_pos (by show (((snapT i t (oneB l) b ++ fourT (sumC (snapT i t (oneB l) b))).size : Int) > 20000); rw [ByteArray.size_append]; omega)]
            · rw [if_neg h5, if_neg (by simp)]
        · refine ⟨K0 + 1, fun k hk => ?_⟩
          obtain ⟨k, rfl⟩ : ∃ m, k = m + 1 := ⟨k - 1, by omega⟩
          have e0 : impl_ConfText.f (k + 1) l = some _ := h0 _ (by omega)
          unfold confTC at e0
          rw [if_pos hc] at e0
          simp only [impl_SnapText.f, impl_in_eq, snapC]
          rw [e0, Option.bind_some, Option.bind_some, if_pos (by simpa using h1), Option.bind_some, if_pos (by simpa using h2), if_pos rfl, decide_eq_true (by omega), if_neg (fun h => h3 h.2.2.2.1)]
          simp only [impl_SnapText.j0]; rw [if_pos trivial]
      · refine ⟨K0 + 1, fun k hk => ?_⟩
        obtain ⟨k, rfl⟩ : ∃ m, k = m + 1 := ⟨k - 1, by omega⟩
        have e0 : impl_ConfText.f (k + 1) l = some _ := h0 _ (by omega)
        unfold confTC at e0
        rw [if_neg hc] at e0
        simp only [impl_SnapText.f, impl_in_eq, snapC]
        rw [e0, Option.bind_some, Option.bind_some, if_pos (by simpa using h1), Option.bind_some, if_pos (by simpa using h2), if_neg (by simp), if_neg (fun h => hc h.2.2.1)]
        simp only [impl_SnapText.j0]; rw [if_pos trivial]
    · refine ⟨K0 + 1, fun k hk => ?_⟩
      obtain ⟨k, rfl⟩ : ∃ m, k = m + 1 := ⟨k - 1, by omega⟩
      have e0 : impl_ConfText.f (k + 1) l = some _ := h0 _ (by omega)
      simp only [impl_SnapText.f, impl_in_eq, snapC]
      rw [e0, Option.bind_some, Option.bind_some, if_pos (by simpa using h1), Option.bind_some, if_neg (by simpa using h2), if_neg (fun h => h2 h.2.1)]
      simp only [impl_SnapText.j0]; rw [if_pos trivial]
  · refine ⟨K0 + 1, fun k hk => ?_⟩
    obtain ⟨k, rfl⟩ : ∃ m, k = m + 1 := ⟨k - 1, by omega⟩
    have e0 : impl_ConfText.f (k + 1) l = some _ := h0 _ (by omega)
    simp only [impl_SnapText.f, impl_in_eq, snapC]
    rw [e0, Option.bind_some, Option.bind_some, if_neg (by simpa using h1), if_neg (fun h => h1 h.1)]
    simp only [impl_SnapText.j0]; rw [if_pos trivial]

theorem laws_toIntS_l0 (l : List Int) (hl : l.length ≤ 17592186043904) : ∀ (d i : Nat) (x : List Int), i + d = l.length → x.length = l.length → x.take i = l.take i →
    Ev (fun k => laws_toIntS.l0 k l x (i : Int)) l
  | 0, i, x, hd, hx, ht => by
    refine Ev.step (f := fun _ => some x) (fun k => ?_) ?_
    · simp only [laws_toIntS.l0]; rw [if_neg (by omega)]
    · have : x = l := by rw [← List.take_of_length_le (i := i) (l := x) (by omega), ht, List.take_of_length_le (by omega)]
      rw [this]; exact Ev.now _
  | d + 1, i, x, hd, hx, ht => by
    refine Ev.step (f := fun k => laws_toIntS.l0 k l (x.set i (rd l (i : Int))) ((i + 1 : Nat) : Int)) (fun k => ?_) (laws_toIntS_l0 l hl d (i + 1) _ (by omega) (by rw [List.length_set]; exact hx) ?_)
    · simp only [laws_toIntS.l0]
      rw [if_pos (by omega), if_pos (by omega), if_pos (by omega), w64 (by omega) (by omega), Int.toNat_natCast]; rfl
    · rw [take_set_succ _ _ _ (by omega), ht, take_rd (by omega)]
theorem laws_toIntS_ev (l : List Int) (hl : l.length ≤ 17592186043904) : Ev (fun k => laws_toIntS.f k l) l := by
  obtain ⟨K, hK⟩ := laws_toIntS_l0 l hl l.length 0 (List.replicate l.length 0) (by omega) (by simp) (by simp)
  refine ⟨K, fun k hk => ?_⟩
  have e : laws_toIntS.l0 k l (List.replicate l.length 0) 0 = some _ := hK k hk
  simp only [laws_toIntS.f]
  rw [if_pos (by omega), if_pos (by omega), Int.toNat_natCast, e]

theorem laws_eqIntS_l0 (l : List Int) (hl : l.length ≤ 140737488351232) : ∀ (d i : Nat), i + d = l.length → Ev (fun k => laws_eqIntS.l0 k l l (i : Int)) true
  | 0, i, hd => by
    refine Ev.step (f := fun _ => some true) (fun k => ?_) (Ev.now _)
    simp only [laws_eqIntS.l0]; rw [if_neg (by omega)]
  | d + 1, i, hd => by
    refine Ev.step (f := fun k => laws_eqIntS.l0 k l l ((i + 1 : Nat) : Int)) (fun k => ?_) (laws_eqIntS_l0 l hl d (i + 1) (by omega))
    simp only [laws_eqIntS.l0]
    rw [if_pos (by omega), if_pos (by omega), if_pos (by omega), if_pos trivial, w64 (by omega) (by omega)]; rfl
theorem laws_eqIntS_ev (l : List Int) (hl : l.length ≤ 140737488351232) : Ev (fun k => laws_eqIntS.f k l l) true := by
  obtain ⟨K, hK⟩ := laws_eqIntS_l0 l hl l.length 0 (by omega)
  refine ⟨K, fun k hk => ?_⟩
  have e : laws_eqIntS.l0 k l l 0 = some _ := hK k hk
  simp only [laws_eqIntS.f]
  rw [if_pos trivial, e]

theorem FnExactSnapText (i t : Int) (l : List Int) (b : ByteArray) (_ : (Lit.int .i64 i).wf = true) (_ : (Lit.int .i64 t).wf = true) (g2 : (l.length ≤ 9223372036854775807 ∧ ∀ y ∈ l, (Lit.int .i64 y).wf = true)) (g3 : b.size ≤ maxLen) : ∃ k, laws_FnExactSnapText.f k i t l b = some true := by
  have hb : b.size ≤ 9223372036854775807 := by simpa [maxLen] using g3
  have hl := g2.1
  by_cases h1 : 1048576 - (l.length : Int) < 0
  · refine ⟨0, ?_⟩
    simp only [laws_FnExactSnapText.f, laws_szSnap.f, laws_szIntS.f]
    rw [w64 (by omega) (by omega), if_pos h1, Option.bind_some, if_pos (by omega), Option.bind_some, if_pos (by omega)]
  · by_cases h2 : 1048576 - (l.length : Int) - (b.size : Int) < 0
    · refine ⟨0, ?_⟩
      simp only [laws_FnExactSnapText.f, laws_szSnap.f, laws_szIntS.f]
      rw [w64 (n := 1048576 - (l.length : Int)) (by omega) (by omega), if_neg h1, Option.bind_some, if_neg h1, w64 (by omega) (by omega), if_pos h2, Option.bind_some, if_pos (by omega)]
    · obtain ⟨K1, q1⟩ := laws_toIntS_ev l (by omega)
      obtain ⟨K2, q2⟩ := spec_SnapText_ev i t l b (by omega)
      obtain ⟨K3, q3⟩ := impl_SnapText_ev i t l b (by omega)
      obtain ⟨K4, q4⟩ := laws_eqIntS_ev l (by omega)
      have key : ∀ k, K1 + K2 + K3 + K4 ≤ k → laws_FnExactSnapText.f (k + 1) i t l b = some true := by
        intro k hk
        have a1 : laws_toIntS.f (k + 1) l = some l := q1 _ (by omega)
        have a2 : spec_SnapText.f (k + 1) i t l b = some _ := q2 _ (by omega)
        have a3 : impl_SnapText.f (k + 1) i t l b = some _ := q3 _ (by omega)
        have b1 : laws_toIntS.f k l = some l := q1 _ (by omega)
        have b4 : laws_eqIntS.f k l l = some true := q4 _ (by omega)
        have c1 : laws_toSnap.f (k + 1) i t l b = some (i, t, l, b) := by simp only [laws_toSnap.f]; rw [a1, Option.bind_some]
        have c2 : laws_toSnap.f k i t l b = some (i, t, l, b) := by simp only [laws_toSnap.f]; rw [b1, Option.bind_some]
        have c3 : laws_eqSnap.f k i t l b i t l b = some true := by
          simp only [laws_eqSnap.f, if_true]
          rw [b4, Option.bind_some, if_pos rfl]
        simp only [laws_FnExactSnapText.f, laws_szSnap.f, laws_szIntS.f]
        rw [w64 (n := 1048576 - (l.length : Int)) (by omega) (by omega), if_neg h1, Option.bind_some, if_neg h1, w64 (by omega) (by omega), if_neg h2, Option.bind_some, if_neg h2, c1, Option.bind_some, a2, Option.bind_some, Option.bind_some, a3, Option.bind_some, if_pos rfl, show ((snapC i t l b).2 != (snapC i t l b).2) = false by simp]
        simp only [laws_FnExactSnapText.j0]
        rw [if_neg (by simp), c2, Option.bind_some, c3, Option.bind_some, if_pos rfl]
      exact ⟨_, key _ (Nat.le_refl _)⟩

end Go.Proofs.Ytpmdcplmnipdeaa.Pure
