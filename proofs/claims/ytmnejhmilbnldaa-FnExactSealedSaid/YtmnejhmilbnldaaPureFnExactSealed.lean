/- For every text, the program's Sealed returns what the reference's Sealed returns: FnExactSealed returns true. No condition. -/
import Derived.Test.YtmnejhmilbnldaaPFnExactSealedx1
namespace Go.Proofs.Ytmnejhmilbnldaa.Pure
open Go.RowKit Go.Proofs.Ytmnejhmilbnldaa.PFnExactSealed Go.Proofs.YtmnejhmilbnldaaW.PrintWords Go.Proofs.YtmnejhmilbnldaaW.PrintLast Go.Proofs.YtmnejhmilbnldaaW.PrintMore

/-! ### check sums, in plain Lean -/
theorem xor_cancel {a b c : Nat} (h : a ^^^ c = b ^^^ c) : a = b := by
  have := congrArg (· ^^^ c) h
  simpa [Nat.xor_assoc, Nat.xor_self] using this
theorem xor_cancel' {a b c : Nat} (h : c ^^^ a = c ^^^ b) : a = b := by
  rw [Nat.xor_comm c a, Nat.xor_comm c b] at h
  exact xor_cancel h
/-- One of the eight steps of a byte. -/
def cst (x : Nat) : Nat := if x % 2 = 1 then x / 2 ^^^ 3558460437 else x / 2
theorem cst_lt {x : Nat} (h : x < 4294967296) : cst x < 4294967296 := by
  unfold cst
  split
  · exact Nat.xor_lt_two_pow (n := 32) (by omega) (by omega)
  · omega
theorem cst_top {x : Nat} (h : x < 4294967296) : (cst x).testBit 31 = decide (x % 2 = 1) := by
  have hq : (x / 2).testBit 31 = false := Nat.testBit_lt_two_pow (by omega)
  unfold cst
  by_cases h1 : x % 2 = 1
  · rw [if_pos h1, Nat.testBit_xor, hq]; simp [h1]; decide
  · rw [if_neg h1, hq]; simp [h1]
theorem cst_inj {x y : Nat} (hx : x < 4294967296) (hy : y < 4294967296) (h : cst x = cst y) : x = y := by
  have hp : decide (x % 2 = 1) = decide (y % 2 = 1) := by rw [← cst_top hx, ← cst_top hy, h]
  unfold cst at h
  by_cases h1 : x % 2 = 1
  · have h2 : y % 2 = 1 := by simpa [h1] using hp
    rw [if_pos h1, if_pos h2] at h
    have : x / 2 = y / 2 := xor_cancel h
    omega
  · have h2 : ¬ y % 2 = 1 := by simpa [h1] using hp
    rw [if_neg h1, if_neg h2] at h
    omega
/-- n steps. -/
def csts : Nat → Nat → Nat
  | 0, x => x
  | n + 1, x => csts n (cst x)
theorem csts_lt : ∀ (n : Nat) {x : Nat}, x < 4294967296 → csts n x < 4294967296
  | 0, _, h => h
  | n + 1, _, h => csts_lt n (cst_lt h)
theorem csts_inj : ∀ (n : Nat) {x y : Nat}, x < 4294967296 → y < 4294967296 → csts n x = csts n y → x = y
  | 0, _, _, _, _, h => h
  | n + 1, _, _, hx, hy, h => cst_inj hx hy (csts_inj n (cst_lt hx) (cst_lt hy) h)
/-- The sum behind more bytes. -/
def crc : Nat → List Nat → Nat
  | s, [] => s
  | s, b :: bs => crc (csts 8 (s ^^^ b)) bs
theorem xor_byte_lt {s b : Nat} (h : s < 4294967296) (hb : b < 256) : s ^^^ b < 4294967296 := Nat.xor_lt_two_pow (n := 32) (by omega) (by omega)
theorem crc_lt : ∀ (bs : List Nat) {s : Nat}, (∀ b ∈ bs, b < 256) → s < 4294967296 → crc s bs < 4294967296
  | [], _, _, h => h
  | b :: bs, _, hb, h => crc_lt bs (fun x hx => hb x (List.mem_cons_of_mem _ hx)) (csts_lt 8 (xor_byte_lt h (hb b List.mem_cons_self)))
theorem crc_inj : ∀ (bs : List Nat) {s t : Nat}, (∀ b ∈ bs, b < 256) → s < 4294967296 → t < 4294967296 → crc s bs = crc t bs → s = t
  | [], _, _, _, _, _, h => h
  | b :: bs, _, _, hb, hs, ht, h => by
    have hb0 := hb b List.mem_cons_self
    have h1 := crc_inj bs (fun x hx => hb x (List.mem_cons_of_mem _ hx)) (csts_lt 8 (xor_byte_lt hs hb0)) (csts_lt 8 (xor_byte_lt ht hb0)) h
    exact xor_cancel (csts_inj 8 (xor_byte_lt hs hb0) (xor_byte_lt ht hb0) h1)
theorem crc_app : ∀ (xs ys : List Nat) (s : Nat), crc s (xs ++ ys) = crc (crc s xs) ys
  | [], _, _ => rfl
  | _ :: xs, ys, _ => crc_app xs ys _
/-- One byte is another: the sum is another. -/
theorem crc_turned (xs ys : List Nat) (a b s : Nat) (hx : ∀ c ∈ xs, c < 256) (hy : ∀ c ∈ ys, c < 256) (ha : a < 256) (hb : b < 256) (hab : a ≠ b) (hs : s < 4294967296) :
    crc s (xs ++ a :: ys) ≠ crc s (xs ++ b :: ys) := by
  rw [crc_app, crc_app]
  intro h
  have h0 := crc_lt xs hx hs
  have h1 := crc_inj ys hy (csts_lt 8 (xor_byte_lt h0 ha)) (csts_lt 8 (xor_byte_lt h0 hb)) h
  have h2 := csts_inj 8 (xor_byte_lt h0 ha) (xor_byte_lt h0 hb) h1
  exact hab (xor_cancel' h2)
/-- A sum in four bytes, the highest first. -/
def four (n : Nat) : List Int := [((n / 16777216 % 256 : Nat) : Int), ((n / 65536 % 256 : Nat) : Int), ((n / 256 % 256 : Nat) : Int), ((n % 256 : Nat) : Int)]
theorem four_inj {m n : Nat} (hm : m < 4294967296) (hn : n < 4294967296) (h : four m = four n) : m = n := by
  simp only [four, List.cons.injEq] at h
  omega

/-! ### texts as lists of bytes -/
theorem bytesOf_range (s : ByteArray) : ∀ b ∈ bytesOf s, 0 ≤ b ∧ b ≤ 255 := by
  intro b hb
  obtain ⟨u, _, rfl⟩ := List.mem_map.1 hb
  have := u.toNat_lt
  omega
theorem bytesOf_inj {s t : ByteArray} (h : bytesOf s = bytesOf t) : s = t := by
  apply ByteArray.ext
  apply Array.toList_inj.1
  unfold bytesOf at h
  refine (List.map_inj_right ?_).1 h
  intro a b hab
  exact UInt8.toNat_inj.1 (by omega)
theorem bytesOf_app (s t : ByteArray) : bytesOf (s ++ t) = bytesOf s ++ bytesOf t := by
  simp [bytesOf]
theorem bytesOf_ext (s : ByteArray) (a b : Nat) : bytesOf (s.extract a b) = ((bytesOf s).drop a).take (b - a) := by
  simp [bytesOf, List.map_take, List.map_drop]
theorem bytesOf_str (xs : List Int) (h : ∀ b ∈ xs, 0 ≤ b ∧ b ≤ 255) : bytesOf (strOfNums xs) = xs := by
  unfold bytesOf
  rw [strOfNums_data, List.map_map]
  conv => rhs; rw [← List.map_id xs]
  refine List.map_congr_left fun b hb => ?_
  have := h b hb
  simp only [Function.comp_apply, id_eq, UInt8.toNat_ofNat']
  omega
theorem str_bytesOf (s : ByteArray) : strOfNums (bytesOf s) = s := bytesOf_inj (bytesOf_str _ (bytesOf_range s))
theorem bytesOf_nil : bytesOf (⟨#[]⟩ : ByteArray) = [] := rfl
theorem toList_iff {s t : ByteArray} : s.toList = t.toList ↔ s = t := by
  constructor
  · intro h
    rw [ByteArray.toList_eq, ByteArray.toList_eq] at h
    exact ByteArray.ext (Array.toList_inj.1 h)
  · rintro rfl; rfl
theorem bt_getElem {s : ByteArray} {i : Int} (h1 : i.toNat < s.size) : (bytesOf s)[i.toNat]? = some (bt s i) := by
  rw [← rd_bytesOf]
  unfold rd
  rw [List.getD_eq_getElem?_getD, List.getElem?_eq_getElem (by rw [bytesOf_length]; exact h1)]; rfl
theorem bytesOf_drop {s : ByteArray} {i : Int} (h0 : 0 ≤ i) (h : i < (s.size : Int)) : (bytesOf s).drop i.toNat = bt s i :: (bytesOf s).drop (i + 1).toNat := by
  have hl : i.toNat < (bytesOf s).length := by rw [bytesOf_length]; omega
  rw [List.drop_eq_getElem_cons hl, show (i + 1).toNat = i.toNat + 1 by omega]
  congr 1
  have := bt_getElem (s := s) (i := i) (by omega)
  rw [List.getElem?_eq_getElem hl] at this
  exact Option.some.inj this
theorem bytesOf_drop_end {s : ByteArray} {i : Int} (h : ¬ i < (s.size : Int)) : (bytesOf s).drop i.toNat = [] := by
  apply List.drop_eq_nil_of_le
  rw [bytesOf_length]; omega
theorem extract_all (s : ByteArray) : s.extract 0 s.size = s := bytesOf_inj (by rw [bytesOf_ext, List.drop_zero, Nat.sub_zero, ← bytesOf_length, List.take_length])
theorem w64 {n : Int} (h0 : -9223372036854775808 ≤ n) (h1 : n ≤ 9223372036854775807) : wrap64 n = n := by
  unfold wrap64; omega
theorem i64wf {n : Int} (h : (Lit.int .i64 n).wf = true) : -9223372036854775808 ≤ n ∧ n ≤ 9223372036854775807 := by
  simp [Lit.wf, IntKind.min, IntKind.max, IntKind.bits, IntKind.signed] at h
  omega
theorem u32wf {n : Int} (h : (Lit.int .u32 n).wf = true) : 0 ≤ n ∧ n ≤ 4294967295 := by
  simp [Lit.wf, IntKind.min, IntKind.max, IntKind.bits, IntKind.signed] at h
  omega
theorem tmod_nat {n : Int} (h : 0 ≤ n) (m : Int) : Int.tmod n m = n % m := Int.tmod_eq_emod_of_nonneg h
theorem tdiv_nat {n : Int} (h : 0 ≤ n) (m : Int) : Int.tdiv n m = n / m := Int.tdiv_eq_ediv_of_nonneg h

theorem xor_nat {a b : Nat} (ha : a < 4294967296) (hb : b < 4294967296) : Go.bits .xor .u32 (a : Int) (b : Int) = ((a ^^^ b : Nat) : Int) := by
  have hx : a ^^^ b < 2 ^ 32 := Nat.xor_lt_two_pow (n := 32) (by omega) (by omega)
  have h32 : IntKind.u32.bits = 32 := rfl
  simp only [Go.bits, h32, BitVec.ofInt_natCast, BitVec.toNat_xor, BitVec.toNat_ofNat]
  rw [Nat.mod_eq_of_lt (show a < 2 ^ 32 by omega), Nat.mod_eq_of_lt (show b < 2 ^ 32 by omega), IntKind.wrap_u32]
  omega
theorem and_one {a : Nat} (ha : a < 4294967296) : Go.bits .and .u32 (a : Int) 1 = ((a % 2 : Nat) : Int) := by
  have := bits_mask .u32 32 (by decide) (fun n h0 h1 => by rw [IntKind.wrap_u32]; omega) 1 (by decide) (a : Int) (by omega) (by omega)
  simpa using this
/-- A text's bytes. -/
def nb (s : ByteArray) : List Nat := (bytesOf s).map Int.toNat
theorem nb_lt (s : ByteArray) : ∀ b ∈ nb s, b < 256 := by
  intro b hb
  obtain ⟨x, hx, rfl⟩ := List.mem_map.1 hb
  have := bytesOf_range s x hx
  omega
theorem nb_drop {s : ByteArray} {i : Nat} (h : i < s.size) : (nb s).drop i = (bt s (i : Int)).toNat :: (nb s).drop (i + 1) := by
  unfold nb
  rw [← List.map_drop, ← List.map_drop]
  have := bytesOf_drop (s := s) (i := (i : Int)) (by omega) (by omega)
  rw [Int.toNat_natCast, show ((i : Int) + 1).toNat = i + 1 by omega] at this
  rw [this]; rfl
theorem nb_drop_end {s : ByteArray} {i : Nat} (h : ¬ i < s.size) : (nb s).drop i = [] := by
  apply List.drop_eq_nil_of_le
  unfold nb
  rw [List.length_map, bytesOf_length]; omega
theorem nb_app (s t : ByteArray) : nb (s ++ t) = nb s ++ nb t := by simp [nb, bytesOf_app]
theorem sum_lt (s : ByteArray) {n : Nat} (h : n < 4294967296) : crc n (nb s) < 4294967296 := crc_lt _ (nb_lt s) h

theorem impl_SumMore_l0 (s : ByteArray) (hs : s.size ≤ 140737488351232) : ∀ (d i : Nat), i + d = s.size → ∀ x : Nat, x < 4294967296 →
    Ev (fun k => impl_SumMore.l0 k (x : Int) s (s.size : Int) (i : Int)) ((crc x ((nb s).drop i) : Nat) : Int)
  | 0, i, hd, x, _ => by
    refine Ev.step (f := fun _ => some (x : Int)) (fun k => ?_) ?_
    · simp only [impl_SumMore.l0]; rw [if_neg (by omega)]
    · rw [nb_drop_end (by omega)]; exact Ev.now _
  | d + 1, i, hd, x, hx => by
    have hb := bt_range s (i : Int)
    obtain ⟨b, hb'⟩ := Int.eq_ofNat_of_zero_le hb.1
    have hbl : b < 256 := by omega
    have inner : ∀ (e j : Nat), j + e = 8 → ∀ y : Nat, y < 4294967296 → Ev (fun k => impl_SumMore.l1 k (y : Int) s (s.size : Int) (i : Int) (j : Int)) ((crc (csts e y) ((nb s).drop (i + 1)) : Nat) : Int) := by
      intro e
      induction e with
      | zero =>
        intro j hj y hy
        refine Ev.step (f := fun k => impl_SumMore.l0 k (y : Int) s (s.size : Int) ((i + 1 : Nat) : Int)) (fun k => ?_) (impl_SumMore_l0 s hs d (i + 1) (by omega) y hy)
        simp only [impl_SumMore.l1]
        rw [if_neg (by omega), w64 (by omega) (by omega)]; rfl
      | succ e ih =>
        intro j hj y hy
        refine Ev.step (f := fun k => impl_SumMore.l1 k ((cst y : Nat) : Int) s (s.size : Int) (i : Int) ((j + 1 : Nat) : Int)) (fun k => ?_) (ih (j + 1) (by omega) (cst y) (cst_lt hy))
        simp only [impl_SumMore.l1]
        rw [if_pos (by omega), w64 (by omega) (by omega), and_one hy, show (y : Int) / 2 = ((y / 2 : Nat) : Int) by omega]
        unfold cst
        by_cases h1 : y % 2 = 1
        · rw [if_pos (by omega), if_pos h1, show (3558460437 : Int) = ((3558460437 : Nat) : Int) from rfl, xor_nat (by omega) (by omega)]; rfl
        · rw [if_neg (by omega), if_neg h1]; rfl
    refine Ev.step (f := fun k => impl_SumMore.l1 k ((x ^^^ b : Nat) : Int) s (s.size : Int) (i : Int) ((0 : Nat) : Int)) (fun k => ?_) ?_
    · simp only [impl_SumMore.l0]
      rw [if_pos (by omega), if_pos (by omega), if_pos (by omega), hb', show (b : Int) % 4294967296 = (b : Int) by omega, xor_nat hx (by omega)]; rfl
    · have h := inner 8 0 rfl (x ^^^ b) (xor_byte_lt hx hbl)
      rw [nb_drop (by omega), hb', Int.toNat_natCast]
      exact h
theorem impl_SumMore_ev (s : ByteArray) (x : Nat) (hx : x < 4294967296) (hs : s.size ≤ 140737488351232) : Ev (fun k => impl_SumMore.f k (x : Int) s) ((crc x (nb s) : Nat) : Int) :=
  impl_SumMore_l0 s hs s.size 0 (by omega) x hx

def sumC (s : ByteArray) : Nat := crc 4294967295 (nb s)
theorem sumC_lt (s : ByteArray) : sumC s < 4294967296 := sum_lt s (by omega)
theorem four_bytes (n : Nat) : ∀ b ∈ four n, 0 ≤ b ∧ b ≤ 255 := by
  intro b hb
  simp only [four, List.mem_cons, List.not_mem_nil, or_false] at hb
  omega
/-- A sum in four bytes, as a text. -/
def fourT (n : Nat) : ByteArray := strOfNums (four n)
theorem bytesOf_fourT (n : Nat) : bytesOf (fourT n) = four n := bytesOf_str _ (four_bytes n)
theorem fourT_size (n : Nat) : (fourT n).size = 4 := by unfold fourT; rw [strOfNums_size]; rfl
theorem fourT_inj {m n : Nat} (hm : m < 4294967296) (hn : n < 4294967296) (h : fourT m = fourT n) : m = n := by
  have := congrArg bytesOf h
  rw [bytesOf_fourT, bytesOf_fourT] at this
  exact four_inj hm hn this

theorem impl_SumOf_ev (s : ByteArray) (hs : s.size ≤ 140737488351232) : Ev (fun k => impl_SumOf.f k s) ((sumC s : Nat) : Int) := by
  obtain ⟨K, hK⟩ := impl_SumMore_ev s 4294967295 (by omega) hs
  refine ⟨K, fun k hk => ?_⟩
  have e : impl_SumMore.f k 4294967295 s = some _ := hK k hk
  simp only [impl_SumOf.f]
  rw [e]; rfl

theorem impl_fourBytes_eq (n : Nat) : impl_fourBytes.f (n : Int) = some (fourT n) := by
  simp only [impl_fourBytes.f, fourT, four]
  congr 2

def sealC (s : ByteArray) : ByteArray × Bool := if s.size ≤ 20000 then (s ++ fourT (sumC s), true) else (⟨#[]⟩, false)
def unsealC (s : ByteArray) : ByteArray × Bool :=
  if 4 ≤ s.size ∧ s.size ≤ 20004 ∧ s.extract (s.size - 4) s.size = fourT (sumC (s.extract 0 (s.size - 4))) then (s.extract 0 (s.size - 4), true) else (⟨#[]⟩, false)
theorem extract_split (s : ByteArray) (n : Nat) : s.extract 0 n ++ s.extract n s.size = s := by
  apply bytesOf_inj
  rw [bytesOf_app, bytesOf_ext, bytesOf_ext, List.drop_zero, Nat.sub_zero]
  rw [List.take_of_length_le (i := s.size - n) (by rw [List.length_drop, bytesOf_length]; omega)]
  exact List.take_append_drop ..
theorem ext_size (s : ByteArray) {a b : Nat} (h1 : a ≤ b) (h2 : b ≤ s.size) : (s.extract a b).size = b - a := by
  rw [← bytesOf_length, bytesOf_ext, List.length_take, List.length_drop, bytesOf_length]; omega
theorem app_cancel {s t u : ByteArray} : s ++ t = s ++ u ↔ t = u := by
  constructor
  · intro h
    have := congrArg bytesOf h
    rw [bytesOf_app, bytesOf_app] at this
    exact bytesOf_inj (List.append_cancel_left this)
  · rintro rfl; rfl
theorem seal_key (s u : ByteArray) (n : Nat) : s.extract 0 n ++ u = s ↔ s.extract n s.size = u := by
  have hsp := extract_split s n
  constructor
  · intro h
    exact (app_cancel.1 (h.trans hsp.symm)).symm
  · rintro rfl
    exact hsp

theorem impl_Sealed_ev (s : ByteArray) (hs : s.size ≤ 140737488351232) : Ev (fun k => impl_Sealed.f k s) (sealC s) := by
  by_cases h : s.size ≤ 20000
  · obtain ⟨K, hK⟩ := impl_SumOf_ev s hs
    refine ⟨K, fun k hk => ?_⟩
    have e : impl_SumOf.f k s = some _ := hK k hk
    have hz := fourT_size (sumC s)
    simp only [impl_Sealed.f, sealC]
    rw [if_neg (by omega), e, Option.bind_some, impl_fourBytes_eq, Option.bind_some, if_pos (by omega), if_pos h]
  · refine ⟨0, fun k _ => ?_⟩
    simp only [impl_Sealed.f, sealC]
    rw [if_pos (by omega), if_neg h]

theorem spec_SumMore_l0 (s : ByteArray) (hs : s.size ≤ 140737488351232) : ∀ (d i : Nat), i + d = s.size → ∀ x : Nat, x < 4294967296 →
    Ev (fun k => spec_SumMore.l0 k (x : Int) s (i : Int)) ((crc x ((nb s).drop i) : Nat) : Int)
  | 0, i, hd, x, _ => by
    refine Ev.step (f := fun _ => some (x : Int)) (fun k => ?_) ?_
    · simp only [spec_SumMore.l0]; rw [if_neg (by omega)]
    · rw [nb_drop_end (by omega)]; exact Ev.now _
  | d + 1, i, hd, x, hx => by
    have hb := bt_range s (i : Int)
    obtain ⟨b, hb'⟩ := Int.eq_ofNat_of_zero_le hb.1
    have hbl : b < 256 := by omega
    have inner : ∀ (e j : Nat), j + e = 8 → ∀ y : Nat, y < 4294967296 → Ev (fun k => spec_SumMore.l1 k (y : Int) s (i : Int) (j : Int)) ((crc (csts e y) ((nb s).drop (i + 1)) : Nat) : Int) := by
      intro e
      induction e with
      | zero =>
        intro j hj y hy
        refine Ev.step (f := fun k => spec_SumMore.l0 k (y : Int) s ((i + 1 : Nat) : Int)) (fun k => ?_) (spec_SumMore_l0 s hs d (i + 1) (by omega) y hy)
        simp only [spec_SumMore.l1]
        rw [if_neg (by omega), w64 (by omega) (by omega)]; rfl
      | succ e ih =>
        intro j hj y hy
        refine Ev.step (f := fun k => spec_SumMore.l1 k ((cst y : Nat) : Int) s (i : Int) ((j + 1 : Nat) : Int)) (fun k => ?_) (ih (j + 1) (by omega) (cst y) (cst_lt hy))
        simp only [spec_SumMore.l1]
        rw [if_pos (by omega), w64 (by omega) (by omega), tmod_nat (by omega), tdiv_nat (by omega), show (y : Int) / 2 % 4294967296 = ((y / 2 : Nat) : Int) by omega]
        unfold cst
        by_cases h1 : y % 2 = 1
        · rw [if_pos (by omega), if_pos h1, show (3558460437 : Int) = ((3558460437 : Nat) : Int) from rfl, xor_nat (by omega) (by omega)]; rfl
        · rw [if_neg (by omega), if_neg h1]; rfl
    refine Ev.step (f := fun k => spec_SumMore.l1 k ((x ^^^ b : Nat) : Int) s (i : Int) ((0 : Nat) : Int)) (fun k => ?_) ?_
    · simp only [spec_SumMore.l0]
      rw [if_pos (by omega), if_pos (by omega), hb', show (b : Int) % 4294967296 = (b : Int) by omega, xor_nat hx (by omega)]; rfl
    · have h := inner 8 0 rfl (x ^^^ b) (xor_byte_lt hx hbl)
      rw [nb_drop (by omega), hb', Int.toNat_natCast]
      exact h
theorem spec_SumMore_ev (s : ByteArray) (x : Nat) (hx : x < 4294967296) (hs : s.size ≤ 140737488351232) : Ev (fun k => spec_SumMore.f k (x : Int) s) ((crc x (nb s) : Nat) : Int) :=
  spec_SumMore_l0 s hs s.size 0 (by omega) x hx

theorem spec_SumOf_ev (s : ByteArray) (hs : s.size ≤ 140737488351232) : Ev (fun k => spec_SumOf.f k s) ((sumC s : Nat) : Int) := by
  obtain ⟨K, hK⟩ := spec_SumMore_ev s 4294967295 (by omega) hs
  refine ⟨K, fun k hk => ?_⟩
  have e : spec_SumMore.f k 4294967295 s = some _ := hK k hk
  simp only [spec_SumOf.f]
  rw [e]; rfl

theorem spec_l02Four_eq (n : Nat) : spec_l02Four.f (n : Int) = some (fourT n) := by
  simp only [spec_l02Four.f, fourT, four]
  congr 2

theorem spec_Sealed_ev (s : ByteArray) (hs : s.size ≤ 140737488351232) : Ev (fun k => spec_Sealed.f k s) (sealC s) := by
  by_cases h : s.size ≤ 20000
  · obtain ⟨K, hK⟩ := spec_SumOf_ev s hs
    refine ⟨K, fun k hk => ?_⟩
    have e : spec_SumOf.f k s = some _ := hK k hk
    have hz := fourT_size (sumC s)
    simp only [spec_Sealed.f, sealC]
    rw [if_neg (by omega), e, Option.bind_some, spec_l02Four_eq, Option.bind_some, if_pos (by omega), if_pos h]
  · refine ⟨0, fun k _ => ?_⟩
    simp only [spec_Sealed.f, sealC]
    rw [if_pos (by omega), if_neg h]

theorem FnExactSealed : laws_FnExactSealed.Pure := by
  intro a0 hs
  obtain ⟨K1, h1⟩ := spec_Sealed_ev a0 hs
  obtain ⟨K2, h2⟩ := impl_Sealed_ev a0 hs
  refine ⟨max K1 K2, ?_⟩
  simp only [laws_FnExactSealed.f, h1 _ (Nat.le_max_left K1 K2), h2 _ (Nat.le_max_right K1 K2), Option.bind_some]
  split <;> simp

end Go.Proofs.Ytmnejhmilbnldaa.Pure
