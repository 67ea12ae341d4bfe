/- For every code: the drawn text sealed is unsealed whole; with one byte changed it is refused; the sum goes on over more bytes: FnTurned returns true. No condition. -/
import Derived.Test.YtpmnepbcbjdkoaaQFnTurnedx3
namespace Go.Proofs.Ytpmnepbcbjdkoaa.Pure
open Go.RowKit Go.Proofs.Ytpmnepbcbjdkoaa.PFnTurned Go.Proofs.YtpmnepbcbjdkoaaW.PrintWords Go.Proofs.YtpmnepbcbjdkoaaW.PrintLast Go.Proofs.YtpmnepbcbjdkoaaW.PrintMore

/-! ### texts as lists of bytes -/
theorem bytesOf_range (s : ByteArray) : ∀ b ∈ bytesOf s, 0 ≤ b ∧ b ≤ 255 := by
  intro b hb
  obtain ⟨u, _, rfl⟩ := List.mem_map.1 hb
  have := u.toNat_lt
  omega
theorem bytesOf_inj {s t : ByteArray} (h : bytesOf s = bytesOf t) : s = t := by
  apply ByteArray.ext
  apply Array.toList_inj.1
  unfold bytesOf at h
  refine (List.map_inj_right ?_).1 h
  intro a b hab
  exact UInt8.toNat_inj.1 (by omega)
theorem bytesOf_app (s t : ByteArray) : bytesOf (s ++ t) = bytesOf s ++ bytesOf t := by
  simp [bytesOf]
theorem bytesOf_ext (s : ByteArray) (a b : Nat) : bytesOf (s.extract a b) = ((bytesOf s).drop a).take (b - a) := by
  simp [bytesOf, List.map_take, List.map_drop]
theorem bytesOf_str (xs : List Int) (h : ∀ b ∈ xs, 0 ≤ b ∧ b ≤ 255) : bytesOf (strOfNums xs) = xs := by
  unfold bytesOf
  rw [strOfNums_data, List.map_map]
  conv => rhs; rw [← List.map_id xs]
  refine List.map_congr_left fun b hb => ?_
  have := h b hb
  simp only [Function.comp_apply, id_eq, UInt8.toNat_ofNat']
  omega
theorem toList_iff {s t : ByteArray} : s.toList = t.toList ↔ s = t := by
  constructor
  · intro h
    rw [ByteArray.toList_eq, ByteArray.toList_eq] at h
    exact ByteArray.ext (Array.toList_inj.1 h)
  · rintro rfl; rfl
theorem bt_getElem {s : ByteArray} {i : Int} (h1 : i.toNat < s.size) : (bytesOf s)[i.toNat]? = some (bt s i) := by
  rw [← rd_bytesOf]
  unfold rd
  rw [List.getD_eq_getElem?_getD, List.getElem?_eq_getElem (by rw [bytesOf_length]; exact h1)]; rfl
theorem bytesOf_drop {s : ByteArray} {i : Int} (h0 : 0 ≤ i) (h : i < (s.size : Int)) : (bytesOf s).drop i.toNat = bt s i :: (bytesOf s).drop (i + 1).toNat := by
  have hl : i.toNat < (bytesOf s).length := by rw [bytesOf_length]; omega
  rw [List.drop_eq_getElem_cons hl, show (i + 1).toNat = i.toNat + 1 by omega]
  congr 1
  have := bt_getElem (s := s) (i := i) (by omega)
  rw [List.getElem?_eq_getElem hl] at this
  exact Option.some.inj this
theorem w64 {n : Int} (h0 : -9223372036854775808 ≤ n) (h1 : n ≤ 9223372036854775807) : wrap64 n = n := by
  unfold wrap64; omega
theorem and255 (x : Int) : 0 ≤ Go.bits .and .i64 x 255 ∧ Go.bits .and .i64 x 255 ≤ 255 := by
  have h : ((BitVec.ofInt 64 x) &&& (BitVec.ofInt 64 255)).toNat ≤ 255 := by
    rw [BitVec.toNat_and]; exact Nat.le_trans Nat.and_le_right (by decide)
  show 0 ≤ IntKind.i64.wrap (((BitVec.ofInt 64 x) &&& (BitVec.ofInt 64 255)).toNat : Int) ∧ IntKind.i64.wrap (((BitVec.ofInt 64 x) &&& (BitVec.ofInt 64 255)).toNat : Int) ≤ 255
  rw [IntKind.wrap_i64]; omega
theorem spec_l01New_l0 (l : List Int) (hl : l.length ≤ 1048576) : ∀ (d i : Nat) (x : Int), i + d = l.length → ∃ h, Ev (fun k => spec_l01New.l0 k l x (i : Int)) (l, 0, h)
  | 0, i, x, hi => by
    refine ⟨x, Ev.step (f := fun _ => some (l, 0, x)) (fun k => ?_) (Ev.now _)⟩
    simp only [spec_l01New.l0]; rw [if_neg (by omega)]
  | d + 1, i, x, hi => by
    by_cases c : i < 4000
    · obtain ⟨h, hh⟩ := spec_l01New_l0 l hl d (i + 1) (Go.bits .and .i64 (wrap64 ((wrap64 ((wrap64 (x * 131)) + (wrap64 (rd l (i : Int))))) + 7)) 1073741823) (by omega)
      refine ⟨h, Ev.step (f := fun k => spec_l01New.l0 k l (Go.bits .and .i64 (wrap64 ((wrap64 ((wrap64 (x * 131)) + (wrap64 (rd l (i : Int))))) + 7)) 1073741823) ((i + 1 : Nat) : Int)) (fun k => ?_) hh⟩
      simp only [spec_l01New.l0]
      rw [if_pos (by omega), if_pos (by omega), if_pos (by omega), w64 (n := (i : Int) + 1) (by omega) (by omega)]; rfl
    · refine ⟨x, Ev.step (f := fun _ => some (l, 0, x)) (fun k => ?_) (Ev.now _)⟩
      simp only [spec_l01New.l0]; rw [if_pos (by omega), if_neg (by omega)]
theorem spec_l01New_ev (l : List Int) (hl : l.length ≤ 1048576) : ∃ h, Ev (fun k => spec_l01New.f k l) (l, 0, h) := spec_l01New_l0 l hl l.length 0 _ (by omega)
theorem spec_l01Byte_eq (l : List Int) (hl : l.length ≤ 1048576) (p h : Int) (h0 : 0 ≤ p) (h1 : p ≤ (l.length : Int)) :
    ∃ b p' h', spec_l01Byte.f l p h = some (b, p', h') ∧ 0 ≤ b ∧ b ≤ 255 ∧ 0 ≤ p' ∧ p' ≤ (l.length : Int) := by
  simp only [spec_l01Byte.f]
  by_cases c : p < (l.length : Int)
  · rw [if_pos c, if_pos h0, w64 (n := p + 1) (by omega) (by omega)]
    refine ⟨_, _, _, rfl, ?_⟩
    have := and255 (wrap64 ((Go.bits .and .i64 (Go.bits .xor .i64 ((wrap64 ((wrap64 (h * 6364136223846793005)) + 1442695040888963407)) / 8589934592) ((wrap64 ((wrap64 (h * 6364136223846793005)) + 1442695040888963407)) / 35184372088832)) 255) + (wrap64 (rd l p))))
    exact ⟨this.1, this.2, by omega, by omega⟩
  · rw [if_neg c]
    refine ⟨_, _, _, rfl, ?_⟩
    have := and255 (Go.bits .xor .i64 ((wrap64 ((wrap64 (h * 6364136223846793005)) + 1442695040888963407)) / 8589934592) ((wrap64 ((wrap64 (h * 6364136223846793005)) + 1442695040888963407)) / 35184372088832))
    exact ⟨this.1, this.2, h0, h1⟩
theorem spec_l01Below_eq (l : List Int) (hl : l.length ≤ 1048576) (p h n : Int) (hn : 0 < n) (h0 : 0 ≤ p) (h1 : p ≤ (l.length : Int)) :
    ∃ b p' h', spec_l01Below.f l p h n = some (b, p', h') ∧ 0 ≤ b ∧ b < n ∧ 0 ≤ p' ∧ p' ≤ (l.length : Int) := by
  simp only [spec_l01Below.f]
  rw [if_neg (by omega)]
  obtain ⟨x, p1, g1, e1, x0, x1, q0, q1⟩ := spec_l01Byte_eq l hl p h h0 h1
  by_cases c : n ≤ 256
  · rw [if_pos c, e1, Option.bind_some, if_neg (by omega)]
    refine ⟨_, _, _, rfl, ?_, ?_, q0, q1⟩
    · exact Int.tmod_nonneg _ x0
    · exact Int.tmod_lt_of_pos _ hn
  · obtain ⟨y, p2, g2, e2, y0, y1, r0, r1⟩ := spec_l01Byte_eq l hl p1 g1 q0 q1
    obtain ⟨z, p3, g3, e3, z0, z1, s0, s1⟩ := spec_l01Byte_eq l hl p2 g2 r0 r1
    obtain ⟨u, p4, g4, e4, u0, u1, t0, t1⟩ := spec_l01Byte_eq l hl p3 g3 s0 s1
    rw [if_neg c, e1, Option.bind_some, e2, Option.bind_some, e3, Option.bind_some, e4, Option.bind_some, if_neg (by omega)]
    refine ⟨_, _, _, rfl, ?_, ?_, t0, t1⟩
    · refine Int.tmod_nonneg _ ?_
      simp only []
      rw [w64 (n := x * 16777216) (by omega) (by omega), w64 (n := y * 65536) (by omega) (by omega), w64 (n := z * 256) (by omega) (by omega), w64 (n := x * 16777216 + y * 65536) (by omega) (by omega), w64 (n := x * 16777216 + y * 65536 + z * 256) (by omega) (by omega), w64 (by omega) (by omega)]
      omega
    · exact Int.tmod_lt_of_pos _ hn

theorem spec_DrawPlaces_l0 (l : List Int) (hl : l.length ≤ 1048576) : ∀ (d i : Nat) (x : List Int) (p h : Int), i + d = 12 → x.length = i → (∀ y ∈ x, 0 ≤ y) → 0 ≤ p → p ≤ (l.length : Int) →
    ∃ o : List Int, Ev (fun k => spec_DrawPlaces.l0 k x (i : Int) l p h) o ∧ o.length = 12 ∧ ∀ y ∈ o, 0 ≤ y
  | 0, i, x, p, h, hi, hx, hy, h0, h1 => by
    refine ⟨x, Ev.step (f := fun _ => some x) (fun k => ?_) (Ev.now _), by omega, hy⟩
    simp only [spec_DrawPlaces.l0]; rw [if_neg (by omega)]
  | d + 1, i, x, p, h, hi, hx, hy, h0, h1 => by
    obtain ⟨b, p', h', e, b0, _, q0, q1⟩ := spec_l01Below_eq l hl p h 10000 (by omega) h0 h1
    obtain ⟨o, ho, h2⟩ := spec_DrawPlaces_l0 l hl d (i + 1) (x ++ [b]) p' h' (by omega) (by simp; omega) (by
      intro y hy'
      rcases List.mem_append.1 hy' with q | q
      · exact hy y q
      · rw [List.mem_singleton.1 q]; exact b0) q0 q1
    refine ⟨o, Ev.step (f := fun k => spec_DrawPlaces.l0 k (x ++ [b]) ((i + 1 : Nat) : Int) l p' h') (fun k => ?_) ho, h2⟩
    simp only [spec_DrawPlaces.l0]
    rw [if_pos (by omega), e, Option.bind_some, if_pos (by omega), w64 (by omega) (by omega)]; rfl
theorem spec_DrawPlaces_ev (l : List Int) (hl : l.length ≤ 1048576) : ∃ o : List Int, Ev (fun k => spec_DrawPlaces.f k l) o ∧ o.length = 12 ∧ ∀ y ∈ o, 0 ≤ y := by
  obtain ⟨g, K1, h1⟩ := spec_l01New_ev l hl
  obtain ⟨b, p', h', e, _, _, q0, q1⟩ := spec_l01Byte_eq l hl 0 g (by omega) (by omega)
  obtain ⟨o, ⟨K2, h2⟩, h3⟩ := spec_DrawPlaces_l0 l hl 12 0 [] p' h' (by omega) rfl (by simp) q0 q1
  refine ⟨o, ⟨K1 + K2, fun k hk => ?_⟩, h3⟩
  have e1 : spec_l01New.f k l = some _ := h1 k (by omega)
  have e2 : spec_DrawPlaces.l0 k [] 0 l p' h' = some _ := h2 k (by omega)
  simp only [spec_DrawPlaces.f]
  rw [e1, Option.bind_some, e, Option.bind_some, e2]

/-! ### check sums, in plain Lean -/
theorem xor_cancel {a b c : Nat} (h : a ^^^ c = b ^^^ c) : a = b := by
  have := congrArg (· ^^^ c) h
  simpa [Nat.xor_assoc, Nat.xor_self] using this
theorem xor_cancel' {a b c : Nat} (h : c ^^^ a = c ^^^ b) : a = b := by
  rw [Nat.xor_comm c a, Nat.xor_comm c b] at h
  exact xor_cancel h
/-- One of the eight steps of a byte. -/
def cst (x : Nat) : Nat := if x % 2 = 1 then x / 2 ^^^ 3558460437 else x / 2
theorem cst_lt {x : Nat} (h : x < 4294967296) : cst x < 4294967296 := by
  unfold cst
  split
  · exact Nat.xor_lt_two_pow (n := 32) (by omega) (by omega)
  · omega
theorem cst_top {x : Nat} (h : x < 4294967296) : (cst x).testBit 31 = decide (x % 2 = 1) := by
  have hq : (x / 2).testBit 31 = false := Nat.testBit_lt_two_pow (by omega)
  unfold cst
  by_cases h1 : x % 2 = 1
  · rw [if_pos h1, Nat.testBit_xor, hq]; simp [h1]; decide
  · rw [if_neg h1, hq]; simp [h1]
theorem cst_inj {x y : Nat} (hx : x < 4294967296) (hy : y < 4294967296) (h : cst x = cst y) : x = y := by
  have hp : decide (x % 2 = 1) = decide (y % 2 = 1) := by rw [← cst_top hx, ← cst_top hy, h]
  unfold cst at h
  by_cases h1 : x % 2 = 1
  · have h2 : y % 2 = 1 := by simpa [h1] using hp
    rw [if_pos h1, if_pos h2] at h
    have : x / 2 = y / 2 := xor_cancel h
    omega
  · have h2 : ¬ y % 2 = 1 := by simpa [h1] using hp
    rw [if_neg h1, if_neg h2] at h
    omega
/-- n steps. -/
def csts : Nat → Nat → Nat
  | 0, x => x
  | n + 1, x => csts n (cst x)
theorem csts_lt : ∀ (n : Nat) {x : Nat}, x < 4294967296 → csts n x < 4294967296
  | 0, _, h => h
  | n + 1, _, h => csts_lt n (cst_lt h)
theorem csts_inj : ∀ (n : Nat) {x y : Nat}, x < 4294967296 → y < 4294967296 → csts n x = csts n y → x = y
  | 0, _, _, _, _, h => h
  | n + 1, _, _, hx, hy, h => cst_inj hx hy (csts_inj n (cst_lt hx) (cst_lt hy) h)
/-- The sum behind more bytes. -/
def crc : Nat → List Nat → Nat
  | s, [] => s
  | s, b :: bs => crc (csts 8 (s ^^^ b)) bs
theorem xor_byte_lt {s b : Nat} (h : s < 4294967296) (hb : b < 256) : s ^^^ b < 4294967296 := Nat.xor_lt_two_pow (n := 32) (by omega) (by omega)
theorem crc_lt : ∀ (bs : List Nat) {s : Nat}, (∀ b ∈ bs, b < 256) → s < 4294967296 → crc s bs < 4294967296
  | [], _, _, h => h
  | b :: bs, _, hb, h => crc_lt bs (fun x hx => hb x (List.mem_cons_of_mem _ hx)) (csts_lt 8 (xor_byte_lt h (hb b List.mem_cons_self)))
theorem crc_inj : ∀ (bs : List Nat) {s t : Nat}, (∀ b ∈ bs, b < 256) → s < 4294967296 → t < 4294967296 → crc s bs = crc t bs → s = t
  | [], _, _, _, _, _, h => h
  | b :: bs, _, _, hb, hs, ht, h => by
    have hb0 := hb b List.mem_cons_self
    have h1 := crc_inj bs (fun x hx => hb x (List.mem_cons_of_mem _ hx)) (csts_lt 8 (xor_byte_lt hs hb0)) (csts_lt 8 (xor_byte_lt ht hb0)) h
    exact xor_cancel (csts_inj 8 (xor_byte_lt hs hb0) (xor_byte_lt ht hb0) h1)
theorem crc_app : ∀ (xs ys : List Nat) (s : Nat), crc s (xs ++ ys) = crc (crc s xs) ys
  | [], _, _ => rfl
  | _ :: xs, ys, _ => crc_app xs ys _
/-- One byte is another: the sum is another. -/
theorem crc_turned (xs ys : List Nat) (a b s : Nat) (hx : ∀ c ∈ xs, c < 256) (hy : ∀ c ∈ ys, c < 256) (ha : a < 256) (hb : b < 256) (hab : a ≠ b) (hs : s < 4294967296) :
    crc s (xs ++ a :: ys) ≠ crc s (xs ++ b :: ys) := by
  rw [crc_app, crc_app]
  intro h
  have h0 := crc_lt xs hx hs
  have h1 := crc_inj ys hy (csts_lt 8 (xor_byte_lt h0 ha)) (csts_lt 8 (xor_byte_lt h0 hb)) h
  have h2 := csts_inj 8 (xor_byte_lt h0 ha) (xor_byte_lt h0 hb) h1
  exact hab (xor_cancel' h2)
/-- A sum in four bytes, the highest first. -/
def four (n : Nat) : List Int := [((n / 16777216 % 256 : Nat) : Int), ((n / 65536 % 256 : Nat) : Int), ((n / 256 % 256 : Nat) : Int), ((n % 256 : Nat) : Int)]
theorem four_inj {m n : Nat} (hm : m < 4294967296) (hn : n < 4294967296) (h : four m = four n) : m = n := by
  simp only [four, List.cons.injEq] at h
  omega

theorem xor_nat {a b : Nat} (ha : a < 4294967296) (hb : b < 4294967296) : Go.bits .xor .u32 (a : Int) (b : Int) = ((a ^^^ b : Nat) : Int) := by
  have hx : a ^^^ b < 2 ^ 32 := Nat.xor_lt_two_pow (n := 32) (by omega) (by omega)
  have h32 : IntKind.u32.bits = 32 := rfl
  simp only [Go.bits, h32, BitVec.ofInt_natCast, BitVec.toNat_xor, BitVec.toNat_ofNat]
  rw [Nat.mod_eq_of_lt (show a < 2 ^ 32 by omega), Nat.mod_eq_of_lt (show b < 2 ^ 32 by omega), IntKind.wrap_u32]
  omega
theorem and_one {a : Nat} (ha : a < 4294967296) : Go.bits .and .u32 (a : Int) 1 = ((a % 2 : Nat) : Int) := by
  have := bits_mask .u32 32 (by decide) (fun n h0 h1 => by rw [IntKind.wrap_u32]; omega) 1 (by decide) (a : Int) (by omega) (by omega)
  simpa using this
/-- A text's bytes. -/
def nb (s : ByteArray) : List Nat := (bytesOf s).map Int.toNat
theorem nb_lt (s : ByteArray) : ∀ b ∈ nb s, b < 256 := by
  intro b hb
  obtain ⟨x, hx, rfl⟩ := List.mem_map.1 hb
  have := bytesOf_range s x hx
  omega
theorem nb_drop {s : ByteArray} {i : Nat} (h : i < s.size) : (nb s).drop i = (bt s (i : Int)).toNat :: (nb s).drop (i + 1) := by
  unfold nb
  rw [← List.map_drop, ← List.map_drop]
  have := bytesOf_drop (s := s) (i := (i : Int)) (by omega) (by omega)
  rw [Int.toNat_natCast, show ((i : Int) + 1).toNat = i + 1 by omega] at this
  rw [this]; rfl
theorem nb_drop_end {s : ByteArray} {i : Nat} (h : ¬ i < s.size) : (nb s).drop i = [] := by
  apply List.drop_eq_nil_of_le
  unfold nb
  rw [List.length_map, bytesOf_length]; omega
theorem nb_app (s t : ByteArray) : nb (s ++ t) = nb s ++ nb t := by simp [nb, bytesOf_app]
theorem sum_lt (s : ByteArray) {n : Nat} (h : n < 4294967296) : crc n (nb s) < 4294967296 := crc_lt _ (nb_lt s) h

theorem impl_SumMore_l0 (s : ByteArray) (hs : s.size ≤ 140737488351232) : ∀ (d i : Nat), i + d = s.size → ∀ x : Nat, x < 4294967296 →
    Ev (fun k => impl_SumMore.l0 k (x : Int) s (s.size : Int) (i : Int)) ((crc x ((nb s).drop i) : Nat) : Int)
  | 0, i, hd, x, _ => by
    refine Ev.step (f := fun _ => some (x : Int)) (fun k => ?_) ?_
    · simp only [impl_SumMore.l0]; rw [if_neg (by omega)]
    · rw [nb_drop_end (by omega)]; exact Ev.now _
  | d + 1, i, hd, x, hx => by
    have hb := bt_range s (i : Int)
    obtain ⟨b, hb'⟩ := Int.eq_ofNat_of_zero_le hb.1
    have hbl : b < 256 := by omega
    have inner : ∀ (e j : Nat), j + e = 8 → ∀ y : Nat, y < 4294967296 → Ev (fun k => impl_SumMore.l1 k (y : Int) s (s.size : Int) (i : Int) (j : Int)) ((crc (csts e y) ((nb s).drop (i + 1)) : Nat) : Int) := by
      intro e
      induction e with
      | zero =>
        intro j hj y hy
        refine Ev.step (f := fun k => impl_SumMore.l0 k (y : Int) s (s.size : Int) ((i + 1 : Nat) : Int)) (fun k => ?_) (impl_SumMore_l0 s hs d (i + 1) (by omega) y hy)
        simp only [impl_SumMore.l1]
        rw [if_neg (by omega), w64 (by omega) (by omega)]; rfl
      | succ e ih =>
        intro j hj y hy
        refine Ev.step (f := fun k => impl_SumMore.l1 k ((cst y : Nat) : Int) s (s.size : Int) (i : Int) ((j + 1 : Nat) : Int)) (fun k => ?_) (ih (j + 1) (by omega) (cst y) (cst_lt hy))
        simp only [impl_SumMore.l1]
        rw [if_pos (by omega), w64 (by omega) (by omega), and_one hy, show (y : Int) / 2 = ((y / 2 : Nat) : Int) by omega]
        unfold cst
        by_cases h1 : y % 2 = 1
        · rw [if_pos (by omega), if_pos h1, show (3558460437 : Int) = ((3558460437 : Nat) : Int) from rfl, xor_nat (by omega) (by omega)]; rfl
        · rw [if_neg (by omega), if_neg h1]; rfl
    refine Ev.step (f := fun k => impl_SumMore.l1 k ((x ^^^ b : Nat) : Int) s (s.size : Int) (i : Int) ((0 : Nat) : Int)) (fun k => ?_) ?_
    · simp only [impl_SumMore.l0]
      rw [if_pos (by omega), if_pos (by omega), if_pos (by omega), hb', show (b : Int) % 4294967296 = (b : Int) by omega, xor_nat hx (by omega)]; rfl
    · have h := inner 8 0 rfl (x ^^^ b) (xor_byte_lt hx hbl)
      rw [nb_drop (by omega), hb', Int.toNat_natCast]
      exact h
theorem impl_SumMore_ev (s : ByteArray) (x : Nat) (hx : x < 4294967296) (hs : s.size ≤ 140737488351232) : Ev (fun k => impl_SumMore.f k (x : Int) s) ((crc x (nb s) : Nat) : Int) :=
  impl_SumMore_l0 s hs s.size 0 (by omega) x hx

def sumC (s : ByteArray) : Nat := crc 4294967295 (nb s)
theorem sumC_lt (s : ByteArray) : sumC s < 4294967296 := sum_lt s (by omega)
theorem four_bytes (n : Nat) : ∀ b ∈ four n, 0 ≤ b ∧ b ≤ 255 := by
  intro b hb
  simp only [four, List.mem_cons, List.not_mem_nil, or_false] at hb
  omega
/-- A sum in four bytes, as a text. -/
def fourT (n : Nat) : ByteArray := strOfNums (four n)
theorem bytesOf_fourT (n : Nat) : bytesOf (fourT n) = four n := bytesOf_str _ (four_bytes n)
theorem fourT_size (n : Nat) : (fourT n).size = 4 := by unfold fourT; rw [strOfNums_size]; rfl
theorem impl_SumOf_ev (s : ByteArray) (hs : s.size ≤ 140737488351232) : Ev (fun k => impl_SumOf.f k s) ((sumC s : Nat) : Int) := by
  obtain ⟨K, hK⟩ := impl_SumMore_ev s 4294967295 (by omega) hs
  refine ⟨K, fun k hk => ?_⟩
  have e : impl_SumMore.f k 4294967295 s = some _ := hK k hk
  simp only [impl_SumOf.f]
  rw [e]; rfl

theorem impl_fourBytes_eq (n : Nat) : impl_fourBytes.f (n : Int) = some (fourT n) := by
  simp only [impl_fourBytes.f, fourT, four]
  congr 2

def sealC (s : ByteArray) : ByteArray × Bool := if s.size ≤ 20000 then (s ++ fourT (sumC s), true) else (⟨#[]⟩, false)
def unsealC (s : ByteArray) : ByteArray × Bool :=
  if 4 ≤ s.size ∧ s.size ≤ 20004 ∧ s.extract (s.size - 4) s.size = fourT (sumC (s.extract 0 (s.size - 4))) then (s.extract 0 (s.size - 4), true) else (⟨#[]⟩, false)
theorem extract_split (s : ByteArray) (n : Nat) : s.extract 0 n ++ s.extract n s.size = s := by
  apply bytesOf_inj
  rw [bytesOf_app, bytesOf_ext, bytesOf_ext, List.drop_zero, Nat.sub_zero]
  rw [List.take_of_length_le (i := s.size - n) (by rw [List.length_drop, bytesOf_length]; omega)]
  exact List.take_append_drop ..
theorem ext_size (s : ByteArray) {a b : Nat} (h1 : a ≤ b) (h2 : b ≤ s.size) : (s.extract a b).size = b - a := by
  rw [← bytesOf_length, bytesOf_ext, List.length_take, List.length_drop, bytesOf_length]; omega
theorem app_cancel {s t u : ByteArray} : s ++ t = s ++ u ↔ t = u := by
  constructor
  · intro h
    have := congrArg bytesOf h
    rw [bytesOf_app, bytesOf_app] at this
    exact bytesOf_inj (List.append_cancel_left this)
  · rintro rfl; rfl
theorem seal_key (s u : ByteArray) (n : Nat) : s.extract 0 n ++ u = s ↔ s.extract n s.size = u := by
  have hsp := extract_split s n
  constructor
  · intro h
    exact (app_cancel.1 (h.trans hsp.symm)).symm
  · rintro rfl
    exact hsp

theorem impl_Sealed_ev (s : ByteArray) (hs : s.size ≤ 140737488351232) : Ev (fun k => impl_Sealed.f k s) (sealC s) := by
  by_cases h : s.size ≤ 20000
  · obtain ⟨K, hK⟩ := impl_SumOf_ev s hs
    refine ⟨K, fun k hk => ?_⟩
    have e : impl_SumOf.f k s = some _ := hK k hk
    have hz := fourT_size (sumC s)
    simp only [impl_Sealed.f, sealC]
    rw [if_neg (by omega), e, Option.bind_some, impl_fourBytes_eq, Option.bind_some, if_pos (by omega), if_pos h]
  · refine ⟨0, fun k _ => ?_⟩
    simp only [impl_Sealed.f, sealC]
    rw [if_pos (by omega), if_neg h]

theorem impl_Unsealed_ev (s : ByteArray) (hs : s.size ≤ 140737488351232) : Ev (fun k => impl_Unsealed.f k s) (unsealC s) := by
  by_cases h : 4 ≤ s.size
  · have hz := ext_size s (a := 0) (b := s.size - 4) (by omega) (by omega)
    obtain ⟨K, hK⟩ := impl_Sealed_ev (s.extract 0 (s.size - 4)) (by omega)
    refine ⟨K, fun k hk => ?_⟩
    have e : impl_Sealed.f k (s.extract 0 (s.size - 4)) = some _ := hK k hk
    simp only [impl_Unsealed.f]
    rw [w64 (by omega) (by omega), if_neg (by omega), if_pos (by omega), if_pos (by omega), show ((s.size : Int) - 4).toNat = s.size - 4 by omega, e, Option.bind_some]
    unfold sealC unsealC
    by_cases h1 : s.size ≤ 20004
    · rw [if_pos (by omega : (s.extract 0 (s.size - 4)).size ≤ 20000)]
      rw [if_pos (rfl : (s.extract 0 (s.size - 4) ++ fourT (sumC (s.extract 0 (s.size - 4))), true).2 = true)]
      have key := seal_key s (fourT (sumC (s.extract 0 (s.size - 4)))) (s.size - 4)
      by_cases h2 : s.extract (s.size - 4) s.size = fourT (sumC (s.extract 0 (s.size - 4)))
      · rw [if_pos (toList_iff.2 (key.2 h2)), if_pos ⟨h, h1, h2⟩]
      · rw [if_neg (fun h3 => h2 (key.1 (toList_iff.1 h3))), if_neg (fun h3 => h2 h3.2.2)]
    · rw [if_neg (by omega : ¬ (s.extract 0 (s.size - 4)).size ≤ 20000), if_neg (by simp), if_neg (fun h3 => h1 h3.2.1)]
  · refine ⟨0, fun k _ => ?_⟩
    simp only [impl_Unsealed.f, unsealC]
    rw [w64 (by omega) (by omega), if_pos (by omega), if_neg (fun h3 => h h3.1)]

theorem spec_l01Text_szl (l : List Int) (hl : l.length ≤ 1048576) (n : Int) (hn : n ≤ 900) : ∀ (d i : Nat) (x : List Int) (p h : Int), (n - (i : Int) ≤ (d : Int)) → x.length = i → i ≤ 900 → 0 ≤ p → p ≤ (l.length : Int) →
    ∃ o p' h', Ev (fun k => spec_l01Text.l0 k n x (i : Int) l p h) (o, p', h') ∧ o.size ≤ 1000
  | 0, i, x, p, h, hi, hx, hm, h0, h1 => by
    refine ⟨_, _, _, Ev.step (f := fun _ => some (strOfNums x, p, h)) (fun k => ?_) (Ev.now _), by rw [strOfNums_size]; omega⟩
    simp only [spec_l01Text.l0]; rw [if_neg (by omega)]
  | d + 1, i, x, p, h, hi, hx, hm, h0, h1 => by
    by_cases c : (i : Int) < n
    · obtain ⟨b, p', h', e, _, _, q0, q1⟩ := spec_l01Byte_eq l hl p h h0 h1
      obtain ⟨o, p2, h2, ho, hz⟩ := spec_l01Text_szl l hl n hn d (i + 1) (x ++ [b % 256]) p' h' (by omega) (by simp; omega) (by omega) q0 q1
      refine ⟨o, p2, h2, Ev.step (f := fun k => spec_l01Text.l0 k n (x ++ [b % 256]) ((i + 1 : Nat) : Int) l p' h') (fun k => ?_) ho, hz⟩
      simp only [spec_l01Text.l0]
      rw [if_pos c, e, Option.bind_some, if_pos (by omega), w64 (by omega) (by omega)]; rfl
    · refine ⟨_, _, _, Ev.step (f := fun _ => some (strOfNums x, p, h)) (fun k => ?_) (Ev.now _), by rw [strOfNums_size]; omega⟩
      simp only [spec_l01Text.l0]; rw [if_neg (by omega)]
theorem spec_DrawSumOf_ev (l : List Int) (hl : l.length ≤ 1048576) : ∃ s, Ev (fun k => spec_DrawSumOf.f k l) s ∧ s.size ≤ 1000 := by
  obtain ⟨g, K1, h1⟩ := spec_l01New_ev l hl
  obtain ⟨b, p1, g1, e1, b0, b1, q0, q1⟩ := spec_l01Below_eq l hl 0 g 40 (by omega) (by omega) (by omega)
  obtain ⟨o, p', h', ⟨K2, h2⟩, hz⟩ := spec_l01Text_szl l hl b (by omega) b.toNat 0 [] p1 g1 (by omega) rfl (by omega) q0 q1
  refine ⟨o, ⟨K1 + K2 + 1, fun k hk => ?_⟩, hz⟩
  obtain ⟨k, rfl⟩ : ∃ m, k = m + 1 := ⟨k - 1, by omega⟩
  have e3 : spec_l01New.f (k + 1) l = some _ := h1 _ (by omega)
  have e4 : spec_l01Text.l0 k b [] 0 l p1 g1 = some _ := h2 k (by omega)
  simp only [spec_DrawSumOf.f, spec_l01Text.f]
  rw [e3, Option.bind_some, e1, Option.bind_some]
  simp only []
  rw [if_neg (by omega)]
  simp only [spec_l01Text.j0]
  rw [e4, Option.bind_some]
/-- A byte under an exclusive or with what is not zero is another byte. -/
theorem xor_other {a e : Int} (ha : 0 ≤ a ∧ a ≤ 255) (he : 1 ≤ e ∧ e ≤ 255) : 0 ≤ Go.bits .xor .u8 a e ∧ Go.bits .xor .u8 a e ≤ 255 ∧ Go.bits .xor .u8 a e ≠ a := by
  obtain ⟨a, rfl⟩ := Int.eq_ofNat_of_zero_le ha.1
  obtain ⟨e, rfl⟩ := Int.eq_ofNat_of_zero_le (show 0 ≤ e by omega)
  have hx : a ^^^ e < 2 ^ 8 := Nat.xor_lt_two_pow (n := 8) (by omega) (by omega)
  have h8 : IntKind.u8.bits = 8 := rfl
  have key : Go.bits .xor .u8 (a : Int) (e : Int) = ((a ^^^ e : Nat) : Int) := by
    simp only [Go.bits, h8, BitVec.ofInt_natCast, BitVec.toNat_xor, BitVec.toNat_ofNat]
    rw [Nat.mod_eq_of_lt (show a < 2 ^ 8 by omega), Nat.mod_eq_of_lt (show e < 2 ^ 8 by omega), IntKind.wrap_u8]
    omega
  rw [key]
  refine ⟨by omega, by omega, fun h => ?_⟩
  have h1 : a ^^^ e = a ^^^ 0 := by rw [Nat.xor_zero]; omega
  have := xor_cancel' h1
  omega
theorem set_split {α : Type} (l : List α) (j : Nat) (v : α) (h : j < l.length) : l.set j v = l.take j ++ v :: l.drop (j + 1) := by
  rw [List.set_eq_take_append_cons_drop, if_pos h]
theorem sumC_other (s : ByteArray) (j : Nat) (hj : j < s.size) (v : Int) (hv : 0 ≤ v ∧ v ≤ 255) (hne : v ≠ bt s (j : Int)) : crc 4294967295 (((bytesOf s).set j v).map Int.toNat) ≠ sumC s := by
  have hl : j < (bytesOf s).length := by rw [bytesOf_length]; exact hj
  have hg : (bytesOf s)[j] = bt s (j : Int) := by
    have := bt_getElem (s := s) (i := (j : Int)) (by simpa using hj)
    rw [Int.toNat_natCast, List.getElem?_eq_getElem hl] at this
    exact Option.some.inj this
  have h2 : nb s = ((bytesOf s).take j).map Int.toNat ++ (bt s (j : Int)).toNat :: ((bytesOf s).drop (j + 1)).map Int.toNat := by
    have := congrArg (List.map Int.toNat) (set_split (bytesOf s) j ((bytesOf s)[j]) hl)
    rw [List.set_getElem_self] at this
    rw [hg] at this
    simpa [nb] using this
  have h1 : ((bytesOf s).set j v).map Int.toNat = ((bytesOf s).take j).map Int.toNat ++ v.toNat :: ((bytesOf s).drop (j + 1)).map Int.toNat := by
    rw [set_split _ _ _ hl]; simp
  unfold sumC
  rw [h1, h2]
  have hb := bt_range s (j : Int)
  have hr := bytesOf_range s
  refine crc_turned _ _ _ _ _ (fun c hc => ?_) (fun c hc => ?_) (by omega) (by omega) (by omega) (by omega)
  · obtain ⟨x, hx, rfl⟩ := List.mem_map.1 hc
    have := hr x (List.mem_of_mem_take hx)
    omega
  · obtain ⟨x, hx, rfl⟩ := List.mem_map.1 hc
    have := hr x (List.mem_of_mem_drop hx)
    omega
theorem unsealC_turned (s : ByteArray) (hs : s.size ≤ 1000) (j : Nat) (hj : j < s.size + 4) (v : Int) (hv : 0 ≤ v ∧ v ≤ 255) (hne : v ≠ bt (s ++ fourT (sumC s)) (j : Int)) :
    unsealC (strOfNums ((bytesOf (s ++ fourT (sumC s))).set j v)) = ((⟨#[]⟩ : ByteArray), false) := by
  have h4 := fourT_size (sumC s)
  have hbl : (bytesOf (s ++ fourT (sumC s))).length = s.size + 4 := by rw [bytesOf_app, List.length_append, bytesOf_length, bytesOf_length, h4]
  have hsz : (strOfNums ((bytesOf (s ++ fourT (sumC s))).set j v)).size = s.size + 4 := by rw [strOfNums_size, List.length_set, hbl]
  have hby : bytesOf (strOfNums ((bytesOf (s ++ fourT (sumC s))).set j v)) = (bytesOf (s ++ fourT (sumC s))).set j v := bytesOf_str _ (fun b hb => by
    rcases List.mem_or_eq_of_mem_set hb with h | h
    · exact bytesOf_range _ b h
    · rw [h]; exact hv)
  unfold unsealC
  rw [if_neg]
  rintro ⟨_, _, h⟩
  have h' := congrArg bytesOf h
  rw [bytesOf_ext, hby, bytesOf_fourT, hsz, show s.size + 4 - (s.size + 4 - 4) = 4 by omega, show s.size + 4 - 4 = s.size by omega] at h'
  by_cases c : j < s.size
  · have e1 : (((bytesOf (s ++ fourT (sumC s))).set j v).drop s.size).take 4 = four (sumC s) := by
      rw [List.drop_set_of_lt c, bytesOf_app, List.drop_left' (bytesOf_length s), bytesOf_fourT]
      exact List.take_of_length_le (by simp [four])
    rw [e1] at h'
    have h2 := four_inj (sumC_lt _) (sumC_lt _) h'
    refine sumC_other s j c v hv ?_ ?_
    · have : bt (s ++ fourT (sumC s)) (j : Int) = bt s (j : Int) := by
        have g1 := bt_getElem (s := s ++ fourT (sumC s)) (i := (j : Int)) (by rw [Int.toNat_natCast, ← bytesOf_length, hbl]; omega)
        have g2 := bt_getElem (s := s) (i := (j : Int)) (by rw [Int.toNat_natCast]; exact c)
        rw [bytesOf_app, List.getElem?_append_left (by rw [bytesOf_length, Int.toNat_natCast]; exact c), g2] at g1
        exact (Option.some.inj g1).symm
      rw [← this]; exact hne
    · rw [h2]
      show _ = crc 4294967295 ((bytesOf _).map Int.toNat)
      rw [bytesOf_ext, hby, List.drop_zero, Nat.sub_zero, bytesOf_app, List.set_append_left _ _ (by rw [bytesOf_length]; exact c), List.take_left' (by rw [List.length_set, bytesOf_length])]
  · have e2 : (strOfNums ((bytesOf (s ++ fourT (sumC s))).set j v)).extract 0 s.size = s := by
      apply bytesOf_inj
      rw [bytesOf_ext, hby, List.drop_zero, Nat.sub_zero, bytesOf_app, List.set_append_right _ _ (by rw [bytesOf_length]; omega), List.take_left' (bytesOf_length s)]
    rw [e2, bytesOf_app, List.set_append_right _ _ (by rw [bytesOf_length]; omega), List.drop_left' (bytesOf_length s), bytesOf_fourT, bytesOf_length] at h'
    rw [List.take_of_length_le (by simp [four])] at h'
    have g1 := bt_getElem (s := s ++ fourT (sumC s)) (i := (j : Int)) (by rw [Int.toNat_natCast, ← bytesOf_length, hbl]; omega)
    rw [Int.toNat_natCast, bytesOf_app, List.getElem?_append_right (by rw [bytesOf_length]; omega), bytesOf_length, bytesOf_fourT, ← h'] at g1
    rw [List.getElem?_set_self (by simp [four]; omega)] at g1
    exact hne (Option.some.inj g1)
theorem FnTurned (l : List Int) (_ : l.length ≤ 9223372036854775807 ∧ ∀ y ∈ l, (Lit.int .u8 y).wf = true) : ∃ k, laws_FnTurned.f k l = some true := by
  by_cases c : (l.length : Int) > 1048576
  · refine ⟨0, ?_⟩
    unfold laws_FnTurned.f
    rw [if_pos]
    exact .inl (by simp only [laws_big.f]; rw [decide_eq_true c])
  obtain ⟨s, ⟨K1, h1⟩, hsz⟩ := spec_DrawSumOf_ev l (by omega)
  obtain ⟨p, ⟨K2, h2⟩, hp, hpn⟩ := spec_DrawPlaces_ev l (by omega)
  have hp0 : 0 ≤ rd p 0 := hpn _ (by unfold rd; rw [List.getD_eq_getElem?_getD, List.getElem?_eq_getElem (by rw [hp]; decide)]; exact List.getElem_mem _)
  have hp1 : 0 ≤ rd p 1 := hpn _ (by unfold rd; rw [List.getD_eq_getElem?_getD, List.getElem?_eq_getElem (by rw [hp]; decide)]; exact List.getElem_mem _)
  have h4 := fourT_size (sumC s)
  have hts : (s ++ fourT (sumC s)).size = s.size + 4 := by rw [ByteArray.size_append, h4]
  obtain ⟨K3, h3⟩ := impl_Sealed_ev s (by omega)
  obtain ⟨K4, h5⟩ := impl_Unsealed_ev (s ++ fourT (sumC s)) (by omega)
  rw [show sealC s = (s ++ fourT (sumC s), true) from if_pos (by omega)] at h3
  have hun : unsealC (s ++ fourT (sumC s)) = (s, true) := by
    have e1 : (s ++ fourT (sumC s)).extract 0 s.size = s := by
      apply bytesOf_inj
      rw [bytesOf_ext, List.drop_zero, Nat.sub_zero, bytesOf_app, List.take_left' (bytesOf_length s)]
    have e2 : (s ++ fourT (sumC s)).extract s.size (s.size + 4) = fourT (sumC s) := by
      apply bytesOf_inj
      rw [bytesOf_ext, bytesOf_app, List.drop_left' (bytesOf_length s), show s.size + 4 - s.size = 4 by omega]
      exact List.take_of_length_le (by rw [bytesOf_length, h4]; omega)
    unfold unsealC
    rw [hts, show s.size + 4 - 4 = s.size by omega, e1, e2, if_pos ⟨by omega, by omega, rfl⟩]
  rw [hun] at h5
  obtain ⟨j, hj⟩ : ∃ j : Nat, Int.tmod (rd p 0) ((s.size + 4 : Nat) : Int) = (j : Int) := ⟨_, (Int.toNat_of_nonneg (Int.tmod_nonneg _ hp0)).symm⟩
  have hj1 : j < s.size + 4 := by
    have := Int.tmod_lt_of_pos (rd p 0) (b := ((s.size + 4 : Nat) : Int)) (by omega)
    omega
  obtain ⟨e, he⟩ : ∃ e : Int, Int.tmod (rd p 1) 255 = e := ⟨_, rfl⟩
  have he0 : 0 ≤ e := by rw [← he]; exact Int.tmod_nonneg _ hp1
  have he1 : e < 255 := by rw [← he]; exact Int.tmod_lt_of_pos _ (by omega)
  obtain ⟨x0, x1, x2⟩ := xor_other (bt_range (s ++ fourT (sumC s)) (j : Int)) (e := 1 + e) ⟨by omega, by omega⟩
  have hw := unsealC_turned s hsz j hj1 _ ⟨x0, x1⟩ x2
  obtain ⟨K5, h6⟩ := impl_Unsealed_ev (strOfNums ((bytesOf (s ++ fourT (sumC s))).set j (Go.bits .xor .u8 (bt (s ++ fourT (sumC s)) (j : Int)) (1 + e)))) (by
    rw [strOfNums_size, List.length_set, bytesOf_length, hts]; omega)
  rw [hw] at h6
  obtain ⟨K6, h7⟩ := impl_SumOf_ev s (by omega)
  obtain ⟨K7, h8⟩ := impl_SumMore_ev (⟨#[120]⟩ : ByteArray) (sumC s) (sumC_lt s) (by decide)
  obtain ⟨K8, h9⟩ := impl_SumOf_ev (s ++ (⟨#[120]⟩ : ByteArray)) (by rw [ByteArray.size_append]; show s.size + 1 ≤ _; omega)
  have hsum : sumC (s ++ (⟨#[120]⟩ : ByteArray)) = crc (sumC s) (nb (⟨#[120]⟩ : ByteArray)) := by unfold sumC; rw [nb_app, crc_app]
  rw [hsum] at h9
  refine ⟨K1 + K2 + K3 + K4 + K5 + K6 + K7 + K8, ?_⟩
  generalize hk : K1 + K2 + K3 + K4 + K5 + K6 + K7 + K8 = k
  unfold laws_FnTurned.f
  rw [if_pos]
  refine .inr ⟨by simp only [laws_big.f]; rw [decide_eq_false c], s, s ++ fourT (sumC s), (⟨#[]⟩ : ByteArray), s.size + 4, p, _, _, h1 k (by omega), h2 k (by omega), h3 k (by omega), h5 k (by omega), hts, rfl, hsz, hp, hp0, hp1, ?_, h7 k (by omega), h8 k (by omega), h9 k (by omega)⟩
  rw [hj, he, Int.toNat_natCast, show (1 + e) % 256 = 1 + e by omega]
  exact h6 k (by omega)

end Go.Proofs.Ytpmnepbcbjdkoaa.Pure
