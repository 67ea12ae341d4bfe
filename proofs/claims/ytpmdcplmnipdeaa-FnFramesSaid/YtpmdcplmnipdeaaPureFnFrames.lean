/- For every code: the frames that Frame makes of three records are read back whole by Unframe, and of a torn file the whole frames are: FnFrames returns true. No condition. -/
import Derived.Test.YtpmdcplmnipdeaaQFnFramesx4
namespace Go.Proofs.Ytpmdcplmnipdeaa.Pure
open Go.RowKit Go.Proofs.Ytpmdcplmnipdeaa.PFnFrames Go.Proofs.YtpmdcplmnipdeaaW.PrintWords Go.Proofs.YtpmdcplmnipdeaaW.PrintLast Go.Proofs.YtpmdcplmnipdeaaW.PrintMore

/-! ### texts as lists of bytes -/
theorem bytesOf_range (s : ByteArray) : ∀ b ∈ bytesOf s, 0 ≤ b ∧ b ≤ 255 := by
  intro b hb
  obtain ⟨u, _, rfl⟩ := List.mem_map.1 hb
  have := u.toNat_lt
  omega
theorem bytesOf_inj {s t : ByteArray} (h : bytesOf s = bytesOf t) : s = t := by
  apply ByteArray.ext
  apply Array.toList_inj.1
  unfold bytesOf at h
  refine (List.map_inj_right ?_).1 h
  intro a b hab
  exact UInt8.toNat_inj.1 (by omega)
theorem bytesOf_app (s t : ByteArray) : bytesOf (s ++ t) = bytesOf s ++ bytesOf t := by
  simp [bytesOf]
theorem bytesOf_ext (s : ByteArray) (a b : Nat) : bytesOf (s.extract a b) = ((bytesOf s).drop a).take (b - a) := by
  simp [bytesOf, List.map_take, List.map_drop]
theorem bytesOf_str (xs : List Int) (h : ∀ b ∈ xs, 0 ≤ b ∧ b ≤ 255) : bytesOf (strOfNums xs) = xs := by
  unfold bytesOf
  rw [strOfNums_data, List.map_map]
  conv => rhs; rw [← List.map_id xs]
  refine List.map_congr_left fun b hb => ?_
  have := h b hb
  simp only [Function.comp_apply, id_eq, UInt8.toNat_ofNat']
  omega
theorem str_bytesOf (s : ByteArray) : strOfNums (bytesOf s) = s := bytesOf_inj (bytesOf_str _ (bytesOf_range s))
theorem bytesOf_nil : bytesOf (⟨#[]⟩ : ByteArray) = [] := rfl
theorem toList_iff {s t : ByteArray} : s.toList = t.toList ↔ s = t := by
  constructor
  · intro h
    rw [ByteArray.toList_eq, ByteArray.toList_eq] at h
    exact ByteArray.ext (Array.toList_inj.1 h)
  · rintro rfl; rfl
theorem bt_getElem {s : ByteArray} {i : Int} (h1 : i.toNat < s.size) : (bytesOf s)[i.toNat]? = some (bt s i) := by
  rw [← rd_bytesOf]
  unfold rd
  rw [List.getD_eq_getElem?_getD, List.getElem?_eq_getElem (by rw [bytesOf_length]; exact h1)]; rfl
theorem bytesOf_drop {s : ByteArray} {i : Int} (h0 : 0 ≤ i) (h : i < (s.size : Int)) : (bytesOf s).drop i.toNat = bt s i :: (bytesOf s).drop (i + 1).toNat := by
  have hl : i.toNat < (bytesOf s).length := by rw [bytesOf_length]; omega
  rw [List.drop_eq_getElem_cons hl, show (i + 1).toNat = i.toNat + 1 by omega]
  congr 1
  have := bt_getElem (s := s) (i := i) (by omega)
  rw [List.getElem?_eq_getElem hl] at this
  exact Option.some.inj this
theorem bytesOf_drop_end {s : ByteArray} {i : Int} (h : ¬ i < (s.size : Int)) : (bytesOf s).drop i.toNat = [] := by
  apply List.drop_eq_nil_of_le
  rw [bytesOf_length]; omega
theorem extract_all (s : ByteArray) : s.extract 0 s.size = s := bytesOf_inj (by rw [bytesOf_ext, List.drop_zero, Nat.sub_zero, ← bytesOf_length, List.take_length])
theorem w64 {n : Int} (h0 : -9223372036854775808 ≤ n) (h1 : n ≤ 9223372036854775807) : wrap64 n = n := by
  unfold wrap64; omega
theorem i64wf {n : Int} (h : (Lit.int .i64 n).wf = true) : -9223372036854775808 ≤ n ∧ n ≤ 9223372036854775807 := by
  simp [Lit.wf, IntKind.min, IntKind.max, IntKind.bits, IntKind.signed] at h
  omega
theorem u32wf {n : Int} (h : (Lit.int .u32 n).wf = true) : 0 ≤ n ∧ n ≤ 4294967295 := by
  simp [Lit.wf, IntKind.min, IntKind.max, IntKind.bits, IntKind.signed] at h
  omega
theorem tmod_nat {n : Int} (h : 0 ≤ n) (m : Int) : Int.tmod n m = n % m := Int.tmod_eq_emod_of_nonneg h
theorem tdiv_nat {n : Int} (h : 0 ≤ n) (m : Int) : Int.tdiv n m = n / m := Int.tdiv_eq_ediv_of_nonneg h

theorem and255 (x : Int) : 0 ≤ Go.bits .and .i64 x 255 ∧ Go.bits .and .i64 x 255 ≤ 255 := by
  have h : ((BitVec.ofInt 64 x) &&& (BitVec.ofInt 64 255)).toNat ≤ 255 := by
    rw [BitVec.toNat_and]; exact Nat.le_trans Nat.and_le_right (by decide)
  show 0 ≤ IntKind.i64.wrap (((BitVec.ofInt 64 x) &&& (BitVec.ofInt 64 255)).toNat : Int) ∧ IntKind.i64.wrap (((BitVec.ofInt 64 x) &&& (BitVec.ofInt 64 255)).toNat : Int) ≤ 255
  rw [IntKind.wrap_i64]; omega
theorem spec_l01New_l0 (l : List Int) (hl : l.length ≤ 1048576) : ∀ (d i : Nat) (x : Int), i + d = l.length → ∃ h, Ev (fun k => spec_l01New.l0 k l x (i : Int)) (l, 0, h)
  | 0, i, x, hi => by
    refine ⟨x, Ev.step (f := fun _ => some (l, 0, x)) (fun k => ?_) (Ev.now _)⟩
    simp only [spec_l01New.l0]; rw [if_neg (by omega)]
  | d + 1, i, x, hi => by
    by_cases c : i < 4000
    · obtain ⟨h, hh⟩ := spec_l01New_l0 l hl d (i + 1) (Go.bits .and .i64 (wrap64 ((wrap64 ((wrap64 (x * 131)) + (wrap64 (rd l (i : Int))))) + 7)) 1073741823) (by omega)
      refine ⟨h, Ev.step (f := fun k => spec_l01New.l0 k l (Go.bits .and .i64 (wrap64 ((wrap64 ((wrap64 (x * 131)) + (wrap64 (rd l (i : Int))))) + 7)) 1073741823) ((i + 1 : Nat) : Int)) (fun k => ?_) hh⟩
      simp only [spec_l01New.l0]
      rw [if_pos (by omega), if_pos (by omega), if_pos (by omega), w64 (n := (i : Int) + 1) (by omega) (by omega)]; rfl
    · refine ⟨x, Ev.step (f := fun _ => some (l, 0, x)) (fun k => ?_) (Ev.now _)⟩
      simp only [spec_l01New.l0]; rw [if_pos (by omega), if_neg (by omega)]
theorem spec_l01New_ev (l : List Int) (hl : l.length ≤ 1048576) : ∃ h, Ev (fun k => spec_l01New.f k l) (l, 0, h) := spec_l01New_l0 l hl l.length 0 _ (by omega)
theorem spec_l01Byte_eq (l : List Int) (hl : l.length ≤ 1048576) (p h : Int) (h0 : 0 ≤ p) (h1 : p ≤ (l.length : Int)) :
    ∃ b p' h', spec_l01Byte.f l p h = some (b, p', h') ∧ 0 ≤ b ∧ b ≤ 255 ∧ 0 ≤ p' ∧ p' ≤ (l.length : Int) := by
  simp only [spec_l01Byte.f]
  by_cases c : p < (l.length : Int)
  · rw [if_pos c, if_pos h0, w64 (n := p + 1) (by omega) (by omega)]
    refine ⟨_, _, _, rfl, ?_⟩
    have := and255 (wrap64 ((Go.bits .and .i64 (Go.bits .xor .i64 ((wrap64 ((wrap64 (h * 6364136223846793005)) + 1442695040888963407)) / 8589934592) ((wrap64 ((wrap64 (h * 6364136223846793005)) + 1442695040888963407)) / 35184372088832)) 255) + (wrap64 (rd l p))))
    exact ⟨this.1, this.2, by omega, by omega⟩
  · rw [if_neg c]
    refine ⟨_, _, _, rfl, ?_⟩
    have := and255 (Go.bits .xor .i64 ((wrap64 ((wrap64 (h * 6364136223846793005)) + 1442695040888963407)) / 8589934592) ((wrap64 ((wrap64 (h * 6364136223846793005)) + 1442695040888963407)) / 35184372088832))
    exact ⟨this.1, this.2, h0, h1⟩
theorem spec_l01Below_eq (l : List Int) (hl : l.length ≤ 1048576) (p h n : Int) (hn : 0 < n) (h0 : 0 ≤ p) (h1 : p ≤ (l.length : Int)) :
    ∃ b p' h', spec_l01Below.f l p h n = some (b, p', h') ∧ 0 ≤ b ∧ b < n ∧ 0 ≤ p' ∧ p' ≤ (l.length : Int) := by
  simp only [spec_l01Below.f]
  rw [if_neg (by omega)]
  obtain ⟨x, p1, g1, e1, x0, x1, q0, q1⟩ := spec_l01Byte_eq l hl p h h0 h1
  by_cases c : n ≤ 256
  · rw [if_pos c, e1, Option.bind_some, if_neg (by omega)]
    refine ⟨_, _, _, rfl, ?_, ?_, q0, q1⟩
    · exact Int.tmod_nonneg _ x0
    · exact Int.tmod_lt_of_pos _ hn
  · obtain ⟨y, p2, g2, e2, y0, y1, r0, r1⟩ := spec_l01Byte_eq l hl p1 g1 q0 q1
    obtain ⟨z, p3, g3, e3, z0, z1, s0, s1⟩ := spec_l01Byte_eq l hl p2 g2 r0 r1
    obtain ⟨u, p4, g4, e4, u0, u1, t0, t1⟩ := spec_l01Byte_eq l hl p3 g3 s0 s1
    rw [if_neg c, e1, Option.bind_some, e2, Option.bind_some, e3, Option.bind_some, e4, Option.bind_some, if_neg (by omega)]
    refine ⟨_, _, _, rfl, ?_, ?_, t0, t1⟩
    · refine Int.tmod_nonneg _ ?_
      simp only []
      rw [w64 (n := x * 16777216) (by omega) (by omega), w64 (n := y * 65536) (by omega) (by omega), w64 (n := z * 256) (by omega) (by omega), w64 (n := x * 16777216 + y * 65536) (by omega) (by omega), w64 (n := x * 16777216 + y * 65536 + z * 256) (by omega) (by omega), w64 (by omega) (by omega)]
      omega
    · exact Int.tmod_lt_of_pos _ hn

theorem spec_DrawPlaces_l0 (l : List Int) (hl : l.length ≤ 1048576) : ∀ (d i : Nat) (x : List Int) (p h : Int), i + d = 12 → x.length = i → (∀ y ∈ x, 0 ≤ y) → 0 ≤ p → p ≤ (l.length : Int) →
    ∃ o : List Int, Ev (fun k => spec_DrawPlaces.l0 k x (i : Int) l p h) o ∧ o.length = 12 ∧ ∀ y ∈ o, 0 ≤ y
  | 0, i, x, p, h, hi, hx, hy, h0, h1 => by
    refine ⟨x, Ev.step (f := fun _ => some x) (fun k => ?_) (Ev.now _), by omega, hy⟩
    simp only [spec_DrawPlaces.l0]; rw [if_neg (by omega)]
  | d + 1, i, x, p, h, hi, hx, hy, h0, h1 => by
    obtain ⟨b, p', h', e, b0, _, q0, q1⟩ := spec_l01Below_eq l hl p h 10000 (by omega) h0 h1
    obtain ⟨o, ho, h2⟩ := spec_DrawPlaces_l0 l hl d (i + 1) (x ++ [b]) p' h' (by omega) (by simp; omega) (by
      intro y hy'
      rcases List.mem_append.1 hy' with q | q
      · exact hy y q
      · rw [List.mem_singleton.1 q]; exact b0) q0 q1
    refine ⟨o, Ev.step (f := fun k => spec_DrawPlaces.l0 k (x ++ [b]) ((i + 1 : Nat) : Int) l p' h') (fun k => ?_) ho, h2⟩
    simp only [spec_DrawPlaces.l0]
    rw [if_pos (by omega), e, Option.bind_some, if_pos (by omega), w64 (by omega) (by omega)]; rfl
theorem spec_DrawPlaces_ev (l : List Int) (hl : l.length ≤ 1048576) : ∃ o : List Int, Ev (fun k => spec_DrawPlaces.f k l) o ∧ o.length = 12 ∧ ∀ y ∈ o, 0 ≤ y := by
  obtain ⟨g, K1, h1⟩ := spec_l01New_ev l hl
  obtain ⟨b, p', h', e, _, _, q0, q1⟩ := spec_l01Byte_eq l hl 0 g (by omega) (by omega)
  obtain ⟨o, ⟨K2, h2⟩, h3⟩ := spec_DrawPlaces_l0 l hl 12 0 [] p' h' (by omega) rfl (by simp) q0 q1
  refine ⟨o, ⟨K1 + K2, fun k hk => ?_⟩, h3⟩
  have e1 : spec_l01New.f k l = some _ := h1 k (by omega)
  have e2 : spec_DrawPlaces.l0 k [] 0 l p' h' = some _ := h2 k (by omega)
  simp only [spec_DrawPlaces.f]
  rw [e1, Option.bind_some, e, Option.bind_some, e2]

theorem spec_l01Long_l0 (n v : Int) (hn : n ≤ 30000) : ∀ (d i : Nat) (x : List Int), (i : Int) + (d : Int) = n → (x.length : Int) = n → ∃ o, Ev (fun k => spec_l01Long.l0 k n v x (i : Int)) o
  | 0, i, x, hi, hx => by
    refine ⟨_, Ev.step (f := fun _ => some (strOfNums x)) (fun k => ?_) (Ev.now _)⟩
    simp only [spec_l01Long.l0]; rw [if_neg (by omega)]
  | d + 1, i, x, hi, hx => by
    obtain ⟨o, ho⟩ := spec_l01Long_l0 n v hn d (i + 1) (x.set i v) (by omega) (by rw [List.length_set]; exact hx)
    refine ⟨o, Ev.step (f := fun k => spec_l01Long.l0 k n v (x.set i v) ((i + 1 : Nat) : Int)) (fun k => ?_) ho⟩
    simp only [spec_l01Long.l0]
    rw [if_pos (by omega), if_pos (by omega), if_pos (by omega), w64 (by omega) (by omega), Int.toNat_natCast]; rfl
theorem spec_l01Long_ev (n v : Int) (h0 : 0 ≤ n) (hn : n ≤ 30000) : ∃ o, Ev (fun k => spec_l01Long.f k n v) o := by
  obtain ⟨o, K, hK⟩ := spec_l01Long_l0 n v hn n.toNat 0 (List.replicate n.toNat 0) (by omega) (by rw [List.length_replicate]; omega)
  refine ⟨o, K, fun k hk => ?_⟩
  have e : spec_l01Long.l0 k n v (List.replicate n.toNat 0) 0 = some _ := hK k hk
  simp only [spec_l01Long.f]
  rw [if_pos h0, if_pos (by omega), e]
theorem spec_l01Text_l0 (l : List Int) (hl : l.length ≤ 1048576) (n : Int) (hn : n ≤ 30000) : ∀ (d i : Nat) (x : List Int) (p h : Int), (n - (i : Int) ≤ (d : Int)) → x.length = i → i ≤ 30000 → 0 ≤ p → p ≤ (l.length : Int) →
    ∃ o p' h', Ev (fun k => spec_l01Text.l0 k n x (i : Int) l p h) (o, p', h')
  | 0, i, x, p, h, hi, hx, hm, h0, h1 => by
    refine ⟨_, _, _, Ev.step (f := fun _ => some (strOfNums x, p, h)) (fun k => ?_) (Ev.now _)⟩
    simp only [spec_l01Text.l0]; rw [if_neg (by omega)]
  | d + 1, i, x, p, h, hi, hx, hm, h0, h1 => by
    by_cases c : (i : Int) < n
    · obtain ⟨b, p', h', e, _, _, q0, q1⟩ := spec_l01Byte_eq l hl p h h0 h1
      obtain ⟨o, p2, h2, ho⟩ := spec_l01Text_l0 l hl n hn d (i + 1) (x ++ [b % 256]) p' h' (by omega) (by simp; omega) (by omega) q0 q1
      refine ⟨o, p2, h2, Ev.step (f := fun k => spec_l01Text.l0 k n (x ++ [b % 256]) ((i + 1 : Nat) : Int) l p' h') (fun k => ?_) ho⟩
      simp only [spec_l01Text.l0]
      rw [if_pos c, e, Option.bind_some, if_pos (by omega), w64 (by omega) (by omega)]; rfl
    · refine ⟨_, _, _, Ev.step (f := fun _ => some (strOfNums x, p, h)) (fun k => ?_) (Ev.now _)⟩
      simp only [spec_l01Text.l0]; rw [if_neg (by omega)]
theorem spec_l01Text_ev (l : List Int) (hl : l.length ≤ 1048576) (n : Int) (hn : n ≤ 5000) (p h : Int) (h0 : 0 ≤ p) (h1 : p ≤ (l.length : Int)) : ∃ o p' h', Ev (fun k => spec_l01Text.f k l p h n) (o, p', h') := by
  obtain ⟨o, p', h', K, hK⟩ := spec_l01Text_l0 l hl n (by omega) n.toNat 0 [] p h (by omega) rfl (by omega) h0 h1
  refine ⟨o, p', h', K + 1, fun k hk => ?_⟩
  obtain ⟨k, rfl⟩ : ∃ m, k = m + 1 := ⟨k - 1, by omega⟩
  have e : spec_l01Text.l0 k n [] 0 l p h = some _ := hK k (by omega)
  simp only [spec_l01Text.f]
  rw [if_neg (by omega)]
  simp only [spec_l01Text.j0]
  rw [e]
theorem spec_DrawHex_ev (l : List Int) (hl : l.length ≤ 1048576) : ∃ o, Ev (fun k => spec_DrawHex.f k l) o := by
  obtain ⟨g, K1, h1⟩ := spec_l01New_ev l hl
  obtain ⟨b, p1, g1, e1, _, _, q0, q1⟩ := spec_l01Below_eq l hl 0 g 60 (by omega) (by omega) (by omega)
  by_cases c : b = 0
  · obtain ⟨b2, p2, g2, e2, b0, b1, r0, r1⟩ := spec_l01Below_eq l hl p1 g1 2 (by omega) q0 q1
    obtain ⟨o, K2, h2⟩ := spec_l01Long_ev (20000 + b2) 200 (by omega) (by omega)
    refine ⟨o, K1 + K2, fun k hk => ?_⟩
    have e3 : spec_l01New.f k l = some _ := h1 k (by omega)
    have e4 : spec_l01Long.f k (20000 + b2) 200 = some _ := h2 k (by omega)
    simp only [spec_DrawHex.f, spec_l01Once.f]
    rw [e3, Option.bind_some, e1, Option.bind_some, Option.bind_some, if_pos (by simp [c]), e2, Option.bind_some, w64 (n := 20000 + b2) (by omega) (by omega), e4, Option.bind_some]
  · obtain ⟨b2, p2, g2, e2, b0, b1, r0, r1⟩ := spec_l01Below_eq l hl p1 g1 30 (by omega) q0 q1
    obtain ⟨o, p3, g3, K2, h2⟩ := spec_l01Text_ev l hl b2 (by omega) p2 g2 r0 r1
    refine ⟨o, K1 + K2, fun k hk => ?_⟩
    have e3 : spec_l01New.f k l = some _ := h1 k (by omega)
    have e4 : spec_l01Text.f k l p2 g2 b2 = some _ := h2 k (by omega)
    simp only [spec_DrawHex.f, spec_l01Once.f]
    rw [e3, Option.bind_some, e1, Option.bind_some, Option.bind_some, if_neg (by simp [c]), e2, Option.bind_some, e4, Option.bind_some]

/-! ### check sums, in plain Lean -/
theorem xor_cancel {a b c : Nat} (h : a ^^^ c = b ^^^ c) : a = b := by
  have := congrArg (· ^^^ c) h
  simpa [Nat.xor_assoc, Nat.xor_self] using this
theorem xor_cancel' {a b c : Nat} (h : c ^^^ a = c ^^^ b) : a = b := by
  rw [Nat.xor_comm c a, Nat.xor_comm c b] at h
  exact xor_cancel h
/-- One of the eight steps of a byte. -/
def cst (x : Nat) : Nat := if x % 2 = 1 then x / 2 ^^^ 3558460437 else x / 2
theorem cst_lt {x : Nat} (h : x < 4294967296) : cst x < 4294967296 := by
  unfold cst
  split
  · exact Nat.xor_lt_two_pow (n := 32) (by omega) (by omega)
  · omega
theorem cst_top {x : Nat} (h : x < 4294967296) : (cst x).testBit 31 = decide (x % 2 = 1) := by
  have hq : (x / 2).testBit 31 = false := Nat.testBit_lt_two_pow (by omega)
  unfold cst
  by_cases h1 : x % 2 = 1
  · rw [if_pos h1, Nat.testBit_xor, hq]; simp [h1]; decide
  · rw [if_neg h1, hq]; simp [h1]
theorem cst_inj {x y : Nat} (hx : x < 4294967296) (hy : y < 4294967296) (h : cst x = cst y) : x = y := by
  have hp : decide (x % 2 = 1) = decide (y % 2 = 1) := by rw [← cst_top hx, ← cst_top hy, h]
  unfold cst at h
  by_cases h1 : x % 2 = 1
  · have h2 : y % 2 = 1 := by simpa [h1] using hp
    rw [if_pos h1, if_pos h2] at h
    have : x / 2 = y / 2 := xor_cancel h
    omega
  · have h2 : ¬ y % 2 = 1 := by simpa [h1] using hp
    rw [if_neg h1, if_neg h2] at h
    omega
/-- n steps. -/
def csts : Nat → Nat → Nat
  | 0, x => x
  | n + 1, x => csts n (cst x)
theorem csts_lt : ∀ (n : Nat) {x : Nat}, x < 4294967296 → csts n x < 4294967296
  | 0, _, h => h
  | n + 1, _, h => csts_lt n (cst_lt h)
theorem csts_inj : ∀ (n : Nat) {x y : Nat}, x < 4294967296 → y < 4294967296 → csts n x = csts n y → x = y
  | 0, _, _, _, _, h => h
  | n + 1, _, _, hx, hy, h => cst_inj hx hy (csts_inj n (cst_lt hx) (cst_lt hy) h)
/-- The sum behind more bytes. -/
def crc : Nat → List Nat → Nat
  | s, [] => s
  | s, b :: bs => crc (csts 8 (s ^^^ b)) bs
theorem xor_byte_lt {s b : Nat} (h : s < 4294967296) (hb : b < 256) : s ^^^ b < 4294967296 := Nat.xor_lt_two_pow (n := 32) (by omega) (by omega)
theorem crc_lt : ∀ (bs : List Nat) {s : Nat}, (∀ b ∈ bs, b < 256) → s < 4294967296 → crc s bs < 4294967296
  | [], _, _, h => h
  | b :: bs, _, hb, h => crc_lt bs (fun x hx => hb x (List.mem_cons_of_mem _ hx)) (csts_lt 8 (xor_byte_lt h (hb b List.mem_cons_self)))
theorem crc_inj : ∀ (bs : List Nat) {s t : Nat}, (∀ b ∈ bs, b < 256) → s < 4294967296 → t < 4294967296 → crc s bs = crc t bs → s = t
  | [], _, _, _, _, _, h => h
  | b :: bs, _, _, hb, hs, ht, h => by
    have hb0 := hb b List.mem_cons_self
    have h1 := crc_inj bs (fun x hx => hb x (List.mem_cons_of_mem _ hx)) (csts_lt 8 (xor_byte_lt hs hb0)) (csts_lt 8 (xor_byte_lt ht hb0)) h
    exact xor_cancel (csts_inj 8 (xor_byte_lt hs hb0) (xor_byte_lt ht hb0) h1)
theorem crc_app : ∀ (xs ys : List Nat) (s : Nat), crc s (xs ++ ys) = crc (crc s xs) ys
  | [], _, _ => rfl
  | _ :: xs, ys, _ => crc_app xs ys _
/-- One byte is another: the sum is another. -/
theorem crc_turned (xs ys : List Nat) (a b s : Nat) (hx : ∀ c ∈ xs, c < 256) (hy : ∀ c ∈ ys, c < 256) (ha : a < 256) (hb : b < 256) (hab : a ≠ b) (hs : s < 4294967296) :
    crc s (xs ++ a :: ys) ≠ crc s (xs ++ b :: ys) := by
  rw [crc_app, crc_app]
  intro h
  have h0 := crc_lt xs hx hs
  have h1 := crc_inj ys hy (csts_lt 8 (xor_byte_lt h0 ha)) (csts_lt 8 (xor_byte_lt h0 hb)) h
  have h2 := csts_inj 8 (xor_byte_lt h0 ha) (xor_byte_lt h0 hb) h1
  exact hab (xor_cancel' h2)
/-- A sum in four bytes, the highest first. -/
def four (n : Nat) : List Int := [((n / 16777216 % 256 : Nat) : Int), ((n / 65536 % 256 : Nat) : Int), ((n / 256 % 256 : Nat) : Int), ((n % 256 : Nat) : Int)]
theorem four_inj {m n : Nat} (hm : m < 4294967296) (hn : n < 4294967296) (h : four m = four n) : m = n := by
  simp only [four, List.cons.injEq] at h
  omega

theorem xor_nat {a b : Nat} (ha : a < 4294967296) (hb : b < 4294967296) : Go.bits .xor .u32 (a : Int) (b : Int) = ((a ^^^ b : Nat) : Int) := by
  have hx : a ^^^ b < 2 ^ 32 := Nat.xor_lt_two_pow (n := 32) (by omega) (by omega)
  have h32 : IntKind.u32.bits = 32 := rfl
  simp only [Go.bits, h32, BitVec.ofInt_natCast, BitVec.toNat_xor, BitVec.toNat_ofNat]
  rw [Nat.mod_eq_of_lt (show a < 2 ^ 32 by omega), Nat.mod_eq_of_lt (show b < 2 ^ 32 by omega), IntKind.wrap_u32]
  omega
theorem and_one {a : Nat} (ha : a < 4294967296) : Go.bits .and .u32 (a : Int) 1 = ((a % 2 : Nat) : Int) := by
  have := bits_mask .u32 32 (by decide) (fun n h0 h1 => by rw [IntKind.wrap_u32]; omega) 1 (by decide) (a : Int) (by omega) (by omega)
  simpa using this
/-- A text's bytes. -/
def nb (s : ByteArray) : List Nat := (bytesOf s).map Int.toNat
theorem nb_lt (s : ByteArray) : ∀ b ∈ nb s, b < 256 := by
  intro b hb
  obtain ⟨x, hx, rfl⟩ := List.mem_map.1 hb
  have := bytesOf_range s x hx
  omega
theorem nb_drop {s : ByteArray} {i : Nat} (h : i < s.size) : (nb s).drop i = (bt s (i : Int)).toNat :: (nb s).drop (i + 1) := by
  unfold nb
  rw [← List.map_drop, ← List.map_drop]
  have := bytesOf_drop (s := s) (i := (i : Int)) (by omega) (by omega)
  rw [Int.toNat_natCast, show ((i : Int) + 1).toNat = i + 1 by omega] at this
  rw [this]; rfl
theorem nb_drop_end {s : ByteArray} {i : Nat} (h : ¬ i < s.size) : (nb s).drop i = [] := by
  apply List.drop_eq_nil_of_le
  unfold nb
  rw [List.length_map, bytesOf_length]; omega
theorem nb_app (s t : ByteArray) : nb (s ++ t) = nb s ++ nb t := by simp [nb, bytesOf_app]
theorem sum_lt (s : ByteArray) {n : Nat} (h : n < 4294967296) : crc n (nb s) < 4294967296 := crc_lt _ (nb_lt s) h

def sumC (s : ByteArray) : Nat := crc 4294967295 (nb s)
theorem sumC_lt (s : ByteArray) : sumC s < 4294967296 := sum_lt s (by omega)
theorem four_bytes (n : Nat) : ∀ b ∈ four n, 0 ≤ b ∧ b ≤ 255 := by
  intro b hb
  simp only [four, List.mem_cons, List.not_mem_nil, or_false] at hb
  omega
/-- A sum in four bytes, as a text. -/
def fourT (n : Nat) : ByteArray := strOfNums (four n)
theorem bytesOf_fourT (n : Nat) : bytesOf (fourT n) = four n := bytesOf_str _ (four_bytes n)
theorem fourT_size (n : Nat) : (fourT n).size = 4 := by unfold fourT; rw [strOfNums_size]; rfl
theorem fourT_inj {m n : Nat} (hm : m < 4294967296) (hn : n < 4294967296) (h : fourT m = fourT n) : m = n := by
  have := congrArg bytesOf h
  rw [bytesOf_fourT, bytesOf_fourT] at this
  exact four_inj hm hn this

/-! ### numbers in bytes, in plain Lean -/
/-- The bytes of a number: seven bits each, the lowest first. -/
def vl (n : Nat) : List Int := if 127 < n then ((n % 128 + 128 : Nat) : Int) :: vl (n / 128) else [(n : Int)]
  termination_by n
  decreasing_by omega
theorem vl_big {n : Nat} (h : 127 < n) : vl n = ((n % 128 + 128 : Nat) : Int) :: vl (n / 128) := by rw [vl, if_pos h]
theorem vl_small {n : Nat} (h : ¬ 127 < n) : vl n = [(n : Int)] := by rw [vl, if_neg h]
theorem vl_pos (n : Nat) : 0 < (vl n).length := by
  by_cases h : 127 < n
  · rw [vl_big h]; simp
  · rw [vl_small h]; simp
theorem vl_bytes (n : Nat) : ∀ b ∈ vl n, 0 ≤ b ∧ b ≤ 255 := by
  induction n using Nat.strongRecOn with
  | _ n ih =>
    by_cases h : 127 < n
    · rw [vl_big h]
      intro b hb
      rcases List.mem_cons.1 hb with rfl | hb
      · omega
      · exact ih _ (by omega) b hb
    · rw [vl_small h]
      intro b hb
      have := List.mem_singleton.1 hb
      omega
/-- The number that bytes make. -/
def dec : List Int → Int
  | [] => 0
  | b :: bs => b % 128 + 128 * dec bs
theorem dec_nonneg : ∀ bs : List Int, 0 ≤ dec bs
  | [] => by simp [dec]
  | b :: bs => by have := dec_nonneg bs; simp only [dec]; omega
theorem dec_vl (n : Nat) : dec (vl n) = (n : Int) := by
  induction n using Nat.strongRecOn with
  | _ n ih =>
    by_cases h : 127 < n
    · rw [vl_big h, dec, ih _ (by omega)]; omega
    · rw [vl_small h, dec, dec]; omega
theorem vl_form (n : Nat) : ∃ bs c, vl n = bs ++ [c] ∧ (∀ b ∈ bs, 128 ≤ b ∧ b ≤ 255) ∧ 0 ≤ c ∧ c ≤ 127 ∧ (bs = [] ∨ c ≠ 0) := by
  induction n using Nat.strongRecOn with
  | _ n ih =>
    by_cases h : 127 < n
    · obtain ⟨bs, c, h1, h2, h3, h4, h5⟩ := ih (n / 128) (by omega)
      refine ⟨((n % 128 + 128 : Nat) : Int) :: bs, c, by rw [vl_big h, h1]; rfl, ?_, h3, h4, .inr ?_⟩
      · intro b hb
        rcases List.mem_cons.1 hb with rfl | hb
        · omega
        · exact h2 b hb
      · rcases h5 with rfl | h5
        · have := dec_vl (n / 128)
          rw [h1] at this
          simp [dec] at this
          omega
        · exact h5
    · exact ⟨[], (n : Int), by rw [vl_small h]; rfl, by simp, by omega, by omega, .inl rfl⟩
theorem dec_pos : ∀ (bs : List Int) (c : Int), (∀ b ∈ bs, 128 ≤ b ∧ b ≤ 255) → 0 ≤ c → c ≤ 127 → c ≠ 0 → 1 ≤ dec (bs ++ [c])
  | [], c, _, h0, h1, h2 => by simp [dec]; omega
  | b :: bs, c, h, h0, h1, h2 => by
    have := dec_pos bs c (fun x hx => h x (List.mem_cons_of_mem _ hx)) h0 h1 h2
    simp only [List.cons_append, dec]; omega
theorem vl_dec : ∀ (bs : List Int) (c : Int), (∀ b ∈ bs, 128 ≤ b ∧ b ≤ 255) → 0 ≤ c → c ≤ 127 → (bs = [] ∨ c ≠ 0) → vl (dec (bs ++ [c])).toNat = bs ++ [c]
  | [], c, _, h0, h1, _ => by
    have e : (dec ([] ++ [c])).toNat = c.toNat := by simp [dec]; omega
    rw [e, vl_small (by omega)]
    simp; omega
  | b :: bs, c, h, h0, h1, h2 => by
    have hc : c ≠ 0 := by rcases h2 with h2 | h2 <;> simp_all
    have hb := h b List.mem_cons_self
    have hp := dec_pos bs c (fun x hx => h x (List.mem_cons_of_mem _ hx)) h0 h1 hc
    have ih := vl_dec bs c (fun x hx => h x (List.mem_cons_of_mem _ hx)) h0 h1 (.inr hc)
    have e : dec (b :: bs ++ [c]) = b % 128 + 128 * dec (bs ++ [c]) := by simp only [List.cons_append, dec]
    rw [e, vl_big (by omega)]
    have e2 : (b % 128 + 128 * dec (bs ++ [c])).toNat / 128 = (dec (bs ++ [c])).toNat := by omega
    rw [e2, ih]
    simp only [List.cons_append, List.cons.injEq, and_true]
    omega
/-- No longer form: the last byte is nought behind others. -/
theorem vl_ne (bs : List Int) (hb : bs ≠ []) (m : Nat) : vl m ≠ bs ++ [(0 : Int)] := by
  intro e
  obtain ⟨bs', c', h1, h2, h3, h4, h5⟩ := vl_form m
  rw [h1] at e
  have := List.append_inj' e rfl
  obtain ⟨rfl, e2⟩ := this
  simp at e2
  rcases h5 with h5 | h5
  · exact hb h5
  · exact h5 e2

/-- What ReadVar does with the bytes from a place on: k of them are gone, n is what they made. -/
def rvL : Nat → List Int → Nat → Int → Option (Int × Nat)
  | 0, _, _, _ => none
  | _ + 1, [], _, _ => none
  | f + 1, b :: bs, k, n =>
    if b < 128 then (if (b = 0 ∧ 0 < k) ∨ 1000000000 < n + b % 128 * 128 ^ k then none else some (n + b % 128 * 128 ^ k, k + 1))
    else rvL f bs (k + 1) (n + b % 128 * 128 ^ k)
theorem dec_app : ∀ (xs ys : List Int), dec (xs ++ ys) = dec xs + 128 ^ xs.length * dec ys
  | [], ys => by simp [dec]
  | x :: xs, ys => by
    have := dec_app xs ys
    simp only [List.cons_append, dec, List.length_cons, Int.pow_succ] at this ⊢
    rw [this, Int.mul_add, ← Int.mul_assoc, Int.mul_comm (128 : Int) (128 ^ xs.length)]
    omega
theorem dec_one (b : Int) : dec [b] = b % 128 := by simp [dec]
theorem dec_snoc (xs : List Int) (b : Int) : dec (xs ++ [b]) = dec xs + b % 128 * 128 ^ xs.length := by
  rw [dec_app, dec_one, Int.mul_comm]
theorem rvL_sound : ∀ (f : Nat) (bs : List Int) (k : Nat) (pre : List Int) (m : Int) (j : Nat), (∀ b ∈ pre, 128 ≤ b ∧ b ≤ 255) → pre.length = k → (∀ b ∈ bs, 0 ≤ b ∧ b ≤ 255) →
    rvL f bs k (dec pre) = some (m, j) → 0 ≤ m ∧ m ≤ 1000000000 ∧ k < j ∧ j ≤ k + bs.length ∧ vl m.toNat = pre ++ bs.take (j - k)
  | 0, _, _, _, _, _, _, _, _, h => by simp [rvL] at h
  | _ + 1, [], _, _, _, _, _, _, _, h => by simp [rvL] at h
  | f + 1, b :: bs, k, pre, m, j, hp, hk, hb, h => by
    have hb0 := hb b List.mem_cons_self
    have hn : dec pre + b % 128 * 128 ^ k = dec (pre ++ [b]) := by rw [dec_snoc, hk]
    simp only [rvL] at h
    rw [hn] at h
    by_cases h1 : b < 128
    · rw [if_pos h1] at h
      by_cases h2 : (b = 0 ∧ 0 < k) ∨ 1000000000 < dec (pre ++ [b])
      · rw [if_pos h2] at h; cases h
      · rw [if_neg h2] at h
        simp only [Option.some.injEq, Prod.mk.injEq] at h
        obtain ⟨rfl, rfl⟩ := h
        refine ⟨dec_nonneg _, by omega, by omega, by simp, ?_⟩
        rw [vl_dec pre b hp hb0.1 (by omega) (by
          rcases Nat.eq_zero_or_pos k with h0 | h0
          · left; exact List.eq_nil_of_length_eq_zero (by omega)
          · right; intro e; exact h2 (.inl ⟨e, h0⟩))]
        rw [show k + 1 - k = 1 by omega]; rfl
    · rw [if_neg h1] at h
      obtain ⟨h3, h4, h5, h6, h7⟩ := rvL_sound f bs (k + 1) (pre ++ [b]) m j (by
        intro x hx
        rcases List.mem_append.1 hx with hx | hx
        · exact hp x hx
        · have := List.mem_singleton.1 hx
          subst this
          omega) (by simp [hk]) (fun x hx => hb x (List.mem_cons_of_mem _ hx)) h
      refine ⟨h3, h4, by omega, by simp only [List.length_cons]; omega, ?_⟩
      rw [h7, show j - k = (j - (k + 1)) + 1 by omega, List.take_succ_cons, List.append_assoc]; rfl
theorem rvL_full : ∀ (t : List Int) (f : Nat) (rest : List Int) (m : Nat) (pre : List Int), vl m = pre ++ t → t ≠ [] → t.length ≤ f → m ≤ 1000000000 →
    rvL f (t ++ rest) pre.length (dec pre) = some ((m : Int), (vl m).length)
  | [], _, _, _, _, _, h, _, _ => absurd rfl h
  | b :: t, 0, _, _, _, _, _, h, _ => by simp at h
  | b :: t, f + 1, rest, m, pre, hm, _, hf, hmax => by
    have hn : dec pre + b % 128 * 128 ^ pre.length = dec (pre ++ [b]) := by rw [dec_snoc]
    obtain ⟨bs, c, h1, h2, h3, h4, h5⟩ := vl_form m
    simp only [List.cons_append, rvL]
    rw [hn]
    cases t with
    | nil =>
      have e : bs ++ [c] = pre ++ [b] := by rw [← h1, hm]
      obtain ⟨rfl, e2⟩ := List.append_inj' e rfl
      simp only [List.cons.injEq, and_true] at e2
      subst e2
      have hd : dec (bs ++ [c]) = (m : Int) := by rw [← h1, dec_vl]
      rw [hd, if_pos (by omega), if_neg (by
        rintro (⟨h6, h7⟩ | h6)
        · rcases h5 with rfl | h5
          · simp at h7
          · exact h5 h6
        · omega)]
      simp [hm]
    | cons b2 t =>
      have hbm : b ∈ bs := by
        have e : bs ++ [c] = pre ++ b :: b2 :: t := by rw [← h1, hm]
        have e2 : pre ++ b :: b2 :: t = (pre ++ b :: (b2 :: t).dropLast) ++ [(b2 :: t).getLast (by simp)] := by
          rw [List.append_assoc, List.cons_append, List.dropLast_concat_getLast]
        rw [e2] at e
        obtain ⟨rfl, _⟩ := List.append_inj' e rfl
        simp
      have := h2 b hbm
      rw [if_neg (by omega)]
      have ih := rvL_full (b2 :: t) f rest m (pre ++ [b]) (by rw [hm]; simp) (by simp) (by simp at hf ⊢; omega) hmax
      simpa using ih
theorem vl_len : ∀ (j m : Nat), 1 ≤ j → m < 128 ^ j → (vl m).length ≤ j
  | 0, _, h, _ => by omega
  | j + 1, m, _, h => by
    by_cases h1 : 127 < m
    · rw [vl_big h1]
      rcases Nat.eq_zero_or_pos j with rfl | hj
      · simp at h; omega
      · have := vl_len j (m / 128) hj (by rw [Nat.pow_succ] at h; omega)
        simp only [List.length_cons]; omega
    · rw [vl_small h1]; simp
/-- ReadVar's answer at the bytes that are left. -/
def rv (bs : List Int) : Option (Int × Nat) := rvL 5 bs 0 0
theorem rv_sound {bs : List Int} {m : Int} {j : Nat} (hb : ∀ b ∈ bs, 0 ≤ b ∧ b ≤ 255) (h : rv bs = some (m, j)) : 0 ≤ m ∧ m ≤ 1000000000 ∧ 0 < j ∧ j ≤ bs.length ∧ vl m.toNat = bs.take j := by
  obtain ⟨h1, h2, h3, h4, h5⟩ := rvL_sound 5 bs 0 [] m j (by simp) rfl hb h
  exact ⟨h1, h2, h3, by omega, by simpa using h5⟩
theorem rv_full (m : Nat) (rest : List Int) (hm : m ≤ 1000000000) : rv (vl m ++ rest) = some ((m : Int), (vl m).length) :=
  rvL_full (vl m) 5 rest m [] rfl (by have := vl_pos m; intro e; rw [e] at this; simp at this) (vl_len 5 m (by omega) (by omega)) hm

def varC (n : Int) : ByteArray × Bool := if 0 ≤ n ∧ n ≤ 1000000000 then (strOfNums (vl n.toNat), true) else (⟨#[]⟩, false)
def varT (n : Int) : ByteArray := strOfNums (vl n.toNat)
theorem bytesOf_varT (n : Int) : bytesOf (varT n) = vl n.toNat := bytesOf_str _ (vl_bytes _)

theorem varT_size {n : Int} (h0 : 0 ≤ n) (h1 : n ≤ 9223372036854775807) : (varT n).size ≤ 10 := by
  unfold varT
  rw [strOfNums_size]
  exact vl_len 10 n.toNat (by omega) (by omega)
def shortT (s : ByteArray) : ByteArray := varT (s.size : Int) ++ s
def shortC (s : ByteArray) : ByteArray × Bool := if s.size ≤ 20000 then (shortT s, true) else (⟨#[]⟩, false)

def frameT (s : ByteArray) : ByteArray := varT (s.size : Int) ++ fourT (sumC s) ++ s
def frameC (s : ByteArray) : ByteArray × Bool := if 1 ≤ s.size ∧ s.size ≤ 9000 then (frameT s, true) else (⟨#[]⟩, false)

def rvO (at0 : Int) (o : Option (Int × Nat)) : Int × Int × Bool := match o with
  | some (m, j) => (m, at0 + (j : Int), true)
  | none => (0, 0, false)
def rvC (s : ByteArray) (at0 : Int) : Int × Int × Bool := if 0 ≤ at0 ∧ at0 ≤ (s.size : Int) then rvO at0 (rv ((bytesOf s).drop at0.toNat)) else (0, 0, false)
theorem p128 : (128 : Int) ^ 0 = 1 ∧ (128 : Int) ^ 1 = 128 ∧ (128 : Int) ^ 2 = 16384 ∧ (128 : Int) ^ 3 = 2097152 ∧ (128 : Int) ^ 4 = 268435456 ∧ (128 : Int) ^ 5 = 34359738368 := by decide
theorem pow5 {kk : Nat} (h : kk ≤ 4) : (128 : Int) ^ (kk + 1) ≤ 34359738368 := by
  obtain rfl | rfl | rfl | rfl | rfl : kk = 0 ∨ kk = 1 ∨ kk = 2 ∨ kk = 3 ∨ kk = 4 := by omega
  all_goals decide
theorem dec_lt : ∀ (xs : List Int) {k : Nat}, xs.length ≤ k → dec xs < 128 ^ k
  | [], k, _ => by simp only [dec]; exact Int.pow_pos (by decide)
  | x :: xs, k, h => by
    obtain ⟨j, rfl⟩ : ∃ j, k = j + 1 := ⟨k - 1, by simp at h; omega⟩
    have := dec_lt xs (k := j) (by simp at h; omega)
    simp only [dec]
    rw [Int.pow_succ]
    omega

theorem rvC_range (s : ByteArray) (at0 : Int) (h : (rvC s at0).2.2 = true) : 0 ≤ at0 ∧ 0 ≤ (rvC s at0).1 ∧ (rvC s at0).1 ≤ 1000000000 ∧ at0 < (rvC s at0).2.1 ∧ (rvC s at0).2.1 ≤ (s.size : Int) := by
  unfold rvC at h ⊢
  by_cases h1 : 0 ≤ at0 ∧ at0 ≤ (s.size : Int)
  · rw [if_pos h1] at h ⊢
    cases e : rv ((bytesOf s).drop at0.toNat) with
    | none => rw [e] at h; simp [rvO] at h
    | some p =>
      obtain ⟨m, j⟩ := p
      have := rv_sound (fun b hb => bytesOf_range s b (List.mem_of_mem_drop hb)) e
      rw [List.length_drop, bytesOf_length] at this
      simp only [rvO]
      omega
  · rw [if_neg h1] at h; simp at h
def rsC (s : ByteArray) (at0 : Int) : ByteArray × Int × Bool :=
  if (rvC s at0).2.2 = true then (if (rvC s at0).1 > 20000 then (⟨#[]⟩, 0, false) else if (rvC s at0).1 > (s.size : Int) - (rvC s at0).2.1 then (⟨#[]⟩, 0, false)
    else (s.extract (rvC s at0).2.1.toNat ((rvC s at0).2.1 + (rvC s at0).1).toNat, (rvC s at0).2.1 + (rvC s at0).1, true)) else (⟨#[]⟩, 0, false)

def sealC (s : ByteArray) : ByteArray × Bool := if s.size ≤ 20000 then (s ++ fourT (sumC s), true) else (⟨#[]⟩, false)
def unsealC (s : ByteArray) : ByteArray × Bool :=
  if 4 ≤ s.size ∧ s.size ≤ 20004 ∧ s.extract (s.size - 4) s.size = fourT (sumC (s.extract 0 (s.size - 4))) then (s.extract 0 (s.size - 4), true) else (⟨#[]⟩, false)
theorem extract_split (s : ByteArray) (n : Nat) : s.extract 0 n ++ s.extract n s.size = s := by
  apply bytesOf_inj
  rw [bytesOf_app, bytesOf_ext, bytesOf_ext, List.drop_zero, Nat.sub_zero]
  rw [List.take_of_length_le (i := s.size - n) (by rw [List.length_drop, bytesOf_length]; omega)]
  exact List.take_append_drop ..
theorem ext_size (s : ByteArray) {a b : Nat} (h1 : a ≤ b) (h2 : b ≤ s.size) : (s.extract a b).size = b - a := by
  rw [← bytesOf_length, bytesOf_ext, List.length_take, List.length_drop, bytesOf_length]; omega
theorem app_cancel {s t u : ByteArray} : s ++ t = s ++ u ↔ t = u := by
  constructor
  · intro h
    have := congrArg bytesOf h
    rw [bytesOf_app, bytesOf_app] at this
    exact bytesOf_inj (List.append_cancel_left this)
  · rintro rfl; rfl
theorem seal_key (s u : ByteArray) (n : Nat) : s.extract 0 n ++ u = s ↔ s.extract n s.size = u := by
  have hsp := extract_split s n
  constructor
  · intro h
    exact (app_cancel.1 (h.trans hsp.symm)).symm
  · rintro rfl
    exact hsp

theorem ext_ext (s : ByteArray) (a b c : Nat) (h1 : a ≤ b) (h2 : b ≤ c) : s.extract a b ++ s.extract b c = s.extract a c := by
  apply bytesOf_inj
  rw [bytesOf_app, bytesOf_ext, bytesOf_ext, bytesOf_ext]
  rw [show c - a = (b - a) + (c - b) by omega, List.take_add, List.drop_drop, show a + (b - a) = b by omega]
/-- What ReadVar has read is the number's bytes. -/
theorem rvC_text (s : ByteArray) (at0 : Int) (h : (rvC s at0).2.2 = true) : s.extract at0.toNat (rvC s at0).2.1.toNat = varT (rvC s at0).1 := by
  unfold rvC at h ⊢
  by_cases h1 : 0 ≤ at0 ∧ at0 ≤ (s.size : Int)
  · rw [if_pos h1] at h ⊢
    cases e : rv ((bytesOf s).drop at0.toNat) with
    | none => rw [e] at h; simp [rvO] at h
    | some p =>
      obtain ⟨m, j⟩ := p
      have := rv_sound (fun b hb => bytesOf_range s b (List.mem_of_mem_drop hb)) e
      apply bytesOf_inj
      simp only [rvO]
      rw [bytesOf_varT, bytesOf_ext, this.2.2.2.2]
      congr 1
      omega
  · rw [if_neg h1] at h; simp at h
/-- Where a frame's record begins and ends. -/
def faOk (s : ByteArray) (at0 : Int) : Prop :=
  (rvC s at0).2.2 = true ∧ 1 ≤ (rvC s at0).1 ∧ (rvC s at0).1 ≤ 9000 ∧ (rvC s at0).1 ≤ (s.size : Int) - (rvC s at0).2.1 - 4 ∧
  s.extract (rvC s at0).2.1.toNat ((rvC s at0).2.1 + 4).toNat = fourT (sumC (s.extract ((rvC s at0).2.1 + 4).toNat ((rvC s at0).2.1 + 4 + (rvC s at0).1).toNat))
instance (s : ByteArray) (at0 : Int) : Decidable (faOk s at0) := by unfold faOk; infer_instance
def faText (s : ByteArray) (at0 : Int) : ByteArray := s.extract ((rvC s at0).2.1 + 4).toNat ((rvC s at0).2.1 + 4 + (rvC s at0).1).toNat
def faEnd (s : ByteArray) (at0 : Int) : Int := (rvC s at0).2.1 + 4 + (rvC s at0).1
def faC (s : ByteArray) (at0 : Int) : ByteArray × Int × Bool := if faOk s at0 then (faText s at0, faEnd s at0, true) else (⟨#[]⟩, 0, false)
theorem faEnd_range {s : ByteArray} {at0 : Int} (h : faOk s at0) : 0 ≤ at0 ∧ at0 + 6 ≤ faEnd s at0 ∧ faEnd s at0 ≤ (s.size : Int) := by
  have h1 := rvC_range s at0 h.1
  have h2 := h.2
  unfold faEnd
  omega
/-- The frame stands there whole. -/
theorem fa_frame {s : ByteArray} {at0 : Int} (h1 : (rvC s at0).2.2 = true) (h2 : 1 ≤ (rvC s at0).1) (h3 : (rvC s at0).1 ≤ (s.size : Int) - (rvC s at0).2.1 - 4) :
    frameT (faText s at0) = s.extract at0.toNat (faEnd s at0).toNat ↔ s.extract (rvC s at0).2.1.toNat ((rvC s at0).2.1 + 4).toNat = fourT (sumC (faText s at0)) := by
  have hr := rvC_range s at0 h1
  have ht := rvC_text s at0 h1
  have hsz : ((faText s at0).size : Int) = (rvC s at0).1 := by
    unfold faText
    rw [ext_size s (by omega) (by omega)]
    omega
  have hsplit : s.extract at0.toNat (faEnd s at0).toNat = s.extract at0.toNat (rvC s at0).2.1.toNat ++ s.extract (rvC s at0).2.1.toNat ((rvC s at0).2.1 + 4).toNat ++ faText s at0 := by
    unfold faText faEnd
    rw [ext_ext s _ _ _ (by omega) (by omega), ext_ext s _ _ _ (by omega) (by omega)]
  rw [hsplit, ht]
  unfold frameT
  rw [hsz]
  constructor
  · intro h
    have hb := congrArg bytesOf h
    simp only [bytesOf_app, List.append_assoc] at hb
    have h4 := List.append_cancel_left hb
    have h5 := List.append_cancel_right h4
    exact (bytesOf_inj h5).symm
  · intro h
    rw [h]
theorem faText_size {s : ByteArray} {at0 : Int} (h1 : (rvC s at0).2.2 = true) (h2 : 0 ≤ (rvC s at0).1) (h3 : (rvC s at0).1 ≤ (s.size : Int) - (rvC s at0).2.1 - 4) : ((faText s at0).size : Int) = (rvC s at0).1 := by
  have hr := rvC_range s at0 h1
  unfold faText
  rw [ext_size s (by omega) (by omega)]
  omega

/-- The frames from a place on, n of them at most. -/
def uf : Nat → ByteArray → List ByteArray → Int → List ByteArray × Int
  | 0, _, out, at0 => (out, at0)
  | n + 1, s, out, at0 => if faOk s at0 then uf n s (out ++ [faText s at0]) (faEnd s at0) else (out, at0)
def ufC (s : ByteArray) : List ByteArray × Int := if s.size ≤ 20000 then uf (s.size + 1) s [] 0 else ([], 0)
theorem uf_len : ∀ (n : Nat) (s : ByteArray) (out : List ByteArray) (at0 : Int), 0 ≤ at0 → at0 ≤ (s.size : Int) → (out.length : Int) ≤ at0 → ((uf n s out at0).1.length : Int) ≤ (s.size : Int)
  | 0, s, out, at0, h0, h1, h2 => by simp only [uf]; omega
  | n + 1, s, out, at0, h0, h1, h2 => by
    simp only [uf]
    by_cases h : faOk s at0
    · rw [if_pos h]
      have := faEnd_range h
      exact uf_len n s _ _ (by omega) (by omega) (by simp; omega)
    · rw [if_neg h]; simp only; omega
theorem ufC_len (s : ByteArray) : (ufC s).1.length ≤ 20000 := by
  unfold ufC
  by_cases h : s.size ≤ 20000
  · rw [if_pos h]
    have := uf_len (s.size + 1) s [] 0 (by omega) (by omega) (by simp)
    omega
  · rw [if_neg h]; simp

/-- A frame's length. -/
def fsz (t : ByteArray) : Nat := (frameT t).size
theorem bytesOf_frameT (t : ByteArray) : bytesOf (frameT t) = vl t.size ++ (four (sumC t) ++ bytesOf t) := by
  unfold frameT
  rw [bytesOf_app, bytesOf_app, bytesOf_varT, bytesOf_fourT, Int.toNat_natCast, List.append_assoc]
theorem fsz_eq (t : ByteArray) : fsz t = (vl t.size).length + 4 + t.size := by
  unfold fsz
  rw [← bytesOf_length, bytesOf_frameT, List.length_append, List.length_append, bytesOf_length]
  simp only [four, List.length_cons, List.length_nil]; omega
theorem fsz_le {t : ByteArray} (h : t.size ≤ 900) : 6 ≤ fsz t + (1 - t.size) ∧ fsz t ≤ 910 := by
  rw [fsz_eq]
  have := vl_len 5 t.size (by omega) (by omega)
  have := vl_pos t.size
  omega
theorem bytesOf_pre (F : ByteArray) (k : Nat) : bytesOf (F.extract 0 k) = (bytesOf F).take k := by rw [bytesOf_ext, List.drop_zero, Nat.sub_zero]
/-- Of a file of which k bytes are left, what is read at a place is what the whole file says. -/
theorem rv_pre {full : List Int} {m : Int} {j q : Nat} {r : Nat} {rest : List Int} (hb : ∀ b ∈ full, 0 ≤ b ∧ b ≤ 255) (hf : full = vl r ++ rest) (hr : r ≤ 1000000000) (h : rv (full.take q) = some (m, j)) :
    m = (r : Int) ∧ j = (vl r).length := by
  obtain ⟨h0, h1, h2, h3, h4⟩ := rv_sound (fun b hm => hb b (List.mem_of_mem_take hm)) h
  rw [List.length_take] at h3
  rw [List.take_take, Nat.min_eq_left (by omega)] at h4
  have hs : full = vl m.toNat ++ full.drop j := by rw [h4, List.take_append_drop]
  have e1 := rv_full m.toNat (full.drop j) (by omega)
  have e2 := rv_full r rest hr
  rw [← hs] at e1
  rw [← hf, e1] at e2
  injection e2 with e2
  injection e2 with e3 e4
  have hm : m.toNat = r := by omega
  refine ⟨by omega, ?_⟩
  rw [← hm, h4, List.length_take]; omega
theorem drop_take_mid {L a b c : List Int} {p : Nat} (h : L.drop p = a ++ (b ++ c)) : (L.drop (p + a.length)).take b.length = b := by
  rw [← List.drop_drop, h, List.drop_left, List.take_left]
/-- Where a frame stands in a file of which k bytes are left: whole, it is read; torn, nothing is. -/
theorem fa_at {F t : ByteArray} {rest : List Int} {p k : Nat} (h1 : 1 ≤ t.size) (h2 : t.size ≤ 9000) (hk : k ≤ F.size) (hp : p ≤ k) (hF : (bytesOf F).drop p = bytesOf (frameT t) ++ rest) :
    faC (F.extract 0 k) (p : Int) = if p + fsz t ≤ k then (t, ((p + fsz t : Nat) : Int), true) else (⟨#[]⟩, 0, false) := by
  have hz : (F.extract 0 k).size = k := by rw [ext_size F (by omega) hk]; omega
  have hd : (bytesOf (F.extract 0 k)).drop p = ((bytesOf F).drop p).take (k - p) := by rw [bytesOf_pre, List.drop_take]
  have hb : ∀ b ∈ (bytesOf F).drop p, 0 ≤ b ∧ b ≤ 255 := fun b hm => bytesOf_range F b (List.mem_of_mem_drop hm)
  have hfull : (bytesOf F).drop p = vl t.size ++ (four (sumC t) ++ bytesOf t ++ rest) := by rw [hF, bytesOf_frameT]; simp only [List.append_assoc]
  have hlen := fsz_eq t
  have h4 : (four (sumC t)).length = 4 := rfl
  by_cases c : p + fsz t ≤ k
  · rw [if_pos c]
    have hd2 : (bytesOf (F.extract 0 k)).drop p = vl t.size ++ (four (sumC t) ++ (bytesOf t ++ rest.take (k - p - fsz t))) := by
      rw [hd, hfull, List.append_assoc, List.take_append, List.take_append, List.take_append, List.take_of_length_le (l := vl t.size) (by omega), List.take_of_length_le (l := four (sumC t)) (by omega), List.take_of_length_le (l := bytesOf t) (by rw [bytesOf_length]; omega), h4, bytesOf_length]
      rw [show k - p - (vl t.size).length - 4 - t.size = k - p - fsz t by omega]
    have hrv : rvC (F.extract 0 k) (p : Int) = ((t.size : Int), (p : Int) + ((vl t.size).length : Int), true) := by
      unfold rvC
      rw [if_pos (by omega), Int.toNat_natCast, hd2, rv_full _ _ (by omega)]; rfl
    have hx4 : (F.extract 0 k).extract (p + (vl t.size).length) (p + (vl t.size).length + 4) = fourT (sumC t) := by
      apply bytesOf_inj
      rw [bytesOf_ext, bytesOf_fourT, show p + (vl t.size).length + 4 - (p + (vl t.size).length) = (four (sumC t)).length by rw [h4]; omega]
      exact drop_take_mid hd2
    have hxt : (F.extract 0 k).extract (p + (vl t.size).length + 4) (p + (vl t.size).length + 4 + t.size) = t := by
      apply bytesOf_inj
      rw [bytesOf_ext, show p + (vl t.size).length + 4 + t.size - (p + (vl t.size).length + 4) = (bytesOf t).length by rw [bytesOf_length]; omega, show p + (vl t.size).length + 4 = p + (vl t.size ++ four (sumC t)).length by rw [List.length_append, h4]; omega]
      refine drop_take_mid (c := rest.take (k - p - fsz t)) ?_
      rw [hd2, List.append_assoc]
    have e1 : ((rvC (F.extract 0 k) (p : Int)).2.1 + 4).toNat = p + (vl t.size).length + 4 := by rw [hrv]; simp only []; omega
    have e2 : ((rvC (F.extract 0 k) (p : Int)).2.1 + 4 + (rvC (F.extract 0 k) (p : Int)).1).toNat = p + (vl t.size).length + 4 + t.size := by rw [hrv]; simp only []; omega
    have e3 : (rvC (F.extract 0 k) (p : Int)).2.1.toNat = p + (vl t.size).length := by rw [hrv]; simp only []; omega
    have hok : faOk (F.extract 0 k) (p : Int) := by
      unfold faOk
      rw [e1, e2, e3, hx4, hxt, hrv, hz]
      simp only [true_and, and_true]
      omega
    unfold faC faText faEnd
    rw [if_pos hok, e1, e2, hxt, hrv]
    simp only [Prod.mk.injEq, true_and, and_true]
    omega
  · rw [if_neg c]
    unfold faC
    rw [if_neg]
    intro hok
    obtain ⟨g1, g2, g3, g4, _⟩ := hok
    unfold rvC at g1 g4
    rw [if_pos (by omega), Int.toNat_natCast, hd] at g1 g4
    cases e : rv (((bytesOf F).drop p).take (k - p)) with
    | none => rw [e] at g1; simp [rvO] at g1
    | some o =>
      obtain ⟨m, j⟩ := o
      obtain ⟨rfl, rfl⟩ := rv_pre hb hfull (by omega) e
      rw [e, hz] at g4
      simp only [rvO] at g4
      omega
theorem fa_end {F : ByteArray} {k p : Nat} (hk : k ≤ F.size) (hp : p ≤ k) (hF : (bytesOf F).drop p = []) : ¬ faOk (F.extract 0 k) (p : Int) := by
  intro hok
  have g1 := hok.1
  unfold rvC at g1
  have hz : (F.extract 0 k).size = k := by rw [ext_size F (by omega) hk]; omega
  have hd : (bytesOf (F.extract 0 k)).drop p = [] := by rw [bytesOf_pre, List.drop_take, hF, List.take_nil]
  rw [if_pos (by omega), Int.toNat_natCast, hd] at g1
  simp [rv, rvL, rvO] at g1
theorem faC_yes {s : ByteArray} {a q : Int} {t : ByteArray} (h : faC s a = (t, q, true)) : faOk s a ∧ faText s a = t ∧ faEnd s a = q := by
  unfold faC at h
  by_cases c : faOk s a
  · rw [if_pos c] at h
    simp only [Prod.mk.injEq, and_true] at h
    exact ⟨c, h.1, h.2⟩
  · rw [if_neg c] at h
    simp at h
theorem faC_no {s : ByteArray} {a : Int} (h : faC s a = (⟨#[]⟩, 0, false)) : ¬ faOk s a := by
  intro c
  unfold faC at h
  rw [if_pos c] at h
  simp at h
/-- How many frames stand whole in the first k bytes, and where they end. -/
def cnt (k : Nat) : Nat → List ByteArray → Nat × Nat
  | p, [] => (0, p)
  | p, t :: ts => if p + fsz t ≤ k then ((cnt k (p + fsz t) ts).1 + 1, (cnt k (p + fsz t) ts).2) else (0, p)
theorem uf_frames {F : ByteArray} {k : Nat} (hk : k ≤ F.size) : ∀ (ts : List ByteArray) (n p : Nat) (out : List ByteArray), (cnt k p ts).1 < n → (∀ t ∈ ts, 1 ≤ t.size ∧ t.size ≤ 9000) → p ≤ k →
    (bytesOf F).drop p = ts.flatMap (fun t => bytesOf (frameT t)) → uf n (F.extract 0 k) out (p : Int) = (out ++ ts.take (cnt k p ts).1, ((cnt k p ts).2 : Int))
  | [], n + 1, p, out, _, _, hp, hF => by
    simp only [uf, cnt]
    rw [if_neg (fa_end hk hp (by simpa using hF))]
    simp
  | t :: ts, n + 1, p, out, hn, ht, hp, hF => by
    rw [List.flatMap_cons] at hF
    simp only [cnt] at hn
    have h := fa_at (ht t List.mem_cons_self).1 (ht t List.mem_cons_self).2 hk hp hF
    simp only [uf, cnt]
    by_cases c : p + fsz t ≤ k
    · rw [if_pos c] at h
      obtain ⟨g1, g2, g3⟩ := faC_yes h
      rw [if_pos g1, if_pos c, g2, g3]
      have hF2 : (bytesOf F).drop (p + fsz t) = ts.flatMap (fun t => bytesOf (frameT t)) := by
        rw [← List.drop_drop, hF, show fsz t = (bytesOf (frameT t)).length by rw [bytesOf_length]; rfl, List.drop_left]
      rw [if_pos c] at hn
      rw [uf_frames hk ts n (p + fsz t) (out ++ [t]) (by simp only [] at hn; omega) (fun x hx => ht x (List.mem_cons_of_mem _ hx)) c hF2]
      simp
    · rw [if_neg c] at h
      rw [if_neg (faC_no h), if_neg c]
      simp
theorem cnt_le (k : Nat) : ∀ (ts : List ByteArray) (p : Nat), p ≤ k → (cnt k p ts).1 + p ≤ k
  | [], p, h => by simp only [cnt]; omega
  | t :: ts, p, h => by
    simp only [cnt]
    by_cases c : p + fsz t ≤ k
    · rw [if_pos c]
      have := cnt_le k ts (p + fsz t) c
      have := fsz_eq t
      have := vl_pos t.size
      simp only []
      omega
    · rw [if_neg c]; simp only []; omega
theorem ufC_frames {F : ByteArray} {k : Nat} (hk : k ≤ F.size) (hF : F.size ≤ 20000) {ts : List ByteArray} (ht : ∀ t ∈ ts, 1 ≤ t.size ∧ t.size ≤ 9000) (hb : bytesOf F = ts.flatMap (fun t => bytesOf (frameT t))) :
    ufC (F.extract 0 k) = (ts.take (cnt k 0 ts).1, ((cnt k 0 ts).2 : Int)) := by
  have hz : (F.extract 0 k).size = k := by rw [ext_size F (by omega) hk]; omega
  have hc := cnt_le k ts 0 (by omega)
  unfold ufC
  rw [hz, if_pos (by omega)]
  have h := uf_frames hk ts (k + 1) 0 [] (by omega) ht (by omega) (by rw [List.drop_zero]; exact hb)
  simpa using h

theorem impl_in_eq (a b c : Int) : impl_in.f a b c = some (decide (b ≤ a ∧ a ≤ c)) := by
  unfold impl_in.f
  by_cases h : a ≥ b
  · rw [if_pos h]; simp [show b ≤ a from h]
  · rw [if_neg h]; simp [show ¬ b ≤ a from h]

theorem bits_low7 {n : Int} (h0 : 0 ≤ n) (h1 : n ≤ 9223372036854775807) : Go.bits .and .i64 n 127 = n % 128 :=
  bits_mask .i64 63 (by decide) (fun n h0 h1 => by rw [IntKind.wrap_i64]; omega) 7 (by decide) n h0 (by omega)
theorem bits_or128 {n : Int} (h0 : 0 ≤ n) (h1 : n < 128) : Go.bits .or .i64 n 128 = n + 128 := by
  obtain ⟨a, rfl⟩ := Int.eq_ofNat_of_zero_le h0
  have h := (bits_nat .i64 63 (by decide) (fun n h0 h1 => by rw [IntKind.wrap_i64]; omega) a 128 (by omega) (by omega)).2
  have e : a ||| 128 = 128 + a := by
    have := Nat.two_pow_add_eq_or_of_lt (i := 7) (b := a) (by omega) 1
    rw [Nat.or_comm, show (128 : Nat) ||| a = 2 ^ 7 * 1 ||| a from rfl, ← this]
  rw [e] at h
  rw [show (128 : Int) = ((128 : Nat) : Int) from rfl, h]; omega

theorem impl_VarText_l0 (n : Nat) : ∀ out : List Int, n ≤ 9223372036854775807 → out.length + (vl n).length ≤ 140737488355328 →
    Ev (fun k => impl_VarText.l0 k (n : Int) out) (strOfNums (out ++ vl n), true) := by
  induction n using Nat.strongRecOn with
  | _ n ih =>
    intro out hn hl
    by_cases h : 127 < n
    · rw [vl_big h] at hl ⊢
      simp only [List.length_cons] at hl
      refine Ev.step (f := fun k => impl_VarText.l0 k ((n / 128 : Nat) : Int) (out ++ [((n % 128 + 128 : Nat) : Int)])) (fun k => ?_) ?_
      · simp only [impl_VarText.l0]
        rw [if_pos (by omega), if_pos (by omega), bits_low7 (by omega) (by omega), bits_or128 (by omega) (by omega)]
        congr 3
        omega
      · have := ih (n / 128) (by omega) (out ++ [((n % 128 + 128 : Nat) : Int)]) (by omega) (by simp; omega)
        rwa [List.append_assoc] at this
    · rw [vl_small h] at hl ⊢
      simp only [List.length_cons, List.length_nil] at hl
      refine Ev.step (f := fun _ => some (strOfNums (out ++ [(n : Int)]), true)) (fun k => ?_) (Ev.now _)
      simp only [impl_VarText.l0]
      rw [if_neg (by omega), if_pos (by omega), show (n : Int) % 256 = n by omega]
theorem impl_VarText_ev (n : Int) : Ev (fun k => impl_VarText.f k n) (varC n) := by
  by_cases h : 0 ≤ n ∧ n ≤ 1000000000
  · have hl := vl_len 10 n.toNat (by omega) (by omega)
    obtain ⟨K, hK⟩ := impl_VarText_l0 n.toNat [] (by omega) (by simp; omega)
    refine ⟨K, fun k hk => ?_⟩
    have := hK k hk
    rw [Int.toNat_of_nonneg h.1] at this
    simp only [impl_VarText.f, impl_in_eq, Option.bind_some, h, varC, this]
    simp
  · refine ⟨0, fun k _ => ?_⟩
    simp only [impl_VarText.f, impl_in_eq, Option.bind_some, h, varC]
    simp

theorem impl_varOf_ev {n : Int} (h0 : 0 ≤ n) (h1 : n ≤ 1000000000) : Ev (fun k => impl_varOf.f k n) (varT n) := by
  obtain ⟨K, hK⟩ := impl_VarText_ev n
  refine ⟨K, fun k hk => ?_⟩
  simp only [impl_varOf.f, hK k hk, Option.bind_some, varC, varT]
  rw [if_pos ⟨h0, h1⟩]

theorem impl_SumMore_l0 (s : ByteArray) (hs : s.size ≤ 140737488351232) : ∀ (d i : Nat), i + d = s.size → ∀ x : Nat, x < 4294967296 →
    Ev (fun k => impl_SumMore.l0 k (x : Int) s (s.size : Int) (i : Int)) ((crc x ((nb s).drop i) : Nat) : Int)
  | 0, i, hd, x, _ => by
    refine Ev.step (f := fun _ => some (x : Int)) (fun k => ?_) ?_
    · simp only [impl_SumMore.l0]; rw [if_neg (by omega)]
    · rw [nb_drop_end (by omega)]; exact Ev.now _
  | d + 1, i, hd, x, hx => by
    have hb := bt_range s (i : Int)
    obtain ⟨b, hb'⟩ := Int.eq_ofNat_of_zero_le hb.1
    have hbl : b < 256 := by omega
    have inner : ∀ (e j : Nat), j + e = 8 → ∀ y : Nat, y < 4294967296 → Ev (fun k => impl_SumMore.l1 k (y : Int) s (s.size : Int) (i : Int) (j : Int)) ((crc (csts e y) ((nb s).drop (i + 1)) : Nat) : Int) := by
      intro e
      induction e with
      | zero =>
        intro j hj y hy
        refine Ev.step (f := fun k => impl_SumMore.l0 k (y : Int) s (s.size : Int) ((i + 1 : Nat) : Int)) (fun k => ?_) (impl_SumMore_l0 s hs d (i + 1) (by omega) y hy)
        simp only [impl_SumMore.l1]
        rw [if_neg (by omega), w64 (by omega) (by omega)]; rfl
      | succ e ih =>
        intro j hj y hy
        refine Ev.step (f := fun k => impl_SumMore.l1 k ((cst y : Nat) : Int) s (s.size : Int) (i : Int) ((j + 1 : Nat) : Int)) (fun k => ?_) (ih (j + 1) (by omega) (cst y) (cst_lt hy))
        simp only [impl_SumMore.l1]
        rw [if_pos (by omega), w64 (by omega) (by omega), and_one hy, show (y : Int) / 2 = ((y / 2 : Nat) : Int) by omega]
        unfold cst
        by_cases h1 : y % 2 = 1
        · rw [if_pos (by omega), if_pos h1, show (3558460437 : Int) = ((3558460437 : Nat) : Int) from rfl, xor_nat (by omega) (by omega)]; rfl
        · rw [if_neg (by omega), if_neg h1]; rfl
    refine Ev.step (f := fun k => impl_SumMore.l1 k ((x ^^^ b : Nat) : Int) s (s.size : Int) (i : Int) ((0 : Nat) : Int)) (fun k => ?_) ?_
    · simp only [impl_SumMore.l0]
      rw [if_pos (by omega), if_pos (by omega), if_pos (by omega), hb', show (b : Int) % 4294967296 = (b : Int) by omega, xor_nat hx (by omega)]; rfl
    · have h := inner 8 0 rfl (x ^^^ b) (xor_byte_lt hx hbl)
      rw [nb_drop (by omega), hb', Int.toNat_natCast]
      exact h
theorem impl_SumMore_ev (s : ByteArray) (x : Nat) (hx : x < 4294967296) (hs : s.size ≤ 140737488351232) : Ev (fun k => impl_SumMore.f k (x : Int) s) ((crc x (nb s) : Nat) : Int) :=
  impl_SumMore_l0 s hs s.size 0 (by omega) x hx

theorem impl_SumOf_ev (s : ByteArray) (hs : s.size ≤ 140737488351232) : Ev (fun k => impl_SumOf.f k s) ((sumC s : Nat) : Int) := by
  obtain ⟨K, hK⟩ := impl_SumMore_ev s 4294967295 (by omega) hs
  refine ⟨K, fun k hk => ?_⟩
  have e : impl_SumMore.f k 4294967295 s = some _ := hK k hk
  simp only [impl_SumOf.f]
  rw [e]; rfl

theorem impl_fourBytes_eq (n : Nat) : impl_fourBytes.f (n : Int) = some (fourT n) := by
  simp only [impl_fourBytes.f, fourT, four]
  congr 2

theorem impl_framed_ev (s : ByteArray) (hs : s.size ≤ 1000000000) : Ev (fun k => impl_framed.f k s) (frameT s) := by
  obtain ⟨K1, h1⟩ := impl_varOf_ev (n := (s.size : Int)) (by omega) (by omega)
  obtain ⟨K2, h2⟩ := impl_SumOf_ev s (by omega)
  refine ⟨K1 + K2, fun k hk => ?_⟩
  have e1 : impl_varOf.f k (s.size : Int) = some _ := h1 k (by omega)
  have e2 : impl_SumOf.f k s = some _ := h2 k (by omega)
  have z1 := varT_size (n := (s.size : Int)) (by omega) (by omega)
  have z2 := fourT_size (sumC s)
  have z3 : (varT (s.size : Int) ++ fourT (sumC s)).size ≤ 14 := by rw [ByteArray.size_append]; omega
  simp only [impl_framed.f]
  rw [e1, Option.bind_some, e2, Option.bind_some, impl_fourBytes_eq, Option.bind_some, if_pos (by omega), if_pos (by omega)]; rfl

theorem impl_Frame_ev (s : ByteArray) (hs : s.size ≤ 140737488351232) : Ev (fun k => impl_Frame.f k s) (frameC s) := by
  by_cases h : 1 ≤ s.size ∧ s.size ≤ 9000
  · obtain ⟨K1, h1⟩ := impl_framed_ev s (by omega)
    refine ⟨K1, fun k hk => ?_⟩
    have e1 : impl_framed.f k s = some _ := h1 k (by omega)
    simp only [impl_Frame.f, frameC, impl_in_eq]
    rw [Option.bind_some, if_pos (by simp; omega), e1, Option.bind_some, if_pos h]
  · refine ⟨0, fun k _ => ?_⟩
    simp only [impl_Frame.f, frameC, impl_in_eq]
    rw [Option.bind_some, if_neg (by simp; omega), if_neg h]

theorem or_add (a b i : Nat) (hi : i ≤ 40) (ha : a < 2 ^ i) (hb : b < 128) : Go.bits .or .i64 (a : Int) ((2 ^ i * b : Nat) : Int) = (a : Int) + ((2 ^ i * b : Nat) : Int) := by
  have e : 2 ^ i * b < 2 ^ 63 := by
    have h1 : 2 ^ i ≤ 2 ^ 40 := Nat.pow_le_pow_right (by decide) hi
    calc 2 ^ i * b ≤ 2 ^ 40 * b := Nat.mul_le_mul_right _ h1
      _ < 2 ^ 63 := by omega
  have e2 : a < 2 ^ 63 := Nat.lt_of_lt_of_le ha (Nat.pow_le_pow_right (by decide) (by omega))
  rw [(bits_nat .i64 63 (by decide) (fun n h0 h1 => by rw [IntKind.wrap_i64]; omega) a (2 ^ i * b) e2 e).2, Nat.or_comm, ← Nat.two_pow_add_eq_or_of_lt ha b]
  omega
theorem or_shl {n b : Int} {kk : Nat} (hk : kk ≤ 4) (h0 : 0 ≤ n) (h1 : n < 128 ^ kk) (hb0 : 0 ≤ b) (hb1 : b ≤ 255) :
    Go.bits .or .i64 n (shl .i64 (Go.bits .and .i64 (wrap64 b) 127) (wrap64 (7 * (kk : Int)))) = n + b % 128 * 128 ^ kk := by
  rw [w64 (by omega) (by omega), w64 (by omega) (by omega), bits_low7 hb0 (by omega)]
  obtain ⟨a, rfl⟩ := Int.eq_ofNat_of_zero_le h0
  obtain ⟨c, rfl⟩ := Int.eq_ofNat_of_zero_le hb0
  have key := or_add a (c % 128) (7 * kk) (by omega) (by
    have : ((a : Nat) : Int) < ((128 ^ kk : Nat) : Int) := by simpa using h1
    have h2 : a < 128 ^ kk := by omega
    rwa [show 2 ^ (7 * kk) = 128 ^ kk by rw [Nat.pow_mul]]) (by omega)
  have es : shl .i64 ((c : Int) % 128) (7 * (kk : Int)) = ((2 ^ (7 * kk) * (c % 128) : Nat) : Int) := by
    unfold shl
    have hm : min ((7 * (kk : Int)).toNat) IntKind.i64.bits = 7 * kk := by
      have : (7 * (kk : Int)).toNat = 7 * kk := by omega
      rw [this]
      exact Nat.min_eq_left (by simp [IntKind.bits]; omega)
    rw [hm, IntKind.wrap_i64]
    obtain rfl | rfl | rfl | rfl | rfl : kk = 0 ∨ kk = 1 ∨ kk = 2 ∨ kk = 3 ∨ kk = 4 := by omega
    all_goals simp only [Nat.reduceMul, Nat.reducePow, Int.reducePow, Nat.mul_zero, Nat.pow_zero, Int.pow_zero]; omega
  rw [es, key]
  congr 1
  rw [show 2 ^ (7 * kk) = 128 ^ kk by rw [Nat.pow_mul]]
  simp [Int.mul_comm]
theorem impl_ReadVar_l0 (s : ByteArray) (at0 : Int) (h0 : 0 ≤ at0) (h1 : at0 ≤ (s.size : Int)) (hs : s.size ≤ 140737488351232) : ∀ (f kk : Nat) (n : Int), f + kk = 5 → 0 ≤ n → n < 128 ^ kk →
    Ev (fun k => impl_ReadVar.l0 k s at0 n (kk : Int)) (rvO at0 (rvL f ((bytesOf s).drop (at0 + kk).toNat) kk n))
  | 0, kk, n, hf, _, _ => by
    refine Ev.step (f := fun k => impl_ReadVar.j1 k s at0 n (kk : Int) false) (fun k => ?_) ?_
    · simp only [impl_ReadVar.l0]; rw [if_neg (by omega)]
    · refine Ev.step (f := fun _ => some (0, 0, false)) (fun k => ?_) (Ev.now _)
      simp [impl_ReadVar.j1]
  | f + 1, kk, n, hf, hn0, hn1 => by
    refine Ev.step (f := fun k => impl_ReadVar.j1 k s at0 n (kk : Int) (decide (wrap64 (at0 + (kk : Int)) < (s.size : Int)))) (fun k => ?_) ?_
    · simp only [impl_ReadVar.l0]; rw [if_pos (by omega)]
    · rw [w64 (by omega) (by omega)]
      by_cases hlt : at0 + (kk : Int) < (s.size : Int)
      · have hb := bt_range s (at0 + kk)
        have hor := or_shl (n := n) (b := bt s (at0 + kk)) (kk := kk) (by omega) hn0 hn1 hb.1 hb.2
        rw [bytesOf_drop (by omega) hlt]
        have hpow : n + bt s (at0 + kk) % 128 * 128 ^ kk < 128 ^ (kk + 1) := by
          rw [Int.pow_succ]
          have h3 : bt s (at0 + kk) % 128 * 128 ^ kk ≤ 127 * 128 ^ kk := Int.mul_le_mul_of_nonneg_right (by omega) (Int.le_of_lt (Int.pow_pos (by decide)))
          omega
        have hge : 0 ≤ n + bt s (at0 + kk) % 128 * 128 ^ kk := by
          have : 0 ≤ bt s (at0 + kk) % 128 * 128 ^ kk := Int.mul_nonneg (by omega) (Int.le_of_lt (Int.pow_pos (by decide)))
          omega
        by_cases hb2 : bt s (at0 + kk) < 128
        · refine Ev.step (f := fun _ => some (rvO at0 (rvL (f + 1) (bt s (at0 + kk) :: (bytesOf s).drop (at0 + kk + 1).toNat) kk n))) (fun k => ?_) (Ev.now _)
          simp only [impl_ReadVar.j1, rvL]
          rw [w64 (n := at0 + kk) (by omega) (by omega), if_pos (by simpa using hlt), if_pos (by omega), if_pos hlt, if_pos (by rw [w64 (by omega) (by omega)]; omega), hor, w64 (n := bt s (at0 + kk)) (by omega) (by omega), if_neg (by omega), if_pos hb2]
          by_cases hz : bt s (at0 + kk) = 0
          · rw [if_pos hz]
            by_cases hk : (kk : Int) > 0
            · rw [if_pos hk, if_pos (.inl ⟨hz, by omega⟩)]; rfl
            · rw [if_neg hk]
              by_cases hm : n + bt s (at0 + kk) % 128 * 128 ^ kk > 1000000000
              · rw [if_pos hm, if_pos (.inr hm)]; rfl
              · rw [if_neg hm, if_neg (by omega), w64 (by omega) (by omega)]
                simp only [rvO, Int.add_assoc, Int.natCast_add, Int.cast_ofNat_Int]
          · rw [if_neg hz]
            by_cases hm : n + bt s (at0 + kk) % 128 * 128 ^ kk > 1000000000
            · rw [if_pos hm, if_pos (.inr hm)]; rfl
            · rw [if_neg hm, if_neg (by omega), w64 (by omega) (by omega)]
              simp only [rvO, Int.add_assoc, Int.natCast_add, Int.cast_ofNat_Int]
        · refine Ev.step (f := fun k => impl_ReadVar.l0 k s at0 (n + bt s (at0 + kk) % 128 * 128 ^ kk) ((kk + 1 : Nat) : Int)) (fun k => ?_) ?_
          · simp only [impl_ReadVar.j1]
            rw [w64 (n := at0 + kk) (by omega) (by omega), if_pos (by simpa using hlt), if_pos (by omega), if_pos hlt, if_pos (by rw [w64 (by omega) (by omega)]; omega), hor, w64 (n := bt s (at0 + kk)) (by omega) (by omega), if_pos (by omega), w64 (n := (kk : Int) + 1) (by omega) (by omega)]
            rfl
          · have ih := impl_ReadVar_l0 s at0 h0 h1 hs f (kk + 1) (n + bt s (at0 + kk) % 128 * 128 ^ kk) (by omega) hge hpow
            simp only [rvL]
            rw [if_neg hb2]
            rw [show at0 + (kk : Int) + 1 = at0 + ((kk + 1 : Nat) : Int) by omega]
            exact ih
      · rw [bytesOf_drop_end hlt]
        refine Ev.step (f := fun _ => some (0, 0, false)) (fun k => ?_) (Ev.now _)
        simp [impl_ReadVar.j1, hlt]
theorem impl_ReadVar_ev (s : ByteArray) (at0 : Int) (hs : s.size ≤ 140737488351232) : Ev (fun k => impl_ReadVar.f k s at0) (rvC s at0) := by
  by_cases h : 0 ≤ at0 ∧ at0 ≤ (s.size : Int)
  · obtain ⟨K, hK⟩ := impl_ReadVar_l0 s at0 h.1 h.2 hs 5 0 0 rfl (by omega) (by decide)
    refine ⟨K, fun k hk => ?_⟩
    have := hK k hk
    simp only [impl_ReadVar.f, impl_in_eq, Option.bind_some, h, rvC, rv]
    simpa using this
  · refine ⟨0, fun k _ => ?_⟩
    simp only [impl_ReadVar.f, impl_in_eq, Option.bind_some, h, rvC]
    simp

theorem impl_frameAt_no (s : ByteArray) (at0 : Int) (h : ¬ faOk s at0) : faC s at0 = (⟨#[]⟩, 0, false) := by unfold faC; rw [if_neg h]
theorem impl_frameAt_ev (s : ByteArray) (at0 : Int) (hs : s.size ≤ 140737488351232) : Ev (fun k => impl_frameAt.f k s at0) (faC s at0) := by
  obtain ⟨K1, h1⟩ := impl_ReadVar_ev s at0 hs
  by_cases hok : (rvC s at0).2.2 = true
  · have hr := rvC_range s at0 hok
    by_cases hin : 1 ≤ (rvC s at0).1 ∧ (rvC s at0).1 ≤ 9000
    · by_cases hle : (rvC s at0).1 ≤ (s.size : Int) - (rvC s at0).2.1 - 4
      · have hsz := faText_size hok (by omega) hle
        obtain ⟨K2, h2⟩ := impl_SumOf_ev (faText s at0) (by omega)
        refine ⟨K1 + K2 + 1, fun k hk => ?_⟩
        obtain ⟨k, rfl⟩ : ∃ m, k = m + 1 := ⟨k - 1, by omega⟩
        have e1 : impl_ReadVar.f (k + 1) s at0 = some _ := h1 _ (by omega)
        have e2 : impl_SumOf.f k (s.extract ((rvC s at0).2.1 + 4).toNat ((rvC s at0).2.1 + 4 + (rvC s at0).1).toNat) = some _ := h2 _ (by omega)
        simp only [impl_frameAt.f, impl_in_eq]
        rw [e1, Option.bind_some, if_pos hok, Option.bind_some, if_pos (by simpa using hin), w64 (n := (s.size : Int) - (rvC s at0).2.1) (by omega) (by omega), w64 (by omega) (by omega)]
        rw [decide_eq_false (show ¬ ((rvC s at0).1 > (s.size : Int) - (rvC s at0).2.1 - 4) by omega)]
        simp only [impl_frameAt.j0]
        rw [if_neg (by simp), w64 (n := (rvC s at0).2.1 + 4) (by omega) (by omega), w64 (n := (rvC s at0).2.1 + 4 + (rvC s at0).1) (by omega) (by omega), if_pos (by omega), if_pos (by omega), if_pos (by omega), if_pos (by omega), if_pos (by omega), if_pos (by omega), e2, Option.bind_some, impl_fourBytes_eq, Option.bind_some]
        by_cases he : s.extract (rvC s at0).2.1.toNat ((rvC s at0).2.1 + 4).toNat = fourT (sumC (faText s at0))
        · rw [if_pos (toList_iff.2 he)]
          unfold faC
          rw [if_pos ⟨hok, hin.1, hin.2, hle, he⟩]; rfl
        · rw [if_neg (fun h => he (toList_iff.1 h)), impl_frameAt_no s at0 (fun h => he h.2.2.2.2)]
      · refine ⟨K1 + 1, fun k hk => ?_⟩
        obtain ⟨k, rfl⟩ : ∃ m, k = m + 1 := ⟨k - 1, by omega⟩
        have e1 : impl_ReadVar.f (k + 1) s at0 = some _ := h1 _ (by omega)
        simp only [impl_frameAt.f, impl_in_eq]
        rw [e1, Option.bind_some, if_pos hok, Option.bind_some, if_pos (by simpa using hin), w64 (n := (s.size : Int) - (rvC s at0).2.1) (by omega) (by omega), w64 (by omega) (by omega)]
        rw [decide_eq_true (show (rvC s at0).1 > (s.size : Int) - (rvC s at0).2.1 - 4 by omega), impl_frameAt_no s at0 (fun h => hle h.2.2.2.1)]
        simp only [impl_frameAt.j0]
        rw [if_pos trivial]
    · refine ⟨K1 + 1, fun k hk => ?_⟩
      obtain ⟨k, rfl⟩ : ∃ m, k = m + 1 := ⟨k - 1, by omega⟩
      have e1 : impl_ReadVar.f (k + 1) s at0 = some _ := h1 _ (by omega)
      simp only [impl_frameAt.f, impl_in_eq]
      rw [e1, Option.bind_some, if_pos hok, Option.bind_some, if_neg (by simpa using hin), impl_frameAt_no s at0 (fun h => hin ⟨h.2.1, h.2.2.1⟩)]
      simp only [impl_frameAt.j0]
      rw [if_pos trivial]
  · refine ⟨K1 + 1, fun k hk => ?_⟩
    obtain ⟨k, rfl⟩ : ∃ m, k = m + 1 := ⟨k - 1, by omega⟩
    have e1 : impl_ReadVar.f (k + 1) s at0 = some _ := h1 _ (by omega)
    simp only [impl_frameAt.f, impl_in_eq]
    rw [e1, Option.bind_some, if_neg hok, impl_frameAt_no s at0 (fun h => hok h.1)]
    simp only [impl_frameAt.j0]
    rw [if_pos trivial]

theorem impl_Unframe_l0 (s : ByteArray) (hs : s.size ≤ 20000) : ∀ (n : Nat) (out : List ByteArray) (at0 : Int), 0 ≤ at0 → at0 ≤ (s.size : Int) → (out.length : Int) ≤ at0 → (s.size : Int) - at0 < (n : Int) →
    Ev (fun k => impl_Unframe.l0 k s out at0) (uf n s out at0)
  | 0, out, at0, h0, h1, h2, h3 => by omega
  | n + 1, out, at0, h0, h1, h2, h3 => by
    obtain ⟨K, hK⟩ := impl_frameAt_ev s at0 (by omega)
    simp only [uf]
    by_cases h : faOk s at0
    · have hr := faEnd_range h
      rw [if_pos h]
      obtain ⟨K2, hK2⟩ := impl_Unframe_l0 s hs n (out ++ [faText s at0]) (faEnd s at0) (by omega) (by omega) (by simp; omega) (by omega)
      refine ⟨K + K2 + 1, fun k hk => ?_⟩
      obtain ⟨k, rfl⟩ : ∃ m, k = m + 1 := ⟨k - 1, by omega⟩
      have e1 : impl_frameAt.f k s at0 = some _ := hK _ (by omega)
      have e2 : impl_Unframe.l0 k s (out ++ [faText s at0]) (faEnd s at0) = some _ := hK2 _ (by omega)
      unfold faC at e1
      rw [if_pos h] at e1
      simp only [impl_Unframe.l0]
      rw [if_pos (by omega), e1, Option.bind_some, if_pos rfl, if_pos (by omega), e2]
    · rw [if_neg h]
      refine ⟨K + 1, fun k hk => ?_⟩
      obtain ⟨k, rfl⟩ : ∃ m, k = m + 1 := ⟨k - 1, by omega⟩
      have e1 : impl_frameAt.f k s at0 = some _ := hK _ (by omega)
      unfold faC at e1
      rw [if_neg h] at e1
      simp only [impl_Unframe.l0]
      rw [if_pos (by omega), e1, Option.bind_some, if_neg (by simp)]
theorem impl_Unframe_ev (s : ByteArray) : Ev (fun k => impl_Unframe.f k s) (ufC s) := by
  by_cases h : s.size ≤ 20000
  · unfold ufC
    rw [if_pos h]
    exact impl_Unframe_l0 s h (s.size + 1) [] 0 (by omega) (by omega) (by simp) (by omega)
  · refine ⟨1, fun k hk => ?_⟩
    obtain ⟨k, rfl⟩ : ∃ m, k = m + 1 := ⟨k - 1, by omega⟩
    unfold ufC
    rw [if_neg h]
    simp only [impl_Unframe.f, impl_Unframe.l0]
    rw [if_neg (by omega)]

theorem drop_rd {l : List Int} {i : Nat} (h : i < l.length) : l.drop i = rd l (i : Int) :: l.drop (i + 1) := by
  rw [List.drop_eq_getElem_cons h]
  congr 1
  unfold rd
  rw [Int.toNat_natCast, List.getD_eq_getElem?_getD, List.getElem?_eq_getElem h]; rfl
theorem take_set_succ {α : Type} (l : List α) (i : Nat) (v : α) (h : i < l.length) : (l.set i v).take (i + 1) = l.take i ++ [v] := by
  rw [List.take_add_one, List.getElem?_set_self h, List.take_set_of_le (Nat.le_refl i)]; rfl
theorem take_rd {l : List Int} {i : Nat} (h : i < l.length) : l.take (i + 1) = l.take i ++ [rd l (i : Int)] := by
  rw [List.take_add_one]
  congr 1
  unfold rd
  rw [Int.toNat_natCast, List.getD_eq_getElem?_getD, List.getElem?_eq_getElem h]; rfl

theorem laws_sameTexts_l0 (l : List ByteArray) (hl : l.length ≤ 140737488351232) : ∀ (d i : Nat), i + d = l.length → Ev (fun k => laws_sameTexts.l0 k l l (i : Int)) true
  | 0, i, hd => by
    refine Ev.step (f := fun _ => some true) (fun k => ?_) (Ev.now _)
    simp only [laws_sameTexts.l0]; rw [if_neg (by omega)]
  | d + 1, i, hd => by
    refine Ev.step (f := fun k => laws_sameTexts.l0 k l l ((i + 1 : Nat) : Int)) (fun k => ?_) (laws_sameTexts_l0 l hl d (i + 1) (by omega))
    simp only [laws_sameTexts.l0]
    rw [if_pos (by omega), if_pos (by omega), if_pos (by omega), if_pos trivial, w64 (by omega) (by omega)]; rfl
theorem laws_sameTexts_ev (l : List ByteArray) (hl : l.length ≤ 140737488351232) : Ev (fun k => laws_sameTexts.f k l l) true := by
  obtain ⟨K, hK⟩ := laws_sameTexts_l0 l hl l.length 0 (by omega)
  refine ⟨K, fun k hk => ?_⟩
  have e : laws_sameTexts.l0 k l l 0 = some _ := hK k hk
  simp only [laws_sameTexts.f]
  rw [if_pos trivial, e]

theorem frames_step (pl : List Int) (ts : List ByteArray) (F : ByteArray) (E : List Int) (i : Nat) (hi : i < ts.length) (ht : 1 ≤ (ts.getD i ByteArray.empty).size ∧ (ts.getD i ByteArray.empty).size ≤ 900) (hF : F.size ≤ 100000) (hE : E.length ≤ 100) (hts : ts.length ≤ 100) :
    ∃ K, ∀ k, K ≤ k → laws_FnFrames.l0 (k + 1) pl ts F E (i : Int) = laws_FnFrames.l0 k pl ts (F ++ frameT (ts.getD i ByteArray.empty)) (E ++ [((F ++ frameT (ts.getD i ByteArray.empty)).size : Int)]) ((i + 1 : Nat) : Int) := by
  obtain ⟨K, hK⟩ := impl_Frame_ev (ts.getD i ByteArray.empty) (by omega)
  refine ⟨K, fun k hk => ?_⟩
  have e : impl_Frame.f k (ts.getD i ByteArray.empty) = some _ := hK k hk
  have hz := fsz_le ht.2
  unfold fsz at hz
  simp only [laws_FnFrames.l0]
  rw [if_pos (by omega), if_pos (by omega), show rdOf ByteArray.empty ts (i : Int) = ts.getD i ByteArray.empty by unfold rdOf; rw [Int.toNat_natCast], e, Option.bind_some]
  rw [show frameC (ts.getD i ByteArray.empty) = (frameT (ts.getD i ByteArray.empty), true) from if_pos ⟨ht.1, by omega⟩]
  simp only []
  rw [if_pos trivial, if_pos (by omega), if_pos (by omega), w64 (n := (i : Int) + 1) (by omega) (by omega)]
  rfl
theorem frames_end (pl : List Int) (hp : 0 < pl.length) (h0 : 0 ≤ rd pl 0) (t0 t1 t2 F : ByteArray) (E : List Int) (h1 : 1 ≤ t0.size ∧ t0.size ≤ 900) (h2 : 1 ≤ t1.size ∧ t1.size ≤ 900) (h3 : 1 ≤ t2.size ∧ t2.size ≤ 900)
    (hF : bytesOf F = [t0, t1, t2].flatMap (fun t => bytesOf (frameT t))) (hE : E = [(0 : Int), (fsz t0 : Int), ((fsz t0 + fsz t1 : Nat) : Int), ((fsz t0 + fsz t1 + fsz t2 : Nat) : Int)]) :
    ∃ K, ∀ k, K ≤ k → laws_FnFrames.l0 (k + 1 + 1) pl [t0, t1, t2] F E 3 = some true := by
  have z0 := fsz_le h1.2
  have z1 := fsz_le h2.2
  have z2 := fsz_le h3.2
  have hsz : F.size = fsz t0 + fsz t1 + fsz t2 := by
    rw [← bytesOf_length, hF]
    simp only [List.flatMap_cons, List.flatMap_nil, List.length_append, bytesOf_length, List.length_nil]
    unfold fsz; omega
  have ht : ∀ t ∈ [t0, t1, t2], 1 ≤ t.size ∧ t.size ≤ 9000 := by
    intro t hm
    simp only [List.mem_cons, List.not_mem_nil, or_false] at hm
    rcases hm with rfl | rfl | rfl <;> omega
  obtain ⟨q, hq⟩ : ∃ q : Nat, Int.tmod (rd pl 0) ((F.size : Int) + 1) = (q : Int) := ⟨_, (Int.toNat_of_nonneg (Int.tmod_nonneg _ h0)).symm⟩
  have hq1 : q ≤ F.size := by
    have := Int.tmod_lt_of_pos (rd pl 0) (b := (F.size : Int) + 1) (by omega)
    omega
  have hall : ufC F = ([t0, t1, t2], (F.size : Int)) := by
    have h := ufC_frames (k := F.size) (Nat.le_refl _) (by omega) ht hF
    rw [extract_all] at h
    rw [h]
    simp only [cnt]
    rw [if_pos (by omega), if_pos (by omega), if_pos (by omega)]
    simp only [Nat.zero_add, List.take_succ_cons, List.take_zero, Prod.mk.injEq, true_and]
    omega
  have hpart : ∃ (m : Nat) (e : Int), ufC (F.extract 0 q) = ([t0, t1, t2].take m, e) ∧ m ≤ 3 ∧ rd E (m : Int) = e ∧ e ≤ (q : Int) ∧ (m = 3 ∨ rd E ((m : Int) + 1) > (q : Int)) := by
    have h := ufC_frames (k := q) hq1 (by omega) ht hF
    simp only [cnt, Nat.zero_add] at h
    by_cases c0 : fsz t0 ≤ q
    · by_cases c1 : fsz t0 + fsz t1 ≤ q
      · by_cases c2 : fsz t0 + fsz t1 + fsz t2 ≤ q
        · rw [if_pos c0, if_pos c1, if_pos c2] at h
          exact ⟨3, _, h, by omega, by rw [hE]; rfl, by simp only []; omega, .inl rfl⟩
        · rw [if_pos c0, if_pos c1, if_neg c2] at h
          exact ⟨2, _, h, by omega, by rw [hE]; rfl, by simp only []; omega, .inr (by rw [hE]; show ((fsz t0 + fsz t1 + fsz t2 : Nat) : Int) > (q : Int); omega)⟩
      · rw [if_pos c0, if_neg c1] at h
        exact ⟨1, _, h, by omega, by rw [hE]; rfl, by simp only []; omega, .inr (by rw [hE]; show ((fsz t0 + fsz t1 : Nat) : Int) > (q : Int); omega)⟩
    · rw [if_neg c0] at h
      exact ⟨0, _, h, by omega, by rw [hE]; rfl, by simp only []; omega, .inr (by rw [hE]; show ((fsz t0 : Nat) : Int) > (q : Int); omega)⟩
  obtain ⟨m, e, hu, hm, hr, he, hlast⟩ := hpart
  obtain ⟨K1, k1⟩ := impl_Unframe_ev F
  obtain ⟨K2, k2⟩ := impl_Unframe_ev (F.extract 0 q)
  obtain ⟨K3, k3⟩ := laws_sameTexts_ev [t0, t1, t2] (by simp)
  obtain ⟨K4, k4⟩ := laws_sameTexts_ev ([t0, t1, t2].take m) (by rw [List.length_take]; simp only [List.length_cons, List.length_nil]; omega)
  have hlen : ([t0, t1, t2].take m).length = m := by rw [List.length_take]; simp only [List.length_cons, List.length_nil]; omega
  refine ⟨K1 + K2 + K3 + K4, fun k hk => ?_⟩
  have e1 : impl_Unframe.f (k + 1) F = some _ := k1 _ (by omega)
  have e2 : impl_Unframe.f k (F.extract 0 q) = some _ := k2 _ (by omega)
  have e3 : laws_sameTexts.f (k + 1) [t0, t1, t2] [t0, t1, t2] = some _ := k3 _ (by omega)
  have e4 : laws_sameTexts.f k ([t0, t1, t2].take m) ([t0, t1, t2].take m) = some _ := k4 _ (by omega)
  rw [hall] at e1
  rw [hu] at e2
  have hEl : E.length = 4 := by rw [hE]; rfl
  have hts : ([t0, t1, t2] : List ByteArray).length = 3 := rfl
  have hj : laws_FnFrames.j3 (k + 1) pl [t0, t1, t2] F E (!true) = some true := by
    simp only [laws_FnFrames.j3]
    rw [if_neg (by simp), if_pos (by omega), w64 (n := (F.size : Int) + 1) (by omega) (by omega), if_neg (by omega), hq, if_pos (by omega), if_pos (by omega), Int.toNat_natCast, e2, Option.bind_some]
    simp only [hlen]
    rw [if_pos (by omega), if_pos (by omega), if_pos (by omega), hr, if_pos rfl, if_pos he, if_pos (by omega), Int.toNat_natCast, e4, Option.bind_some, if_pos rfl]
    by_cases c : (m : Int) = 3
    · rw [if_pos c]
    · rw [if_neg c, w64 (n := (m : Int) + 1) (by omega) (by omega), if_pos (by omega), if_pos (by omega)]
      rw [decide_eq_true (hlast.resolve_left (by omega))]
  simp only [laws_FnFrames.l0]
  rw [if_neg (by omega), e1, Option.bind_some, if_pos rfl, e3, Option.bind_some]
  exact hj
theorem frames_all (pl : List Int) (hp : 0 < pl.length) (h0 : 0 ≤ rd pl 0) (t0 t1 t2 : ByteArray) (h1 : 1 ≤ t0.size ∧ t0.size ≤ 900) (h2 : 1 ≤ t1.size ∧ t1.size ≤ 900) (h3 : 1 ≤ t2.size ∧ t2.size ≤ 900) :
    ∃ K, ∀ k, K ≤ k → laws_FnFrames.j1 (k + 1 + 1 + 1 + 1 + 1 + 1) pl [t0, t1, t2] = some true := by
  have z0 := fsz_le h1.2
  have z1 := fsz_le h2.2
  have z2 := fsz_le h3.2
  have y0 : (frameT t0).size = fsz t0 := rfl
  have y1 : (frameT t1).size = fsz t1 := rfl
  have y2 : (frameT t2).size = fsz t2 := rfl
  have ye : (⟨#[]⟩ : ByteArray).size = 0 := rfl
  have hts : ([t0, t1, t2] : List ByteArray).length = 3 := rfl
  obtain ⟨K0, s0⟩ := frames_step pl [t0, t1, t2] ⟨#[]⟩ [0] 0 (by omega) h1 (by omega) (by simp) (by omega)
  obtain ⟨K1, s1⟩ := frames_step pl [t0, t1, t2] (⟨#[]⟩ ++ frameT t0) ([0] ++ [((⟨#[]⟩ ++ frameT t0 : ByteArray).size : Int)]) 1 (by omega) h2 (by rw [ByteArray.size_append]; omega) (by simp) (by omega)
  obtain ⟨K2, s2⟩ := frames_step pl [t0, t1, t2] (⟨#[]⟩ ++ frameT t0 ++ frameT t1) ([0] ++ [((⟨#[]⟩ ++ frameT t0 : ByteArray).size : Int)] ++ [((⟨#[]⟩ ++ frameT t0 ++ frameT t1 : ByteArray).size : Int)]) 2 (by omega) h3 (by rw [ByteArray.size_append, ByteArray.size_append]; omega) (by simp) (by omega)
  obtain ⟨K3, s3⟩ := frames_end pl hp h0 t0 t1 t2 (⟨#[]⟩ ++ frameT t0 ++ frameT t1 ++ frameT t2) ([0] ++ [((⟨#[]⟩ ++ frameT t0 : ByteArray).size : Int)] ++ [((⟨#[]⟩ ++ frameT t0 ++ frameT t1 : ByteArray).size : Int)] ++ [((⟨#[]⟩ ++ frameT t0 ++ frameT t1 ++ frameT t2 : ByteArray).size : Int)]) h1 h2 h3
    (by simp only [bytesOf_app, bytesOf_nil, List.nil_append, List.flatMap_cons, List.flatMap_nil, List.append_nil, List.append_assoc])
    (by simp only [ByteArray.size_append, y0, y1, y2, ye, Nat.zero_add, List.cons_append, List.nil_append])
  refine ⟨K0 + K1 + K2 + K3, fun k hk => ?_⟩
  have r0 := s0 (k + 1 + 1 + 1 + 1) (by omega)
  have r1 := s1 (k + 1 + 1 + 1) (by omega)
  have r2 := s2 (k + 1 + 1) (by omega)
  have r3 := s3 k (by omega)
  simp only [laws_FnFrames.j1]
  exact (r0.trans (r1.trans r2)).trans r3
theorem FnFrames (l0 : List Int) (_ : (l0.length ≤ 9223372036854775807 ∧ ∀ y ∈ l0, (Lit.int .u8 y).wf = true)) : ∃ k, laws_FnFrames.f k l0 = some true := by
  by_cases hbig : (l0.length : Int) > 1048576
  · refine ⟨0, ?_⟩
    simp only [laws_FnFrames.f, laws_big.f]
    rw [Option.bind_some, if_pos (by simpa using hbig)]
  · obtain ⟨pl, ⟨K1, h1⟩, hp12, hp0⟩ := spec_DrawPlaces_ev l0 (by omega)
    obtain ⟨t, K2, h2⟩ := spec_DrawHex_ev l0 (by omega)
    have hr0 : 0 ≤ rd pl 0 := by
      unfold rd
      exact hp0 _ (by rw [List.getD_eq_getElem?_getD, List.getElem?_eq_getElem (by omega : (0 : Int).toNat < pl.length)]; exact List.getElem_mem _)
    have hy : rdOf ByteArray.empty ([t, (⟨#[116, 119, 111]⟩ : ByteArray), (⟨#[116, 104, 114, 101, 101, 32, 97, 110, 100, 32, 109, 111, 114, 101]⟩ : ByteArray)] : List ByteArray) 0 = t := rfl
    by_cases c : 1 ≤ t.size ∧ t.size ≤ 900
    · obtain ⟨K3, h3⟩ := frames_all pl (by omega) hr0 t ⟨#[116, 119, 111]⟩ ⟨#[116, 104, 114, 101, 101, 32, 97, 110, 100, 32, 109, 111, 114, 101]⟩ c (by decide) (by decide)
      refine ⟨K1 + K2 + K3 + 7, ?_⟩
      generalize hk : K1 + K2 + K3 = k
      have e1 : spec_DrawPlaces.f (k + 7) l0 = some _ := h1 _ (by omega)
      have e2 : spec_DrawHex.f (k + 7) l0 = some _ := h2 _ (by omega)
      have e3 := h3 k (by omega)
      simp only [laws_FnFrames.f, laws_big.f]
      rw [Option.bind_some, if_neg (by simpa using hbig), e1, Option.bind_some, e2, Option.bind_some, Option.bind_some, hy, if_pos (by simp), if_neg (by omega), decide_eq_false (by omega)]
      simp only [laws_FnFrames.j0]
      rw [if_neg (by simp)]
      exact e3
    · obtain ⟨K3, h3⟩ := frames_all pl (by omega) hr0 ⟨#[111, 110, 101]⟩ ⟨#[116, 119, 111]⟩ ⟨#[116, 104, 114, 101, 101, 32, 97, 110, 100, 32, 109, 111, 114, 101]⟩ (by decide) (by decide) (by decide)
      refine ⟨K1 + K2 + K3 + 7, ?_⟩
      generalize hk : K1 + K2 + K3 = k
      have e1 : spec_DrawPlaces.f (k + 7) l0 = some _ := h1 _ (by omega)
      have e2 : spec_DrawHex.f (k + 7) l0 = some _ := h2 _ (by omega)
      have e3 := h3 k (by omega)
      simp only [laws_FnFrames.f, laws_big.f]
      rw [Option.bind_some, if_neg (by simpa using hbig), e1, Option.bind_some, e2, Option.bind_some, Option.bind_some, hy, if_pos (by simp)]
      by_cases c0 : (t.size : Int) = 0
      · rw [if_pos c0]
        simp only [laws_FnFrames.j0]
        rw [if_pos trivial, if_pos (by simp)]
        exact e3
      · rw [if_neg c0, decide_eq_true (by omega)]
        simp only [laws_FnFrames.j0]
        rw [if_pos trivial, if_pos (by simp)]
        exact e3

end Go.Proofs.Ytpmdcplmnipdeaa.Pure
