/- For every int, the program's SnapName returns what the reference's SnapName returns: FnExactSnapName returns true. The condition is the row's own: Go's library's tables hold what its text lays there (tied by the given ties). -/
import Derived.Test.YtpmdcplmnipdeaaDoorQFnExactSnapNamex1
namespace Go.Proofs.YtpmdcplmnipdeaaDoor.Pure
open Go.RowKit Go.Proofs.YtpmdcplmnipdeaaDoor.PFnExactSnapName Go.Proofs.YtpmdcplmnipdeaaDoorW.PrintWords Go.Proofs.YtpmdcplmnipdeaaDoorW.PrintLast Go.Proofs.YtpmdcplmnipdeaaDoorW.PrintMore

/-! ### texts as lists of bytes -/
theorem bytesOf_range (s : ByteArray) : ∀ b ∈ bytesOf s, 0 ≤ b ∧ b ≤ 255 := by
  intro b hb
  obtain ⟨u, _, rfl⟩ := List.mem_map.1 hb
  have := u.toNat_lt
  omega
theorem bytesOf_inj {s t : ByteArray} (h : bytesOf s = bytesOf t) : s = t := by
  apply ByteArray.ext
  apply Array.toList_inj.1
  unfold bytesOf at h
  refine (List.map_inj_right ?_).1 h
  intro a b hab
  exact UInt8.toNat_inj.1 (by omega)
theorem bytesOf_app (s t : ByteArray) : bytesOf (s ++ t) = bytesOf s ++ bytesOf t := by
  simp [bytesOf]
theorem bytesOf_ext (s : ByteArray) (a b : Nat) : bytesOf (s.extract a b) = ((bytesOf s).drop a).take (b - a) := by
  simp [bytesOf, List.map_take, List.map_drop]
theorem bytesOf_str (xs : List Int) (h : ∀ b ∈ xs, 0 ≤ b ∧ b ≤ 255) : bytesOf (strOfNums xs) = xs := by
  unfold bytesOf
  rw [strOfNums_data, List.map_map]
  conv => rhs; rw [← List.map_id xs]
  refine List.map_congr_left fun b hb => ?_
  have := h b hb
  simp only [Function.comp_apply, id_eq, UInt8.toNat_ofNat']
  omega
theorem str_bytesOf (s : ByteArray) : strOfNums (bytesOf s) = s := bytesOf_inj (bytesOf_str _ (bytesOf_range s))
theorem bytesOf_nil : bytesOf (⟨#[]⟩ : ByteArray) = [] := rfl
theorem toList_iff {s t : ByteArray} : s.toList = t.toList ↔ s = t := by
  constructor
  · intro h
    rw [ByteArray.toList_eq, ByteArray.toList_eq] at h
    exact ByteArray.ext (Array.toList_inj.1 h)
  · rintro rfl; rfl
theorem bt_getElem {s : ByteArray} {i : Int} (h1 : i.toNat < s.size) : (bytesOf s)[i.toNat]? = some (bt s i) := by
  rw [← rd_bytesOf]
  unfold rd
  rw [List.getD_eq_getElem?_getD, List.getElem?_eq_getElem (by rw [bytesOf_length]; exact h1)]; rfl
theorem bytesOf_drop {s : ByteArray} {i : Int} (h0 : 0 ≤ i) (h : i < (s.size : Int)) : (bytesOf s).drop i.toNat = bt s i :: (bytesOf s).drop (i + 1).toNat := by
  have hl : i.toNat < (bytesOf s).length := by rw [bytesOf_length]; omega
  rw [List.drop_eq_getElem_cons hl, show (i + 1).toNat = i.toNat + 1 by omega]
  congr 1
  have := bt_getElem (s := s) (i := i) (by omega)
  rw [List.getElem?_eq_getElem hl] at this
  exact Option.some.inj this
theorem bytesOf_drop_end {s : ByteArray} {i : Int} (h : ¬ i < (s.size : Int)) : (bytesOf s).drop i.toNat = [] := by
  apply List.drop_eq_nil_of_le
  rw [bytesOf_length]; omega
theorem extract_all (s : ByteArray) : s.extract 0 s.size = s := bytesOf_inj (by rw [bytesOf_ext, List.drop_zero, Nat.sub_zero, ← bytesOf_length, List.take_length])
theorem w64 {n : Int} (h0 : -9223372036854775808 ≤ n) (h1 : n ≤ 9223372036854775807) : wrap64 n = n := by
  unfold wrap64; omega
theorem i64wf {n : Int} (h : (Lit.int .i64 n).wf = true) : -9223372036854775808 ≤ n ∧ n ≤ 9223372036854775807 := by
  simp [Lit.wf, IntKind.min, IntKind.max, IntKind.bits, IntKind.signed] at h
  omega
theorem u32wf {n : Int} (h : (Lit.int .u32 n).wf = true) : 0 ≤ n ∧ n ≤ 4294967295 := by
  simp [Lit.wf, IntKind.min, IntKind.max, IntKind.bits, IntKind.signed] at h
  omega
theorem tmod_nat {n : Int} (h : 0 ≤ n) (m : Int) : Int.tmod n m = n % m := Int.tmod_eq_emod_of_nonneg h
theorem tdiv_nat {n : Int} (h : 0 ≤ n) (m : Int) : Int.tdiv n m = n / m := Int.tdiv_eq_ediv_of_nonneg h

/-! ### decimal numerals -/
theorem dec_lt {u : Nat} (h : u < 10) : Lib.decDigits u = [UInt8.ofNat (48 + u)] := by
  rw [Lib.decDigits, dif_pos h]
theorem dec_ge {u : Nat} (h : 10 ≤ u) : Lib.decDigits u = Lib.decDigits (u / 10) ++ [UInt8.ofNat (48 + u % 10)] := by
  rw [Lib.decDigits, dif_neg (by omega)]
theorem abs_div (n : Int) : (n.tdiv 10).natAbs = n.natAbs / 10 := by
  rw [Int.natAbs_tdiv]; rfl
theorem abs_mod (n : Int) : (n.tmod 10).natAbs = n.natAbs % 10 := by
  rw [Int.natAbs_tmod]; rfl
theorem dec_step (n : Int) (s : List UInt8) : Lib.decDigits n.natAbs ++ s = (if n.tdiv 10 = 0 then [] else Lib.decDigits (n.tdiv 10).natAbs) ++ (UInt8.ofNat (48 + n.natAbs % 10) :: s) := by
  rw [abs_div]
  by_cases hlt : n.natAbs < 10
  · have h0 : n.tdiv 10 = 0 := by
      have := abs_div n
      omega
    rw [if_pos h0, dec_lt hlt, Nat.mod_eq_of_lt hlt]; rfl
  · have h0 : n.tdiv 10 ≠ 0 := by
      intro e
      have := abs_div n
      rw [e] at this
      simp at this; omega
    rw [if_neg h0, dec_ge (by omega)]; simp
def decT (n : Int) : ByteArray := ⟨(Lib.itoa n).toArray⟩
def decJoin (b : Bool) (l : List UInt8) : ByteArray := ⟨(if b then 45 :: l else l).toArray⟩
theorem figure_data (t : Nat) (ht : t < 10) (s : ByteArray) : ((strOfNums [(48 + (t : Int)) % 256]) ++ s).data.toList = UInt8.ofNat (48 + t) :: s.data.toList := by
  rw [ByteArray.data_append, Array.toList_append, strOfNums_data]
  simp only [List.map_cons, List.map_nil, List.cons_append, List.nil_append]
  congr 2
  omega
theorem dec_len (j : Nat) : ∀ u, u < 10 ^ (j + 1) → (Lib.decDigits u).length ≤ j + 1 := by
  induction j with
  | zero => intro u h; rw [dec_lt (by simpa using h)]; simp
  | succ j ih =>
    intro u h
    by_cases hs : u < 10
    · rw [dec_lt hs]; simp
    · rw [dec_ge (by omega), List.length_append]
      have := ih (u / 10) (by rw [Nat.pow_succ] at h; omega)
      simp; omega
theorem decT_size {n : Int} (h0 : -9223372036854775808 ≤ n) (h1 : n ≤ 9223372036854775807) : (decT n).size ≤ 21 := by
  show (Lib.itoa n).toArray.size ≤ 21
  rw [List.size_toArray]
  unfold Lib.itoa
  split
  · have := dec_len 19 n.natAbs (by omega)
    simp; omega
  · have := dec_len 19 n.toNat (by omega)
    omega

theorem spec_Decimal_l0 (j : Nat) : ∀ (n : Int) (b : Bool) (s : ByteArray), n.natAbs < 10 ^ j → n.natAbs ≤ 9223372036854775808 → s.size + j + 1 ≤ 9223372036854775807 →
    Ev (fun k => spec_Decimal.l0 k n b s) (decJoin b ((if n = 0 then [] else Lib.decDigits n.natAbs) ++ s.data.toList)) := by
  induction j with
  | zero =>
    intro n b s h _ hs
    have h0 : n = 0 := by simp at h; omega
    subst h0
    refine Ev.step (f := fun _ => some (decJoin b s.data.toList)) (fun k => ?_) (by simpa using Ev.now _)
    simp only [spec_Decimal.l0]
    rw [if_pos trivial]
    cases b with
    | true =>
      rw [if_pos rfl, if_pos (by omega)]
      simp only [decJoin, if_true]
      congr 1
    | false =>
      rw [if_neg (by simp)]
      simp [decJoin]
  | succ j ih =>
    intro n b s h hm hs
    by_cases h0 : n = 0
    · subst h0
      refine Ev.step (f := fun _ => some (decJoin b s.data.toList)) (fun k => ?_) (by simpa using Ev.now _)
      simp only [spec_Decimal.l0]
      rw [if_pos trivial]
      cases b with
      | true =>
        rw [if_pos rfl, if_pos (by omega)]
        simp only [decJoin, if_true]
        congr 1
      | false =>
        rw [if_neg (by simp)]
        simp [decJoin]
    · rw [if_neg h0, dec_step]
      have ha := abs_mod n
      have hd := abs_div n
      have hlt : n.natAbs % 10 < 10 := Nat.mod_lt _ (by omega)
      have hsz : (strOfNums [(48 + ((n.natAbs % 10 : Nat) : Int)) % 256]).size = 1 := by simp [← bytesOf_length, bytesOf, strOfNums_data]
      have key := ih (n.tdiv 10) b ((strOfNums [(48 + ((n.natAbs % 10 : Nat) : Int)) % 256]) ++ s) (by rw [hd]; rw [Nat.pow_succ] at h; omega) (by omega) (by rw [ByteArray.size_append, hsz]; omega)
      rw [figure_data _ hlt] at key
      refine Ev.step (f := fun k => spec_Decimal.l0 k (n.tdiv 10) b ((strOfNums [(48 + ((n.natAbs % 10 : Nat) : Int)) % 256]) ++ s)) (fun k => ?_) key
      simp only [spec_Decimal.l0]
      rw [if_neg h0]
      have hw : wrap64 (n.tdiv 10) = n.tdiv 10 := w64 (by omega) (by omega)
      have fig : ∀ t : Int, t = ((n.natAbs % 10 : Nat) : Int) → spec_l01Figure.f t = some ((48 + ((n.natAbs % 10 : Nat) : Int)) % 256) := by
        intro t ht
        unfold spec_l01Figure.f
        rw [if_pos (by omega), w64 (by omega) (by omega), ht]
      by_cases hneg : n.tmod 10 < 0
      · rw [if_pos hneg, fig _ (by rw [w64 (by omega) (by omega)]; omega)]
        simp only [Option.bind_some]
        rw [if_pos (by rw [hsz]; omega), hw]
      · rw [if_neg hneg, fig _ (by omega)]
        simp only [Option.bind_some]
        rw [if_pos (by rw [hsz]; omega), hw]
theorem spec_Decimal_ev (n : Int) (h0 : -9223372036854775808 ≤ n) (h1 : n ≤ 9223372036854775807) : Ev (fun k => spec_Decimal.f k n) (decT n) := by
  by_cases hz : n = 0
  · subst hz
    refine ⟨0, fun k _ => ?_⟩
    simp only [spec_Decimal.f]
    rw [if_pos trivial]
    simp only [decT, Lib.itoa]
    rw [if_neg (by omega), show (0 : Int).toNat = 0 from rfl, dec_lt (by omega)]
    rfl
  · obtain ⟨K, hK⟩ := spec_Decimal_l0 20 n (decide (n < 0)) (⟨#[]⟩ : ByteArray) (by omega) (by omega) (by show 0 + 20 + 1 ≤ _; omega)
    refine ⟨K, fun k hk => ?_⟩
    simp only [spec_Decimal.f]
    rw [if_neg hz]
    refine (hK k hk).trans ?_
    rw [if_neg hz]
    congr 1
    simp only [decT, decJoin, Lib.itoa]
    by_cases hn : n < 0
    · simp [hn]
    · simp only [hn, decide_false, if_false]
      congr 2
      simp
      congr 1
      omega

theorem impl_Decimal_eq (n : Int) (h0 : -9223372036854775808 ≤ n) (h1 : n ≤ 9223372036854775807) : impl_Decimal.f n = some (decT n) := by
  show (Option.bind (if decide (-9223372036854775808 ≤ n) && decide (n ≤ 9223372036854775807) then some (decT n) else none) fun t => some t) = _
  rw [if_pos (by simp [h0, h1])]; rfl

theorem impl_in_eq (a b c : Int) : impl_in.f a b c = some (decide (b ≤ a ∧ a ≤ c)) := by
  unfold impl_in.f
  by_cases h : a ≥ b
  · rw [if_pos h]; simp [show b ≤ a from h]
  · rw [if_neg h]; simp [show ¬ b ≤ a from h]

theorem spec_l01In_eq (a b c : Int) : spec_l01In.f a b c = some (decide (b ≤ a ∧ a ≤ c)) := by
  unfold spec_l01In.f
  by_cases h : a ≥ b
  · rw [if_pos h]; simp [show b ≤ a from h]
  · rw [if_neg h]; simp [show ¬ b ≤ a from h]

theorem FnExactSnapName : laws_FnExactSnapName.Pure := by
  intro a0 hw
  obtain ⟨h0, h1⟩ := i64wf hw
  obtain ⟨K, hK⟩ := spec_Decimal_ev a0 h0 h1
  have hs := decT_size h0 h1
  refine ⟨K, ?_⟩
  have hk : spec_Decimal.f K a0 = some (decT a0) := hK K (Nat.le_refl _)
  simp only [laws_FnExactSnapName.f, spec_SnapName.f, impl_SnapName.f, spec_l01In_eq, impl_in_eq, hk, impl_Decimal_eq a0 h0 h1, Option.bind_some]
  rw [if_pos (show 1 + (decT a0).size ≤ 9223372036854775807 by omega)]
  split <;> simp

end Go.Proofs.YtpmdcplmnipdeaaDoor.Pure
