/- For every disk and every list of numbers, the program's LoseDisk returns what the reference's LoseDisk returns, in memory of its own, and leaves what it was given as it was: FnExactLoseDisk returns true. No condition. -/
import Derived.Test.YtpmdcplmnipdeaaQFnExactLoseDiskx10
namespace Go.Proofs.Ytpmdcplmnipdeaa.Pure
open Go.RowKit Go.Proofs.Ytpmdcplmnipdeaa.PFnExactLoseDisk Go.Proofs.YtpmdcplmnipdeaaW.PrintWords Go.Proofs.YtpmdcplmnipdeaaW.PrintLast Go.Proofs.YtpmdcplmnipdeaaW.PrintMore

theorem rdF (l : List S124) (i : Nat) : rd_T124 l (i : Int) = l.getD i z124 := by unfold rd_T124; rw [Int.toNat_natCast]
theorem rdF' (l : List S124) {i : Nat} (h : 0 < i) : rd_T124 l ((i : Int) - 1) = l.getD (i - 1) z124 := by unfold rd_T124; rw [show ((i : Int) - 1).toNat = i - 1 by omega]

theorem drop_getD {α : Type} {l : List α} (z : α) {i : Nat} (h : i < l.length) : l.drop i = l.getD i z :: l.drop (i + 1) := by
  rw [List.drop_eq_getElem_cons h]
  congr 1
  rw [List.getD_eq_getElem?_getD, List.getElem?_eq_getElem h]; rfl
theorem take_getD {α : Type} {l : List α} (z : α) {i : Nat} (h : i < l.length) : l.take (i + 1) = l.take i ++ [l.getD i z] := by
  rw [List.take_add_one]
  congr 1
  rw [List.getD_eq_getElem?_getD, List.getElem?_eq_getElem h]; rfl
theorem getD_mem {α : Type} {l : List α} (z : α) {i : Nat} (h : i < l.length) : l.getD i z ∈ l := by
  rw [List.getD_eq_getElem?_getD, List.getElem?_eq_getElem h]
  exact List.getElem_mem h

/-! ### texts as lists of bytes -/
theorem bytesOf_range (s : ByteArray) : ∀ b ∈ bytesOf s, 0 ≤ b ∧ b ≤ 255 := by
  intro b hb
  obtain ⟨u, _, rfl⟩ := List.mem_map.1 hb
  have := u.toNat_lt
  omega
theorem bytesOf_inj {s t : ByteArray} (h : bytesOf s = bytesOf t) : s = t := by
  apply ByteArray.ext
  apply Array.toList_inj.1
  unfold bytesOf at h
  refine (List.map_inj_right ?_).1 h
  intro a b hab
  exact UInt8.toNat_inj.1 (by omega)
theorem bytesOf_app (s t : ByteArray) : bytesOf (s ++ t) = bytesOf s ++ bytesOf t := by
  simp [bytesOf]
theorem bytesOf_ext (s : ByteArray) (a b : Nat) : bytesOf (s.extract a b) = ((bytesOf s).drop a).take (b - a) := by
  simp [bytesOf, List.map_take, List.map_drop]
theorem bytesOf_str (xs : List Int) (h : ∀ b ∈ xs, 0 ≤ b ∧ b ≤ 255) : bytesOf (strOfNums xs) = xs := by
  unfold bytesOf
  rw [strOfNums_data, List.map_map]
  conv => rhs; rw [← List.map_id xs]
  refine List.map_congr_left fun b hb => ?_
  have := h b hb
  simp only [Function.comp_apply, id_eq, UInt8.toNat_ofNat']
  omega
theorem str_bytesOf (s : ByteArray) : strOfNums (bytesOf s) = s := bytesOf_inj (bytesOf_str _ (bytesOf_range s))
theorem bytesOf_nil : bytesOf (⟨#[]⟩ : ByteArray) = [] := rfl
theorem toList_iff {s t : ByteArray} : s.toList = t.toList ↔ s = t := by
  constructor
  · intro h
    rw [ByteArray.toList_eq, ByteArray.toList_eq] at h
    exact ByteArray.ext (Array.toList_inj.1 h)
  · rintro rfl; rfl
theorem bt_getElem {s : ByteArray} {i : Int} (h1 : i.toNat < s.size) : (bytesOf s)[i.toNat]? = some (bt s i) := by
  rw [← rd_bytesOf]
  unfold rd
  rw [List.getD_eq_getElem?_getD, List.getElem?_eq_getElem (by rw [bytesOf_length]; exact h1)]; rfl
theorem bytesOf_drop {s : ByteArray} {i : Int} (h0 : 0 ≤ i) (h : i < (s.size : Int)) : (bytesOf s).drop i.toNat = bt s i :: (bytesOf s).drop (i + 1).toNat := by
  have hl : i.toNat < (bytesOf s).length := by rw [bytesOf_length]; omega
  rw [List.drop_eq_getElem_cons hl, show (i + 1).toNat = i.toNat + 1 by omega]
  congr 1
  have := bt_getElem (s := s) (i := i) (by omega)
  rw [List.getElem?_eq_getElem hl] at this
  exact Option.some.inj this
theorem bytesOf_drop_end {s : ByteArray} {i : Int} (h : ¬ i < (s.size : Int)) : (bytesOf s).drop i.toNat = [] := by
  apply List.drop_eq_nil_of_le
  rw [bytesOf_length]; omega
theorem extract_all (s : ByteArray) : s.extract 0 s.size = s := bytesOf_inj (by rw [bytesOf_ext, List.drop_zero, Nat.sub_zero, ← bytesOf_length, List.take_length])
theorem w64 {n : Int} (h0 : -9223372036854775808 ≤ n) (h1 : n ≤ 9223372036854775807) : wrap64 n = n := by
  unfold wrap64; omega
theorem i64wf {n : Int} (h : (Lit.int .i64 n).wf = true) : -9223372036854775808 ≤ n ∧ n ≤ 9223372036854775807 := by
  simp [Lit.wf, IntKind.min, IntKind.max, IntKind.bits, IntKind.signed] at h
  omega
theorem u32wf {n : Int} (h : (Lit.int .u32 n).wf = true) : 0 ≤ n ∧ n ≤ 4294967295 := by
  simp [Lit.wf, IntKind.min, IntKind.max, IntKind.bits, IntKind.signed] at h
  omega
theorem tmod_nat {n : Int} (h : 0 ≤ n) (m : Int) : Int.tmod n m = n % m := Int.tmod_eq_emod_of_nonneg h
theorem tdiv_nat {n : Int} (h : 0 ≤ n) (m : Int) : Int.tdiv n m = n / m := Int.tdiv_eq_ediv_of_nonneg h

/-- A right file. -/
def fileB (x : S124) : Bool := decide ((1 ≤ x.f0.size ∧ x.f0.size ≤ 8) ∧ x.f1.size ≤ 20000 ∧ 0 ≤ x.f2 ∧ x.f2 ≤ (x.f1.size : Int))
/-- Right files, their names rising, and above p. -/
def dkL : Option ByteArray → List S124 → Bool
  | _, [] => true
  | p, x :: xs => if fileB x = true ∧ (∀ q, p = some q → Op.bytesLess q.toList x.f0.toList = true) then dkL (some x.f0) xs else false
def diskC (l : List S124) : Bool := decide (l.length ≤ 30) && dkL none l
def prvF (l : List S124) (i : Nat) : Option ByteArray := if i = 0 then none else some (l.getD (i - 1) z124).f0
theorem prvF_succ (l : List S124) (i : Nat) : prvF l (i + 1) = some (l.getD i z124).f0 := by
  unfold prvF
  rw [if_neg (by omega), Nat.add_sub_cancel]
theorem prvF_pos {l : List S124} {i : Nat} (h : 0 < i) : prvF l i = some (l.getD (i - 1) z124).f0 := by
  unfold prvF
  rw [if_neg (by omega)]

theorem spec_l01In_eq (a b c : Int) : spec_l01In.f a b c = some (decide (b ≤ a ∧ a ≤ c)) := by
  unfold spec_l01In.f
  by_cases h : a ≥ b
  · rw [if_pos h]; simp [show b ≤ a from h]
  · rw [if_neg h]; simp [show ¬ b ≤ a from h]

theorem spec_DiskOk_l0 (l : List S124) (hl : l.length ≤ 1048576) : ∀ (d i : Nat), i + d = l.length → Ev (fun k => spec_DiskOk.l0 k (i : Int) l) (dkL (prvF l i) (l.drop i))
  | 0, i, hd => by
    refine Ev.step (f := fun _ => some true) (fun k => ?_) ?_
    · simp only [spec_DiskOk.l0]; rw [if_neg (by omega)]
    · rw [List.drop_eq_nil_of_le (by omega)]; exact Ev.now _
  | d + 1, i, hd => by
    have ih := spec_DiskOk_l0 l hl d (i + 1) (by omega)
    rw [prvF_succ] at ih
    rw [drop_getD z124 (by omega)]
    generalize hx : l.getD i z124 = x at ih ⊢
    simp only [dkL]
    have hw : wrap64 ((i : Int) + 1) = ((i + 1 : Nat) : Int) := by rw [w64 (by omega) (by omega)]; rfl
    have hw2 : wrap64 ((i : Int) - 1) = (i : Int) - 1 := w64 (by omega) (by omega)
    by_cases h1 : 1 ≤ x.f0.size ∧ x.f0.size ≤ 8
    · by_cases h2 : x.f1.size ≤ 20000
      · by_cases h3 : 0 ≤ x.f2 ∧ x.f2 ≤ (x.f1.size : Int)
        · have hf : fileB x = true := decide_eq_true ⟨h1, h2, h3⟩
          rcases Nat.eq_zero_or_pos i with h0 | h0
          · have hp : prvF l i = none := by unfold prvF; rw [if_pos h0]
            rw [if_pos ⟨hf, fun q hq => by rw [hp] at hq; cases hq⟩]
            refine Ev.step (f := fun k => spec_DiskOk.l0 k ((i + 1 : Nat) : Int) l) (fun k => ?_) ih
            simp only [spec_DiskOk.l0, spec_l03Name.f, spec_l01In_eq]
            rw [if_pos (by omega), if_pos (by omega), rdF, hx]
            simp only [Option.bind_some]
            rw [if_pos (by simp; omega), if_neg (by omega), if_pos (by simp; omega), if_neg (by omega), hw]
          · by_cases h4 : Op.bytesLess (l.getD (i - 1) z124).f0.toList x.f0.toList = true
            · rw [if_pos ⟨hf, fun q hq => by rw [prvF_pos h0] at hq; cases hq; exact h4⟩]
              refine Ev.step (f := fun k => spec_DiskOk.l0 k ((i + 1 : Nat) : Int) l) (fun k => ?_) ih
              simp only [spec_DiskOk.l0, spec_l03Name.f, spec_l01In_eq]
              rw [if_pos (by omega), if_pos (by omega), rdF, hx]
              simp only [Option.bind_some]
              rw [if_pos (by simp; omega), if_neg (by omega), if_pos (by simp; omega), if_pos (by omega), hw2, if_pos (by omega), if_pos (by omega), rdF' l h0, if_pos h4, hw]
            · rw [if_neg (fun h => h4 (h.2 _ (prvF_pos h0)))]
              refine Ev.step (f := fun _ => some false) (fun k => ?_) (Ev.now _)
              simp only [spec_DiskOk.l0, spec_l03Name.f, spec_l01In_eq]
              rw [if_pos (by omega), if_pos (by omega), rdF, hx]
              simp only [Option.bind_some]
              rw [if_pos (by simp; omega), if_neg (by omega), if_pos (by simp; omega), if_pos (by omega), hw2, if_pos (by omega), if_pos (by omega), rdF' l h0, if_neg h4]
        · rw [if_neg (fun h => h3 (of_decide_eq_true h.1).2.2)]
          refine Ev.step (f := fun _ => some false) (fun k => ?_) (Ev.now _)
          simp only [spec_DiskOk.l0, spec_l03Name.f, spec_l01In_eq]
          rw [if_pos (by omega), if_pos (by omega), rdF, hx]
          simp only [Option.bind_some]
          rw [if_pos (by simp; omega), if_neg (by omega), if_neg (by simp; omega)]
      · rw [if_neg (fun h => h2 (of_decide_eq_true h.1).2.1)]
        refine Ev.step (f := fun _ => some false) (fun k => ?_) (Ev.now _)
        simp only [spec_DiskOk.l0, spec_l03Name.f, spec_l01In_eq]
        rw [if_pos (by omega), if_pos (by omega), rdF, hx]
        simp only [Option.bind_some]
        rw [if_pos (by simp; omega), if_pos (by omega)]
    · rw [if_neg (fun h => h1 (of_decide_eq_true h.1).1)]
      refine Ev.step (f := fun _ => some false) (fun k => ?_) (Ev.now _)
      simp only [spec_DiskOk.l0, spec_l03Name.f, spec_l01In_eq]
      rw [if_pos (by omega), if_pos (by omega), rdF, hx]
      simp only [Option.bind_some]
      rw [if_neg (by simp; omega)]
theorem spec_DiskOk_ev (l : List S124) (hl : l.length ≤ 1048576) : Ev (fun k => spec_DiskOk.f k l) (diskC l) := by
  unfold diskC
  by_cases h : l.length ≤ 30
  · obtain ⟨K, hK⟩ := spec_DiskOk_l0 l hl l.length 0 (by omega)
    refine ⟨K, fun k hk => ?_⟩
    have e : spec_DiskOk.l0 k 0 l = some _ := hK k hk
    simp only [spec_DiskOk.f]
    rw [if_neg (by omega), e, decide_eq_true h]; rfl
  · refine ⟨0, fun k _ => ?_⟩
    simp only [spec_DiskOk.f]
    rw [if_pos (by omega), decide_eq_false h]; rfl

theorem impl_in_eq (a b c : Int) : impl_in.f a b c = some (decide (b ≤ a ∧ a ≤ c)) := by
  unfold impl_in.f
  by_cases h : a ≥ b
  · rw [if_pos h]; simp [show b ≤ a from h]
  · rw [if_neg h]; simp [show ¬ b ≤ a from h]

theorem impl_fileOk_eq (x : S124) : impl_fileOk.f x.f0 x.f1 x.f2 = some (fileB x) := by
  simp only [impl_fileOk.f, impl_in_eq, fileB]
  simp only [Option.bind_some]
  by_cases h1 : 1 ≤ x.f0.size ∧ x.f0.size ≤ 8
  · rw [if_pos (by simp; omega)]
    by_cases h2 : x.f1.size ≤ 20000
    · rw [if_pos (by omega)]
      congr 1
      by_cases h3 : 0 ≤ x.f2 ∧ x.f2 ≤ (x.f1.size : Int)
      · rw [decide_eq_true h3, decide_eq_true ⟨h1, h2, h3⟩]
      · rw [decide_eq_false h3, decide_eq_false (fun h => h3 h.2.2)]
    · rw [if_neg (by omega), decide_eq_false (fun h => h2 h.2.1)]
  · rw [if_neg (by simp; omega), decide_eq_false (fun h => h1 h.1)]
theorem impl_DiskOk_l0 (l : List S124) (hl : l.length ≤ 1048576) : ∀ (d i : Nat), i + d = l.length → Ev (fun k => impl_DiskOk.l0 k l (l.length : Int) (i : Int) l) (dkL (prvF l i) (l.drop i) && decide (l.length ≤ 30))
  | 0, i, hd => by
    refine Ev.step (f := fun _ => some (decide ((l.length : Int) ≤ 30))) (fun k => ?_) ?_
    · simp only [impl_DiskOk.l0]; rw [if_neg (by omega)]
    · rw [List.drop_eq_nil_of_le (by omega)]
      simp only [dkL]
      have : (true && decide (l.length ≤ 30)) = decide ((l.length : Int) ≤ 30) := by
        rw [Bool.true_and]
        by_cases h : l.length ≤ 30
        · rw [decide_eq_true h, decide_eq_true (by omega)]
        · rw [decide_eq_false h, decide_eq_false (by omega)]
      rw [this]
      exact Ev.now _
  | d + 1, i, hd => by
    have ih := impl_DiskOk_l0 l hl d (i + 1) (by omega)
    rw [prvF_succ] at ih
    rw [drop_getD z124 (by omega)]
    generalize hx : l.getD i z124 = x at ih ⊢
    simp only [dkL]
    have hw : wrap64 ((i : Int) + 1) = ((i + 1 : Nat) : Int) := by rw [w64 (by omega) (by omega)]; rfl
    have hw2 : wrap64 ((i : Int) - 1) = (i : Int) - 1 := w64 (by omega) (by omega)
    by_cases hf : fileB x = true
    · rcases Nat.eq_zero_or_pos i with h0 | h0
      · have hp : prvF l i = none := by unfold prvF; rw [if_pos h0]
        rw [if_pos ⟨hf, fun q hq => by rw [hp] at hq; cases hq⟩]
        refine Ev.step (f := fun k => impl_DiskOk.l0 k l (l.length : Int) ((i + 1 : Nat) : Int) l) (fun k => ?_) ih
        simp only [impl_DiskOk.l0]
        rw [if_pos (by omega), if_pos (by omega), if_pos (by omega), rdF, hx, impl_fileOk_eq, Option.bind_some, if_pos hf, if_neg (by omega), hw]
      · by_cases h4 : Op.bytesLess (l.getD (i - 1) z124).f0.toList x.f0.toList = true
        · rw [if_pos ⟨hf, fun q hq => by rw [prvF_pos h0] at hq; cases hq; exact h4⟩]
          refine Ev.step (f := fun k => impl_DiskOk.l0 k l (l.length : Int) ((i + 1 : Nat) : Int) l) (fun k => ?_) ih
          simp only [impl_DiskOk.l0]
          rw [if_pos (by omega), if_pos (by omega), if_pos (by omega), rdF, hx, impl_fileOk_eq, Option.bind_some, if_pos hf, if_pos (by omega), hw2, if_pos (by omega), if_pos (by omega), rdF' l h0, if_pos h4, hw]
        · rw [if_neg (fun h => h4 (h.2 _ (prvF_pos h0)))]
          refine Ev.step (f := fun _ => some false) (fun k => ?_) (Ev.now _)
          simp only [impl_DiskOk.l0]
          rw [if_pos (by omega), if_pos (by omega), if_pos (by omega), rdF, hx, impl_fileOk_eq, Option.bind_some, if_pos hf, if_pos (by omega), hw2, if_pos (by omega), if_pos (by omega), rdF' l h0, if_neg h4]
    · rw [if_neg (fun h => hf h.1)]
      refine Ev.step (f := fun _ => some false) (fun k => ?_) (Ev.now _)
      simp only [impl_DiskOk.l0]
      rw [if_pos (by omega), if_pos (by omega), if_pos (by omega), rdF, hx, impl_fileOk_eq, Option.bind_some, if_neg hf]
theorem impl_DiskOk_ev (l : List S124) (hl : l.length ≤ 1048576) : Ev (fun k => impl_DiskOk.f k l) (diskC l) := by
  have h := impl_DiskOk_l0 l hl l.length 0 (by omega)
  unfold diskC
  rw [Bool.and_comm]
  exact h

theorem drop_rd {l : List Int} {i : Nat} (h : i < l.length) : l.drop i = rd l (i : Int) :: l.drop (i + 1) := by
  rw [List.drop_eq_getElem_cons h]
  congr 1
  unfold rd
  rw [Int.toNat_natCast, List.getD_eq_getElem?_getD, List.getElem?_eq_getElem h]; rfl
theorem take_set_succ {α : Type} (l : List α) (i : Nat) (v : α) (h : i < l.length) : (l.set i v).take (i + 1) = l.take i ++ [v] := by
  rw [List.take_add_one, List.getElem?_set_self h, List.take_set_of_le (Nat.le_refl i)]; rfl
theorem take_rd {l : List Int} {i : Nat} (h : i < l.length) : l.take (i + 1) = l.take i ++ [rd l (i : Int)] := by
  rw [List.take_add_one]
  congr 1
  unfold rd
  rw [Int.toNat_natCast, List.getD_eq_getElem?_getD, List.getElem?_eq_getElem h]; rfl

/-- The figures of n, ahead of t. -/
def dgT (n : Nat) (t : ByteArray) : ByteArray := if _h : 0 < n then dgT (n / 10) (strOfNums [((48 + n % 10 : Nat) : Int)] ++ t) else t
  termination_by n
  decreasing_by omega
theorem dgT_pos {n : Nat} (h : 0 < n) (t : ByteArray) : dgT n t = dgT (n / 10) (strOfNums [((48 + n % 10 : Nat) : Int)] ++ t) := by rw [dgT, dif_pos h]
theorem dgT_zero (t : ByteArray) : dgT 0 t = t := by rw [dgT, dif_neg (by omega)]
/-- The mark of a number. -/
def mtT (n : Int) : ByteArray := if n ≤ 0 then ⟨#[109, 48]⟩ else ⟨#[109]⟩ ++ dgT n.toNat ⟨#[]⟩

def meF (k : Int) (j : Nat) : S124 := ⟨mtT (k + 3 * (j : Int)), mtT (k + 3 * (j : Int) + 1), k + 3 * (j : Int) + 2⟩
def markF (k : Int) (n : Nat) : List S124 := (List.range n).map (meF k)
theorem markF_len (k : Int) (n : Nat) : (markF k n).length = n := by simp [markF]
theorem markF_succ (k : Int) (n : Nat) : markF k (n + 1) = markF k n ++ [meF k n] := by simp [markF, List.range_succ]
theorem getD_markF {k : Int} {n i : Nat} (z : S124) (h : i < n) : (markF k n).getD i z = meF k i := by
  unfold markF
  rw [List.getD_eq_getElem?_getD, List.getElem?_map, List.getElem?_range h]; rfl
theorem getD_setF {l : List S124} {i : Nat} (v z : S124) (h : i < l.length) : (l.set i v).getD i z = v := by
  rw [List.getD_eq_getElem?_getD, List.getElem?_set_self h]; rfl

def keepN (n size kept : Int) : Int := if (if n > size then size else n) < kept then kept else (if n > size then size else n)
def leftN (left : List Int) (i : Nat) : Int := if (i : Int) < (left.length : Int) then rd left (i : Int) else 0
def loseF (left : List Int) (x : S124) (i : Nat) : S124 := ⟨x.f0, x.f1.extract 0 (keepN (leftN left i) (x.f1.size : Int) x.f2).toNat, keepN (leftN left i) (x.f1.size : Int) x.f2⟩
def loseL (left : List Int) : List S124 → Nat → List S124
  | [], _ => []
  | x :: xs, i => loseF left x i :: loseL left xs (i + 1)
theorem loseL_len (left : List Int) : ∀ (l : List S124) (i : Nat), (loseL left l i).length = l.length
  | [], _ => rfl
  | x :: xs, i => by simp [loseL, loseL_len left xs (i + 1)]
def loseC (left : List Int) (l : List S124) : List S124 × Bool := if diskC l = true then (loseL left l 0, true) else ([], false)
theorem loseC_len (left : List Int) (l : List S124) : (loseC left l).1.length ≤ l.length := by
  unfold loseC
  split
  · simp [loseL_len]
  · simp
theorem dkL_all : ∀ (l : List S124) (p : Option ByteArray), dkL p l = true → ∀ x ∈ l, fileB x = true
  | [], _, _ => by simp
  | y :: ys, p, h => by
    simp only [dkL] at h
    split at h
    · rename_i hy
      intro x hx
      rcases List.mem_cons.1 hx with rfl | hx
      · exact hy.1
      · exact dkL_all ys _ h x hx
    · cases h
theorem diskC_all {l : List S124} (h : diskC l = true) : ∀ x ∈ l, fileB x = true := by
  unfold diskC at h
  simp at h
  exact dkL_all l none h.2
theorem spec_LoseDisk_l0 (left : List Int) (hleft : left.length ≤ 9223372036854775807) (l : List S124) (hl : l.length ≤ 1048576) (hF : ∀ x ∈ l, fileB x = true) : ∀ (d i : Nat) (out : List S124), i + d = l.length → out.length = i →
    Ev (fun k => spec_LoseDisk.l0 k left (i : Int) l out) (out ++ loseL left (l.drop i) i, true)
  | 0, i, out, hd, ho => by
    refine Ev.step (f := fun _ => some (out, true)) (fun k => ?_) ?_
    · simp only [spec_LoseDisk.l0]; rw [if_neg (by omega)]
    · rw [List.drop_eq_nil_of_le (by omega)]
      simp only [loseL, List.append_nil]
      exact Ev.now _
  | d + 1, i, out, hd, ho => by
    have hx := hF _ (getD_mem z124 (show i < l.length by omega))
    have ih := spec_LoseDisk_l0 left hleft l hl hF d (i + 1) (out ++ [loseF left (l.getD i z124) i]) (by omega) (by simp; omega)
    rw [drop_getD z124 (by omega)]
    simp only [loseL]
    rw [List.append_assoc, List.singleton_append] at ih
    have hw : wrap64 ((i : Int) + 1) = ((i + 1 : Nat) : Int) := by rw [w64 (by omega) (by omega)]; rfl
    obtain ⟨_, _, h3, h4⟩ := of_decide_eq_true hx
    generalize hxx : l.getD i z124 = x at ih h3 h4 ⊢
    obtain ⟨n, hn⟩ : ∃ n, leftN left i = n := ⟨_, rfl⟩
    have hj : ∀ k, spec_LoseDisk.j1 (k + 1) left (i : Int) n l out x.f0 x.f1 x.f2 = spec_LoseDisk.l0 k left ((i + 1 : Nat) : Int) l (out ++ [loseF left x i]) := by
      intro k
      simp only [spec_LoseDisk.j1, hw, loseF, keepN, hn]
      by_cases c1 : n > (x.f1.size : Int)
      · rw [if_pos c1, if_pos c1]
        by_cases c2 : (x.f1.size : Int) < x.f2
        · omega
        · rw [if_neg c2, if_pos (by omega), if_pos (by omega), if_pos (by omega), if_neg c2]
      · rw [if_neg c1, if_neg c1]
        by_cases c2 : n < x.f2
        · rw [if_pos c2, if_pos (by omega), if_pos (by omega), if_pos (by omega), if_pos c2]
        · rw [if_neg c2, if_pos (by omega), if_pos (by omega), if_pos (by omega), if_neg c2]
    refine Ev.step (f := fun k => spec_LoseDisk.j1 k left (i : Int) n l out x.f0 x.f1 x.f2) (fun k => ?_) (Ev.step (fun k => hj k) ih)
    simp only [spec_LoseDisk.l0]
    rw [if_pos (by omega), if_pos (by omega), rdF, hxx, ← hn]
    unfold leftN
    by_cases c : (i : Int) < (left.length : Int)
    · rw [if_pos c, if_pos c]
    · rw [if_neg c, if_neg c]
theorem spec_LoseDisk_ev (left : List Int) (hleft : left.length ≤ 9223372036854775807) (l : List S124) (hl : l.length ≤ 1048576) : Ev (fun k => spec_LoseDisk.f k l left) (loseC left l) := by
  obtain ⟨K1, h1⟩ := spec_DiskOk_ev l hl
  unfold loseC
  by_cases hd : diskC l = true
  · obtain ⟨K2, h2⟩ := spec_LoseDisk_l0 left hleft l hl (diskC_all hd) l.length 0 [] (by omega) rfl
    refine ⟨max K1 K2, fun k hk => ?_⟩
    have e1 : spec_DiskOk.f k l = some _ := h1 k (by omega)
    have e2 : spec_LoseDisk.l0 k left 0 l [] = some (loseL left l 0, true) := h2 k (by omega)
    simp only [spec_LoseDisk.f, e1, Option.bind_some]
    rw [if_pos hd, if_pos hd, e2]
  · refine ⟨K1, fun k hk => ?_⟩
    have e1 : spec_DiskOk.f k l = some _ := h1 k hk
    simp only [spec_LoseDisk.f, e1, Option.bind_some]
    rw [if_neg hd, if_neg hd]
theorem mxmn {n s kept : Int} (h0 : 0 ≤ kept) (h1 : kept ≤ s) : mx (mx 0 (mn n s)) kept = keepN n s kept := by
  unfold mx mn keepN
  repeat' split
  all_goals omega
theorem mx0 {s kept : Int} (h0 : 0 ≤ kept) (h1 : kept ≤ s) : mx 0 kept = keepN 0 s kept := by
  unfold mx keepN
  repeat' split
  all_goals omega
theorem keepN_bounds {n s kept : Int} (h0 : 0 ≤ kept) (h1 : kept ≤ s) : 0 ≤ keepN n s kept ∧ keepN n s kept ≤ s := by
  unfold keepN
  repeat' split
  all_goals omega
theorem impl_LoseDisk_l0 (left : List Int) (l : List S124) (hl : l.length ≤ 1048576) (hF : ∀ x ∈ l, fileB x = true) : ∀ (d i : Nat) (x : List S124), i + d = l.length → x.length = l.length → x.drop i = l.drop i →
    Ev (fun k => impl_LoseDisk.l0 k left l (l.length : Int) (i : Int) x) (x.take i ++ loseL left (l.drop i) i, true)
  | 0, i, x, hd, hx, hr => by
    refine Ev.step (f := fun _ => some (x, true)) (fun k => ?_) ?_
    · simp only [impl_LoseDisk.l0]; rw [if_neg (by omega)]
    · rw [List.drop_eq_nil_of_le (by omega), List.take_of_length_le (by omega)]
      simp only [loseL, List.append_nil]
      exact Ev.now _
  | d + 1, i, x, hd, hx, hr => by
    have hy := hF _ (getD_mem z124 (show i < l.length by omega))
    have hxi : x.getD i z124 = l.getD i z124 := by
      have h1 := drop_getD z124 (show i < x.length by omega)
      rw [hr, drop_getD z124 (show i < l.length by omega)] at h1
      injection h1 with h1 _
      exact h1.symm
    have ih := impl_LoseDisk_l0 left l hl hF d (i + 1) (x.set i (loseF left (l.getD i z124) i)) (by omega) (by rw [List.length_set]; exact hx) (by
      rw [List.drop_set_of_lt (by omega)]
      have h1 : (x.drop i).drop 1 = (l.drop i).drop 1 := by rw [hr]
      rwa [List.drop_drop, List.drop_drop] at h1)
    rw [take_set_succ _ _ _ (by omega), List.append_assoc, List.singleton_append] at ih
    rw [drop_getD z124 (by omega)]
    simp only [loseL]
    have hw : wrap64 ((i : Int) + 1) = ((i + 1 : Nat) : Int) := by rw [w64 (by omega) (by omega)]; rfl
    obtain ⟨_, _, h3, h4⟩ := of_decide_eq_true hy
    refine Ev.step (fun k => ?_) ih
    simp only [impl_LoseDisk.l0, hw, rdF, hxi]
    rw [if_pos (by omega), if_pos (by omega), if_pos (by omega)]
    by_cases c : (i : Int) < (left.length : Int)
    · have hn : leftN left i = rd left (i : Int) := by unfold leftN; rw [if_pos c]
      rw [if_pos c, mxmn h3 h4, ← hn]
      have hb := keepN_bounds (n := leftN left i) h3 h4
      rw [if_pos hb.1, if_pos hb.2, if_pos (by omega), Option.bind_some]
      simp only [Int.toNat_natCast, List.set_set]
      rw [getD_setF _ _ (by omega)]
      rfl
    · have hn : leftN left i = 0 := by unfold leftN; rw [if_neg c]
      rw [if_neg c, show mx 0 (l.getD i z124).f2 = keepN (leftN left i) ((l.getD i z124).f1.size : Int) (l.getD i z124).f2 from by rw [hn]; exact mx0 h3 h4]
      have hb := keepN_bounds (n := leftN left i) h3 h4
      rw [if_pos hb.1, if_pos hb.2, if_pos (by omega), Option.bind_some]
      simp only [Int.toNat_natCast, List.set_set]
      rw [getD_setF _ _ (by omega)]
      rfl
theorem impl_LoseDisk_ev (left : List Int) (l : List S124) (hl : l.length ≤ 1048576) : Ev (fun k => impl_LoseDisk.f k l left) (loseC left l) := by
  obtain ⟨K1, h1⟩ := impl_DiskOk_ev l hl
  unfold loseC
  by_cases hd : diskC l = true
  · obtain ⟨K2, h2⟩ := impl_LoseDisk_l0 left l hl (diskC_all hd) l.length 0 l (by omega) rfl rfl
    refine ⟨max K1 K2, fun k hk => ?_⟩
    have e1 : impl_DiskOk.f k l = some _ := h1 k (by omega)
    have e2 : impl_LoseDisk.l0 k left l (l.length : Int) 0 l = some (loseL left l 0, true) := h2 k (by omega)
    simp only [impl_LoseDisk.f, e1, Option.bind_some, impl_cloneDisk.f, impl_File.f]
    rw [if_pos hd, if_pos (by omega), Option.bind_some, Option.bind_some, e2, if_pos hd]
  · refine ⟨K1, fun k hk => ?_⟩
    have e1 : impl_DiskOk.f k l = some _ := h1 k hk
    simp only [impl_LoseDisk.f, e1, Option.bind_some]
    rw [if_neg hd, if_neg hd]

theorem laws_szFile_eq (n t : ByteArray) (q : Int) (left : Int) (hl : 0 ≤ left) (hl2 : left ≤ 1048576) (hn : n.size ≤ 9223372036854775807) (ht : t.size ≤ 9223372036854775807) :
    laws_szFile.f n t q left = some (if left - (n.size : Int) < 0 then -1 else if left - (n.size : Int) - (t.size : Int) < 0 then -1 else left - (n.size : Int) - (t.size : Int)) := by
  simp only [laws_szFile.f]
  rw [w64 (n := left - (n.size : Int)) (by omega) (by omega)]
  by_cases h : left - (n.size : Int) < 0
  · rw [if_pos h, if_pos h]
  · rw [if_neg h, if_neg h, w64 (by omega) (by omega)]
    by_cases h2 : left - (n.size : Int) - (t.size : Int) < 0
    · rw [if_pos h2, if_pos h2]
    · rw [if_neg h2, if_neg h2]

theorem laws_szFileS_l0 (l : List S147) (hlen : l.length ≤ 1048576) (hd : ∀ y ∈ l, y.f0.size ≤ 9223372036854775807 ∧ y.f1.size ≤ 9223372036854775807) : ∀ (d i : Nat) (left : Int), i + d = l.length → 0 ≤ left → left ≤ 1048576 →
    ∃ r, Ev (fun k => laws_szFileS.l0 k l left (i : Int)) r ∧ (0 ≤ r → r ≤ left ∧ ∀ y ∈ l.drop i, (y.f0.size : Int) ≤ left ∧ (y.f1.size : Int) ≤ left)
  | 0, i, left, hi, h0, h1 => by
    refine ⟨left, ?_, fun _ => ⟨Int.le_refl _, ?_⟩⟩
    · refine Ev.step (f := fun _ => some left) (fun k => ?_) (Ev.now _)
      simp only [laws_szFileS.l0]; rw [if_neg (by omega)]
    · rw [List.drop_eq_nil_of_le (by omega)]; simp
  | d + 1, i, left, hi, h0, h1 => by
    have hm := hd _ (getD_mem z147 (l := l) (i := i) (by omega))
    have e := laws_szFile_eq (l.getD i z147).f0 (l.getD i z147).f1 (l.getD i z147).f2 left h0 h1 hm.1 hm.2
    by_cases h : left - ((l.getD i z147).f0.size : Int) < 0 ∨ left - ((l.getD i z147).f0.size : Int) - ((l.getD i z147).f1.size : Int) < 0
    · have e1 : laws_szFile.f (l.getD i z147).f0 (l.getD i z147).f1 (l.getD i z147).f2 left = some (-1) := by
        rw [e]
        rcases h with h | h
        · rw [if_pos h]
        · by_cases h2 : left - ((l.getD i z147).f0.size : Int) < 0
          · rw [if_pos h2]
          · rw [if_neg h2, if_pos h]
      refine ⟨-1, ?_, fun h => by omega⟩
      refine Ev.step (f := fun _ => some (-1)) (fun k => ?_) (Ev.now _)
      simp only [laws_szFileS.l0, rd_T147]
      rw [if_pos (by omega), if_pos (by omega), Int.toNat_natCast, e1, Option.bind_some, if_pos (by omega)]
    · rw [if_neg (fun h2 => h (.inl h2)), if_neg (fun h2 => h (.inr h2))] at e
      obtain ⟨r, ⟨K, hK⟩, hr⟩ := laws_szFileS_l0 l hlen hd d (i + 1) (left - ((l.getD i z147).f0.size : Int) - ((l.getD i z147).f1.size : Int)) (by omega) (by omega) (by omega)
      refine ⟨r, ⟨K + 1, fun k hk => ?_⟩, fun h => ?_⟩
      · obtain ⟨k, rfl⟩ : ∃ m, k = m + 1 := ⟨k - 1, by omega⟩
        have e2 : laws_szFileS.l0 k l (left - ((l.getD i z147).f0.size : Int) - ((l.getD i z147).f1.size : Int)) ((i + 1 : Nat) : Int) = some _ := hK k (by omega)
        simp only [laws_szFileS.l0, rd_T147]
        rw [if_pos (by omega), if_pos (by omega), Int.toNat_natCast, e, Option.bind_some, if_neg (by omega), w64 (by omega) (by omega), show (i : Int) + 1 = ((i + 1 : Nat) : Int) by omega, e2]
      · have h2 := hr h
        refine ⟨by omega, fun y hy => ?_⟩
        rw [drop_getD z147 (by omega)] at hy
        rcases List.mem_cons.1 hy with rfl | hy
        · omega
        · have := h2.2 y hy; omega
theorem laws_szFileS_ev (l : List S147) (hlen : l.length ≤ 9223372036854775807) (hd : ∀ y ∈ l, y.f0.size ≤ 9223372036854775807 ∧ y.f1.size ≤ 9223372036854775807) (left : Int) (h0 : 0 ≤ left) (h1 : left ≤ 1048576) :
    ∃ r, Ev (fun k => laws_szFileS.f k l left) r ∧ (0 ≤ r → r ≤ left ∧ (l.length : Int) ≤ left ∧ ∀ y ∈ l, (y.f0.size : Int) ≤ left ∧ (y.f1.size : Int) ≤ left) := by
  by_cases h : left - (l.length : Int) < 0
  · refine ⟨-1, ⟨0, fun k _ => ?_⟩, fun h => by omega⟩
    simp only [laws_szFileS.f]
    rw [w64 (by omega) (by omega), if_pos h]
  · obtain ⟨r, ⟨K, hK⟩, hr⟩ := laws_szFileS_l0 l (by omega) hd l.length 0 (left - (l.length : Int)) (by omega) (by omega) (by omega)
    refine ⟨r, ⟨K, fun k hk => ?_⟩, fun h => ?_⟩
    · have e2 : laws_szFileS.l0 k l (left - (l.length : Int)) 0 = some _ := hK k hk
      simp only [laws_szFileS.f]
      rw [w64 (by omega) (by omega), if_neg h, e2]
    · have h2 := hr h
      rw [List.drop_zero] at h2
      exact ⟨by omega, by omega, fun y hy => by have := h2.2 y hy; omega⟩

theorem laws_szDisk_ev (l : List S147) (hlen : l.length ≤ 9223372036854775807) (hd : ∀ y ∈ l, y.f0.size ≤ 9223372036854775807 ∧ y.f1.size ≤ 9223372036854775807) (left : Int) (h0 : 0 ≤ left) (h1 : left ≤ 1048576) :
    ∃ r, Ev (fun k => laws_szDisk.f k l left) r ∧ (0 ≤ r → r ≤ left ∧ (l.length : Int) ≤ left ∧ ∀ y ∈ l, (y.f0.size : Int) ≤ left ∧ (y.f1.size : Int) ≤ left) := by
  obtain ⟨r, ⟨K, hK⟩, hr⟩ := laws_szFileS_ev l hlen hd left h0 h1
  by_cases h : r < 0
  · refine ⟨-1, ⟨K, fun k hk => ?_⟩, fun h => by omega⟩
    have e : laws_szFileS.f k l left = some _ := hK k hk
    simp only [laws_szDisk.f]
    rw [e, Option.bind_some, if_pos h]
  · refine ⟨r, ⟨K, fun k hk => ?_⟩, hr⟩
    have e : laws_szFileS.f k l left = some _ := hK k hk
    simp only [laws_szDisk.f]
    rw [e, Option.bind_some, if_neg h]

def cvF (y : S147) : S124 := ⟨y.f0, y.f1, y.f2⟩
theorem laws_toFileS_l0 (l : List S147) (hl : l.length ≤ 1048576) : ∀ (d i : Nat) (x : List S124), i + d = l.length → x.length = l.length → x.take i = (l.take i).map cvF →
    Ev (fun k => laws_toFileS.l0 k l x (i : Int)) (l.map cvF)
  | 0, i, x, hd, hx, ht => by
    refine Ev.step (f := fun _ => some x) (fun k => ?_) ?_
    · simp only [laws_toFileS.l0]; rw [if_neg (by omega)]
    · have : x = l.map cvF := by rw [← List.take_of_length_le (i := i) (l := x) (by omega), ht, List.take_of_length_le (by omega)]
      rw [this]; exact Ev.now _
  | d + 1, i, x, hd, hx, ht => by
    refine Ev.step (f := fun k => laws_toFileS.l0 k l (x.set i (cvF (l.getD i z147))) ((i + 1 : Nat) : Int)) (fun k => ?_) (laws_toFileS_l0 l hl d (i + 1) _ (by omega) (by rw [List.length_set]; exact hx) ?_)
    · simp only [laws_toFileS.l0, laws_toFile.f, rd_T147]
      rw [if_pos (by omega), if_pos (by omega), Option.bind_some, if_pos (by omega), w64 (by omega) (by omega), Int.toNat_natCast]; rfl
    · rw [take_set_succ _ _ _ (by omega), ht, take_getD z147 (by omega), List.map_append]; rfl
theorem laws_toFileS_ev (l : List S147) (hl : l.length ≤ 1048576) : Ev (fun k => laws_toFileS.f k l) (l.map cvF) := by
  obtain ⟨K, hK⟩ := laws_toFileS_l0 l hl l.length 0 (List.replicate l.length z124) (by omega) (by simp) (by simp)
  refine ⟨K, fun k hk => ?_⟩
  have e : laws_toFileS.l0 k l (List.replicate l.length z124) 0 = some _ := hK k hk
  simp only [laws_toFileS.f]
  rw [if_pos (by omega), if_pos (by omega), Int.toNat_natCast, e]

theorem laws_toDisk_ev (l : List S147) (hl : l.length ≤ 1048576) : Ev (fun k => laws_toDisk.f k l) (l.map cvF) := by
  obtain ⟨K, hK⟩ := laws_toFileS_ev l hl
  refine ⟨K, fun k hk => ?_⟩
  have e : laws_toFileS.f k l = some _ := hK k hk
  simp only [laws_toDisk.f]
  rw [e, Option.bind_some]

theorem laws_eqFile_self (a b : ByteArray) (c : Int) : laws_eqFile.f a b c a b c = some true := by
  simp only [laws_eqFile.f, if_true]
theorem laws_eqFileS_l0 (l : List S124) (hl : l.length ≤ 140737488351232) : ∀ (d i : Nat), i + d = l.length → Ev (fun k => laws_eqFileS.l0 k l l (i : Int)) true
  | 0, i, hd => by
    refine Ev.step (f := fun _ => some true) (fun k => ?_) (Ev.now _)
    simp only [laws_eqFileS.l0]; rw [if_neg (by omega)]
  | d + 1, i, hd => by
    refine Ev.step (f := fun k => laws_eqFileS.l0 k l l ((i + 1 : Nat) : Int)) (fun k => ?_) (laws_eqFileS_l0 l hl d (i + 1) (by omega))
    simp only [laws_eqFileS.l0]
    rw [if_pos (by omega), if_pos (by omega), if_pos (by omega), laws_eqFile_self, Option.bind_some, if_pos rfl, w64 (by omega) (by omega)]; rfl
theorem laws_eqFileS_ev (l : List S124) (hl : l.length ≤ 140737488351232) : Ev (fun k => laws_eqFileS.f k l l) true := by
  obtain ⟨K, hK⟩ := laws_eqFileS_l0 l hl l.length 0 (by omega)
  refine ⟨K, fun k hk => ?_⟩
  have e : laws_eqFileS.l0 k l l 0 = some _ := hK k hk
  simp only [laws_eqFileS.f]
  rw [if_pos trivial, e]

theorem laws_eqDisk_ev (l : List S124) (hl : l.length ≤ 140737488351232) : Ev (fun k => laws_eqDisk.f k l l) true := by
  obtain ⟨K, hK⟩ := laws_eqFileS_ev l hl
  refine ⟨K, fun k hk => ?_⟩
  have e : laws_eqFileS.f k l l = some _ := hK k hk
  simp only [laws_eqDisk.f]
  rw [e, Option.bind_some, if_pos rfl]

theorem laws_toIntS_l0 (l : List Int) (hl : l.length ≤ 17592186043904) : ∀ (d i : Nat) (x : List Int), i + d = l.length → x.length = l.length → x.take i = l.take i →
    Ev (fun k => laws_toIntS.l0 k l x (i : Int)) l
  | 0, i, x, hd, hx, ht => by
    refine Ev.step (f := fun _ => some x) (fun k => ?_) ?_
    · simp only [laws_toIntS.l0]; rw [if_neg (by omega)]
    · have : x = l := by rw [← List.take_of_length_le (i := i) (l := x) (by omega), ht, List.take_of_length_le (by omega)]
      rw [this]; exact Ev.now _
  | d + 1, i, x, hd, hx, ht => by
    refine Ev.step (f := fun k => laws_toIntS.l0 k l (x.set i (rd l (i : Int))) ((i + 1 : Nat) : Int)) (fun k => ?_) (laws_toIntS_l0 l hl d (i + 1) _ (by omega) (by rw [List.length_set]; exact hx) ?_)
    · simp only [laws_toIntS.l0]
      rw [if_pos (by omega), if_pos (by omega), if_pos (by omega), w64 (by omega) (by omega), Int.toNat_natCast]; rfl
    · rw [take_set_succ _ _ _ (by omega), ht, take_rd (by omega)]
theorem laws_toIntS_ev (l : List Int) (hl : l.length ≤ 17592186043904) : Ev (fun k => laws_toIntS.f k l) l := by
  obtain ⟨K, hK⟩ := laws_toIntS_l0 l hl l.length 0 (List.replicate l.length 0) (by omega) (by simp) (by simp)
  refine ⟨K, fun k hk => ?_⟩
  have e : laws_toIntS.l0 k l (List.replicate l.length 0) 0 = some _ := hK k hk
  simp only [laws_toIntS.f]
  rw [if_pos (by omega), if_pos (by omega), Int.toNat_natCast, e]

theorem laws_eqIntS_l0 (l : List Int) (hl : l.length ≤ 140737488351232) : ∀ (d i : Nat), i + d = l.length → Ev (fun k => laws_eqIntS.l0 k l l (i : Int)) true
  | 0, i, hd => by
    refine Ev.step (f := fun _ => some true) (fun k => ?_) (Ev.now _)
    simp only [laws_eqIntS.l0]; rw [if_neg (by omega)]
  | d + 1, i, hd => by
    refine Ev.step (f := fun k => laws_eqIntS.l0 k l l ((i + 1 : Nat) : Int)) (fun k => ?_) (laws_eqIntS_l0 l hl d (i + 1) (by omega))
    simp only [laws_eqIntS.l0]
    rw [if_pos (by omega), if_pos (by omega), if_pos (by omega), if_pos trivial, w64 (by omega) (by omega)]; rfl
theorem laws_eqIntS_ev (l : List Int) (hl : l.length ≤ 140737488351232) : Ev (fun k => laws_eqIntS.f k l l) true := by
  obtain ⟨K, hK⟩ := laws_eqIntS_l0 l hl l.length 0 (by omega)
  refine ⟨K, fun k hk => ?_⟩
  have e : laws_eqIntS.l0 k l l 0 = some _ := hK k hk
  simp only [laws_eqIntS.f]
  rw [if_pos trivial, e]

def markI (k : Int) (n : Nat) : List Int := (List.range n).map fun (j : Nat) => k + (j : Int)
theorem markI_len (k : Int) (n : Nat) : (markI k n).length = n := by simp [markI]
theorem markI_succ (k : Int) (n : Nat) : markI k (n + 1) = markI k n ++ [k + (n : Int)] := by simp [markI, List.range_succ]
theorem rd_markI {k : Int} {n i : Nat} (h : i < n) : rd (markI k n) (i : Int) = k + (i : Int) := by
  unfold rd markI
  rw [Int.toNat_natCast, List.getD_eq_getElem?_getD, List.getElem?_map, List.getElem?_range h]; rfl

theorem laws_markIntS_l0 (k0 : Int) (n : Nat) (h0 : 0 ≤ k0) (hk : k0 + (n : Int) ≤ 4611686018427387904) : ∀ (d i : Nat) (x : List Int), i + d = n → x.length = n → x.take i = markI k0 i →
    Ev (fun k => laws_markIntS.l0 k x (k0 + (i : Int)) (i : Int)) (k0 + (n : Int), markI k0 n)
  | 0, i, x, hd, hx, ht => by
    refine Ev.step (f := fun _ => some (k0 + (i : Int), x)) (fun k => ?_) ?_
    · simp only [laws_markIntS.l0]; rw [if_neg (by omega)]
    · have e : x = markI k0 n := by rw [← List.take_of_length_le (i := i) (l := x) (by omega), ht, show i = n by omega]
      rw [e, show i = n by omega]; exact Ev.now _
  | d + 1, i, x, hd, hx, ht => by
    refine Ev.step (f := fun k => laws_markIntS.l0 k (x.set i (k0 + (i : Int))) (k0 + ((i + 1 : Nat) : Int)) ((i + 1 : Nat) : Int)) (fun k => ?_) (laws_markIntS_l0 k0 n h0 hk d (i + 1) _ (by omega) (by rw [List.length_set]; exact hx) ?_)
    · simp only [laws_markIntS.l0]
      rw [if_pos (by omega), if_pos (by omega), w64 (by omega) (by omega), w64 (by omega) (by omega), Int.toNat_natCast, show k0 + (i : Int) + 1 = k0 + ((i + 1 : Nat) : Int) by omega]; rfl
    · rw [take_set_succ _ _ _ (by omega), ht, markI_succ]
theorem laws_markIntS_ev (l : List Int) (k0 : Int) (h0 : 0 ≤ k0) (hk : k0 + (l.length : Int) ≤ 4611686018427387904) : Ev (fun k => laws_markIntS.f k l k0) (k0 + (l.length : Int), markI k0 l.length) := by
  have h := laws_markIntS_l0 k0 l.length h0 hk l.length 0 l (by omega) rfl (by simp [markI])
  rw [show k0 + ((0 : Nat) : Int) = k0 by omega] at h
  exact h

theorem laws_markText_l0 (n : Nat) : ∀ t : ByteArray, n + t.size ≤ 4611686018427387904 → Ev (fun k => laws_markText.l0 k (n : Int) t) ((⟨#[109]⟩ : ByteArray) ++ dgT n t) := by
  induction n using Nat.strongRecOn with
  | _ n ih =>
    intro t ht
    by_cases h : 0 < n
    · have hz : (strOfNums [((48 + n % 10 : Nat) : Int)]).size = 1 := by rw [strOfNums_size]; rfl
      rw [dgT_pos h]
      refine Ev.step (f := fun k => laws_markText.l0 k ((n / 10 : Nat) : Int) (strOfNums [((48 + n % 10 : Nat) : Int)] ++ t)) (fun k => ?_) (ih (n / 10) (by omega) _ (by rw [ByteArray.size_append]; omega))
      simp only [laws_markText.l0]
      rw [if_pos (by omega), Option.bind_some, tmod_nat (by omega), tdiv_nat (by omega), w64 (by omega) (by omega), w64 (by omega) (by omega), show ((48 + (n : Int) % 10) % 256) = ((48 + n % 10 : Nat) : Int) by omega, if_pos (by omega)]
      rfl
    · obtain rfl : n = 0 := by omega
      rw [dgT_zero]
      refine Ev.step (f := fun _ => some ((⟨#[109]⟩ : ByteArray) ++ t)) (fun k => ?_) (Ev.now _)
      simp only [laws_markText.l0]
      rw [if_neg (by omega), if_pos (by omega)]
theorem laws_markText_ev (n : Int) (h : n ≤ 4611686018427387904) : Ev (fun k => laws_markText.f k n) (mtT n) := by
  by_cases h0 : n ≤ 0
  · refine ⟨0, fun k _ => ?_⟩
    simp only [laws_markText.f, mtT]
    rw [if_pos h0, if_pos h0]
  · obtain ⟨K, hK⟩ := laws_markText_l0 n.toNat ⟨#[]⟩ (by show n.toNat + 0 ≤ _; omega)
    refine ⟨K, fun k hk => ?_⟩
    have e : laws_markText.l0 k (n.toNat : Int) ⟨#[]⟩ = some _ := hK k hk
    rw [Int.toNat_of_nonneg (by omega)] at e
    simp only [laws_markText.f, mtT]
    rw [if_neg h0, if_neg h0, e]

theorem laws_markFileS_l0 (k0 : Int) (n : Nat) (h0 : 0 ≤ k0) (hk : k0 + 3 * (n : Int) ≤ 4611686018427387903) : ∀ (d i : Nat) (x : List S124), i + d = n → x.length = n → x.take i = markF k0 i →
    Ev (fun k => laws_markFileS.l0 k x (k0 + 3 * (i : Int)) (i : Int)) (k0 + 3 * (n : Int), markF k0 n)
  | 0, i, x, hd, hx, ht => by
    refine Ev.step (f := fun _ => some (k0 + 3 * (i : Int), x)) (fun k => ?_) ?_
    · simp only [laws_markFileS.l0]; rw [if_neg (by omega)]
    · have e : x = markF k0 n := by rw [← List.take_of_length_le (i := i) (l := x) (by omega), ht, show i = n by omega]
      rw [e, show i = n by omega]; exact Ev.now _
  | d + 1, i, x, hd, hx, ht => by
    obtain ⟨K0, h00⟩ := laws_markText_ev (k0 + 3 * (i : Int)) (by omega)
    obtain ⟨K1, h1⟩ := laws_markText_ev (k0 + 3 * (i : Int) + 1) (by omega)
    obtain ⟨K2, h2⟩ := laws_markFileS_l0 k0 n h0 hk d (i + 1) (x.set i (meF k0 i)) (by omega) (by rw [List.length_set]; exact hx) (by rw [take_set_succ _ _ _ (by omega), ht, markF_succ])
    refine ⟨K0 + K1 + K2 + 1, fun k hk => ?_⟩
    obtain ⟨k, rfl⟩ : ∃ m, k = m + 1 := ⟨k - 1, by omega⟩
    have e0 : laws_markText.f k (k0 + 3 * (i : Int)) = some _ := h00 k (by omega)
    have e1 : laws_markText.f k (k0 + 3 * (i : Int) + 1) = some _ := h1 k (by omega)
    have e2 : laws_markFileS.l0 k (x.set i (meF k0 i)) (k0 + 3 * ((i + 1 : Nat) : Int)) ((i + 1 : Nat) : Int) = some _ := h2 k (by omega)
    simp only [laws_markFileS.l0]
    rw [if_pos (by omega), e0, Option.bind_some, if_pos (by omega), Option.bind_some]
    rw [w64 (n := k0 + 3 * (i : Int) + 1) (by omega) (by omega), e1, Option.bind_some, Option.bind_some, w64 (n := k0 + 3 * (i : Int) + 1 + 1) (by omega) (by omega), w64 (n := k0 + 3 * (i : Int) + 1 + 1 + 1) (by omega) (by omega), w64 (n := (i : Int) + 1) (by omega) (by omega)]
    simp only [rdF, Int.toNat_natCast, List.set_set]
    rw [getD_setF _ _ (by omega), getD_setF _ _ (by omega), show k0 + 3 * (i : Int) + 1 + 1 + 1 = k0 + 3 * ((i + 1 : Nat) : Int) by omega, show (i : Int) + 1 = ((i + 1 : Nat) : Int) by omega, show k0 + 3 * (i : Int) + 1 + 1 = k0 + 3 * (i : Int) + 2 by omega]
    exact e2
theorem laws_markDisk_ev (l : List S124) (k0 : Int) (h0 : 0 ≤ k0) (hk : k0 + 3 * (l.length : Int) ≤ 4611686018427387903) : Ev (fun k => laws_markDisk.f k l k0) (k0 + 3 * (l.length : Int), markF k0 l.length) := by
  have h := laws_markFileS_l0 k0 l.length h0 hk l.length 0 l (by omega) rfl (by simp [markF])
  rw [show k0 + 3 * ((0 : Nat) : Int) = k0 by omega] at h
  obtain ⟨K, hK⟩ := h
  refine ⟨K, fun k hk => ?_⟩
  have e : laws_markFileS.f k l k0 = some _ := hK k hk
  simp only [laws_markDisk.f]
  rw [e, Option.bind_some]

theorem laws_heldFileS_l0 (k0 : Int) (n : Nat) (h0 : 0 ≤ k0) (hk : k0 + 3 * (n : Int) ≤ 4611686018427387903) : ∀ (d i : Nat), i + d = n →
    Ev (fun k => laws_heldFileS.l0 k (markF k0 n) (k0 + 3 * (i : Int)) (i : Int)) (k0 + 3 * (n : Int))
  | 0, i, hd => by
    have hl := markF_len k0 n
    refine Ev.step (f := fun _ => some (k0 + 3 * (i : Int))) (fun k => ?_) ?_
    · simp only [laws_heldFileS.l0]; rw [if_neg (by omega)]
    · rw [show i = n by omega]; exact Ev.now _
  | d + 1, i, hd => by
    have hl := markF_len k0 n
    obtain ⟨K0, h00⟩ := laws_markText_ev (k0 + 3 * (i : Int)) (by omega)
    obtain ⟨K1, h1⟩ := laws_markText_ev (k0 + 3 * (i : Int) + 1) (by omega)
    obtain ⟨K2, h2⟩ := laws_heldFileS_l0 k0 n h0 hk d (i + 1) (by omega)
    refine ⟨K0 + K1 + K2 + 1, fun k hk => ?_⟩
    obtain ⟨k, rfl⟩ : ∃ m, k = m + 1 := ⟨k - 1, by omega⟩
    have e0 : laws_markText.f k (k0 + 3 * (i : Int)) = some _ := h00 k (by omega)
    have e1 : laws_markText.f k (k0 + 3 * (i : Int) + 1) = some _ := h1 k (by omega)
    have e2 : laws_heldFileS.l0 k (markF k0 n) (k0 + 3 * ((i + 1 : Nat) : Int)) ((i + 1 : Nat) : Int) = some _ := h2 k (by omega)
    simp only [laws_heldFileS.l0]
    rw [if_pos (by omega), if_pos (by omega), rdF, getD_markF _ (by omega), e0, Option.bind_some, if_pos (show (meF k0 i).f0.toList = (mtT (k0 + 3 * (i : Int))).toList from rfl), w64 (n := k0 + 3 * (i : Int) + 1) (by omega) (by omega), e1, Option.bind_some, if_pos (show (meF k0 i).f1.toList = (mtT (k0 + 3 * (i : Int) + 1)).toList from rfl), w64 (n := k0 + 3 * (i : Int) + 1 + 1) (by omega) (by omega), if_pos (show (meF k0 i).f2 = k0 + 3 * (i : Int) + 1 + 1 by show k0 + 3 * (i : Int) + 2 = _; omega), w64 (n := k0 + 3 * (i : Int) + 1 + 1 + 1) (by omega) (by omega), w64 (n := (i : Int) + 1) (by omega) (by omega), show k0 + 3 * (i : Int) + 1 + 1 + 1 = k0 + 3 * ((i + 1 : Nat) : Int) by omega, show (i : Int) + 1 = ((i + 1 : Nat) : Int) by omega, e2]
theorem laws_heldDisk_ev (k0 : Int) (n : Nat) (h0 : 0 ≤ k0) (hk : k0 + 3 * (n : Int) ≤ 4611686018427387903) : Ev (fun k => laws_heldDisk.f k (markF k0 n) k0) (k0 + 3 * (n : Int)) := by
  have h := laws_heldFileS_l0 k0 n h0 hk n 0 (by omega)
  rw [show k0 + 3 * ((0 : Nat) : Int) = k0 by omega] at h
  obtain ⟨K, hK⟩ := h
  refine ⟨K, fun k hk => ?_⟩
  have e : laws_heldFileS.f k (markF k0 n) k0 = some _ := hK k hk
  simp only [laws_heldDisk.f]
  rw [e, Option.bind_some, if_neg (by omega)]

theorem FnExactLoseDisk (l : List S147) (l1 : List Int) (g0 : (l.length ≤ 9223372036854775807 ∧ ∀ y ∈ l, y.f0.size ≤ maxLen ∧ y.f1.size ≤ maxLen ∧ (Lit.int .i64 y.f2).wf = true)) (g1 : (l1.length ≤ 9223372036854775807 ∧ ∀ y ∈ l1, (Lit.int .i64 y).wf = true)) : ∃ k, laws_FnExactLoseDisk.f k l l1 = some true := by
  by_cases hbig : (l1.length : Int) > 1048576
  · exact ⟨0, by simp only [laws_FnExactLoseDisk.f]; rw [if_pos hbig]⟩
  obtain ⟨r, ⟨K1, h1⟩, hr⟩ := laws_szDisk_ev l g0.1 (fun y hy => by have := g0.2 y hy; simp only [maxLen] at this; exact ⟨this.1, this.2.1⟩) 1048576 (by omega) (by omega)
  by_cases hneg : r < 0
  · refine ⟨K1, ?_⟩
    have e1 : laws_szDisk.f K1 l 1048576 = some _ := h1 K1 (Nat.le_refl _)
    simp only [laws_FnExactLoseDisk.f]
    rw [if_neg hbig, e1, Option.bind_some, if_pos hneg]
  · have hb := hr (by omega)
    have hlen : (l.map cvF).length ≤ 1048576 := by rw [List.length_map]; omega
    have hcl := loseC_len l1 (l.map cvF)
    obtain ⟨K2, h2⟩ := laws_toDisk_ev l (by omega)
    obtain ⟨K3, h3⟩ := laws_eqDisk_ev (l.map cvF) (by omega)
    obtain ⟨K4, h4⟩ := spec_LoseDisk_ev l1 g1.1 (l.map cvF) hlen
    obtain ⟨K5, h5⟩ := impl_LoseDisk_ev l1 (l.map cvF) hlen
    obtain ⟨K6, h6⟩ := laws_toIntS_ev l1 (by omega)
    obtain ⟨K7, h7⟩ := laws_eqIntS_ev l1 (by omega)
    obtain ⟨K8, h8⟩ := laws_markDisk_ev (l.map cvF) 1 (by omega) (by omega)
    obtain ⟨K9, h9⟩ := laws_markIntS_ev l1 (1 + 3 * ((l.map cvF).length : Int)) (by omega) (by omega)
    generalize hP : loseC l1 (l.map cvF) = P at h4 h5 hcl
    obtain ⟨ol, ob⟩ := P
    simp only at hcl
    obtain ⟨K10, h10⟩ := laws_eqDisk_ev ol (by omega)
    obtain ⟨K11, h11⟩ := laws_markDisk_ev ol 1 (by omega) (by omega)
    obtain ⟨K12, h12⟩ := laws_heldDisk_ev 1 ol.length (by omega) (by omega)
    generalize hk : K1 + K2 + K3 + K4 + K5 + K6 + K7 + K8 + K9 + K10 + K11 + K12 = k
    have hj2 : laws_FnExactLoseDisk.j2 (k + 1) (1 + 3 * (ol.length : Int)) (ob != ob) (markF 1 ol.length) = some true := by
      have e12 : laws_heldDisk.f k (markF 1 ol.length) 1 = some _ := h12 _ (by omega)
      simp only [laws_FnExactLoseDisk.j2]
      rw [if_neg (by simp), e12, Option.bind_some, if_neg (by omega), if_pos rfl]
    have hj1 : laws_FnExactLoseDisk.j1 (k + 1 + 1) l1 ob (ob != ob) l ol ol = some true := by
      have e2 : laws_toDisk.f (k + 1) l = some _ := h2 _ (by omega)
      have e5 : impl_LoseDisk.f (k + 1) (l.map cvF) l1 = some _ := h5 _ (by omega)
      have e6 : laws_toIntS.f (k + 1) l1 = some _ := h6 _ (by omega)
      have e10 : laws_eqDisk.f (k + 1) ol ol = some _ := h10 _ (by omega)
      have e11 : laws_markDisk.f (k + 1) ol 1 = some _ := h11 _ (by omega)
      have e12 : laws_heldDisk.f (k + 1) (markF 1 ol.length) 1 = some _ := h12 _ (by omega)
      simp only [laws_FnExactLoseDisk.j1]
      rw [if_neg (by simp), e11, Option.bind_some, e12, Option.bind_some, if_neg (by omega), if_pos rfl, e2, Option.bind_some, e6, Option.bind_some, e5, Option.bind_some, e10, Option.bind_some, if_pos rfl]
      exact hj2
    have hj0 : laws_FnExactLoseDisk.j0 (k + 1 + 1 + 1) l1 ob l1 ob (ob != ob) l ol (l.map cvF) ol = some true := by
      have e2 : laws_toDisk.f (k + 1 + 1) l = some _ := h2 _ (by omega)
      have e3 : laws_eqDisk.f (k + 1 + 1) (l.map cvF) (l.map cvF) = some _ := h3 _ (by omega)
      have e6 : laws_toIntS.f (k + 1 + 1) l1 = some _ := h6 _ (by omega)
      have e7 : laws_eqIntS.f (k + 1 + 1) l1 l1 = some _ := h7 _ (by omega)
      have e8 : laws_markDisk.f (k + 1 + 1) (l.map cvF) 1 = some _ := h8 _ (by omega)
      have e9 : laws_markIntS.f (k + 1 + 1) l1 (1 + 3 * ((l.map cvF).length : Int)) = some _ := h9 _ (by omega)
      have e10 : laws_eqDisk.f (k + 1 + 1) ol ol = some _ := h10 _ (by omega)
      simp only [laws_FnExactLoseDisk.j0]
      rw [if_neg (by simp), e2, Option.bind_some, e3, Option.bind_some, if_pos rfl, e6, Option.bind_some, e7, Option.bind_some, if_pos rfl, e8, Option.bind_some, e9, Option.bind_some, if_neg (by omega), e10, Option.bind_some, if_pos rfl]
      exact hj1
    refine ⟨k + 1 + 1 + 1, ?_⟩
    have e1 : laws_szDisk.f (k + 1 + 1 + 1) l 1048576 = some _ := h1 _ (by omega)
    have e2 : laws_toDisk.f (k + 1 + 1 + 1) l = some _ := h2 _ (by omega)
    have e4 : spec_LoseDisk.f (k + 1 + 1 + 1) (l.map cvF) l1 = some _ := h4 _ (by omega)
    have e5 : impl_LoseDisk.f (k + 1 + 1 + 1) (l.map cvF) l1 = some _ := h5 _ (by omega)
    have e6 : laws_toIntS.f (k + 1 + 1 + 1) l1 = some _ := h6 _ (by omega)
    have e10 : laws_eqDisk.f (k + 1 + 1 + 1) ol ol = some _ := h10 _ (by omega)
    simp only [laws_FnExactLoseDisk.f]
    rw [if_neg hbig, e1, Option.bind_some, if_neg hneg, e2, Option.bind_some, e6, Option.bind_some, e4, Option.bind_some, Option.bind_some, Option.bind_some, e5, Option.bind_some, e10, Option.bind_some, if_pos rfl]
    exact hj0

end Go.Proofs.Ytpmdcplmnipdeaa.Pure
