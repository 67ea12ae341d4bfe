/- For every log, index and entry, the program's LogPut returns what the reference's LogPut returns, and what it returns shares nothing with the log given: FnExactLogPut returns true. No condition. -/
import Derived.Test.YtpmdcplmnipdeaaQFnExactLogPutx8
namespace Go.Proofs.Ytpmdcplmnipdeaa.Pure
open Go.RowKit Go.Proofs.Ytpmdcplmnipdeaa.PFnExactLogPut Go.Proofs.YtpmdcplmnipdeaaW.PrintWords Go.Proofs.YtpmdcplmnipdeaaW.PrintLast Go.Proofs.YtpmdcplmnipdeaaW.PrintMore

theorem w64 {n : Int} (h0 : -9223372036854775808 ≤ n) (h1 : n ≤ 9223372036854775807) : wrap64 n = n := by
  unfold wrap64; omega
theorem tmod_nat {n : Int} (h : 0 ≤ n) (m : Int) : Int.tmod n m = n % m := Int.tmod_eq_emod_of_nonneg h
theorem tdiv_nat {n : Int} (h : 0 ≤ n) (m : Int) : Int.tdiv n m = n / m := Int.tdiv_eq_ediv_of_nonneg h

theorem drop_rd {l : List Int} {i : Nat} (h : i < l.length) : l.drop i = rd l (i : Int) :: l.drop (i + 1) := by
  rw [List.drop_eq_getElem_cons h]
  congr 1
  unfold rd
  rw [Int.toNat_natCast, List.getD_eq_getElem?_getD, List.getElem?_eq_getElem h]; rfl
theorem take_set_succ {α : Type} (l : List α) (i : Nat) (v : α) (h : i < l.length) : (l.set i v).take (i + 1) = l.take i ++ [v] := by
  rw [List.take_add_one, List.getElem?_set_self h, List.take_set_of_le (Nat.le_refl i)]; rfl
theorem take_rd {l : List Int} {i : Nat} (h : i < l.length) : l.take (i + 1) = l.take i ++ [rd l (i : Int)] := by
  rw [List.take_add_one]
  congr 1
  unfold rd
  rw [Int.toNat_natCast, List.getD_eq_getElem?_getD, List.getElem?_eq_getElem h]; rfl

/-- Rising, each in 1 .. 4, and above p. -/
def riseL : Int → List Int → Bool
  | _, [] => true
  | p, x :: xs => if 1 ≤ x ∧ x ≤ 4 ∧ p < x then riseL x xs else false
theorem riseL_len : ∀ (l : List Int) (p : Int), riseL p l = true → l = [] ∨ p + (l.length : Int) ≤ 4
  | [], _, _ => .inl rfl
  | x :: xs, p, h => by
    simp only [riseL] at h
    by_cases h1 : 1 ≤ x ∧ x ≤ 4 ∧ p < x
    · rw [if_pos h1] at h
      rcases riseL_len xs x h with rfl | h2
      · right; simp; omega
      · right; simp only [List.length_cons]; omega
    · rw [if_neg h1] at h; simp at h
def confC (l : List Int) : Bool := decide (1 ≤ l.length) && riseL 0 l
theorem confC_len {l : List Int} (h : confC l = true) : 1 ≤ l.length ∧ l.length ≤ 4 := by
  unfold confC at h
  simp only [Bool.and_eq_true, decide_eq_true_eq] at h
  rcases riseL_len l 0 h.2 with rfl | h2
  · simp at h
  · omega
/-- What stands ahead of place i. -/
def prv (l : List Int) (i : Nat) : Int := if i = 0 then 0 else rd l ((i : Int) - 1)
theorem prv_succ (l : List Int) (i : Nat) : prv l (i + 1) = rd l (i : Int) := by
  unfold prv
  rw [if_neg (by omega), show ((i + 1 : Nat) : Int) - 1 = (i : Int) by omega]

def rconfC (s : ByteArray) : List Int × Bool := if confC (bytesOf s) = true then (bytesOf s, true) else ([], false)
theorem take_bytes_succ {s : ByteArray} {i : Nat} (h : i < s.size) : (bytesOf s).take (i + 1) = (bytesOf s).take i ++ [bt s (i : Int)] := by
  rw [take_rd (by rw [bytesOf_length]; exact h), rd_bytesOf]

def eokC (t k : Int) (d : ByteArray) : Bool := if 0 ≤ t ∧ t ≤ 100000 then (if k = 1 then d.toList == [] else if k = 2 then (rconfC d).2 else if k = 3 then decide ((d.size : Int) ≤ 120) else false) else false
theorem drop_getD {α : Type} {l : List α} (z : α) {i : Nat} (h : i < l.length) : l.drop i = l.getD i z :: l.drop (i + 1) := by
  rw [List.drop_eq_getElem_cons h]
  congr 1
  rw [List.getD_eq_getElem?_getD, List.getElem?_eq_getElem h]; rfl
theorem take_getD {α : Type} {l : List α} (z : α) {i : Nat} (h : i < l.length) : l.take (i + 1) = l.take i ++ [l.getD i z] := by
  rw [List.take_add_one]
  congr 1
  rw [List.getD_eq_getElem?_getD, List.getElem?_eq_getElem h]; rfl
theorem getD_mem {α : Type} {l : List α} (z : α) {i : Nat} (h : i < l.length) : l.getD i z ∈ l := by
  rw [List.getD_eq_getElem?_getD, List.getElem?_eq_getElem h]
  exact List.getElem_mem h

/-- Right entries, their terms never falling, from t on. -/
def lgL : Int → List S53 → Bool
  | _, [] => true
  | t, x :: xs => if eokC x.f0 x.f1 x.f2 = true ∧ t ≤ x.f0 then lgL x.f0 xs else false
def logC (a b : Int) (l : List S53) : Bool := if (0 ≤ a ∧ a ≤ 1000000) ∧ (0 ≤ b ∧ b ≤ 100000) ∧ l.length ≤ 60 ∧ a + (l.length : Int) ≤ 1000000 then lgL b l else false
def tmL (b : Int) (l : List S53) (i : Nat) : Int := if i = 0 then b else (l.getD (i - 1) z53).f0
theorem tmL_succ (b : Int) (l : List S53) (i : Nat) : tmL b l (i + 1) = (l.getD i z53).f0 := by
  unfold tmL
  rw [if_neg (by omega), Nat.add_sub_cancel]
theorem tmL_zero (b : Int) (l : List S53) : tmL b l 0 = b := rfl

theorem spec_l01In_eq (a b c : Int) : spec_l01In.f a b c = some (decide (b ≤ a ∧ a ≤ c)) := by
  unfold spec_l01In.f
  by_cases h : a ≥ b
  · rw [if_pos h]; simp [show b ≤ a from h]
  · rw [if_neg h]; simp [show ¬ b ≤ a from h]

theorem impl_in_eq (a b c : Int) : impl_in.f a b c = some (decide (b ≤ a ∧ a ≤ c)) := by
  unfold impl_in.f
  by_cases h : a ≥ b
  · rw [if_pos h]; simp [show b ≤ a from h]
  · rw [if_neg h]; simp [show ¬ b ≤ a from h]

theorem logC_range {a b : Int} {l : List S53} (h : logC a b l = true) : 0 ≤ a ∧ a ≤ 1000000 ∧ l.length ≤ 60 := by
  unfold logC at h
  by_cases c : (0 ≤ a ∧ a ≤ 1000000) ∧ (0 ≤ b ∧ b ≤ 100000) ∧ l.length ≤ 60 ∧ a + (l.length : Int) ≤ 1000000
  · exact ⟨c.1.1, c.1.2, c.2.2.1⟩
  · rw [if_neg c] at h; cases h

/-- The entry put at an index, what stood there and behind it gone. -/
def putL (a : Int) (l : List S53) (n : Int) (e : S53) : List S53 := l.take (n - a - 1).toNat ++ [e]
def putC (a b : Int) (l : List S53) (n : Int) (e : S53) : Int × Int × List S53 × Bool := if logC a b l = true ∧ (a + 1 ≤ n ∧ n ≤ a + (l.length : Int) + 1) ∧ logC a b (putL a l n e) = true then (a, b, putL a l n e, true) else (0, 0, [], false)
theorem putL_len (a : Int) (l : List S53) (n : Int) (e : S53) : (putL a l n e).length ≤ l.length + 1 := by
  unfold putL
  rw [List.length_append, List.length_take]; simp only [List.length_cons, List.length_nil]; omega
theorem putL_mem {a : Int} {l : List S53} {n : Int} {e : S53} (hd : ∀ y ∈ l, y.f2.size ≤ 1048576) (he : e.f2.size ≤ 1048576) : ∀ y ∈ putL a l n e, y.f2.size ≤ 1048576 := by
  intro y hy
  unfold putL at hy
  rcases List.mem_append.1 hy with h | h
  · exact hd y (List.mem_of_mem_take h)
  · rw [List.mem_singleton.1 h]; exact he
theorem putC_len (a b : Int) (l : List S53) (n : Int) (e : S53) : (putC a b l n e).2.2.1.length ≤ l.length + 1 := by
  unfold putC
  split
  · exact putL_len a l n e
  · exact Nat.zero_le _

theorem rdE (l : List S53) (i : Nat) : rd_T53 l (i : Int) = l.getD i z53 := by unfold rd_T53; rw [Int.toNat_natCast]
theorem spec_l05Rise_l0 (l : List Int) (hl : l.length ≤ 140737488351232) : ∀ (d i : Nat), i + d = l.length →
    Ev (fun k => spec_l05Rise.l0 k l 1 4 (i : Int)) (riseL (prv l i) (l.drop i))
  | 0, i, hd => by
    refine Ev.step (f := fun _ => some true) (fun k => ?_) ?_
    · simp only [spec_l05Rise.l0]; rw [if_neg (by omega)]
    · rw [List.drop_eq_nil_of_le (by omega)]; exact Ev.now _
  | d + 1, i, hd => by
    have ih := spec_l05Rise_l0 l hl d (i + 1) (by omega)
    rw [prv_succ] at ih
    rw [drop_rd (by omega)]
    simp only [riseL]
    have hw : wrap64 ((i : Int) + 1) = ((i + 1 : Nat) : Int) := by rw [w64 (by omega) (by omega)]; rfl
    have hw2 : wrap64 ((i : Int) - 1) = (i : Int) - 1 := w64 (by omega) (by omega)
    by_cases h1 : 1 ≤ rd l (i : Int) ∧ rd l (i : Int) ≤ 4
    · by_cases h2 : prv l i < rd l (i : Int)
      · rw [if_pos ⟨h1.1, h1.2, h2⟩]
        refine Ev.step (f := fun k => spec_l05Rise.l0 k l 1 4 ((i + 1 : Nat) : Int)) (fun k => ?_) ih
        simp only [spec_l05Rise.l0, spec_l01In_eq]
        rw [if_pos (by omega), if_pos (by omega), Option.bind_some, if_pos (by simpa using h1), hw, hw2]
        by_cases h3 : (i : Int) > 0
        · unfold prv at h2
          rw [if_neg (by omega)] at h2
          rw [if_pos h3, if_pos (by omega), if_pos (by omega), if_neg (by omega)]
        · rw [if_neg h3]
      · rw [if_neg (fun h => h2 h.2.2)]
        refine Ev.step (f := fun _ => some false) (fun k => ?_) (Ev.now _)
        have h3 : (i : Int) > 0 := by
          rcases Nat.eq_zero_or_pos i with rfl | h3
          · rw [show prv l 0 = 0 from rfl] at h2; omega
          · omega
        unfold prv at h2
        rw [if_neg (by omega)] at h2
        simp only [spec_l05Rise.l0, spec_l01In_eq]
        rw [if_pos (by omega), if_pos (by omega), Option.bind_some, if_pos (by simpa using h1), hw2, if_pos h3, if_pos (by omega), if_pos (by omega), if_pos (by omega)]
    · rw [if_neg (fun h => h1 ⟨h.1, h.2.1⟩)]
      refine Ev.step (f := fun _ => some false) (fun k => ?_) (Ev.now _)
      simp only [spec_l05Rise.l0, spec_l01In_eq]
      rw [if_pos (by omega), if_pos (by omega), Option.bind_some, if_neg (by simpa using h1)]
theorem spec_ConfOk_ev (l : List Int) (hl : l.length ≤ 140737488351232) : Ev (fun k => spec_ConfOk.f k l) (confC l) := by
  by_cases h : 1 ≤ l.length ∧ l.length ≤ 4
  · obtain ⟨K, hK⟩ := spec_l05Rise_l0 l hl l.length 0 (by omega)
    refine ⟨K, fun k hk => ?_⟩
    have e : spec_l05Rise.l0 k l 1 4 0 = some _ := hK k hk
    simp only [spec_ConfOk.f, spec_l05Rise.f, spec_l01In_eq]
    rw [Option.bind_some, if_pos (by simp; omega), e, Option.bind_some]
    unfold confC
    rw [decide_eq_true h.1]; rfl
  · refine ⟨0, fun k _ => ?_⟩
    simp only [spec_ConfOk.f, spec_l01In_eq]
    rw [Option.bind_some, if_neg (by simp; omega)]
    cases hc : confC l with
    | false => rfl
    | true => exact absurd (confC_len hc) h

theorem spec_ReadConf_l0 (s : ByteArray) (hs : s.size ≤ 1048576) : ∀ (d i : Nat), i + d = min s.size 5 →
    Ev (fun k => spec_ReadConf.l0 k s ((bytesOf s).take i) (i : Int)) (rconfC s)
  | 0, i, hd => by
    have hbl := bytesOf_length s
    have hlen : ((bytesOf s).take i).length = i := by rw [List.length_take, bytesOf_length]; omega
    by_cases h : i < s.size
    · refine Ev.step (f := fun _ => some ([], false)) (fun k => ?_) ?_
      · simp only [spec_ReadConf.l0]; rw [if_pos (by omega), if_neg (by omega), if_neg (by omega)]
      · have : ¬ confC (bytesOf s) = true := fun h => by have := confC_len h; omega
        unfold rconfC
        rw [if_neg this]; exact Ev.now _
    · have e : (bytesOf s).take i = bytesOf s := List.take_of_length_le (by omega)
      rw [e]
      obtain ⟨K, hK⟩ := spec_ConfOk_ev (bytesOf s) (by omega)
      refine ⟨K + 1, fun k hk => ?_⟩
      obtain ⟨k, rfl⟩ : ∃ m, k = m + 1 := ⟨k - 1, by omega⟩
      have e2 : spec_ConfOk.f k (bytesOf s) = some _ := hK k (by omega)
      simp only [spec_ReadConf.l0]
      rw [if_neg (by omega), if_pos (by omega), e2, Option.bind_some]
      unfold rconfC
      by_cases hc : confC (bytesOf s) = true
      · rw [if_pos hc, if_pos hc]
      · rw [if_neg hc, if_neg hc]
  | d + 1, i, hd => by
    have hb := bt_range s (i : Int)
    have hlen : ((bytesOf s).take i).length = i := by rw [List.length_take, bytesOf_length]; omega
    refine Ev.step (f := fun k => spec_ReadConf.l0 k s ((bytesOf s).take (i + 1)) ((i + 1 : Nat) : Int)) (fun k => ?_) (spec_ReadConf_l0 s hs d (i + 1) (by omega))
    simp only [spec_ReadConf.l0]
    rw [if_pos (by omega), if_pos (by omega), if_pos (by omega), if_pos (by omega), w64 (n := bt s (i : Int)) (by omega) (by omega), w64 (by omega) (by omega), take_bytes_succ (by omega)]; rfl
theorem spec_ReadConf_ev (s : ByteArray) (hs : s.size ≤ 1048576) : Ev (fun k => spec_ReadConf.f k s) (rconfC s) :=
  spec_ReadConf_l0 s hs (min s.size 5) 0 (by omega)

theorem spec_EntryOk_ev (t k : Int) (d : ByteArray) (hd : d.size ≤ 1048576) : Ev (fun n => spec_EntryOk.f n t k d) (eokC t k d) := by
  obtain ⟨K, hK⟩ := spec_ReadConf_ev d hd
  refine ⟨K, fun n hn => ?_⟩
  have e : spec_ReadConf.f n d = some _ := hK n hn
  simp only [spec_EntryOk.f, spec_l01In_eq, eokC]
  rw [Option.bind_some]
  by_cases h : 0 ≤ t ∧ t ≤ 100000
  · rw [if_pos (by simpa using h), if_pos h]
    by_cases h1 : k = 1
    · rw [if_pos h1, if_pos h1]
    · rw [if_neg h1, if_neg h1]
      by_cases h2 : k = 2
      · rw [if_pos h2, if_pos h2, e, Option.bind_some]
      · rw [if_neg h2, if_neg h2]
        by_cases h3 : k = 3
        · rw [if_pos h3, if_pos h3]
        · rw [if_neg h3, if_neg h3]
  · rw [if_neg (by simpa using h), if_neg h]

theorem spec_LogOk_l0 (a b : Int) (l : List S53) (hl : l.length ≤ 1048576) (hd : ∀ y ∈ l, y.f2.size ≤ 1048576) : ∀ (d i : Nat), i + d = l.length → Ev (fun k => spec_LogOk.l0 k (tmL b l i) (i : Int) a b l) (lgL (tmL b l i) (l.drop i))
  | 0, i, hi => by
    refine Ev.step (f := fun _ => some true) (fun k => ?_) ?_
    · simp only [spec_LogOk.l0]; rw [if_neg (by omega)]
    · rw [List.drop_eq_nil_of_le (by omega)]; exact Ev.now _
  | d + 1, i, hi => by
    obtain ⟨K2, h2⟩ := spec_LogOk_l0 a b l hl hd d (i + 1) (by omega)
    have hm := hd _ (getD_mem z53 (l := l) (i := i) (by omega))
    obtain ⟨K1, h1⟩ := spec_EntryOk_ev (l.getD i z53).f0 (l.getD i z53).f1 (l.getD i z53).f2 hm
    rw [drop_getD z53 (by omega)]
    simp only [lgL]
    have hw : wrap64 ((i : Int) + 1) = ((i + 1 : Nat) : Int) := by rw [w64 (by omega) (by omega)]; rfl
    refine ⟨K1 + K2 + 1, fun k hk => ?_⟩
    obtain ⟨k, rfl⟩ : ∃ m, k = m + 1 := ⟨k - 1, by omega⟩
    have e1 : spec_EntryOk.f k (l.getD i z53).f0 (l.getD i z53).f1 (l.getD i z53).f2 = some _ := h1 k (by omega)
    have e2 : spec_LogOk.l0 k (tmL b l (i + 1)) ((i + 1 : Nat) : Int) a b l = some _ := h2 k (by omega)
    rw [tmL_succ] at e2
    simp only [spec_LogOk.l0]
    rw [if_pos (by omega), if_pos (by omega), rdE, e1, Option.bind_some]
    by_cases c1 : eokC (l.getD i z53).f0 (l.getD i z53).f1 (l.getD i z53).f2 = true
    · rw [if_pos c1]
      by_cases c2 : tmL b l i ≤ (l.getD i z53).f0
      · rw [if_neg (by omega), hw, e2, if_pos ⟨c1, c2⟩]
      · rw [if_pos (by omega), if_neg (fun h => c2 h.2)]
    · rw [if_neg c1, if_neg (fun h => c1 h.1)]
theorem spec_LogOk_ev (a b : Int) (l : List S53) (hl : l.length ≤ 1048576) (hd : ∀ y ∈ l, y.f2.size ≤ 1048576) : Ev (fun k => spec_LogOk.f k a b l) (logC a b l) := by
  obtain ⟨K, hK⟩ := spec_LogOk_l0 a b l hl hd l.length 0 (by omega)
  refine ⟨K + 2, fun k hk => ?_⟩
  obtain ⟨k, rfl⟩ : ∃ m, k = m + 2 := ⟨k - 2, by omega⟩
  have e : spec_LogOk.l0 k b 0 a b l = some _ := hK k (by omega)
  rw [List.drop_zero, tmL_zero] at e
  have hf : spec_LogOk.j0 (k + 1) true a b l = some false := by
    simp only [spec_LogOk.j0]; rw [if_pos trivial]
  simp only [spec_LogOk.f, spec_l01In_eq, logC]
  rw [Option.bind_some]
  by_cases h1 : 0 ≤ a ∧ a ≤ 1000000
  · rw [if_pos (by simpa using h1), Option.bind_some]
    by_cases h2 : 0 ≤ b ∧ b ≤ 100000
    · rw [if_pos (by simpa using h2)]
      by_cases h3 : l.length ≤ 60
      · rw [if_neg (by omega), w64 (by omega) (by omega)]
        by_cases h4 : a + (l.length : Int) ≤ 1000000
        · rw [decide_eq_false (by omega), if_pos ⟨h1, h2, h3, h4⟩]
          show spec_LogOk.j0 (k + 1 + 1) false a b l = _
          simp only [spec_LogOk.j0]
          rw [if_neg (by simp)]
          have e : spec_LogOk.l0 (k + 1) b 0 a b l = some _ := hK (k + 1) (by omega)
          rw [List.drop_zero, tmL_zero] at e
          exact e
        · rw [decide_eq_true (by omega), if_neg (fun h => h4 h.2.2.2)]
          simp only [spec_LogOk.j0]; rw [if_pos trivial]
      · rw [if_pos (by omega), if_neg (fun h => h3 h.2.2.1)]
        simp only [spec_LogOk.j0]; rw [if_pos trivial]
    · rw [if_neg (by simpa using h2), if_neg (fun h => h2 h.2.1)]
      simp only [spec_LogOk.j0]; rw [if_pos trivial]
  · rw [if_neg (by simpa using h1), if_neg (fun h => h1 h.1)]
    simp only [spec_LogOk.j0]; rw [if_pos trivial]

theorem spec_LogPut_ev (a b : Int) (l : List S53) (n : Int) (e : S53) (hl : l.length ≤ 1048576) (hd : ∀ y ∈ l, y.f2.size ≤ 1048576) (he : e.f2.size ≤ 1048576) : Ev (fun k => spec_LogPut.f k a b l n e.f0 e.f1 e.f2) (putC a b l n e) := by
  obtain ⟨K1, h1⟩ := spec_LogOk_ev a b l (by omega) hd
  by_cases c1 : logC a b l = true
  · obtain ⟨g0, g1, g2⟩ := logC_range c1
    obtain ⟨K2, h2⟩ := spec_LogOk_ev a b (putL a l n e) (Nat.le_trans (putL_len _ _ _ _) (by omega)) (putL_mem hd he)
    refine ⟨K1 + K2 + 1, fun k hk => ?_⟩
    obtain ⟨k, rfl⟩ : ∃ m, k = m + 1 := ⟨k - 1, by omega⟩
    have e1 : spec_LogOk.f (k + 1) a b l = some _ := h1 _ (by omega)
    have e2 : spec_LogOk.f k a b (putL a l n e) = some _ := h2 k (by omega)
    simp only [spec_LogPut.f, spec_l06Last.f, spec_l01In_eq]
    rw [e1, Option.bind_some, if_pos c1, Option.bind_some, w64 (n := a + (l.length : Int)) (by omega) (by omega), w64 (n := a + (l.length : Int) + 1) (by omega) (by omega), w64 (n := a + 1) (by omega) (by omega), Option.bind_some]
    by_cases c2 : a + 1 ≤ n ∧ n ≤ a + (l.length : Int) + 1
    · rw [decide_eq_true c2]
      show spec_LogPut.j0 (k + 1) n false a b l e.f0 e.f1 e.f2 = _
      have ht : (l.take (n - a - 1).toNat).length ≤ l.length := by rw [List.length_take]; omega
      simp only [spec_LogPut.j0]
      rw [if_neg (by simp), Option.bind_some, w64 (n := n - a) (by omega) (by omega), w64 (n := n - a - 1) (by omega) (by omega), if_pos (by omega), if_pos (by omega), Option.bind_some, if_pos (by simp only [List.length_nil]; omega), Option.bind_some, Option.bind_some, if_pos (by simp only [List.nil_append, List.length_cons, List.length_nil]; omega), Option.bind_some]
      rw [show ([] ++ l.take (n - a - 1).toNat) ++ [(⟨e.f0, e.f1, e.f2⟩ : S53)] = putL a l n e from rfl, e2, Option.bind_some]
      unfold putC
      by_cases c3 : logC a b (putL a l n e) = true
      · rw [if_pos c3, if_pos ⟨c1, c2, c3⟩]
      · rw [if_neg c3, if_neg (fun h => c3 h.2.2)]
    · rw [decide_eq_false c2]
      show spec_LogPut.j0 (k + 1) n true a b l e.f0 e.f1 e.f2 = _
      unfold putC
      rw [if_neg (fun h => c2 h.2.1)]
      simp only [spec_LogPut.j0]; rw [if_pos trivial]
  · refine ⟨K1 + 1, fun k hk => ?_⟩
    obtain ⟨k, rfl⟩ : ∃ m, k = m + 1 := ⟨k - 1, by omega⟩
    have e1 : spec_LogOk.f (k + 1) a b l = some _ := h1 _ (by omega)
    simp only [spec_LogPut.f, putC]
    rw [e1, Option.bind_some, if_neg c1, if_neg (fun h => c1 h.1)]
    simp only [spec_LogPut.j0]; rw [if_pos trivial]

theorem impl_ConfOk_l0 (l : List Int) (hl : l.length ≤ 140737488351232) : ∀ (d i : Nat), i + d = l.length →
    Ev (fun k => impl_ConfOk.l0 k l l (l.length : Int) (i : Int)) (riseL (prv l i) (l.drop i) && decide (1 ≤ l.length))
  | 0, i, hd => by
    refine Ev.step (f := fun _ => some (decide ((l.length : Int) ≥ 1))) (fun k => ?_) ?_
    · simp only [impl_ConfOk.l0]; rw [if_neg (by omega)]
    · rw [List.drop_eq_nil_of_le (by omega)]
      have : (true && decide (1 ≤ l.length)) = decide ((l.length : Int) ≥ 1) := by
        rw [Bool.true_and]
        by_cases h : 1 ≤ l.length
        · rw [decide_eq_true h, decide_eq_true (by omega)]
        · rw [decide_eq_false h, decide_eq_false (by omega)]
      simp only [riseL]
      rw [this]
      exact Ev.now _
  | d + 1, i, hd => by
    have ih := impl_ConfOk_l0 l hl d (i + 1) (by omega)
    rw [prv_succ] at ih
    rw [drop_rd (by omega)]
    simp only [riseL]
    have hw : wrap64 ((i : Int) + 1) = ((i + 1 : Nat) : Int) := by rw [w64 (by omega) (by omega)]; rfl
    have hw2 : wrap64 ((i : Int) - 1) = (i : Int) - 1 := w64 (by omega) (by omega)
    by_cases h1 : 1 ≤ rd l (i : Int) ∧ rd l (i : Int) ≤ 4
    · by_cases h2 : prv l i < rd l (i : Int)
      · rw [if_pos ⟨h1.1, h1.2, h2⟩]
        refine Ev.step (f := fun k => impl_ConfOk.l0 k l l (l.length : Int) ((i + 1 : Nat) : Int)) (fun k => ?_) ih
        simp only [impl_ConfOk.l0, impl_in_eq]
        rw [if_pos (by omega), if_pos (by omega), if_pos (by omega), Option.bind_some, if_pos (by simpa using h1), hw, hw2]
        by_cases h3 : (i : Int) > 0
        · unfold prv at h2
          rw [if_neg (by omega)] at h2
          rw [if_pos h3, if_pos (by omega), if_pos (by omega), if_neg (by omega)]
        · rw [if_neg h3]
      · rw [if_neg (fun h => h2 h.2.2)]
        refine Ev.step (f := fun _ => some false) (fun k => ?_) (Ev.now _)
        have h3 : (i : Int) > 0 := by
          rcases Nat.eq_zero_or_pos i with rfl | h3
          · rw [show prv l 0 = 0 from rfl] at h2; omega
          · omega
        unfold prv at h2
        rw [if_neg (by omega)] at h2
        simp only [impl_ConfOk.l0, impl_in_eq]
        rw [if_pos (by omega), if_pos (by omega), if_pos (by omega), Option.bind_some, if_pos (by simpa using h1), hw2, if_pos h3, if_pos (by omega), if_pos (by omega), if_pos (by omega)]
    · rw [if_neg (fun h => h1 ⟨h.1, h.2.1⟩)]
      refine Ev.step (f := fun _ => some false) (fun k => ?_) (Ev.now _)
      simp only [impl_ConfOk.l0, impl_in_eq]
      rw [if_pos (by omega), if_pos (by omega), if_pos (by omega), Option.bind_some, if_neg (by simpa using h1)]
theorem impl_ConfOk_ev (l : List Int) (hl : l.length ≤ 140737488351232) : Ev (fun k => impl_ConfOk.f k l) (confC l) := by
  have h := impl_ConfOk_l0 l hl l.length 0 (by omega)
  unfold confC
  rw [Bool.and_comm]
  exact h

theorem impl_ReadConf_l0 (s : ByteArray) (hs : s.size ≤ 1048576) : ∀ (d i : Nat), i + d = s.size →
    Ev (fun k => impl_ReadConf.l0 k s ((bytesOf s).take i) (s.size : Int) (i : Int)) (rconfC s)
  | 0, i, hd => by
    have hbl := bytesOf_length s
    have e : (bytesOf s).take i = bytesOf s := List.take_of_length_le (by omega)
    rw [e]
    obtain ⟨K, hK⟩ := impl_ConfOk_ev (bytesOf s) (by omega)
    refine ⟨K + 1, fun k hk => ?_⟩
    obtain ⟨k, rfl⟩ : ∃ m, k = m + 1 := ⟨k - 1, by omega⟩
    have e2 : impl_ConfOk.f k (bytesOf s) = some _ := hK k (by omega)
    simp only [impl_ReadConf.l0]
    rw [if_neg (by omega), e2, Option.bind_some]
    unfold rconfC
    by_cases hc : confC (bytesOf s) = true
    · rw [if_pos hc, if_pos hc]
    · rw [if_neg hc, if_neg hc]
  | d + 1, i, hd => by
    have hb := bt_range s (i : Int)
    have hlen : ((bytesOf s).take i).length = i := by rw [List.length_take, bytesOf_length]; omega
    refine Ev.step (f := fun k => impl_ReadConf.l0 k s ((bytesOf s).take (i + 1)) (s.size : Int) ((i + 1 : Nat) : Int)) (fun k => ?_) (impl_ReadConf_l0 s hs d (i + 1) (by omega))
    simp only [impl_ReadConf.l0]
    rw [if_pos (by omega), if_pos (by omega), if_pos (by omega), if_pos (by omega), w64 (n := bt s (i : Int)) (by omega) (by omega), w64 (by omega) (by omega), take_bytes_succ (by omega)]; rfl
theorem impl_ReadConf_ev (s : ByteArray) (hs : s.size ≤ 1048576) : Ev (fun k => impl_ReadConf.f k s) (rconfC s) :=
  impl_ReadConf_l0 s hs s.size 0 (by omega)

theorem impl_EntryOk_ev (t k : Int) (d : ByteArray) (hd : d.size ≤ 1048576) : Ev (fun n => impl_EntryOk.f n t k d) (eokC t k d) := by
  obtain ⟨K, hK⟩ := impl_ReadConf_ev d hd
  refine ⟨K, fun n hn => ?_⟩
  have e : impl_ReadConf.f n d = some _ := hK n hn
  simp only [impl_EntryOk.f, impl_in_eq, eokC]
  rw [Option.bind_some]
  by_cases h : 0 ≤ t ∧ t ≤ 100000
  · rw [if_pos (by simpa using h), if_pos h]
    by_cases h1 : k = 1
    · rw [if_pos h1, if_pos h1]
    · rw [if_neg h1, if_neg h1]
      by_cases h2 : k = 2
      · rw [if_pos h2, if_pos h2, e, Option.bind_some]
      · rw [if_neg h2, if_neg h2]
        by_cases h3 : k = 3
        · rw [if_pos h3, if_pos h3]
        · rw [if_neg h3, if_neg h3]
  · rw [if_neg (by simpa using h), if_neg h]

theorem impl_LogOk_l0 (b : Int) (l : List S53) (hl : l.length ≤ 1048576) (hd : ∀ y ∈ l, y.f2.size ≤ 1048576) : ∀ (d i : Nat), i + d = l.length → Ev (fun k => impl_LogOk.l0 k (tmL b l i) l (l.length : Int) (i : Int)) (lgL (tmL b l i) (l.drop i))
  | 0, i, hi => by
    refine Ev.step (f := fun _ => some true) (fun k => ?_) ?_
    · simp only [impl_LogOk.l0]; rw [if_neg (by omega)]
    · rw [List.drop_eq_nil_of_le (by omega)]; exact Ev.now _
  | d + 1, i, hi => by
    obtain ⟨K2, h2⟩ := impl_LogOk_l0 b l hl hd d (i + 1) (by omega)
    have hm := hd _ (getD_mem z53 (l := l) (i := i) (by omega))
    obtain ⟨K1, h1⟩ := impl_EntryOk_ev (l.getD i z53).f0 (l.getD i z53).f1 (l.getD i z53).f2 hm
    rw [drop_getD z53 (by omega)]
    simp only [lgL]
    have hw : wrap64 ((i : Int) + 1) = ((i + 1 : Nat) : Int) := by rw [w64 (by omega) (by omega)]; rfl
    refine ⟨K1 + K2 + 1, fun k hk => ?_⟩
    obtain ⟨k, rfl⟩ : ∃ m, k = m + 1 := ⟨k - 1, by omega⟩
    have e1 : impl_EntryOk.f k (l.getD i z53).f0 (l.getD i z53).f1 (l.getD i z53).f2 = some _ := h1 k (by omega)
    have e2 : impl_LogOk.l0 k (tmL b l (i + 1)) l (l.length : Int) ((i + 1 : Nat) : Int) = some _ := h2 k (by omega)
    rw [tmL_succ] at e2
    simp only [impl_LogOk.l0]
    rw [if_pos (by omega), if_pos (by omega), if_pos (by omega), rdE, e1, Option.bind_some]
    by_cases c1 : eokC (l.getD i z53).f0 (l.getD i z53).f1 (l.getD i z53).f2 = true
    · rw [if_pos c1]
      by_cases c2 : tmL b l i ≤ (l.getD i z53).f0
      · rw [if_neg (by omega), hw, e2, if_pos ⟨c1, c2⟩]
      · rw [if_pos (by omega), if_neg (fun h => c2 h.2)]
    · rw [if_neg c1, if_neg (fun h => c1 h.1)]
theorem impl_LogOk_ev (a b : Int) (l : List S53) (hl : l.length ≤ 1048576) (hd : ∀ y ∈ l, y.f2.size ≤ 1048576) : Ev (fun k => impl_LogOk.f k a b l) (logC a b l) := by
  obtain ⟨K, hK⟩ := impl_LogOk_l0 b l hl hd l.length 0 (by omega)
  refine ⟨K + 2, fun k hk => ?_⟩
  obtain ⟨k, rfl⟩ : ∃ m, k = m + 2 := ⟨k - 2, by omega⟩
  have e : impl_LogOk.l0 k b l (l.length : Int) 0 = some _ := hK k (by omega)
  rw [List.drop_zero, tmL_zero] at e
  have hf : impl_LogOk.j0 (k + 1) true a b l = some false := by
    simp only [impl_LogOk.j0]; rw [if_pos trivial]
  simp only [impl_LogOk.f, impl_in_eq, logC]
  rw [Option.bind_some]
  by_cases h1 : 0 ≤ a ∧ a ≤ 1000000
  · rw [if_pos (by simpa using h1), Option.bind_some]
    by_cases h2 : 0 ≤ b ∧ b ≤ 100000
    · rw [if_pos (by simpa using h2)]
      by_cases h3 : l.length ≤ 60
      · rw [if_neg (by omega), w64 (by omega) (by omega)]
        by_cases h4 : a + (l.length : Int) ≤ 1000000
        · rw [decide_eq_false (by omega), if_pos ⟨h1, h2, h3, h4⟩]
          show impl_LogOk.j0 (k + 1 + 1) false a b l = _
          simp only [impl_LogOk.j0]
          rw [if_neg (by simp)]
          have e : impl_LogOk.l0 (k + 1) b l (l.length : Int) 0 = some _ := hK (k + 1) (by omega)
          rw [List.drop_zero, tmL_zero] at e
          exact e
        · rw [decide_eq_true (by omega), if_neg (fun h => h4 h.2.2.2)]
          simp only [impl_LogOk.j0]; rw [if_pos trivial]
      · rw [if_pos (by omega), if_neg (fun h => h3 h.2.2.1)]
        simp only [impl_LogOk.j0]; rw [if_pos trivial]
    · rw [if_neg (by simpa using h2), if_neg (fun h => h2 h.2.1)]
      simp only [impl_LogOk.j0]; rw [if_pos trivial]
  · rw [if_neg (by simpa using h1), if_neg (fun h => h1 h.1)]
    simp only [impl_LogOk.j0]; rw [if_pos trivial]

theorem impl_LogPut_ev (a b : Int) (l : List S53) (n : Int) (e : S53) (hl : l.length ≤ 1048576) (hd : ∀ y ∈ l, y.f2.size ≤ 1048576) (he : e.f2.size ≤ 1048576) : Ev (fun k => impl_LogPut.f k a b l n e.f0 e.f1 e.f2) (putC a b l n e) := by
  obtain ⟨K1, h1⟩ := impl_LogOk_ev a b l (by omega) hd
  by_cases c1 : logC a b l = true
  · obtain ⟨g0, g1, g2⟩ := logC_range c1
    obtain ⟨K2, h2⟩ := impl_LogOk_ev a b (putL a l n e) (Nat.le_trans (putL_len _ _ _ _) (by omega)) (putL_mem hd he)
    refine ⟨K1 + K2 + 1, fun k hk => ?_⟩
    obtain ⟨k, rfl⟩ : ∃ m, k = m + 1 := ⟨k - 1, by omega⟩
    have e1 : impl_LogOk.f (k + 1) a b l = some _ := h1 _ (by omega)
    have e2 : impl_LogOk.f k a b (putL a l n e) = some _ := h2 k (by omega)
    simp only [impl_LogPut.f, impl_lastOf.f, impl_in_eq]
    rw [e1, Option.bind_some, if_pos c1, Option.bind_some, w64 (n := a + (l.length : Int)) (by omega) (by omega), w64 (n := a + (l.length : Int) + 1) (by omega) (by omega), w64 (n := a + 1) (by omega) (by omega), Option.bind_some]
    by_cases c2 : a + 1 ≤ n ∧ n ≤ a + (l.length : Int) + 1
    · rw [decide_eq_true c2]
      show impl_LogPut.j0 (k + 1) n false a b l e.f0 e.f1 e.f2 = _
      have ht : (l.take (n - a - 1).toNat).length ≤ l.length := by rw [List.length_take]; omega
      simp only [impl_LogPut.j0, impl_cloneLog.f, impl_Entry.f]
      rw [if_neg (by simp), if_pos (show l.length < 4398046511104 by omega), Option.bind_some, Option.bind_some, w64 (n := n - a) (by omega) (by omega), w64 (n := n - a - 1) (by omega) (by omega), if_pos (by omega)]
      dsimp only
      rw [if_pos (by omega), Option.bind_some, if_pos (by omega), Option.bind_some]
      rw [show l.take (n - a - 1).toNat ++ [(⟨e.f0, e.f1, e.f2⟩ : S53)] = putL a l n e from rfl, e2, Option.bind_some]
      unfold putC
      by_cases c3 : logC a b (putL a l n e) = true
      · rw [if_pos c3, if_pos ⟨c1, c2, c3⟩]
      · rw [if_neg c3, if_neg (fun h => c3 h.2.2)]
    · rw [decide_eq_false c2]
      show impl_LogPut.j0 (k + 1) n true a b l e.f0 e.f1 e.f2 = _
      unfold putC
      rw [if_neg (fun h => c2 h.2.1)]
      simp only [impl_LogPut.j0]; rw [if_pos trivial]
  · refine ⟨K1 + 1, fun k hk => ?_⟩
    obtain ⟨k, rfl⟩ : ∃ m, k = m + 1 := ⟨k - 1, by omega⟩
    have e1 : impl_LogOk.f (k + 1) a b l = some _ := h1 _ (by omega)
    simp only [impl_LogPut.f, putC]
    rw [e1, Option.bind_some, if_neg c1, if_neg (fun h => c1 h.1)]
    simp only [impl_LogPut.j0]; rw [if_pos trivial]

theorem laws_szEntry_eq (t k : Int) (d : ByteArray) (left : Int) (hl : 0 ≤ left) (hl2 : left ≤ 1048576) (hd : d.size ≤ 9223372036854775807) :
    laws_szEntry.f t k d left = some (if left - (d.size : Int) < 0 then -1 else left - (d.size : Int)) := by
  simp only [laws_szEntry.f]
  rw [w64 (by omega) (by omega)]
  by_cases h : left - (d.size : Int) < 0
  · rw [if_pos h, if_pos h]
  · rw [if_neg h, if_neg h]

theorem laws_szEntryS_l0 (l : List S83) (hlen : l.length ≤ 1048576) (hd : ∀ y ∈ l, y.f2.size ≤ 9223372036854775807) : ∀ (d i : Nat) (left : Int), i + d = l.length → 0 ≤ left → left ≤ 1048576 →
    ∃ r, Ev (fun k => laws_szEntryS.l0 k l left (i : Int)) r ∧ (0 ≤ r → r ≤ left ∧ ∀ y ∈ l.drop i, (y.f2.size : Int) ≤ left)
  | 0, i, left, hi, h0, h1 => by
    refine ⟨left, ?_, fun _ => ⟨Int.le_refl _, ?_⟩⟩
    · refine Ev.step (f := fun _ => some left) (fun k => ?_) (Ev.now _)
      simp only [laws_szEntryS.l0]; rw [if_neg (by omega)]
    · rw [List.drop_eq_nil_of_le (by omega)]; simp
  | d + 1, i, left, hi, h0, h1 => by
    have hm := hd _ (getD_mem z83 (l := l) (i := i) (by omega))
    have e := laws_szEntry_eq (l.getD i z83).f0 (l.getD i z83).f1 (l.getD i z83).f2 left h0 h1 hm
    by_cases h : left - ((l.getD i z83).f2.size : Int) < 0
    · rw [if_pos h] at e
      refine ⟨-1, ?_, fun h => by omega⟩
      refine Ev.step (f := fun _ => some (-1)) (fun k => ?_) (Ev.now _)
      simp only [laws_szEntryS.l0, rd_T83]
      rw [if_pos (by omega), if_pos (by omega), Int.toNat_natCast, e, Option.bind_some, if_pos (by omega)]
    · rw [if_neg h] at e
      obtain ⟨r, ⟨K, hK⟩, hr⟩ := laws_szEntryS_l0 l hlen hd d (i + 1) (left - ((l.getD i z83).f2.size : Int)) (by omega) (by omega) (by omega)
      refine ⟨r, ⟨K + 1, fun k hk => ?_⟩, fun h => ?_⟩
      · obtain ⟨k, rfl⟩ : ∃ m, k = m + 1 := ⟨k - 1, by omega⟩
        have e2 : laws_szEntryS.l0 k l (left - ((l.getD i z83).f2.size : Int)) ((i + 1 : Nat) : Int) = some _ := hK k (by omega)
        simp only [laws_szEntryS.l0, rd_T83]
        rw [if_pos (by omega), if_pos (by omega), Int.toNat_natCast, e, Option.bind_some, if_neg (by omega), w64 (by omega) (by omega), show (i : Int) + 1 = ((i + 1 : Nat) : Int) by omega, e2]
      · have h2 := hr h
        refine ⟨by omega, fun y hy => ?_⟩
        rw [drop_getD z83 (by omega)] at hy
        rcases List.mem_cons.1 hy with rfl | hy
        · omega
        · have := h2.2 y hy; omega
theorem laws_szEntryS_ev (l : List S83) (hlen : l.length ≤ 9223372036854775807) (hd : ∀ y ∈ l, y.f2.size ≤ 9223372036854775807) (left : Int) (h0 : 0 ≤ left) (h1 : left ≤ 1048576) :
    ∃ r, Ev (fun k => laws_szEntryS.f k l left) r ∧ (0 ≤ r → r ≤ left ∧ (l.length : Int) ≤ left ∧ ∀ y ∈ l, (y.f2.size : Int) ≤ left) := by
  by_cases h : left - (l.length : Int) < 0
  · refine ⟨-1, ⟨0, fun k _ => ?_⟩, fun h => by omega⟩
    simp only [laws_szEntryS.f]
    rw [w64 (by omega) (by omega), if_pos h]
  · obtain ⟨r, ⟨K, hK⟩, hr⟩ := laws_szEntryS_l0 l (by omega) hd l.length 0 (left - (l.length : Int)) (by omega) (by omega) (by omega)
    refine ⟨r, ⟨K, fun k hk => ?_⟩, fun h => ?_⟩
    · have e2 : laws_szEntryS.l0 k l (left - (l.length : Int)) 0 = some _ := hK k hk
      simp only [laws_szEntryS.f]
      rw [w64 (by omega) (by omega), if_neg h, e2]
    · have h2 := hr h
      rw [List.drop_zero] at h2
      exact ⟨by omega, by omega, fun y hy => by have := h2.2 y hy; omega⟩

theorem laws_szLog_ev (a b : Int) (l : List S83) (hlen : l.length ≤ 9223372036854775807) (hd : ∀ y ∈ l, y.f2.size ≤ 9223372036854775807) (left : Int) (h0 : 0 ≤ left) (h1 : left ≤ 1048576) :
    ∃ r, Ev (fun k => laws_szLog.f k a b l left) r ∧ (0 ≤ r → r ≤ left ∧ (l.length : Int) ≤ left ∧ ∀ y ∈ l, (y.f2.size : Int) ≤ left) := by
  obtain ⟨r, ⟨K, hK⟩, hr⟩ := laws_szEntryS_ev l hlen hd left h0 h1
  by_cases h : r < 0
  · refine ⟨-1, ⟨K, fun k hk => ?_⟩, fun h => by omega⟩
    have e : laws_szEntryS.f k l left = some _ := hK k hk
    simp only [laws_szLog.f]
    rw [e, Option.bind_some, if_pos h]
  · refine ⟨r, ⟨K, fun k hk => ?_⟩, hr⟩
    have e : laws_szEntryS.f k l left = some _ := hK k hk
    simp only [laws_szLog.f]
    rw [e, Option.bind_some, if_neg h]

def cvE (y : S83) : S53 := ⟨y.f0, y.f1, y.f2⟩
theorem laws_toEntryS_l0 (l : List S83) (hl : l.length ≤ 1048576) : ∀ (d i : Nat) (x : List S53), i + d = l.length → x.length = l.length → x.take i = (l.take i).map cvE →
    Ev (fun k => laws_toEntryS.l0 k l x (i : Int)) (l.map cvE)
  | 0, i, x, hd, hx, ht => by
    refine Ev.step (f := fun _ => some x) (fun k => ?_) ?_
    · simp only [laws_toEntryS.l0]; rw [if_neg (by omega)]
    · have : x = l.map cvE := by rw [← List.take_of_length_le (i := i) (l := x) (by omega), ht, List.take_of_length_le (by omega)]
      rw [this]; exact Ev.now _
  | d + 1, i, x, hd, hx, ht => by
    refine Ev.step (f := fun k => laws_toEntryS.l0 k l (x.set i (cvE (l.getD i z83))) ((i + 1 : Nat) : Int)) (fun k => ?_) (laws_toEntryS_l0 l hl d (i + 1) _ (by omega) (by rw [List.length_set]; exact hx) ?_)
    · simp only [laws_toEntryS.l0, laws_toEntry.f, rd_T83]
      rw [if_pos (by omega), if_pos (by omega), Option.bind_some, if_pos (by omega), w64 (by omega) (by omega), Int.toNat_natCast]; rfl
    · rw [take_set_succ _ _ _ (by omega), ht, take_getD z83 (by omega), List.map_append]; rfl
theorem laws_toEntryS_ev (l : List S83) (hl : l.length ≤ 1048576) : Ev (fun k => laws_toEntryS.f k l) (l.map cvE) := by
  obtain ⟨K, hK⟩ := laws_toEntryS_l0 l hl l.length 0 (List.replicate l.length z53) (by omega) (by simp) (by simp)
  refine ⟨K, fun k hk => ?_⟩
  have e : laws_toEntryS.l0 k l (List.replicate l.length z53) 0 = some _ := hK k hk
  simp only [laws_toEntryS.f]
  rw [if_pos (by omega), if_pos (by omega), Int.toNat_natCast, e]

theorem laws_toLog_ev (a b : Int) (l : List S83) (hl : l.length ≤ 1048576) : Ev (fun k => laws_toLog.f k a b l) (a, b, l.map cvE) := by
  obtain ⟨K, hK⟩ := laws_toEntryS_ev l hl
  refine ⟨K, fun k hk => ?_⟩
  have e : laws_toEntryS.f k l = some _ := hK k hk
  simp only [laws_toLog.f]
  rw [e, Option.bind_some]

theorem laws_eqEntry_self (a b : Int) (c : ByteArray) : laws_eqEntry.f a b c a b c = some true := by
  simp only [laws_eqEntry.f, if_true]
theorem laws_eqEntryS_l0 (l : List S53) (hl : l.length ≤ 140737488351232) : ∀ (d i : Nat), i + d = l.length → Ev (fun k => laws_eqEntryS.l0 k l l (i : Int)) true
  | 0, i, hd => by
    refine Ev.step (f := fun _ => some true) (fun k => ?_) (Ev.now _)
    simp only [laws_eqEntryS.l0]; rw [if_neg (by omega)]
  | d + 1, i, hd => by
    refine Ev.step (f := fun k => laws_eqEntryS.l0 k l l ((i + 1 : Nat) : Int)) (fun k => ?_) (laws_eqEntryS_l0 l hl d (i + 1) (by omega))
    simp only [laws_eqEntryS.l0]
    rw [if_pos (by omega), if_pos (by omega), if_pos (by omega), laws_eqEntry_self, Option.bind_some, if_pos rfl, w64 (by omega) (by omega)]; rfl
theorem laws_eqEntryS_ev (l : List S53) (hl : l.length ≤ 140737488351232) : Ev (fun k => laws_eqEntryS.f k l l) true := by
  obtain ⟨K, hK⟩ := laws_eqEntryS_l0 l hl l.length 0 (by omega)
  refine ⟨K, fun k hk => ?_⟩
  have e : laws_eqEntryS.l0 k l l 0 = some _ := hK k hk
  simp only [laws_eqEntryS.f]
  rw [if_pos trivial, e]

theorem laws_eqLog_ev (a b : Int) (l : List S53) (hl : l.length ≤ 140737488351232) : Ev (fun k => laws_eqLog.f k a b l a b l) true := by
  obtain ⟨K, hK⟩ := laws_eqEntryS_ev l hl
  refine ⟨K, fun k hk => ?_⟩
  have e : laws_eqEntryS.f k l l = some _ := hK k hk
  simp only [laws_eqLog.f, if_true]
  rw [e, Option.bind_some, if_pos rfl]

/-- The figures of n, ahead of t. -/
def dgT (n : Nat) (t : ByteArray) : ByteArray := if _h : 0 < n then dgT (n / 10) (strOfNums [((48 + n % 10 : Nat) : Int)] ++ t) else t
  termination_by n
  decreasing_by omega
theorem dgT_pos {n : Nat} (h : 0 < n) (t : ByteArray) : dgT n t = dgT (n / 10) (strOfNums [((48 + n % 10 : Nat) : Int)] ++ t) := by rw [dgT, dif_pos h]
theorem dgT_zero (t : ByteArray) : dgT 0 t = t := by rw [dgT, dif_neg (by omega)]
/-- The mark of a number. -/
def mtT (n : Int) : ByteArray := if n ≤ 0 then ⟨#[109, 48]⟩ else ⟨#[109]⟩ ++ dgT n.toNat ⟨#[]⟩

def meE (k : Int) (j : Nat) : S53 := ⟨k + 3 * (j : Int), k + 3 * (j : Int) + 1, mtT (k + 3 * (j : Int) + 2)⟩
def markE (k : Int) (n : Nat) : List S53 := (List.range n).map (meE k)
theorem markE_len (k : Int) (n : Nat) : (markE k n).length = n := by simp [markE]
theorem markE_succ (k : Int) (n : Nat) : markE k (n + 1) = markE k n ++ [meE k n] := by simp [markE, List.range_succ]
theorem getD_markE {k : Int} {n i : Nat} (z : S53) (h : i < n) : (markE k n).getD i z = meE k i := by
  unfold markE
  rw [List.getD_eq_getElem?_getD, List.getElem?_map, List.getElem?_range h]; rfl
theorem getD_setE {l : List S53} {i : Nat} (v z : S53) (h : i < l.length) : (l.set i v).getD i z = v := by
  rw [List.getD_eq_getElem?_getD, List.getElem?_set_self h]; rfl

theorem laws_markText_l0 (n : Nat) : ∀ t : ByteArray, n + t.size ≤ 4611686018427387904 → Ev (fun k => laws_markText.l0 k (n : Int) t) ((⟨#[109]⟩ : ByteArray) ++ dgT n t) := by
  induction n using Nat.strongRecOn with
  | _ n ih =>
    intro t ht
    by_cases h : 0 < n
    · have hz : (strOfNums [((48 + n % 10 : Nat) : Int)]).size = 1 := by rw [strOfNums_size]; rfl
      rw [dgT_pos h]
      refine Ev.step (f := fun k => laws_markText.l0 k ((n / 10 : Nat) : Int) (strOfNums [((48 + n % 10 : Nat) : Int)] ++ t)) (fun k => ?_) (ih (n / 10) (by omega) _ (by rw [ByteArray.size_append]; omega))
      simp only [laws_markText.l0]
      rw [if_pos (by omega), Option.bind_some, tmod_nat (by omega), tdiv_nat (by omega), w64 (by omega) (by omega), w64 (by omega) (by omega), show ((48 + (n : Int) % 10) % 256) = ((48 + n % 10 : Nat) : Int) by omega, if_pos (by omega)]
      rfl
    · obtain rfl : n = 0 := by omega
      rw [dgT_zero]
      refine Ev.step (f := fun _ => some ((⟨#[109]⟩ : ByteArray) ++ t)) (fun k => ?_) (Ev.now _)
      simp only [laws_markText.l0]
      rw [if_neg (by omega), if_pos (by omega)]
theorem laws_markText_ev (n : Int) (h : n ≤ 4611686018427387904) : Ev (fun k => laws_markText.f k n) (mtT n) := by
  by_cases h0 : n ≤ 0
  · refine ⟨0, fun k _ => ?_⟩
    simp only [laws_markText.f, mtT]
    rw [if_pos h0, if_pos h0]
  · obtain ⟨K, hK⟩ := laws_markText_l0 n.toNat ⟨#[]⟩ (by show n.toNat + 0 ≤ _; omega)
    refine ⟨K, fun k hk => ?_⟩
    have e : laws_markText.l0 k (n.toNat : Int) ⟨#[]⟩ = some _ := hK k hk
    rw [Int.toNat_of_nonneg (by omega)] at e
    simp only [laws_markText.f, mtT]
    rw [if_neg h0, if_neg h0, e]

theorem laws_markEntryS_l0 (k0 : Int) (n : Nat) (h0 : 0 ≤ k0) (hk : k0 + 3 * (n : Int) ≤ 4611686018427387903) : ∀ (d i : Nat) (x : List S53), i + d = n → x.length = n → x.take i = markE k0 i →
    Ev (fun k => laws_markEntryS.l0 k x (k0 + 3 * (i : Int)) (i : Int)) (k0 + 3 * (n : Int), markE k0 n)
  | 0, i, x, hd, hx, ht => by
    refine Ev.step (f := fun _ => some (k0 + 3 * (i : Int), x)) (fun k => ?_) ?_
    · simp only [laws_markEntryS.l0]; rw [if_neg (by omega)]
    · have e : x = markE k0 n := by rw [← List.take_of_length_le (i := i) (l := x) (by omega), ht, show i = n by omega]
      rw [e, show i = n by omega]; exact Ev.now _
  | d + 1, i, x, hd, hx, ht => by
    obtain ⟨K1, h1⟩ := laws_markText_ev (k0 + 3 * (i : Int) + 2) (by omega)
    obtain ⟨K2, h2⟩ := laws_markEntryS_l0 k0 n h0 hk d (i + 1) (x.set i (meE k0 i)) (by omega) (by rw [List.length_set]; exact hx) (by rw [take_set_succ _ _ _ (by omega), ht, markE_succ])
    refine ⟨K1 + K2 + 1, fun k hk => ?_⟩
    obtain ⟨k, rfl⟩ : ∃ m, k = m + 1 := ⟨k - 1, by omega⟩
    have e1 : laws_markText.f k (k0 + 3 * (i : Int) + 2) = some _ := h1 k (by omega)
    have e2 : laws_markEntryS.l0 k (x.set i (meE k0 i)) (k0 + 3 * ((i + 1 : Nat) : Int)) ((i + 1 : Nat) : Int) = some _ := h2 k (by omega)
    simp only [laws_markEntryS.l0]
    rw [if_pos (by omega), if_pos (by omega), Option.bind_some, Option.bind_some]
    rw [w64 (n := k0 + 3 * (i : Int) + 1) (by omega) (by omega), w64 (n := k0 + 3 * (i : Int) + 1 + 1) (by omega) (by omega), show k0 + 3 * (i : Int) + 1 + 1 = k0 + 3 * (i : Int) + 2 by omega, e1, Option.bind_some, w64 (n := k0 + 3 * (i : Int) + 2 + 1) (by omega) (by omega), w64 (n := (i : Int) + 1) (by omega) (by omega)]
    simp only [rdE, Int.toNat_natCast, List.set_set]
    rw [getD_setE _ _ (by omega), getD_setE _ _ (by omega), show k0 + 3 * (i : Int) + 2 + 1 = k0 + 3 * ((i + 1 : Nat) : Int) by omega, show (i : Int) + 1 = ((i + 1 : Nat) : Int) by omega]
    exact e2
theorem laws_markEntryS_ev (l : List S53) (k0 : Int) (h0 : 0 ≤ k0) (hk : k0 + 3 * (l.length : Int) ≤ 4611686018427387903) : Ev (fun k => laws_markEntryS.f k l k0) (k0 + 3 * (l.length : Int), markE k0 l.length) := by
  have h := laws_markEntryS_l0 k0 l.length h0 hk l.length 0 l (by omega) rfl (by simp [markE])
  rw [show k0 + 3 * ((0 : Nat) : Int) = k0 by omega] at h
  exact h
theorem laws_markLog_ev (a b : Int) (l : List S53) (k0 : Int) (h0 : 0 ≤ k0) (hk : k0 + 3 * (l.length : Int) ≤ 4611686018427387903) : Ev (fun k => laws_markLog.f k a b l k0) (k0 + 3 * (l.length : Int), markE k0 l.length) := by
  obtain ⟨K, hK⟩ := laws_markEntryS_ev l k0 h0 hk
  refine ⟨K, fun k hk => ?_⟩
  have e : laws_markEntryS.f k l k0 = some _ := hK k hk
  simp only [laws_markLog.f]
  rw [e, Option.bind_some]

theorem laws_heldEntryS_l0 (k0 : Int) (n : Nat) (h0 : 0 ≤ k0) (hk : k0 + 3 * (n : Int) ≤ 4611686018427387903) : ∀ (d i : Nat), i + d = n →
    Ev (fun k => laws_heldEntryS.l0 k (markE k0 n) (k0 + 3 * (i : Int)) (i : Int)) (k0 + 3 * (n : Int))
  | 0, i, hd => by
    have hl := markE_len k0 n
    refine Ev.step (f := fun _ => some (k0 + 3 * (i : Int))) (fun k => ?_) ?_
    · simp only [laws_heldEntryS.l0]; rw [if_neg (by omega)]
    · rw [show i = n by omega]; exact Ev.now _
  | d + 1, i, hd => by
    have hl := markE_len k0 n
    obtain ⟨K1, h1⟩ := laws_markText_ev (k0 + 3 * (i : Int) + 2) (by omega)
    obtain ⟨K2, h2⟩ := laws_heldEntryS_l0 k0 n h0 hk d (i + 1) (by omega)
    refine ⟨K1 + K2 + 1, fun k hk => ?_⟩
    obtain ⟨k, rfl⟩ : ∃ m, k = m + 1 := ⟨k - 1, by omega⟩
    have e1 : laws_markText.f k (k0 + 3 * (i : Int) + 2) = some _ := h1 k (by omega)
    have e2 : laws_heldEntryS.l0 k (markE k0 n) (k0 + 3 * ((i + 1 : Nat) : Int)) ((i + 1 : Nat) : Int) = some _ := h2 k (by omega)
    simp only [laws_heldEntryS.l0]
    rw [if_pos (by omega), if_pos (by omega), rdE, getD_markE _ (by omega), w64 (n := k0 + 3 * (i : Int) + 1) (by omega) (by omega), if_pos (show (meE k0 i).f0 = k0 + 3 * (i : Int) from rfl), if_pos (show (meE k0 i).f1 = k0 + 3 * (i : Int) + 1 from rfl), w64 (n := k0 + 3 * (i : Int) + 1 + 1) (by omega) (by omega), show k0 + 3 * (i : Int) + 1 + 1 = k0 + 3 * (i : Int) + 2 by omega, e1, Option.bind_some, if_pos (show (meE k0 i).f2.toList = (mtT (k0 + 3 * (i : Int) + 2)).toList from rfl), w64 (n := k0 + 3 * (i : Int) + 2 + 1) (by omega) (by omega), w64 (n := (i : Int) + 1) (by omega) (by omega), show k0 + 3 * (i : Int) + 2 + 1 = k0 + 3 * ((i + 1 : Nat) : Int) by omega, show (i : Int) + 1 = ((i + 1 : Nat) : Int) by omega, e2]
theorem laws_heldEntryS_ev (k0 : Int) (n : Nat) (h0 : 0 ≤ k0) (hk : k0 + 3 * (n : Int) ≤ 4611686018427387903) : Ev (fun k => laws_heldEntryS.f k (markE k0 n) k0) (k0 + 3 * (n : Int)) := by
  have h := laws_heldEntryS_l0 k0 n h0 hk n 0 (by omega)
  rw [show k0 + 3 * ((0 : Nat) : Int) = k0 by omega] at h
  exact h
theorem laws_heldLog_ev (a b : Int) (k0 : Int) (n : Nat) (h0 : 0 ≤ k0) (hk : k0 + 3 * (n : Int) ≤ 4611686018427387903) : Ev (fun k => laws_heldLog.f k a b (markE k0 n) k0) (k0 + 3 * (n : Int)) := by
  obtain ⟨K, hK⟩ := laws_heldEntryS_ev k0 n h0 hk
  refine ⟨K, fun k hk => ?_⟩
  have e : laws_heldEntryS.f k (markE k0 n) k0 = some _ := hK k hk
  simp only [laws_heldLog.f]
  rw [e, Option.bind_some, if_neg (by omega)]

theorem FnExactLogPut (a b : Int) (l : List S83) (n : Int) (d0 d1 : Int) (d2 : ByteArray) (_ : (Lit.int .i64 a).wf = true) (_ : (Lit.int .i64 b).wf = true) (g2 : (l.length ≤ 9223372036854775807 ∧ ∀ y ∈ l, (Lit.int .i64 y.f0).wf = true ∧ (Lit.int .i64 y.f1).wf = true ∧ y.f2.size ≤ maxLen)) (_ : (Lit.int .i64 n).wf = true) (_ : (Lit.int .i64 d0).wf = true) (_ : (Lit.int .i64 d1).wf = true) (g6 : d2.size ≤ maxLen) : ∃ k, laws_FnExactLogPut.f k a b l n d0 d1 d2 = some true := by
  obtain ⟨r, ⟨K1, h1⟩, hr⟩ := laws_szLog_ev a b l g2.1 (fun y hy => by have := (g2.2 y hy).2.2; simpa [maxLen] using this) 1048576 (by omega) (by omega)
  by_cases hneg : r < 0
  · refine ⟨K1, ?_⟩
    have e1 : laws_szLog.f K1 a b l 1048576 = some _ := h1 K1 (Nat.le_refl _)
    simp only [laws_FnExactLogPut.f]
    rw [e1, Option.bind_some, if_pos hneg]
  · have hb := hr (by omega)
    have hs := laws_szEntry_eq d0 d1 d2 r (by omega) (by omega) (by simpa [maxLen] using g6)
    by_cases hneg2 : r - (d2.size : Int) < 0
    · rw [if_pos hneg2] at hs
      refine ⟨K1, ?_⟩
      have e1 : laws_szLog.f K1 a b l 1048576 = some _ := h1 K1 (Nat.le_refl _)
      simp only [laws_FnExactLogPut.f]
      rw [e1, Option.bind_some, if_neg hneg, hs, Option.bind_some, if_pos (by omega)]
    rw [if_neg hneg2] at hs
    have hlen : (l.map cvE).length ≤ 1048576 := by rw [List.length_map]; omega
    have hsz : ∀ y ∈ l.map cvE, y.f2.size ≤ 1048576 := by
      intro y hy
      obtain ⟨x, hx, rfl⟩ := List.mem_map.1 hy
      have := hb.2.2 x hx
      show x.f2.size ≤ _
      omega
    have he : d2.size ≤ 1048576 := by omega
    obtain ⟨⟨o0, o1, ol, ob⟩, hP⟩ : ∃ o, putC a b (l.map cvE) n ⟨d0, d1, d2⟩ = o := ⟨_, rfl⟩
    have hbl : ol.length ≤ 1048577 := by
      have := putC_len a b (l.map cvE) n ⟨d0, d1, d2⟩
      rw [hP] at this
      exact Nat.le_trans this (by omega)
    obtain ⟨K2, h2⟩ := laws_toLog_ev a b l (by omega)
    obtain ⟨K3, h3⟩ := laws_eqLog_ev a b (l.map cvE) (by omega)
    obtain ⟨K4, h4⟩ := spec_LogPut_ev a b (l.map cvE) n ⟨d0, d1, d2⟩ hlen hsz he
    obtain ⟨K5, h5⟩ := impl_LogPut_ev a b (l.map cvE) n ⟨d0, d1, d2⟩ hlen hsz he
    rw [hP] at h4 h5
    obtain ⟨K6, h6⟩ := laws_eqLog_ev o0 o1 ol (by omega)
    obtain ⟨K7, h7⟩ := laws_markLog_ev a b (l.map cvE) 1 (by omega) (by omega)
    obtain ⟨K8, h8⟩ := laws_markLog_ev o0 o1 ol 1 (by omega) (by omega)
    obtain ⟨K9, h9⟩ := laws_heldLog_ev o0 o1 1 ol.length (by omega) (by omega)
    generalize hk : K1 + K2 + K3 + K4 + K5 + K6 + K7 + K8 + K9 = k
    have hj2 : laws_FnExactLogPut.j2 (k + 1) (1 + 3 * (ol.length : Int)) (ob != ob) o0 o1 (markE 1 ol.length) = some true := by
      have e9 : laws_heldLog.f k o0 o1 (markE 1 ol.length) 1 = some _ := h9 _ (by omega)
      simp only [laws_FnExactLogPut.j2]
      rw [if_neg (by simp), e9, Option.bind_some, if_neg (by omega), if_pos rfl]
    have hj1 : laws_FnExactLogPut.j1 (k + 1 + 1) n ob (ob != ob) a b l d0 d1 d2 o0 o1 ol o0 o1 ol = some true := by
      have e2 : laws_toLog.f (k + 1) a b l = some _ := h2 _ (by omega)
      have e5 : impl_LogPut.f (k + 1) a b (l.map cvE) n d0 d1 d2 = some _ := h5 _ (by omega)
      have e6 : laws_eqLog.f (k + 1) o0 o1 ol o0 o1 ol = some _ := h6 _ (by omega)
      have e8 : laws_markLog.f (k + 1) o0 o1 ol 1 = some _ := h8 _ (by omega)
      have e9 : laws_heldLog.f (k + 1) o0 o1 (markE 1 ol.length) 1 = some _ := h9 _ (by omega)
      simp only [laws_FnExactLogPut.j1, laws_toEntry.f]
      rw [if_neg (by simp), e8, Option.bind_some, e9, Option.bind_some, if_neg (by omega), if_pos rfl, e2, Option.bind_some, Option.bind_some, e5, Option.bind_some, e6, Option.bind_some, if_pos rfl]
      exact hj2
    have hj0 : laws_FnExactLogPut.j0 (k + 1 + 1 + 1) n ob ob (ob != ob) a b l d0 d1 d2 o0 o1 ol a b (l.map cvE) o0 o1 ol = some true := by
      have e2 : laws_toLog.f (k + 1 + 1) a b l = some _ := h2 _ (by omega)
      have e3 : laws_eqLog.f (k + 1 + 1) a b (l.map cvE) a b (l.map cvE) = some _ := h3 _ (by omega)
      have e6 : laws_eqLog.f (k + 1 + 1) o0 o1 ol o0 o1 ol = some _ := h6 _ (by omega)
      have e7 : laws_markLog.f (k + 1 + 1) a b (l.map cvE) 1 = some _ := h7 _ (by omega)
      simp only [laws_FnExactLogPut.j0]
      rw [if_neg (by simp), e2, Option.bind_some, e3, Option.bind_some, if_pos rfl, e7, Option.bind_some, if_neg (by omega), e6, Option.bind_some, if_pos rfl]
      exact hj1
    refine ⟨k + 1 + 1 + 1, ?_⟩
    have e1 : laws_szLog.f (k + 1 + 1 + 1) a b l 1048576 = some _ := h1 _ (by omega)
    have e2 : laws_toLog.f (k + 1 + 1 + 1) a b l = some _ := h2 _ (by omega)
    have e4 : spec_LogPut.f (k + 1 + 1 + 1) a b (l.map cvE) n d0 d1 d2 = some _ := h4 _ (by omega)
    have e5 : impl_LogPut.f (k + 1 + 1 + 1) a b (l.map cvE) n d0 d1 d2 = some _ := h5 _ (by omega)
    have e6 : laws_eqLog.f (k + 1 + 1 + 1) o0 o1 ol o0 o1 ol = some _ := h6 _ (by omega)
    simp only [laws_FnExactLogPut.f, laws_toEntry.f]
    rw [e1, Option.bind_some, if_neg hneg, hs, Option.bind_some, if_neg hneg2, e2, Option.bind_some, Option.bind_some, e4, Option.bind_some, Option.bind_some, Option.bind_some, e5, Option.bind_some, e6, Option.bind_some, if_pos rfl]
    exact hj0

end Go.Proofs.Ytpmdcplmnipdeaa.Pure
