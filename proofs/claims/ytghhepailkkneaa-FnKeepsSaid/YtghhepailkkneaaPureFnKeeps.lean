/- For every code: of a drawn right disk what is kept is never lost, of the rest a beginning is left, and lost again nothing more is lost: FnKeeps returns true. No condition. -/
import Derived.Test.YtghhepailkkneaaQFnKeepsx8
namespace Go.Proofs.Ytghhepailkkneaa.Pure
open Go.RowKit Go.Proofs.Ytghhepailkkneaa.PFnKeeps Go.Proofs.YtghhepailkkneaaW.PrintWords Go.Proofs.YtghhepailkkneaaW.PrintLast Go.Proofs.YtghhepailkkneaaW.PrintMore

theorem blt_cons (a b : UInt8) (x y : List UInt8) : Op.bytesLess (a :: x) (b :: y) = true ↔ a.toNat < b.toNat ∨ (a = b ∧ Op.bytesLess x y = true) := by
  simp only [Op.bytesLess, Bool.or_eq_true, Bool.and_eq_true, decide_eq_true_eq, beq_iff_eq]
  exact Iff.rfl
theorem blt_trans : ∀ {a b c : List UInt8}, Op.bytesLess a b = true → Op.bytesLess b c = true → Op.bytesLess a c = true
  | _, [], _, h, _ => by cases ‹List UInt8› <;> simp [Op.bytesLess] at h
  | _, _ :: _, [], _, h => by simp [Op.bytesLess] at h
  | [], _ :: _, _ :: _, _, _ => rfl
  | a :: x, b :: y, c :: z, h1, h2 => by
    rw [blt_cons] at h1 h2 ⊢
    rcases h1 with h1 | ⟨rfl, h1⟩
    · rcases h2 with h2 | ⟨rfl, h2⟩
      · exact .inl (Nat.lt_trans h1 h2)
      · exact .inl h1
    · rcases h2 with h2 | ⟨rfl, h2⟩
      · exact .inl h2
      · exact .inr ⟨rfl, blt_trans h1 h2⟩
theorem blt_irr : ∀ (a : List UInt8), Op.bytesLess a a = false
  | [] => rfl
  | a :: x => by
    have := blt_irr x
    cases h : Op.bytesLess (a :: x) (a :: x) with
    | false => rfl
    | true =>
      rw [blt_cons] at h
      rcases h with h | h
      · omega
      · rw [this] at h; simp at h

theorem rdF (l : List S36) (i : Nat) : rd_T36 l (i : Int) = l.getD i z36 := by unfold rd_T36; rw [Int.toNat_natCast]
theorem rdF' (l : List S36) {i : Nat} (h : 0 < i) : rd_T36 l ((i : Int) - 1) = l.getD (i - 1) z36 := by unfold rd_T36; rw [show ((i : Int) - 1).toNat = i - 1 by omega]

theorem drop_getD {α : Type} {l : List α} (z : α) {i : Nat} (h : i < l.length) : l.drop i = l.getD i z :: l.drop (i + 1) := by
  rw [List.drop_eq_getElem_cons h]
  congr 1
  rw [List.getD_eq_getElem?_getD, List.getElem?_eq_getElem h]; rfl
theorem getD_mem {α : Type} {l : List α} (z : α) {i : Nat} (h : i < l.length) : l.getD i z ∈ l := by
  rw [List.getD_eq_getElem?_getD, List.getElem?_eq_getElem h]
  exact List.getElem_mem h

theorem bytesOf_inj {s t : ByteArray} (h : bytesOf s = bytesOf t) : s = t := by
  apply ByteArray.ext
  apply Array.toList_inj.1
  unfold bytesOf at h
  refine (List.map_inj_right ?_).1 h
  intro a b hab
  exact UInt8.toNat_inj.1 (by omega)
theorem bytesOf_ext (s : ByteArray) (a b : Nat) : bytesOf (s.extract a b) = ((bytesOf s).drop a).take (b - a) := by
  simp [bytesOf, List.map_take, List.map_drop]
theorem extract_all (s : ByteArray) : s.extract 0 s.size = s := bytesOf_inj (by rw [bytesOf_ext, List.drop_zero, Nat.sub_zero, ← bytesOf_length, List.take_length])
theorem w64 {n : Int} (h0 : -9223372036854775808 ≤ n) (h1 : n ≤ 9223372036854775807) : wrap64 n = n := by
  unfold wrap64; omega
/-- A right file. -/
def fileB (x : S36) : Bool := decide ((1 ≤ x.f0.size ∧ x.f0.size ≤ 8) ∧ x.f1.size ≤ 20000 ∧ 0 ≤ x.f2 ∧ x.f2 ≤ (x.f1.size : Int))
/-- Right files, their names rising, and above p. -/
def dkL : Option ByteArray → List S36 → Bool
  | _, [] => true
  | p, x :: xs => if fileB x = true ∧ (∀ q, p = some q → Op.bytesLess q.toList x.f0.toList = true) then dkL (some x.f0) xs else false
def diskC (l : List S36) : Bool := decide (l.length ≤ 30) && dkL none l
def prvF (l : List S36) (i : Nat) : Option ByteArray := if i = 0 then none else some (l.getD (i - 1) z36).f0
theorem prvF_succ (l : List S36) (i : Nat) : prvF l (i + 1) = some (l.getD i z36).f0 := by
  unfold prvF
  rw [if_neg (by omega), Nat.add_sub_cancel]
theorem prvF_pos {l : List S36} {i : Nat} (h : 0 < i) : prvF l i = some (l.getD (i - 1) z36).f0 := by
  unfold prvF
  rw [if_neg (by omega)]

theorem impl_in_eq (a b c : Int) : impl_in.f a b c = some (decide (b ≤ a ∧ a ≤ c)) := by
  unfold impl_in.f
  by_cases h : a ≥ b
  · rw [if_pos h]; simp [show b ≤ a from h]
  · rw [if_neg h]; simp [show ¬ b ≤ a from h]

theorem impl_fileOk_eq (x : S36) : impl_fileOk.f x.f0 x.f1 x.f2 = some (fileB x) := by
  simp only [impl_fileOk.f, impl_in_eq, fileB]
  simp only [Option.bind_some]
  by_cases h1 : 1 ≤ x.f0.size ∧ x.f0.size ≤ 8
  · rw [if_pos (by simp; omega)]
    by_cases h2 : x.f1.size ≤ 20000
    · rw [if_pos (by omega)]
      congr 1
      by_cases h3 : 0 ≤ x.f2 ∧ x.f2 ≤ (x.f1.size : Int)
      · rw [decide_eq_true h3, decide_eq_true ⟨h1, h2, h3⟩]
      · rw [decide_eq_false h3, decide_eq_false (fun h => h3 h.2.2)]
    · rw [if_neg (by omega), decide_eq_false (fun h => h2 h.2.1)]
  · rw [if_neg (by simp; omega), decide_eq_false (fun h => h1 h.1)]
theorem impl_DiskOk_l0 (l : List S36) (hl : l.length ≤ 1048576) : ∀ (d i : Nat), i + d = l.length → Ev (fun k => impl_DiskOk.l0 k l (l.length : Int) (i : Int) l) (dkL (prvF l i) (l.drop i) && decide (l.length ≤ 30))
  | 0, i, hd => by
    refine Ev.step (f := fun _ => some (decide ((l.length : Int) ≤ 30))) (fun k => ?_) ?_
    · simp only [impl_DiskOk.l0]; rw [if_neg (by omega)]
    · rw [List.drop_eq_nil_of_le (by omega)]
      simp only [dkL]
      have : (true && decide (l.length ≤ 30)) = decide ((l.length : Int) ≤ 30) := by
        rw [Bool.true_and]
        by_cases h : l.length ≤ 30
        · rw [decide_eq_true h, decide_eq_true (by omega)]
        · rw [decide_eq_false h, decide_eq_false (by omega)]
      rw [this]
      exact Ev.now _
  | d + 1, i, hd => by
    have ih := impl_DiskOk_l0 l hl d (i + 1) (by omega)
    rw [prvF_succ] at ih
    rw [drop_getD z36 (by omega)]
    generalize hx : l.getD i z36 = x at ih ⊢
    simp only [dkL]
    have hw : wrap64 ((i : Int) + 1) = ((i + 1 : Nat) : Int) := by rw [w64 (by omega) (by omega)]; rfl
    have hw2 : wrap64 ((i : Int) - 1) = (i : Int) - 1 := w64 (by omega) (by omega)
    by_cases hf : fileB x = true
    · rcases Nat.eq_zero_or_pos i with h0 | h0
      · have hp : prvF l i = none := by unfold prvF; rw [if_pos h0]
        rw [if_pos ⟨hf, fun q hq => by rw [hp] at hq; cases hq⟩]
        refine Ev.step (f := fun k => impl_DiskOk.l0 k l (l.length : Int) ((i + 1 : Nat) : Int) l) (fun k => ?_) ih
        simp only [impl_DiskOk.l0]
        rw [if_pos (by omega), if_pos (by omega), if_pos (by omega), rdF, hx, impl_fileOk_eq, Option.bind_some, if_pos hf, if_neg (by omega), hw]
      · by_cases h4 : Op.bytesLess (l.getD (i - 1) z36).f0.toList x.f0.toList = true
        · rw [if_pos ⟨hf, fun q hq => by rw [prvF_pos h0] at hq; cases hq; exact h4⟩]
          refine Ev.step (f := fun k => impl_DiskOk.l0 k l (l.length : Int) ((i + 1 : Nat) : Int) l) (fun k => ?_) ih
          simp only [impl_DiskOk.l0]
          rw [if_pos (by omega), if_pos (by omega), if_pos (by omega), rdF, hx, impl_fileOk_eq, Option.bind_some, if_pos hf, if_pos (by omega), hw2, if_pos (by omega), if_pos (by omega), rdF' l h0, if_pos h4, hw]
        · rw [if_neg (fun h => h4 (h.2 _ (prvF_pos h0)))]
          refine Ev.step (f := fun _ => some false) (fun k => ?_) (Ev.now _)
          simp only [impl_DiskOk.l0]
          rw [if_pos (by omega), if_pos (by omega), if_pos (by omega), rdF, hx, impl_fileOk_eq, Option.bind_some, if_pos hf, if_pos (by omega), hw2, if_pos (by omega), if_pos (by omega), rdF' l h0, if_neg h4]
    · rw [if_neg (fun h => hf h.1)]
      refine Ev.step (f := fun _ => some false) (fun k => ?_) (Ev.now _)
      simp only [impl_DiskOk.l0]
      rw [if_pos (by omega), if_pos (by omega), if_pos (by omega), rdF, hx, impl_fileOk_eq, Option.bind_some, if_neg hf]
theorem impl_DiskOk_ev (l : List S36) (hl : l.length ≤ 1048576) : Ev (fun k => impl_DiskOk.f k l) (diskC l) := by
  have h := impl_DiskOk_l0 l hl l.length 0 (by omega)
  unfold diskC
  rw [Bool.and_comm]
  exact h

theorem take_set_succ {α : Type} (l : List α) (i : Nat) (v : α) (h : i < l.length) : (l.set i v).take (i + 1) = l.take i ++ [v] := by
  rw [List.take_add_one, List.getElem?_set_self h, List.take_set_of_le (Nat.le_refl i)]; rfl
theorem getD_setF {l : List S36} {i : Nat} (v z : S36) (h : i < l.length) : (l.set i v).getD i z = v := by
  rw [List.getD_eq_getElem?_getD, List.getElem?_set_self h]; rfl

def keepN (n size kept : Int) : Int := if (if n > size then size else n) < kept then kept else (if n > size then size else n)
def leftN (left : List Int) (i : Nat) : Int := if (i : Int) < (left.length : Int) then rd left (i : Int) else 0
def loseF (left : List Int) (x : S36) (i : Nat) : S36 := ⟨x.f0, x.f1.extract 0 (keepN (leftN left i) (x.f1.size : Int) x.f2).toNat, keepN (leftN left i) (x.f1.size : Int) x.f2⟩
def loseL (left : List Int) : List S36 → Nat → List S36
  | [], _ => []
  | x :: xs, i => loseF left x i :: loseL left xs (i + 1)
theorem loseL_len (left : List Int) : ∀ (l : List S36) (i : Nat), (loseL left l i).length = l.length
  | [], _ => rfl
  | x :: xs, i => by simp [loseL, loseL_len left xs (i + 1)]
def loseC (left : List Int) (l : List S36) : List S36 × Bool := if diskC l = true then (loseL left l 0, true) else ([], false)
theorem dkL_all : ∀ (l : List S36) (p : Option ByteArray), dkL p l = true → ∀ x ∈ l, fileB x = true
  | [], _, _ => by simp
  | y :: ys, p, h => by
    simp only [dkL] at h
    split at h
    · rename_i hy
      intro x hx
      rcases List.mem_cons.1 hx with rfl | hx
      · exact hy.1
      · exact dkL_all ys _ h x hx
    · cases h
theorem diskC_all {l : List S36} (h : diskC l = true) : ∀ x ∈ l, fileB x = true := by
  unfold diskC at h
  simp at h
  exact dkL_all l none h.2
theorem mxmn {n s kept : Int} (h0 : 0 ≤ kept) (h1 : kept ≤ s) : mx (mx 0 (mn n s)) kept = keepN n s kept := by
  unfold mx mn keepN
  repeat' split
  all_goals omega
theorem mx0 {s kept : Int} (h0 : 0 ≤ kept) (h1 : kept ≤ s) : mx 0 kept = keepN 0 s kept := by
  unfold mx keepN
  repeat' split
  all_goals omega
theorem keepN_bounds {n s kept : Int} (h0 : 0 ≤ kept) (h1 : kept ≤ s) : 0 ≤ keepN n s kept ∧ keepN n s kept ≤ s := by
  unfold keepN
  repeat' split
  all_goals omega
theorem impl_LoseDisk_l0 (left : List Int) (l : List S36) (hl : l.length ≤ 1048576) (hF : ∀ x ∈ l, fileB x = true) : ∀ (d i : Nat) (x : List S36), i + d = l.length → x.length = l.length → x.drop i = l.drop i →
    Ev (fun k => impl_LoseDisk.l0 k left l (l.length : Int) (i : Int) x) (x.take i ++ loseL left (l.drop i) i, true)
  | 0, i, x, hd, hx, hr => by
    refine Ev.step (f := fun _ => some (x, true)) (fun k => ?_) ?_
    · simp only [impl_LoseDisk.l0]; rw [if_neg (by omega)]
    · rw [List.drop_eq_nil_of_le (by omega), List.take_of_length_le (by omega)]
      simp only [loseL, List.append_nil]
      exact Ev.now _
  | d + 1, i, x, hd, hx, hr => by
    have hy := hF _ (getD_mem z36 (show i < l.length by omega))
    have hxi : x.getD i z36 = l.getD i z36 := by
      have h1 := drop_getD z36 (show i < x.length by omega)
      rw [hr, drop_getD z36 (show i < l.length by omega)] at h1
      injection h1 with h1 _
      exact h1.symm
    have ih := impl_LoseDisk_l0 left l hl hF d (i + 1) (x.set i (loseF left (l.getD i z36) i)) (by omega) (by rw [List.length_set]; exact hx) (by
      rw [List.drop_set_of_lt (by omega)]
      have h1 : (x.drop i).drop 1 = (l.drop i).drop 1 := by rw [hr]
      rwa [List.drop_drop, List.drop_drop] at h1)
    rw [take_set_succ _ _ _ (by omega), List.append_assoc, List.singleton_append] at ih
    rw [drop_getD z36 (by omega)]
    simp only [loseL]
    have hw : wrap64 ((i : Int) + 1) = ((i + 1 : Nat) : Int) := by rw [w64 (by omega) (by omega)]; rfl
    obtain ⟨_, _, h3, h4⟩ := of_decide_eq_true hy
    refine Ev.step (fun k => ?_) ih
    simp only [impl_LoseDisk.l0, hw, rdF, hxi]
    rw [if_pos (by omega), if_pos (by omega), if_pos (by omega)]
    by_cases c : (i : Int) < (left.length : Int)
    · have hn : leftN left i = rd left (i : Int) := by unfold leftN; rw [if_pos c]
      rw [if_pos c, mxmn h3 h4, ← hn]
      have hb := keepN_bounds (n := leftN left i) h3 h4
      rw [if_pos hb.1, if_pos hb.2, if_pos (by omega), Option.bind_some]
      simp only [Int.toNat_natCast, List.set_set]
      rw [getD_setF _ _ (by omega)]
      rfl
    · have hn : leftN left i = 0 := by unfold leftN; rw [if_neg c]
      rw [if_neg c, show mx 0 (l.getD i z36).f2 = keepN (leftN left i) ((l.getD i z36).f1.size : Int) (l.getD i z36).f2 from by rw [hn]; exact mx0 h3 h4]
      have hb := keepN_bounds (n := leftN left i) h3 h4
      rw [if_pos hb.1, if_pos hb.2, if_pos (by omega), Option.bind_some]
      simp only [Int.toNat_natCast, List.set_set]
      rw [getD_setF _ _ (by omega)]
      rfl
theorem impl_LoseDisk_ev (left : List Int) (l : List S36) (hl : l.length ≤ 1048576) : Ev (fun k => impl_LoseDisk.f k l left) (loseC left l) := by
  obtain ⟨K1, h1⟩ := impl_DiskOk_ev l hl
  unfold loseC
  by_cases hd : diskC l = true
  · obtain ⟨K2, h2⟩ := impl_LoseDisk_l0 left l hl (diskC_all hd) l.length 0 l (by omega) rfl rfl
    refine ⟨max K1 K2, fun k hk => ?_⟩
    have e1 : impl_DiskOk.f k l = some _ := h1 k (by omega)
    have e2 : impl_LoseDisk.l0 k left l (l.length : Int) 0 l = some (loseL left l 0, true) := h2 k (by omega)
    simp only [impl_LoseDisk.f, e1, Option.bind_some, impl_cloneDisk.f, impl_File_44.f]
    rw [if_pos hd, if_pos (by omega), Option.bind_some, Option.bind_some, e2, if_pos hd]
  · refine ⟨K1, fun k hk => ?_⟩
    have e1 : impl_DiskOk.f k l = some _ := h1 k hk
    simp only [impl_LoseDisk.f, e1, Option.bind_some]
    rw [if_neg hd, if_neg hd]

/-- A file put in its place. -/
def ltF (f x : S36) : Bool := Op.bytesLess x.f0.toList f.f0.toList
def gtF (f x : S36) : Bool := Op.bytesLess f.f0.toList x.f0.toList
def putF (l : List S36) (f : S36) : List S36 := l.filter (ltF f) ++ [f] ++ l.filter (gtF f)
def Up (l : List S36) : Prop := l.Pairwise (fun x y => Op.bytesLess x.f0.toList y.f0.toList = true) ∧ ∀ x ∈ l, fileB x = true
theorem filt_len {α : Type} (p q : α → Bool) (h : ∀ x, p x = true → q x = false) : ∀ l : List α, (l.filter p).length + (l.filter q).length ≤ l.length
  | [] => by simp
  | x :: l => by
    have ih := filt_len p q h l
    by_cases hp : p x = true
    · rw [List.filter_cons_of_pos hp, List.filter_cons_of_neg (by rw [h x hp]; simp), List.length_cons, List.length_cons]; omega
    · rw [List.filter_cons_of_neg hp]
      by_cases hq : q x = true
      · rw [List.filter_cons_of_pos hq, List.length_cons, List.length_cons]; omega
      · rw [List.filter_cons_of_neg hq, List.length_cons]; omega
theorem putF_len (l : List S36) (f : S36) : (putF l f).length ≤ l.length + 1 := by
  have := filt_len (ltF f) (gtF f) (fun x hx => by
    cases h : gtF f x with
    | false => rfl
    | true =>
      have h3 := blt_trans h hx
      rw [blt_irr] at h3; cases h3) l
  unfold putF
  simp only [List.length_append, List.length_cons, List.length_nil]
  omega
theorem putF_up {l : List S36} {f : S36} (h : Up l) (hf : fileB f = true) : Up (putF l f) := by
  refine ⟨?_, fun x hx => ?_⟩
  · unfold putF
    rw [List.append_assoc, List.singleton_append, List.pairwise_append]
    refine ⟨h.1.filter _, ?_, fun x hx y hy => ?_⟩
    · rw [List.pairwise_cons]
      exact ⟨fun y hy => (List.mem_filter.1 hy).2, h.1.filter _⟩
    · have h1 : Op.bytesLess x.f0.toList f.f0.toList = true := (List.mem_filter.1 hx).2
      rcases List.mem_cons.1 hy with rfl | hy
      · exact h1
      · exact blt_trans h1 (List.mem_filter.1 hy).2
  · unfold putF at hx
    rw [List.append_assoc, List.singleton_append] at hx
    rcases List.mem_append.1 hx with hx | hx
    · exact h.2 x (List.mem_filter.1 hx).1
    · rcases List.mem_cons.1 hx with rfl | hx
      · exact hf
      · exact h.2 x (List.mem_filter.1 hx).1
theorem dkL_up : ∀ {l : List S36} (p : Option ByteArray), Up l → (∀ q, p = some q → ∀ x ∈ l, Op.bytesLess q.toList x.f0.toList = true) → dkL p l = true
  | [], _, _, _ => rfl
  | x :: xs, p, h, hp => by
    obtain ⟨h1, h2⟩ := h
    rw [List.pairwise_cons] at h1
    simp only [dkL]
    rw [if_pos ⟨h2 x List.mem_cons_self, fun q hq => hp q hq x List.mem_cons_self⟩]
    exact dkL_up _ ⟨h1.2, fun y hy => h2 y (List.mem_cons_of_mem _ hy)⟩ (fun q hq y hy => by cases hq; exact h1.1 y hy)
theorem diskC_up {l : List S36} (h : Up l) (hl : l.length ≤ 30) : diskC l = true := by
  unfold diskC
  rw [dkL_up none h (fun q hq => by cases hq), decide_eq_true hl]; rfl
theorem spec_l03Put_l1 (l : List S36) (hl : l.length ≤ 1000) (f : S36) : ∀ (d i : Nat) (out : List S36), i + d = l.length → out.length + d ≤ 3000 →
    Ev (fun k => spec_l03Put.l1 k (i : Int) l f.f0 f.f1 f.f2 out) (out ++ (l.drop i).filter (gtF f))
  | 0, i, out, hi, hz => by
    refine Ev.step (f := fun _ => some out) (fun k => ?_) ?_
    · simp only [spec_l03Put.l1]; rw [if_neg (by omega)]
    · rw [List.drop_eq_nil_of_le (by omega)]
      simp only [List.filter_nil, List.append_nil]
      exact Ev.now _
  | d + 1, i, out, hi, hz => by
    rw [drop_getD z36 (by omega)]
    have hw : wrap64 ((i : Int) + 1) = ((i + 1 : Nat) : Int) := by rw [w64 (by omega) (by omega)]; rfl
    generalize hx : l.getD i z36 = x
    by_cases c : gtF f x = true
    · rw [List.filter_cons_of_pos c]
      have ih := spec_l03Put_l1 l hl f d (i + 1) (out ++ [x]) (by omega) (by simp; omega)
      rw [List.append_assoc, List.singleton_append] at ih
      refine Ev.step (f := fun k => spec_l03Put.l1 k ((i + 1 : Nat) : Int) l f.f0 f.f1 f.f2 (out ++ [x])) (fun k => ?_) ih
      simp only [spec_l03Put.l1, rdF, hx]
      rw [if_pos (by omega), if_pos (by omega), if_pos (show Op.bytesLess f.f0.toList x.f0.toList = true from c), if_pos (by omega), hw]
    · rw [List.filter_cons_of_neg c]
      have ih := spec_l03Put_l1 l hl f d (i + 1) out (by omega) (by omega)
      refine Ev.step (f := fun k => spec_l03Put.l1 k ((i + 1 : Nat) : Int) l f.f0 f.f1 f.f2 out) (fun k => ?_) ih
      simp only [spec_l03Put.l1, rdF, hx]
      rw [if_pos (by omega), if_pos (by omega), if_neg (show ¬ Op.bytesLess f.f0.toList x.f0.toList = true from c), hw]
theorem spec_l03Put_l0 (l : List S36) (hl : l.length ≤ 1000) (f : S36) : ∀ (d i : Nat) (out : List S36), i + d = l.length → out.length + d ≤ 1500 →
    Ev (fun k => spec_l03Put.l0 k (i : Int) l f.f0 f.f1 f.f2 out) (out ++ (l.drop i).filter (ltF f) ++ [f] ++ l.filter (gtF f))
  | 0, i, out, hi, hz => by
    have h := spec_l03Put_l1 l hl f l.length 0 (out ++ [f]) (by omega) (by simp; omega)
    rw [List.drop_zero] at h
    refine Ev.step (f := fun k => spec_l03Put.l1 k 0 l f.f0 f.f1 f.f2 (out ++ [f])) (fun k => ?_) ?_
    · simp only [spec_l03Put.l0]; rw [if_neg (by omega), if_pos (by omega)]
    · rw [List.drop_eq_nil_of_le (by omega)]
      simp only [List.filter_nil, List.append_nil]
      exact h
  | d + 1, i, out, hi, hz => by
    rw [drop_getD z36 (by omega)]
    have hw : wrap64 ((i : Int) + 1) = ((i + 1 : Nat) : Int) := by rw [w64 (by omega) (by omega)]; rfl
    generalize hx : l.getD i z36 = x
    by_cases c : ltF f x = true
    · rw [List.filter_cons_of_pos c]
      have ih := spec_l03Put_l0 l hl f d (i + 1) (out ++ [x]) (by omega) (by simp; omega)
      rw [show out ++ [x] ++ (l.drop (i + 1)).filter (ltF f) = out ++ x :: (l.drop (i + 1)).filter (ltF f) by simp] at ih
      refine Ev.step (f := fun k => spec_l03Put.l0 k ((i + 1 : Nat) : Int) l f.f0 f.f1 f.f2 (out ++ [x])) (fun k => ?_) ih
      simp only [spec_l03Put.l0, rdF, hx]
      rw [if_pos (by omega), if_pos (by omega), if_pos (show Op.bytesLess x.f0.toList f.f0.toList = true from c), if_pos (by omega), hw]
    · rw [List.filter_cons_of_neg c]
      have ih := spec_l03Put_l0 l hl f d (i + 1) out (by omega) (by omega)
      refine Ev.step (f := fun k => spec_l03Put.l0 k ((i + 1 : Nat) : Int) l f.f0 f.f1 f.f2 out) (fun k => ?_) ih
      simp only [spec_l03Put.l0, rdF, hx]
      rw [if_pos (by omega), if_pos (by omega), if_neg (show ¬ Op.bytesLess x.f0.toList f.f0.toList = true from c), hw]
theorem spec_l03Put_ev (l : List S36) (hl : l.length ≤ 1000) (f : S36) : Ev (fun k => spec_l03Put.f k l f.f0 f.f1 f.f2) (putF l f) := by
  have h := spec_l03Put_l0 l hl f l.length 0 [] (by omega) (by simp; omega)
  rw [List.drop_zero, List.nil_append] at h
  exact h

theorem and255 (x : Int) : 0 ≤ Go.bits .and .i64 x 255 ∧ Go.bits .and .i64 x 255 ≤ 255 := by
  have h : ((BitVec.ofInt 64 x) &&& (BitVec.ofInt 64 255)).toNat ≤ 255 := by
    rw [BitVec.toNat_and]; exact Nat.le_trans Nat.and_le_right (by decide)
  show 0 ≤ IntKind.i64.wrap (((BitVec.ofInt 64 x) &&& (BitVec.ofInt 64 255)).toNat : Int) ∧ IntKind.i64.wrap (((BitVec.ofInt 64 x) &&& (BitVec.ofInt 64 255)).toNat : Int) ≤ 255
  rw [IntKind.wrap_i64]; omega
theorem spec_l01New_l0 (l : List Int) (hl : l.length ≤ 1048576) : ∀ (d i : Nat) (x : Int), i + d = l.length → ∃ h, Ev (fun k => spec_l01New.l0 k l x (i : Int)) (l, 0, h)
  | 0, i, x, hi => by
    refine ⟨x, Ev.step (f := fun _ => some (l, 0, x)) (fun k => ?_) (Ev.now _)⟩
    simp only [spec_l01New.l0]; rw [if_neg (by omega)]
  | d + 1, i, x, hi => by
    by_cases c : i < 4000
    · obtain ⟨h, hh⟩ := spec_l01New_l0 l hl d (i + 1) (Go.bits .and .i64 (wrap64 ((wrap64 ((wrap64 (x * 131)) + (wrap64 (rd l (i : Int))))) + 7)) 1073741823) (by omega)
      refine ⟨h, Ev.step (f := fun k => spec_l01New.l0 k l (Go.bits .and .i64 (wrap64 ((wrap64 ((wrap64 (x * 131)) + (wrap64 (rd l (i : Int))))) + 7)) 1073741823) ((i + 1 : Nat) : Int)) (fun k => ?_) hh⟩
      simp only [spec_l01New.l0]
      rw [if_pos (by omega), if_pos (by omega), if_pos (by omega), w64 (n := (i : Int) + 1) (by omega) (by omega)]; rfl
    · refine ⟨x, Ev.step (f := fun _ => some (l, 0, x)) (fun k => ?_) (Ev.now _)⟩
      simp only [spec_l01New.l0]; rw [if_pos (by omega), if_neg (by omega)]
theorem spec_l01New_ev (l : List Int) (hl : l.length ≤ 1048576) : ∃ h, Ev (fun k => spec_l01New.f k l) (l, 0, h) := spec_l01New_l0 l hl l.length 0 _ (by omega)
theorem spec_l01Byte_eq (l : List Int) (hl : l.length ≤ 1048576) (p h : Int) (h0 : 0 ≤ p) (h1 : p ≤ (l.length : Int)) :
    ∃ b p' h', spec_l01Byte.f l p h = some (b, p', h') ∧ 0 ≤ b ∧ b ≤ 255 ∧ 0 ≤ p' ∧ p' ≤ (l.length : Int) := by
  simp only [spec_l01Byte.f]
  by_cases c : p < (l.length : Int)
  · rw [if_pos c, if_pos h0, w64 (n := p + 1) (by omega) (by omega)]
    refine ⟨_, _, _, rfl, ?_⟩
    have := and255 (wrap64 ((Go.bits .and .i64 (Go.bits .xor .i64 ((wrap64 ((wrap64 (h * 6364136223846793005)) + 1442695040888963407)) / 8589934592) ((wrap64 ((wrap64 (h * 6364136223846793005)) + 1442695040888963407)) / 35184372088832)) 255) + (wrap64 (rd l p))))
    exact ⟨this.1, this.2, by omega, by omega⟩
  · rw [if_neg c]
    refine ⟨_, _, _, rfl, ?_⟩
    have := and255 (Go.bits .xor .i64 ((wrap64 ((wrap64 (h * 6364136223846793005)) + 1442695040888963407)) / 8589934592) ((wrap64 ((wrap64 (h * 6364136223846793005)) + 1442695040888963407)) / 35184372088832))
    exact ⟨this.1, this.2, h0, h1⟩
theorem spec_l01Below_eq (l : List Int) (hl : l.length ≤ 1048576) (p h n : Int) (hn : 0 < n) (h0 : 0 ≤ p) (h1 : p ≤ (l.length : Int)) :
    ∃ b p' h', spec_l01Below.f l p h n = some (b, p', h') ∧ 0 ≤ b ∧ b < n ∧ 0 ≤ p' ∧ p' ≤ (l.length : Int) := by
  simp only [spec_l01Below.f]
  rw [if_neg (by omega)]
  obtain ⟨x, p1, g1, e1, x0, x1, q0, q1⟩ := spec_l01Byte_eq l hl p h h0 h1
  by_cases c : n ≤ 256
  · rw [if_pos c, e1, Option.bind_some, if_neg (by omega)]
    refine ⟨_, _, _, rfl, ?_, ?_, q0, q1⟩
    · exact Int.tmod_nonneg _ x0
    · exact Int.tmod_lt_of_pos _ hn
  · obtain ⟨y, p2, g2, e2, y0, y1, r0, r1⟩ := spec_l01Byte_eq l hl p1 g1 q0 q1
    obtain ⟨z, p3, g3, e3, z0, z1, s0, s1⟩ := spec_l01Byte_eq l hl p2 g2 r0 r1
    obtain ⟨u, p4, g4, e4, u0, u1, t0, t1⟩ := spec_l01Byte_eq l hl p3 g3 s0 s1
    rw [if_neg c, e1, Option.bind_some, e2, Option.bind_some, e3, Option.bind_some, e4, Option.bind_some, if_neg (by omega)]
    refine ⟨_, _, _, rfl, ?_, ?_, t0, t1⟩
    · refine Int.tmod_nonneg _ ?_
      simp only []
      rw [w64 (n := x * 16777216) (by omega) (by omega), w64 (n := y * 65536) (by omega) (by omega), w64 (n := z * 256) (by omega) (by omega), w64 (n := x * 16777216 + y * 65536) (by omega) (by omega), w64 (n := x * 16777216 + y * 65536 + z * 256) (by omega) (by omega), w64 (by omega) (by omega)]
      omega
    · exact Int.tmod_lt_of_pos _ hn

theorem spec_l01Text_szl (l : List Int) (hl : l.length ≤ 1048576) (n : Int) (hn : n ≤ 900) : ∀ (d i : Nat) (x : List Int) (p h : Int), (n - (i : Int) ≤ (d : Int)) → x.length = i → i ≤ 900 → 0 ≤ p → p ≤ (l.length : Int) →
    ∃ o p' h', Ev (fun k => spec_l01Text.l0 k n x (i : Int) l p h) (o, p', h') ∧ o.size ≤ 1000 ∧ 0 ≤ p' ∧ p' ≤ (l.length : Int)
  | 0, i, x, p, h, hi, hx, hm, h0, h1 => by
    refine ⟨_, _, _, Ev.step (f := fun _ => some (strOfNums x, p, h)) (fun k => ?_) (Ev.now _), by rw [strOfNums_size]; omega, h0, h1⟩
    simp only [spec_l01Text.l0]; rw [if_neg (by omega)]
  | d + 1, i, x, p, h, hi, hx, hm, h0, h1 => by
    by_cases c : (i : Int) < n
    · obtain ⟨b, p', h', e, _, _, q0, q1⟩ := spec_l01Byte_eq l hl p h h0 h1
      obtain ⟨o, p2, h2, ho, hz⟩ := spec_l01Text_szl l hl n hn d (i + 1) (x ++ [b % 256]) p' h' (by omega) (by simp; omega) (by omega) q0 q1
      refine ⟨o, p2, h2, Ev.step (f := fun k => spec_l01Text.l0 k n (x ++ [b % 256]) ((i + 1 : Nat) : Int) l p' h') (fun k => ?_) ho, hz⟩
      simp only [spec_l01Text.l0]
      rw [if_pos c, e, Option.bind_some, if_pos (by omega), w64 (by omega) (by omega)]; rfl
    · refine ⟨_, _, _, Ev.step (f := fun _ => some (strOfNums x, p, h)) (fun k => ?_) (Ev.now _), by rw [strOfNums_size]; omega, h0, h1⟩
      simp only [spec_l01Text.l0]; rw [if_neg (by omega)]
theorem spec_l01Text_sz (l : List Int) (hl : l.length ≤ 1048576) (n : Int) (hn : n ≤ 900) (p h : Int) (h0 : 0 ≤ p) (h1 : p ≤ (l.length : Int)) : ∃ o p' h', Ev (fun k => spec_l01Text.f k l p h n) (o, p', h') ∧ o.size ≤ 1000 ∧ 0 ≤ p' ∧ p' ≤ (l.length : Int) := by
  obtain ⟨o, p', h', ⟨K, hK⟩, hz⟩ := spec_l01Text_szl l hl n hn n.toNat 0 [] p h (by omega) rfl (by omega) h0 h1
  refine ⟨o, p', h', ⟨K + 1, fun k hk => ?_⟩, hz⟩
  obtain ⟨k, rfl⟩ : ∃ m, k = m + 1 := ⟨k - 1, by omega⟩
  have e4 : spec_l01Text.l0 k n [] 0 l p h = some _ := hK k (by omega)
  simp only [spec_l01Text.f]
  rw [if_neg (by omega)]
  simp only [spec_l01Text.j0]
  rw [e4]

theorem spec_DrawPlaces_l0 (l : List Int) (hl : l.length ≤ 1048576) : ∀ (d i : Nat) (x : List Int) (p h : Int), i + d = 12 → x.length = i → (∀ y ∈ x, 0 ≤ y) → 0 ≤ p → p ≤ (l.length : Int) →
    ∃ o : List Int, Ev (fun k => spec_DrawPlaces.l0 k x (i : Int) l p h) o ∧ o.length = 12 ∧ ∀ y ∈ o, 0 ≤ y
  | 0, i, x, p, h, hi, hx, hy, h0, h1 => by
    refine ⟨x, Ev.step (f := fun _ => some x) (fun k => ?_) (Ev.now _), by omega, hy⟩
    simp only [spec_DrawPlaces.l0]; rw [if_neg (by omega)]
  | d + 1, i, x, p, h, hi, hx, hy, h0, h1 => by
    obtain ⟨b, p', h', e, b0, _, q0, q1⟩ := spec_l01Below_eq l hl p h 10000 (by omega) h0 h1
    obtain ⟨o, ho, h2⟩ := spec_DrawPlaces_l0 l hl d (i + 1) (x ++ [b]) p' h' (by omega) (by simp; omega) (by
      intro y hy'
      rcases List.mem_append.1 hy' with q | q
      · exact hy y q
      · rw [List.mem_singleton.1 q]; exact b0) q0 q1
    refine ⟨o, Ev.step (f := fun k => spec_DrawPlaces.l0 k (x ++ [b]) ((i + 1 : Nat) : Int) l p' h') (fun k => ?_) ho, h2⟩
    simp only [spec_DrawPlaces.l0]
    rw [if_pos (by omega), e, Option.bind_some, if_pos (by omega), w64 (by omega) (by omega)]; rfl
theorem spec_DrawPlaces_ev (l : List Int) (hl : l.length ≤ 1048576) : ∃ o : List Int, Ev (fun k => spec_DrawPlaces.f k l) o ∧ o.length = 12 ∧ ∀ y ∈ o, 0 ≤ y := by
  obtain ⟨g, K1, h1⟩ := spec_l01New_ev l hl
  obtain ⟨b, p', h', e, _, _, q0, q1⟩ := spec_l01Byte_eq l hl 0 g (by omega) (by omega)
  obtain ⟨o, ⟨K2, h2⟩, h3⟩ := spec_DrawPlaces_l0 l hl 12 0 [] p' h' (by omega) rfl (by simp) q0 q1
  refine ⟨o, ⟨K1 + K2, fun k hk => ?_⟩, h3⟩
  have e1 : spec_l01New.f k l = some _ := h1 k (by omega)
  have e2 : spec_DrawPlaces.l0 k [] 0 l p' h' = some _ := h2 k (by omega)
  simp only [spec_DrawPlaces.f]
  rw [e1, Option.bind_some, e, Option.bind_some, e2]

theorem rdOf_names : ∀ b : Int, 0 ≤ b → b < 8 → 1 ≤ (rdOf ByteArray.empty ([(⟨#[97]⟩ : ByteArray), (⟨#[98]⟩ : ByteArray), (⟨#[99]⟩ : ByteArray), (⟨#[106, 48]⟩ : ByteArray), (⟨#[106, 49]⟩ : ByteArray), (⟨#[106, 43]⟩ : ByteArray), (⟨#[115, 48]⟩ : ByteArray), (⟨#[115, 43]⟩ : ByteArray)] : List ByteArray) b).size ∧ (rdOf ByteArray.empty ([(⟨#[97]⟩ : ByteArray), (⟨#[98]⟩ : ByteArray), (⟨#[99]⟩ : ByteArray), (⟨#[106, 48]⟩ : ByteArray), (⟨#[106, 49]⟩ : ByteArray), (⟨#[106, 43]⟩ : ByteArray), (⟨#[115, 48]⟩ : ByteArray), (⟨#[115, 43]⟩ : ByteArray)] : List ByteArray) b).size ≤ 8 := by
  intro b h0 h1
  have hb : b = 0 ∨ b = 1 ∨ b = 2 ∨ b = 3 ∨ b = 4 ∨ b = 5 ∨ b = 6 ∨ b = 7 := by omega
  rcases hb with rfl | rfl | rfl | rfl | rfl | rfl | rfl | rfl
  all_goals exact ⟨by decide, by decide⟩
theorem spec_l01Pick_eq (l : List Int) (hl : l.length ≤ 1048576) (p h : Int) (h0 : 0 ≤ p) (h1 : p ≤ (l.length : Int)) (L : List ByteArray) (hL : 0 < L.length) : ∃ b p' h', spec_l01Pick.f l p h L = some (rdOf ByteArray.empty L b, p', h') ∧ 0 ≤ b ∧ b < (L.length : Int) ∧ 0 ≤ p' ∧ p' ≤ (l.length : Int) := by
  obtain ⟨b, p', h', e, b0, b1, q0, q1⟩ := spec_l01Below_eq l hl p h (L.length : Int) (by omega) h0 h1
  refine ⟨b, p', h', ?_, b0, b1, q0, q1⟩
  simp only [spec_l01Pick.f]
  rw [e, Option.bind_some, if_pos b0, if_pos b1]
theorem spec_l03Named_eq (l : List Int) (hl : l.length ≤ 1048576) (p h : Int) (h0 : 0 ≤ p) (h1 : p ≤ (l.length : Int)) : ∃ n p' h', spec_l03Named.f l p h = some (n, p', h') ∧ 1 ≤ n.size ∧ n.size ≤ 8 ∧ 0 ≤ p' ∧ p' ≤ (l.length : Int) := by
  obtain ⟨b, p', h', e, b0, b1, q0, q1⟩ := spec_l01Pick_eq l hl p h h0 h1 ([(⟨#[97]⟩ : ByteArray), (⟨#[98]⟩ : ByteArray), (⟨#[99]⟩ : ByteArray), (⟨#[106, 48]⟩ : ByteArray), (⟨#[106, 49]⟩ : ByteArray), (⟨#[106, 43]⟩ : ByteArray), (⟨#[115, 48]⟩ : ByteArray), (⟨#[115, 43]⟩ : ByteArray)] : List ByteArray) (by simp)
  have hn := rdOf_names b b0 (by simpa using b1)
  refine ⟨_, p', h', ?_, hn.1, hn.2, q0, q1⟩
  simp only [spec_l03Named.f]
  rw [e, Option.bind_some]
theorem spec_DrawRightDisk_l0 (l : List Int) (hl : l.length ≤ 1048576) : ∀ (d i : Nat) (x : List S36) (p h : Int), i + d = 6 → x.length ≤ i → Up x → 0 ≤ p → p ≤ (l.length : Int) →
    ∃ o : List S36, Ev (fun k => spec_DrawRightDisk.l0 k (i : Int) l p h x) o ∧ o.length ≤ 6 ∧ Up o
  | d, i, x, p, h, hi, hx, hu, h0, h1 => by
    obtain ⟨b, p1, g1, e1, b0, b1, q0, q1⟩ := spec_l01Below_eq l hl p h 6 (by omega) h0 h1
    by_cases c : (i : Int) < b
    · obtain ⟨t, p2, g2, e2, t0, t1, r0, r1⟩ := spec_l01Below_eq l hl p1 g1 30 (by omega) q0 q1
      obtain ⟨o, p3, g3, ⟨K3, h3⟩, hz, s0, s1⟩ := spec_l01Text_sz l hl t (by omega) p2 g2 r0 r1
      obtain ⟨n, p4, g4, e4, n0, n1, u0, u1⟩ := spec_l03Named_eq l hl p3 g3 s0 s1
      obtain ⟨kp, p5, g5, e5, k0, k1, v0, v1⟩ := spec_l01Below_eq l hl p4 g4 ((o.size : Int) + 1) (by omega) u0 u1
      have hfile : fileB (⟨n, o, kp⟩ : S36) = true := decide_eq_true ⟨⟨n0, n1⟩, by show o.size ≤ 20000; omega, k0, by show kp ≤ (o.size : Int); omega⟩
      obtain ⟨K6, h6⟩ := spec_l03Put_ev x (by omega) ⟨n, o, kp⟩
      have hlen := putF_len x ⟨n, o, kp⟩
      match d, hi with
      | 0, hi => omega
      | d + 1, hi =>
        obtain ⟨z, ⟨K7, h7⟩, hz7, hu7⟩ := spec_DrawRightDisk_l0 l hl d (i + 1) (putF x ⟨n, o, kp⟩) p5 g5 (by omega) (by omega) (putF_up hu hfile) v0 v1
        refine ⟨z, ⟨K3 + K6 + K7 + 1, fun k hk => ?_⟩, hz7, hu7⟩
        obtain ⟨k, rfl⟩ : ∃ m, k = m + 1 := ⟨k - 1, by omega⟩
        have f3 : spec_l01Text.f k l p2 g2 t = some _ := h3 k (by omega)
        have f6 : spec_l03Put.f k x n o kp = some _ := h6 k (by omega)
        have f7 : spec_DrawRightDisk.l0 k ((i + 1 : Nat) : Int) l p5 g5 (putF x ⟨n, o, kp⟩) = some _ := h7 k (by omega)
        show spec_DrawRightDisk.l0 (k + 1) (i : Int) l p h x = some z
        simp only [spec_DrawRightDisk.l0]
        rw [e1, Option.bind_some, if_pos c, e2, Option.bind_some, f3, Option.bind_some, e4, Option.bind_some, w64 (n := (o.size : Int) + 1) (by omega) (by omega), e5, Option.bind_some, f6, Option.bind_some, w64 (n := (i : Int) + 1) (by omega) (by omega)]
        exact f7
    · refine ⟨x, ⟨1, fun k hk => ?_⟩, by omega, hu⟩
      obtain ⟨k, rfl⟩ : ∃ m, k = m + 1 := ⟨k - 1, by omega⟩
      show spec_DrawRightDisk.l0 (k + 1) (i : Int) l p h x = some x
      simp only [spec_DrawRightDisk.l0]
      rw [e1, Option.bind_some, if_neg c]
theorem spec_DrawRightDisk_ev (l : List Int) (hl : l.length ≤ 1048576) : ∃ o : List S36, Ev (fun k => spec_DrawRightDisk.f k l) o ∧ o.length ≤ 6 ∧ Up o := by
  obtain ⟨g, K1, h1⟩ := spec_l01New_ev l hl
  obtain ⟨o, ⟨K2, h2⟩, h3⟩ := spec_DrawRightDisk_l0 l hl 6 0 [] 0 g rfl (by simp) ⟨List.Pairwise.nil, by simp⟩ (by omega) (by omega)
  refine ⟨o, ⟨K1 + K2, fun k hk => ?_⟩, h3⟩
  have e1 : spec_l01New.f k l = some _ := h1 k (by omega)
  have e2 : spec_DrawRightDisk.l0 k 0 l 0 g [] = some _ := h2 k (by omega)
  simp only [spec_DrawRightDisk.f]
  rw [e1, Option.bind_some, e2]
theorem laws_lefts_l0 (p : List Int) (hp : p.length = 12) : ∀ (d i : Nat) (x : List Int), i + d = 6 → x.length = i → ∃ o : List Int, Ev (fun k => laws_lefts.l0 k p x (i : Int)) o
  | 0, i, x, hi, hx => by
    refine ⟨x, Ev.step (f := fun _ => some x) (fun k => ?_) (Ev.now _)⟩
    simp only [laws_lefts.l0]; rw [if_neg (by omega)]
  | d + 1, i, x, hi, hx => by
    obtain ⟨o, ho⟩ := laws_lefts_l0 p hp d (i + 1) (x ++ [Int.tmod (rd p (i : Int)) 300]) (by omega) (by simp; omega)
    refine ⟨o, Ev.step (f := fun k => laws_lefts.l0 k p (x ++ [Int.tmod (rd p (i : Int)) 300]) ((i + 1 : Nat) : Int)) (fun k => ?_) ho⟩
    simp only [laws_lefts.l0]
    rw [if_pos (by omega), if_pos (by omega), if_pos (by omega), if_pos (by omega), w64 (by omega) (by omega)]; rfl
/-- What is kept of a file whose all is kept: all. -/
theorem keepN_all (K : Int) (h : 0 ≤ K) : keepN 0 K K = K := by
  unfold keepN
  repeat' split
  all_goals omega
theorem keepN_least (n s kept : Int) : kept ≤ keepN n s kept := by
  unfold keepN
  repeat' split
  all_goals omega
theorem loseF_size (left : List Int) (x : S36) (i : Nat) (h : fileB x = true) : ((loseF left x i).f1.size : Int) = (loseF left x i).f2 ∧ x.f2 ≤ (loseF left x i).f2 ∧ (loseF left x i).f2 ≤ (x.f1.size : Int) ∧ 0 ≤ (loseF left x i).f2 := by
  obtain ⟨_, _, h3, h4⟩ := of_decide_eq_true h
  have hb := keepN_bounds (n := leftN left i) h3 h4
  have hl := keepN_least (leftN left i) (x.f1.size : Int) x.f2
  refine ⟨?_, hl, hb.2, hb.1⟩
  show ((x.f1.extract 0 (keepN (leftN left i) (x.f1.size : Int) x.f2).toNat).size : Int) = keepN (leftN left i) (x.f1.size : Int) x.f2
  rw [← bytesOf_length, bytesOf_ext, List.length_take, List.drop_zero, bytesOf_length]
  omega
theorem loseF_good (left : List Int) (x : S36) (i : Nat) (h : fileB x = true) : fileB (loseF left x i) = true := by
  obtain ⟨h1, h2, h3, h4⟩ := of_decide_eq_true h
  obtain ⟨g1, g2, g3, g4⟩ := loseF_size left x i h
  exact decide_eq_true ⟨h1, by omega, g4, by omega⟩
theorem loseL_dk (left : List Int) : ∀ (l : List S36) (p : Option ByteArray) (i : Nat), dkL p l = true → dkL p (loseL left l i) = true
  | [], _, _, _ => rfl
  | x :: xs, p, i, h => by
    simp only [dkL] at h
    by_cases c : fileB x = true ∧ (∀ q, p = some q → Op.bytesLess q.toList x.f0.toList = true)
    · rw [if_pos c] at h
      simp only [loseL, dkL]
      rw [if_pos ⟨loseF_good left x i c.1, c.2⟩]
      exact loseL_dk left xs _ (i + 1) h
    · rw [if_neg c] at h; cases h
theorem loseL_twice (left : List Int) : ∀ (l : List S36) (i : Nat), (∀ x ∈ l, fileB x = true) → loseL [] (loseL left l i) i = loseL left l i
  | [], _, _ => rfl
  | x :: xs, i, h => by
    simp only [loseL]
    rw [loseL_twice left xs (i + 1) (fun y hy => h y (List.mem_cons_of_mem _ hy))]
    congr 1
    obtain ⟨g1, g2, g3, g4⟩ := loseF_size left x i (h x List.mem_cons_self)
    generalize loseF left x i = y at g1 g2 g3 g4 ⊢
    have hn : leftN [] i = 0 := by unfold leftN; rw [if_neg (by simp)]
    show (⟨y.f0, y.f1.extract 0 (keepN (leftN [] i) (y.f1.size : Int) y.f2).toNat, keepN (leftN [] i) (y.f1.size : Int) y.f2⟩ : S36) = y
    rw [hn, g1, keepN_all _ g4, ← g1, Int.toNat_natCast, extract_all, g1]
theorem loseL_at (left : List Int) : ∀ (l : List S36) (i j : Nat), j < l.length → (loseL left l i).getD j z36 = loseF left (l.getD j z36) (i + j)
  | [], _, _, h => by simp at h
  | x :: xs, i, 0, _ => rfl
  | x :: xs, i, j + 1, h => by
    have := loseL_at left xs (i + 1) j (by simpa using h)
    simp only [loseL, List.getD_cons_succ]
    rw [this, show i + 1 + j = i + (j + 1) by omega]
theorem loseL_kept (left : List Int) : ∀ (l : List S36) (i : Nat), (∀ x ∈ l, fileB x = true) → ((loseL left l i).any fun x => (x.f2 != (x.f1.size : Int))) = false
  | [], _, _ => rfl
  | x :: xs, i, h => by
    obtain ⟨g1, _⟩ := loseF_size left x i (h x List.mem_cons_self)
    simp only [loseL, List.any_cons]
    rw [loseL_kept left xs (i + 1) (fun y hy => h y (List.mem_cons_of_mem _ hy)), g1]
    simp
theorem laws_sameDisk_l0 (l : List S36) (hl : l.length ≤ 140737488351232) : ∀ (d i : Nat), i + d = l.length → Ev (fun k => laws_sameDisk.l0 k (i : Int) l l) true
  | 0, i, hd => by
    refine Ev.step (f := fun _ => some true) (fun k => ?_) (Ev.now _)
    simp only [laws_sameDisk.l0]; rw [if_neg (by omega)]
  | d + 1, i, hd => by
    refine Ev.step (f := fun k => laws_sameDisk.l0 k ((i + 1 : Nat) : Int) l l) (fun k => ?_) (laws_sameDisk_l0 l hl d (i + 1) (by omega))
    simp only [laws_sameDisk.l0]
    rw [if_pos (by omega), if_pos (by omega), if_pos (by omega), if_neg (by simp), w64 (by omega) (by omega)]; rfl
theorem begins_eq (a b : ByteArray) (n : Nat) (hn : n ≤ b.size) (h : a = b.extract 0 n) : laws_begins.f a b = some true := by
  have hz : a.size = n := by rw [h, ← bytesOf_length, bytesOf_ext, List.length_take, List.drop_zero, bytesOf_length]; omega
  simp only [laws_begins.f]
  rw [if_pos (by omega), if_pos (by omega), Int.toNat_natCast, hz, h]
  simp
theorem keeps_l0 (left : List Int) (l : List S36) (hl : l.length ≤ 1000) (hF : ∀ x ∈ l, fileB x = true) : ∀ (d i : Nat), i + d = l.length → Ev (fun k => laws_FnKeeps.l0 k (i : Int) l (loseL left l 0)) true
  | 0, i, hd => by
    refine Ev.step (f := fun _ => some true) (fun k => ?_) (Ev.now _)
    simp only [laws_FnKeeps.l0]; rw [if_neg (by omega)]
  | d + 1, i, hd => by
    refine Ev.step (f := fun k => laws_FnKeeps.l0 k ((i + 1 : Nat) : Int) l (loseL left l 0)) (fun k => ?_) (keeps_l0 left l hl hF d (i + 1) (by omega))
    have hlen := loseL_len left l 0
    have hx := hF _ (getD_mem z36 (show i < l.length by omega))
    have hat := loseL_at left l 0 i (by omega)
    rw [Nat.zero_add] at hat
    obtain ⟨g1, g2, g3, g4⟩ := loseF_size left (l.getD i z36) i hx
    obtain ⟨_, _, h3, h4⟩ := of_decide_eq_true hx
    simp only [laws_FnKeeps.l0, rdF, hat]
    have hw : wrap64 ((i : Int) + 1) = ((i + 1 : Nat) : Int) := by rw [w64 (by omega) (by omega)]; rfl
    generalize hxx : l.getD i z36 = x at g1 g2 g3 g4 h3 h4 hx ⊢
    have hf1 : (loseF left x i).f1 = x.f1.extract 0 (loseF left x i).f2.toNat := rfl
    have hf0 : (loseF left x i).f0 = x.f0 := rfl
    have b1 : laws_begins.f (loseF left x i).f1 x.f1 = some true := begins_eq _ _ (loseF left x i).f2.toNat (by omega) hf1
    have b2 : laws_begins.f (x.f1.extract 0 x.f2.toNat) (loseF left x i).f1 = some true := by
      refine begins_eq _ _ x.f2.toNat (by omega) ?_
      rw [hf1]
      apply bytesOf_inj
      rw [bytesOf_ext, bytesOf_ext, bytesOf_ext, List.drop_zero, List.drop_zero, Nat.sub_zero, Nat.sub_zero, List.take_take, Nat.min_eq_left (by omega)]
    rw [if_pos (by omega), if_pos (by omega), if_pos (by omega), hf0, if_pos rfl, b1, Option.bind_some, if_pos rfl, if_pos h3, if_pos h4, b2, Option.bind_some, if_pos rfl, hw]
theorem FnKeeps (l : List Int) (_ : l.length ≤ 9223372036854775807 ∧ ∀ y ∈ l, (Lit.int .u8 y).wf = true) : ∃ k, laws_FnKeeps.f k l = some true := by
  by_cases c : (l.length : Int) > 1048576
  · refine ⟨0, ?_⟩
    simp only [laws_FnKeeps.f, laws_big.f]
    rw [Option.bind_some, if_pos (decide_eq_true c)]
  obtain ⟨d, ⟨K1, h1⟩, hd6, hu⟩ := spec_DrawRightDisk_ev l (by omega)
  obtain ⟨p, ⟨K2, h2⟩, hp, _⟩ := spec_DrawPlaces_ev l (by omega)
  obtain ⟨left, K3, h3⟩ := laws_lefts_l0 p hp 6 0 [] rfl rfl
  have hdk : diskC d = true := diskC_up hu (by omega)
  have hlen := loseL_len left d 0
  have hek : diskC (loseL left d 0) = true := by
    unfold diskC at hdk ⊢
    rw [Bool.and_eq_true] at hdk ⊢
    exact ⟨by rw [hlen]; exact hdk.1, loseL_dk left d none 0 hdk.2⟩
  obtain ⟨K4, h4⟩ := impl_LoseDisk_ev left d (by omega)
  obtain ⟨K5, h5⟩ := impl_LoseDisk_ev [] (loseL left d 0) (by omega)
  rw [show loseC left d = (loseL left d 0, true) from if_pos hdk] at h4
  rw [show loseC [] (loseL left d 0) = (loseL left d 0, true) from by unfold loseC; rw [if_pos hek, loseL_twice left d 0 hu.2]] at h5
  obtain ⟨K6, h6⟩ := laws_sameDisk_l0 (loseL left d 0) (by omega) (loseL left d 0).length 0 (by omega)
  obtain ⟨K7, h7⟩ := impl_DiskOk_ev (loseL left d 0) (by omega)
  obtain ⟨K8, h8⟩ := impl_DiskOk_ev d (by omega)
  obtain ⟨K9, h9⟩ := keeps_l0 left d (by omega) hu.2 d.length 0 (by omega)
  refine ⟨K1 + K2 + K3 + K4 + K5 + K6 + K7 + K8 + K9 + 1, ?_⟩
  generalize hk : K1 + K2 + K3 + K4 + K5 + K6 + K7 + K8 + K9 = k
  have e1 : spec_DrawRightDisk.f (k + 1) l = some _ := h1 _ (by omega)
  have e2 : spec_DrawPlaces.f (k + 1) l = some _ := h2 _ (by omega)
  have e3 : laws_lefts.l0 (k + 1) p [] 0 = some _ := h3 _ (by omega)
  have e4 : impl_LoseDisk.f (k + 1) d left = some _ := h4 _ (by omega)
  have e5 : impl_LoseDisk.f (k + 1) (loseL left d 0) [] = some _ := h5 _ (by omega)
  have e6 : laws_sameDisk.l0 (k + 1) 0 (loseL left d 0) (loseL left d 0) = some _ := h6 _ (by omega)
  have e7 : impl_DiskOk.f (k + 1) (loseL left d 0) = some _ := h7 _ (by omega)
  have e8 : impl_DiskOk.f (k + 1) d = some _ := h8 _ (by omega)
  have e9 : laws_FnKeeps.l0 k 0 d (loseL left d 0) = some _ := h9 _ (by omega)
  have hkept := loseL_kept left d 0 hu.2
  have hlenI : ((loseL left d 0).length : Int) = (d.length : Int) := by omega
  simp only [laws_FnKeeps.f, laws_big.f, laws_lefts.f, laws_sameDisk.f, impl_AllKept.f]
  rw [Option.bind_some, if_neg (by simpa using c), e1, Option.bind_some, e2, Option.bind_some, e3, Option.bind_some, e4, Option.bind_some]
  simp only []
  rw [e5, Option.bind_some, if_pos rfl, if_pos rfl, if_pos hlenI, if_pos trivial]
  simp only []
  rw [e6, Option.bind_some, if_pos rfl, e7, Option.bind_some, if_pos hek, hkept, Option.bind_some, if_pos (show (!false) = true from rfl), e8, Option.bind_some, hdk]
  simp only [laws_FnKeeps.j0]
  rw [if_neg (by simp), e9]

end Go.Proofs.Ytghhepailkkneaa.Pure
