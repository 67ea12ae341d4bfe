/- For every text, the program's PartsOf returns what the reference's PartsOf returns, in memory of its own, and so at a second call: FnExactPartsOf returns true. The condition is the row's own: the tables of the library hold what its text lays there (tied by the given ties). -/
import Derived.Test.YtpmdcplmnipdeaaDoorQFnExactPartsOfx2
namespace Go.Proofs.YtpmdcplmnipdeaaDoor.Pure
open Go.RowKit Go.Proofs.YtpmdcplmnipdeaaDoor.PFnExactPartsOf Go.Proofs.YtpmdcplmnipdeaaDoorW.PrintWords Go.Proofs.YtpmdcplmnipdeaaDoorW.PrintLast Go.Proofs.YtpmdcplmnipdeaaDoorW.PrintMore

/-! ### texts as lists of bytes -/
theorem bytesOf_range (s : ByteArray) : ∀ b ∈ bytesOf s, 0 ≤ b ∧ b ≤ 255 := by
  intro b hb
  obtain ⟨u, _, rfl⟩ := List.mem_map.1 hb
  have := u.toNat_lt
  omega
theorem bytesOf_inj {s t : ByteArray} (h : bytesOf s = bytesOf t) : s = t := by
  apply ByteArray.ext
  apply Array.toList_inj.1
  unfold bytesOf at h
  refine (List.map_inj_right ?_).1 h
  intro a b hab
  exact UInt8.toNat_inj.1 (by omega)
theorem bytesOf_app (s t : ByteArray) : bytesOf (s ++ t) = bytesOf s ++ bytesOf t := by
  simp [bytesOf]
theorem bytesOf_ext (s : ByteArray) (a b : Nat) : bytesOf (s.extract a b) = ((bytesOf s).drop a).take (b - a) := by
  simp [bytesOf, List.map_take, List.map_drop]
theorem bytesOf_str (xs : List Int) (h : ∀ b ∈ xs, 0 ≤ b ∧ b ≤ 255) : bytesOf (strOfNums xs) = xs := by
  unfold bytesOf
  rw [strOfNums_data, List.map_map]
  conv => rhs; rw [← List.map_id xs]
  refine List.map_congr_left fun b hb => ?_
  have := h b hb
  simp only [Function.comp_apply, id_eq, UInt8.toNat_ofNat']
  omega
theorem str_bytesOf (s : ByteArray) : strOfNums (bytesOf s) = s := bytesOf_inj (bytesOf_str _ (bytesOf_range s))
theorem bytesOf_nil : bytesOf (⟨#[]⟩ : ByteArray) = [] := rfl
theorem toList_iff {s t : ByteArray} : s.toList = t.toList ↔ s = t := by
  constructor
  · intro h
    rw [ByteArray.toList_eq, ByteArray.toList_eq] at h
    exact ByteArray.ext (Array.toList_inj.1 h)
  · rintro rfl; rfl
theorem bt_getElem {s : ByteArray} {i : Int} (h1 : i.toNat < s.size) : (bytesOf s)[i.toNat]? = some (bt s i) := by
  rw [← rd_bytesOf]
  unfold rd
  rw [List.getD_eq_getElem?_getD, List.getElem?_eq_getElem (by rw [bytesOf_length]; exact h1)]; rfl
theorem bytesOf_drop {s : ByteArray} {i : Int} (h0 : 0 ≤ i) (h : i < (s.size : Int)) : (bytesOf s).drop i.toNat = bt s i :: (bytesOf s).drop (i + 1).toNat := by
  have hl : i.toNat < (bytesOf s).length := by rw [bytesOf_length]; omega
  rw [List.drop_eq_getElem_cons hl, show (i + 1).toNat = i.toNat + 1 by omega]
  congr 1
  have := bt_getElem (s := s) (i := i) (by omega)
  rw [List.getElem?_eq_getElem hl] at this
  exact Option.some.inj this
theorem bytesOf_drop_end {s : ByteArray} {i : Int} (h : ¬ i < (s.size : Int)) : (bytesOf s).drop i.toNat = [] := by
  apply List.drop_eq_nil_of_le
  rw [bytesOf_length]; omega
theorem extract_all (s : ByteArray) : s.extract 0 s.size = s := bytesOf_inj (by rw [bytesOf_ext, List.drop_zero, Nat.sub_zero, ← bytesOf_length, List.take_length])
theorem w64 {n : Int} (h0 : -9223372036854775808 ≤ n) (h1 : n ≤ 9223372036854775807) : wrap64 n = n := by
  unfold wrap64; omega
theorem i64wf {n : Int} (h : (Lit.int .i64 n).wf = true) : -9223372036854775808 ≤ n ∧ n ≤ 9223372036854775807 := by
  simp [Lit.wf, IntKind.min, IntKind.max, IntKind.bits, IntKind.signed] at h
  omega
theorem u32wf {n : Int} (h : (Lit.int .u32 n).wf = true) : 0 ≤ n ∧ n ≤ 4294967295 := by
  simp [Lit.wf, IntKind.min, IntKind.max, IntKind.bits, IntKind.signed] at h
  omega
theorem tmod_nat {n : Int} (h : 0 ≤ n) (m : Int) : Int.tmod n m = n % m := Int.tmod_eq_emod_of_nonneg h
theorem tdiv_nat {n : Int} (h : 0 ≤ n) (m : Int) : Int.tdiv n m = n / m := Int.tdiv_eq_ediv_of_nonneg h

theorem impl_in_eq (a b c : Int) : impl_in.f a b c = some (decide (b ≤ a ∧ a ≤ c)) := by
  unfold impl_in.f
  by_cases h : a ≥ b
  · rw [if_pos h]; simp [show b ≤ a from h]
  · rw [if_neg h]; simp [show ¬ b ≤ a from h]

/-! ### the parts of a line -/
def prB (b : UInt8) : Bool := decide (32 ≤ b.toNat ∧ b.toNat ≤ 126)
def mkB (l : List UInt8) : ByteArray := ⟨l.toArray⟩
def finP (parts : List ByteArray) (ok : Bool) : List ByteArray × Bool := if ok = true then (if (parts.length : Int) > 10 then ([], false) else (parts, true)) else ([], false)
def ptC (s : ByteArray) : List ByteArray × Bool := if (s.size : Int) > 600 then ([], false) else finP (fieldsT s) (s.data.toList.all prB)
theorem cntF_le : ∀ (l : List UInt8) (ws : Bool), Lib.cntF ws l ≤ l.length
  | [], _ => Nat.le_refl _
  | b :: l, ws => by
    have := cntF_le l (Lib.isSp b)
    simp only [Lib.cntF, List.length_cons]
    split <;> omega
theorem fieldsT_len (s : ByteArray) : (fieldsT s).length ≤ s.size := by
  have h := Lib.fieldsGo_length s.data.toList []
  have h2 := cntF_le s.data.toList true
  have h3 : s.data.toList.length = s.size := by rw [Array.length_toList]; rfl
  simp only [fieldsT, Lib.fields, List.length_map, h, List.isEmpty_nil, if_true]
  omega
theorem ptC_len (s : ByteArray) : (ptC s).1.length ≤ 10 := by
  unfold ptC finP
  split
  · simp
  · split
    · split
      · simp
      · simp only; omega
    · simp
theorem at_byte {s : ByteArray} {i : Nat} (h : i < s.size) : ∃ b : UInt8, s.data.toList[i]? = some b ∧ s.data.toList.drop i = b :: s.data.toList.drop (i + 1) ∧ bt s (i : Int) = (b.toNat : Int) := by
  have hl : i < s.data.toList.length := by rw [Array.length_toList]; exact h
  refine ⟨s.data.toList[i], List.getElem?_eq_getElem hl, List.drop_eq_getElem_cons hl, ?_⟩
  have h1 := bt_getElem (s := s) (i := (i : Int)) (by simpa using h)
  simp only [bytesOf, List.getElem?_map, Int.toNat_natCast, List.getElem?_eq_getElem hl, Option.map_some, Option.some.injEq] at h1
  exact h1.symm
theorem sp_printable {b : UInt8} (h : prB b = true) : Lib.isSp b = true ↔ ((b.toNat : Int) = 32) := by
  have hb := of_decide_eq_true h
  simp only [Lib.isSp, Bool.or_eq_true, beq_iff_eq]
  constructor
  · rintro (((((rfl | rfl) | rfl) | rfl) | rfl) | rfl) <;> simp at hb ⊢
  · intro h2
    right
    apply UInt8.toNat_inj.1
    show b.toNat = 32
    omega
theorem extract_mk (s : ByteArray) (a b : Nat) : s.extract a b = mkB ((s.data.toList.drop a).take (b - a)) := by
  apply ByteArray.ext
  apply Array.toList_inj.1
  simp [mkB, ByteArray.data_extract]
theorem take_more {l : List UInt8} {a i : Nat} {b : UInt8} (h : l[i]? = some b) (ha : a ≤ i) : (l.drop a).take (i + 1 - a) = (l.drop a).take (i - a) ++ [b] := by
  rw [show i + 1 - a = (i - a) + 1 by omega, List.take_add_one, List.getElem?_drop, show a + (i - a) = i by omega, h]
  rfl
theorem cur_empty {l : List UInt8} {a i : Nat} (ha : a ≤ i) (hi : i ≤ l.length) : ((l.drop a).take (i - a)).isEmpty = decide (a = i) := by
  by_cases h : a = i
  · subst h; simp
  · rw [decide_eq_false h, ← Bool.not_eq_true, List.isEmpty_iff, ← List.length_eq_zero_iff, List.length_take, List.length_drop]
    omega

theorem impl_PartsOf_l0 (s : ByteArray) (hs : s.size ≤ 600) : ∀ (d i : Nat), i + d = s.size → (s.data.toList.take i).all prB = true →
    Ev (fun k => impl_PartsOf.l0 k s (s.size : Int) (i : Int)) (finP (fieldsT s) ((s.data.toList.drop i).all prB))
  | 0, i, hd, hp => by
    have hl : s.data.toList.length = s.size := by rw [Array.length_toList]; rfl
    have hlen := fieldsT_len s
    have hall : s.data.toList.all prB = true := by rwa [List.take_of_length_le (by omega)] at hp
    have hF : strings_Fields.f s = some (fieldsT s) := by
      unfold strings_Fields.f
      rw [if_pos]
      rw [Bool.and_eq_true, Bool.and_eq_true]
      refine ⟨⟨decide_eq_true (by omega), List.all_eq_true.2 fun b hb => ?_⟩, decide_eq_true (by omega)⟩
      have := of_decide_eq_true (List.all_eq_true.1 hall b hb)
      exact decide_eq_true (by omega)
    rw [List.drop_eq_nil_of_le (by omega), List.all_nil]
    refine Ev.step (f := fun _ => some (finP (fieldsT s) true)) (fun k => ?_) (Ev.now _)
    simp only [impl_PartsOf.l0]
    rw [if_neg (by omega), hF, Option.bind_some]
    simp only [finP, if_true]
    split <;> rfl
  | d + 1, i, hd, hp => by
    have hl : s.data.toList.length = s.size := by rw [Array.length_toList]; rfl
    obtain ⟨b, hb, hdrop, hbt⟩ := at_byte (s := s) (i := i) (by omega)
    have hw : wrap64 ((i : Int) + 1) = ((i + 1 : Nat) : Int) := by rw [w64 (by omega) (by omega)]; rfl
    have hb8 : b.toNat < 256 := b.toNat_lt
    have hwb : wrap64 (b.toNat : Int) = (b.toNat : Int) := w64 (by omega) (by omega)
    rw [hdrop, List.all_cons]
    by_cases hpb : prB b = true
    · have hpr := of_decide_eq_true hpb
      rw [hpb, Bool.true_and]
      refine Ev.step (f := fun k => impl_PartsOf.l0 k s (s.size : Int) ((i + 1 : Nat) : Int)) (fun k => ?_) (impl_PartsOf_l0 s hs d (i + 1) (by omega) (by
        rw [List.take_add_one, hb, List.all_append, hp]; simp [hpb]))
      simp only [impl_PartsOf.l0]
      rw [if_pos (by omega), if_pos (by omega), if_pos (by omega), hbt, hwb, impl_in_eq, Option.bind_some, if_pos (decide_eq_true (by omega)), hw]
    · rw [Bool.eq_false_iff.mpr hpb, Bool.false_and]
      have hn : ¬ (32 ≤ b.toNat ∧ b.toNat ≤ 126) := fun h => hpb (decide_eq_true h)
      refine Ev.step (f := fun _ => some ([], false)) (fun k => ?_) (Ev.now _)
      simp only [impl_PartsOf.l0]
      rw [if_pos (by omega), if_pos (by omega), if_pos (by omega), hbt, hwb, impl_in_eq, Option.bind_some, if_neg (by rw [decide_eq_true_eq]; omega)]
theorem impl_PartsOf_ev (s : ByteArray) : Ev (fun k => impl_PartsOf.f k s) (ptC s) := by
  by_cases h : (s.size : Int) > 600
  · refine ⟨0, fun k _ => ?_⟩
    simp only [impl_PartsOf.f, ptC]
    rw [if_pos h, if_pos h]
  · obtain ⟨K, hK⟩ := impl_PartsOf_l0 s (by omega) s.size 0 (by omega) rfl
    refine ⟨K, fun k hk => ?_⟩
    have e : impl_PartsOf.l0 k s (s.size : Int) 0 = _ := hK k hk
    simp only [impl_PartsOf.f, ptC]
    rw [if_neg h, if_neg h]
    exact e

theorem spec_PartsOf_l0 (s : ByteArray) (hs : s.size ≤ 600) : ∀ (d i : Nat) (out : List ByteArray) (a : Nat), i + d = s.size → a ≤ i → out.length ≤ i →
    Ev (fun k => spec_PartsOf.l0 k s out (a : Int) (i : Int)) (finP (out ++ (Lib.fieldsGo ((s.data.toList.drop a).take (i - a)) (s.data.toList.drop i)).map mkB) ((s.data.toList.drop i).all prB))
  | 0, i, out, a, hd, ha, ho => by
    have hl : s.data.toList.length = s.size := by rw [Array.length_toList]; rfl
    have hnil : s.data.toList.drop i = [] := List.drop_eq_nil_of_le (by omega)
    have hw : wrap64 ((i : Int) + 1) = ((i + 1 : Nat) : Int) := by rw [w64 (by omega) (by omega)]; rfl
    have done : ∀ (q : List ByteArray), Ev (fun k => spec_PartsOf.l0 k s q ((i + 1 : Nat) : Int) ((i + 1 : Nat) : Int)) (finP q true) := fun q => by
      refine Ev.step (f := fun _ => some (finP q true)) (fun k => ?_) (Ev.now _)
      simp only [spec_PartsOf.l0]
      rw [if_neg (by omega)]
      simp only [finP, if_true]
      split <;> rfl
    rw [hnil]
    simp only [Lib.fieldsGo, List.all_nil]
    rw [cur_empty ha (by omega)]
    by_cases he : a = i
    · rw [decide_eq_true he, if_pos rfl, List.map_nil, List.append_nil]
      refine Ev.step (f := fun k => spec_PartsOf.j1 k s out (a : Int) (i : Int) false) (fun k => ?_) (Ev.step (f := fun k => spec_PartsOf.j2 k s out (a : Int) (i : Int) false) (fun k => ?_) (Ev.step (fun k => ?_) (done out)))
      · simp only [spec_PartsOf.l0]
        rw [if_pos (by omega), if_neg (by omega)]
      · simp only [spec_PartsOf.j1]
        rw [if_neg (by simp), if_neg (by omega)]
      · simp only [spec_PartsOf.j2]
        rw [if_neg (by simp), if_neg (by omega), hw]
    · rw [decide_eq_false he, if_neg (by simp), List.map_cons, List.map_nil]
      refine Ev.step (f := fun k => spec_PartsOf.j1 k s out (a : Int) (i : Int) false) (fun k => ?_) (Ev.step (f := fun k => spec_PartsOf.j2 k s out (a : Int) (i : Int) false) (fun k => ?_) (Ev.step (fun k => ?_) (done _)))
      · simp only [spec_PartsOf.l0]
        rw [if_pos (by omega), if_neg (by omega)]
      · simp only [spec_PartsOf.j1]
        rw [if_neg (by simp), if_neg (by omega)]
      · simp only [spec_PartsOf.j2]
        rw [if_neg (by simp), if_pos (by omega), if_pos (by omega), if_pos (by omega), if_pos (by omega), if_pos (by omega), hw, Int.toNat_natCast, Int.toNat_natCast, extract_mk]
  | d + 1, i, out, a, hd, ha, ho => by
    have hl : s.data.toList.length = s.size := by rw [Array.length_toList]; rfl
    obtain ⟨b, hb, hdrop, hbt⟩ := at_byte (s := s) (i := i) (by omega)
    have hw : wrap64 ((i : Int) + 1) = ((i + 1 : Nat) : Int) := by rw [w64 (by omega) (by omega)]; rfl
    rw [hdrop]
    simp only [List.all_cons]
    by_cases hp : prB b = true
    · have hpb := of_decide_eq_true hp
      rw [hp, Bool.true_and]
      have first : ∀ (k : Nat), spec_PartsOf.l0 (k + 1) s out (a : Int) (i : Int) = spec_PartsOf.j1 k s out (a : Int) (i : Int) false := fun k => by
        simp only [spec_PartsOf.l0]
        rw [if_pos (by omega), if_pos (by omega), if_pos (by omega), hbt, if_neg (by omega), decide_eq_false (by omega)]
      have second : ∀ (k : Nat), spec_PartsOf.j1 (k + 1) s out (a : Int) (i : Int) false = spec_PartsOf.j2 k s out (a : Int) (i : Int) ((b.toNat : Int) != 32) := fun k => by
        simp only [spec_PartsOf.j1]
        rw [if_neg (by simp), if_pos (by omega), if_pos (by omega), hbt]
      by_cases hsp : (b.toNat : Int) = 32
      · have e1 : Lib.isSp b = true := (sp_printable hp).2 hsp
        simp only [Lib.fieldsGo]
        rw [if_pos e1, cur_empty ha (by omega)]
        have hne : ((b.toNat : Int) != 32) = false := bne_eq_false_iff_eq.mpr hsp
        have empty : ((s.data.toList.drop (i + 1)).take (i + 1 - (i + 1))) = [] := by simp
        by_cases he : a = i
        · rw [decide_eq_true he, if_pos rfl]
          have ih := spec_PartsOf_l0 s hs d (i + 1) out (i + 1) (by omega) (Nat.le_refl _) (by omega)
          rw [empty] at ih
          refine Ev.step (fun k => first k) (Ev.step (fun k => second k) (Ev.step (fun k => ?_) ih))
          rw [hne]
          simp only [spec_PartsOf.j2]
          rw [if_neg (by simp), if_neg (by omega), hw]
        · rw [decide_eq_false he, if_neg (by simp), List.map_cons]
          have ih := spec_PartsOf_l0 s hs d (i + 1) (out ++ [mkB ((s.data.toList.drop a).take (i - a))]) (i + 1) (by omega) (Nat.le_refl _) (by simp; omega)
          rw [empty, List.append_assoc, List.singleton_append] at ih
          refine Ev.step (fun k => first k) (Ev.step (fun k => second k) (Ev.step (fun k => ?_) ih))
          rw [hne]
          simp only [spec_PartsOf.j2]
          rw [if_neg (by simp), if_pos (by omega), if_pos (by omega), if_pos (by omega), if_pos (by omega), if_pos (by omega), hw, Int.toNat_natCast, Int.toNat_natCast, extract_mk]
      · have e1 : ¬ Lib.isSp b = true := fun h => hsp ((sp_printable hp).1 h)
        simp only [Lib.fieldsGo]
        rw [if_neg e1]
        have hne : ((b.toNat : Int) != 32) = true := bne_iff_ne.mpr hsp
        have ih := spec_PartsOf_l0 s hs d (i + 1) out a (by omega) (by omega) (by omega)
        rw [take_more hb ha] at ih
        refine Ev.step (fun k => first k) (Ev.step (fun k => second k) (Ev.step (fun k => ?_) ih))
        rw [hne]
        simp only [spec_PartsOf.j2]
        rw [if_pos trivial, hw]
    · rw [Bool.eq_false_iff.mpr hp, Bool.false_and]
      have hn : ¬ (32 ≤ b.toNat ∧ b.toNat ≤ 126) := fun h => hp (decide_eq_true h)
      refine Ev.step (f := fun k => spec_PartsOf.j1 k s out (a : Int) (i : Int) true) (fun k => ?_) (Ev.step (f := fun _ => some ([], false)) (fun k => ?_) (Ev.now _))
      · simp only [spec_PartsOf.l0]
        rw [if_pos (by omega), if_pos (by omega), if_pos (by omega), hbt]
        by_cases h32 : (b.toNat : Int) < 32
        · rw [if_pos h32]
        · rw [if_neg h32, decide_eq_true (by omega)]
      · simp only [spec_PartsOf.j1]
        rw [if_pos trivial]
theorem spec_PartsOf_ev (s : ByteArray) : Ev (fun k => spec_PartsOf.f k s) (ptC s) := by
  by_cases h : (s.size : Int) > 600
  · refine ⟨0, fun k _ => ?_⟩
    simp only [spec_PartsOf.f, Option.bind_some, ptC]
    rw [if_pos h, if_pos h]
  · obtain ⟨K, hK⟩ := spec_PartsOf_l0 s (by omega) s.size 0 [] 0 (by omega) (Nat.le_refl _) (Nat.le_refl _)
    refine ⟨K, fun k hk => ?_⟩
    have e : spec_PartsOf.l0 k s [] 0 0 = _ := hK k hk
    simp only [spec_PartsOf.f, Option.bind_some, ptC]
    rw [if_neg h, if_neg h]
    refine e.trans ?_
    rfl

theorem drop_rd {l : List Int} {i : Nat} (h : i < l.length) : l.drop i = rd l (i : Int) :: l.drop (i + 1) := by
  rw [List.drop_eq_getElem_cons h]
  congr 1
  unfold rd
  rw [Int.toNat_natCast, List.getD_eq_getElem?_getD, List.getElem?_eq_getElem h]; rfl
theorem take_set_succ {α : Type} (l : List α) (i : Nat) (v : α) (h : i < l.length) : (l.set i v).take (i + 1) = l.take i ++ [v] := by
  rw [List.take_add_one, List.getElem?_set_self h, List.take_set_of_le (Nat.le_refl i)]; rfl
theorem take_rd {l : List Int} {i : Nat} (h : i < l.length) : l.take (i + 1) = l.take i ++ [rd l (i : Int)] := by
  rw [List.take_add_one]
  congr 1
  unfold rd
  rw [Int.toNat_natCast, List.getD_eq_getElem?_getD, List.getElem?_eq_getElem h]; rfl

theorem laws_eqStringS_l0 (l : List ByteArray) (hl : l.length ≤ 140737488351232) : ∀ (d i : Nat), i + d = l.length → Ev (fun k => laws_eqStringS.l0 k l l (i : Int)) true
  | 0, i, hd => by
    refine Ev.step (f := fun _ => some true) (fun k => ?_) (Ev.now _)
    simp only [laws_eqStringS.l0]; rw [if_neg (by omega)]
  | d + 1, i, hd => by
    refine Ev.step (f := fun k => laws_eqStringS.l0 k l l ((i + 1 : Nat) : Int)) (fun k => ?_) (laws_eqStringS_l0 l hl d (i + 1) (by omega))
    simp only [laws_eqStringS.l0]
    rw [if_pos (by omega), if_pos (by omega), if_pos (by omega), if_pos trivial, w64 (by omega) (by omega)]; rfl
theorem laws_eqStringS_ev (l : List ByteArray) (hl : l.length ≤ 140737488351232) : Ev (fun k => laws_eqStringS.f k l l) true := by
  obtain ⟨K, hK⟩ := laws_eqStringS_l0 l hl l.length 0 (by omega)
  refine ⟨K, fun k hk => ?_⟩
  have e : laws_eqStringS.l0 k l l 0 = some _ := hK k hk
  simp only [laws_eqStringS.f]
  rw [if_pos trivial, e]

/-- The figures of n, ahead of t. -/
def dgT (n : Nat) (t : ByteArray) : ByteArray := if _h : 0 < n then dgT (n / 10) (strOfNums [((48 + n % 10 : Nat) : Int)] ++ t) else t
  termination_by n
  decreasing_by omega
theorem dgT_pos {n : Nat} (h : 0 < n) (t : ByteArray) : dgT n t = dgT (n / 10) (strOfNums [((48 + n % 10 : Nat) : Int)] ++ t) := by rw [dgT, dif_pos h]
theorem dgT_zero (t : ByteArray) : dgT 0 t = t := by rw [dgT, dif_neg (by omega)]
/-- The mark of a number. -/
def mtT (n : Int) : ByteArray := if n ≤ 0 then ⟨#[109, 48]⟩ else ⟨#[109]⟩ ++ dgT n.toNat ⟨#[]⟩

def markS (k : Int) (n : Nat) : List ByteArray := (List.range n).map fun (j : Nat) => mtT (k + (j : Int))
theorem markS_len (k : Int) (n : Nat) : (markS k n).length = n := by simp [markS]
theorem markS_succ (k : Int) (n : Nat) : markS k (n + 1) = markS k n ++ [mtT (k + (n : Int))] := by simp [markS, List.range_succ]
theorem rd_markS {k : Int} {n i : Nat} (h : i < n) : rdOf ByteArray.empty (markS k n) (i : Int) = mtT (k + (i : Int)) := by
  unfold rdOf markS
  rw [Int.toNat_natCast, List.getD_eq_getElem?_getD, List.getElem?_map, List.getElem?_range h]; rfl

theorem laws_markText_l0 (n : Nat) : ∀ t : ByteArray, n + t.size ≤ 4611686018427387904 → Ev (fun k => laws_markText.l0 k (n : Int) t) ((⟨#[109]⟩ : ByteArray) ++ dgT n t) := by
  induction n using Nat.strongRecOn with
  | _ n ih =>
    intro t ht
    by_cases h : 0 < n
    · have hz : (strOfNums [((48 + n % 10 : Nat) : Int)]).size = 1 := by rw [strOfNums_size]; rfl
      rw [dgT_pos h]
      refine Ev.step (f := fun k => laws_markText.l0 k ((n / 10 : Nat) : Int) (strOfNums [((48 + n % 10 : Nat) : Int)] ++ t)) (fun k => ?_) (ih (n / 10) (by omega) _ (by rw [ByteArray.size_append]; omega))
      simp only [laws_markText.l0]
      rw [if_pos (by omega), Option.bind_some, tmod_nat (by omega), tdiv_nat (by omega), w64 (by omega) (by omega), w64 (by omega) (by omega), show ((48 + (n : Int) % 10) % 256) = ((48 + n % 10 : Nat) : Int) by omega, if_pos (by omega)]
      rfl
    · obtain rfl : n = 0 := by omega
      rw [dgT_zero]
      refine Ev.step (f := fun _ => some ((⟨#[109]⟩ : ByteArray) ++ t)) (fun k => ?_) (Ev.now _)
      simp only [laws_markText.l0]
      rw [if_neg (by omega), if_pos (by omega)]
theorem laws_markText_ev (n : Int) (h : n ≤ 4611686018427387904) : Ev (fun k => laws_markText.f k n) (mtT n) := by
  by_cases h0 : n ≤ 0
  · refine ⟨0, fun k _ => ?_⟩
    simp only [laws_markText.f, mtT]
    rw [if_pos h0, if_pos h0]
  · obtain ⟨K, hK⟩ := laws_markText_l0 n.toNat ⟨#[]⟩ (by show n.toNat + 0 ≤ _; omega)
    refine ⟨K, fun k hk => ?_⟩
    have e : laws_markText.l0 k (n.toNat : Int) ⟨#[]⟩ = some _ := hK k hk
    rw [Int.toNat_of_nonneg (by omega)] at e
    simp only [laws_markText.f, mtT]
    rw [if_neg h0, if_neg h0, e]

theorem laws_markStringS_l0 (k0 : Int) (n : Nat) (h0 : 0 ≤ k0) (hk : k0 + (n : Int) ≤ 4611686018427387903) : ∀ (d i : Nat) (x : List ByteArray), i + d = n → x.length = n → x.take i = markS k0 i →
    Ev (fun k => laws_markStringS.l0 k x (k0 + (i : Int)) (i : Int)) (k0 + (n : Int), markS k0 n)
  | 0, i, x, hd, hx, ht => by
    refine Ev.step (f := fun _ => some (k0 + (i : Int), x)) (fun k => ?_) ?_
    · simp only [laws_markStringS.l0]; rw [if_neg (by omega)]
    · have e : x = markS k0 n := by rw [← List.take_of_length_le (i := i) (l := x) (by omega), ht, show i = n by omega]
      rw [e, show i = n by omega]; exact Ev.now _
  | d + 1, i, x, hd, hx, ht => by
    obtain ⟨K1, h1⟩ := laws_markText_ev (k0 + (i : Int)) (by omega)
    obtain ⟨K2, h2⟩ := laws_markStringS_l0 k0 n h0 hk d (i + 1) (x.set i (mtT (k0 + (i : Int)))) (by omega) (by rw [List.length_set]; exact hx) (by rw [take_set_succ _ _ _ (by omega), ht, markS_succ])
    refine ⟨K1 + K2 + 1, fun k hk => ?_⟩
    obtain ⟨k, rfl⟩ : ∃ m, k = m + 1 := ⟨k - 1, by omega⟩
    have e1 : laws_markText.f k (k0 + (i : Int)) = some _ := h1 k (by omega)
    have e2 : laws_markStringS.l0 k (x.set i (mtT (k0 + (i : Int)))) (k0 + ((i + 1 : Nat) : Int)) ((i + 1 : Nat) : Int) = some _ := h2 k (by omega)
    simp only [laws_markStringS.l0]
    rw [if_pos (by omega), e1, Option.bind_some, if_pos (by omega), w64 (by omega) (by omega), w64 (by omega) (by omega), Int.toNat_natCast, show k0 + (i : Int) + 1 = k0 + ((i + 1 : Nat) : Int) by omega, show (i : Int) + 1 = ((i + 1 : Nat) : Int) by omega, e2]
theorem laws_markStringS_ev (l : List ByteArray) (k0 : Int) (h0 : 0 ≤ k0) (hk : k0 + (l.length : Int) ≤ 4611686018427387903) : Ev (fun k => laws_markStringS.f k l k0) (k0 + (l.length : Int), markS k0 l.length) := by
  have h := laws_markStringS_l0 k0 l.length h0 hk l.length 0 l (by omega) rfl (by simp [markS])
  rw [show k0 + ((0 : Nat) : Int) = k0 by omega] at h
  exact h

theorem laws_heldStringS_l0 (k0 : Int) (n : Nat) (h0 : 0 ≤ k0) (hk : k0 + (n : Int) ≤ 4611686018427387903) : ∀ (d i : Nat), i + d = n →
    Ev (fun k => laws_heldStringS.l0 k (markS k0 n) (k0 + (i : Int)) (i : Int)) (k0 + (n : Int))
  | 0, i, hd => by
    have hl := markS_len k0 n
    refine Ev.step (f := fun _ => some (k0 + (i : Int))) (fun k => ?_) ?_
    · simp only [laws_heldStringS.l0]; rw [if_neg (by omega)]
    · rw [show i = n by omega]; exact Ev.now _
  | d + 1, i, hd => by
    have hl := markS_len k0 n
    obtain ⟨K1, h1⟩ := laws_markText_ev (k0 + (i : Int)) (by omega)
    obtain ⟨K2, h2⟩ := laws_heldStringS_l0 k0 n h0 hk d (i + 1) (by omega)
    refine ⟨K1 + K2 + 1, fun k hk => ?_⟩
    obtain ⟨k, rfl⟩ : ∃ m, k = m + 1 := ⟨k - 1, by omega⟩
    have e1 : laws_markText.f k (k0 + (i : Int)) = some _ := h1 k (by omega)
    have e2 : laws_heldStringS.l0 k (markS k0 n) (k0 + ((i + 1 : Nat) : Int)) ((i + 1 : Nat) : Int) = some _ := h2 k (by omega)
    simp only [laws_heldStringS.l0]
    rw [if_pos (by omega), if_pos (by omega), e1, Option.bind_some, rd_markS (by omega), if_pos rfl, w64 (by omega) (by omega), w64 (by omega) (by omega), show k0 + (i : Int) + 1 = k0 + ((i + 1 : Nat) : Int) by omega, show (i : Int) + 1 = ((i + 1 : Nat) : Int) by omega, e2]
theorem laws_heldStringS_ev (k0 : Int) (n : Nat) (h0 : 0 ≤ k0) (hk : k0 + (n : Int) ≤ 4611686018427387903) : Ev (fun k => laws_heldStringS.f k (markS k0 n) k0) (k0 + (n : Int)) := by
  have h := laws_heldStringS_l0 k0 n h0 hk n 0 (by omega)
  rw [show k0 + ((0 : Nat) : Int) = k0 by omega] at h
  exact h

theorem FnExactPartsOf : laws_FnExactPartsOf.Pure := by
  intro s _
  by_cases hb : (s.size : Int) > 1048576
  · exact ⟨0, by simp only [laws_FnExactPartsOf.f]; rw [if_pos hb]⟩
  · have hlen := ptC_len s
    obtain ⟨K1, h1⟩ := spec_PartsOf_ev s
    obtain ⟨K2, h2⟩ := impl_PartsOf_ev s
    obtain ⟨K3, h3⟩ := laws_eqStringS_ev (ptC s).1 (by omega)
    obtain ⟨K4, h4⟩ := laws_markStringS_ev (ptC s).1 1 (by omega) (by omega)
    obtain ⟨K5, h5⟩ := laws_heldStringS_ev 1 (ptC s).1.length (by omega) (by omega)
    have key : ∀ k, K1 + K2 + K3 + K4 + K5 ≤ k → laws_FnExactPartsOf.f (k + 2) s = some true := by
      intro k hk
      have a1 : spec_PartsOf.f (k + 2) s = some _ := h1 _ (by omega)
      have a2 : impl_PartsOf.f (k + 2) s = some _ := h2 _ (by omega)
      have a3 : laws_eqStringS.f (k + 2) (ptC s).1 (ptC s).1 = some true := h3 _ (by omega)
      have b2 : impl_PartsOf.f (k + 1) s = some _ := h2 _ (by omega)
      have b3 : laws_eqStringS.f (k + 1) (ptC s).1 (ptC s).1 = some true := h3 _ (by omega)
      have b4 : laws_markStringS.f (k + 1) (ptC s).1 1 = some _ := h4 _ (by omega)
      have b5 : laws_heldStringS.f (k + 1) (markS 1 (ptC s).1.length) 1 = some _ := h5 _ (by omega)
      have c5 : laws_heldStringS.f k (markS 1 (ptC s).1.length) 1 = some _ := h5 _ (by omega)
      simp only [laws_FnExactPartsOf.f]
      rw [if_neg hb, a1, Option.bind_some, a2, Option.bind_some, a3, Option.bind_some, if_pos rfl, show ((ptC s).2 != (ptC s).2) = false by simp]
      simp only [laws_FnExactPartsOf.j0]
      rw [if_neg (by simp), b4, Option.bind_some, b5, Option.bind_some, if_neg (by omega), if_pos rfl, b2, Option.bind_some, b3, Option.bind_some, if_pos rfl, show ((ptC s).2 != (ptC s).2) = false by simp]
      simp only [laws_FnExactPartsOf.j1]
      rw [if_neg (by simp), c5, Option.bind_some, if_neg (by omega), if_pos rfl]
    exact ⟨_, key _ (Nat.le_refl _)⟩

end Go.Proofs.YtpmdcplmnipdeaaDoor.Pure
