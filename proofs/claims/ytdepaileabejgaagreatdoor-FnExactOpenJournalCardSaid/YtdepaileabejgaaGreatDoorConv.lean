/- append(out, []byte(s)...): the conversion and the append behind it, as one step of a plain region. Conditions: those that the lemma names. -/
import Derived.Test.YtdepaileabejgaaGreatDoorV
namespace Go.Proofs.YtdepaileabejgaaGreatDoor.Conv
open Go.RowKit Go.Proofs.YtdepaileabejgaaGreatDoorW.PrintWords
set_option linter.unusedVariables false
variable {P : Program} {ops : Array Oper} {rest : List Oper} {o1 o2 : Oper} {a : Act} {Q : Exit → Act → World → Prop}
theorem conv_append {w0 W : World} (base : Nat) (hg1 : o1.guard = none) (hg2 : o2.guard = none) (N : Tmp) (x1 s : Operand) (src t e : TypeId) {u : TypeDesc}
    (ho1 : o1.op = .convert src t x1) (hd1 : o1.dst = some N) (ho2 : o2.op = .call { callee := .builtin .append, args := #[s, .tmp N], argTypes := #[t, t] })
    (hsrc : P.underlying src = some u) (ht : P.underlying t = some (.slice e)) (he : P.underlying e = some (.int .u8)) (hinfo : (P.info? e).map (fun i => (i.zero, i.size, i.bytes)) = some (some (.int .u8 0), 1, 1))
    (v : Value) (xs : List Int) (y : ByteArray) (hx1 : a.eval x1 = .string y) (hs : ∀ z, (a.put o1.dst z).eval s = v) (hx2 : ∀ z, (a.put o1.dst z).eval (.tmp N) = z)
    (HO : W.ownsRow base e 1 v xs.length (nums .u8 xs)) (HB : Below base w0 W) (hbase : base ≤ W.heap.size) (hl : xs.length + y.size ≤ 140737488355328)
    (h : ∀ v1 w1, w1.ownsRow base e 1 v1 (xs ++ bytesOf y).length (nums .u8 (xs ++ bytesOf y)) → Below base w0 w1 → W.grownBy w1 v.ownBlock → ∀ z, wpList P ops Q rest ((a.put o1.dst z).put o2.dst v1) w1) :
    wpList P ops Q (o1 :: o2 :: rest) a W := by
  have hr := print_bytes (P := P) src t e hsrc ht he y W
  refine Kd.event_run hg1 (?_ : (execOp a.eval o1).run P W = .ok (.value (.slice (some ⟨W.heap.size, 0, none⟩) y.size (grownCap W y.size 0 e))) (Lib.bytesWorld W e y)) ?_
  · simp [execOp, ho1, hx1, hr]
  have hsz : (Lib.bytesWorld W e y).heap.size = W.heap.size + 1 := Lib.bytesWorld_size W e y
  refine print_append_row (w0 := w0) (W := Lib.bytesWorld W e y) base hg2 s (.tmp N) t e .u8 1 ho2 ht hinfo (by omega) v xs (bytesOf y) _ _ _ (hs _) (hx2 _) (own_move HO (fun k hk => Lib.bytesWorld_at_old W e y k (own_lt HO k hk))) (bytes_reads W e y (by omega)) (bytes_below HB hbase e y) (by omega) (by omega) ?_
  intro v1 w1 hown hb hg _
  refine h v1 w1 hown hb (World.grownBy.trans (b := Lib.bytesWorld W e y) ⟨rfl, rfl, rfl, by omega, fun k hk _ => Lib.bytesWorld_at_old W e y k hk⟩ hg) _
end Go.Proofs.YtdepaileabejgaaGreatDoor.Conv
