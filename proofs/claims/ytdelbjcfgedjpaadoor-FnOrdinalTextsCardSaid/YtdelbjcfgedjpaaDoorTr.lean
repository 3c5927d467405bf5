import Derived.Test.YtdelbjcfgedjpaaDoorTq
/-! ### The law -/
namespace Go.Vm
open Go.Vm.D Od
set_option linter.unusedVariables false
set_option linter.unusedSimpArgs false
theorem W5 (a b : List UInt8) : ∃ o, W E 5 [.sl 1 (byteRows a), .sl 1 (byteRows b)] = some [.val (.bool o)] := by
  have ha : (byteRows a).length = a.length := by simp [byteRows]
  have hb : (byteRows b).length = b.length := by simp [byteRows]
  by_cases h : (a.length : Int) > 1048576
  · refine ⟨true, w5 (m := 0) _ _ ?_⟩
    simp only [g5, ha, hb, h, bindO_eq, pvAt_zero, pvAt_succ, getL_zero, getL_succ, dropL_one, int_val, bool_val, str_val, rows_sl, errB_err, cond_true, cond_false, chk_pos, beq00, beq10, zne00, zeq00, decide_true, decide_false, true_and, and_true, and_self, Bool.not_true, Bool.not_false, canon61, canon26, canon24, canon3, canon3d, Int.toNat_natCast, List.cons_append, List.nil_append]
  · refine ⟨decide (((byteRows b).length : Int) > IntKind.wrap .i64 (1048576 - ((byteRows a).length : Int))), w5 (m := 0) _ _ ?_⟩
    have h' : ¬ (((byteRows a).length : Int) > 1048576) := by rw [ha]; exact h
    simp only [g5, h', bindO_eq, pvAt_zero, pvAt_succ, getL_zero, getL_succ, dropL_one, int_val, bool_val, str_val, rows_sl, errB_err, cond_true, cond_false, chk_pos, beq00, beq10, zne00, zeq00, decide_true, decide_false, true_and, and_true, and_self, Bool.not_true, Bool.not_false, canon61, canon26, canon24, canon3, canon3d, Int.toNat_natCast, List.cons_append, List.nil_append]
theorem law (a b : List UInt8) : W E 3 [.sl 1 (byteRows a), .sl 1 (byteRows b)] = some [.val (.bool true)] := by
  obtain ⟨o, h5⟩ := W5 a b
  refine w3 (m := 0) _ _ ?_
  cases o with
  | true => simp only [g3, h5, bindO_eq, pvAt_zero, pvAt_succ, getL_zero, getL_succ, dropL_one, int_val, bool_val, str_val, rows_sl, errB_err, cond_true, cond_false, chk_pos, beq00, beq10, zne00, zeq00, decide_true, decide_false, true_and, and_true, and_self, Bool.not_true, Bool.not_false, canon61, canon26, canon24, canon3, canon3d, Int.toNat_natCast, List.cons_append, List.nil_append]
  | false =>
    obtain ⟨x, h6, hxn⟩ := W6 a
    obtain ⟨t, h16, htl⟩ := W16 b
    have hn : x.nodes ≤ 1073741824 := by omega
    have h12 := W12 (t := t) (by omega)
    have h17 := W17 (t := t) (by omega)
    -- the second half
    have half : (bindO (W E 16 [.sl 1 (byteRows b)]) fun x17 =>
bindO (W E 12 [.val (.string ((pvAt x17 0).str))]) fun x18 =>
bindO (W E 17 [.val (.string ((pvAt x17 0).str))]) fun x19 =>
let y20 : Bool := !(((pvAt x18 1).bool) == ((pvAt x19 1).bool)); bif y20 then (some [PV.val (.bool false)]) else (bindO (W E 13 [.sl 2 ((pvAt x18 0).rows), .sl 2 ((pvAt x19 0).rows)]) fun x21 =>
bif !((pvAt x21 0).bool) then (some [PV.val (.bool false)]) else (bif (pvAt x18 1).bool then (bindO (W E 7 [.sl 2 ((pvAt x18 0).rows)]) fun x22 =>
bif (pvAt x22 1).bool then (let y23 : Bool := ((pvAt x22 0).str).toList == ((pvAt x17 0).str).toList; some [PV.val (.bool y23)]) else (some [PV.val (.bool false)])) else (some [PV.val (.bool true)])))) = some [PV.val (.bool true)] := by
      have hpn : (parsed t).1.nodes ≤ 1073741824 := by
        cases hp : (parsed t).2 with
        | true => have := good_nodes (parsed_good t hp).1; omega
        | false =>
          by_cases hq : ∃ a : Od, a.good = true ∧ a.text = t
          · obtain ⟨a, ha, rfl⟩ := hq; rw [parsed_yes ha] at hp; cases hp
          · rw [parsed_no hq]; simp only [nodes]; omega
      simp only [h16, h12, h17, bindO_eq, pvAt_zero, pvAt_succ, getL_zero, getL_succ, dropL_one, int_val, bool_val, str_val, rows_sl, errB_err, cond_true, cond_false, chk_pos, beq00, beq10, zne00, zeq00, decide_true, decide_false, true_and, and_true, and_self, Bool.not_true, Bool.not_false, canon61, canon26, canon24, canon3, canon3d, Int.toNat_natCast, List.cons_append, List.nil_append, beq_self_eq_true, W13 hpn]
      cases hp : (parsed t).2 with
      | false => simp only [bindO_eq, pvAt_zero, pvAt_succ, getL_zero, getL_succ, dropL_one, int_val, bool_val, str_val, rows_sl, errB_err, cond_true, cond_false, chk_pos, beq00, beq10, zne00, zeq00, decide_true, decide_false, true_and, and_true, and_self, Bool.not_true, Bool.not_false, canon61, canon26, canon24, canon3, canon3d, Int.toNat_natCast, List.cons_append, List.nil_append]
      | true =>
        obtain ⟨hg, htx⟩ := parsed_good t hp
        simp only [bindO_eq, pvAt_zero, pvAt_succ, getL_zero, getL_succ, dropL_one, int_val, bool_val, str_val, rows_sl, errB_err, cond_true, cond_false, chk_pos, beq00, beq10, zne00, zeq00, decide_true, decide_false, true_and, and_true, and_self, Bool.not_true, Bool.not_false, canon61, canon26, canon24, canon3, canon3d, Int.toNat_natCast, List.cons_append, List.nil_append, W7 hpn, hg, if_true, htx, ba_beq]
    simp only [g3, h5, h6, bindO_eq, pvAt_zero, pvAt_succ, getL_zero, getL_succ, dropL_one, int_val, bool_val, str_val, rows_sl, errB_err, cond_true, cond_false, chk_pos, beq00, beq10, zne00, zeq00, decide_true, decide_false, true_and, and_true, and_self, Bool.not_true, Bool.not_false, canon61, canon26, canon24, canon3, canon3d, Int.toNat_natCast, List.cons_append, List.nil_append, W7 hn, W8 hn, W9 hn, W10 hn, W11 hn, beq_self_eq_true]
    simp only [ine_f (rfl : (if x.good = true then (x.nodes : Int) else 0) = _), bindO_eq, pvAt_zero, pvAt_succ, getL_zero, getL_succ, dropL_one, int_val, bool_val, str_val, rows_sl, errB_err, cond_true, cond_false, chk_pos, beq00, beq10, zne00, zeq00, decide_true, decide_false, true_and, and_true, and_self, Bool.not_true, Bool.not_false, canon61, canon26, canon24, canon3, canon3d, Int.toNat_natCast, List.cons_append, List.nil_append]
    cases hg : x.good with
    | false =>
      simp only [bindO_eq, pvAt_zero, pvAt_succ, getL_zero, getL_succ, dropL_one, int_val, bool_val, str_val, rows_sl, errB_err, cond_true, cond_false, chk_pos, beq00, beq10, zne00, zeq00, decide_true, decide_false, true_and, and_true, and_self, Bool.not_true, Bool.not_false, canon61, canon26, canon24, canon3, canon3d, Int.toNat_natCast, List.cons_append, List.nil_append]
      exact half
    | true =>
      have hxl := text_len (cok_mono (B' := 1099511627776) (by omega) (good_cok hg))
      have hx60 := good_nodes hg
      have hpar := W12 (t := x.text) (by omega)
      rw [parsed_yes hg] at hpar
      simp only [bindO_eq, pvAt_zero, pvAt_succ, getL_zero, getL_succ, dropL_one, int_val, bool_val, str_val, rows_sl, errB_err, cond_true, cond_false, chk_pos, beq00, beq10, zne00, zeq00, decide_true, decide_false, true_and, and_true, and_self, Bool.not_true, Bool.not_false, canon61, canon26, canon24, canon3, canon3d, Int.toNat_natCast, List.cons_append, List.nil_append, if_true, hpar, W13 hn, W14 hg]
      cases hq : (Od.cons x 1 .nil).good with
      | false =>
        simp only [bindO_eq, pvAt_zero, pvAt_succ, getL_zero, getL_succ, dropL_one, int_val, bool_val, str_val, rows_sl, errB_err, cond_true, cond_false, chk_pos, beq00, beq10, zne00, zeq00, decide_true, decide_false, true_and, and_true, and_self, Bool.not_true, Bool.not_false, canon61, canon26, canon24, canon3, canon3d, Int.toNat_natCast, List.cons_append, List.nil_append]
        exact half
      | true =>
        have hn2 : (Od.cons x 1 .nil).nodes ≤ 1073741824 := by simp only [nodes]; omega
        have h9 := W9 hn2
        rw [hq] at h9
        simp only [if_true] at h9
        have hm : ((Od.cons x 1 .nil).nodes : Int) = (x.nodes : Int) + 2 := by simp only [nodes]; omega
        have e2 : IntKind.wrap .i64 ((x.nodes : Int) + 2) = (x.nodes : Int) + 2 := wrap_id (by omega) (by omega)
        simp only [bindO_eq, pvAt_zero, pvAt_succ, getL_zero, getL_succ, dropL_one, int_val, bool_val, str_val, rows_sl, errB_err, cond_true, cond_false, chk_pos, beq00, beq10, zne00, zeq00, decide_true, decide_false, true_and, and_true, and_self, Bool.not_true, Bool.not_false, canon61, canon26, canon24, canon3, canon3d, Int.toNat_natCast, List.cons_append, List.nil_append, if_true, W15 hq, h9, W13 hn, hm, e2, ine_f (rfl : (x.nodes : Int) + 2 = _)]
        exact half
end Go.Vm
