import Derived.Test.YtdelbjcfgedjpaaDoorTg
/-! ### Both texts, run -/
namespace Go.Vm
open Go.Vm.D Od
set_option linter.unusedVariables false
set_option linter.unusedSimpArgs false
/-- The terms behind what stands: the first without a plus. -/
def tailOf (pre : List (List PV)) (ps : List (List UInt8)) : List UInt8 := match pre with | [] => Lib.join ps [43] | _ :: _ => Lib.joinTail [43] ps
theorem joined_len (ps : List (List UInt8)) : (joined ps).length ≤ (Lib.joinTail [43] ps).length + 1 := by
  cases ps with
  | nil => simp [joined, Lib.joinTail]
  | cons p r =>
    simp only [joined, Lib.join_cons]
    simp [Lib.joinTail]; omega
theorem parts_len : ∀ (a : Od), a.cok 1099511627776 → (Lib.joinTail [43] a.parts).length + 40 ≤ 40 * a.nodes
  | .nil, _ => by simp [parts, Lib.joinTail, Od.nodes]
  | .cons e c r, h => by
    have h1 := parts_len e h.1
    have h2 := parts_len r h.2.2
    have h3 := joined_len e.parts
    have h4 := dec_len 13 c.toNat (by omega) (by have := h.2.1; omega)
    have h5 := nodes_pos e
    have h6 := nodes_pos r
    have e1 : (Lib.joinTail [43] (Od.cons e c r).parts).length = 1 + (if e.isNil then Lib.decDigits c.toNat else 119 :: (up e (joined e.parts) ++ tail c)).length + (Lib.joinTail [43] r.parts).length := by
      simp [Lib.joinTail, parts]; omega
    have e2 : (tail c).length ≤ 14 := by unfold tail; split <;> simp <;> omega
    have e3 : (up e (joined e.parts)).length ≤ (joined e.parts).length + 3 := by unfold up; split <;> simp
    rw [e1]
    simp only [Od.nodes]
    split
    · omega
    · simp only [List.length_cons, List.length_append]; omega
theorem W26_text : ∀ (r : Od) (M m : Nat) (all pre : List (List PV)) (acc : List UInt8) (i : Int), r.pos → r.cok 1099511627776 → r.nodes ≤ 1073741824 → acc.length + 40 * r.nodes ≤ 1152921504606846976 → i = (pre.length : Int) → all = pre ++ r.enc → all.length ≤ 1099511627776 → r.len < m →
    iterN (lp26_3 (W E) M) m [.val (.string (ba acc)), .sl 2 all, .val (.int .i64 (all.length : Int)), .val (.int .i64 i)] = some (0, [.val (.string (ba (acc ++ tailOf pre r.parts)))])
  | .nil, M, m, all, pre, acc, i, hpos, hok, hn, hacc, hi, h, hl, hm => by
    obtain ⟨m, rfl⟩ : ∃ k, m = k + 1 := ⟨m - 1, by omega⟩
    subst hi
    have he := at_end h
    rw [iterN_succ]
    simp only [lp26_3, lq26_3, bindO_eq, pvAt_zero, pvAt_succ, getL_zero, getL_succ, dropL_one, int_val, bool_val, str_val, rows_sl, errB_err, cond_true, cond_false, chk_pos, beq00, beq10, zne00, zeq00, decide_true, decide_false, true_and, and_true, and_self, Bool.not_true, Bool.not_false, canon61, canon26, canon24, canon3, canon3d, Int.toNat_natCast, List.cons_append, List.nil_append, he]
    cases pre <;> simp [tailOf, parts, Lib.join_nil, Lib.joinTail]
  | .cons e c r, M, m, all, pre, acc, i, hpos, hok, hn, hacc, hi, h, hl, hm => by
    obtain ⟨m, rfl⟩ : ∃ k, m = k + 1 := ⟨m - 1, by omega⟩
    subst hi
    simp only [Od.len] at hm
    simp only [Od.nodes] at hn hacc
    have hlen := parts_len (.cons e c r) hok
    have hne := parts_len e hok.1
    have hje := joined_len e.parts
    have hp1 := nodes_pos e
    have hp2 := nodes_pos r
    simp only [Od.nodes] at hlen
    obtain ⟨h2, h3, h4, h5, h6⟩ := at_round [] h hl
    have hee : e.enc.length ≤ 1099511627776 := by rw [e.enc_len]; have := e.len_lt; omega
    have hdl := dec_len 13 c.toNat (by omega) (by have := hok.2.1; omega)
    have h57 := W57' (c := c) (by have := hpos.2.1; omega) (by have := hok.2.1; omega)
    have hrec : W E 26 [.sl 2 e.enc] = some [.val (.string (ba (joined e.parts)))] := by
      refine w26 (m := e.len + 1) _ ?_
      have := W26_text e (e.len + 1) (e.len + 1) e.enc [] [] 0 hpos.1 hok.1 (by omega) (by simp; omega) rfl rfl hee (by omega)
      simp only [g26, mk_ba, this, bindO_eq, pvAt_zero, pvAt_succ, getL_zero, getL_succ, dropL_one, int_val, bool_val, str_val, rows_sl, errB_err, cond_true, cond_false, chk_pos, beq00, beq10, zne00, zeq00, decide_true, decide_false, true_and, and_true, and_self, Bool.not_true, Bool.not_false, canon61, canon26, canon24, canon3, canon3d, Int.toNat_natCast, List.cons_append, List.nil_append, ba_beq, tailOf]
      cases hq : e.parts with
      | nil => simp [joined, Lib.join_nil, bindO_eq, pvAt_zero, str_val]
      | cons p ps =>
        have hne0 : p ≠ [] := by
          cases e with
          | nil => cases hq
          | cons e1 c1 r1 =>
            simp only [parts, List.cons.injEq] at hq
            rw [← hq.1]
            split
            · have := dec_pos c1.toNat; intro h0; rw [h0] at this; simp at this
            · simp
        have hj : Lib.join (p :: ps) [43] ≠ [] := by
          rw [Lib.join_cons]; simp [hne0]
        simp [joined, bindO_eq, pvAt_zero, str_val, hj]
    -- a plus, but ahead of the first
    have hplus : ∀ K : Nat × List PV → Option (Nat × List PV), bindO (bif decide ((pre.length : Int) > 0) then (chk ((ba acc).size + (ba [43]).size ≤ 9223372036854775807) <|
        some (0, [.val (.string (ba acc ++ ba [43])), .sl 2 all, .val (.int .i64 (all.length : Int)), .val (.int .i64 (pre.length : Int)), .sl 2 e.enc, .val (.int .i64 c)])) else (some (0, [.val (.string (ba acc)), .sl 2 all, .val (.int .i64 (all.length : Int)), .val (.int .i64 (pre.length : Int)), .sl 2 e.enc, .val (.int .i64 c)]))) K =
        K (0, [.val (.string (ba (acc ++ (if pre = [] then [] else [43])))), .sl 2 all, .val (.int .i64 (all.length : Int)), .val (.int .i64 (pre.length : Int)), .sl 2 e.enc, .val (.int .i64 c)]) := by
      intro K
      cases hpre : pre with
      | nil => simp [bindO_eq]
      | cons x xs =>
        have : ((x :: xs).length : Int) > 0 := by simp
        simp only [this, bindO_eq, pvAt_zero, pvAt_succ, getL_zero, getL_succ, dropL_one, int_val, bool_val, str_val, rows_sl, errB_err, cond_true, cond_false, chk_pos, beq00, beq10, zne00, zeq00, decide_true, decide_false, true_and, and_true, and_self, Bool.not_true, Bool.not_false, canon61, canon26, canon24, canon3, canon3d, Int.toNat_natCast, List.cons_append, List.nil_append, ba_size, ba_append]
        rw [chk_pos (by simp; omega)]
        simp [bindO_eq]
    rw [iterN_succ]
    simp only [lp26_3, lq26_3, bindO_eq, pvAt_zero, pvAt_succ, getL_zero, getL_succ, dropL_one, int_val, bool_val, str_val, rows_sl, errB_err, cond_true, cond_false, chk_pos, beq00, beq10, zne00, zeq00, decide_true, decide_false, true_and, and_true, and_self, Bool.not_true, Bool.not_false, canon61, canon26, canon24, canon3, canon3d, Int.toNat_natCast, List.cons_append, List.nil_append, h2, h3, h4, mk_ba]
    refine (hplus _).trans ?_
    simp only [bindO_eq, pvAt_zero, pvAt_succ, getL_zero, getL_succ, dropL_one, int_val, bool_val, str_val, rows_sl, errB_err, cond_true, cond_false, chk_pos, beq00, beq10, zne00, zeq00, decide_true, decide_false, true_and, and_true, and_self, Bool.not_true, Bool.not_false, canon61, canon26, canon24, canon3, canon3d, Int.toNat_natCast, List.cons_append, List.nil_append, W56]
    generalize hacc2 : acc ++ (if pre = [] then [] else [43]) = acc2
    have hacc2l : acc2.length ≤ acc.length + 1 := by rw [← hacc2]; split <;> simp
    have hfin : ∀ x : List UInt8, x = (if e.isNil then Lib.decDigits c.toNat else 119 :: (up e (joined e.parts) ++ tail c)) → x.length + 1 ≤ 40 * (1 + e.nodes) →
        iterN (lp26_3 (W E) M) m [.val (.string (ba (acc2 ++ x))), .sl 2 all, .val (.int .i64 (all.length : Int)), .val (.int .i64 ((pre ++ [[PV.sl 2 e.enc, .val (.int .i64 c)]]).length : Int))] = some (0, [.val (.string (ba (acc ++ tailOf pre (Od.cons e c r).parts)))]) := by
      intro x hx hxl
      rw [W26_text r M m all _ (acc2 ++ x) _ hpos.2.2 hok.2.2 (by omega) (by simp; omega) rfl h6 hl (by omega)]
      congr 5
      subst hacc2
      simp only [parts, ← hx]
      cases pre with
      | nil => simp [tailOf, Lib.join_cons]
      | cons y ys => simp [tailOf, Lib.joinTail]
    cases hz : e.isNil with
    | true =>
      simp only [bindO_eq, pvAt_zero, pvAt_succ, getL_zero, getL_succ, dropL_one, int_val, bool_val, str_val, rows_sl, errB_err, cond_true, cond_false, chk_pos, beq00, beq10, zne00, zeq00, decide_true, decide_false, true_and, and_true, and_self, Bool.not_true, Bool.not_false, canon61, canon26, canon24, canon3, canon3d, Int.toNat_natCast, List.cons_append, List.nil_append, h57, ba_size, ba_append]
      rw [chk_pos (by omega), h5]
      exact hfin _ (by simp [hz]) (by omega)
    | false =>
      have hcmp : W E 58 [.sl 2 e.enc, .sl 2 (Od.nil.term 1).enc] = some [.val (.int .i64 (e.cmp Od.one))] :=
        W58 (b := Od.one) hok.1 ⟨trivial, ⟨by omega, by omega⟩, trivial⟩ (by omega) (by decide)
      simp only [bindO_eq, pvAt_zero, pvAt_succ, getL_zero, getL_succ, dropL_one, int_val, bool_val, str_val, rows_sl, errB_err, cond_true, cond_false, chk_pos, beq00, beq10, zne00, zeq00, decide_true, decide_false, true_and, and_true, and_self, Bool.not_true, Bool.not_false, canon61, canon26, canon24, canon3, canon3d, Int.toNat_natCast, List.cons_append, List.nil_append, ba_size, ba_append, W48, hcmp]
      rw [chk_pos (by simp; omega)]
      have hup : ∀ K : Nat × List PV → Option (Nat × List PV), bindO (bif (e.cmp Od.one) != 0 then (bindO (W E 26 [.sl 2 e.enc]) fun x8 =>
          chk ((ba [94, 40]).size + ((pvAt x8 0).str).size ≤ 9223372036854775807) <|
          chk (((ba [94, 40]) ++ ((pvAt x8 0).str)).size + (ba [41]).size ≤ 9223372036854775807) <|
          chk ((ba (acc2 ++ [119])).size + (((ba [94, 40]) ++ ((pvAt x8 0).str)) ++ (ba [41])).size ≤ 9223372036854775807) <|
          some (0, [.val (.string (ba (acc2 ++ [119]) ++ (((ba [94, 40]) ++ ((pvAt x8 0).str)) ++ (ba [41])))), .sl 2 all, .val (.int .i64 (all.length : Int)), .val (.int .i64 (pre.length : Int)), .sl 2 e.enc, .val (.int .i64 c)])) else (some (0, [.val (.string (ba (acc2 ++ [119]))), .sl 2 all, .val (.int .i64 (all.length : Int)), .val (.int .i64 (pre.length : Int)), .sl 2 e.enc, .val (.int .i64 c)]))) K =
          K (0, [.val (.string (ba (acc2 ++ 119 :: up e (joined e.parts)))), .sl 2 all, .val (.int .i64 (all.length : Int)), .val (.int .i64 (pre.length : Int)), .sl 2 e.enc, .val (.int .i64 c)]) := by
        intro K
        by_cases h1 : e.cmp Od.one = 0
        · simp [h1, bindO_eq, up, (cmp_one e).1 h1]
        · have h1' : e.isOne = false := by
            cases hq : e.isOne with
            | false => rfl
            | true => exact absurd ((cmp_one e).2 hq) h1
          simp only [ine_t h1, bindO_eq, pvAt_zero, pvAt_succ, getL_zero, getL_succ, dropL_one, int_val, bool_val, str_val, rows_sl, errB_err, cond_true, cond_false, chk_pos, beq00, beq10, zne00, zeq00, decide_true, decide_false, true_and, and_true, and_self, Bool.not_true, Bool.not_false, canon61, canon26, canon24, canon3, canon3d, Int.toNat_natCast, List.cons_append, List.nil_append, hrec, ba_size, ba_append]
          rw [chk_pos (by simp; omega), chk_pos (by simp; omega), chk_pos (by simp; omega)]
          simp [bindO_eq, up, h1']
      simp only [ba_size, ba_append] at hup
      refine (hup _).trans ?_
      simp only [bindO_eq, pvAt_zero, pvAt_succ, getL_zero, getL_succ, dropL_one, int_val, bool_val, str_val, rows_sl, errB_err, cond_true, cond_false, chk_pos, beq00, beq10, zne00, zeq00, decide_true, decide_false, true_and, and_true, and_self, Bool.not_true, Bool.not_false, canon61, canon26, canon24, canon3, canon3d, Int.toNat_natCast, List.cons_append, List.nil_append]
      have hul : (up e (joined e.parts)).length ≤ (joined e.parts).length + 3 := by unfold up; split <;> simp
      by_cases hc : c > 1
      · simp only [hc, bindO_eq, pvAt_zero, pvAt_succ, getL_zero, getL_succ, dropL_one, int_val, bool_val, str_val, rows_sl, errB_err, cond_true, cond_false, chk_pos, beq00, beq10, zne00, zeq00, decide_true, decide_false, true_and, and_true, and_self, Bool.not_true, Bool.not_false, canon61, canon26, canon24, canon3, canon3d, Int.toNat_natCast, List.cons_append, List.nil_append, h57, ba_size, ba_append]
        rw [chk_pos (by simp; omega), chk_pos (by simp; omega), h5]
        have := hfin (119 :: (up e (joined e.parts) ++ tail c)) (by simp [hz]) (by
          have : (tail c).length ≤ 14 := by unfold tail; split <;> simp <;> omega
          simp only [List.length_cons, List.length_append]; omega)
        rw [← this]
        simp [tail, show c ≠ 1 by omega]
      · have hc1 : c = 1 := by have := hpos.2.1; omega
        simp only [hc, bindO_eq, pvAt_zero, pvAt_succ, getL_zero, getL_succ, dropL_one, int_val, bool_val, str_val, rows_sl, errB_err, cond_true, cond_false, chk_pos, beq00, beq10, zne00, zeq00, decide_true, decide_false, true_and, and_true, and_self, Bool.not_true, Bool.not_false, canon61, canon26, canon24, canon3, canon3d, Int.toNat_natCast, List.cons_append, List.nil_append, h5]
        have := hfin (119 :: (up e (joined e.parts) ++ tail c)) (by simp [hz]) (by
          have : (tail c).length ≤ 14 := by unfold tail; split <;> simp <;> omega
          simp only [List.length_cons, List.length_append]; omega)
        rw [← this]
        simp [tail, hc1]
end Go.Vm
