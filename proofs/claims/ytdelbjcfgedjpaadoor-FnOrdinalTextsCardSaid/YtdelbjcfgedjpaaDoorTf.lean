import Derived.Test.YtdelbjcfgedjpaaDoorTe
/-! ### Copies, powers, the degree -/
namespace Go.Vm
open Go.Vm.D Od
set_option linter.unusedVariables false
set_option linter.unusedSimpArgs false
theorem app_ok {α : Type} {l : List α} {x : α} (h : l.length ≤ 4294967296) : (l.length + [x].length) * 32 ≤ LIM ∧ l.length + [x].length ≤ LIM := by
  simp only [List.length_cons, List.length_nil, LIM]; exact ⟨by omega, by omega⟩
theorem app_ok16 {α : Type} {l : List α} {x : α} (h : l.length ≤ 4294967296) : (l.length + [x].length) * 16 ≤ LIM ∧ l.length + [x].length ≤ LIM := by
  simp only [List.length_cons, List.length_nil, LIM]; exact ⟨by omega, by omega⟩
noncomputable def k13 (r6 : Nat × List PV) : Option (List PV) := bif Nat.beq r6.1 0 then (some [.val (.bool true)]) else (some [.val (.bool ((pvAt r6.2 0).bool))])
theorem t13 : ∀ (r : Od) (M m : Nat) (all pre : List (List PV)) (i : Int), r.nodes ≤ 1073741824 → i = (pre.length : Int) → all = pre ++ r.enc → all.length ≤ 1099511627776 → r.len < m →
    bindO (iterN (lp13_4 (W E) M) m [.sl 2 all, .val (.int .i64 (all.length : Int)), .val (.int .i64 i), .sl 2 all]) k13 = some [.val (.bool true)]
  | .nil, M, m, all, pre, i, hn, hi, h, hl, hm => by
    obtain ⟨m, rfl⟩ : ∃ k, m = k + 1 := ⟨m - 1, by omega⟩
    subst hi
    have he := at_end h
    rw [iterN_succ]
    simp only [lp13_4, lq13_4, bindO_eq, pvAt_zero, pvAt_succ, getL_zero, getL_succ, dropL_one, int_val, bool_val, str_val, rows_sl, errB_err, cond_true, cond_false, chk_pos, beq00, beq10, zne00, zeq00, decide_true, decide_false, true_and, and_true, and_self, Bool.not_true, Bool.not_false, canon61, canon26, canon24, canon3, canon3d, Int.toNat_natCast, List.cons_append, List.nil_append, he, k13]
  | .cons e c r, M, m, all, pre, i, hn, hi, h, hl, hm => by
    obtain ⟨m, rfl⟩ : ∃ k, m = k + 1 := ⟨m - 1, by omega⟩
    subst hi
    simp only [Od.len] at hm
    simp only [Od.nodes] at hn
    obtain ⟨h2, h3, h4, h5, h6⟩ := at_round [] h hl
    have hee : e.enc.length ≤ 1099511627776 := by rw [e.enc_len]; have := e.len_lt; omega
    have hrec : W E 13 [.sl 2 e.enc, .sl 2 e.enc] = some [.val (.bool true)] := by
      refine w13 (m := e.len + 1) _ _ ?_
      simp only [g13, ine_f (rfl : (e.enc.length : Int) = e.enc.length), bindO_eq, pvAt_zero, pvAt_succ, getL_zero, getL_succ, dropL_one, int_val, bool_val, str_val, rows_sl, errB_err, cond_true, cond_false, chk_pos, beq00, beq10, zne00, zeq00, decide_true, decide_false, true_and, and_true, and_self, Bool.not_true, Bool.not_false, canon61, canon26, canon24, canon3, canon3d, Int.toNat_natCast, List.cons_append, List.nil_append]
      exact t13 e (e.len + 1) (e.len + 1) e.enc [] 0 (by omega) rfl rfl hee (by omega)
    rw [iterN_succ]
    simp only [lp13_4, lq13_4, bindO_eq, pvAt_zero, pvAt_succ, getL_zero, getL_succ, dropL_one, int_val, bool_val, str_val, rows_sl, errB_err, cond_true, cond_false, chk_pos, beq00, beq10, zne00, zeq00, decide_true, decide_false, true_and, and_true, and_self, Bool.not_true, Bool.not_false, canon61, canon26, canon24, canon3, canon3d, Int.toNat_natCast, List.cons_append, List.nil_append, h2, h3, h4, ine_f (rfl : c = c), hrec, h5]
    exact t13 r M m all _ _ (by omega) rfl h6 hl (by omega)
theorem W13 {a : Od} (hn : a.nodes ≤ 1073741824) : W E 13 [.sl 2 a.enc, .sl 2 a.enc] = some [.val (.bool true)] := by
  have hlt := a.len_lt
  refine w13 (m := a.len + 1) _ _ ?_
  simp only [g13, ine_f (rfl : (a.enc.length : Int) = a.enc.length), bindO_eq, pvAt_zero, pvAt_succ, getL_zero, getL_succ, dropL_one, int_val, bool_val, str_val, rows_sl, errB_err, cond_true, cond_false, chk_pos, beq00, beq10, zne00, zeq00, decide_true, decide_false, true_and, and_true, and_self, Bool.not_true, Bool.not_false, canon61, canon26, canon24, canon3, canon3d, Int.toNat_natCast, List.cons_append, List.nil_append]
  exact t13 a (a.len + 1) (a.len + 1) a.enc [] 0 hn rfl rfl (by rw [a.enc_len]; omega) (by omega)
theorem t33 : ∀ (r : Od) (M m : Nat) (all pre : List (List PV)) (i : Int), r.nodes ≤ 1073741824 → i = (pre.length : Int) → all = pre ++ r.enc → all.length ≤ 1073741824 → r.len < m →
    iterN (lp33_3 (W E) M) m [.sl 2 all, .val (.int .i64 (all.length : Int)), .val (.int .i64 i), .sl 2 [], .sl 2 pre] = some (0, [.sl 2 [], .sl 2 all])
  | .nil, M, m, all, pre, i, hn, hi, h, hl, hm => by
    obtain ⟨m, rfl⟩ : ∃ k, m = k + 1 := ⟨m - 1, by omega⟩
    subst hi
    have he := at_end h
    rw [iterN_succ]
    simp only [lp33_3, lq33_3, bindO_eq, pvAt_zero, pvAt_succ, getL_zero, getL_succ, dropL_one, int_val, bool_val, str_val, rows_sl, errB_err, cond_true, cond_false, chk_pos, beq00, beq10, zne00, zeq00, decide_true, decide_false, true_and, and_true, and_self, Bool.not_true, Bool.not_false, canon61, canon26, canon24, canon3, canon3d, Int.toNat_natCast, List.cons_append, List.nil_append, he]
    rw [h]; simp [Od.enc]
  | .cons e c r, M, m, all, pre, i, hn, hi, h, hl, hm => by
    obtain ⟨m, rfl⟩ : ∃ k, m = k + 1 := ⟨m - 1, by omega⟩
    subst hi
    simp only [Od.len] at hm
    simp only [Od.nodes] at hn
    obtain ⟨h2, h3, h4, h5, h6⟩ := at_round [] h (by omega)
    have hee : e.enc.length ≤ 1073741824 := by rw [e.enc_len]; have := e.len_lt; omega
    have hrec : W E 33 [.sl 2 e.enc] = some [.sl 2 e.enc] := by
      refine w33 (m := e.len + 1) _ ?_
      have := t33 e (e.len + 1) (e.len + 1) e.enc [] 0 (by omega) rfl rfl hee (by omega)
      simp only [g33, this, bindO_eq, pvAt_zero, pvAt_succ, getL_zero, getL_succ, dropL_one, int_val, bool_val, str_val, rows_sl, errB_err, cond_true, cond_false, chk_pos, beq00, beq10, zne00, zeq00, decide_true, decide_false, true_and, and_true, and_self, Bool.not_true, Bool.not_false, canon61, canon26, canon24, canon3, canon3d, Int.toNat_natCast, List.cons_append, List.nil_append]
    rw [iterN_succ]
    simp only [lp33_3, lq33_3, bindO_eq, pvAt_zero, pvAt_succ, getL_zero, getL_succ, dropL_one, int_val, bool_val, str_val, rows_sl, errB_err, cond_true, cond_false, chk_pos, beq00, beq10, zne00, zeq00, decide_true, decide_false, true_and, and_true, and_self, Bool.not_true, Bool.not_false, canon61, canon26, canon24, canon3, canon3d, Int.toNat_natCast, List.cons_append, List.nil_append, h2, h3, h4, hrec, h5]
    rw [chk_pos (app_ok (l := pre) (by omega))]
    exact t33 r M m all _ _ (by omega) rfl h6 hl (by omega)
theorem W33 {a : Od} (hn : a.nodes ≤ 1073741824) : W E 33 [.sl 2 a.enc] = some [.sl 2 a.enc] := by
  have hlt := a.len_lt
  refine w33 (m := a.len + 1) _ ?_
  have := t33 a (a.len + 1) (a.len + 1) a.enc [] 0 hn rfl rfl (by rw [a.enc_len]; omega) (by omega)
  simp only [g33, this, bindO_eq, pvAt_zero, pvAt_succ, getL_zero, getL_succ, dropL_one, int_val, bool_val, str_val, rows_sl, errB_err, cond_true, cond_false, chk_pos, beq00, beq10, zne00, zeq00, decide_true, decide_false, true_and, and_true, and_self, Bool.not_true, Bool.not_false, canon61, canon26, canon24, canon3, canon3d, Int.toNat_natCast, List.cons_append, List.nil_append]
/-- w to a power, some times. -/
def Od.term (e : Od) (c : Int) : Od := if c = 0 then .nil else .cons e c .nil
theorem W31 (a : Od) (c : Int) : W E 31 [.sl 2 a.enc, .val (.int .i64 c)] = some [.sl 2 (a.term c).enc] := by
  refine w31 (m := 0) _ _ ?_
  unfold g31 Od.term
  by_cases h : c = 0
  · simp [h, Od.enc]
  · simp [h, Od.enc, ieq_f h]
theorem W49 (a : Od) (c : Int) : W E 49 [.sl 2 a.enc, .val (.int .i64 c)] = some [.sl 2 (a.term c).enc] := by
  refine w49 (m := 0) _ _ ?_
  unfold g49 Od.term
  by_cases h : c = 0
  · simp [h, Od.enc]
  · simp [h, Od.enc, ieq_f h]
theorem W48 (c : Int) : W E 48 [.val (.int .i64 c)] = some [.sl 2 (Od.nil.term c).enc] := by
  refine w48 (m := 0) _ ?_
  have := W49 .nil c
  simp only [Od.enc] at this
  simp only [g48, this, bindO_eq, pvAt_zero, pvAt_succ, getL_zero, getL_succ, dropL_one, int_val, bool_val, str_val, rows_sl, errB_err, cond_true, cond_false, chk_pos, beq00, beq10, zne00, zeq00, decide_true, decide_false, true_and, and_true, and_self, Bool.not_true, Bool.not_false, canon61, canon26, canon24, canon3, canon3d, Int.toNat_natCast, List.cons_append, List.nil_append]
theorem W41 (c : Int) : W E 41 [.val (.int .i64 c)] = some [.sl 2 (Od.nil.term c).enc] := by
  refine w41 (m := 0) _ ?_
  unfold g41 Od.term
  by_cases h : c = 0
  · simp [h, Od.enc]
  · simp [h, Od.enc, ieq_f h]
def Od.isNil : Od → Bool
  | .nil => true
  | .cons _ _ _ => false
theorem len_zero (a : Od) : ((a.enc.length : Int) == 0) = a.isNil := by
  cases a with
  | nil => rfl
  | cons e c r => simp [Od.enc, Od.isNil]; omega
theorem W32 (a : Od) : W E 32 [.sl 2 a.enc] = some [.val (.bool a.isNil)] := by
  refine w32 (m := 0) _ ?_
  unfold g32
  rw [len_zero]
theorem W56 (a : Od) : W E 56 [.sl 2 a.enc] = some [.val (.bool a.isNil)] := by
  refine w56 (m := 0) _ ?_
  unfold g56
  rw [len_zero]
theorem W30 {a : Od} (hn : a.nodes ≤ 1073741824) : W E 30 [.sl 2 a.enc] = some [.sl 2 (if a.good then a.enc else []), .val (.bool a.good)] := by
  refine w30 (m := 0) _ ?_
  simp only [g30, W11 hn, bindO_eq, pvAt_zero, pvAt_succ, getL_zero, getL_succ, dropL_one, int_val, bool_val, str_val, rows_sl, errB_err, cond_true, cond_false, chk_pos, beq00, beq10, zne00, zeq00, decide_true, decide_false, true_and, and_true, and_self, Bool.not_true, Bool.not_false, canon61, canon26, canon24, canon3, canon3d, Int.toNat_natCast, List.cons_append, List.nil_append]
  cases hg : a.good with
  | false => simp only [bindO_eq, pvAt_zero, pvAt_succ, getL_zero, getL_succ, dropL_one, int_val, bool_val, str_val, rows_sl, errB_err, cond_true, cond_false, chk_pos, beq00, beq10, zne00, zeq00, decide_true, decide_false, true_and, and_true, and_self, Bool.not_true, Bool.not_false, canon61, canon26, canon24, canon3, canon3d, Int.toNat_natCast, List.cons_append, List.nil_append]; simp
  | true => simp only [bindO_eq, pvAt_zero, pvAt_succ, getL_zero, getL_succ, dropL_one, int_val, bool_val, str_val, rows_sl, errB_err, cond_true, cond_false, chk_pos, beq00, beq10, zne00, zeq00, decide_true, decide_false, true_and, and_true, and_self, Bool.not_true, Bool.not_false, canon61, canon26, canon24, canon3, canon3d, Int.toNat_natCast, List.cons_append, List.nil_append, W33 hn]; simp
theorem W14 {a : Od} (hg : a.good = true) : W E 14 [.sl 2 a.enc] = some [.sl 2 (if (Od.cons a 1 .nil).good then (Od.cons a 1 .nil).enc else []), .val (.bool (Od.cons a 1 .nil).good)] := by
  have hn := good_nodes hg
  have h31 := W31 a 1
  simp only [Od.term, if_neg (show (1 : Int) ≠ 0 by omega)] at h31
  refine w14 (m := 0) _ ?_
  have h30 := W30 (a := Od.cons a 1 .nil) (by simp only [Od.nodes]; omega)
  simp only [g14, W11 (show a.nodes ≤ 1073741824 by omega), hg, bindO_eq, pvAt_zero, pvAt_succ, getL_zero, getL_succ, dropL_one, int_val, bool_val, str_val, rows_sl, errB_err, cond_true, cond_false, chk_pos, beq00, beq10, zne00, zeq00, decide_true, decide_false, true_and, and_true, and_self, Bool.not_true, Bool.not_false, canon61, canon26, canon24, canon3, canon3d, Int.toNat_natCast, List.cons_append, List.nil_append, h31, h30]
theorem W15 {a : Od} {c : Int} (hg : (Od.cons a c .nil).good = true) : W E 15 [.sl 2 (Od.cons a c .nil).enc] = some [.sl 2 a.enc, .val (.bool true)] := by
  have hn := good_nodes hg
  simp only [Od.nodes] at hn
  refine w15 (m := 0) _ ?_
  have h32 := W32 (Od.cons a c .nil)
  have h34 : W E 34 [.sl 2 (Od.cons a c .nil).enc] = some [.sl 2 a.enc] := by
    refine w34 (m := 0) _ ?_
    simp only [g34, h32, Od.isNil, bindO_eq, pvAt_zero, pvAt_succ, getL_zero, getL_succ, dropL_one, int_val, bool_val, str_val, rows_sl, errB_err, cond_true, cond_false, chk_pos, beq00, beq10, zne00, zeq00, decide_true, decide_false, true_and, and_true, and_self, Bool.not_true, Bool.not_false, canon61, canon26, canon24, canon3, canon3d, Int.toNat_natCast, List.cons_append, List.nil_append]
    simp only [Od.enc]
    rw [chk_pos (by simp)]
    simp only [Int.toNat_zero, bindO_eq, pvAt_zero, pvAt_succ, getL_zero, getL_succ, dropL_one, int_val, bool_val, str_val, rows_sl, errB_err, cond_true, cond_false, chk_pos, beq00, beq10, zne00, zeq00, decide_true, decide_false, true_and, and_true, and_self, Bool.not_true, Bool.not_false, canon61, canon26, canon24, canon3, canon3d, Int.toNat_natCast, List.cons_append, List.nil_append]
  simp only [g15, W11 (show (Od.cons a c .nil).nodes ≤ 1073741824 by simp only [Od.nodes]; omega), hg, bindO_eq, pvAt_zero, pvAt_succ, getL_zero, getL_succ, dropL_one, int_val, bool_val, str_val, rows_sl, errB_err, cond_true, cond_false, chk_pos, beq00, beq10, zne00, zeq00, decide_true, decide_false, true_and, and_true, and_self, Bool.not_true, Bool.not_false, canon61, canon26, canon24, canon3, canon3d, Int.toNat_natCast, List.cons_append, List.nil_append, h32, Od.isNil, h34, W33 (show a.nodes ≤ 1073741824 by omega)]
end Go.Vm
