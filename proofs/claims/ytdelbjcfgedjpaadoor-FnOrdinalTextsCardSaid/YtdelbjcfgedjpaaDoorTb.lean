import Derived.Test.YtdelbjcfgedjpaaDoorTa
/-! ### Size and order -/
namespace Go.Vm
open Go.Vm.D
set_option linter.unusedVariables false
set_option linter.unusedSimpArgs false
namespace Od
/-- The order: by the first difference. -/
def cmp : Od → Od → Int
  | nil, nil => 0
  | nil, cons _ _ _ => -1
  | cons _ _ _, nil => 1
  | cons e c r, cons e' c' r' => if cmp e e' ≠ 0 then cmp e e' else if c < c' then -1 else if c' < c then 1 else cmp r r'
end Od
theorem t28 : ∀ (r : Od) (M m : Nat) (all pre : List (List PV)) (v i : Int), i = (pre.length : Int) → all = pre ++ r.enc → all.length ≤ 1099511627776 → 0 ≤ v → v + r.nodes ≤ 1099511627776 → r.len < m →
    iterN (lp28_3 (W E) M) m [.val (.int .i64 v), .sl 2 all, .val (.int .i64 (all.length : Int)), .val (.int .i64 i)] = some (0, [.val (.int .i64 (v + (r.nodes - 1)))])
  | .nil, M, m, all, pre, v, i, hi, h, hl, h0, hv, hm => by
    obtain ⟨m, rfl⟩ : ∃ k, m = k + 1 := ⟨m - 1, by omega⟩
    subst hi
    have he := at_end h
    rw [iterN_succ]
    simp only [lp28_3, lq28_3, bindO_eq, pvAt_zero, pvAt_succ, getL_zero, getL_succ, dropL_one, int_val, bool_val, str_val, rows_sl, errB_err, cond_true, cond_false, chk_pos, beq00, beq10, zne00, zeq00, decide_true, decide_false, true_and, and_true, and_self, Bool.not_true, Bool.not_false, canon61, canon26, canon24, canon3, canon3d, Int.toNat_natCast, List.cons_append, List.nil_append, he]
    simp [Od.nodes]
  | .cons e c r, M, m, all, pre, v, i, hi, h, hl, h0, hv, hm => by
    obtain ⟨m, rfl⟩ : ∃ k, m = k + 1 := ⟨m - 1, by omega⟩
    subst hi
    simp only [Od.len] at hm
    simp only [Od.nodes] at hv
    obtain ⟨h2, h3, h4, h5, h6⟩ := at_round [] h hl
    have hee : e.enc.length ≤ 1099511627776 := by rw [e.enc_len]; have := e.len_lt; omega
    have hrec : W E 28 [.sl 2 e.enc] = some [.val (.int .i64 (e.nodes : Int))] := by
      refine w28 (m := e.len + 1) _ ?_
      have := t28 e (e.len + 1) (e.len + 1) e.enc [] 1 0 rfl rfl hee (by omega) (by omega) (by omega)
      simp only [g28, bindO_eq, pvAt_zero, pvAt_succ, getL_zero, getL_succ, dropL_one, int_val, bool_val, str_val, rows_sl, errB_err, cond_true, cond_false, chk_pos, beq00, beq10, zne00, zeq00, decide_true, decide_false, true_and, and_true, and_self, Bool.not_true, Bool.not_false, canon61, canon26, canon24, canon3, canon3d, Int.toNat_natCast, List.cons_append, List.nil_append]
      rw [this]
      simp only [bindO_eq, pvAt_zero, pvAt_succ, getL_zero, getL_succ, dropL_one, int_val, bool_val, str_val, rows_sl, errB_err, cond_true, cond_false, chk_pos, beq00, beq10, zne00, zeq00, decide_true, decide_false, true_and, and_true, and_self, Bool.not_true, Bool.not_false, canon61, canon26, canon24, canon3, canon3d, Int.toNat_natCast, List.cons_append, List.nil_append]
      congr 4; omega
    rw [iterN_succ]
    simp only [lp28_3, lq28_3, bindO_eq, pvAt_zero, pvAt_succ, getL_zero, getL_succ, dropL_one, int_val, bool_val, str_val, rows_sl, errB_err, cond_true, cond_false, chk_pos, beq00, beq10, zne00, zeq00, decide_true, decide_false, true_and, and_true, and_self, Bool.not_true, Bool.not_false, canon61, canon26, canon24, canon3, canon3d, Int.toNat_natCast, List.cons_append, List.nil_append, h2, h3, h4, h5, hrec]
    rw [wrap_id (n := 1 + (e.nodes : Int)) (by omega) (by omega), wrap_id (by omega) (by omega)]
    rw [t28 r M m all _ _ _ rfl h6 hl (by omega) (by omega) (by omega)]
    congr 5
    simp only [Od.nodes]; omega
theorem W28 {a : Od} (h : a.nodes ≤ 1073741824) : W E 28 [.sl 2 a.enc] = some [.val (.int .i64 (a.nodes : Int))] := by
  have hp := a.len_lt
  refine w28 (m := a.len + 1) _ ?_
  have := t28 a (a.len + 1) (a.len + 1) a.enc [] 1 0 rfl rfl (by rw [a.enc_len]; omega) (by omega) (by omega) (by omega)
  simp only [g28, bindO_eq, pvAt_zero, pvAt_succ, getL_zero, getL_succ, dropL_one, int_val, bool_val, str_val, rows_sl, errB_err, cond_true, cond_false, chk_pos, beq00, beq10, zne00, zeq00, decide_true, decide_false, true_and, and_true, and_self, Bool.not_true, Bool.not_false, canon61, canon26, canon24, canon3, canon3d, Int.toNat_natCast, List.cons_append, List.nil_append]
  rw [this]
  simp only [bindO_eq, pvAt_zero, pvAt_succ, getL_zero, getL_succ, dropL_one, int_val, bool_val, str_val, rows_sl, errB_err, cond_true, cond_false, chk_pos, beq00, beq10, zne00, zeq00, decide_true, decide_false, true_and, and_true, and_self, Bool.not_true, Bool.not_false, canon61, canon26, canon24, canon3, canon3d, Int.toNat_natCast, List.cons_append, List.nil_append]
  congr 4; omega
end Go.Vm
