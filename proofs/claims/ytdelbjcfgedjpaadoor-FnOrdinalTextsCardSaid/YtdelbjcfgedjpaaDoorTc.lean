import Derived.Test.YtdelbjcfgedjpaaDoorTb
/-! ### Both comparisons -/
namespace Go.Vm
open Go.Vm.D
set_option linter.unusedVariables false
set_option linter.unusedSimpArgs false
theorem W78 (n : Int) : W E 78 [.val (.int .i64 n)] = some [.val (.int .i64 (if 0 < n then 1 else if n < 0 then -1 else 0))] := by
  refine w78 (m := 0) _ ?_
  unfold g78
  by_cases h : 0 < n
  · simp [h]
  · by_cases h2 : n < 0 <;> simp [h, h2]
theorem W86 (a b : Int) : W E 86 [.val (.int .i64 a), .val (.int .i64 b)] = some [.val (.int .i64 (if a < b then -1 else if b < a then 1 else 0))] := by
  refine w86 (m := 0) _ _ ?_
  unfold g86
  by_cases h : a < b
  · simp [h]
  · by_cases h2 : b < a <;> simp [h, h2]
theorem ieq_t {a b : Int} (h : a = b) : (a == b) = true := by simp [h]
theorem ieq_f {a b : Int} (h : a ≠ b) : (a == b) = false := by simp [h]
theorem ine_t {a b : Int} (h : a ≠ b) : (a != b) = true := by simp [h]
theorem ine_f {a b : Int} (h : a = b) : (a != b) = false := by simp [h]

noncomputable def k58 (r8 : Nat × List PV) : Option (List PV) :=
  bif Nat.beq r8.1 0 then (let y9 : Bool := decide ((((pvAt r8.2 1).rows).length : Int) > (((pvAt r8.2 0).rows).length : Int)); bif y9 then (some [.val (.int .i64 (-1))]) else (some [.val (.int .i64 0)])) else (some [.val (.int .i64 ((pvAt r8.2 0).int))])
theorem t58 : ∀ (r s : Od) (M m : Nat) (all pre bll prb : List (List PV)) (i : Int), r.cok 1099511627776 → s.cok 1099511627776 → r.nodes ≤ 1073741824 → s.nodes ≤ 1073741824 → i = (pre.length : Int) → pre.length = prb.length → all = pre ++ r.enc → bll = prb ++ s.enc → all.length ≤ 1099511627776 → bll.length ≤ 1099511627776 → r.len < m →
    bindO (iterN (lp58_2 (W E) M) m [.sl 2 all, .val (.int .i64 (all.length : Int)), .val (.int .i64 i), .sl 2 all, .sl 2 bll]) k58 = some [.val (.int .i64 (r.cmp s))]
  | .nil, s, M, m, all, pre, bll, prb, i, ok, ok', hn, hn', hi, hp, h, h', hl, hl', hm => by
    obtain ⟨m, rfl⟩ : ∃ k, m = k + 1 := ⟨m - 1, by omega⟩
    subst hi
    have he := at_end h
    rw [iterN_succ]
    simp only [lp58_2, lq58_2, bindO_eq, pvAt_zero, pvAt_succ, getL_zero, getL_succ, dropL_one, int_val, bool_val, str_val, rows_sl, errB_err, cond_true, cond_false, chk_pos, beq00, beq10, zne00, zeq00, decide_true, decide_false, true_and, and_true, and_self, Bool.not_true, Bool.not_false, canon61, canon26, canon24, canon3, canon3d, Int.toNat_natCast, List.cons_append, List.nil_append, he, k58]
    have e1 : all.length = pre.length := by rw [h]; simp [Od.enc]
    cases s with
    | nil =>
      have e2 : bll.length = prb.length := by rw [h']; simp [Od.enc]
      have : ¬ ((bll.length : Int) > (all.length : Int)) := by omega
      simp only [this, bindO_eq, pvAt_zero, pvAt_succ, getL_zero, getL_succ, dropL_one, int_val, bool_val, str_val, rows_sl, errB_err, cond_true, cond_false, chk_pos, beq00, beq10, zne00, zeq00, decide_true, decide_false, true_and, and_true, and_self, Bool.not_true, Bool.not_false, canon61, canon26, canon24, canon3, canon3d, Int.toNat_natCast, List.cons_append, List.nil_append, Od.cmp]
    | cons e c t =>
      have e2 : bll.length = prb.length + t.enc.length + 1 := by rw [h']; simp [Od.enc]; omega
      have : (bll.length : Int) > (all.length : Int) := by omega
      simp only [this, bindO_eq, pvAt_zero, pvAt_succ, getL_zero, getL_succ, dropL_one, int_val, bool_val, str_val, rows_sl, errB_err, cond_true, cond_false, chk_pos, beq00, beq10, zne00, zeq00, decide_true, decide_false, true_and, and_true, and_self, Bool.not_true, Bool.not_false, canon61, canon26, canon24, canon3, canon3d, Int.toNat_natCast, List.cons_append, List.nil_append, Od.cmp]
  | .cons e c r, .nil, M, m, all, pre, bll, prb, i, ok, ok', hn, hn', hi, hp, h, h', hl, hl', hm => by
    obtain ⟨m, rfl⟩ : ∃ k, m = k + 1 := ⟨m - 1, by omega⟩
    subst hi
    obtain ⟨h2, h3, h4, h5, h6⟩ := at_round [] h hl
    have e2 : (pre.length : Int) = (bll.length : Int) := by rw [h']; simp [Od.enc, hp]
    rw [iterN_succ]
    simp only [lp58_2, lq58_2, bindO_eq, pvAt_zero, pvAt_succ, getL_zero, getL_succ, dropL_one, int_val, bool_val, str_val, rows_sl, errB_err, cond_true, cond_false, chk_pos, beq00, beq10, zne00, zeq00, decide_true, decide_false, true_and, and_true, and_self, Bool.not_true, Bool.not_false, canon61, canon26, canon24, canon3, canon3d, Int.toNat_natCast, List.cons_append, List.nil_append, h2, h3, h4, ieq_t e2, k58, Od.cmp]
  | .cons e c r, .cons e' c' r', M, m, all, pre, bll, prb, i, ok, ok', hn, hn', hi, hp, h, h', hl, hl', hm => by
    obtain ⟨m, rfl⟩ : ∃ k, m = k + 1 := ⟨m - 1, by omega⟩
    subst hi
    simp only [Od.len] at hm
    simp only [Od.nodes] at hn hn'
    obtain ⟨h2, h3, h4, h5, h6⟩ := at_round [] h hl
    obtain ⟨q2, q3, q4, q5, q6⟩ := at_round [] h' hl'
    rw [← hp] at q2 q3 q4 q5
    have e2 : (pre.length : Int) ≠ (bll.length : Int) := by omega
    have hee : e.enc.length ≤ 1099511627776 := by rw [e.enc_len]; have := e.len_lt; omega
    have hee' : e'.enc.length ≤ 1099511627776 := by rw [e'.enc_len]; have := e'.len_lt; omega
    have hrec : W E 58 [.sl 2 e.enc, .sl 2 e'.enc] = some [.val (.int .i64 (e.cmp e'))] := by
      refine w58 (m := e.len + 1) _ _ ?_
      exact t58 e e' (e.len + 1) (e.len + 1) e.enc [] e'.enc [] 0 ok.1 ok'.1 (by omega) (by omega) rfl rfl rfl rfl hee hee' (by omega)
    rw [iterN_succ]
    simp only [lp58_2, lq58_2, bindO_eq, pvAt_zero, pvAt_succ, getL_zero, getL_succ, dropL_one, int_val, bool_val, str_val, rows_sl, errB_err, cond_true, cond_false, chk_pos, beq00, beq10, zne00, zeq00, decide_true, decide_false, true_and, and_true, and_self, Bool.not_true, Bool.not_false, canon61, canon26, canon24, canon3, canon3d, Int.toNat_natCast, List.cons_append, List.nil_append, h2, h3, h4, q2, q3, q4, ieq_f e2, hrec]
    by_cases hc : e.cmp e' = 0
    · simp only [ine_f hc, bindO_eq, pvAt_zero, pvAt_succ, getL_zero, getL_succ, dropL_one, int_val, bool_val, str_val, rows_sl, errB_err, cond_true, cond_false, chk_pos, beq00, beq10, zne00, zeq00, decide_true, decide_false, true_and, and_true, and_self, Bool.not_true, Bool.not_false, canon61, canon26, canon24, canon3, canon3d, Int.toNat_natCast, List.cons_append, List.nil_append, Od.cmp, hc]
      by_cases hd : c = c'
      · subst hd
        simp only [ine_f (rfl : c = c), bindO_eq, pvAt_zero, pvAt_succ, getL_zero, getL_succ, dropL_one, int_val, bool_val, str_val, rows_sl, errB_err, cond_true, cond_false, chk_pos, beq00, beq10, zne00, zeq00, decide_true, decide_false, true_and, and_true, and_self, Bool.not_true, Bool.not_false, canon61, canon26, canon24, canon3, canon3d, Int.toNat_natCast, List.cons_append, List.nil_append, h5]
        rw [t58 r r' M m all _ bll _ _ ok.2.2 ok'.2.2 (by omega) (by omega) rfl (by simp [hp]) h6 q6 hl hl' (by omega)]
        simp
      · simp only [ine_t hd, bindO_eq, pvAt_zero, pvAt_succ, getL_zero, getL_succ, dropL_one, int_val, bool_val, str_val, rows_sl, errB_err, cond_true, cond_false, chk_pos, beq00, beq10, zne00, zeq00, decide_true, decide_false, true_and, and_true, and_self, Bool.not_true, Bool.not_false, canon61, canon26, canon24, canon3, canon3d, Int.toNat_natCast, List.cons_append, List.nil_append, W78]
        rw [wrap_id (n := c - c') (by have := ok.2.1; have := ok'.2.1; omega) (by have := ok.2.1; have := ok'.2.1; omega)]
        simp only [k58, bindO_eq, pvAt_zero, pvAt_succ, getL_zero, getL_succ, dropL_one, int_val, bool_val, str_val, rows_sl, errB_err, cond_true, cond_false, chk_pos, beq00, beq10, zne00, zeq00, decide_true, decide_false, true_and, and_true, and_self, Bool.not_true, Bool.not_false, canon61, canon26, canon24, canon3, canon3d, Int.toNat_natCast, List.cons_append, List.nil_append]
        by_cases h1 : c < c'
        · rw [if_neg (by omega), if_pos (by omega)]; simp [h1]
        · rw [if_pos (by omega)]; simp [h1]; omega
    · simp only [ine_t hc, bindO_eq, pvAt_zero, pvAt_succ, getL_zero, getL_succ, dropL_one, int_val, bool_val, str_val, rows_sl, errB_err, cond_true, cond_false, chk_pos, beq00, beq10, zne00, zeq00, decide_true, decide_false, true_and, and_true, and_self, Bool.not_true, Bool.not_false, canon61, canon26, canon24, canon3, canon3d, Int.toNat_natCast, List.cons_append, List.nil_append, Od.cmp, k58, ne_eq, hc, not_false_eq_true, if_true]
theorem W58 {a b : Od} (ha : a.cok 1099511627776) (hb : b.cok 1099511627776) (hn : a.nodes ≤ 1073741824) (hn' : b.nodes ≤ 1073741824) : W E 58 [.sl 2 a.enc, .sl 2 b.enc] = some [.val (.int .i64 (a.cmp b))] := by
  have := a.len_lt; have := b.len_lt
  refine w58 (m := a.len + 1) _ _ ?_
  exact t58 a b (a.len + 1) (a.len + 1) a.enc [] b.enc [] 0 ha hb hn hn' rfl rfl rfl rfl (by rw [a.enc_len]; omega) (by rw [b.enc_len]; omega) (by omega)

noncomputable def k100 (r6 : Nat × List PV) : Option (List PV) :=
  bif Nat.beq r6.1 0 then (let y7 : Bool := decide ((((pvAt r6.2 0).rows).length : Int) < (((pvAt r6.2 1).rows).length : Int)); bif y7 then (some [.val (.int .i64 (-1))]) else (some [.val (.int .i64 0)])) else (some [.val (.int .i64 ((pvAt r6.2 0).int))])
theorem t52 : ∀ (r s : Od) (M m : Nat) (all pre bll prb : List (List PV)) (i : Int), r.nodes ≤ 1073741824 → s.nodes ≤ 1073741824 → i = (pre.length : Int) → pre.length = prb.length → all = pre ++ r.enc → bll = prb ++ s.enc → all.length ≤ 1099511627776 → bll.length ≤ 1099511627776 → r.len < m →
    bindO (iterN (lp100000_2 (W E) M) m [.sl 2 all, .sl 2 bll, .sl 2 all, .val (.int .i64 (all.length : Int)), .val (.int .i64 i)]) k100 = some [.val (.int .i64 (r.cmp s))]
  | .nil, s, M, m, all, pre, bll, prb, i, hn, hn', hi, hp, h, h', hl, hl', hm => by
    obtain ⟨m, rfl⟩ : ∃ k, m = k + 1 := ⟨m - 1, by omega⟩
    subst hi
    have he := at_end h
    rw [iterN_succ]
    simp only [lp100000_2, lq100000_2, bindO_eq, pvAt_zero, pvAt_succ, getL_zero, getL_succ, dropL_one, int_val, bool_val, str_val, rows_sl, errB_err, cond_true, cond_false, chk_pos, beq00, beq10, zne00, zeq00, decide_true, decide_false, true_and, and_true, and_self, Bool.not_true, Bool.not_false, canon61, canon26, canon24, canon3, canon3d, Int.toNat_natCast, List.cons_append, List.nil_append, he, k100]
    have e1 : all.length = pre.length := by rw [h]; simp [Od.enc]
    cases s with
    | nil =>
      have e2 : bll.length = prb.length := by rw [h']; simp [Od.enc]
      have : ¬ ((all.length : Int) < (bll.length : Int)) := by omega
      simp only [this, bindO_eq, pvAt_zero, pvAt_succ, getL_zero, getL_succ, dropL_one, int_val, bool_val, str_val, rows_sl, errB_err, cond_true, cond_false, chk_pos, beq00, beq10, zne00, zeq00, decide_true, decide_false, true_and, and_true, and_self, Bool.not_true, Bool.not_false, canon61, canon26, canon24, canon3, canon3d, Int.toNat_natCast, List.cons_append, List.nil_append, Od.cmp]
    | cons e c t =>
      have e2 : bll.length = prb.length + t.enc.length + 1 := by rw [h']; simp [Od.enc]; omega
      have : (all.length : Int) < (bll.length : Int) := by omega
      simp only [this, bindO_eq, pvAt_zero, pvAt_succ, getL_zero, getL_succ, dropL_one, int_val, bool_val, str_val, rows_sl, errB_err, cond_true, cond_false, chk_pos, beq00, beq10, zne00, zeq00, decide_true, decide_false, true_and, and_true, and_self, Bool.not_true, Bool.not_false, canon61, canon26, canon24, canon3, canon3d, Int.toNat_natCast, List.cons_append, List.nil_append, Od.cmp]
  | .cons e c r, .nil, M, m, all, pre, bll, prb, i, hn, hn', hi, hp, h, h', hl, hl', hm => by
    obtain ⟨m, rfl⟩ : ∃ k, m = k + 1 := ⟨m - 1, by omega⟩
    subst hi
    obtain ⟨h2, h3, h4, h5, h6⟩ := at_round [] h hl
    have e2 : (pre.length : Int) ≥ (bll.length : Int) := by rw [h']; simp [Od.enc, hp]
    rw [iterN_succ]
    simp only [lp100000_2, lq100000_2, bindO_eq, pvAt_zero, pvAt_succ, getL_zero, getL_succ, dropL_one, int_val, bool_val, str_val, rows_sl, errB_err, cond_true, cond_false, chk_pos, beq00, beq10, zne00, zeq00, decide_true, decide_false, true_and, and_true, and_self, Bool.not_true, Bool.not_false, canon61, canon26, canon24, canon3, canon3d, Int.toNat_natCast, List.cons_append, List.nil_append, h2, h3, h4, e2, k100, Od.cmp]
  | .cons e c r, .cons e' c' r', M, m, all, pre, bll, prb, i, hn, hn', hi, hp, h, h', hl, hl', hm => by
    obtain ⟨m, rfl⟩ : ∃ k, m = k + 1 := ⟨m - 1, by omega⟩
    subst hi
    simp only [Od.len] at hm
    simp only [Od.nodes] at hn hn'
    obtain ⟨h2, h3, h4, h5, h6⟩ := at_round [] h hl
    obtain ⟨q2, q3, q4, q5, q6⟩ := at_round [] h' hl'
    rw [← hp] at q2 q3 q4 q5
    have e2 : ¬ ((pre.length : Int) ≥ (bll.length : Int)) := by omega
    have hee : e.enc.length ≤ 1099511627776 := by rw [e.enc_len]; have := e.len_lt; omega
    have hee' : e'.enc.length ≤ 1099511627776 := by rw [e'.enc_len]; have := e'.len_lt; omega
    have hrec : W E 52 [.sl 2 e.enc, .sl 2 e'.enc] = some [.val (.int .i64 (e.cmp e'))] := by
      refine w52 (m := 0) _ _ ?_
      have : W E 100000 [.sl 2 e.enc, .sl 2 e'.enc] = some [.val (.int .i64 (e.cmp e'))] := by
        refine w100000 (m := e.len + 1) _ _ ?_
        exact t52 e e' (e.len + 1) (e.len + 1) e.enc [] e'.enc [] 0 (by omega) (by omega) rfl rfl rfl rfl hee hee' (by omega)
      simp only [g52, this, bindO_eq, pvAt_zero, pvAt_succ, getL_zero, getL_succ, dropL_one, int_val, bool_val, str_val, rows_sl, errB_err, cond_true, cond_false, chk_pos, beq00, beq10, zne00, zeq00, decide_true, decide_false, true_and, and_true, and_self, Bool.not_true, Bool.not_false, canon61, canon26, canon24, canon3, canon3d, Int.toNat_natCast, List.cons_append, List.nil_append]
    have h73 : W E 73 [.sl 2 e.enc, .val (.int .i64 c), .sl 2 e'.enc, .val (.int .i64 c')] = some [.val (.int .i64 (if e.cmp e' ≠ 0 then e.cmp e' else if c < c' then -1 else if c' < c then 1 else 0))] := by
      refine w73 (m := 0) _ _ _ _ ?_
      simp only [g73, hrec, bindO_eq, pvAt_zero, pvAt_succ, getL_zero, getL_succ, dropL_one, int_val, bool_val, str_val, rows_sl, errB_err, cond_true, cond_false, chk_pos, beq00, beq10, zne00, zeq00, decide_true, decide_false, true_and, and_true, and_self, Bool.not_true, Bool.not_false, canon61, canon26, canon24, canon3, canon3d, Int.toNat_natCast, List.cons_append, List.nil_append]
      by_cases hc : e.cmp e' = 0
      · simp only [ine_f hc, bindO_eq, pvAt_zero, pvAt_succ, getL_zero, getL_succ, dropL_one, int_val, bool_val, str_val, rows_sl, errB_err, cond_true, cond_false, chk_pos, beq00, beq10, zne00, zeq00, decide_true, decide_false, true_and, and_true, and_self, Bool.not_true, Bool.not_false, canon61, canon26, canon24, canon3, canon3d, Int.toNat_natCast, List.cons_append, List.nil_append, W86, hc]; simp
      · simp only [ine_t hc, bindO_eq, pvAt_zero, pvAt_succ, getL_zero, getL_succ, dropL_one, int_val, bool_val, str_val, rows_sl, errB_err, cond_true, cond_false, chk_pos, beq00, beq10, zne00, zeq00, decide_true, decide_false, true_and, and_true, and_self, Bool.not_true, Bool.not_false, canon61, canon26, canon24, canon3, canon3d, Int.toNat_natCast, List.cons_append, List.nil_append]; simp [hc]
    rw [iterN_succ]
    simp only [lp100000_2, lq100000_2, bindO_eq, pvAt_zero, pvAt_succ, getL_zero, getL_succ, dropL_one, int_val, bool_val, str_val, rows_sl, errB_err, cond_true, cond_false, chk_pos, beq00, beq10, zne00, zeq00, decide_true, decide_false, true_and, and_true, and_self, Bool.not_true, Bool.not_false, canon61, canon26, canon24, canon3, canon3d, Int.toNat_natCast, List.cons_append, List.nil_append, h2, h3, h4, q2, q3, q4, e2, h73]
    by_cases hc : e.cmp e' = 0
    · by_cases h1 : c < c'
      · simp [hc, h1, Od.cmp, k100, bindO_eq, pvAt_zero, int_val, beq10]
      · by_cases h8 : c' < c
        · simp [hc, h1, h8, Od.cmp, k100, bindO_eq, pvAt_zero, int_val, beq10]
        · simp only [hc, h1, h8, ne_eq, not_true_eq_false, if_false, ine_f (rfl : (0:Int) = 0), bindO_eq, pvAt_zero, pvAt_succ, getL_zero, getL_succ, dropL_one, int_val, bool_val, str_val, rows_sl, errB_err, cond_true, cond_false, chk_pos, beq00, beq10, zne00, zeq00, decide_true, decide_false, true_and, and_true, and_self, Bool.not_true, Bool.not_false, canon61, canon26, canon24, canon3, canon3d, Int.toNat_natCast, List.cons_append, List.nil_append, h5, Od.cmp]
          exact t52 r r' M m all _ bll _ _ (by omega) (by omega) rfl (by simp [hp]) h6 q6 hl hl' (by omega)
    · simp only [ne_eq, hc, not_false_eq_true, if_true, ine_t hc, bindO_eq, pvAt_zero, pvAt_succ, getL_zero, getL_succ, dropL_one, int_val, bool_val, str_val, rows_sl, errB_err, cond_true, cond_false, chk_pos, beq00, beq10, zne00, zeq00, decide_true, decide_false, true_and, and_true, and_self, Bool.not_true, Bool.not_false, canon61, canon26, canon24, canon3, canon3d, Int.toNat_natCast, List.cons_append, List.nil_append, Od.cmp, k100]
theorem W52 {a b : Od} (hn : a.nodes ≤ 1073741824) (hn' : b.nodes ≤ 1073741824) : W E 52 [.sl 2 a.enc, .sl 2 b.enc] = some [.val (.int .i64 (a.cmp b))] := by
  have := a.len_lt; have := b.len_lt
  refine w52 (m := 0) _ _ ?_
  have h : W E 100000 [.sl 2 a.enc, .sl 2 b.enc] = some [.val (.int .i64 (a.cmp b))] := by
    refine w100000 (m := a.len + 1) _ _ ?_
    exact t52 a b (a.len + 1) (a.len + 1) a.enc [] b.enc [] 0 hn hn' rfl rfl rfl rfl (by rw [a.enc_len]; omega) (by rw [b.enc_len]; omega) (by omega)
  simp only [g52, h, bindO_eq, pvAt_zero, pvAt_succ, getL_zero, getL_succ, dropL_one, int_val, bool_val, str_val, rows_sl, errB_err, cond_true, cond_false, chk_pos, beq00, beq10, zne00, zeq00, decide_true, decide_false, true_and, and_true, and_self, Bool.not_true, Bool.not_false, canon61, canon26, canon24, canon3, canon3d, Int.toNat_natCast, List.cons_append, List.nil_append]
end Go.Vm
