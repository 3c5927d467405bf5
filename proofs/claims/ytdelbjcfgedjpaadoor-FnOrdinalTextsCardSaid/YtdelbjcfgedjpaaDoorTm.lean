import Derived.Test.YtdelbjcfgedjpaaDoorTl
/-! ### The readers' small steps -/
namespace Go.Vm
open Go.Vm.D Od
set_option linter.unusedVariables false
set_option linter.unusedSimpArgs false
/-- Whether t comes next at place i. -/
def nextIs (x t : List UInt8) (i : Nat) : Bool := decide ((x.drop i).take t.length = t)
theorem nextIs_le {x t : List UInt8} {i : Nat} (h : nextIs x t i = true) (hi : i ≤ x.length) : i + t.length ≤ x.length := by
  simp only [nextIs, decide_eq_true_eq] at h
  have := congrArg List.length h
  simp at this
  omega
theorem W83 (y t : List UInt8) : W E 83 [.val (.string (ba y)), .val (.string (ba t))] = some [.val (.bool (decide (y.take t.length = t)))] := by
  refine w83 (m := 0) _ _ ?_
  unfold g83
  simp only [ba_size, Int.toNat_natCast]
  by_cases h : (y.length : Int) ≥ (t.length : Int)
  · simp only [h, bindO_eq, pvAt_zero, pvAt_succ, getL_zero, getL_succ, dropL_one, int_val, bool_val, str_val, rows_sl, errB_err, cond_true, cond_false, chk_pos, beq00, beq10, zne00, zeq00, decide_true, decide_false, true_and, and_true, and_self, Bool.not_true, Bool.not_false, canon61, canon26, canon24, canon3, canon3d, Int.toNat_natCast, List.cons_append, List.nil_append, ba_extract, ba_beq, List.drop_zero, Nat.sub_zero, Nat.zero_le, show (0 : Int) ≤ (t.length : Int) by omega, show t.length ≤ y.length by omega]
  · have : ¬ (y.take t.length = t) := fun e => by
      have := congrArg List.length e
      simp at this
      omega
    simp only [h, bindO_eq, pvAt_zero, pvAt_succ, getL_zero, getL_succ, dropL_one, int_val, bool_val, str_val, rows_sl, errB_err, cond_true, cond_false, chk_pos, beq00, beq10, zne00, zeq00, decide_true, decide_false, true_and, and_true, and_self, Bool.not_true, Bool.not_false, canon61, canon26, canon24, canon3, canon3d, Int.toNat_natCast, List.cons_append, List.nil_append, this]
theorem W40 (t x : List UInt8) (i : Nat) (b : Bool) (hi : i ≤ x.length) (hx : x.length ≤ 1099511627776) (ht : t.length ≤ 1099511627776) :
    W E 40 [.val (.string (ba t)), .val (.string (ba x)), .val (.int .i64 (i : Int)), .val (.bool b)] = some [.val (.bool (!b && nextIs x t i)), .val (.string (ba x)), .val (.int .i64 ((if !b && nextIs x t i then i + t.length else i : Nat) : Int)), .val (.bool b)] := by
  refine w40 (m := 0) _ _ _ _ ?_
  unfold g40
  cases b with
  | true => simp [bindO_eq]
  | false =>
    have h65 : W E 65 [.val (.string (ba (x.drop i))), .val (.string (ba t))] = some [.val (.bool (nextIs x t i))] := by
      refine w65 (m := 0) _ _ ?_
      simp only [g65, W83, bindO_eq, pvAt_zero, pvAt_succ, getL_zero, getL_succ, dropL_one, int_val, bool_val, str_val, rows_sl, errB_err, cond_true, cond_false, chk_pos, beq00, beq10, zne00, zeq00, decide_true, decide_false, true_and, and_true, and_self, Bool.not_true, Bool.not_false, canon61, canon26, canon24, canon3, canon3d, Int.toNat_natCast, List.cons_append, List.nil_append, nextIs]
    simp only [bindO_eq, pvAt_zero, pvAt_succ, getL_zero, getL_succ, dropL_one, int_val, bool_val, str_val, rows_sl, errB_err, cond_true, cond_false, chk_pos, beq00, beq10, zne00, zeq00, decide_true, decide_false, true_and, and_true, and_self, Bool.not_true, Bool.not_false, canon61, canon26, canon24, canon3, canon3d, Int.toNat_natCast, List.cons_append, List.nil_append, ba_size, hi, show (0 : Int) ≤ (i : Int) by omega, Nat.le_refl, ba_extract]
    rw [List.take_of_length_le (l := List.drop i x) (by simp), h65]
    simp only [bindO_eq, pvAt_zero, pvAt_succ, getL_zero, getL_succ, dropL_one, int_val, bool_val, str_val, rows_sl, errB_err, cond_true, cond_false, chk_pos, beq00, beq10, zne00, zeq00, decide_true, decide_false, true_and, and_true, and_self, Bool.not_true, Bool.not_false, canon61, canon26, canon24, canon3, canon3d, Int.toNat_natCast, List.cons_append, List.nil_append]
    cases hn : nextIs x t i with
    | false => simp
    | true =>
      have := nextIs_le hn hi
      simp only [bindO_eq, pvAt_zero, pvAt_succ, getL_zero, getL_succ, dropL_one, int_val, bool_val, str_val, rows_sl, errB_err, cond_true, cond_false, chk_pos, beq00, beq10, zne00, zeq00, decide_true, decide_false, true_and, and_true, and_self, Bool.not_true, Bool.not_false, canon61, canon26, canon24, canon3, canon3d, Int.toNat_natCast, List.cons_append, List.nil_append, Bool.and_true, if_true]
      rw [wrap_id (by omega) (by omega)]
      simp
def isDig (b : UInt8) : Bool := decide (48 ≤ b.toNat ∧ b.toNat ≤ 57)
def digs (l : List UInt8) : List UInt8 := l.takeWhile isDig
theorem digs_le (l : List UInt8) : (digs l).length ≤ l.length := by
  unfold digs
  exact (List.takeWhile_prefix _).length_le
theorem take_digs (l : List UInt8) : l.take (digs l).length = digs l := by
  unfold digs
  exact (List.prefix_iff_eq_take.1 (List.takeWhile_prefix _)).symm
theorem drop_cons' {x : List UInt8} {i : Nat} (h : i < x.length) : x.drop i = x[i] :: x.drop (i + 1) := List.drop_eq_getElem_cons h
theorem digs_len {x : List UInt8} {i : Nat} (h : i < x.length) : (digs (x.drop i)).length = if isDig x[i] then (digs (x.drop (i + 1))).length + 1 else 0 := by
  rw [drop_cons' h, digs, List.takeWhile_cons]
  split <;> simp [digs]
theorem t60 {C : Orc} : ∀ (n : Nat) (M m : Nat) (x : List UInt8) (f : Int) (i : Nat) (b : Bool), x.length = i + n → n < m → x.length ≤ 1099511627776 →
    iterN (lp60_2 C M) m [.val (.int .i64 f), .val (.string (ba x)), .val (.int .i64 (i : Int)), .val (.bool b)] = some (0, [.val (.int .i64 f), .val (.string (ba x)), .val (.int .i64 ((i + (digs (x.drop i)).length : Nat) : Int)), .val (.bool b)])
  | 0, M, m, x, f, i, b, hn, hm, hx => by
    obtain ⟨m, rfl⟩ : ∃ k, m = k + 1 := ⟨m - 1, by omega⟩
    rw [iterN_succ, List.drop_of_length_le (by omega)]
    simp only [lp60_2, lq60_2, bindO_eq, pvAt_zero, pvAt_succ, getL_zero, getL_succ, dropL_one, int_val, bool_val, str_val, rows_sl, errB_err, cond_true, cond_false, chk_pos, beq00, beq10, zne00, zeq00, decide_true, decide_false, true_and, and_true, and_self, Bool.not_true, Bool.not_false, canon61, canon26, canon24, canon3, canon3d, Int.toNat_natCast, List.cons_append, List.nil_append, ba_size, show ¬ ((i : Int) < (x.length : Int)) by omega, digs, List.takeWhile_nil, List.length_nil, Nat.add_zero]
  | n + 1, M, m, x, f, i, b, hn, hm, hx => by
    obtain ⟨m, rfl⟩ : ∃ k, m = k + 1 := ⟨m - 1, by omega⟩
    have hi : i < x.length := by omega
    have e1 : IntKind.wrap .i64 ((i : Int) + 1) = ((i + 1 : Nat) : Int) := by rw [wrap_id (by omega) (by omega)]; omega
    have hdl := digs_len hi
    rw [iterN_succ]
    simp only [lp60_2, lq60_2, bindO_eq, pvAt_zero, pvAt_succ, getL_zero, getL_succ, dropL_one, int_val, bool_val, str_val, rows_sl, errB_err, cond_true, cond_false, chk_pos, beq00, beq10, zne00, zeq00, decide_true, decide_false, true_and, and_true, and_self, Bool.not_true, Bool.not_false, canon61, canon26, canon24, canon3, canon3d, Int.toNat_natCast, List.cons_append, List.nil_append, ba_size, show (i : Int) < (x.length : Int) by omega, show (0 : Int) ≤ (i : Int) by omega, byteAt_ba hi]
    by_cases h1 : 48 ≤ (x[i]).toNat
    · by_cases h2 : (x[i]).toNat ≤ 57
      · rw [isDig, decide_eq_true (show 48 ≤ (x[i]).toNat ∧ (x[i]).toNat ≤ 57 from ⟨h1, h2⟩), if_pos rfl] at hdl
        simp only [show ((x[i]).toNat : Int) ≥ 48 by omega, show ((x[i]).toNat : Int) ≤ 57 by omega, bindO_eq, pvAt_zero, pvAt_succ, getL_zero, getL_succ, dropL_one, int_val, bool_val, str_val, rows_sl, errB_err, cond_true, cond_false, chk_pos, beq00, beq10, zne00, zeq00, decide_true, decide_false, true_and, and_true, and_self, Bool.not_true, Bool.not_false, canon61, canon26, canon24, canon3, canon3d, Int.toNat_natCast, List.cons_append, List.nil_append, e1]
        rw [t60 n M m x f (i + 1) b (by omega) (by omega) hx, hdl]
        rw [show i + 1 + (digs (x.drop (i + 1))).length = i + ((digs (x.drop (i + 1))).length + 1) by omega]
      · rw [isDig, decide_eq_false (fun h => h2 h.2), if_neg (by decide)] at hdl
        simp only [show ((x[i]).toNat : Int) ≥ 48 by omega, show ¬ ((x[i]).toNat : Int) ≤ 57 by omega, bindO_eq, pvAt_zero, pvAt_succ, getL_zero, getL_succ, dropL_one, int_val, bool_val, str_val, rows_sl, errB_err, cond_true, cond_false, chk_pos, beq00, beq10, zne00, zeq00, decide_true, decide_false, true_and, and_true, and_self, Bool.not_true, Bool.not_false, canon61, canon26, canon24, canon3, canon3d, Int.toNat_natCast, List.cons_append, List.nil_append, hdl, Nat.add_zero]
    · rw [isDig, decide_eq_false (fun h => h1 h.1), if_neg (by decide)] at hdl
      simp only [show ¬ ((x[i]).toNat : Int) ≥ 48 by omega, bindO_eq, pvAt_zero, pvAt_succ, getL_zero, getL_succ, dropL_one, int_val, bool_val, str_val, rows_sl, errB_err, cond_true, cond_false, chk_pos, beq00, beq10, zne00, zeq00, decide_true, decide_false, true_and, and_true, and_self, Bool.not_true, Bool.not_false, canon61, canon26, canon24, canon3, canon3d, Int.toNat_natCast, List.cons_append, List.nil_append, hdl, Nat.add_zero]
theorem t91 {C : Orc} : ∀ (n : Nat) (M m : Nat) (x : List UInt8) (f : Int) (i : Nat) (b : Bool), x.length = i + n → n < m → x.length ≤ 1099511627776 →
    iterN (lp91_2 C M) m [.val (.int .i64 f), .val (.string (ba x)), .val (.int .i64 (i : Int)), .val (.bool b)] = some (0, [.val (.int .i64 f), .val (.string (ba x)), .val (.int .i64 ((i + (digs (x.drop i)).length : Nat) : Int)), .val (.bool b)])
  | 0, M, m, x, f, i, b, hn, hm, hx => by
    obtain ⟨m, rfl⟩ : ∃ k, m = k + 1 := ⟨m - 1, by omega⟩
    rw [iterN_succ, List.drop_of_length_le (by omega)]
    simp only [lp91_2, lq91_2, bindO_eq, pvAt_zero, pvAt_succ, getL_zero, getL_succ, dropL_one, int_val, bool_val, str_val, rows_sl, errB_err, cond_true, cond_false, chk_pos, beq00, beq10, zne00, zeq00, decide_true, decide_false, true_and, and_true, and_self, Bool.not_true, Bool.not_false, canon61, canon26, canon24, canon3, canon3d, Int.toNat_natCast, List.cons_append, List.nil_append, ba_size, show ¬ ((i : Int) < (x.length : Int)) by omega, digs, List.takeWhile_nil, List.length_nil, Nat.add_zero]
  | n + 1, M, m, x, f, i, b, hn, hm, hx => by
    obtain ⟨m, rfl⟩ : ∃ k, m = k + 1 := ⟨m - 1, by omega⟩
    have hi : i < x.length := by omega
    have e1 : IntKind.wrap .i64 ((i : Int) + 1) = ((i + 1 : Nat) : Int) := by rw [wrap_id (by omega) (by omega)]; omega
    have hdl := digs_len hi
    rw [iterN_succ]
    simp only [lp91_2, lq91_2, bindO_eq, pvAt_zero, pvAt_succ, getL_zero, getL_succ, dropL_one, int_val, bool_val, str_val, rows_sl, errB_err, cond_true, cond_false, chk_pos, beq00, beq10, zne00, zeq00, decide_true, decide_false, true_and, and_true, and_self, Bool.not_true, Bool.not_false, canon61, canon26, canon24, canon3, canon3d, Int.toNat_natCast, List.cons_append, List.nil_append, ba_size, show (i : Int) < (x.length : Int) by omega, show (0 : Int) ≤ (i : Int) by omega, byteAt_ba hi]
    by_cases h1 : 48 ≤ (x[i]).toNat
    · by_cases h2 : (x[i]).toNat ≤ 57
      · rw [isDig, decide_eq_true (show 48 ≤ (x[i]).toNat ∧ (x[i]).toNat ≤ 57 from ⟨h1, h2⟩), if_pos rfl] at hdl
        simp only [show ((x[i]).toNat : Int) ≥ 48 by omega, show ((x[i]).toNat : Int) ≤ 57 by omega, bindO_eq, pvAt_zero, pvAt_succ, getL_zero, getL_succ, dropL_one, int_val, bool_val, str_val, rows_sl, errB_err, cond_true, cond_false, chk_pos, beq00, beq10, zne00, zeq00, decide_true, decide_false, true_and, and_true, and_self, Bool.not_true, Bool.not_false, canon61, canon26, canon24, canon3, canon3d, Int.toNat_natCast, List.cons_append, List.nil_append, e1]
        rw [t91 n M m x f (i + 1) b (by omega) (by omega) hx, hdl]
        rw [show i + 1 + (digs (x.drop (i + 1))).length = i + ((digs (x.drop (i + 1))).length + 1) by omega]
      · rw [isDig, decide_eq_false (fun h => h2 h.2), if_neg (by decide)] at hdl
        simp only [show ((x[i]).toNat : Int) ≥ 48 by omega, show ¬ ((x[i]).toNat : Int) ≤ 57 by omega, bindO_eq, pvAt_zero, pvAt_succ, getL_zero, getL_succ, dropL_one, int_val, bool_val, str_val, rows_sl, errB_err, cond_true, cond_false, chk_pos, beq00, beq10, zne00, zeq00, decide_true, decide_false, true_and, and_true, and_self, Bool.not_true, Bool.not_false, canon61, canon26, canon24, canon3, canon3d, Int.toNat_natCast, List.cons_append, List.nil_append, hdl, Nat.add_zero]
    · rw [isDig, decide_eq_false (fun h => h1 h.1), if_neg (by decide)] at hdl
      simp only [show ¬ ((x[i]).toNat : Int) ≥ 48 by omega, bindO_eq, pvAt_zero, pvAt_succ, getL_zero, getL_succ, dropL_one, int_val, bool_val, str_val, rows_sl, errB_err, cond_true, cond_false, chk_pos, beq00, beq10, zne00, zeq00, decide_true, decide_false, true_and, and_true, and_self, Bool.not_true, Bool.not_false, canon61, canon26, canon24, canon3, canon3d, Int.toNat_natCast, List.cons_append, List.nil_append, hdl, Nat.add_zero]
/-- What Atoi gives: the number, and whether there is an error. -/
def atoiP (l : List UInt8) : Int × Bool := match Lib.atoiAll l with
  | .ok v => (v, false)
  | .range => (Lib.atoiSat l, true)
  | _ => (0, true)
theorem W79 {l : List UInt8} (hl : l.length ≤ 281474976710656) : W E 79 [.val (.string (ba l))] = some [.val (.int .i64 (atoiP l).1), .err (atoiP l).2] := by
  refine W_lib E (by kernel_rfl) ?_
  rw [show E.lib 79 = libAtoi by kernel_rfl]
  have e1 : (ba l).data.toList = l := by simp [ba]
  show chk ((ba l).size ≤ 281474976710656) (match Lib.atoiAll (ba l).data.toList with
    | .ok v => some [PV.val (.int .i64 v), .err false]
    | .range => some [.val (.int .i64 (Lib.atoiSat (ba l).data.toList)), .err true]
    | _ => some [.val (.int .i64 0), .err true]) = _
  rw [chk_pos (by rw [ba_size]; exact hl), e1]
  unfold atoiP
  split <;> rfl
theorem W60 (x : List UInt8) (i : Nat) (b : Bool) (hi : i ≤ x.length) (hx : x.length ≤ 1099511627776) :
    W E 60 [.val (.string (ba x)), .val (.int .i64 (i : Int)), .val (.bool b)] = some [.val (.int .i64 (atoiP (digs (x.drop i))).1), .val (.string (ba x)), .val (.int .i64 ((i + (digs (x.drop i)).length : Nat) : Int)), .val (.bool (b || (atoiP (digs (x.drop i))).2))] := by
  have hd := digs_le (x.drop i)
  rw [List.length_drop] at hd
  refine w60 (m := x.length + 1) _ _ _ ?_
  simp only [g60]
  rw [t60 (x.length - i) _ _ x _ i b (by omega) (by omega) hx]
  simp only [bindO_eq, pvAt_zero, pvAt_succ, getL_zero, getL_succ, dropL_one, int_val, bool_val, str_val, rows_sl, errB_err, cond_true, cond_false, chk_pos, beq00, beq10, zne00, zeq00, decide_true, decide_false, true_and, and_true, and_self, Bool.not_true, Bool.not_false, canon61, canon26, canon24, canon3, canon3d, Int.toNat_natCast, List.cons_append, List.nil_append, ba_size]
  rw [chk_pos ⟨by omega, by omega, by omega, by omega⟩, ba_extract, show i + (digs (x.drop i)).length - i = (digs (x.drop i)).length by omega, take_digs, W79 (by omega)]
  cases b <;> simp [bindO_eq, pvAt_zero, pvAt_succ, int_val, errB_err]
theorem W62 (c : UInt8) (x : List UInt8) (i : Nat) (b : Bool) (hi : i ≤ x.length) (hx : x.length ≤ 1099511627776) :
    W E 62 [.val (.int .u8 (c.toNat : Int)), .val (.string (ba x)), .val (.int .i64 (i : Int)), .val (.bool b)] = some [.val (.bool (nextIs x [c] i)), .val (.string (ba x)), .val (.int .i64 ((if nextIs x [c] i then i + 1 else i : Nat) : Int)), .val (.bool b)] := by
  refine w62 (m := 0) _ _ _ _ ?_
  unfold g62
  simp only [ba_size]
  by_cases h : i < x.length
  · have hc : nextIs x [c] i = decide (x[i] = c) := by
      rw [nextIs, drop_cons' h]
      simp only [List.length_cons, List.length_nil, Nat.zero_add, List.take_succ_cons, List.take_zero, List.cons.injEq, and_true]
    have e1 : IntKind.wrap .i64 ((i : Int) + 1) = ((i + 1 : Nat) : Int) := by rw [wrap_id (by omega) (by omega)]; omega
    simp only [show (i : Int) < (x.length : Int) by omega, bindO_eq, pvAt_zero, pvAt_succ, getL_zero, getL_succ, dropL_one, int_val, bool_val, str_val, rows_sl, errB_err, cond_true, cond_false, chk_pos, beq00, beq10, zne00, zeq00, decide_true, decide_false, true_and, and_true, and_self, Bool.not_true, Bool.not_false, canon61, canon26, canon24, canon3, canon3d, Int.toNat_natCast, List.cons_append, List.nil_append, show (0 : Int) ≤ (i : Int) by omega, byteAt_ba h, hc, e1]
    by_cases h2 : x[i] = c
    · simp [h2]
    · have : ((x[i]).toNat : Int) ≠ (c.toNat : Int) := fun e => h2 (UInt8.toNat_inj.1 (by omega))
      simp [ieq_f this, h2]
  · have hc : nextIs x [c] i = false := by
      simp [nextIs, List.drop_of_length_le (show x.length ≤ i by omega)]
    simp only [show ¬ ((i : Int) < (x.length : Int)) by omega, bindO_eq, pvAt_zero, pvAt_succ, getL_zero, getL_succ, dropL_one, int_val, bool_val, str_val, rows_sl, errB_err, cond_true, cond_false, chk_pos, beq00, beq10, zne00, zeq00, decide_true, decide_false, true_and, and_true, and_self, Bool.not_true, Bool.not_false, canon61, canon26, canon24, canon3, canon3d, Int.toNat_natCast, List.cons_append, List.nil_append, hc]
    simp
/-- The value that digits spell, behind n. -/
def spell : Int → List UInt8 → Int
  | n, [] => n
  | n, b :: r => spell (10 * n + ((b.toNat : Int) - 48)) r
def sread (l : List UInt8) : Int :=
  if l = [49, 48, 48, 48, 48, 48, 48] then 1000000 else if ¬ (1 ≤ l.length ∧ l.length ≤ 6) then -1 else if l.head? = some 48 ∧ 1 < l.length then -1 else spell 0 l
theorem t114 {C : Orc} : ∀ (r : List UInt8) (M m : Nat) (all pre : List UInt8) (i : Nat) (n : Int) (k : Nat), all = pre ++ r → i = pre.length → (∀ b ∈ r, isDig b = true) → r.length < m → all.length ≤ 6 → 0 ≤ n → n < 10 ^ k → k + r.length ≤ 6 →
    iterN (lp114_5 C M) m [.val (.string (ba all)), .val (.int .i64 n), .val (.int .i64 (i : Int))] = some (0, [.val (.int .i64 (spell n r))])
  | [], M, m, all, pre, i, n, k, h, hi, hd, hm, hl, h0, h1, hk => by
    obtain ⟨m, rfl⟩ : ∃ k, m = k + 1 := ⟨m - 1, by simp at hm; omega⟩
    rw [iterN_succ]
    have : all.length = i := by rw [h, hi]; simp
    simp only [lp114_5, lq114_5, bindO_eq, pvAt_zero, pvAt_succ, getL_zero, getL_succ, dropL_one, int_val, bool_val, str_val, rows_sl, errB_err, cond_true, cond_false, chk_pos, beq00, beq10, zne00, zeq00, decide_true, decide_false, true_and, and_true, and_self, Bool.not_true, Bool.not_false, canon61, canon26, canon24, canon3, canon3d, Int.toNat_natCast, List.cons_append, List.nil_append, ba_size, show ¬ ((i : Int) < (all.length : Int)) by omega, spell]
  | b :: r, M, m, all, pre, i, n, k, h, hi, hd, hm, hl, h0, h1, hk => by
    simp only [List.length_cons] at hm hk
    obtain ⟨m, rfl⟩ : ∃ k, m = k + 1 := ⟨m - 1, by omega⟩
    have hlen : all.length = i + (r.length + 1) := by rw [h, hi]; simp
    have hlt : i < all.length := by omega
    have hb : all[i] = b := by subst h; subst hi; simp
    have hbd := hd b (List.mem_cons_self ..)
    simp only [isDig, decide_eq_true_eq] at hbd
    have hp : (10 : Int) ^ k ≤ 10 ^ 5 := (show ∀ k : Nat, k ≤ 5 → (10 : Int) ^ k ≤ 10 ^ 5 by decide) k (by omega)
    have e0 : IntKind.wrap .u8 ((b.toNat : Int) - 48) = (b.toNat : Int) - 48 := wrap_u8 (by omega) (by omega)
    have e1 : IntKind.wrap .i64 ((b.toNat : Int) - 48) = (b.toNat : Int) - 48 := wrap_id (by omega) (by omega)
    have e2 : IntKind.wrap .i64 (10 * n) = 10 * n := wrap_id (by omega) (by omega)
    have e3 : IntKind.wrap .i64 (10 * n + ((b.toNat : Int) - 48)) = 10 * n + ((b.toNat : Int) - 48) := wrap_id (by omega) (by omega)
    have e4 : IntKind.wrap .i64 ((i : Int) + 1) = ((i + 1 : Nat) : Int) := by rw [wrap_id (by omega) (by omega)]; omega
    rw [iterN_succ]
    simp only [lp114_5, lq114_5, bindO_eq, pvAt_zero, pvAt_succ, getL_zero, getL_succ, dropL_one, int_val, bool_val, str_val, rows_sl, errB_err, cond_true, cond_false, chk_pos, beq00, beq10, zne00, zeq00, decide_true, decide_false, true_and, and_true, and_self, Bool.not_true, Bool.not_false, canon61, canon26, canon24, canon3, canon3d, Int.toNat_natCast, List.cons_append, List.nil_append, ba_size, show (i : Int) < (all.length : Int) by omega, show (0 : Int) ≤ (i : Int) by omega, byteAt_ba hlt, hb, show ¬ ((b.toNat : Int) < 48) by omega, show ¬ ((b.toNat : Int) > 57) by omega, e0, e1, e2, e3, e4]
    rw [t114 r M m all (pre ++ [b]) (i + 1) _ (k + 1) (by rw [h]; simp) (by rw [hi]; simp) (fun x hx => hd x (List.mem_cons_of_mem _ hx)) (by omega) hl (by omega) (by rw [Int.pow_succ]; omega) (by omega)]
    rfl
theorem z48 : (((48 : UInt8).toNat : Int) == 48) = true := rfl
theorem W104 {l : List UInt8} (hd : ∀ b ∈ l, isDig b = true) (hl : l.length ≤ 1099511627776) : W E 104 [.val (.string (ba l))] = some [.val (.int .i64 (sread l))] := by
  refine w104 (m := 0) _ ?_
  unfold g104
  simp only [mk_ba, ba_beq]
  by_cases h1 : l = [49, 48, 48, 48, 48, 48, 48]
  · simp [h1, sread]
  · have h114 : W E 114 [.val (.string (ba l))] = some [.val (.int .i64 (if ¬ (1 ≤ l.length ∧ l.length ≤ 6) then -1 else if l.head? = some 48 ∧ 1 < l.length then -1 else spell 0 l))] := by
      refine w114 (m := l.length + 1) _ ?_
      unfold g114
      simp only [ba_size, W77, bindO_eq, pvAt_zero, pvAt_succ, getL_zero, getL_succ, dropL_one, int_val, bool_val, str_val, rows_sl, errB_err, cond_true, cond_false, chk_pos, beq00, beq10, zne00, zeq00, decide_true, decide_false, true_and, and_true, and_self, Bool.not_true, Bool.not_false, canon61, canon26, canon24, canon3, canon3d, Int.toNat_natCast, List.cons_append, List.nil_append]
      by_cases h2 : 1 ≤ l.length ∧ l.length ≤ 6
      · have h2' : (1 : Int) ≤ (l.length : Int) ∧ (l.length : Int) ≤ 6 := by omega
        have hpos : 0 < l.length := by omega
        have h3 : ((l.head? = some 48)) ↔ l[0] = 48 := by
          cases l with
          | nil => simp at hpos
          | cons b r => simp
        have hb0 : byteAt (ba l) (Int.toNat 0) = ((l[0]).toNat : Int) := byteAt_ba hpos
        have hrun : iterN (lp114_5 (W E) (l.length + 1)) (l.length + 1) [.val (.string (ba l)), .val (.int .i64 0), .val (.int .i64 0)] = some (0, [.val (.int .i64 (spell 0 l))]) := t114 (C := W E) l (l.length + 1) (l.length + 1) l [] 0 0 0 rfl rfl hd (by omega) (by omega) (by omega) (by simp) (by omega)
        simp only [h2', decide_true, bindO_eq, pvAt_zero, pvAt_succ, getL_zero, getL_succ, dropL_one, int_val, bool_val, str_val, rows_sl, errB_err, cond_true, cond_false, chk_pos, beq00, beq10, zne00, zeq00, decide_true, decide_false, true_and, and_true, and_self, Bool.not_true, Bool.not_false, canon61, canon26, canon24, canon3, canon3d, Int.toNat_natCast, List.cons_append, List.nil_append, show (0 : Int) < (l.length : Int) by omega, Int.le_refl, hb0, h2, not_true_eq_false, if_false, h3]
        by_cases h4 : l[0] = 48
        · have h4' : ((l[0]).toNat : Int) = 48 := by rw [h4]; rfl
          by_cases h5 : 1 < l.length
          · simp only [z48, ieq_t h4', bindO_eq, pvAt_zero, pvAt_succ, getL_zero, getL_succ, dropL_one, int_val, bool_val, str_val, rows_sl, errB_err, cond_true, cond_false, chk_pos, beq00, beq10, zne00, zeq00, decide_true, decide_false, true_and, and_true, and_self, Bool.not_true, Bool.not_false, canon61, canon26, canon24, canon3, canon3d, Int.toNat_natCast, List.cons_append, List.nil_append, show (l.length : Int) > 1 by omega, h4, h5, if_true, beq10]
          · simp only [z48, ieq_t h4', bindO_eq, pvAt_zero, pvAt_succ, getL_zero, getL_succ, dropL_one, int_val, bool_val, str_val, rows_sl, errB_err, cond_true, cond_false, chk_pos, beq00, beq10, zne00, zeq00, decide_true, decide_false, true_and, and_true, and_self, Bool.not_true, Bool.not_false, canon61, canon26, canon24, canon3, canon3d, Int.toNat_natCast, List.cons_append, List.nil_append, show ¬ ((l.length : Int) > 1) by omega, h4, h5, if_false]
            rw [hrun]
            simp only [bindO_eq, pvAt_zero, pvAt_succ, getL_zero, getL_succ, dropL_one, int_val, bool_val, str_val, rows_sl, errB_err, cond_true, cond_false, chk_pos, beq00, beq10, zne00, zeq00, decide_true, decide_false, true_and, and_true, and_self, Bool.not_true, Bool.not_false, canon61, canon26, canon24, canon3, canon3d, Int.toNat_natCast, List.cons_append, List.nil_append]
        · have h4' : ((l[0]).toNat : Int) ≠ 48 := fun e => h4 (UInt8.toNat_inj.1 (by have : (48 : UInt8).toNat = 48 := rfl; omega))
          simp only [ieq_f h4', bindO_eq, pvAt_zero, pvAt_succ, getL_zero, getL_succ, dropL_one, int_val, bool_val, str_val, rows_sl, errB_err, cond_true, cond_false, chk_pos, beq00, beq10, zne00, zeq00, decide_true, decide_false, true_and, and_true, and_self, Bool.not_true, Bool.not_false, canon61, canon26, canon24, canon3, canon3d, Int.toNat_natCast, List.cons_append, List.nil_append, h4, false_and, if_false]
          rw [hrun]
          simp only [bindO_eq, pvAt_zero, pvAt_succ, getL_zero, getL_succ, dropL_one, int_val, bool_val, str_val, rows_sl, errB_err, cond_true, cond_false, chk_pos, beq00, beq10, zne00, zeq00, decide_true, decide_false, true_and, and_true, and_self, Bool.not_true, Bool.not_false, canon61, canon26, canon24, canon3, canon3d, Int.toNat_natCast, List.cons_append, List.nil_append]
      · have h2' : ¬ ((1 : Int) ≤ (l.length : Int) ∧ (l.length : Int) ≤ 6) := by omega
        simp only [h2', decide_false, bindO_eq, pvAt_zero, pvAt_succ, getL_zero, getL_succ, dropL_one, int_val, bool_val, str_val, rows_sl, errB_err, cond_true, cond_false, chk_pos, beq00, beq10, zne00, zeq00, decide_true, decide_false, true_and, and_true, and_self, Bool.not_true, Bool.not_false, canon61, canon26, canon24, canon3, canon3d, Int.toNat_natCast, List.cons_append, List.nil_append, h2, not_false_eq_true, if_true, beq10]
    simp only [h1, decide_false, bindO_eq, pvAt_zero, pvAt_succ, getL_zero, getL_succ, dropL_one, int_val, bool_val, str_val, rows_sl, errB_err, cond_true, cond_false, chk_pos, beq00, beq10, zne00, zeq00, decide_true, decide_false, true_and, and_true, and_self, Bool.not_true, Bool.not_false, canon61, canon26, canon24, canon3, canon3d, Int.toNat_natCast, List.cons_append, List.nil_append, h114, sread, if_false]
theorem digs_dig (l : List UInt8) : ∀ b ∈ digs l, isDig b = true := fun b hb => by
  unfold digs at hb
  exact List.all_eq_true.1 List.all_takeWhile b hb
theorem W91 (x : List UInt8) (i : Nat) (b : Bool) (hi : i ≤ x.length) (hx : x.length ≤ 1099511627776) :
    W E 91 [.val (.string (ba x)), .val (.int .i64 (i : Int)), .val (.bool b)] = some [.val (.int .i64 (sread (digs (x.drop i)))), .val (.string (ba x)), .val (.int .i64 ((i + (digs (x.drop i)).length : Nat) : Int)), .val (.bool (b || decide (sread (digs (x.drop i)) < 0)))] := by
  have hd := digs_le (x.drop i)
  rw [List.length_drop] at hd
  refine w91 (m := x.length + 1) _ _ _ ?_
  simp only [g91]
  rw [t91 (x.length - i) _ _ x _ i b (by omega) (by omega) hx]
  simp only [bindO_eq, pvAt_zero, pvAt_succ, getL_zero, getL_succ, dropL_one, int_val, bool_val, str_val, rows_sl, errB_err, cond_true, cond_false, chk_pos, beq00, beq10, zne00, zeq00, decide_true, decide_false, true_and, and_true, and_self, Bool.not_true, Bool.not_false, canon61, canon26, canon24, canon3, canon3d, Int.toNat_natCast, List.cons_append, List.nil_append, ba_size]
  rw [chk_pos ⟨by omega, by omega, by omega, by omega⟩, ba_extract, show i + (digs (x.drop i)).length - i = (digs (x.drop i)).length by omega, take_digs, W104 (digs_dig _) (by omega)]
  cases b with
  | true => simp [bindO_eq, pvAt_zero, pvAt_succ, int_val, errB_err]
  | false =>
    simp [bindO_eq, pvAt_zero, pvAt_succ, int_val, errB_err]
    exact decide_eq_decide.2 Iff.rfl
end Go.Vm
