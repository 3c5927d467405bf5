import Derived.Test.YtdelbjcfgedjpaaDoorTk
/-! ### The drawn ordinals and texts, second part -/
namespace Go.Vm
open Go.Vm.D Od
set_option linter.unusedVariables false
set_option linter.unusedSimpArgs false
namespace Od
def app : Od → Od → Od
  | nil, b => b
  | cons e c r, b => cons e c (app r b)
theorem enc_app : ∀ a b : Od, (app a b).enc = a.enc ++ b.enc
  | nil, b => rfl
  | cons e c r, b => by simp [app, enc, enc_app r b]
theorem nodes_app : ∀ a b : Od, (app a b).nodes + 1 = a.nodes + b.nodes
  | nil, b => by simp only [app, nodes]; omega
  | cons e c r, b => by have := nodes_app r b; simp only [app, nodes]; omega
end Od
theorem t23_15 {code : List UInt8} {at_ s : Int} : ∀ (n : Nat) (M m : Nat) (a : Od), n < m → n ≤ 1000 →
    ∃ a' : Od, iterN (lp23_15 (W E) M) m [.val (.int .i64 (n : Int)), .sl 2 [], .sl 2 a.enc, .sl 1 (byteRows code), .val (.int .i64 at_), .val (.int .u64 s)] = some (0, [.sl 2 [], .sl 2 a'.enc, .sl 1 (byteRows code), .val (.int .i64 at_), .val (.int .u64 s)]) ∧ a'.nodes ≤ a.nodes + 2 * n
  | 0, M, m, a, hm, hn => by
    obtain ⟨m, rfl⟩ : ∃ k, m = k + 1 := ⟨m - 1, by omega⟩
    refine ⟨a, ?_, by omega⟩
    rw [iterN_succ]
    simp only [lp23_15, lq23_15, bindO_eq, pvAt_zero, pvAt_succ, getL_zero, getL_succ, dropL_one, int_val, bool_val, str_val, rows_sl, errB_err, cond_true, cond_false, chk_pos, beq00, beq10, zne00, zeq00, decide_true, decide_false, true_and, and_true, and_self, Bool.not_true, Bool.not_false, canon61, canon26, canon24, canon3, canon3d, Int.toNat_natCast, List.cons_append, List.nil_append, show ¬ (((0 : Nat) : Int) > 0) by omega]
  | n + 1, M, m, a, hm, hn => by
    obtain ⟨m, rfl⟩ : ∃ k, m = k + 1 := ⟨m - 1, by omega⟩
    have h49 := W49 a 1
    simp only [Od.term, if_neg (show (1 : Int) ≠ 0 by omega)] at h49
    obtain ⟨a', h1, h2⟩ := t23_15 n M m (.cons a 1 .nil) (by omega) (by omega)
    refine ⟨a', ?_, by simp only [nodes] at h2; omega⟩
    have en : IntKind.wrap .i64 (((n + 1 : Nat) : Int) - 1) = (n : Int) := by rw [wrap_id (by omega) (by omega)]; omega
    rw [iterN_succ]
    simp only [lp23_15, lq23_15, bindO_eq, pvAt_zero, pvAt_succ, getL_zero, getL_succ, dropL_one, int_val, bool_val, str_val, rows_sl, errB_err, cond_true, cond_false, chk_pos, beq00, beq10, zne00, zeq00, decide_true, decide_false, true_and, and_true, and_self, Bool.not_true, Bool.not_false, canon61, canon26, canon24, canon3, canon3d, Int.toNat_natCast, List.cons_append, List.nil_append, show ((n + 1 : Nat) : Int) > 0 by omega, h49, en]
    exact h1
theorem t23_6 {code : List UInt8} {at_ s : Int} : ∀ (n : Nat) (M m : Nat) (a : Od) (X : Int), n < m → n ≤ 1000 → a.cok X → 1000 ≤ X → X + n * 1000000 ≤ 100000000000 → a.nodes + 4 * n ≤ 1000000 →
    ∃ a' : Od, iterN (lp23_6 (W E) M) m [.val (.int .i64 (n : Int)), .sl 2 [], .sl 2 a.enc, .sl 1 (byteRows code), .val (.int .i64 at_), .val (.int .u64 s)] = some (0, [.sl 2 [], .sl 2 a'.enc, .sl 1 (byteRows code), .val (.int .i64 at_), .val (.int .u64 s)]) ∧ a'.nodes ≤ a.nodes + 4 * n
  | 0, M, m, a, X, hm, hn, hc, hX, hX2, han => by
    obtain ⟨m, rfl⟩ : ∃ k, m = k + 1 := ⟨m - 1, by omega⟩
    refine ⟨a, ?_, by omega⟩
    rw [iterN_succ]
    simp only [lp23_6, lq23_6, bindO_eq, pvAt_zero, pvAt_succ, getL_zero, getL_succ, dropL_one, int_val, bool_val, str_val, rows_sl, errB_err, cond_true, cond_false, chk_pos, beq00, beq10, zne00, zeq00, decide_true, decide_false, true_and, and_true, and_self, Bool.not_true, Bool.not_false, canon61, canon26, canon24, canon3, canon3d, Int.toNat_natCast, List.cons_append, List.nil_append, show ¬ (((0 : Nat) : Int) > 0) by omega]
  | n + 1, M, m, a, X, hm, hn, hc, hX, hX2, han => by
    obtain ⟨m, rfl⟩ : ∃ k, m = k + 1 := ⟨m - 1, by omega⟩
    have hf := fine_int (c := ((n + 1 : Nat) : Int)) (by omega) (B := X) (by omega) (N := 3) (by omega)
    have h48 := W48 ((n + 1 : Nat) : Int)
    have hmeet := W50 (a := a) (e := Od.nil.term ((n + 1 : Nat) : Int)) (c := 1000000) (cok_mono (by omega) hc) (cok_mono (by omega) hf.2.1) (by omega) (by omega) (by omega)
    have hmn := meet_nodes (Od.nil.term ((n + 1 : Nat) : Int)) 1000000 a false
    have hmc := meet_cok (B := X) (K := 1000000) (Od.nil.term ((n + 1 : Nat) : Int)) 1000000 hf.2.1 (by omega) (by omega) (by omega) a false hc
    simp only [Bool.false_eq_true, if_false] at hmn
    obtain ⟨a', h1, h2⟩ := t23_6 n M m _ (X + 1000000) (by omega) (by omega) hmc (by omega) (by omega) (by omega)
    refine ⟨a', ?_, by omega⟩
    have en : IntKind.wrap .i64 (((n + 1 : Nat) : Int) - 1) = (n : Int) := by rw [wrap_id (by omega) (by omega)]; omega
    rw [iterN_succ]
    simp only [lp23_6, lq23_6, bindO_eq, pvAt_zero, pvAt_succ, getL_zero, getL_succ, dropL_one, int_val, bool_val, str_val, rows_sl, errB_err, cond_true, cond_false, chk_pos, beq00, beq10, zne00, zeq00, decide_true, decide_false, true_and, and_true, and_self, Bool.not_true, Bool.not_false, canon61, canon26, canon24, canon3, canon3d, Int.toNat_natCast, List.cons_append, List.nil_append, show ((n + 1 : Nat) : Int) > 0 by omega, h48, hmeet, en]
    exact h1
theorem W23 (code : List UInt8) : ∃ (a : Od) (at' s' : Int), W E 23 [.sl 1 (byteRows code), .val (.int .i64 0), .val (.int .u64 0)] = some [.sl 2 a.enc, .sl 1 (byteRows code), .val (.int .i64 at'), .val (.int .u64 s')] ∧ a.nodes ≤ 1000000 := by
  obtain ⟨_, b1, s1, w1, l1, u1, d, rfl, hd⟩ := W46 (code := code) (l := [0, 1, 2, 3]) (at_ := 0) (s := 0) (by simp) (by simp) (by omega) (by omega)
  have hdb : 0 ≤ d ∧ d ≤ 3 := by
    simp only [List.mem_cons, List.not_mem_nil, or_false] at hd
    omega
  have hw35 := W35 (code := code) (d := d.toNat) (by omega) b1 s1 (by omega) (by omega)
  rw [Int.toNat_of_nonneg hdb.1] at hw35
  obtain ⟨_, b2, s2, w2, l2, u2, a, rfl, hap, hac, han⟩ := hw35
  obtain ⟨_, b3, s3, w3, l3, u3, o, rfl⟩ := W36 (code := code) (n := 20) (at_ := b2) (s := s2) (by omega) (by omega) (by omega)
  simp only [List.cons_append, List.nil_append] at w1 w2 w3
  have w1' : W E 46 [.sl 1 ([[.val (.int .i64 0)], [.val (.int .i64 1)], [.val (.int .i64 2)], [.val (.int .i64 3)]] : List (List PV)), .sl 1 (byteRows code), .val (.int .i64 0), .val (.int .u64 0)] = some [.val (.int .i64 d), .sl 1 (byteRows code), .val (.int .i64 b1), .val (.int .u64 s1)] := w1
  have hal := a.len_lt
  have hel := a.enc_len
  cases o with
  | false =>
    refine ⟨a, b3, s3, w23 (m := 0) _ _ _ ?_, by omega⟩
    simp only [g23, bindO_eq, pvAt_zero, pvAt_succ, getL_zero, getL_succ, dropL_one, int_val, bool_val, str_val, rows_sl, errB_err, cond_true, cond_false, chk_pos, beq00, beq10, zne00, zeq00, decide_true, decide_false, true_and, and_true, and_self, Bool.not_true, Bool.not_false, canon61, canon26, canon24, canon3, canon3d, Int.toNat_natCast, List.cons_append, List.nil_append, w1', w2, w3]
  | true =>
    obtain ⟨_, b4, s4, w4, l4, u4, k, rfl, hk0, hk1⟩ := W47 (code := code) (n := 4) (at_ := b3) (s := s3) (by omega) (by omega) (by omega)
    simp only [List.cons_append, List.nil_append] at w4
    have hk2 := hk1 (by omega)
    by_cases e0 : k = 0
    · have h7 := W48 7
      have hn7 : (Od.nil.term 7).nodes = 3 := by decide
      have hna := nodes_app a (.cons (Od.nil.term 7) 1 .nil)
      simp only [nodes, hn7] at hna
      refine ⟨app a (.cons (Od.nil.term 7) 1 .nil), b4, s4, w23 (m := 0) _ _ _ ?_, by omega⟩
      subst e0
      simp only [g23, bindO_eq, pvAt_zero, pvAt_succ, getL_zero, getL_succ, dropL_one, int_val, bool_val, str_val, rows_sl, errB_err, cond_true, cond_false, chk_pos, beq00, beq10, zne00, zeq00, decide_true, decide_false, true_and, and_true, and_self, Bool.not_true, Bool.not_false, canon61, canon26, canon24, canon3, canon3d, Int.toNat_natCast, List.cons_append, List.nil_append, w1', w2, w3, w4, h7, enc_app]
      rw [chk_pos (app_ok (by omega))]
      simp only [Od.enc]
    by_cases e1 : k = 1
    · obtain ⟨_, b5, s5, w5, l5, u5, c, rfl, hc⟩ := W46 (code := code) (l := [0, -1, 1000001, 1000000]) (at_ := b4) (s := s4) (by simp) (by simp) (by omega) (by omega)
      simp only [List.cons_append, List.nil_append] at w5
      have w5' : W E 46 [.sl 1 ([[.val (.int .i64 0)], [.val (.int .i64 (-1))], [.val (.int .i64 1000001)], [.val (.int .i64 1000000)]] : List (List PV)), .sl 1 (byteRows code), .val (.int .i64 b4), .val (.int .u64 s4)] = some [.val (.int .i64 c), .sl 1 (byteRows code), .val (.int .i64 b5), .val (.int .u64 s5)] := w5
      have hna := nodes_app a (.cons .nil c .nil)
      simp only [nodes] at hna
      refine ⟨app a (.cons .nil c .nil), b5, s5, w23 (m := 0) _ _ _ ?_, by omega⟩
      subst e1
      simp only [g23, bindO_eq, pvAt_zero, pvAt_succ, getL_zero, getL_succ, dropL_one, int_val, bool_val, str_val, rows_sl, errB_err, cond_true, cond_false, chk_pos, beq00, beq10, zne00, zeq00, decide_true, decide_false, true_and, and_true, and_self, Bool.not_true, Bool.not_false, canon61, canon26, canon24, canon3, canon3d, Int.toNat_natCast, List.cons_append, List.nil_append, w1', w2, w3, w4, show ((1 : Int) == 0) = false from rfl, show ((1 : Int) == 1) = true from rfl, w5', enc_app]
      rw [chk_pos (app_ok (by omega))]
      simp only [Od.enc]
    by_cases e2 : k = 2
    · obtain ⟨_, b5, s5, w5, l5, u5, n, rfl, hn0, hn1⟩ := W47 (code := code) (n := 9) (at_ := b4) (s := s4) (by omega) (by omega) (by omega)
      simp only [List.cons_append, List.nil_append] at w5
      have := hn1 (by omega)
      obtain ⟨a', h1, h2⟩ := t23_15 (code := code) (at_ := b5) (s := s5) n.toNat (n.toNat + 1) (n.toNat + 1) a (by omega) (by omega)
      rw [Int.toNat_of_nonneg hn0] at h1
      refine ⟨a', b5, s5, w23 (m := n.toNat + 1) _ _ _ ?_, by omega⟩
      subst e2
      simp only [g23, bindO_eq, pvAt_zero, pvAt_succ, getL_zero, getL_succ, dropL_one, int_val, bool_val, str_val, rows_sl, errB_err, cond_true, cond_false, chk_pos, beq00, beq10, zne00, zeq00, decide_true, decide_false, true_and, and_true, and_self, Bool.not_true, Bool.not_false, canon61, canon26, canon24, canon3, canon3d, Int.toNat_natCast, List.cons_append, List.nil_append, w1', w2, w3, w4, show ((2 : Int) == 0) = false from rfl, show ((2 : Int) == 1) = false from rfl, show ((2 : Int) == 2) = true from rfl, w5, h1]
    · obtain ⟨_, b5, s5, w5, l5, u5, n, rfl, hn0, hn1⟩ := W47 (code := code) (n := 40) (at_ := b4) (s := s4) (by omega) (by omega) (by omega)
      simp only [List.cons_append, List.nil_append] at w5
      have := hn1 (by omega)
      obtain ⟨a', h1, h2⟩ := t23_6 (code := code) (at_ := b5) (s := s5) n.toNat (n.toNat + 1) (n.toNat + 1) a 10000 (by omega) (by omega) hac (by omega) (by omega) (by omega)
      rw [Int.toNat_of_nonneg hn0] at h1
      refine ⟨a', b5, s5, w23 (m := n.toNat + 1) _ _ _ ?_, by omega⟩
      simp only [g23, bindO_eq, pvAt_zero, pvAt_succ, getL_zero, getL_succ, dropL_one, int_val, bool_val, str_val, rows_sl, errB_err, cond_true, cond_false, chk_pos, beq00, beq10, zne00, zeq00, decide_true, decide_false, true_and, and_true, and_self, Bool.not_true, Bool.not_false, canon61, canon26, canon24, canon3, canon3d, Int.toNat_natCast, List.cons_append, List.nil_append, w1', w2, w3, w4, ieq_f e0, ieq_f e1, ieq_f e2, w5, h1]
theorem W6 (code : List UInt8) : ∃ a : Od, W E 6 [.sl 1 (byteRows code)] = some [.sl 2 a.enc] ∧ a.nodes ≤ 1000000 := by
  obtain ⟨a, at', s', h, hn⟩ := W23 code
  refine ⟨a, w6 (m := 0) _ ?_, hn⟩
  simp only [g6, h, bindO_eq, pvAt_zero, pvAt_succ, getL_zero, getL_succ, dropL_one, int_val, bool_val, str_val, rows_sl, errB_err, cond_true, cond_false, chk_pos, beq00, beq10, zne00, zeq00, decide_true, decide_false, true_and, and_true, and_self, Bool.not_true, Bool.not_false, canon61, canon26, canon24, canon3, canon3d, Int.toNat_natCast, List.cons_append, List.nil_append]

/-- One edit or two, whatever they are: a text again, longer by as many bytes at most. -/
theorem t37 {code v1 : List UInt8} (hv : v1.length = 11) : ∀ (n : Nat) (M m : Nat) (x : List UInt8) (at_ s : Int), n ≤ 2 → n < m → x.length + n ≤ 1000000 → 0 ≤ at_ → at_ + 6 * n ≤ 1000000 →
    ∃ (y : List UInt8) (at' s' : Int), iterN (lp37_2 (W E) M) m [.val (.string (ba x)), .val (.string (ba v1)), .val (.int .i64 (n : Int)), .sl 1 (byteRows code), .val (.int .i64 at_), .val (.int .u64 s)] = some (0, [.val (.string (ba y)), .sl 1 (byteRows code), .val (.int .i64 at'), .val (.int .u64 s')]) ∧ y.length ≤ x.length + n
  | 0, M, m, x, at_, s, hn, hm, hx, h0, h1 => by
    obtain ⟨m, rfl⟩ : ∃ k, m = k + 1 := ⟨m - 1, by omega⟩
    refine ⟨x, at_, s, ?_, by omega⟩
    rw [iterN_succ]
    simp only [lp37_2, lq37_2, bindO_eq, pvAt_zero, pvAt_succ, getL_zero, getL_succ, dropL_one, int_val, bool_val, str_val, rows_sl, errB_err, cond_true, cond_false, chk_pos, beq00, beq10, zne00, zeq00, decide_true, decide_false, true_and, and_true, and_self, Bool.not_true, Bool.not_false, canon61, canon26, canon24, canon3, canon3d, Int.toNat_natCast, List.cons_append, List.nil_append, show ¬ (((0 : Nat) : Int) > 0) by omega]
  | n + 1, M, m, x, at_, s, hn, hm, hx, h0, h1 => by
    obtain ⟨m, rfl⟩ : ∃ k, m = k + 1 := ⟨m - 1, by omega⟩
    by_cases hx0 : x.length = 0
    · refine ⟨x, at_, s, ?_, by omega⟩
      rw [iterN_succ]
      simp only [lp37_2, lq37_2, bindO_eq, pvAt_zero, pvAt_succ, getL_zero, getL_succ, dropL_one, int_val, bool_val, str_val, rows_sl, errB_err, cond_true, cond_false, chk_pos, beq00, beq10, zne00, zeq00, decide_true, decide_false, true_and, and_true, and_self, Bool.not_true, Bool.not_false, canon61, canon26, canon24, canon3, canon3d, Int.toNat_natCast, List.cons_append, List.nil_append, show ((n + 1 : Nat) : Int) > 0 by omega, ba_size, show ¬ ((x.length : Int) > 0) by omega]
    obtain ⟨_, b1, s1, w1, l1, u1, i, rfl, hi0, hi1⟩ := W47 (code := code) (n := (x.length : Int)) (s := s) (by omega) h0 (by omega)
    obtain ⟨_, b2, s2, w2, l2, u2, j, rfl, hj0, hj1⟩ := W47 (code := code) (n := (v1.length : Int)) (at_ := b1) (s := s1) (by omega) (by omega) (by omega)
    obtain ⟨_, b3, s3, w3, l3, u3, q, rfl, hq0, hq1⟩ := W47 (code := code) (n := 3) (at_ := b2) (s := s2) (by omega) (by omega) (by omega)
    simp only [List.cons_append, List.nil_append] at w1 w2 w3
    have hi2 := hi1 (by omega)
    have hj2 := hj1 (by omega)
    have en : IntKind.wrap .i64 (((n + 1 : Nat) : Int) - 1) = (n : Int) := by rw [wrap_id (by omega) (by omega)]; omega
    have e1 : IntKind.wrap .i64 (i + 1) = i + 1 := wrap_id (by omega) (by omega)
    have eL : ∀ y : List UInt8, y.length ≤ x.length + 1 → ∃ (z : List UInt8) (at' s' : Int), iterN (lp37_2 (W E) M) m [.val (.string (ba y)), .val (.string (ba v1)), .val (.int .i64 (n : Int)), .sl 1 (byteRows code), .val (.int .i64 b3), .val (.int .u64 s3)] = some (0, [.val (.string (ba z)), .sl 1 (byteRows code), .val (.int .i64 at'), .val (.int .u64 s')]) ∧ z.length ≤ y.length + n :=
      fun y hy => t37 hv n M m y b3 s3 (by omega) (by omega) (by omega) (by omega) (by omega)
    have hit : (i + 1).toNat = i.toNat + 1 := by omega
    have hle : i.toNat + 1 ≤ x.length := by omega
    by_cases q0 : q = 0
    · obtain ⟨z, at', s', hz, hzl⟩ := eL ((x.take i.toNat ++ [UInt8.ofNat (byteAt (ba v1) j.toNat).toNat]) ++ x.drop i.toNat) (by simp; omega)
      refine ⟨z, at', s', ?_, by simp at hzl; omega⟩
      rw [iterN_succ]
      simp only [lp37_2, lq37_2, bindO_eq, pvAt_zero, pvAt_succ, getL_zero, getL_succ, dropL_one, int_val, bool_val, str_val, rows_sl, errB_err, cond_true, cond_false, chk_pos, beq00, beq10, zne00, zeq00, decide_true, decide_false, true_and, and_true, and_self, Bool.not_true, Bool.not_false, canon61, canon26, canon24, canon3, canon3d, Int.toNat_natCast, List.cons_append, List.nil_append, show ((n + 1 : Nat) : Int) > 0 by omega, ba_size, show ((x.length : Int) > 0) by omega, w1, w2, w3, hj0, hj2, byteRows_one, strOf_one, q0, hi0, Nat.zero_le, show i.toNat ≤ x.length by omega, Nat.le_refl, ba_extract, ba_append, Nat.sub_zero, List.drop_zero, en]
      rw [chk_pos (by simp; omega), chk_pos (by simp; omega)]
      rw [List.take_of_length_le (l := List.drop i.toNat x) (by simp)]
      exact hz
    by_cases q1 : q = 1
    · obtain ⟨z, at', s', hz, hzl⟩ := eL ((x.take i.toNat ++ [UInt8.ofNat (byteAt (ba v1) j.toNat).toNat]) ++ x.drop (i.toNat + 1)) (by simp; omega)
      refine ⟨z, at', s', ?_, by simp at hzl; omega⟩
      rw [iterN_succ]
      simp only [lp37_2, lq37_2, bindO_eq, pvAt_zero, pvAt_succ, getL_zero, getL_succ, dropL_one, int_val, bool_val, str_val, rows_sl, errB_err, cond_true, cond_false, chk_pos, beq00, beq10, zne00, zeq00, decide_true, decide_false, true_and, and_true, and_self, Bool.not_true, Bool.not_false, canon61, canon26, canon24, canon3, canon3d, Int.toNat_natCast, List.cons_append, List.nil_append, show ((n + 1 : Nat) : Int) > 0 by omega, ba_size, show ((x.length : Int) > 0) by omega, w1, w2, w3, hj0, hj2, byteRows_one, strOf_one, q1, show ((1 : Int) == 0) = false from rfl, show ((1 : Int) == 1) = true from rfl, hi0, Nat.zero_le, show i.toNat ≤ x.length by omega, e1, hit, hle, show 0 ≤ i + 1 by omega, Nat.le_refl, ba_extract, ba_append, Nat.sub_zero, List.drop_zero, en]
      rw [chk_pos (by simp; omega), chk_pos (by simp; omega)]
      rw [List.take_of_length_le (l := List.drop (i.toNat + 1) x) (by simp)]
      exact hz
    · obtain ⟨z, at', s', hz, hzl⟩ := eL (x.take i.toNat ++ x.drop (i.toNat + 1)) (by simp; omega)
      refine ⟨z, at', s', ?_, by simp at hzl; omega⟩
      rw [iterN_succ]
      simp only [lp37_2, lq37_2, bindO_eq, pvAt_zero, pvAt_succ, getL_zero, getL_succ, dropL_one, int_val, bool_val, str_val, rows_sl, errB_err, cond_true, cond_false, chk_pos, beq00, beq10, zne00, zeq00, decide_true, decide_false, true_and, and_true, and_self, Bool.not_true, Bool.not_false, canon61, canon26, canon24, canon3, canon3d, Int.toNat_natCast, List.cons_append, List.nil_append, show ((n + 1 : Nat) : Int) > 0 by omega, ba_size, show ((x.length : Int) > 0) by omega, w1, w2, w3, hj0, hj2, byteRows_one, strOf_one, ieq_f q0, ieq_f q1, hi0, Nat.zero_le, show i.toNat ≤ x.length by omega, e1, hit, hle, show 0 ≤ i + 1 by omega, Nat.le_refl, ba_extract, ba_append, Nat.sub_zero, List.drop_zero, en]
      rw [chk_pos (by simp; omega)]
      rw [List.take_of_length_le (l := List.drop (i.toNat + 1) x) (by simp)]
      exact hz
theorem W16 (code : List UInt8) : ∃ t : List UInt8, W E 16 [.sl 1 (byteRows code)] = some [.val (.string (ba t))] ∧ t.length ≤ 100000 := by
  obtain ⟨_, b1, s1, w1, l1, u1, a, rfl, hap, hac, han⟩ := W35 (code := code) (d := 3) (by omega) 0 0 (by omega) (by omega)
  obtain ⟨_, b2, s2, w2, l2, u2, o, rfl⟩ := W36 (code := code) (n := 3) (at_ := b1) (s := s1) (by omega) (by omega) (by omega)
  simp only [List.cons_append, List.nil_append] at w1 w2
  have hac' := cok_mono (B' := 1099511627776) (by omega) hac
  have h26 := W26 hap hac' (by omega)
  have htl := text_len hac'
  have w1' : W E 35 [.val (.int .i64 3), .sl 1 (byteRows code), .val (.int .i64 0), .val (.int .u64 0)] = _ := w1
  cases o with
  | false =>
    refine ⟨a.text, w16 (m := 0) _ ?_, by omega⟩
    simp only [g16, w1', h26, w2, bindO_eq, pvAt_zero, pvAt_succ, getL_zero, getL_succ, dropL_one, int_val, bool_val, str_val, rows_sl, errB_err, cond_true, cond_false, chk_pos, beq00, beq10, zne00, zeq00, decide_true, decide_false, true_and, and_true, and_self, Bool.not_true, Bool.not_false, canon61, canon26, canon24, canon3, canon3d, Int.toNat_natCast, List.cons_append, List.nil_append]
  | true =>
    obtain ⟨_, b3, s3, w3, l3, u3, k, rfl, hk0, hk1⟩ := W47 (code := code) (n := 2) (at_ := b2) (s := s2) (by omega) (by omega) (by omega)
    simp only [List.cons_append, List.nil_append] at w3
    have := hk1 (by omega)
    obtain ⟨y, b4, s4, hy, hyl⟩ := t37 (code := code) (v1 := [48, 49, 50, 51, 119, 94, 40, 41, 42, 43, 32]) rfl (1 + k).toNat 3 3 a.text b3 s3 (by omega) (by omega) (by omega) (by omega) (by omega)
    have e1 : IntKind.wrap .i64 (1 + k) = 1 + k := wrap_id (by omega) (by omega)
    rw [Int.toNat_of_nonneg (by omega)] at hy
    have h37 : W E 37 [.val (.string (ba a.text)), .val (.string (ba [48, 49, 50, 51, 119, 94, 40, 41, 42, 43, 32])), .sl 1 (byteRows code), .val (.int .i64 b2), .val (.int .u64 s2)] = some [.val (.string (ba y)), .sl 1 (byteRows code), .val (.int .i64 b4), .val (.int .u64 s4)] := by
      refine w37 (m := 3) _ _ _ _ _ ?_
      simp only [g37, w3, bindO_eq, pvAt_zero, pvAt_succ, getL_zero, getL_succ, dropL_one, int_val, bool_val, str_val, rows_sl, errB_err, cond_true, cond_false, chk_pos, beq00, beq10, zne00, zeq00, decide_true, decide_false, true_and, and_true, and_self, Bool.not_true, Bool.not_false, canon61, canon26, canon24, canon3, canon3d, Int.toNat_natCast, List.cons_append, List.nil_append, e1, hy]
    refine ⟨y, w16 (m := 0) _ ?_, by omega⟩
    simp only [g16, w1', h26, w2, bindO_eq, pvAt_zero, pvAt_succ, getL_zero, getL_succ, dropL_one, int_val, bool_val, str_val, rows_sl, errB_err, cond_true, cond_false, chk_pos, beq00, beq10, zne00, zeq00, decide_true, decide_false, true_and, and_true, and_self, Bool.not_true, Bool.not_false, canon61, canon26, canon24, canon3, canon3d, Int.toNat_natCast, List.cons_append, List.nil_append, mk_ba, h37]
end Go.Vm
