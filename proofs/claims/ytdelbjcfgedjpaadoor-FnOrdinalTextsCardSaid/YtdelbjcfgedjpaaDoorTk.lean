import Derived.Test.YtdelbjcfgedjpaaDoorTj
/-! ### The drawn ordinals and texts -/
namespace Go.Vm
open Go.Vm.D Od
set_option linter.unusedVariables false
set_option linter.unusedSimpArgs false
/-- Of a drawn ordinal: its numbers are positive and small, its nodes few. -/
def Fine (N : Nat) (B : Int) (p : PV) : Prop := ∃ a : Od, p = .sl 2 a.enc ∧ a.pos ∧ a.cok B ∧ a.nodes ≤ N
theorem fine_int {c : Int} (h : 0 ≤ c) {B : Int} (hB : c ≤ B) {N : Nat} (hN : 3 ≤ N) : (Od.nil.term c).pos ∧ (Od.nil.term c).cok B ∧ (Od.nil.term c).nodes ≤ N := by
  unfold Od.term
  split
  · exact ⟨trivial, trivial, by simp only [nodes]; omega⟩
  · exact ⟨⟨trivial, by omega, trivial⟩, ⟨trivial, ⟨by omega, by omega⟩, trivial⟩, by simp only [nodes]; omega⟩
theorem t35 {code : List UInt8} {d : Nat} {N : Nat} {B K T : Int} (hT : T ≤ 1000000) (hN3 : 3 ≤ N) (hN : N ≤ 1000) (hB : 0 ≤ B) (hB' : B ≤ 100000) (hB2 : 2 ≤ B) (hK0 : 0 ≤ K) (hK : K ≤ 100000) (hd : d ≤ 10)
    (ih : ∀ at_ s : Int, 0 ≤ at_ → at_ ≤ T → Draws 35 [.val (.int .i64 (d : Int))] code at_ s K (Fine N B)) :
    ∀ (n : Nat) (M m : Nat) (a : Od) (X : Int) (at_ s : Int), n ≤ 3 → n < m → a.pos → a.cok X → B ≤ X → X + n * 1000 ≤ 1000000 → a.nodes + n * 1001 ≤ 100000 → 0 ≤ at_ → at_ + n * (K + 8) ≤ T →
    ∃ (a' : Od) (at' s' : Int), iterN (lp35_5 (W E) M) m [.val (.int .i64 ((d : Int) + 1)), .val (.int .i64 (n : Int)), .sl 2 [], .sl 2 a.enc, .sl 1 (byteRows code), .val (.int .i64 at_), .val (.int .u64 s)] = some (0, [.sl 2 [], .sl 2 a'.enc, .sl 1 (byteRows code), .val (.int .i64 at'), .val (.int .u64 s')]) ∧
      a'.pos ∧ a'.cok (X + n * 1000) ∧ a'.nodes ≤ a.nodes + n * (N + 1) ∧ at_ ≤ at' ∧ at' ≤ at_ + n * (K + 8)
  | 0, M, m, a, X, at_, s, hn, hm, hp, hc, hX, hX2, han, h0, h1 => by
    obtain ⟨m, rfl⟩ : ∃ k, m = k + 1 := ⟨m - 1, by omega⟩
    refine ⟨a, at_, s, ?_, hp, cok_mono (by omega) hc, by omega, by omega, by omega⟩
    rw [iterN_succ]
    simp only [lp35_5, lq35_5, bindO_eq, pvAt_zero, pvAt_succ, getL_zero, getL_succ, dropL_one, int_val, bool_val, str_val, rows_sl, errB_err, cond_true, cond_false, chk_pos, beq00, beq10, zne00, zeq00, decide_true, decide_false, true_and, and_true, and_self, Bool.not_true, Bool.not_false, canon61, canon26, canon24, canon3, canon3d, Int.toNat_natCast, List.cons_append, List.nil_append, show ¬ (((0 : Nat) : Int) > 0) by omega]
  | n + 1, M, m, a, X, at_, s, hn, hm, hp, hc, hX, hX2, han, h0, h1 => by
    obtain ⟨m, rfl⟩ : ∃ k, m = k + 1 := ⟨m - 1, by omega⟩
    have hnK : ((n + 1 : Nat) : Int) * (K + 8) = n * (K + 8) + (K + 8) := by rw [Int.natCast_add, Int.add_mul]; simp
    have hnK0 : 0 ≤ (n : Int) * (K + 8) := Int.mul_nonneg (by omega) (by omega)
    rw [hnK] at h1 ⊢
    obtain ⟨_, b1, s1, w1, l1, u1, r1, rfl, hr10, hr11⟩ := W47 (code := code) (n := 3) (s := s) (by omega) h0 (by omega)
    obtain ⟨_, b2, s2, w2, l2, u2, r2, rfl, hr20, hr21⟩ := W47 (code := code) (n := 1000) (at_ := b1) (s := s1) (by omega) (by omega) (by omega)
    have e2 : IntKind.wrap .i64 (1 + r2) = 1 + r2 := wrap_id (by omega) (by have := hr21 (by omega); omega)
    obtain ⟨_, b3, s3, w3, l3, u3, c, rfl, hc3⟩ := W46 (code := code) (l := [1, 1, 2, 3, 1 + r2]) (at_ := b2) (s := s2) (by simp) (by simp) (by omega) (by omega)
    have hcb : 1 ≤ c ∧ c ≤ 1000 := by
      have := hr21 (by omega)
      simp only [List.mem_cons, List.not_mem_nil, or_false] at hc3
      omega
    obtain ⟨_, b4, s4, w4, l4, u4, o, rfl⟩ := W36 (code := code) (n := 3) (at_ := b3) (s := s3) (by omega) (by omega) (by omega)
    simp only [List.cons_append, List.nil_append] at w1 w2 w3 w4
    have w3' : W E 46 [.sl 1 ([[.val (.int .i64 1)], [.val (.int .i64 1)], [.val (.int .i64 2)], [.val (.int .i64 3)], [.val (.int .i64 (1 + r2))]] : List (List PV)), .sl 1 (byteRows code), .val (.int .i64 b2), .val (.int .u64 s2)] = some [.val (.int .i64 c), .sl 1 (byteRows code), .val (.int .i64 b3), .val (.int .u64 s3)] := w3
    have ed : IntKind.wrap .i64 ((d : Int) + 1 - 1) = (d : Int) := by rw [wrap_id (by omega) (by omega)]; omega
    have en : IntKind.wrap .i64 (((n + 1 : Nat) : Int) - 1) = (n : Int) := by rw [wrap_id (by omega) (by omega)]; omega
    have hgo : ((n + 1 : Nat) : Int) > 0 := by omega
    -- the exponent
    have hexp : ∃ (e : Od) (b5 s5 : Int), (if o then W E 35 [.val (.int .i64 (d : Int)), .sl 1 (byteRows code), .val (.int .i64 b4), .val (.int .u64 s4)] else some [.sl 2 (Od.nil.term r1).enc, .sl 1 (byteRows code), .val (.int .i64 b4), .val (.int .u64 s4)]) = some [.sl 2 e.enc, .sl 1 (byteRows code), .val (.int .i64 b5), .val (.int .u64 s5)] ∧ e.pos ∧ e.cok X ∧ e.nodes ≤ N ∧ b4 ≤ b5 ∧ b5 ≤ b4 + K := by
      cases o with
      | false =>
        have hf := fine_int (c := r1) hr10 (B := X) (by have := hr11 (by omega); omega) hN3
        exact ⟨_, b4, s4, by simp, hf.1, hf.2.1, hf.2.2, by omega, by omega⟩
      | true =>
        obtain ⟨_, b5, s5, w5, l5, u5, e, rfl, hep, hec, hen⟩ := ih b4 s4 (by omega) (by omega)
        simp only [List.cons_append, List.nil_append] at w5
        exact ⟨e, b5, s5, by simpa using w5, hep, cok_mono hX hec, hen, l5, u5⟩
    obtain ⟨e, b5, s5, hw5, hep, hec, hen, l5, u5⟩ := hexp
    have hmeet := W50 (a := a) (e := e) (c := c) (cok_mono (by omega) hc) (cok_mono (by omega) hec) (by omega) (by omega) (by omega)
    have hmn := meet_nodes e c a false
    have hmc := meet_cok (B := X) (K := 1000) e c hec (by omega) (by omega) (by omega) a false hc
    have hmp := meet_pos e c hep hcb.1 a false hp
    simp only [Bool.false_eq_true, if_false] at hmn
    obtain ⟨a', at', s', hit, hp', hc', hn', hl', hu'⟩ := t35 hT hN3 hN hB hB' hB2 hK0 hK hd ih n M m (meet e c a false) (X + 1000) b5 s5 (by omega) (by omega) hmp hmc (by omega) (by omega) (by omega) (by omega) (by omega)
    refine ⟨a', at', s', ?_, hp', cok_mono (by omega) hc', ?_, by omega, by omega⟩
    · rw [iterN_succ]
      simp only [lp35_5, lq35_5, bindO_eq, pvAt_zero, pvAt_succ, getL_zero, getL_succ, dropL_one, int_val, bool_val, str_val, rows_sl, errB_err, cond_true, cond_false, chk_pos, beq00, beq10, zne00, zeq00, decide_true, decide_false, true_and, and_true, and_self, Bool.not_true, Bool.not_false, canon61, canon26, canon24, canon3, canon3d, Int.toNat_natCast, List.cons_append, List.nil_append, hgo, w1, W48, w2, e2, w3', w4, ed]
      cases o with
      | false =>
        simp only [Bool.false_eq_true, if_false, Option.some.injEq, List.cons.injEq, PV.sl.injEq, true_and, and_true, PV.val.injEq, Value.int.injEq] at hw5
        obtain ⟨q1, q2, q3⟩ := hw5
        simp only [bindO_eq, pvAt_zero, pvAt_succ, getL_zero, getL_succ, dropL_one, int_val, bool_val, str_val, rows_sl, errB_err, cond_true, cond_false, chk_pos, beq00, beq10, zne00, zeq00, decide_true, decide_false, true_and, and_true, and_self, Bool.not_true, Bool.not_false, canon61, canon26, canon24, canon3, canon3d, Int.toNat_natCast, List.cons_append, List.nil_append, q1, q2, q3, hmeet, en]
        exact hit
      | true =>
        simp only [if_true] at hw5
        simp only [bindO_eq, pvAt_zero, pvAt_succ, getL_zero, getL_succ, dropL_one, int_val, bool_val, str_val, rows_sl, errB_err, cond_true, cond_false, chk_pos, beq00, beq10, zne00, zeq00, decide_true, decide_false, true_and, and_true, and_self, Bool.not_true, Bool.not_false, canon61, canon26, canon24, canon3, canon3d, Int.toNat_natCast, List.cons_append, List.nil_append, hw5, hmeet, en]
        exact hit
    · have : (n + 1) * (N + 1) = n * (N + 1) + (N + 1) := by rw [Nat.add_mul]; simp
      omega
theorem W35_zero {code : List UInt8} (at_ s : Int) (h0 : 0 ≤ at_) (h1 : at_ ≤ 1000000) : Draws 35 [.val (.int .i64 ((0 : Nat) : Int))] code at_ s 2 (Fine 3 3) := by
  show Draws 35 [.val (.int .i64 0)] code at_ s 2 (Fine 3 3)
  obtain ⟨_, b1, s1, w1, l1, u1, r1, rfl, hr10, hr11⟩ := W47 (code := code) (n := 4) (s := s) (by omega) h0 (by omega)
  have := hr11 (by omega)
  have hf := fine_int (c := r1) hr10 (B := 3) (by omega) (N := 3) (by omega)
  refine ⟨_, b1, s1, w35 (m := 0) _ _ _ _ ?_, l1, u1, _, rfl, hf.1, hf.2.1, hf.2.2⟩
  simp only [List.cons_append, List.nil_append] at w1
  simp only [g35, bindO_eq, pvAt_zero, pvAt_succ, getL_zero, getL_succ, dropL_one, int_val, bool_val, str_val, rows_sl, errB_err, cond_true, cond_false, chk_pos, beq00, beq10, zne00, zeq00, decide_true, decide_false, true_and, and_true, and_self, Bool.not_true, Bool.not_false, canon61, canon26, canon24, canon3, canon3d, Int.toNat_natCast, List.cons_append, List.nil_append, w1, W48]
theorem W35_succ {code : List UInt8} {d : Nat} {N : Nat} {B K T : Int} (hT : T ≤ 1000000) (hN3 : 3 ≤ N) (hN : N ≤ 1000) (hB2 : 2 ≤ B) (hB' : B ≤ 100000) (hK0 : 0 ≤ K) (hK : K ≤ 100000) (hd : d ≤ 10)
    (ih : ∀ at_ s : Int, 0 ≤ at_ → at_ ≤ T → Draws 35 [.val (.int .i64 (d : Int))] code at_ s K (Fine N B)) (at_ s : Int) (h0 : 0 ≤ at_) (h1 : at_ + (2 + 3 * (K + 8)) ≤ T) :
    Draws 35 [.val (.int .i64 ((d + 1 : Nat) : Int))] code at_ s (2 + 3 * (K + 8)) (Fine (1 + 3 * (N + 1)) (B + 3000)) := by
  obtain ⟨_, b1, s1, w1, l1, u1, n, rfl, hn⟩ := W46 (code := code) (l := [0, 1, 1, 2, 2, 3]) (s := s) (by simp) (by simp) h0 (by omega)
  have hnb : 0 ≤ n ∧ n ≤ 3 := by
    simp only [List.mem_cons, List.not_mem_nil, or_false] at hn
    omega
  have hmul : (n.toNat : Int) * (K + 8) ≤ 3 * (K + 8) := Int.mul_le_mul_of_nonneg_right (by omega) (by omega)
  have hmul2 : n.toNat * (N + 1) ≤ 3 * (N + 1) := Nat.mul_le_mul_right _ (by omega)
  obtain ⟨a', at', s', hit, hp', hc', hn', hl', hu'⟩ := t35 (code := code) hT hN3 hN (by omega) hB' hB2 hK0 hK hd ih n.toNat (n.toNat + 1) (n.toNat + 1) .nil B b1 s1 (by omega) (by omega) trivial trivial (by omega) (by omega) (by simp only [nodes]; omega) (by omega) (by omega)
  simp only [List.cons_append, List.nil_append] at w1
  have w1' : W E 46 [.sl 1 ([[.val (.int .i64 0)], [.val (.int .i64 1)], [.val (.int .i64 1)], [.val (.int .i64 2)], [.val (.int .i64 2)], [.val (.int .i64 3)]] : List (List PV)), .sl 1 (byteRows code), .val (.int .i64 at_), .val (.int .u64 s)] = some [.val (.int .i64 n), .sl 1 (byteRows code), .val (.int .i64 b1), .val (.int .u64 s1)] := w1
  refine ⟨_, at', s', w35 (m := n.toNat + 1) _ _ _ _ ?_, by omega, by omega, a', rfl, hp', cok_mono (by omega) hc', by simp only [nodes] at hn'; omega⟩
  have hd0 : (((d + 1 : Nat) : Int) == 0) = false := ieq_f (by omega)
  rw [Int.toNat_of_nonneg hnb.1] at hit
  simp only [Od.enc] at hit
  have hcast : ((d + 1 : Nat) : Int) = (d : Int) + 1 := by omega
  simp only [g35, hd0, bindO_eq, pvAt_zero, pvAt_succ, getL_zero, getL_succ, dropL_one, int_val, bool_val, str_val, rows_sl, errB_err, cond_true, cond_false, chk_pos, beq00, beq10, zne00, zeq00, decide_true, decide_false, true_and, and_true, and_self, Bool.not_true, Bool.not_false, canon61, canon26, canon24, canon3, canon3d, Int.toNat_natCast, List.cons_append, List.nil_append, w1']
  rw [hcast, hit]
  simp only [bindO_eq, pvAt_zero, pvAt_succ, getL_zero, getL_succ, dropL_one, int_val, bool_val, str_val, rows_sl, errB_err, cond_true, cond_false, chk_pos, beq00, beq10, zne00, zeq00, decide_true, decide_false, true_and, and_true, and_self, Bool.not_true, Bool.not_false, canon61, canon26, canon24, canon3, canon3d, Int.toNat_natCast, List.cons_append, List.nil_append]
theorem W35 {code : List UInt8} {d : Nat} (hd : d ≤ 3) (at_ s : Int) (h0 : 0 ≤ at_) (h1 : at_ ≤ 1000) : Draws 35 [.val (.int .i64 (d : Int))] code at_ s 2000 (Fine 200 10000) := by
  have wide : ∀ (d : Nat) (K : Int) (N : Nat) (B : Int), K ≤ 2000 → N ≤ 200 → B ≤ 10000 → Draws 35 [.val (.int .i64 (d : Int))] code at_ s K (Fine N B) → Draws 35 [.val (.int .i64 (d : Int))] code at_ s 2000 (Fine 200 10000) := by
    rintro d K N B hK hN hB ⟨p, at', s', hw, hl, hu, a, rfl, hp, hc, hn⟩
    exact ⟨_, at', s', hw, hl, by omega, a, rfl, hp, cok_mono hB hc, by omega⟩
  have s0 : ∀ at_ s : Int, 0 ≤ at_ → at_ ≤ 1000000 → Draws 35 [.val (.int .i64 ((0 : Nat) : Int))] code at_ s 2 (Fine 3 3) := fun at_ s h0 h1 => W35_zero at_ s h0 h1
  have s1 : ∀ at_ s : Int, 0 ≤ at_ → at_ ≤ 999968 → Draws 35 [.val (.int .i64 ((1 : Nat) : Int))] code at_ s 32 (Fine 13 3003) := fun at_ s h0 h1 => W35_succ (T := 1000000) (by omega) (by omega) (by omega) (by omega) (by omega) (by omega) (by omega) (by omega) s0 at_ s h0 (by omega)
  have s2 : ∀ at_ s : Int, 0 ≤ at_ → at_ ≤ 999846 → Draws 35 [.val (.int .i64 ((2 : Nat) : Int))] code at_ s 122 (Fine 43 6003) := fun at_ s h0 h1 => W35_succ (T := 999968) (by omega) (by omega) (by omega) (by omega) (by omega) (by omega) (by omega) (by omega) s1 at_ s h0 (by omega)
  have s3 : ∀ at_ s : Int, 0 ≤ at_ → at_ ≤ 999454 → Draws 35 [.val (.int .i64 ((3 : Nat) : Int))] code at_ s 392 (Fine 133 9003) := fun at_ s h0 h1 => W35_succ (T := 999846) (by omega) (by omega) (by omega) (by omega) (by omega) (by omega) (by omega) (by omega) s2 at_ s h0 (by omega)
  match d, hd with
  | 0, _ => exact wide 0 2 3 3 (by omega) (by omega) (by omega) (s0 at_ s h0 (by omega))
  | 1, _ => exact wide 1 32 13 3003 (by omega) (by omega) (by omega) (s1 at_ s h0 (by omega))
  | 2, _ => exact wide 2 122 43 6003 (by omega) (by omega) (by omega) (s2 at_ s h0 (by omega))
  | 3, _ => exact wide 3 392 133 9003 (by omega) (by omega) (by omega) (s3 at_ s h0 (by omega))
end Go.Vm
