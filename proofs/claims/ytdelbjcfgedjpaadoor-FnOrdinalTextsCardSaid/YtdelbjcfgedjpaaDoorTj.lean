import Derived.Test.YtdelbjcfgedjpaaDoorTi
import Derived.Test.YtdelbjcfgedjpaaDoorVmE
/-! ### The draws: what a cursor over bytes gives, within bounds -/
namespace Go.Vm
open Go.Vm.D Od
set_option linter.unusedVariables false
set_option linter.unusedSimpArgs false
theorem getL_get {α : Type} (d : α) : ∀ (l : List α) (i : Nat) (h : i < l.length), getL d l i = l[i]
  | x :: l, 0, h => rfl
  | x :: l, i + 1, h => getL_get d l i (by simpa using h)
theorem canon5 (n : Int) : canonP D.k5 [.val (.int .u8 n)] 0 := rfl
theorem W70 {code : List UInt8} {at_ s : Int} (h0 : 0 ≤ at_) (h1 : at_ ≤ 1125899906842624) :
    ∃ b s', W E 70 [.sl 1 (byteRows code), .val (.int .i64 at_), .val (.int .u64 s)] = some [.val (.int .i64 b), .sl 1 (byteRows code), .val (.int .i64 (at_ + 1)), .val (.int .u64 s')] ∧ 0 ≤ b ∧ b ≤ 255 := by
  have e1 : IntKind.wrap .i64 (at_ + 1) = at_ + 1 := wrap_id (by omega) (by omega)
  have hlen : (byteRows code).length = code.length := by simp [byteRows]
  -- the byte that is read
  have hb : ∃ b : Int, 0 ≤ b ∧ b ≤ 255 ∧ ∀ K : Nat × List PV → Option (List PV), bindO (bif decide (at_ < ((byteRows code).length : Int)) then (chk ((0 : Int) ≤ at_ ∧ at_ < ((byteRows code).length : Int)) <|
chk (canonP k5 (getL [] (byteRows code) (Int.toNat at_)) 0) <|
let y1 : Int := (getL .dft (getL [] (byteRows code) (Int.toNat at_)) 0).int; some (0, [.val (.int .i64 (IntKind.wrap .i64 y1)), .sl 1 (byteRows code), .val (.int .i64 at_), .val (.int .u64 s)])) else (some (0, [.val (.int .i64 0), .sl 1 (byteRows code), .val (.int .i64 at_), .val (.int .u64 s)]))) K = K (0, [.val (.int .i64 b), .sl 1 (byteRows code), .val (.int .i64 at_), .val (.int .u64 s)]) := by
    by_cases h : at_ < (code.length : Int)
    · have hi : at_.toNat < code.length := by omega
      have hg : getL [] (byteRows code) at_.toNat = [.val (.int .u8 ((code[at_.toNat]).toNat : Int))] := by
        rw [getL_get [] (byteRows code) at_.toNat (by rw [hlen]; exact hi)]
        simp [byteRows]
      have hb := (code[at_.toNat]).toNat_lt
      refine ⟨(code[at_.toNat]).toNat, by omega, by omega, fun K => ?_⟩
      have e2 : IntKind.wrap .i64 ((code[at_.toNat]).toNat : Int) = ((code[at_.toNat]).toNat : Int) := wrap_id (by omega) (by omega)
      simp only [hlen, h, h0, bindO_eq, pvAt_zero, pvAt_succ, getL_zero, getL_succ, dropL_one, int_val, bool_val, str_val, rows_sl, errB_err, cond_true, cond_false, chk_pos, beq00, beq10, zne00, zeq00, decide_true, decide_false, true_and, and_true, and_self, Bool.not_true, Bool.not_false, canon61, canon26, canon24, canon3, canon3d, Int.toNat_natCast, List.cons_append, List.nil_append, hg, canon5, e2]
    · exact ⟨0, by omega, by omega, fun K => by simp only [hlen, h, bindO_eq, pvAt_zero, pvAt_succ, getL_zero, getL_succ, dropL_one, int_val, bool_val, str_val, rows_sl, errB_err, cond_true, cond_false, chk_pos, beq00, beq10, zne00, zeq00, decide_true, decide_false, true_and, and_true, and_self, Bool.not_true, Bool.not_false, canon61, canon26, canon24, canon3, canon3d, Int.toNat_natCast, List.cons_append, List.nil_append]⟩
  obtain ⟨b, hb0, hb1, hb2⟩ := hb
  by_cases h2 : at_ + 1 ≤ (code.length : Int)
  · refine ⟨b, IntKind.wrap .u64 ((IntKind.wrap .u64 ((IntKind.wrap .u64 (s * 6364136223846793005)) + (IntKind.wrap .u64 b))) + 1442695040888963407), w70 (m := 0) _ _ _ ?_, hb0, hb1⟩
    unfold g70
    rw [hb2]
    simp only [bindO_eq, pvAt_zero, pvAt_succ, getL_zero, getL_succ, dropL_one, int_val, bool_val, str_val, rows_sl, errB_err, cond_true, cond_false, chk_pos, beq00, beq10, zne00, zeq00, decide_true, decide_false, true_and, and_true, and_self, Bool.not_true, Bool.not_false, canon61, canon26, canon24, canon3, canon3d, Int.toNat_natCast, List.cons_append, List.nil_append, e1, hlen, h2]
  · let y4 := IntKind.wrap .u64 ((IntKind.wrap .u64 ((IntKind.wrap .u64 (s * 6364136223846793005)) + (IntKind.wrap .u64 b))) + 1442695040888963407)
    let y6 : Int := y4.fdiv (2 ^ (min (Int.toNat 40) (IntKind.bits .u64)))
    let y7 : Int := IntKind.wrap .u64 ((BitVec.ofInt (IntKind.bits .u64) y6 &&& BitVec.ofInt (IntKind.bits .u64) 255).toNat : Int)
    have h7 : 0 ≤ y7 ∧ y7 ≤ 255 := by
      have hle : (BitVec.ofInt (IntKind.bits .u64) y6 &&& BitVec.ofInt (IntKind.bits .u64) 255).toNat ≤ 255 := by
        rw [BitVec.toNat_and]
        refine Nat.le_trans Nat.and_le_right ?_
        decide
      have : y7 = ((BitVec.ofInt (IntKind.bits .u64) y6 &&& BitVec.ofInt (IntKind.bits .u64) 255).toNat : Int) := by
        show IntKind.wrap .u64 _ = _
        generalize (BitVec.ofInt (IntKind.bits .u64) y6 &&& BitVec.ofInt (IntKind.bits .u64) 255).toNat = z at hle
        simp [IntKind.wrap, IntKind.signed, IntKind.bits]
        omega
      omega
    have e7 : IntKind.wrap .i64 y7 = y7 := wrap_id (by omega) (by omega)
    refine ⟨y7, y4, w70 (m := 0) _ _ _ ?_, h7.1, h7.2⟩
    unfold g70
    rw [hb2]
    simp only [bindO_eq, pvAt_zero, pvAt_succ, getL_zero, getL_succ, dropL_one, int_val, bool_val, str_val, rows_sl, errB_err, cond_true, cond_false, chk_pos, beq00, beq10, zne00, zeq00, decide_true, decide_false, true_and, and_true, and_self, Bool.not_true, Bool.not_false, canon61, canon26, canon24, canon3, canon3d, Int.toNat_natCast, List.cons_append, List.nil_append, e1, hlen, h2, show (0 : Int) ≤ 40 by omega]
    show some [PV.val (.int .i64 (IntKind.wrap .i64 y7)), _, _, _] = _
    rw [e7]
/-- A draw that returns a value and the cursor. -/
def Draws (f : FuncId) (pre : List PV) (code : List UInt8) (at_ s : Int) (k : Int) (Q : PV → Prop) : Prop :=
  ∃ p at' s', W E f (pre ++ [.sl 1 (byteRows code), .val (.int .i64 at_), .val (.int .u64 s)]) = some [p, .sl 1 (byteRows code), .val (.int .i64 at'), .val (.int .u64 s')] ∧ at_ ≤ at' ∧ at' ≤ at_ + k ∧ Q p
theorem W47 {code : List UInt8} {n at_ s : Int} (hn : n ≤ 1099511627776) (h0 : 0 ≤ at_) (h1 : at_ ≤ 1099511627776) :
    Draws 47 [.val (.int .i64 n)] code at_ s 2 fun p => ∃ r, p = .val (.int .i64 r) ∧ 0 ≤ r ∧ (1 ≤ n → r < n) := by
  by_cases h : n ≤ 1
  · refine ⟨_, at_, s, w47 (m := 0) _ _ _ _ ?_, by omega, by omega, 0, rfl, by omega, by omega⟩
    simp only [g47, h, bindO_eq, pvAt_zero, pvAt_succ, getL_zero, getL_succ, dropL_one, int_val, bool_val, str_val, rows_sl, errB_err, cond_true, cond_false, chk_pos, beq00, beq10, zne00, zeq00, decide_true, decide_false, true_and, and_true, and_self, Bool.not_true, Bool.not_false, canon61, canon26, canon24, canon3, canon3d, Int.toNat_natCast, List.cons_append, List.nil_append]
  · obtain ⟨b, s1, hw, hb0, hb1⟩ := W70 (code := code) (s := s) h0 (by omega)
    by_cases h2 : n > 200
    · obtain ⟨b2, s2, hw2, hc0, hc1⟩ := W70 (code := code) (at_ := at_ + 1) (s := s1) (by omega) (by omega)
      have e1 : IntKind.wrap .i64 (IntKind.wrap .i64 (b * 256) + b2) = b * 256 + b2 := by
        rw [wrap_id (n := b * 256) (by omega) (by omega), wrap_id (by omega) (by omega)]
      refine ⟨_, at_ + 1 + 1, s2, w47 (m := 0) _ _ _ _ ?_, by omega, by omega, (b * 256 + b2).tmod n, rfl, ?_, fun _ => ?_⟩
      · simp only [g47, h, h2, bindO_eq, pvAt_zero, pvAt_succ, getL_zero, getL_succ, dropL_one, int_val, bool_val, str_val, rows_sl, errB_err, cond_true, cond_false, chk_pos, beq00, beq10, zne00, zeq00, decide_true, decide_false, true_and, and_true, and_self, Bool.not_true, Bool.not_false, canon61, canon26, canon24, canon3, canon3d, Int.toNat_natCast, List.cons_append, List.nil_append, hw, hw2, e1, show n ≠ 0 by omega, ne_eq, not_false_eq_true]
      · rw [Int.tmod_eq_emod_of_nonneg (by omega)]; exact Int.emod_nonneg _ (by omega)
      · rw [Int.tmod_eq_emod_of_nonneg (by omega)]; exact Int.emod_lt_of_pos _ (by omega)
    · refine ⟨_, at_ + 1, s1, w47 (m := 0) _ _ _ _ ?_, by omega, by omega, b.tmod n, rfl, ?_, fun _ => ?_⟩
      · simp only [g47, h, h2, bindO_eq, pvAt_zero, pvAt_succ, getL_zero, getL_succ, dropL_one, int_val, bool_val, str_val, rows_sl, errB_err, cond_true, cond_false, chk_pos, beq00, beq10, zne00, zeq00, decide_true, decide_false, true_and, and_true, and_self, Bool.not_true, Bool.not_false, canon61, canon26, canon24, canon3, canon3d, Int.toNat_natCast, List.cons_append, List.nil_append, hw, show n ≠ 0 by omega, ne_eq, not_false_eq_true]
      · rw [Int.tmod_eq_emod_of_nonneg (by omega)]; exact Int.emod_nonneg _ (by omega)
      · rw [Int.tmod_eq_emod_of_nonneg (by omega)]; exact Int.emod_lt_of_pos _ (by omega)
theorem W36 {code : List UInt8} {n at_ s : Int} (hn : n ≤ 1099511627776) (h0 : 0 ≤ at_) (h1 : at_ ≤ 1099511627776) :
    Draws 36 [.val (.int .i64 n)] code at_ s 2 fun p => ∃ b, p = .val (.bool b) := by
  obtain ⟨p, at', s', hw, h2, h3, r, rfl, _⟩ := W47 (code := code) (s := s) hn h0 h1
  refine ⟨_, at', s', w36 (m := 0) _ _ _ _ ?_, h2, h3, r == 0, rfl⟩
  simp only [List.cons_append, List.nil_append] at hw
  simp only [g36, hw, bindO_eq, pvAt_zero, pvAt_succ, getL_zero, getL_succ, dropL_one, int_val, bool_val, str_val, rows_sl, errB_err, cond_true, cond_false, chk_pos, beq00, beq10, zne00, zeq00, decide_true, decide_false, true_and, and_true, and_self, Bool.not_true, Bool.not_false, canon61, canon26, canon24, canon3, canon3d, Int.toNat_natCast, List.cons_append, List.nil_append]
def intRows (l : List Int) : List (List PV) := l.map fun n => [.val (.int .i64 n)]
theorem W46 {code : List UInt8} {l : List Int} {at_ s : Int} (hl : l ≠ []) (hl2 : l.length ≤ 200) (h0 : 0 ≤ at_) (h1 : at_ ≤ 1099511627776) :
    Draws 46 [.sl 1 (intRows l)] code at_ s 2 fun p => ∃ x, p = .val (.int .i64 x) ∧ x ∈ l := by
  obtain ⟨p, at', s', hw, h2, h3, r, rfl, hr0, hr1⟩ := W47 (code := code) (n := (l.length : Int)) (s := s) (by omega) h0 h1
  have hpos : 0 < l.length := List.length_pos_iff.2 hl
  have hr : r.toNat < l.length := by have := hr1 (by omega); omega
  have hlen : (intRows l).length = l.length := by simp [intRows]
  have hg : getL [] (intRows l) r.toNat = [.val (.int .i64 (l[r.toNat]))] := by
    rw [getL_get [] (intRows l) r.toNat (by rw [hlen]; exact hr)]
    simp [intRows]
  refine ⟨_, at', s', w46 (m := 0) _ _ _ _ ?_, h2, h3, l[r.toNat], rfl, List.getElem_mem hr⟩
  simp only [List.cons_append, List.nil_append] at hw
  simp only [g46, hlen, hw, bindO_eq, pvAt_zero, pvAt_succ, getL_zero, getL_succ, dropL_one, int_val, bool_val, str_val, rows_sl, errB_err, cond_true, cond_false, chk_pos, beq00, beq10, zne00, zeq00, decide_true, decide_false, true_and, and_true, and_self, Bool.not_true, Bool.not_false, canon61, canon26, canon24, canon3, canon3d, Int.toNat_natCast, List.cons_append, List.nil_append, hr0, show r < (l.length : Int) by omega, hg]
namespace Od
def meet (e : Od) (c : Int) : Od → Bool → Od
  | nil, done => if done then nil else cons e c nil
  | cons u k r, done => if done then cons u k (meet e c r true) else if u.cmp e ≤ 0 then (if u.cmp e = 0 then cons e (c + k) (meet e c r true) else cons e c (cons u k (meet e c r true))) else cons u k (meet e c r false)
theorem meet_nodes (e : Od) (c : Int) : ∀ (a : Od) (done : Bool), (meet e c a done).nodes ≤ a.nodes + (if done then 0 else e.nodes + 1)
  | nil, done => by cases done <;> simp [meet, nodes] <;> omega
  | cons u k r, done => by
    have h1 := meet_nodes e c r true
    have h2 := meet_nodes e c r false
    have := nodes_pos u
    simp only [if_true] at h1
    simp only [Bool.false_eq_true, if_false] at h2
    cases done
    · simp only [meet, Bool.false_eq_true, if_false]
      split
      · split <;> simp only [nodes] <;> omega
      · simp only [nodes]; omega
    · simp only [meet, if_true, nodes]; omega
theorem meet_cok {B K : Int} (e : Od) (c : Int) (he : e.cok B) (hB : 0 ≤ B) (hc : -K ≤ c ∧ c ≤ K) (hK : 0 ≤ K) : ∀ (a : Od) (done : Bool), a.cok B → (meet e c a done).cok (B + K)
  | nil, done, _ => by
    cases done
    · exact ⟨cok_mono (by omega) he, ⟨by omega, by omega⟩, trivial⟩
    · exact trivial
  | cons u k r, done, h => by
    have h1 := meet_cok e c he hB hc hK r true h.2.2
    have h2 := meet_cok e c he hB hc hK r false h.2.2
    have hu : u.cok (B + K) := cok_mono (by omega) h.1
    have he' : e.cok (B + K) := cok_mono (by omega) he
    have hk := h.2.1
    cases done
    · simp only [meet, Bool.false_eq_true, if_false]
      split
      · split
        · exact ⟨he', ⟨by omega, by omega⟩, h1⟩
        · exact ⟨he', ⟨by omega, by omega⟩, hu, ⟨by omega, by omega⟩, h1⟩
      · exact ⟨hu, ⟨by omega, by omega⟩, h2⟩
    · exact ⟨hu, ⟨by omega, by omega⟩, h1⟩
theorem meet_pos (e : Od) (c : Int) (he : e.pos) (hc : 1 ≤ c) : ∀ (a : Od) (done : Bool), a.pos → (meet e c a done).pos
  | nil, done, _ => by
    cases done
    · exact ⟨he, hc, trivial⟩
    · exact trivial
  | cons u k r, done, h => by
    have h1 := meet_pos e c he hc r true h.2.2
    have h2 := meet_pos e c he hc r false h.2.2
    cases done
    · simp only [meet, Bool.false_eq_true, if_false]
      split
      · split
        · exact ⟨he, by have := h.2.1; omega, h1⟩
        · exact ⟨he, hc, h.1, h.2.1, h1⟩
      · exact ⟨h.1, h.2.1, h2⟩
    · exact ⟨h.1, h.2.1, h1⟩
end Od
noncomputable def k50 (r9 : Nat × List PV) : Option (List PV) :=
  bif !((pvAt r9.2 0).bool) then (let y10 : List (List PV) := ([[.sl 2 ((pvAt r9.2 1).rows), .val (.int .i64 ((pvAt r9.2 2).int))]] : List (List PV)); chk (True ∧ (((pvAt r9.2 4).rows).length + y10.length) * 32 ≤ LIM ∧ ((pvAt r9.2 4).rows).length + y10.length ≤ LIM) <|
some [.sl 2 (((pvAt r9.2 4).rows) ++ y10)]) else (some [.sl 2 ((pvAt r9.2 4).rows)])
theorem app_ok' {α : Type} {l : List α} {x y : α} (h : l.length ≤ 2147483648) : ((l ++ [x]).length + [y].length) * 32 ≤ LIM ∧ (l ++ [x]).length + [y].length ≤ LIM := by
  simp only [List.length_append, List.length_cons, List.length_nil, LIM]; exact ⟨by omega, by omega⟩
theorem t50 (e : Od) (c : Int) (he : e.cok 549755813888) (hen : e.nodes ≤ 1073741824) (hc : -549755813888 ≤ c ∧ c ≤ 549755813888) : ∀ (r : Od) (M m : Nat) (all pre acc : List (List PV)) (i : Int) (done : Bool), r.cok 549755813888 → r.nodes ≤ 1073741824 → acc.length + 2 * r.nodes ≤ 4294967296 → acc.length + 2 * r.nodes ≤ 2147483648 → i = (pre.length : Int) → all = pre ++ r.enc → all.length ≤ 1099511627776 → r.len < m →
    bindO (iterN (lp50_4 (W E) M) m [.val (.bool done), .sl 2 all, .val (.int .i64 (all.length : Int)), .val (.int .i64 i), .sl 2 e.enc, .val (.int .i64 c), .sl 2 [], .sl 2 acc]) k50 = some [.sl 2 (acc ++ (meet e c r done).enc)]
  | .nil, M, m, all, pre, acc, i, done, hr, hn, ha, ha2, hi, h, hl, hm => by
    obtain ⟨m, rfl⟩ : ∃ k, m = k + 1 := ⟨m - 1, by omega⟩
    subst hi
    have hx := at_end h
    rw [iterN_succ]
    simp only [lp50_4, lq50_4, bindO_eq, pvAt_zero, pvAt_succ, getL_zero, getL_succ, dropL_one, int_val, bool_val, str_val, rows_sl, errB_err, cond_true, cond_false, chk_pos, beq00, beq10, zne00, zeq00, decide_true, decide_false, true_and, and_true, and_self, Bool.not_true, Bool.not_false, canon61, canon26, canon24, canon3, canon3d, Int.toNat_natCast, List.cons_append, List.nil_append, hx, k50]
    cases done
    · simp only [bindO_eq, pvAt_zero, pvAt_succ, getL_zero, getL_succ, dropL_one, int_val, bool_val, str_val, rows_sl, errB_err, cond_true, cond_false, chk_pos, beq00, beq10, zne00, zeq00, decide_true, decide_false, true_and, and_true, and_self, Bool.not_true, Bool.not_false, canon61, canon26, canon24, canon3, canon3d, Int.toNat_natCast, List.cons_append, List.nil_append]
      rw [chk_pos (app_ok (l := acc) (by omega))]
      simp [meet, Od.enc]
    · simp [meet, Od.enc]
  | .cons u k r, M, m, all, pre, acc, i, done, hr, hn, ha, ha2, hi, h, hl, hm => by
    obtain ⟨m, rfl⟩ : ∃ k, m = k + 1 := ⟨m - 1, by omega⟩
    subst hi
    simp only [Od.len] at hm
    simp only [Od.nodes] at hn ha ha2
    have := nodes_pos u
    obtain ⟨h2, h3, h4, h5, h6⟩ := at_round [] h hl
    have hcmp := W58 (cok_mono (B' := 1099511627776) (by omega) hr.1) (cok_mono (B' := 1099511627776) (by omega) he) (show u.nodes ≤ 1073741824 by omega) hen
    have hk := hr.2.1
    rw [iterN_succ]
    simp only [lp50_4, lq50_4, bindO_eq, pvAt_zero, pvAt_succ, getL_zero, getL_succ, dropL_one, int_val, bool_val, str_val, rows_sl, errB_err, cond_true, cond_false, chk_pos, beq00, beq10, zne00, zeq00, decide_true, decide_false, true_and, and_true, and_self, Bool.not_true, Bool.not_false, canon61, canon26, canon24, canon3, canon3d, Int.toNat_natCast, List.cons_append, List.nil_append, h2, h3, h4, hcmp, h5]
    have next := fun (acc' : List (List PV)) (d : Bool) (h1 : acc'.length ≤ acc.length + 2) => t50 e c he hen hc r M m all _ acc' _ d hr.2.2 (by omega) (by omega) (by omega) rfl h6 hl (by omega)
    cases done with
    | true =>
      simp only [bindO_eq, pvAt_zero, pvAt_succ, getL_zero, getL_succ, dropL_one, int_val, bool_val, str_val, rows_sl, errB_err, cond_true, cond_false, chk_pos, beq00, beq10, zne00, zeq00, decide_true, decide_false, true_and, and_true, and_self, Bool.not_true, Bool.not_false, canon61, canon26, canon24, canon3, canon3d, Int.toNat_natCast, List.cons_append, List.nil_append]
      rw [chk_pos (app_ok (l := acc) (by omega)), next _ _ (by simp)]
      simp [meet, Od.enc]
    | false =>
      simp only [bindO_eq, pvAt_zero, pvAt_succ, getL_zero, getL_succ, dropL_one, int_val, bool_val, str_val, rows_sl, errB_err, cond_true, cond_false, chk_pos, beq00, beq10, zne00, zeq00, decide_true, decide_false, true_and, and_true, and_self, Bool.not_true, Bool.not_false, canon61, canon26, canon24, canon3, canon3d, Int.toNat_natCast, List.cons_append, List.nil_append]
      by_cases hq : u.cmp e ≤ 0
      · by_cases hz : u.cmp e = 0
        · simp only [hq, bindO_eq, pvAt_zero, pvAt_succ, getL_zero, getL_succ, dropL_one, int_val, bool_val, str_val, rows_sl, errB_err, cond_true, cond_false, chk_pos, beq00, beq10, zne00, zeq00, decide_true, decide_false, true_and, and_true, and_self, Bool.not_true, Bool.not_false, canon61, canon26, canon24, canon3, canon3d, Int.toNat_natCast, List.cons_append, List.nil_append, ieq_t hz]
          rw [chk_pos (app_ok (l := acc) (by omega)), next _ _ (by simp), wrap_id (n := c + k) (by omega) (by omega)]
          simp [meet, Od.enc, hz]
        · simp only [hq, bindO_eq, pvAt_zero, pvAt_succ, getL_zero, getL_succ, dropL_one, int_val, bool_val, str_val, rows_sl, errB_err, cond_true, cond_false, chk_pos, beq00, beq10, zne00, zeq00, decide_true, decide_false, true_and, and_true, and_self, Bool.not_true, Bool.not_false, canon61, canon26, canon24, canon3, canon3d, Int.toNat_natCast, List.cons_append, List.nil_append, ieq_f hz]
          rw [chk_pos (app_ok (l := acc) (by omega)), chk_pos (app_ok' (l := acc) (by omega)), next _ _ (by simp)]
          simp [meet, Od.enc, hq, hz]
      · simp only [hq, bindO_eq, pvAt_zero, pvAt_succ, getL_zero, getL_succ, dropL_one, int_val, bool_val, str_val, rows_sl, errB_err, cond_true, cond_false, chk_pos, beq00, beq10, zne00, zeq00, decide_true, decide_false, true_and, and_true, and_self, Bool.not_true, Bool.not_false, canon61, canon26, canon24, canon3, canon3d, Int.toNat_natCast, List.cons_append, List.nil_append]
        rw [chk_pos (app_ok (l := acc) (by omega)), next _ _ (by simp)]
        simp [meet, Od.enc, hq]
theorem W50 {a e : Od} {c : Int} (ha : a.cok 549755813888) (he : e.cok 549755813888) (han : a.nodes ≤ 536870912) (hen : e.nodes ≤ 536870912) (hc : -549755813888 ≤ c ∧ c ≤ 549755813888) :
    W E 50 [.sl 2 a.enc, .sl 2 e.enc, .val (.int .i64 c)] = some [.sl 2 (meet e c a false).enc] := by
  have hlt := a.len_lt
  refine w50 (m := a.len + 1) _ _ _ ?_
  have := t50 e c he (by omega) hc a (a.len + 1) (a.len + 1) a.enc [] [] 0 false ha (by omega) (by simp; omega) (by simp; omega) rfl rfl (by rw [a.enc_len]; omega) (by omega)
  exact this
end Go.Vm
