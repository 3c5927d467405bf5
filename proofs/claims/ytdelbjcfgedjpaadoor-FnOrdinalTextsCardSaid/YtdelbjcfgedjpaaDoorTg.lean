import Derived.Test.YtdelbjcfgedjpaaDoorTf
import Derived.Lib.ItoaMem
import Derived.Lib.Join
/-! ### Strings; numerals; the texts of ordinals -/
namespace Go.Vm
open Go.Vm.D Od
set_option linter.unusedVariables false
set_option linter.unusedSimpArgs false
def ba (l : List UInt8) : ByteArray := ⟨l.toArray⟩
theorem mk_ba (l : List UInt8) : ByteArray.mk (List.toArray l) = ba l := rfl
theorem ba_size (l : List UInt8) : (ba l).size = l.length := by simp [ba, ByteArray.size]
theorem ba_append (l k : List UInt8) : ba l ++ ba k = ba (l ++ k) := ByteArray.ext (by simp [ba])
theorem ba_extract (l : List UInt8) (i j : Nat) : (ba l).extract i j = ba ((l.drop i).take (j - i)) := ByteArray.ext (by simp [ba])
theorem ba_inj {l k : List UInt8} (h : ba l = ba k) : l = k := by
  have := congrArg (fun b : ByteArray => b.data.toList) h
  simpa [ba] using this
theorem ba_data (s : ByteArray) : ba s.data.toList = s := ByteArray.ext (by simp [ba])
theorem loop_ba (l : List UInt8) : ∀ (n i : Nat) (r : List UInt8), l.length = i + n → ByteArray.toList.loop (ba l) i r = r.reverse ++ l.drop i := by
  intro n
  induction n with
  | zero =>
    intro i r h
    rw [ByteArray.toList.loop, if_neg (by rw [ba_size]; omega), List.drop_of_length_le (by omega)]
    simp
  | succ n ih =>
    intro i r h
    have hi : i < l.length := by omega
    rw [ByteArray.toList.loop, if_pos (by rw [ba_size]; omega), ih (i + 1) _ (by omega)]
    have : (ba l).get! i = l[i] := by
      show (ba l).data[i]! = l[i]
      simp [ba, hi]
    rw [this, List.drop_eq_getElem_cons hi]
    simp
theorem ba_toList (l : List UInt8) : (ba l).toList = l := by
  have := loop_ba l l.length 0 [] (by omega)
  simpa [ByteArray.toList] using this
theorem ba_beq (l k : List UInt8) : ((ba l).toList == (ba k).toList) = decide (l = k) := by
  rw [ba_toList, ba_toList]
  by_cases h : l = k <;> simp [h]
theorem byteAt_ba {l : List UInt8} {i : Nat} (h : i < l.length) : byteAt (ba l) i = ((l[i]).toNat : Int) := by
  unfold byteAt
  have : (ba l)[i]? = some l[i] := by
    rw [getElem?_pos (ba l) i (by rw [ba_size]; exact h)]
    congr 1
  rw [this]
theorem strOf_one (n : Int) : strOf [[.val (.int .u8 n)]] = ba [UInt8.ofNat n.toNat] := rfl
theorem byteRows_one (n : Int) : ByteRows [[.val (.int .u8 n)]] := fun row h => ⟨n, by simpa using h⟩

theorem dec_len : ∀ (k n : Nat), 1 ≤ k → n < 10 ^ k → (Lib.decDigits n).length ≤ k
  | 0, n, h, _ => by omega
  | k + 1, n, _, h => by
    rw [Lib.decDigits]
    by_cases h1 : n < 10
    · simp [h1]
    · have hk : 1 ≤ k := by
        rcases k with _ | k
        · simp at h; omega
        · omega
      have := dec_len k (n / 10) hk (by rw [Nat.pow_succ] at h; omega)
      simp [h1]; omega
theorem dec_pos (n : Nat) : 1 ≤ (Lib.decDigits n).length := by
  rw [Lib.decDigits]
  split <;> simp
theorem W57 : ∀ (k : Nat) (n : Nat), n < 10 ^ (k + 1) → n ≤ 1099511627776 → W E 57 [.val (.int .i64 (n : Int))] = some [.val (.string (ba (Lib.decDigits n)))]
  | k, n, h, hb => by
    refine w57 (m := 0) _ ?_
    unfold g57
    rw [Lib.decDigits]
    by_cases h1 : n < 10
    · have h2 : (n : Int) < 10 := by omega
      have e1 : IntKind.wrap .u8 (IntKind.wrap .i64 (48 + (n : Int))) = 48 + (n : Int) := by
        rw [wrap_id (by omega) (by omega), wrap_u8 (by omega) (by omega)]
      simp only [h2, bindO_eq, pvAt_zero, pvAt_succ, getL_zero, getL_succ, dropL_one, int_val, bool_val, str_val, rows_sl, errB_err, cond_true, cond_false, chk_pos, beq00, beq10, zne00, zeq00, decide_true, decide_false, true_and, and_true, and_self, Bool.not_true, Bool.not_false, canon61, canon26, canon24, canon3, canon3d, Int.toNat_natCast, List.cons_append, List.nil_append, byteRows_one, strOf_one, e1, h1, dite_true]
      have : (48 + (n : Int)).toNat = 48 + n := by omega
      rw [this]
    · have h2 : ¬ ((n : Int) < 10) := by omega
      cases k with
      | zero => simp at h; omega
      | succ k =>
        have ih := W57 k (n / 10) (by rw [Nat.pow_succ] at h; omega) (by omega)
        have e1 : (n : Int).tdiv 10 = ((n / 10 : Nat) : Int) := by
          rw [Int.tdiv_eq_ediv_of_nonneg (by omega)]; omega
        have e2 : (n : Int).tmod 10 = ((n % 10 : Nat) : Int) := by
          rw [Int.tmod_eq_emod_of_nonneg (by omega)]; omega
        have e3 : IntKind.wrap .u8 (IntKind.wrap .i64 (48 + ((n % 10 : Nat) : Int))) = 48 + ((n % 10 : Nat) : Int) := by
          rw [wrap_id (by omega) (by omega), wrap_u8 (by omega) (by omega)]
        have hl := dec_len (k + 1) (n / 10) (by omega) (by rw [Nat.pow_succ] at h; omega)
        have hl2 := dec_len 13 (n / 10) (by omega) (by omega)
        simp only [h2, bindO_eq, pvAt_zero, pvAt_succ, getL_zero, getL_succ, dropL_one, int_val, bool_val, str_val, rows_sl, errB_err, cond_true, cond_false, chk_pos, beq00, beq10, zne00, zeq00, decide_true, decide_false, true_and, and_true, and_self, Bool.not_true, Bool.not_false, canon61, canon26, canon24, canon3, canon3d, Int.toNat_natCast, List.cons_append, List.nil_append, e1, wrap_id (show (-9223372036854775808 : Int) ≤ ((n / 10 : Nat) : Int) by omega) (by omega), ih, e2, byteRows_one, strOf_one, e3, h1, dite_false, show (10 : Int) ≠ 0 by omega, ba_size, ba_append, not_false_eq_true, ne_eq]
        rw [chk_pos (by simp only [List.length_cons, List.length_nil]; omega)]
        have : (48 + ((n % 10 : Nat) : Int)).toNat = 48 + n % 10 := by omega
        rw [this]
theorem W57' {c : Int} (h0 : 0 ≤ c) (h1 : c ≤ 1099511627776) : W E 57 [.val (.int .i64 c)] = some [.val (.string (ba (Lib.decDigits c.toNat)))] := by
  have := W57 13 c.toNat (by omega) (by omega)
  rwa [Int.toNat_of_nonneg h0] at this
theorem W51 {c : Int} (h0 : 0 ≤ c) (h1 : c ≤ 1099511627776) : W E 51 [.val (.int .i64 c)] = some [.val (.string (ba (Lib.decDigits c.toNat)))] := by
  refine W_lib E (by kernel_rfl) ?_
  rw [show E.lib 51 = libItoa by kernel_rfl]
  show chk (-9223372036854775808 ≤ c ∧ c ≤ 9223372036854775807) (some [PV.val (.string ⟨(Lib.itoa c).toArray⟩)]) = _
  rw [chk_pos ⟨by omega, by omega⟩]
  have := Lib.itoa_nonneg c.toNat
  rw [Int.toNat_of_nonneg h0] at this
  rw [this]
  rfl
namespace Od
def one : Od := .cons .nil 1 .nil
def isOne : Od → Bool
  | .cons .nil c .nil => decide (c = 1)
  | _ => false
theorem isOne_iff (e : Od) : e.isOne = true ↔ e = one := by
  match e with
  | .nil => simp [isOne, one]
  | .cons .nil c .nil => simp [isOne, one]
  | .cons (.cons _ _ _) c _ => simp [isOne, one]
  | .cons .nil c (.cons _ _ _) => simp [isOne, one]
theorem cmp_one (e : Od) : e.cmp one = 0 ↔ e.isOne = true := by
  match e with
  | .nil => simp [isOne, one, cmp]
  | .cons .nil c .nil => simp only [isOne, one, cmp, decide_eq_true_eq]; by_cases h : c < 1 <;> by_cases h2 : 1 < c <;> simp [h, h2] <;> omega
  | .cons (.cons _ _ _) c _ => simp [isOne, one, cmp]
  | .cons .nil c (.cons _ _ _) => simp only [isOne, one, cmp]; by_cases h : c < 1 <;> by_cases h2 : 1 < c <;> simp [h, h2]
/-- Every number in it is positive. -/
def pos : Od → Prop
  | .nil => True
  | .cons e c r => e.pos ∧ 1 ≤ c ∧ r.pos
def joined (ps : List (List UInt8)) : List UInt8 := match ps with | [] => [48] | p :: r => Lib.join (p :: r) [43]
def tail (c : Int) : List UInt8 := if c = 1 then [] else 42 :: Lib.decDigits c.toNat
def up (e : Od) (t : List UInt8) : List UInt8 := if e.isOne then [] else 94 :: 40 :: (t ++ [41])
def parts : Od → List (List UInt8)
  | .nil => []
  | .cons e c r => (if e.isNil then Lib.decDigits c.toNat else 119 :: (up e (joined e.parts) ++ tail c)) :: parts r
def text (a : Od) : List UInt8 := joined a.parts
theorem form_pos : ∀ (a : Od) (p : Option Od) (d : Int), formT p a d = true → a.pos
  | nil, _, _, _ => trivial
  | cons e c r, p, d, h => by
    simp only [formT, Bool.and_eq_true, decide_eq_true_eq] at h
    exact ⟨form_pos e _ _ h.1.1.2.2, by omega, form_pos r _ _ h.2⟩
theorem good_pos {a : Od} (h : a.good = true) : a.pos := by
  simp only [good, Bool.and_eq_true] at h
  exact form_pos a _ _ h.1
end Od
end Go.Vm
