import Derived.Test.YtdelbjcfgedjpaaDoorTo
import Derived.Lib.AtoiTie
import Derived.Lib.AtoiAllCases
/-! ### A text is read back: numerals; the first reader -/
namespace Go.Vm
open Go.Vm.D Od
set_option linter.unusedVariables false
set_option linter.unusedSimpArgs false
theorem dec_step (n : Nat) (h : ¬ n < 10) : Lib.decDigits n = Lib.decDigits (n / 10) ++ [UInt8.ofNat (48 + n % 10)] := by
  rw [Lib.decDigits, dif_neg h]
theorem dec_one (n : Nat) (h : n < 10) : Lib.decDigits n = [UInt8.ofNat (48 + n)] := by rw [Lib.decDigits, dif_pos h]
theorem ofNat_toNat {n : Nat} (h : n < 256) : (UInt8.ofNat n).toNat = n := by simp; omega
theorem dig_of {n : Nat} (h : n < 10) : isDig (UInt8.ofNat (48 + n)) = true := by
  simp only [isDig, decide_eq_true_eq]
  rw [ofNat_toNat (by omega)]; omega
theorem dec_all : ∀ (k n : Nat), n < 10 ^ (k + 1) → ∀ b ∈ Lib.decDigits n, isDig b = true
  | k, n, hn, b, hb => by
    by_cases h : n < 10
    · rw [dec_one n h] at hb
      simp only [List.mem_cons, List.not_mem_nil, or_false] at hb
      subst hb; exact dig_of h
    · rw [dec_step n h, List.mem_append] at hb
      rcases hb with hb | hb
      · cases k with
        | zero => simp at hn; omega
        | succ k => exact dec_all k (n / 10) (by rw [Nat.pow_succ] at hn; omega) b hb
      · simp only [List.mem_cons, List.not_mem_nil, or_false] at hb
        subst hb; exact dig_of (by omega)
theorem dec_head : ∀ (k n : Nat), 1 ≤ n → n < 10 ^ (k + 1) → ∃ b r, Lib.decDigits n = b :: r ∧ b ≠ 48 ∧ isDig b = true
  | k, n, h1, hn => by
    by_cases h : n < 10
    · refine ⟨_, _, dec_one n h, fun e => ?_, dig_of h⟩
      have := congrArg UInt8.toNat e
      rw [ofNat_toNat (by omega)] at this
      have h48 : (48 : UInt8).toNat = 48 := rfl
      omega
    · cases k with
      | zero => simp at hn; omega
      | succ k =>
        obtain ⟨b, r, hb, hb1, hb2⟩ := dec_head k (n / 10) (by omega) (by rw [Nat.pow_succ] at hn; omega)
        exact ⟨b, r ++ [UInt8.ofNat (48 + n % 10)], by rw [dec_step n h, hb]; rfl, hb1, hb2⟩
theorem spell_append : ∀ (l : List UInt8) (m : Int) (b : UInt8), spell m (l ++ [b]) = 10 * spell m l + ((b.toNat : Int) - 48)
  | [], m, b => rfl
  | x :: l, m, b => spell_append l _ b
theorem spell_dec : ∀ (k n : Nat), n < 10 ^ (k + 1) → spell 0 (Lib.decDigits n) = n
  | k, n, hn => by
    by_cases h : n < 10
    · rw [dec_one n h]
      simp only [spell]
      rw [ofNat_toNat (by omega)]; omega
    · cases k with
      | zero => simp at hn; omega
      | succ k =>
        rw [dec_step n h, spell_append, spell_dec k (n / 10) (by rw [Nat.pow_succ] at hn; omega), ofNat_toNat (by omega)]
        omega
theorem dec_len_le {k n : Nat} (h : 10 ^ k ≤ n) : k + 1 ≤ (Lib.decDigits n).length := by
  induction k generalizing n with
  | zero => exact dec_pos n
  | succ k ih =>
    rw [Nat.pow_succ] at h
    have hp : 0 < 10 ^ k := Nat.pow_pos (by omega)
    rw [dec_step n (by omega)]
    have := ih (n := n / 10) (by omega)
    simp <;> omega
theorem sread_dec {n : Nat} (h : n ≤ 1000000) : sread (Lib.decDigits n) = n := by
  have hs := spell_dec 6 n (by omega)
  by_cases h7 : n = 1000000
  · subst h7
    have : Lib.decDigits 1000000 = [49, 48, 48, 48, 48, 48, 48] := by
      rw [dec_step _ (by omega), dec_step _ (by omega), dec_step _ (by omega), dec_step _ (by omega), dec_step _ (by omega), dec_step _ (by omega), dec_one _ (by omega)]
      rfl
    rw [sread, if_pos this]; rfl
  · have hl := dec_len 6 n (by omega) (by omega)
    have hp := dec_pos n
    rw [sread, if_neg (fun e => by have := congrArg List.length e; simp at this; omega), if_neg (by omega)]
    rw [if_neg]
    · exact hs
    · rintro ⟨h1, h2⟩
      by_cases h0 : n = 0
      · subst h0
        rw [dec_one 0 (by omega)] at h2
        simp at h2
      · obtain ⟨b, r, hb, hb1, _⟩ := dec_head 6 n (by omega) (by omega)
        rw [hb] at h1
        simp at h1
        exact hb1 h1
theorem decFrom_append : ∀ (l : List UInt8) (m v : Nat) (d : Nat), d < 10 → Lib.decFrom m l = some v → Lib.decFrom m (l ++ [UInt8.ofNat (48 + d)]) = some (v * 10 + d)
  | [], m, v, d, hd, h => by
    have hv : Lib.digitVal (UInt8.ofNat (48 + d)) = some d := by
      unfold Lib.digitVal
      rw [ofNat_toNat (by omega), if_pos (by omega)]
      congr 1; omega
    simp only [Lib.decFrom, Option.some.injEq] at h
    subst h
    simp only [List.nil_append, Lib.decFrom, hv]
  | b :: l, m, v, d, hd, h => by
    simp only [List.cons_append, Lib.decFrom] at h ⊢
    split at h
    · rename_i x hx
      exact decFrom_append l _ v d hd h
    · cases h
theorem decFrom_dec : ∀ (k n : Nat), n < 10 ^ (k + 1) → Lib.decFrom 0 (Lib.decDigits n) = some n
  | k, n, hn => by
    by_cases h : n < 10
    · rw [dec_one n h]
      have := decFrom_append [] 0 0 n h rfl
      simpa using this
    · cases k with
      | zero => simp at hn; omega
      | succ k =>
        rw [dec_step n h, decFrom_append _ _ _ (n % 10) (by omega) (decFrom_dec k (n / 10) (by rw [Nat.pow_succ] at hn; omega))]
        congr 1; omega
theorem atoiP_dec {n : Nat} (h : n ≤ 1000000) : atoiP (Lib.decDigits n) = ((n : Int), false) := by
  have hl := dec_len 7 n (by omega) (by omega)
  have h1 : Lib.atoi (Lib.decDigits n) = some (n : Int) := by
    have hd := decFrom_dec 6 n (by omega)
    have hp := dec_pos n
    have hall := dec_all 6 n (by omega)
    cases hq : Lib.decDigits n with
    | nil => rw [hq] at hp; simp at hp
    | cons b r =>
      rw [hq] at hd hall
      have hb := hall b (List.mem_cons_self ..)
      simp only [isDig, decide_eq_true_eq] at hb
      have h45 : (b == 45) = false := by
        cases e : (b == 45) with
        | false => rfl
        | true => have := congrArg UInt8.toNat (eq_of_beq e); have h9 : (45 : UInt8).toNat = 45 := rfl; omega
      have h43 : (b == 43) = false := by
        cases e : (b == 43) with
        | false => rfl
        | true => have := congrArg UInt8.toNat (eq_of_beq e); have h9 : (43 : UInt8).toNat = 43 := rfl; omega
      simp [Lib.atoi, h45, h43, Lib.decNat, hd]
  have h2 := Lib.atoiAll_short (Lib.decDigits n) (by omega)
  rw [h1] at h2
  unfold atoiP
  rw [h2]
  rfl
theorem next_at {x pre y : List UInt8} (h : x = pre ++ y) (t : List UInt8) : nextIs x t pre.length = decide (y.take t.length = t) := by
  subst h; simp [nextIs]
theorem digs_at {x pre y : List UInt8} (h : x = pre ++ y) : digs (x.drop pre.length) = digs y := by subst h; simp
/-- What follows a number: no digit. -/
def NoDig (y : List UInt8) : Prop := ∀ b, y.head? = some b → isDig b = false
theorem digs_app : ∀ (l y : List UInt8), (∀ b ∈ l, isDig b = true) → NoDig y → digs (l ++ y) = l
  | [], y, _, hy => by
    cases y with
    | nil => rfl
    | cons b r =>
      have := hy b rfl
      simp [digs, List.takeWhile_cons, this]
  | b :: l, y, hl, hy => by
    have h1 := digs_app l y (fun x hx => hl x (List.mem_cons_of_mem _ hx)) hy
    have h2 := hl b (List.mem_cons_self ..)
    simp only [digs] at h1
    simp [digs, List.takeWhile_cons, h2, h1]
/-- What follows a term: nothing, a bracket, a plus. -/
def Ends (y : List UInt8) : Prop := ∀ b, y.head? = some b → b = 41 ∨ b = 43
theorem Ends.noDig {y : List UInt8} (h : Ends y) : NoDig y := fun b hb => by
  rcases h b hb with rfl | rfl <;> rfl
theorem take_ne {y : List UInt8} {t : UInt8} {ts : List UInt8} (h : ∀ b, y.head? = some b → b ≠ t) : ¬ (y.take (t :: ts).length = t :: ts) := by
  intro e
  cases y with
  | nil => simp at e
  | cons b r =>
    simp only [List.length_cons, List.take_succ_cons, List.cons.injEq] at e
    exact h b rfl e.1
theorem ends_ne {y : List UInt8} (h : Ends y) {t : UInt8} (h1 : t ≠ 41) (h2 : t ≠ 43) : ∀ b, y.head? = some b → b ≠ t := fun b hb e => by
  rcases h b hb with rfl | rfl
  · exact h1 e.symm
  · exact h2 e.symm
def termT (e : Od) (c : Int) : List UInt8 := if e.isNil then Lib.decDigits c.toNat else 119 :: (up e (joined e.parts) ++ tail c)
theorem parts_cons (e : Od) (c : Int) (r : Od) : (Od.cons e c r).parts = termT e c :: r.parts := rfl
theorem starI_text {x pre y : List UInt8} {e : Od} {c : Int} (hc : 1 ≤ c ∧ c ≤ 1000000) (hx : x = pre ++ (tail c ++ y)) (hy : Ends y) : starI x (e, pre.length, false) = (e, c, (pre ++ tail c).length, false) := by
  unfold starI
  simp only [Bool.not_false, Bool.true_and]
  rw [next_at hx]
  unfold tail at hx ⊢
  by_cases h1 : c = 1
  · rw [if_pos h1] at hx ⊢
    rw [if_neg]
    · simp [h1]
    · simp only [decide_eq_true_eq, List.nil_append]
      exact take_ne (ends_ne hy (by decide) (by decide))
  · rw [if_neg h1] at hx ⊢
    rw [if_pos (by simp)]
    have hx2 : x = (pre ++ [42]) ++ (Lib.decDigits c.toNat ++ y) := by rw [hx]; simp
    have hd := digs_at hx2
    rw [digs_app _ _ (dec_all 6 c.toNat (by omega)) hy.noDig] at hd
    have hl : (pre ++ [42]).length = pre.length + 1 := by simp
    rw [hl] at hd
    simp only [hd, atoiP_dec (show c.toNat ≤ 1000000 by omega)]
    rw [Int.toNat_of_nonneg (by omega)]
    simp <;> omega
theorem isNil_iff (e : Od) : e.isNil = true ↔ e = nil := by cases e <;> simp [Od.isNil]
theorem tail_up_ne {e : Od} {c : Int} {y : List UInt8} (h1 : e.isOne = true) (hy : Ends y) : ∀ b, (up e (joined e.parts) ++ tail c ++ y).head? = some b → b ≠ 94 := by
  intro b hb
  unfold up tail at hb
  rw [if_pos h1] at hb
  split at hb
  · simp only [List.nil_append] at hb
    exact ends_ne hy (by decide) (by decide) b hb
  · simp only [List.nil_append, List.cons_append, List.head?_cons, Option.some.injEq] at hb
    subst hb; decide
theorem termI_text {x pre y : List UInt8} {e : Od} {c : Int} {rd : Nat → Rd} (hc : 1 ≤ c ∧ c ≤ 1000000) (hx : x = pre ++ (termT e c ++ y)) (hy : Ends y)
    (hrd : ∀ p z : List UInt8, x = p ++ (e.text ++ 41 :: z) → rd p.length = (e, (p ++ e.text).length, false)) : termI rd x pre.length = (e, c, (pre ++ termT e c).length, false) := by
  unfold termI
  rw [next_at hx]
  unfold termT at hx ⊢
  by_cases hz : e.isNil = true
  · rw [if_pos hz] at hx ⊢
    obtain ⟨b, r, hb, hb1, hb2⟩ := dec_head 6 c.toNat (by omega) (by omega)
    rw [if_neg]
    · have hd := digs_at hx
      rw [digs_app _ _ (dec_all 6 c.toNat (by omega)) hy.noDig] at hd
      simp only [hd, atoiP_dec (show c.toNat ≤ 1000000 by omega)]
      rw [Int.toNat_of_nonneg (by omega), (isNil_iff e).1 hz]
      simp
    · simp only [decide_eq_true_eq]
      refine take_ne fun b' hb' e' => ?_
      rw [hb] at hb'
      simp only [List.cons_append, List.head?_cons, Option.some.injEq] at hb'
      subst hb'; subst e'
      simp [isDig] at hb2
  · rw [if_neg hz] at hx ⊢
    rw [if_pos (by simp)]
    have hx2 : x = (pre ++ [119]) ++ (up e (joined e.parts) ++ tail c ++ y) := by rw [hx]; simp
    have hl : (pre ++ [119]).length = pre.length + 1 := by simp
    have hn := next_at hx2 [94, 40]
    rw [hl] at hn
    rw [hn]
    by_cases h1 : e.isOne = true
    · rw [if_neg (by simp only [decide_eq_true_eq]; exact take_ne (tail_up_ne h1 hy))]
      have hx3 : x = (pre ++ [119]) ++ (tail c ++ y) := by rw [hx2]; simp [up, h1]
      have := starI_text (e := Od.one) hc hx3 hy
      rw [hl] at this
      rw [this, ← (isOne_iff e).1 h1]
      simp [up, h1] <;> omega
    · have hup : up e (joined e.parts) = 94 :: 40 :: (e.text ++ [41]) := by simp [up, h1, Od.text]
      rw [hup] at hx2 ⊢
      rw [if_pos (by simp)]
      have hx3 : x = (pre ++ [119, 94, 40]) ++ (e.text ++ 41 :: (tail c ++ y)) := by rw [hx2]; simp
      have hr := hrd _ _ hx3
      have hl3 : (pre ++ [119, 94, 40]).length = pre.length + 1 + 2 := by simp
      rw [hl3] at hr
      rw [hr]
      have hx4 : x = (pre ++ [119, 94, 40] ++ e.text) ++ (41 :: (tail c ++ y)) := by rw [hx3]; simp
      have hn4 := next_at hx4 [41]
      unfold shutI
      simp only [Bool.false_eq_true, if_false]
      rw [hn4, if_pos (by simp)]
      have hx5 : x = (pre ++ [119, 94, 40] ++ e.text ++ [41]) ++ (tail c ++ y) := by rw [hx4]; simp
      have hl5 : (pre ++ [119, 94, 40] ++ e.text ++ [41]).length = (pre ++ [119, 94, 40] ++ e.text).length + 1 := by simp <;> omega
      have := starI_text (e := e) hc hx5 hy
      rw [hl5] at this
      rw [this]
      simp <;> omega
theorem termT_len (e : Od) (c : Int) : 1 ≤ (termT e c).length := by
  unfold termT
  split
  · exact dec_pos _
  · simp
theorem len_join : ∀ (r : Od), r.len ≤ (Lib.joinTail [43] r.parts).length
  | nil => by simp [Od.len]
  | cons e c r => by
    have := len_join r
    have h1 := termT_len e c
    have : (Lib.joinTail [43] (Od.cons e c r).parts).length = 1 + (termT e c).length + (Lib.joinTail [43] r.parts).length := by
      simp [Lib.joinTail, parts_cons]; omega
    simp only [Od.len]; omega
/-- Behind the terms: what follows an ordinal. -/
def Stops (y : List UInt8) : Prop := ∀ b, y.head? = some b → b = 41
theorem Stops.ends {y : List UInt8} (h : Stops y) : Ends y := fun b hb => .inl (h b hb)
theorem tail_ends {r : Od} {y : List UInt8} (hy : Stops y) : Ends (Lib.joinTail [43] r.parts ++ y) := by
  intro b hb
  cases r with
  | nil => simp [parts, Lib.joinTail] at hb; exact .inl (hy b hb)
  | cons e c r => simp [Lib.joinTail, parts_cons] at hb; exact .inr hb.symm
theorem join_eq (e : Od) (c : Int) (r : Od) : Lib.join (Od.cons e c r).parts [43] = termT e c ++ Lib.joinTail [43] r.parts := by rw [parts_cons, Lib.join_cons]
theorem tail_eq (e : Od) (c : Int) (r : Od) : Lib.joinTail [43] (Od.cons e c r).parts = 43 :: Lib.join (Od.cons e c r).parts [43] := by
  rw [join_eq]; simp [Lib.joinTail, parts_cons]
theorem text_cons (e : Od) (c : Int) (r : Od) : (Od.cons e c r).text = Lib.join (Od.cons e c r).parts [43] := rfl
theorem first_ne {e : Od} {c : Int} (hc : 1 ≤ c ∧ c ≤ 1000000) (z : List UInt8) : ∀ b, (termT e c ++ z).head? = some b → b ≠ 48 := by
  intro b hb
  unfold termT at hb
  split at hb
  · obtain ⟨b', r, hb', hb1, _⟩ := dec_head 6 c.toNat (by omega) (by omega)
    rw [hb'] at hb
    simp only [List.cons_append, List.head?_cons, Option.some.injEq] at hb
    subst hb; exact hb1
  · simp only [List.cons_append, List.head?_cons, Option.some.injEq] at hb
    subst hb; decide
theorem loopI_text {x : List UInt8} : ∀ (r : Od) (e : Od) (c : Int) (p : Option Od) (k n : Nat) (pre y : List UInt8), formT p (.cons e c r) (k : Int) = true → x = pre ++ (Lib.join (Od.cons e c r).parts [43] ++ y) → Stops y → r.len < n →
    (∀ e' : Od, formT none e' ((k : Int) - 1) = true → 0 ≤ (k : Int) - 1 → e'.nodes < (Od.cons e c r).nodes → ∀ p z : List UInt8, x = p ++ (e'.text ++ 41 :: z) → readI x k p.length = (e', (p ++ e'.text).length, false)) →
    loopI (readI x k) x n pre.length = (.cons e c r, (pre ++ Lib.join (Od.cons e c r).parts [43]).length, false)
  | nil, e, c, p, k, n, pre, y, hf, hx, hy, hn, hrd => by
    obtain ⟨n, rfl⟩ : ∃ k, n = k + 1 := ⟨n - 1, by omega⟩
    simp only [formT, Bool.and_eq_true, decide_eq_true_eq] at hf
    rw [join_eq] at hx ⊢
    have e1 : Lib.joinTail [43] nil.parts = [] := rfl
    rw [e1, List.append_nil] at hx ⊢
    have ht := termI_text (rd := readI x k) hf.1.1.1 hx hy.ends (fun p z h => hrd e hf.1.1.2.2 hf.1.1.2.1 (by simp only [nodes]; omega) p z h)
    simp only [loopI, plusI, ht, Bool.not_false, Bool.true_and]
    have hx2 : x = (pre ++ termT e c) ++ y := by rw [hx]; simp
    rw [next_at hx2, if_neg]
    simp only [decide_eq_true_eq]
    refine take_ne fun b hb e' => ?_
    rw [hy b hb] at e'
    exact absurd e' (by decide)
  | cons e2 c2 r, e, c, p, k, n, pre, y, hf, hx, hy, hn, hrd => by
    obtain ⟨n, rfl⟩ : ∃ k, n = k + 1 := ⟨n - 1, by omega⟩
    have hf0 := hf
    simp only [formT, Bool.and_eq_true, decide_eq_true_eq] at hf
    have hf2 : formT (some e) (cons e2 c2 r) (k : Int) = true := by
      simp only [formT, Bool.and_eq_true, decide_eq_true_eq]; exact hf.2
    rw [join_eq, tail_eq] at hx ⊢
    have hx1 : x = pre ++ (termT e c ++ (43 :: Lib.join (Od.cons e2 c2 r).parts [43] ++ y)) := by rw [hx]; simp
    have ht := termI_text (rd := readI x k) hf.1.1.1 hx1 (by rw [← tail_eq]; exact tail_ends hy) (fun p z h => hrd e hf.1.1.2.2 hf.1.1.2.1 (by simp only [nodes]; omega) p z h)
    simp only [loopI, plusI, ht, Bool.not_false, Bool.true_and]
    have hx2 : x = (pre ++ termT e c) ++ (43 :: Lib.join (Od.cons e2 c2 r).parts [43] ++ y) := by rw [hx1]; simp
    rw [next_at hx2, if_pos (by simp)]
    have hx3 : x = (pre ++ termT e c ++ [43]) ++ (Lib.join (Od.cons e2 c2 r).parts [43] ++ y) := by rw [hx2]; simp
    have hl3 : (pre ++ termT e c ++ [43]).length = (pre ++ termT e c).length + 1 := by simp <;> omega
    have ih := loopI_text r e2 c2 (some e) k n _ y hf2 hx3 hy (by simp only [Od.len] at hn; omega) (fun e' h1 h0 h2 => hrd e' h1 h0 (by simp only [nodes] at h2 ⊢; omega))
    rw [hl3] at ih
    rw [ih]
    simp <;> omega
theorem readI_text : ∀ (m : Nat) (a : Od) (k : Nat) (x pre y : List UInt8), a.nodes ≤ m → formT none a (k : Int) = true → x = pre ++ (a.text ++ y) → Stops y → readI x (k + 1) pre.length = (a, (pre ++ a.text).length, false)
  | 0, a, k, x, pre, y, hm, _, _, _ => by have := nodes_pos a; omega
  | m + 1, nil, k, x, pre, y, hm, hf, hx, hy => by
    simp only [readI]
    rw [next_at hx, if_pos (by simp [Od.text, parts, joined])]
    simp [Od.text, parts, joined]
  | m + 1, cons e c r, k, x, pre, y, hm, hf, hx, hy => by
    rw [text_cons] at hx ⊢
    have hf0 := hf
    simp only [formT, Bool.and_eq_true, decide_eq_true_eq] at hf
    have hlen : r.len < x.length + 1 := by
      have h1 := len_join r
      rw [hx, join_eq]; simp; omega
    simp only [readI]
    rw [next_at hx, if_neg]
    · refine loopI_text r e c none k _ pre y hf0 hx hy hlen ?_
      intro e' h1 h0 h2 p z hz
      cases k with
      | zero => omega
      | succ k =>
        rw [show ((k + 1 : Nat) : Int) - 1 = (k : Int) by omega] at h1
        exact readI_text m e' k x p (41 :: z) (by omega) h1 hz (fun b hb => by simpa using hb.symm)
    · simp only [decide_eq_true_eq]
      rw [join_eq, List.append_assoc]
      exact take_ne (first_ne hf.1.1.1 _)
end Go.Vm
