import Derived.Test.YtdelbjcfgedjpaaDoorGa
import Derived.Test.YtdelbjcfgedjpaaDoorGb
import Derived.Test.YtdelbjcfgedjpaaDoorGc
import Derived.Test.YtdelbjcfgedjpaaDoorGd
/-! ### Ordinals as trees, and how a printed loop goes over their rows -/
namespace Go.Vm
set_option linter.unusedVariables false
theorem bindO_eq {α β : Type} (a : α) (k : α → Option β) : bindO (some a) k = k a := rfl
theorem pvAt_zero (p : PV) (l : List PV) : pvAt (p :: l) 0 = p := rfl
theorem pvAt_succ (p : PV) (l : List PV) (n : Nat) : pvAt (p :: l) (n + 1) = pvAt l n := rfl
theorem getL_zero {α : Type} (d x : α) (l : List α) : getL d (x :: l) 0 = x := rfl
theorem getL_succ {α : Type} (d x : α) (l : List α) (n : Nat) : getL d (x :: l) (n + 1) = getL d l n := rfl
theorem dropL_one {α : Type} (x : α) (l : List α) : dropL 1 (x :: l) = l := rfl
theorem int_val (k : IntKind) (n : Int) : (PV.val (.int k n)).int = n := rfl
theorem bool_val (b : Bool) : (PV.val (.bool b)).bool = b := rfl
theorem str_val (s : ByteArray) : (PV.val (.string s)).str = s := rfl
theorem rows_sl (n : Nat) (r : List (List PV)) : (PV.sl n r).rows = r := rfl
theorem errB_err (b : Bool) : (PV.err b).errB = b := rfl
theorem beq00 : Nat.beq 0 0 = true := rfl
theorem beq10 : Nat.beq 1 0 = false := rfl
theorem zne00 : ((0 : Int) != 0) = false := by decide
theorem zeq00 : ((0 : Int) == 0) = true := by decide
theorem iterN_succ (step : (List PV → Option (Nat × List PV)) → List PV → Option (Nat × List PV)) (m : Nat) (v : List PV) : iterN step (m + 1) v = step (iterN step m) v := rfl
theorem getL_pre {α : Type} (d x : α) : ∀ (p r : List α), getL d (p ++ x :: r) p.length = x
  | [], r => rfl
  | y :: p, r => getL_pre d x p r
theorem wrap_id {n : Int} (h0 : -9223372036854775808 ≤ n) (h1 : n ≤ 9223372036854775807) : IntKind.wrap .i64 n = n := by
  simp [IntKind.wrap, IntKind.signed, IntKind.bits]
  split <;> omega
theorem wrap_u8 {n : Int} (h0 : 0 ≤ n) (h1 : n < 256) : IntKind.wrap .u8 n = n := by
  simp [IntKind.wrap, IntKind.signed, IntKind.bits]
  omega
/-- A round of a loop over rows: what stands at the index, and the index behind it. -/
theorem at_round {α : Type} (d : α) {all pre : List α} {x : α} {rest : List α} (h : all = pre ++ x :: rest) (hl : all.length ≤ 1099511627776) :
    ((0 : Int) ≤ (pre.length : Int)) ∧ ((pre.length : Int) < (all.length : Int)) ∧ getL d all pre.length = x ∧ IntKind.wrap .i64 ((pre.length : Int) + 1) = ((pre ++ [x]).length : Int) ∧ all = (pre ++ [x]) ++ rest := by
  subst h
  have hlen : (pre ++ x :: rest).length = pre.length + rest.length + 1 := by simp; omega
  rw [hlen] at hl ⊢
  refine ⟨by omega, by omega, getL_pre d x pre rest, ?_, by simp⟩
  rw [wrap_id (by omega) (by omega)]
  simp
theorem at_end {α : Type} {all pre : List α} (h : all = pre ++ []) : ¬ ((pre.length : Int) < (all.length : Int)) := by
  subst h; simp

inductive Od where
  | nil
  | cons (e : Od) (c : Int) (r : Od)
namespace Od
def enc : Od → List (List PV)
  | nil => []
  | cons e c r => [.sl 2 e.enc, .val (.int .i64 c)] :: r.enc
def nodes : Od → Nat
  | nil => 1
  | cons e _ r => 1 + e.nodes + r.nodes
def len : Od → Nat
  | nil => 0
  | cons _ _ r => r.len + 1
/-- Every number in it is of at most so much. -/
def cok (B : Int) : Od → Prop
  | nil => True
  | cons e c r => e.cok B ∧ (-B ≤ c ∧ c ≤ B) ∧ r.cok B
theorem nodes_pos : ∀ a : Od, 1 ≤ a.nodes
  | nil => Nat.le_refl _
  | cons e c r => by simp only [nodes]; omega
theorem enc_len : ∀ a : Od, a.enc.length = a.len
  | nil => rfl
  | cons e c r => by simp only [enc, len, List.length_cons, enc_len r]
theorem len_lt : ∀ a : Od, a.len < a.nodes
  | nil => Nat.le_refl _
  | cons e c r => by have := len_lt r; have := nodes_pos e; simp only [nodes, len]; omega
theorem cok_mono {B B' : Int} (h : B ≤ B') : ∀ {a : Od}, a.cok B → a.cok B'
  | nil, _ => trivial
  | cons e c r, ⟨h1, h2, h3⟩ => ⟨cok_mono h h1, ⟨by omega, by omega⟩, cok_mono h h3⟩
theorem enc_inj : ∀ {a b : Od}, a.enc = b.enc → a = b
  | nil, nil, _ => rfl
  | nil, cons _ _ _, h => by cases h
  | cons _ _ _, nil, h => by cases h
  | cons e c r, cons e' c' r', h => by
    simp only [enc, List.cons.injEq, PV.sl.injEq, PV.val.injEq, Value.int.injEq, true_and, and_true] at h
    rw [enc_inj h.1.1, h.1.2, enc_inj h.2]
end Od
theorem canon61 (x : List (List PV)) (c : Int) : canonP D.k61 [.sl 2 x, .val (.int .i64 c)] 0 := ⟨rfl, rfl⟩
theorem canon26 (x : List (List PV)) (l : List PV) : canonP D.k26 (.sl 2 x :: l) 0 := rfl
theorem canon24 (x : List (List PV)) (l : List PV) : canonP D.k24 (.sl 2 x :: l) 0 := rfl
theorem canon3 (c : Int) (l : List PV) : canonP D.k3 (.val (.int .i64 c) :: l) 0 := rfl
theorem canon3d (x : PV) (c : Int) : canonP D.k3 (dropL 1 [x, .val (.int .i64 c)]) 0 := rfl
end Go.Vm
