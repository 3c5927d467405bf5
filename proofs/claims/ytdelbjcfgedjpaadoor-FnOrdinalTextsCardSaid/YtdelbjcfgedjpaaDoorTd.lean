import Derived.Test.YtdelbjcfgedjpaaDoorTc
/-! ### Which ordinals are valid: both tests -/
namespace Go.Vm
open Go.Vm.D
set_option linter.unusedVariables false
set_option linter.unusedSimpArgs false
namespace Od
def above : Option Od → Od → Bool
  | none, _ => true
  | some q, e => decide (0 < q.cmp e)
def formT : Option Od → Od → Int → Bool
  | _, nil, _ => true
  | p, cons e c r, d => decide (1 ≤ c ∧ c ≤ 1000000) && (decide (0 ≤ d - 1) && formT none e (d - 1)) && above p e && formT (some e) r d
def leftT : Od → Int → Int → Int
  | nil, _, l => l
  | cons e _ r, d, l => if l < 0 then -1 else if d = 0 then -1 else leftT r d (leftT e (d - 1) (l - 1 - 1))
def dp : Od → Int → Bool
  | nil, _ => true
  | cons e _ r, d => decide (d ≠ 0) && dp e (d - 1) && dp r d
def atT : Option Od → Od → Int → Int → Bool × Int
  | _, nil, _, n => (true, n)
  | p, cons e c r, deep, n =>
    if n + 1 > 60 then (false, n + 1) else if ¬ (1 ≤ c ∧ c ≤ 1000000) then (false, n + 1) else
      let x := if n + 1 + 1 > 60 then (false, n + 1 + 1) else if deep + 1 > 6 then (false, n + 1 + 1) else atT none e (deep + 1) (n + 1 + 1)
      if x.1 = false then (false, x.2) else if above p e = false then (false, x.2) else atT (some e) r deep x.2
def good (a : Od) : Bool := formT none a 6 && decide (a.nodes ≤ 60)

theorem form_cok : ∀ (a : Od) (p : Option Od) (d : Int), formT p a d = true → a.cok 1000000
  | nil, _, _, _ => trivial
  | cons e c r, p, d, h => by
    simp only [formT, Bool.and_eq_true, decide_eq_true_eq] at h
    exact ⟨form_cok e _ _ h.1.1.2.2, ⟨by omega, by omega⟩, form_cok r _ _ h.2⟩
theorem good_cok {a : Od} (h : a.good = true) : a.cok 1000000 := by
  simp only [good, Bool.and_eq_true] at h
  exact form_cok a _ _ h.1
theorem form_dp : ∀ (a : Od) (p : Option Od) (d : Int), formT p a d = true → dp a d = true
  | nil, _, _, _ => rfl
  | cons e c r, p, d, h => by
    simp only [formT, Bool.and_eq_true, decide_eq_true_eq] at h
    simp only [dp, Bool.and_eq_true, decide_eq_true_eq]
    exact ⟨⟨by omega, form_dp e _ _ h.1.1.2.2⟩, form_dp r _ _ h.2⟩
theorem left_le : ∀ (a : Od) (d l : Int), l ≤ 1099511627776 → -2 ≤ l → -2 ≤ leftT a d l ∧ leftT a d l ≤ 1099511627776
  | nil, d, l, h, h' => ⟨h', h⟩
  | cons e c r, d, l, h, h' => by
    simp only [leftT]
    by_cases h1 : l < 0
    · simp [h1]
    · by_cases h2 : d = 0
      · simp [h1, h2]
      · simp only [h1, h2, if_false]
        have := left_le e (d - 1) (l - 1 - 1) (by omega) (by omega)
        exact left_le r d _ this.2 this.1
theorem left_spec : ∀ (a : Od) (d l : Int), (0 ≤ leftT a d l ↔ ((a.nodes : Int) - 1 ≤ l ∧ dp a d = true)) ∧ (0 ≤ leftT a d l → leftT a d l = l - ((a.nodes : Int) - 1))
  | nil, d, l => by simp [leftT, nodes, dp]
  | cons e c r, d, l => by
    have h1 := left_spec e (d - 1) (l - 1 - 1)
    have h2 := left_spec r d (leftT e (d - 1) (l - 1 - 1))
    have h3 := nodes_pos e
    have h4 := nodes_pos r
    simp only [leftT, nodes, dp, Bool.and_eq_true, decide_eq_true_eq]
    by_cases h5 : l < 0
    · simp only [h5, if_true]
      exact ⟨⟨fun h => by omega, fun h => by omega⟩, fun h => by omega⟩
    · by_cases h6 : d = 0
      · simp only [h5, h6, if_false, if_true]
        exact ⟨⟨fun h => by omega, fun h => absurd rfl h.2.1.1⟩, fun h => by omega⟩
      · simp only [h5, h6, if_false]
        refine ⟨⟨fun h => ?_, fun h => ?_⟩, fun h => ?_⟩
        · have h7 := h2.1.1 h
          have h8 := h1.2 (by omega)
          have h9 := h1.1.1 (by omega)
          exact ⟨by omega, ⟨⟨h6, h9.2⟩, h7.2⟩⟩
        · have h8 := h1.1.2 ⟨by omega, h.2.1.2⟩
          have h9 := h1.2 h8
          exact h2.1.2 ⟨by omega, h.2.2⟩
        · have h7 := h2.1.1 h
          have h8 := h1.2 (by omega)
          have := h2.2 h
          omega
theorem no_at {x : Bool × Int} (hx : x.1 = false) {P : Prop} (hP : ¬ P) {Q : Prop} : (x.1 = true ↔ P) ∧ (x.1 = true → Q) :=
  ⟨⟨fun h => (by rw [hx] at h; cases h), fun h => absurd h hP⟩, fun h => (by rw [hx] at h; cases h)⟩
theorem at_spec : ∀ (a : Od) (p : Option Od) (deep n : Int), n ≤ 60 → deep ≤ 6 → ((atT p a deep n).1 = true ↔ (formT p a (6 - deep) = true ∧ n + ((a.nodes : Int) - 1) ≤ 60)) ∧ ((atT p a deep n).1 = true → (atT p a deep n).2 = n + ((a.nodes : Int) - 1))
  | nil, p, deep, n, hn, hd => by simp [atT, formT, nodes]; omega
  | cons e c r, p, deep, n, hn, hd => by
    have h3 := nodes_pos e
    have h4 := nodes_pos r
    simp only [atT, formT, nodes, Bool.and_eq_true, decide_eq_true_eq]
    by_cases h5 : n + 1 > 60
    · rw [if_pos h5]; exact no_at rfl fun h => by omega
    rw [if_neg h5]
    by_cases h6 : 1 ≤ c ∧ c ≤ 1000000
    · rw [if_neg (fun h => h h6)]
      by_cases h7 : n + 1 + 1 > 60
      · rw [if_pos h7, if_pos rfl]; exact no_at rfl fun h => by omega
      rw [if_neg h7]
      by_cases h8 : deep + 1 > 6
      · rw [if_pos h8, if_pos rfl]; exact no_at rfl fun h => by omega
      rw [if_neg h8]
      have i1 := at_spec e none (deep + 1) (n + 1 + 1) (by omega) (by omega)
      rw [show 6 - (deep + 1) = 6 - deep - 1 by omega] at i1
      by_cases h9 : (atT none e (deep + 1) (n + 1 + 1)).1 = true
      · rw [if_neg (by rw [h9]; decide)]
        have j1 := i1.1.1 h9
        have j2 := i1.2 h9
        by_cases h10 : above p e = true
        · rw [if_neg (by rw [h10]; decide)]
          have i2 := at_spec r (some e) deep (atT none e (deep + 1) (n + 1 + 1)).2 (by omega) hd
          refine ⟨⟨fun h => ?_, fun h => ?_⟩, fun h => ?_⟩
          · have := i2.1.1 h
            exact ⟨⟨⟨⟨h6, ⟨by omega, j1.1⟩⟩, h10⟩, this.1⟩, by omega⟩
          · exact i2.1.2 ⟨h.1.2, by omega⟩
          · have := i2.2 h; omega
        · rw [if_pos (by simpa using h10)]
          exact no_at rfl fun h => h10 h.1.1.2
      · rw [if_pos (by simpa using h9)]
        exact no_at rfl fun h => h9 (i1.1.2 ⟨h.1.1.1.2.2, by omega⟩)
    · rw [if_pos h6]
      exact no_at rfl fun h => h6 h.1.1.1.1
theorem at_good (a : Od) : ((if (1 : Int) > 60 then (false, (1 : Int)) else atT none a 0 1).1 = a.good) ∧ (a.good = true → (atT none a 0 1).2 = a.nodes) := by
  have h := at_spec a none 0 1 (by omega) (by omega)
  simp only [good]
  rw [if_neg (by omega)]
  constructor
  · rw [Bool.eq_iff_iff, h.1, Bool.and_eq_true, decide_eq_true_eq]
    exact ⟨fun x => ⟨x.1, by omega⟩, fun x => ⟨x.1, by omega⟩⟩
  · intro hg
    simp only [Bool.and_eq_true, decide_eq_true_eq] at hg
    have := h.2 (h.1.2 ⟨hg.1, by omega⟩)
    omega
theorem good_nodes {a : Od} (h : a.good = true) : a.nodes ≤ 60 := by
  simp only [good, Bool.and_eq_true, decide_eq_true_eq] at h
  exact h.2
end Od
end Go.Vm
