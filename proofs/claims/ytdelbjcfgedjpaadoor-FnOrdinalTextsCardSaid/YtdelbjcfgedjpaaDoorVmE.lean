import Derived.Test.YtdelbjcfgedjpaaDoorVmD
import Derived.ChangeSlices
import Derived.WideShapes
import Derived.ChangeSame
import Derived.OpenShut
import Derived.LaidSub
/-! ### 34. From the plain run to a contract: byte slices given, one bool returned -/
namespace Go.Vm
open Go.RowKit Go.WideShapes Go.ChangeShapes
set_option linter.unusedSimpArgs false
set_option linter.unusedVariables false
def byteRows (l : List UInt8) : List (List PV) := l.map fun b => [.val (.int .u8 (b.toNat : Int))]
def ghost0 (W : World) : Gh := ⟨fun _ => none, fun _ _ => .nilIface, fun _ => none, fun k => k < W.heap.size⟩
theorem base_ghost0 (W : World) : Base W (ghost0 W) W := ⟨fun _ h => h, fun _ _ => rfl⟩
theorem wf_ghost0 (W : World) : Wf (ghost0 W) W := ⟨fun k o h => (by cases (show (none : Option (B × Option Nat)) = some o from h)), fun _ h => h, fun _ _ => rfl⟩
theorem below_fr {W W' : World} {G : Gh} (h : Fr (ghost0 W) W G W') : Below W.heap.size W W' := ⟨h.os, h.tape, h.output, h.size, fun k hk => h.blk k hk rfl⟩

section
variable {H : Type} {enc : TypeId × Value → H} {P : Program}
theorem bytes_arg {W : World} {t e : TypeId} {v : Value} {d : DataW H} {p : List MemPlace} {base : Nat} (ht : P.underlying t = some (.slice e)) (he : P.underlying e = some (.int .u8)) (hc : P.cellsOf e = 1)
    (hval : Value.okWide P W .any base t v) (h : DataW.Trod enc P W 0 (fun _ => true) true t v d p) :
    ∃ xs : List UInt8, Rep (ghost0 W).S W (.sl 1 (byteRows xs)) v ∧ ∀ (W' : World), Below W.heap.size W W' → ∀ sp : Nat → Bool, (∀ q ∈ p, sp q.block = true) → DataW.Trod enc P W' 0 sp true t v d p := by
  obtain ⟨a, n, c, rfl⟩ := okWide_slice ht hval
  obtain ⟨fuel, h⟩ := h
  rcases open_ints (cs := [.slice a n c]) ht he hc h with ⟨h1, h2⟩ | ⟨a', len, cap, zs, h1, hb, hl, hm, hz, hx, hcell, hwf⟩
  · cases h1; cases h2
    exact ⟨[], .nil _ _ _, fun W' _ sp _ => shut_slice_nil ht⟩
  · cases h1
    simp only [if_true] at hz
    have hd : d = _ := congrArg Prod.fst hx
    have hp : p = _ := congrArg Prod.snd hx
    have hnum : ∀ z ∈ zs, 0 ≤ z ∧ z < 256 := fun z hzm => by
      have := hwf z hzm
      simp [Lit.wf, IntKind.min, IntKind.max, IntKind.signed, IntKind.bits] at this
      omega
    have hmap : byteRows ((zs.take n).map fun z => UInt8.ofNat z.toNat) = (zs.take n).map fun z => [.val (.int .u8 z)] := by
      unfold byteRows
      rw [List.map_map]
      refine List.map_congr_left fun z hzm => ?_
      have := hnum z (List.mem_of_mem_take hzm)
      simp only [Function.comp]
      have h9 : (UInt8.ofNat z.toNat).toNat = z.toNat := by simp; omega
      rw [h9, Int.toNat_of_nonneg this.1]
    refine ⟨(zs.take n).map fun z => UInt8.ofNat z.toNat, ?_, fun W' hbel sp hsp => ?_⟩
    · rw [hmap]
      by_cases hn : n = 0
      · subst hn
        simp only [List.take_zero, List.map_nil]
        exact .nil _ _ _
      · have h0 := hcell 0 (by omega)
        have hspot : a'.spot = none ∧ ∃ cur ty fr, W.heap[a'.block]? = some (.cells cur ty fr) := by
          have e0 : a'.add 0 = a' := by unfold Addr.add; split <;> simp_all
          rw [e0] at h0
          unfold World.cell? at h0
          split at h0
          · rename_i cur ty fr he2
            split at h0
            · cases h0
            · rename_i hs
              exact ⟨by simpa using hs, _, _, _, he2⟩
          · cases h0
        obtain ⟨hs, cur, ty, fr, hk⟩ := hspot
        obtain ⟨k, o, s⟩ := a'
        dsimp only at hs hk
        subst hs
        have hlen : ((zs.take n).map fun z => ([.val (.int .u8 z)] : List PV)).length = n := by
          rw [List.length_map, List.length_take]; omega
        have hr := Rep.sl (S := (ghost0 W).S) (w := W) 1 ((zs.take n).map fun z => ([.val (.int .u8 z)] : List PV)) k o c cur ty fr (fun i _ => .int .u8 (zs.getD i 0)) (by
          intro e0; rw [e0] at hlen; exact hn hlen.symm) (by
          intro row hrow
          obtain ⟨z, _, rfl⟩ := List.mem_map.1 hrow
          rfl) (by rw [hlen]; omega) (Array.getElem?_eq_some_iff.1 hk).1 hk (by
          intro i row j q hi hj
          rw [List.getElem?_map] at hi
          cases e1 : (zs.take n)[i]? with
          | none => rw [e1] at hi; cases hi
          | some z =>
            rw [e1] at hi
            cases hi
            cases j with
            | succ j => cases hj
            | zero =>
              cases hj
              have hi := (List.getElem?_eq_some_iff.1 e1).1
              rw [List.length_take] at hi
              have h5 := hcell i (by omega)
              have e0 : (⟨k, o, none⟩ : Addr).add i = ⟨k, o + i, none⟩ := by unfold Addr.add; split <;> simp_all
              rw [e0] at h5
              unfold World.cell? at h5
              rw [show (⟨k, o + i, none⟩ : Addr).block = k from rfl, hk] at h5
              simpa using h5) (by
          intro i row j q hi hj
          rw [List.getElem?_map] at hi
          cases e1 : (zs.take n)[i]? with
          | none => rw [e1] at hi; cases hi
          | some z =>
            rw [e1] at hi
            cases hi
            cases j with
            | succ j => cases hj
            | zero =>
              cases hj
              have h6 : zs.getD i 0 = z := by
                have h7 : zs[i]? = some z := by
                  rw [List.getElem?_take] at e1
                  split at e1
                  · exact e1
                  · cases e1
                simp [List.getD, h7]
              rw [h6]
              exact .val _ rfl)
        rw [hlen] at hr
        exact hr
    · refine ⟨0 + 2, ?_⟩
      have hplace : ∀ q ∈ p, q.block = a'.block := fun q hq => by
        rw [hp] at hq
        simp [MemPlace.row] at hq
        obtain ⟨i, _, rfl⟩ := hq
        rfl
      have hsh := shut_ints (H := H) (enc := enc) (P := P) (w := W') (base := 0) (spare := sp) (held := true) (t := t) (e := e) (k := .u8) (a := a') (len := n) (cap := c) (zs := zs) 0 ht he hc (Nat.zero_le _) hl hm (by
        split
        · exact hz
        · rename_i hs
          rcases Nat.eq_zero_or_pos zs.length with h0 | h0
          · omega
          · exfalso
            apply hs
            have hq : MemPlace.cell (a'.add 0).block (a'.add 0).off ∈ p ∨ True := .inr trivial
            have : ∃ q, q ∈ p := by
              rw [hp]
              cases e : MemPlace.row a' zs.length with
              | nil => exfalso; have := congrArg List.length e; simp [MemPlace.row] at this; rw [this] at h0; exact absurd h0 (by simp)
              | cons q _ => exact ⟨q, List.mem_cons_self ..⟩
            obtain ⟨q, hq⟩ := this
            rw [← hplace q hq]
            exact hsp q hq) (fun i hi => by
        have h5 := hcell i hi
        have hlt : (a'.add i).block < W.heap.size := by
          unfold World.cell? at h5
          split at h5
          · rename_i he2; exact (Array.getElem?_eq_some_iff.1 he2).1
          · cases h5
        unfold World.cell? at h5 ⊢
        rw [hbel.block _ hlt]; exact h5) hwf
      rw [hd, hp]
      exact hsh
theorem calls_of_sat {W : World} {ps : List (Bool × List RK)} {f : FuncId} {fn : Func} {vs : List PV} {args : List Value} (hf : P.funcs[f]? = some fn) (hname : (fn.name == "runtime.NumGoroutine") = false) (hb : fn.body.isSome = true)
    (h : Sat P W ⟨ps, [], [(false, [.pl .bool])], []⟩ f vs [.val (.bool true)]) (ha : All2 (RelC (ghost0 W) W) (instRes ps vs 0) args) :
    Calls P f args.toArray W fun e w' => e = .returned (.bool true) ∧ Below W.heap.size W w' := by
  have h1 := h (ghost0 W) W args (base_ghost0 W) ha (fun i ls hi => by cases i <;> cases hi) (wf_ghost0 W) (fun k c hk => by cases (show (none : Option (B × Option Nat)) = some (.tmp, c) from hk))
  obtain ⟨c, hc⟩ := Option.isSome_iff_exists.1 hb
  rcases h1 with ⟨_, h1⟩ | ⟨v, w', h2, _⟩
  · refine h1.mono ?_
    rintro e w' ⟨v, rfl, G', hfr, ⟨us, rfl, hr⟩, _, _⟩
    refine ⟨?_, below_fr hfr⟩
    cases us with
    | nil => cases hr
    | cons u us =>
      obtain ⟨hr, ht⟩ := hr
      cases us with
      | cons _ _ => cases ht
      | nil =>
        have h3 : Rep G'.S w' (.val (.bool true)) u := (hr.2 0 _ _ rfl rfl).1
        cases h3
        rfl
  · rw [callFunc_enter hf hname hc] at h2
    cases h2
theorem relC_pl {W : World} {p : PV} {v : Value} (h : Rep (ghost0 W).S W p v) : RelC (ghost0 W) W (false, [.pv p]) v := ⟨_, rfl, h, h.one⟩
theorem laid_one {W : World} {l : List (String × DataW Unit)} {n : String} {d : DataW Unit} (h : laidMetH P l W) (hl : l.filter (fun x => x.1 == n) = [(n, d)]) (hh : d.handleName?.isSome = false) :
    ∃ g t cs fuel p, P.globalNamed n = some g ∧ (P.globals[g]?).map (·.type) = some t ∧ W.var? P n = some cs ∧ DataW.trod (fun _ => ()) P W 0 (fun _ => true) false fuel t cs.toList = some (d, p) := by
  have h1 := laidMetH.filter (fun x => x.1 == n) h
  rw [hl] at h1
  unfold laidMetH at h1
  have e : ([(n, d)].filter fun x => x.2.handleName?.isSome) = [] := by simp [hh]
  rw [e] at h1
  obtain ⟨ps, ⟨g, t, cs, fuel, p, q, h1, h2, h3, h4, _, _⟩, _⟩ := h1
  exact ⟨g, t, cs, fuel, p, h1, h2, h3, h4⟩
theorem laid_tab {W : World} {l : List (String × DataW Unit)} {n : String} {k : IntKind} {zs : List Int} {g : Nat} {t e : TypeId} {m : Nat} (h : laidMetH P l W) (hl : l.filter (fun x => x.1 == n) = [(n, Lib.tabData k zs)])
    (hg : P.globalNamed n = some g) (hty : (P.globals[g]?).map (·.type) = some t) (ht : P.underlying t = some (.array m e)) (he : P.underlying e = some (.int k)) (hce : P.cellsOf e = 1) (hct : P.cellsOf t = m) : Lib.TabIs P W n k zs := by
  obtain ⟨g', t', cs, fuel, p, hg', ht', hvar, hd⟩ := laid_one h hl rfl
  obtain rfl := Option.some.inj (hg.symm.trans hg')
  obtain rfl := Option.some.inj (hty.symm.trans ht')
  unfold Lib.TabIs
  rw [hvar, ← Lib.cells_of_tab ht he hce hct hd]
theorem laid_sent {W : World} {l : List (String × DataW Unit)} {n nm : String} {d : DataW Unit} {g : Nat} {t : TypeId} {ms : Array (String × TypeId)} (h : laidMetH P l W) (hl : l.filter (fun x => x.1 == n) = [(n, .iface nm d)]) (hh : (DataW.iface nm d).handleName?.isSome = false)
    (hg : P.globalNamed n = some g) (hty : (P.globals[g]?).map (·.type) = some t) (ht : P.underlying t = some (.interface ms)) : ∃ tp p, W.var? P n = some #[.iface tp p] := by
  obtain ⟨g', t', cs, fuel, p, hg', ht', hvar, hd⟩ := laid_one h hl hh
  obtain rfl := Option.some.inj (hg.symm.trans hg')
  obtain rfl := Option.some.inj (hty.symm.trans ht')
  obtain ⟨_, u, v, hc, _⟩ := iface_of_trod ht hd
  refine ⟨u, v, ?_⟩
  rw [hvar, ← hc]
end
end Go.Vm
