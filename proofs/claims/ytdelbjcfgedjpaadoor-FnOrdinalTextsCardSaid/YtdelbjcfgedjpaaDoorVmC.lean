import Derived.Test.YtdelbjcfgedjpaaDoorVmB
/-! ### 12. Runs of whole functions, told by plain values -/
namespace Go.Vm

/-- What a captured value is to be. -/
inductive CK where
  | pl (k : LK)
  | ptr (b : B) (off : Nat)
  | ag (ks : List LK)
/-- What a leaf is to be: nothing; a plain cell of a kind; a row of the call's own; a box's address; the header of a row; a function; the address of cells that are read alone; a function with what it has captured. -/
inductive RK where
  | un
  | pl (k : LK)
  | own (e sz : Nat) (d : Bool)
  | ptr (b : B) (off : Nat)
  | hd (b : B) (c : Nat)
  | fn (f : FuncId)
  | cl (n : Nat)
  | fnc (f : FuncId) (cks : List CK)

def LK.fitsB : LK → PV → Bool
  | .int k, .val (.int k' _) => kindEq k k'
  | .bool, .val (.bool _) => true
  | .str, .val (.string _) => true
  | .slc _ sz, .sl sz' _ => Nat.beq sz sz'
  | .err, .err _ => true
  | _, _ => false
def asPl : LK → Lf → Option PV
  | .slc _ sz, .pv (.val v) => bif isNil v then some (.sl sz []) else none
  | .err, .pv (.val v) => bif isNilI v then some (.err false) else none
  | k, .pv p => bif k.fitsB p then some p else none
  | _, _ => none
def nilL {α : Type} : List α → Bool
  | [] => true
  | _ => false
def pvAt (vs : List PV) (i : Nat) : PV := getL PV.dft vs i
def fitsL : List LK → List PV → Bool
  | [], [] => true
  | k :: ks, p :: ps => and (k.fitsB p) (fitsL ks ps)
  | _, _ => false
def matchCk : List CK → List Cap → Option (List PV)
  | [], [] => some []
  | .pl k :: r, .pv p :: cs => bif k.fitsB p then (match matchCk r cs with | some a => some (p :: a) | none => none) else none
  | .ptr b off :: r, .ptr (.box b' off') :: cs => bif and (b.beq b') (Nat.beq off off') then matchCk r cs else none
  | .ag ks :: r, .ag ps :: cs => bif fitsL ks ps then (match matchCk r cs with | some a => some (ps ++ a) | none => none) else none
  | _, _ => none
def canonLs : List LK → List PV → Nat → List PV
  | [], _, _ => []
  | k :: ks, vs, i => k.canon (pvAt vs i) :: canonLs ks vs (i + 1)
def instCk : List CK → List PV → Nat → List Cap
  | [], _, _ => []
  | .pl k :: r, vs, i => .pv (k.canon (pvAt vs i)) :: instCk r vs (i + 1)
  | .ptr b off :: r, vs, i => .ptr (.box b off) :: instCk r vs i
  | .ag ks :: r, vs, i => .ag (canonLs ks vs i) :: instCk r vs (i + lenL ks)
def matchRK : RK → Lf → Option (List PV)
  | .un, _ => some []
  | .pl k, l => match asPl k l with | some p => some [p] | none => none
  | .own e sz d, .own e' sz' d' r => bif and (and (Nat.beq e e') (Nat.beq sz sz')) (or (!(xor d d')) (nilL r)) then some [.sl sz r] else none
  | .ptr b off, .ptr (.box b' off') => bif and (b.beq b') (Nat.beq off off') then some [] else none
  | .hd b c, .hd b' c' => bif and (b.beq b') (Nat.beq c c') then some [] else none
  | .fn f, .fn f' [] => bif Nat.beq f f' then some [] else none
  | .cl n, .ptr (.cells ps) => some [.sl n [ps]]
  | .fnc f cks, .fn f' caps => bif Nat.beq f f' then (match matchCk cks caps with | some ps => some [.sl 0 [ps]] | none => none) else none
  | _, _ => none
def RK.one : RK → Bool
  | .pl _ => true
  | .own _ _ _ => true
  | .cl _ => true
  | .fnc _ _ => true
  | _ => false
def instRK (p : PV) : RK → Lf
  | .un => .un
  | .pl k => .pv (k.canon p)
  | .own e sz d => .own e sz d p.rows
  | .ptr b off => .ptr (.box b off)
  | .hd b c => .hd b c
  | .fn f => .fn f []
  | .cl _ => .ptr (.cells (getL [] p.rows 0))
  | .fnc f cks => .fn f (instCk cks (getL [] p.rows 0) 0)
def instL : List RK → List PV → Nat → List Lf
  | [], _, _ => []
  | k :: ks, vs, i => instRK (pvAt vs i) k :: instL ks vs (bif k.one then i + 1 else i)
def cntL : List RK → Nat → Nat
  | [], i => i
  | k :: ks, i => cntL ks (bif k.one then i + 1 else i)
def matchL : List RK → List Lf → Option (List PV)
  | [], [] => some []
  | k :: ks, l :: ls => match matchRK k l with
    | some a => match matchL ks ls with | some b => some (a ++ b) | none => none
    | none => none
  | _, _ => none

/-- What is kept of a state: registers, boxes. -/
structure Tm where
  regs : List (Tmp × (Bool × List RK))
  lb : List (Tmp × List RK)
  pb : List (List RK)

def blank {α : Type} (x : α) : Nat → List α
  | 0 => []
  | n + 1 => x :: blank x n
def instRegs : List (Tmp × (Bool × List RK)) → List PV → Nat → List RV → List RV
  | [], _, _, rs => rs
  | (t, (a, ks)) :: r, vs, i, rs => instRegs r vs (cntL ks i) (setL rs t (.v a (instL ks vs i)))
def cntRegs : List (Tmp × (Bool × List RK)) → Nat → Nat
  | [], i => i
  | (_, (_, ks)) :: r, i => cntRegs r (cntL ks i)
def instLb : List (Tmp × List RK) → List PV → Nat → List (Option (List Lf)) → List (Option (List Lf))
  | [], _, _, bs => bs
  | (t, ks) :: r, vs, i, bs => instLb r vs (cntL ks i) (setL bs t (some (instL ks vs i)))
def cntLb : List (Tmp × List RK) → Nat → Nat
  | [], i => i
  | (_, ks) :: r, i => cntLb r (cntL ks i)
def instPb : List (List RK) → List PV → Nat → List (Option (List Lf))
  | [], _, _ => []
  | ks :: r, vs, i => some (instL ks vs i) :: instPb r vs (cntL ks i)
def Tm.inst (tm : Tm) (n : Nat) (vs : List PV) : St :=
  { regs := instRegs tm.regs vs 0 (blank .un n), lb := instLb tm.lb vs (cntRegs tm.regs 0) (blank none n), pb := instPb tm.pb vs (cntLb tm.lb (cntRegs tm.regs 0)) }
def catO (a b : Option (List PV)) : Option (List PV) := match a with
  | some a => match b with | some b => some (a ++ b) | none => none
  | none => none
def matchRegs : List (Tmp × (Bool × List RK)) → List RV → Option (List PV)
  | [], _ => some []
  | (t, (a, ks)) :: r, rs => match getL .un rs t with
    | .v a' ls => bif xor a a' then none else catO (matchL ks ls) (matchRegs r rs)
    | _ => none
def matchLb : List (Tmp × List RK) → List (Option (List Lf)) → Option (List PV)
  | [], _ => some []
  | (t, ks) :: r, bs => match getL none bs t with
    | some ls => catO (matchL ks ls) (matchLb r bs)
    | none => none
def matchPb : List (List RK) → List (Option (List Lf)) → Option (List PV)
  | [], _ => some []
  | ks :: r, some ls :: bs => catO (matchL ks ls) (matchPb r bs)
  | _, _ => none

/-- A row that the call owns is read alone from now on. -/
def thawLf (b : B) (c sz : Nat) (r : List (List PV)) (l : Lf) : Lf :=
  match l with
  | .hd b' c' => bif and (b.beq b') (Nat.beq c c') then .pv (.sl sz r) else l
  | .tk b' c' n => bif and (b.beq b') (Nat.beq c c') then .pv (.sl sz (r.take n)) else l
  | .vw b' c' sz' lo hi => bif and (b.beq b') (Nat.beq c c') then (bif Nat.beq sz sz' then .pv (.sl sz (subL r lo hi)) else .un) else l
  | l => bif l.hits (b, some c) then .un else l
def thawRV (b : B) (c sz : Nat) (r : List (List PV)) : RV → RV
  | .un => .un
  | .v a ls => .v a (mapL (thawLf b c sz r) ls)
  | .tup cs => .tup (mapL (fun x => (x.1, mapL (thawLf b c sz r) x.2)) cs)
def St.freeze (st : St) (x : B × Nat) : St :=
  match st.box x.1 with
  | some ls => match getL .un ls x.2 with
    | .own _ sz _ r => ({ st with regs := mapL (thawRV x.1 x.2 sz r) st.regs } : St).setBox (x.1, setL ls x.2 (.pv (.sl sz r)))
    | _ => st
  | none => st
def St.freezes (st : St) : List (B × Nat) → St
  | [] => st
  | x :: r => (st.freeze x).freezes r
/-- The rows behind these leaves that are to be plain cells. -/
def viewsL : List RK → List Lf → List (B × Nat)
  | .pl _ :: ks, .hd b c :: ls => (b, c) :: viewsL ks ls
  | .pl _ :: ks, .tk b c _ :: ls => (b, c) :: viewsL ks ls
  | .pl _ :: ks, .vw b c _ _ _ :: ls => (b, c) :: viewsL ks ls
  | _ :: ks, _ :: ls => viewsL ks ls
  | _, _ => []
def ownsL (b : B) : Nat → List RK → List Lf → List (B × Nat)
  | c, .pl _ :: ks, .own _ _ _ _ :: ls => (b, c) :: ownsL b (c + 1) ks ls
  | c, _ :: ks, _ :: ls => ownsL b (c + 1) ks ls
  | _, _, _ => []
def viewsRegs : List (Tmp × (Bool × List RK)) → List RV → List (B × Nat)
  | [], _ => []
  | (t, (_, ks)) :: r, rs => match getL .un rs t with | .v _ ls => viewsL ks ls ++ viewsRegs r rs | _ => viewsRegs r rs
def ownsLb : List (Tmp × List RK) → List (Option (List Lf)) → List (B × Nat)
  | [], _ => []
  | (t, ks) :: r, bs => match getL none bs t with | some ls => ownsL (.loc t) 0 ks ls ++ ownsLb r bs | none => ownsLb r bs
def ownsPb : Nat → List (List RK) → List (Option (List Lf)) → List (B × Nat)
  | i, ks :: r, some ls :: bs => ownsL (.par i) 0 ks ls ++ ownsPb (i + 1) r bs
  | i, _ :: r, none :: bs => ownsPb (i + 1) r bs
  | _, _, _ => []
def Tm.pack (tm : Tm) (st : St) : Option (List PV) :=
  let st1 := st.freezes (viewsRegs tm.regs st.regs ++ (ownsLb tm.lb st.lb ++ ownsPb 0 tm.pb st.pb))
  catO (matchRegs tm.regs st1.regs) (catO (matchLb tm.lb st1.lb) (matchPb tm.pb st1.pb))

inductive Ex where
  | norm | exit (id : Nat) | ret
def Ex.beq : Ex → Ex → Bool
  | .norm, .norm => true
  | .exit i, .exit j => Nat.beq i j
  | .ret, .ret => true
  | _, _ => false

/-- What a function takes and gives. -/
structure Sig where
  params : List (Bool × List RK)
  pbox : List (List RK)
  res : List (Bool × List RK)
  rbox : List (List RK)

structure Loop where
  head : Tm
  outs : List (Ex × Tm)

structure Env where
  T : TypeId → Option TI
  F : FuncId → Option Func
  sig : FuncId → Option Sig
  loop : FuncId → Nat → Option Loop
  join : FuncId → Nat → Option (List (Ex × Tm))
  share : FuncId → Nat → Nat → Bool
  ord : FuncId → Nat → Option (List Nat)
  vid : FuncId → List FuncId → FuncId
  real : FuncId → FuncId
  lib : FuncId → List PV → Option (List PV)

noncomputable def chk {β : Type} (p : Prop) (x : Option β) : Option β := @ite _ p (Classical.propDecidable p) x none
noncomputable def chkC {β : Type} (p : Cnd) (x : Option β) : Option β := match p with | .t => x | .p q => chk q x
def bindO {α β : Type} (x : Option α) (k : α → Option β) : Option β := match x with | some a => k a | none => none

def packOut : List (Ex × Tm) → Nat → Ex → St → Option (Nat × List PV)
  | [], _, _, _ => none
  | (e', tm) :: r, i, e, st => bif e'.beq e then (bindO (tm.pack st) fun vs => some (i, vs)) else packOut r (i + 1) e st
def dispatch {β : Type} (n : Nat) : List (Ex × Tm) → Nat → Nat → List PV → (Ex → St → Option β) → Option β
  | [], _, _, _, _ => none
  | [(e, tm)], _, _, vs, K => K e (tm.inst n vs)
  | (e, tm) :: r, j, i, vs, K => bif Nat.beq i j then K e (tm.inst n vs) else dispatch n r (j + 1) i vs K
def iterN (step : (List PV → Option (Nat × List PV)) → List PV → Option (Nat × List PV)) : Nat → List PV → Option (Nat × List PV)
  | 0, _ => none
  | m + 1, vs => step (iterN step m) vs

def firstId : Code → Nat
  | .region id _ _ => id
  | .seq x _ => firstId x
  | .block _ c => firstId c
  | .loop c => firstId c
  | _ => 1000000

/-! #### a call -/
def CK.bx : List CK → List Cap → List (Nat × B)
  | .ptr (.par i) _ :: ks, .ptr (.box b _) :: ls => (i, b) :: CK.bx ks ls
  | _ :: ks, _ :: ls => CK.bx ks ls
  | _, _ => []
def RK.bx : List RK → List Lf → List (Nat × B)
  | .ptr (.par i) _ :: ks, .ptr (.box b _) :: ls => (i, b) :: RK.bx ks ls
  | .fnc _ cks :: ks, .fn _ caps :: ls => CK.bx cks caps ++ RK.bx ks ls
  | _ :: ks, _ :: ls => RK.bx ks ls
  | _, _ => []
def bindL : List (Bool × List RK) → List RV → List (Nat × B)
  | (_, ks) :: r, .v _ ls :: as => RK.bx ks ls ++ bindL r as
  | _ :: r, _ :: as => bindL r as
  | _, _ => []
def assocN : List (Nat × B) → Nat → Option B
  | [], _ => none
  | (i, b) :: r, j => bif Nat.beq i j then some b else assocN r j
def boxesOf (l : List (Nat × B)) : Nat → Nat → Option (List B)
  | _, 0 => some []
  | i, n + 1 => match assocN l i with
    | some b => match boxesOf l (i + 1) n with | some r => bif anyL (fun b' => b.beq b') r then none else some (b :: r) | none => none
    | none => none
/-- A box's cells as they are read alone. -/
def plainL : List Lf → Option (List PV)
  | [] => some []
  | .pv p :: r => (match plainL r with | some ps => some (p :: ps) | none => none)
  | .own _ sz _ rows :: r => (match plainL r with | some ps => some (.sl sz rows :: ps) | none => none)
  | _ => none
/-- An argument's leaf: a view is read where it is. -/
def argLf (m : Mini) (bs : List B) : Lf → Lf
  | .hd b c => bif anyL (fun b' => b.beq b') bs then .un else match rowsOf m (.hd b c) with | some (sz, r) => .pv (.sl sz r) | none => .un
  | .tk b c n => bif anyL (fun b' => b.beq b') bs then .un else match rowsOf m (.tk b c n) with | some (sz, r) => .pv (.sl sz r) | none => .un
  | .vw b c s lo hi => bif anyL (fun b' => b.beq b') bs then .un else match rowsOf m (.vw b c s lo hi) with | some (sz, r) => .pv (.sl sz r) | none => .un
  | .ptr (.box b off) => bif anyL (fun b' => b.beq b') bs then .ptr (.box b off) else match m.look b with
    | some ls => (match plainL (dropL off ls) with | some ps => .ptr (.cells ps) | none => .un)
    | none => .un
  | l => l
def swapB : List B → B → Nat → Option Nat
  | [], _, _ => none
  | b' :: r, b, i => bif b.beq b' then some i else swapB r b (i + 1)
def swapCaps (bs : List B) : List Cap → Option (List Cap)
  | [] => some []
  | .ptr (.box b off) :: r => (match swapB bs b 0, swapCaps bs r with | some i, some cs => some (.ptr (.box (.par i) off) :: cs) | _, _ => none)
  | .ptr (.row _ _ _ _ _) :: _ => none
  | c :: r => (match swapCaps bs r with | some cs => some (c :: cs) | none => none)
def swapLf (bs : List B) : Lf → Lf
  | .pv p => .pv p
  | .ptr (.box b off) => match swapB bs b 0 with | some i => .ptr (.box (.par i) off) | none => .un
  | .ptr (.cells ps) => .ptr (.cells ps)
  | .fn f caps => (match swapCaps bs caps with | some cs => .fn f cs | none => .un)
  | _ => .un
def matchArgs : List (Bool × List RK) → List RV → Option (List PV)
  | [], [] => some []
  | (a, ks) :: r, .v a' ls :: as => bif xor a a' then none else catO (matchL ks ls) (matchArgs r as)
  | _, _ => none
def argRV (ln : Bool) (m : Mini) (bs : List B) : RV → RV
  | .v a ls => .v a (mapL (fun l => swapLf bs (bif ln then argLf m bs l else l)) ls)
  | _ => .un
def viewsArgs : List (Bool × List RK) → List RV → List (B × Nat)
  | (_, ks) :: r, .v _ ls :: as => viewsL ks ls ++ viewsArgs r as
  | _ :: r, _ :: as => viewsArgs r as
  | _, _ => []
def LK.free : LK → Bool
  | .err => true
  | k => k.flat
def RK.free : RK → Bool
  | .pl k => k.free
  | .own _ _ d => d
  | .un => true
  | _ => false
def Sig.lends (sg : Sig) : Bool := and (allL (fun x => allL RK.free x.2) sg.res) (allL (fun x => allL RK.free x) sg.rbox)
def boxLs (bx : BX) : List B → Option (List (Option (List Lf)))
  | [] => some []
  | b :: r => match bx b with
    | some ls => match boxLs bx r with | some x => some (some ls :: x) | none => none
    | none => none
def resCnt : List (Bool × List RK) → Nat → Nat
  | [], i => i
  | (_, ks) :: r, i => resCnt r (cntL ks i)
/-- The results as the caller's registers hold them: own rows in slot d's box. -/
def hdLf (b : B) (c : Nat) : Lf → Lf
  | .own _ _ _ _ => .hd b c
  | l => l
def hdL (b : B) : Nat → List Lf → List Lf
  | _, [] => []
  | c, l :: r => hdLf b c l :: hdL b (c + 1) r
def instRes : List (Bool × List RK) → List PV → Nat → List (Bool × List Lf)
  | [], _, _ => []
  | (a, ks) :: r, vs, i => (a, instL ks vs i) :: instRes r vs (cntL ks i)
def hdRes (b : B) : Nat → List (Bool × List Lf) → List (Bool × List Lf)
  | _, [] => []
  | c, (a, ls) :: r => (a, hdL b c ls) :: hdRes b (c + lenL ls) r
def ownLf : Lf → Lf
  | .own e sz d r => .own e sz d r
  | _ => .un
def flatRes : List (Bool × List Lf) → List Lf
  | [] => []
  | (_, ls) :: r => mapL ownLf ls ++ flatRes r
def packRes : List (Bool × List Lf) → RV
  | [(a, ls)] => .v a ls
  | cs => .tup cs
def killsOf : List B → List (List RK) → List (B × Option Nat)
  | b :: bs, ks :: r => cellKills b 0 (lenL ks) ++ killsOf bs r
  | _, _ => []
def wrOf : List B → List (Option (List Lf)) → List (B × List Lf)
  | b :: bs, some ls :: r => (b, ls) :: wrOf bs r
  | _, _ => []
def sameLens : List (List RK) → List (List RK) → Bool
  | [], [] => true
  | a :: r, b :: s => and (Nat.beq (lenL a) (lenL b)) (sameLens r s)
  | _, _ => false
def callEff (sg : Sig) (bs : List B) (d : Tmp) (out : List PV) : Eff :=
  ⟨(.loc d, none) :: killsOf bs sg.pbox, packRes (hdRes (.loc d) 0 (instRes sg.res out 0)),
    (.loc d, flatRes (instRes sg.res out 0)) :: wrOf bs (instPb sg.rbox out (resCnt sg.res 0))⟩
def callE {β : Type} (sig : FuncId → Option Sig) (C : FuncId → List PV → Option (List PV)) (f : FuncId) (rvs : List RV) (dst : Option Tmp) (bx : BX) (K : Eff → Option β) : Option β :=
  match dst, sig f with
  | some d, some sg => match boxesOf (bindL sg.params rvs) 0 (lenL sg.pbox) with
    | none => none
    | some bs => bif or (anyL (fun b => b.beq (.loc d)) bs) (!(sameLens sg.pbox sg.rbox)) then none else
      match boxLs bx bs with
      | none => none
      | some ls => bindO (catO (matchArgs sg.params (mapL (argRV sg.lends ⟨bx, []⟩ bs) rvs)) (matchPb sg.pbox ls)) fun vs =>
        bindO (C f vs) fun out => K (callEff sg bs d out)
  | _, _ => none
/-- Before a call whose results may share with its arguments, these are frozen. -/
def callFrz (sig : FuncId → Option Sig) (f : FuncId) (rvs : List RV) : List (B × Nat) :=
  match sig f with
  | some sg => bif sg.lends then [] else viewsArgs sg.params rvs
  | none => []
/-- A function value: its number, what it has captured. -/
def fnOf : RV → Option (FuncId × List Cap)
  | .v false [.fn f caps] => some (f, caps)
  | _ => none
def capRV : Cap → RV
  | .pv p => .v false [.pv p]
  | .ptr q => .v false [.ptr q]
  | .ag ps => .v true (mapL Lf.pv ps)
def fnIdsL : List Lf → List FuncId
  | [] => []
  | .fn f _ :: r => f :: fnIdsL r
  | _ :: r => fnIdsL r
def fnIds : List RV → List FuncId
  | [] => []
  | .v _ ls :: r => fnIdsL ls ++ fnIds r
  | _ :: r => fnIds r
/-- The arguments of a call of a function value: what it has captured comes last. -/
def callArgs (ρ : Operand → RV) (args : List Operand) (caps : List Cap) : List RV := mapL ρ args ++ mapL capRV caps
/-- The name under which a function is told: the functions that it is given make it another one. -/
def callF (E : Env) (ρ : Operand → RV) (x : Operand) (args : List Operand) : Option (FuncId × FuncId × List RV) :=
  match fnOf (ρ x) with
  | some (f, caps) => some (E.vid f (fnIds (callArgs ρ args caps)), f, callArgs ρ args caps)
  | none => none
def callK {β : Type} (E : Env) (C : FuncId → List PV → Option (List PV)) (x : Operand) (args : List Operand) (dst : Option Tmp) (st : St) (K : St → Option β) : Option β :=
  match callF E (opnd st.regs) x args with
  | none => none
  | some (v, _, rvs) =>
    let st1 := st.freezes (callFrz E.sig v rvs)
    match callF E (opnd st1.regs) x args with
    | some (_, f, rvs1) => bif Nat.beq (E.real v) f then callE E.sig C v rvs1 dst st1.box fun e => K (st1.apply dst e) else none
    | none => none

/-! #### an operation, a region, a function -/
noncomputable def opK {β : Type} (E : Env) (C : FuncId → List PV → Option (List PV)) (o : Oper) (st : St) (K : St → Option β) : Option β :=
  match o.op with
  | .call { callee := .value x, args, .. } => callK E C x args.toList o.dst st K
  | _ => match eff E.T o (opnd st.regs) st.box with
    | some (p, e) => chkC p (K (st.apply o.dst e))
    | none => none
def viewsRV : RV → List (B × Nat)
  | .v _ ls => viewsL (mapL (fun _ => RK.pl .oth) ls) ls
  | _ => []
def viewsOp : List Operand → List RV → List (B × Nat)
  | [], _ => []
  | x :: r, rs => viewsRV (opnd rs x) ++ viewsOp r rs
/-- The register that a guard looks at. -/
def guardReg (ops : List Oper) (g : Nat) : Option Tmp :=
  match getL none (mapL some ops) g with
  | some o => o.dst
  | none => none
noncomputable def runOp {β : Type} (E : Env) (C : FuncId → List PV → Option (List PV)) (ops : List Oper) (sh : Bool) (o : Oper) (st : St) (K : St → Option β) : Option β :=
  let run (st : St) : Option β := bif sh then opK E C o (st.freezes (viewsOp o.op.operands.toList st.regs)) K else opK E C o st K
  match o.guard with
  | none => run st
  | some (g, want) => match guardReg ops g with
    | none => none
    | some t => match getL .un st.regs t with
      | .v false [.pv (.val (.bool b))] =>
        bif b then (bif want then run { st with regs := setL st.regs t (scal (.bool true)) } else K (St.put { st with regs := setL st.regs t (scal (.bool true)) } o.dst (.tup [])))
        else (bif want then K (St.put { st with regs := setL st.regs t (scal (.bool false)) } o.dst (.tup [])) else run { st with regs := setL st.regs t (scal (.bool false)) })
      | .tup [] => K (st.put o.dst (.tup []))
      | _ => none
noncomputable def runOps {β : Type} (E : Env) (C : FuncId → List PV → Option (List PV)) (sh : Nat → Bool) (ops : List Oper) : Nat → List Oper → St → (St → Option β) → Option β
  | _, [], st, K => K st
  | i, o :: r, st, K => runOp E C ops (sh i) o st fun st' => runOps E C sh ops (i + 1) r st' K

/-! #### a drawn region: text order, every pair that no edge orders being apart -/
def Place.foot : Place → List B
  | .box b _ => [b]
  | .cells _ => []
  | .row b _ _ _ _ => [b]
def capFoot : List Cap → List B
  | [] => []
  | .ptr q :: r => q.foot ++ capFoot r
  | _ :: r => capFoot r
def Lf.foot : Lf → List B
  | .fn _ caps => capFoot caps
  | .hd b _ => [b]
  | .tk b _ _ => [b]
  | .vw b _ _ _ _ => [b]
  | .ptr q => q.foot
  | _ => []
def Lf.clean : Lf → Bool
  | .un => false
  | .own _ _ _ _ => false
  | _ => true
def footL : List Lf → List B
  | [] => []
  | l :: r => l.foot ++ footL r
def RV.foot : RV → List B
  | .un => []
  | .v _ ls => footL ls
  | .tup cs => (cs.map fun x => footL x.2).flatten
def RV.clean : RV → Bool
  | .un => false
  | .v _ ls => allL Lf.clean ls
  | .tup cs => allL (fun x => allL Lf.clean x.2) cs
def footOps (rs : List RV) : List Operand → List B
  | [] => []
  | x :: r => (opnd rs x).foot ++ footOps rs r
def cleanOps (rs : List RV) : List Operand → Bool
  | [] => true
  | x :: r => and (opnd rs x).clean (cleanOps rs r)
def inF (F : List B) (b : B) : Bool := anyL (fun b' => b.beq b') F
def restr (F : List B) (bx : BX) : BX := fun b => bif inF F b then bx b else none
def Place.within (F : List B) : Place → Bool
  | .box b _ => inF F b
  | .cells _ => true
  | .row b _ _ _ _ => inF F b
def Cap.within (F : List B) : Cap → Bool
  | .ptr q => q.within F
  | _ => true
def Lf.within (F : List B) : Lf → Bool
  | .hd b _ => inF F b
  | .tk b _ _ => inF F b
  | .vw b _ _ _ _ => inF F b
  | .ptr q => q.within F
  | .fn _ caps => allL (Cap.within F) caps
  | _ => true
def RV.within (F : List B) : RV → Bool
  | .un => true
  | .v _ ls => allL (Lf.within F) ls
  | .tup cs => allL (fun x => allL (Lf.within F) x.2) cs
def Eff.within (F : List B) (e : Eff) : Bool := and (allL (fun x => inF F x.1) e.kill) (and (allL (fun x => inF F x.1) e.wr) (e.val.within F))
def Eff.writes (e : Eff) : List B := mapL (fun x => x.1) e.kill ++ mapL (fun x => x.1) e.wr
/-- Freezing, seen by an operation alone. -/
def frzOne (x : B × Nat) (ρ : Operand → RV) (bx : BX) : (Operand → RV) × BX :=
  match bx x.1 with
  | some ls => match getL .un ls x.2 with
    | .own _ sz _ r => (fun y => thawRV x.1 x.2 sz r (ρ y), fun b => bif b.beq x.1 then some (setL ls x.2 (.pv (.sl sz r))) else bx b)
    | _ => (ρ, bx)
  | none => (ρ, bx)
def frzAll : List (B × Nat) → (Operand → RV) → BX → (Operand → RV) × BX
  | [], ρ, bx => (ρ, bx)
  | x :: r, ρ, bx => frzAll r (frzOne x ρ bx).1 (frzOne x ρ bx).2
def frzWr (bx : BX) : List (B × Nat) → List (B × List Lf)
  | [] => []
  | x :: r => (match bx x.1 with | some ls => (x.1, ls) :: frzWr bx r | none => frzWr bx r)
def frzEff (xs : List (B × Nat)) (bx : BX) (e : Eff) : Eff := ⟨mapL (fun x => (x.1, some x.2)) xs ++ e.kill, e.val, e.wr ++ frzWr bx xs⟩
noncomputable def effK {β : Type} (E : Env) (C : FuncId → List PV → Option (List PV)) (o : Oper) (ρ : Operand → RV) (bx : BX) (K : Eff → Option β) : Option β :=
  match o.op with
  | .call { callee := .value x, args, .. } => match callF E ρ x args.toList with
    | some (v, f, rvs) => bif Nat.beq (E.real v) f then
        (bif nilL (callFrz E.sig v rvs) then callE E.sig C v rvs o.dst bx K else
          match callF E (frzAll (callFrz E.sig v rvs) ρ bx).1 x args.toList with
          | some (_, f1, rvs1) => bif Nat.beq f1 f then callE E.sig C v rvs1 o.dst (frzAll (callFrz E.sig v rvs) ρ bx).2 fun e => K (frzEff (callFrz E.sig v rvs) (frzAll (callFrz E.sig v rvs) ρ bx).2 e) else none
          | none => none)
        else none
    | none => none
  | _ => match eff E.T o ρ bx with
    | some (p, e) => chkC p (K e)
    | none => none
noncomputable def opD {β : Type} (E : Env) (C : FuncId → List PV → Option (List PV)) (o : Oper) (st : St) (K : St → List B × List B → Option β) : Option β :=
  let F := footOps st.regs o.op.operands.toList ++ (match o.dst with | some d => [.loc d] | none => [])
  bif cleanOps st.regs o.op.operands.toList then effK E C o (opnd st.regs) (restr F st.box) fun e => bif e.within F then K (st.apply o.dst e) (F, e.writes) else none
  else none
noncomputable def runOpD {β : Type} (E : Env) (C : FuncId → List PV → Option (List PV)) (ops : List Oper) (o : Oper) (st : St) (K : St → List B × List B → Option β) : Option β :=
  match o.guard with
  | none => opD E C o st K
  | some (g, want) => match guardReg ops g with
    | none => none
    | some t => match getL .un st.regs t with
      | .v false [.pv (.val (.bool b))] =>
        bif b then (bif want then opD E C o { st with regs := setL st.regs t (scal (.bool true)) } K else K (St.put { st with regs := setL st.regs t (scal (.bool true)) } o.dst (.tup [])) ([], []))
        else (bif want then K (St.put { st with regs := setL st.regs t (scal (.bool false)) } o.dst (.tup [])) ([], []) else opD E C o { st with regs := setL st.regs t (scal (.bool false)) } K)
      | .tup [] => K (st.put o.dst (.tup [])) ([], [])
      | _ => none
def disj (a b : List B) : Bool := allL (fun x => !(inF b x)) a
structure Past where
  i : Nat
  o : Oper
  f : List B × List B
  anc : List Nat
def pastAt : List Past → Nat → Option Past
  | [], _ => none
  | p :: r, i => bif Nat.beq p.i i then some p else pastAt r i
def edgesDone (past : List Past) (o : Oper) : Bool := allL (fun (e : Edge) => bif Region.binds .any e then (match pastAt past e.on with | some _ => true | none => false) else true) o.after.toList
/-- The operations that come ahead in every order. -/
def ancL (past : List Past) : List Edge → List Nat
  | [] => []
  | e :: r => bif Region.binds .any e then (match pastAt past e.on with | some p => e.on :: (p.anc ++ ancL past r) | none => ancL past r) else ancL past r
def pairOk (ops : Array Oper) (oj oi : Oper) (fj fi : List B × List B) : Bool := and (oj.apart ops oi) (and (disj fj.2 fi.1) (disj fi.2 fj.1))
def apartAll (ops : Array Oper) (o : Oper) (fi : List B × List B) (anc : List Nat) : List Past → Bool
  | [] => true
  | p :: r => and (or (anyL (fun k => Nat.beq k p.i) anc) (pairOk ops p.o o p.f fi)) (apartAll ops o fi anc r)
noncomputable def runOpsD {β : Type} (E : Env) (C : FuncId → List PV → Option (List PV)) (ops : Array Oper) : List Nat → List Past → St → (St → Option β) → Option β
  | [], _, st, K => K st
  | i :: is, past, st, K => match getL none (mapL some ops.toList) i with
    | none => none
    | some o => runOpD E C ops.toList o st fun st' f =>
      bif and (edgesDone past o) (apartAll ops o f (ancL past o.after.toList) past) then runOpsD E C ops is (past ++ [⟨i, o, f, ancL past o.after.toList⟩]) st' K else none
def rangeL : Nat → Nat → List Nat
  | _, 0 => []
  | i, n + 1 => i :: rangeL (i + 1) n
def ordOf (o : Option (List Nat)) (n : Nat) : List Nat := match o with | some l => l | none => rangeL 0 n
def nodupL : List Nat → Bool
  | [] => true
  | x :: r => and (!(anyL (fun y => Nat.beq x y) r)) (nodupL r)
def permOk (os : List Nat) (n : Nat) : Bool := and (and (Nat.ble (lenL os) n) (nodupL os)) (and (allL (fun i => Nat.blt i n) os) (allL (fun i => anyL (fun j => Nat.beq i j) os) (rangeL 0 n)))

noncomputable def exec (E : Env) (C : FuncId → List PV → Option (List PV)) (f : FuncId) (n m : Nat) : Code → (β : Type) → St → (Ex → St → Option β) → Option β
  | .skip, _, st, K => K .norm st
  | .region id ops false, _, st, K => runOps E C (E.share f id) ops.toList 0 ops.toList st (K .norm)
  | .region id ops true, _, st, K => bif permOk (ordOf (E.ord f id) (lenL ops.toList)) (lenL ops.toList) then runOpsD E C ops (ordOf (E.ord f id) (lenL ops.toList)) [] st (K .norm) else none
  | .seq x y, β, st, K => match E.join f (firstId y) with
    | none => exec E C f n m x β st fun e st' => match e with | .norm => exec E C f n m y β st' K | e => K e st'
    | some outs => bindO (exec E C f n m x (Nat × List PV) st (packOut outs 0)) fun r => dispatch n outs 0 r.1 r.2 fun e st' => match e with | .norm => exec E C f n m y β st' K | e => K e st'
  | .cond c x y, β, st, K => match valOf (opnd st.regs c) with
    | some (.bool b) => bif b then exec E C f n m x β st K else exec E C f n m y β st K
    | _ => none
  | .block id c, β, st, K => exec E C f n m c β st fun e st' => match e with | .exit i => (bif Nat.beq i id then K .norm st' else K (.exit i) st') | e => K e st'
  | .loop c, β, st, K => match E.loop f (firstId c) with
    | none => none
    | some lp => bindO (lp.head.pack st) fun vs =>
        bindO (iterN (fun rec vs => exec E C f n m c (Nat × List PV) (lp.head.inst n vs) fun e st' => match e with | .norm => bindO (lp.head.pack st') rec | e => packOut lp.outs 0 e st') m vs) fun r =>
          dispatch n lp.outs 0 r.1 r.2 K
  | .exit id, _, st, K => K (.exit id) st
  | .ret, _, st, K => K .ret st
  | _, _, _, _ => none

/-- The results: a box's cells, a register's plain cells, or a row of the call's own. -/
def plKs : List RK → Bool := allL fun k => match k with | .pl _ => true | _ => false
def resBx : List ResultVar → List (Bool × List RK) → List Tmp
  | .cell t _ :: rs, _ :: r => t :: resBx rs r
  | .tmp t :: rs, (_, ks) :: r => bif plKs ks then resBx rs r else t :: resBx rs r
  | _, _ => []
def resPack (T : TypeId → Option TI) (st : St) : List ResultVar → List (Bool × List RK) → Option (List PV)
  | [], [] => some []
  | .cell t ty :: rs, (ag, ks) :: r => match T ty, getL .un st.regs t, getL none st.lb t with
    | some ti, .v false [.ptr (.box b off)], some ls =>
      bif and (and (!(xor ag ti.agg)) (Nat.beq (lenL ks) (lenL ti.kinds))) (and (and (b.beq (.loc t)) (Nat.beq off 0)) (!(anyL (fun t' => Nat.beq t t') (resBx rs r)))) then catO (matchL ks ls) (resPack T st rs r) else none
    | _, _, _ => none
  | .tmp t :: rs, (ag, ks) :: r => bif plKs ks then
      (match getL .un st.regs t with
      | .v ag' ls => bif xor ag ag' then none else catO (matchL ks ls) (resPack T st rs r)
      | _ => none)
    else (match getL .un st.regs t, getL none st.lb t with
      | .v false [.hd b c], some [.own e sz d row] => bif and (and (!ag) (and (b.beq (.loc t)) (Nat.beq c 0))) (!(anyL (fun t' => Nat.beq t t') (resBx rs r))) then catO (matchL ks [.own e sz d row]) (resPack T st rs r) else none
      | _, _ => none)
  | _, _ => none
def resViews (st : St) : List ResultVar → List (Bool × List RK) → List (B × Nat)
  | .cell t _ :: rs, (_, ks) :: r => (match getL none st.lb t with | some ls => ownsL (.loc t) 0 ks ls ++ resViews st rs r | none => resViews st rs r)
  | .tmp t :: rs, (_, ks) :: r => (match getL .un st.regs t with | .v _ ls => viewsL ks ls ++ resViews st rs r | _ => resViews st rs r)
  | _, _ => []
def paramRegs : List (Bool × List RK) → Nat → List (Tmp × (Bool × List RK))
  | [], _ => []
  | x :: r, i => (i, x) :: paramRegs r (i + 1)
noncomputable def runFn (E : Env) (C : FuncId → List PV → Option (List PV)) (m : Nat) (f : FuncId) (fn : Func) (vs : List PV) : Option (List PV) :=
  match E.sig f, fn.body with
  | some sg, some c => bif Nat.ble (lenL sg.params) fn.ntmps then
      exec E C f fn.ntmps m c (List PV) (Tm.inst ⟨paramRegs sg.params 0, [], sg.pbox⟩ fn.ntmps vs) fun e st =>
        match e with
        | .exit _ => none
        | _ => let st1 := st.freezes (resViews st fn.results.toList sg.res ++ ownsPb 0 sg.rbox st.pb)
          catO (resPack E.T st1 fn.results.toList sg.res) (matchPb sg.rbox st1.pb)
    else none
  | _, _ => none
noncomputable def callN (E : Env) : Nat → FuncId → List PV → Option (List PV)
  | 0, _, _ => none
  | n + 1, f, vs => match E.F f with
    | some fn => runFn E (callN E n) n f fn vs
    | none => E.lib f vs
end Go.Vm

/-! ### 13. Freezing, packing: what stays of a state -/
namespace Go.Vm
set_option linter.unusedSimpArgs false
set_option linter.unusedVariables false

theorem bindO_some {α β : Type} {x : Option α} {k : α → Option β} {b : β} (h : bindO x k = some b) : ∃ a, x = some a ∧ k a = some b := by
  cases x with
  | none => cases h
  | some a => exact ⟨a, rfl, h⟩
theorem chk_some {β : Type} {p : Prop} {x : Option β} {b : β} (h : chk p x = some b) : p ∧ x = some b := by
  unfold chk at h
  split at h
  · rename_i hp; exact ⟨hp, h⟩
  · cases h
theorem chk_pos {β : Type} {p : Prop} {x : Option β} (h : p) : chk p x = x := by
  unfold chk; exact if_pos h
theorem chkC_some {β : Type} {p : Cnd} {x : Option β} {b : β} (h : chkC p x = some b) : p.holds ∧ x = some b := by
  cases p with
  | t => exact ⟨trivial, h⟩
  | p q => exact chk_some h
theorem catO_some {a b : Option (List PV)} {c : List PV} (h : catO a b = some c) : ∃ x y, a = some x ∧ b = some y ∧ c = x ++ y := by
  unfold catO at h
  split at h
  · split at h
    · cases h; exact ⟨_, _, rfl, rfl, rfl⟩
    · cases h
  · cases h

theorem fits_canon {k : LK} {p : PV} (h : k.fitsB p = true) : k.canon p = p := by
  unfold LK.fitsB at h
  split at h
  · have := kindEq_eq h; subst this; rfl
  · rfl
  · rfl
  · have := Nat.eq_of_beq_eq_true h; subst this; rfl
  · rfl
  · cases h
section
variable {G G' : Gh} {w : World}
/-- A leaf that may stand for another. -/
def Stands (G : Gh) (w : World) (l l' : Lf) : Prop := (∀ v, v.oneCell' = true → RelLf G w l v → RelLf G w l' v) ∧ (∀ b c v, RelCell G w b c l v → RelCell G w b c l' v) ∧ (l = .un → l' = .un)
theorem Stands.refl (G : Gh) (w : World) (l : Lf) : Stands G w l l := ⟨fun _ _ h => h, fun _ _ _ h => h, fun h => h⟩
theorem asPl_stands {k : LK} {l : Lf} {p : PV} (h : asPl k l = some p) : Stands G w l (.pv (k.canon p)) := by
  have nilc : ∀ (sz : Nat) (v : Value), isNil v = true → ∀ u, Rep G.S w (.val v) u → Rep G.S w (.sl sz []) u := by
    intro sz v hn u hu
    rw [(rep_val.1 hu).1, isNil_eq hn]; exact .nil _ _ _
  unfold asPl at h
  split at h
  · rename_i e sz v
    obtain ⟨hn, h⟩ := bif_some h
    cases h
    exact ⟨fun u _ hu => nilc sz v hn u hu, fun b c u hu => nilc sz v hn u hu, fun h => by cases h⟩
  · rename_i v
    obtain ⟨hn, h⟩ := bif_some h
    cases h
    have ne : ∀ u, Rep G.S w (.val v) u → Rep G.S w (.err false) u := by
      intro u hu
      rw [(rep_val.1 hu).1, isNilI_eq hn]; exact .errN
    exact ⟨fun u _ hu => ne u hu, fun b c u hu => ne u hu, fun h => by cases h⟩
  · obtain ⟨hf, h⟩ := bif_some h
    cases h
    rw [fits_canon hf]; exact Stands.refl ..
  · cases h
theorem own_nil {b : B} {c e sz : Nat} {d d' : Bool} {v : Value} (h : OwnRow G w b c e sz d [] v) : OwnRow G w b c e sz d' [] v := by
  rcases h with h | ⟨k, cap, cur, h1, h2, h3, h4, h5, h6, h7, h8, f, h9, g⟩
  · exact .inl h
  · refine .inr ⟨k, cap, cur, h1, h2, h3, h4, h5, h6, h7, h8, f, h9, ?_⟩
    cases d' with
    | false => exact fun i row j p hi => by simp at hi
    | true => exact ⟨fun _ _ => [], fun i row j p hi => (by simp at hi), fun x hx => (by rw [fpAll_nil] at hx; cases hx), by rw [fpAll_nil]; simp⟩
theorem pvAt_mid (pre a post : List PV) (j : Nat) (hj : j < a.length) : pvAt (pre ++ a ++ post) (pre.length + j) = a[j] := by
  unfold pvAt
  rw [getL_eq, List.append_assoc, List.getElem?_append_right (by omega), List.getElem?_append_left (by omega)]
  simp [hj]
theorem canonLs_fits : ∀ (ks : List LK) (ps pre post : List PV), fitsL ks ps = true → canonLs ks (pre ++ ps ++ post) pre.length = ps ∧ lenL ks = ps.length
  | [], [], pre, post, h => ⟨rfl, rfl⟩
  | [], _ :: _, _, _, h => by cases h
  | _ :: _, [], _, _, h => by cases h
  | k :: ks, p :: ps, pre, post, h => by
    simp only [fitsL, Bool.and_eq_true] at h
    have h1 := pvAt_mid pre (p :: ps) post 0 (by simp)
    rw [Nat.add_zero] at h1
    obtain ⟨h2, h3⟩ := canonLs_fits ks ps (pre ++ [p]) post h.2
    have hvs : pre ++ p :: ps ++ post = pre ++ [p] ++ ps ++ post := by simp
    have hl : (pre ++ [p]).length = pre.length + 1 := by simp
    rw [hl] at h2
    refine ⟨?_, by simp [lenL, h3]⟩
    simp only [canonLs]
    rw [h1, hvs, h2]
    show k.canon p :: ps = p :: ps
    rw [fits_canon h.1]
theorem matchCk_inst : ∀ (cks : List CK) (caps : List Cap) (a pre post : List PV), matchCk cks caps = some a → instCk cks (pre ++ a ++ post) pre.length = caps
  | [], [], a, pre, post, h => rfl
  | [], _ :: _, a, pre, post, h => by simp [matchCk] at h
  | ck :: r, [], a, pre, post, h => by cases ck <;> simp [matchCk] at h
  | ck :: r, c :: cs, a, pre, post, h => by
    unfold matchCk at h
    split at h
    · rename_i h1 h2; cases h1
    · rename_i k r' p cs' h1 h2
      cases h1; cases h2
      obtain ⟨hf, h⟩ := bif_some h
      split at h
      · rename_i a' ha
        cases h
        have h1 := pvAt_mid pre (p :: a') post 0 (by simp)
        rw [Nat.add_zero] at h1
        have ih := matchCk_inst r cs a' (pre ++ [p]) post ha
        have hvs : pre ++ p :: a' ++ post = pre ++ [p] ++ a' ++ post := by simp
        have hl : (pre ++ [p]).length = pre.length + 1 := by simp
        rw [hl] at ih
        simp only [instCk]
        rw [h1, hvs, ih]
        show Cap.pv (k.canon p) :: cs = _
        rw [fits_canon hf]
      · cases h
    · rename_i b off r' b' off' cs' h1 h2
      cases h1; cases h2
      obtain ⟨hf, h'⟩ := bif_some h
      rw [Bool.and_eq_true] at hf
      have e1 := B.beq_iff.1 hf.1
      have e2 := Nat.eq_of_beq_eq_true hf.2
      subst e1; subst e2
      simp only [instCk]
      rw [matchCk_inst r cs a pre post h']
    · rename_i ks r' ps cs' h1 h2
      cases h1; cases h2
      obtain ⟨hf, h⟩ := bif_some h
      split at h
      · rename_i a' ha
        cases h
        obtain ⟨h1, h2⟩ := canonLs_fits ks ps pre (a' ++ post) hf
        have ih := matchCk_inst r cs a' (pre ++ ps) post ha
        have hvs : pre ++ (ps ++ a') ++ post = pre ++ ps ++ (a' ++ post) := by simp
        have hvs2 : pre ++ (ps ++ a') ++ post = pre ++ ps ++ a' ++ post := by simp
        have hl : (pre ++ ps).length = pre.length + lenL ks := by simp [h2]
        rw [hl] at ih
        simp only [instCk]
        rw [hvs, h1, ← hvs, hvs2, ih]
      · cases h
    · cases h
theorem matchRK_stands {rk : RK} {l : Lf} {a : List PV} (h : matchRK rk l = some a) : ∀ p, (rk.one = true → a = [p]) → Stands G w l (instRK p rk) ∧ a.length = (bif rk.one then 1 else 0) := by
  intro p hp
  unfold matchRK at h
  split at h
  · cases h; exact ⟨⟨fun _ _ _ => trivial, fun _ _ _ h => relCell_one h, fun _ => rfl⟩, rfl⟩
  · split at h
    case h_2 => cases h
    rename_i q hq
    cases h
    obtain rfl : q = p := by have := hp rfl; cases this; rfl
    exact ⟨asPl_stands hq, rfl⟩
  · rename_i e sz d e' sz' d' r
    obtain ⟨hb, h⟩ := bif_some h
    cases h
    have := hp rfl
    cases this
    simp only [Bool.and_eq_true, Bool.or_eq_true] at hb
    obtain ⟨⟨h1, h2⟩, h3⟩ := hb
    have h1 := Nat.eq_of_beq_eq_true h1
    have h2 := Nat.eq_of_beq_eq_true h2
    subst h1; subst h2
    refine ⟨⟨fun _ _ h => h.elim, fun b c v h => ?_, fun h => by cases h⟩, rfl⟩
    rcases h3 with h3 | h3
    · have : d = d' := by cases d <;> cases d' <;> first | rfl | (cases h3)
      subst this; exact h
    · cases r with
      | nil => exact ⟨h.1, own_nil h.2⟩
      | cons _ _ => cases h3
  · rename_i b off b' off'
    obtain ⟨hb, h⟩ := bif_some h
    cases h
    rw [Bool.and_eq_true] at hb
    have h1 := B.beq_iff.1 hb.1
    have h2 := Nat.eq_of_beq_eq_true hb.2
    subst h1; subst h2
    exact ⟨Stands.refl .., rfl⟩
  · rename_i b off b' off'
    obtain ⟨hb, h⟩ := bif_some h
    cases h
    rw [Bool.and_eq_true] at hb
    have h1 := B.beq_iff.1 hb.1
    have h2 := Nat.eq_of_beq_eq_true hb.2
    subst h1; subst h2
    exact ⟨Stands.refl .., rfl⟩
  · rename_i f f'
    obtain ⟨hb, h⟩ := bif_some h
    cases h
    have h1 := Nat.eq_of_beq_eq_true hb
    subst h1
    exact ⟨Stands.refl .., rfl⟩
  · cases h
    have := hp rfl
    cases this
    exact ⟨Stands.refl .., rfl⟩
  · rename_i f cks f' caps
    obtain ⟨hb, h'⟩ := bif_some h
    clear h
    have h1 := Nat.eq_of_beq_eq_true hb
    subst h1
    split at h'
    · rename_i ps hps
      cases h'
      have := hp rfl
      cases this
      have := matchCk_inst cks caps ps [] [] hps
      simp only [List.nil_append, List.append_nil, List.length_nil] at this
      refine ⟨?_, rfl⟩
      show Stands G w _ (.fn f (instCk cks ps 0))
      rw [this]
      exact Stands.refl ..
    · cases h'
  · cases h
theorem matchRK_len {rk : RK} {l : Lf} {a : List PV} (h : matchRK rk l = some a) : a.length = (bif rk.one then 1 else 0) := by
  unfold matchRK at h
  split at h
  · cases h; rfl
  · split at h
    · cases h; rfl
    · cases h
  · obtain ⟨_, h⟩ := bif_some h; cases h; rfl
  · obtain ⟨_, h⟩ := bif_some h; cases h; rfl
  · obtain ⟨_, h⟩ := bif_some h; cases h; rfl
  · obtain ⟨_, h⟩ := bif_some h; cases h; rfl
  · cases h; rfl
  · obtain ⟨_, h⟩ := bif_some h
    split at h
    · cases h; rfl
    · cases h
  · cases h
theorem matchL_stands : ∀ (ks : List RK) (ls : List Lf) (a pre post : List PV), matchL ks ls = some a → ks.length = ls.length ∧ cntL ks pre.length = pre.length + a.length ∧ (instL ks (pre ++ a ++ post) pre.length).length = ls.length ∧
    ∀ (i : Nat) (l l' : Lf), ls[i]? = some l → (instL ks (pre ++ a ++ post) pre.length)[i]? = some l' → Stands G w l l'
  | [], [], a, pre, post, h => by cases h; exact ⟨rfl, rfl, rfl, fun i l l' hl => by simp at hl⟩
  | [], _ :: _, _, _, _, h => by cases h
  | _ :: _, [], _, _, _, h => by cases h
  | k :: ks, l :: ls, a, pre, post, h => by
    unfold matchL at h
    split at h
    case h_2 => cases h
    rename_i x hx
    split at h
    case h_2 => cases h
    rename_i y hy
    cases h
    have hlen := matchRK_len hx
    have h1 := matchRK_stands (G := G) (w := w) hx (pvAt (pre ++ (x ++ y) ++ post) pre.length) (fun ho => by
      rw [ho] at hlen
      obtain ⟨q, rfl⟩ := List.length_eq_one_iff.1 hlen
      have := pvAt_mid pre ([q] ++ y) post 0 (by simp)
      rw [Nat.add_zero] at this
      rw [this]; rfl)
    have hcnt : (bif k.one then pre.length + 1 else pre.length) = (pre ++ x).length := by
      rw [List.length_append, h1.2]; cases k.one <;> rfl
    obtain ⟨i1, i2, i3, i4⟩ := matchL_stands ks ls y (pre ++ x) post hy
    have hvs : pre ++ (x ++ y) ++ post = pre ++ x ++ y ++ post := by simp
    refine ⟨by simp [i1], by simp only [cntL]; rw [hcnt, i2]; simp; omega, ?_, fun i m m' hm hm' => ?_⟩
    · simp only [instL, List.length_cons]; rw [hcnt, hvs, i3]
    · simp only [instL] at hm'
      rw [hcnt, hvs] at hm'
      cases i with
      | zero => simp at hm hm'; subst hm; subst hm'; simpa using h1.1
      | succ i => exact i4 i m m' (by simpa using hm) (by simpa using hm')

theorem stands_c {a : Bool} {ls ls' : List Lf} {v : Value} (hl : ls'.length = ls.length) (hs : ∀ (i : Nat) (l l' : Lf), ls[i]? = some l → ls'[i]? = some l' → Stands G w l l') (h : RelC G w (a, ls) v) : RelC G w (a, ls') v := by
  cases a with
  | true =>
    obtain ⟨vs, hv, ha⟩ := h
    refine ⟨vs, hv, All2.of (hl.trans ha.length) fun i l' u hl' hu => ?_⟩
    have hlt : i < ls.length := by rw [← hl]; exact (List.getElem?_eq_some_iff.1 hl').1
    obtain ⟨u', hu', hr⟩ := ha.get (List.getElem?_eq_getElem hlt)
    rw [hu] at hu'; cases hu'
    exact ⟨(hs i _ l' (List.getElem?_eq_getElem hlt) hl').1 u hr.2 hr.1, hr.2⟩
  | false =>
    obtain ⟨l, h1, h2, h3⟩ := h
    dsimp only at h1
    subst h1
    obtain ⟨l', rfl⟩ := List.length_eq_one_iff.1 hl
    exact ⟨l', rfl, (hs 0 l l' rfl rfl).1 v h3 h2, h3⟩
theorem stands_box {b : B} {ls ls' : List Lf} (hl : ls'.length = ls.length) (hs : ∀ (i : Nat) (l l' : Lf), ls[i]? = some l → ls'[i]? = some l' → Stands G w l l') (h : RelBox G w b ls) : RelBox G w b ls' := by
  unfold RelBox at h ⊢
  have hget : ∀ (c : Nat) (l' : Lf), ls'[c]? = some l' → ∃ l, ls[c]? = some l ∧ Stands G w l l' := by
    intro c l' hc
    have hlt : c < ls.length := by rw [← hl]; exact (List.getElem?_eq_some_iff.1 hc).1
    exact ⟨_, List.getElem?_eq_getElem hlt, hs c _ l' (List.getElem?_eq_getElem hlt) hc⟩
  split at h
  · obtain ⟨h1, cs, ty, h2, h3, h4⟩ := h
    refine ⟨h1, cs, ty, h2, by omega, fun c l' hc => ?_⟩
    obtain ⟨l, e1, e2⟩ := hget c l' hc
    obtain ⟨v, hv, hr⟩ := h4 c l e1
    exact ⟨v, hv, e2.2.1 b c v hr⟩
  · intro c l' hc
    obtain ⟨l, e1, e2⟩ := hget c l' hc
    rcases h c l e1 with rfl | hr
    · exact .inl (e2.2.2 rfl)
    · exact .inr (e2.2.1 b c _ hr)
end
end Go.Vm

/-! ### 14. Freezing a row; packing a state -/
namespace Go.Vm
set_option linter.unusedSimpArgs false
set_option linter.unusedVariables false
section
variable {G : Gh} {w : World} {st : St} {a : Act}

noncomputable def Gh.frozen (G : Gh) (b : B) (c : Nat) : Gh where
  blk := G.blk
  hdr := G.hdr
  own := fun x => if G.own x = some (b, some c) then none else G.own x
  S := fun x => G.S x ∨ G.own x = some (b, some c)
theorem frozen_keep (b : B) (c : Nat) : Keep [] G w (G.frozen b c) w := ⟨fun _ h => .inl h, fun _ _ => rfl, fun _ _ _ _ => rfl, fun _ _ _ => rfl⟩
theorem frozen_other {b b' : B} {c : Nat} {o : Option Nat} {x : Nat} (h : G.own x = some (b', o)) (hne : (b', o) ≠ (b, some c)) : (G.frozen b c).own x = some (b', o) := by
  show (if _ then _ else _) = _
  rw [if_neg]
  · exact h
  · rw [h]; intro e; cases e; exact hne rfl
theorem frozen_fr (b : B) (c : Nat) : Fr G w (G.frozen b c) w := by
  refine ⟨rfl, rfl, rfl, Nat.le_refl _, fun _ _ _ => rfl, fun x _ h => ?_, fun _ h => .inl h, fun x h => ?_, fun _ => rfl⟩
  · show (if _ then _ else _) = _
    split
    · rfl
    · exact h
  · rcases h with h | h
    · exact .inl h
    · right; right; rw [h]; simp

theorem thawLf_rel {b : B} {c e sz : Nat} {d : Bool} {r : List (List PV)} (h : OwnRow G w b c e sz d r (G.hdr b c)) {l : Lf} {v : Value} (hl : RelLf G w l v) : RelLf (G.frozen b c) w (thawLf b c sz r l) v := by
  have K := frozen_keep (G := G) (w := w) b c
  have keep : RelLf (G.frozen b c) w l v := K.lf (fun x hx => by cases hx) hl
  have hrep : Rep (G.frozen b c).S w (.sl sz r) (G.hdr b c) := own_rep h
  have gen : RelLf (G.frozen b c) w (bif l.hits (b, some c) then Lf.un else l) v := by
    cases l.hits (b, some c) with
    | true => trivial
    | false => exact keep
  unfold thawLf
  split
  · rename_i b' c'
    cases hb : (b.beq b' && Nat.beq c c') with
    | false => exact keep
    | true =>
      rw [Bool.and_eq_true] at hb
      have h1 := B.beq_iff.1 hb.1
      have h2 := Nat.eq_of_beq_eq_true hb.2
      subst h1; subst h2
      show Rep _ _ _ _
      rw [hl.1.1]; exact hrep
  · rename_i b' c' n
    cases hb : (b.beq b' && Nat.beq c c') with
    | false => exact keep
    | true =>
      rw [Bool.and_eq_true] at hb
      have h1 := B.beq_iff.1 hb.1
      have h2 := Nat.eq_of_beq_eq_true hb.2
      subst h1; subst h2
      have hn := hl.1.2.1
      rw [src_len (own_src h)] at hn
      show Rep _ _ _ _
      rw [hl.1.1]
      exact own_rep (h.take hn)
  · rename_i b' c' sz' lo hi
    cases hb : (b.beq b' && Nat.beq c c') with
    | false => exact keep
    | true =>
      rw [Bool.and_eq_true] at hb
      have h1 := B.beq_iff.1 hb.1
      have h2 := Nat.eq_of_beq_eq_true hb.2
      subst h1; subst h2
      cases hz : Nat.beq sz sz' with
      | false => trivial
      | true =>
        have := Nat.eq_of_beq_eq_true hz
        subst this
        have hn := hl.1.2.2.1
        rw [src_len (own_src h)] at hn
        show Rep _ _ _ _
        rw [hl.1.1]
        exact rep_sub hrep hl.1.2.1 hn
  · exact gen
theorem thawRV_rel {b : B} {c e sz : Nat} {d : Bool} {r : List (List PV)} (h : OwnRow G w b c e sz d r (G.hdr b c)) {rv : RV} {v : Value} (hl : RelRV G w rv v) : RelRV (G.frozen b c) w (thawRV b c sz r rv) v := by
  have hc : ∀ {x : Bool × List Lf} {v : Value}, RelC G w x v → RelC (G.frozen b c) w (x.1, mapL (thawLf b c sz r) x.2) v := by
    rintro ⟨ag, ls⟩ v hx
    rw [mapL_eq]
    cases ag with
    | true =>
      obtain ⟨vs, hv, ha⟩ := hx
      refine ⟨vs, hv, ?_⟩
      clear hv
      dsimp only at ha ⊢
      induction ha with
      | nil => exact .nil
      | cons h' t ih => exact .cons ⟨thawLf_rel h h'.1, h'.2⟩ ih
    | false =>
      obtain ⟨l, h1, h2, h3⟩ := hx
      dsimp only at h1
      subst h1
      exact ⟨_, rfl, thawLf_rel h h2, h3⟩
  cases rv with
  | un => trivial
  | v ag ls => exact hc hl
  | tup cs =>
    obtain ⟨vs, hv, ha⟩ := hl
    refine ⟨vs, hv, ?_⟩
    rw [mapL_eq]
    clear hv
    induction ha with
    | nil => exact .nil
    | @cons x y l m h' t ih => exact .cons (hc h') ih

theorem freeze_rel (h : Rel G st a w) (x : B × Nat) : ∃ G', Rel G' (st.freeze x) a w ∧ Fr G w G' w := by
  obtain ⟨b, c⟩ := x
  unfold St.freeze
  cases hb : st.box b with
  | none => exact ⟨G, h, Fr.refl G w⟩
  | some ls =>
    dsimp only
    split
    case h_2 => exact ⟨G, h, Fr.refl G w⟩
    rename_i e sz d r hc
    have hl : ls[c]? = some (.own e sz d r) := by
      rw [getL_eq] at hc
      cases e1 : ls[c]? with
      | none => rw [e1] at hc; cases hc
      | some l => rw [e1] at hc; rw [← hc]; rfl
    have hbt : b ≠ .tmp := by rintro rfl; cases hb
    have hbox := h.box b ls hb
    have hrow : OwnRow G w b c e sz d r (G.hdr b c) := by
      unfold RelBox at hbox
      split at hbox
      · obtain ⟨_, cs, ty, _, _, hcell⟩ := hbox
        obtain ⟨v, _, h1, h2⟩ := hcell c _ hl
        rw [← h1]; exact h2
      · rcases hbox c _ hl with h1 | h1
        · cases h1
        · exact h1.2
    have hrep : Rep (G.frozen b c).S w (.sl sz r) (G.hdr b c) := own_rep hrow
    refine ⟨G.frozen b c, ?_, frozen_fr b c⟩
    have hregs : ∀ t, RelRV (G.frozen b c) w (getL .un (mapL (thawRV b c sz r) st.regs) t) (a.tmps.getD t undef) := by
      intro t
      have := h.regs t
      rw [getL_eq] at this
      rw [mapL_eq, getL_eq, List.getElem?_map]
      cases e1 : st.regs[t]? with
      | none => trivial
      | some rv => rw [e1] at this; exact thawRV_rel hrow this
    have hrg : ∀ (s : St) (y : B × List Lf), (s.setBox y).regs = s.regs := by
      intro s y; unfold St.setBox; split <;> rfl
    refine ⟨?_, ?_, ?_, ?_, ?_, ?_, ?_, h.defers⟩
    · rw [hrg]; show (mapL _ _).length = _; rw [mapL_eq, List.length_map]; exact h.len
    · intro t; rw [hrg]; exact hregs t
    · intro b' ls' hb'
      rcases box_setBox hb' with ⟨e1, e2⟩ | ⟨e1, e2⟩
      · dsimp only at e1 e2
        subst e1; subst e2
        have hset : ∀ (c' : Nat) (l' : Lf), (setL ls c (.pv (.sl sz r)))[c']? = some l' → (c' = c ∧ l' = .pv (.sl sz r)) ∨ (c' ≠ c ∧ ls[c']? = some l') := by
          intro c' l' h'
          rw [setL_eq, List.getElem?_set] at h'
          split at h'
          · rename_i e; subst e
            split at h'
            · cases h'; exact .inl ⟨rfl, rfl⟩
            · cases h'
          · rename_i e; exact .inr ⟨fun e' => e e'.symm, h'⟩
        have keepc : ∀ (c' : Nat) (l' : Lf) (v : Value), c' ≠ c → RelCell G w b' c' l' v → RelCell (G.frozen b' c) w b' c' l' v := fun c' l' v hne hr =>
          relCell_keep (G := G) (fun _ h => .inl h) (fun _ _ => rfl) rfl (fun x hx => ⟨frozen_other hx (by intro e; cases e; exact hne rfl), rfl⟩) hr
        refine relBox_cells hbox rfl (by rw [setL_eq]; simp) (fun k hk ho => ⟨frozen_other ho (by simp), fun cs ty hcs hsz => ⟨cs, hcs, rfl, fun c' l' hl' => ?_⟩⟩) (fun hk c' l' hl' => ?_)
        · rcases hset c' l' hl' with ⟨rfl, rfl⟩ | ⟨hne, hl2⟩
          · right
            have hb2 := hbox
            unfold RelBox at hb2
            rw [hk] at hb2
            obtain ⟨_, cs2, ty2, hcs2, _, hcc⟩ := hb2
            rw [hcs] at hcs2; cases hcs2
            obtain ⟨v, hv, hr⟩ := hcc c' _ hl
            exact ⟨v, hv, by rw [hr.1]; exact hrep⟩
          · exact .inl ⟨hl2, rfl, fun v hr => keepc c' l' v hne hr⟩
        · rcases hset c' l' hl' with ⟨rfl, rfl⟩ | ⟨hne, hl2⟩
          · right; right; exact hrep
          · have hb2 := hbox
            unfold RelBox at hb2
            rw [hk] at hb2
            rcases hb2 c' l' hl2 with h1 | h1
            · exact .inl h1
            · right; right; exact keepc c' l' _ hne h1
      · have e3 : st.box b' = some ls' := by
          rw [← e2]; cases b' <;> rfl
        exact relBox_keep (G := G) (fun _ h => .inl h) (fun _ _ => rfl) (fun _ => rfl) rfl (fun x c' hx => ⟨frozen_other hx (by intro e; cases e; exact e1 rfl), rfl⟩) (h.box b' ls' e3)
    · intro k o hk
      have : (if G.own k = some (b, some c) then none else G.own k) = some o := hk
      split at this
      · cases this
      · exact h.lt k o this
    · rintro k (hk | hk)
      · exact h.Slt k hk
      · exact h.lt k _ hk
    · rintro k (hk | hk)
      · show (if _ then _ else _) = _
        split
        · rfl
        · exact h.Sown k hk
      · exact if_pos hk
    · intro k c' hk
      have : (if G.own k = some (b, some c) then none else G.own k) = some (.tmp, c') := hk
      split at this
      · cases this
      · exact h.notmp k c' this
theorem freezes_rel : ∀ (l : List (B × Nat)) {G : Gh} {st : St}, Rel G st a w → ∃ G', Rel G' (st.freezes l) a w ∧ Fr G w G' w
  | [], G, st, h => ⟨G, h, Fr.refl G w⟩
  | x :: r, G, st, h => by
    obtain ⟨G1, h1, f1⟩ := freeze_rel h x
    obtain ⟨G2, h2, f2⟩ := freezes_rel r h1
    exact ⟨G2, h2, f1.trans f2⟩

theorem instRegs_len : ∀ (l : List (Tmp × (Bool × List RK))) (vs : List PV) (i : Nat) (rs : List RV), (instRegs l vs i rs).length = rs.length
  | [], _, _, _ => rfl
  | (t, (ag, ks)) :: r, vs, i, rs => by simp only [instRegs]; rw [instRegs_len r]; rw [setL_eq]; simp
theorem blank_get {α : Type} (x d : α) : ∀ n i, getL d (blank x n) i = x ∨ getL d (blank x n) i = d
  | 0, i => by cases i <;> exact .inr rfl
  | n + 1, 0 => .inl rfl
  | n + 1, i + 1 => blank_get x d n i
theorem blank_len {α : Type} (x : α) : ∀ n, (blank x n).length = n
  | 0 => rfl
  | n + 1 => by simp [blank, blank_len x n]
theorem matchRegs_sound {tmps : Array Value} {rs0 : List RV} (h : ∀ t, RelRV G w (getL .un rs0 t) (tmps.getD t undef)) : ∀ (l : List (Tmp × (Bool × List RK))) (x pre post : List PV) (rs : List RV), matchRegs l rs0 = some x → (∀ t, RelRV G w (getL .un rs t) (tmps.getD t undef)) →
    (∀ t, RelRV G w (getL .un (instRegs l (pre ++ x ++ post) pre.length rs) t) (tmps.getD t undef)) ∧ cntRegs l pre.length = pre.length + x.length
  | [], x, pre, post, rs, hm, hr => by cases hm; exact ⟨hr, rfl⟩
  | (t, (ag, ks)) :: r, x, pre, post, rs, hm, hr => by
    unfold matchRegs at hm
    split at hm
    case h_2 => cases hm
    rename_i a' ls hreg
    cases hx : xor ag a' with
    | true => rw [hx] at hm; cases hm
    | false =>
      rw [hx] at hm
      obtain ⟨y, z, hy, hz, rfl⟩ := catO_some hm
      have hag : ag = a' := by cases ag <;> cases a' <;> first | rfl | (cases hx)
      subst hag
      obtain ⟨m1, m2, m3, m4⟩ := matchL_stands (G := G) (w := w) ks ls y pre (z ++ post) hy
      have hrel := h t
      rw [hreg] at hrel
      have hnew : RelRV G w (.v ag (instL ks (pre ++ y ++ (z ++ post)) pre.length)) (tmps.getD t undef) := stands_c m3 m4 hrel
      have hvs : pre ++ (y ++ z) ++ post = pre ++ y ++ (z ++ post) := by simp
      have hvs2 : pre ++ (y ++ z) ++ post = (pre ++ y) ++ z ++ post := by simp
      obtain ⟨i1, i2⟩ := matchRegs_sound h r z (pre ++ y) post (setL rs t (.v ag (instL ks (pre ++ y ++ (z ++ post)) pre.length))) hz (fun t' => by
        rw [getL_setL]
        split
        · rename_i e; rw [← e.1]; exact hnew
        · exact hr t')
      have hl : (pre ++ y).length = cntL ks pre.length := by rw [m2]; simp
      refine ⟨fun t' => ?_, ?_⟩
      · have := i1 t'
        simp only [instRegs]
        rw [hvs, ← hl]
        rw [show pre ++ y ++ (z ++ post) = pre ++ y ++ z ++ post from by simp] at *
        exact this
      · simp only [cntRegs]
        rw [← hl, i2]; simp; omega
theorem matchLb_sound {bs0 : List (Option (List Lf))} (h : ∀ t ls, getL none bs0 t = some ls → RelBox G w (.loc t) ls) : ∀ (l : List (Tmp × List RK)) (x pre post : List PV) (bs : List (Option (List Lf))), matchLb l bs0 = some x → (∀ t ls, getL none bs t = some ls → RelBox G w (.loc t) ls) →
    (∀ t ls, getL none (instLb l (pre ++ x ++ post) pre.length bs) t = some ls → RelBox G w (.loc t) ls) ∧ cntLb l pre.length = pre.length + x.length
  | [], x, pre, post, bs, hm, hr => by cases hm; exact ⟨hr, rfl⟩
  | (t, ks) :: r, x, pre, post, bs, hm, hr => by
    unfold matchLb at hm
    split at hm
    case h_2 => cases hm
    rename_i ls hreg
    obtain ⟨y, z, hy, hz, rfl⟩ := catO_some hm
    obtain ⟨m1, m2, m3, m4⟩ := matchL_stands (G := G) (w := w) ks ls y pre (z ++ post) hy
    have hnew : RelBox G w (.loc t) (instL ks (pre ++ y ++ (z ++ post)) pre.length) := stands_box m3 m4 (h t ls hreg)
    have hvs : pre ++ (y ++ z) ++ post = pre ++ y ++ (z ++ post) := by simp
    obtain ⟨i1, i2⟩ := matchLb_sound h r z (pre ++ y) post (setL bs t (some (instL ks (pre ++ y ++ (z ++ post)) pre.length))) hz (fun t' ls' => by
      rw [getL_setL]
      split
      · rename_i e; rw [← e.1]; intro e2; cases e2; exact hnew
      · exact hr t' ls')
    have hl : (pre ++ y).length = cntL ks pre.length := by rw [m2]; simp
    refine ⟨fun t' ls' => ?_, ?_⟩
    · have := i1 t' ls'
      simp only [instLb]
      rw [hvs, ← hl]
      rw [show pre ++ y ++ (z ++ post) = pre ++ y ++ z ++ post from by simp] at *
      exact this
    · simp only [cntLb]
      rw [← hl, i2]; simp; omega
theorem matchPb_sound : ∀ (l : List (List RK)) (bs0 : List (Option (List Lf))) (x pre post : List PV), matchPb l bs0 = some x →
    ∀ (i : Nat) (ls' : List Lf), getL none (instPb l (pre ++ x ++ post) pre.length) i = some ls' → ∃ ls, getL none bs0 i = some ls ∧ ls'.length = ls.length ∧ ∀ (j : Nat) (m m' : Lf), ls[j]? = some m → ls'[j]? = some m' → Stands G w m m'
  | [], bs0, x, pre, post, hm, i, ls', hi => by cases i <;> cases hi
  | ks :: r, [], x, pre, post, hm, i, ls', hi => by cases hm
  | ks :: r, none :: bs0, x, pre, post, hm, i, ls', hi => by cases hm
  | ks :: r, some ls :: bs0, x, pre, post, hm, i, ls', hi => by
    unfold matchPb at hm
    obtain ⟨y, z, hy, hz, rfl⟩ := catO_some hm
    obtain ⟨m1, m2, m3, m4⟩ := matchL_stands (G := G) (w := w) ks ls y pre (z ++ post) hy
    have hvs : pre ++ (y ++ z) ++ post = pre ++ y ++ (z ++ post) := by simp
    have hl : (pre ++ y).length = cntL ks pre.length := by rw [m2]; simp
    cases i with
    | zero =>
      simp only [instPb, getL] at hi
      cases hi
      rw [hvs]
      exact ⟨ls, rfl, m3, m4⟩
    | succ i =>
      simp only [instPb, getL] at hi
      rw [← hl, hvs] at hi
      rw [show pre ++ y ++ (z ++ post) = pre ++ y ++ z ++ post from by simp] at hi
      exact matchPb_sound r bs0 z (pre ++ y) post hz i ls' hi

theorem pack_rel (h : Rel G st a w) {tm : Tm} {vs : List PV} (hp : tm.pack st = some vs) {n : Nat} (hn : a.tmps.size = n) : ∃ G', Rel G' (tm.inst n vs) a w ∧ Fr G w G' w := by
  unfold Tm.pack at hp
  obtain ⟨G1, h1, f1⟩ := freezes_rel (viewsRegs tm.regs st.regs ++ (ownsLb tm.lb st.lb ++ ownsPb 0 tm.pb st.pb)) h
  generalize st.freezes (viewsRegs tm.regs st.regs ++ (ownsLb tm.lb st.lb ++ ownsPb 0 tm.pb st.pb)) = st1 at hp h1
  obtain ⟨x, y', hx, hy', rfl⟩ := catO_some hp
  obtain ⟨y, z, hy, hz, rfl⟩ := catO_some hy'
  refine ⟨G1, ?_, f1⟩
  have ra := matchRegs_sound h1.regs tm.regs x [] (y ++ z) (blank .un n) hx (fun t => by
    rcases blank_get RV.un RV.un n t with e | e <;> (rw [e]; trivial))
  have rb := matchLb_sound (G := G1) (w := w) (bs0 := st1.lb) (fun t ls ht => h1.box (.loc t) ls ht) tm.lb y x z (blank none n) hy (fun t ls ht => by
    rcases blank_get (none : Option (List Lf)) none n t with e | e <;> (rw [e] at ht; cases ht))
  have rc := matchPb_sound (G := G1) (w := w) tm.pb st1.pb z (x ++ y) [] hz
  have e0 : cntRegs tm.regs 0 = x.length := by have := ra.2; simpa using this
  have e1 : cntLb tm.lb x.length = (x ++ y).length := by rw [rb.2]; simp
  refine ⟨?_, ?_, ?_, h1.lt, h1.Slt, h1.Sown, h1.notmp, h1.defers⟩
  · show (instRegs _ _ _ _).length = _
    rw [instRegs_len, blank_len, hn]
  · intro t
    have := ra.1 t
    simpa [Tm.inst] using this
  · intro b ls hb
    cases b with
    | tmp => cases hb
    | loc t =>
      have := rb.1 t ls
      apply this
      have hb' : getL none (instLb tm.lb (x ++ (y ++ z)) (cntRegs tm.regs 0) (blank none n)) t = some ls := hb
      rw [e0] at hb'
      simpa using hb'
    | par i =>
      have hb' : getL none (instPb tm.pb (x ++ (y ++ z)) (cntLb tm.lb (cntRegs tm.regs 0))) i = some ls := hb
      rw [e0, e1] at hb'
      obtain ⟨ls0, g1, g2, g3⟩ := rc i ls (by simpa using hb')
      exact stands_box g2 g3 (h1.box (.par i) ls0 g1)
end
end Go.Vm

/-! ### 15. Calls -/
namespace Go.Vm
set_option linter.unusedSimpArgs false
set_option linter.unusedVariables false

structure Wf (G : Gh) (w : World) : Prop where
  lt : ∀ k o, G.own k = some o → k < w.heap.size
  Slt : ∀ k, G.S k → k < w.heap.size
  Sown : ∀ k, G.S k → G.own k = none

def RetLs (G : Gh) (w : World) (ls : List Lf) (us : List Value) (c : Nat) : Prop :=
  ls.length = us.length ∧ ∀ (i : Nat) (l : Lf) (u : Value), ls[i]? = some l → us[i]? = some u → TL G w (c + i) l u ∧ u.oneCell' = true
def RetC (G : Gh) (w : World) (c : Nat) (x : Bool × List Lf) (v : Value) : Prop :=
  match x.1 with
  | true => ∃ us : List Value, v = .agg us.toArray ∧ RetLs G w x.2 us c
  | false => RetLs G w x.2 [v] c
def RetAll (G : Gh) (w : World) : List (Bool × List Lf) → Nat → List Value → Prop
  | [], _, [] => True
  | x :: r, c, v :: vs => RetC G w c x v ∧ RetAll G w r (c + x.2.length) vs
  | _, _, _ => False
def retVal : List Value → Value
  | [v] => v
  | vs => .tuple vs.toArray

def Enters (P : Program) (f : FuncId) (args : Array Value) (w : World) (R : Value → World → Prop) : Prop :=
  ((callFunc f args).run P w = .ok (.enter f args) w ∧ Calls P f args w fun e w' => ∃ v, e = .returned v ∧ R v w') ∨ ∃ v w', (callFunc f args).run P w = .ok (.value v) w' ∧ R v w'

/-- The blocks of the world in which the outermost call begins: read alone, and as they were. -/
structure Base (W0 : World) (G : Gh) (w : World) : Prop where
  S : ∀ k, k < W0.heap.size → G.S k
  heap : ∀ k, k < W0.heap.size → w.heap[k]? = W0.heap[k]?
theorem Base.fr {W0 : World} {G G' : Gh} {w w' : World} (h : Base W0 G w) (hlt : ∀ k, G.S k → k < w.heap.size) (hown : ∀ k, G.S k → G.own k = none) (f : Fr G w G' w') : Base W0 G' w' :=
  ⟨fun k hk => f.S k (h.S k hk), fun k hk => (f.blk k (hlt k (h.S k hk)) (hown k (h.S k hk))).trans (h.heap k hk)⟩
theorem Base.rel {W0 : World} {G G' : Gh} {w w' : World} {st : St} {a : Act} (h : Base W0 G w) (hr : Rel G st a w) (f : Fr G w G' w') : Base W0 G' w' := h.fr hr.Slt hr.Sown f

/-- Function f, given these plain values, gives these. -/
def Sat (P : Program) (W0 : World) (sg : Sig) (f : FuncId) (vs out : List PV) : Prop :=
  ∀ (G : Gh) (w : World) (args : List Value), Base W0 G w → All2 (RelC G w) (instRes sg.params vs 0) args → (∀ i ls, getL none (instPb sg.pbox vs (resCnt sg.params 0)) i = some ls → RelBox G w (.par i) ls) → Wf G w → (∀ k c, G.own k ≠ some (.tmp, c)) →
    Enters P f args.toArray w fun v w' => ∃ G', Fr G w G' w' ∧ (∃ us, v = retVal us ∧ RetAll G' w' (instRes sg.res out 0) 0 us) ∧ (∀ i ls, getL none (instPb sg.rbox out (resCnt sg.res 0)) i = some ls → RelBox G' w' (.par i) ls) ∧ Wf G' w'

theorem swapB_some {b : B} : ∀ {bs : List B} {i j : Nat}, swapB bs b i = some j → i ≤ j ∧ bs[j - i]? = some b
  | [], i, j, h => by simp [swapB] at h
  | b' :: r, i, j, h => by
    unfold swapB at h
    cases e : b.beq b' with
    | true =>
      simp only [e, cond_true] at h
      cases h
      have := B.beq_iff.1 e
      subst this
      exact ⟨Nat.le_refl _, by simp⟩
    | false =>
      simp only [e, cond_false] at h
      obtain ⟨h1, h2⟩ := swapB_some h
      refine ⟨by omega, ?_⟩
      obtain ⟨m, rfl⟩ : ∃ m, j = i + 1 + m := ⟨j - (i + 1), by omega⟩
      rw [show i + 1 + m - i = m + 1 from by omega]
      rw [show i + 1 + m - (i + 1) = m from by omega] at h2
      simpa using h2
theorem swapB_none {b : B} : ∀ {bs : List B} {i : Nat}, swapB bs b i = none → b ∉ bs
  | [], i, h => by simp
  | b' :: r, i, h => by
    unfold swapB at h
    cases e : b.beq b' with
    | true => rw [e] at h; cases h
    | false =>
      simp only [e, cond_false] at h
      have h1 := swapB_none h
      have h2 := B.beq_false.1 e
      intro h3
      rcases List.mem_cons.1 h3 with h4 | h4
      · exact h2 h4
      · exact h1 h4
theorem swapB_mem {b : B} {bs : List B} (h : b ∈ bs) : ∃ i, swapB bs b 0 = some i := by
  cases e : swapB bs b 0 with
  | none => exact absurd h (swapB_none e)
  | some i => exact ⟨i, rfl⟩
theorem swapB_nodup {b : B} : ∀ {bs : List B} {i j : Nat}, bs.Nodup → bs[j]? = some b → swapB bs b i = some (i + j)
  | [], i, j, _, h => by simp at h
  | b' :: r, i, j, hn, h => by
    rw [List.nodup_cons] at hn
    unfold swapB
    cases j with
    | zero => simp at h; subst h; simp [B.beq_refl]
    | succ j =>
      have h' : r[j]? = some b := by simpa using h
      have : b.beq b' = false := B.beq_false.2 fun e => hn.1 (e ▸ List.mem_of_getElem? h')
      simp only [this, cond_false]
      rw [swapB_nodup hn.2 h']
      congr 1; omega
theorem boxesOf_nodup {l : List (Nat × B)} : ∀ {n i : Nat} {bs : List B}, boxesOf l i n = some bs → bs.Nodup ∧ bs.length = n
  | 0, i, bs, h => by cases h; exact ⟨List.nodup_nil, rfl⟩
  | n + 1, i, bs, h => by
    unfold boxesOf at h
    split at h
    case h_2 => cases h
    split at h
    case h_2 => cases h
    rename_i r hr
    rename_i b _ _
    cases ha : anyL (fun b' => b.beq b') r with
    | true => rw [ha] at h; cases h
    | false =>
      rw [ha] at h
      cases h
      obtain ⟨h1, h2⟩ := boxesOf_nodup hr
      refine ⟨List.nodup_cons.2 ⟨fun hm => ?_, h1⟩, by simp [h2]⟩
      have := any_false ha b hm
      rw [B.beq_refl] at this; cases this

section
variable {G G' : Gh} {w w' : World}
/-- A box under another name. -/
theorem relBox_move {b b' : B} {ls : List Lf} (hS : ∀ x, G.S x → G'.S x) (hh : ∀ x, G.S x → w'.heap[x]? = w.heap[x]?) (hhdr : ∀ c, c < ls.length → G'.hdr b' c = G.hdr b c) (hblk : G'.blk b' = G.blk b)
    (hown : ∀ x c, G.own x = some (b, c) → G'.own x = some (b', c) ∧ w'.heap[x]? = w.heap[x]?) (h : RelBox G w b ls) : RelBox G' w' b' ls := by
  have cell : ∀ (c : Nat) (l : Lf) (v : Value), c < ls.length → RelCell G w b c l v → RelCell G' w' b' c l v := fun c l v hc h =>
    relCell_keep hS hh (hhdr c hc) (fun x hx => hown x _ hx) h
  unfold RelBox at h ⊢
  rw [hblk]
  cases e : G.blk b with
  | none =>
    rw [e] at h
    intro c l hl
    have hc := (List.getElem?_eq_some_iff.1 hl).1
    rcases h c l hl with h | h
    · exact .inl h
    · right; rw [hhdr c hc]; exact cell c l _ hc h
  | some k =>
    rw [e] at h
    obtain ⟨ho, cs, ty, hk, hs, hc⟩ := h
    refine ⟨(hown k _ ho).1, cs, ty, ((hown k _ ho).2).trans hk, hs, fun c l hl => ?_⟩
    obtain ⟨v, hv, hr⟩ := hc c l hl
    exact ⟨v, hv, cell c l v (List.getElem?_eq_some_iff.1 hl).1 hr⟩

/-- What leads to nothing that is read alone. -/
def Lf.free : Lf → Bool
  | .un => true
  | .pv (.val _) => true
  | .pv (.err _) => true
  | .own _ _ d _ => d
  | _ => false
theorem free_cell {S : Nat → Prop} {b : B} {c : Nat} {l : Lf} {v : Value} (hf : l.free = true) (h : RelCell G w b c l v) : RelCell { G with S := S } w b c l v := by
  cases l with
  | un => exact h
  | pv p =>
    cases p with
    | val u => cases h; exact .val _ (by assumption)
    | sl _ _ => cases hf
    | err b => cases h <;> first | exact .errN | exact .errS _ _
  | own e sz d r =>
    have : d = true := hf
    subst this
    exact h
  | fn _ _ => cases hf
  | hd _ _ => exact h
  | tk _ _ _ => exact h
  | vw _ _ _ _ _ => exact h
  | ptr _ => exact h
theorem free_tl {S : Nat → Prop} {c : Nat} {l : Lf} {v : Value} (hf : l.free = true) (h : TL G w c l v) : TL { G with S := S } w c l v := by
  cases l with
  | own e sz d r =>
    have : d = true := hf
    subst this
    exact h
  | un => exact h
  | pv p =>
    cases p with
    | val u => cases h; exact .val _ (by assumption)
    | sl _ _ => cases hf
    | err b => cases h <;> first | exact .errN | exact .errS _ _
  | fn _ _ => cases hf
  | hd _ _ => exact h
  | tk _ _ _ => exact h
  | vw _ _ _ _ _ => exact h
  | ptr _ => exact h
theorem free_box {S : Nat → Prop} {b : B} {ls : List Lf} (hf : ∀ l, l ∈ ls → l.free = true) (h : RelBox G w b ls) : RelBox { G with S := S } w b ls := by
  unfold RelBox at h ⊢
  show match G.blk b with | some k => _ | none => _
  split at h
  · rename_i k hk
    rw [hk]
    obtain ⟨ho, cs, ty, hk, hs, hc⟩ := h
    refine ⟨ho, cs, ty, hk, hs, fun c l hl => ?_⟩
    obtain ⟨v, hv, hr⟩ := hc c l hl
    exact ⟨v, hv, free_cell (hf l (List.mem_of_getElem? hl)) hr⟩
  · rename_i hk
    rw [hk]
    intro c l hl
    rcases h c l hl with h | h
    · exact .inl h
    · exact .inr (free_cell (hf l (List.mem_of_getElem? hl)) h)
theorem instRK_free {k : RK} (h : k.free = true) (p : PV) : (instRK p k).free = true := by
  cases k with
  | un => rfl
  | pl k =>
    have : k.free = true := h
    cases k <;> first | rfl | (cases this)
  | own e sz d => exact h
  | ptr _ _ => cases h
  | hd _ _ => cases h
  | fn _ => cases h
  | cl _ => cases h
  | fnc _ _ => cases h
theorem instL_free : ∀ (ks : List RK) (vs : List PV) (i : Nat), allL RK.free ks = true → ∀ l, l ∈ instL ks vs i → l.free = true
  | [], vs, i, _, l, hl => by cases hl
  | k :: ks, vs, i, h, l, hl => by
    simp only [allL, Bool.and_eq_true] at h
    simp only [instL, List.mem_cons] at hl
    rcases hl with rfl | hl
    · exact instRK_free h.1 _
    · exact instL_free ks vs _ h.2 l hl
theorem instRes_free : ∀ (rs : List (Bool × List RK)) (vs : List PV) (i : Nat), allL (fun x => allL RK.free x.2) rs = true → ∀ x, x ∈ instRes rs vs i → ∀ l, l ∈ x.2 → l.free = true
  | [], vs, i, _, x, hx => by cases hx
  | (a, ks) :: r, vs, i, h, x, hx => by
    simp only [allL, Bool.and_eq_true] at h
    simp only [instRes, List.mem_cons] at hx
    rcases hx with rfl | hx
    · exact instL_free ks vs i h.1
    · exact instRes_free r vs _ h.2 x hx
theorem instPb_free : ∀ (rs : List (List RK)) (vs : List PV) (i : Nat), allL (fun x => allL RK.free x) rs = true → ∀ (j : Nat) (ls : List Lf), getL none (instPb rs vs i) j = some ls → ∀ l, l ∈ ls → l.free = true
  | [], vs, i, _, j, ls, hj => by cases j <;> cases hj
  | ks :: r, vs, i, h, j, ls, hj => by
    simp only [allL, Bool.and_eq_true] at h
    cases j with
    | zero => simp only [instPb, getL] at hj; cases hj; exact instL_free ks vs i h.1
    | succ j => exact instPb_free r vs _ h.2 j ls hj
theorem free_retLs {S : Nat → Prop} {ls : List Lf} {us : List Value} {c : Nat} (hf : ∀ l, l ∈ ls → l.free = true) (h : RetLs G w ls us c) : RetLs { G with S := S } w ls us c :=
  ⟨h.1, fun i l u hl hu => ⟨free_tl (hf l (List.mem_of_getElem? hl)) (h.2 i l u hl hu).1, (h.2 i l u hl hu).2⟩⟩
theorem free_retAll {S : Nat → Prop} : ∀ {rs : List (Bool × List Lf)} {c : Nat} {us : List Value}, (∀ x, x ∈ rs → ∀ l, l ∈ x.2 → l.free = true) → RetAll G w rs c us → RetAll { G with S := S } w rs c us
  | [], _, [], _, _ => trivial
  | [], _, _ :: _, _, h => h
  | _ :: _, _, [], _, h => h
  | (true, ls) :: r, c, v :: vs, hf, ⟨⟨us, hv, h1⟩, h2⟩ => ⟨⟨us, hv, free_retLs (hf _ (List.mem_cons_self ..)) h1⟩, free_retAll (fun x hx => hf x (List.mem_cons_of_mem _ hx)) h2⟩
  | (false, ls) :: r, c, v :: vs, hf, ⟨h1, h2⟩ => ⟨free_retLs (hf _ (List.mem_cons_self ..)) h1, free_retAll (fun x hx => hf x (List.mem_cons_of_mem _ hx)) h2⟩
end
end Go.Vm

/-! ### 16. A call, seen from the caller -/
namespace Go.Vm
set_option linter.unusedSimpArgs false
set_option linter.unusedVariables false

noncomputable def calleeG (G : Gh) (bs : List B) (ln : Bool) : Gh where
  blk := fun b => match b with | .par i => (bs[i]?).bind G.blk | _ => none
  hdr := fun b c => match b with | .par i => (match bs[i]? with | some b' => G.hdr b' c | none => undef) | _ => undef
  own := fun x => match G.own x with
    | some (b, c) => (match swapB bs b 0 with | some i => some (.par i, c) | none => none)
    | none => none
  S := fun x => G.S x ∨ (ln = true ∧ ∃ b c, G.own x = some (b, c) ∧ swapB bs b 0 = none)

noncomputable def backG (G H : Gh) (w : World) (bs : List B) (ns : List (List RK)) (d : Tmp) (hd : Nat → Value) : Gh where
  blk := fun b => if b = .loc d then none else G.blk b
  hdr := fun b c => if b = .loc d then hd c else match swapB bs b 0 with
    | some i => if c < ((ns[i]?).getD []).length then H.hdr (.par i) c else G.hdr b c
    | none => G.hdr b c
  own := fun x => match H.own x with
    | some (.par i, c) => bs[i]?.map fun b => (b, c)
    | some (.tmp, c) => some (.loc d, c)
    | some (.loc _, _) => none
    | none => if x < w.heap.size then (match G.own x with | some (b, c) => if (swapB bs b 0).isSome = true ∨ b = .loc d then none else some (b, c) | none => none) else none
  S := H.S

section
variable {P : Program} {G : Gh} {w : World} {st : St} {a : Act} {bs : List B} {ln : Bool}

theorem callee_none {x : Nat} (h : G.own x = none) : (calleeG G bs ln).own x = none := by simp [calleeG, h]
theorem callee_out {x : Nat} {b : B} {c : Option Nat} (h : G.own x = some (b, c)) (hs : swapB bs b 0 = none) : (calleeG G bs ln).own x = none := by simp [calleeG, h, hs]
theorem callee_in {x i : Nat} {b : B} {c : Option Nat} (h : G.own x = some (b, c)) (hs : swapB bs b 0 = some i) : (calleeG G bs ln).own x = some (.par i, c) := by simp [calleeG, h, hs]
theorem callee_wf {m : Mini} (h : MRel G w m.look) : Wf (calleeG G bs ln) w := by
  refine ⟨fun k o hk => ?_, fun k hk => ?_, fun k hk => ?_⟩
  · cases e : G.own k with
    | none => rw [callee_none e] at hk; cases hk
    | some q => exact h.lt k q e
  · rcases hk with hk | ⟨_, b, c, hk, _⟩
    · exact h.Slt k hk
    · exact h.lt k _ hk
  · rcases hk with hk | ⟨_, b, c, hk, hs⟩
    · exact callee_none (h.Sown k hk)
    · exact callee_out hk hs
theorem callee_notmp : ∀ x c, (calleeG G bs ln).own x ≠ some (.tmp, c) := by
  intro x c h
  simp only [calleeG] at h
  split at h
  · split at h <;> cases h
  · cases h

theorem plainL_get : ∀ (ls : List Lf) (ps : List PV), plainL ls = some ps → ∀ (j : Nat) (p : PV), ps[j]? = some p → ∃ l, ls[j]? = some l ∧ (l = .pv p ∨ ∃ e sz d r, l = .own e sz d r ∧ p = .sl sz r)
  | [], ps, h, j, p, hp => by cases h; simp at hp
  | l :: ls, ps, h, j, p, hp => by
    unfold plainL at h
    split at h
    · rename_i e; cases e
    · rename_i q r e
      cases e
      split at h
      · rename_i ps' hps
        cases h
        cases j with
        | zero => simp at hp; subst hp; exact ⟨_, rfl, .inl rfl⟩
        | succ j => exact plainL_get ls ps' hps j p (by simpa using hp)
      · cases h
    · rename_i e' sz d rows r e
      cases e
      split at h
      · rename_i ps' hps
        cases h
        cases j with
        | zero => simp at hp; subst hp; exact ⟨_, rfl, .inr ⟨_, _, _, _, rfl, rfl⟩⟩
        | succ j => exact plainL_get ls ps' hps j p (by simpa using hp)
      · cases h
    · cases h
theorem argLf_rel {m : Mini} (h : MRel G w m.look) {l : Lf} {v : Value} (hl : RelLf G w l v) : RelLf (calleeG G bs ln) w (swapLf bs (bif ln then argLf m bs l else l)) v := by
  have hS : ∀ x, G.S x → (calleeG G bs ln).S x := fun x hx => .inl hx
  have view : ∀ (l : Lf) (b : B) (c : Nat), ln = true → RelLf G w l v → (∀ sz r, rowsOf m l = some (sz, r) → Rep (fun x => G.S x ∨ G.own x = some (b, some c)) w (.sl sz r) v) →
      RelLf (calleeG G bs ln) w (swapLf bs (bif anyL (fun b' => b.beq b') bs then Lf.un else match rowsOf m l with | some (sz, r) => .pv (.sl sz r) | none => .un)) v := by
    intro l b c hln hl hrep
    cases hb : anyL (fun b' => b.beq b') bs with
    | true => trivial
    | false =>
      simp only [cond_false]
      cases hr : rowsOf m l with
      | none => trivial
      | some x =>
        obtain ⟨sz, r⟩ := x
        refine Rep.move (fun x hx => ?_) (fun _ _ => rfl) (hrep sz r hr)
        rcases hx with hx | hx
        · exact .inl hx
        · refine .inr ⟨hln, b, some c, hx, ?_⟩
          cases e : swapB bs b 0 with
          | none => rfl
          | some i =>
            have := any_false hb b (List.mem_of_getElem? (swapB_some e).2)
            rw [B.beq_refl] at this; cases this
  have pplace : ∀ {b : B} {off i : Nat} {u : Value}, swapB bs b 0 = some i → RelPlace G w (.box b off) u → RelPlace (calleeG G bs ln) w (.box (.par i) off) u := by
    rintro b off i u e ⟨k, hk, hv, ht⟩
    refine ⟨k, ?_, hv, by simp⟩
    have := (swapB_some e).2
    rw [Nat.sub_zero] at this
    simp [calleeG, this, hk]
  have pcells : ∀ {ps : List PV} {u : Value}, RelPlace G w (.cells ps) u → RelPlace (calleeG G bs ln) w (.cells ps) u := by
    rintro ps u ⟨n, o, cur, ty, fr, hv, hS', hn, hc⟩
    exact ⟨n, o, cur, ty, fr, hv, hS n hS', hn, fun j p hp => by obtain ⟨u, hu, hr⟩ := hc j p hp; exact ⟨u, hu, hr.move hS fun _ _ => rfl⟩⟩
  have pcaps : ∀ (caps cs : List Cap) (vs : List Value), swapCaps bs caps = some cs → All2 (RelCap G w) caps vs → All2 (RelCap (calleeG G bs ln) w) cs vs := by
    intro caps
    induction caps with
    | nil => intro cs vs h ha; cases h; cases ha; exact .nil
    | cons c r ih =>
      intro cs vs h ha
      cases ha with
      | cons h0 ht =>
        unfold swapCaps at h
        split at h
        · rename_i e; cases e
        · rename_i b off r' e
          cases e
          split at h
          · rename_i i cs' e1 e2
            cases h
            exact .cons (pplace e1 h0) (ih cs' _ e2 ht)
          · cases h
        · cases h
        · rename_i c' r' n1 n2 e
          cases e
          split at h
          · rename_i cs' e2
            cases h
            refine .cons ?_ (ih cs' _ e2 ht)
            cases c with
            | pv p => exact Rep.move hS (fun _ _ => rfl) h0
            | ag ps => exact CapRep.move (c := .ag ps) hS (fun _ _ => rfl) h0
            | ptr q =>
              cases q with
              | box b off => exact absurd rfl (n1 b off)
              | row b c s i off => exact absurd rfl (n2 b c s i off)
              | cells ps => exact pcells h0
          · cases h
  have same : ∀ l : Lf, RelLf G w l v → (match l with | .hd _ _ => False | .tk _ _ _ => False | .vw _ _ _ _ _ => False | _ => True) → RelLf (calleeG G bs ln) w (swapLf bs l) v := by
    intro l hl hm
    cases l with
    | un => trivial
    | pv p => exact Rep.move hS (fun _ _ => rfl) hl
    | own _ _ _ _ => trivial
    | hd _ _ => exact hm.elim
    | tk _ _ _ => exact hm.elim
    | vw _ _ _ _ _ => exact hm.elim
    | ptr q =>
      cases q with
      | box b off =>
        simp only [swapLf]
        cases e : swapB bs b 0 with
        | none => trivial
        | some i => exact pplace e hl
      | cells ps => exact pcells hl
      | row _ _ _ _ _ => trivial
    | fn f caps =>
      simp only [swapLf]
      split
      · rename_i cs hcs
        obtain ⟨vs, hv, ha⟩ := hl
        exact ⟨vs, hv, pcaps caps cs vs hcs ha⟩
      · trivial
  cases ln with
  | false =>
    cases l with
    | hd _ _ => trivial
    | tk _ _ _ => trivial
    | vw _ _ _ _ _ => trivial
    | _ => exact same _ hl trivial
  | true =>
    simp only [cond_true]
    cases l with
    | hd b c =>
      refine view (.hd b c) b c rfl hl fun sz r hr => ?_
      simp only [rowsOf] at hr
      split at hr
      case h_2 => cases hr
      rename_i hc
      cases hr
      rw [hl.1.1]; exact own_rep (mrel_own h hc)
    | tk b c n =>
      refine view (.tk b c n) b c rfl hl fun sz r hr => ?_
      simp only [rowsOf] at hr
      split at hr
      case h_2 => cases hr
      rename_i hc
      cases hr
      have h3 := mrel_own h hc
      have hn := hl.1.2.1
      rw [src_len (own_src h3)] at hn
      rw [hl.1.1]; exact own_rep (h3.take hn)
    | vw b c s lo hi =>
      refine view (.vw b c s lo hi) b c rfl hl fun sz r hr => ?_
      simp only [rowsOf] at hr
      split at hr
      case h_2 => cases hr
      rename_i hc
      obtain ⟨hb, hr⟩ := bif_some hr
      cases hr
      have h3 := mrel_own h hc
      have hn := hl.1.2.2.1
      rw [src_len (own_src h3)] at hn
      have := Nat.eq_of_beq_eq_true hb
      subst this
      rw [hl.1.1]; exact rep_sub (own_rep h3) hl.1.2.1 hn
    | ptr q =>
      cases q with
      | cells ps => exact same (.ptr (.cells ps)) hl trivial
      | row b c s i off => exact same (.ptr (.row b c s i off)) hl trivial
      | box b off =>
        simp only [argLf]
        cases hb : anyL (fun b' => b.beq b') bs with
        | true => exact same (.ptr (.box b off)) hl trivial
        | false =>
          simp only [cond_false]
          have hsn : swapB bs b 0 = none := by
            cases e : swapB bs b 0 with
            | none => rfl
            | some i =>
              have := any_false hb b (List.mem_of_getElem? (swapB_some e).2)
              rw [B.beq_refl] at this; cases this
          split
          · rename_i ls hls
            split
            · rename_i ps hps
              obtain ⟨k, hk, hv, ht⟩ := hl
              have hbox := h.box b ls hls
              unfold RelBox at hbox
              rw [hk] at hbox
              obtain ⟨ho, cs, ty, hh, hsz, hc⟩ := hbox
              refine ⟨k, off, cs, ty, (0, 0), hv, .inr ⟨rfl, b, none, ho, hsn⟩, hh, fun j p hp => ?_⟩
              obtain ⟨l0, h1, h2⟩ := plainL_get (dropL off ls) ps hps j p hp
              rw [dropL_eq, List.getElem?_drop] at h1
              obtain ⟨u, hu, hr⟩ := hc (off + j) l0 h1
              refine ⟨u, hu, ?_⟩
              rcases h2 with rfl | ⟨e, sz, d, r, rfl, rfl⟩
              · exact Rep.move hS (fun _ _ => rfl) hr
              · refine Rep.move (fun x hx => ?_) (fun _ _ => rfl) (own_rep hr.2)
                rcases hx with hx | hx
                · exact .inl hx
                · exact .inr ⟨rfl, b, _, hx, hsn⟩
            · trivial
          · trivial
    | _ => exact same _ hl trivial

theorem argRV_rel {m : Mini} (h : MRel G w m.look) {rv : RV} {v : Value} (hr : RelRV G w rv v) : RelRV (calleeG G bs ln) w (argRV ln m bs rv) v := by
  cases rv with
  | un => trivial
  | tup _ => trivial
  | v ag ls =>
    show RelC _ _ (ag, mapL _ ls) v
    rw [mapL_eq]
    cases ag with
    | true =>
      obtain ⟨vs, hv, ha⟩ := hr
      refine ⟨vs, hv, ?_⟩
      clear hv
      dsimp only at ha ⊢
      induction ha with
      | nil => exact .nil
      | cons h' t ih => exact .cons ⟨argLf_rel h h'.1, h'.2⟩ ih
    | false =>
      obtain ⟨l, h1, h2, h3⟩ := hr
      dsimp only at h1
      subst h1
      exact ⟨_, rfl, argLf_rel h h2, h3⟩
theorem matchArgs_sound : ∀ (ps : List (Bool × List RK)) (rvs : List RV) (vals : List Value) (x pre post : List PV), matchArgs ps rvs = some x → All2 (RelRV G w) rvs vals → All2 (RelC G w) (instRes ps (pre ++ x ++ post) pre.length) vals ∧ resCnt ps pre.length = pre.length + x.length
  | [], [], vals, x, pre, post, hm, ha => by cases hm; cases ha; exact ⟨.nil, rfl⟩
  | [], _ :: _, vals, x, pre, post, hm, ha => by cases hm
  | (ag, ks) :: r, [], vals, x, pre, post, hm, ha => by cases hm
  | (ag, ks) :: r, .un :: rvs, vals, x, pre, post, hm, ha => by cases hm
  | (ag, ks) :: r, .tup _ :: rvs, vals, x, pre, post, hm, ha => by cases hm
  | (ag, ks) :: r, .v a' ls :: rvs, vals, x, pre, post, hm, ha => by
    unfold matchArgs at hm
    cases hx : xor ag a' with
    | true => rw [hx] at hm; cases hm
    | false =>
      rw [hx] at hm
      obtain ⟨y, z, hy, hz, rfl⟩ := catO_some hm
      have hag : ag = a' := by cases ag <;> cases a' <;> first | rfl | (cases hx)
      subst hag
      cases ha with
      | @cons _ v0 _ vals0 h0 ht =>
      obtain ⟨m1, m2, m3, m4⟩ := matchL_stands (G := G) (w := w) ks ls y pre (z ++ post) hy
      have hl : (pre ++ y).length = cntL ks pre.length := by rw [m2]; simp
      obtain ⟨i1, i2⟩ := matchArgs_sound r rvs vals0 z (pre ++ y) post hz ht
      have hvs : pre ++ (y ++ z) ++ post = pre ++ y ++ (z ++ post) := by simp
      refine ⟨?_, ?_⟩
      · simp only [instRes]
        refine .cons ?_ ?_
        · rw [hvs]; exact stands_c m3 m4 h0
        · rw [← hl]
          rw [show pre ++ (y ++ z) ++ post = pre ++ y ++ z ++ post from by simp]
          exact i1
      · simp only [resCnt]
        rw [← hl, i2]; simp; omega
theorem boxLs_get {bx : BX} : ∀ {bs : List B} {ls : List (Option (List Lf))}, boxLs bx bs = some ls → ls.length = bs.length ∧ ∀ (i : Nat) (l : List Lf), getL none ls i = some l → ∃ b, bs[i]? = some b ∧ bx b = some l
  | [], ls, h => by cases h; exact ⟨rfl, fun i l hi => by cases i <;> cases hi⟩
  | b :: r, ls, h => by
    unfold boxLs at h
    split at h
    case h_2 => cases h
    rename_i l0 hl0
    split at h
    case h_2 => cases h
    rename_i x hx
    cases h
    obtain ⟨h1, h2⟩ := boxLs_get hx
    refine ⟨by simp [h1], fun i l hi => ?_⟩
    cases i with
    | zero => simp only [getL] at hi; cases hi; exact ⟨b, rfl, hl0⟩
    | succ i => exact h2 i l hi
theorem callee_box (hn : bs.Nodup) {i : Nat} {b : B} (hi : bs[i]? = some b) {ls : List Lf} (h : RelBox G w b ls) : RelBox (calleeG G bs ln) w (.par i) ls := by
  have hs : swapB bs b 0 = some i := by have := swapB_nodup (i := 0) hn hi; rwa [Nat.zero_add] at this
  refine relBox_move (fun x hx => .inl hx) (fun _ _ => rfl) (fun c _ => ?_) ?_ (fun x c hx => ⟨callee_in hx hs, rfl⟩) h
  · simp [calleeG, hi]
  · simp [calleeG, hi]

section
variable {H : Gh} {w' : World} {ns : List (List RK)} {d : Tmp} {hd : Nat → Value}
theorem back_par {x i : Nat} {b : B} {c : Option Nat} (h : H.own x = some (.par i, c)) (hi : bs[i]? = some b) : (backG G H w bs ns d hd).own x = some (b, c) := by simp [backG, h, hi]
theorem back_tmp {x : Nat} {c : Option Nat} (h : H.own x = some (.tmp, c)) : (backG G H w bs ns d hd).own x = some (.loc d, c) := by simp [backG, h]
theorem back_other {x : Nat} {b : B} {c : Option Nat} (h : H.own x = none) (hx : x < w.heap.size) (ho : G.own x = some (b, c)) (hs : swapB bs b 0 = none) (hb : b ≠ .loc d) : (backG G H w bs ns d hd).own x = some (b, c) := by
  simp [backG, h, hx, ho, hs, hb]
theorem back_none {x : Nat} (h : H.own x = none) (ho : x < w.heap.size → G.own x = none ∨ ∃ b c, G.own x = some (b, c) ∧ (swapB bs b 0).isSome = true) : (backG G H w bs ns d hd).own x = none := by
  simp only [backG, h]
  split
  · rename_i hx
    rcases ho hx with e | ⟨b, c, e, hs⟩
    · rw [e]
    · rw [e]; simp [hs]
  · rfl
/-- The results' leaves, as the caller holds them. -/
theorem back_leaf {c : Nat} {l : Lf} {u : Value} (hu : hd c = u) (ho : u.oneCell' = true) (h : TL H w' c l u) : RelLf (backG G H w bs ns d hd) w' (hdLf (.loc d) c l) u ∧ (ownLf l = .un ∨ RelCell (backG G H w bs ns d hd) w' (.loc d) c (ownLf l) u) := by
  have hh : (backG G H w bs ns d hd).hdr (.loc d) c = u := by simp [backG, hu]
  cases l with
  | own e sz dp r =>
    refine ⟨⟨⟨hh.symm, by simp⟩, ho⟩, .inr ⟨hh.symm, ?_⟩⟩
    exact OwnRow.ren (G' := backG G H w bs ns d hd) h (fun _ h => h) (fun _ _ => rfl) fun x hx => ⟨back_tmp hx, rfl⟩
  | un => exact ⟨trivial, .inl rfl⟩
  | pv p => exact ⟨h, .inl rfl⟩
  | fn f caps =>
    obtain ⟨vs, hv, ha⟩ := h
    exact ⟨⟨vs, hv, ha.imp fun c _ u hu => CapRep.cap (G := backG G H w bs ns d hd) hu⟩, .inl rfl⟩
  | hd _ _ => exact h.elim
  | tk _ _ _ => exact h.elim
  | vw _ _ _ _ _ => exact h.elim
  | ptr _ => exact h.elim
theorem hdL_get (b : B) : ∀ (ls : List Lf) (c : Nat), (hdL b c ls).length = ls.length ∧ ∀ i, (hdL b c ls)[i]? = (ls[i]?).map (hdLf b (c + i))
  | [], c => ⟨rfl, fun i => by simp [hdL]⟩
  | l :: r, c => by
    obtain ⟨h1, h2⟩ := hdL_get b r (c + 1)
    refine ⟨by simp [hdL, h1], fun i => ?_⟩
    cases i with
    | zero => simp [hdL]
    | succ i => simp only [hdL, List.getElem?_cons_succ, h2]; rw [show c + 1 + i = c + (i + 1) from by omega]
theorem back_ls {ls : List Lf} {us : List Value} {c : Nat} (hh : ∀ (j : Nat) (u : Value), us[j]? = some u → hd (c + j) = u) (h : RetLs H w' ls us c) :
    All2 (fun l u => RelLf (backG G H w bs ns d hd) w' l u ∧ u.oneCell' = true) (hdL (.loc d) c ls) us ∧ ∀ (j : Nat) (l : Lf), (mapL ownLf ls)[j]? = some l → l = .un ∨ RelCell (backG G H w bs ns d hd) w' (.loc d) (c + j) l (hd (c + j)) := by
  obtain ⟨h1, h2⟩ := hdL_get (.loc d) ls c
  refine ⟨All2.of (h1.trans h.1) fun i l u hl hu => ?_, fun j l hl => ?_⟩
  · rw [h2] at hl
    cases e : ls[i]? with
    | none => rw [e] at hl; cases hl
    | some l0 =>
      rw [e] at hl; cases hl
      obtain ⟨g1, g2⟩ := h.2 i l0 u e hu
      exact ⟨(back_leaf (hh i u hu) g2 g1).1, g2⟩
  · rw [mapL_eq, List.getElem?_map] at hl
    cases e : ls[j]? with
    | none => rw [e] at hl; cases hl
    | some l0 =>
      rw [e] at hl; cases hl
      have hlt : j < us.length := by rw [← h.1]; exact (List.getElem?_eq_some_iff.1 e).1
      have hu := List.getElem?_eq_getElem hlt
      obtain ⟨g1, g2⟩ := h.2 j l0 _ e hu
      have := hh j _ hu
      rw [this]; exact (back_leaf (hh j _ hu) g2 g1).2
theorem back_res : ∀ (rs : List (Bool × List Lf)) (us : List Value) (c : Nat), (∀ (j : Nat) (u : Value), (us.flatMap fun v => v.cells.toList)[j]? = some u → hd (c + j) = u) → RetAll H w' rs c us →
    All2 (RelC (backG G H w bs ns d hd) w') (hdRes (.loc d) c rs) us ∧ ∀ (j : Nat) (l : Lf), (flatRes rs)[j]? = some l → l = .un ∨ RelCell (backG G H w bs ns d hd) w' (.loc d) (c + j) l (hd (c + j))
  | [], [], c, hh, h => ⟨.nil, fun j l hl => by simp [flatRes] at hl⟩
  | [], _ :: _, c, hh, h => h.elim
  | _ :: _, [], c, hh, h => h.elim
  | (ag, ls) :: r, v :: vs, c, hh, h => by
    obtain ⟨h1, h2⟩ := h
    have key : ∃ us0 : List Value, v.cells.toList = us0 ∧ RetLs H w' ls us0 c ∧ (∀ ls', All2 (fun l u => RelLf (backG G H w bs ns d hd) w' l u ∧ u.oneCell' = true) ls' us0 → RelC (backG G H w bs ns d hd) w' (ag, ls') v) := by
      cases ag with
      | true =>
        obtain ⟨us0, hv, h3⟩ := h1
        exact ⟨us0, by rw [hv]; simp [Value.cells], h3, fun ls' ha => ⟨us0, hv, ha⟩⟩
      | false =>
        have h3 : RetLs H w' ls [v] c := h1
        have hlen : ls.length = 1 := h3.1
        obtain ⟨l0, rfl⟩ := List.length_eq_one_iff.1 hlen
        have ho := (h3.2 0 l0 v rfl rfl).2
        have hcells : v.cells.toList = [v] := by cases v <;> first | rfl | (cases ho)
        refine ⟨[v], hcells, h3, fun ls' ha => ?_⟩
        cases ha with
        | cons hx ht => cases ht; exact ⟨_, rfl, hx⟩
    obtain ⟨us0, hc, h3, h4⟩ := key
    have hflat : ((v :: vs).flatMap fun v => v.cells.toList) = us0 ++ vs.flatMap fun v => v.cells.toList := by rw [List.flatMap_cons, hc]
    have hl := back_ls (G := G) (w := w) (bs := bs) (ns := ns) (d := d) (hd := hd) (fun j u hu => hh j u (by rw [hflat, List.getElem?_append_left (List.getElem?_eq_some_iff.1 hu).1]; exact hu)) h3
    have ih := back_res r vs (c + ls.length) (fun j u hu => by
      have := hh (ls.length + j) u (by rw [hflat, h3.1, List.getElem?_append_right (by omega), Nat.add_sub_cancel_left]; exact hu)
      rw [← this]; congr 1; omega) h2
    refine ⟨?_, fun j l hj => ?_⟩
    · simp only [hdRes]
      refine .cons (h4 _ hl.1) ?_
      rw [lenL_eq]; exact ih.1
    · simp only [flatRes] at hj
      have hml : (mapL ownLf ls).length = ls.length := by rw [mapL_eq]; simp
      by_cases hlt : j < ls.length
      · rw [List.getElem?_append_left (by omega)] at hj
        exact hl.2 j l hj
      · rw [List.getElem?_append_right (by omega), hml] at hj
        have := ih.2 (j - ls.length) l hj
        rw [show c + ls.length + (j - ls.length) = c + j from by omega] at this
        exact this
end
end
end Go.Vm

/-! ### 17. A call's effect -/
namespace Go.Vm
set_option linter.unusedSimpArgs false
set_option linter.unusedVariables false
section
variable {P : Program} {W0 : World} {G : Gh} {w : World} {st : St} {a : Act}

theorem packRes_rel {w' : World} {rs : List (Bool × List Lf)} {us : List Value} (h : All2 (RelC G w') rs us) : RelRV G w' (packRes rs) (retVal us) := by
  unfold packRes
  split
  · rename_i ag ls
    cases h with
    | cons h t => cases t; exact h
  · rename_i hne
    have : retVal us = .tuple us.toArray := by
      unfold retVal
      split
      · rename_i v
        cases h with
        | @cons x _ l _ h t =>
          cases t
          obtain ⟨ag, ls⟩ := x
          exact absurd rfl (hne ag ls)
      · rfl
    exact ⟨us, this, h⟩
theorem findB_wr {bs : List B} : ∀ {ls : List (Option (List Lf))} {b : B} {l : List Lf}, findB (wrOf bs ls) b = some l → ∃ i, bs[i]? = some b ∧ getL none ls i = some l := by
  induction bs with
  | nil => intro ls b l h; cases ls <;> cases h
  | cons b0 r ih =>
    intro ls b l h
    cases ls with
    | nil => cases h
    | cons x ls =>
      cases x with
      | none => cases h
      | some l0 =>
        simp only [wrOf, findB] at h
        cases e : b.beq b0 with
        | true => rw [e] at h; cases h; exact ⟨0, by rw [B.beq_iff.1 e]; rfl, rfl⟩
        | false =>
          rw [e] at h
          obtain ⟨i, h1, h2⟩ := ih h
          exact ⟨i + 1, by simpa using h1, h2⟩
theorem findB_wr_none {bs : List B} : ∀ {ls : List (Option (List Lf))} {b : B}, (∀ i, i < bs.length → ∃ l, getL none ls i = some l) → findB (wrOf bs ls) b = none → b ∉ bs := by
  induction bs with
  | nil => intro ls b _ _; simp
  | cons b0 r ih =>
    intro ls b hl h
    cases ls with
    | nil => obtain ⟨l, hl⟩ := hl 0 (by simp); cases hl
    | cons x ls =>
      obtain ⟨l0, hl0⟩ := hl 0 (by simp)
      simp only [getL] at hl0
      subst hl0
      simp only [wrOf, findB] at h
      cases e : b.beq b0 with
      | true => rw [e] at h; cases h
      | false =>
        rw [e] at h
        have := ih (fun i hi => hl (i + 1) (by simpa using hi)) h
        have h2 := B.beq_false.1 e
        intro h3
        rcases List.mem_cons.1 h3 with h4 | h4
        · exact h2 h4
        · exact this h4
theorem mem_killsOf : ∀ {bs : List B} {ks : List (List RK)} {i c : Nat} {b : B}, bs[i]? = some b → c < ((ks[i]?).getD []).length → (b, some c) ∈ killsOf bs ks
  | [], ks, i, c, b, h, _ => by simp at h
  | b0 :: bs, [], i, c, b, h, hc => by simp at hc
  | b0 :: bs, k :: ks, 0, c, b, h, hc => by
    simp at h hc
    subst h
    exact List.mem_append_left _ (mem_cellKills _ _ _ (Nat.zero_le _) (by rw [lenL_eq]; omega))
  | b0 :: bs, k :: ks, i + 1, c, b, h, hc => List.mem_append_right _ (mem_killsOf (by simpa using h) (by simpa using hc))
theorem instL_len : ∀ (ks : List RK) (vs : List PV) (i : Nat), (instL ks vs i).length = ks.length
  | [], _, _ => rfl
  | k :: ks, vs, i => by simp [instL, instL_len ks]
theorem instPb_get : ∀ (rs : List (List RK)) (vs : List PV) (i j : Nat), j < rs.length → ∃ l, getL none (instPb rs vs i) j = some l ∧ l.length = ((rs[j]?).getD []).length
  | [], vs, i, j, h => by simp at h
  | ks :: r, vs, i, 0, h => ⟨_, rfl, by simp [instL_len]⟩
  | ks :: r, vs, i, j + 1, h => by
    obtain ⟨l, h1, h2⟩ := instPb_get r vs (cntL ks i) j (by simpa using h)
    exact ⟨l, h1, by simpa using h2⟩
theorem sameLens_get : ∀ {x y : List (List RK)}, sameLens x y = true → x.length = y.length ∧ ∀ i : Nat, ((x[i]?).getD []).length = ((y[i]?).getD []).length
  | [], [], _ => ⟨rfl, fun i => by simp⟩
  | [], _ :: _, h => by cases h
  | _ :: _, [], h => by cases h
  | a :: x, b :: y, h => by
    unfold sameLens at h
    rw [Bool.and_eq_true] at h
    have h1 := Nat.eq_of_beq_eq_true h.1
    rw [lenL_eq, lenL_eq] at h1
    obtain ⟨h2, h3⟩ := sameLens_get h.2
    refine ⟨by simp [h2], fun i => ?_⟩
    cases i with
    | zero => simpa using h1
    | succ i => simpa using h3 i

/-- What a call that is told by Sat does for its caller. -/
theorem call_back (hB : Base W0 G w) (h : Rel G st a w) {sg : Sig} {bs : List B} {d : Tmp} {vs out : List PV} {f : FuncId} {args : List Value} (hn : bs.Nodup) (hbl : bs.length = sg.pbox.length) (hd : ∀ b, b ∈ bs → b ≠ .loc d) (ht : ∀ b, b ∈ bs → b ≠ .tmp) (hsl : sameLens sg.pbox sg.rbox = true)
    (hs : Sat P W0 sg f vs out) (ha : All2 (RelC (calleeG G bs sg.lends) w) (instRes sg.params vs 0) args)
    (hb : ∀ i ls, getL none (instPb sg.pbox vs (resCnt sg.params 0)) i = some ls → RelBox (calleeG G bs sg.lends) w (.par i) ls) :
    Enters P f args.toArray w fun v w' => ∃ G', Fr G w G' w' ∧ Rel G' (st.apply (some d) (callEff sg bs d out)) (a.put (some d) v) w' := by
  have key : ∀ v w', (∃ G', Fr (calleeG G bs sg.lends) w G' w' ∧ (∃ us, v = retVal us ∧ RetAll G' w' (instRes sg.res out 0) 0 us) ∧ (∀ i ls, getL none (instPb sg.rbox out (resCnt sg.res 0)) i = some ls → RelBox G' w' (.par i) ls) ∧ Wf G' w') →
      ∃ G', Fr G w G' w' ∧ Rel G' (st.apply (some d) (callEff sg bs d out)) (a.put (some d) v) w' := by
    rintro v w' ⟨H0, F, ⟨us, rfl, hret0⟩, hbox0, hwf0⟩
    -- what is read alone afterwards
    obtain ⟨H, hHown, hHblk, hHhdr, hret, hbox, s1, s2, s3, s4⟩ : ∃ H : Gh, H.own = H0.own ∧ H.blk = H0.blk ∧ H.hdr = H0.hdr ∧ RetAll H w' (instRes sg.res out 0) 0 us ∧ (∀ i ls, getL none (instPb sg.rbox out (resCnt sg.res 0)) i = some ls → RelBox H w' (.par i) ls) ∧
        (∀ x, G.S x → H.S x) ∧ (∀ x, H.S x → x < w'.heap.size) ∧ (∀ x, H.S x → H0.own x = none) ∧ (∀ x, H.S x → G.S x ∨ w.heap.size ≤ x ∨ (calleeG G bs sg.lends).own x ≠ none) := by
      cases hl : sg.lends with
      | true =>
        have hfr := hl
        unfold Sig.lends at hfr
        rw [Bool.and_eq_true] at hfr
        refine ⟨{ H0 with S := G.S }, rfl, rfl, rfl, free_retAll (instRes_free _ _ _ hfr.1) hret0, fun i ls hi => free_box (instPb_free _ _ _ hfr.2 i ls hi) (hbox0 i ls hi), fun _ h => h, fun x hx => Nat.lt_of_lt_of_le (h.Slt x hx) F.size, fun x hx => F.own x (h.Slt x hx) (callee_none (h.Sown x hx)), fun x hx => .inl hx⟩
      | false =>
        refine ⟨H0, rfl, rfl, rfl, hret0, hbox0, fun x hx => F.S x (.inl hx), hwf0.Slt, hwf0.Sown, fun x hx => ?_⟩
        rcases F.S' x hx with h1 | h1 | h1
        · rcases h1 with h1 | ⟨h1, _⟩
          · exact .inl h1
          · rw [hl] at h1; cases h1
        · exact .inr (.inl h1)
        · rw [hl] at h1; exact .inr (.inr h1)
    let hdv : Nat → Value := fun j => (us.flatMap fun v => v.cells.toList).getD j undef
    obtain ⟨r1, r2⟩ := back_res (G := G) (H := H) (w := w) (w' := w') (bs := bs) (ns := sg.pbox) (d := d) (hd := hdv) (instRes sg.res out 0) us 0 (fun j u hu => by
      show List.getD _ _ _ = _
      rw [Nat.zero_add, List.getD_eq_getElem?_getD, hu]; rfl) hret
    have hsw : ∀ i b, bs[i]? = some b → swapB bs b 0 = some i := fun i b hi => by have := swapB_nodup (i := 0) hn hi; rwa [Nat.zero_add] at this
    have hown1 : ∀ x b c, G.own x = some (b, c) → swapB bs b 0 = none → H.own x = none ∧ w'.heap[x]? = w.heap[x]? ∧ x < w.heap.size := by
      intro x b c hx hsn
      have hlt := h.lt x _ hx
      have hc := callee_out (ln := sg.lends) hx hsn
      exact ⟨by rw [hHown]; exact F.own x hlt hc, F.blk x hlt hc, hlt⟩
    have hS1 : ∀ x, G.S x → w'.heap[x]? = w.heap[x]? := fun x hx => F.blk x (h.Slt x hx) (callee_none (h.Sown x hx))
    have hnone : ∀ x, x < w.heap.size → G.own x = none → (backG G H w bs sg.pbox d hdv).own x = none := fun x hx h0 =>
      back_none (by rw [hHown]; exact F.own x hx (callee_none h0)) fun _ => .inl h0
    refine ⟨backG G H w bs sg.pbox d hdv, ⟨F.os, F.tape, F.output, F.size, fun x hx h0 => F.blk x hx (callee_none h0), hnone, s1, fun x hx => ?_, fun i => (by simp [backG])⟩, ?_⟩
    · rcases s4 x hx with h1 | h1 | h1
      · exact .inl h1
      · exact .inr (.inl h1)
      · right; right; intro h0; exact h1 (callee_none h0)
    refine h.done (some d) (callEff sg bs d out) ⟨s1, hS1, fun b c hbt hk => ?_, fun b hbt hk => ?_⟩ (packRes_rel r1) ⟨?_, ?_, ?_, s2, ?_⟩ ?_
    · have hbd : b ≠ .loc d := by
        rintro rfl
        have := hk (.loc d, none) (List.mem_cons_self ..)
        simp [B.hit, B.beq_refl] at this
      show (if _ then _ else _) = _
      rw [if_neg hbd]
      cases e : swapB bs b 0 with
      | none => rfl
      | some i =>
        dsimp only
        rw [if_neg]
        intro hc
        have hi := (swapB_some e).2
        rw [Nat.sub_zero] at hi
        have := hk (b, some c) (List.mem_cons_of_mem _ (mem_killsOf hi hc))
        simp [B.hit, B.beq_refl] at this
    · have hbd : b ≠ .loc d := by
        rintro rfl
        exact hk (.loc d, none) (List.mem_cons_self ..) ⟨rfl, rfl⟩
      exact if_neg hbd
    · -- tmp
      show Mini.look _ _ = none
      unfold Mini.look
      cases e : findB (callEff sg bs d out).wr B.tmp with
      | none => rfl
      | some l =>
        exfalso
        simp only [callEff, findB] at e
        have : B.tmp.beq (.loc d) = false := rfl
        rw [this] at e
        obtain ⟨i, hi, _⟩ := findB_wr e
        exact ht _ (List.mem_of_getElem? hi) rfl
    · -- boxes
      intro b ls hlook
      unfold Mini.look at hlook
      cases e : findB (callEff sg bs d out).wr b with
      | some l =>
        rw [e] at hlook
        cases hlook
        simp only [callEff, findB] at e
        cases ebd : b.beq (.loc d) with
        | true =>
          rw [ebd] at e
          cases e
          have := B.beq_iff.1 ebd
          subst this
          unfold RelBox
          have e1 : (backG G H w bs sg.pbox d hdv).blk (.loc d) = none := if_pos rfl
          rw [e1]
          intro c l hl
          rcases r2 c l hl with h1 | h1
          · exact .inl h1
          · right
            have e2 : (backG G H w bs sg.pbox d hdv).hdr (.loc d) c = hdv c := if_pos rfl
            rw [e2]; rw [Nat.zero_add] at h1; exact h1
        | false =>
          rw [ebd] at e
          obtain ⟨i, hi, hl⟩ := findB_wr e
          have hbd := B.beq_false.1 ebd
          have hilt : i < bs.length := (List.getElem?_eq_some_iff.1 hi).1
          obtain ⟨g1, g2⟩ := sameLens_get hsl
          obtain ⟨l', hl', hlen⟩ := instPb_get sg.rbox out (resCnt sg.res 0) i (by omega)
          rw [hl] at hl'
          cases hl'
          refine relBox_move (G := H) (b := .par i) (fun _ h => h) (fun _ _ => rfl) (fun c hc => ?_) ?_ (fun x c hx => ⟨back_par hx hi, rfl⟩) (hbox i _ hl)
          · show (if _ then _ else _) = _
            rw [if_neg hbd, hsw i b hi]
            dsimp only
            rw [if_pos (by rw [g2 i]; omega)]
          · show (if _ then _ else _) = _
            rw [if_neg hbd, hHblk, F.par i]
            simp [calleeG, hi]
      | none =>
        rw [e] at hlook
        simp only [callEff, findB] at e
        cases ebd : b.beq (.loc d) with
        | true => rw [ebd] at e; cases e
        | false =>
          rw [ebd] at e
          have hbd := B.beq_false.1 ebd
          have hnb := findB_wr_none (fun i hi => by
            obtain ⟨g1, g2⟩ := sameLens_get hsl
            obtain ⟨l', hl', _⟩ := instPb_get sg.rbox out (resCnt sg.res 0) i (by omega)
            exact ⟨l', hl'⟩) e
          have hsn : swapB bs b 0 = none := by
            cases e3 : swapB bs b 0 with
            | none => rfl
            | some i => exact absurd (List.mem_of_getElem? (swapB_some e3).2) hnb
          refine relBox_keep (G := G) s1 hS1 (fun c => ?_) (if_neg hbd) (fun x c hx => ?_) (h.box b ls hlook)
          · show (if _ then _ else _) = _
            rw [if_neg hbd, hsn]
          · obtain ⟨g1, g2, g3⟩ := hown1 x b c hx hsn
            exact ⟨back_other g1 g3 hx hsn hbd, g2⟩
    · intro x q hx
      cases e : H.own x with
      | some q' => exact hwf0.lt x q' (by rw [← hHown]; exact e)
      | none =>
        simp only [backG, e] at hx
        split at hx
        · have := F.size; omega
        · cases hx
    · intro x hx
      refine back_none (by rw [hHown]; exact s3 x hx) fun hlt => ?_
      cases e : G.own x with
      | none => exact .inl rfl
      | some q =>
        obtain ⟨b, c⟩ := q
        right
        refine ⟨b, c, rfl, ?_⟩
        cases e2 : swapB bs b 0 with
        | some i => rfl
        | none =>
          exfalso
          rcases s4 x hx with h1 | h1 | h1
          · rw [h.Sown x h1] at e; cases e
          · omega
          · exact h1 (callee_out e e2)
    · intro x c hx
      simp only [backG] at hx
      split at hx
      · rename_i i c' e
        cases e2 : bs[i]? with
        | none => rw [e2] at hx; cases hx
        | some b => rw [e2] at hx; cases hx; exact ht _ (List.mem_of_getElem? e2) rfl
      · cases hx
      · cases hx
      · split at hx
        · split at hx
          · split at hx
            · cases hx
            · rename_i e _; cases hx; exact h.notmp x _ e
          · cases hx
        · cases hx
  have := hs (calleeG G bs sg.lends) w args ⟨fun k hk => .inl (hB.S k hk), hB.heap⟩ ha hb (callee_wf (m := ⟨st.box, []⟩) h.m) callee_notmp
  rcases this with ⟨h1, h2⟩ | ⟨v, w', h1, h2⟩
  · exact .inl ⟨h1, h2.mono fun e w' ⟨v, he, hr⟩ => ⟨v, he, key v w' hr⟩⟩
  · exact .inr ⟨v, w', h1, key v w' h2⟩

theorem callE_sound {β : Type} {sig : FuncId → Option Sig} {real : FuncId → FuncId} {C : FuncId → List PV → Option (List PV)} (hC : ∀ f sg vs out, sig f = some sg → C f vs = some out → Sat P W0 sg (real f) vs out) (hB : Base W0 G w) (h : Rel G st a w) {f : FuncId} {rvs : List RV} {vals : List Value} (hrvs : All2 (RelRV G w) rvs vals) {dst : Option Tmp} {K : Eff → Option β} {b : β}
    (he : callE sig C f rvs dst st.box K = some b) : ∃ e, K e = some b ∧ Enters P (real f) vals.toArray w fun v w' => ∃ G', Fr G w G' w' ∧ Rel G' (st.apply dst e) (a.put dst v) w' := by
  unfold callE at he
  split at he
  case h_2 => cases he
  rename_i d sg hsg
  split at he
  case h_1 => cases he
  rename_i bs hbs
  cases hcond : (anyL (fun b => b.beq (.loc d)) bs || !(sameLens sg.pbox sg.rbox)) with
  | true => rw [hcond] at he; cases he
  | false =>
    rw [hcond] at he
    simp only [cond_false] at he
    rw [Bool.or_eq_false_iff] at hcond
    obtain ⟨hc1, hc2⟩ := hcond
    have hsl : sameLens sg.pbox sg.rbox = true := by simpa using hc2
    obtain ⟨hnd, hlen⟩ := boxesOf_nodup hbs
    rw [lenL_eq] at hlen
    split at he
    case h_1 => cases he
    rename_i ls hls
    obtain ⟨vs, hvs, he⟩ := bindO_some he
    obtain ⟨out, hout, he⟩ := bindO_some he
    refine ⟨_, he, ?_⟩
    obtain ⟨x, y, hx, hy, rfl⟩ := catO_some hvs
    obtain ⟨l1, l2⟩ := boxLs_get hls
    have hrv : All2 (RelRV (calleeG G bs sg.lends) w) (mapL (argRV sg.lends ⟨st.box, []⟩ bs) rvs) vals := by
      rw [mapL_eq]
      refine All2.of (by simp [hrvs.length]) fun i rv v hi hv => ?_
      rw [List.getElem?_map] at hi
      cases e : rvs[i]? with
      | none => rw [e] at hi; cases hi
      | some z =>
        rw [e] at hi; cases hi
        obtain ⟨y, hy, hr⟩ := hrvs.get e
        rw [hv] at hy; cases hy
        exact argRV_rel (m := ⟨st.box, []⟩) h.m hr
    obtain ⟨m1, m2⟩ := matchArgs_sound sg.params _ _ x [] y hx hrv
    have m2' : resCnt sg.params 0 = x.length := by have := m2; simpa using this
    have hbt : ∀ b, b ∈ bs → b ≠ .tmp := by
      rintro b hb rfl
      obtain ⟨i, hi⟩ := List.getElem?_of_mem hb
      have hne : ∀ (bs : List B) (ls : List (Option (List Lf))) (i : Nat), boxLs st.box bs = some ls → bs[i]? = some .tmp → False := by
        intro bs
        induction bs with
        | nil => intro ls i _ hi; simp at hi
        | cons b0 r ih =>
          intro ls i hl hi
          unfold boxLs at hl
          split at hl
          case h_2 => cases hl
          rename_i l0 hl0
          split at hl
          case h_2 => cases hl
          rename_i x hx
          cases i with
          | zero => simp at hi; subst hi; cases hl0
          | succ i => exact ih x i hx (by simpa using hi)
      exact hne bs ls i hls hi
    exact call_back (P := P) hB h (sg := sg) (bs := bs) (d := d) (vs := x ++ y) (out := out) (f := real f) (args := vals) hnd hlen (fun b hb e => by
        subst e
        have := any_false hc1 _ hb
        rw [B.beq_refl] at this; cases this) hbt hsl (hC f sg _ out hsg hout) (by simpa using m1) (fun i l hi => by
        rw [m2'] at hi
        obtain ⟨l0, g1, g2, g3⟩ := matchPb_sound (G := calleeG G bs sg.lends) (w := w) sg.pbox ls y x [] hy i l (by simpa using hi)
        obtain ⟨b, hb1, hb2⟩ := l2 i l0 g1
        exact stands_box g2 g3 (callee_box hnd hb1 (h.box b l0 hb2)))
theorem callArgs_rel (h : Rel G st a w) (args : List Operand) {caps : List Cap} {vs : List Value} (hc : All2 (RelCap G w) caps vs) : All2 (RelRV G w) (callArgs (opnd st.regs) args caps) (args.map a.eval ++ vs) := by
  unfold callArgs
  induction args with
  | nil =>
    simp only [mapL, List.nil_append, List.map_nil]
    rw [mapL_eq]
    induction hc with
    | nil => exact .nil
    | @cons c v cs vs' h0 ht ih =>
      refine .cons ?_ ih
      cases c with
      | pv p => exact one_rel.2 ⟨h0, Rep.one h0⟩
      | ptr q => exact ptr_rel h0
      | ag ps =>
        obtain ⟨us, hu, ha⟩ := h0
        refine ⟨us, hu, ?_⟩
        show All2 _ (mapL Lf.pv ps) us
        rw [mapL_eq]
        clear hu
        induction ha with
        | nil => exact .nil
        | cons h1 t1 ih1 => exact .cons h1 ih1
  | cons x args ih => exact .cons (opnd_rel h x) ih
theorem callF_some {E : Env} {ρ : Operand → RV} {x : Operand} {args : List Operand} {v f : FuncId} {rvs : List RV} (h : callF E ρ x args = some (v, f, rvs)) : ∃ caps, ρ x = .v false [.fn f caps] ∧ rvs = callArgs ρ args caps := by
  unfold callF at h
  split at h
  · rename_i f' caps hf
    cases h
    unfold fnOf at hf
    split at hf
    · rename_i e; cases hf; exact ⟨_, e, rfl⟩
    · cases hf
  · cases h
/-- A call through a function value. -/
def Invokes (P : Program) (x : Operand) (args : List Operand) (a : Act) (w : World) (R : Value → World → Prop) : Prop :=
  ∃ f vs, a.eval x = .func (.func f) #[] vs ∧ Enters P f ((args.map a.eval).toArray ++ vs) w R
theorem callK_sound {β : Type} {E : Env} {C : FuncId → List PV → Option (List PV)} (hC : ∀ f sg vs out, E.sig f = some sg → C f vs = some out → Sat P W0 sg (E.real f) vs out) (hB : Base W0 G w) (h : Rel G st a w) {x : Operand} {args : List Operand} {dst : Option Tmp} {K : St → Option β} {b : β}
    (he : callK E C x args dst st K = some b) : ∃ st', K st' = some b ∧ Invokes P x args a w fun v w' => ∃ G', Fr G w G' w' ∧ Rel G' st' (a.put dst v) w' := by
  unfold callK at he
  split at he
  · cases he
  rename_i v f0 rvs0 hf0
  obtain ⟨G1, h1, f1⟩ := freezes_rel (callFrz E.sig v rvs0) h
  dsimp only at he
  split at he
  case h_2 => cases he
  rename_i v1 f rvs1 hf1
  obtain ⟨hre, he⟩ := bif_some he
  have hre := Nat.eq_of_beq_eq_true hre
  obtain ⟨caps, hx, rfl⟩ := callF_some hf1
  have hxr := opnd_rel h1 x
  rw [hx] at hxr
  obtain ⟨vs, hv, ha⟩ := (one_rel.1 hxr).1
  obtain ⟨e, hk, hent⟩ := callE_sound hC (hB.rel h f1) h1 (callArgs_rel h1 args ha) he
  rw [hre] at hent
  refine ⟨_, hk, f, vs.toArray, hv, ?_⟩
  have ea : (args.map a.eval ++ vs).toArray = (args.map a.eval).toArray ++ vs.toArray := by simp
  rw [← ea]
  rcases hent with ⟨q1, q2⟩ | ⟨v, w', q1, G', q2, q3⟩
  · exact .inl ⟨q1, q2.mono fun e w' ⟨v, he, G', q3, q4⟩ => ⟨v, he, G', f1.trans q3, q4⟩⟩
  · exact .inr ⟨v, w', q1, G', f1.trans q2, q3⟩
end
end Go.Vm

/-! ### 18. Operations, regions, code -/
namespace Go.Vm
set_option linter.unusedSimpArgs false
set_option linter.unusedVariables false
section
variable {P : Program} {W0 : World} {E : Env} {C : FuncId → List PV → Option (List PV)}

/-- What the continuation is told. -/
def Told {β : Type} (G : Gh) (w : World) (n : Nat) (K : St → Option β) (b : β) (next : Act → World → Prop) : Prop :=
  ∀ st' G' a' w', K st' = some b → Rel G' st' a' w' → Fr G w G' w' → a'.tmps.size = n → next a' w'
theorem Told.fr {β : Type} {G G1 : Gh} {w w1 : World} {n : Nat} {K : St → Option β} {b : β} {next : Act → World → Prop} (h : Told G w n K b next) (f : Fr G w G1 w1) : Told G1 w1 n K b next :=
  fun st' G' a' w' hk hr hf hn => h st' G' a' w' hk hr (f.trans hf) hn

theorem invoke_run {x : Operand} {args : Array Operand} {tys : Array TypeId} {o : Oper} (ho : o.op = .call { callee := .value x, args := args, argTypes := tys }) {a : Act} {w : World} {f : FuncId} {vs : Array Value} (hv : a.eval x = .func (.func f) #[] vs) :
    (execOp a.eval o).run P w = (callFunc f ((args.toList.map a.eval).toArray ++ vs)).run P w := by
  have hargs : (args.map a.eval) = (args.toList.map a.eval).toArray := by rw [← Array.toList_inj]; simp
  simp [execOp, ho, resolve, hv, Deferred.ofValue, invoke, hargs]
theorem opK_sound {β : Type} (hT : TabOk P E.T) (hC : ∀ f sg vs out, E.sig f = some sg → C f vs = some out → Sat P W0 sg (E.real f) vs out) {G : Gh} {w : World} {st : St} {a : Act} {o : Oper} (hB : Base W0 G w) (h : Rel G st a w) {K : St → Option β} {b : β} {next : Act → World → Prop} {Q : Exit → Act → World → Prop}
    (he : opK E C o st K = some b) (hK : Told G w a.tmps.size K b next) : o.wp P a w next Q := by
  unfold opK at he
  split at he
  · rename_i x args tys ho
    obtain ⟨st', hk, f, vs, hv, hent⟩ := callK_sound hC hB h he
    unfold Oper.wp
    rw [invoke_run ho hv]
    rcases hent with ⟨h1, h2⟩ | ⟨v, w', h1, G', h2, h3⟩
    · rw [h1, Oper.upon_enter]
      refine h2.mono fun e w' he' => ?_
      obtain ⟨v, rfl, G', h3, h4⟩ := he'
      exact hK st' G' _ w' hk h4 h3 (put_size ..)
    · rw [h1, Oper.upon_value]
      exact hK st' G' _ w' hk h3 h2 (put_size ..)
  · split at he
    case h_2 => cases he
    rename_i p e hef
    obtain ⟨hp, hk⟩ := chkC_some he
    obtain ⟨G', w', hf, hr⟩ := sound_eff hT h hef hp
    unfold Oper.wp
    rcases hr with ⟨v, hr, hrel⟩ | ⟨hr, hrel⟩
    · rw [hr, Oper.upon_value]; exact hK _ G' _ w' hk hrel hf (put_size ..)
    · rw [hr, Oper.upon_skip]; exact hK _ G' _ w' hk hrel hf (put_size ..)

theorem tup_undef {G : Gh} {w : World} : RelRV G w (.tup []) undef := ⟨[], rfl, .nil⟩
theorem same_reg {G : Gh} {w : World} {st : St} {a : Act} (h : Rel G st a w) {t : Tmp} {rv : RV} (ht : getL .un st.regs t = rv) : Rel G { st with regs := setL st.regs t rv } a w := by
  refine ⟨by rw [setL_eq]; simpa using h.len, fun t' => ?_, fun b ls hb => h.box b ls (by rw [← hb]; cases b <;> rfl), h.lt, h.Slt, h.Sown, h.notmp, h.defers⟩
  show RelRV G w (getL .un (setL st.regs t rv) t') _
  rw [getL_setL]
  split
  · rename_i e; rw [← ht, e.1]; exact h.regs t'
  · exact h.regs t'
theorem guardReg_some {ops : Array Oper} {g : Nat} {t : Tmp} (h : guardReg ops.toList g = some t) : (ops[g]?).bind (·.dst) = some t := by
  unfold guardReg at h
  rw [mapL_eq, getL_eq, List.getElem?_map] at h
  cases e : ops.toList[g]? with
  | none => rw [e] at h; cases h
  | some o =>
    rw [e] at h
    have : ops[g]? = some o := by simpa using e
    rw [this]; exact h
theorem yielded_bool {ops : Array Oper} {tmps : Array Value} {g : Nat} {t : Tmp} {b : Bool} (h : (ops[g]?).bind (·.dst) = some t) (hv : tmps.getD t undef = .bool b) : yielded ops tmps g = some b := by
  unfold yielded
  rw [h]
  simp only [Option.bind_some]
  rw [Array.getD_eq_getD_getElem?] at hv
  cases e : tmps[t]? with
  | none => rw [e] at hv; cases hv
  | some v => rw [e] at hv; simp at hv; subst hv; rfl
theorem yielded_undef {ops : Array Oper} {tmps : Array Value} {g : Nat} {t : Tmp} (h : (ops[g]?).bind (·.dst) = some t) (hv : tmps.getD t undef = .tuple #[]) : yielded ops tmps g = none := by
  unfold yielded
  rw [h]
  simp only [Option.bind_some]
  rw [Array.getD_eq_getD_getElem?] at hv
  cases e : tmps[t]? with
  | none => rfl
  | some v => rw [e] at hv; simp at hv; subst hv; rfl

theorem runOp_sound {β : Type} (hT : TabOk P E.T) (hC : ∀ f sg vs out, E.sig f = some sg → C f vs = some out → Sat P W0 sg (E.real f) vs out) {G : Gh} {w : World} {st : St} {a : Act} {o : Oper} {ops : Array Oper} {i : Nat} (hi : ops[i]? = some o) {sh : Bool} (hB : Base W0 G w) (h : Rel G st a w) {K : St → Option β} {b : β} {next : Act → World → Prop} {Q : Exit → Act → World → Prop}
    (he : runOp E C ops.toList sh o st K = some b) (hK : Told G w a.tmps.size K b next) : wpOp P ops Q i next a w := by
  have run : ∀ {G1 : Gh} {st1 : St}, Rel G1 st1 a w → Fr G w G1 w → (bif sh then opK E C o (st1.freezes (viewsOp o.op.operands.toList st1.regs)) K else opK E C o st1 K) = some b → o.wp P a w next Q := by
    intro G1 st1 h1 f1 he
    cases sh with
    | false => exact opK_sound hT hC (hB.rel h f1) h1 he (hK.fr f1)
    | true =>
      obtain ⟨G2, h2, f2⟩ := freezes_rel (viewsOp o.op.operands.toList st1.regs) h1
      exact opK_sound hT hC (hB.rel h (f1.trans f2)) h2 he (hK.fr (f1.trans f2))
  have skip : ∀ {st1 : St}, Rel G st1 a w → K (st1.put o.dst (.tup [])) = some b → next (a.put o.dst undef) w := fun h1 hk => hK _ G _ w hk (h1.put o.dst tup_undef) (Fr.refl G w) (put_size ..)
  unfold wpOp
  rw [hi]
  dsimp only
  unfold runOp at he
  split at he
  · rename_i hg
    have hw : Region.wanted o (yielded ops a.tmps) = true := by unfold Region.wanted; rw [hg]
    rw [if_pos hw]
    exact .inl (run h (Fr.refl G w) he)
  · rename_i g want hg
    split at he
    case h_1 => cases he
    rename_i t ht
    have hgr := guardReg_some ht
    have hw : ∀ y, yielded ops a.tmps g = y → Region.wanted o (yielded ops a.tmps) = (y == some want) := by
      intro y hy; unfold Region.wanted; rw [hg]; dsimp only; rw [hy]
    have hreg := h.regs t
    split at he
    · rename_i bb hb
      rw [hb] at hreg
      have hv := (rep_val.1 (one_rel.1 hreg).1).1
      have hy := hw _ (yielded_bool hgr hv)
      rw [hy]
      have hs := same_reg h hb
      cases bb <;> cases want <;> simp only [cond_true, cond_false] at he
      · rw [if_pos (by decide)]; exact .inl (run hs (Fr.refl G w) he)
      · rw [if_neg (by decide)]; exact skip hs he
      · rw [if_neg (by decide)]; exact skip hs he
      · rw [if_pos (by decide)]; exact .inl (run hs (Fr.refl G w) he)
    · rename_i hb
      rw [hb] at hreg
      obtain ⟨vs, hv, ha⟩ := hreg
      cases ha
      have hy := hw _ (yielded_undef hgr hv)
      rw [hy, if_neg (by simp)]
      exact skip h he
    · cases he

theorem runOps_sound {β : Type} (hT : TabOk P E.T) (hC : ∀ f sg vs out, E.sig f = some sg → C f vs = some out → Sat P W0 sg (E.real f) vs out) {ops : Array Oper} {sh : Nat → Bool} {Q : Exit → Act → World → Prop} {K : St → Option β} {b : β} {n : Nat} : ∀ (l : List Oper) (i : Nat) {G : Gh} {w : World} {st : St} {a : Act}, ops.toList.drop i = l → Base W0 G w → Rel G st a w → a.tmps.size = n →
    runOps E C sh ops.toList i l st K = some b → Told G w n K b (Q .normal) → wpOps P ops Q (List.range' i l.length) a w
  | [], i, G, w, st, a, hl, hB, h, hn, he, hK => hK st G a w he h (Fr.refl G w) hn
  | o :: r, i, G, w, st, a, hl, hB, h, hn, he, hK => by
    have hi : ops[i]? = some o := by
      have : ops.toList[i]? = some o := by
        have := List.getElem?_drop (xs := ops.toList) (i := i) (j := 0)
        rw [hl] at this
        simpa using this.symm
      simpa using this
    have hr : ops.toList.drop (i + 1) = r := by
      have := List.drop_drop (i := 1) (j := i) (l := ops.toList)
      rw [hl] at this
      simpa using this.symm
    rw [List.length_cons, List.range'_succ, wpOps_cons]
    unfold runOps at he
    refine runOp_sound hT hC hi hB h he ?_
    intro st' G' a' w' hk hr' hf hn'
    exact runOps_sound hT hC r (i + 1) hr (hB.rel h hf) hr' (hn'.trans hn) hk (hK.fr hf)

def Ex.toExit : Ex → Exit
  | .norm => .normal
  | .exit i => .exit i
  | .ret => .ret
def ToldX {β : Type} (G : Gh) (w : World) (n : Nat) (K : Ex → St → Option β) (b : β) (Q : Exit → Act → World → Prop) : Prop :=
  ∀ e, Told G w n (K e) b (Q e.toExit)
theorem ToldX.fr {β : Type} {G G1 : Gh} {w w1 : World} {n : Nat} {K : Ex → St → Option β} {b : β} {Q : Exit → Act → World → Prop} (h : ToldX G w n K b Q) (f : Fr G w G1 w1) : ToldX G1 w1 n K b Q := fun e => (h e).fr f

/-- What is packed at one of the outs comes to its continuation. -/
theorem packOut_dispatch {β : Type} {n : Nat} {K : Ex → St → Option β} {b : β} : ∀ (outs : List (Ex × Tm)) (j : Nat) {e : Ex} {st : St} {i : Nat} {vs : List PV}, packOut outs j e st = some (i, vs) → dispatch n outs j i vs K = some b →
    j ≤ i ∧ ∃ tm : Tm, tm.pack st = some vs ∧ K e (tm.inst n vs) = some b
  | [], j, e, st, i, vs, hp, hd => by cases hp
  | (e', tm) :: r, j, e, st, i, vs, hp, hd => by
    unfold packOut at hp
    cases he : e'.beq e with
    | true =>
      rw [he] at hp
      obtain ⟨vs', h1, h2⟩ := bindO_some hp
      cases h2
      have hee : e' = e := by
        cases e' <;> cases e <;> first | rfl | (cases he; done) | (have := Nat.eq_of_beq_eq_true he; subst this; rfl)
      subst hee
      refine ⟨Nat.le_refl _, tm, h1, ?_⟩
      cases r with
      | nil => exact hd
      | cons y r =>
        unfold dispatch at hd
        have : Nat.beq j j = true := Nat.beq_refl j
        rw [this] at hd
        exact hd
    | false =>
      rw [he] at hp
      cases r with
      | nil => cases hp
      | cons y r =>
        have hle : j + 1 ≤ i := by
          have : ∀ (l : List (Ex × Tm)) (j : Nat), packOut l j e st = some (i, vs) → j ≤ i := by
            intro l
            induction l with
            | nil => intro j h; cases h
            | cons z l ih =>
              intro j h
              unfold packOut at h
              cases hz : z.1.beq e with
              | true => rw [hz] at h; obtain ⟨_, _, h2⟩ := bindO_some h; cases h2; exact Nat.le_refl _
              | false => rw [hz] at h; have := ih (j + 1) h; omega
          exact this _ _ hp
        have hne : Nat.beq i j = false := by
          cases h : Nat.beq i j with
          | false => rfl
          | true => have := Nat.eq_of_beq_eq_true h; omega
        have hd' : dispatch n (y :: r) (j + 1) i vs K = some b := by
          unfold dispatch at hd
          rw [hne] at hd
          exact hd
        obtain ⟨_, h2⟩ := packOut_dispatch (y :: r) (j + 1) hp hd'
        exact ⟨by omega, h2⟩
end
end Go.Vm

/-! ### 22. What an operation looks at -/
namespace Go.Vm
set_option linter.unusedSimpArgs false
set_option linter.unusedVariables false

theorem litRows_congr {ρ ρ' : Operand → RV} (ks : List LK) : ∀ (parts : List (Nat × Operand)) (m : Mini) (i : Nat), (∀ y, y ∈ parts → ρ y.2 = ρ' y.2) → litRows ks ρ m i parts = litRows ks ρ' m i parts
  | [], m, i, h => rfl
  | (j, x) :: parts, m, i, h => by
    have hx := h (j, x) (List.mem_cons_self ..)
    dsimp only at hx
    have ih := fun m' => litRows_congr ks parts m' (i + 1) fun y hy => h y (List.mem_cons_of_mem _ hy)
    unfold litRows
    rw [hx]
    simp only [ih]
theorem buildL_congr {T : TypeId → Option TI} {ρ ρ' : Operand → RV} (fs : List Field) : ∀ (parts : List (Nat × Operand)) (ls : List Lf), (∀ y, y ∈ parts → ρ y.2 = ρ' y.2) → buildL T fs ρ parts ls = buildL T fs ρ' parts ls
  | [], ls, h => rfl
  | (j, x) :: parts, ls, h => by
    have hx := h (j, x) (List.mem_cons_self ..)
    dsimp only at hx
    have ih := fun ls' => buildL_congr (T := T) fs parts ls' fun y hy => h y (List.mem_cons_of_mem _ hy)
    unfold buildL
    rw [hx]
    simp only [ih]
theorem bound_congr {ρ ρ' : Operand → RV} (d : Nat) (x : Option Operand) (h : ∀ y, x = some y → ρ y = ρ' y) : bound ρ d x = bound ρ' d x := by
  cases x with
  | none => rfl
  | some y => simp only [bound, h y rfl]
theorem eff_congr {T : TypeId → Option TI} {o : Oper} {ρ ρ' : Operand → RV} {bx : BX} (h : ∀ x, x ∈ o.op.operands → ρ x = ρ' x) : eff T o ρ bx = eff T o ρ' bx := by
  obtain ⟨dst, op, type, pos, after, guard⟩ := o
  dsimp only at h
  cases op <;> simp only [Op.operands] at h <;> simp only [eff]
  case move x => rw [h x (by simp)]
  case assign x => rw [h x (by simp)]
  case pick c a b => rw [h c (by simp), h a (by simp), h b (by simp)]
  case box t x => rw [h x (by simp)]
  case build t parts =>
    unfold effBuild
    have := fun fs ls => buildL_congr (T := T) (ρ := ρ) (ρ' := ρ') fs parts.toList ls fun y hy => h y.2 (by simp; exact ⟨y.1, by simpa using hy⟩)
    simp only [this]
  case buildSlice t n parts =>
    unfold effBuildSlice
    have := fun ks m => litRows_congr (ρ := ρ) (ρ' := ρ') ks parts.toList m 0 fun y hy => h y.2 (by simp; exact ⟨y.1, by simpa using hy⟩)
    simp only [this]
  case load t x => rw [h x (by simp)]
  case store t x y => rw [h x (by simp), h y (by simp)]
  case nilCheck x => rw [h x (by simp)]
  case binOp op t x y t' => rw [h x (by simp), h y (by simp)]
  case unOp op t x => rw [h x (by simp)]
  case convert s t x => rw [h x (by simp)]
  case fieldAddr s x f => rw [h x (by simp)]
  case field s x f => rw [h x (by simp)]
  case indexAddr t x i => rw [h x (by simp), h i (by simp)]
  case index t x i => rw [h x (by simp), h i (by simp)]
  case slice t x lo hi mx =>
    have h1 := fun d => bound_congr (ρ := ρ) (ρ' := ρ') d lo fun y hy => h y (by subst hy; simp)
    have h2 := fun d => bound_congr (ρ := ρ) (ρ' := ρ') d hi fun y hy => h y (by subst hy; simp)
    cases mx with
    | some _ => rfl
    | none =>
      have hx := h x (by simp)
      unfold effSliceStr effSliceSl
      simp only [hx, h1, h2]
  case extract x i => rw [h x (by simp)]
  case makeFunc fn first caps =>
    have : mapL ρ caps.toList = mapL ρ' caps.toList := by
      rw [mapL_eq, mapL_eq]
      exact List.map_congr_left fun x hx => h x (by simp; exact .inr (by simpa using hx))
    rw [this]
  case call c =>
    have ha : ∀ x, x ∈ c.args.toList → ρ x = ρ' x := fun x hx => h x (by simp only [Call.operands]; first | (simp; exact .inr (by simpa using hx)) | (simp; exact .inl (by simpa using hx)) | (simp; exact by simpa using hx))
    split
    · rename_i x t e1 e2 e3
      rw [ha x (by rw [e2]; simp)]
    · rename_i x0 x1 t t' e1 e2 e3
      rw [ha x0 (by rw [e2]; simp), ha x1 (by rw [e2]; simp)]
    · rfl
  all_goals first | rfl | skip
end Go.Vm

/-! ### 23. A step that looks at some boxes alone -/
namespace Go.Vm
set_option linter.unusedSimpArgs false
set_option linter.unusedVariables false

theorem inF_iff {F : List B} {b : B} : inF F b = true ↔ b ∈ F := by
  unfold inF
  rw [anyL_eq, List.any_eq_true]
  constructor
  · rintro ⟨x, hx, h⟩; rw [B.beq_iff.1 h]; exact hx
  · intro h; exact ⟨b, h, B.beq_refl b⟩
def onlyL (F : List B) (f : Nat → B) : Nat → List (Option (List Lf)) → List (Option (List Lf))
  | _, [] => []
  | i, x :: r => (bif inF F (f i) then x else none) :: onlyL F f (i + 1) r
def St.only (st : St) (F : List B) : St := { regs := st.regs, pb := onlyL F .par 0 st.pb, lb := onlyL F .loc 0 st.lb }
theorem onlyL_get (F : List B) (f : Nat → B) : ∀ (l : List (Option (List Lf))) (i j : Nat), getL none (onlyL F f i l) j = bif inF F (f (i + j)) then getL none l j else none
  | [], i, j => by cases j <;> simp [onlyL, getL]
  | x :: r, i, 0 => by simp [onlyL, getL]
  | x :: r, i, j + 1 => by simp only [onlyL, getL, onlyL_get F f r]; rw [show i + 1 + j = i + (j + 1) from by omega]
theorem only_box (st : St) (F : List B) : (st.only F).box = restr F st.box := by
  funext b
  cases b with
  | par i => have := onlyL_get F .par st.pb 0 i; rw [Nat.zero_add] at this; exact this
  | loc i => have := onlyL_get F .loc st.lb 0 i; rw [Nat.zero_add] at this; exact this
  | tmp => unfold restr; cases inF F .tmp <;> rfl

def Gh.onlyG (G : Gh) (F : List B) : Gh where
  blk := G.blk
  hdr := G.hdr
  own := fun x => match G.own x with | some (b, c) => (bif inF F b then some (b, c) else none) | none => none
  S := G.S
section
variable {G G1 : Gh} {w w' : World} {st : St} {a : Act} {F : List B}
theorem onlyG_in {x : Nat} {b : B} {c : Option Nat} (h : G.own x = some (b, c)) (hb : inF F b = true) : (G.onlyG F).own x = some (b, c) := by simp [Gh.onlyG, h, hb]
theorem onlyG_out {x : Nat} {b : B} {c : Option Nat} (h : G.own x = some (b, c)) (hb : inF F b = false) : (G.onlyG F).own x = none := by simp [Gh.onlyG, h, hb]
theorem onlyG_none {x : Nat} (h : G.own x = none) : (G.onlyG F).own x = none := by simp [Gh.onlyG, h]
theorem only_rel (h : Rel G st a w) (F : List B) : Rel (G.onlyG F) (st.only F) a w := by
  have K : Keep [] G w (G.onlyG F) w := ⟨fun _ h => h, fun _ _ => rfl, fun _ _ _ _ => rfl, fun _ _ _ => rfl⟩
  refine ⟨h.len, fun t => ?_, fun b ls hb => ?_, fun k o hk => ?_, h.Slt, fun k hk => onlyG_none (h.Sown k hk), fun k c hk => ?_, h.defers⟩
  · have := killed_regs K h.regs t
    exact this
  · rw [only_box] at hb
    unfold restr at hb
    cases hf : inF F b with
    | false => rw [hf] at hb; cases hb
    | true =>
      rw [hf] at hb
      exact relBox_keep (G := G) (G' := G.onlyG F) (fun _ h => h) (fun _ _ => rfl) (fun _ => rfl) rfl (fun x c hx => ⟨onlyG_in hx hf, rfl⟩) (h.box b ls hb)
  · cases e : G.own k with
    | none => rw [onlyG_none e] at hk; cases hk
    | some q => exact h.lt k q e
  · cases e : G.own k with
    | none => rw [onlyG_none e] at hk; cases hk
    | some q =>
      obtain ⟨b, c'⟩ := q
      cases hf : inF F b with
      | true => rw [onlyG_in e hf] at hk; cases hk; exact h.notmp k _ e
      | false => rw [onlyG_out e hf] at hk; cases hk

def frameG (G G1 : Gh) (w : World) (F : List B) : Gh where
  blk := fun b => bif inF F b then G1.blk b else G.blk b
  hdr := fun b c => bif inF F b then G1.hdr b c else G.hdr b c
  own := fun x => match G1.own x with
    | some (b, c) => bif inF F b then some (b, c) else none
    | none => if x < w.heap.size then (match G.own x with | some (b, c) => bif inF F b then none else some (b, c) | none => none) else none
  S := G1.S
theorem frameG_in {x : Nat} {b : B} {c : Option Nat} (h : G1.own x = some (b, c)) (hb : inF F b = true) : (frameG G G1 w F).own x = some (b, c) := by simp [frameG, h, hb]
theorem frameG_old {x : Nat} {b : B} {c : Option Nat} (h : G1.own x = none) (hx : x < w.heap.size) (ho : G.own x = some (b, c)) (hb : inF F b = false) : (frameG G G1 w F).own x = some (b, c) := by simp [frameG, h, hx, ho, hb]
theorem frameG_none {x : Nat} (h : G1.own x = none) (ho : x < w.heap.size → G.own x = none ∨ ∃ b c, G.own x = some (b, c) ∧ inF F b = true) : (frameG G G1 w F).own x = none := by
  simp only [frameG, h]
  split
  · rename_i hx
    rcases ho hx with e | ⟨b, c, e, hs⟩
    · rw [e]
    · rw [e]; simp [hs]
  · rfl
theorem frame_place {q : Place} {v : Value} (hA : RelPlace G1 w' q v) (hB : RelPlace G w q v) : RelPlace (frameG G G1 w F) w' q v := by
  cases q with
  | box b off =>
    cases hf : inF F b with
    | true => obtain ⟨k, hk, h⟩ := hA; exact ⟨k, by simp [frameG, hf, hk], h⟩
    | false => obtain ⟨k, hk, h⟩ := hB; exact ⟨k, by simp [frameG, hf, hk], h⟩
  | cells ps => exact hA
  | row b c sz i off =>
    cases hf : inF F b with
    | true => obtain ⟨k, n, cap, hk, h⟩ := hA; exact ⟨k, n, cap, by simp [frameG, hf, hk], h⟩
    | false => obtain ⟨k, n, cap, hk, h⟩ := hB; exact ⟨k, n, cap, by simp [frameG, hf, hk], h⟩
theorem frame_lf {l : Lf} {v : Value} (hA : RelLf G1 w' l v) (hB : RelLf G w l v) : RelLf (frameG G G1 w F) w' l v := by
  cases l with
  | un => trivial
  | pv p => exact hA
  | own _ _ _ _ => exact hA.elim
  | hd b c =>
    have e : (frameG G G1 w F).hdr b c = (bif inF F b then G1.hdr b c else G.hdr b c) := rfl
    cases hf : inF F b with
    | true => rw [hf] at e; exact ⟨⟨by rw [e]; exact hA.1.1, hA.1.2⟩, hA.2⟩
    | false => rw [hf] at e; exact ⟨⟨by rw [e]; exact hB.1.1, hA.1.2⟩, hA.2⟩
  | tk b c n =>
    have e : (frameG G G1 w F).hdr b c = (bif inF F b then G1.hdr b c else G.hdr b c) := rfl
    cases hf : inF F b with
    | true => rw [hf] at e; exact ⟨by rw [e]; exact hA.1, hA.2⟩
    | false => rw [hf] at e; exact ⟨by rw [e]; exact hB.1, hA.2⟩
  | vw b c sz lo hi =>
    have e : (frameG G G1 w F).hdr b c = (bif inF F b then G1.hdr b c else G.hdr b c) := rfl
    cases hf : inF F b with
    | true => rw [hf] at e; exact ⟨by rw [e]; exact hA.1, hA.2⟩
    | false => rw [hf] at e; exact ⟨by rw [e]; exact hB.1, hA.2⟩
  | ptr q => exact frame_place hA hB
  | fn f caps =>
    obtain ⟨vs, hv, ha⟩ := hA
    obtain ⟨us, hu, hb⟩ := hB
    have : us = vs := by
      rw [hv] at hu
      simp only [Value.func.injEq] at hu
      have := hu.2.2
      simpa using this.symm
    subst this
    refine ⟨us, hv, ?_⟩
    clear hv hu
    induction ha with
    | nil => exact .nil
    | @cons c u cs us h t ih =>
      cases hb with
      | cons h' t' =>
        refine .cons ?_ (ih t')
        cases c with
        | pv p => exact h
        | ptr q => exact frame_place h h'
        | ag ps => exact h
theorem frame_c {x : Bool × List Lf} {v : Value} (hA : RelC G1 w' x v) (hB : RelC G w x v) : RelC (frameG G G1 w F) w' x v := by
  obtain ⟨ag, ls⟩ := x
  cases ag with
  | true =>
    obtain ⟨vs, hv, ha⟩ := hA
    obtain ⟨us, hu, hb⟩ := hB
    have : us = vs := by rw [hv] at hu; simpa using hu.symm
    subst this
    exact ⟨us, hv, All2.of ha.length fun i l u hl hu => by
      obtain ⟨u1, g1, g2⟩ := ha.get hl
      obtain ⟨u2, g3, g4⟩ := hb.get hl
      rw [hu] at g1 g3; cases g1; cases g3
      exact ⟨frame_lf g2.1 g4.1, g2.2⟩⟩
  | false =>
    obtain ⟨l, h1, h2, h3⟩ := hA
    obtain ⟨l', h1', h2', _⟩ := hB
    dsimp only at h1 h1'
    subst h1
    cases h1'
    exact ⟨l, rfl, frame_lf h2 h2', h3⟩
theorem frame_rv {rv : RV} {v : Value} (hA : RelRV G1 w' rv v) (hB : RelRV G w rv v) : RelRV (frameG G G1 w F) w' rv v := by
  cases rv with
  | un => trivial
  | v ag ls => exact frame_c (x := (ag, ls)) hA hB
  | tup cs =>
    obtain ⟨vs, hv, ha⟩ := hA
    obtain ⟨us, hu, hb⟩ := hB
    have : us = vs := by rw [hv] at hu; simpa using hu.symm
    subst this
    exact ⟨us, hv, All2.of ha.length fun i l u hl hu => by
      obtain ⟨u1, g1, g2⟩ := ha.get hl
      obtain ⟨u2, g3, g4⟩ := hb.get hl
      rw [hu] at g1 g3; cases g1; cases g3
      exact frame_c g2 g4⟩

theorem within_place {q : Place} {v : Value} (hq : q.within F = true) (hA : RelPlace G1 w' q v) : RelPlace (frameG G G1 w F) w' q v := by
  cases q with
  | box b off => have hf : inF F b = true := hq; obtain ⟨k, hk, h⟩ := hA; exact ⟨k, by simp [frameG, hf, hk], h⟩
  | cells ps => exact hA
  | row b c sz i off => have hf : inF F b = true := hq; obtain ⟨k, n, cap, hk, h⟩ := hA; exact ⟨k, n, cap, by simp [frameG, hf, hk], h⟩
theorem within_lf {l : Lf} {v : Value} (hl : l.within F = true) (hA : RelLf G1 w' l v) : RelLf (frameG G G1 w F) w' l v := by
  have e : ∀ b c, inF F b = true → (frameG G G1 w F).hdr b c = G1.hdr b c := fun b c hf => by simp [frameG, hf]
  cases l with
  | un => trivial
  | pv p => exact hA
  | own _ _ _ _ => exact hA.elim
  | hd b c => exact ⟨⟨by rw [e b c hl]; exact hA.1.1, hA.1.2⟩, hA.2⟩
  | tk b c n => exact ⟨by rw [e b c hl]; exact hA.1, hA.2⟩
  | vw b c sz lo hi => exact ⟨by rw [e b c hl]; exact hA.1, hA.2⟩
  | ptr q => exact within_place hl hA
  | fn f caps =>
    obtain ⟨vs, hv, ha⟩ := hA
    refine ⟨vs, hv, ha.imp fun c hc u hu => ?_⟩
    have hp : allL (Cap.within F) caps = true := hl
    rw [allL_eq, List.all_eq_true] at hp
    have := hp c hc
    cases c with
    | pv p => exact hu
    | ptr q => exact within_place this hu
    | ag ps => exact hu
theorem within_c {x : Bool × List Lf} {v : Value} (hx : allL (Lf.within F) x.2 = true) (hA : RelC G1 w' x v) : RelC (frameG G G1 w F) w' x v := by
  obtain ⟨ag, ls⟩ := x
  have hy : ∀ l, l ∈ ls → l.within F = true := by
    have h0 : allL (Lf.within F) ls = true := hx
    rw [allL_eq, List.all_eq_true] at h0
    exact h0
  clear hx
  cases ag with
  | true =>
    obtain ⟨vs, hv, ha⟩ := hA
    exact ⟨vs, hv, ha.imp fun l hl u hu => ⟨within_lf (hy l hl) hu.1, hu.2⟩⟩
  | false =>
    obtain ⟨l, h1, h2, h3⟩ := hA
    dsimp only at h1
    subst h1
    exact ⟨l, rfl, within_lf (hy l (List.mem_singleton.2 rfl)) h2, h3⟩
theorem within_rv {rv : RV} {v : Value} (hr : rv.within F = true) (hA : RelRV G1 w' rv v) : RelRV (frameG G G1 w F) w' rv v := by
  cases rv with
  | un => trivial
  | v ag ls => exact within_c (x := (ag, ls)) hr hA
  | tup cs =>
    obtain ⟨vs, hv, ha⟩ := hA
    have hr : allL (fun x => allL (Lf.within F) x.2) cs = true := hr
    rw [allL_eq, List.all_eq_true] at hr
    exact ⟨vs, hv, ha.imp fun x hx u hu => within_c (hr x hx) hu⟩

theorem apply_regs (st : St) (d : Option Tmp) (e : Eff) : (st.apply d e).regs = match d with | some t => setL (st.killed e.kill).regs t e.val | none => (st.killed e.kill).regs := by
  unfold St.apply
  cases d with
  | none => exact setBoxes_regs _ _
  | some t => simp only [St.put]; rw [setBoxes_regs]
theorem killed_only (st : St) (F : List B) (k : List (B × Option Nat)) : ((st.only F).killed k).regs = (st.killed k).regs := by cases k <;> rfl
theorem setBox_agree {s s' : St} {x : B × List Lf} {b : B} (h : s.box b = s'.box b) (hlp : s.pb.length = s'.pb.length) (hll : s.lb.length = s'.lb.length) : (s.setBox x).box b = (s'.setBox x).box b ∧ (s.setBox x).pb.length = (s'.setBox x).pb.length ∧ (s.setBox x).lb.length = (s'.setBox x).lb.length := by
  obtain ⟨c, ls⟩ := x
  cases c with
  | tmp => exact ⟨h, hlp, hll⟩
  | par i =>
    refine ⟨?_, by simp [St.setBox, setL_eq, hlp], hll⟩
    cases b with
    | par j =>
      simp only [St.setBox, St.box, getL_setL, hlp]
      split
      · rfl
      · exact h
    | loc j => exact h
    | tmp => rfl
  | loc i =>
    refine ⟨?_, hlp, by simp [St.setBox, setL_eq, hll]⟩
    cases b with
    | loc j =>
      simp only [St.setBox, St.box, getL_setL, hll]
      split
      · rfl
      · exact h
    | par j => exact h
    | tmp => rfl
theorem setBoxes_agree {s s' : St} {b : B} (h : s.box b = s'.box b) (hlp : s.pb.length = s'.pb.length) (hll : s.lb.length = s'.lb.length) : ∀ wr : List (B × List Lf), (s.setBoxes wr).box b = (s'.setBoxes wr).box b ∧ (s.setBoxes wr).pb.length = (s'.setBoxes wr).pb.length ∧ (s.setBoxes wr).lb.length = (s'.setBoxes wr).lb.length
  | [] => ⟨h, hlp, hll⟩
  | x :: r => by
    obtain ⟨h1, h2, h3⟩ := setBoxes_agree h hlp hll r
    exact setBox_agree h1 h2 h3
theorem onlyL_len (F : List B) (f : Nat → B) : ∀ (l : List (Option (List Lf))) (i : Nat), (onlyL F f i l).length = l.length
  | [], _ => rfl
  | x :: r, i => by simp [onlyL, onlyL_len F f r]
theorem setBoxes_out {s : St} {b : B} : ∀ wr : List (B × List Lf), (∀ x, x ∈ wr → x.1 ≠ b) → (s.setBoxes wr).box b = s.box b
  | [], _ => rfl
  | x :: r, h => by
    have ih := setBoxes_out (s := s) r fun y hy => h y (List.mem_cons_of_mem _ hy)
    have hne := h x (List.mem_cons_self ..)
    simp only [St.setBoxes]
    cases e : ((s.setBoxes r).setBox x).box b with
    | some ls =>
      rcases box_setBox e with ⟨e1, _⟩ | ⟨_, e2⟩
      · exact absurd e1.symm hne
      · rw [← ih, e2]
    | none =>
      obtain ⟨c, l⟩ := x
      rw [← ih]
      cases c with
      | tmp => exact e.symm
      | par i =>
        cases b with
        | par j =>
          simp only [St.setBox, St.box, getL_setL] at e ⊢
          split at e
          · cases e
          · exact e.symm
        | loc j => exact e.symm
        | tmp => rfl
      | loc i =>
        cases b with
        | loc j =>
          simp only [St.setBox, St.box, getL_setL] at e ⊢
          split at e
          · cases e
          · exact e.symm
        | par j => exact e.symm
        | tmp => rfl
end
end Go.Vm

/-! ### 24. The frame of a step -/
namespace Go.Vm
set_option linter.unusedSimpArgs false
set_option linter.unusedVariables false
section
variable {G G1 : Gh} {w w' : World} {st : St} {a : Act} {F : List B}
theorem frame_step (h : Rel G st a w) {d : Option Tmp} {e : Eff} {v : Value} (hF : e.within F = true) (f1 : Fr (G.onlyG F) w G1 w') (h1 : Rel G1 ((st.only F).apply d e) (a.put d v) w') :
    ∃ G2, Fr G w G2 w' ∧ Rel G2 (st.apply d e) (a.put d v) w' := by
  unfold Eff.within at hF
  simp only [Bool.and_eq_true] at hF
  obtain ⟨hk, hw, hv⟩ := hF
  have hout : ∀ x b c, G.own x = some (b, c) → inF F b = false → G1.own x = none ∧ w'.heap[x]? = w.heap[x]? ∧ x < w.heap.size := by
    intro x b c hx hf
    have hlt := h.lt x _ hx
    have h0 := onlyG_out hx hf
    exact ⟨f1.own x hlt h0, f1.blk x hlt h0, hlt⟩
  have hregs : (st.killed e.kill).regs.length = a.tmps.size := by rw [killed_len]; exact h.len
  have KB : Keep e.kill G w G w := ⟨fun _ h => h, fun _ _ => rfl, fun _ _ _ _ => rfl, fun _ _ _ => rfl⟩
  have hB := killed_regs KB h.regs
  have hS1 : ∀ x, G.S x → w'.heap[x]? = w.heap[x]? := fun x hx => f1.blk x (h.Slt x hx) (onlyG_none (h.Sown x hx))
  refine ⟨frameG G G1 w F, ⟨f1.os, f1.tape, f1.output, f1.size, fun x hx h0 => f1.blk x hx (onlyG_none h0), fun x hx h0 => frameG_none (f1.own x hx (onlyG_none h0)) fun _ => .inl h0, f1.S, fun x hx => ?_, fun i => ?_⟩, ⟨?_, fun t => ?_, fun b ls hb => ?_, fun x q hx => ?_, h1.Slt, fun x hx => ?_, fun x c hx => ?_, h1.defers⟩⟩
  · rcases f1.S' x hx with g | g | g
    · exact .inl g
    · exact .inr (.inl g)
    · right; right; intro h0; exact g (onlyG_none h0)
  · show (bif inF F (.par i) then G1.blk (.par i) else G.blk (.par i)) = _
    cases inF F (.par i) with
    | true => exact f1.par i
    | false => rfl
  · rw [apply_regs, put_size]
    cases d with
    | none => exact hregs
    | some t0 => dsimp only; rw [setL_eq, List.length_set]; exact hregs
  · have hA := h1.regs t
    rw [apply_regs, killed_only] at hA
    rw [apply_regs]
    cases d with
    | none => exact frame_rv hA (hB t)
    | some t0 =>
      dsimp only at hA ⊢
      rw [getL_setL] at hA ⊢
      by_cases hc : t0 = t ∧ t0 < (st.killed e.kill).regs.length
      · rw [if_pos hc] at hA ⊢
        exact within_rv hv hA
      · rw [if_neg hc] at hA ⊢
        rw [getD_put] at hA ⊢
        rw [hregs] at hc
        have hne : ¬ (some t0 = some t ∧ t < a.tmps.size) := by
          rintro ⟨e1, e2⟩; cases e1; exact hc ⟨rfl, e2⟩
        rw [if_neg hne] at hA ⊢
        exact frame_rv hA (hB t)
  · have e1 : (st.apply d e).box b = ((st.killed e.kill).setBoxes e.wr).box b := by
      unfold St.apply; cases d <;> cases b <;> rfl
    have e2 : ((st.only F).apply d e).box b = (((st.only F).killed e.kill).setBoxes e.wr).box b := by
      unfold St.apply; cases d <;> cases b <;> rfl
    rw [e1] at hb
    cases hf : inF F b with
    | true =>
      have hag : (st.killed e.kill).box b = ((st.only F).killed e.kill).box b := by
        rw [box_killed, box_killed, only_box]; simp [restr, hf]
      have hlp : (st.killed e.kill).pb.length = ((st.only F).killed e.kill).pb.length := by
        cases e.kill <;> simp [St.killed, St.only, onlyL_len]
      have hll : (st.killed e.kill).lb.length = ((st.only F).killed e.kill).lb.length := by
        cases e.kill <;> simp [St.killed, St.only, onlyL_len]
      rw [(setBoxes_agree hag hlp hll e.wr).1, ← e2] at hb
      exact relBox_keep (G := G1) (G' := frameG G G1 w F) (fun _ h => h) (fun _ _ => rfl) (fun c => by simp [frameG, hf]) (by simp [frameG, hf]) (fun x c hx => ⟨frameG_in hx hf, rfl⟩) (h1.box b ls hb)
    | false =>
      rw [setBoxes_out e.wr (fun x hx e3 => by
        rw [allL_eq, List.all_eq_true] at hw
        have := hw x hx
        rw [e3, hf] at this; cases this), box_killed] at hb
      exact relBox_keep (G := G) (G' := frameG G G1 w F) f1.S hS1 (fun c => by simp [frameG, hf]) (by simp [frameG, hf]) (fun x c hx => by
        obtain ⟨g1, g2, g3⟩ := hout x b c hx hf
        exact ⟨frameG_old g1 g3 hx hf, g2⟩) (h.box b ls hb)
  · cases e1 : G1.own x with
    | some q' => exact h1.lt x q' e1
    | none =>
      simp only [frameG, e1] at hx
      split at hx
      · have := f1.size; omega
      · cases hx
  · refine frameG_none (h1.Sown x hx) fun hlt => ?_
    cases e1 : G.own x with
    | none => exact .inl rfl
    | some q =>
      obtain ⟨b, c⟩ := q
      cases hf : inF F b with
      | true => exact .inr ⟨b, c, rfl, hf⟩
      | false =>
        exfalso
        rcases f1.S' x hx with g | g | g
        · have : G.S x := g
          rw [h.Sown x this] at e1; cases e1
        · omega
        · exact g (onlyG_out e1 hf)
  · simp only [frameG] at hx
    split at hx
    · rename_i b c' e1
      cases hf : inF F b with
      | true => rw [hf] at hx; cases hx; exact h1.notmp x _ e1
      | false => rw [hf] at hx; cases hx
    · split at hx
      · split at hx
        · rename_i b c' e1
          cases hf : inF F b with
          | true => rw [hf] at hx; cases hx
          | false => rw [hf] at hx; cases hx; exact h.notmp x _ e1
        · cases hx
      · cases hx
end
end Go.Vm
