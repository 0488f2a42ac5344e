/- Several texts in one: contracts of functions of the program, and what they lean on. In part written by a program of this session over the kit's print, in part by hand. -/
import Derived.Test.YtppcjlplihiiiaaDoorRows
import Derived.WalkKit
import Derived.ProofKit
import Derived.LaidLaws
import Derived.Deep.DeepLaidRun
import Derived.LaidHandle
import Derived.JoinedCond
import GoSem.Decode
import GoSem.Elab.Main
import GoSem.Dispatch
import Derived.Orders
import Derived.Calls
import Derived.Below
namespace Go.Proofs.YtppcjlplihiiiaaDoor.Laid
open Go.ChangeShapes Go.WideShapes Go.RowKit
set_option linter.unusedVariables false
theorem own : ownKnob Tryd.prog.godebug = none := by kernel_rfl
def cells0 : Array Value := (([128, 191, 160, 191, 128, 159, 144, 191, 128, 143, 0, 0, 0, 0, 0, 0, 0, 0, 0, 0, 0, 0, 0, 0, 0, 0, 0, 0, 0, 0, 0, 0] : List Nat).map fun z => Value.int .u8 ((z : Nat) : Int)).toArray
def put0 : Obj → Obj
  | .cells _ t frozen => .cells cells0 t frozen
  | o => o
def cells1 : Array Value := (Pinned.utf8FirstZ.map fun z => Value.int .u8 (z : Nat)).toArray
def put1 : Obj → Obj
  | .cells _ t frozen => .cells cells1 t frozen
  | o => o
noncomputable def world (os : Os) : World :=
  { World.holding Tryd.prog os ⟨#[], #[], []⟩ with heap := (((World.holding Tryd.prog os ⟨#[], #[], []⟩).heap).modify 3 put0).modify 2 put1 }
end Go.Proofs.YtppcjlplihiiiaaDoor.Laid

namespace Go.Proofs.YtppcjlplihiiiaaDoor.Err
open Go
def ErrTy (w : World) : Prop := w.cell? ⟨0, 0, none⟩ = some (.iface 98 (.agg #[.pointer (some ⟨4, 44, none⟩)]))
end Go.Proofs.YtppcjlplihiiiaaDoor.Err

namespace Go.Proofs.YtppcjlplihiiiaaDoor.Laid
open Go.ChangeShapes Go.WideShapes Go.RowKit
set_option linter.unusedVariables false
theorem et : Tryd.prog.globalNamed "errors.errorType" = some 0 := by kernel_rfl
theorem rt : (Tryd.prog.cutTypes.find? (·.1 == "internal/reflectlite.rtype")).map (·.2) = some 98 := by kernel_rfl
theorem oneRow : ((List.range 159).filter fun t => Tryd.prog.rowNamed t [101, 114, 114, 111, 114]) = [44] := by kernel_rfl
theorem size : Tryd.prog.types.size = 159 := by kernel_rfl
abbrev listed : List (String × DataW Unit) := [("unicode/utf8.acceptRanges", Rows.laid_unicode_utf8_acceptRanges), ("errors.errorType", Rows.laid_errors_errorType), ("unicode/utf8.first", Rows.laid_unicode_utf8_first)]
theorem listed_plain : (listed.filter fun x => x.2.handleName?.isNone) = [("unicode/utf8.acceptRanges", Rows.laid_unicode_utf8_acceptRanges), ("unicode/utf8.first", Rows.laid_unicode_utf8_first)] := rfl
theorem listed_handles : (listed.filter fun x => x.2.handleName?.isSome) = [("errors.errorType", Rows.laid_errors_errorType)] := rfl
theorem errTy_of_laid {W : World} (h : laidMetH Tryd.prog listed W) : Err.ErrTy W := by
  have h' : laidMet Tryd.prog (listed.filter fun x => x.2.handleName?.isNone) W ∧ handlesMet Tryd.prog [("errors.errorType", Rows.laid_errors_errorType)] W := by
    unfold laidMetH at h
    rw [listed_handles] at h
    exact h
  obtain ⟨name, u, ty, e1, e2, e3, e4, e5⟩ := h'.2 _ (List.mem_singleton.2 rfl)
  have en : name = [101, 114, 114, 111, 114] := (Option.some.inj e1).symm
  subst en
  obtain rfl := Option.some.inj (rt.symm.trans e2)
  have hm : ty ∈ (List.range 159).filter fun t => Tryd.prog.rowNamed t [101, 114, 114, 111, 114] := List.mem_filter.2 ⟨List.mem_range.2 (by rw [← size]; exact e3), e4⟩
  rw [oneRow] at hm
  obtain rfl := List.mem_singleton.1 hm
  have hh : typeHandle Tryd.prog 44 = .pointer (some ⟨4, 44, none⟩) := by kernel_rfl
  rw [hh] at e5
  have := World.var?_cell et e5 0
  unfold Err.ErrTy
  simpa using this
def putError : Obj → Obj
  | .cells _ t frozen => .cells #[.iface 98 (.agg #[.pointer (some ⟨4, 44, none⟩)])] t frozen
  | o => o
noncomputable def worldE (os : Os) : World := { world os with heap := (world os).heap.modify 0 putError }
set_option maxRecDepth 100000 in
theorem metE (os : Os) (args : Array Value) : laidMetH Tryd.prog listed ((worldE os).forCall (fun _ _ => 0) ⟨#[], args, []⟩).memory := by
  refine laidMetH_of_parts ?_ ?_
  · rw [listed_plain]
    exact laidMet_of_run3 300 (by kernel_rfl) (by kernel_rfl) (by kernel_rfl)
  · rw [listed_handles]
    kernel_rfl
end Go.Proofs.YtppcjlplihiiiaaDoor.Laid

namespace Go.Proofs.YtppcjlplihiiiaaDoor.Joined
open Go
set_option linter.unusedVariables false
theorem three : (Tryd.prog.mayEnter && (Rows.parseBlanksRow.lifted == Tryd.prog.liftsFinal) && (Tryd.prog.make == some Rows.parseBlanksRow.make)) = true := by kernel_rfl
theorem mayEnter : Tryd.prog.mayEnter = true := (Bool.and_eq_true _ _ ▸ (Bool.and_eq_true _ _ ▸ three).1).1
theorem lifted : (Rows.parseBlanksRow.lifted == Tryd.prog.liftsFinal) = true := (Bool.and_eq_true _ _ ▸ (Bool.and_eq_true _ _ ▸ three).1).2
theorem make : (Tryd.prog.make == some Rows.parseBlanksRow.make) = true := (Bool.and_eq_true _ _ ▸ three).2
theorem laidOut : laidOutB Tryd.prog = true := by kernel_rfl
theorem mapsRowed : mapsRowed Tryd.prog = true := by kernel_rfl
theorem stops : (Tryd.prog.stops == []) = true := by kernel_rfl
theorem stopKnobs : (Tryd.prog.stopKnobs == []) = true := by kernel_rfl
theorem stopsHeard : Tryd.prog.stopsHeard = true := by kernel_rfl
end Go.Proofs.YtppcjlplihiiiaaDoor.Joined

noncomputable section
namespace Go.Ev
open Go
inductive V where
  | bool (b : Bool)
  | int (k : IntKind) (n : Int)
  | res (k : IntKind) (c r : Nat)
  | str (len bits : Nat)
  | ptr (blk off : Nat)
  | nilp
  | gptr (g off : Nat)
  | sl (blk off len cap sz : Nat)
  | nils
  | map (id : Nat)
  | nilm
  | fn (f : Fn) (first captured : List V)
  | nilf
  | iface (t : TypeId) (v : V)
  | nili
  | agg (cs : List V)
  | tup (vs : List V)
  deriving Inhabited
inductive T (α : Type) where
  | nil
  | node (v : Option α) (l r : T α)
noncomputable def T.get {α : Type} (t : T α) : Nat → Option α :=
  T.rec (motive := fun _ => Nat → Option α) (fun _ => none)
    (fun v _ _ gl gr k => Bool.rec (Bool.rec (gr (Nat.div (Nat.sub k 1) 2)) (gl (Nat.div k 2)) (Nat.beq (Nat.mod k 2) 1)) v (Nat.beq k 0)) t
noncomputable def T.put {α : Type} (x : α) (n : Nat) : T α → Nat → T α :=
  Nat.rec (motive := fun _ => T α → Nat → T α) (fun t _ => t)
    (fun _ ih t k => T.rec (motive := fun _ => T α)
      (Bool.rec (Bool.rec (.node none .nil (ih .nil (Nat.div (Nat.sub k 1) 2))) (.node none (ih .nil (Nat.div k 2)) .nil) (Nat.beq (Nat.mod k 2) 1)) (.node (some x) .nil .nil) (Nat.beq k 0))
      (fun v l r _ _ => Bool.rec (Bool.rec (.node v l (ih r (Nat.div (Nat.sub k 1) 2))) (.node v (ih l (Nat.div k 2)) r) (Nat.beq (Nat.mod k 2) 1)) (.node (some x) l r) (Nat.beq k 0)) t) n
noncomputable def T.set {α : Type} (t : T α) (k : Nat) (x : α) : T α := T.put x (k + 1) t k
abbrev Gl := Nat → Nat → Option V
structure CB where
  fam : Nat
  n : Nat
  fz : Nat
  el : TypeId
  tot : Nat
  ro : Bool
  live : Bool
  c : T V
def CB.withC (k : CB) (c : T V) : CB := CB.rec (motive := fun _ => CB) (fun fam n fz el tot ro live _ => ⟨fam, n, fz, el, tot, ro, live, c⟩) k
def CB.dead (k : CB) : CB := CB.rec (motive := fun _ => CB) (fun fam n fz el tot ro _ c => ⟨fam, n, fz, el, tot, ro, false, c⟩) k
def CB.cutN (k : CB) (n : Nat) : CB := CB.rec (motive := fun _ => CB) (fun fam _ fz el _ ro live c => ⟨fam, n, fz, el, 0, ro, live, c⟩) k
def CB.frz (k : CB) (fz : Nat) : CB := CB.rec (motive := fun _ => CB) (fun fam n _ el tot ro live c => ⟨fam, n, fz, el, tot, ro, live, c⟩) k
def CB.grown (k : CB) (n : Nat) (c : T V) : CB := CB.rec (motive := fun _ => CB) (fun fam _ fz el _ _ _ _ => ⟨fam, n, fz, el, 0, false, true, c⟩) k
theorem CB.grown_eq (k : CB) (n : Nat) (c : T V) : k.grown n c = ⟨k.fam, n, k.fz, k.el, 0, false, true, c⟩ := rfl
theorem CB.withC_eq (k : CB) (c : T V) : k.withC c = { k with c := c } := rfl
theorem CB.cutN_eq (k : CB) (n : Nat) : k.cutN n = { k with n := n, tot := 0 } := rfl
inductive Blk where
  | cells (b : CB)
  | map (es : List (V × V))
structure Mem where
  gl : Gl
  next : Nat
  blks : T Blk
  fams : T (List Nat)
def packL : List Nat → Nat
  | [] => 0
  | b :: r => b + 256 * packL r
def byteAt (bits i : Nat) : Nat := (bits >>> (8 * i)) % 256
def sub (bits lo hi : Nat) : Nat := (bits >>> (8 * lo)) % 2 ^ (8 * (hi - lo))
def bytesFrom (bits : Nat) : Nat → Nat → List Nat
  | 0, _ => []
  | n + 1, i => byteAt bits i :: bytesFrom bits n (i + 1)
mutual
def ofValue : Value → Option V
  | .bool b => some (.bool b)
  | .int k n => some (.int k n)
  | .string s => some (.str s.size (packL (s.data.toList.map (·.toNat))))
  | .pointer none => some .nilp
  | .pointer (some ⟨g, o, none⟩) => some (.gptr g o)
  | .slice none 0 0 => some .nils
  | .map none => some .nilm
  | .nilFunc => some .nilf
  | .nilIface => some .nili
  | .iface t v => (ofValue v).map (.iface t)
  | .agg ⟨cs⟩ => (ofValues cs).map .agg
  | .tuple ⟨cs⟩ => (ofValues cs).map .tup
  | .func f ⟨[]⟩ ⟨[]⟩ => some (.fn f [] [])
  | _ => none
def ofValues : List Value → Option (List V)
  | [] => some []
  | v :: r => match ofValue v, ofValues r with
    | some x, some xs => some (x :: xs)
    | _, _ => none
end
abbrev Env := T V
def evalO (e : Env) : Operand → Option V
  | .tmp t => e.get t
  | .const v => ofValue v
  | .global g => some (.gptr g 0)
  | .func f => some (.fn (.func f) [] [])
def evalL (e : Env) : List Operand → Option (List V)
  | [] => some []
  | o :: r => match evalO e o with
    | some x => match evalL e r with
      | some xs => some (x :: xs)
      | none => none
    | none => none
def V.one : V → Bool
  | .agg _ | .tup _ => false
  | _ => true
def oneL : List V → Bool
  | [] => true
  | v :: r => v.one && oneL r
def V.cells : V → List V
  | .agg cs => cs
  | v => [v]
def Mem.new (m : Mem) (el : TypeId) (c : T V) (n tot : Nat) : Nat × Mem :=
  (m.next, { gl := m.gl, next := m.next + 1, blks := m.blks.set m.next (.cells ⟨m.next, n, 0, el, tot, false, true, c⟩), fams := m.fams.set m.next [m.next] })
def putL (c : T V) (i : Nat) : List V → T V
  | [] => c
  | v :: r => putL (c.set i v) (i + 1) r
def Mem.newL (m : Mem) (el : TypeId) (cs : List V) (n : Nat) : Nat × Mem := m.new el (putL .nil 0 cs) n n
def Mem.newU (m : Mem) (el : TypeId) (cs : List V) (n : Nat) : Nat × Mem := m.new el (putL .nil 0 cs) n 0
def Mem.cell (m : Mem) (b i : Nat) : Option V :=
  match m.blks.get b with
  | some (.cells k) => bif k.live then (bif Nat.blt i k.n then k.c.get i else none) else none
  | _ => none
def getL (c : T V) : Nat → Nat → Option (List V)
  | 0, _ => some []
  | n + 1, i => match c.get i with
    | some v => match getL c n (i + 1) with
      | some vs => some (v :: vs)
      | none => none
    | none => none
def Mem.row (m : Mem) (b i n : Nat) : Option (List V) :=
  match m.blks.get b with
  | some (.cells k) => bif k.live then (bif Nat.ble (i + n) k.n then getL k.c n i else none) else none
  | _ => none
def kill (bs : T Blk) (b : Nat) : T Blk :=
  match bs.get b with
  | some (.cells k) => bs.set b (.cells k.dead)
  | _ => bs
def killL (bs : T Blk) : List Nat → T Blk
  | [] => bs
  | b :: r => killL (kill bs b) r
def cutAt (b : Nat) : List Nat → List Nat × List Nat
  | [] => ([], [])
  | x :: r => bif Nat.beq x b then ([], r) else match cutAt b r with | (p, q) => (x :: p, q)
def sizeB (bs : T Blk) (b : Nat) : Nat :=
  match bs.get b with
  | some (.cells k) => k.n
  | _ => 0
def cutLow (bs : T Blk) (i : Nat) : List Nat → List Nat × List Nat
  | [] => ([], [])
  | x :: r => bif Nat.ble (sizeB bs x) i then ([], x :: r) else match cutLow bs i r with | (p, q) => (x :: p, q)
def Mem.write (m : Mem) (b i : Nat) (vs : List V) : Option Mem :=
  match m.blks.get b with
  | some (.cells k) =>
    bif k.live && !k.ro && Nat.ble k.fz i && Nat.ble (i + vs.length) k.n && oneL vs then
      match m.fams.get k.fam with
      | some ch =>
        match cutAt b ch with
        | (pre, post) => match cutLow m.blks i post with
          | (low, rest) =>
            match pre, low with
            | [], [] => some { m with blks := m.blks.set b (.cells (k.withC (putL k.c i vs))) }
            | _, _ => some { m with blks := killL (killL (m.blks.set b (.cells (k.withC (putL k.c i vs)))) pre) low, fams := m.fams.set k.fam (b :: rest) }
      | none => none
    else none
  | _ => none
def Mem.append (m : Mem) (el : TypeId) (sz b off len cap j : Nat) (xs : List V) : Option (V × Mem) :=
  bif Nat.ble (len + j) cap then
    (match m.write b (off + len * sz) xs with
    | some m' => some (.sl b off (len + j) cap sz, m')
    | none => none)
  else
    match m.blks.get b with
    | some (.cells k) =>
      bif k.live && !k.ro && Nat.ble (len * sz) k.n && Nat.beq off 0 && Nat.ble k.fz (len * sz) && oneL xs && Nat.beq k.el el then
        match m.fams.get k.fam with
        | some ch =>
          match cutAt b ch with
          | (pre, post) => match cutLow m.blks (len * sz) post with
            | (low, rest) =>
              some (.sl m.next 0 (len + j) (len + j) sz,
                { gl := m.gl, next := m.next + 1,
                  blks := (killL (killL (m.blks.set b (.cells (k.cutN (len * sz)))) pre) low).set m.next (.cells (k.grown ((len + j) * sz) (putL k.c (len * sz) xs))),
                  fams := m.fams.set k.fam (m.next :: b :: rest) })
        | none => none
      else none
    | _ => none
def Mem.freezeB (m : Mem) (b hi : Nat) : Option Mem :=
  match m.blks.get b with
  | some (.cells k) => bif k.live && !k.ro && Nat.ble hi k.n then
      (match m.fams.get k.fam with
      | some [x] => bif Nat.beq x b then some { m with blks := m.blks.set b (.cells (k.frz (bif Nat.ble hi k.fz then k.fz else hi))) } else none
      | some ch => (match cutAt b ch with
        | (pre, post) => some { m with blks := killL (killL (m.blks.set b (.cells (k.frz (bif Nat.ble hi k.fz then k.fz else hi)))) pre) post, fams := m.fams.set k.fam [b] })
      | none => none) else none
  | _ => none
def wrapI (k : IntKind) (n : Int) : Int :=
  match k, n with
  | .i64, .ofNat a => bif Nat.blt a 9223372036854775808 then .ofNat a else IntKind.wrap .i64 (.ofNat a)
  | .u8, .ofNat a => .ofNat (a % 256)
  | k, n => IntKind.wrap k n
def pureRun {α : Type} (p : Program) : Sem α → Option α
  | .pure a => some a
  | .program k => pureRun p (k p)
  | .mark _ k => pureRun p k
  | _ => none
def intLt (a b : Int) : Bool := match a, b with
  | .ofNat a, .ofNat b => Nat.blt a b
  | .negSucc _, .ofNat _ => true
  | .ofNat _, .negSucc _ => false
  | .negSucc a, .negSucc b => Nat.blt b a
def intEq (a b : Int) : Bool := match a, b with
  | .ofNat a, .ofNat b => Nat.beq a b
  | .negSucc a, .negSucc b => Nat.beq a b
  | _, _ => false
def intAdd (a b : Int) : Int := match a, b with
  | .ofNat a, .ofNat b => .ofNat (a + b)
  | a, b => Int.add a b
def intSub (a b : Int) : Int := match a, b with
  | .ofNat a, .ofNat b => bif Nat.ble b a then .ofNat (a - b) else .negSucc (b - a - 1)
  | a, b => a - b
def kindEq : IntKind → IntKind → Bool
  | .i8, .i8 | .i16, .i16 | .i32, .i32 | .i64, .i64 | .u8, .u8 | .u16, .u16 | .u32, .u32 | .u64, .u64 => true
  | _, _ => false
def intOp (p : Program) (op : BinOp) (k : IntKind) (a b : Int) : Option V :=
  match op with
  | .add => some (.int k (wrapI k (intAdd a b)))
  | .sub => some (.int k (wrapI k (intSub a b)))
  | .mul => some (.int k (wrapI k (a * b)))
  | .quo => bif intEq b 0 then none else some (.int k (wrapI k (a.tdiv b)))
  | .rem => bif intEq b 0 then none else some (.int k (a.tmod b))
  | .eql => some (.bool (intEq a b))
  | .neq => some (.bool (!intEq a b))
  | .lss => some (.bool (intLt a b))
  | .leq => some (.bool (!intLt b a))
  | .gtr => some (.bool (intLt b a))
  | .geq => some (.bool (!intLt a b))
  | op => match pureRun p (Op.intBits op k a b) with
    | some (.int k n) => some (.int k n)
    | _ => none
def cmpBytes (a b : Nat) : Nat → Nat → Nat → Bool
  | _, 0, _ => false
  | 0, _ + 1, _ => true
  | n + 1, m + 1, i => Nat.blt (byteAt a i) (byteAt b i) || (Nat.beq (byteAt a i) (byteAt b i) && cmpBytes a b n m (i + 1))
def strLt (la a lb b : Nat) : Bool := cmpBytes a b la lb 0
def strEq (la a lb b : Nat) : Bool := Nat.beq la lb && Nat.beq a b
def strOp (op : BinOp) (la a lb b : Nat) : Option V :=
  match op with
  | .add => bif Nat.ble (la + lb) 9223372036854775807 then some (.str (la + lb) (a + (b <<< (8 * la)))) else none
  | .eql => some (.bool (strEq la a lb b))
  | .neq => some (.bool (!strEq la a lb b))
  | .lss => some (.bool (strLt la a lb b))
  | .leq => some (.bool (strLt la a lb b || strEq la a lb b))
  | .gtr => some (.bool (!(strLt la a lb b || strEq la a lb b)))
  | .geq => some (.bool (!strLt la a lb b))
  | _ => none
def partV (p : Program) (t : TypeId) (cs : List V) (off : Nat) : Option V :=
  match p.underlying t with
  | some (.struct _) | some (.array _ _) => some (.agg ((cs.drop off).take (p.cellsOf t)))
  | some _ => cs[off]?
  | none => none
def eqAW (p : Program) (eq : TypeId → V → V → Option Bool) (el : TypeId) (sz : Nat) : Nat → Nat → List V → List V → Option Bool
  | 0, _, _, _ => some true
  | n + 1, i, xs, ys =>
    match partV p el xs (i * sz), partV p el ys (i * sz) with
    | some a, some b => match eq el a b with
      | some true => eqAW p eq el sz n (i + 1) xs ys
      | some false => some false
      | none => none
    | _, _ => none
def eqFW (p : Program) (eq : TypeId → V → V → Option Bool) : List Field → List V → List V → Option Bool
  | [], _, _ => some true
  | f :: fs, xs, ys =>
    if f.name = "_" then eqFW p eq fs xs ys else
    match partV p f.type xs f.offset, partV p f.type ys f.offset with
    | some a, some b => match eq f.type a b with
      | some true => eqFW p eq fs xs ys
      | some false => some false
      | none => none
    | _, _ => none
def eqV (p : Program) : Nat → TypeId → V → V → Option Bool
  | 0, _, _, _ => none
  | d + 1, t, x, y =>
    match p.underlying t with
    | none => none
    | some desc =>
      match desc, x, y with
      | .bool, .bool a, .bool b => some (bif a then b else !b)
      | .int _, .int k a, .int k' b => bif kindEq k k' then some (intEq a b) else none
      | .string, .str la a, .str lb b => some (strEq la a lb b)
      | .pointer e, .ptr b i, .ptr b' i' => bif Nat.beq b b' && Nat.beq i i' then (match p.info? e with | some _ => some true | none => none) else none
      | .pointer _, .nilp, .nilp => some true
      | .pointer _, .nilp, .ptr _ _ => some false
      | .pointer _, .nilp, .gptr _ _ => some false
      | .pointer _, .ptr _ _, .nilp => some false
      | .pointer _, .gptr _ _, .nilp => some false
      | .interface _, .nili, .nili => some true
      | .interface _, .nili, .iface _ _ => some false
      | .interface _, .iface _ _, .nili => some false
      | .interface _, .iface tx vx, .iface ty vy =>
        bif Nat.beq tx ty then
          (match p.info? tx with
          | some info => bif info.comparable then eqV p d tx vx vy else none
          | none => none)
        else some false
      | .struct fields, .agg xs, .agg ys =>
        bif p.stoodInHeld t then none else eqFW p (eqV p d) fields.toList xs ys
      | .array n el, .agg xs, .agg ys => (match p.info? el with | some _ => eqAW p (eqV p d) el (p.cellsOf el) n 0 xs ys | none => none)
      | .unsafePointer, .nilp, .nilp => some true
      | .slice _, .nils, .nils => some true
      | .slice _, .nils, .sl _ _ _ _ _ => some false
      | .slice _, .sl _ _ _ _ _, .nils => some false
      | .map _ _, .nilm, .nilm => some true
      | .map _ _, .nilm, .map _ => some false
      | .map _ _, .map _, .nilm => some false
      | .func _ _ _, .nilf, .nilf => some true
      | .func _ _ _, .nilf, .fn _ _ _ => some false
      | .func _ _ _, .fn _ _ _, .nilf => some false
      | _, _, _ => none
def nilOk (p : Program) (t : TypeId) : Bool := match p.underlying t with | some (.interface ms) => ms.isEmpty | some _ => true | none => false
def resOp (op : BinOp) (k : IntKind) (c r : Nat) (k' : IntKind) (b : Int) : Option V :=
  match op, k, k', b with
  | .rem, .u64, .u64, .ofNat (b + 1) => bif Nat.beq (b + 1) c then some (.int .u64 (.ofNat r)) else none
  | .and, .u64, .u64, .ofNat b => bif Nat.beq (b + 1) c && Nat.beq (2 ^ Nat.log2 c) c && Nat.ble c 4294967296 then some (.int .u64 (.ofNat r)) else none
  | .and, .i64, .i64, .ofNat b => bif Nat.beq (b + 1) c && Nat.beq (2 ^ Nat.log2 c) c && Nat.ble c 4294967296 then some (.int .i64 (.ofNat r)) else none
  | _, _, _, _ => none
def guardOk (p : Program) (t : TypeId) (x y : Operand) (a b : V) : Bool :=
  match a, b with
  | .nili, .nili => (match x with | .const _ => true | _ => false) || (match y with | .const _ => true | _ => false) || nilOk p t
  | .agg _, .agg _ => !p.eqGuardType p.depth t
  | _, _ => true
def binV (p : Program) (op : BinOp) (t : TypeId) (ox oy : Operand) (x y : V) : Option V :=
  match x, y with
  | .int k a, .int k' b =>
    match op with
    | .shl => (match pureRun p (Op.shift .shl k a k' b) with | some (.int k n) => some (.int k n) | _ => none)
    | .shr => (match pureRun p (Op.shift .shr k a k' b) with | some (.int k n) => some (.int k n) | _ => none)
    | op => bif kindEq k k' then intOp p op k a b else none
  | .str la a, .str lb b => strOp op la a lb b
  | .res k c r, .int k' b => resOp op k c r k' b
  | .res _ _ _, _ => none
  | _, .res _ _ _ => none
  | x, y =>
    match op with
    | .eql => bif guardOk p t ox oy x y then (eqV p 10000 t x y).map .bool else none
    | .neq => bif guardOk p t ox oy x y then (eqV p 10000 t x y).map fun b => .bool (!b) else none
    | _ => none
def unV (p : Program) (op : UnOp) (x : V) : Option V :=
  match op, x with
  | .not, .bool b => some (.bool (!b))
  | op, .int k n => match pureRun p (Op.unary op (.int k n)) with
    | some (.int k n) => some (.int k n)
    | _ => none
  | _, _ => none
def sizeQ (p : Program) (t : TypeId) : Option Nat := match p.info? t with | some i => some i.size | none => none
def asNat : V → Option Nat
  | .int _ (.ofNat n) => some n
  | _ => none
def optNat (d : Nat) : Option V → Option Nat
  | none => some d
  | some v => asNat v
def sliceV (p : Program) (t : TypeId) (x : V) (lo hi : Option V) : Option V :=
  match p.underlying t, x with
  | some .string, .str len bits =>
    match optNat 0 lo, optNat len hi with
    | some l, some h => bif Nat.ble l h && Nat.ble h len then some (.str (h - l) (sub bits l h)) else none
    | _, _ => none
  | some (.slice e), .sl b off len cap sz =>
    match optNat 0 lo, optNat len hi, sizeQ p e with
    | some l, some h, some s => bif Nat.ble l h && Nat.ble h cap && Nat.beq s sz then some (.sl b (off + l * sz) (h - l) (cap - l) sz) else none
    | _, _, _ => none
  | some (.slice e), .nils =>
    match optNat 0 lo, optNat 0 hi, sizeQ p e with
    | some l, some h, some _ => bif Nat.beq l 0 && Nat.beq h 0 then some .nils else none
    | _, _, _ => none
  | _, _ => none
def sliceA (p : Program) (m : Mem) (t : TypeId) (x : V) (lo hi : Option V) : Option V :=
  match p.underlying t, x with
  | some (.array n e), .ptr b off =>
    match optNat 0 lo, optNat n hi, m.blks.get b, sizeQ p e with
    | some l, some h, some (.cells k), some s => bif Nat.ble l h && Nat.ble h n && k.live && !k.ro && Nat.ble (off + n * s) k.n then some (.sl b (off + l * s) (h - l) (n - l) s) else none
    | _, _, _, _ => none
  | _, _ => none
def indexAddrV (p : Program) (t : TypeId) (x i : V) : Option V :=
  match p.underlying t, x, asNat i with
  | some (.slice el), .sl b off len _ sz, some i => (match sizeQ p el with
    | some s => bif Nat.blt i len && Nat.beq s sz then some (.ptr b (off + i * sz)) else none
    | none => none)
  | some (.array n el), .ptr b off, some i => (match sizeQ p el with
    | some s => bif Nat.blt i n then some (.ptr b (off + i * s)) else none
    | none => none)
  | _, _, _ => none
def indexV (p : Program) (t : TypeId) (x i : V) : Option V :=
  match p.underlying t, x, asNat i with
  | some .string, .str len bits, some i => bif Nat.blt i len then some (.int .u8 (.ofNat (byteAt bits i))) else none
  | some (.array n el), .agg cs, some i => (match sizeQ p el with
    | some s => bif Nat.blt i n then partV p el cs (i * s) else none
    | none => none)
  | _, _, _ => none
def fillV (cs : List V) (off : Nat) (vs : List V) : List V := cs.take off ++ vs ++ cs.drop (off + vs.length)
def buildParts (place : Nat → Option (Nat × Nat)) : List (Nat × V) → List V → Option (List V)
  | [], cs => some cs
  | (i, v) :: r, cs => match place i with
    | some (off, sz) => bif Nat.beq v.cells.length sz && Nat.ble (off + sz) cs.length then buildParts place r (fillV cs off v.cells) else none
    | none => none
def evalParts (e : Env) : List (Nat × Operand) → Option (List (Nat × V))
  | [] => some []
  | (i, o) :: r => match evalO e o, evalParts e r with
    | some v, some vs => some ((i, v) :: vs)
    | _, _ => none
def zeroV (p : Program) (t : TypeId) : Option V :=
  match p.info? t with
  | some i => match i.zero with
    | some z => ofValue z
    | none => none
  | none => none
def isAggT (p : Program) (t : TypeId) : Bool :=
  match p.underlying t with
  | some (.struct _) | some (.array _ _) => true
  | _ => false
def repL (cs : List V) : Nat → List V
  | 0 => []
  | n + 1 => cs ++ repL cs n
def convN (p : Program) (src dst : TypeId) (x : V) : Option V :=
  match p.underlying src, p.underlying dst, x with
  | some _, some (.int k), .int _ n => some (.int k (wrapI k n))
  | some _, some .string, .str l b => some (.str l b)
  | some _, some (.int .u64), .res _ c r => some (.res .u64 c r)
  | some _, some (.int .i64), .res _ c r => some (.res .i64 c r)
  | _, _, _ => none
def bytesV : List V → Option (List Nat)
  | [] => some []
  | .int .u8 (.ofNat n) :: r => (match bytesV r with
    | some ns => bif Nat.blt n 256 then some (n :: ns) else none
    | none => none)
  | _ :: _ => none
def byteVs (bits n i : Nat) : List V := (bytesFrom bits n i).map fun n => V.int .u8 (.ofNat n)
def convM (p : Program) (m : Mem) (src dst : TypeId) (x : V) : Option (V × Mem) :=
  match p.underlying src, p.underlying dst, x with
  | some (.pointer t), some .unsafePointer, .ptr b i => (match sizeQ p t, m.cell b i with | some (_ + 1), some _ => some (.ptr b i, m) | _, _ => none)
  | some .unsafePointer, some (.pointer u), .ptr b i => (match sizeQ p u, m.blks.get b with
    | some _, some (.cells k) => bif k.live && !k.ro && !Nat.beq k.tot 0 && Nat.blt i k.n && liesAt p p.depth k.el (k.tot / p.cellsOf k.el) i u 1 then some (.ptr b i, m) else none
    | _, _ => none)
  | some (.slice e), some .string, .nils => (match p.underlying e with | some (.int .u8) => some (.str 0 0, m) | _ => none)
  | some (.slice e), some .string, .sl b off len _ _ =>
    (match p.underlying e with
    | some (.int .u8) => (match m.row b off len with
      | some cs => (match bytesV cs with
        | some ns => some (.str len (packL ns), m)
        | none => none)
      | none => none)
    | _ => none)
  | _, _, _ => none
def missB (want : Array (String × TypeId)) (got : Array Method) : Bool := want.toList.any fun x => !got.toList.any fun m => m.name == x.1 && m.sig == x.2
def assertV (p : Program) (x : V) (asserted : TypeId) (ok : Bool) : Option V :=
  let holds (v : V) : Option V := some (bif ok then .tup [v, .bool true] else v)
  let fails : Option V := bif ok then (zeroV p asserted).map fun z => .tup [z, .bool false] else none
  match p.underlying asserted, x with
  | some (.interface _), .nili => fails
  | some (.interface want), .iface t _ =>
    match p.info? t with
    | some i => match missB want i.methods with
      | false => holds x
      | true => fails
    | none => none
  | some _, .nili => fails
  | some _, .iface t v => bif Nat.beq t asserted then holds v else fails
  | _, _ => none
def keyEq : V → V → Option Bool
  | .int k a, .int k' b => bif kindEq k k' then some (intEq a b) else none
  | .str la a, .str lb b => some (strEq la a lb b)
  | .bool a, .bool b => some (bif a then b else !b)
  | _, _ => none
def findV (k : V) : List (V × V) → Option (Option V)
  | [] => some none
  | (x, v) :: r => match keyEq k x with
    | some true => some (some v)
    | some false => findV k r
    | none => none
def putV (k v : V) : List (V × V) → Option (List (V × V))
  | [] => some [(k, v)]
  | (x, u) :: r => match keyEq k x with
    | some true => some ((x, v) :: r)
    | some false => (putV k v r).map ((x, u) :: ·)
    | none => none
inductive R where
  | val (v : V) (m : Mem)
  | skip (m : Mem)
  | call (f : FuncId) (args : List V) (m : Mem)
  | fail
def R.of : Option V → Mem → R
  | some v, m => .val v m
  | none, _ => .fail
def R.of2 : Option (V × Mem) → R
  | some (v, m) => .val v m
  | none => .fail
def loadV (p : Program) (m : Mem) (t : TypeId) (a : V) : Option V :=
  match p.underlying t with
  | none => none
  | some _ =>
    match a with
    | .gptr g o => bif isAggT p t then none else m.gl g o
    | .ptr b i => bif isAggT p t then (match m.row b i (p.cellsOf t) with
        | some vs => some (.agg vs)
        | none => none)
      else m.cell b i
    | _ => none
def storeV (p : Program) (m : Mem) (t : TypeId) (a x : V) : Option Mem :=
  match a with
  | .ptr b i => (match sizeQ p t with
    | some s => bif Nat.beq x.cells.length s then m.write b i x.cells else none
    | none => none)
  | _ => none
def roomOk (p : Program) (e : TypeId) : Bool := (match zeroV p e with | some z => Nat.beq z.cells.length (p.cellsOf e) && oneL z.cells | none => false) && Nat.ble (p.bytesOf e) (2 ^ 16)
def makeSliceV (p : Program) (m : Mem) (t : TypeId) (l c : V) : Option (V × Mem) :=
  match p.underlying t, asNat l, asNat c with
  | some (.slice e), some l, some c =>
    bif Nat.ble l c && Nat.ble c (2 ^ 24) && roomOk p e then
      match zeroV p e with
      | some z => (match m.newL e (repL z.cells c) (c * p.cellsOf e) with
        | (g, m') => some (.sl g 0 l c (p.cellsOf e), m'))
      | none => none
    else none
  | _, _, _ => none
def addedV (p : Program) (m : Mem) (argTypes : Array TypeId) (e : TypeId) (x : V) : Option (Nat × List V) :=
  match x with
  | .nils => some (0, [])
  | .sl b off len _ _ => (m.row b off (len * p.cellsOf e)).map fun cs => (len, cs)
  | .str l b => some (l, byteVs b l 0)
  | .int .i64 (.ofNat n) => (match argTypes[1]? with
    | some t => (match p.underlying t, zeroV p e with
      | some (.int _), some z => bif Nat.ble n (2 ^ 24) then some (n, repL z.cells n) else none
      | _, _ => none)
    | none => none)
  | _ => none
def appendTo (p : Program) (m : Mem) (e : TypeId) (s : V) (k : Nat) (cs : List V) : Option (V × Mem) :=
  match s with
  | .nils => bif Nat.ble k (2 ^ 24) && oneL cs then (match m.newU e cs (k * p.cellsOf e) with
    | (g, m') => some (.sl g 0 k k (p.cellsOf e), m')) else none
  | .sl b off len cap sz => bif Nat.beq sz (p.cellsOf e) && Nat.ble (len + k) (2 ^ 24) then m.append e sz b off len cap k cs else none
  | _ => none
def isSlice : V → Bool
  | .nils | .sl _ _ _ _ _ => true
  | _ => false
def numOk (p : Program) (argTypes : Array TypeId) (x : V) : Bool :=
  match argTypes[1]? with
  | none => true
  | some t => match p.underlying t with
    | none => false
    | some (.int _) => (match x with
      | .int .i64 _ => true
      | _ => false)
    | some _ => (match x with
      | .int _ _ => false
      | _ => true)
def appendV (p : Program) (m : Mem) (argTypes : Array TypeId) (s x : V) : Option (V × Mem) :=
  match argTypes[0]? with
  | none => none
  | some st => match p.underlying st with
    | some (.slice e) =>
      bif roomOk p e && numOk p argTypes x then
        (match addedV p m argTypes e x with
        | none => none
        | some (k, cs) =>
          bif Nat.beq k 0 then (bif isSlice s then some (s, m) else none)
          else bif Nat.beq cs.length (k * p.cellsOf e) then appendTo p m e s k cs else none)
      else none
    | _ => none
def lenN (p : Program) (t : TypeId) (x : V) : Option V :=
  match p.underlying t, x with
  | some .string, .str l _ => some (.int .i64 (.ofNat l))
  | some (.array n _), _ => some (.int .i64 (.ofNat n))
  | some (.slice _), .nils => some (.int .i64 0)
  | some (.slice _), .sl _ _ n _ _ => some (.int .i64 (.ofNat n))
  | some (.map _ _), .nilm => some (.int .i64 0)
  | _, _ => none
def keyOk (p : Program) (t : TypeId) (k : V) : Bool :=
  match p.underlying t, k with
  | some (.int _), .int _ _ => true
  | some .string, .str _ _ => true
  | some .bool, .bool _ => true
  | _, _ => false
def lookupV (p : Program) (m : Mem) (t : TypeId) (x k : V) (ok : Bool) : Option V :=
  match p.underlying t with
  | some (.map kt el) => bif keyOk p kt k then
    (match (match x with
      | .nilm => some []
      | .map r => (match m.blks.get r with | some (.map es) => some es | _ => none)
      | _ => none : Option (List (V × V))) with
    | none => none
    | some es => match findV k es with
      | some (some v) => some (bif ok then .tup [v, .bool true] else v)
      | some none => (match zeroV p el with | some z => some (bif ok then .tup [z, .bool false] else z) | none => none)
      | none => none) else none
  | _ => none
def mapSetV (p : Program) (m : Mem) (t : TypeId) (r : Nat) (k v : V) : Option Mem :=
  match p.underlying t, m.blks.get r with
  | some (.map kt _), some (.map es) => bif keyOk p kt k then (match putV k v es with
    | some es' => some { m with blks := m.blks.set r (.map es') }
    | none => none) else none
  | _, _ => none
def copyV (p : Program) (m : Mem) (argTypes : Array TypeId) (d s : V) : Option (V × Mem) :=
  match argTypes[0]? with
  | none => none
  | some dt => match p.underlying dt with
    | some (.slice e) =>
      (match sizeQ p e, d, s with
      | some sz, .sl b off len _ s1, .sl b' off' len' _ s2 => bif Nat.beq sz s1 && Nat.beq sz s2 && Nat.blt 0 len then
          (match m.row b' off' ((bif Nat.ble len' len then len' else len) * sz) with
          | some cs => (match m.write b off cs with
            | some m' => some (.int .i64 (.ofNat (bif Nat.ble len' len then len' else len)), m')
            | none => none)
          | none => none) else none
      | _, _, _ => none)
    | _ => none
def builtinN (p : Program) (b : Builtin) (ts : Array TypeId) (args : List V) : Option V :=
  match b, args with
  | .len, [x] => (match ts[0]? with | some t => lenN p t x | none => none)
  | .min, [.int k a, .int k' b] => bif kindEq k k' then some (.int k (bif intLt b a then b else a)) else none
  | .max, [.int k a, .int k' b] => bif kindEq k k' then some (.int k (bif intLt a b then b else a)) else none
  | .cap, [.nils] => (match ts[0]? with | some t => (match p.underlying t with | some (.slice _) => some (.int .i64 0) | _ => none) | none => none)
  | .unsafeSliceData, [.nils] => some .nilp
  | .unsafeSliceData, [.sl b off _ (_ + 1) _] => some (.ptr b off)
  | .unsafeString, [.nilp, .int _ (.ofNat 0)] => (match ts[0]? with | some _ => some (.str 0 0) | none => none)
  | .unsafeString, [.ptr _ _, .int _ (.ofNat 0)] => (match ts[0]? with | some _ => some (.str 0 0) | none => none)
  | _, _ => none
def builtinV (p : Program) (m : Mem) (b : Builtin) (ts : Array TypeId) (args : List V) : R :=
  match b, args with
  | .len, [.map r] => (match ts[0]? with | some t => (match p.underlying t, m.blks.get r with | some (.map _ _), some (.map es) => .val (.int .i64 (.ofNat es.length)) m | _, _ => .fail) | none => .fail)
  | .append, [s, x] => R.of2 (appendV p m ts s x)
  | .copy, [d, s] => R.of2 (copyV p m ts d s)
  | .unsafeString, [.ptr b i, .int _ (.ofNat (n + 1))] => (match m.blks.get b with
    | some (.cells k) => bif Nat.beq (p.cellsOf k.el) 1 && (match ts[0]? with | some pt => (match p.underlying pt with | some (.pointer u) => sameLayout p p.depth k.el u | _ => false) | none => false) && Nat.ble (n + 1) (2 ^ 40) then
      (match m.row b i (n + 1) with
      | some cs => (match bytesV cs, m.freezeB b (i + n + 1) with
        | some ns, some m' => .val (.str (n + 1) (packL ns)) m'
        | _, _ => .fail)
      | none => .fail) else .fail
    | _ => .fail)
  | _, _ => .fail
def getX (p : Program) (m : Mem) (t : TypeId) : V ⊕ (Nat × Nat) → Option V
  | .inl v => some v
  | .inr (b, i) => loadV p m t (.ptr b i)
def followV (p : Program) (m : Mem) : List FieldStep → TypeId → V ⊕ (Nat × Nat) → Option (TypeId × (V ⊕ (Nat × Nat)))
  | [], t, x => some (t, x)
  | s :: rest, t, x =>
    match p.underlying s.struct with
    | some (.struct fs) => match fs[s.index]? with
      | none => none
      | some f => match sizeQ p f.type with
        | some (_ + 1) =>
          bif s.deref then
            (match getX p m t x with
            | some (.ptr b i) => followV p m rest f.type (.inr (b, i + f.offset))
            | _ => none)
          else match x with
            | .inr (b, i) => followV p m rest f.type (.inr (b, i + f.offset))
            | .inl (.agg cs) => (match partV p f.type cs f.offset with
              | some v => followV p m rest f.type (.inl v)
              | none => none)
            | .inl _ => none
        | _ => none
    | _ => none
def receiverV (p : Program) (m : Mem) (xt : TypeId) (x : V ⊕ (Nat × Nat)) (pr : Bool) : Option V :=
  match p.underlying xt, pr, x with
  | some (.pointer _), true, x => getX p m xt x
  | some (.pointer e), false, x => (match getX p m xt x with
    | some (.ptr b i) => loadV p m e (.ptr b i)
    | _ => none)
  | some _, true, .inr (b, i) => some (.ptr b i)
  | some _, true, .inl _ => none
  | some _, false, x => getX p m xt x
  | none, _, _ => none
def methodV (p : Program) (m : Mem) (t : TypeId) (v : V) (name : String) : Option (FuncId × V) :=
  match p.info? t with
  | none => none
  | some i => match i.methods.toList.find? (fun x => x.name == name) with
    | none => none
    | some mt => match followV p m mt.path.toList t (.inl v) with
      | none => none
      | some (xt, x) => match mt.func with
        | none => none
        | some (f, pr) => (receiverV p m xt x pr).map fun r => (f, r)
abbrev XB := FuncId → List V → Mem → Option (V × Mem)
def externV (p : Program) (xb : XB) (m : Mem) (f : FuncId) (args : List V) : R :=
  match p.funcs[f]? with
  | none => .fail
  | some fn =>
    match fn.body with
    | some _ => .call f args m
    | none => R.of2 (xb f args m)
def findByte (bits c : Nat) : Nat → Nat → Int
  | 0, _ => -1
  | n + 1, i => bif Nat.beq (byteAt bits i) c then .ofNat i else findByte bits c n (i + 1)
def countByte (bits c : Nat) : Nat → Nat → Nat
  | 0, _ => 0
  | n + 1, i => bif Nat.beq (byteAt bits i) c then 1 + countByte bits c n (i + 1) else countByte bits c n (i + 1)
def fnV (p : Program) (xb : XB) (m : Mem) (f : V) (args : List V) : R :=
  match f with
  | .fn (.func f) first captured => externV p xb m f (first ++ args ++ captured)
  | .fn (.method name) first _ => match first ++ args with
    | .iface t v :: rest => match methodV p m t v name with
      | some (f, r) => externV p xb m f (r :: rest)
      | none => .fail
    | _ => .fail
  | .fn (.methodOf t name) first _ => match first ++ args with
    | x :: rest => match p.underlying t with
      | some (.interface _) => (match x with
        | .iface t v => match methodV p m t v name with
          | some (f, r) => externV p xb m f (r :: rest)
          | none => .fail
        | _ => .fail)
      | some _ => (match methodV p m t x name with
          | some (f, r) => externV p xb m f (r :: rest)
          | none => .fail)
      | none => .fail
    | _ => .fail
  | .fn (.via t path f pr) first _ => match first ++ args with
    | x :: rest => match followV p m path.toList t (.inl x) with
      | some (xt, y) => match receiverV p m xt y pr with
        | some r => externV p xb m f (r :: rest)
        | none => .fail
      | none => .fail
    | _ => .fail
  | _ => .fail
def callV (p : Program) (xb : XB) (e : Env) (m : Mem) (c : Call) : R :=
  match evalL e c.args.toList with
  | none => .fail
  | some args => match c.callee with
    | .builtin b => builtinV p m b c.argTypes args
    | .invoke r name => match evalO e r with
      | some (.iface t v) => (match methodV p m t v name with
        | some (f, rv) => externV p xb m f (rv :: args)
        | none => .fail)
      | _ => .fail
    | .value f => match evalO e f with
      | some f => fnV p xb m f args
      | none => .fail
def opt (e : Env) : Option Operand → Option (Option V)
  | none => some none
  | some o => match evalO e o with
    | some v => some (some v)
    | none => none
def nilCheckV : V → Option V
  | .ptr b i => some (.ptr b i)
  | .gptr g o => some (.gptr g o)
  | .iface t v => some (.iface t v)
  | .fn (.func f) a b => some (.fn (.func f) a b)
  | .sl b o l c s => some (.sl b o l c s)
  | _ => none
def infosOk (p : Program) : List Field → Bool
  | [] => true
  | f :: r => (match p.info? f.type with | some _ => true | none => false) && infosOk p r
def nV (p : Program) (e : Env) (o : Oper) : Option V :=
  match o.op with
  | .move x => evalO e x
  | .assign x => evalO e x
  | .pick c a b => (match evalO e c with
    | some (.bool true) => evalO e a
    | some (.bool false) => evalO e b
    | _ => none)
  | .build t ps => (match evalParts e ps.toList, zeroV p t with
    | some vs, some z => (match p.underlying t with
      | some (.struct fs) => bif infosOk p fs.toList then (buildParts (fun i => (fs[i]?).map fun f => (f.offset, p.cellsOf f.type)) vs z.cells).map .agg else none
      | some (.array _ el) => (match sizeQ p el with
        | some s => (buildParts (fun i => some (i * s, s)) vs z.cells).map .agg
        | none => none)
      | _ => none)
    | _, _ => none)
  | .nilCheck x => (match evalO e x with
    | some v => nilCheckV v
    | none => none)
  | .binOp op t x y _ => (match evalO e x, evalO e y with
    | some a, some b => binV p op t x y a b
    | _, _ => none)
  | .unOp op _ x => (match evalO e x with
    | some a => unV p op a
    | none => none)
  | .convert s d x => (match evalO e x with
    | some a => convN p s d a
    | none => none)
  | .makeInterface t x => (match evalO e x with
    | some a => (match p.underlying t with | some (.interface _) => none | some _ => some (.iface t a) | none => none)
    | none => none)
  | .makeFunc f a b => (match evalL e a.toList, evalL e b.toList with
    | some a, some b => some (.fn f a b)
    | _, _ => none)
  | .slice t x lo hi mx => (match evalO e x, opt e lo, opt e hi, mx with
    | some x, some lo, some hi, none => sliceV p t x lo hi
    | _, _, _, _ => none)
  | .fieldAddr s x f => (match evalO e x with
    | some (.ptr b i) => (match p.underlying s with
      | some (.struct fs) => (match fs[f]? with | some f => (match sizeQ p f.type with | some (_ + 1) => some (.ptr b (i + f.offset)) | _ => none) | none => none)
      | _ => none)
    | _ => none)
  | .field t x f => (match evalO e x with
    | some (.agg cs) => (match p.underlying t with
      | some (.struct fs) => (match fs[f]? with | some f => partV p f.type cs f.offset | none => none)
      | _ => none)
    | _ => none)
  | .indexAddr t x i => (match evalO e x, evalO e i with
    | some x, some i => indexAddrV p t x i
    | _, _ => none)
  | .index t x i => (match evalO e x, evalO e i with
    | some x, some i => indexV p t x i
    | _, _ => none)
  | .typeAssert x _ t ok => (match evalO e x with
    | some x => assertV p x t ok
    | none => none)
  | .extract t i => (match evalO e t with
    | some (.tup vs) => vs[i]?
    | _ => none)
  | .call { callee := .builtin b, args, argTypes := ts } => (match evalL e args.toList with
    | some args => builtinN p b ts args
    | none => none)
  | _ => none
def memV (p : Program) (xb : XB) (e : Env) (m : Mem) (o : Oper) : R :=
  match o.op with
  | .alloc t => (match zeroV p t with
    | some z => (match m.newL t z.cells z.cells.length with | (g, m') => .val (.ptr g 0) m')
    | none => .fail)
  | .box t x => (match evalO e x with
    | some v => (match m.newL t v.cells v.cells.length with | (g, m') => .val (.ptr g 0) m')
    | none => .fail)
  | .buildSlice t n ps => (match p.underlying t with
    | some (.slice el) => (match evalParts e ps.toList, zeroV p el with
      | some vs, some z => bif Nat.ble (n * p.cellsOf el) (2 ^ 24) && Nat.beq z.cells.length (p.cellsOf el) then (match buildParts (fun i => some (i * p.cellsOf el, p.cellsOf el)) vs (repL z.cells n) with
        | some cs => bif Nat.beq cs.length (n * p.cellsOf el) then (match m.newL el cs (n * p.cellsOf el) with | (g, m') => .val (.sl g 0 n n (p.cellsOf el)) m') else .fail
        | none => .fail) else .fail
      | _, _ => .fail)
    | _ => .fail)
  | .load t a => (match evalO e a with
    | some a => R.of (loadV p m t a) m
    | none => .fail)
  | .store t a x => (match evalO e a, evalO e x with
    | some a, some x => (match storeV p m t a x with | some m' => .skip m' | none => .fail)
    | _, _ => .fail)
  | .convert s d x => (match evalO e x with
    | some a => R.of2 (convM p m s d a)
    | none => .fail)
  | .makeMap _ none => .val (.map m.next) { m with next := m.next + 1, blks := m.blks.set m.next (.map []) }
  | .makeSlice t l c => (match evalO e l, evalO e c with
    | some l, some c => R.of2 (makeSliceV p m t l c)
    | _, _ => .fail)
  | .slice t x lo hi mx => (match evalO e x, opt e lo, opt e hi, mx with
    | some x, some lo, some hi, none => R.of (sliceA p m t x lo hi) m
    | _, _, _, _ => .fail)
  | .lookup t x k ok => (match evalO e x, evalO e k with
    | some x, some k => R.of (lookupV p m t x k ok) m
    | _, _ => .fail)
  | .mapUpdate t x k v => (match evalO e x, evalO e k, evalO e v with
    | some (.map r), some k, some v => (match mapSetV p m t r k v with | some m' => .skip m' | none => .fail)
    | _, _, _ => .fail)
  | .insert t x k v => (match evalO e x, evalO e k, evalO e v with
    | some (.map r), some k, some v => (match mapSetV p m t r k v with | some m' => .skip m' | none => .fail)
    | _, _, _ => .fail)
  | .call c => callV p xb e m c
  | _ => .fail
def opV (p : Program) (xb : XB) (e : Env) (m : Mem) (o : Oper) : R :=
  match nV p e o with
  | some v => .val v m
  | none => memV p xb e m o
def setO (nt : Nat) (e : Env) : Option Tmp → V → Option Env
  | some d, v => bif Nat.blt d nt then some (e.set d v) else none
  | none, _ => some e
abbrev CallF := FuncId → List V → Mem → Option (V × Mem)
def wantedV (ops : Array Oper) (e : Env) (o : Oper) : Option Bool :=
  match o.guard with
  | none => some true
  | some (j, want) => match ops[j]? with
    | none => none
    | some oj => match oj.dst with
      | none => none
      | some d => match e.get d with
        | some (.bool b) => some (bif b then want else !want)
        | some _ => some false
        | none => none
def R.fin (cf : CallF) : R → Option (V × Mem)
  | .val v m' => some (v, m')
  | .skip m' => some (.tup [], m')
  | .call f args m' => cf f args m'
  | .fail => none
def stepV (p : Program) (xb : XB) (cf : CallF) (ops : Array Oper) (o : Oper) (e : Env) (m : Mem) : Option (V × Mem) :=
  match wantedV ops e o with
  | none => none
  | some false => some (.tup [], m)
  | some true => (opV p xb e m o).fin cf
def opsV (p : Program) (xb : XB) (cf : CallF) (nt : Nat) (ops : Array Oper) : List Oper → Env → Mem → Option (Env × Mem)
  | [], e, m => some (e, m)
  | o :: r, e, m =>
    match stepV p xb cf ops o e m with
    | none => none
    | some (v, m') => match setO nt e o.dst v with
      | none => none
      | some e' => opsV p xb cf nt ops r e' m'
mutual
def V.beq : V → V → Bool
  | .bool a, .bool b => bif a then b else !b
  | .int k a, .int k' b => kindEq k k' && intEq a b
  | .res k c r, .res k' c' r' => kindEq k k' && Nat.beq c c' && Nat.beq r r'
  | .str la a, .str lb b => strEq la a lb b
  | .ptr b i, .ptr b' i' => Nat.beq b b' && Nat.beq i i'
  | .nilp, .nilp => true
  | .gptr b i, .gptr b' i' => Nat.beq b b' && Nat.beq i i'
  | .sl b o l c s, .sl b' o' l' c' s' => Nat.beq b b' && Nat.beq o o' && Nat.beq l l' && Nat.beq c c' && Nat.beq s s'
  | .nils, .nils => true
  | .map r, .map r' => Nat.beq r r'
  | .nilm, .nilm => true
  | .nilf, .nilf => true
  | .fn (.func f) a b, .fn (.func f') a' b' => Nat.beq f f' && V.beqL a a' && V.beqL b b'
  | .iface t v, .iface t' v' => Nat.beq t t' && v.beq v'
  | .nili, .nili => true
  | .agg xs, .agg ys => V.beqL xs ys
  | .tup xs, .tup ys => V.beqL xs ys
  | _, _ => false
def V.beqL : List V → List V → Bool
  | [], [] => true
  | x :: xs, y :: ys => x.beq y && V.beqL xs ys
  | _, _ => false
end
inductive OpClass where
  | quiet | load | deed | fresh
def classOf (o : Oper) : OpClass :=
  match o.op with
  | .move _ | .assign _ | .pick .. | .build .. | .nilCheck _ | .binOp .. | .unOp .. | .convert .. | .makeInterface .. | .makeFunc .. | .slice .. | .fieldAddr .. | .field .. | .indexAddr .. | .index .. | .typeAssert .. | .extract .. => .quiet
  | .call { callee := .builtin .len, .. } => .quiet
  | .load .. => .load
  | .alloc _ | .box .. | .buildSlice .. => .fresh
  | _ => .deed
def isDeed (o : Oper) : Bool := match classOf o with | .deed => true | _ => false
def namesOf (ops : Array Oper) (o : Oper) : List Tmp := o.dst.toList ++ o.looksAt ops
def beforesFrom : List Oper → List Nat → List Nat
  | [], acc => acc
  | o :: r, acc => beforesFrom r (acc ++ [o.after.toList.foldl (fun s e => bif Region.binds .any e then s ||| 2 ^ e.on ||| acc.getD e.on 0 else s) 0])
def pickReady (ops : Array Oper) (done : Nat) : List Nat → Option Nat → Option Nat
  | [], d => d
  | i :: r, d =>
    match ops[i]? with
    | none => d
    | some o => bif o.after.toList.all (fun e => !Region.binds .any e || done.testBit e.on) then
        (bif isDeed o then pickReady ops done r (match d with | none => some i | some x => some x) else some i)
      else pickReady ops done r d
def orderFrom (ops : Array Oper) : Nat → Nat → List Nat → List Nat
  | 0, _, _ => []
  | n + 1, done, todo => match pickReady ops done todo none with
    | none => []
    | some i => i :: orderFrom ops n (done ||| 2 ^ i) (todo.filter fun x => !Nat.beq x i)
def orderOf (ops : Array Oper) : List Nat := orderFrom ops ops.size 0 (List.range ops.size)
def pairOk (ops : Array Oper) (bf : List Nat) (i : Nat) (o : Oper) (j : Nat) : Bool :=
  match ops[j]? with
  | none => false
  | some b => (bf.getD j 0).testBit i ||
      (!isDeed o &&
       (match o.dst with | some d => !(namesOf ops b).contains d | none => true) &&
       (match b.dst with | some d => !(namesOf ops o).contains d | none => true))
def orderOk (ops : Array Oper) (bf : List Nat) : List Nat → List Nat → Bool
  | _, [] => true
  | pre, i :: r =>
    (match ops[i]? with
    | none => false
    | some o => !pre.contains i && o.after.toList.all (fun e => !Region.binds .any e || (pre.contains e.on && Nat.blt e.on i)) && r.all (pairOk ops bf i o)) &&
    orderOk ops bf (i :: pre) r
def drawOk (ops : Array Oper) : Bool :=
  orderOk ops (beforesFrom ops.toList []) [] (orderOf ops) && (List.range ops.size).all fun i => (orderOf ops).contains i
abbrev Seen := List (Nat × TypeId × V × V)
def seenOk (p : Program) (m : Mem) : Seen → Bool
  | [] => true
  | (_, t, a, v) :: r => (match loadV p m t a with | some u => u.beq v | none => false) && seenOk p m r
def seenOn {α : Type} (bi : Nat) : List (Nat × α) → List (Nat × α)
  | [] => []
  | x :: r => bif bi.testBit x.1 then seenOn bi r else x :: seenOn bi r
abbrev Rows' := List (Nat × Nat × CB)
def sameCB (a b : CB) : Bool :=
  Nat.beq a.fam b.fam && Nat.beq a.n b.n && Nat.beq a.fz b.fz && Nat.beq a.el b.el && Nat.beq a.tot b.tot && (bif a.ro then b.ro else !b.ro) && (bif a.live then b.live else !b.live) &&
  match getL a.c a.n 0, getL b.c a.n 0 with
  | some xs, some ys => V.beqL xs ys
  | _, _ => false
def rowsOk (m : Mem) : Rows' → Bool
  | [] => true
  | (_, b, k) :: r => (match m.blks.get b, m.fams.get b with | some (.cells k'), some [x] => sameCB k k' && Nat.beq x b | _, _ => false) && rowsOk m r
def drawV (p : Program) (xb : XB) (cf : CallF) (nt : Nat) (ops : Array Oper) (bf : List Nat) : List Nat → Env → Mem → Seen → Rows' → Option (Env × Mem)
  | [], e, m, _, _ => some (e, m)
  | i :: r, e, m, seen, fr =>
    match ops[i]? with
    | none => none
    | some o =>
    match wantedV ops e o with
    | none => none
    | some false => (match setO nt e o.dst (.tup []) with
      | some e' => drawV p xb cf nt ops bf r e' m seen fr
      | none => none)
    | some true =>
      match classOf o with
      | .quiet => (match nV p e o with
        | some v => match setO nt e o.dst v with
          | some e' => drawV p xb cf nt ops bf r e' m seen fr
          | none => none
        | none => none)
      | .load => (match o.op with
        | .load t x => (match evalO e x with
          | some a => (match loadV p m t a with
            | some v => (match setO nt e o.dst v with
                | some e' => drawV p xb cf nt ops bf r e' m ((i, t, a, v) :: seen) fr
                | none => none)
            | none => none)
          | none => none)
        | _ => none)
      | .fresh => (match memV p xb e m o with
        | .val v m' => (match setO nt e o.dst v, m'.blks.get m.next, m.blks.get m.next with
          | some e', some (.cells k), none => drawV p xb cf nt ops bf r e' m' seen ((i, m.next, k) :: fr)
          | _, _, _ => none)
        | _ => none)
      | .deed => (match stepV p xb cf ops o e m with
        | some (v, m') => bif seenOk p m' (seenOn (bf.getD i 0) seen) && rowsOk m' (seenOn (bf.getD i 0) fr) && Nat.ble m.next m'.next then
            (match setO nt e o.dst v with
            | some e' => drawV p xb cf nt ops bf r e' m' (seenOn (bf.getD i 0) seen) (seenOn (bf.getD i 0) fr)
            | none => none) else none
        | none => none)
inductive X where
  | normal | exit (id : Nat) | ret
inductive Out where
  | ok (x : X) (e : Env) (m : Mem)
  | fail
def iter (f : Env → Mem → Out) : Nat → Env → Mem → Out
  | 0, _, _ => .fail
  | n + 1, e, m => match f e m with
    | .ok .normal e m => iter f n e m
    | r => r
def codeV (p : Program) (xb : XB) (cf : CallF) (nt n : Nat) : Code → Env → Mem → Out
  | .skip, e, m => .ok .normal e m
  | .label _, e, m => .ok .normal e m
  | .region _ ops draw, e, m =>
    match (bif draw then (bif drawOk ops then drawV p xb cf nt ops (beforesFrom ops.toList []) (orderOf ops) e m [] [] else none) else opsV p xb cf nt ops ops.toList e m) with
    | some (e, m) => .ok .normal e m
    | none => .fail
  | .seq a b, e, m => match codeV p xb cf nt n a e m with
    | .ok .normal e m => codeV p xb cf nt n b e m
    | r => r
  | .cond c a b, e, m => match evalO e c with
    | some (.bool true) => codeV p xb cf nt n a e m
    | some (.bool false) => codeV p xb cf nt n b e m
    | _ => .fail
  | .block id a, e, m => match codeV p xb cf nt n a e m with
    | .ok (.exit j) e m => bif Nat.beq j id then .ok .normal e m else .ok (.exit j) e m
    | r => r
  | .loop a, e, m => iter (codeV p xb cf nt n a) n e m
  | .exit id, e, m => .ok (.exit id) e m
  | .ret, e, m => .ok .ret e m
  | _, _, _ => .fail
def resultV (p : Program) (e : Env) (m : Mem) : ResultVar → Option V
  | .tmp t => e.get t
  | .cell a t => match e.get a with
    | some (.ptr b i) => loadV p m t (.ptr b i)
    | _ => none
def resultsL (p : Program) (e : Env) (m : Mem) : List ResultVar → Option (List V)
  | [] => some []
  | r :: rs => match resultV p e m r with
    | some v => match resultsL p e m rs with
      | some vs => some (v :: vs)
      | none => none
    | none => none
def argsT : List V → Nat → Env → Env
  | [], _, e => e
  | v :: r, i, e => argsT r (i + 1) (e.set i v)
def funV (p : Program) (xb : XB) (ext : CallF) : Nat → CallF
  | 0, _, _, _ => none
  | n + 1, f, args, m =>
    match ext f args m with
    | some r => some r
    | none =>
    match p.funcs[f]? with
    | none => none
    | some fn => match fn.body with
      | none => none
      | some c => bif Nat.ble args.length fn.ntmps then
        (match codeV p xb (funV p xb ext n) fn.ntmps n c (argsT args 0 .nil) m with
        | .fail => none
        | .ok (.exit _) _ _ => none
        | .ok _ e m' => match resultsL p e m' fn.results.toList with
          | some [v] => some (v, m')
          | some vs => some (.tup vs, m')
          | none => none) else none
def findSub (a la b lb : Nat) : Nat → Nat → Int
  | 0, _ => -1
  | n + 1, i => bif Nat.ble (i + lb) la then (bif Nat.beq (sub a i (i + lb)) b then .ofNat i else findSub a la b lb n (i + 1)) else -1
inductive XK where
  | indexByte | countByte | typeOf | rElem | rComparable | rImplements | rAssignable | aKind | valueOf | vType | vIsNil | vElem | vSet | noEscape | makeNoZero
def hd (p : Program) (t : TypeId) : V := .gptr p.globals.size t
def rtypeV (p : Program) (t : TypeId) : Option V := (pureRun p (cutType "internal/reflectlite.rtype")).map fun r => .iface r (.agg [hd p t])
def valueV (p : Program) (t : TypeId) (a : V) (flags : Nat) : Option V := (pureRun p (Extern.Rtype.kind t)).map fun k => .agg [hd p t, a, .int .u64 (.ofNat (k + 128 + flags))]
def isH (p : Program) (g : Nat) : Bool := Nat.beq g p.globals.size
def implementsS (T V : TypeId) : Sem Bool := do
  Extern.Rtype.noPackMethods "a method set held against an interface's list" V
  Extern.Rtype.noPackMethods "a method set held against an interface's list" T
  match (← Extern.Rtype.under T).2.desc, (← Extern.Rtype.under V).2.desc with
  | .interface want, .interface got => pure (want.all got.contains)
  | .interface want, _ => do
    let i ← typeInfo V
    pure !missB want i.methods
  | _, _ => pure false
def implementsS_ (u t : TypeId) : Sem Bool := do
  if (← Extern.Rtype.kind u) != 20 then panicString "reflect: non-interface type passed to Type.Implements"
  Extern.Rtype.noPackMethods "Implements" t; Extern.Rtype.noPack "Implements" u
  implementsS u t
def assignableS (u t : TypeId) : Sem Bool := do
  if u != t then Extern.Rtype.noPackMethods "AssignableTo" t; Extern.Rtype.noPackMethods "AssignableTo" u
  pure ((← Extern.Rtype.directlyAssignable u t) || (← implementsS u t))
def xbK (p : Program) (k : XK) (args : List V) (m : Mem) : Option (V × Mem) :=
  let R (x : Option V) : Option (V × Mem) := x.map fun v => (v, m)
  match k, args with
  | .indexByte, [.str l b, .int .u8 (.ofNat c)] => bif Nat.blt c 256 then some (.int .i64 (findByte b c l 0), m) else none
  | .countByte, [.str l b, .int .u8 (.ofNat c)] => bif Nat.blt c 256 then some (.int .i64 (.ofNat (countByte b c l 0)), m) else none
  | .typeOf, [.nili] => some (.nili, m)
  | .typeOf, [.iface t _] => R (rtypeV p t)
  | .rElem, [.agg [.gptr g t]] => bif isH p g then (match pureRun p (do Extern.Rtype.noPack "a Type asked or handed on" t; Extern.Rtype.elem? t) with
    | some (some e) => R (rtypeV p e)
    | _ => none) else none
  | .rComparable, [.agg [.gptr g t]] => bif isH p g then (match pureRun p (do Extern.Rtype.noPack "a Type asked or handed on" t; Extern.Rtype.noPackHeld "Comparable" t), p.info? t with
    | some _, some i => some (.bool i.comparable, m)
    | _, _ => none) else none
  | .rImplements, [.agg [.gptr g t], .iface _ (.agg [.gptr h u])] => bif isH p g && isH p h then
    R ((pureRun p (do Extern.Rtype.noPack "a Type asked or handed on" u; Extern.Rtype.noPack "a Type asked or handed on" t; implementsS_ u t)).map .bool) else none
  | .rAssignable, [.agg [.gptr g t], .iface _ (.agg [.gptr h u])] => bif isH p g && isH p h then
    R ((pureRun p (do Extern.Rtype.noPack "a Type asked or handed on" u; Extern.Rtype.noPack "a Type asked or handed on" t; assignableS u t)).map .bool) else none
  | .aKind, [.gptr g t] => bif isH p g then R ((pureRun p (do Extern.Rtype.noPack "a method of abi.Type" t; Extern.Rtype.kind t)).map fun k => .int .u8 (.ofNat k)) else none
  | .valueOf, [.iface t v] => (match m.newL t v.cells v.cells.length with
    | (g, m') => (valueV p t (.ptr g 0) 0).map fun v => (v, m'))
  | .vType, [.agg [.gptr g t, .ptr _ _, .int .u64 (.ofNat (_ + 1))]] => bif isH p g then R (rtypeV p t) else none
  | .vIsNil, [.agg [.gptr g t, .ptr b i, .int .u64 (.ofNat (f + 1))]] => bif isH p g && Nat.beq ((f + 1) % 32) 22 then (match pureRun p (Extern.Rtype.noPack "a Value asked or handed on" t), loadV p m t (.ptr b i) with
    | some _, some (.ptr _ _) => some (.bool false, m)
    | _, _ => none) else none
  | .vElem, [.agg [.gptr g t, .ptr b i, .int .u64 (.ofNat (f + 1))]] => bif isH p g && Nat.beq ((f + 1) % 32) 22 then (match pureRun p (do Extern.Rtype.noPack "a Value asked or handed on" t; Extern.Rtype.elem? t), loadV p m t (.ptr b i) with
    | some (some e), some (.ptr b' i') => R (valueV p e (.ptr b' i') 256)
    | _, _ => none) else none
  | .vSet, [.agg [.gptr g t, .ptr b i, .int .u64 (.ofNat (f + 1))], .agg [.gptr h u, .ptr b' i', .int .u64 (.ofNat (_ + 1))]] =>
    bif isH p g && isH p h && Nat.beq ((f + 1) / 256 % 2) 1 then
      match pureRun p (do Extern.Rtype.noPack "a Value asked or handed on" t; Extern.Rtype.noPack "a Value asked or handed on" u; Extern.Rtype.directlyAssignable t u), loadV p m u (.ptr b' i') with
      | some true, some v => (storeV p m t (.ptr b i) v).map fun m' => (.tup [], m')
      | _, _ => none
    else none
  | .noEscape, [x] => some (x, m)
  | .makeNoZero, [.int .i64 (.ofNat (n + 1))] => bif Nat.ble n 1000000000 then (match (p.types.findIdx? fun i => match i.desc with | .int .u8 => true | _ => false) with
    | some e => (match m.new e .nil (n + 1) 0 with | (g, m') => some (.sl g 0 (n + 1) (n + 1) 1, m'))
    | none => none) else none
  | _, _ => none
end Go.Ev
end

namespace Go.Ev
open Go
set_option linter.unusedVariables false
theorem bif_some {α : Type} {b : Bool} {x : Option α} {y : α} : (bif b then x else none) = some y ↔ b = true ∧ x = some y := by cases b <;> simp
theorem T.get_nil {α : Type} (j : Nat) : (T.nil : T α).get j = none := rfl
theorem T.get_node {α : Type} (v : Option α) (l r : T α) (k : Nat) :
    (T.node v l r).get k = if k = 0 then v else if k % 2 = 1 then l.get (k / 2) else r.get ((k - 1) / 2) := by
  show (Bool.rec (Bool.rec (r.get ((k - 1) / 2)) (l.get (k / 2)) (Nat.beq (k % 2) 1)) v (Nat.beq k 0) : Option α) = _
  by_cases h0 : k = 0
  · subst h0; rfl
  · rw [if_neg h0, show Nat.beq k 0 = false by rw [← Bool.not_eq_true, Nat.beq_eq]; exact h0]
    by_cases h1 : k % 2 = 1
    · rw [if_pos h1, show Nat.beq (k % 2) 1 = true by rw [Nat.beq_eq]; exact h1]
    · rw [if_neg h1, show Nat.beq (k % 2) 1 = false by rw [← Bool.not_eq_true, Nat.beq_eq]; exact h1]
theorem T.get_put {α : Type} (x : α) : ∀ (n : Nat) (t : T α) (k j : Nat), k + 1 < 2 ^ n → (T.put x n t k).get j = if j = k then some x else t.get j := by
  intro n
  induction n with
  | zero => intro t k j h; simp at h
  | succ n ih =>
    intro t k j h
    have key : ∀ (v : Option α) (l r : T α), (Bool.rec (Bool.rec (.node v l (T.put x n r ((k - 1) / 2))) (.node v (T.put x n l (k / 2)) r) (Nat.beq (k % 2) 1)) (.node (some x) l r) (Nat.beq k 0) : T α).get j = if j = k then some x else (T.node v l r).get j := by
      intro v l r
      rw [Nat.pow_succ] at h
      by_cases h0 : k = 0
      · subst h0
        rw [show Nat.beq 0 0 = true from rfl]
        dsimp only
        rw [T.get_node, T.get_node]
        by_cases hj : j = 0 <;> simp [hj]
      · rw [show Nat.beq k 0 = false by rw [← Bool.not_eq_true, Nat.beq_eq]; exact h0]
        dsimp only
        by_cases h1 : k % 2 = 1
        · rw [show Nat.beq (k % 2) 1 = true by rw [Nat.beq_eq]; exact h1]
          dsimp only
          rw [T.get_node, T.get_node]
          by_cases hj : j = 0
          · subst hj; rw [if_pos rfl, if_neg (by omega), if_pos rfl]
          · rw [if_neg hj, if_neg hj]
            by_cases hj1 : j % 2 = 1
            · rw [if_pos hj1, if_pos hj1, ih _ _ _ (by omega)]
              by_cases he : j = k
              · subst he; simp
              · rw [if_neg he, if_neg (by omega)]
            · rw [if_neg hj1, if_neg hj1, if_neg (by omega)]
        · rw [show Nat.beq (k % 2) 1 = false by rw [← Bool.not_eq_true, Nat.beq_eq]; exact h1]
          dsimp only
          rw [T.get_node, T.get_node]
          by_cases hj : j = 0
          · subst hj; rw [if_pos rfl, if_neg (by omega), if_pos rfl]
          · rw [if_neg hj, if_neg hj]
            by_cases hj1 : j % 2 = 1
            · rw [if_pos hj1, if_pos hj1, if_neg (by omega)]
            · rw [if_neg hj1, if_neg hj1, ih _ _ _ (by omega)]
              by_cases he : j = k
              · subst he; simp
              · rw [if_neg he, if_neg (by omega)]
    cases t with
    | nil =>
      have := key none .nil .nil
      refine Eq.trans this ?_
      rw [T.get_node, T.get_nil]
      by_cases hj : j = k
      · simp [hj]
      · rw [if_neg hj, if_neg hj]; simp [T.get_nil]
    | node v l r => exact key v l r
theorem T.get_set {α : Type} (t : T α) (k j : Nat) (x : α) : (t.set k x).get j = if j = k then some x else t.get j :=
  T.get_put x (k + 1) t k j (by
    have : ∀ n : Nat, n + 1 < 2 ^ (n + 1) := fun n => by
      induction n with
      | zero => decide
      | succ n ih => rw [Nat.pow_succ]; omega
    exact this k)
structure Sg where
  f : Nat → Option (Nat × Nat × Nat)
  n : Nat
instance : CoeFun Sg (fun _ => Nat → Option (Nat × Nat × Nat)) := ⟨Sg.f⟩
def Sg.le (σ τ : Sg) : Prop := ∀ b x, σ b = some x → τ b = some x
def bytesOf (s : ByteArray) : Nat := packL (s.data.toList.map (·.toNat))
inductive Rel (σ : Sg) : V → Value → Prop
  | bool (b : Bool) : Rel σ (.bool b) (.bool b)
  | int (k : IntKind) (n : Int) : Rel σ (.int k n) (.int k n)
  | res (k : IntKind) (c r : Nat) (n : Int) (h : (n % 18446744073709551616).toNat % c = r) (h' : k = .u64 → 0 ≤ n ∧ n < 18446744073709551616) : Rel σ (.res k c r) (.int k n)
  | str (s : ByteArray) : Rel σ (.str s.size (bytesOf s)) (.string s)
  | ptr {b cb o tt : Nat} (i : Nat) (h : σ b = some (cb, o, tt)) : Rel σ (.ptr b i) (.pointer (some ⟨cb, o + i, none⟩))
  | nilp : Rel σ .nilp (.pointer none)
  | gptr (g o : Nat) : Rel σ (.gptr g o) (.pointer (some ⟨g, o, none⟩))
  | sl {b cb o tt : Nat} (off len cap sz : Nat) (a : Addr) (cap' : Nat) (h : σ b = some (cb, o, tt)) (hl : len ≤ cap) (hc : cap ≤ cap') (ha : 0 < cap' → a = ⟨cb, o + off, none⟩) (ht : o + off + cap' * sz ≤ tt) :
      Rel σ (.sl b off len cap sz) (.slice (some a) len cap')
  | nils : Rel σ .nils (.slice none 0 0)
  | map {r cb : Nat} (h : σ r = some (cb, 0, 0)) : Rel σ (.map r) (.map (some cb))
  | nilm : Rel σ .nilm (.map none)
  | fn (f : Fn) (xs ys : List V) (us vs : Array Value) (hx : xs.length = us.size) (hy : ys.length = vs.size)
      (hX : ∀ (i : Nat) (v : V) (x : Value), xs[i]? = some v → us[i]? = some x → Rel σ v x) (hY : ∀ (i : Nat) (v : V) (x : Value), ys[i]? = some v → vs[i]? = some x → Rel σ v x) : Rel σ (.fn f xs ys) (.func f us vs)
  | nilf : Rel σ .nilf .nilFunc
  | iface (t : TypeId) {v : V} {x : Value} (h : Rel σ v x) : Rel σ (.iface t v) (.iface t x)
  | nili : Rel σ .nili .nilIface
  | agg (xs : List V) (us : Array Value) (hx : xs.length = us.size) (hX : ∀ (i : Nat) (v : V) (x : Value), xs[i]? = some v → us[i]? = some x → Rel σ v x) : Rel σ (.agg xs) (.agg us)
  | tup (xs : List V) (us : Array Value) (hx : xs.length = us.size) (hX : ∀ (i : Nat) (v : V) (x : Value), xs[i]? = some v → us[i]? = some x → Rel σ v x) : Rel σ (.tup xs) (.tuple us)
theorem Rel.mono {σ τ : Sg} (h : σ.le τ) {v : V} {x : Value} (r : Rel σ v x) : Rel τ v x := by
  induction r with
  | bool b => exact .bool b
  | int k n => exact .int k n
  | res k c r n h h' => exact .res k c r n h h'
  | str s => exact .str s
  | ptr i hb => exact .ptr i (h _ _ hb)
  | nilp => exact .nilp
  | gptr g o => exact .gptr g o
  | sl off len cap sz a cap' hb hl hc ha ht => exact .sl off len cap sz a cap' (h _ _ hb) hl hc ha ht
  | nils => exact .nils
  | map hb => exact .map (h _ _ hb)
  | nilm => exact .nilm
  | fn f xs ys us vs hx hy _ _ iX iY => exact .fn f xs ys us vs hx hy iX iY
  | nilf => exact .nilf
  | iface t _ ih => exact .iface t ih
  | nili => exact .nili
  | agg xs us hx _ iX => exact .agg xs us hx iX
  | tup xs us hx _ iX => exact .tup xs us hx iX
def RelL (σ : Sg) (xs : List V) (us : List Value) : Prop := xs.length = us.length ∧ ∀ (i : Nat) (v : V) (x : Value), xs[i]? = some v → us[i]? = some x → Rel σ v x
theorem RelL.nil (σ : Sg) : RelL σ [] [] := ⟨rfl, fun i v x h => by simp at h⟩
theorem RelL.cons {σ : Sg} {v : V} {x : Value} {xs : List V} {us : List Value} (h : Rel σ v x) (hs : RelL σ xs us) : RelL σ (v :: xs) (x :: us) :=
  ⟨by simp [hs.1], fun i w y hw hy => by
    cases i with
    | zero => simp at hw hy; subst hw hy; exact h
    | succ i => exact hs.2 i w y (by simpa using hw) (by simpa using hy)⟩
theorem RelL.head {σ : Sg} {v : V} {x : Value} {xs : List V} {us : List Value} (h : RelL σ (v :: xs) (x :: us)) : Rel σ v x := h.2 0 v x rfl rfl
theorem RelL.tail {σ : Sg} {v : V} {x : Value} {xs : List V} {us : List Value} (h : RelL σ (v :: xs) (x :: us)) : RelL σ xs us :=
  ⟨by have := h.1; simp at this; exact this, fun i w y hw hy => h.2 (i + 1) w y (by simpa using hw) (by simpa using hy)⟩
theorem RelL.of_nil {σ : Sg} {us : List Value} (h : RelL σ [] us) : us = [] := by
  have := h.1; simp at this; exact List.eq_nil_of_length_eq_zero this.symm
theorem RelL.of_cons {σ : Sg} {v : V} {xs : List V} {us : List Value} (h : RelL σ (v :: xs) us) : ∃ x ys, us = x :: ys ∧ Rel σ v x ∧ RelL σ xs ys := by
  cases us with
  | nil => have := h.1; simp at this
  | cons x ys => exact ⟨x, ys, rfl, h.head, h.tail⟩
theorem RelL.mono {σ τ : Sg} (h : σ.le τ) {xs : List V} {us : List Value} (r : RelL σ xs us) : RelL τ xs us := ⟨r.1, fun i v x hv hx => (r.2 i v x hv hx).mono h⟩
theorem RelL.append {σ : Sg} {xs ys : List V} {us vs : List Value} (h : RelL σ xs us) (k : RelL σ ys vs) : RelL σ (xs ++ ys) (us ++ vs) := by
  induction xs generalizing us with
  | nil => obtain rfl := h.of_nil; exact k
  | cons v xs ih =>
    obtain ⟨x, us', rfl, hv, hs⟩ := h.of_cons
    exact .cons hv (ih hs)
theorem RelL.get {σ : Sg} {xs : List V} {us : List Value} (h : RelL σ xs us) {i : Nat} {v : V} (hv : xs[i]? = some v) : ∃ x, us[i]? = some x ∧ Rel σ v x := by
  have hi : i < xs.length := (List.getElem?_eq_some_iff.1 hv).1
  have hu : us[i]? = some (us[i]'(h.1 ▸ hi)) := List.getElem?_eq_getElem _
  exact ⟨_, hu, h.2 i v _ hv hu⟩
theorem RelL.take {σ : Sg} {xs : List V} {us : List Value} (h : RelL σ xs us) (n : Nat) : RelL σ (xs.take n) (us.take n) :=
  ⟨by simp [h.1], fun i v x hv hx => by
    rw [List.getElem?_take] at hv hx
    split at hv <;> simp_all
    exact h.2 i v x hv hx⟩
theorem RelL.drop {σ : Sg} {xs : List V} {us : List Value} (h : RelL σ xs us) (n : Nat) : RelL σ (xs.drop n) (us.drop n) :=
  ⟨by simp [h.1], fun i v x hv hx => by
    rw [List.getElem?_drop] at hv hx
    exact h.2 _ v x hv hx⟩
theorem relL_arr {σ : Sg} {xs : List V} {us : Array Value} : RelL σ xs us.toList ↔ xs.length = us.size ∧ ∀ (i : Nat) (v : V) (x : Value), xs[i]? = some v → us[i]? = some x → Rel σ v x := by
  simp [RelL]
theorem Rel.aggL {σ : Sg} {xs : List V} {us : Array Value} : Rel σ (.agg xs) (.agg us) ↔ RelL σ xs us.toList := by
  constructor
  · intro h; cases h with | agg _ _ hx hX => exact relL_arr.2 ⟨hx, hX⟩
  · intro h; have := relL_arr.1 h; exact .agg xs us this.1 this.2
theorem Rel.tupL {σ : Sg} {xs : List V} {us : Array Value} : Rel σ (.tup xs) (.tuple us) ↔ RelL σ xs us.toList := by
  constructor
  · intro h; cases h with | tup _ _ hx hX => exact relL_arr.2 ⟨hx, hX⟩
  · intro h; have := relL_arr.1 h; exact .tup xs us this.1 this.2
theorem Rel.cells {σ : Sg} {v : V} {x : Value} (h : Rel σ v x) : RelL σ v.cells x.cells.toList := by
  cases h <;> first
    | (rename_i xs us hx hX; exact relL_arr.2 ⟨hx, hX⟩)
    | (refine .cons ?_ (.nil σ); constructor <;> assumption)
    | (refine .cons ?_ (.nil σ); constructor)
theorem Rel.one {σ : Sg} {v : V} {x : Value} (h : Rel σ v x) (hv : v.one = true) : (∀ cs, x ≠ .agg cs) ∧ ∀ cs, x ≠ .tuple cs := by
  cases h <;> first | (simp [V.one] at hv; done) | exact ⟨fun cs e => Value.noConfusion e, fun cs e => Value.noConfusion e⟩
mutual
theorem ofValue_rel (σ : Sg) : ∀ (x : Value) (v : V), ofValue x = some v → Rel σ v x
  | .bool b, v, h => by simp [ofValue] at h; subst h; exact .bool b
  | .int k n, v, h => by simp [ofValue] at h; subst h; exact .int k n
  | .string s, v, h => by simp [ofValue] at h; subst h; exact .str s
  | .pointer none, v, h => by simp [ofValue] at h; subst h; exact .nilp
  | .pointer (some ⟨g, o, none⟩), v, h => by simp [ofValue] at h; subst h; exact .gptr g o
  | .pointer (some ⟨g, o, some _⟩), v, h => by simp [ofValue] at h
  | .slice none 0 0, v, h => by simp [ofValue] at h; subst h; exact .nils
  | .slice none (_ + 1) _, v, h => by simp [ofValue] at h
  | .slice none 0 (_ + 1), v, h => by simp [ofValue] at h
  | .slice (some _) _ _, v, h => by simp [ofValue] at h
  | .map none, v, h => by simp [ofValue] at h; subst h; exact .nilm
  | .map (some _), v, h => by simp [ofValue] at h
  | .nilFunc, v, h => by simp [ofValue] at h; subst h; exact .nilf
  | .nilIface, v, h => by simp [ofValue] at h; subst h; exact .nili
  | .iface t x, v, h => by
    simp only [ofValue, Option.map_eq_some_iff] at h
    obtain ⟨u, hu, rfl⟩ := h
    exact .iface t (ofValue_rel σ x u hu)
  | .agg ⟨cs⟩, v, h => by
    simp only [ofValue, Option.map_eq_some_iff] at h
    obtain ⟨u, hu, rfl⟩ := h
    exact Rel.aggL.2 (ofValues_rel σ cs u hu)
  | .tuple ⟨cs⟩, v, h => by
    simp only [ofValue, Option.map_eq_some_iff] at h
    obtain ⟨u, hu, rfl⟩ := h
    exact Rel.tupL.2 (ofValues_rel σ cs u hu)
  | .func f ⟨[]⟩ ⟨[]⟩, v, h => by simp [ofValue] at h; subst h; exact .fn f [] [] #[] #[] rfl rfl (fun i v x h => by simp at h) (fun i v x h => by simp at h)
  | .func f ⟨_ :: _⟩ _, v, h => by simp [ofValue] at h
  | .func f ⟨[]⟩ ⟨_ :: _⟩, v, h => by simp [ofValue] at h
  | .float _ _, v, h => by simp [ofValue] at h
  | .complex _ _ _, v, h => by simp [ofValue] at h
  | .chan _, v, h => by simp [ofValue] at h
theorem ofValues_rel (σ : Sg) : ∀ (xs : List Value) (vs : List V), ofValues xs = some vs → RelL σ vs xs
  | [], vs, h => by simp [ofValues] at h; subst h; exact .nil σ
  | x :: xs, vs, h => by
    simp only [ofValues] at h
    split at h
    · rename_i u us hu hus
      cases h
      exact .cons (ofValue_rel σ x u hu) (ofValues_rel σ xs us hus)
    · cases h
end
end Go.Ev

namespace Go.Ev
open Go
set_option linter.unusedVariables false
set_option linter.unusedSimpArgs false
def EntR (σ : Sg) (es : List (V × V)) (us : List MapEntry) : Prop :=
  es.length = us.length ∧ ∀ (i : Nat) (kv : V × V) (e : MapEntry), es[i]? = some kv → us[i]? = some e → Rel σ kv.1 e.key ∧ Rel σ kv.2 e.val
theorem EntR.mono {σ τ : Sg} (h : σ.le τ) {es : List (V × V)} {us : List MapEntry} (r : EntR σ es us) : EntR τ es us :=
  ⟨r.1, fun i kv e a b => ⟨((r.2 i kv e a b).1).mono h, ((r.2 i kv e a b).2).mono h⟩⟩
def zeroS : Sg := ⟨fun _ => none, 0⟩
theorem zeroS_le (σ : Sg) : Sg.le zeroS σ := fun b x h => by cases h
theorem Sg.le_refl (σ : Sg) : σ.le σ := fun _ _ h => h
theorem Sg.le.trans {a b c : Sg} (h : a.le b) (k : b.le c) : a.le c := fun x y e => k x y (h x y e)
structure CellOk (base : Nat) (k : CB) (σ : Sg) (w : World) (cb o tt : Nat) : Prop where
  cell : ∀ (i : Nat) (v : V), i < k.n → k.c.get i = some v → ∃ x, w.cell? ⟨cb, o + i, none⟩ = some x ∧ Rel σ v x
  own : k.ro = false → base ≤ cb ∧ ∃ cs lo hi, w.heap[cb]? = some (.cells cs k.el (lo, hi)) ∧ cs.size = tt ∧ (k.tot ≠ 0 → o = 0 ∧ cs.size = k.tot) ∧ o + k.n ≤ cs.size ∧
    (lo = hi ∨ hi ≤ o + k.fz)
def Live (m : Mem) (b : Nat) (k : CB) : Prop := m.blks.get b = some (.cells k) ∧ k.live = true
structure ChainOk (m : Mem) (f : Nat) (ch : List Nat) : Prop where
  nodup : ch.Nodup
  live : ∀ b, b ∈ ch → ∃ k, Live m b k ∧ k.fam = f
  sorted : ch.Pairwise fun a b => sizeB m.blks b ≤ sizeB m.blks a
structure MR (base : Nat) (m : Mem) (σ : Sg) (w : World) : Prop where
  lt : base ≤ w.heap.size
  dom : ∀ b x, σ b = some x → b < m.next
  bl : ∀ b k cb o tt, Live m b k → σ b = some (cb, o, tt) → CellOk base k σ w cb o tt
  mp : ∀ r es, m.blks.get r = some (.map es) → ∀ x, σ r = some x → x.2 = (0, 0) ∧ base ≤ x.1 ∧ ∃ us clk, w.heap[x.1]? = some (.map us clk) ∧ EntR σ es us.toList
  mps : ∀ r r' es es', r ≠ r' → m.blks.get r = some (.map es) → m.blks.get r' = some (.map es') → ∀ x x', σ r = some x → σ r' = some x' → x.1 ≠ x'.1
  fam : ∀ b k, Live m b k → ∃ ch, m.fams.get k.fam = some ch ∧ b ∈ ch
  chain : ∀ f ch, m.fams.get f = some ch → ChainOk m f ch
  sep : ∀ b b' k k' cb o o' tt tt', b ≠ b' → Live m b k → Live m b' k' → σ b = some (cb, o, tt) → σ b' = some (cb, o', tt') → (k.ro = true ∧ k'.ro = true) ∨ (k.fam = k'.fam ∧ o = o')
  new : ∀ b, m.next ≤ b → m.blks.get b = none ∧ m.fams.get b = none
  gl : ∀ g i v, m.gl g i = some v → g < base ∧ ∃ x, w.cell? ⟨g, i, none⟩ = some x ∧ Rel zeroS v x
  rng : ∀ b x, σ b = some x → x.1 < w.heap.size
  nle : σ.n ≤ m.next
structure Tr (base : Nat) (σ : Sg) (w : World) (τ : Sg) (w' : World) : Prop where
  le : σ.le τ
  fresh : ∀ b x, τ b = some x → (∃ b' y, σ b' = some y ∧ y.1 = x.1) ∨ w.heap.size ≤ x.1
  os : w'.os = w.os
  tape : w'.tape = w.tape
  output : w'.output = w.output
  size : w.heap.size ≤ w'.heap.size
  keep : ∀ cb, cb < w.heap.size → (cb < base ∨ ∀ b x, σ b = some x → x.1 ≠ cb) → w'.heap[cb]? = w.heap[cb]?
  ids : ∀ b x, τ b = some x → σ b = some x ∨ σ.n ≤ b
  nn : τ.n = σ.n
theorem Tr.refl (base : Nat) (σ : Sg) (w : World) : Tr base σ w σ w :=
  ⟨σ.le_refl, fun b x h => .inl ⟨b, x, h, rfl⟩, rfl, rfl, rfl, Nat.le_refl _, fun _ _ _ => rfl, fun _ _ h => .inl h, rfl⟩
theorem Tr.trans {base : Nat} {σ τ ρ : Sg} {w w' w'' : World} (h : Tr base σ w τ w') (k : Tr base τ w' ρ w'') : Tr base σ w ρ w'' := by
  refine ⟨h.le.trans k.le, fun b x hx => ?_, k.os.trans h.os, k.tape.trans h.tape, k.output.trans h.output, Nat.le_trans h.size k.size, fun cb hc hcond => ?_, fun b x hx => ?_, k.nn.trans h.nn⟩
  · rcases k.fresh b x hx with ⟨b', y, hy, e⟩ | hl
    · rcases h.fresh b' y hy with ⟨b'', z, hz, e'⟩ | hl
      · exact .inl ⟨b'', z, hz, e'.trans e⟩
      · exact .inr (e ▸ hl)
    · exact .inr (Nat.le_trans h.size hl)
  · rw [k.keep cb (Nat.lt_of_lt_of_le hc h.size) ?_, h.keep cb hc hcond]
    rcases hcond with hb | hn
    · exact .inl hb
    · refine .inr fun b x hx e => ?_
      rcases h.fresh b x hx with ⟨b', y, hy, e'⟩ | hl
      · exact hn b' y hy (e'.trans e)
      · omega
  · rcases k.ids b x hx with hx | hl
    · exact h.ids b x hx
    · exact .inr (h.nn ▸ hl)
theorem Tr.below {base : Nat} {σ τ : Sg} {w w' : World} (h : Tr base σ w τ w') (hb : base ≤ w.heap.size) : RowKit.Below base w w' :=
  ⟨h.os, h.tape, h.output, h.size, fun k hk => h.keep k (Nat.lt_of_lt_of_le hk hb) (.inl hk)⟩
theorem sizeB_live {m : Mem} {b : Nat} {k : CB} (h : Live m b k) : sizeB m.blks b = k.n := by simp [sizeB, h.1]
theorem Live.uniq {m : Mem} {b : Nat} {k k' : CB} (h : Live m b k) (h' : Live m b k') : k = k' := by
  have := h.1.symm.trans h'.1; simpa using this
theorem cell_read {base : Nat} {m : Mem} {σ : Sg} {w : World} (h : MR base m σ w) {b i cb o tt : Nat} {v : V} (hs : σ b = some (cb, o, tt)) (hc : m.cell b i = some v) :
    ∃ x, w.cell? ⟨cb, o + i, none⟩ = some x ∧ Rel σ v x := by
  unfold Mem.cell at hc
  split at hc
  · rename_i k hk
    simp only [bif_some, Nat.blt_eq] at hc
    exact (h.bl b k cb o tt ⟨hk, hc.1⟩ hs).cell i v hc.2.1 hc.2.2
  · cases hc
theorem getL_spec {c : T V} : ∀ (n i : Nat) (vs : List V), getL c n i = some vs → vs.length = n ∧ ∀ j, j < n → c.get (i + j) = vs[j]? := by
  intro n
  induction n with
  | zero => intro i vs h; simp [getL] at h; subst h; exact ⟨rfl, fun j hj => by omega⟩
  | succ n ih =>
    intro i vs h
    simp only [getL] at h
    split at h
    · rename_i v hv
      split at h
      · rename_i us hus
        cases h
        obtain ⟨hl, hg⟩ := ih (i + 1) us hus
        refine ⟨by simp [hl], fun j hj => ?_⟩
        cases j with
        | zero => simpa using hv
        | succ j => rw [List.getElem?_cons_succ, ← hg j (by omega)]; congr 1; omega
      · cases h
    · cases h
theorem row_spec {m : Mem} {b i n : Nat} {vs : List V} (h : m.row b i n = some vs) : ∃ k, Live m b k ∧ i + n ≤ k.n ∧ vs.length = n ∧ ∀ j, j < n → k.c.get (i + j) = vs[j]? := by
  unfold Mem.row at h
  split at h
  · rename_i k hk
    simp only [bif_some, Nat.ble_eq] at h
    obtain ⟨hl, hn, hg⟩ := h
    obtain ⟨h1, h2⟩ := getL_spec n i vs hg
    exact ⟨k, ⟨hk, hl⟩, hn, h1, h2⟩
  · cases h
theorem loadCellsFrom_run {p : Program} {w : World} {a : Addr} : ∀ (n i : Nat) (acc : Array Value) (us : List Value), us.length = n → (∀ j, j < n → w.cell? (a.add (i + j)) = us[j]?) →
    (loadCellsFrom a i n acc).run p w = .ok (acc ++ us.toArray) w := by
  intro n
  induction n with
  | zero => intro i acc us hl _; obtain rfl := List.eq_nil_of_length_eq_zero hl; simp [loadCellsFrom, pure, Sem.run]
  | succ n ih =>
    intro i acc us hl hc
    cases us with
    | nil => simp at hl
    | cons u us =>
      have h0 : w.cell? (a.add i) = some u := by simpa using hc 0 (by omega)
      have := ih (i + 1) (acc.push u) us (by simpa using hl) (fun j hj => by
        have := hc (j + 1) (by omega)
        rw [List.getElem?_cons_succ] at this
        rw [← this]; congr 2; omega)
      simp only [loadCellsFrom, load, bind, Sem.bind, Sem.run, h0]
      rw [this]
      simp
theorem add_mk (cb x i : Nat) : (⟨cb, x, none⟩ : Addr).add i = ⟨cb, x + i, none⟩ := by
  unfold Addr.add
  split
  · rename_i h; subst h; rfl
  · rfl
theorem row_read {base : Nat} {p : Program} {m : Mem} {σ : Sg} {w : World} (h : MR base m σ w) {b i n cb o tt : Nat} {vs : List V} (hs : σ b = some (cb, o, tt)) (hr : m.row b i n = some vs) :
    ∃ us : List Value, RelL σ vs us ∧ us.length = n ∧ (∀ j, j < n → w.cell? ⟨cb, o + i + j, none⟩ = us[j]?) ∧ (loadCells ⟨cb, o + i, none⟩ n).run p w = .ok us.toArray w := by
  obtain ⟨k, hk, hn, hl, hg⟩ := row_spec hr
  have hc := h.bl b k cb o tt hk hs
  have hex : ∀ j, ∃ x, j < n → w.cell? ⟨cb, o + i + j, none⟩ = some x ∧ ∀ v, vs[j]? = some v → Rel σ v x := fun j => by
    by_cases hj : j < n
    · have hv : vs[j]? = some (vs[j]'(hl ▸ hj)) := List.getElem?_eq_getElem _
      obtain ⟨x, hx, hr⟩ := hc.cell (i + j) _ (by omega) ((hg j hj).trans hv)
      exact ⟨x, fun _ => ⟨by rw [Nat.add_assoc]; exact hx, fun v hv' => by rw [hv] at hv'; cases hv'; exact hr⟩⟩
    · exact ⟨undef, fun hh => absurd hh hj⟩
  obtain ⟨f, hf⟩ := Classical.axiomOfChoice hex
  have hlen : ((List.range n).map f).length = n := by simp
  have hget : ∀ j, j < n → ((List.range n).map f)[j]? = some (f j) := fun j hj => by simp [hj]
  refine ⟨(List.range n).map f, ⟨by simp [hl], fun j v x hv hx => ?_⟩, hlen, fun j hj => ?_, ?_⟩
  · have hj : j < n := hl ▸ (List.getElem?_eq_some_iff.1 hv).1
    rw [hget j hj] at hx
    cases hx
    exact (hf j hj).2 v hv
  · rw [hget j hj]; exact (hf j hj).1
  · have := loadCellsFrom_run (p := p) (w := w) (a := ⟨cb, o + i, none⟩) n 0 #[] ((List.range n).map f) hlen (fun j hj => by
      rw [add_mk, hget j hj, Nat.zero_add]; exact (hf j hj).1)
    simpa [loadCells] using this
theorem putL_get : ∀ (vs : List V) (c : T V) (i j : Nat), (putL c i vs).get j = if i ≤ j ∧ j < i + vs.length then vs[j - i]? else c.get j := by
  intro vs
  induction vs with
  | nil => intro c i j; simp only [putL, List.length_nil]; rw [if_neg (by omega)]
  | cons v vs ih =>
    intro c i j
    simp only [putL, List.length_cons]
    rw [ih, T.get_set]
    by_cases h0 : j = i
    · subst h0; rw [if_neg (by omega), if_pos rfl, if_pos (by omega)]; simp
    · rw [if_neg h0]
      by_cases h1 : i + 1 ≤ j ∧ j < i + 1 + vs.length
      · rw [if_pos h1, if_pos (by omega)]
        obtain ⟨d, rfl⟩ : ∃ d, j = i + 1 + d := ⟨j - (i + 1), by omega⟩
        rw [show i + 1 + d - (i + 1) = d by omega, show i + 1 + d - i = d + 1 by omega, List.getElem?_cons_succ]
      · rw [if_neg h1, if_neg (by omega)]
def Sg.put (σ : Sg) (b : Nat) (x : Nat × Nat × Nat) : Sg := ⟨fun c => if c = b then some x else σ c, σ.n⟩
theorem Sg.le_put {σ : Sg} {b : Nat} {x : Nat × Nat × Nat} (h : σ b = none) : σ.le (σ.put b x) := fun c y hy => by
  show (if c = b then some x else σ c) = some y
  split
  · subst_vars; rw [h] at hy; cases hy
  · exact hy
theorem Sg.put_self (σ : Sg) (b : Nat) (x : Nat × Nat × Nat) : σ.put b x b = some x := by simp [Sg.put]
theorem Sg.put_ne (σ : Sg) {b c : Nat} (x : Nat × Nat × Nat) (h : c ≠ b) : σ.put b x c = σ c := by simp [Sg.put, h]
theorem CellOk.mono {base : Nat} {k : CB} {σ τ : Sg} {w w' : World} {cb o tt : Nat} (h : CellOk base k σ w cb o tt) (hle : σ.le τ) (hh : w'.heap[cb]? = w.heap[cb]?) : CellOk base k τ w' cb o tt := by
  refine ⟨fun i v hi hv => ?_, fun hr => ?_⟩
  · obtain ⟨x, hx, hR⟩ := h.cell i v hi hv
    exact ⟨x, by rw [World.cell?] at hx ⊢; simpa [hh] using hx, hR.mono hle⟩
  · obtain ⟨h1, cs, lo, hi, h2, h3⟩ := h.own hr
    exact ⟨h1, cs, lo, hi, hh.trans h2, h3⟩
theorem heap_push {w : World} (o : Obj) (i : Nat) (h : i < w.heap.size) : ({ w with heap := w.heap.push o } : World).heap[i]? = w.heap[i]? := by
  show (w.heap.push o)[i]? = _
  rw [Array.getElem?_push, if_neg (by omega)]
theorem cell_heap {w w' : World} {a : Addr} (h : w'.heap[a.block]? = w.heap[a.block]?) : w'.cell? a = w.cell? a := by simp [World.cell?, h]
theorem MR.push {base : Nat} {m : Mem} {σ : Sg} {w : World} (h : MR base m σ w) (o : Obj) : MR base m σ { w with heap := w.heap.push o } where
  lt := by have := h.lt; simp; omega
  dom := h.dom
  bl b k cb o' tt hk hs := (h.bl b k cb o' tt hk hs).mono σ.le_refl (heap_push o cb (h.rng b _ hs))
  mp r es hr x hx := by
    obtain ⟨h1, h2, us, clk, h3, h4⟩ := h.mp r es hr x hx
    exact ⟨h1, h2, us, clk, (heap_push o x.1 (h.rng r x hx)).trans h3, h4⟩
  mps := h.mps
  fam := h.fam
  chain := h.chain
  sep := h.sep
  new := h.new
  gl g i v hv := by
    obtain ⟨h1, x, hx, hR⟩ := h.gl g i v hv
    exact ⟨h1, x, by rw [cell_heap (heap_push o g (by have := h.lt; omega))]; exact hx, hR⟩
  rng b x hx := by have := h.rng b x hx; simp; omega
  nle := h.nle
theorem Tr.push (base : Nat) (σ : Sg) (w : World) (o : Obj) : Tr base σ w σ { w with heap := w.heap.push o } :=
  ⟨σ.le_refl, fun b x h => .inl ⟨b, x, h, rfl⟩, rfl, rfl, rfl, by simp, fun cb hc _ => heap_push o cb hc, fun _ _ h => .inl h, rfl⟩
theorem MR.drew {base : Nat} {m : Mem} {σ : Sg} {w : World} (h : MR base m σ w) (d : Nat) : MR base m σ { w with drawn := d } where
  lt := h.lt
  dom := h.dom
  bl b k cb o' tt hk hs := (h.bl b k cb o' tt hk hs).mono σ.le_refl rfl
  mp := h.mp
  mps := h.mps
  fam := h.fam
  chain := h.chain
  sep := h.sep
  new := h.new
  gl := h.gl
  rng := h.rng
  nle := h.nle
theorem Tr.drew (base : Nat) (σ : Sg) (w : World) (d : Nat) : Tr base σ w σ { w with drawn := d } :=
  ⟨σ.le_refl, fun b x h => .inl ⟨b, x, h, rfl⟩, rfl, rfl, rfl, Nat.le_refl _, fun _ _ _ => rfl, fun _ _ h => .inl h, rfl⟩
theorem Live.new_iff {m : Mem} {k : CB} (kl : k.live = true) {bs : T Blk} {b : Nat} {k' : CB} {fs : T (List Nat)} {n : Nat} (hb : bs = m.blks.set n (.cells k)) :
    Live { gl := m.gl, next := n + 1, blks := bs, fams := fs } b k' ↔ (b = n ∧ k' = k) ∨ (b ≠ n ∧ Live m b k') := by
  subst hb
  unfold Live
  simp only [T.get_set]
  by_cases h : b = n
  · simp only [h, if_true, true_and, ne_eq, not_true, false_and, or_false, Option.some.injEq, Blk.cells.injEq]
    constructor
    · rintro ⟨rfl, _⟩; rfl
    · rintro rfl; exact ⟨rfl, kl⟩
  · simp [h]
theorem MR.hole {base : Nat} {m : Mem} {σ : Sg} {w : World} (h : MR base m σ w) (el : TypeId) (c : T V) (n tot : Nat) : MR base (m.new el c n tot).2 σ w := by
  have hnew := h.new m.next (Nat.le_refl _)
  have hlv : ∀ b k, Live (m.new el c n tot).2 b k ↔ (b = m.next ∧ k = ⟨m.next, n, 0, el, tot, false, true, c⟩) ∨ (b ≠ m.next ∧ Live m b k) := fun b k => Live.new_iff rfl rfl
  have hns : σ m.next = none := by
    cases hs : σ m.next with
    | none => rfl
    | some x => exact absurd (h.dom _ _ hs) (Nat.lt_irrefl _)
  have hg : ∀ r es, (m.new el c n tot).2.blks.get r = some (.map es) → m.blks.get r = some (.map es) := fun r es hr => by
    simp only [Mem.new, T.get_set] at hr
    split at hr
    · cases hr
    · exact hr
  have hsz : ∀ b k, Live m b k → sizeB (m.new el c n tot).2.blks b = sizeB m.blks b := fun b k hk => by
    have hne : b ≠ m.next := fun e => by have := hk.1; rw [e, hnew.1] at this; cases this
    simp [sizeB, Mem.new, T.get_set, hne]
  refine ⟨h.lt, fun b x hx => Nat.lt_succ_of_lt (h.dom b x hx), fun b k cb o tt hk hs => ?_, fun r es hr => h.mp r es (hg r es hr), fun r r' es es' hne hr hr' => h.mps r r' es es' hne (hg r es hr) (hg r' es' hr'), fun b k hk => ?_, fun f ch hf => ?_, fun b b' k k' cb o o' tt tt' hne hk hk' hs hs' => ?_, fun b hb => ?_, h.gl, h.rng, Nat.le_succ_of_le h.nle⟩
  · rcases (hlv b k).1 hk with ⟨rfl, _⟩ | ⟨_, hk⟩
    · rw [hns] at hs; cases hs
    · exact h.bl b k cb o tt hk hs
  · rcases (hlv b k).1 hk with ⟨rfl, rfl⟩ | ⟨hne, hk⟩
    · exact ⟨[m.next], by simp [Mem.new, T.get_set], by simp⟩
    · obtain ⟨ch, hc, hm⟩ := h.fam b k hk
      refine ⟨ch, ?_, hm⟩
      have : k.fam ≠ m.next := fun e => by rw [e, hnew.2] at hc; cases hc
      simp [Mem.new, T.get_set, this, hc]
  · simp only [Mem.new, T.get_set] at hf
    split at hf
    · rename_i e
      cases hf
      subst e
      refine ⟨by simp, fun b hb => ?_, by simp⟩
      simp at hb; subst hb
      exact ⟨_, (hlv _ _).2 (.inl ⟨rfl, rfl⟩), rfl⟩
    · have hc := h.chain f ch hf
      refine ⟨hc.nodup, fun b hb => ?_, hc.sorted.imp_of_mem fun {a b} ha hb hab => ?_⟩
      · obtain ⟨k, hk, hkf⟩ := hc.live b hb
        have hne : b ≠ m.next := fun e => by have := hk.1; rw [e, hnew.1] at this; cases this
        exact ⟨k, (hlv _ _).2 (.inr ⟨hne, hk⟩), hkf⟩
      · obtain ⟨ka, hka, _⟩ := hc.live a ha
        obtain ⟨kb, hkb, _⟩ := hc.live b hb
        rw [hsz a ka hka, hsz b kb hkb]; exact hab
  · rcases (hlv b k).1 hk with ⟨rfl, _⟩ | ⟨_, hk⟩
    · rw [hns] at hs; cases hs
    · rcases (hlv b' k').1 hk' with ⟨rfl, _⟩ | ⟨_, hk'⟩
      · rw [hns] at hs'; cases hs'
      · exact h.sep b b' k k' cb o o' tt tt' hne hk hk' hs hs'
  · have hb' : m.next + 1 ≤ b := hb
    have := h.new b (by omega)
    simp only [Mem.new, T.get_set]
    rw [if_neg (by omega), if_neg (by omega)]
    exact this
theorem MR.fill {base : Nat} {m : Mem} {σ : Sg} {w : World} (h : MR base m σ w) {b : Nat} {k : CB} (hk : Live m b k) (hf : k.fam = b) (hch : m.fams.get b = some [b]) (hz : k.fz = 0) (hro : k.ro = false) (hb : b < m.next) (hs : σ b = none) (hnb : σ.n ≤ b)
    (cs : Array Value) (hsz : k.n ≤ cs.size) (htot : k.tot ≠ 0 → cs.size = k.tot) (hcs : ∀ (i : Nat) (v : V), i < k.n → k.c.get i = some v → ∃ x, cs[i]? = some x ∧ Rel σ v x) :
    MR base m (σ.put b (w.heap.size, 0, cs.size)) { w with heap := w.heap.push (.cells cs k.el) } ∧ Tr base σ w (σ.put b (w.heap.size, 0, cs.size)) { w with heap := w.heap.push (.cells cs k.el) } := by
  have hle := Sg.le_put (x := (w.heap.size, 0, cs.size)) hs
  have hp := h.push (.cells cs k.el)
  have hself : ({ w with heap := w.heap.push (.cells cs k.el) } : World).heap[w.heap.size]? = some (.cells cs k.el (0, 0)) := by simp
  have hcases : ∀ c x, σ.put b (w.heap.size, 0, cs.size) c = some x → (c = b ∧ x = (w.heap.size, 0, cs.size)) ∨ (c ≠ b ∧ σ c = some x) := fun c x hx => by
    by_cases e : c = b
    · subst e; rw [Sg.put_self] at hx; cases hx; exact .inl ⟨rfl, rfl⟩
    · rw [Sg.put_ne _ _ e] at hx; exact .inr ⟨e, hx⟩
  refine ⟨⟨hp.lt, fun c x hx => ?_, fun c k' cb o tt hk' hx => ?_, fun r es hr x hx => ?_, fun r r' es es' hne hr hr' x x' hx hx' => ?_, h.fam, h.chain, fun c c' k1 k2 cb o o' tt tt' hne hk1 hk2 hx hx' => ?_, h.new, hp.gl, fun c x hx => ?_, h.nle⟩, ⟨hle, fun c x hx => ?_, rfl, rfl, rfl, by simp, fun cb hc _ => heap_push _ cb hc, fun c x hx => ?_, rfl⟩⟩
  · rcases hcases c x hx with ⟨rfl, _⟩ | ⟨_, hx⟩
    · exact hb
    · exact h.dom c x hx
  · rcases hcases c _ hx with ⟨rfl, e⟩ | ⟨_, hx⟩
    · cases e
      obtain rfl := hk.uniq hk'
      refine ⟨fun i v hi hv => ?_, fun _ => ⟨h.lt, cs, 0, 0, hself, rfl, fun ht => ⟨rfl, htot ht⟩, by omega, .inl rfl⟩⟩
      obtain ⟨x, hx, hR⟩ := hcs i v hi hv
      exact ⟨x, by simp only [World.cell?, hself, Nat.zero_add]; simpa using hx, hR.mono hle⟩
    · exact (hp.bl c k' cb o tt hk' hx).mono hle rfl
  · rcases hcases r x hx with ⟨rfl, _⟩ | ⟨_, hx⟩
    · rw [hk.1] at hr; cases hr
    · obtain ⟨h1, h2, us, clk, h3, h4⟩ := hp.mp r es hr x hx
      exact ⟨h1, h2, us, clk, h3, h4.mono hle⟩
  · rcases hcases r x hx with ⟨rfl, _⟩ | ⟨_, hx⟩
    · rw [hk.1] at hr; cases hr
    · rcases hcases r' x' hx' with ⟨rfl, _⟩ | ⟨_, hx'⟩
      · rw [hk.1] at hr'; cases hr'
      · exact h.mps r r' es es' hne hr hr' x x' hx hx'
  · rcases hcases c _ hx with ⟨rfl, e⟩ | ⟨_, hx2⟩
    · cases e
      rcases hcases c' _ hx' with ⟨rfl, e⟩ | ⟨_, hx'⟩
      · exact absurd rfl hne
      · have := h.rng c' _ hx'; simp at this
    · rcases hcases c' _ hx' with ⟨rfl, e⟩ | ⟨_, hx'⟩
      · cases e; have := h.rng c _ hx2; simp at this
      · exact h.sep c c' k1 k2 cb o o' tt tt' hne hk1 hk2 hx2 hx'
  · rcases hcases c x hx with ⟨rfl, rfl⟩ | ⟨_, hx⟩
    · simp
    · exact hp.rng c x hx
  · rcases hcases c x hx with ⟨rfl, rfl⟩ | ⟨_, hx⟩
    · exact .inr (Nat.le_refl _)
    · exact .inl ⟨c, x, hx, rfl⟩
  · rcases hcases c x hx with ⟨rfl, rfl⟩ | ⟨_, hx⟩
    · exact .inr hnb
    · exact .inl hx
end Go.Ev

namespace Go.Ev
open Go
set_option linter.unusedVariables false
set_option linter.unusedSimpArgs false
theorem storeCells_run {p : Program} : ∀ (us : List Value) (w : World) (cb j i : Nat) (cs : Array Value) (el : TypeId) (lo hi : Nat), w.heap[cb]? = some (.cells cs el (lo, hi)) → j + i + us.length ≤ cs.size →
    (∀ q, j + i ≤ q → q < j + i + us.length → ¬(lo ≤ q ∧ q < hi)) → (∀ u, u ∈ us → (∀ c, u ≠ .agg c) ∧ ∀ c, u ≠ .tuple c) →
    ∃ w' cs', (storeCells ⟨cb, j, none⟩ us i).run p w = .ok () w' ∧ w'.heap[cb]? = some (.cells cs' el (lo, hi)) ∧ cs'.size = cs.size ∧
      (∀ q, cs'[q]? = if j + i ≤ q ∧ q < j + i + us.length then us[q - (j + i)]? else cs[q]?) ∧ (∀ c, c ≠ cb → w'.heap[c]? = w.heap[c]?) ∧ w'.os = w.os ∧ w'.tape = w.tape ∧ w'.output = w.output ∧ w'.heap.size = w.heap.size := by
  intro us
  induction us with
  | nil =>
    intro w cb j i cs el lo hi hh hs hf ho
    refine ⟨w, cs, rfl, hh, rfl, fun q => ?_, fun _ _ => rfl, rfl, rfl, rfl, rfl⟩
    rw [if_neg (by simp only [List.length_nil]; omega)]
  | cons u us ih =>
    intro w cb j i cs el lo hi hh hs hf ho
    simp only [List.length_cons] at hs hf
    have hcell : w.cell? ⟨cb, j + i, none⟩ = some (cs[j + i]'(by omega)) := by simp [World.cell?, hh]
    have hfro : w.frozen? ⟨cb, j + i, none⟩ = false := by
      have := hf (j + i) (Nat.le_refl _) (by omega)
      simp only [World.frozen?, hh]
      simp only [Bool.and_eq_false_iff, decide_eq_false_iff_not]
      by_cases h1 : lo ≤ j + i
      · right; intro h2; exact this ⟨h1, h2⟩
      · left; exact h1
    have hset : (w.setCell ⟨cb, j + i, none⟩ u).heap[cb]? = some (.cells (cs.setIfInBounds (j + i) u) el (lo, hi)) := by
      simp only [World.setCell, Array.getElem?_modify, if_true, hh, Option.map_some]
      rfl
    obtain ⟨w', cs', hrun, h1, h2, h3, h4, h5, h6, h7, h8⟩ := ih (w.setCell ⟨cb, j + i, none⟩ u) cb j (i + 1) (cs.setIfInBounds (j + i) u) el lo hi hset (by simp; omega) (fun q h1 h2 => hf q (by omega) (by omega)) (fun x hx => ho x (List.mem_cons_of_mem _ hx))
    have hother : ∀ c, c ≠ cb → (w.setCell ⟨cb, j + i, none⟩ u).heap[c]? = w.heap[c]? := fun c hc => by
      simp only [World.setCell, Array.getElem?_modify]
      rw [if_neg (by exact fun e => hc e.symm)]
    refine ⟨w', cs', ?_, h1, by simpa using h2, fun q => ?_, fun c hc => (h4 c hc).trans (hother c hc), h5, h6, h7, by simpa [World.setCell] using h8⟩
    · obtain ⟨ho1, ho2⟩ := ho u (List.mem_cons_self ..)
      rw [← hrun]
      have e1 : (⟨cb, j, none⟩ : Addr).add i = ⟨cb, j + i, none⟩ := add_mk cb j i
      rw [storeCells]
      simp only [store, bind, Sem.bind]
      rw [e1]
      cases u <;> first
        | (simp only [Sem.run, hcell, hfro, Bool.false_eq_true, if_false]; done)
        | (exact absurd rfl (ho1 _))
        | (exact absurd rfl (ho2 _))
    · rw [h3]
      by_cases hq : j + (i + 1) ≤ q ∧ q < j + (i + 1) + us.length
      · rw [if_pos hq, if_pos (by simp; omega)]
        obtain ⟨d, rfl⟩ : ∃ d, q = j + (i + 1) + d := ⟨q - (j + (i + 1)), by omega⟩
        rw [show j + (i + 1) + d - (j + (i + 1)) = d by omega, show j + (i + 1) + d - (j + i) = d + 1 by omega, List.getElem?_cons_succ]
      · rw [if_neg hq]
        by_cases hq2 : q = j + i
        · subst hq2
          rw [if_pos (by simp), Nat.sub_self, Array.getElem?_setIfInBounds_self_of_lt (by omega)]
          rfl
        · rw [if_neg (by simp; omega)]
          rw [Array.getElem?_setIfInBounds_ne (by omega)]
theorem oneL_rel {σ : Sg} : ∀ {vs : List V} {us : List Value}, RelL σ vs us → oneL vs = true → ∀ u, u ∈ us → (∀ c, u ≠ .agg c) ∧ ∀ c, u ≠ .tuple c := by
  intro vs
  induction vs with
  | nil => intro us h _ u hu; obtain rfl := h.of_nil; cases hu
  | cons v vs ih =>
    intro us h ho u hu
    obtain ⟨x, ys, rfl, hx, hs⟩ := h.of_cons
    simp only [oneL, Bool.and_eq_true] at ho
    rcases List.mem_cons.1 hu with rfl | hu
    · exact hx.one ho.1
    · exact ih hs ho.2 u hu
def LiveB (bs : T Blk) (b : Nat) (k : CB) : Prop := bs.get b = some (.cells k) ∧ k.live = true
theorem kill_get (bs : T Blk) (b c : Nat) : (kill bs b).get c = if c = b then (match bs.get b with | some (.cells k) => some (.cells { k with live := false }) | x => x) else bs.get c := by
  unfold kill
  split
  · rename_i k hk
    rw [T.get_set]
    all_goals (split <;> first | rfl | (subst_vars; simp [hk]; try rfl))
  · rename_i hn
    split
    · subst_vars
      cases hb : bs.get c with
      | none => rfl
      | some x => cases x with
        | cells k => exact absurd hb (hn k)
        | map es => rfl
    · rfl
theorem killL_live (l : List Nat) : ∀ (bs : T Blk) (c : Nat) (k : CB), LiveB (killL bs l) c k ↔ c ∉ l ∧ LiveB bs c k := by
  induction l with
  | nil => intro bs c k; simp [killL]
  | cons b l ih =>
    intro bs c k
    simp only [killL, ih, List.mem_cons, not_or]
    unfold LiveB
    rw [kill_get]
    by_cases hc : c = b
    · subst hc
      simp only [if_true, not_true, false_and, iff_false, not_and]
      intro _ h hl
      split at h
      · cases h; simp at hl
      · rename_i hn; exact hn k h
    · simp [hc]
theorem killL_map (l : List Nat) : ∀ (bs : T Blk) (c : Nat) (es : List (V × V)), (killL bs l).get c = some (.map es) ↔ bs.get c = some (.map es) := by
  induction l with
  | nil => intro bs c es; simp [killL]
  | cons b l ih =>
    intro bs c es
    simp only [killL, ih, kill_get]
    by_cases hc : c = b
    · subst hc
      simp only [if_true]
      cases hb : bs.get c with
      | none => simp
      | some x => cases x <;> simp
    · simp [hc]
theorem killL_none (l : List Nat) : ∀ (bs : T Blk) (c : Nat), bs.get c = none → (killL bs l).get c = none := by
  induction l with
  | nil => intro bs c h; exact h
  | cons b l ih =>
    intro bs c h
    simp only [killL]
    apply ih
    rw [kill_get]
    split
    · subst_vars; simp [h]
    · exact h
theorem cutAt_spec {b : Nat} : ∀ {ch pre post : List Nat}, b ∈ ch → cutAt b ch = (pre, post) → ch = pre ++ b :: post := by
  intro ch
  induction ch with
  | nil => intro pre post h; cases h
  | cons x ch ih =>
    intro pre post h hc
    simp only [cutAt, cond_eq_ite, Nat.beq_eq] at hc
    by_cases hx : x = b
    · rw [if_pos hx] at hc; cases hc; simp [hx]
    · rw [if_neg hx] at hc
      cases hr : cutAt b ch with
      | mk q r =>
        rw [hr] at hc; cases hc
        have hb : b ∈ ch := (List.mem_cons.1 h).resolve_left fun e => hx e.symm
        rw [List.cons_append, ← ih hb hr]
theorem cutLow_spec {bs : T Blk} {i : Nat} : ∀ {l low rest : List Nat}, cutLow bs i l = (low, rest) → l.Pairwise (fun a b => sizeB bs b ≤ sizeB bs a) → l = low ++ rest ∧ ∀ x, x ∈ rest → sizeB bs x ≤ i := by
  intro l
  induction l with
  | nil => intro low rest h _; simp [cutLow] at h; obtain ⟨rfl, rfl⟩ := h; simp
  | cons x l ih =>
    intro low rest h hp
    simp only [cutLow, cond_eq_ite, Nat.ble_eq] at h
    by_cases hx : sizeB bs x ≤ i
    · rw [if_pos hx] at h; cases h
      refine ⟨rfl, fun y hy => ?_⟩
      rcases List.mem_cons.1 hy with rfl | hy
      · exact hx
      · exact Nat.le_trans ((List.pairwise_cons.1 hp).1 y hy) hx
    · rw [if_neg hx] at h
      cases hr : cutLow bs i l with
      | mk q r =>
        rw [hr] at h; cases h
        obtain ⟨h1, h2⟩ := ih hr (List.pairwise_cons.1 hp).2
        exact ⟨by rw [List.cons_append, ← h1], h2⟩
theorem MR.upd {base : Nat} {m m' : Mem} {σ : Sg} {w w' : World} (h : MR base m σ w) {b : Nat} {k k' : CB} {pre low rest : List Nat} (hk : Live m b k) (hch : m.fams.get k.fam = some (pre ++ b :: (low ++ rest)))
    (hk' : k'.live = true ∧ k'.fam = k.fam ∧ k'.ro = k.ro ∧ k'.n ≤ k.n ∧ ∀ x, x ∈ rest → sizeB m.blks x ≤ k'.n)
    (hblk : ∀ c k2, Live m' c k2 ↔ (c = b ∧ k2 = k') ∨ (c ≠ b ∧ c ∉ pre ∧ c ∉ low ∧ Live m c k2)) (hmap : ∀ r es, m'.blks.get r = some (Blk.map es) ↔ m.blks.get r = some (Blk.map es))
    (hfam : ∀ f, m'.fams.get f = if f = k.fam then some (b :: rest) else m.fams.get f) (hnext : m'.next = m.next) (hgl : m'.gl = m.gl) (hnone : ∀ c, m.blks.get c = none → m'.blks.get c = none)
    (hb : ∀ cb o tt, σ b = some (cb, o, tt) → CellOk base k' σ w' cb o tt)
    (hrest : ∀ c k2 cb o tt, c ≠ b → c ∉ pre → c ∉ low → Live m c k2 → σ c = some (cb, o, tt) → CellOk base k2 σ w' cb o tt)
    (hsize : w.heap.size ≤ w'.heap.size) (hmp : ∀ (cb : Nat) (us : Array MapEntry) (clk : Nat), w.heap[cb]? = some (Obj.map us clk) → w'.heap[cb]? = some (Obj.map us clk)) (hgw : ∀ cb : Nat, cb < base → w'.heap[cb]? = w.heap[cb]?) : MR base m' σ w' := by
  have hchain := h.chain _ _ hch
  have hkin : ∀ c, c ∈ pre ++ b :: (low ++ rest) → ∃ k, Live m c k ∧ k.fam = _ := hchain.live
  have hsz : ∀ c, c ∈ rest → sizeB m'.blks c = sizeB m.blks c := fun c hc => by
    obtain ⟨k2, hk2, _⟩ := hkin c (by simp [hc])
    have hnd := hchain.nodup
    have hl : Live m' c k2 := (hblk c k2).2 (.inr ⟨?_, ?_, ?_, hk2⟩)
    · rw [sizeB_live hl, sizeB_live hk2]
    · rintro rfl
      rw [List.nodup_append] at hnd
      have := (List.nodup_cons.1 hnd.2.1).1
      exact this (by simp [hc])
    · intro hp
      rw [List.nodup_append] at hnd
      exact hnd.2.2 c hp c (by simp [hc]) rfl
    · intro hp
      rw [List.nodup_append] at hnd
      have := (List.nodup_cons.1 hnd.2.1).2
      rw [List.nodup_append] at this
      exact this.2.2 c hp c hc rfl
  have hszb : sizeB m'.blks b = k'.n := sizeB_live ((hblk b k').2 (.inl ⟨rfl, rfl⟩))
  refine ⟨Nat.le_trans h.lt hsize, fun c x hx => hnext ▸ h.dom c x hx, fun c k2 cb o tt hc hs => ?_, fun r es hr x hx => ?_, fun r r' es es' hne hr hr' => h.mps r r' es es' hne ((hmap _ _).1 hr) ((hmap _ _).1 hr'), fun c k2 hc => ?_, fun f ch hf => ?_, fun c c' k1 k2 cb o o' tt tt' hne hk1 hk2 hs hs' => ?_, fun c hc => ?_, fun g i v hv => ?_, fun c x hx => Nat.lt_of_lt_of_le (h.rng c x hx) hsize, hnext ▸ h.nle⟩
  · rcases (hblk c k2).1 hc with ⟨rfl, rfl⟩ | ⟨hne, hp, hl, hc⟩
    · exact hb cb o tt hs
    · exact hrest c k2 cb o tt hne hp hl hc hs
  · obtain ⟨h1, h2, us, clk, h3, h4⟩ := h.mp r es ((hmap r es).1 hr) x hx
    exact ⟨h1, h2, us, clk, hmp _ _ _ h3, h4⟩
  · rcases (hblk c k2).1 hc with ⟨rfl, rfl⟩ | ⟨hne, hp, hl, hc⟩
    · exact ⟨c :: rest, by rw [hfam, if_pos hk'.2.1], by simp⟩
    · obtain ⟨ch, h1, h2⟩ := h.fam c k2 hc
      by_cases hf : k2.fam = k.fam
      · rw [hf, hch] at h1; cases h1
        refine ⟨b :: rest, by rw [hfam, if_pos hf], ?_⟩
        simp only [List.mem_append, List.mem_cons] at h2 ⊢
        rcases h2 with h2 | h2 | h2 | h2
        · exact absurd h2 hp
        · exact .inl h2
        · exact absurd h2 hl
        · exact .inr h2
      · exact ⟨ch, by rw [hfam, if_neg hf]; exact h1, h2⟩
  · rw [hfam] at hf
    split at hf
    · rename_i hfe
      cases hf
      subst hfe
      have hnd := hchain.nodup
      rw [List.nodup_append] at hnd
      have hnd2 := List.nodup_cons.1 hnd.2.1
      have hnd3 := hnd2.2
      rw [List.nodup_append] at hnd3
      refine ⟨List.nodup_cons.2 ⟨fun hb => hnd2.1 (by simp [hb]), hnd3.2.1⟩, fun c hc => ?_, List.pairwise_cons.2 ⟨fun c hc => ?_, ?_⟩⟩
      · rcases List.mem_cons.1 hc with rfl | hcr
        · exact ⟨k', (hblk _ _).2 (.inl ⟨rfl, rfl⟩), hk'.2.1⟩
        · obtain ⟨k2, hk2, hkf⟩ := hkin c (by simp [hcr])
          refine ⟨k2, (hblk _ _).2 (.inr ⟨?_, ?_, ?_, hk2⟩), hkf⟩
          · rintro rfl; exact hnd2.1 (by simp [hcr])
          · intro hp; exact hnd.2.2 c hp c (by simp [hcr]) rfl
          · intro hp; exact hnd3.2.2 c hp c hcr rfl
      · rw [hszb, hsz c hc]; exact hk'.2.2.2.2 c hc
      · have hs := hchain.sorted
        have hs2 := ((List.pairwise_append.1 hs).2.1)
        have hs3 := (List.pairwise_append.1 ((List.pairwise_cons.1 hs2).2)).2.1
        exact hs3.imp_of_mem fun {x y} hx hy hxy => by rw [hsz x hx, hsz y hy]; exact hxy
    · rename_i hfe
      have hc := h.chain f ch hf
      have hin : ∀ c, c ∈ ch → ∃ k2, Live m' c k2 ∧ k2.fam = f ∧ sizeB m'.blks c = sizeB m.blks c := fun c hcc => by
        obtain ⟨k2, hk2, hkf⟩ := hc.live c hcc
        have hl : Live m' c k2 := (hblk c k2).2 (.inr ⟨?_, ?_, ?_, hk2⟩)
        · exact ⟨k2, hl, hkf, by rw [sizeB_live hl, sizeB_live hk2]⟩
        · rintro rfl; rw [← hk2.uniq hk] at hfe; exact hfe hkf.symm
        · intro hp
          obtain ⟨k3, hk3, hk3f⟩ := hkin c (by simp [hp])
          rw [hk3.uniq hk2, hkf] at hk3f; exact hfe hk3f
        · intro hp
          obtain ⟨k3, hk3, hk3f⟩ := hkin c (by simp [hp])
          rw [hk3.uniq hk2, hkf] at hk3f; exact hfe hk3f
      refine ⟨hc.nodup, fun c hcc => ?_, hc.sorted.imp_of_mem fun {x y} hx hy hxy => ?_⟩
      · obtain ⟨k2, h1, h2, _⟩ := hin c hcc; exact ⟨k2, h1, h2⟩
      · obtain ⟨_, _, _, e1⟩ := hin x hx
        obtain ⟨_, _, _, e2⟩ := hin y hy
        rw [e1, e2]; exact hxy
  · have key : ∀ c k1, Live m' c k1 → ∃ k2, Live m c k2 ∧ k2.fam = k1.fam ∧ k2.ro = k1.ro := fun c k1 hc => by
      rcases (hblk c k1).1 hc with ⟨rfl, rfl⟩ | ⟨_, _, _, hc⟩
      · exact ⟨k, hk, hk'.2.1.symm, hk'.2.2.1.symm⟩
      · exact ⟨k1, hc, rfl, rfl⟩
    obtain ⟨j1, hj1, e1, e2⟩ := key c k1 hk1
    obtain ⟨j2, hj2, e3, e4⟩ := key c' k2 hk2
    have := h.sep c c' j1 j2 cb o o' tt tt' hne hj1 hj2 hs hs'
    rw [e1, e2, e3, e4] at this
    exact this
  · rw [hnext] at hc
    obtain ⟨h1, h2⟩ := h.new c hc
    refine ⟨hnone c h1, ?_⟩
    rw [hfam, if_neg]
    · exact h2
    · rintro rfl; rw [hch] at h2; cases h2
  · rw [hgl] at hv
    obtain ⟨h1, x, h2, h3⟩ := h.gl g i v hv
    exact ⟨h1, x, by rw [cell_heap (hgw g h1)]; exact h2, h3⟩
theorem MR.kin {base : Nat} {m : Mem} {σ : Sg} {w : World} (h : MR base m σ w) {b c cb o o' tt tt' : Nat} {k k2 : CB} {pre low rest : List Nat} (hk : Live m b k) (hro : k.ro = false) (hch : m.fams.get k.fam = some (pre ++ b :: (low ++ rest)))
    (hne : c ≠ b) (hp : c ∉ pre) (hl : c ∉ low) (hc : Live m c k2) (hs : σ b = some (cb, o, tt)) (hs' : σ c = some (cb, o', tt')) : c ∈ rest ∧ o' = o ∧ k2.fam = k.fam := by
  rcases h.sep c b k2 k cb o' o tt' tt hne hc hk hs' hs with ⟨_, hr⟩ | ⟨hf, ho⟩
  · rw [hro] at hr; cases hr
  · obtain ⟨ch, h1, h2⟩ := h.fam c k2 hc
    rw [hf, hch] at h1; cases h1
    simp only [List.mem_append, List.mem_cons] at h2
    rcases h2 with h2 | h2 | h2 | h2
    · exact absurd h2 hp
    · exact absurd h2 hne
    · exact absurd h2 hl
    · exact ⟨h2, ho, hf⟩
theorem write_spec {m m' : Mem} {b i : Nat} {vs : List V} (h : m.write b i vs = some m') : ∃ k, m.blks.get b = some (.cells k) ∧ k.live = true ∧ k.ro = false ∧ k.fz ≤ i ∧ i + vs.length ≤ k.n ∧ oneL vs = true ∧ ∃ ch pre post low rest,
    m.fams.get k.fam = some ch ∧ cutAt b ch = (pre, post) ∧ cutLow m.blks i post = (low, rest) ∧
    ((pre = [] ∧ low = [] ∧ m' = { m with blks := m.blks.set b (.cells { k with c := putL k.c i vs }) }) ∨
     m' = { m with blks := killL (killL (m.blks.set b (.cells { k with c := putL k.c i vs })) pre) low, fams := m.fams.set k.fam (b :: rest) }) := by
  unfold Mem.write at h
  split at h
  · rename_i k hk
    simp only [bif_some, Bool.and_eq_true, Bool.not_eq_true', Nat.ble_eq] at h
    obtain ⟨⟨⟨⟨⟨h1, h2⟩, h3⟩, h4⟩, h5⟩, h⟩ := h
    split at h
    · rename_i ch hch
      refine ⟨k, hk, h1, h2, h3, h4, h5, ch, (cutAt b ch).1, (cutAt b ch).2, (cutLow m.blks i (cutAt b ch).2).1, (cutLow m.blks i (cutAt b ch).2).2, hch, rfl, rfl, ?_⟩
      split at h
      · rename_i e1 e2
        cases h
        exact .inl ⟨e1, e2, rfl⟩
      · cases h; exact .inr rfl
    · cases h
  · cases h
theorem MR.write {base : Nat} {p : Program} {m m' : Mem} {σ : Sg} {w : World} (h : MR base m σ w) {b i cb o tt : Nat} {vs : List V} {us : List Value} (hs : σ b = some (cb, o, tt)) (hw : m.write b i vs = some m') (hr : RelL σ vs us) :
    ∃ w', (storeCells ⟨cb, o + i, none⟩ us).run p w = .ok () w' ∧ MR base m' σ w' ∧ Tr base σ w σ w' := by
  obtain ⟨k, hkb, hkl, hro, hz, hn, hone, ch, pre, post, low, rest, hch, hcut, hlow, hm'⟩ := write_spec hw
  have hk : Live m b k := ⟨hkb, hkl⟩
  obtain ⟨ch', hch', hbin⟩ := h.fam b k hk
  rw [hch] at hch'; cases hch'
  have hchain := h.chain _ _ hch
  have e1 := cutAt_spec hbin hcut
  subst e1
  have hsort2 : post.Pairwise fun a b => sizeB m.blks b ≤ sizeB m.blks a := (List.pairwise_cons.1 (List.pairwise_append.1 hchain.sorted).2.1).2
  obtain ⟨e2, hrest⟩ := cutLow_spec hlow hsort2
  subst e2
  obtain ⟨hbase, cs, lo, hi, hh, htt, htot, hcsz, hfz⟩ := (h.bl b k cb o tt hk hs).own hro
  have hlen : us.length = vs.length := hr.1.symm
  obtain ⟨w', cs', hrun, h1, h2, h3, h4, h5, h6, h7, h8⟩ := storeCells_run (p := p) us w cb (o + i) 0 cs k.el lo hi hh (by omega) (fun q hq1 hq2 => by
    rcases hfz with e | e <;> omega) (oneL_rel hr hone)
  simp only [Nat.add_zero] at h3
  have hcell : ∀ c j, w'.cell? ⟨c, j, none⟩ = if c = cb then (if o + i ≤ j ∧ j < o + i + us.length then us[j - (o + i)]? else cs[j]?) else w.cell? ⟨c, j, none⟩ := fun c j => by
    split
    · rename_i e; subst e
      simp only [World.cell?, h1, Option.isSome_none, Bool.false_eq_true, if_false, h3]
    · rename_i e; exact cell_heap (h4 c e)
  have hcell0 : ∀ j, w.cell? ⟨cb, j, none⟩ = cs[j]? := fun j => by simp [World.cell?, hh]
  refine ⟨w', hrun, ?_, ⟨σ.le_refl, fun b x h => .inl ⟨b, x, h, rfl⟩, h5, h6, h7, by omega, fun c hc hcond => h4 c ?_, fun _ _ h => .inl h, rfl⟩⟩
  · refine h.upd (k' := { k with c := putL k.c i vs }) (pre := pre) (low := low) (rest := rest) hk hch ⟨hkl, rfl, rfl, Nat.le_refl _, fun x hx => Nat.le_trans (hrest x hx) (by show i ≤ k.n; omega)⟩ ?_ ?_ ?_ ?_ ?_ ?_ ?_ ?_ (by omega) ?_ ?_
    · intro c k2
      rcases hm' with ⟨rfl, rfl, rfl⟩ | rfl
      · show LiveB (m.blks.set b _) c k2 ↔ _
        unfold LiveB Live
        rw [T.get_set]
        by_cases hc : c = b
        · subst hc
          simp only [if_true, Option.some.injEq, Blk.cells.injEq, true_and, ne_eq, not_true, false_and, or_false]
          constructor
          · rintro ⟨rfl, _⟩; rfl
          · rintro rfl; exact ⟨rfl, hkl⟩
        · simp [hc]
      · show LiveB (killL (killL (m.blks.set b _) pre) low) c k2 ↔ _
        rw [killL_live, killL_live]
        unfold LiveB Live
        rw [T.get_set]
        by_cases hc : c = b
        · subst hc
          have hnd := hchain.nodup
          rw [List.nodup_append] at hnd
          have hp : c ∉ pre := fun hp => hnd.2.2 c hp c (by simp) rfl
          have hl : c ∉ low := fun hl => (List.nodup_cons.1 hnd.2.1).1 (by simp [hl])
          simp only [hp, hl, not_false_eq_true, true_and, if_true, Option.some.injEq, Blk.cells.injEq, ne_eq, not_true, false_and, or_false]
          constructor
          · rintro ⟨rfl, _⟩; rfl
          · rintro rfl; exact ⟨rfl, hkl⟩
        · simp only [if_neg hc, hc, false_and, false_or, ne_eq, not_false_eq_true, true_and]
          constructor
          · rintro ⟨a, b, c⟩; exact ⟨b, a, c⟩
          · rintro ⟨a, b, c⟩; exact ⟨b, a, c⟩
    · intro r es
      have : (m.blks.set b (.cells { k with c := putL k.c i vs })).get r = some (.map es) ↔ m.blks.get r = some (.map es) := by
        rw [T.get_set]
        split
        · subst_vars; simp [hkb]
        · rfl
      rcases hm' with ⟨rfl, rfl, rfl⟩ | rfl
      · exact this
      · show (killL (killL (m.blks.set b _) pre) low).get r = _ ↔ _
        rw [killL_map, killL_map]; exact this
    · intro f
      rcases hm' with ⟨rfl, rfl, rfl⟩ | rfl
      · show m.fams.get f = _
        split
        · subst_vars; rw [hch]; rfl
        · rfl
      · show (m.fams.set k.fam (b :: rest)).get f = _
        rw [T.get_set]
    · rcases hm' with ⟨rfl, rfl, rfl⟩ | rfl <;> rfl
    · rcases hm' with ⟨rfl, rfl, rfl⟩ | rfl <;> rfl
    · intro c hc
      have hcb : c ≠ b := by rintro rfl; rw [hkb] at hc; cases hc
      rcases hm' with ⟨rfl, rfl, rfl⟩ | rfl
      · show (m.blks.set b _).get c = none
        rw [T.get_set, if_neg hcb]; exact hc
      · refine killL_none _ _ _ (killL_none _ _ _ ?_)
        rw [T.get_set, if_neg hcb]; exact hc
    · intro cb2 o2 tt2 hs2
      rw [hs] at hs2; cases hs2
      refine ⟨fun j v hj hv => ?_, fun _ => ⟨hbase, cs', lo, hi, h1, h2.trans htt, fun ht => ⟨(htot ht).1, h2.trans (htot ht).2⟩, by rw [h2]; exact hcsz, hfz⟩⟩
      simp only [putL_get] at hv
      rw [hcell, if_pos rfl]
      split at hv
      · rename_i hji
        rw [if_pos (by omega)]
        obtain ⟨x, hx, hR⟩ := hr.get hv
        exact ⟨x, by rw [show o + j - (o + i) = j - i by omega]; exact hx, hR⟩
      · rename_i hji
        rw [if_neg (by omega)]
        obtain ⟨x, hx, hR⟩ := (h.bl b k cb o tt hk hs).cell j v hj hv
        exact ⟨x, by rw [hcell0] at hx; exact hx, hR⟩
    · intro c k2 cb2 o2 tt2 hne hp hl hc hs2
      have hold := h.bl c k2 cb2 o2 tt2 hc hs2
      by_cases e : cb2 = cb
      · subst e
        obtain ⟨hcr, rfl, hcf⟩ := h.kin hk hro hch hne hp hl hc hs hs2
        have hsz : k2.n ≤ i := by rw [← sizeB_live hc]; exact hrest c hcr
        refine ⟨fun j v hj hv => ?_, fun hr2 => ?_⟩
        · obtain ⟨x, hx, hR⟩ := hold.cell j v hj hv
          refine ⟨x, ?_, hR⟩
          rw [hcell, if_pos rfl, if_neg (by omega)]
          rw [hcell0] at hx; exact hx
        · obtain ⟨g1, cs2, lo2, hi2, g2, gt, g3, g4, g5⟩ := hold.own hr2
          rw [hh] at g2
          simp only [Option.some.injEq, Obj.cells.injEq, Prod.mk.injEq] at g2
          obtain ⟨rfl, ge, rfl, rfl⟩ := g2
          exact ⟨g1, cs', lo, hi, ge ▸ h1, h2.trans gt, fun ht => ⟨(g3 ht).1, h2.trans (g3 ht).2⟩, by rw [h2]; exact g4, g5⟩
      · exact hold.mono σ.le_refl (h4 cb2 e)
    · intro c us2 clk hc
      refine (h4 c ?_).trans hc
      rintro rfl; rw [hh] at hc; cases hc
    · intro c hc
      refine h4 c ?_
      rintro rfl; omega
  · rintro rfl
    rcases hcond with hb | hn
    · omega
    · exact hn b _ hs rfl
end Go.Ev
