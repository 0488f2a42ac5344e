/- Several texts in one: contracts of functions of the program, and what they lean on. In part written by a program of this session over the kit's print, in part by hand. -/
import Derived.Test.YtoedpbjeangdhaaGreatDoorYShowTexts3
import Derived.Shelf.Strings.Builder1
import Derived.Shelf.Strings.Builder2
import Derived.Shelf.Small.Strs
import Derived.Shelf.Utf8.RuneCount
import Derived.Shelf.Strings.Search1
import Derived.Shelf.Strings.Search2
import Derived.Shelf.Strings.Search3
import Derived.Shelf.Strings.Cut
import Derived.Shelf.Strings.Count
import Derived.Shelf.LaysM
import Derived.Shelf.Strings.Shaped
import Derived.Shelf.Strings.Prefix
import Derived.Shelf.Strings.Split
import Derived.Shelf.Strings.SplitShaped
import Derived.Shelf.Unicode.Decode
import Derived.Shelf.Strings.RuneCount
import Derived.Shelf.Strings.Explode
import Derived.Shelf.Unicode.DecodeSlow
import Derived.Shelf.Unicode.DecodeAny
import Derived.Shelf.Slices.Turned
import Derived.Test.YtoedpbjeangdhaaGreatDoorProg
import Derived.Test.YtoedpbjeangdhaaGreatDoorTie
import Derived.Test.YtoedpbjeangdhaaGreatDoorYShowTexts0
noncomputable section
namespace Go.Ev
open Go
set_option linter.unusedVariables false
set_option linter.unusedSimpArgs false
abbrev Ans := Option (V × Mem)
abbrev Cf := FuncId → List V → Mem → (V → Mem → Ans) → Ans
def oK {α β : Type} (x : Option α) (k : α → Option β) : Option β := Option.rec (motive := fun _ => Option β) none k x
structure Gp where
  run : T V → Option V
def gp (n : Nat) : Nat → Gp := Nat.rec (motive := fun _ => Nat → Gp) (fun k => ⟨fun t => T.get t k⟩)
  (fun _ ih k => Bool.rec
    (Bool.rec ⟨fun t => T.rec (motive := fun _ => Option V) none (fun _ _ r _ _ => (ih (Nat.div (Nat.sub k 1) 2)).run r) t⟩
      ⟨fun t => T.rec (motive := fun _ => Option V) none (fun _ l _ _ _ => (ih (Nat.div k 2)).run l) t⟩ (Nat.beq (Nat.mod k 2) 1))
    ⟨fun t => T.rec (motive := fun _ => Option V) none (fun v _ _ _ _ => v) t⟩ (Nat.beq k 0)) n
theorem gp_eq : ∀ (n k : Nat) (t : T V), (gp n k).run t = t.get k := by
  intro n
  induction n with
  | zero => intro k t; rfl
  | succ n ih =>
    intro k t
    have : gp (n + 1) k = (Bool.rec
      (Bool.rec ⟨fun t => T.rec (motive := fun _ => Option V) none (fun _ _ r _ _ => (gp n (Nat.div (Nat.sub k 1) 2)).run r) t⟩
        ⟨fun t => T.rec (motive := fun _ => Option V) none (fun _ l _ _ _ => (gp n (Nat.div k 2)).run l) t⟩ (Nat.beq (Nat.mod k 2) 1))
      ⟨fun t => T.rec (motive := fun _ => Option V) none (fun v _ _ _ _ => v) t⟩ (Nat.beq k 0) : Gp) := rfl
    rw [this]
    cases t with
    | nil => rw [T.get_nil]; cases Nat.beq k 0 <;> cases Nat.beq (Nat.mod k 2) 1 <;> rfl
    | node v l r =>
      show _ = (Bool.rec (Bool.rec (r.get (Nat.div (Nat.sub k 1) 2)) (l.get (Nat.div k 2)) (Nat.beq (Nat.mod k 2) 1)) v (Nat.beq k 0) : Option V)
      rw [← ih, ← ih]
      cases Nat.beq k 0 <;> cases Nat.beq (Nat.mod k 2) 1 <;> rfl
structure Sp where
  run : V → T V → T V
def sp (n : Nat) : Nat → Sp := Nat.rec (motive := fun _ => Nat → Sp) (fun k => ⟨fun _ t => t⟩)
  (fun _ ih k => Bool.rec
    (Bool.rec ⟨fun x t => T.rec (motive := fun _ => T V) (.node none .nil ((ih (Nat.div (Nat.sub k 1) 2)).run x .nil)) (fun v l r _ _ => .node v l ((ih (Nat.div (Nat.sub k 1) 2)).run x r)) t⟩
      ⟨fun x t => T.rec (motive := fun _ => T V) (.node none ((ih (Nat.div k 2)).run x .nil) .nil) (fun v l r _ _ => .node v ((ih (Nat.div k 2)).run x l) r) t⟩ (Nat.beq (Nat.mod k 2) 1))
    ⟨fun x t => T.rec (motive := fun _ => T V) (.node (some x) .nil .nil) (fun v l r _ _ => .node (some x) l r) t⟩ (Nat.beq k 0)) n
theorem sp_eq : ∀ (n k : Nat) (x : V) (t : T V), (sp n k).run x t = T.put x n t k := by
  intro n
  induction n with
  | zero => intro k x t; rfl
  | succ n ih =>
    intro k x t
    have : sp (n + 1) k = (Bool.rec
      (Bool.rec ⟨fun x t => T.rec (motive := fun _ => T V) (.node none .nil ((sp n (Nat.div (Nat.sub k 1) 2)).run x .nil)) (fun v l r _ _ => .node v l ((sp n (Nat.div (Nat.sub k 1) 2)).run x r)) t⟩
        ⟨fun x t => T.rec (motive := fun _ => T V) (.node none ((sp n (Nat.div k 2)).run x .nil) .nil) (fun v l r _ _ => .node v ((sp n (Nat.div k 2)).run x l) r) t⟩ (Nat.beq (Nat.mod k 2) 1))
      ⟨fun x t => T.rec (motive := fun _ => T V) (.node (some x) .nil .nil) (fun v l r _ _ => .node (some x) l r) t⟩ (Nat.beq k 0) : Sp) := rfl
    rw [this]
    have put : T.put x (n + 1) t k = (T.rec (motive := fun _ => T V)
      (Bool.rec (Bool.rec (.node none .nil (T.put x n .nil (Nat.div (Nat.sub k 1) 2))) (.node none (T.put x n .nil (Nat.div k 2)) .nil) (Nat.beq (Nat.mod k 2) 1)) (.node (some x) .nil .nil) (Nat.beq k 0))
      (fun v l r _ _ => Bool.rec (Bool.rec (.node v l (T.put x n r (Nat.div (Nat.sub k 1) 2))) (.node v (T.put x n l (Nat.div k 2)) r) (Nat.beq (Nat.mod k 2) 1)) (.node (some x) l r) (Nat.beq k 0)) t : T V) := rfl
    rw [put]
    cases t with
    | nil => dsimp only; rw [← ih, ← ih]; cases Nat.beq k 0 <;> cases Nat.beq (Nat.mod k 2) 1 <;> rfl
    | node v l r => dsimp only; rw [← ih, ← ih]; cases Nat.beq k 0 <;> cases Nat.beq (Nat.mod k 2) 1 <;> rfl
structure Wr where
  run : V → Env → (Env → Ans) → Ans
def wr (nt : Nat) : Option Tmp → Wr
  | none => ⟨fun _ e k => k e⟩
  | some d => bif Nat.blt d nt then ⟨fun v e k => k ((sp (d + 1) d).run v e)⟩ else ⟨fun _ _ _ => none⟩
theorem wr_eq (nt : Nat) (d : Option Tmp) (v : V) (e : Env) (k : Env → Ans) : (wr nt d).run v e k = match setO nt e d v with | some e' => k e' | none => none := by
  cases d with
  | none => rfl
  | some d =>
    unfold wr setO
    dsimp only
    cases Nat.blt d nt
    · rfl
    · show k ((sp (d + 1) d).run v e) = k (T.set e d v)
      rw [sp_eq]; rfl
structure Rd where
  run : Env → (V → Ans) → Ans
def rd : Operand → Rd
  | .tmp t => ⟨fun e k => oK ((gp 8 t).run e) k⟩
  | .const v => ⟨fun _ k => oK (ofValue v) k⟩
  | .global g => ⟨fun _ k => k (.gptr g 0)⟩
  | .func f => ⟨fun _ k => k (.fn (.func f) [] [])⟩
theorem rd_eq (x : Operand) (e : Env) (k : V → Ans) : (rd x).run e k = match evalO e x with | some v => k v | none => none := by
  cases x with
  | tmp t => show oK ((gp 8 t).run e) k = _; rw [gp_eq]; show oK (evalO e (.tmp t)) k = _; cases evalO e (.tmp t) <;> rfl
  | const v => show oK (evalO e (.const v)) k = _; cases evalO e (.const v) <;> rfl
  | global g => rfl
  | func f => rfl
structure RdL where
  run : Env → (List V → Ans) → Ans
def rdL : List Operand → RdL
  | [] => ⟨fun _ k => k []⟩
  | o :: r => ⟨fun e k => (rd o).run e fun v => (rdL r).run e fun vs => k (v :: vs)⟩
theorem rdL_eq : ∀ (xs : List Operand) (e : Env) (k : List V → Ans), (rdL xs).run e k = match evalL e xs with | some vs => k vs | none => none := by
  intro xs
  induction xs with
  | nil => intro e k; rfl
  | cons x xs ih =>
    intro e k
    unfold rdL evalL
    dsimp only
    rw [rd_eq]
    cases evalO e x with
    | none => rfl
    | some v =>
      dsimp only
      rw [ih]
      cases evalL e xs <;> rfl
structure Bk where
  run : V → V → (V → Ans) → Ans
def intP (v : V) (yes : IntKind → Int → Ans) (no : Ans) : Ans := match v with
  | .int k n => yes k n
  | _ => no
def bkI (s : V → V → (V → Ans) → Ans) (f : IntKind → Int → Int → V) : Bk :=
  ⟨fun a b k => intP a (fun k1 x => intP b (fun k2 y => Bool.rec (s a b k) (k (f k1 x y)) (kindEq k1 k2)) (s a b k)) (s a b k)⟩
def bkS (p : Program) (op : BinOp) (t : TypeId) (ox oy : Operand) (a b : V) (k : V → Ans) : Ans := oK (binV p op t ox oy a b) k
def bk (p : Program) (op : BinOp) (t : TypeId) (ox oy : Operand) : Bk :=
  match op with
  | .add => bkI (bkS p .add t ox oy) fun k x y => .int k (wrapI k (intAdd x y))
  | .sub => bkI (bkS p .sub t ox oy) fun k x y => .int k (wrapI k (intSub x y))
  | .eql => bkI (bkS p .eql t ox oy) fun _ x y => .bool (intEq x y)
  | .neq => bkI (bkS p .neq t ox oy) fun _ x y => .bool (!intEq x y)
  | .lss => bkI (bkS p .lss t ox oy) fun _ x y => .bool (intLt x y)
  | .leq => bkI (bkS p .leq t ox oy) fun _ x y => .bool (!intLt y x)
  | .gtr => bkI (bkS p .gtr t ox oy) fun _ x y => .bool (intLt y x)
  | .geq => bkI (bkS p .geq t ox oy) fun _ x y => .bool (!intLt x y)
  | op => ⟨bkS p op t ox oy⟩
theorem bkI_eq {p : Program} {op : BinOp} {t : TypeId} {ox oy : Operand} {f : IntKind → Int → Int → V} (h : ∀ (k : IntKind) (x y : Int), binV p op t ox oy (.int k x) (.int k y) = some (f k x y)) (a b : V) (k : V → Ans) :
    (bkI (bkS p op t ox oy) f).run a b k = oK (binV p op t ox oy a b) k := by
  unfold bkI intP
  dsimp only
  split
  · rename_i k1 x
    split
    · rename_i k2 y
      cases e : kindEq k1 k2 with
      | false => rfl
      | true =>
        rw [kindEq_iff] at e
        subst e
        dsimp only
        rw [h]; rfl
    · rfl
  · rfl
theorem bk_eq (p : Program) (op : BinOp) (t : TypeId) (ox oy : Operand) (a b : V) (k : V → Ans) : (bk p op t ox oy).run a b k = oK (binV p op t ox oy a b) k := by
  have hk : ∀ k : IntKind, kindEq k k = true := fun k => by rw [kindEq_iff]
  unfold bk
  split <;> first
    | rfl
    | exact bkI_eq (fun k x y => by simp [binV, intOp, hk]) a b k
def finK (cc : Cf) (k : V → Mem → Ans) : R → Ans
  | .val v m => k v m
  | .skip m => k (.tup []) m
  | .call f args m => cc f args m k
  | .fail => none
structure St where
  run : Cf → Env → Mem → (V → Mem → Ans) → Ans
def stSlow (p : Program) (xb : XB) (ops : Array Oper) (o : Oper) (cc : Cf) (e : Env) (m : Mem) (k : V → Mem → Ans) : Ans :=
  match wantedV ops e o with
  | none => none
  | some false => k (.tup []) m
  | some true => finK cc k (opV p xb e m o)
def oK2 (x : Option (V × Mem)) (k : V → Mem → Ans) : Ans := Option.rec (motive := fun _ => Ans) none (fun q => k q.1 q.2) x
def callK (p : Program) (xb : XB) (f : FuncId) : Cf → List V → Mem → (V → Mem → Ans) → Ans :=
  match p.funcs[f]? with
  | none => fun _ _ _ _ => none
  | some fn => match fn.body with
    | some _ => fun cc args m k => cc f args m k
    | none => fun _ args m k => oK2 (xb f args m) k
structure CK where
  run : Cf → List V → Mem → (V → Mem → Ans) → Ans
structure Nk where
  run : Env → Option V
def nPick (c a b : Operand) (e : Env) : Option V := match evalO e c with
    | some (.bool true) => evalO e a
    | some (.bool false) => evalO e b
    | _ => none
def nNil (x : Operand) (e : Env) : Option V := match evalO e x with
    | some v => nilCheckV v
    | none => none
def nUn (p : Program) (op : UnOp) (x : Operand) (e : Env) : Option V := match evalO e x with
    | some a => unV p op a
    | none => none
def nConv (p : Program) (s d : TypeId) (x : Operand) (e : Env) : Option V := match evalO e x with
    | some a => convN p s d a
    | none => none
def nMkI (p : Program) (t : TypeId) (x : Operand) (e : Env) : Option V := match evalO e x with
    | some a => (match p.underlying t with | some (.interface _) => none | some _ => some (.iface t a) | none => none)
    | none => none
def nSlice (p : Program) (t : TypeId) (x : Operand) (lo hi : Option Operand) (e : Env) : Option V := match evalO e x, opt e lo, opt e hi with
    | some x, some lo, some hi => sliceV p t x lo hi
    | _, _, _ => none
def nFA (p : Program) (s : TypeId) (x : Operand) (f : Nat) (e : Env) : Option V := match evalO e x with
    | some (.ptr b i) => (match p.underlying s with
      | some (.struct fs) => (match fs[f]? with | some f => (match sizeQ p f.type with | some (_ + 1) => some (.ptr b (i + f.offset)) | _ => none) | none => none)
      | _ => none)
    | _ => none
def nFld (p : Program) (t : TypeId) (x : Operand) (f : Nat) (e : Env) : Option V := match evalO e x with
    | some (.agg cs) => (match p.underlying t with
      | some (.struct fs) => (match fs[f]? with | some f => partV p f.type cs f.offset | none => none)
      | _ => none)
    | _ => none
def nIA (p : Program) (t : TypeId) (x i : Operand) (e : Env) : Option V := match evalO e x, evalO e i with
    | some x, some i => indexAddrV p t x i
    | _, _ => none
def nIx (p : Program) (t : TypeId) (x i : Operand) (e : Env) : Option V := match evalO e x, evalO e i with
    | some x, some i => indexV p t x i
    | _, _ => none
def nAs (p : Program) (x : Operand) (t : TypeId) (ok : Bool) (e : Env) : Option V := match evalO e x with
    | some x => assertV p x t ok
    | none => none
def nEx (t : Operand) (i : Nat) (e : Env) : Option V := match evalO e t with
    | some (.tup vs) => vs[i]?
    | _ => none
def nBu (p : Program) (b : Builtin) (args : List Operand) (ts : Array TypeId) (e : Env) : Option V := match evalL e args with
    | some args => builtinN p b ts args
    | none => none
def nk (p : Program) (o : Oper) : Nk :=
  match o.op with
  | .pick c a b => ⟨nPick c a b⟩
  | .nilCheck x => ⟨nNil x⟩
  | .unOp op _ x => ⟨nUn p op x⟩
  | .convert s d x => ⟨nConv p s d x⟩
  | .makeInterface t x => ⟨nMkI p t x⟩
  | .slice t x lo hi none => ⟨nSlice p t x lo hi⟩
  | .fieldAddr s x f => ⟨nFA p s x f⟩
  | .field t x f => ⟨nFld p t x f⟩
  | .indexAddr t x i => ⟨nIA p t x i⟩
  | .index t x i => ⟨nIx p t x i⟩
  | .typeAssert x _ t ok => ⟨nAs p x t ok⟩
  | .extract t i => ⟨nEx t i⟩
  | .call ⟨.builtin b, args, ts⟩ => ⟨nBu p b args.toList ts⟩
  | .build .. => ⟨fun e => nV p e o⟩
  | .makeFunc .. => ⟨fun e => nV p e o⟩
  | .alloc _ => ⟨fun _ => none⟩
  | .box .. => ⟨fun _ => none⟩
  | .buildSlice .. => ⟨fun _ => none⟩
  | .makeSlice .. => ⟨fun _ => none⟩
  | _ => ⟨fun e => nV p e o⟩
theorem nk_eq (p : Program) (o : Oper) (e : Env) : (nk p o).run e = nV p e o := by
  unfold nk
  split <;> rename_i h <;> first
    | rfl
    | (unfold nV; rw [h]; done)
    | (unfold nV; rw [h]; rfl)
    | (unfold nV; rw [h]; dsimp only; unfold nSlice; cases evalO e _ <;> cases opt e _ <;> cases opt e _ <;> rfl)
structure Mk where
  run : Env → Mem → R
def mAlloc (p : Program) (t : TypeId) (_ : Env) (m : Mem) : R := match zeroV p t with
    | some z => (match m.newL t z.cells z.cells.length with | (g, m') => .val (.ptr g 0) m')
    | none => .fail
def mBox (t : TypeId) (x : Operand) (e : Env) (m : Mem) : R := match evalO e x with
    | some v => (match m.newL t v.cells v.cells.length with | (g, m') => .val (.ptr g 0) m')
    | none => .fail
def mCall (p : Program) (xb : XB) (c : Call) (e : Env) (m : Mem) : R := callV p xb e m c
def mk (p : Program) (xb : XB) (o : Oper) : Mk :=
  match o.op with
  | .alloc t => ⟨mAlloc p t⟩
  | .box t x => ⟨mBox t x⟩
  | .call c => ⟨mCall p xb c⟩
  | _ => ⟨fun e m => memV p xb e m o⟩
theorem mk_eq (p : Program) (xb : XB) (o : Oper) (e : Env) (m : Mem) : (mk p xb o).run e m = memV p xb e m o := by
  unfold mk
  split <;> rename_i h <;> first
    | rfl
    | (unfold memV; rw [h]; done)
    | (unfold memV; rw [h]; rfl)
def stMid (n : Nk) (mk : Mk) (cc : Cf) (e : Env) (m : Mem) (k : V → Mem → Ans) : Ans :=
  Option.rec (motive := fun _ => Ans) (finK cc k (mk.run e m)) (fun v => k v m) (n.run e)
def stF (p : Program) (xb : XB) (ops : Array Oper) (o : Oper) : St :=
  match o.guard with
  | some _ => ⟨stSlow p xb ops o⟩
  | none => match o.op with
    | .move x => ⟨fun _ e m k => (rd x).run e fun v => k v m⟩
    | .assign x => ⟨fun _ e m k => (rd x).run e fun v => k v m⟩
    | .binOp op t x y _ => ⟨fun _ e m k => (rd x).run e fun a => (rd y).run e fun b => (bk p op t x y).run a b fun v => k v m⟩
    | .load t x => ⟨fun _ e m k => (rd x).run e fun a => oK (loadV p m t a) fun v => k v m⟩
    | .store t a x => ⟨fun _ e m k => (rd a).run e fun a => (rd x).run e fun x => oK (storeV p m t a x) fun m' => k (.tup []) m'⟩
    | .call ⟨.value (.func f), args, _⟩ => ⟨fun cc e m k => (rdL args.toList).run e fun vs => (CK.mk (callK p xb f)).run cc vs m k⟩
    | _ => ⟨stMid (nk p o) (mk p xb o)⟩
def CcOk (cc : Cf) (cf : CallF) : Prop := ∀ f args m k, cc f args m k = match cf f args m with | some (v, m') => k v m' | none => none
theorem finK_eq {cc : Cf} {cf : CallF} (h : CcOk cc cf) (k : V → Mem → Ans) (r : R) : finK cc k r = match r.fin cf with | some (v, m') => k v m' | none => none := by
  cases r with
  | val v m => rfl
  | skip m => rfl
  | call f args m => exact h f args m k
  | fail => rfl
theorem stSlow_eq {p : Program} {xb : XB} {cc : Cf} {cf : CallF} (h : CcOk cc cf) (ops : Array Oper) (o : Oper) (e : Env) (m : Mem) (k : V → Mem → Ans) :
    stSlow p xb ops o cc e m k = match stepV p xb cf ops o e m with | some (v, m') => k v m' | none => none := by
  unfold stSlow stepV
  split <;> rename_i hw <;> rw [hw]
  exact finK_eq h k _
theorem stMid_eq {p : Program} {xb : XB} {cc : Cf} {cf : CallF} (h : CcOk cc cf) (ops : Array Oper) (o : Oper) (hg : o.guard = none) (e : Env) (m : Mem) (k : V → Mem → Ans) :
    stMid (nk p o) (mk p xb o) cc e m k = match stepV p xb cf ops o e m with | some (v, m') => k v m' | none => none := by
  have hst : stepV p xb cf ops o e m = (opV p xb e m o).fin cf := by unfold stepV wantedV; rw [hg]
  rw [hst]
  unfold stMid opV
  rw [nk_eq, mk_eq]
  cases nV p e o with
  | some v => rfl
  | none => exact finK_eq h k _
theorem stF_eq {p : Program} {xb : XB} {cc : Cf} {cf : CallF} (h : CcOk cc cf) (ops : Array Oper) (o : Oper) (e : Env) (m : Mem) (k : V → Mem → Ans) :
    (stF p xb ops o).run cc e m k = match stepV p xb cf ops o e m with | some (v, m') => k v m' | none => none := by
  unfold stF
  split
  · exact stSlow_eq h ops o e m k
  rename_i hg
  have hst : stepV p xb cf ops o e m = (opV p xb e m o).fin cf := by unfold stepV wantedV; rw [hg]
  split
  · rename_i x hop
    rw [hst]
    dsimp only
    rw [rd_eq]
    unfold opV nV memV
    rw [hop]
    dsimp only
    cases evalO e x <;> rfl
  · rename_i x hop
    rw [hst]
    dsimp only
    rw [rd_eq]
    unfold opV nV memV
    rw [hop]
    dsimp only
    cases evalO e x <;> rfl
  · rename_i op t x y _ hop
    rw [hst]
    dsimp only
    rw [rd_eq]
    unfold opV nV memV
    rw [hop]
    dsimp only
    cases evalO e x with
    | none => rfl
    | some a =>
      dsimp only
      rw [rd_eq]
      cases evalO e y with
      | none => rfl
      | some b =>
        dsimp only
        rw [bk_eq]
        cases binV p op t x y a b <;> rfl
  · rename_i t x hop
    rw [hst]
    dsimp only
    rw [rd_eq]
    unfold opV nV memV
    rw [hop]
    dsimp only
    cases evalO e x with
    | none => rfl
    | some a =>
      dsimp only
      cases loadV p m t a <;> rfl
  · rename_i t a x hop
    rw [hst]
    dsimp only
    rw [rd_eq]
    unfold opV nV memV
    rw [hop]
    dsimp only
    cases evalO e a with
    | none => rfl
    | some a =>
      dsimp only
      rw [rd_eq]
      cases evalO e x with
      | none => rfl
      | some b =>
        dsimp only
        cases storeV p m t a b <;> rfl
  · rename_i f args ts hop
    rw [hst]
    dsimp only
    rw [rdL_eq]
    unfold opV nV memV
    rw [hop]
    dsimp only
    unfold callV
    dsimp only
    cases evalL e args.toList with
    | none => rfl
    | some vs =>
      dsimp only [evalO, fnV]
      rw [List.nil_append, List.append_nil]
      unfold callK externV
      cases p.funcs[f]? with
      | none => rfl
      | some fn =>
        dsimp only
        cases fn.body with
        | none =>
          dsimp only
          cases xb f vs m <;> rfl
        | some c => exact h f vs m k
  · exact stMid_eq h ops o hg e m k
end Go.Ev
end

noncomputable section
namespace Go.Ev
open Go
set_option linter.unusedVariables false
set_option linter.unusedSimpArgs false
structure Os where
  run : Cf → Env → Mem → (Env → Mem → Ans) → Ans
def nextOp (r : Os) (cc : Cf) (e : Env) (m : Mem) (k : Env → Mem → Ans) : Ans := r.run cc e m k
def osF (p : Program) (xb : XB) (nt : Nat) (ops : Array Oper) : List Oper → Os
  | [] => ⟨fun _ e m k => k e m⟩
  | o :: r => ⟨fun cc e m k => (stF p xb ops o).run cc e m fun v m' => (wr nt o.dst).run v e fun e' => nextOp (osF p xb nt ops r) cc e' m' k⟩
theorem osF_eq {p : Program} {xb : XB} {cc : Cf} {cf : CallF} (h : CcOk cc cf) (nt : Nat) (ops : Array Oper) : ∀ (l : List Oper) (e : Env) (m : Mem) (k : Env → Mem → Ans),
    (osF p xb nt ops l).run cc e m k = match opsV p xb cf nt ops l e m with | some (e', m') => k e' m' | none => none := by
  intro l
  induction l with
  | nil => intro e m k; rfl
  | cons o r ih =>
    intro e m k
    unfold osF opsV
    dsimp only
    rw [stF_eq h]
    cases stepV p xb cf ops o e m with
    | none => rfl
    | some q =>
      obtain ⟨v, m'⟩ := q
      dsimp only
      rw [wr_eq]
      cases setO nt e o.dst v with
      | none => rfl
      | some e' => exact ih e' m' k
structure Cc where
  run : Nat → Cf → Env → Mem → (X → Env → Mem → Ans) → Ans
def itF (b : Env → Mem → (X → Env → Mem → Ans) → Ans) (K : X → Env → Mem → Ans) (n : Nat) : Env → Mem → Ans :=
  Nat.rec (motive := fun _ => Env → Mem → Ans) (fun _ _ => none) (fun _ ih e m => b e m fun x e m => X.rec (motive := fun _ => Ans) (ih e m) (fun id => K (.exit id) e m) (K .ret e m) x) n
def regF (p : Program) (xb : XB) (nt : Nat) (ops : Array Oper) : Bool → Cc
  | false => ⟨fun _ cc e m k => (osF p xb nt ops ops.toList).run cc e m fun e m => k .normal e m⟩
  | true => bif drawOk ops then ⟨fun _ cc e m k => Option.rec (motive := fun _ => Ans) none (fun q => k .normal q.1 q.2) (drawV p xb (fun f args m => cc f args m fun v m => some (v, m)) nt ops (beforesFrom ops.toList []) (orderOf ops) e m [] [])⟩ else ⟨fun _ _ _ _ _ => none⟩
def boolP (v : V) (a b : Ans) : Ans := match v with
  | .bool true => a
  | .bool false => b
  | _ => none
def cC (p : Program) (xb : XB) (nt : Nat) : Code → Cc
  | .skip => ⟨fun _ _ e m k => k .normal e m⟩
  | .label _ => ⟨fun _ _ e m k => k .normal e m⟩
  | .region _ ops draw => regF p xb nt ops draw
  | .seq a b => ⟨fun n cc e m k => (cC p xb nt a).run n cc e m fun x e m => X.rec (motive := fun _ => Ans) ((cC p xb nt b).run n cc e m k) (fun id => k (.exit id) e m) (k .ret e m) x⟩
  | .cond c a b => ⟨fun n cc e m k => (rd c).run e fun v => boolP v ((cC p xb nt a).run n cc e m k) ((cC p xb nt b).run n cc e m k)⟩
  | .block id a => ⟨fun n cc e m k => (cC p xb nt a).run n cc e m fun x e m => X.rec (motive := fun _ => Ans) (k .normal e m) (fun j => Bool.rec (k (.exit j) e m) (k .normal e m) (Nat.beq j id)) (k .ret e m) x⟩
  | .loop a => ⟨fun n cc e m k => itF ((cC p xb nt a).run n cc) k n e m⟩
  | .exit id => ⟨fun _ _ e m k => k (.exit id) e m⟩
  | .ret => ⟨fun _ _ e m k => k .ret e m⟩
  | _ => ⟨fun _ _ _ _ _ => none⟩
theorem regF_eq {p : Program} {xb : XB} {cc : Cf} {cf : CallF} (h : CcOk cc cf) (nt n : Nat) (id : Nat) (ops : Array Oper) (draw : Bool) (e : Env) (m : Mem) (k : X → Env → Mem → Ans) :
    (regF p xb nt ops draw).run n cc e m k = match codeV p xb cf nt n (.region id ops draw) e m with | .ok x e' m' => k x e' m' | .fail => none := by
  unfold codeV
  cases draw with
  | false =>
    show (osF p xb nt ops ops.toList).run cc e m (fun e m => k .normal e m) = _
    rw [osF_eq h]
    simp only [cond_false]
    cases opsV p xb cf nt ops ops.toList e m <;> rfl
  | true =>
    unfold regF
    have hcf : (fun f args m => cc f args m fun v m => some (v, m)) = cf := by
      funext f args m
      rw [h]
      cases cf f args m <;> rfl
    simp only [cond_true]
    cases drawOk ops with
    | false => rfl
    | true =>
      simp only [cond_true]
      rw [hcf]
      cases drawV p xb cf nt ops (beforesFrom ops.toList []) (orderOf ops) e m [] [] <;> rfl
theorem itF_eq {b : Env → Mem → (X → Env → Mem → Ans) → Ans} {f : Env → Mem → Out} (hb : ∀ e m k, b e m k = match f e m with | .ok x e' m' => k x e' m' | .fail => none) (K : X → Env → Mem → Ans) : ∀ (n : Nat) (e : Env) (m : Mem),
    itF b K n e m = match iter f n e m with | .ok x e' m' => K x e' m' | .fail => none := by
  intro n
  induction n with
  | zero => intro e m; rfl
  | succ n ih =>
    intro e m
    show b e m (fun x e m => X.rec (motive := fun _ => Ans) (itF b K n e m) (fun id => K (.exit id) e m) (K .ret e m) x) = _
    rw [hb]
    unfold iter
    cases hf : f e m with
    | fail => rfl
    | ok x e' m' =>
      cases x with
      | normal => exact ih e' m'
      | exit id => rfl
      | ret => rfl
theorem cC_eq {p : Program} {xb : XB} {cc : Cf} {cf : CallF} (h : CcOk cc cf) (nt n : Nat) : ∀ (c : Code) (e : Env) (m : Mem) (k : X → Env → Mem → Ans),
    (cC p xb nt c).run n cc e m k = match codeV p xb cf nt n c e m with | .ok x e' m' => k x e' m' | .fail => none := by
  intro c
  induction c with
  | skip => intro e m k; rfl
  | region id ops draw => intro e m k; exact regF_eq h nt n id ops draw e m k
  | seq a b iha ihb =>
    intro e m k
    unfold cC codeV
    dsimp only
    rw [iha]
    cases codeV p xb cf nt n a e m with
    | fail => rfl
    | ok x e' m' =>
      cases x with
      | normal => exact ihb e' m' k
      | exit id => rfl
      | ret => rfl
  | cond c a b iha ihb =>
    intro e m k
    unfold cC codeV
    dsimp only
    rw [rd_eq]
    unfold boolP
    cases evalO e c with
    | none => rfl
    | some v =>
      dsimp only
      cases v <;> try rfl
      rename_i b'
      cases b'
      · exact ihb e m k
      · exact iha e m k
  | block id a iha =>
    intro e m k
    unfold cC codeV
    dsimp only
    rw [iha]
    cases codeV p xb cf nt n a e m with
    | fail => rfl
    | ok x e' m' =>
      cases x with
      | normal => rfl
      | exit j => dsimp only; cases Nat.beq j id <;> rfl
      | ret => rfl
  | loop a iha =>
    intro e m k
    unfold cC codeV
    exact itF_eq (fun e m k => iha e m k) k n e m
  | rangeFunc f ps a b _ _ => intro e m k; rfl
  | exit id => intro e m k; rfl
  | scope a _ => intro e m k; rfl
  | label l => intro e m k; rfl
  | goto l => intro e m k; rfl
  | ret => intro e m k; rfl
  | refuse w => intro e m k; rfl
def retK (k : V → Mem → Ans) (m : Mem) : List V → Ans
  | [v] => k v m
  | vs => k (.tup vs) m
def endK (p : Program) (rs : List ResultVar) (k : V → Mem → Ans) (x : X) (e : Env) (m : Mem) : Ans :=
  X.rec (motive := fun _ => Ans) (oK (resultsL p e m rs) (retK k m)) (fun _ => none) (oK (resultsL p e m rs) (retK k m)) x
structure Fc where
  run : Nat → Cf → List V → Mem → (V → Mem → Ans) → Ans
def fC (p : Program) (xb : XB) (f : FuncId) : Fc :=
  match p.funcs[f]? with
  | none => ⟨fun _ _ _ _ _ => none⟩
  | some fn => match fn.body with
    | none => ⟨fun _ _ _ _ _ => none⟩
    | some c => ⟨fun n cc args m k => Bool.rec (motive := fun _ => Ans) none ((cC p xb fn.ntmps c).run n cc (argsT args 0 .nil) m (endK p fn.results.toList k)) (Nat.ble args.length fn.ntmps)⟩
def funC (p : Program) (xb : XB) (ext : CallF) (n : Nat) : Cf :=
  Nat.rec (motive := fun _ => Cf) (fun _ _ _ _ => none)
    (fun n ih f args m k => Option.rec (motive := fun _ => Ans) ((fC p xb f).run n ih args m k) (fun r => k r.1 r.2) (ext f args m)) n
theorem endK_eq (p : Program) (rs : List ResultVar) (k : V → Mem → Ans) (x : X) (e : Env) (m : Mem) : endK p rs k x e m = match (match Out.ok x e m with
        | .fail => none
        | .ok (.exit _) _ _ => none
        | .ok _ e m' => match resultsL p e m' rs with
          | some [v] => some (v, m')
          | some vs => some (.tup vs, m')
          | none => none : Option (V × Mem)) with | some (v, m') => k v m' | none => none := by
  have key : oK (resultsL p e m rs) (retK k m) = match (match resultsL p e m rs with
          | some [v] => some (v, m)
          | some vs => some (.tup vs, m)
          | none => none : Option (V × Mem)) with | some (v, m') => k v m' | none => none := by
    cases resultsL p e m rs with
    | none => rfl
    | some vs => match vs with
      | [] => rfl
      | [v] => rfl
      | v :: u :: r => rfl
  cases x with
  | normal => exact key
  | exit id => rfl
  | ret => exact key
theorem funC_eq (p : Program) (xb : XB) (ext : CallF) : ∀ n, CcOk (funC p xb ext n) (funV p xb ext n) := by
  intro n
  induction n with
  | zero => intro f args m k; rfl
  | succ n ih =>
    intro f args m k
    show (Option.rec (motive := fun _ => Ans) ((fC p xb f).run n (funC p xb ext n) args m k) (fun r => k r.1 r.2) (ext f args m) : Ans) = _
    unfold funV
    cases ext f args m with
    | some r => rfl
    | none =>
      dsimp only
      unfold fC
      cases p.funcs[f]? with
      | none => rfl
      | some fn =>
        dsimp only
        cases fn.body with
        | none => rfl
        | some c =>
          dsimp only
          cases Nat.ble args.length fn.ntmps with
          | false => rfl
          | true =>
            simp only [cond_true]
            rw [cC_eq ih]
            cases codeV p xb (funV p xb ext n) fn.ntmps n c (argsT args 0 .nil) m with
            | fail => rfl
            | ok x e' m' => exact endK_eq p _ k x e' m'
theorem funV_of {p : Program} {xb : XB} {ext : CallF} {n : Nat} {f : FuncId} {args : List V} {m : Mem} : funV p xb ext n f args m = funC p xb ext n f args m fun v m => some (v, m) := by
  rw [funC_eq]
  cases funV p xb ext n f args m <;> rfl
theorem yes_of {p : Program} {xb : XB} {ext : CallF} {n : Nat} {f : FuncId} {args : List V} {m : Mem} (h : yes (funC p xb ext n f args m fun v m => some (v, m)) = true) : yes (funV p xb ext n f args m) = true := by
  rw [funV_of]; exact h
end Go.Ev
end

namespace Go.Proofs
open Go.Shelf
def Tryz.lays219_ren : Go.Shelf.Ren := ⟨fun | 219 => 154 | 217 => 153 | 225 => 197 | 224 => 198 | 267 => 199 | 266 => 196 | 314 => 228 | n => n, fun | 9 => 9 | 3 => 3 | 4 => 4 | 5 => 5 | 46 => 24 | 146 => 300 | 51 => 299 | n => n, fun | 1 => 1 | n => n⟩
theorem Tryz.lays219 : Go.Proofs.Lays.n219 Tryz.prog Tryz.lays219_ren := {
  mixed := by kernel_rfl
  f217 := Tryz.func153.trans (congrArg some (by kernel_rfl))
  f219 := Tryz.func154.trans (congrArg some (by kernel_rfl))
  f224 := Tryz.func198.trans (congrArg some (by kernel_rfl))
  f225 := Tryz.func197.trans (congrArg some (by kernel_rfl))
  f266 := Tryz.func196.trans (congrArg some (by kernel_rfl))
  f267 := Tryz.func199.trans (congrArg some (by kernel_rfl))
  f314 := Tryz.func228.trans (congrArg some (by kernel_rfl))
  t3 := Tryz.underlying3
  a3 := Tryz.isAgg3
  z3 := Tryz.sizeOf3
  v3 := Tryz.zeroValue3
  t4 := Tryz.underlying4
  a4 := Tryz.isAgg4
  z4 := Tryz.sizeOf4
  v4 := Tryz.zeroValue4
  t5 := Tryz.underlying5
  a5 := Tryz.isAgg5
  z5 := Tryz.sizeOf5
  v5 := Tryz.zeroValue5
  t9 := Tryz.underlying9
  a9 := Tryz.isAgg9
  z9 := Tryz.sizeOf9
  v9 := Tryz.zeroValue9
  t46 := Tryz.underlying24
  a46 := Tryz.isAgg24
  z46 := Tryz.sizeOf24
  v46 := Tryz.zeroValue24
  t51 := Tryz.underlying299
  a51 := Tryz.isAgg299
  z51 := Tryz.sizeOf299
  v51 := Tryz.zeroValue299
  t146 := Tryz.underlying300
  a146 := Tryz.isAgg300
  z146 := Tryz.sizeOf300
  v146 := Tryz.zeroValue300
  g1 := by kernel_rfl }
open Go.RowKit Go.Lib in
theorem Tryz.stringslite_Index (s sub : ByteArray) (m : Int) (w : World) (hs : s.size < 4294967281) (hm : w.cell? ⟨1, 0, none⟩ = some (.int .i64 m)) :
    Calls Tryz.prog 154 #[.string s, .string sub] w fun e w' => e = .returned (.int .i64 (Lib.index s.data.toList sub.data.toList)) ∧ w' = w := Any.stringslite_Index Tryz.lays219 s sub m w hs hm
def Tryz.laysM219_ren : Go.Shelf.Ren := ⟨fun | 219 => 154 | 217 => 153 | 225 => 197 | 224 => 198 | 267 => 199 | 266 => 196 | 314 => 228 | n => n, fun | 9 => 9 | 3 => 3 | 4 => 4 | 5 => 5 | 46 => 24 | 146 => 300 | 51 => 299 | n => n, fun | 1 => 1 | n => n⟩
theorem Tryz.laysM219 : Go.Proofs.LaysM.n219 Tryz.prog Tryz.laysM219_ren := {
  mixed := by kernel_rfl
  f217 := Tryz.func153.trans (congrArg some (by kernel_rfl))
  f219 := Tryz.func154.trans (congrArg some (by kernel_rfl))
  f224 := Tryz.func198.trans (congrArg some (by kernel_rfl))
  f225 := Tryz.func197.trans (congrArg some (by kernel_rfl))
  f266 := Tryz.func196.trans (congrArg some (by kernel_rfl))
  f267 := Tryz.func199.trans (congrArg some (by kernel_rfl))
  f314 := Tryz.func228.trans (congrArg some (by kernel_rfl))
  t3 := Tryz.underlying3
  a3 := Tryz.isAgg3
  z3 := Tryz.sizeOf3
  v3 := Tryz.zeroValue3
  t4 := Tryz.underlying4
  a4 := Tryz.isAgg4
  z4 := Tryz.sizeOf4
  v4 := Tryz.zeroValue4
  t5 := Tryz.underlying5
  a5 := Tryz.isAgg5
  z5 := Tryz.sizeOf5
  v5 := Tryz.zeroValue5
  t9 := Tryz.underlying9
  a9 := Tryz.isAgg9
  z9 := Tryz.sizeOf9
  v9 := Tryz.zeroValue9
  t46 := Tryz.underlying24
  a46 := Tryz.isAgg24
  z46 := Tryz.sizeOf24
  v46 := Tryz.zeroValue24
  t51 := Tryz.underlying299
  a51 := Tryz.isAgg299
  z51 := Tryz.sizeOf299
  v51 := Tryz.zeroValue299
  t146 := Tryz.underlying300
  a146 := Tryz.isAgg300
  z146 := Tryz.sizeOf300
  v146 := Tryz.zeroValue300
  g1 := by kernel_rfl
  i3 := by kernel_rfl
  i4 := by kernel_rfl
  i5 := by kernel_rfl
  i9 := by kernel_rfl
  i46 := by kernel_rfl
  i51 := by kernel_rfl
  i146 := by kernel_rfl
  m1 := by kernel_rfl
  s1_3 := fun w h => Go.Proofs.cell_of_shapedOpen_int (zero := #[.int .i64 0]) (t := 3) h (of_decide_eq_true (by kernel_rfl)) (by kernel_rfl) rfl (by kernel_rfl) (by kernel_rfl) Tryz.underlying3 }
end Go.Proofs

namespace Go.Proofs.YtoedpbjeangdhaaGreatDoor.Ev
open Go Go.Ev
set_option linter.unusedVariables false
def tab : List (Nat × XK) := [(196, .indexByte), (236, .countByte), (106, .typeOf), (296, .rElem), (295, .rComparable), (297, .rImplements), (294, .rAssignable), (281, .aKind), (55, .valueOf), (56, .vType), (57, .vIsNil), (107, .vElem), (108, .vSet), (115, .noEscape), (250, .makeNoZero)]
def vars : List (Nat × Nat × V) := [(1, 0, .res .i64 1 0), (0, 0, .iface 180 (.agg [.gptr 7 48]))]
noncomputable def xb : XB := xbT Tryz.prog tab
theorem row196 : RowAt Tryz.prog 196 .indexByte Tryz.f196 := ⟨Tryz.func196, by kernel_rfl, by kernel_rfl, by kernel_rfl, fun h => by cases h⟩
theorem row236 : RowAt Tryz.prog 236 .countByte Tryz.f236 := ⟨Tryz.func236, by kernel_rfl, by kernel_rfl, by kernel_rfl, fun h => by cases h⟩
theorem row106 : RowAt Tryz.prog 106 .typeOf Tryz.f106 := ⟨Tryz.func106, by kernel_rfl, by kernel_rfl, by kernel_rfl, fun h => by cases h⟩
theorem row296 : RowAt Tryz.prog 296 .rElem Tryz.f296 := ⟨Tryz.func296, by kernel_rfl, by kernel_rfl, by kernel_rfl, fun h => by cases h⟩
theorem row295 : RowAt Tryz.prog 295 .rComparable Tryz.f295 := ⟨Tryz.func295, by kernel_rfl, by kernel_rfl, by kernel_rfl, fun h => by cases h⟩
theorem row297 : RowAt Tryz.prog 297 .rImplements Tryz.f297 := ⟨Tryz.func297, by kernel_rfl, by kernel_rfl, by kernel_rfl, fun h => by cases h⟩
theorem row294 : RowAt Tryz.prog 294 .rAssignable Tryz.f294 := ⟨Tryz.func294, by kernel_rfl, by kernel_rfl, by kernel_rfl, fun h => by cases h⟩
theorem row281 : RowAt Tryz.prog 281 .aKind Tryz.f281 := ⟨Tryz.func281, by kernel_rfl, by kernel_rfl, by kernel_rfl, fun h => by cases h⟩
theorem row55 : RowAt Tryz.prog 55 .valueOf Tryz.f55 := ⟨Tryz.func55, by kernel_rfl, by kernel_rfl, by kernel_rfl, fun h => by cases h⟩
theorem row56 : RowAt Tryz.prog 56 .vType Tryz.f56 := ⟨Tryz.func56, by kernel_rfl, by kernel_rfl, by kernel_rfl, fun h => by cases h⟩
theorem row57 : RowAt Tryz.prog 57 .vIsNil Tryz.f57 := ⟨Tryz.func57, by kernel_rfl, by kernel_rfl, by kernel_rfl, fun h => by cases h⟩
theorem row107 : RowAt Tryz.prog 107 .vElem Tryz.f107 := ⟨Tryz.func107, by kernel_rfl, by kernel_rfl, by kernel_rfl, fun h => by cases h⟩
theorem row108 : RowAt Tryz.prog 108 .vSet Tryz.f108 := ⟨Tryz.func108, by kernel_rfl, by kernel_rfl, by kernel_rfl, fun h => by cases h⟩
theorem row115 : RowAt Tryz.prog 115 .noEscape Tryz.f115 := ⟨Tryz.func115, by kernel_rfl, by kernel_rfl, by kernel_rfl, fun h => by cases h⟩
theorem row250 : RowAt Tryz.prog 250 .makeNoZero Tryz.f250 := ⟨Tryz.func250, by kernel_rfl, by kernel_rfl, by kernel_rfl, fun _ e he => ⟨_, rfl, by
    have : (Tryz.prog.types.findIdx? fun i => match i.desc with | .int .u8 => true | _ => false) = some 5 := by kernel_rfl
    have h5 : some e = some 5 := he.symm.trans this
    obtain rfl := Option.some.inj h5
    show _ = _
    kernel_rfl⟩⟩
theorem xbOk : XBok Tryz.prog xb := xb_ok fun x hx => by
  simp only [tab, List.mem_cons, List.not_mem_nil, or_false] at hx
  rcases hx with rfl | rfl | rfl | rfl | rfl | rfl | rfl | rfl | rfl | rfl | rfl | rfl | rfl | rfl | rfl
  · exact ⟨_, row196⟩
  · exact ⟨_, row236⟩
  · exact ⟨_, row106⟩
  · exact ⟨_, row296⟩
  · exact ⟨_, row295⟩
  · exact ⟨_, row297⟩
  · exact ⟨_, row294⟩
  · exact ⟨_, row281⟩
  · exact ⟨_, row55⟩
  · exact ⟨_, row56⟩
  · exact ⟨_, row57⟩
  · exact ⟨_, row107⟩
  · exact ⟨_, row108⟩
  · exact ⟨_, row115⟩
  · exact ⟨_, row250⟩
noncomputable def ext0 : CallF := extIdx 154 1
theorem ext0Ok : CFok Tryz.prog ext0 := extIdx_ok fun s t k w h hm => Tryz.stringslite_Index s t k w h hm
theorem maxAt {W : World} (h : W.ShapedOpen Tryz.prog) : ∃ k, W.cell? ⟨1, 0, none⟩ = some (.int .i64 k) := Tryz.laysM219.s1_3 W h
theorem noNumB : (Tryz.prog.funcs.all fun fn => fn.body.isNone || !(fn.name == "runtime.NumGoroutine")) = true := by kernel_rfl
theorem noNum : NoNum Tryz.prog := fun f fn hf hb hn => by
  have := Array.all_eq_true'.1 noNumB fn (Array.mem_of_getElem? hf)
  rw [hn] at this
  cases h : fn.body with
  | none => rw [h] at hb; cases hb
  | some c => rw [h] at this; simp at this
theorem mixed : Tryz.prog.follows .mixedOrders = true := by kernel_rfl
theorem draws : DrawOkay Tryz.prog xb := drawOkay xbOk noNum mixed
theorem ok (ext : CallF) (h : CFok Tryz.prog ext) (n : Nat) : CFok Tryz.prog (funV Tryz.prog xb ext n) := funV_ok xbOk noNum draws h n
def memo0 : Nat × List V × Sl := (118, [.str 76 449953937865765044166353567075634855841265280582411279419178484766953766944035175598208298896301601961594016089577018897893736066317852013341495176030536989441380532204658237559960934, .str 1 32], ⟨9, [.str 3 7239014, .str 3 7628140, .str 3 6514034, .str 2 28265, .str 2 26217, .str 4 1852139636, .str 4 1702063205, .str 6 111516215828840, .str 4 1752459639, .str 6 121437875889522, .str 3 6581861, .str 2 28516, .str 2 28783, .str 4 1702195828, .str 5 435728179558, .str 3 7630441, .str 4 1819242338], 0, 17, 17, 1⟩)
theorem memo0_eval : slOk memo0.2.2 (funC Tryz.prog xb ext0 100000 memo0.1 memo0.2.1 (memOf vars) fun v m => some (v, m)) = true := by kernel_rfl
def memo1 : Nat × List V × Sl := (118, [.str 12 18608075407434323500137783339, .str 1 32], ⟨9, [.str 1 43, .str 1 45, .str 1 42, .str 1 47, .str 2 15677, .str 1 60], 0, 6, 6, 1⟩)
theorem memo1_eval : slOk memo1.2.2 (funC Tryz.prog xb ext0 100000 memo1.1 memo1.2.1 (memOf vars) fun v m => some (v, m)) = true := by kernel_rfl
def memo2 : Nat × List V × Sl := (103, [], ⟨9, [.str 4 1008745789, .str 3 2957355, .str 3 3088426], 0, 3, 3, 1⟩)
theorem memo2_eval : slOk memo2.2.2 (funC Tryz.prog xb ext0 100000 memo2.1 memo2.2.1 (memOf vars) fun v m => some (v, m)) = true := by kernel_rfl
def memos : List (Nat × List V × Sl) := [memo0, memo1, memo2]
noncomputable def ext1 : CallF := extTwo ext0 (extS vars memos)
theorem ext1Ok : CFok Tryz.prog ext1 := extTwo_ok ext0Ok <| extS_ok (ok _ ext0Ok 100000) fun x hx => by
  simp only [memos, List.mem_cons, List.not_mem_nil, or_false] at hx
  rcases hx with rfl | rfl | rfl
  · exact ⟨rfl, rfl, by rw [funV_of]; exact memo0_eval⟩
  · exact ⟨rfl, rfl, by rw [funV_of]; exact memo1_eval⟩
  · exact ⟨rfl, rfl, by rw [funV_of]; exact memo2_eval⟩
end Go.Proofs.YtoedpbjeangdhaaGreatDoor.Ev

namespace Go.Proofs.YtoedpbjeangdhaaGreatDoor.Ev
open Go Go.Ev
set_option linter.unusedVariables false
theorem awake_eval : yes (funC Tryz.prog xb ext1 100000 6 [] (memOf vars) fun v m => some (v, m)) = true := by kernel_rfl
noncomputable def ext : CallF := extTwo ext1 (extL vars [(6, [], .bool true)])
theorem extOk : CFok Tryz.prog ext := extTwo_ok ext1Ok <| extL_ok (ok _ ext1Ok 100000) fun x hx => by
  simp only [List.mem_cons, List.not_mem_nil, or_false] at hx
  rcases hx with rfl
  · exact ⟨rfl, rfl, yes_spec (yes_of awake_eval)⟩
theorem varsAt {W : World} (hG : Err.ErrTy W) (hS : W.ShapedOpen Tryz.prog) : ∀ g i v, glL vars g i = some v → ∃ x, W.cell? ⟨g, i, none⟩ = some x ∧ Rel zeroS v x := fun g i v h => by
  have := glL_mem h
  unfold vars at this
  rcases List.mem_cons.1 this with h1 | h1
  · cases h1
    obtain ⟨k, hk⟩ := maxAt hS
    exact ⟨_, hk, .res _ _ _ k (Nat.mod_one _) (fun h => by cases h)⟩
  · rw [List.mem_singleton] at h1
    cases h1
    exact ⟨_, hG, .iface _ (Rel.aggL.2 (.cons (.gptr _ _) (.nil _)))⟩
end Go.Proofs.YtoedpbjeangdhaaGreatDoor.Ev
