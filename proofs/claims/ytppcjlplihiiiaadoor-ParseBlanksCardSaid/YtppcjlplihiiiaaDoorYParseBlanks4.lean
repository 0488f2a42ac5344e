/- Several texts in one: contracts of functions of the program, and what they lean on. In part written by a program of this session over the kit's print, in part by hand. -/
import Derived.Test.YtppcjlplihiiiaaDoorYParseBlanks3
noncomputable section
namespace Go.Ev
open Go
set_option linter.unusedVariables false
set_option linter.unusedSimpArgs false
abbrev Ans := Option (V × Mem)
abbrev Cf := FuncId → List V → Mem → (V → Mem → Ans) → Ans
def oK {α β : Type} (x : Option α) (k : α → Option β) : Option β := Option.rec (motive := fun _ => Option β) none k x
structure Gp where
  run : T V → Option V
def gp (n : Nat) : Nat → Gp := Nat.rec (motive := fun _ => Nat → Gp) (fun k => ⟨fun t => T.get t k⟩)
  (fun _ ih k => Bool.rec
    (Bool.rec ⟨fun t => T.rec (motive := fun _ => Option V) none (fun _ _ r _ _ => (ih (Nat.div (Nat.sub k 1) 2)).run r) t⟩
      ⟨fun t => T.rec (motive := fun _ => Option V) none (fun _ l _ _ _ => (ih (Nat.div k 2)).run l) t⟩ (Nat.beq (Nat.mod k 2) 1))
    ⟨fun t => T.rec (motive := fun _ => Option V) none (fun v _ _ _ _ => v) t⟩ (Nat.beq k 0)) n
theorem gp_eq : ∀ (n k : Nat) (t : T V), (gp n k).run t = t.get k := by
  intro n
  induction n with
  | zero => intro k t; rfl
  | succ n ih =>
    intro k t
    have : gp (n + 1) k = (Bool.rec
      (Bool.rec ⟨fun t => T.rec (motive := fun _ => Option V) none (fun _ _ r _ _ => (gp n (Nat.div (Nat.sub k 1) 2)).run r) t⟩
        ⟨fun t => T.rec (motive := fun _ => Option V) none (fun _ l _ _ _ => (gp n (Nat.div k 2)).run l) t⟩ (Nat.beq (Nat.mod k 2) 1))
      ⟨fun t => T.rec (motive := fun _ => Option V) none (fun v _ _ _ _ => v) t⟩ (Nat.beq k 0) : Gp) := rfl
    rw [this]
    cases t with
    | nil => rw [T.get_nil]; cases Nat.beq k 0 <;> cases Nat.beq (Nat.mod k 2) 1 <;> rfl
    | node v l r =>
      show _ = (Bool.rec (Bool.rec (r.get (Nat.div (Nat.sub k 1) 2)) (l.get (Nat.div k 2)) (Nat.beq (Nat.mod k 2) 1)) v (Nat.beq k 0) : Option V)
      rw [← ih, ← ih]
      cases Nat.beq k 0 <;> cases Nat.beq (Nat.mod k 2) 1 <;> rfl
structure Sp where
  run : V → T V → T V
def sp (n : Nat) : Nat → Sp := Nat.rec (motive := fun _ => Nat → Sp) (fun k => ⟨fun _ t => t⟩)
  (fun _ ih k => Bool.rec
    (Bool.rec ⟨fun x t => T.rec (motive := fun _ => T V) (.node none .nil ((ih (Nat.div (Nat.sub k 1) 2)).run x .nil)) (fun v l r _ _ => .node v l ((ih (Nat.div (Nat.sub k 1) 2)).run x r)) t⟩
      ⟨fun x t => T.rec (motive := fun _ => T V) (.node none ((ih (Nat.div k 2)).run x .nil) .nil) (fun v l r _ _ => .node v ((ih (Nat.div k 2)).run x l) r) t⟩ (Nat.beq (Nat.mod k 2) 1))
    ⟨fun x t => T.rec (motive := fun _ => T V) (.node (some x) .nil .nil) (fun v l r _ _ => .node (some x) l r) t⟩ (Nat.beq k 0)) n
theorem sp_eq : ∀ (n k : Nat) (x : V) (t : T V), (sp n k).run x t = T.put x n t k := by
  intro n
  induction n with
  | zero => intro k x t; rfl
  | succ n ih =>
    intro k x t
    have : sp (n + 1) k = (Bool.rec
      (Bool.rec ⟨fun x t => T.rec (motive := fun _ => T V) (.node none .nil ((sp n (Nat.div (Nat.sub k 1) 2)).run x .nil)) (fun v l r _ _ => .node v l ((sp n (Nat.div (Nat.sub k 1) 2)).run x r)) t⟩
        ⟨fun x t => T.rec (motive := fun _ => T V) (.node none ((sp n (Nat.div k 2)).run x .nil) .nil) (fun v l r _ _ => .node v ((sp n (Nat.div k 2)).run x l) r) t⟩ (Nat.beq (Nat.mod k 2) 1))
      ⟨fun x t => T.rec (motive := fun _ => T V) (.node (some x) .nil .nil) (fun v l r _ _ => .node (some x) l r) t⟩ (Nat.beq k 0) : Sp) := rfl
    rw [this]
    have put : T.put x (n + 1) t k = (T.rec (motive := fun _ => T V)
      (Bool.rec (Bool.rec (.node none .nil (T.put x n .nil (Nat.div (Nat.sub k 1) 2))) (.node none (T.put x n .nil (Nat.div k 2)) .nil) (Nat.beq (Nat.mod k 2) 1)) (.node (some x) .nil .nil) (Nat.beq k 0))
      (fun v l r _ _ => Bool.rec (Bool.rec (.node v l (T.put x n r (Nat.div (Nat.sub k 1) 2))) (.node v (T.put x n l (Nat.div k 2)) r) (Nat.beq (Nat.mod k 2) 1)) (.node (some x) l r) (Nat.beq k 0)) t : T V) := rfl
    rw [put]
    cases t with
    | nil => dsimp only; rw [← ih, ← ih]; cases Nat.beq k 0 <;> cases Nat.beq (Nat.mod k 2) 1 <;> rfl
    | node v l r => dsimp only; rw [← ih, ← ih]; cases Nat.beq k 0 <;> cases Nat.beq (Nat.mod k 2) 1 <;> rfl
structure Wr where
  run : V → Env → (Env → Ans) → Ans
def wr (nt : Nat) : Option Tmp → Wr
  | none => ⟨fun _ e k => k e⟩
  | some d => bif Nat.blt d nt then ⟨fun v e k => k ((sp (d + 1) d).run v e)⟩ else ⟨fun _ _ _ => none⟩
theorem wr_eq (nt : Nat) (d : Option Tmp) (v : V) (e : Env) (k : Env → Ans) : (wr nt d).run v e k = match setO nt e d v with | some e' => k e' | none => none := by
  cases d with
  | none => rfl
  | some d =>
    unfold wr setO
    dsimp only
    cases Nat.blt d nt
    · rfl
    · show k ((sp (d + 1) d).run v e) = k (T.set e d v)
      rw [sp_eq]; rfl
structure Rd where
  run : Env → (V → Ans) → Ans
def rd : Operand → Rd
  | .tmp t => ⟨fun e k => oK ((gp 8 t).run e) k⟩
  | .const v => ⟨fun _ k => oK (ofValue v) k⟩
  | .global g => ⟨fun _ k => k (.gptr g 0)⟩
  | .func f => ⟨fun _ k => k (.fn (.func f) [] [])⟩
theorem rd_eq (x : Operand) (e : Env) (k : V → Ans) : (rd x).run e k = match evalO e x with | some v => k v | none => none := by
  cases x with
  | tmp t => show oK ((gp 8 t).run e) k = _; rw [gp_eq]; show oK (evalO e (.tmp t)) k = _; cases evalO e (.tmp t) <;> rfl
  | const v => show oK (evalO e (.const v)) k = _; cases evalO e (.const v) <;> rfl
  | global g => rfl
  | func f => rfl
structure RdL where
  run : Env → (List V → Ans) → Ans
def rdL : List Operand → RdL
  | [] => ⟨fun _ k => k []⟩
  | o :: r => ⟨fun e k => (rd o).run e fun v => (rdL r).run e fun vs => k (v :: vs)⟩
theorem rdL_eq : ∀ (xs : List Operand) (e : Env) (k : List V → Ans), (rdL xs).run e k = match evalL e xs with | some vs => k vs | none => none := by
  intro xs
  induction xs with
  | nil => intro e k; rfl
  | cons x xs ih =>
    intro e k
    unfold rdL evalL
    dsimp only
    rw [rd_eq]
    cases evalO e x with
    | none => rfl
    | some v =>
      dsimp only
      rw [ih]
      cases evalL e xs <;> rfl
structure Bk where
  run : V → V → (V → Ans) → Ans
def intP (v : V) (yes : IntKind → Int → Ans) (no : Ans) : Ans := match v with
  | .int k n => yes k n
  | _ => no
def bkI (s : V → V → (V → Ans) → Ans) (f : IntKind → Int → Int → V) : Bk :=
  ⟨fun a b k => intP a (fun k1 x => intP b (fun k2 y => Bool.rec (s a b k) (k (f k1 x y)) (kindEq k1 k2)) (s a b k)) (s a b k)⟩
def bkS (p : Program) (op : BinOp) (t : TypeId) (ox oy : Operand) (a b : V) (k : V → Ans) : Ans := oK (binV p op t ox oy a b) k
def bk (p : Program) (op : BinOp) (t : TypeId) (ox oy : Operand) : Bk :=
  match op with
  | .add => bkI (bkS p .add t ox oy) fun k x y => .int k (wrapI k (intAdd x y))
  | .sub => bkI (bkS p .sub t ox oy) fun k x y => .int k (wrapI k (intSub x y))
  | .eql => bkI (bkS p .eql t ox oy) fun _ x y => .bool (intEq x y)
  | .neq => bkI (bkS p .neq t ox oy) fun _ x y => .bool (!intEq x y)
  | .lss => bkI (bkS p .lss t ox oy) fun _ x y => .bool (intLt x y)
  | .leq => bkI (bkS p .leq t ox oy) fun _ x y => .bool (!intLt y x)
  | .gtr => bkI (bkS p .gtr t ox oy) fun _ x y => .bool (intLt y x)
  | .geq => bkI (bkS p .geq t ox oy) fun _ x y => .bool (!intLt x y)
  | op => ⟨bkS p op t ox oy⟩
theorem bkI_eq {p : Program} {op : BinOp} {t : TypeId} {ox oy : Operand} {f : IntKind → Int → Int → V} (h : ∀ (k : IntKind) (x y : Int), binV p op t ox oy (.int k x) (.int k y) = some (f k x y)) (a b : V) (k : V → Ans) :
    (bkI (bkS p op t ox oy) f).run a b k = oK (binV p op t ox oy a b) k := by
  unfold bkI intP
  dsimp only
  split
  · rename_i k1 x
    split
    · rename_i k2 y
      cases e : kindEq k1 k2 with
      | false => rfl
      | true =>
        rw [kindEq_iff] at e
        subst e
        dsimp only
        rw [h]; rfl
    · rfl
  · rfl
theorem bk_eq (p : Program) (op : BinOp) (t : TypeId) (ox oy : Operand) (a b : V) (k : V → Ans) : (bk p op t ox oy).run a b k = oK (binV p op t ox oy a b) k := by
  have hk : ∀ k : IntKind, kindEq k k = true := fun k => by rw [kindEq_iff]
  unfold bk
  split <;> first
    | rfl
    | exact bkI_eq (fun k x y => by simp [binV, intOp, hk]) a b k
def finK (cc : Cf) (k : V → Mem → Ans) : R → Ans
  | .val v m => k v m
  | .skip m => k (.tup []) m
  | .call f args m => cc f args m k
  | .fail => none
structure St where
  run : Cf → Env → Mem → (V → Mem → Ans) → Ans
def stSlow (p : Program) (xb : XB) (ops : Array Oper) (o : Oper) (cc : Cf) (e : Env) (m : Mem) (k : V → Mem → Ans) : Ans :=
  match wantedV ops e o with
  | none => none
  | some false => k (.tup []) m
  | some true => finK cc k (opV p xb e m o)
def oK2 (x : Option (V × Mem)) (k : V → Mem → Ans) : Ans := Option.rec (motive := fun _ => Ans) none (fun q => k q.1 q.2) x
def callK (p : Program) (xb : XB) (f : FuncId) : Cf → List V → Mem → (V → Mem → Ans) → Ans :=
  match p.funcs[f]? with
  | none => fun _ _ _ _ => none
  | some fn => match fn.body with
    | some _ => fun cc args m k => cc f args m k
    | none => fun _ args m k => oK2 (xb f args m) k
structure CK where
  run : Cf → List V → Mem → (V → Mem → Ans) → Ans
structure Nk where
  run : Env → Option V
def nPick (c a b : Operand) (e : Env) : Option V := match evalO e c with
    | some (.bool true) => evalO e a
    | some (.bool false) => evalO e b
    | _ => none
def nNil (x : Operand) (e : Env) : Option V := match evalO e x with
    | some v => nilCheckV v
    | none => none
def nUn (p : Program) (op : UnOp) (x : Operand) (e : Env) : Option V := match evalO e x with
    | some a => unV p op a
    | none => none
def nConv (p : Program) (s d : TypeId) (x : Operand) (e : Env) : Option V := match evalO e x with
    | some a => convN p s d a
    | none => none
def nMkI (p : Program) (t : TypeId) (x : Operand) (e : Env) : Option V := match evalO e x with
    | some a => (match p.underlying t with | some (.interface _) => none | some _ => some (.iface t a) | none => none)
    | none => none
def nSlice (p : Program) (t : TypeId) (x : Operand) (lo hi : Option Operand) (e : Env) : Option V := match evalO e x, opt e lo, opt e hi with
    | some x, some lo, some hi => sliceV p t x lo hi
    | _, _, _ => none
def nFA (p : Program) (s : TypeId) (x : Operand) (f : Nat) (e : Env) : Option V := match evalO e x with
    | some (.ptr b i) => (match p.underlying s with
      | some (.struct fs) => (match fs[f]? with | some f => (match sizeQ p f.type with | some (_ + 1) => some (.ptr b (i + f.offset)) | _ => none) | none => none)
      | _ => none)
    | _ => none
def nFld (p : Program) (t : TypeId) (x : Operand) (f : Nat) (e : Env) : Option V := match evalO e x with
    | some (.agg cs) => (match p.underlying t with
      | some (.struct fs) => (match fs[f]? with | some f => partV p f.type cs f.offset | none => none)
      | _ => none)
    | _ => none
def nIA (p : Program) (t : TypeId) (x i : Operand) (e : Env) : Option V := match evalO e x, evalO e i with
    | some x, some i => indexAddrV p t x i
    | _, _ => none
def nIx (p : Program) (t : TypeId) (x i : Operand) (e : Env) : Option V := match evalO e x, evalO e i with
    | some x, some i => indexV p t x i
    | _, _ => none
def nAs (p : Program) (x : Operand) (t : TypeId) (ok : Bool) (e : Env) : Option V := match evalO e x with
    | some x => assertV p x t ok
    | none => none
def nEx (t : Operand) (i : Nat) (e : Env) : Option V := match evalO e t with
    | some (.tup vs) => vs[i]?
    | _ => none
def nBu (p : Program) (b : Builtin) (args : List Operand) (ts : Array TypeId) (e : Env) : Option V := match evalL e args with
    | some args => builtinN p b ts args
    | none => none
def nk (p : Program) (o : Oper) : Nk :=
  match o.op with
  | .pick c a b => ⟨nPick c a b⟩
  | .nilCheck x => ⟨nNil x⟩
  | .unOp op _ x => ⟨nUn p op x⟩
  | .convert s d x => ⟨nConv p s d x⟩
  | .makeInterface t x => ⟨nMkI p t x⟩
  | .slice t x lo hi none => ⟨nSlice p t x lo hi⟩
  | .fieldAddr s x f => ⟨nFA p s x f⟩
  | .field t x f => ⟨nFld p t x f⟩
  | .indexAddr t x i => ⟨nIA p t x i⟩
  | .index t x i => ⟨nIx p t x i⟩
  | .typeAssert x _ t ok => ⟨nAs p x t ok⟩
  | .extract t i => ⟨nEx t i⟩
  | .call ⟨.builtin b, args, ts⟩ => ⟨nBu p b args.toList ts⟩
  | .build .. => ⟨fun e => nV p e o⟩
  | .makeFunc .. => ⟨fun e => nV p e o⟩
  | .alloc _ => ⟨fun _ => none⟩
  | .box .. => ⟨fun _ => none⟩
  | .buildSlice .. => ⟨fun _ => none⟩
  | .makeSlice .. => ⟨fun _ => none⟩
  | _ => ⟨fun e => nV p e o⟩
theorem nk_eq (p : Program) (o : Oper) (e : Env) : (nk p o).run e = nV p e o := by
  unfold nk
  split <;> rename_i h <;> first
    | rfl
    | (unfold nV; rw [h]; done)
    | (unfold nV; rw [h]; rfl)
    | (unfold nV; rw [h]; dsimp only; unfold nSlice; cases evalO e _ <;> cases opt e _ <;> cases opt e _ <;> rfl)
structure Mk where
  run : Env → Mem → R
def mAlloc (p : Program) (t : TypeId) (_ : Env) (m : Mem) : R := match zeroV p t with
    | some z => (match m.newL t z.cells z.cells.length with | (g, m') => .val (.ptr g 0) m')
    | none => .fail
def mBox (t : TypeId) (x : Operand) (e : Env) (m : Mem) : R := match evalO e x with
    | some v => (match m.newL t v.cells v.cells.length with | (g, m') => .val (.ptr g 0) m')
    | none => .fail
def mCall (p : Program) (xb : XB) (c : Call) (e : Env) (m : Mem) : R := callV p xb e m c
def mk (p : Program) (xb : XB) (o : Oper) : Mk :=
  match o.op with
  | .alloc t => ⟨mAlloc p t⟩
  | .box t x => ⟨mBox t x⟩
  | .call c => ⟨mCall p xb c⟩
  | _ => ⟨fun e m => memV p xb e m o⟩
theorem mk_eq (p : Program) (xb : XB) (o : Oper) (e : Env) (m : Mem) : (mk p xb o).run e m = memV p xb e m o := by
  unfold mk
  split <;> rename_i h <;> first
    | rfl
    | (unfold memV; rw [h]; done)
    | (unfold memV; rw [h]; rfl)
def stMid (n : Nk) (mk : Mk) (cc : Cf) (e : Env) (m : Mem) (k : V → Mem → Ans) : Ans :=
  Option.rec (motive := fun _ => Ans) (finK cc k (mk.run e m)) (fun v => k v m) (n.run e)
def stF (p : Program) (xb : XB) (ops : Array Oper) (o : Oper) : St :=
  match o.guard with
  | some _ => ⟨stSlow p xb ops o⟩
  | none => match o.op with
    | .move x => ⟨fun _ e m k => (rd x).run e fun v => k v m⟩
    | .assign x => ⟨fun _ e m k => (rd x).run e fun v => k v m⟩
    | .binOp op t x y _ => ⟨fun _ e m k => (rd x).run e fun a => (rd y).run e fun b => (bk p op t x y).run a b fun v => k v m⟩
    | .load t x => ⟨fun _ e m k => (rd x).run e fun a => oK (loadV p m t a) fun v => k v m⟩
    | .store t a x => ⟨fun _ e m k => (rd a).run e fun a => (rd x).run e fun x => oK (storeV p m t a x) fun m' => k (.tup []) m'⟩
    | .call ⟨.value (.func f), args, _⟩ => ⟨fun cc e m k => (rdL args.toList).run e fun vs => (CK.mk (callK p xb f)).run cc vs m k⟩
    | _ => ⟨stMid (nk p o) (mk p xb o)⟩
def CcOk (cc : Cf) (cf : CallF) : Prop := ∀ f args m k, cc f args m k = match cf f args m with | some (v, m') => k v m' | none => none
theorem finK_eq {cc : Cf} {cf : CallF} (h : CcOk cc cf) (k : V → Mem → Ans) (r : R) : finK cc k r = match r.fin cf with | some (v, m') => k v m' | none => none := by
  cases r with
  | val v m => rfl
  | skip m => rfl
  | call f args m => exact h f args m k
  | fail => rfl
theorem stSlow_eq {p : Program} {xb : XB} {cc : Cf} {cf : CallF} (h : CcOk cc cf) (ops : Array Oper) (o : Oper) (e : Env) (m : Mem) (k : V → Mem → Ans) :
    stSlow p xb ops o cc e m k = match stepV p xb cf ops o e m with | some (v, m') => k v m' | none => none := by
  unfold stSlow stepV
  split <;> rename_i hw <;> rw [hw]
  exact finK_eq h k _
theorem stMid_eq {p : Program} {xb : XB} {cc : Cf} {cf : CallF} (h : CcOk cc cf) (ops : Array Oper) (o : Oper) (hg : o.guard = none) (e : Env) (m : Mem) (k : V → Mem → Ans) :
    stMid (nk p o) (mk p xb o) cc e m k = match stepV p xb cf ops o e m with | some (v, m') => k v m' | none => none := by
  have hst : stepV p xb cf ops o e m = (opV p xb e m o).fin cf := by unfold stepV wantedV; rw [hg]
  rw [hst]
  unfold stMid opV
  rw [nk_eq, mk_eq]
  cases nV p e o with
  | some v => rfl
  | none => exact finK_eq h k _
theorem stF_eq {p : Program} {xb : XB} {cc : Cf} {cf : CallF} (h : CcOk cc cf) (ops : Array Oper) (o : Oper) (e : Env) (m : Mem) (k : V → Mem → Ans) :
    (stF p xb ops o).run cc e m k = match stepV p xb cf ops o e m with | some (v, m') => k v m' | none => none := by
  unfold stF
  split
  · exact stSlow_eq h ops o e m k
  rename_i hg
  have hst : stepV p xb cf ops o e m = (opV p xb e m o).fin cf := by unfold stepV wantedV; rw [hg]
  split
  · rename_i x hop
    rw [hst]
    dsimp only
    rw [rd_eq]
    unfold opV nV memV
    rw [hop]
    dsimp only
    cases evalO e x <;> rfl
  · rename_i x hop
    rw [hst]
    dsimp only
    rw [rd_eq]
    unfold opV nV memV
    rw [hop]
    dsimp only
    cases evalO e x <;> rfl
  · rename_i op t x y _ hop
    rw [hst]
    dsimp only
    rw [rd_eq]
    unfold opV nV memV
    rw [hop]
    dsimp only
    cases evalO e x with
    | none => rfl
    | some a =>
      dsimp only
      rw [rd_eq]
      cases evalO e y with
      | none => rfl
      | some b =>
        dsimp only
        rw [bk_eq]
        cases binV p op t x y a b <;> rfl
  · rename_i t x hop
    rw [hst]
    dsimp only
    rw [rd_eq]
    unfold opV nV memV
    rw [hop]
    dsimp only
    cases evalO e x with
    | none => rfl
    | some a =>
      dsimp only
      cases loadV p m t a <;> rfl
  · rename_i t a x hop
    rw [hst]
    dsimp only
    rw [rd_eq]
    unfold opV nV memV
    rw [hop]
    dsimp only
    cases evalO e a with
    | none => rfl
    | some a =>
      dsimp only
      rw [rd_eq]
      cases evalO e x with
      | none => rfl
      | some b =>
        dsimp only
        cases storeV p m t a b <;> rfl
  · rename_i f args ts hop
    rw [hst]
    dsimp only
    rw [rdL_eq]
    unfold opV nV memV
    rw [hop]
    dsimp only
    unfold callV
    dsimp only
    cases evalL e args.toList with
    | none => rfl
    | some vs =>
      dsimp only [evalO, fnV]
      rw [List.nil_append, List.append_nil]
      unfold callK externV
      cases p.funcs[f]? with
      | none => rfl
      | some fn =>
        dsimp only
        cases fn.body with
        | none =>
          dsimp only
          cases xb f vs m <;> rfl
        | some c => exact h f vs m k
  · exact stMid_eq h ops o hg e m k
end Go.Ev
end

noncomputable section
namespace Go.Ev
open Go
set_option linter.unusedVariables false
set_option linter.unusedSimpArgs false
structure Os where
  run : Cf → Env → Mem → (Env → Mem → Ans) → Ans
def nextOp (r : Os) (cc : Cf) (e : Env) (m : Mem) (k : Env → Mem → Ans) : Ans := r.run cc e m k
def osF (p : Program) (xb : XB) (nt : Nat) (ops : Array Oper) : List Oper → Os
  | [] => ⟨fun _ e m k => k e m⟩
  | o :: r => ⟨fun cc e m k => (stF p xb ops o).run cc e m fun v m' => (wr nt o.dst).run v e fun e' => nextOp (osF p xb nt ops r) cc e' m' k⟩
theorem osF_eq {p : Program} {xb : XB} {cc : Cf} {cf : CallF} (h : CcOk cc cf) (nt : Nat) (ops : Array Oper) : ∀ (l : List Oper) (e : Env) (m : Mem) (k : Env → Mem → Ans),
    (osF p xb nt ops l).run cc e m k = match opsV p xb cf nt ops l e m with | some (e', m') => k e' m' | none => none := by
  intro l
  induction l with
  | nil => intro e m k; rfl
  | cons o r ih =>
    intro e m k
    unfold osF opsV
    dsimp only
    rw [stF_eq h]
    cases stepV p xb cf ops o e m with
    | none => rfl
    | some q =>
      obtain ⟨v, m'⟩ := q
      dsimp only
      rw [wr_eq]
      cases setO nt e o.dst v with
      | none => rfl
      | some e' => exact ih e' m' k
structure Cc where
  run : Nat → Cf → Env → Mem → (X → Env → Mem → Ans) → Ans
def itF (b : Env → Mem → (X → Env → Mem → Ans) → Ans) (K : X → Env → Mem → Ans) (n : Nat) : Env → Mem → Ans :=
  Nat.rec (motive := fun _ => Env → Mem → Ans) (fun _ _ => none) (fun _ ih e m => b e m fun x e m => X.rec (motive := fun _ => Ans) (ih e m) (fun id => K (.exit id) e m) (K .ret e m) x) n
def regF (p : Program) (xb : XB) (nt : Nat) (ops : Array Oper) : Bool → Cc
  | false => ⟨fun _ cc e m k => (osF p xb nt ops ops.toList).run cc e m fun e m => k .normal e m⟩
  | true => bif drawOk ops then ⟨fun _ cc e m k => Option.rec (motive := fun _ => Ans) none (fun q => k .normal q.1 q.2) (drawV p xb (fun f args m => cc f args m fun v m => some (v, m)) nt ops (beforesFrom ops.toList []) (orderOf ops) e m [] [])⟩ else ⟨fun _ _ _ _ _ => none⟩
def boolP (v : V) (a b : Ans) : Ans := match v with
  | .bool true => a
  | .bool false => b
  | _ => none
def cC (p : Program) (xb : XB) (nt : Nat) : Code → Cc
  | .skip => ⟨fun _ _ e m k => k .normal e m⟩
  | .label _ => ⟨fun _ _ e m k => k .normal e m⟩
  | .region _ ops draw => regF p xb nt ops draw
  | .seq a b => ⟨fun n cc e m k => (cC p xb nt a).run n cc e m fun x e m => X.rec (motive := fun _ => Ans) ((cC p xb nt b).run n cc e m k) (fun id => k (.exit id) e m) (k .ret e m) x⟩
  | .cond c a b => ⟨fun n cc e m k => (rd c).run e fun v => boolP v ((cC p xb nt a).run n cc e m k) ((cC p xb nt b).run n cc e m k)⟩
  | .block id a => ⟨fun n cc e m k => (cC p xb nt a).run n cc e m fun x e m => X.rec (motive := fun _ => Ans) (k .normal e m) (fun j => Bool.rec (k (.exit j) e m) (k .normal e m) (Nat.beq j id)) (k .ret e m) x⟩
  | .loop a => ⟨fun n cc e m k => itF ((cC p xb nt a).run n cc) k n e m⟩
  | .exit id => ⟨fun _ _ e m k => k (.exit id) e m⟩
  | .ret => ⟨fun _ _ e m k => k .ret e m⟩
  | _ => ⟨fun _ _ _ _ _ => none⟩
theorem regF_eq {p : Program} {xb : XB} {cc : Cf} {cf : CallF} (h : CcOk cc cf) (nt n : Nat) (id : Nat) (ops : Array Oper) (draw : Bool) (e : Env) (m : Mem) (k : X → Env → Mem → Ans) :
    (regF p xb nt ops draw).run n cc e m k = match codeV p xb cf nt n (.region id ops draw) e m with | .ok x e' m' => k x e' m' | .fail => none := by
  unfold codeV
  cases draw with
  | false =>
    show (osF p xb nt ops ops.toList).run cc e m (fun e m => k .normal e m) = _
    rw [osF_eq h]
    simp only [cond_false]
    cases opsV p xb cf nt ops ops.toList e m <;> rfl
  | true =>
    unfold regF
    have hcf : (fun f args m => cc f args m fun v m => some (v, m)) = cf := by
      funext f args m
      rw [h]
      cases cf f args m <;> rfl
    simp only [cond_true]
    cases drawOk ops with
    | false => rfl
    | true =>
      simp only [cond_true]
      rw [hcf]
      cases drawV p xb cf nt ops (beforesFrom ops.toList []) (orderOf ops) e m [] [] <;> rfl
theorem itF_eq {b : Env → Mem → (X → Env → Mem → Ans) → Ans} {f : Env → Mem → Out} (hb : ∀ e m k, b e m k = match f e m with | .ok x e' m' => k x e' m' | .fail => none) (K : X → Env → Mem → Ans) : ∀ (n : Nat) (e : Env) (m : Mem),
    itF b K n e m = match iter f n e m with | .ok x e' m' => K x e' m' | .fail => none := by
  intro n
  induction n with
  | zero => intro e m; rfl
  | succ n ih =>
    intro e m
    show b e m (fun x e m => X.rec (motive := fun _ => Ans) (itF b K n e m) (fun id => K (.exit id) e m) (K .ret e m) x) = _
    rw [hb]
    unfold iter
    cases hf : f e m with
    | fail => rfl
    | ok x e' m' =>
      cases x with
      | normal => exact ih e' m'
      | exit id => rfl
      | ret => rfl
theorem cC_eq {p : Program} {xb : XB} {cc : Cf} {cf : CallF} (h : CcOk cc cf) (nt n : Nat) : ∀ (c : Code) (e : Env) (m : Mem) (k : X → Env → Mem → Ans),
    (cC p xb nt c).run n cc e m k = match codeV p xb cf nt n c e m with | .ok x e' m' => k x e' m' | .fail => none := by
  intro c
  induction c with
  | skip => intro e m k; rfl
  | region id ops draw => intro e m k; exact regF_eq h nt n id ops draw e m k
  | seq a b iha ihb =>
    intro e m k
    unfold cC codeV
    dsimp only
    rw [iha]
    cases codeV p xb cf nt n a e m with
    | fail => rfl
    | ok x e' m' =>
      cases x with
      | normal => exact ihb e' m' k
      | exit id => rfl
      | ret => rfl
  | cond c a b iha ihb =>
    intro e m k
    unfold cC codeV
    dsimp only
    rw [rd_eq]
    unfold boolP
    cases evalO e c with
    | none => rfl
    | some v =>
      dsimp only
      cases v <;> try rfl
      rename_i b'
      cases b'
      · exact ihb e m k
      · exact iha e m k
  | block id a iha =>
    intro e m k
    unfold cC codeV
    dsimp only
    rw [iha]
    cases codeV p xb cf nt n a e m with
    | fail => rfl
    | ok x e' m' =>
      cases x with
      | normal => rfl
      | exit j => dsimp only; cases Nat.beq j id <;> rfl
      | ret => rfl
  | loop a iha =>
    intro e m k
    unfold cC codeV
    exact itF_eq (fun e m k => iha e m k) k n e m
  | rangeFunc f ps a b _ _ => intro e m k; rfl
  | exit id => intro e m k; rfl
  | scope a _ => intro e m k; rfl
  | label l => intro e m k; rfl
  | goto l => intro e m k; rfl
  | ret => intro e m k; rfl
  | refuse w => intro e m k; rfl
def retK (k : V → Mem → Ans) (m : Mem) : List V → Ans
  | [v] => k v m
  | vs => k (.tup vs) m
def endK (p : Program) (rs : List ResultVar) (k : V → Mem → Ans) (x : X) (e : Env) (m : Mem) : Ans :=
  X.rec (motive := fun _ => Ans) (oK (resultsL p e m rs) (retK k m)) (fun _ => none) (oK (resultsL p e m rs) (retK k m)) x
structure Fc where
  run : Nat → Cf → List V → Mem → (V → Mem → Ans) → Ans
def fC (p : Program) (xb : XB) (f : FuncId) : Fc :=
  match p.funcs[f]? with
  | none => ⟨fun _ _ _ _ _ => none⟩
  | some fn => match fn.body with
    | none => ⟨fun _ _ _ _ _ => none⟩
    | some c => ⟨fun n cc args m k => Bool.rec (motive := fun _ => Ans) none ((cC p xb fn.ntmps c).run n cc (argsT args 0 .nil) m (endK p fn.results.toList k)) (Nat.ble args.length fn.ntmps)⟩
def funC (p : Program) (xb : XB) (ext : CallF) (n : Nat) : Cf :=
  Nat.rec (motive := fun _ => Cf) (fun _ _ _ _ => none)
    (fun n ih f args m k => Option.rec (motive := fun _ => Ans) ((fC p xb f).run n ih args m k) (fun r => k r.1 r.2) (ext f args m)) n
theorem endK_eq (p : Program) (rs : List ResultVar) (k : V → Mem → Ans) (x : X) (e : Env) (m : Mem) : endK p rs k x e m = match (match Out.ok x e m with
        | .fail => none
        | .ok (.exit _) _ _ => none
        | .ok _ e m' => match resultsL p e m' rs with
          | some [v] => some (v, m')
          | some vs => some (.tup vs, m')
          | none => none : Option (V × Mem)) with | some (v, m') => k v m' | none => none := by
  have key : oK (resultsL p e m rs) (retK k m) = match (match resultsL p e m rs with
          | some [v] => some (v, m)
          | some vs => some (.tup vs, m)
          | none => none : Option (V × Mem)) with | some (v, m') => k v m' | none => none := by
    cases resultsL p e m rs with
    | none => rfl
    | some vs => match vs with
      | [] => rfl
      | [v] => rfl
      | v :: u :: r => rfl
  cases x with
  | normal => exact key
  | exit id => rfl
  | ret => exact key
theorem funC_eq (p : Program) (xb : XB) (ext : CallF) : ∀ n, CcOk (funC p xb ext n) (funV p xb ext n) := by
  intro n
  induction n with
  | zero => intro f args m k; rfl
  | succ n ih =>
    intro f args m k
    show (Option.rec (motive := fun _ => Ans) ((fC p xb f).run n (funC p xb ext n) args m k) (fun r => k r.1 r.2) (ext f args m) : Ans) = _
    unfold funV
    cases ext f args m with
    | some r => rfl
    | none =>
      dsimp only
      unfold fC
      cases p.funcs[f]? with
      | none => rfl
      | some fn =>
        dsimp only
        cases fn.body with
        | none => rfl
        | some c =>
          dsimp only
          cases Nat.ble args.length fn.ntmps with
          | false => rfl
          | true =>
            simp only [cond_true]
            rw [cC_eq ih]
            cases codeV p xb (funV p xb ext n) fn.ntmps n c (argsT args 0 .nil) m with
            | fail => rfl
            | ok x e' m' => exact endK_eq p _ k x e' m'
theorem funV_of {p : Program} {xb : XB} {ext : CallF} {n : Nat} {f : FuncId} {args : List V} {m : Mem} : funV p xb ext n f args m = funC p xb ext n f args m fun v m => some (v, m) := by
  rw [funC_eq]
  cases funV p xb ext n f args m <;> rfl
theorem yes_of {p : Program} {xb : XB} {ext : CallF} {n : Nat} {f : FuncId} {args : List V} {m : Mem} (h : yes (funC p xb ext n f args m fun v m => some (v, m)) = true) : yes (funV p xb ext n f args m) = true := by
  rw [funV_of]; exact h
end Go.Ev
end

namespace Go.Ev
open Go
set_option linter.unusedVariables false
set_option linter.unusedSimpArgs false
def Ev (p : Program) (xb : XB) (ext : CallF) (f : FuncId) (args : List V) (m : Mem) (v : V) (m' : Mem) : Prop := ∃ n, ∀ k, n ≤ k → funV p xb ext k f args m = some (v, m')
def ELe (e e' : Env) : Prop := ∀ t v, e.get t = some v → e'.get t = some v
theorem ELe.refl (e : Env) : ELe e e := fun _ _ h => h
theorem ELe.set {e e' : Env} (h : ELe e e') (d : Nat) (v : V) : ELe (e.set d v) (e'.set d v) := fun t u hu => by
  rw [T.get_set] at hu ⊢
  split <;> simp_all
  exact h t u hu
theorem ELe.evalO {e e' : Env} (h : ELe e e') {x : Operand} {v : V} (hx : Go.Ev.evalO e x = some v) : Go.Ev.evalO e' x = some v := by
  cases x <;> first | exact h _ _ hx | exact hx
theorem ELe.evalL {e e' : Env} (h : ELe e e') : ∀ {xs : List Operand} {vs : List V}, Go.Ev.evalL e xs = some vs → Go.Ev.evalL e' xs = some vs := by
  intro xs
  induction xs with
  | nil => intro vs hv; exact hv
  | cons x xs ih =>
    intro vs hv
    simp only [Go.Ev.evalL] at hv ⊢
    split at hv
    case h_2 => cases hv
    rename_i v hx
    rw [h.evalO hx]
    split at hv
    case h_2 => cases hv
    rename_i vs' hs
    rw [ih hs]
    exact hv
theorem ELe.evalP {e e' : Env} (h : ELe e e') : ∀ {xs : List (Nat × Operand)} {vs : List (Nat × V)}, evalParts e xs = some vs → evalParts e' xs = some vs := by
  intro xs
  induction xs with
  | nil => intro vs hv; exact hv
  | cons x xs ih =>
    intro vs hv
    obtain ⟨i, x⟩ := x
    simp only [evalParts] at hv ⊢
    split at hv
    case h_2 => cases hv
    rename_i v vs' hx hs
    rw [h.evalO hx, ih hs]
    exact hv
section
variable (p : Program) (xb : XB) (ext : CallF) (nt : Nat)
def Wo (ops : Array Oper) (l : List Oper) (e : Env) (m : Mem) (Q : Env → Mem → Prop) : Prop :=
  ∀ e2, ELe e e2 → ∃ n e' e2' m', (∀ k, n ≤ k → opsV p xb (funV p xb ext k) nt ops l e2 m = some (e2', m')) ∧ ELe e' e2' ∧ Q e' m'
def Wc (c : Code) (e : Env) (m : Mem) (Q : X → Env → Mem → Prop) : Prop :=
  ∀ e2, ELe e e2 → ∃ n x e' e2' m', (∀ k, n ≤ k → codeV p xb (funV p xb ext k) nt k c e2 m = .ok x e2' m') ∧ ELe e' e2' ∧ Q x e' m'
end
section
variable {p : Program} {xb : XB} {ext : CallF} {nt : Nat} {ops : Array Oper} {e : Env} {m : Mem}
theorem Wc.mono {c : Code} {Q Q' : X → Env → Mem → Prop} (h : Wc p xb ext nt c e m Q) (k : ∀ x e m, Q x e m → Q' x e m) : Wc p xb ext nt c e m Q' := fun e2 he => by
  obtain ⟨n, x, e', e2', m', h1, h2, h3⟩ := h e2 he
  exact ⟨n, x, e', e2', m', h1, h2, k _ _ _ h3⟩
theorem Wc.weak {c : Code} {e0 : Env} {Q : X → Env → Mem → Prop} (h : Wc p xb ext nt c e0 m Q) (he : ELe e0 e) : Wc p xb ext nt c e m Q := fun e2 h2 => h e2 fun t v hv => h2 t v (he t v hv)
theorem wc_skip {Q : X → Env → Mem → Prop} (h : Q .normal e m) : Wc p xb ext nt .skip e m Q := fun e2 he => ⟨0, .normal, e, e2, m, fun k _ => by simp [codeV], he, h⟩
theorem wc_ret {Q : X → Env → Mem → Prop} (h : Q .ret e m) : Wc p xb ext nt .ret e m Q := fun e2 he => ⟨0, .ret, e, e2, m, fun k _ => by simp [codeV], he, h⟩
theorem wc_exit {i : Nat} {Q : X → Env → Mem → Prop} (h : Q (.exit i) e m) : Wc p xb ext nt (.exit i) e m Q := fun e2 he => ⟨0, .exit i, e, e2, m, fun k _ => by simp [codeV], he, h⟩
theorem wc_region {i : Nat} {Q : X → Env → Mem → Prop} (h : Wo p xb ext nt ops ops.toList e m fun e m => Q .normal e m) : Wc p xb ext nt (.region i ops false) e m Q := fun e2 he => by
  obtain ⟨n, e', e2', m', h1, h2, h3⟩ := h e2 he
  exact ⟨n, .normal, e', e2', m', fun k hk => by simp only [codeV, cond_false]; rw [h1 k hk], h2, h3⟩
def thenW (p : Program) (xb : XB) (ext : CallF) (nt : Nat) (b : Code) (Q : X → Env → Mem → Prop) : X → Env → Mem → Prop
  | .normal, e, m => Wc p xb ext nt b e m Q
  | .exit i, e, m => Q (.exit i) e m
  | .ret, e, m => Q .ret e m
theorem wc_seq {a b : Code} {Q : X → Env → Mem → Prop} (h : Wc p xb ext nt a e m (thenW p xb ext nt b Q)) : Wc p xb ext nt (.seq a b) e m Q := fun e2 he => by
  obtain ⟨n, x, e', e2', m', h1, h2, h3⟩ := h e2 he
  cases x with
  | normal =>
    obtain ⟨n2, x, f', f2', m2, g1, g2, g3⟩ := h3 e2' h2
    exact ⟨max n n2, x, f', f2', m2, fun k hk => by simp only [codeV]; rw [h1 k (by omega)]; exact g1 k (by omega), g2, g3⟩
  | exit i => exact ⟨n, .exit i, e', e2', m', fun k hk => by simp only [codeV]; rw [h1 k hk], h2, h3⟩
  | ret => exact ⟨n, .ret, e', e2', m', fun k hk => by simp only [codeV]; rw [h1 k hk], h2, h3⟩
theorem wc_true {c : Operand} {a b : Code} {Q : X → Env → Mem → Prop} (hc : evalO e c = some (.bool true)) (h : Wc p xb ext nt a e m Q) : Wc p xb ext nt (.cond c a b) e m Q := fun e2 he => by
  obtain ⟨n, x, e', e2', m', h1, h2, h3⟩ := h e2 he
  exact ⟨n, x, e', e2', m', fun k hk => by simp only [codeV]; rw [he.evalO hc]; exact h1 k hk, h2, h3⟩
theorem wc_false {c : Operand} {a b : Code} {Q : X → Env → Mem → Prop} (hc : evalO e c = some (.bool false)) (h : Wc p xb ext nt b e m Q) : Wc p xb ext nt (.cond c a b) e m Q := fun e2 he => by
  obtain ⟨n, x, e', e2', m', h1, h2, h3⟩ := h e2 he
  exact ⟨n, x, e', e2', m', fun k hk => by simp only [codeV]; rw [he.evalO hc]; exact h1 k hk, h2, h3⟩
def blockW (i : Nat) (Q : X → Env → Mem → Prop) : X → Env → Mem → Prop
  | .normal, e, m => Q .normal e m
  | .exit j, e, m => if j = i then Q .normal e m else Q (.exit j) e m
  | .ret, e, m => Q .ret e m
theorem wc_block {i : Nat} {a : Code} {Q : X → Env → Mem → Prop} (h : Wc p xb ext nt a e m (blockW i Q)) : Wc p xb ext nt (.block i a) e m Q := fun e2 he => by
  obtain ⟨n, x, e', e2', m', h1, h2, h3⟩ := h e2 he
  cases x with
  | normal => exact ⟨n, .normal, e', e2', m', fun k hk => by simp only [codeV]; rw [h1 k hk], h2, h3⟩
  | exit j =>
    replace h3 : if j = i then Q .normal e' m' else Q (.exit j) e' m' := h3
    by_cases hj : j = i
    · rw [if_pos hj] at h3
      exact ⟨n, .normal, e', e2', m', fun k hk => by simp only [codeV]; rw [h1 k hk]; simp [hj], h2, h3⟩
    · rw [if_neg hj] at h3
      refine ⟨n, .exit j, e', e2', m', fun k hk => ?_, h2, h3⟩
      simp only [codeV]; rw [h1 k hk]
      simp [show Nat.beq j i = false by rw [← Bool.not_eq_true, Nat.beq_eq]; exact hj]
  | ret => exact ⟨n, .ret, e', e2', m', fun k hk => by simp only [codeV]; rw [h1 k hk], h2, h3⟩
theorem iter_more {f : Env → Mem → Out} : ∀ (n : Nat) (e : Env) (m : Mem) (x : X) (e' : Env) (m' : Mem), iter f n e m = .ok x e' m' → ∀ k, n ≤ k → iter f k e m = .ok x e' m' := by
  intro n
  induction n with
  | zero => intro e m x e' m' h; cases h
  | succ n ih =>
    intro e m x e' m' h k hk
    obtain ⟨k, rfl⟩ : ∃ j, k = j + 1 := ⟨k - 1, by omega⟩
    unfold iter at h ⊢
    cases hf : f e m with
    | fail => rw [hf] at h; cases h
    | ok y e1 m1 =>
      rw [hf] at h
      cases y with
      | normal => exact ih _ _ _ _ _ h k (by omega)
      | exit i => exact h
      | ret => exact h
theorem wc_loop {a : Code} {Q : X → Env → Mem → Prop} (I : Nat → Env → Mem → Prop) (n : Nat) (h0 : I n e m)
    (h : ∀ n e m, I n e m → Wc p xb ext nt a e m fun x e' m' => match x with | .normal => ∃ n', n' < n ∧ I n' e' m' | .exit i => Q (.exit i) e' m' | .ret => Q .ret e' m') : Wc p xb ext nt (.loop a) e m Q := by
  have key : ∀ n e m, I n e m → ∀ e2, ELe e e2 → ∃ N x e' e2' m', (∀ k, N ≤ k → iter (codeV p xb (funV p xb ext k) nt k a) (n + 1) e2 m = .ok x e2' m') ∧ ELe e' e2' ∧ Q x e' m' := by
    intro n
    induction n using Nat.strongRecOn with
    | ind n ih =>
      intro e m hI e2 he
      obtain ⟨N, x, e', e2', m', h1, h2, h3⟩ := h n e m hI e2 he
      cases x with
      | normal =>
        obtain ⟨n', hn', hI'⟩ := h3
        obtain ⟨N2, x, f', f2', m2, g1, g2, g3⟩ := ih n' hn' e' m' hI' e2' h2
        refine ⟨max N N2, x, f', f2', m2, fun k hk => ?_, g2, g3⟩
        unfold iter
        rw [h1 k (by omega)]
        exact iter_more _ _ _ _ _ _ (g1 k (by omega)) n (by omega)
      | exit i => exact ⟨N, .exit i, e', e2', m', fun k hk => by unfold iter; rw [h1 k hk], h2, h3⟩
      | ret => exact ⟨N, .ret, e', e2', m', fun k hk => by unfold iter; rw [h1 k hk], h2, h3⟩
  intro e2 he
  obtain ⟨N, x, e', e2', m', h1, h2, h3⟩ := key n e m h0 e2 he
  exact ⟨max N (n + 1), x, e', e2', m', fun k hk => by simp only [codeV]; exact iter_more _ _ _ _ _ _ (h1 k (by omega)) k (by omega), h2, h3⟩
def endW (p : Program) (fn : Func) (R : V → Mem → Prop) (x : X) (e : Env) (m : Mem) : Prop :=
  (∀ i, x ≠ .exit i) ∧ ∃ vs, (∀ e2, ELe e e2 → resultsL p e2 m fn.results.toList = some vs) ∧ (match vs with | [v] => R v m | vs => R (.tup vs) m)
theorem ev_of {f : FuncId} {fn : Func} {c : Code} {args : List V} {R : V → Mem → Prop} (hx : ∀ m, ext f args m = none) (hf : p.funcs[f]? = some fn) (hb : fn.body = some c) (hl : Nat.ble args.length fn.ntmps = true)
    (h : Wc p xb ext fn.ntmps c (argsT args 0 .nil) m (endW p fn R)) : ∃ v m', Ev p xb ext f args m v m' ∧ R v m' := by
  obtain ⟨n, x, e', e2', m', h1, h2, h3, vs, h4, h5⟩ := h _ (ELe.refl _)
  have h4' := h4 e2' h2
  match vs, h4', h5 with
  | [], h4', h5 => exact ⟨_, m', ⟨n + 1, fun k hk => by
      obtain ⟨k, rfl⟩ : ∃ j, k = j + 1 := ⟨k - 1, by omega⟩
      unfold funV
      rw [hx]; dsimp only; rw [hf]; dsimp only; rw [hb]; dsimp only; rw [hl, cond_true, h1 k (by omega)]
      cases x <;> first | exact absurd rfl (h3 _) | (dsimp only; rw [h4'])⟩, h5⟩
  | [v], h4', h5 => exact ⟨_, m', ⟨n + 1, fun k hk => by
      obtain ⟨k, rfl⟩ : ∃ j, k = j + 1 := ⟨k - 1, by omega⟩
      unfold funV
      rw [hx]; dsimp only; rw [hf]; dsimp only; rw [hb]; dsimp only; rw [hl, cond_true, h1 k (by omega)]
      cases x <;> first | exact absurd rfl (h3 _) | (dsimp only; rw [h4'])⟩, h5⟩
  | v :: u :: r, h4', h5 => exact ⟨_, m', ⟨n + 1, fun k hk => by
      obtain ⟨k, rfl⟩ : ∃ j, k = j + 1 := ⟨k - 1, by omega⟩
      unfold funV
      rw [hx]; dsimp only; rw [hf]; dsimp only; rw [hb]; dsimp only; rw [hl, cond_true, h1 k (by omega)]
      cases x <;> first | exact absurd rfl (h3 _) | (dsimp only; rw [h4'])⟩, h5⟩
end
end Go.Ev

namespace Go.Ev
open Go
set_option linter.unusedVariables false
set_option linter.unusedSimpArgs false
def offV (p : Program) (s : TypeId) (f : Nat) : Option Nat := match p.underlying s with
  | some (.struct fs) => (match fs[f]? with | some f => (match sizeQ p f.type with | some (_ + 1) => some f.offset | _ => none) | none => none)
  | _ => none
class Off (p : Program) (s f : Nat) (k : outParam Nat) : Prop where
  eq : offV p s f = some k
def scB (p : Program) (t : TypeId) : Bool := (p.underlying t).isSome && !isAggT p t
class ScT (p : Program) (t : Nat) : Prop where
  eq : scB p t = true
def agN (p : Program) (t : TypeId) : Option Nat := bif (p.underlying t).isSome && isAggT p t then some (p.cellsOf t) else none
class AgT (p : Program) (t : Nat) (n : outParam Nat) : Prop where
  eq : agN p t = some n
class SzT (p : Program) (t : Nat) (n : outParam Nat) : Prop where
  eq : sizeQ p t = some n
def slN (p : Program) (t : TypeId) : Option (Nat × Nat) := match p.underlying t with
  | some (.slice e) => (match sizeQ p e with | some s => some (e, s) | none => none)
  | _ => none
class SlT (p : Program) (t : Nat) (e s : outParam Nat) : Prop where
  eq : slN p t = some (e, s)
def isStr (p : Program) (t : TypeId) : Bool := match p.underlying t with | some .string => true | _ => false
class StT (p : Program) (t : Nat) : Prop where
  eq : isStr p t = true
def isIf (p : Program) (t : TypeId) : Bool := match p.underlying t with | some (.interface _) => false | some _ => true | none => false
class NiT (p : Program) (t : Nat) : Prop where
  eq : isIf p t = true
class ZeT (p : Program) (t : Nat) (z : outParam V) : Prop where
  eq : zeroV p t = some z
theorem slN_spec {p : Program} {t e s : Nat} (h : slN p t = some (e, s)) : p.underlying t = some (.slice e) ∧ sizeQ p e = some s := by
  unfold slN at h
  split at h
  · split at h
    · cases h; exact ⟨by assumption, by assumption⟩
    · cases h
  · cases h
theorem isStr_spec {p : Program} {t : Nat} (h : isStr p t = true) : p.underlying t = some .string := by
  unfold isStr at h
  split at h
  · assumption
  · cases h
section
variable {p : Program} {xb : XB} {ext : CallF} {nt : Nat} {ops : Array Oper} {e : Env} {m : Mem} {o : Oper} {r : List Oper} {Q : Env → Mem → Prop}
def Wt (ops : Array Oper) (e : Env) (o : Oper) (b : Bool) : Prop := ∀ e2, ELe e e2 → wantedV ops e2 o = some b
theorem Wt.of {b : Bool} (h : wantedV ops e o = some b) : Wt ops e o b := fun e2 he => by
  unfold wantedV at h ⊢
  split <;> rename_i hg <;> rw [hg] at h <;> (try dsimp only at h)
  · exact h
  · split <;> rename_i hj <;> rw [hj] at h <;> (try dsimp only at h)
    · cases h
    · split <;> rename_i hd <;> rw [hd] at h <;> (try dsimp only at h)
      · cases h
      · split at h
        · rename_i hb; rw [he _ _ hb]; exact h
        · rename_i u hn hb; rw [he _ _ hb]; split
          · rename_i hu; cases hu; exact absurd rfl (hn _)
          · exact h
          · rename_i hu; cases hu
        · cases h
theorem wo_nil (h : Q e m) : Wo p xb ext nt ops [] e m Q := fun e2 he => ⟨0, e, e2, m, fun k _ => rfl, he, h⟩
theorem wo_step {v : V} {m' : Mem} {d : Tmp} (hs : ∀ e2, ELe e e2 → ∃ n, ∀ k, n ≤ k → stepV p xb (funV p xb ext k) ops o e2 m = some (v, m')) (hd : o.dst = some d) (hn : Nat.blt d nt = true)
    (h : Wo p xb ext nt ops r (e.set d v) m' Q) : Wo p xb ext nt ops (o :: r) e m Q := fun e2 he => by
  obtain ⟨n, h1⟩ := hs e2 he
  obtain ⟨n2, e', e2', m2, g1, g2, g3⟩ := h _ (he.set d v)
  refine ⟨max n n2, e', e2', m2, fun k hk => ?_, g2, g3⟩
  unfold opsV
  rw [h1 k (by omega)]
  dsimp only
  unfold setO
  rw [hd]
  dsimp only
  rw [hn]
  exact g1 k (by omega)
theorem wo_step0 {v : V} {m' : Mem} (hs : ∀ e2, ELe e e2 → ∃ n, ∀ k, n ≤ k → stepV p xb (funV p xb ext k) ops o e2 m = some (v, m')) (hd : o.dst = none)
    (h : Wo p xb ext nt ops r e m' Q) : Wo p xb ext nt ops (o :: r) e m Q := fun e2 he => by
  obtain ⟨n, h1⟩ := hs e2 he
  obtain ⟨n2, e', e2', m2, g1, g2, g3⟩ := h _ he
  refine ⟨max n n2, e', e2', m2, fun k hk => ?_, g2, g3⟩
  unfold opsV
  rw [h1 k (by omega)]
  dsimp only
  unfold setO
  rw [hd]
  exact g1 k (by omega)
theorem wo_off {d : Tmp} (hw : wantedV ops e o = some false) (hd : o.dst = some d) (hn : Nat.blt d nt = true)
    (h : Wo p xb ext nt ops r (e.set d (.tup [])) m Q) : Wo p xb ext nt ops (o :: r) e m Q :=
  wo_step (fun e2 he => ⟨0, fun k _ => by unfold stepV; rw [Wt.of hw e2 he]⟩) hd hn h
def NV (p : Program) (e : Env) (o : Oper) (v : V) : Prop := ∀ e2, ELe e e2 → nV p e2 o = some v
theorem wo_n {v : V} {d : Tmp} (hw : wantedV ops e o = some true) (hv : NV p e o v) (hd : o.dst = some d) (hn : Nat.blt d nt = true)
    (h : Wo p xb ext nt ops r (e.set d v) m Q) : Wo p xb ext nt ops (o :: r) e m Q :=
  wo_step (fun e2 he => ⟨0, fun k _ => by unfold stepV opV; rw [Wt.of hw e2 he]; dsimp only; rw [hv e2 he]; rfl⟩) hd hn h
def MV (p : Program) (xb : XB) (e : Env) (m : Mem) (o : Oper) (v : V) (m' : Mem) : Prop := ∀ e2, ELe e e2 → nV p e2 o = none ∧ (memV p xb e2 m o = .val v m' ∨ v = .tup [] ∧ memV p xb e2 m o = .skip m')
theorem mv_step {v : V} {m' : Mem} (hw : wantedV ops e o = some true) (hv : MV p xb e m o v m') : ∀ e2, ELe e e2 → ∃ n, ∀ k, n ≤ k → stepV p xb (funV p xb ext k) ops o e2 m = some (v, m') := fun e2 he => ⟨0, fun k _ => by
  obtain ⟨h1, h2⟩ := hv e2 he
  unfold stepV opV
  rw [Wt.of hw e2 he]
  dsimp only
  rw [h1]
  dsimp only
  rcases h2 with h2 | ⟨rfl, h2⟩ <;> rw [h2] <;> rfl⟩
theorem wo_m {v : V} {m' : Mem} {d : Tmp} (hw : wantedV ops e o = some true) (hv : MV p xb e m o v m') (hd : o.dst = some d) (hn : Nat.blt d nt = true)
    (h : Wo p xb ext nt ops r (e.set d v) m' Q) : Wo p xb ext nt ops (o :: r) e m Q := wo_step (mv_step hw hv) hd hn h
theorem wo_m0 {v : V} {m' : Mem} (hw : wantedV ops e o = some true) (hv : MV p xb e m o v m') (hd : o.dst = none)
    (h : Wo p xb ext nt ops r e m' Q) : Wo p xb ext nt ops (o :: r) e m Q := wo_step0 (mv_step hw hv) hd h
def hasB (p : Program) (f : Nat) : Bool := match p.funcs[f]? with | some fn => fn.body.isSome | none => false
class HasB (p : Program) (f : Nat) : Prop where
  eq : hasB p f = true
theorem call_step {f : FuncId} {az : Array Operand} {ts : Array TypeId} {vs : List V} {v : V} {m' : Mem} [hb : HasB p f] (hw : wantedV ops e o = some true) (ho : o.op = .call ⟨.value (.func f), az, ts⟩) (ha : evalL e az.toList = some vs)
    (hc : Ev p xb ext f vs m v m') : ∀ e2, ELe e e2 → ∃ n, ∀ k, n ≤ k → stepV p xb (funV p xb ext k) ops o e2 m = some (v, m') := by
  intro e2 he
  obtain ⟨n, hc⟩ := hc
  refine ⟨n, fun k hk => ?_⟩
  unfold stepV opV
  rw [Wt.of hw e2 he]
  dsimp only
  unfold nV memV
  rw [ho]
  dsimp only
  unfold callV
  dsimp only
  rw [he.evalL ha]
  dsimp only [evalO, fnV]
  rw [List.nil_append, List.append_nil]
  unfold externV
  have h1 := hb.eq
  unfold hasB at h1
  cases hf : p.funcs[f]? with
  | none => rw [hf] at h1; cases h1
  | some fn =>
    rw [hf] at h1
    dsimp only at h1 ⊢
    cases hbd : fn.body with
    | none => rw [hbd] at h1; cases h1
    | some c => exact hc k hk
theorem wo_call {f : FuncId} {az : Array Operand} {ts : Array TypeId} {vs : List V} {v : V} {m' : Mem} {d : Tmp} [hb : HasB p f] (hw : wantedV ops e o = some true) (ho : o.op = .call ⟨.value (.func f), az, ts⟩) (ha : evalL e az.toList = some vs)
    (hc : Ev p xb ext f vs m v m') (hd : o.dst = some d) (hn : Nat.blt d nt = true) (h : Wo p xb ext nt ops r (e.set d v) m' Q) : Wo p xb ext nt ops (o :: r) e m Q := wo_step (call_step hw ho ha hc) hd hn h
theorem nv_move {x : Operand} {v : V} (ho : o.op = .move x) (hx : evalO e x = some v) : NV p e o v := fun e2 he => by unfold nV; rw [ho]; exact he.evalO hx
theorem nv_assign {x : Operand} {v : V} (ho : o.op = .assign x) (hx : evalO e x = some v) : NV p e o v := fun e2 he => by unfold nV; rw [ho]; exact he.evalO hx
theorem nv_pickT {c x y : Operand} {v : V} (ho : o.op = .pick c x y) (hc : evalO e c = some (.bool true)) (hx : evalO e x = some v) : NV p e o v := fun e2 he => by unfold nV; rw [ho]; dsimp only; rw [he.evalO hc]; exact he.evalO hx
theorem nv_pickF {c x y : Operand} {v : V} (ho : o.op = .pick c x y) (hc : evalO e c = some (.bool false)) (hx : evalO e y = some v) : NV p e o v := fun e2 he => by unfold nV; rw [ho]; dsimp only; rw [he.evalO hc]; exact he.evalO hx
theorem nv_nil {x : Operand} {v v' : V} (ho : o.op = .nilCheck x) (hx : evalO e x = some v) (hv : nilCheckV v = some v') : NV p e o v' := fun e2 he => by unfold nV; rw [ho]; dsimp only; rw [he.evalO hx]; exact hv
theorem nv_bin {op : BinOp} {t : TypeId} {x y : Operand} {z : TypeId} {a b v : V} (ho : o.op = .binOp op t x y z) (hx : evalO e x = some a) (hy : evalO e y = some b) (hv : binV p op t x y a b = some v) : NV p e o v := fun e2 he => by
  unfold nV; rw [ho]; dsimp only; rw [he.evalO hx, he.evalO hy]; exact hv
theorem nv_un {op : UnOp} {t : TypeId} {x : Operand} {a v : V} (ho : o.op = .unOp op t x) (hx : evalO e x = some a) (hv : unV p op a = some v) : NV p e o v := fun e2 he => by
  unfold nV; rw [ho]; dsimp only; rw [he.evalO hx]; exact hv
theorem nv_fa {s : TypeId} {x : Operand} {f b i k : Nat} [hk : Off p s f k] (ho : o.op = .fieldAddr s x f) (hx : evalO e x = some (.ptr b i)) : NV p e o (.ptr b (i + k)) := fun e2 he => by
  unfold nV; rw [ho]; dsimp only; rw [he.evalO hx]
  dsimp only
  have hk := hk.eq
  unfold offV at hk
  split at hk
  · rename_i fs h1
    rw [h1]
    dsimp only
    split at hk
    · rename_i f h2
      rw [h2]
      dsimp only
      split at hk
      · rename_i h3; rw [h3]; cases hk; rfl
      · cases hk
    · cases hk
  · cases hk
theorem nv_mkI {t : TypeId} {x : Operand} {a : V} [ht : NiT p t] (ho : o.op = .makeInterface t x) (hx : evalO e x = some a) : NV p e o (.iface t a) := fun e2 he => by
  unfold nV; rw [ho]; dsimp only; rw [he.evalO hx]; dsimp only
  have h := ht.eq
  unfold isIf at h
  split at h
  · cases h
  · rename_i hn hd; rw [hd]; split
    · rename_i hu; cases hu; exact absurd rfl (hn _)
    · rfl
    · rename_i hu; cases hu
  · cases h
theorem nv_ex {x : Operand} {i : Nat} {vs : List V} {v : V} (ho : o.op = .extract x i) (hx : evalO e x = some (.tup vs)) (hv : vs[i]? = some v) : NV p e o v := fun e2 he => by
  unfold nV; rw [ho]; dsimp only; rw [he.evalO hx]; exact hv
theorem nv_len {az : Array Operand} {t : TypeId} {x v : V} {a : Operand} (ho : o.op = .call ⟨.builtin .len, az, #[t]⟩) (ha : az.toList = [a]) (hx : evalO e a = some x) (hv : lenN p t x = some v) : NV p e o v := fun e2 he => by
  have : evalL e2 az.toList = some [x] := by rw [ha]; simp only [evalL]; rw [he.evalO hx]
  unfold nV; rw [ho]; dsimp only; rw [this]; exact hv
theorem len_sl {t el s b off n c sz : Nat} [h : SlT p t el s] : lenN p t (.sl b off n c sz) = some (.int .i64 (.ofNat n)) := by
  unfold lenN; rw [(slN_spec h.eq).1]
theorem len_nil {t el s : Nat} [h : SlT p t el s] : lenN p t .nils = some (.int .i64 0) := by
  unfold lenN; rw [(slN_spec h.eq).1]
theorem len_str {t l b : Nat} [h : StT p t] : lenN p t (.str l b) = some (.int .i64 (.ofNat l)) := by
  unfold lenN; rw [isStr_spec h.eq]
theorem nv_build {t : TypeId} {ps : Array (Nat × Operand)} {vs : List (Nat × V)} {v : V} (ho : o.op = .build t ps) (hx : evalParts e ps.toList = some vs) (hv : (match some vs, zeroV p t with
    | some vs, some z => (match p.underlying t with
      | some (.struct fs) => bif infosOk p fs.toList then (buildParts (fun i => (fs[i]?).map fun f => (f.offset, p.cellsOf f.type)) vs z.cells).map .agg else none
      | some (.array _ el) => (match sizeQ p el with
        | some s => (buildParts (fun i => some (i * s, s)) vs z.cells).map .agg
        | none => none)
      | _ => none)
    | _, _ => none : Option V) = some v) : NV p e o v := fun e2 he => by
  unfold nV; rw [ho]; dsimp only; rw [he.evalP hx]; exact hv
theorem nv_ia {t : TypeId} {x i : Operand} {a k v : V} (ho : o.op = .indexAddr t x i) (hx : evalO e x = some a) (hi : evalO e i = some k) (hv : indexAddrV p t a k = some v) : NV p e o v := fun e2 he => by
  unfold nV; rw [ho]; dsimp only; rw [he.evalO hx, he.evalO hi]; exact hv
theorem ia_sl {t el s b off len cap i : Nat} {k : IntKind} [h : SlT p t el s] (hi : i < len) : indexAddrV p t (.sl b off len cap s) (.int k (.ofNat i)) = some (.ptr b (off + i * s)) := by
  unfold indexAddrV asNat
  rw [(slN_spec h.eq).1]
  dsimp only
  rw [(slN_spec h.eq).2]
  simp [show i.blt len = true by rw [Nat.blt_eq]; exact hi]
theorem nv_ix {t : TypeId} {x i : Operand} {a k v : V} (ho : o.op = .index t x i) (hx : evalO e x = some a) (hi : evalO e i = some k) (hv : indexV p t a k = some v) : NV p e o v := fun e2 he => by
  unfold nV; rw [ho]; dsimp only; rw [he.evalO hx, he.evalO hi]; exact hv
theorem ELe.opt {e e' : Env} (h : ELe e e') {x : Option Operand} {v : Option V} (hx : Go.Ev.opt e x = some v) : Go.Ev.opt e' x = some v := by
  cases x with
  | none => exact hx
  | some x =>
    simp only [Go.Ev.opt] at hx ⊢
    split at hx
    · rename_i u hu; rw [h.evalO hu]; exact hx
    · cases hx
theorem nv_slice {t : TypeId} {x : Operand} {lo hi : Option Operand} {a v : V} {l h' : Option V} (ho : o.op = .slice t x lo hi none) (hx : evalO e x = some a) (hl : opt e lo = some l) (hh : opt e hi = some h') (hv : sliceV p t a l h' = some v) : NV p e o v := fun e2 he => by
  unfold nV; rw [ho]; dsimp only; rw [he.evalO hx, he.opt hl, he.opt hh]; exact hv
theorem nv_conv {s d : TypeId} {x : Operand} {a v : V} (ho : o.op = .convert s d x) (hx : evalO e x = some a) (hv : convN p s d a = some v) : NV p e o v := fun e2 he => by
  unfold nV; rw [ho]; dsimp only; rw [he.evalO hx]; exact hv
theorem scB_spec {t : TypeId} (h : scB p t = true) : ∃ d, p.underlying t = some d ∧ isAggT p t = false := by
  unfold scB at h
  simp only [Bool.and_eq_true, Bool.not_eq_true', Option.isSome_iff_exists] at h
  exact ⟨_, h.1.choose_spec, h.2⟩
theorem agN_spec {t : TypeId} {n : Nat} (h : agN p t = some n) : (∃ d, p.underlying t = some d) ∧ isAggT p t = true ∧ p.cellsOf t = n := by
  unfold agN at h
  simp only [bif_some, Bool.and_eq_true, Option.isSome_iff_exists, Option.some.injEq] at h
  exact ⟨h.1.1, h.1.2, h.2⟩
theorem mv_load {t : TypeId} {x : Operand} {b i : Nat} {v : V} [ht : ScT p t] (ho : o.op = .load t x) (hx : evalO e x = some (.ptr b i)) (hc : m.cell b i = some v) : MV p xb e m o v m := fun e2 he => by
  obtain ⟨d, h1, h2⟩ := scB_spec ht.eq
  refine ⟨by unfold nV; rw [ho], .inl ?_⟩
  unfold memV; rw [ho]; dsimp only; rw [he.evalO hx]; dsimp only
  unfold loadV
  rw [h1, h2]
  simp only [cond_false, hc]
  rfl
theorem mv_loadA {t : TypeId} {x : Operand} {b i n : Nat} {vs : List V} [ht : AgT p t n] (ho : o.op = .load t x) (hx : evalO e x = some (.ptr b i)) (hc : m.row b i n = some vs) : MV p xb e m o (.agg vs) m := fun e2 he => by
  obtain ⟨⟨d, h1⟩, h2, h3⟩ := agN_spec ht.eq
  refine ⟨by unfold nV; rw [ho], .inl ?_⟩
  unfold memV; rw [ho]; dsimp only; rw [he.evalO hx]; dsimp only
  unfold loadV
  rw [h1, h2, h3]
  simp only [cond_true, hc]
  rfl
theorem mv_store {t : TypeId} {x y : Operand} {b i n : Nat} {v : V} {m' : Mem} [ht : SzT p t n] (ho : o.op = .store t x y) (hx : evalO e x = some (.ptr b i)) (hy : evalO e y = some v) (hn : v.cells.length = n) (hc : m.write b i v.cells = some m') : MV p xb e m o (.tup []) m' := fun e2 he => by
  refine ⟨by unfold nV; rw [ho], .inr ⟨rfl, ?_⟩⟩
  unfold memV; rw [ho]; dsimp only; rw [he.evalO hx, he.evalO hy]; dsimp only
  unfold storeV
  dsimp only
  rw [ht.eq]
  dsimp only
  rw [show Nat.beq v.cells.length n = true by rw [Nat.beq_eq]; exact hn, cond_true, hc]
theorem mv_alloc {t : TypeId} {z : V} [ht : ZeT p t z] (ho : o.op = .alloc t) : MV p xb e m o (.ptr m.next 0) (m.newL t z.cells z.cells.length).2 := fun e2 he => by
  refine ⟨by unfold nV; rw [ho], .inl ?_⟩
  unfold memV; rw [ho]; dsimp only; rw [ht.eq]; rfl
theorem mv_box {t : TypeId} {x : Operand} {v : V} (ho : o.op = .box t x) (hx : evalO e x = some v) : MV p xb e m o (.ptr m.next 0) (m.newL t v.cells v.cells.length).2 := fun e2 he => by
  refine ⟨by unfold nV; rw [ho], .inl ?_⟩
  unfold memV; rw [ho]; dsimp only; rw [he.evalO hx]; rfl
end
end Go.Ev

namespace Go.Ev
open Go
set_option linter.unusedVariables false
set_option linter.unusedSimpArgs false
structure Blok (m : Mem) (b : Nat) (el : TypeId) (cs : List V) : Prop where
  blk : ∃ tot c, m.blks.get b = some (.cells ⟨b, cs.length, 0, el, tot, false, true, c⟩) ∧ ∀ i, i < cs.length → c.get i = cs[i]?
  fam : m.fams.get b = some [b]
  lt : b < m.next
def New (m : Mem) : Prop := ∀ b, m.next ≤ b → m.blks.get b = none
structure Fr (S : Nat → Prop) (m m1 : Mem) : Prop where
  nw : New m → New m1
  gl : m1.gl = m.gl
  le : m.next ≤ m1.next
  eq : ∀ q, q < m.next → ¬ S q → m1.blks.get q = m.blks.get q ∧ m1.fams.get q = m.fams.get q
theorem Fr.refl (S : Nat → Prop) (m : Mem) : Fr S m m := ⟨id, rfl, Nat.le_refl _, fun _ _ _ => ⟨rfl, rfl⟩⟩
theorem Fr.trans {S S' : Nat → Prop} {m m1 m2 : Mem} (h : Fr S m m1) (k : Fr S' m1 m2) (hs : ∀ q, q < m.next → S' q → S q) : Fr S m m2 :=
  ⟨fun w => k.nw (h.nw w), k.gl.trans h.gl, Nat.le_trans h.le k.le, fun q hq hn => by
    obtain ⟨a, b⟩ := h.eq q hq hn
    obtain ⟨c, d⟩ := k.eq q (Nat.lt_of_lt_of_le hq h.le) (fun hc => hn (hs q hq hc))
    exact ⟨c.trans a, d.trans b⟩⟩
theorem Fr.mono {S S' : Nat → Prop} {m m1 : Mem} (h : Fr S m m1) (hs : ∀ q, q < m.next → S q → S' q) : Fr S' m m1 :=
  ⟨h.nw, h.gl, h.le, fun q hq hn => h.eq q hq fun hc => hn (hs q hq hc)⟩
section
variable {m m1 : Mem} {b : Nat} {el : TypeId} {cs : List V} {S : Nat → Prop}
theorem Blok.fr (h : Blok m b el cs) (f : Fr S m m1) (hn : ¬ S b) : Blok m1 b el cs := by
  obtain ⟨e1, e2⟩ := f.eq b h.lt hn
  exact ⟨by rw [e1]; exact h.blk, e2.trans h.fam, Nat.lt_of_lt_of_le h.lt f.le⟩
theorem Blok.cell (h : Blok m b el cs) {i : Nat} {v : V} (hi : cs[i]? = some v) : m.cell b i = some v := by
  obtain ⟨tot, c, h1, h2⟩ := h.blk
  have hlt := (List.getElem?_eq_some_iff.1 hi).1
  unfold Mem.cell
  rw [h1]
  simp only [cond_true, show Nat.blt i cs.length = true by rw [Nat.blt_eq]; exact hlt]
  rw [h2 i hlt, hi]
theorem getL_of {c : T V} {cs : List V} : ∀ (n i : Nat), i + n ≤ cs.length → (∀ j, j < cs.length → c.get j = cs[j]?) → getL c n i = some ((cs.drop i).take n) := by
  intro n
  induction n with
  | zero => intro i _ _; simp [getL]
  | succ n ih =>
    intro i hi h
    have hc : cs[i]? = some (cs[i]'(by omega)) := List.getElem?_eq_getElem _
    have := ih (i + 1) (by omega) h
    unfold getL
    rw [h i (by omega), hc]
    dsimp only
    rw [this]
    rw [List.drop_eq_getElem_cons (by omega : i < cs.length), List.take_succ_cons]
theorem Blok.row (h : Blok m b el cs) {i n : Nat} (hi : i + n ≤ cs.length) : m.row b i n = some ((cs.drop i).take n) := by
  obtain ⟨tot, c, h1, h2⟩ := h.blk
  unfold Mem.row
  rw [h1]
  simp only [cond_true, show Nat.ble (i + n) cs.length = true by rw [Nat.ble_eq]; exact hi]
  exact getL_of n i hi h2
theorem Blok.rowAll (h : Blok m b el cs) {n : Nat} (hn : n = cs.length) : m.row b 0 n = some cs := by
  subst hn
  rw [h.row (by omega)]
  simp
def putAt (cs : List V) (i : Nat) (vs : List V) : List V := cs.take i ++ vs ++ cs.drop (i + vs.length)
theorem putAt_length {cs vs : List V} {i : Nat} (h : i + vs.length ≤ cs.length) : (putAt cs i vs).length = cs.length := by
  unfold putAt; simp; omega
theorem putAt_get {cs vs : List V} {i : Nat} (h : i + vs.length ≤ cs.length) (j : Nat) : (putAt cs i vs)[j]? = if i ≤ j ∧ j < i + vs.length then vs[j - i]? else cs[j]? := by
  unfold putAt
  by_cases h1 : j < i
  · rw [if_neg (by omega), List.append_assoc, List.getElem?_append_left (by simp; omega), List.getElem?_take_of_lt h1]
  · by_cases h2 : j < i + vs.length
    · rw [if_pos (by omega), List.append_assoc, List.getElem?_append_right (by simp; omega), List.getElem?_append_left (by simp; omega)]
      congr 1; simp; omega
    · rw [if_neg (by omega), List.getElem?_append_right (by simp; omega), List.getElem?_drop]
      congr 1; simp; omega
theorem cutAt_self (b : Nat) (post : List Nat) : cutAt b (b :: post) = ([], post) := by simp [cutAt]
theorem Blok.write (h : Blok m b el cs) {i : Nat} {vs : List V} (hi : i + vs.length ≤ cs.length) (ho : oneL vs = true) : ∃ m1, m.write b i vs = some m1 ∧ Blok m1 b el (putAt cs i vs) ∧ Fr (fun q => q = b) m m1 ∧ m1.next = m.next := by
  obtain ⟨tot, c, h1, h2⟩ := h.blk
  refine ⟨{ m with blks := m.blks.set b (.cells ⟨b, cs.length, 0, el, tot, false, true, putL c i vs⟩) }, ?_, ⟨⟨tot, putL c i vs, ?_, ?_⟩, h.fam, h.lt⟩, ⟨fun w q hq => ?_, rfl, Nat.le_refl _, fun q hq hn => ⟨by simp [T.get_set, hn], rfl⟩⟩, rfl⟩
  · unfold Mem.write
    rw [h1]
    simp only [ho, show Nat.ble (i + vs.length) cs.length = true by rw [Nat.ble_eq]; exact hi, show Nat.ble 0 i = true by rw [Nat.ble_eq]; omega, Bool.not_false, Bool.and_self, cond_true]
    rw [h.fam]
    dsimp only
    rw [cutAt_self]
    simp [cutLow, CB.withC_eq]
  · rw [putAt_length hi]; simp [T.get_set]
  · intro j hj
    rw [putAt_length hi] at hj
    rw [putL_get, putAt_get hi]
    split
    · rfl
    · exact h2 j hj
  · have hlt : b < m.next := h.lt
    have hq' : m.next ≤ q := hq
    have : q ≠ b := by omega
    simp only [T.get_set, this, if_false]
    exact w q hq'
theorem Blok.new (m : Mem) (el : TypeId) (cs : List V) : Blok (m.newL el cs cs.length).2 m.next el cs ∧ Fr (fun _ => False) m (m.newL el cs cs.length).2 ∧ (m.newL el cs cs.length).2.next = m.next + 1 := by
  refine ⟨⟨⟨cs.length, putL .nil 0 cs, by simp [Mem.newL, Mem.new, T.get_set], fun i hi => ?_⟩, by simp [Mem.newL, Mem.new, T.get_set], Nat.lt_succ_self _⟩, ⟨fun w q hq => ?_, rfl, Nat.le_succ _, fun q hq _ => ?_⟩, rfl⟩
  · rw [putL_get, if_pos (by omega), Nat.sub_zero]
  · have hq' : m.next + 1 ≤ q := hq
    have : q ≠ m.next := by omega
    simp only [Mem.newL, Mem.new, T.get_set, this, if_false]
    exact w q (by omega)
  · have : q ≠ m.next := by omega
    simp [Mem.newL, Mem.new, T.get_set, this]
end
structure Grow (m : Mem) (own : Nat → Prop) (q : Nat) (el : TypeId) (cs : List V) : Prop where
  blk : ∃ f tot c post, m.blks.get q = some (.cells ⟨f, cs.length, 0, el, tot, false, true, c⟩) ∧ (∀ i, i < cs.length → c.get i = cs[i]?) ∧
    m.fams.get f = some (q :: post) ∧ (∀ x, x ∈ post → sizeB m.blks x ≤ cs.length ∧ own x ∧ x < m.next) ∧ own f ∧ f < m.next
  own : own q
  lt : q < m.next
section
variable {m m1 : Mem} {el : TypeId} {cs : List V} {S : Nat → Prop} {own : Nat → Prop} {q : Nat}
theorem Grow.fr (h : Grow m own q el cs) (f : Fr S m m1) (hn : ∀ x, x < m.next → own x → ¬ S x) : Grow m1 own q el cs := by
  obtain ⟨fm, tot, c, post, h1, h2, h3, h4, h5, h6⟩ := h.blk
  refine ⟨⟨fm, tot, c, post, by rw [(f.eq q h.lt (hn _ h.lt h.own)).1]; exact h1, h2, by rw [(f.eq fm h6 (hn _ h6 h5)).2]; exact h3, fun x hx => ?_, h5, Nat.lt_of_lt_of_le h6 f.le⟩, h.own, Nat.lt_of_lt_of_le h.lt f.le⟩
  obtain ⟨a, b, c⟩ := h4 x hx
  refine ⟨?_, b, Nat.lt_of_lt_of_le c f.le⟩
  unfold sizeB at a ⊢
  rw [(f.eq x c (hn _ c b)).1]
  exact a
theorem Grow.cell (h : Grow m own q el cs) {i : Nat} {v : V} (hi : cs[i]? = some v) : m.cell q i = some v := by
  obtain ⟨fm, tot, c, post, h1, h2, _⟩ := h.blk
  have hlt := (List.getElem?_eq_some_iff.1 hi).1
  unfold Mem.cell
  rw [h1]
  simp only [cond_true, show Nat.blt i cs.length = true by rw [Nat.blt_eq]; exact hlt]
  rw [h2 i hlt, hi]
theorem Grow.row (h : Grow m own q el cs) {i n : Nat} (hi : i + n ≤ cs.length) : m.row q i n = some ((cs.drop i).take n) := by
  obtain ⟨fm, tot, c, post, h1, h2, _⟩ := h.blk
  unfold Mem.row
  rw [h1]
  simp only [cond_true, show Nat.ble (i + n) cs.length = true by rw [Nat.ble_eq]; exact hi]
  exact getL_of n i hi h2
theorem Grow.append {n j sz : Nat} {xs : List V} (h : Grow m own q el cs) (hn : cs.length = n * sz) (hx : xs.length = j * sz) (hj : 0 < j) (ho : oneL xs = true) :
    ∃ m1, m.append el sz q 0 n n j xs = some (.sl m.next 0 (n + j) (n + j) sz, m1) ∧ Grow m1 (fun x => own x ∨ x = m.next) m.next el (cs ++ xs) ∧ Fr own m m1 ∧ m1.next = m.next + 1 := by
  obtain ⟨fm, tot, c, post, h1, h2, h3, h4, h5, h6⟩ := h.blk
  have hcl : cutLow m.blks (n * sz) post = ([], post) := by
    cases post with
    | nil => rfl
    | cons x r =>
      have := (h4 x (by simp)).1
      simp only [cutLow, show Nat.ble (sizeB m.blks x) (n * sz) = true by rw [Nat.ble_eq]; omega, cond_true]
  have hmx : (n + j) * sz = (cs ++ xs).length := by rw [List.length_append, hn, hx, Nat.add_mul]
  have hqn : q ≠ m.next := Nat.ne_of_lt h.lt
  have hfn : fm ≠ m.next := Nat.ne_of_lt h6
  refine ⟨{ gl := m.gl, next := m.next + 1, blks := (m.blks.set q (.cells ⟨fm, n * sz, 0, el, 0, false, true, c⟩)).set m.next (.cells ⟨fm, (n + j) * sz, 0, el, 0, false, true, putL c (n * sz) xs⟩), fams := m.fams.set fm (m.next :: q :: post) }, ?_, ⟨⟨fm, 0, putL c (n * sz) xs, q :: post, ?_, ?_, ?_, ?_, .inl h5, Nat.lt_succ_of_lt h6⟩, .inr rfl, Nat.lt_succ_self _⟩, ⟨fun w x hx => ?_, rfl, Nat.le_succ _, fun x hx hnx => ?_⟩, rfl⟩
  · unfold Mem.append
    rw [show Nat.ble (n + j) n = false by rw [← Bool.not_eq_true, Nat.ble_eq]; omega, cond_false, h1]
    simp only [ho, show Nat.ble (n * sz) cs.length = true by rw [Nat.ble_eq]; omega, show Nat.beq 0 0 = true from rfl, show Nat.ble 0 (n * sz) = true by rw [Nat.ble_eq]; omega, show Nat.beq el el = true from Nat.beq_refl _, Bool.not_false, Bool.and_self, cond_true]
    rw [h3]
    dsimp only
    rw [cutAt_self]
    dsimp only
    rw [hcl]
    simp [killL, CB.cutN_eq, CB.grown_eq]
  · rw [← hmx]; simp [T.get_set]
  · intro i hi
    rw [putL_get]
    by_cases hlt : i < n * sz
    · rw [if_neg (by omega), List.getElem?_append_left (by omega)]
      exact h2 i (by omega)
    · rw [List.length_append] at hi
      rw [if_pos (by omega), List.getElem?_append_right (by omega)]
      congr 1; omega
  · simp [T.get_set]
  · intro x hx
    have hlen : cs.length ≤ (cs ++ xs).length := by simp
    rcases List.mem_cons.1 hx with rfl | hx
    · refine ⟨?_, .inl h.own, Nat.lt_succ_of_lt h.lt⟩
      simp [sizeB, T.get_set, hqn]; omega
    · obtain ⟨a, b, d⟩ := h4 x hx
      refine ⟨?_, .inl b, Nat.lt_succ_of_lt d⟩
      have hxn : x ≠ m.next := Nat.ne_of_lt d
      simp only [sizeB, T.get_set, hxn, if_false]
      by_cases hxq : x = q
      · simp [hxq]; omega
      · simp only [hxq, if_false]
        exact Nat.le_trans a hlen
  · have hx' : m.next + 1 ≤ x := hx
    have e1 : x ≠ m.next := by omega
    have hql : q < m.next := h.lt
    have e2 : x ≠ q := by omega
    simp only [T.get_set, e1, e2, if_false]
    exact w x (by omega)
  · have e1 : x ≠ m.next := Nat.ne_of_lt hx
    have e2 : x ≠ q := fun e => hnx (e ▸ h.own)
    have e3 : x ≠ fm := fun e => hnx (e ▸ h5)
    simp [T.get_set, e1, e2, e3]
theorem Grow.first (m : Mem) (el : TypeId) (xs : List V) : Grow (m.newU el xs xs.length).2 (fun x => x = m.next) m.next el xs ∧ Fr (fun _ => False) m (m.newU el xs xs.length).2 ∧ (m.newU el xs xs.length).2.next = m.next + 1 := by
  refine ⟨⟨⟨m.next, 0, putL .nil 0 xs, [], by simp [Mem.newU, Mem.new, T.get_set], fun i hi => ?_, by simp [Mem.newU, Mem.new, T.get_set], (fun x hx => by simp at hx), rfl, Nat.lt_succ_self _⟩, rfl, Nat.lt_succ_self _⟩, ⟨fun w q hq => ?_, rfl, Nat.le_succ _, fun q hq _ => ?_⟩, rfl⟩
  · rw [putL_get, if_pos (by omega), Nat.sub_zero]
  · have hq' : m.next + 1 ≤ q := hq
    have : q ≠ m.next := by omega
    simp only [Mem.newU, Mem.new, T.get_set, this, if_false]
    exact w q (by omega)
  · have : q ≠ m.next := by omega
    simp [Mem.newU, Mem.new, T.get_set, this]
end
def buN (p : Program) (t : TypeId) : Option (V × List (Nat × Nat)) := match zeroV p t, p.underlying t with
  | some z, some (.struct fs) => bif infosOk p fs.toList then some (z, fs.toList.map fun f => (f.offset, p.cellsOf f.type)) else none
  | _, _ => none
class BuT (p : Program) (t : Nat) (z : outParam V) (pl : outParam (List (Nat × Nat))) : Prop where
  eq : buN p t = some (z, pl)
def apN (p : Program) (t0 t1 : TypeId) : Option (Nat × Nat) := match p.underlying t0, p.underlying t1 with
  | some (.slice e), some d => (match d with | .int _ => none | _ => bif roomOk p e then some (e, p.cellsOf e) else none)
  | _, _ => none
class ApT (p : Program) (t0 t1 : Nat) (e s : outParam Nat) : Prop where
  eq : apN p t0 t1 = some (e, s)
def bsN (p : Program) (t : TypeId) : Option (Nat × Nat × V) := match p.underlying t with
  | some (.slice e) => (match zeroV p e with | some z => bif Nat.beq z.cells.length (p.cellsOf e) then some (e, p.cellsOf e, z) else none | none => none)
  | _ => none
class BsT (p : Program) (t : Nat) (e s : outParam Nat) (z : outParam V) : Prop where
  eq : bsN p t = some (e, s, z)
section
variable {p : Program} {xb : XB} {ext : CallF} {nt : Nat} {ops : Array Oper} {e : Env} {m : Mem} {o : Oper} {r : List Oper} {Q : Env → Mem → Prop}
theorem nv_buildS {t : TypeId} {z : V} {pl : List (Nat × Nat)} {ps : Array (Nat × Operand)} {vs : List (Nat × V)} {cs : List V} [h : BuT p t z pl] (ho : o.op = .build t ps) (hx : evalParts e ps.toList = some vs) (hv : buildParts (fun i => pl[i]?) vs z.cells = some cs) : NV p e o (.agg cs) := by
  have h := h.eq
  unfold buN at h
  split at h
  case h_2 => cases h
  rename_i z' fs hz hd
  simp only [bif_some, Option.some.injEq, Prod.mk.injEq] at h
  obtain ⟨hi, rfl, rfl⟩ := h
  refine nv_build ho hx ?_
  rw [hz, hd]
  dsimp only
  rw [hi, cond_true]
  have : (fun (i : Nat) => (fs[i]?).map fun (f : Field) => (f.offset, p.cellsOf f.type)) = fun (i : Nat) => (fs.toList.map fun (f : Field) => (f.offset, p.cellsOf f.type))[i]? := by
    funext i
    rw [List.getElem?_map, Array.getElem?_toList]
  rw [this, hv]
  rfl
theorem mv_bslice {t el n sz : Nat} {z : V} {ps : Array (Nat × Operand)} {vs : List (Nat × V)} {cs : List V} [h : BsT p t el sz z] (ho : o.op = .buildSlice t n ps) (hx : evalParts e ps.toList = some vs) (hb : buildParts (fun i => some (i * sz, sz)) vs (repL z.cells n) = some cs) (hl : cs.length = n * sz) (hs : n * sz ≤ 2 ^ 24) :
    MV p xb e m o (.sl m.next 0 n n sz) (m.newL el cs cs.length).2 := fun e2 he => by
  have h := h.eq
  unfold bsN at h
  split at h
  case h_2 => cases h
  rename_i el' hd
  split at h
  case h_2 => cases h
  rename_i z' hz
  simp only [bif_some, Option.some.injEq, Prod.mk.injEq, Nat.beq_eq] at h
  obtain ⟨hc, rfl, rfl, rfl⟩ := h
  refine ⟨by unfold nV; rw [ho], .inl ?_⟩
  unfold memV; rw [ho]; dsimp only
  rw [hd]; dsimp only
  rw [he.evalP hx, hz]; dsimp only
  simp only [show Nat.ble (n * p.cellsOf el') (2 ^ 24) = true by rw [Nat.ble_eq]; exact hs, show Nat.beq z'.cells.length (p.cellsOf el') = true by rw [Nat.beq_eq]; exact hc, Bool.and_self, cond_true]
  rw [hb]; dsimp only
  rw [show Nat.beq cs.length (n * p.cellsOf el') = true by rw [Nat.beq_eq]; exact hl, cond_true, hl]
  rfl
theorem mv_append {t0 t1 el sz : Nat} {az : Array Operand} {s v : V} {b off len cap sz' : Nat} {xs : List V} {m' : Mem} [h : ApT p t0 t1 el sz] (ho : o.op = .call ⟨.builtin .append, az, #[t0, t1]⟩) (ha : evalL e az.toList = some [s, .sl b off len cap sz'])
    (hr : m.row b off (len * sz) = some xs) (hlen : 0 < len) (hx : xs.length = len * sz) (hap : appendTo p m el s len xs = some (v, m')) : MV p xb e m o v m' := fun e2 he => by
  have h := h.eq
  unfold apN at h
  split at h
  case h_2 => cases h
  rename_i el' d hd0 hd1
  have hroom : roomOk p el' = true ∧ el' = el ∧ p.cellsOf el' = sz ∧ ∀ k, d ≠ .int k := by
    split at h
    · cases h
    · rename_i hni
      simp only [bif_some, Option.some.injEq, Prod.mk.injEq] at h
      exact ⟨h.1, h.2.1, h.2.2, fun k e => hni k e⟩
  obtain ⟨h1, rfl, h2, h3⟩ := hroom
  refine ⟨?_, .inl ?_⟩
  · unfold nV; rw [ho]; dsimp only; rw [he.evalL ha]; rfl
  · unfold memV; rw [ho]; dsimp only
    unfold callV; dsimp only
    rw [he.evalL ha]; dsimp only
    unfold builtinV; dsimp only
    unfold appendV
    have e0 : (#[t0, t1] : Array Nat)[0]? = some t0 := rfl
    have e1 : (#[t0, t1] : Array Nat)[1]? = some t1 := rfl
    rw [e0]; dsimp only
    rw [hd0]; dsimp only
    have hnum : numOk p #[t0, t1] (.sl b off len cap sz') = true := by
      unfold numOk
      rw [e1]; dsimp only
      rw [hd1]
      split
      · rename_i hu; cases hu
      · rename_i k hu; cases hu; exact absurd rfl (h3 k)
      · rfl
    rw [h1, hnum]
    simp only [Bool.and_self, cond_true]
    unfold addedV
    dsimp only
    rw [h2, hr]
    simp only [Option.map_some]
    rw [show Nat.beq len 0 = false by rw [← Bool.not_eq_true, Nat.beq_eq]; omega, cond_false, show Nat.beq xs.length (len * sz) = true by rw [Nat.beq_eq]; exact hx, cond_true, hap]
    rfl
end
end Go.Ev

namespace Go.Ev
open Go
set_option linter.unusedVariables false
set_option linter.unusedSimpArgs false
def ifB (p : Program) (t : TypeId) : Bool := match p.underlying t with | some (.interface _) => true | _ => false
class IfT (p : Program) (t : Nat) : Prop where
  eq : ifB p t = true
def ptB (p : Program) (t : TypeId) : Bool := match p.underlying t with | some (.pointer _) => true | _ => false
class PtT (p : Program) (t : Nat) : Prop where
  eq : ptB p t = true
theorem ifB_spec {p : Program} {t : TypeId} (h : ifB p t = true) : ∃ ms, p.underlying t = some (.interface ms) := by
  unfold ifB at h
  split at h
  · exact ⟨_, by assumption⟩
  · cases h
theorem ptB_spec {p : Program} {t : TypeId} (h : ptB p t = true) : ∃ u, p.underlying t = some (.pointer u) := by
  unfold ptB at h
  split at h
  · exact ⟨_, by assumption⟩
  · cases h
def isConst : Operand → Bool
  | .const _ => true
  | _ => false
section
variable {p : Program} {e : Env} {m : Mem} {o : Oper} {x y : Operand} {z : TypeId} {t : Nat}
theorem neq_iface [h : IfT p t] {t' : TypeId} {v : V} : binV p .neq t x y (.iface t' v) .nili = some (.bool true) := by
  obtain ⟨ms, hd⟩ := ifB_spec h.eq
  show (bif guardOk p t x y (.iface t' v) .nili then (eqV p (9999 + 1) t (.iface t' v) .nili).map (fun b => V.bool (!b)) else none) = _
  unfold eqV
  rw [hd]
  rfl
theorem neq_nili [h : IfT p t] (hy : isConst y = true) : binV p .neq t x y .nili .nili = some (.bool false) := by
  obtain ⟨ms, hd⟩ := ifB_spec h.eq
  have hg : guardOk p t x y .nili .nili = true := by
    unfold guardOk
    cases y <;> simp_all [isConst]
  show (bif guardOk p t x y .nili .nili then (eqV p (9999 + 1) t .nili .nili).map (fun b => V.bool (!b)) else none) = _
  rw [hg]
  unfold eqV
  rw [hd]
  rfl
theorem eql_iface [h : IfT p t] {t' : TypeId} {v : V} : binV p .eql t x y (.iface t' v) .nili = some (.bool false) := by
  obtain ⟨ms, hd⟩ := ifB_spec h.eq
  show (bif guardOk p t x y (.iface t' v) .nili then (eqV p (9999 + 1) t (.iface t' v) .nili).map V.bool else none) = _
  unfold eqV
  rw [hd]
  rfl
theorem eql_nili [h : IfT p t] (hy : isConst y = true) : binV p .eql t x y .nili .nili = some (.bool true) := by
  obtain ⟨ms, hd⟩ := ifB_spec h.eq
  have hg : guardOk p t x y .nili .nili = true := by
    unfold guardOk
    cases y <;> simp_all [isConst]
  show (bif guardOk p t x y .nili .nili then (eqV p (9999 + 1) t .nili .nili).map V.bool else none) = _
  rw [hg]
  unfold eqV
  rw [hd]
  rfl
theorem neq_ptr [h : PtT p t] {b i : Nat} : binV p .neq t x y (.ptr b i) .nilp = some (.bool true) := by
  obtain ⟨ms, hd⟩ := ptB_spec h.eq
  show (bif guardOk p t x y (.ptr b i) .nilp then (eqV p (9999 + 1) t (.ptr b i) .nilp).map (fun b => V.bool (!b)) else none) = _
  unfold eqV
  rw [hd]
  rfl
theorem neq_nilp [h : PtT p t] : binV p .neq t x y .nilp .nilp = some (.bool false) := by
  obtain ⟨ms, hd⟩ := ptB_spec h.eq
  show (bif guardOk p t x y .nilp .nilp then (eqV p (9999 + 1) t .nilp .nilp).map (fun b => V.bool (!b)) else none) = _
  unfold eqV
  rw [hd]
  rfl
theorem eql_ptr [h : PtT p t] {b i : Nat} : binV p .eql t x y (.ptr b i) .nilp = some (.bool false) := by
  obtain ⟨ms, hd⟩ := ptB_spec h.eq
  show (bif guardOk p t x y (.ptr b i) .nilp then (eqV p (9999 + 1) t (.ptr b i) .nilp).map V.bool else none) = _
  unfold eqV
  rw [hd]
  rfl
theorem eql_nilp [h : PtT p t] : binV p .eql t x y .nilp .nilp = some (.bool true) := by
  obtain ⟨ms, hd⟩ := ptB_spec h.eq
  show (bif guardOk p t x y .nilp .nilp then (eqV p (9999 + 1) t .nilp .nilp).map V.bool else none) = _
  unfold eqV
  rw [hd]
  rfl
theorem slice_from {el s b off len cap l : Nat} {k : IntKind} [hs : SlT p t el s] (h1 : l ≤ len) (h2 : len ≤ cap) : sliceV p t (.sl b off len cap s) (some (.int k (.ofNat l))) none = some (.sl b (off + l * s) (len - l) (cap - l) s) := by
  obtain ⟨a, c⟩ := slN_spec hs.eq
  unfold sliceV
  rw [a]
  dsimp only [optNat, asNat]
  rw [c]
  simp only [show Nat.ble l len = true by rw [Nat.ble_eq]; exact h1, show Nat.ble len cap = true by rw [Nat.ble_eq]; exact h2, show Nat.beq s s = true from Nat.beq_refl _, Bool.and_self, cond_true]
end
section
variable {p : Program} {xb : XB} {ext : CallF} {nt : Nat} {e : Env} {m : Mem} {b : Code} {Q : X → Env → Mem → Prop} {i j : Nat}
theorem thenW_n (h : Wc p xb ext nt b e m Q) : thenW p xb ext nt b Q .normal e m := h
theorem thenW_x (h : Q (.exit i) e m) : thenW p xb ext nt b Q (.exit i) e m := h
theorem thenW_r (h : Q .ret e m) : thenW p xb ext nt b Q .ret e m := h
theorem blockW_n (h : Q .normal e m) : blockW i Q .normal e m := h
theorem blockW_r (h : Q .ret e m) : blockW i Q .ret e m := h
theorem blockW_x (h : Q .normal e m) : blockW i Q (.exit i) e m := by show (if i = i then _ else _); rw [if_pos rfl]; exact h
theorem blockW_y (hn : Nat.beq j i = false) (h : Q (.exit j) e m) : blockW i Q (.exit j) e m := by
  show (if j = i then _ else _)
  rw [if_neg]
  · exact h
  · rw [← Nat.beq_eq, hn]; simp
variable {fn : Func} {R : V → Mem → Prop} {v : V}
theorem endW_ret {t : Tmp} (hr : fn.results.toList = [.tmp t]) (hv : e.get t = some v) (h : R v m) : endW p fn R .ret e m :=
  ⟨fun i hi => (by cases hi), [v], fun e2 he => by rw [hr]; simp only [resultsL, resultV]; rw [he _ _ hv], h⟩
theorem endW_none (hr : fn.results.toList = []) (h : R (.tup []) m) : endW p fn R .normal e m :=
  ⟨fun i hi => (by cases hi), [], fun e2 he => by rw [hr]; rfl, h⟩
theorem endW_none' (hr : fn.results.toList = []) (h : R (.tup []) m) : endW p fn R .ret e m :=
  ⟨fun i hi => (by cases hi), [], fun e2 he => by rw [hr]; rfl, h⟩
end
end Go.Ev

namespace Go.Ev
open Go
set_option linter.unusedVariables false
set_option linter.unusedSimpArgs false
def vs (s : ByteArray) : V := .str s.size (bytesOf s)
def txt (l : List UInt8) : ByteArray := ⟨l.toArray⟩
theorem strEq_vs {s t : ByteArray} : strEq s.size (bytesOf s) t.size (bytesOf t) = decide (s = t) := by
  rw [strEq_beq, beq_bytes]
  cases s; cases t
  rw [Bool.eq_iff_iff]
  simp
section
variable {p : Program} {xb : XB} {ext : CallF} {nt : Nat} {ops : Array Oper} {e : Env} {m : Mem} {o : Oper} {r : List Oper} {Q : Env → Mem → Prop} {t : TypeId} {x y : Operand} {z : TypeId} {a b : Int} {k : IntKind}
theorem kE (k : IntKind) : kindEq k k = true := by rw [kindEq_iff]
theorem iE (h : a = b) : intEq a b = true := (intEq_iff a b).2 h
theorem iN (h : a ≠ b) : intEq a b = false := by rw [← Bool.not_eq_true, intEq_iff]; exact h
theorem iL (h : a < b) : intLt a b = true := (intLt_iff a b).2 h
theorem iG (h : b ≤ a) : intLt a b = false := by rw [← Bool.not_eq_true, intLt_iff]; omega
theorem cmp_of {op : BinOp} {v : V} (ho : o.op = .binOp op t x y z) (hx : evalO e x = some (.int k a)) (hy : evalO e y = some (.int k b)) (hv : binV p op t x y (.int k a) (.int k b) = some v) : NV p e o v := nv_bin ho hx hy hv
theorem nv_eqlT (ho : o.op = .binOp .eql t x y z) (hx : evalO e x = some (.int k a)) (hy : evalO e y = some (.int k b)) (h : a = b) : NV p e o (.bool true) := cmp_of ho hx hy (by simp [binV, intOp, kE, iE h])
theorem nv_eqlF (ho : o.op = .binOp .eql t x y z) (hx : evalO e x = some (.int k a)) (hy : evalO e y = some (.int k b)) (h : a ≠ b) : NV p e o (.bool false) := cmp_of ho hx hy (by simp [binV, intOp, kE, iN h])
theorem nv_neqT (ho : o.op = .binOp .neq t x y z) (hx : evalO e x = some (.int k a)) (hy : evalO e y = some (.int k b)) (h : a ≠ b) : NV p e o (.bool true) := cmp_of ho hx hy (by simp [binV, intOp, kE, iN h])
theorem nv_neqF (ho : o.op = .binOp .neq t x y z) (hx : evalO e x = some (.int k a)) (hy : evalO e y = some (.int k b)) (h : a = b) : NV p e o (.bool false) := cmp_of ho hx hy (by simp [binV, intOp, kE, iE h])
theorem nv_lssT (ho : o.op = .binOp .lss t x y z) (hx : evalO e x = some (.int k a)) (hy : evalO e y = some (.int k b)) (h : a < b) : NV p e o (.bool true) := cmp_of ho hx hy (by simp [binV, intOp, kE, iL h])
theorem nv_lssF (ho : o.op = .binOp .lss t x y z) (hx : evalO e x = some (.int k a)) (hy : evalO e y = some (.int k b)) (h : b ≤ a) : NV p e o (.bool false) := cmp_of ho hx hy (by simp [binV, intOp, kE, iG h])
theorem nv_leqT (ho : o.op = .binOp .leq t x y z) (hx : evalO e x = some (.int k a)) (hy : evalO e y = some (.int k b)) (h : a ≤ b) : NV p e o (.bool true) := cmp_of ho hx hy (by simp [binV, intOp, kE, iG h])
theorem nv_leqF (ho : o.op = .binOp .leq t x y z) (hx : evalO e x = some (.int k a)) (hy : evalO e y = some (.int k b)) (h : b < a) : NV p e o (.bool false) := cmp_of ho hx hy (by simp [binV, intOp, kE, iL h])
theorem nv_gtrT (ho : o.op = .binOp .gtr t x y z) (hx : evalO e x = some (.int k a)) (hy : evalO e y = some (.int k b)) (h : b < a) : NV p e o (.bool true) := cmp_of ho hx hy (by simp [binV, intOp, kE, iL h])
theorem nv_gtrF (ho : o.op = .binOp .gtr t x y z) (hx : evalO e x = some (.int k a)) (hy : evalO e y = some (.int k b)) (h : a ≤ b) : NV p e o (.bool false) := cmp_of ho hx hy (by simp [binV, intOp, kE, iG h])
theorem nv_geqT (ho : o.op = .binOp .geq t x y z) (hx : evalO e x = some (.int k a)) (hy : evalO e y = some (.int k b)) (h : b ≤ a) : NV p e o (.bool true) := cmp_of ho hx hy (by simp [binV, intOp, kE, iG h])
theorem nv_geqF (ho : o.op = .binOp .geq t x y z) (hx : evalO e x = some (.int k a)) (hy : evalO e y = some (.int k b)) (h : a < b) : NV p e o (.bool false) := cmp_of ho hx hy (by simp [binV, intOp, kE, iL h])
theorem wrap_in {c : Int} (h1 : -9223372036854775808 ≤ c) (h2 : c < 9223372036854775808) : wrapI .i64 c = c := by
  rw [wrapI_eq]
  show (if (true && decide (c % (18446744073709551616 : Int) ≥ 9223372036854775808)) = true then c % 18446744073709551616 - 18446744073709551616 else c % 18446744073709551616) = c
  simp only [Bool.true_and, decide_eq_true_eq]
  split <;> omega
theorem nv_add {c : Int} (ho : o.op = .binOp .add t x y z) (hx : evalO e x = some (.int .i64 a)) (hy : evalO e y = some (.int .i64 b)) (hc : a + b = c) (h1 : -9223372036854775808 ≤ c) (h2 : c < 9223372036854775808) : NV p e o (.int .i64 c) := cmp_of ho hx hy (by
  subst hc
  have : binV p .add t x y (.int .i64 a) (.int .i64 b) = some (.int .i64 (wrapI .i64 (intAdd a b))) := rfl
  rw [this, intAdd_eq, wrap_in h1 h2])
theorem nv_sub {c : Int} (ho : o.op = .binOp .sub t x y z) (hx : evalO e x = some (.int .i64 a)) (hy : evalO e y = some (.int .i64 b)) (hc : a - b = c) (h1 : -9223372036854775808 ≤ c) (h2 : c < 9223372036854775808) : NV p e o (.int .i64 c) := cmp_of ho hx hy (by
  subst hc
  have : binV p .sub t x y (.int .i64 a) (.int .i64 b) = some (.int .i64 (wrapI .i64 (intSub a b))) := rfl
  rw [this, intSub_eq, wrap_in h1 h2])
variable {s u : ByteArray}
theorem nv_seqlT (ho : o.op = .binOp .eql t x y z) (hx : evalO e x = some (vs s)) (hy : evalO e y = some (vs u)) (h : s = u) : NV p e o (.bool true) := nv_bin ho hx hy (by
  show some (V.bool (strEq s.size (bytesOf s) u.size (bytesOf u))) = _; rw [strEq_vs]; simp [h])
theorem nv_seqlF (ho : o.op = .binOp .eql t x y z) (hx : evalO e x = some (vs s)) (hy : evalO e y = some (vs u)) (h : s ≠ u) : NV p e o (.bool false) := nv_bin ho hx hy (by
  show some (V.bool (strEq s.size (bytesOf s) u.size (bytesOf u))) = _; rw [strEq_vs]; simp [h])
theorem nv_sneqT (ho : o.op = .binOp .neq t x y z) (hx : evalO e x = some (vs s)) (hy : evalO e y = some (vs u)) (h : s ≠ u) : NV p e o (.bool true) := nv_bin ho hx hy (by
  show some (V.bool (!strEq s.size (bytesOf s) u.size (bytesOf u))) = _; rw [strEq_vs]; simp [h])
theorem nv_sneqF (ho : o.op = .binOp .neq t x y z) (hx : evalO e x = some (vs s)) (hy : evalO e y = some (vs u)) (h : s = u) : NV p e o (.bool false) := nv_bin ho hx hy (by
  show some (V.bool (!strEq s.size (bytesOf s) u.size (bytesOf u))) = _; rw [strEq_vs]; simp [h])
variable {t' : TypeId} {v : V} {g i : Nat}
theorem nv_neqI [h : IfT p t] (ho : o.op = .binOp .neq t x y z) (hx : evalO e x = some (.iface t' v)) (hy : evalO e y = some .nili) : NV p e o (.bool true) := nv_bin ho hx hy neq_iface
theorem nv_neqN [h : IfT p t] (ho : o.op = .binOp .neq t x y z) (hx : evalO e x = some .nili) (hy : evalO e y = some .nili) (hc : isConst y = true) : NV p e o (.bool false) := nv_bin ho hx hy (neq_nili hc)
theorem nv_eqlI [h : IfT p t] (ho : o.op = .binOp .eql t x y z) (hx : evalO e x = some (.iface t' v)) (hy : evalO e y = some .nili) : NV p e o (.bool false) := nv_bin ho hx hy eql_iface
theorem nv_eqlN [h : IfT p t] (ho : o.op = .binOp .eql t x y z) (hx : evalO e x = some .nili) (hy : evalO e y = some .nili) (hc : isConst y = true) : NV p e o (.bool true) := nv_bin ho hx hy (eql_nili hc)
theorem nv_neqP [h : PtT p t] (ho : o.op = .binOp .neq t x y z) (hx : evalO e x = some (.ptr g i)) (hy : evalO e y = some .nilp) : NV p e o (.bool true) := nv_bin ho hx hy neq_ptr
theorem nv_neqQ [h : PtT p t] (ho : o.op = .binOp .neq t x y z) (hx : evalO e x = some .nilp) (hy : evalO e y = some .nilp) : NV p e o (.bool false) := nv_bin ho hx hy neq_nilp
theorem nv_eqlP [h : PtT p t] (ho : o.op = .binOp .eql t x y z) (hx : evalO e x = some (.ptr g i)) (hy : evalO e y = some .nilp) : NV p e o (.bool false) := nv_bin ho hx hy eql_ptr
theorem nv_eqlQ [h : PtT p t] (ho : o.op = .binOp .eql t x y z) (hx : evalO e x = some .nilp) (hy : evalO e y = some .nilp) : NV p e o (.bool true) := nv_bin ho hx hy eql_nilp
theorem nv_not {c : Bool} (ho : o.op = .unOp .not t x) (hx : evalO e x = some (.bool c)) : NV p e o (.bool (!c)) := nv_un ho hx rfl
theorem nv_lenS [h : SlT p t i g] {az : Array Operand} {q : Operand} {bb off n c sz : Nat} (ho : o.op = .call ⟨.builtin .len, az, #[t]⟩) (ha : az.toList = [q]) (hx : evalO e q = some (.sl bb off n c sz)) : NV p e o (.int .i64 ((n : Nat) : Int)) := nv_len ho ha hx len_sl
theorem nv_lenN [h : SlT p t i g] {az : Array Operand} {q : Operand} (ho : o.op = .call ⟨.builtin .len, az, #[t]⟩) (ha : az.toList = [q]) (hx : evalO e q = some .nils) : NV p e o (.int .i64 0) := nv_len ho ha hx len_nil
theorem nv_lenT [h : StT p t] {az : Array Operand} {q : Operand} (ho : o.op = .call ⟨.builtin .len, az, #[t]⟩) (ha : az.toList = [q]) (hx : evalO e q = some (vs s)) : NV p e o (.int .i64 ((s.size : Nat) : Int)) := nv_len ho ha hx len_str
variable {d : Tmp} {bk el n : Nat} {cs : List V}
theorem wo_store [ht : SzT p t n] (hw : wantedV ops e o = some true) (ho : o.op = .store t x y) (hx : evalO e x = some (.ptr bk i)) (hy : evalO e y = some v) (hob : Blok m bk el cs) (hn : v.cells.length = n) (h1 : oneL v.cells = true) (hl : i + v.cells.length ≤ cs.length) (hd : o.dst = none)
    (K : ∀ m1, Blok m1 bk el (putAt cs i v.cells) → Fr (fun q => q = bk) m m1 → m1.next = m.next → Wo p xb ext nt ops r e m1 Q) : Wo p xb ext nt ops (o :: r) e m Q := by
  obtain ⟨m1, hw1, ho1, hf1, hn1⟩ := hob.write hl h1
  exact wo_m0 hw (mv_store ho hx hy hn hw1) hd (K m1 ho1 hf1 hn1)
theorem wo_alloc {zv : V} [ht : ZeT p t zv] (hw : wantedV ops e o = some true) (ho : o.op = .alloc t) (hd : o.dst = some d) (hn : Nat.blt d nt = true)
    (K : ∀ g m1, Blok m1 g t zv.cells → Fr (fun _ => False) m m1 → m.next ≤ g → Wo p xb ext nt ops r (e.set d (.ptr g 0)) m1 Q) : Wo p xb ext nt ops (o :: r) e m Q := by
  obtain ⟨h1, h2, h3⟩ := Blok.new m t zv.cells
  exact wo_m hw (mv_alloc ho) hd hn (K _ _ h1 h2 (Nat.le_refl _))
theorem wo_box (hw : wantedV ops e o = some true) (ho : o.op = .box t x) (hx : evalO e x = some v) (hd : o.dst = some d) (hn : Nat.blt d nt = true)
    (K : ∀ g m1, Blok m1 g t v.cells → Fr (fun _ => False) m m1 → m.next ≤ g → Wo p xb ext nt ops r (e.set d (.ptr g 0)) m1 Q) : Wo p xb ext nt ops (o :: r) e m Q := by
  obtain ⟨h1, h2, h3⟩ := Blok.new m t v.cells
  exact wo_m hw (mv_box ho hx) hd hn (K _ _ h1 h2 (Nat.le_refl _))
theorem wo_bslice {sz nn : Nat} {zv : V} {ps : Array (Nat × Operand)} {ws : List (Nat × V)} [h : BsT p t el sz zv] (hw : wantedV ops e o = some true) (ho : o.op = .buildSlice t nn ps) (hx : evalParts e ps.toList = some ws) (hb : buildParts (fun i => some (i * sz, sz)) ws (repL zv.cells nn) = some cs) (hl : cs.length = nn * sz) (hs : nn * sz ≤ 2 ^ 24) (hd : o.dst = some d) (hn : Nat.blt d nt = true)
    (K : ∀ g m1, Blok m1 g el cs → Fr (fun _ => False) m m1 → m.next ≤ g → Wo p xb ext nt ops r (e.set d (.sl g 0 nn nn sz)) m1 Q) : Wo p xb ext nt ops (o :: r) e m Q := by
  obtain ⟨h1, h2, h3⟩ := Blok.new m el cs
  exact wo_m hw (mv_bslice ho hx hb hl hs) hd hn (K _ _ h1 h2 (Nat.le_refl _))
end
end Go.Ev
namespace Go.Ev
theorem ELe.nil (e : Env) : ELe .nil e := fun t v h => by cases h
theorem ELe.cons {e0 e : Env} {d : Nat} {v : V} (hv : e.get d = some v) (h : ELe e0 e) : ELe (e0.set d v) e := fun t u hu => by
  rw [T.get_set] at hu
  split at hu
  · rename_i h; subst h; cases hu; exact hv
  · exact h t u hu
end Go.Ev

namespace Go.Ev
open Go
set_option linter.unusedVariables false
set_option linter.unusedSimpArgs false
section
variable (p : Program) (xb : XB) (ext : CallF) (nt : Nat) (ops : Array Oper) (bf : List Nat)
def Wd (l : List Nat) (e : Env) (m : Mem) (s : Seen) (f : Rows') (Q : Env → Mem → Prop) : Prop :=
  ∀ e2, ELe e e2 → ∃ n e' e2' m', (∀ k, n ≤ k → drawV p xb (funV p xb ext k) nt ops bf l e2 m s f = some (e2', m')) ∧ ELe e' e2' ∧ Q e' m'
end
section
variable {p : Program} {xb : XB} {ext : CallF} {nt : Nat} {ops : Array Oper} {bf : List Nat} {e : Env} {m : Mem} {s : Seen} {f : Rows'} {i : Nat} {o : Oper} {r : List Nat} {Q : Env → Mem → Prop}
theorem wc_draw {c : Nat} {Q : X → Env → Mem → Prop} (hd : drawOk ops = true) (h : Wd p xb ext nt ops (beforesFrom ops.toList []) (orderOf ops) e m [] [] fun e m => Q .normal e m) : Wc p xb ext nt (.region c ops true) e m Q := fun e2 he => by
  obtain ⟨n, e', e2', m', h1, h2, h3⟩ := h e2 he
  exact ⟨n, .normal, e', e2', m', fun k hk => by simp only [codeV, cond_true, hd]; rw [h1 k hk], h2, h3⟩
theorem wd_cast {l l' : List Nat} {bf' : List Nat} (hl : l = l') (hb : bf = bf') (h : Wd p xb ext nt ops bf' l' e m s f Q) : Wd p xb ext nt ops bf l e m s f Q := by subst hl hb; exact h
theorem wd_nil (h : Q e m) : Wd p xb ext nt ops bf [] e m s f Q := fun e2 he => ⟨0, e, e2, m, fun k _ => rfl, he, h⟩
theorem wd_n {v : V} {d : Tmp} (ho : ops[i]? = some o) (hc : classOf o = .quiet) (hw : wantedV ops e o = some true) (hv : NV p e o v) (hd : o.dst = some d) (hn : Nat.blt d nt = true)
    (h : Wd p xb ext nt ops bf r (e.set d v) m s f Q) : Wd p xb ext nt ops bf (i :: r) e m s f Q := fun e2 he => by
  obtain ⟨n2, e', e2', m2, g1, g2, g3⟩ := h _ (he.set d v)
  refine ⟨n2, e', e2', m2, fun k hk => ?_, g2, g3⟩
  unfold drawV
  rw [ho]; dsimp only
  rw [Wt.of hw e2 he]; dsimp only
  rw [hc]; dsimp only
  rw [hv e2 he]; dsimp only
  unfold setO
  rw [hd]; dsimp only
  rw [hn]
  exact g1 k hk
theorem wd_load {t : TypeId} {x : Operand} {b j : Nat} {v : V} {d : Tmp} [ht : ScT p t] (ho : ops[i]? = some o) (hw : wantedV ops e o = some true) (hop : o.op = .load t x) (hx : evalO e x = some (.ptr b j)) (hl : m.cell b j = some v) (hd : o.dst = some d) (hn : Nat.blt d nt = true)
    (h : Wd p xb ext nt ops bf r (e.set d v) m ((i, t, .ptr b j, v) :: s) f Q) : Wd p xb ext nt ops bf (i :: r) e m s f Q := fun e2 he => by
  obtain ⟨n2, e', e2', m2, g1, g2, g3⟩ := h _ (he.set d v)
  refine ⟨n2, e', e2', m2, fun k hk => ?_, g2, g3⟩
  obtain ⟨ds, h1, h2⟩ := scB_spec ht.eq
  have hc : classOf o = .load := by unfold classOf; rw [hop]
  have hld : loadV p m t (.ptr b j) = some v := by unfold loadV; rw [h1, h2]; simp only [cond_false, hl]
  unfold drawV
  rw [ho]; dsimp only
  rw [Wt.of hw e2 he]; dsimp only
  rw [hc]; dsimp only
  rw [hop]; dsimp only
  rw [he.evalO hx]; dsimp only
  rw [hld]; dsimp only
  unfold setO
  rw [hd]; dsimp only
  rw [hn]
  exact g1 k hk
theorem wd_loadA {t : TypeId} {x : Operand} {b j n : Nat} {vs : List V} {d : Tmp} [ht : AgT p t n] (ho : ops[i]? = some o) (hw : wantedV ops e o = some true) (hop : o.op = .load t x) (hx : evalO e x = some (.ptr b j)) (hl : m.row b j n = some vs) (hd : o.dst = some d) (hn : Nat.blt d nt = true)
    (h : Wd p xb ext nt ops bf r (e.set d (.agg vs)) m ((i, t, .ptr b j, .agg vs) :: s) f Q) : Wd p xb ext nt ops bf (i :: r) e m s f Q := fun e2 he => by
  obtain ⟨n2, e', e2', m2, g1, g2, g3⟩ := h _ (he.set d (.agg vs))
  refine ⟨n2, e', e2', m2, fun k hk => ?_, g2, g3⟩
  obtain ⟨⟨ds, h1⟩, h2, h3⟩ := agN_spec ht.eq
  have hc : classOf o = .load := by unfold classOf; rw [hop]
  have hld : loadV p m t (.ptr b j) = some (.agg vs) := by unfold loadV; rw [h1, h2, h3]; simp only [cond_true, hl]
  unfold drawV
  rw [ho]; dsimp only
  rw [Wt.of hw e2 he]; dsimp only
  rw [hc]; dsimp only
  rw [hop]; dsimp only
  rw [he.evalO hx]; dsimp only
  rw [hld]; dsimp only
  unfold setO
  rw [hd]; dsimp only
  rw [hn]
  exact g1 k hk
theorem wd_deed {v : V} {m' : Mem} {d : Tmp} (ho : ops[i]? = some o) (hc : classOf o = .deed) (hs : ∀ e2, ELe e e2 → ∃ n, ∀ k, n ≤ k → stepV p xb (funV p xb ext k) ops o e2 m = some (v, m')) (hle : m.next ≤ m'.next)
    (hw : wantedV ops e o = some true) (h1 : seenOn (bf.getD i 0) s = []) (h2 : seenOn (bf.getD i 0) f = []) (hd : o.dst = some d) (hn : Nat.blt d nt = true)
    (h : Wd p xb ext nt ops bf r (e.set d v) m' [] [] Q) : Wd p xb ext nt ops bf (i :: r) e m s f Q := fun e2 he => by
  obtain ⟨n, h0⟩ := hs e2 he
  obtain ⟨n2, e', e2', m2, g1, g2, g3⟩ := h _ (he.set d v)
  refine ⟨max n n2, e', e2', m2, fun k hk => ?_, g2, g3⟩
  unfold drawV
  rw [ho]; dsimp only
  rw [Wt.of hw e2 he]; dsimp only
  rw [hc]; dsimp only
  rw [h0 k (by omega)]; dsimp only
  rw [h1, h2]
  simp only [seenOk, rowsOk, Bool.true_and, show Nat.ble m.next m'.next = true by rw [Nat.ble_eq]; exact hle, cond_true]
  unfold setO
  rw [hd]; dsimp only
  rw [hn]
  exact g1 k (by omega)
theorem wd_deed0 {v : V} {m' : Mem} (ho : ops[i]? = some o) (hc : classOf o = .deed) (hs : ∀ e2, ELe e e2 → ∃ n, ∀ k, n ≤ k → stepV p xb (funV p xb ext k) ops o e2 m = some (v, m')) (hle : m.next ≤ m'.next)
    (hw : wantedV ops e o = some true) (h1 : seenOn (bf.getD i 0) s = []) (h2 : seenOn (bf.getD i 0) f = []) (hd : o.dst = none)
    (h : Wd p xb ext nt ops bf r e m' [] [] Q) : Wd p xb ext nt ops bf (i :: r) e m s f Q := fun e2 he => by
  obtain ⟨n, h0⟩ := hs e2 he
  obtain ⟨n2, e', e2', m2, g1, g2, g3⟩ := h _ he
  refine ⟨max n n2, e', e2', m2, fun k hk => ?_, g2, g3⟩
  unfold drawV
  rw [ho]; dsimp only
  rw [Wt.of hw e2 he]; dsimp only
  rw [hc]; dsimp only
  rw [h0 k (by omega)]; dsimp only
  rw [h1, h2]
  simp only [seenOk, rowsOk, Bool.true_and, show Nat.ble m.next m'.next = true by rw [Nat.ble_eq]; exact hle, cond_true]
  unfold setO
  rw [hd]
  exact g1 k (by omega)
theorem wd_fresh {v : V} {m' : Mem} {k' : CB} {d : Tmp} (hN : New m) (ho : ops[i]? = some o) (hc : classOf o = .fresh) (hw : wantedV ops e o = some true) (hv : ∀ e2, ELe e e2 → memV p xb e2 m o = .val v m') (hb : m'.blks.get m.next = some (.cells k')) (hd : o.dst = some d) (hn : Nat.blt d nt = true)
    (h : Wd p xb ext nt ops bf r (e.set d v) m' s ((i, m.next, k') :: f) Q) : Wd p xb ext nt ops bf (i :: r) e m s f Q := fun e2 he => by
  obtain ⟨n2, e', e2', m2, g1, g2, g3⟩ := h _ (he.set d v)
  refine ⟨n2, e', e2', m2, fun k hk => ?_, g2, g3⟩
  unfold drawV
  rw [ho]; dsimp only
  rw [Wt.of hw e2 he]; dsimp only
  rw [hc]; dsimp only
  rw [hv e2 he]; dsimp only
  unfold setO
  rw [hd]; dsimp only
  rw [hn, cond_true, hb, hN m.next (Nat.le_refl _)]
  exact g1 k hk
end
inductive RowR (m : Mem) (own : Nat → Prop) (el sz : Nat) : V → List V → Nat → Prop
  | nil : RowR m own el sz .nils [] 0
  | sl (q n : Nat) (cs : List V) (h : Grow m own q el cs) (hn : cs.length = n * sz) : RowR m own el sz (.sl q 0 n n sz) cs n
theorem RowR.fr {S own : Nat → Prop} {m m1 : Mem} {el sz n : Nat} {v : V} {cs : List V} (h : RowR m own el sz v cs n) (f : Fr S m m1) (hs : ∀ x, x < m.next → own x → ¬ S x) : RowR m1 own el sz v cs n := by
  cases h with
  | nil => exact .nil
  | sl q n cs h hn => exact .sl q n cs (h.fr f hs) hn
theorem Grow.mono {m : Mem} {own own' : Nat → Prop} {q el : Nat} {cs : List V} (h : Grow m own q el cs) (hs : ∀ x, own x → own' x) : Grow m own' q el cs := by
  obtain ⟨f, tot, c, post, h1, h2, h3, h4, h5, h6⟩ := h.blk
  exact ⟨⟨f, tot, c, post, h1, h2, h3, fun x hx => ⟨(h4 x hx).1, hs _ (h4 x hx).2.1, (h4 x hx).2.2⟩, hs _ h5, h6⟩, hs _ h.own, h.lt⟩
section
variable {p : Program} {xb : XB} {ext : CallF} {nt : Nat} {ops : Array Oper} {e : Env} {m : Mem} {o : Oper}
theorem RowR.append {own : Nat → Prop} {t0 t1 el sz n len : Nat} {s : V} {cs xs : List V} [h : ApT p t0 t1 el sz] (hr : RowR m own el sz s cs n) (hx : xs.length = len * sz) (hj : 0 < len) (ho : oneL xs = true) (hb : n + len ≤ 16777216) :
    ∃ g m1, appendTo p m el s len xs = some (.sl g 0 (n + len) (n + len) sz, m1) ∧ RowR m1 (fun x => own x ∨ x = g) el sz (.sl g 0 (n + len) (n + len) sz) (cs ++ xs) (n + len) ∧ Fr own m m1 ∧ m.next ≤ g ∧ g < m1.next := by
  have hsz : sz = p.cellsOf el := by
    have h9 := h.eq
    unfold apN at h9
    split at h9
    case h_2 => cases h9
    split at h9
    · cases h9
    · simp only [bif_some, Option.some.injEq, Prod.mk.injEq] at h9
      obtain ⟨_, rfl, h9⟩ := h9
      exact h9.symm
  cases hr with
  | nil =>
    obtain ⟨g1, g2, g3⟩ := Grow.first m el xs
    refine ⟨m.next, (m.newU el xs xs.length).2, ?_, ?_, g2.mono (fun _ _ h => h.elim), Nat.le_refl _, by omega⟩
    · unfold appendTo
      dsimp only
      simp only [ho, show Nat.ble len (2 ^ 24) = true by rw [Nat.ble_eq]; omega, Bool.and_self, cond_true]
      rw [← hsz, ← hx]
      simp [Mem.newU, Mem.new]
    · rw [List.nil_append, Nat.zero_add]
      exact .sl _ _ _ (g1.mono fun x h => .inr h) hx
  | sl q _ _ hg hn =>
    obtain ⟨m1, h1, h2, h3, h4⟩ := hg.append hn hx hj ho
    refine ⟨m.next, m1, ?_, .sl _ _ _ h2 (by rw [List.length_append, hn, hx, Nat.add_mul]), h3, Nat.le_refl _, by omega⟩
    unfold appendTo
    dsimp only
    rw [← hsz]
    simp only [show Nat.beq sz sz = true from Nat.beq_refl _, show Nat.ble (n + len) (2 ^ 24) = true by rw [Nat.ble_eq]; omega, Bool.and_self, cond_true, h1]
variable {t : TypeId} {x y : Operand} {v : V} {d : Tmp} {bk el n i : Nat} {cs : List V}
theorem wo_append {r : List Oper} {Q : Env → Mem → Prop} {own : Nat → Prop} {t0 t1 el sz n len b off cap sz' : Nat} {az : Array Operand} {s : V} {cs xs : List V} [h : ApT p t0 t1 el sz] (hw : wantedV ops e o = some true) (ho : o.op = .call ⟨.builtin .append, az, #[t0, t1]⟩) (ha : evalL e az.toList = some [s, .sl b off len cap sz'])
    (hrow : m.row b off (len * sz) = some xs) (hx : xs.length = len * sz) (hj : 0 < len) (h1 : oneL xs = true) (hr : RowR m own el sz s cs n) (hb : n + len ≤ 16777216) (hd : o.dst = some d) (hn : Nat.blt d nt = true)
    (K : ∀ g m1, RowR m1 (fun x => own x ∨ x = g) el sz (.sl g 0 (n + len) (n + len) sz) (cs ++ xs) (n + len) → Fr own m m1 → m.next ≤ g → g < m1.next → Wo p xb ext nt ops r (e.set d (.sl g 0 (n + len) (n + len) sz)) m1 Q) : Wo p xb ext nt ops (o :: r) e m Q := by
  obtain ⟨g, m1, e1, e2, e3, e4, e5⟩ := hr.append (h := h) hx hj h1 hb
  exact wo_m hw (mv_append ho ha hrow hj hx e1) hd hn (K g m1 e2 e3 e4 e5)
variable {bf : List Nat} {s : Seen} {f : Rows'} {j : Nat} {r : List Nat} {Q : Env → Mem → Prop}
theorem wd_append {own : Nat → Prop} {t0 t1 el sz n len b off cap sz' : Nat} {az : Array Operand} {s' : V} {cs xs : List V} [h : ApT p t0 t1 el sz] (hi : ops[j]? = some o) (hw : wantedV ops e o = some true) (ho : o.op = .call ⟨.builtin .append, az, #[t0, t1]⟩) (ha : evalL e az.toList = some [s', .sl b off len cap sz'])
    (hrow : m.row b off (len * sz) = some xs) (hx : xs.length = len * sz) (hj : 0 < len) (h1 : oneL xs = true) (hr : RowR m own el sz s' cs n) (hb : n + len ≤ 16777216) (g1 : seenOn (bf.getD j 0) s = []) (g2 : seenOn (bf.getD j 0) f = []) (hd : o.dst = some d) (hn : Nat.blt d nt = true)
    (K : ∀ g m1, RowR m1 (fun x => own x ∨ x = g) el sz (.sl g 0 (n + len) (n + len) sz) (cs ++ xs) (n + len) → Fr own m m1 → m.next ≤ g → g < m1.next → Wd p xb ext nt ops bf r (e.set d (.sl g 0 (n + len) (n + len) sz)) m1 [] [] Q) : Wd p xb ext nt ops bf (j :: r) e m s f Q := by
  obtain ⟨g, m1, e1, e2, e3, e4, e5⟩ := hr.append (h := h) hx hj h1 hb
  refine wd_deed hi ?_ (mv_step hw (mv_append ho ha hrow hj hx e1)) (by omega) hw g1 g2 hd hn (K g m1 e2 e3 e4 e5)
  unfold classOf; rw [ho]
theorem wd_store [ht : SzT p t n] (hi : ops[j]? = some o) (hw : wantedV ops e o = some true) (ho : o.op = .store t x y) (hx : evalO e x = some (.ptr bk i)) (hy : evalO e y = some v) (hob : Blok m bk el cs) (hn : v.cells.length = n) (h1 : oneL v.cells = true) (hl : i + v.cells.length ≤ cs.length) (g1 : seenOn (bf.getD j 0) s = []) (g2 : seenOn (bf.getD j 0) f = []) (hd : o.dst = none)
    (K : ∀ m1, Blok m1 bk el (putAt cs i v.cells) → Fr (fun q => q = bk) m m1 → m1.next = m.next → Wd p xb ext nt ops bf r e m1 [] [] Q) : Wd p xb ext nt ops bf (j :: r) e m s f Q := by
  obtain ⟨m1, hw1, ho1, hf1, hn1⟩ := hob.write hl h1
  refine wd_deed0 hi ?_ (mv_step hw (mv_store ho hx hy hn hw1)) (by omega) hw g1 g2 hd (K m1 ho1 hf1 hn1)
  unfold classOf; rw [ho]
theorem wd_bslice {sz nn : Nat} {zv : V} {ps : Array (Nat × Operand)} {ws : List (Nat × V)} [h : BsT p t el sz zv] (hN : New m) (hi : ops[j]? = some o) (hw : wantedV ops e o = some true) (ho : o.op = .buildSlice t nn ps) (hx : evalParts e ps.toList = some ws) (hb : buildParts (fun i => some (i * sz, sz)) ws (repL zv.cells nn) = some cs) (hl : cs.length = nn * sz) (hs : nn * sz ≤ 2 ^ 24) (hd : o.dst = some d) (hn : Nat.blt d nt = true)
    (K : ∀ g m1 k, Blok m1 g el cs → Fr (fun _ => False) m m1 → m.next ≤ g → Wd p xb ext nt ops bf r (e.set d (.sl g 0 nn nn sz)) m1 s ((j, g, k) :: f) Q) : Wd p xb ext nt ops bf (j :: r) e m s f Q := by
  obtain ⟨h1, h2, h3⟩ := Blok.new m el cs
  have hv := mv_bslice (m := m) (xb := xb) (h := h) ho hx hb hl hs
  refine wd_fresh (k' := ⟨m.next, cs.length, 0, el, cs.length, false, true, putL .nil 0 cs⟩) hN hi ?_ hw (fun e2 he => ?_) ?_ hd hn (K _ _ _ h1 h2 (Nat.le_refl _))
  · unfold classOf; rw [ho]
  · rcases (hv e2 he).2 with h | ⟨h, _⟩
    · exact h
    · cases h
  · simp [Mem.newL, Mem.new, T.get_set]
end
theorem nv_lenR {p : Program} {e : Env} {m : Mem} {o : Oper} {t i g el sz n : Nat} {own : Nat → Prop} {v : V} {cs : List V} {az : Array Operand} {q : Operand} [h : SlT p t i g] (hr : RowR m own el sz v cs n) (ho : o.op = .call ⟨.builtin .len, az, #[t]⟩) (ha : az.toList = [q]) (hx : evalO e q = some v) : NV p e o (.int .i64 ((n : Nat) : Int)) := by
  cases hr with
  | nil => exact nv_lenN ho ha hx
  | sl q n cs h hn => exact nv_lenS ho ha hx
section
variable {p : Program} {xb : XB} {ext : CallF} {m : Mem} {f : Nat} {args : List V}
theorem ev_val {u : V} (h : ∃ v m', Ev p xb ext f args m v m' ∧ (m' = m ∧ v = u)) : Ev p xb ext f args m u m := by
  obtain ⟨v, m', h1, rfl, rfl⟩ := h
  exact h1
theorem ev_to {u : V} {R : Mem → Prop} (h : ∃ v m', Ev p xb ext f args m v m' ∧ (v = u ∧ R m')) : ∃ m', Ev p xb ext f args m u m' ∧ R m' := by
  obtain ⟨v, m', h1, rfl, h2⟩ := h
  exact ⟨m', h1, h2⟩
end
theorem bbeq {s t : ByteArray} : (s == t) = decide (s = t) := by rw [← strEq_beq, strEq_vs]
end Go.Ev

namespace Go.Ev
open Go
set_option linter.unusedVariables false
set_option linter.unusedSimpArgs false
theorem ev_ext {p : Program} {xb : XB} {ext : CallF} {f : FuncId} {args : List V} {m m' : Mem} {v : V} (h : ext f args m = some (v, m')) : Ev p xb ext f args m v m' := ⟨1, fun k hk => by
  obtain ⟨k, rfl⟩ : ∃ j, k = j + 1 := ⟨k - 1, by omega⟩
  unfold funV
  rw [h]⟩
noncomputable def envL : List (Nat × V) → Env
  | [] => .nil
  | (t, v) :: r => (envL r).set t v
section
variable {p : Program} {xb : XB} {ext : CallF} {nt : Nat} {ops : Array Oper} {e : Env} {m : Mem} {o : Oper} {t z : TypeId} {x y : Operand} {s u : ByteArray}
theorem nv_sadd (ho : o.op = .binOp .add t x y z) (hx : evalO e x = some (vs s)) (hy : evalO e y = some (vs u)) (h : s.size + u.size ≤ 9223372036854775807) : NV p e o (vs (s ++ u)) := nv_bin ho hx hy (by
  show (bif Nat.ble (s.size + u.size) 9223372036854775807 then some (V.str (s.size + u.size) (bytesOf s + (bytesOf u <<< (8 * s.size)))) else none) = _
  rw [show Nat.ble (s.size + u.size) 9223372036854775807 = true by rw [Nat.ble_eq]; exact h, cond_true]
  unfold vs
  rw [ByteArray.size_append, bytesOf_append])
end
section
variable {p : Program} {xb : XB} {ext : CallF} {nt : Nat} {ops : Array Oper} {bf : List Nat} {e : Env} {m : Mem} {s : Seen} {f : Rows'} {j : Nat} {o : Oper} {r : List Nat} {Q : Env → Mem → Prop} {v : V} {d : Tmp}
theorem wd_call1 {fn : FuncId} {az : Array Operand} {ts : Array TypeId} {ws : List V} {m' : Mem} {i1 t1 b1 q1 : Nat} {k1 : IntKind} {a1 : Int} [hb : HasB p fn] [ht : ScT p t1] (hi : ops[j]? = some o) (hw : wantedV ops e o = some true) (ho : o.op = .call ⟨.value (.func fn), az, ts⟩) (ha : evalL e az.toList = some ws)
    (hc : Ev p xb ext fn ws m v m') (hle : m.next ≤ m'.next) (hl : m'.cell b1 q1 = some (.int k1 a1)) (g1 : seenOn (bf.getD j 0) s = [(i1, t1, .ptr b1 q1, .int k1 a1)]) (g2 : seenOn (bf.getD j 0) f = []) (hd : o.dst = some d) (hn : Nat.blt d nt = true) (h : Wd p xb ext nt ops bf r (e.set d v) m' [(i1, t1, .ptr b1 q1, .int k1 a1)] [] Q) : Wd p xb ext nt ops bf (j :: r) e m s f Q := fun e2 he => by
  obtain ⟨n, h0⟩ := call_step hw ho ha hc e2 he
  obtain ⟨n2, e', e2', m2, u1, u2, u3⟩ := h _ (he.set d v)
  refine ⟨max n n2, e', e2', m2, fun k hk => ?_, u2, u3⟩
  obtain ⟨ds, h1, h2⟩ := scB_spec ht.eq
  have hc : classOf o = .deed := by unfold classOf; rw [ho]
  have hld : loadV p m' t1 (.ptr b1 q1) = some (.int k1 a1) := by unfold loadV; rw [h1, h2]; simp only [cond_false]; exact hl
  unfold drawV
  rw [hi]; dsimp only
  rw [Wt.of hw e2 he]; dsimp only
  rw [hc]; dsimp only
  rw [h0 k (by omega)]; dsimp only
  rw [g1, g2]
  simp only [seenOk, hld, rowsOk, V.beq, kE, iE, Bool.and_true, Bool.true_and, show Nat.ble m.next m'.next = true by rw [Nat.ble_eq]; exact hle, cond_true]
  unfold setO
  rw [hd]; dsimp only
  rw [hn]
  exact u1 k (by omega)
end
theorem txt_size (l : List UInt8) : (txt l).size = l.length := by simp [txt, ByteArray.size]
end Go.Ev

namespace Go.Ev
open Go
set_option linter.unusedVariables false
set_option linter.unusedSimpArgs false
theorem txt_nats (l : List UInt8) : natsOf (txt l) = l.map (·.toNat) := rfl
theorem txt_len (l : List UInt8) : (txt l).size = l.length := rfl
theorem txt_inj {a b : List UInt8} (h : txt a = txt b) : a = b := by
  have := congrArg (fun s : ByteArray => s.data.toList) h
  exact this
theorem txt_append (a b : List UInt8) : txt a ++ txt b = txt (a ++ b) := by
  apply natsOf_inj
  have : ∀ s : ByteArray, natsOf s = s.data.toList.map (·.toNat) := fun _ => rfl
  rw [this, this]
  simp [txt]
theorem bytes_drop (l : List UInt8) (n : Nat) (h : n ≤ l.length) : vs (txt (l.drop n)) = .str (l.length - n) (sub (bytesOf (txt l)) n l.length) := by
  have e : txt (l.drop n) = (txt l).extract n l.length := natsOf_inj (by rw [natsOf_extract, txt_nats, txt_nats, List.map_drop, List.take_of_length_le]; simp)
  unfold vs
  rw [← bytesOf_extract, ← e, txt_len, List.length_drop]
theorem bytes_take (l : List UInt8) (n : Nat) (h : n ≤ l.length) : vs (txt (l.take n)) = .str (n - 0) (sub (bytesOf (txt l)) 0 n) := by
  have e : txt (l.take n) = (txt l).extract 0 n := natsOf_inj (by rw [natsOf_extract, txt_nats, txt_nats, List.map_take]; simp)
  unfold vs
  rw [← bytesOf_extract, ← e, txt_len, List.length_take, Nat.min_eq_left h, Nat.sub_zero]
theorem byteAt_txt {l : List UInt8} {n : Nat} {c : UInt8} (h : l[n]? = some c) : byteAt (bytesOf (txt l)) n = c.toNat := by
  have hn : n < l.length := (List.getElem?_eq_some_iff.1 h).1
  have := nat_get (txt l) (i := n) (by rw [txt_len]; exact hn)
  rw [txt_nats, List.getElem?_map, h] at this
  exact (Option.some.inj this).symm
theorem findByte_mem (l : List UInt8) (c : UInt8) : ∀ (n i : Nat), i + n = l.length → (intLt (findByte (bytesOf (txt l)) c.toNat n i) 0 = !decide (c ∈ l.drop i)) := by
  intro n
  induction n with
  | zero =>
    intro i hi
    rw [List.drop_eq_nil_of_le (by omega)]
    rfl
  | succ n ih =>
    intro i hi
    have hlt : i < l.length := by omega
    have hc : l[i]? = some l[i] := List.getElem?_eq_getElem hlt
    simp only [findByte]
    rw [byteAt_txt hc, List.drop_eq_getElem_cons hlt]
    cases hb : Nat.beq l[i].toNat c.toNat with
    | true =>
      rw [Nat.beq_eq] at hb
      have : l[i] = c := UInt8.toNat_inj.1 hb
      simp only [cond_true, this, List.mem_cons, true_or, decide_true, Bool.not_true]
      rw [← Bool.not_eq_true, intLt_iff]
      simp
    | false =>
      have : ¬ c = l[i] := fun e => by rw [e, Nat.beq_refl] at hb; cases hb
      simp only [cond_false, ih (i + 1) (by omega), List.mem_cons, this, false_or]
def cvN (p : Program) (s d : TypeId) : Bool := match p.underlying s, p.underlying d with
  | some _, some (.int .i64) => true
  | _, _ => false
class CvT (p : Program) (s d : Nat) : Prop where
  eq : cvN p s d = true
section
variable {p : Program} {xb : XB} {ext : CallF} {nt : Nat} {ops : Array Oper} {e : Env} {m : Mem} {o : Oper} {t z : TypeId} {x y i : Operand} {l : List UInt8} {n : Nat} {k : IntKind}
theorem nv_ixS [h : StT p t] {c : UInt8} (ho : o.op = .index t x i) (hx : evalO e x = some (vs (txt l))) (hi : evalO e i = some (.int k (n : Nat))) (hc : l[n]? = some c) : NV p e o (.int .u8 (c.toNat : Nat)) := nv_ix ho hx hi (by
  have hn : n < l.length := (List.getElem?_eq_some_iff.1 hc).1
  unfold indexV vs
  rw [isStr_spec h.eq]
  show (bif Nat.blt n (txt l).size then some (V.int .u8 (.ofNat (byteAt (bytesOf (txt l)) n))) else none) = _
  rw [byteAt_txt hc, show Nat.blt n (txt l).size = true by rw [Nat.blt_eq]; exact hn]
  rfl)
theorem nv_slF [h : StT p t] {lo : Operand} (ho : o.op = .slice t x (some lo) none none) (hx : evalO e x = some (vs (txt l))) (hl : evalO e lo = some (.int k (n : Nat))) (hn : n ≤ l.length) : NV p e o (vs (txt (l.drop n))) := nv_slice ho hx (l := some (.int k (n : Nat))) (h' := none) (by unfold opt; dsimp only; rw [hl]) rfl (by
  unfold sliceV vs
  rw [isStr_spec h.eq]
  show (bif Nat.ble n (txt l).size && Nat.ble (txt l).size (txt l).size then some (V.str ((txt l).size - n) (sub (bytesOf (txt l)) n (txt l).size)) else none) = _
  rw [show Nat.ble n (txt l).size = true by rw [Nat.ble_eq]; exact hn, show Nat.ble (txt l).size (txt l).size = true by rw [Nat.ble_eq]; exact Nat.le_refl _]
  have := bytes_drop l n hn
  unfold vs at this
  rw [this]; rfl)
theorem nv_slT [h : StT p t] {hi : Operand} (ho : o.op = .slice t x none (some hi) none) (hx : evalO e x = some (vs (txt l))) (hl : evalO e hi = some (.int k (n : Nat))) (hn : n ≤ l.length) : NV p e o (vs (txt (l.take n))) := nv_slice ho hx (l := none) (h' := some (.int k (n : Nat))) rfl (by unfold opt; dsimp only; rw [hl]) (by
  unfold sliceV vs
  rw [isStr_spec h.eq]
  show (bif Nat.ble 0 n && Nat.ble n (txt l).size then some (V.str (n - 0) (sub (bytesOf (txt l)) 0 n)) else none) = _
  rw [show Nat.ble n (txt l).size = true by rw [Nat.ble_eq]; exact hn]
  have := bytes_take l n hn
  unfold vs at this
  rw [this]; rfl)
theorem nv_lenL [h : StT p t] {az : Array Operand} {a : Operand} (ho : o.op = .call ⟨.builtin .len, az, #[t]⟩) (ha : az.toList = [a]) (hx : evalO e a = some (vs (txt l))) : NV p e o (.int .i64 ((l.length : Nat) : Int)) := nv_len ho ha hx len_str
theorem nv_mul {a b c : Int} (ho : o.op = .binOp .mul t x y z) (hx : evalO e x = some (.int .i64 a)) (hy : evalO e y = some (.int .i64 b)) (hc : a * b = c) (h1 : -9223372036854775808 ≤ c) (h2 : c < 9223372036854775808) : NV p e o (.int .i64 c) := cmp_of ho hx hy (by
  subst hc
  have : binV p .mul t x y (.int .i64 a) (.int .i64 b) = some (.int .i64 (wrapI .i64 (a * b))) := rfl
  rw [this, wrap_in h1 h2])
theorem nv_subB {a b : Nat} (ho : o.op = .binOp .sub t x y z) (hx : evalO e x = some (.int .u8 (a : Nat))) (hy : evalO e y = some (.int .u8 (b : Nat))) (h1 : b ≤ a) (h2 : a < 256) : NV p e o (.int .u8 ((a - b : Nat) : Int)) := cmp_of ho hx hy (by
  have : binV p .sub t x y (.int .u8 a) (.int .u8 b) = some (.int .u8 (wrapI .u8 (intSub a b))) := rfl
  rw [this, intSub_eq, wrapI_eq]
  congr 2
  show ((a : Int) - b) % 256 = _
  omega)
theorem nv_conv64 {a : Int} {s d : TypeId} [hs : CvT p s d] (ho : o.op = .convert s d x) (hx : evalO e x = some (.int k a)) (h1 : -9223372036854775808 ≤ a) (h2 : a < 9223372036854775808) : NV p e o (.int .i64 a) := nv_conv ho hx (by
  have h := hs.eq
  unfold cvN at h
  split at h
  · rename_i u hu hv
    unfold convN
    rw [hu, hv]
    dsimp only
    rw [wrap_in h1 h2]
  · cases h)
end
def noB (p : Program) (f : Nat) : Bool := match p.funcs[f]? with | some fn => fn.body.isNone | none => false
class NoB (p : Program) (f : Nat) : Prop where
  eq : noB p f = true
section
variable {p : Program} {xb : XB} {ext : CallF} {nt : Nat} {ops : Array Oper} {e : Env} {m : Mem} {o : Oper} {r : List Oper} {Q : Env → Mem → Prop}
theorem wo_ext {f : FuncId} {az : Array Operand} {ts : Array TypeId} {vs : List V} {v : V} {m' : Mem} {d : Tmp} [hb : NoB p f] (hw : wantedV ops e o = some true) (ho : o.op = .call ⟨.value (.func f), az, ts⟩) (ha : evalL e az.toList = some vs)
    (hc : xb f vs m = some (v, m')) (hd : o.dst = some d) (hn : Nat.blt d nt = true) (h : Wo p xb ext nt ops r (e.set d v) m' Q) : Wo p xb ext nt ops (o :: r) e m Q := wo_step (fun e2 he => by
  refine ⟨0, fun k hk => ?_⟩
  unfold stepV opV
  rw [Wt.of hw e2 he]
  dsimp only
  unfold nV memV
  rw [ho]
  dsimp only
  unfold callV
  dsimp only
  rw [he.evalL ha]
  dsimp only [evalO, fnV]
  rw [List.nil_append, List.append_nil]
  unfold externV
  have h1 := hb.eq
  unfold noB at h1
  cases hf : p.funcs[f]? with
  | none => rw [hf] at h1; cases h1
  | some fn =>
    rw [hf] at h1
    dsimp only at h1 ⊢
    cases hbd : fn.body with
    | some c => rw [hbd] at h1; cases h1
    | none => dsimp only; rw [hc]; rfl) hd hn h
end
inductive ResL (p : Program) (e : Env) (m : Mem) : List ResultVar → List V → Prop
  | nil : ResL p e m [] []
  | tmp {t : Tmp} {v : V} {rs : List ResultVar} {vs : List V} (h : e.get t = some v) (k : ResL p e m rs vs) : ResL p e m (.tmp t :: rs) (v :: vs)
  | cell {a : Tmp} {t b i n : Nat} {xs : List V} {rs : List ResultVar} {vs : List V} [ht : AgT p t n] (h : e.get a = some (.ptr b i)) (hr : m.row b i n = some xs) (k : ResL p e m rs vs) : ResL p e m (.cell a t :: rs) (.agg xs :: vs)
theorem ResL.eval {p : Program} {e : Env} {m : Mem} {rs : List ResultVar} {vs : List V} (h : ResL p e m rs vs) : ∀ e2, ELe e e2 → resultsL p e2 m rs = some vs := by
  induction h with
  | nil => intro e2 _; rfl
  | tmp h k ih => intro e2 he; simp only [resultsL, resultV]; rw [he _ _ h, ih e2 he]
  | @cell a t b i n xs rs vs ht h hr k ih =>
    intro e2 he
    obtain ⟨⟨ds, h1⟩, h2, h3⟩ := agN_spec ht.eq
    have hld : loadV p m t (.ptr b i) = some (.agg xs) := by unfold loadV; rw [h1, h2, h3]; simp only [cond_true, hr]
    simp only [resultsL, resultV]
    rw [he _ _ h]
    dsimp only
    rw [hld, ih e2 he]
section
variable {p : Program} {fn : Func} {R : V → Mem → Prop} {e : Env} {m : Mem} {rs : List ResultVar} {vs : List V}
theorem endW_many {x : X} (hx : ∀ i, x ≠ .exit i) (hr : fn.results.toList = rs) (h : ResL p e m rs vs) (h2 : vs.length ≠ 1) (hR : R (.tup vs) m) : endW p fn R x e m :=
  ⟨hx, vs, fun e2 he => by rw [hr]; exact h.eval e2 he, by
    match vs, h2, hR with
    | [], _, hR => exact hR
    | [v], h2, _ => exact absurd rfl h2
    | v :: u :: r, _, hR => exact hR⟩
end
end Go.Ev

namespace Go.Ev
open Go
set_option linter.unusedVariables false
set_option linter.unusedSimpArgs false
section
variable {p : Program} {xb : XB} {ext : CallF} {nt : Nat} {ops : Array Oper} {e : Env} {m : Mem} {o : Oper} {r : List Oper} {Q : Env → Mem → Prop} {v u w : V} {d : Tmp} {x y c : Operand} {t z : TypeId} {k : IntKind} {a b : Int} {g i j : Nat}
def So (ops : Array Oper) (e : Env) (nt : Nat) (o : Oper) (op : Op) (d : Tmp) : Prop := (wantedV ops e o, o.op, o.dst, Nat.blt d nt) = (some true, op, some d, true)
theorem So.all {op : Op} (h : So ops e nt o op d) : wantedV ops e o = some true ∧ o.op = op ∧ o.dst = some d ∧ Nat.blt d nt = true := by
  unfold So at h
  simp only [Prod.mk.injEq] at h
  exact h
theorem wm (hs : (wantedV ops e o, o.op, o.dst, Nat.blt d nt) = (some true, Op.move x, some d, true)) (hx : evalO e x = some v) (h : Wo p xb ext nt ops r (e.set d v) m Q) : Wo p xb ext nt ops (o :: r) e m Q := have q := So.all hs; wo_n q.1 (nv_move q.2.1 hx) q.2.2.1 q.2.2.2 h
theorem wa (hs : (wantedV ops e o, o.op, o.dst, Nat.blt d nt) = (some true, Op.assign x, some d, true)) (hx : evalO e x = some v) (h : Wo p xb ext nt ops r (e.set d v) m Q) : Wo p xb ext nt ops (o :: r) e m Q := have q := So.all hs; wo_n q.1 (nv_assign q.2.1 hx) q.2.2.1 q.2.2.2 h
theorem wg (hs : (wantedV ops e o, o.dst, Nat.blt d nt) = (some false, some d, true)) (h : Wo p xb ext nt ops r (e.set d (.tup [])) m Q) : Wo p xb ext nt ops (o :: r) e m Q := by
  simp only [Prod.mk.injEq] at hs
  exact wo_off hs.1 hs.2.1 hs.2.2 h
theorem wk (hs : (wantedV ops e o, o.op, o.dst, Nat.blt d nt) = (some true, Op.nilCheck x, some d, true)) (hx : evalO e x = some v) (hv : nilCheckV v = some w) (h : Wo p xb ext nt ops r (e.set d w) m Q) : Wo p xb ext nt ops (o :: r) e m Q := have q := So.all hs; wo_n q.1 (nv_nil q.2.1 hx hv) q.2.2.1 q.2.2.2 h
theorem wf {s f q l : Nat} [hk : Off p s f l] (hs : (wantedV ops e o, o.op, o.dst, Nat.blt d nt) = (some true, Op.fieldAddr s x f, some d, true)) (hx : evalO e x = some (.ptr q i)) (h : Wo p xb ext nt ops r (e.set d (.ptr q (i + l))) m Q) : Wo p xb ext nt ops (o :: r) e m Q := have q := So.all hs; wo_n q.1 (nv_fa q.2.1 hx) q.2.2.1 q.2.2.2 h
theorem wx {vs : List V} (hs : (wantedV ops e o, o.op, o.dst, Nat.blt d nt) = (some true, Op.extract x i, some d, true)) (hx : evalO e x = some (.tup vs)) (hv : vs[i]? = some v) (h : Wo p xb ext nt ops r (e.set d v) m Q) : Wo p xb ext nt ops (o :: r) e m Q := have q := So.all hs; wo_n q.1 (nv_ex q.2.1 hx hv) q.2.2.1 q.2.2.2 h
theorem wp (hs : (wantedV ops e o, o.op, o.dst, Nat.blt d nt) = (some true, Op.pick c x y, some d, true)) (hc : evalO e c = some (.bool true)) (hx : evalO e x = some v) (h : Wo p xb ext nt ops r (e.set d v) m Q) : Wo p xb ext nt ops (o :: r) e m Q := have q := So.all hs; wo_n q.1 (nv_pickT q.2.1 hc hx) q.2.2.1 q.2.2.2 h
theorem wq (hs : (wantedV ops e o, o.op, o.dst, Nat.blt d nt) = (some true, Op.pick c x y, some d, true)) (hc : evalO e c = some (.bool false)) (hx : evalO e y = some v) (h : Wo p xb ext nt ops r (e.set d v) m Q) : Wo p xb ext nt ops (o :: r) e m Q := have q := So.all hs; wo_n q.1 (nv_pickF q.2.1 hc hx) q.2.2.1 q.2.2.2 h
theorem wl [ht : ScT p t] {q : Nat} (hs : (wantedV ops e o, o.op, o.dst, Nat.blt d nt) = (some true, Op.load t x, some d, true)) (hx : evalO e x = some (.ptr q i)) (hc : m.cell q i = some v) (h : Wo p xb ext nt ops r (e.set d v) m Q) : Wo p xb ext nt ops (o :: r) e m Q := have q := So.all hs; wo_m q.1 (mv_load q.2.1 hx hc) q.2.2.1 q.2.2.2 h
end
end Go.Ev
