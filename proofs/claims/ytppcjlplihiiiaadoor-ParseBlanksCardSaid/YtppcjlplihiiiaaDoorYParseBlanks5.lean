/- Several texts in one: contracts of functions of the program, and what they lean on. In part written by a program of this session over the kit's print, in part by hand. -/
import Derived.Test.YtppcjlplihiiiaaDoorYParseBlanks4
import Derived.Test.YtppcjlplihiiiaaDoorProg
namespace Go.Proofs.YtppcjlplihiiiaaDoor.Sy
open Go Go.Ev
set_option linter.unusedVariables false
instance : NoB Tryd.prog 1 := ⟨by kernel_rfl⟩
instance : HasB Tryd.prog 4 := ⟨by kernel_rfl⟩
instance : SlT Tryd.prog 23 9 1 := ⟨by kernel_rfl⟩
instance : BsT Tryd.prog 23 9 1 (.str 0 0) := ⟨by kernel_rfl⟩
instance : ScT Tryd.prog 9 := ⟨by kernel_rfl⟩
instance : StT Tryd.prog 9 := ⟨by kernel_rfl⟩
instance : HasB Tryd.prog 5 := ⟨by kernel_rfl⟩
instance : ZeT Tryd.prog 27 (.agg [.nils, .nils]) := ⟨by kernel_rfl⟩
instance : SzT Tryd.prog 27 2 := ⟨by kernel_rfl⟩
instance : HasB Tryd.prog 6 := ⟨by kernel_rfl⟩
instance : Off Tryd.prog 27 1 1 := ⟨by kernel_rfl⟩
instance : ScT Tryd.prog 25 := ⟨by kernel_rfl⟩
instance : HasB Tryd.prog 7 := ⟨by kernel_rfl⟩
instance : Off Tryd.prog 27 0 0 := ⟨by kernel_rfl⟩
instance : ScT Tryd.prog 24 := ⟨by kernel_rfl⟩
instance : HasB Tryd.prog 8 := ⟨by kernel_rfl⟩
instance : BuT Tryd.prog 36 (.agg [(.str 0 0), (.int .i64 0), (.int .i64 0)]) [(0, 1), (1, 1), (2, 1)] := ⟨by kernel_rfl⟩
instance : SlT Tryd.prog 24 36 3 := ⟨by kernel_rfl⟩
instance : BsT Tryd.prog 24 36 3 (.agg [(.str 0 0), (.int .i64 0), (.int .i64 0)]) := ⟨by kernel_rfl⟩
instance : BuT Tryd.prog 38 (.agg [(.int .i64 0), (.int .i64 0), (.int .i64 0), (.int .i64 0), (.int .i64 0), (.str 0 0), (.str 0 0), (.str 0 0), (.str 0 0), (.int .i64 0)]) [(0, 1), (1, 1), (2, 1), (3, 1), (4, 1), (5, 1), (6, 1), (7, 1), (8, 1), (9, 1)] := ⟨by kernel_rfl⟩
instance : SlT Tryd.prog 25 38 10 := ⟨by kernel_rfl⟩
instance : BsT Tryd.prog 25 38 10 (.agg [(.int .i64 0), (.int .i64 0), (.int .i64 0), (.int .i64 0), (.int .i64 0), (.str 0 0), (.str 0 0), (.str 0 0), (.str 0 0), (.int .i64 0)]) := ⟨by kernel_rfl⟩
instance : HasB Tryd.prog 9 := ⟨by kernel_rfl⟩
instance : AgT Tryd.prog 27 2 := ⟨by kernel_rfl⟩
instance : HasB Tryd.prog 10 := ⟨by kernel_rfl⟩
instance : BuT Tryd.prog 27 (.agg [.nils, .nils]) [(0, 1), (1, 1)] := ⟨by kernel_rfl⟩
instance : BuT Tryd.prog 46 (.agg [.nils, (.int .i64 0), .nils, .nils, .nili, (.int .i64 0)]) [(0, 1), (1, 1), (2, 1), (3, 1), (4, 1), (5, 1)] := ⟨by kernel_rfl⟩
instance : HasB Tryd.prog 11 := ⟨by kernel_rfl⟩
instance : HasB Tryd.prog 12 := ⟨by kernel_rfl⟩
instance : HasB Tryd.prog 13 := ⟨by kernel_rfl⟩
instance : HasB Tryd.prog 14 := ⟨by kernel_rfl⟩
instance : PtT Tryd.prog 49 := ⟨by kernel_rfl⟩
instance : BuT Tryd.prog 54 (.agg [(.str 0 0)]) [(0, 1)] := ⟨by kernel_rfl⟩
instance : NiT Tryd.prog 52 := ⟨by kernel_rfl⟩
instance : HasB Tryd.prog 15 := ⟨by kernel_rfl⟩
instance : Off Tryd.prog 46 4 4 := ⟨by kernel_rfl⟩
instance : ScT Tryd.prog 44 := ⟨by kernel_rfl⟩
instance : IfT Tryd.prog 44 := ⟨by kernel_rfl⟩
instance : HasB Tryd.prog 16 := ⟨by kernel_rfl⟩
instance : Off Tryd.prog 46 2 2 := ⟨by kernel_rfl⟩
instance : Off Tryd.prog 46 3 3 := ⟨by kernel_rfl⟩
instance : HasB Tryd.prog 17 := ⟨by kernel_rfl⟩
instance : AgT Tryd.prog 36 3 := ⟨by kernel_rfl⟩
instance : AgT Tryd.prog 38 10 := ⟨by kernel_rfl⟩
instance : HasB Tryd.prog 19 := ⟨by kernel_rfl⟩
instance : Off Tryd.prog 62 0 0 := ⟨by kernel_rfl⟩
instance : ScT Tryd.prog 3 := ⟨by kernel_rfl⟩
instance : Off Tryd.prog 62 1 1 := ⟨by kernel_rfl⟩
instance : NiT Tryd.prog 28 := ⟨by kernel_rfl⟩
instance : HasB Tryd.prog 20 := ⟨by kernel_rfl⟩
instance : HasB Tryd.prog 21 := ⟨by kernel_rfl⟩
instance : ZeT Tryd.prog 36 (.agg [(.str 0 0), (.int .i64 0), (.int .i64 0)]) := ⟨by kernel_rfl⟩
instance : SzT Tryd.prog 36 3 := ⟨by kernel_rfl⟩
instance : HasB Tryd.prog 22 := ⟨by kernel_rfl⟩
instance : Off Tryd.prog 36 1 1 := ⟨by kernel_rfl⟩
instance : SzT Tryd.prog 3 1 := ⟨by kernel_rfl⟩
instance : Off Tryd.prog 36 2 2 := ⟨by kernel_rfl⟩
instance : ApT Tryd.prog 24 24 36 3 := ⟨by kernel_rfl⟩
instance : SzT Tryd.prog 24 1 := ⟨by kernel_rfl⟩
instance : Off Tryd.prog 46 5 5 := ⟨by kernel_rfl⟩
instance : HasB Tryd.prog 23 := ⟨by kernel_rfl⟩
instance : Off Tryd.prog 46 0 0 := ⟨by kernel_rfl⟩
instance : ScT Tryd.prog 39 := ⟨by kernel_rfl⟩
instance : SlT Tryd.prog 39 62 4 := ⟨by kernel_rfl⟩
instance : HasB Tryd.prog 24 := ⟨by kernel_rfl⟩
instance : BuT Tryd.prog 67 (.agg [(.int .i64 0), .nili]) [(0, 1), (1, 1)] := ⟨by kernel_rfl⟩
instance : NiT Tryd.prog 65 := ⟨by kernel_rfl⟩
instance : SzT Tryd.prog 44 1 := ⟨by kernel_rfl⟩
instance : ZeT Tryd.prog 65 .nilp := ⟨by kernel_rfl⟩
instance : ZeT Tryd.prog 28 (.int .i64 0) := ⟨by kernel_rfl⟩
instance : NiT Tryd.prog 69 := ⟨by kernel_rfl⟩
instance : HasB Tryd.prog 25 := ⟨by kernel_rfl⟩
instance : NiT Tryd.prog 70 := ⟨by kernel_rfl⟩
instance : ScT Tryd.prog 65 := ⟨by kernel_rfl⟩
instance : Off Tryd.prog 67 0 0 := ⟨by kernel_rfl⟩
instance : ScT Tryd.prog 28 := ⟨by kernel_rfl⟩
instance : ZeT Tryd.prog 38 (.agg [(.int .i64 0), (.int .i64 0), (.int .i64 0), (.int .i64 0), (.int .i64 0), (.str 0 0), (.str 0 0), (.str 0 0), (.str 0 0), (.int .i64 0)]) := ⟨by kernel_rfl⟩
instance : SzT Tryd.prog 38 10 := ⟨by kernel_rfl⟩
instance : Off Tryd.prog 38 9 9 := ⟨by kernel_rfl⟩
instance : HasB Tryd.prog 26 := ⟨by kernel_rfl⟩
instance : HasB Tryd.prog 27 := ⟨by kernel_rfl⟩
instance : HasB Tryd.prog 28 := ⟨by kernel_rfl⟩
instance : HasB Tryd.prog 29 := ⟨by kernel_rfl⟩
instance : ZeT Tryd.prog 62 (.agg [(.int .i64 0), (.str 0 0), (.int .i64 0), (.int .i64 0)]) := ⟨by kernel_rfl⟩
instance : SzT Tryd.prog 62 4 := ⟨by kernel_rfl⟩
instance : Off Tryd.prog 62 3 3 := ⟨by kernel_rfl⟩
instance : AgT Tryd.prog 62 4 := ⟨by kernel_rfl⟩
instance : BsT Tryd.prog 39 62 4 (.agg [(.int .i64 0), (.str 0 0), (.int .i64 0), (.int .i64 0)]) := ⟨by kernel_rfl⟩
instance : ApT Tryd.prog 39 39 62 4 := ⟨by kernel_rfl⟩
instance : HasB Tryd.prog 30 := ⟨by kernel_rfl⟩
instance : SzT Tryd.prog 39 1 := ⟨by kernel_rfl⟩
instance : Off Tryd.prog 38 0 0 := ⟨by kernel_rfl⟩
instance : Off Tryd.prog 38 6 6 := ⟨by kernel_rfl⟩
instance : SzT Tryd.prog 9 1 := ⟨by kernel_rfl⟩
instance : HasB Tryd.prog 31 := ⟨by kernel_rfl⟩
instance : Off Tryd.prog 38 1 1 := ⟨by kernel_rfl⟩
instance : Off Tryd.prog 38 7 7 := ⟨by kernel_rfl⟩
instance : Off Tryd.prog 38 2 2 := ⟨by kernel_rfl⟩
instance : Off Tryd.prog 38 3 3 := ⟨by kernel_rfl⟩
instance : HasB Tryd.prog 32 := ⟨by kernel_rfl⟩
instance : HasB Tryd.prog 33 := ⟨by kernel_rfl⟩
instance : Off Tryd.prog 46 1 1 := ⟨by kernel_rfl⟩
instance : IfT Tryd.prog 20 := ⟨by kernel_rfl⟩
instance : NiT Tryd.prog 9 := ⟨by kernel_rfl⟩
instance : NoB Tryd.prog 34 := ⟨by kernel_rfl⟩
instance : ZeT Tryd.prog 84 (.agg [.nilp, .nilp, (.int .u64 0)]) := ⟨by kernel_rfl⟩
instance : SzT Tryd.prog 84 3 := ⟨by kernel_rfl⟩
instance : AgT Tryd.prog 84 3 := ⟨by kernel_rfl⟩
instance : NoB Tryd.prog 35 := ⟨by kernel_rfl⟩
instance : NoB Tryd.prog 36 := ⟨by kernel_rfl⟩
instance : ScT Tryd.prog 87 := ⟨by kernel_rfl⟩
instance : HasB Tryd.prog 37 := ⟨by kernel_rfl⟩
instance : HasB Tryd.prog 38 := ⟨by kernel_rfl⟩
instance : HasB Tryd.prog 39 := ⟨by kernel_rfl⟩
instance : HasB Tryd.prog 40 := ⟨by kernel_rfl⟩
instance : HasB Tryd.prog 41 := ⟨by kernel_rfl⟩
instance : HasB Tryd.prog 42 := ⟨by kernel_rfl⟩
instance : BuT Tryd.prog 62 (.agg [(.int .i64 0), (.str 0 0), (.int .i64 0), (.int .i64 0)]) [(0, 1), (1, 1), (2, 1), (3, 1)] := ⟨by kernel_rfl⟩
instance : HasB Tryd.prog 43 := ⟨by kernel_rfl⟩
instance : HasB Tryd.prog 44 := ⟨by kernel_rfl⟩
instance : HasB Tryd.prog 45 := ⟨by kernel_rfl⟩
instance : HasB Tryd.prog 46 := ⟨by kernel_rfl⟩
instance : HasB Tryd.prog 47 := ⟨by kernel_rfl⟩
instance : HasB Tryd.prog 48 := ⟨by kernel_rfl⟩
instance : ApT Tryd.prog 25 25 38 10 := ⟨by kernel_rfl⟩
instance : SzT Tryd.prog 25 1 := ⟨by kernel_rfl⟩
instance : NoB Tryd.prog 49 := ⟨by kernel_rfl⟩
instance : NoB Tryd.prog 50 := ⟨by kernel_rfl⟩
instance : NoB Tryd.prog 51 := ⟨by kernel_rfl⟩
instance : SlT Tryd.prog 109 44 1 := ⟨by kernel_rfl⟩
instance : HasB Tryd.prog 52 := ⟨by kernel_rfl⟩
instance : HasB Tryd.prog 53 := ⟨by kernel_rfl⟩
instance : HasB Tryd.prog 54 := ⟨by kernel_rfl⟩
instance : HasB Tryd.prog 55 := ⟨by kernel_rfl⟩
instance : HasB Tryd.prog 56 := ⟨by kernel_rfl⟩
instance : CvT Tryd.prog 5 3 := ⟨by kernel_rfl⟩
instance : HasB Tryd.prog 58 := ⟨by kernel_rfl⟩
instance : HasB Tryd.prog 57 := ⟨by kernel_rfl⟩
instance : Off Tryd.prog 38 5 5 := ⟨by kernel_rfl⟩
instance : HasB Tryd.prog 59 := ⟨by kernel_rfl⟩
instance : HasB Tryd.prog 60 := ⟨by kernel_rfl⟩
instance : HasB Tryd.prog 61 := ⟨by kernel_rfl⟩
instance : HasB Tryd.prog 62 := ⟨by kernel_rfl⟩
instance : NoB Tryd.prog 63 := ⟨by kernel_rfl⟩
instance : NoB Tryd.prog 64 := ⟨by kernel_rfl⟩
instance : HasB Tryd.prog 65 := ⟨by kernel_rfl⟩
instance : HasB Tryd.prog 66 := ⟨by kernel_rfl⟩
instance : HasB Tryd.prog 67 := ⟨by kernel_rfl⟩
instance : HasB Tryd.prog 68 := ⟨by kernel_rfl⟩
instance : Off Tryd.prog 62 2 2 := ⟨by kernel_rfl⟩
instance : Off Tryd.prog 38 4 4 := ⟨by kernel_rfl⟩
instance : HasB Tryd.prog 69 := ⟨by kernel_rfl⟩
instance : HasB Tryd.prog 70 := ⟨by kernel_rfl⟩
instance : HasB Tryd.prog 71 := ⟨by kernel_rfl⟩
instance : HasB Tryd.prog 72 := ⟨by kernel_rfl⟩
instance : HasB Tryd.prog 73 := ⟨by kernel_rfl⟩
instance : Off Tryd.prog 38 8 8 := ⟨by kernel_rfl⟩
instance : HasB Tryd.prog 74 := ⟨by kernel_rfl⟩
instance : HasB Tryd.prog 75 := ⟨by kernel_rfl⟩
instance : NoB Tryd.prog 76 := ⟨by kernel_rfl⟩
instance : HasB Tryd.prog 77 := ⟨by kernel_rfl⟩
instance : ScT Tryd.prog 5 := ⟨by kernel_rfl⟩
instance : AgT Tryd.prog 130 2 := ⟨by kernel_rfl⟩
instance : ZeT Tryd.prog 130 (.agg [(.int .u8 0), (.int .u8 0)]) := ⟨by kernel_rfl⟩
instance : SzT Tryd.prog 130 2 := ⟨by kernel_rfl⟩
instance : Off Tryd.prog 130 0 0 := ⟨by kernel_rfl⟩
instance : Off Tryd.prog 130 1 1 := ⟨by kernel_rfl⟩
instance : Off Tryd.prog 67 1 1 := ⟨by kernel_rfl⟩
instance : BuT Tryd.prog 130 (.agg [(.int .u8 0), (.int .u8 0)]) [(0, 1), (1, 1)] := ⟨by kernel_rfl⟩
instance : SzT Tryd.prog 131 32 := ⟨by kernel_rfl⟩
instance : NiT Tryd.prog 158 := ⟨by kernel_rfl⟩
instance : SzT Tryd.prog 87 1 := ⟨by kernel_rfl⟩
abbrev XS : List Nat := [46, 58, 55, 16, 62, 4]
def syVars : List (Nat × Nat × V) := [(1, 0, .res .i64 1 0), (0, 0, .iface 98 (.agg [.gptr 4 44]))]
def Good (g : Gl) : Prop := g = glL syVars
end Go.Proofs.YtppcjlplihiiiaaDoor.Sy

namespace Go.Ev.Pm
open Go
set_option linter.unusedVariables false
structure Tk where
  kind : Int
  text : ByteArray
  num : Int
  at_ : Int
structure Nd where
  k : Int := 0
  a : Int := 0
  b : Int := 0
  c : Int := 0
  num : Int := 0
  nm : ByteArray := ByteArray.empty
  x : ByteArray := ByteArray.empty
  y : ByteArray := ByteArray.empty
  z : ByteArray := ByteArray.empty
  at_ : Int := 0
structure Od where
  nm : ByteArray := ByteArray.empty
  fr : Int := 0
  to : Int := 0
structure PS where
  toks : List Tk
  ops : List Od := []
  ns : List Nd := []
  err : Option (Int × Int) := none
  deep : Int := 0
section
variable (E : Int)
def here (P : PS) : Int := match P.toks with
  | t :: _ => t.at_
  | [] => E
def fail (c : Int) (P : PS) : PS := match P.err with
  | none => { P with err := some (c, here E P) }
  | some _ => P
def next (P : PS) : Option Tk := match P.err with
  | none => P.toks.head?
  | some _ => none
def isT (t : Tk) (s : ByteArray) : Bool := (t.kind == 3 || t.kind == 2) && t.text == s
def is (P : PS) (s : ByteArray) : Bool := match next P with
  | some t => isT t s
  | none => false
def drop1 (P : PS) : PS := { P with toks := P.toks.tail }
def take (s : ByteArray) (P : PS) : Bool × PS := if is P s then (true, drop1 P) else (false, P)
def must (s : ByteArray) (P : PS) : PS := if is P s then drop1 P else fail E 403 P
def name (P : PS) : ByteArray × PS := match next P with
  | some t => if t.kind = 0 then (t.text, drop1 P) else (ByteArray.empty, fail E 403 P)
  | none => (ByteArray.empty, fail E 403 P)
def put (x : Nd) (P : PS) : Int × PS :=
  let P := if P.ns.length = 512 then fail E 402 P else P
  match P.err with
  | some _ => (0, P)
  | none => (P.ns.length, { P with ns := P.ns ++ [x] })
end
end Go.Ev.Pm

namespace Go.Ev.Pm
open Go
set_option linter.unusedVariables false
set_option linter.unusedSimpArgs false
def kfun : ByteArray := ⟨#[102, 117, 110]⟩
def klet : ByteArray := ⟨#[108, 101, 116]⟩
def krec : ByteArray := ⟨#[114, 101, 99]⟩
def kin : ByteArray := ⟨#[105, 110]⟩
def kif : ByteArray := ⟨#[105, 102]⟩
def kthen : ByteArray := ⟨#[116, 104, 101, 110]⟩
def kelse : ByteArray := ⟨#[101, 108, 115, 101]⟩
def kdo : ByteArray := ⟨#[100, 111]⟩
def khandle : ByteArray := ⟨#[104, 97, 110, 100, 108, 101]⟩
def kwith : ByteArray := ⟨#[119, 105, 116, 104]⟩
def kreturn : ByteArray := ⟨#[114, 101, 116, 117, 114, 110]⟩
def kend : ByteArray := ⟨#[101, 110, 100]⟩
def ktrue : ByteArray := ⟨#[116, 114, 117, 101]⟩
def kfalse : ByteArray := ⟨#[102, 97, 108, 115, 101]⟩
def kint : ByteArray := ⟨#[105, 110, 116]⟩
def kbool : ByteArray := ⟨#[98, 111, 111, 108]⟩
def kop : ByteArray := ⟨#[111, 112]⟩
def kopen : ByteArray := ⟨#[40]⟩
def kclose : ByteArray := ⟨#[41]⟩
def karrow : ByteArray := ⟨#[45, 62]⟩
def kset : ByteArray := ⟨#[61]⟩
def kcolon : ByteArray := ⟨#[58]⟩
def ksemi : ByteArray := ⟨#[59]⟩
def keq : ByteArray := ⟨#[61, 61]⟩
def klt : ByteArray := ⟨#[60]⟩
def kadd : ByteArray := ⟨#[43]⟩
def ksub : ByteArray := ⟨#[45]⟩
def kmul : ByteArray := ⟨#[42]⟩
def kquo : ByteArray := ⟨#[47]⟩
inductive Cm
  | inner | expr | level (l : Nat) | more (l : Nat) (a : Int) | apply | apps (at_ a : Int) | atom
abbrev Rs := Option (Int × PS)
def bindR (x : Rs) (f : Int → PS → Rs) : Rs := match x with
  | some (v, P) => f v P
  | none => none
section
variable (E : Int)
def prim (l : Nat) (P : PS) : Option Int := match l with
  | 0 => if is P keq then some 4 else if is P klt then some 5 else none
  | 1 => if is P kadd then some 0 else if is P ksub then some 1 else none
  | _ => if is P kmul then some 2 else if is P kquo then some 3 else none
def starts (P : PS) : Bool := match next P with
  | none => false
  | some t => t.kind == 0 || t.kind == 1 || is P ktrue || is P kfalse || is P kopen || is P khandle
def pre (P : PS) : PS := if P.deep = 40 then fail E 401 P else P
def base (P : PS) : Int × PS := if is P kint then (0, drop1 P) else (1, must E kbool P)
def handleM (r : PS → Rs) (at_ : Int) (P : PS) : Option (Nd × PS) := match r P with
  | none => none
  | some (a, P) =>
    let P := must E kwith P
    let q := name E P
    let x := name E q.2
    let y := name E x.2
    match r (must E karrow y.2) with
    | none => none
    | some (b, P) =>
      let z := name E (must E kreturn P)
      match r (must E karrow z.2) with
      | none => none
      | some (c, P) => some ({ k := 10, a := a, b := b, c := c, nm := q.1, x := x.1, y := y.1, z := z.1, at_ := at_ }, must E kend P)
def letM (r : PS → Rs) (at_ : Int) (rc : Bool) (P : PS) : Rs :=
  let x := name E P
  let y := if rc then name E x.2 else (ByteArray.empty, x.2)
  bindR (r (must E kset y.2)) fun a P => bindR (r (must E kin P)) fun b P => some (put E { k := if rc then 6 else 5, a := a, b := b, x := x.1, y := y.1, at_ := at_ } P)
def run : Nat → Cm → PS → Rs
  | 0, _, _ => none
  | n + 1, .inner, P => match (pre E P).err with
    | some _ => some (0, pre E P)
    | none => bindR (run n .expr { pre E P with deep := P.deep + 1 }) fun v P => some (v, { P with deep := P.deep - 1 })
  | n + 1, .expr, P =>
    if is P kfun then
      let x := name E (drop1 P)
      bindR (run n .inner (must E karrow x.2)) fun a Q => some (put E { k := 3, a := a, x := x.1, at_ := here E P } Q)
    else if is P klet then
      if is (drop1 P) krec then letM E (run n .inner) (here E P) true (drop1 (drop1 P)) else letM E (run n .inner) (here E P) false (drop1 P)
    else if is P kif then
      bindR (run n .inner (drop1 P)) fun a Q => bindR (run n .inner (must E kthen Q)) fun b Q => bindR (run n .inner (must E kelse Q)) fun c Q =>
        some (put E { k := 7, a := a, b := b, c := c, at_ := here E P } Q)
    else run n (.level 0) P
  | n + 1, .level l, P => if l = 3 then run n .apply P else bindR (run n (.level (l + 1)) P) fun a P => run n (.more l a) P
  | n + 1, .more l a, P => match prim l P with
    | none => some (a, P)
    | some k => bindR (run n (.level (l + 1)) (drop1 P)) fun b Q =>
      let r := put E { k := 8, num := k, a := a, b := b, at_ := here E P } Q
      if l = 0 then some r else run n (.more l r.1) r.2
  | n + 1, .apply, P =>
    if is P kdo then
      let x := name E (drop1 P)
      bindR (run n .atom x.2) fun a Q =>
        let r := put E { k := 9, nm := x.1, a := a, at_ := here E P } Q
        run n (.apps (here E P) r.1) r.2
    else bindR (run n .atom P) fun a Q => run n (.apps (here E P) a) Q
  | n + 1, .apps at_ a, P => if starts P then bindR (run n .atom P) fun b Q =>
      let r := put E { k := 4, a := a, b := b, at_ := at_ } Q
      run n (.apps at_ r.1) r.2
    else some (a, P)
  | n + 1, .atom, P =>
    if starts P then match next P with
      | none => some (0, fail E 403 P)
      | some t =>
        if t.kind = 0 then let x := name E P; some (put E { nm := x.1, at_ := here E P } x.2)
        else if t.kind = 1 then some (put E { k := 1, num := t.num, at_ := here E P } (drop1 P))
        else if is P kopen then bindR (run n .inner (drop1 P)) fun a Q => some (a, must E kclose Q)
        else if is P khandle then (match handleM E (run n .inner) (here E P) (drop1 P) with
          | none => none
          | some (x, Q) => some (put E x Q))
        else if is P ktrue then some (put E { k := 2, num := 1, at_ := here E P } (drop1 P))
        else some (put E { k := 2, at_ := here E P } (take kfalse P).2)
    else some (0, fail E 403 P)
end
section
variable {E : Int} {P : PS}
def Le (P Q : PS) : Prop := Q.deep = P.deep ∧ Q.toks.length ≤ P.toks.length
theorem Le.refl (P : PS) : Le P P := ⟨rfl, Nat.le_refl _⟩
theorem Le.trans {P Q R : PS} (h : Le P Q) (k : Le Q R) : Le P R := ⟨k.1.trans h.1, Nat.le_trans k.2 h.2⟩
theorem fail_le (c : Int) (P : PS) : Le P (fail E c P) := by unfold fail; split <;> exact ⟨rfl, Nat.le_refl _⟩
theorem drop1_le (P : PS) : Le P (drop1 P) := ⟨rfl, by simp [drop1]⟩
theorem must_le (s : ByteArray) (P : PS) : Le P (must E s P) := by unfold must; split; exact drop1_le P; exact fail_le _ P
theorem name_le (P : PS) : Le P (name E P).2 := by
  unfold name
  split
  · split
    · exact drop1_le P
    · exact fail_le _ P
  · exact fail_le _ P
theorem take_le (s : ByteArray) (P : PS) : Le P (take s P).2 := by unfold take; split; exact drop1_le P; exact Le.refl P
theorem put_le (x : Nd) (P : PS) : Le P (put E x P).2 := by
  have key : ∀ Q : PS, Le Q (match Q.err with | some _ => ((0 : Int), Q) | none => (Q.ns.length, { Q with ns := Q.ns ++ [x] })).2 := fun Q => by
    split <;> exact ⟨rfl, Nat.le_refl _⟩
  unfold put
  split
  · exact (fail_le _ P).trans (key _)
  · exact key P
theorem base_le (P : PS) : Le P (base E P).2 := by unfold base; split; exact drop1_le P; exact must_le _ P
theorem is_toks {s : ByteArray} (h : is P s = true) : P.toks ≠ [] := by
  unfold is next at h
  intro hn
  rw [hn] at h
  cases hE : P.err <;> rw [hE] at h <;> simp at h
theorem drop1_lt {s : ByteArray} (h : is P s = true) : (drop1 P).toks.length < P.toks.length := by
  have := is_toks h
  cases hT : P.toks with
  | nil => exact absurd hT this
  | cons t r => simp [drop1, hT]
theorem next_toks {t : Tk} (h : next P = some t) : P.toks ≠ [] := by
  unfold next at h
  intro hn
  rw [hn] at h
  cases hE : P.err <;> rw [hE] at h <;> simp at h
theorem prim_toks {l : Nat} {k : Int} (h : prim l P = some k) : P.toks ≠ [] := by
  unfold prim at h
  split at h <;> (split at h; · exact is_toks (by assumption)) <;> (split at h; · exact is_toks (by assumption)) <;> cases h
theorem drop1_lt' (h : P.toks ≠ []) : (drop1 P).toks.length < P.toks.length := by
  cases hT : P.toks with
  | nil => exact absurd hT h
  | cons t r => simp [drop1, hT]
theorem bindR_some {x : Rs} {f : Int → PS → Rs} {r : Int × PS} (h : bindR x f = some r) : ∃ v Q, x = some (v, Q) ∧ f v Q = some r := by
  unfold bindR at h
  split at h
  · exact ⟨_, _, rfl, h⟩
  · cases h
theorem name_lt {t : Tk} (h : next P = some t) (hk : t.kind = 0) : (name E P).2.toks.length < P.toks.length := by
  unfold name
  rw [h]
  dsimp only
  rw [if_pos hk]
  exact drop1_lt' (next_toks h)
theorem run_le : ∀ (n : Nat) (c : Cm) (P : PS) (v : Int) (Q : PS), run E n c P = some (v, Q) → Le P Q := by
  intro n
  induction n with
  | zero => intro c P v Q h; simp [run] at h
  | succ n ih =>
    intro c P v Q h
    have putR : ∀ {x : Nd} {R : PS}, some (put E x R) = some (v, Q) → Le R Q := fun {x R} h => by
      have := put_le (E := E) x R
      rw [Option.some.inj h] at this
      exact this
    have letR : ∀ {at_ : Int} {rc : Bool} {R : PS}, letM E (run E n .inner) at_ rc R = some (v, Q) → Le R Q := fun {at_ rc R} h => by
      unfold letM at h
      obtain ⟨a, A, h1, h⟩ := bindR_some h
      obtain ⟨b, B, h2, h⟩ := bindR_some h
      refine (name_le (E := E) R).trans (Le.trans ?_ ((must_le (E := E) _ _).trans ((ih _ _ _ _ h1).trans ((must_le (E := E) _ _).trans ((ih _ _ _ _ h2).trans (putR h))))))
      split
      · exact name_le (E := E) _
      · exact Le.refl _
    cases c with
    | inner =>
      simp only [run] at h
      have hp : Le P (pre E P) := by unfold pre; split; exact fail_le _ P; exact Le.refl P
      split at h
      · cases h; exact hp
      · obtain ⟨a, A, h1, h⟩ := bindR_some h
        cases h
        have := ih _ _ _ _ h1
        exact ⟨by show A.deep - 1 = _; rw [this.1]; show P.deep + 1 - 1 = _; omega, Nat.le_trans this.2 hp.2⟩
    | expr =>
      simp only [run] at h
      split at h
      · obtain ⟨a, A, h1, h⟩ := bindR_some h
        exact (drop1_le P).trans ((name_le (E := E) _).trans ((must_le (E := E) _ _).trans ((ih _ _ _ _ h1).trans (putR h))))
      · split at h
        · split at h
          · exact (drop1_le P).trans ((drop1_le _).trans (letR h))
          · exact (drop1_le P).trans (letR h)
        · split at h
          · obtain ⟨a, A, h1, h⟩ := bindR_some h
            obtain ⟨b, B, h2, h⟩ := bindR_some h
            obtain ⟨c, C, h3, h⟩ := bindR_some h
            exact (drop1_le P).trans ((ih _ _ _ _ h1).trans ((must_le (E := E) _ _).trans ((ih _ _ _ _ h2).trans ((must_le (E := E) _ _).trans ((ih _ _ _ _ h3).trans (putR h))))))
          · exact ih _ _ _ _ h
    | level l =>
      simp only [run] at h
      split at h
      · exact ih _ _ _ _ h
      · obtain ⟨a, A, h1, h⟩ := bindR_some h
        exact (ih _ _ _ _ h1).trans (ih _ _ _ _ h)
    | more l a =>
      simp only [run] at h
      split at h
      · cases h; exact Le.refl _
      · obtain ⟨b, B, h1, h⟩ := bindR_some h
        split at h
        · exact (drop1_le P).trans ((ih _ _ _ _ h1).trans (putR h))
        · exact (drop1_le P).trans ((ih _ _ _ _ h1).trans ((put_le (E := E) _ _).trans (ih _ _ _ _ h)))
    | apply =>
      simp only [run] at h
      split at h
      · obtain ⟨a, A, h1, h⟩ := bindR_some h
        exact (drop1_le P).trans ((name_le (E := E) _).trans ((ih _ _ _ _ h1).trans ((put_le (E := E) _ _).trans (ih _ _ _ _ h))))
      · obtain ⟨a, A, h1, h⟩ := bindR_some h
        exact (ih _ _ _ _ h1).trans (ih _ _ _ _ h)
    | apps at_ a =>
      simp only [run] at h
      split at h
      · obtain ⟨a, A, h1, h⟩ := bindR_some h
        exact (ih _ _ _ _ h1).trans ((put_le (E := E) _ _).trans (ih _ _ _ _ h))
      · cases h; exact Le.refl _
    | atom =>
      simp only [run] at h
      split at h
      · split at h
        · cases h; exact fail_le _ P
        · split at h
          · exact (name_le (E := E) P).trans (putR h)
          · split at h
            · exact (drop1_le P).trans (putR h)
            · split at h
              · obtain ⟨a, A, h1, h⟩ := bindR_some h
                cases h
                exact (drop1_le P).trans ((ih _ _ _ _ h1).trans (must_le (E := E) _ _))
              · split at h
                · split at h
                  · cases h
                  · rename_i hh
                    refine (drop1_le P).trans (Le.trans ?_ (putR h))
                    unfold handleM at hh
                    split at hh
                    · cases hh
                    · rename_i h1
                      dsimp only at hh
                      split at hh
                      · cases hh
                      · rename_i h2
                        split at hh
                        · cases hh
                        · rename_i h3
                          cases hh
                          exact (ih _ _ _ _ h1).trans ((must_le (E := E) _ _).trans ((name_le (E := E) _).trans ((name_le (E := E) _).trans ((name_le (E := E) _).trans ((must_le (E := E) _ _).trans ((ih _ _ _ _ h2).trans ((must_le (E := E) _ _).trans ((name_le (E := E) _).trans ((must_le (E := E) _ _).trans ((ih _ _ _ _ h3).trans (must_le (E := E) _ _)))))))))))
                · split at h
                  · exact (drop1_le P).trans (putR h)
                  · exact (take_le _ P).trans (putR h)
      · cases h; exact fail_le _ P
theorem atom_lt {n : Nat} {v : Int} {Q : PS} (hs : starts P = true) (h : run E (n + 1) .atom P = some (v, Q)) : Q.toks.length < P.toks.length := by
  have putR : ∀ {x : Nd} {R : PS}, some (put E x R) = some (v, Q) → R.toks.length < P.toks.length → Q.toks.length < P.toks.length := fun {x R} h hl => by
    have := put_le (E := E) x R
    rw [Option.some.inj h] at this
    exact Nat.lt_of_le_of_lt this.2 hl
  simp only [run] at h
  rw [if_pos hs] at h
  split at h
  · rename_i hn; unfold starts at hs; rw [hn] at hs; cases hs
  · rename_i t hn
    have hd := drop1_lt' (next_toks hn)
    split at h
    · exact putR h (name_lt hn (by assumption))
    · split at h
      · exact putR h hd
      · split at h
        · obtain ⟨a, A, h1, h⟩ := bindR_some h
          cases h
          exact Nat.lt_of_le_of_lt ((must_le (E := E) _ _).2) (Nat.lt_of_le_of_lt (run_le _ _ _ _ _ h1).2 hd)
        · split at h
          · split at h
            · cases h
            · rename_i hh
              refine putR h (Nat.lt_of_le_of_lt ?_ hd)
              unfold handleM at hh
              split at hh
              · cases hh
              · rename_i h1
                dsimp only at hh
                split at hh
                · cases hh
                · rename_i h2
                  split at hh
                  · cases hh
                  · rename_i h3
                    cases hh
                    exact ((run_le _ _ _ _ _ h1).trans ((must_le (E := E) _ _).trans ((name_le (E := E) _).trans ((name_le (E := E) _).trans ((name_le (E := E) _).trans ((must_le (E := E) _ _).trans ((run_le _ _ _ _ _ h2).trans ((must_le (E := E) _ _).trans ((name_le (E := E) _).trans ((must_le (E := E) _ _).trans ((run_le _ _ _ _ _ h3).trans (must_le (E := E) _ _)))))))))))).2
          · split at h
            · exact putR h hd
            · refine putR h ?_
              have : is P kfalse = true := by
                unfold starts at hs
                rw [hn] at hs
                simp_all
              unfold take
              rw [if_pos this]
              exact hd
def rank : Cm → Nat
  | .inner => 8 | .expr => 7 | .level l => 6 - l | .more _ _ => 0 | .apply => 2 | .apps _ _ => 1 | .atom => 0
def okC : Cm → Prop
  | .level l => l ≤ 3
  | .more l _ => l < 3
  | _ => True
theorem bindR_go {x : Rs} {f : Int → PS → Rs} (h : x ≠ none) (k : ∀ v Q, x = some (v, Q) → f v Q ≠ none) : bindR x f ≠ none := by
  cases x with
  | none => exact absurd rfl h
  | some r => exact k r.1 r.2 rfl
theorem run_some : ∀ (n : Nat) (c : Cm) (P : PS), okC c → 16 * P.toks.length + rank c < n → run E n c P ≠ none := by
  intro n
  induction n with
  | zero => intro c P _ h; omega
  | succ n ih =>
    intro c P ho hn
    have put_go : ∀ (x : Nd) (R : PS), some (put E x R) ≠ none := fun _ _ h => by cases h
    have inn : ∀ R : PS, R.toks.length < P.toks.length → run E n .inner R ≠ none := fun R hR => ih _ _ trivial (by simp only [rank]; omega)
    have lt1 : ∀ {R S : PS}, Le R S → R.toks.length < P.toks.length → S.toks.length < P.toks.length := fun h k => Nat.lt_of_le_of_lt h.2 k
    have letR : ∀ (at_ : Int) (rc : Bool) (R : PS), R.toks.length < P.toks.length → letM E (run E n .inner) at_ rc R ≠ none := fun at_ rc R hR => by
      unfold letM
      have h0 : (if rc then name E (name E R).2 else (ByteArray.empty, (name E R).2)).2.toks.length < P.toks.length := by
        split
        · exact lt1 (name_le (E := E) _) (lt1 (name_le (E := E) _) hR)
        · exact lt1 (name_le (E := E) _) hR
      have h1 := lt1 (must_le (E := E) kset _) h0
      refine bindR_go (inn _ h1) fun a A ha => bindR_go (inn _ (lt1 (must_le (E := E) _ _) (lt1 (run_le _ _ _ _ _ ha) h1))) fun b B _ => put_go _ _
    cases c with
    | inner =>
      simp only [rank] at hn
      simp only [run]
      have hp : (pre E P).toks.length ≤ P.toks.length := by unfold pre; split; exact (fail_le _ P).2; exact Nat.le_refl _
      split
      · simp
      · exact bindR_go (ih _ _ trivial (by simp only [rank]; show 16 * (pre E P).toks.length + 7 < n; omega)) fun _ _ _ h => by cases h
    | expr =>
      simp only [rank] at hn
      simp only [run]
      split
      · rename_i h
        refine bindR_go (inn _ (lt1 (must_le (E := E) _ _) (lt1 (name_le (E := E) _) (drop1_lt h)))) fun _ _ _ => put_go _ _
      · split
        · rename_i h
          split
          · exact letR _ _ _ (lt1 (drop1_le _) (drop1_lt h))
          · exact letR _ _ _ (drop1_lt h)
        · split
          · rename_i h
            have h0 := drop1_lt h
            refine bindR_go (inn _ h0) fun a A ha => ?_
            have h1 := lt1 (must_le (E := E) kthen _) (lt1 (run_le _ _ _ _ _ ha) h0)
            refine bindR_go (inn _ h1) fun b B hb => ?_
            have h2 := lt1 (must_le (E := E) kelse _) (lt1 (run_le _ _ _ _ _ hb) h1)
            exact bindR_go (inn _ h2) fun _ _ _ => put_go _ _
          · exact ih _ _ (show 0 ≤ 3 by omega) (by simp only [rank]; omega)
    | level l =>
      simp only [rank] at hn
      have hl : l ≤ 3 := ho
      simp only [run]
      split
      · exact ih _ _ trivial (by simp only [rank]; omega)
      · refine bindR_go (ih _ _ (show l + 1 ≤ 3 by omega) (by simp only [rank]; omega)) fun a A ha => ?_
        have := (run_le _ _ _ _ _ ha).2
        exact ih _ _ (show l < 3 by omega) (by simp only [rank]; omega)
    | more l a =>
      simp only [rank] at hn
      have hl : l < 3 := ho
      simp only [run]
      split
      · simp
      · rename_i kk h
        have h0 := drop1_lt' (prim_toks h)
        refine bindR_go (ih _ _ (show l + 1 ≤ 3 by omega) (by simp only [rank]; omega)) fun b B hb => ?_
        have h1 := lt1 (put_le (E := E) { k := 8, num := kk, a := a, b := b, at_ := here E P } B) (lt1 (run_le _ _ _ _ _ hb) h0)
        split
        · exact put_go _ _
        · exact ih _ _ hl (by simp only [rank]; omega)
    | apply =>
      simp only [rank] at hn
      simp only [run]
      split
      · rename_i h
        have h0 := lt1 (name_le (E := E) _) (drop1_lt h)
        refine bindR_go (ih _ _ trivial (by simp only [rank]; omega)) fun a A ha => ?_
        have h1 := lt1 (put_le (E := E) { k := 9, nm := (name E (drop1 P)).1, a := a, at_ := here E P } A) (lt1 (run_le _ _ _ _ _ ha) h0)
        exact ih _ _ trivial (by simp only [rank]; omega)
      · refine bindR_go (ih _ _ trivial (by simp only [rank]; omega)) fun a A ha => ?_
        have := (run_le _ _ _ _ _ ha).2
        exact ih _ _ trivial (by simp only [rank]; omega)
    | apps at_ a =>
      simp only [rank] at hn
      simp only [run]
      split
      · rename_i h
        refine bindR_go (ih _ _ trivial (by simp only [rank]; omega)) fun b B hb => ?_
        obtain ⟨k, rfl⟩ : ∃ k, n = k + 1 := ⟨n - 1, by omega⟩
        have h1 := lt1 (put_le (E := E) { k := 4, a := a, b := b, at_ := at_ } B) (atom_lt h hb)
        exact ih _ _ trivial (by simp only [rank]; omega)
      · simp
    | atom =>
      simp only [rank] at hn
      simp only [run]
      split
      · split
        · simp
        · rename_i t ht
          have h0 := drop1_lt' (next_toks ht)
          split
          · exact put_go _ _
          · split
            · exact put_go _ _
            · split
              · exact bindR_go (inn _ h0) fun _ _ _ h => by cases h
              · split
                · unfold handleM
                  cases h1 : run E n .inner (drop1 P) with
                  | none => exact absurd h1 (inn _ h0)
                  | some r1 =>
                    obtain ⟨a, A⟩ := r1
                    dsimp only
                    have l1 := lt1 (must_le (E := E) karrow _) (lt1 (name_le (E := E) _) (lt1 (name_le (E := E) _) (lt1 (name_le (E := E) _) (lt1 (must_le (E := E) kwith _) (lt1 (run_le _ _ _ _ _ h1) h0)))))
                    cases h2 : run E n .inner (must E karrow (name E (name E (name E (must E kwith A)).2).2).2) with
                    | none => exact absurd h2 (inn _ l1)
                    | some r2 =>
                      obtain ⟨b, B⟩ := r2
                      dsimp only
                      have l2 := lt1 (must_le (E := E) karrow _) (lt1 (name_le (E := E) _) (lt1 (must_le (E := E) kreturn _) (lt1 (run_le _ _ _ _ _ h2) l1)))
                      cases h3 : run E n .inner (must E karrow (name E (must E kreturn B)).2) with
                      | none => exact absurd h3 (inn _ l2)
                      | some r3 => simp
                · split <;> exact put_go _ _
      · simp
end
end Go.Ev.Pm

namespace Go.Ev.Lm
open Go Go.Ev.Pm
set_option linter.unusedVariables false
set_option linter.unusedSimpArgs false
def isLet (b : UInt8) : Bool := decide (97 ≤ b.toNat) && decide (b.toNat ≤ 122)
def isDig (b : UInt8) : Bool := decide (48 ≤ b.toNat) && decide (b.toNat ≤ 57)
def isMore (b : UInt8) : Bool := isLet b || (isDig b || b == 95)
def isBlank (c : UInt8) : Bool := c == 32 || (c == 9 || c == 10)
def isSign (c : UInt8) : Bool := c == 40 || (c == 41 || (c == 61 || (c == 43 || (c == 45 || (c == 42 || (c == 47 || (c == 60 || (c == 59 || c == 58))))))))
def lettersL : List UInt8 := [97, 98, 99, 100, 101, 102, 103, 104, 105, 106, 107, 108, 109, 110, 111, 112, 113, 114, 115, 116, 117, 118, 119, 120, 121, 122]
def digitsL : List UInt8 := [48, 49, 50, 51, 52, 53, 54, 55, 56, 57]
def moreL : List UInt8 := [97, 98, 99, 100, 101, 102, 103, 104, 105, 106, 107, 108, 109, 110, 111, 112, 113, 114, 115, 116, 117, 118, 119, 120, 121, 122, 48, 49, 50, 51, 52, 53, 54, 55, 56, 57, 95]
def blanksL : List UInt8 := [32, 9, 10]
def signsL : List UInt8 := [40, 41, 61, 43, 45, 42, 47, 60, 59, 58]
def kwL : List (List UInt8) := [[102, 117, 110], [108, 101, 116], [114, 101, 99], [105, 110], [105, 102], [116, 104, 101, 110], [101, 108, 115, 101], [104, 97, 110, 100, 108, 101], [119, 105, 116, 104], [114, 101, 116, 117, 114, 110], [101, 110, 100], [100, 111], [111, 112], [116, 114, 117, 101], [102, 97, 108, 115, 101], [105, 110, 116], [98, 111, 111, 108]]
theorem byte_all {P : UInt8 → Prop} (h : ∀ n : Fin 256, P (UInt8.ofNat n)) (c : UInt8) : P c := by
  have := h ⟨c.toNat, c.toNat_lt⟩
  simpa using this
theorem mem_letters (c : UInt8) : decide (c ∈ lettersL) = isLet c := byte_all (P := fun c => decide (c ∈ lettersL) = isLet c) (by decide +kernel) c
theorem mem_more (c : UInt8) : decide (c ∈ moreL) = isMore c := byte_all (P := fun c => decide (c ∈ moreL) = isMore c) (by decide +kernel) c
theorem mem_digits (c : UInt8) : decide (c ∈ digitsL) = isDig c := byte_all (P := fun c => decide (c ∈ digitsL) = isDig c) (by decide +kernel) c
theorem mem_signs (c : UInt8) : decide (c ∈ signsL) = isSign c := byte_all (P := fun c => decide (c ∈ signsL) = isSign c) (by decide +kernel) c
theorem mem_blanks (c : UInt8) : decide (c ∈ blanksL) = isBlank c := byte_all (P := fun c => decide (c ∈ blanksL) = isBlank c) (by decide +kernel) c
def kw (l : List UInt8) : Bool := kwL.contains l
def nm (l : List UInt8) : Bool := match l with
  | [] => false
  | c :: _ => decide (l.length ≤ 16) && (isLet c && (l.all isMore && !kw l))
def numV (l : List UInt8) : Nat := l.foldl (fun x c => 10 * x + (c.toNat - 48)) 0
def nOk (l : List UInt8) : Bool := l.all isDig && ((decide (l.length ≤ 1) || l.head? != some 48) && decide (numV l ≤ 1073741823))
theorem foldl_ge (b : List UInt8) : ∀ x : Nat, x ≤ b.foldl (fun x c => 10 * x + (c.toNat - 48)) x := by
  induction b with
  | nil => exact fun x => Nat.le_refl _
  | cons c b ih => exact fun x => Nat.le_trans (show x ≤ 10 * x + (c.toNat - 48) by omega) (ih _)
theorem numV_snoc (l : List UInt8) (c : UInt8) : numV (l ++ [c]) = 10 * numV l + (c.toNat - 48) := by
  unfold numV
  rw [List.foldl_append]
  rfl
theorem numV_take (l : List UInt8) (i : Nat) : numV (l.take i) ≤ numV l := by
  have h : numV l = numV (l.take i ++ l.drop i) := by rw [List.take_append_drop]
  rw [h]
  unfold numV
  rw [List.foldl_append]
  exact foldl_ge _ _
theorem dig_of {c : UInt8} (h : isDig c = true) : 48 ≤ c.toNat ∧ c.toNat ≤ 57 := by
  simpa [isDig] using h
inductive TR
  | err (c : Int)
  | ok (k : Int) (s : List UInt8) (num : Int) (n : Nat)
def hasP (w l : List UInt8) : Bool := l.take w.length == w
def sgnM (l : List UInt8) : TR := match l with
  | [] => .err 201
  | c :: _ => if isSign c then (if hasP [45, 62] l || hasP [61, 61] l then .ok 3 (l.take 2) 0 2 else .ok 3 (l.take 1) 0 1) else .err 201
def tokM (l : List UInt8) : TR := match l.takeWhile isMore with
  | [] => sgnM l
  | c :: w => if c = 95 then sgnM l else if isDig c then (if nOk (c :: w) then .ok 1 [] (numV (c :: w)) (w.length + 1) else .err 202) else if kw (c :: w) then .ok 2 (c :: w) 0 (w.length + 1) else if nm (c :: w) then .ok 0 (c :: w) 0 (w.length + 1) else .err 201
inductive LR
  | err (at_ : Nat) (c : Int)
  | ok (ts : List Tk)
def LR.add (t : Tk) : LR → LR
  | .err a c => .err a c
  | .ok ts => .ok (t :: ts)
def cutN (l : List UInt8) : Nat := (l.takeWhile (· != 10)).length
def lexM : Nat → Nat → List UInt8 → LR
  | 0, _, _ => .ok []
  | f + 1, p, l => match l with
    | [] => .ok []
    | c :: r => if isBlank c then lexM f (p + 1) r else if c = 35 then lexM f (p + cutN l) (l.drop (cutN l)) else match tokM l with
      | .err e => .err p e
      | .ok k s num n => (lexM f (p + n) (l.drop n)).add ⟨k, txt s, num, p⟩
def leadM (b : Nat) : Nat × Nat × Nat :=
  if b < 128 then (1, 0, 0) else if b < 194 ∨ 244 < b then (0, 0, 0) else if b < 224 then (2, 128, 191) else if b = 224 then (3, 160, 191) else if b < 237 then (3, 128, 191) else if b = 237 then (3, 128, 159) else if b < 240 then (3, 128, 191) else if b = 240 then (4, 144, 191) else if b = 244 then (4, 128, 143) else (4, 128, 191)
def tailM (b : UInt8) : Bool := decide (128 ≤ b.toNat) && decide (b.toNat ≤ 191)
def secM (lo hi : Nat) (b : UInt8) : Bool := decide (lo ≤ b.toNat) && decide (b.toNat ≤ hi)
def widM (l : List UInt8) : Nat := match l with
  | [] => 0
  | b :: r => match leadM b.toNat with
    | (1, _, _) => 1
    | (2, lo, hi) => (match r with | c :: _ => if secM lo hi c then 2 else 0 | _ => 0)
    | (3, lo, hi) => (match r with | c :: d :: _ => if tailM d && secM lo hi c then 3 else 0 | _ => 0)
    | (4, lo, hi) => (match r with | c :: d :: e :: _ => if tailM e && tailM d && secM lo hi c then 4 else 0 | _ => 0)
    | _ => 0
def badM : Nat → Nat → List UInt8 → Option Nat
  | 0, _, _ => none
  | f + 1, p, l => match l with
    | [] => none
    | _ :: _ => if widM l = 0 then some p else badM f (p + widM l) (l.drop (widM l))
def lexT (l : List UInt8) : LR := if 4096 < l.length then .err 0 200 else match badM l.length 0 l with
  | some i => .err i 200
  | none => lexM l.length 0 l
theorem tokM_err {l : List UInt8} {c : Int} (h : tokM l = .err c) : c ≠ 0 := by
  have hs : sgnM l = .err c → c ≠ 0 := fun h => by
    unfold sgnM at h
    split at h
    · cases h; decide
    · split at h
      · split at h <;> cases h
      · cases h; decide
  unfold tokM at h
  split at h
  · exact hs h
  · split at h
    · exact hs h
    · split at h
      · split at h
        · cases h
        · cases h; decide
      · split at h
        · cases h
        · split at h
          · cases h
          · cases h; decide
theorem lexM_err : ∀ (f p : Nat) (l : List UInt8) (a : Nat) (c : Int), lexM f p l = .err a c → c ≠ 0 := by
  intro f
  induction f with
  | zero => intro p l a c h; cases h
  | succ f ih =>
    intro p l a c h
    simp only [lexM] at h
    split at h
    · cases h
    · split at h
      · exact ih _ _ _ _ h
      · split at h
        · exact ih _ _ _ _ h
        · split at h
          · rename_i e he
            cases h
            exact tokM_err he
          · rename_i k s num n he
            cases hr : lexM f (p + n) (List.drop n _) with
            | err a' c' => rw [hr] at h; cases h; exact ih _ _ _ _ hr
            | ok ts => rw [hr] at h; cases h
theorem lexT_err {l : List UInt8} {a : Nat} {c : Int} (h : lexT l = .err a c) : c ≠ 0 := by
  unfold lexT at h
  split at h
  · cases h; decide
  · split at h
    · cases h; decide
    · exact lexM_err _ _ _ _ _ h
end Go.Ev.Lm

namespace Go.Proofs.YtppcjlplihiiiaaDoor.Sy
open Go Go.Ev Go.Ev.Pm Go.Ev.Lm
set_option linter.unusedVariables false
set_option linter.unusedSimpArgs false
set_option linter.unusedSectionVars false
theorem fr_cell {S : Nat → Prop} {m m1 : Mem} (h : Fr S m m1) {b : Nat} (hb : b < m.next) (hn : ¬ S b) (i : Nat) : m1.cell b i = m.cell b i := by
  unfold Mem.cell
  rw [(h.eq b hb hn).1]
def keywordsL : List UInt8 := [102, 117, 110, 32, 108, 101, 116, 32, 114, 101, 99, 32, 105, 110, 32, 105, 102, 32, 116, 104, 101, 110, 32, 101, 108, 115, 101, 32, 104, 97, 110, 100, 108, 101, 32, 119, 105, 116, 104, 32, 114, 101, 116, 117, 114, 110, 32, 101, 110, 100, 32, 100, 111, 32, 111, 112, 32, 116, 114, 117, 101, 32, 102, 97, 108, 115, 101, 32, 105, 110, 116, 32, 98, 111, 111, 108]
abbrev F0 : Nat → Prop := fun _ => False
structure LH (xb : XB) (ext : CallF) : Prop where
  no : ∀ (f : Nat) (a : List V) (m : Mem), f ∉ XS → ext f a m = none
  idx : ∀ (l : List UInt8) (m : Mem), Good m.gl → l.length ≤ 4096 → ∃ r : Int, ext 55 [vs (txt l), vs (txt [10])] m = some (.int .i64 r, m) ∧ (r = cutN l ∧ cutN l < l.length ∨ r = -1 ∧ cutN l = l.length)
  kws : ∀ m, Good m.gl → ∃ g m1, ext 58 [vs (txt keywordsL), vs (txt [32])] m = some (.sl g 0 17 17 1, m1) ∧ Fr F0 m m1 ∧ g < m1.next ∧ ∀ j k, kwL[j]? = some k → m1.cell g j = some (vs (txt k))
  toldN : ∀ m, Good m.gl → ext 16 [.nili] m = some (.tup [.int .i64 0, .int .i64 0], m)
  toldE : ∀ m fb a c, Good m.gl → Blok m fb 67 [.int .i64 a, .iface 28 (.int .i64 c)] → ext 16 [.iface 65 (.ptr fb 0)] m = some (.tup [.int .i64 a, .int .i64 c], m)
  toldW : ∀ m fb wb a s, Good m.gl → Blok m fb 67 [.int .i64 a, .iface 52 (.ptr wb 0)] → Blok m wb 54 [vs s] → ext 16 [.iface 65 (.ptr fb 0)] m = some (.tup [.int .i64 a, .int .i64 403], m)
  xi : ∀ (l : List UInt8) (c : UInt8) (m : Mem), xb 63 [vs (txt l), .int .u8 (c.toNat : Nat)] m = some (.int .i64 (findByte (bytesOf (txt l)) c.toNat l.length 0), m)
theorem tw_at (p : UInt8 → Bool) : ∀ (l : List UInt8) (i : Nat), i ≤ l.length → (l.take i).all p = true → (∀ c, l[i]? = some c → p c = false) → l.takeWhile p = l.take i := by
  intro l
  induction l with
  | nil => intro i hi _ _; simp
  | cons c r ih =>
    intro i hi ha hn
    cases i with
    | zero =>
      have := hn c rfl
      simp [List.takeWhile, this]
    | succ i =>
      simp only [List.take_succ_cons, List.all_cons, Bool.and_eq_true] at ha
      simp only [List.takeWhile, ha.1, List.take_succ_cons]
      rw [ih i (by simpa using hi) ha.2 (fun c hc => hn c (by simpa using hc))]
section
variable {m : Mem} {xb : XB} {ext : CallF} (hL : LH xb ext)
include hL
theorem ib_spec (l : List UInt8) (c : UInt8) : Ev Tryd.prog xb ext 39 [vs (txt l), .int .u8 (c.toNat : Nat)] m (.int .i64 (findByte (bytesOf (txt l)) c.toNat l.length 0)) m := by
  have h1 : Ev Tryd.prog xb ext 54 [vs (txt l), .int .u8 (c.toNat : Nat)] m (.int .i64 (findByte (bytesOf (txt l)) c.toNat l.length 0)) m := by
    refine ev_val ?_
    refine ev_of (fun m => hL.no _ _ m (by decide)) Tryd.func54 rfl rfl ?_
    refine wc_seq (wc_region (wa rfl rfl (wo_nil (thenW_n (wc_seq (wc_region (wm rfl rfl (wm rfl rfl ?_))))))))
    refine wo_ext rfl rfl (by kernel_rfl) (hL.xi l c m) rfl rfl ?_
    refine wa rfl rfl (wo_nil (thenW_n (wc_ret ?_)))
    refine endW_ret rfl rfl ?_
    exact ⟨rfl, rfl⟩
  refine ev_val ?_
  refine ev_of (fun m => hL.no _ _ m (by decide)) Tryd.func39 rfl rfl ?_
  refine wc_seq (wc_region (wa rfl rfl (wo_nil (thenW_n (wc_seq (wc_region (wm rfl rfl (wm rfl rfl ?_))))))))
  refine wo_call rfl rfl (by kernel_rfl) (h1) rfl rfl ?_
  refine wa rfl rfl (wo_nil (thenW_n (wc_ret ?_)))
  refine endW_ret rfl rfl ?_
  exact ⟨rfl, rfl⟩
theorem of_spec (l : List UInt8) (c : UInt8) : Ev Tryd.prog xb ext 27 [.int .u8 (c.toNat : Nat), vs (txt l)] m (.bool (decide (c ∈ l))) m := by
  have h1 := ib_spec (m := m) hL l c
  have hf := findByte_mem l c l.length 0 (by omega)
  rw [List.drop_zero] at hf
  generalize findByte (bytesOf (txt l)) c.toNat l.length 0 = r at h1 hf
  refine ev_val ?_
  by_cases hc : c ∈ l
  · have : 0 ≤ r := by
      simp only [hc, decide_true, Bool.not_true] at hf
      rw [← Bool.not_eq_true, intLt_iff] at hf; omega
    refine ev_of (fun m => hL.no _ _ m (by decide)) Tryd.func27 rfl rfl ?_
    refine wc_seq (wc_region (wa rfl rfl (wo_nil (thenW_n (wc_seq (wc_region (wm rfl rfl (wm rfl rfl ?_))))))))
    refine wo_call rfl rfl (by kernel_rfl) (h1) rfl rfl ?_
    refine wo_n rfl (nv_geqT rfl rfl rfl (by first | assumption | decide | omega)) rfl rfl (wa rfl rfl (wo_nil (thenW_n (wc_ret ?_))))
    refine endW_ret rfl rfl ?_
    exact ⟨rfl, by simp [hc]⟩
  · have : r < 0 := by
      simp only [hc, decide_false, Bool.not_false] at hf
      exact (intLt_iff _ _).1 hf
    refine ev_of (fun m => hL.no _ _ m (by decide)) Tryd.func27 rfl rfl ?_
    refine wc_seq (wc_region (wa rfl rfl (wo_nil (thenW_n (wc_seq (wc_region (wm rfl rfl (wm rfl rfl ?_))))))))
    refine wo_call rfl rfl (by kernel_rfl) (h1) rfl rfl ?_
    refine wo_n rfl (nv_geqF rfl rfl rfl (by first | assumption | decide | omega)) rfl rfl (wa rfl rfl (wo_nil (thenW_n (wc_ret ?_))))
    refine endW_ret rfl rfl ?_
    exact ⟨rfl, by simp [hc]⟩
theorem run_spec (l s : List UInt8) (hl : l.length ≤ 4096) : Ev Tryd.prog xb ext 41 [vs (txt l), vs (txt s)] m (vs (txt (l.takeWhile fun c => decide (c ∈ s)))) m := by
  refine ev_val ?_
  refine ev_of (fun m => hL.no _ _ m (by decide)) Tryd.func41 rfl rfl ?_
  refine wc_seq (wc_region (wa rfl rfl (wo_nil (thenW_n (wc_seq (wc_region (wa rfl rfl (wo_nil (thenW_n ?_)))))))))
  refine wc_seq (wc_block ?_)
  refine wc_loop (fun n e m' => ∃ i : Nat, n = l.length - i ∧ i ≤ l.length ∧ m' = m ∧ ELe (envL [(0, vs (txt l)), (1, vs (txt s)), (5, .int .i64 (i : Nat))]) e ∧ (l.take i).all (fun c => decide (c ∈ s)) = true) l.length ⟨0, rfl, by omega, rfl, ?_, rfl⟩ ?_
  · exact .cons rfl (.cons rfl (.cons rfl (.nil _)))
  rintro n e mj ⟨i, rfl, hi, rfl, he, ha⟩
  refine Wc.weak ?_ he
  rcases Nat.lt_or_ge i l.length with hlt | hge
  · have hc : l[i]? = some l[i] := List.getElem?_eq_getElem hlt
    generalize l[i] = c at hc
    have ho := of_spec (m := mj) hL s c
    by_cases hs : c ∈ s
    · simp only [hs, decide_true] at ho
      refine wc_seq (wc_seq (wc_region (wm rfl rfl (wm rfl rfl ?_))))
      first
        | refine wo_n rfl (nv_lenL rfl rfl rfl) rfl rfl ?_
        | refine wo_n rfl (nv_lenT rfl rfl rfl) rfl rfl ?_
      refine wo_n rfl (nv_lssT rfl rfl rfl (by first | assumption | decide | omega)) rfl rfl (wm rfl rfl (wm rfl rfl (wm rfl rfl (wo_n rfl (nv_ixS rfl rfl rfl (by assumption)) rfl rfl (wm rfl rfl ?_)))))
      refine wo_call rfl rfl (by kernel_rfl) (ho) rfl rfl ?_
      refine wp rfl rfl rfl (wo_nil (thenW_n (wc_true rfl (wc_skip (thenW_n (wc_block (wc_region (wm rfl rfl ?_))))))))
      refine wo_n rfl (nv_add rfl rfl rfl rfl (by first | decide | omega) (by first | decide | omega)) rfl rfl ?_
      refine wa rfl rfl (wo_nil (blockW_n ?_))
      refine ⟨l.length - (i + 1), by omega, i + 1, rfl, by omega, rfl, .cons rfl (.cons rfl (.cons rfl (.nil _))), ?_⟩
      rw [List.take_add_one, hc, List.all_append, ha]
      simp [hs]
    · simp only [hs, decide_false] at ho
      refine wc_seq (wc_seq (wc_region (wm rfl rfl (wm rfl rfl ?_))))
      first
        | refine wo_n rfl (nv_lenL rfl rfl rfl) rfl rfl ?_
        | refine wo_n rfl (nv_lenT rfl rfl rfl) rfl rfl ?_
      refine wo_n rfl (nv_lssT rfl rfl rfl (by first | assumption | decide | omega)) rfl rfl (wm rfl rfl (wm rfl rfl (wm rfl rfl (wo_n rfl (nv_ixS rfl rfl rfl (by assumption)) rfl rfl (wm rfl rfl ?_)))))
      refine wo_call rfl rfl (by kernel_rfl) (ho) rfl rfl ?_
      refine wp rfl rfl rfl (wo_nil (thenW_n (wc_false rfl (wc_exit (thenW_x ?_)))))
      refine blockW_x (thenW_n (wc_seq (wc_region (wm rfl rfl (wm rfl rfl (wo_n rfl (nv_slT rfl rfl rfl (by first | assumption | (simp only [List.length_drop, List.length_take]; omega) | omega)) rfl rfl (wa rfl rfl (wo_nil (thenW_n ?_)))))))))
      refine wc_ret ?_
      refine endW_ret rfl rfl ?_
      refine ⟨rfl, ?_⟩
      rw [tw_at _ l i hi ha (fun d hd => by rw [hc] at hd; cases hd; simp [hs])]
  · have : i = l.length := by omega
    subst this
    refine wc_seq (wc_seq (wc_region (wm rfl rfl (wm rfl rfl ?_))))
    first
      | refine wo_n rfl (nv_lenL rfl rfl rfl) rfl rfl ?_
      | refine wo_n rfl (nv_lenT rfl rfl rfl) rfl rfl ?_
    refine wo_n rfl (nv_lssF rfl rfl rfl (by first | assumption | decide | omega)) rfl rfl (wm rfl rfl (wg rfl (wg rfl (wg rfl (wg rfl (wg rfl (wq rfl rfl rfl (wo_nil (thenW_n ?_)))))))))
    refine wc_false rfl (wc_exit (thenW_x ?_))
    refine blockW_x (thenW_n (wc_seq (wc_region (wm rfl rfl (wm rfl rfl (wo_n rfl (nv_slT rfl rfl rfl (by first | assumption | (simp only [List.length_drop, List.length_take]; omega) | omega)) rfl rfl (wa rfl rfl (wo_nil (thenW_n ?_)))))))))
    refine wc_ret ?_
    refine endW_ret rfl rfl ?_
    refine ⟨rfl, ?_⟩
    rw [tw_at _ l l.length (Nat.le_refl _) ha (fun d hd => by simp at hd)]
theorem index_spec {g n : Nat} {ks : List (List UInt8)} (hn : ks.length = n) (hn2 : n ≤ 100) (hk : ∀ j k, ks[j]? = some k → m.cell g (0 + j * 1) = some (vs (txt k))) (l : List UInt8) : ∃ r : Int, Ev Tryd.prog xb ext 67 [.sl g 0 n n 1, vs (txt l)] m (.int .i64 r) m ∧ (0 ≤ r ↔ l ∈ ks) := by
  suffices hh : ∃ v m', Ev Tryd.prog xb ext 67 [.sl g 0 n n 1, vs (txt l)] m v m' ∧ (m' = m ∧ ∃ r : Int, v = .int .i64 r ∧ (0 ≤ r ↔ l ∈ ks)) by
    obtain ⟨v, m', h1, rfl, r, rfl, h2⟩ := hh
    exact ⟨r, h1, h2⟩
  refine ev_of (fun m => hL.no _ _ m (by decide)) Tryd.func67 rfl rfl ?_
  refine wc_seq (wc_region (wa rfl rfl (wo_nil (thenW_n (wc_seq (wc_seq (wc_region (wm rfl rfl ?_))))))))
  first
    | refine wo_n rfl (nv_lenS rfl rfl rfl) rfl rfl ?_
    | refine wo_n rfl (nv_lenN rfl rfl rfl) rfl rfl ?_
    | refine wo_n rfl (nv_lenR (by assumption) rfl rfl rfl) rfl rfl ?_
  refine wm rfl rfl (wo_nil (thenW_n (wc_block ?_)))
  refine wc_loop (fun q e m' => ∃ i : Nat, q = n - i ∧ i ≤ n ∧ m' = m ∧ ELe (envL [(0, .sl g 0 n n 1), (1, vs (txt l)), (7, .int .i64 (n : Nat)), (8, .int .i64 (i : Nat))]) e ∧ ∀ j k, j < i → ks[j]? = some k → l ≠ k) n ⟨0, rfl, by omega, rfl, ?_, fun j k hj => by omega⟩ ?_
  · exact .cons rfl (.cons rfl (.cons rfl (.cons rfl (.nil _))))
  rintro q e mj ⟨i, rfl, hi, rfl, he, ha⟩
  refine Wc.weak ?_ he
  rcases Nat.lt_or_ge i n with hlt | hge
  · have hc : ks[i]? = some (ks[i]'(by omega)) := List.getElem?_eq_getElem _
    generalize ks[i]'(by omega) = k at hc
    have hcell := hk i k hc
    by_cases hs : l = k
    · have hs' : txt l = txt k := by rw [hs]
      refine wc_seq (wc_region (wo_n rfl (nv_lssT rfl rfl rfl (by first | assumption | decide | omega)) rfl rfl (wo_nil (thenW_n (wc_seq (wc_true rfl (wc_skip (thenW_n (wc_seq ?_)))))))))
      refine wc_block (wc_seq (wc_region (wm rfl rfl (wa rfl rfl (wo_nil (thenW_n (wc_seq (wc_region (wm rfl rfl ?_)))))))))
      refine wm rfl rfl (wm rfl rfl ?_)
      refine wo_n rfl (nv_ia rfl rfl rfl (ia_sl (by first | assumption | omega))) rfl rfl ?_
      refine wo_m rfl (mv_load rfl rfl (by assumption)) rfl rfl ?_
      refine wo_n rfl (nv_seqlT  rfl rfl rfl (by assumption)) rfl rfl (wo_nil (thenW_n (wc_true rfl (wc_seq (wc_region (wm rfl rfl (wa rfl rfl (wo_nil (thenW_n ?_)))))))))
      refine wc_ret (blockW_r (thenW_r ?_))
      refine blockW_r (thenW_r ?_)
      refine endW_ret rfl rfl ?_
      exact ⟨rfl, _, rfl, by rw [hs]; exact ⟨fun _ => List.mem_of_getElem? hc, fun _ => by omega⟩⟩
    · have hs' : txt l ≠ txt k := fun e => hs (txt_inj e)
      refine wc_seq (wc_region (wo_n rfl (nv_lssT rfl rfl rfl (by first | assumption | decide | omega)) rfl rfl (wo_nil (thenW_n (wc_seq (wc_true rfl (wc_skip (thenW_n (wc_seq ?_)))))))))
      refine wc_block (wc_seq (wc_region (wm rfl rfl (wa rfl rfl (wo_nil (thenW_n (wc_seq (wc_region (wm rfl rfl ?_)))))))))
      refine wm rfl rfl (wm rfl rfl ?_)
      refine wo_n rfl (nv_ia rfl rfl rfl (ia_sl (by first | assumption | omega))) rfl rfl ?_
      refine wo_m rfl (mv_load rfl rfl (by assumption)) rfl rfl ?_
      refine wo_n rfl (nv_seqlF  rfl rfl rfl (by assumption)) rfl rfl (wo_nil (thenW_n (wc_false rfl (wc_skip (blockW_n (thenW_n (wc_region ?_)))))))
      refine wo_n rfl (nv_add rfl rfl rfl rfl (by first | decide | omega) (by first | decide | omega)) rfl rfl ?_
      refine wm rfl rfl (wo_nil ?_)
      refine ⟨n - (i + 1), by omega, i + 1, rfl, by omega, rfl, .cons rfl (.cons rfl (.cons rfl (.cons rfl (.nil _)))), fun j k' hj hk' => ?_⟩
      rcases Nat.lt_or_ge j i with h1 | h1
      · exact ha j k' h1 hk'
      · have : j = i := by omega
        subst this; rw [hc] at hk'; cases hk'; exact hs
  · have : i = n := by omega
    subst this
    refine wc_seq (wc_region (wo_n rfl (nv_lssF rfl rfl rfl (by first | assumption | decide | omega)) rfl rfl (wo_nil (thenW_n (wc_seq (wc_false rfl (wc_exit (thenW_x ?_))))))))
    refine blockW_x (thenW_n (wc_seq (wc_region (wa rfl rfl (wo_nil (thenW_n (wc_ret ?_)))))))
    refine endW_ret rfl rfl ?_
    refine ⟨rfl, _, rfl, ⟨fun h => by omega, fun h => ?_⟩⟩
    obtain ⟨j, hj, hjk⟩ := List.getElem_of_mem h
    exact absurd hjk.symm (ha j _ (by omega) (List.getElem?_eq_getElem hj))
theorem contains_spec {g n : Nat} {ks : List (List UInt8)} (hn : ks.length = n) (hn2 : n ≤ 100) (hk : ∀ j k, ks[j]? = some k → m.cell g (0 + j * 1) = some (vs (txt k))) (l : List UInt8) : Ev Tryd.prog xb ext 57 [.sl g 0 n n 1, vs (txt l)] m (.bool (ks.contains l)) m := by
  obtain ⟨r, hr, hi⟩ := index_spec hL hn hn2 hk l
  refine ev_val ?_
  by_cases hc : l ∈ ks
  · have := hi.2 hc
    refine ev_of (fun m => hL.no _ _ m (by decide)) Tryd.func57 rfl rfl ?_
    refine wc_seq (wc_region (wa rfl rfl (wo_nil (thenW_n (wc_seq (wc_region (wm rfl rfl (wm rfl rfl ?_))))))))
    refine wo_call rfl rfl (by kernel_rfl) (hr) rfl rfl ?_
    refine wo_n rfl (nv_geqT rfl rfl rfl (by first | assumption | decide | omega)) rfl rfl (wa rfl rfl (wo_nil (thenW_n (wc_ret ?_))))
    refine endW_ret rfl rfl ?_
    exact ⟨rfl, by simp [hc]⟩
  · have : r < 0 := by
      have := mt hi.1 hc; omega
    refine ev_of (fun m => hL.no _ _ m (by decide)) Tryd.func57 rfl rfl ?_
    refine wc_seq (wc_region (wa rfl rfl (wo_nil (thenW_n (wc_seq (wc_region (wm rfl rfl (wm rfl rfl ?_))))))))
    refine wo_call rfl rfl (by kernel_rfl) (hr) rfl rfl ?_
    refine wo_n rfl (nv_geqF rfl rfl rfl (by first | assumption | decide | omega)) rfl rfl (wa rfl rfl (wo_nil (thenW_n (wc_ret ?_))))
    refine endW_ret rfl rfl ?_
    exact ⟨rfl, by simp [hc]⟩
theorem keyword_spec (hg : Good m.gl) (l : List UInt8) : ∃ m', Ev Tryd.prog xb ext 44 [vs (txt l)] m (.bool (kw l)) m' ∧ Fr F0 m m' := by
  obtain ⟨g, m1, h1, f1, hgm, hk⟩ := hL.kws m hg
  have h1' := ev_ext (p := Tryd.prog) (xb := xb) h1
  have h2 := contains_spec (m := m1) hL (g := g) (n := 17) (ks := kwL) rfl (by omega) (fun j k h => by rw [Nat.zero_add, Nat.mul_one]; exact hk j k h) l
  refine ev_to ?_
  refine ev_of (fun m => hL.no _ _ m (by decide)) Tryd.func44 rfl rfl ?_
  refine wc_seq (wc_region (wa rfl rfl (wo_nil (thenW_n (wc_seq (wc_region ?_))))))
  refine wo_call rfl rfl (by kernel_rfl) (h1') rfl rfl ?_
  refine wm rfl rfl ?_
  refine wo_call rfl rfl (by kernel_rfl) (h2) rfl rfl ?_
  refine wa rfl rfl (wo_nil (thenW_n (wc_ret ?_)))
  refine endW_ret rfl rfl ?_
  exact ⟨rfl, f1⟩
theorem prefix_spec (l w : List UInt8) (hl : l.length ≤ 4096) : Ev Tryd.prog xb ext 42 [vs (txt l), vs (txt w)] m (.bool (hasP w l)) m := by
  have h1 : Ev Tryd.prog xb ext 56 [vs (txt l), vs (txt w)] m (.bool (hasP w l)) m := by
    refine ev_val ?_
    rcases Nat.lt_or_ge l.length w.length with hlt | hge
    · refine ev_of (fun m => hL.no _ _ m (by decide)) Tryd.func56 rfl rfl ?_
      refine wc_seq (wc_region (wa rfl rfl (wo_nil (thenW_n (wc_seq (wc_region (wm rfl rfl ?_)))))))
      first
        | refine wo_n rfl (nv_lenL rfl rfl rfl) rfl rfl ?_
        | refine wo_n rfl (nv_lenT rfl rfl rfl) rfl rfl ?_
      refine wm rfl rfl ?_
      first
        | refine wo_n rfl (nv_lenL rfl rfl rfl) rfl rfl ?_
        | refine wo_n rfl (nv_lenT rfl rfl rfl) rfl rfl ?_
      refine wo_n rfl (nv_geqF rfl rfl rfl (by first | assumption | decide | omega)) rfl rfl (wm rfl rfl (wg rfl (wg rfl (wg rfl (wg rfl (wg rfl (wg rfl (wq rfl rfl rfl (wa rfl rfl ?_)))))))))
      refine wo_nil (thenW_n (wc_ret ?_))
      refine endW_ret rfl rfl ?_
      refine ⟨rfl, ?_⟩
      have : hasP w l = false := by
        unfold hasP
        rw [List.take_of_length_le (by omega)]
        simp only [beq_eq_false_iff_ne, ne_eq]
        intro e; rw [e] at hlt; omega
      rw [this]
    · by_cases he : l.take w.length = w
      · have he' : txt (l.take w.length) = txt w := by rw [he]
        refine ev_of (fun m => hL.no _ _ m (by decide)) Tryd.func56 rfl rfl ?_
        refine wc_seq (wc_region (wa rfl rfl (wo_nil (thenW_n (wc_seq (wc_region (wm rfl rfl ?_)))))))
        first
          | refine wo_n rfl (nv_lenL rfl rfl rfl) rfl rfl ?_
          | refine wo_n rfl (nv_lenT rfl rfl rfl) rfl rfl ?_
        refine wm rfl rfl ?_
        first
          | refine wo_n rfl (nv_lenL rfl rfl rfl) rfl rfl ?_
          | refine wo_n rfl (nv_lenT rfl rfl rfl) rfl rfl ?_
        refine wo_n rfl (nv_geqT rfl rfl rfl (by first | assumption | decide | omega)) rfl rfl (wm rfl rfl (wm rfl rfl (wm rfl rfl ?_)))
        first
          | refine wo_n rfl (nv_lenL rfl rfl rfl) rfl rfl ?_
          | refine wo_n rfl (nv_lenT rfl rfl rfl) rfl rfl ?_
        refine wo_n rfl (nv_slT rfl rfl rfl (by first | assumption | (simp only [List.length_drop, List.length_take]; omega) | omega)) rfl rfl (wm rfl rfl (wo_n rfl (nv_seqlT  rfl rfl rfl (by assumption)) rfl rfl (wp rfl rfl rfl (wa rfl rfl (wo_nil (thenW_n (wc_ret ?_)))))))
        refine endW_ret rfl rfl ?_
        exact ⟨rfl, by simp [hasP, he]⟩
      · have he' : txt (l.take w.length) ≠ txt w := fun e => he (txt_inj e)
        refine ev_of (fun m => hL.no _ _ m (by decide)) Tryd.func56 rfl rfl ?_
        refine wc_seq (wc_region (wa rfl rfl (wo_nil (thenW_n (wc_seq (wc_region (wm rfl rfl ?_)))))))
        first
          | refine wo_n rfl (nv_lenL rfl rfl rfl) rfl rfl ?_
          | refine wo_n rfl (nv_lenT rfl rfl rfl) rfl rfl ?_
        refine wm rfl rfl ?_
        first
          | refine wo_n rfl (nv_lenL rfl rfl rfl) rfl rfl ?_
          | refine wo_n rfl (nv_lenT rfl rfl rfl) rfl rfl ?_
        refine wo_n rfl (nv_geqT rfl rfl rfl (by first | assumption | decide | omega)) rfl rfl (wm rfl rfl (wm rfl rfl (wm rfl rfl ?_)))
        first
          | refine wo_n rfl (nv_lenL rfl rfl rfl) rfl rfl ?_
          | refine wo_n rfl (nv_lenT rfl rfl rfl) rfl rfl ?_
        refine wo_n rfl (nv_slT rfl rfl rfl (by first | assumption | (simp only [List.length_drop, List.length_take]; omega) | omega)) rfl rfl (wm rfl rfl (wo_n rfl (nv_seqlF  rfl rfl rfl (by assumption)) rfl rfl (wp rfl rfl rfl (wa rfl rfl (wo_nil (thenW_n (wc_ret ?_)))))))
        refine endW_ret rfl rfl ?_
        exact ⟨rfl, by simp [hasP, he]⟩
  refine ev_val ?_
  refine ev_of (fun m => hL.no _ _ m (by decide)) Tryd.func42 rfl rfl ?_
  refine wc_seq (wc_region (wa rfl rfl (wo_nil (thenW_n (wc_seq (wc_region (wm rfl rfl (wm rfl rfl ?_))))))))
  refine wo_call rfl rfl (by kernel_rfl) (h1) rfl rfl ?_
  refine wa rfl rfl (wo_nil (thenW_n (wc_ret ?_)))
  refine endW_ret rfl rfl ?_
  exact ⟨rfl, rfl⟩
end
theorem cut_not (l : List UInt8) : ∀ i, i < cutN l → l[i]? ≠ some 10 := by
  induction l with
  | nil => intro i h; simp [cutN] at h
  | cons c r ih =>
    intro i h
    unfold cutN at h
    rw [List.takeWhile_cons] at h
    split at h
    · rename_i hc
      cases i with
      | zero => simp at hc ⊢; exact hc
      | succ i => simp at h ⊢; exact ih i h
    · simp at h
theorem cut_at (l : List UInt8) : cutN l < l.length → l[cutN l]? = some 10 := by
  induction l with
  | nil => intro h; simp at h
  | cons c r ih =>
    intro h
    unfold cutN at h ⊢
    rw [List.takeWhile_cons] at h ⊢
    split at h
    · rename_i hc
      rw [if_pos hc]
      simp at h ⊢
      exact ih h
    · rename_i hc
      rw [if_neg hc]
      simpa using hc
theorem cut_le (l : List UInt8) : cutN l ≤ l.length := (List.takeWhile_sublist _).length_le
theorem occ10 (l : List UInt8) (i : Nat) : Lib.occAt l [10] i = decide (l[i]? = some 10) := by
  unfold Lib.occAt
  rcases Nat.lt_or_ge i l.length with h | h
  · rw [List.drop_eq_getElem_cons h, List.getElem?_eq_getElem h]
    show ((10 == l[i]) && true) = decide (some l[i] = some 10)
    rw [Bool.and_true, Bool.eq_iff_iff, beq_iff_eq, decide_eq_true_iff, Option.some.injEq]
    exact ⟨fun h => h.symm, fun h => h.symm⟩
  · rw [List.drop_eq_nil_of_le h, List.getElem?_eq_none h]; rfl
theorem index10 (l : List UInt8) {r : Int} (hr : r = Lib.index l [10]) : r = (cutN l : Int) ∧ cutN l < l.length ∨ r = -1 ∧ cutN l = l.length := by
  have hle := cut_le l
  rcases Nat.lt_or_ge (cutN l) l.length with h | h
  · left
    refine ⟨?_, h⟩
    rw [hr]
    refine Lib.index_first hle (by rw [occ10, cut_at l h]; rfl) fun j hj => ?_
    rw [occ10]
    exact decide_eq_false (cut_not l j hj)
  · right
    refine ⟨?_, by omega⟩
    rw [hr]
    refine Lib.index_none fun j hj => ?_
    rw [occ10]
    rcases Nat.lt_or_ge j (cutN l) with h1 | h1
    · exact decide_eq_false (cut_not l j h1)
    · rw [List.getElem?_eq_none (by omega)]; rfl
end Go.Proofs.YtppcjlplihiiiaaDoor.Sy

namespace Go.Proofs.YtppcjlplihiiiaaDoor.Sy
open Go Go.Ev Go.Ev.Pm
set_option linter.unusedVariables false
set_option linter.unusedSimpArgs false
def ndC (x : Nd) : List V := [.int .i64 x.k, .int .i64 x.a, .int .i64 x.b, .int .i64 x.c, .int .i64 x.num, vs x.nm, vs x.x, vs x.y, vs x.z, .int .i64 x.at_]
def odC (x : Od) : List V := [vs x.nm, .int .i64 x.fr, .int .i64 x.to]
structure TokAt (m : Mem) (b o : Nat) (t : Tk) : Prop where
  k : m.cell b (o + 0) = some (.int .i64 t.kind)
  s : m.cell b (o + 1) = some (vs t.text)
  n : m.cell b (o + 2) = some (.int .i64 t.num)
  a : m.cell b (o + 3) = some (.int .i64 t.at_)
noncomputable def elOf (m : Mem) (b : Nat) : Option Nat := match m.blks.get b with
  | some (.cells k) => some k.el
  | _ => none
inductive TokR (m : Mem) (own : Nat → Prop) : V → List Tk → Prop
  | nil : TokR m own .nils []
  | sl (b off c n : Nat) (ts : List Tk) (hn : n = ts.length) (h : ∀ (i : Nat) (t : Tk), ts[i]? = some t → TokAt m b (off + i * 4) t) (hc : n ≤ c) (ho : ¬ own b) (hb : b < m.next) (he : elOf m b = some 62) : TokR m own (.sl b off n c 4) ts
inductive ErrR (m : Mem) (own : Nat → Prop) : V → Option (Int × Int) → Prop
  | none : ErrR m own .nili none
  | errno (fb : Nat) (c a : Int) (h : Blok m fb 67 [.int .i64 a, .iface 28 (.int .i64 c)]) (ho : ¬ own fb) : ErrR m own (.iface 65 (.ptr fb 0)) (some (c, a))
  | want (fb wb : Nat) (s : ByteArray) (a : Int) (h : Blok m fb 67 [.int .i64 a, .iface 52 (.ptr wb 0)]) (hw : Blok m wb 54 [vs s]) (ho : ¬ own fb) (hv : ¬ own wb) : ErrR m own (.iface 65 (.ptr fb 0)) (some (403, a))
def own (pb : Nat) (oN oO : Nat → Prop) (x : Nat) : Prop := x = pb ∨ oN x ∨ oO x
structure Parts (m : Mem) (E : Int) (pb : Nat) (oN oO : Nat → Prop) (P : PS) (tv ov nv ev : V) : Prop where
  obj : Blok m pb 46 [tv, .int .i64 E, ov, nv, ev, .int .i64 P.deep]
  toks : TokR m (own pb oN oO) tv P.toks
  ops : RowR m oO 36 3 ov (P.ops.flatMap odC) P.ops.length
  ns : RowR m oN 38 10 nv (P.ns.flatMap ndC) P.ns.length
  err : ErrR m (own pb oN oO) ev P.err
structure Rep (m : Mem) (E : Int) (pb : Nat) (oN oO : Nat → Prop) (P : PS) : Prop where
  ex : ∃ tv ov nv ev, Parts m E pb oN oO P tv ov nv ev
  dN : ¬ oN pb
  dO : ¬ oO pb
  dd : ∀ x, oN x → ¬ oO x
  nl : P.ns.length ≤ 512
  ol : P.ops.length ≤ 4
  d0 : 0 ≤ P.deep
  d1 : P.deep ≤ 40
  nw : New m
  lN : ∀ x, oN x → x < m.next
  lO : ∀ x, oO x → x < m.next
  gl : Good m.gl
theorem Rep.lt {m : Mem} {E : Int} {pb : Nat} {oN oO : Nat → Prop} {P : PS} (h : Rep m E pb oN oO P) {x : Nat} (hx : own pb oN oO x) : x < m.next := by
  rcases hx with rfl | hx | hx
  · obtain ⟨_, _, _, _, hp⟩ := h.ex
    exact hp.obj.lt
  · exact h.lN x hx
  · exact h.lO x hx
theorem TokAt.fr {S : Nat → Prop} {m m1 : Mem} {b o : Nat} {t : Tk} (h : TokAt m b o t) (f : Fr S m m1) (hb : b < m.next) (hn : ¬ S b) : TokAt m1 b o t :=
  ⟨(fr_cell f hb hn _).trans h.k, (fr_cell f hb hn _).trans h.s, (fr_cell f hb hn _).trans h.n, (fr_cell f hb hn _).trans h.a⟩
theorem TokR.fr {S own own' : Nat → Prop} {m m1 : Mem} {v : V} {ts : List Tk} (h : TokR m own v ts) (f : Fr S m m1) (hs : ∀ x, x < m.next → S x → own x) (ho : ∀ x, x < m.next → own' x → own x) : TokR m1 own' v ts := by
  cases h with
  | nil => exact .nil
  | sl b off c n ts hn h hc ho' hb he =>
    have hS : ¬ S b := fun k => ho' (hs b hb k)
    exact .sl b off c n ts hn (fun i t ht => (h i t ht).fr f hb hS) hc (fun k => ho' (ho b hb k)) (Nat.lt_of_lt_of_le hb f.le) (by unfold elOf at he ⊢; rw [(f.eq b hb hS).1]; exact he)
theorem TokR.far {S own own' : Nat → Prop} {m m1 : Mem} {v : V} {ts : List Tk} (h : TokR m own v ts) (f : Fr S m m1) (hs : ∀ x, elOf m x = some 62 → ¬ S x) (ho : ∀ x, x < m.next → own' x → own x) : TokR m1 own' v ts := by
  cases h with
  | nil => exact .nil
  | sl b off c n ts hn h hc ho' hb he =>
    have hS : ¬ S b := hs b he
    exact .sl b off c n ts hn (fun i t ht => (h i t ht).fr f hb hS) hc (fun k => ho' (ho b hb k)) (Nat.lt_of_lt_of_le hb f.le) (by unfold elOf at he ⊢; rw [(f.eq b hb hS).1]; exact he)
theorem Blok.elOf {m : Mem} {b el : Nat} {cs : List V} (h : Blok m b el cs) : elOf m b = some el := by
  obtain ⟨tot, c, h1, _⟩ := h.blk
  unfold Sy.elOf; rw [h1]
theorem ErrR.far {S own own' : Nat → Prop} {m m1 : Mem} {v : V} {er : Option (Int × Int)} (h : ErrR m own v er) (f : Fr S m m1) (hs : ∀ x, elOf m x = some 67 ∨ elOf m x = some 54 → ¬ S x) (ho : ∀ x, x < m.next → own' x → own x) : ErrR m1 own' v er := by
  cases h with
  | none => exact .none
  | errno fb c a h hn => exact .errno fb c a (h.fr f (hs _ (.inl (Blok.elOf h)))) (fun k => hn (ho _ h.lt k))
  | want fb wb s a h hw hn hv => exact .want fb wb s a (h.fr f (hs _ (.inl (Blok.elOf h)))) (hw.fr f (hs _ (.inr (Blok.elOf hw)))) (fun k => hn (ho _ h.lt k)) (fun k => hv (ho _ hw.lt k))
theorem ErrR.fr {S own own' : Nat → Prop} {m m1 : Mem} {v : V} {er : Option (Int × Int)} (h : ErrR m own v er) (f : Fr S m m1) (hs : ∀ x, x < m.next → S x → own x) (ho : ∀ x, x < m.next → own' x → own x) : ErrR m1 own' v er := by
  cases h with
  | none => exact .none
  | errno fb c a h hn => exact .errno fb c a (h.fr f fun k => hn (hs _ h.lt k)) (fun k => hn (ho _ h.lt k))
  | want fb wb s a h hw hn hv => exact .want fb wb s a (h.fr f fun k => hn (hs _ h.lt k)) (hw.fr f fun k => hv (hs _ hw.lt k)) (fun k => hn (ho _ h.lt k)) (fun k => hv (ho _ hw.lt k))
section
variable {xb : XB} {ext : CallF} (hx : ∀ (f : Nat) (a : List V) (m : Mem), f ∉ XS → ext f a m = none)
variable {m : Mem} {E : Int} {pb : Nat} {oN oO : Nat → Prop} {P : PS}
def NextR (m : Mem) (own : Nat → Prop) (v : V) : Option Tk → Prop
  | none => v = .nilp
  | some t => ∃ b o, v = .ptr b o ∧ TokAt m b o t ∧ ¬ own b ∧ b < m.next
include hx
theorem next_spec (h : Rep m E pb oN oO P) : ∃ v, Ev Tryd.prog xb ext 14 [.ptr pb 0] m v m ∧ NextR m (own pb oN oO) v (next P) := by
  obtain ⟨tv, ov, nv, ev, hp⟩ := h.ex
  have h0 := hp.obj.cell (i := 0) rfl
  have h4 := hp.obj.cell (i := 4) rfl
  suffices hh : ∃ v m', Ev Tryd.prog xb ext 14 [.ptr pb 0] m v m' ∧ (m' = m ∧ NextR m (own pb oN oO) v (next P)) by
    obtain ⟨v, m', h1, rfl, h2⟩ := hh
    exact ⟨v, h1, h2⟩
  have he := hp.err
  have ht := hp.toks
  unfold next
  cases hE : P.err with
  | some c =>
    rw [hE] at he
    have : ∃ t v, ev = .iface t v := by cases he <;> exact ⟨_, _, rfl⟩
    obtain ⟨t, v, rfl⟩ := this
    refine ev_of (fun m => hx _ _ m (by decide)) Tryd.func14 rfl rfl ?_
    refine wc_seq (wc_region (wa rfl rfl (wo_nil (thenW_n (wc_seq (wc_seq (wc_region (wm rfl rfl (wk rfl rfl rfl ?_)))))))))
    refine wf rfl rfl ?_
    refine wo_m rfl (mv_load rfl rfl (by assumption)) rfl rfl ?_
    refine wo_n rfl (nv_neqI rfl rfl rfl) rfl rfl (wm rfl rfl (wg rfl (wg rfl (wg rfl (wg rfl (wg rfl (wg rfl (wp rfl rfl rfl (wo_nil ?_)))))))))
    refine thenW_n (wc_true rfl (wc_seq (wc_region (wa rfl rfl (wo_nil (thenW_n (wc_ret (thenW_r ?_))))))))
    refine endW_ret rfl rfl ?_
    exact ⟨rfl, rfl⟩
  | none =>
    rw [hE] at he
    cases he
    cases hT : P.toks with
    | nil =>
      rw [hT] at ht
      cases ht with
      | nil =>
        refine ev_of (fun m => hx _ _ m (by decide)) Tryd.func14 rfl rfl ?_
        refine wc_seq (wc_region (wa rfl rfl (wo_nil (thenW_n (wc_seq (wc_seq (wc_region (wm rfl rfl (wk rfl rfl rfl ?_)))))))))
        refine wf rfl rfl ?_
        refine wo_m rfl (mv_load rfl rfl (by assumption)) rfl rfl ?_
        refine wo_n rfl (nv_neqN rfl rfl rfl rfl) rfl rfl (wm rfl rfl (wm rfl rfl (wk rfl rfl rfl (wf rfl rfl ?_))))
        refine wo_m rfl (mv_load rfl rfl (by assumption)) rfl rfl ?_
        first
          | refine wo_n rfl (nv_lenS rfl rfl rfl) rfl rfl ?_
          | refine wo_n rfl (nv_lenN rfl rfl rfl) rfl rfl ?_
          | refine wo_n rfl (nv_lenR (by assumption) rfl rfl rfl) rfl rfl ?_
        refine wo_n rfl (nv_eqlT rfl rfl rfl (by first | assumption | decide | omega)) rfl rfl (wq rfl rfl rfl (wo_nil (thenW_n (wc_true rfl (wc_seq (wc_region (wa rfl rfl (wo_nil (thenW_n ?_)))))))))
        refine wc_ret (thenW_r ?_)
        refine endW_ret rfl rfl ?_
        exact ⟨rfl, rfl⟩
      | sl b off c n _ hn =>
        subst hn
        refine ev_of (fun m => hx _ _ m (by decide)) Tryd.func14 rfl rfl ?_
        refine wc_seq (wc_region (wa rfl rfl (wo_nil (thenW_n (wc_seq (wc_seq (wc_region (wm rfl rfl (wk rfl rfl rfl ?_)))))))))
        refine wf rfl rfl ?_
        refine wo_m rfl (mv_load rfl rfl (by assumption)) rfl rfl ?_
        refine wo_n rfl (nv_neqN rfl rfl rfl rfl) rfl rfl (wm rfl rfl (wm rfl rfl (wk rfl rfl rfl (wf rfl rfl ?_))))
        refine wo_m rfl (mv_load rfl rfl (by assumption)) rfl rfl ?_
        first
          | refine wo_n rfl (nv_lenS rfl rfl rfl) rfl rfl ?_
          | refine wo_n rfl (nv_lenN rfl rfl rfl) rfl rfl ?_
          | refine wo_n rfl (nv_lenR (by assumption) rfl rfl rfl) rfl rfl ?_
        refine wo_n rfl (nv_eqlT rfl rfl rfl (by first | assumption | decide | omega)) rfl rfl (wq rfl rfl rfl (wo_nil (thenW_n (wc_true rfl (wc_seq (wc_region (wa rfl rfl (wo_nil (thenW_n ?_)))))))))
        refine wc_ret (thenW_r ?_)
        refine endW_ret rfl rfl ?_
        exact ⟨rfl, rfl⟩
    | cons t r =>
      rw [hT] at ht
      cases ht with
      | sl b off c n _ hn hts hc ho hb =>
        rw [List.length_cons] at hn
        refine ev_of (fun m => hx _ _ m (by decide)) Tryd.func14 rfl rfl ?_
        refine wc_seq (wc_region (wa rfl rfl (wo_nil (thenW_n (wc_seq (wc_seq (wc_region (wm rfl rfl (wk rfl rfl rfl ?_)))))))))
        refine wf rfl rfl ?_
        refine wo_m rfl (mv_load rfl rfl (by assumption)) rfl rfl ?_
        refine wo_n rfl (nv_neqN rfl rfl rfl rfl) rfl rfl (wm rfl rfl (wm rfl rfl (wk rfl rfl rfl (wf rfl rfl ?_))))
        refine wo_m rfl (mv_load rfl rfl (by assumption)) rfl rfl ?_
        first
          | refine wo_n rfl (nv_lenS rfl rfl rfl) rfl rfl ?_
          | refine wo_n rfl (nv_lenN rfl rfl rfl) rfl rfl ?_
          | refine wo_n rfl (nv_lenR (by assumption) rfl rfl rfl) rfl rfl ?_
        refine wo_n rfl (nv_eqlF rfl rfl rfl (by first | assumption | decide | omega)) rfl rfl (wq rfl rfl rfl (wo_nil (thenW_n (wc_false rfl (wc_skip (thenW_n (wc_seq (wc_region (wm rfl rfl ?_)))))))))
        refine wk rfl rfl rfl (wf rfl rfl ?_)
        refine wo_m rfl (mv_load rfl rfl (by assumption)) rfl rfl ?_
        refine wo_n rfl (nv_ia rfl rfl rfl (ia_sl (i := 0) (by first | assumption | omega))) rfl rfl ?_
        refine wa rfl rfl (wo_nil (thenW_n (wc_ret ?_)))
        refine endW_ret rfl rfl ?_
        exact ⟨rfl, b, _, rfl, hts 0 t rfl, ho, hb⟩
theorem here_spec (h : Rep m E pb oN oO P) : Ev Tryd.prog xb ext 24 [.ptr pb 0] m (.int .i64 (here E P)) m := by
  obtain ⟨tv, ov, nv, ev, hp⟩ := h.ex
  have h0 := hp.obj.cell (i := 0) rfl
  have h1 := hp.obj.cell (i := 1) rfl
  have ht := hp.toks
  refine ev_val ?_
  unfold here
  cases hT : P.toks with
  | nil =>
    rw [hT] at ht
    cases ht with
    | nil =>
      refine ev_of (fun m => hx _ _ m (by decide)) Tryd.func24 rfl rfl ?_
      refine wc_seq (wc_region (wa rfl rfl (wo_nil (thenW_n (wc_seq (wc_seq (wc_region (wm rfl rfl (wk rfl rfl rfl ?_)))))))))
      refine wf rfl rfl ?_
      refine wo_m rfl (mv_load rfl rfl (by assumption)) rfl rfl ?_
      first
        | refine wo_n rfl (nv_lenS rfl rfl rfl) rfl rfl ?_
        | refine wo_n rfl (nv_lenN rfl rfl rfl) rfl rfl ?_
        | refine wo_n rfl (nv_lenR (by assumption) rfl rfl rfl) rfl rfl ?_
      refine wo_n rfl (nv_gtrF rfl rfl rfl (by first | assumption | decide | omega)) rfl rfl (wo_nil (thenW_n (wc_false rfl (wc_skip (thenW_n (wc_seq (wc_region (wm rfl rfl (wk rfl rfl rfl ?_)))))))))
      refine wf rfl rfl ?_
      refine wo_m rfl (mv_load rfl rfl (by assumption)) rfl rfl ?_
      refine wa rfl rfl (wo_nil (thenW_n (wc_ret ?_)))
      refine endW_ret rfl rfl ?_
      exact ⟨rfl, rfl⟩
    | sl b off c n _ hn =>
      subst hn
      refine ev_of (fun m => hx _ _ m (by decide)) Tryd.func24 rfl rfl ?_
      refine wc_seq (wc_region (wa rfl rfl (wo_nil (thenW_n (wc_seq (wc_seq (wc_region (wm rfl rfl (wk rfl rfl rfl ?_)))))))))
      refine wf rfl rfl ?_
      refine wo_m rfl (mv_load rfl rfl (by assumption)) rfl rfl ?_
      first
        | refine wo_n rfl (nv_lenS rfl rfl rfl) rfl rfl ?_
        | refine wo_n rfl (nv_lenN rfl rfl rfl) rfl rfl ?_
        | refine wo_n rfl (nv_lenR (by assumption) rfl rfl rfl) rfl rfl ?_
      refine wo_n rfl (nv_gtrF rfl rfl rfl (by first | assumption | decide | omega)) rfl rfl (wo_nil (thenW_n (wc_false rfl (wc_skip (thenW_n (wc_seq (wc_region (wm rfl rfl (wk rfl rfl rfl ?_)))))))))
      refine wf rfl rfl ?_
      refine wo_m rfl (mv_load rfl rfl (by assumption)) rfl rfl ?_
      refine wa rfl rfl (wo_nil (thenW_n (wc_ret ?_)))
      refine endW_ret rfl rfl ?_
      exact ⟨rfl, rfl⟩
  | cons t r =>
    rw [hT] at ht
    cases ht with
    | sl b off c n _ hn hts hc ho hb =>
      rw [List.length_cons] at hn
      have ha := (hts 0 t rfl).a
      refine ev_of (fun m => hx _ _ m (by decide)) Tryd.func24 rfl rfl ?_
      refine wc_seq (wc_region (wa rfl rfl (wo_nil (thenW_n (wc_seq (wc_seq (wc_region (wm rfl rfl (wk rfl rfl rfl ?_)))))))))
      refine wf rfl rfl ?_
      refine wo_m rfl (mv_load rfl rfl (by assumption)) rfl rfl ?_
      first
        | refine wo_n rfl (nv_lenS rfl rfl rfl) rfl rfl ?_
        | refine wo_n rfl (nv_lenN rfl rfl rfl) rfl rfl ?_
        | refine wo_n rfl (nv_lenR (by assumption) rfl rfl rfl) rfl rfl ?_
      refine wo_n rfl (nv_gtrT rfl rfl rfl (by first | assumption | decide | omega)) rfl rfl (wo_nil (thenW_n (wc_true rfl (wc_seq (wc_region (wm rfl rfl (wk rfl rfl rfl (wf rfl rfl ?_))))))))
      refine wo_m rfl (mv_load rfl rfl (by assumption)) rfl rfl ?_
      refine wo_n rfl (nv_ia rfl rfl rfl (ia_sl (i := 0) (by first | assumption | omega))) rfl rfl ?_
      refine wf rfl rfl ?_
      refine wo_m rfl (mv_load rfl rfl (by assumption)) rfl rfl ?_
      refine wa rfl rfl (wo_nil (thenW_n (wc_ret (thenW_r ?_))))
      refine endW_ret rfl rfl ?_
      exact ⟨rfl, rfl⟩
theorem is_spec (h : Rep m E pb oN oO P) (s : ByteArray) : Ev Tryd.prog xb ext 11 [.ptr pb 0, vs s] m (.bool (is P s)) m := by
  obtain ⟨v, hv, hN⟩ := next_spec (xb := xb) hx h
  refine ev_val ?_
  unfold is
  cases hT : next P with
  | none =>
    rw [hT] at hN
    cases hN
    refine ev_of (fun m => hx _ _ m (by decide)) Tryd.func11 rfl rfl ?_
    refine wc_seq (wc_region (wa rfl rfl (wo_nil (thenW_n (wc_seq (wc_region (wm rfl rfl ?_)))))))
    refine wo_call rfl rfl rfl hv rfl rfl ?_
    refine wa rfl rfl (wo_nil (thenW_n (wc_seq (wc_region (wm rfl rfl (wo_n rfl (nv_neqQ rfl rfl rfl) rfl rfl (wm rfl rfl (wg rfl (wg rfl ?_)))))))))
    refine wg rfl (wg rfl (wg rfl (wg rfl (wg rfl (wg rfl (wg rfl (wg rfl (wg rfl (wg rfl ?_)))))))))
    refine wq rfl rfl rfl (wm rfl rfl (wg rfl (wg rfl (wg rfl (wg rfl (wg rfl (wg rfl (wq rfl rfl rfl (wa rfl rfl ?_)))))))))
    refine wo_nil (thenW_n (wc_ret ?_))
    refine endW_ret rfl rfl ?_
    exact ⟨rfl, rfl⟩
  | some t =>
    rw [hT] at hN
    obtain ⟨b, o, rfl, hA, hno, hbl⟩ := hN
    have hk := hA.k
    have hs := hA.s
    unfold isT
    by_cases h3 : t.kind = 3
    · by_cases hq : t.text = s
      · refine ev_of (fun m => hx _ _ m (by decide)) Tryd.func11 rfl rfl ?_
        refine wc_seq (wc_region (wa rfl rfl (wo_nil (thenW_n (wc_seq (wc_region (wm rfl rfl ?_)))))))
        refine wo_call rfl rfl rfl hv rfl rfl ?_
        refine wa rfl rfl (wo_nil (thenW_n (wc_seq (wc_region (wm rfl rfl (wo_n rfl (nv_neqP rfl rfl rfl) rfl rfl (wm rfl rfl (wm rfl rfl (wk rfl rfl rfl ?_)))))))))
        refine wf rfl rfl ?_
        refine wo_m rfl (mv_load rfl rfl (by assumption)) rfl rfl ?_
        refine wo_n rfl (nv_eqlT rfl rfl rfl (by first | assumption | decide | omega)) rfl rfl (wm rfl rfl (wg rfl (wg rfl (wg rfl (wg rfl (wg rfl (wp rfl rfl rfl (wp rfl rfl rfl (wm rfl rfl ?_)))))))))
        refine wm rfl rfl (wk rfl rfl rfl (wf rfl rfl ?_))
        refine wo_m rfl (mv_load rfl rfl (by assumption)) rfl rfl ?_
        refine wm rfl rfl (wo_n rfl (nv_seqlT  rfl rfl rfl (by assumption)) rfl rfl (wp rfl rfl rfl (wa rfl rfl (wo_nil (thenW_n (wc_ret ?_))))))
        refine endW_ret rfl rfl ?_
        exact ⟨rfl, by simp [h3, hq, bbeq]⟩
      · refine ev_of (fun m => hx _ _ m (by decide)) Tryd.func11 rfl rfl ?_
        refine wc_seq (wc_region (wa rfl rfl (wo_nil (thenW_n (wc_seq (wc_region (wm rfl rfl ?_)))))))
        refine wo_call rfl rfl rfl hv rfl rfl ?_
        refine wa rfl rfl (wo_nil (thenW_n (wc_seq (wc_region (wm rfl rfl (wo_n rfl (nv_neqP rfl rfl rfl) rfl rfl (wm rfl rfl (wm rfl rfl (wk rfl rfl rfl ?_)))))))))
        refine wf rfl rfl ?_
        refine wo_m rfl (mv_load rfl rfl (by assumption)) rfl rfl ?_
        refine wo_n rfl (nv_eqlT rfl rfl rfl (by first | assumption | decide | omega)) rfl rfl (wm rfl rfl (wg rfl (wg rfl (wg rfl (wg rfl (wg rfl (wp rfl rfl rfl (wp rfl rfl rfl (wm rfl rfl ?_)))))))))
        refine wm rfl rfl (wk rfl rfl rfl (wf rfl rfl ?_))
        refine wo_m rfl (mv_load rfl rfl (by assumption)) rfl rfl ?_
        refine wm rfl rfl (wo_n rfl (nv_seqlF  rfl rfl rfl (by assumption)) rfl rfl (wp rfl rfl rfl (wa rfl rfl (wo_nil (thenW_n (wc_ret ?_))))))
        refine endW_ret rfl rfl ?_
        exact ⟨rfl, by simp [h3, hq, bbeq]⟩
    · by_cases h2 : t.kind = 2
      · by_cases hq : t.text = s
        · refine ev_of (fun m => hx _ _ m (by decide)) Tryd.func11 rfl rfl ?_
          refine wc_seq (wc_region (wa rfl rfl (wo_nil (thenW_n (wc_seq (wc_region (wm rfl rfl ?_)))))))
          refine wo_call rfl rfl rfl hv rfl rfl ?_
          refine wa rfl rfl (wo_nil (thenW_n (wc_seq (wc_region (wm rfl rfl (wo_n rfl (nv_neqP rfl rfl rfl) rfl rfl (wm rfl rfl (wm rfl rfl (wk rfl rfl rfl ?_)))))))))
          refine wf rfl rfl ?_
          refine wo_m rfl (mv_load rfl rfl (by assumption)) rfl rfl ?_
          refine wo_n rfl (nv_eqlF rfl rfl rfl (by first | assumption | decide | omega)) rfl rfl (wm rfl rfl (wm rfl rfl (wk rfl rfl rfl (wf rfl rfl ?_))))
          refine wo_m rfl (mv_load rfl rfl (by assumption)) rfl rfl ?_
          refine wo_n rfl (nv_eqlT rfl rfl rfl (by first | assumption | decide | omega)) rfl rfl (wq rfl rfl rfl (wp rfl rfl rfl (wm rfl rfl (wm rfl rfl (wk rfl rfl rfl (wf rfl rfl ?_))))))
          refine wo_m rfl (mv_load rfl rfl (by assumption)) rfl rfl ?_
          refine wm rfl rfl (wo_n rfl (nv_seqlT  rfl rfl rfl (by assumption)) rfl rfl (wp rfl rfl rfl (wa rfl rfl (wo_nil (thenW_n (wc_ret ?_))))))
          refine endW_ret rfl rfl ?_
          exact ⟨rfl, by simp [h2, hq, bbeq]⟩
        · refine ev_of (fun m => hx _ _ m (by decide)) Tryd.func11 rfl rfl ?_
          refine wc_seq (wc_region (wa rfl rfl (wo_nil (thenW_n (wc_seq (wc_region (wm rfl rfl ?_)))))))
          refine wo_call rfl rfl rfl hv rfl rfl ?_
          refine wa rfl rfl (wo_nil (thenW_n (wc_seq (wc_region (wm rfl rfl (wo_n rfl (nv_neqP rfl rfl rfl) rfl rfl (wm rfl rfl (wm rfl rfl (wk rfl rfl rfl ?_)))))))))
          refine wf rfl rfl ?_
          refine wo_m rfl (mv_load rfl rfl (by assumption)) rfl rfl ?_
          refine wo_n rfl (nv_eqlF rfl rfl rfl (by first | assumption | decide | omega)) rfl rfl (wm rfl rfl (wm rfl rfl (wk rfl rfl rfl (wf rfl rfl ?_))))
          refine wo_m rfl (mv_load rfl rfl (by assumption)) rfl rfl ?_
          refine wo_n rfl (nv_eqlT rfl rfl rfl (by first | assumption | decide | omega)) rfl rfl (wq rfl rfl rfl (wp rfl rfl rfl (wm rfl rfl (wm rfl rfl (wk rfl rfl rfl (wf rfl rfl ?_))))))
          refine wo_m rfl (mv_load rfl rfl (by assumption)) rfl rfl ?_
          refine wm rfl rfl (wo_n rfl (nv_seqlF  rfl rfl rfl (by assumption)) rfl rfl (wp rfl rfl rfl (wa rfl rfl (wo_nil (thenW_n (wc_ret ?_))))))
          refine endW_ret rfl rfl ?_
          exact ⟨rfl, by simp [h2, hq, bbeq]⟩
      · refine ev_of (fun m => hx _ _ m (by decide)) Tryd.func11 rfl rfl ?_
        refine wc_seq (wc_region (wa rfl rfl (wo_nil (thenW_n (wc_seq (wc_region (wm rfl rfl ?_)))))))
        refine wo_call rfl rfl rfl hv rfl rfl ?_
        refine wa rfl rfl (wo_nil (thenW_n (wc_seq (wc_region (wm rfl rfl (wo_n rfl (nv_neqP rfl rfl rfl) rfl rfl (wm rfl rfl (wm rfl rfl (wk rfl rfl rfl ?_)))))))))
        refine wf rfl rfl ?_
        refine wo_m rfl (mv_load rfl rfl (by assumption)) rfl rfl ?_
        refine wo_n rfl (nv_eqlF rfl rfl rfl (by first | assumption | decide | omega)) rfl rfl (wm rfl rfl (wm rfl rfl (wk rfl rfl rfl (wf rfl rfl ?_))))
        refine wo_m rfl (mv_load rfl rfl (by assumption)) rfl rfl ?_
        refine wo_n rfl (nv_eqlF rfl rfl rfl (by first | assumption | decide | omega)) rfl rfl (wq rfl rfl rfl (wp rfl rfl rfl (wm rfl rfl (wg rfl (wg rfl (wg rfl (wg rfl (wg rfl (wg rfl ?_)))))))))
        refine wq rfl rfl rfl (wa rfl rfl (wo_nil (thenW_n (wc_ret ?_))))
        refine endW_ret rfl rfl ?_
        exact ⟨rfl, by simp [h3, h2, bbeq]⟩
end
end Go.Proofs.YtppcjlplihiiiaaDoor.Sy

namespace Go.Proofs.YtppcjlplihiiiaaDoor.Sy
open Go Go.Ev Go.Ev.Pm
set_option linter.unusedVariables false
set_option linter.unusedSimpArgs false
set_option linter.unusedSectionVars false
def Sub (m : Mem) (o o' : Nat → Prop) : Prop := ∀ x, x < m.next → o' x → o x
def Post (m : Mem) (E : Int) (pb : Nat) (oN oO : Nat → Prop) (m' : Mem) (P' : PS) : Prop :=
  ∃ oN' oO', Rep m' E pb oN' oO' P' ∧ Fr (own pb oN oO) m m' ∧ Sub m (own pb oN oO) (own pb oN' oO')
theorem Parts.move {S : Nat → Prop} {m m2 : Mem} {E : Int} {pb : Nat} {oN oO : Nat → Prop} {P : PS} {tv ov nv ev : V} (hp : Parts m E pb oN oO P tv ov nv ev) (dN : ¬ oN pb) (dO : ¬ oO pb) (f : Fr S m m2) (hS : ∀ x, x < m.next → S x → x = pb) :
    TokR m2 (own pb oN oO) tv P.toks ∧ RowR m2 oO 36 3 ov (P.ops.flatMap odC) P.ops.length ∧ RowR m2 oN 38 10 nv (P.ns.flatMap ndC) P.ns.length ∧ ErrR m2 (own pb oN oO) ev P.err :=
  ⟨hp.toks.fr f (fun x h k => .inl (hS x h k)) (fun _ _ h => h), hp.ops.fr f (fun x h k c => dO (hS x h c ▸ k)), hp.ns.fr f (fun x h k c => dN (hS x h c ▸ k)), hp.err.fr f (fun x h k => .inl (hS x h k)) (fun _ _ h => h)⟩
section
variable {m m' : Mem} {E : Int} {pb : Nat} {oN oO : Nat → Prop} {P P' : PS}
theorem Post.refl (h : Rep m E pb oN oO P) : Post m E pb oN oO m P := ⟨oN, oO, h, Fr.refl _ _, fun _ _ h => h⟩
theorem Post.trans {m1 m2 : Mem} {P1 P2 : PS} (h : Post m E pb oN oO m1 P1) (k : ∀ oN1 oO1, Rep m1 E pb oN1 oO1 P1 → Post m1 E pb oN1 oO1 m2 P2) : Post m E pb oN oO m2 P2 := by
  obtain ⟨a, b, h1, h2, h3⟩ := h
  obtain ⟨c, d, k1, k2, k3⟩ := k a b h1
  exact ⟨c, d, k1, h2.trans k2 (fun q hq hc => h3 q hq hc), fun x hx hc => h3 x hx (k3 x (Nat.lt_of_lt_of_le hx h2.le) hc)⟩
theorem Post.after {aN aO : Nat → Prop} {m1 m2 : Mem} {P2 : PS} (r2 : Fr (own pb oN oO) m m1) (r3 : Sub m (own pb oN oO) (own pb aN aO)) (k : Post m1 E pb aN aO m2 P2) : Post m E pb oN oO m2 P2 := by
  obtain ⟨c, d, k1, k2, k3⟩ := k
  exact ⟨c, d, k1, r2.trans k2 (fun q hq hc => r3 q hq hc), fun x hx hc => r3 x hx (k3 x (Nat.lt_of_lt_of_le hx r2.le) hc)⟩
inductive ErrA (m : Mem) (own : Nat → Prop) : V → Int → Prop
  | no (c : Int) : ErrA m own (.iface 28 (.int .i64 c)) c
  | want (wb : Nat) (s : ByteArray) (h : Blok m wb 54 [vs s]) (ho : ¬ own wb) : ErrA m own (.iface 52 (.ptr wb 0)) 403
variable {xb : XB} {ext : CallF} (hx : ∀ (f : Nat) (a : List V) (m : Mem), f ∉ XS → ext f a m = none)
include hx
theorem fail_spec (h : Rep m E pb oN oO P) {ea : V} {c : Int} (ha : ErrA m (own pb oN oO) ea c) : ∃ m', Ev Tryd.prog xb ext 15 [.ptr pb 0, ea] m (.tup []) m' ∧ Post m E pb oN oO m' (fail E c P) := by
  obtain ⟨tv, ov, nv, ev, hp⟩ := h.ex
  have h4 := hp.obj.cell (i := 4) rfl
  have he := hp.err
  refine ev_to ?_
  unfold fail
  cases hE : P.err with
  | some z =>
    rw [hE] at he
    have : ∃ t v, ev = .iface t v := by cases he <;> exact ⟨_, _, rfl⟩
    obtain ⟨t, v, rfl⟩ := this
    refine ev_of (fun m => hx _ _ m (by decide)) Tryd.func15 rfl rfl ?_
    refine wc_seq (wc_region (wm rfl rfl (wk rfl rfl rfl (wf rfl rfl ?_))))
    refine wo_m rfl (mv_load rfl rfl (by assumption)) rfl rfl ?_
    refine wo_n rfl (nv_eqlI rfl rfl rfl) rfl rfl (wo_nil (thenW_n (wc_false rfl (wc_skip ?_))))
    refine endW_none rfl ?_
    exact ⟨rfl, .refl h⟩
  | none =>
    rw [hE] at he
    cases he
    have hh := here_spec (xb := xb) hx h
    have hi : ∃ t v, ea = .iface t v := by cases ha <;> exact ⟨_, _, rfl⟩
    obtain ⟨t, v, rfl⟩ := hi
    refine ev_of (fun m => hx _ _ m (by decide)) Tryd.func15 rfl rfl ?_
    refine wc_seq (wc_region (wm rfl rfl (wk rfl rfl rfl (wf rfl rfl ?_))))
    refine wo_m rfl (mv_load rfl rfl (by assumption)) rfl rfl ?_
    refine wo_n rfl (nv_eqlN rfl rfl rfl rfl) rfl rfl (wo_nil (thenW_n (wc_true rfl (wc_region (wm rfl rfl (wm rfl rfl ?_))))))
    refine wo_call rfl rfl rfl hh rfl rfl ?_
    refine wm rfl rfl (wo_n rfl (nv_buildS rfl rfl rfl) rfl rfl ?_)
    refine wo_box rfl rfl rfl rfl rfl ?_
    intro g1 m1 o1 f1 l1
    have q1 := hp.obj.fr f1 (fun h => h)
    refine wo_n rfl (nv_mkI rfl rfl) rfl rfl ?_
    refine wk rfl rfl rfl (wf rfl rfl ?_)
    refine wo_store rfl rfl rfl rfl (by assumption) rfl rfl (Nat.le_of_ble_eq_true rfl) rfl ?_
    intro m2 o2 f2 n2
    skip
    refine wo_nil ?_
    refine endW_none rfl ?_
    have f3 : Fr (fun q => q = pb) m m2 := (f1.mono (fun _ _ h => h.elim)).trans f2 (fun _ _ h => h)
    obtain ⟨t1, t2, t3, t4⟩ := hp.move h.dN h.dO f3 (fun _ _ h => h)
    have hgn : ¬ own pb oN oO g1 := fun hc => Nat.lt_irrefl _ (Nat.lt_of_lt_of_le (h.lt hc) l1)
    refine ⟨rfl, oN, oO, ⟨⟨tv, ov, nv, .iface 65 (.ptr g1 0), ⟨o2, t1, t2, t3, ?_⟩⟩, h.dN, h.dO, h.dd, h.nl, h.ol, h.d0, h.d1, f3.nw h.nw, fun x hx => Nat.lt_of_lt_of_le (h.lN x hx) f3.le, fun x hx => Nat.lt_of_lt_of_le (h.lO x hx) f3.le, by rw [f3.gl]; exact h.gl⟩, f3.mono (fun _ _ h => .inl h), fun _ _ h => h⟩
    have o3 := o1.fr f2 (fun hc => hgn (.inl hc))
    cases ha with
    | no c => exact .errno g1 c _ o3 hgn
    | want wb s hw hw' => exact .want g1 wb s _ o3 (hw.fr f3 (fun hc => hw' (.inl hc))) hgn hw'
omit hx in
theorem is_true {s : ByteArray} (h : is P s = true) : ∃ t r, P.err = none ∧ P.toks = t :: r ∧ isT t s = true := by
  unfold is next at h
  cases hE : P.err with
  | some z => rw [hE] at h; cases h
  | none =>
    rw [hE] at h
    cases hT : P.toks with
    | nil => rw [hT] at h; cases h
    | cons t r => rw [hT] at h; exact ⟨t, r, rfl, rfl, h⟩
omit hx in
theorem dropR (h : Rep m E pb oN oO P) {ov nv ev : V} {b off n c : Nat} (hp : Parts m E pb oN oO P (.sl b off n c 4) ov nv ev) {t : Tk} {r : List Tk} (hT : P.toks = t :: r) {m1 : Mem} (o1 : Blok m1 pb 46 [.sl b (off + 1 * 4) (n - 1) (c - 1) 4, .int .i64 E, ov, nv, ev, .int .i64 P.deep]) (f1 : Fr (fun q => q = pb) m m1) : Post m E pb oN oO m1 (drop1 P) := by
  obtain ⟨t1, t2, t3, t4⟩ := hp.move h.dN h.dO f1 (fun _ _ h => h)
  refine ⟨oN, oO, ⟨⟨_, _, _, _, ⟨o1, ?_, t2, t3, t4⟩⟩, h.dN, h.dO, h.dd, h.nl, h.ol, h.d0, h.d1, f1.nw h.nw, fun x hx => Nat.lt_of_lt_of_le (h.lN x hx) f1.le, fun x hx => Nat.lt_of_lt_of_le (h.lO x hx) f1.le, by rw [f1.gl]; exact h.gl⟩, f1.mono (fun _ _ h => .inl h), fun _ _ h => h⟩
  rw [hT] at t1
  show TokR m1 _ _ P.toks.tail
  rw [hT]
  cases t1 with
  | sl _ _ _ _ _ hn hts hc ho hb he =>
    rw [List.length_cons] at hn
    refine .sl b _ _ _ r (by omega) (fun i t ht => ?_) (by omega) ho hb he
    have := hts (i + 1) t (by simpa using ht)
    rwa [show off + (i + 1) * 4 = off + 1 * 4 + i * 4 by omega] at this
theorem take_spec (h : Rep m E pb oN oO P) (s : ByteArray) : ∃ m', Ev Tryd.prog xb ext 30 [.ptr pb 0, vs s] m (.bool (is P s)) m' ∧ Post m E pb oN oO m' (take s P).2 := by
  have hi := is_spec (xb := xb) hx h s
  refine ev_to ?_
  unfold take
  cases hs : is P s with
  | false =>
    rw [hs] at hi
    refine ev_of (fun m => hx _ _ m (by decide)) Tryd.func30 rfl rfl ?_
    refine wc_seq (wc_region (wa rfl rfl (wo_nil (thenW_n (wc_seq (wc_region (wm rfl rfl (wm rfl rfl ?_))))))))
    refine wo_call rfl rfl (by kernel_rfl) (hi) rfl rfl ?_
    refine wa rfl rfl (wo_nil (thenW_n (wc_seq (wc_seq (wc_region (wm rfl rfl (wo_nil (thenW_n (wc_false rfl ?_)))))))))
    refine wc_skip (thenW_n (wc_seq (wc_region (wm rfl rfl (wa rfl rfl (wo_nil (thenW_n (wc_ret ?_))))))))
    refine endW_ret rfl rfl ?_
    exact ⟨rfl, .refl h⟩
  | true =>
    rw [hs] at hi
    obtain ⟨t, r, hE, hT, _⟩ := is_true hs
    obtain ⟨tv, ov, nv, ev, hp⟩ := h.ex
    have ht := hp.toks
    rw [hT] at ht
    cases ht with
    | sl b off c n _ hn hts hc ho hb =>
      rw [List.length_cons] at hn
      have h0 := hp.obj.cell (i := 0) rfl
      have q0 := hp.obj
      refine ev_of (fun m => hx _ _ m (by decide)) Tryd.func30 rfl rfl ?_
      refine wc_seq (wc_region (wa rfl rfl (wo_nil (thenW_n (wc_seq (wc_region (wm rfl rfl (wm rfl rfl ?_))))))))
      refine wo_call rfl rfl (by kernel_rfl) (hi) rfl rfl ?_
      refine wa rfl rfl (wo_nil (thenW_n (wc_seq (wc_seq (wc_region (wm rfl rfl (wo_nil (thenW_n (wc_true rfl ?_)))))))))
      refine wc_region (wm rfl rfl (wm rfl rfl (wk rfl rfl rfl (wf rfl rfl ?_))))
      refine wo_m rfl (mv_load rfl rfl (by assumption)) rfl rfl ?_
      refine wo_n rfl (nv_slice rfl rfl rfl rfl (slice_from (l := 1) (by first | assumption | omega) (by first | assumption | omega))) rfl rfl (wk rfl rfl rfl (wf rfl rfl ?_))
      refine wo_store rfl rfl rfl rfl (by assumption) rfl rfl (Nat.le_of_ble_eq_true rfl) rfl ?_
      intro m1 o1 f1 n1
      skip
      refine wo_nil (thenW_n (wc_seq (wc_region (wm rfl rfl (wa rfl rfl (wo_nil (thenW_n (wc_ret ?_))))))))
      refine endW_ret rfl rfl ?_
      exact ⟨rfl, dropR h hp hT o1 f1⟩
omit hx in
theorem Rep.alloc (h : Rep m E pb oN oO P) {m1 : Mem} (f : Fr (fun _ => False) m m1) : Rep m1 E pb oN oO P := by
  obtain ⟨tv, ov, nv, ev, hp⟩ := h.ex
  obtain ⟨t1, t2, t3, t4⟩ := hp.move h.dN h.dO f (fun _ _ h => h.elim)
  exact ⟨⟨_, _, _, _, ⟨hp.obj.fr f (fun h => h), t1, t2, t3, t4⟩⟩, h.dN, h.dO, h.dd, h.nl, h.ol, h.d0, h.d1, f.nw h.nw, fun x hx => Nat.lt_of_lt_of_le (h.lN x hx) f.le, fun x hx => Nat.lt_of_lt_of_le (h.lO x hx) f.le, by rw [f.gl]; exact h.gl⟩
omit hx in
theorem Post.alloc (h : Rep m E pb oN oO P) {m1 m2 : Mem} (f : Fr (fun _ => False) m m1) (k : Post m1 E pb oN oO m2 P') : Post m E pb oN oO m2 P' := by
  obtain ⟨a, b, k1, k2, k3⟩ := k
  exact ⟨a, b, k1, (f.mono (fun _ _ h => h.elim)).trans k2 (fun _ _ h => h), fun x hx hc => k3 x (Nat.lt_of_lt_of_le hx f.le) hc⟩
theorem must_spec (h : Rep m E pb oN oO P) (s : ByteArray) : ∃ m', Ev Tryd.prog xb ext 20 [.ptr pb 0, vs s] m (.tup []) m' ∧ Post m E pb oN oO m' (must E s P) := by
  obtain ⟨ma, hta, hpa⟩ := take_spec (xb := xb) hx h s
  refine ev_to ?_
  unfold must
  unfold take at hpa
  cases hs : is P s with
  | true =>
    rw [hs] at hta hpa
    refine ev_of (fun m => hx _ _ m (by decide)) Tryd.func20 rfl rfl ?_
    refine wc_seq (wc_region (wm rfl rfl (wm rfl rfl ?_)))
    refine wo_call rfl rfl (by kernel_rfl) (hta) rfl rfl ?_
    refine wo_n rfl (nv_not rfl rfl) rfl rfl (wo_nil (thenW_n (wc_false rfl (wc_skip ?_))))
    refine endW_none rfl ?_
    exact ⟨rfl, hpa⟩
  | false =>
    rw [hs] at hta hpa
    refine ev_of (fun m => hx _ _ m (by decide)) Tryd.func20 rfl rfl ?_
    obtain ⟨aN, aO, r1, r2, r3⟩ := hpa
    refine wc_seq (wc_region (wm rfl rfl (wm rfl rfl ?_)))
    refine wo_call rfl rfl (by kernel_rfl) (hta) rfl rfl ?_
    refine wo_n rfl (nv_not rfl rfl) rfl rfl (wo_nil (thenW_n (wc_true rfl (wc_region (wm rfl rfl (wm rfl rfl (wo_n rfl (nv_buildS rfl rfl rfl) rfl rfl ?_)))))))
    refine wo_box rfl rfl rfl rfl rfl ?_
    intro g1 m1 o1 f1 l1
    have r4 := r1.alloc f1
    have hgn : ¬ own pb aN aO g1 := fun hc => Nat.lt_irrefl _ (Nat.lt_of_lt_of_le (r1.lt hc) l1)
    obtain ⟨mf, hf, pf⟩ := fail_spec (xb := xb) hx r4 (.want g1 s o1 hgn)
    refine wo_n rfl (nv_mkI rfl rfl) rfl rfl ?_
    refine wo_call rfl rfl (by kernel_rfl) (hf) rfl rfl ?_
    refine wo_nil ?_
    refine endW_none rfl ?_
    exact ⟨rfl, .after r2 r3 (.alloc r1 f1 pf)⟩
theorem name_spec (h : Rep m E pb oN oO P) : ∃ m', Ev Tryd.prog xb ext 21 [.ptr pb 0] m (vs (name E P).1) m' ∧ Post m E pb oN oO m' (name E P).2 := by
  obtain ⟨v, hv, hN⟩ := next_spec (xb := xb) hx h
  refine ev_to ?_
  unfold name
  cases hT : next P with
  | none =>
    rw [hT] at hN
    cases hN
    refine ev_of (fun m => hx _ _ m (by decide)) Tryd.func21 rfl rfl ?_
    refine wc_seq (wc_region (wa rfl rfl (wo_nil (thenW_n (wc_seq (wc_region (wm rfl rfl ?_)))))))
    refine wo_call rfl rfl (by kernel_rfl) (hv) rfl rfl ?_
    refine wa rfl rfl (wo_nil (thenW_n (wc_seq (wc_seq (wc_region (wm rfl rfl (wo_n rfl (nv_eqlQ rfl rfl rfl) rfl rfl (wm rfl rfl (wg rfl ?_)))))))))
    refine wg rfl (wg rfl (wg rfl (wg rfl (wp rfl rfl rfl (wo_nil (thenW_n (wc_true rfl (wc_seq (wc_region ?_)))))))))
    refine wm rfl rfl (wo_n rfl (nv_buildS rfl rfl rfl) rfl rfl ?_)
    refine wo_box rfl rfl rfl rfl rfl ?_
    intro g1 m1 o1 f1 l1
    have r4 := h.alloc f1
    have hgn : ¬ own pb oN oO g1 := fun hc => Nat.lt_irrefl _ (Nat.lt_of_lt_of_le (h.lt hc) l1)
    obtain ⟨mf, hf, pf⟩ := fail_spec (xb := xb) hx r4 (.want g1 (txt [110, 97, 109, 101]) o1 hgn)
    refine wo_n rfl (nv_mkI rfl rfl) rfl rfl ?_
    refine wo_call rfl rfl (by kernel_rfl) (hf) rfl rfl ?_
    refine wo_nil (thenW_n (wc_seq (wc_region (wa rfl rfl (wo_nil (thenW_n (wc_ret (thenW_r ?_))))))))
    refine endW_ret rfl rfl ?_
    exact ⟨rfl, .alloc h f1 pf⟩
  | some t =>
    have hT' := hT
    rw [hT] at hN
    obtain ⟨b, o, rfl, hA, hno, hbl⟩ := hN
    have hk := hA.k
    have hs := hA.s
    dsimp only
    by_cases h0 : t.kind = 0
    · rw [if_pos h0]
      unfold next at hT'
      cases hE : P.err with
      | some z => rw [hE] at hT'; cases hT'
      | none =>
        rw [hE] at hT'
        obtain ⟨r, hTk⟩ : ∃ r, P.toks = t :: r := by
          cases hc : P.toks with
          | nil => rw [hc] at hT'; cases hT'
          | cons a r => rw [hc] at hT'; cases hT'; exact ⟨r, rfl⟩
        obtain ⟨tv, ov, nv, ev, hp⟩ := h.ex
        have ht := hp.toks
        rw [hTk] at ht
        cases ht with
        | sl b' off c n _ hn hts hc ho hb =>
          rw [List.length_cons] at hn
          have q0 := hp.obj.cell (i := 0) rfl
          have q1 := hp.obj
          refine ev_of (fun m => hx _ _ m (by decide)) Tryd.func21 rfl rfl ?_
          refine wc_seq (wc_region (wa rfl rfl (wo_nil (thenW_n (wc_seq (wc_region (wm rfl rfl ?_)))))))
          refine wo_call rfl rfl (by kernel_rfl) (hv) rfl rfl ?_
          refine wa rfl rfl (wo_nil (thenW_n (wc_seq (wc_seq (wc_region (wm rfl rfl (wo_n rfl (nv_eqlP rfl rfl rfl) rfl rfl (wm rfl rfl (wm rfl rfl ?_)))))))))
          refine wk rfl rfl rfl (wf rfl rfl ?_)
          refine wo_m rfl (mv_load rfl rfl (by assumption)) rfl rfl ?_
          refine wo_n rfl (nv_neqF rfl rfl rfl (by first | assumption | decide | omega)) rfl rfl (wq rfl rfl rfl (wo_nil (thenW_n (wc_false rfl (wc_skip (thenW_n (wc_seq (wc_region (wm rfl rfl ?_)))))))))
          refine wm rfl rfl (wk rfl rfl rfl (wf rfl rfl ?_))
          refine wo_m rfl (mv_load rfl rfl (by assumption)) rfl rfl ?_
          refine wo_n rfl (nv_slice rfl rfl rfl rfl (slice_from (l := 1) (by first | assumption | omega) (by first | assumption | omega))) rfl rfl (wk rfl rfl rfl (wf rfl rfl ?_))
          refine wo_store rfl rfl rfl rfl (by assumption) rfl rfl (Nat.le_of_ble_eq_true rfl) rfl ?_
          intro m1 o1 f1 n1
          have hs' := (hA.fr f1 hbl (fun hc => hno (.inl hc))).s
          refine wo_nil (thenW_n (wc_seq (wc_region (wm rfl rfl (wk rfl rfl rfl (wf rfl rfl ?_))))))
          refine wo_m rfl (mv_load rfl rfl (by assumption)) rfl rfl ?_
          refine wa rfl rfl (wo_nil (thenW_n (wc_ret ?_)))
          refine endW_ret rfl rfl ?_
          exact ⟨rfl, dropR h hp hTk o1 f1⟩
    · rw [if_neg h0]
      refine ev_of (fun m => hx _ _ m (by decide)) Tryd.func21 rfl rfl ?_
      refine wc_seq (wc_region (wa rfl rfl (wo_nil (thenW_n (wc_seq (wc_region (wm rfl rfl ?_)))))))
      refine wo_call rfl rfl (by kernel_rfl) (hv) rfl rfl ?_
      refine wa rfl rfl (wo_nil (thenW_n (wc_seq (wc_seq (wc_region (wm rfl rfl (wo_n rfl (nv_eqlP rfl rfl rfl) rfl rfl (wm rfl rfl (wm rfl rfl ?_)))))))))
      refine wk rfl rfl rfl (wf rfl rfl ?_)
      refine wo_m rfl (mv_load rfl rfl (by assumption)) rfl rfl ?_
      refine wo_n rfl (nv_neqT rfl rfl rfl (by first | assumption | decide | omega)) rfl rfl (wq rfl rfl rfl (wo_nil (thenW_n (wc_true rfl (wc_seq (wc_region (wm rfl rfl (wo_n rfl (nv_buildS rfl rfl rfl) rfl rfl ?_))))))))
      refine wo_box rfl rfl rfl rfl rfl ?_
      intro g1 m1 o1 f1 l1
      have r4 := h.alloc f1
      have hgn : ¬ own pb oN oO g1 := fun hc => Nat.lt_irrefl _ (Nat.lt_of_lt_of_le (h.lt hc) l1)
      obtain ⟨mf, hf, pf⟩ := fail_spec (xb := xb) hx r4 (.want g1 (txt [110, 97, 109, 101]) o1 hgn)
      refine wo_n rfl (nv_mkI rfl rfl) rfl rfl ?_
      refine wo_call rfl rfl (by kernel_rfl) (hf) rfl rfl ?_
      refine wo_nil (thenW_n (wc_seq (wc_region (wa rfl rfl (wo_nil (thenW_n (wc_ret (thenW_r ?_))))))))
      refine endW_ret rfl rfl ?_
      exact ⟨rfl, .alloc h f1 pf⟩
end
end Go.Proofs.YtppcjlplihiiiaaDoor.Sy

namespace Go.Proofs.YtppcjlplihiiiaaDoor.Sy
open Go Go.Ev Go.Ev.Pm
set_option linter.unusedVariables false
set_option linter.unusedSimpArgs false
set_option linter.unusedSectionVars false
section
variable {m m' : Mem} {E : Int} {pb : Nat} {oN oO : Nat → Prop} {P P' : PS}
theorem Rep.hasErr (h : Rep m E pb oN oO P) {z : Int × Int} (hE : P.err = some z) : ∃ tv ov nv t v, Parts m E pb oN oO P tv ov nv (.iface t v) := by
  obtain ⟨tv, ov, nv, ev, hp⟩ := h.ex
  have he := hp.err
  rw [hE] at he
  have : ∃ t v, ev = .iface t v := by cases he <;> exact ⟨_, _, rfl⟩
  obtain ⟨t, v, rfl⟩ := this
  exact ⟨_, _, _, _, _, hp⟩
theorem Rep.noErr (h : Rep m E pb oN oO P) (hE : P.err = .none) : ∃ tv ov nv, Parts m E pb oN oO P tv ov nv .nili := by
  obtain ⟨tv, ov, nv, ev, hp⟩ := h.ex
  have he := hp.err
  rw [hE] at he
  cases he
  exact ⟨_, _, _, hp⟩
theorem fail_err (c : Int) (P : PS) : ∃ z, (fail E c P).err = some z := by
  unfold fail
  cases h : P.err with
  | none => exact ⟨_, rfl⟩
  | some z => exact ⟨_, h⟩
theorem Post.step {m1 : Mem} {P1 P2 : PS} {X : Mem → Prop} (A : Post m E pb oN oO m1 P1) (k : ∀ oN1 oO1, Rep m1 E pb oN1 oO1 P1 → ∃ m2, X m2 ∧ Post m1 E pb oN1 oO1 m2 P2) : ∃ m2, X m2 ∧ Post m E pb oN oO m2 P2 := by
  obtain ⟨a, b, r, f, s⟩ := A
  obtain ⟨m2, x, q⟩ := k a b r
  exact ⟨m2, x, .after f s q⟩
theorem Post.le {m1 : Mem} {P1 : PS} (A : Post m E pb oN oO m1 P1) : m.next ≤ m1.next := by
  obtain ⟨a, b, r, f, s⟩ := A
  exact f.le
variable {xb : XB} {ext : CallF} (hx : ∀ (f : Nat) (a : List V) (m : Mem), f ∉ XS → ext f a m = none)
include hx
set_option maxHeartbeats 1000000 in
theorem put_spec (h : Rep m E pb oN oO P) (x : Nd) : ∃ m', Ev Tryd.prog xb ext 33 [.ptr pb 0, .agg (ndC x)] m (.int .i64 (put E x P).1) m' ∧ Post m E pb oN oO m' (put E x P).2 := by
  refine ev_to ?_
  by_cases hl : P.ns.length = 512
  · obtain ⟨z, hz⟩ := fail_err (E := E) 402 P
    have hput : put E x P = (0, fail E 402 P) := by unfold put; rw [if_pos hl]; dsimp only; rw [hz]
    rw [hput]
    refine ev_of (fun m => hx _ _ m (by decide)) Tryd.func33 rfl rfl ?_
    refine wc_seq (wc_region ?_)
    refine wo_box rfl rfl rfl rfl rfl ?_
    intro g1 m1 o1 f1 l1
    have h1 := h.alloc f1
    obtain ⟨tv, ov, nv, ev, hp⟩ := h1.ex
    have c3 := hp.obj.cell (i := 3) rfl
    have hr := hp.ns
    refine wa rfl rfl (wo_nil (thenW_n (wc_seq (wc_seq (wc_region (wm rfl rfl (wk rfl rfl rfl (wf rfl rfl ?_))))))))
    refine wo_m rfl (mv_load rfl rfl (by assumption)) rfl rfl ?_
    first
      | refine wo_n rfl (nv_lenS rfl rfl rfl) rfl rfl ?_
      | refine wo_n rfl (nv_lenN rfl rfl rfl) rfl rfl ?_
      | refine wo_n rfl (nv_lenR (by assumption) rfl rfl rfl) rfl rfl ?_
    refine wo_n rfl (nv_eqlT rfl rfl rfl (by first | assumption | decide | omega)) rfl rfl (wo_nil (thenW_n (wc_true rfl (wc_region (wm rfl rfl ?_)))))
    refine wo_n rfl (nv_mkI rfl rfl) rfl rfl ?_
    obtain ⟨mf, hf, pf⟩ := fail_spec (xb := xb) hx h1 (.no 402)
    refine wo_call rfl rfl (by kernel_rfl) (hf) rfl rfl ?_
    obtain ⟨aN, aO, r1, r2, r3⟩ := pf
    obtain ⟨tv2, ov2, nv2, t2, v2, hp2⟩ := r1.hasErr hz
    have c4 := hp2.obj.cell (i := 4) rfl
    refine wo_nil (thenW_n (wc_seq (wc_seq (wc_region (wm rfl rfl (wk rfl rfl rfl (wf rfl rfl ?_)))))))
    refine wo_m rfl (mv_load rfl rfl (by assumption)) rfl rfl ?_
    refine wo_n rfl (nv_neqI rfl rfl rfl) rfl rfl (wo_nil (thenW_n (wc_true rfl (wc_seq (wc_region (wa rfl rfl (wo_nil (thenW_n (wc_ret ?_)))))))))
    refine thenW_r ?_
    refine endW_ret rfl rfl ?_
    exact ⟨rfl, .alloc h f1 ⟨aN, aO, r1, r2, r3⟩⟩
  · cases hE : P.err with
    | some z =>
      have hput : put E x P = (0, P) := by unfold put; rw [if_neg hl]; dsimp only; rw [hE]
      rw [hput]
      refine ev_of (fun m => hx _ _ m (by decide)) Tryd.func33 rfl rfl ?_
      refine wc_seq (wc_region ?_)
      refine wo_box rfl rfl rfl rfl rfl ?_
      intro g1 m1 o1 f1 l1
      have h1 := h.alloc f1
      obtain ⟨tv2, ov2, nv2, t2, v2, hp2⟩ := h1.hasErr hE
      have c3 := hp2.obj.cell (i := 3) rfl
      have hr := hp2.ns
      have c4 := hp2.obj.cell (i := 4) rfl
      refine wa rfl rfl (wo_nil (thenW_n (wc_seq (wc_seq (wc_region (wm rfl rfl (wk rfl rfl rfl (wf rfl rfl ?_))))))))
      refine wo_m rfl (mv_load rfl rfl (by assumption)) rfl rfl ?_
      first
        | refine wo_n rfl (nv_lenS rfl rfl rfl) rfl rfl ?_
        | refine wo_n rfl (nv_lenN rfl rfl rfl) rfl rfl ?_
        | refine wo_n rfl (nv_lenR (by assumption) rfl rfl rfl) rfl rfl ?_
      refine wo_n rfl (nv_eqlF rfl rfl rfl (by first | assumption | decide | omega)) rfl rfl (wo_nil (thenW_n (wc_false rfl (wc_skip (thenW_n (wc_seq (wc_seq (wc_region (wm rfl rfl ?_)))))))))
      refine wk rfl rfl rfl (wf rfl rfl ?_)
      refine wo_m rfl (mv_load rfl rfl (by assumption)) rfl rfl ?_
      refine wo_n rfl (nv_neqI rfl rfl rfl) rfl rfl (wo_nil (thenW_n (wc_true rfl (wc_seq (wc_region (wa rfl rfl (wo_nil (thenW_n (wc_ret ?_)))))))))
      refine thenW_r ?_
      refine endW_ret rfl rfl ?_
      exact ⟨rfl, .alloc h f1 (.refl h1)⟩
    | none =>
      have hput : put E x P = (((P.ns.length : Nat) : Int), { P with ns := P.ns ++ [x] }) := by unfold put; rw [if_neg hl]; dsimp only; rw [hE]
      rw [hput]
      have hnl := h.nl
      refine ev_of (fun m => hx _ _ m (by decide)) Tryd.func33 rfl rfl ?_
      refine wc_seq (wc_region ?_)
      refine wo_box rfl rfl rfl rfl rfl ?_
      intro g1 m1 o1 f1 l1
      have h1 := h.alloc f1
      obtain ⟨tv, ov, nv, hp⟩ := h1.noErr hE
      have c3 := hp.obj.cell (i := 3) rfl
      have hr := hp.ns
      have c4 := hp.obj.cell (i := 4) rfl
      have w1 := h1.nw
      have x1 := o1.rowAll (n := 10) rfl
      refine wa rfl rfl (wo_nil (thenW_n (wc_seq (wc_seq (wc_region (wm rfl rfl (wk rfl rfl rfl (wf rfl rfl ?_))))))))
      refine wo_m rfl (mv_load rfl rfl (by assumption)) rfl rfl ?_
      first
        | refine wo_n rfl (nv_lenS rfl rfl rfl) rfl rfl ?_
        | refine wo_n rfl (nv_lenN rfl rfl rfl) rfl rfl ?_
        | refine wo_n rfl (nv_lenR (by assumption) rfl rfl rfl) rfl rfl ?_
      refine wo_n rfl (nv_eqlF rfl rfl rfl (by first | assumption | decide | omega)) rfl rfl (wo_nil (thenW_n (wc_false rfl (wc_skip (thenW_n (wc_seq (wc_seq (wc_region (wm rfl rfl ?_)))))))))
      refine wk rfl rfl rfl (wf rfl rfl ?_)
      refine wo_m rfl (mv_load rfl rfl (by assumption)) rfl rfl ?_
      refine wo_n rfl (nv_neqN rfl rfl rfl rfl) rfl rfl (wo_nil (thenW_n (wc_false rfl (wc_skip (thenW_n (wc_seq ?_))))))
      refine wc_draw (by kernel_rfl) ?_
      refine wd_cast (l' := [0, 1, 2, 3, 4, 5, 6, 7, 8, 9, 10]) (by kernel_rfl) rfl ?_
      refine wd_n rfl rfl rfl (nv_move rfl rfl) rfl rfl ?_
      refine wd_n rfl rfl rfl (nv_move rfl rfl) rfl rfl ?_
      refine wd_n rfl rfl rfl (nv_nil rfl rfl rfl) rfl rfl ?_
      refine wd_n rfl rfl rfl (nv_fa rfl rfl) rfl rfl ?_
      refine wd_load rfl rfl rfl rfl (by assumption) rfl rfl ?_
      refine wd_loadA rfl rfl rfl rfl (by assumption) rfl rfl ?_
      refine wd_bslice (by assumption) rfl rfl rfl rfl rfl rfl (by decide) rfl rfl ?_
      intro g2 m2 k2 o2 f2 l2
      have hr2 := hr.fr f2 (fun _ _ _ h => h)
      have x2 : m2.row g2 0 (1 * 10) = some (ndC x) := o2.rowAll rfl
      have l2' := hp.obj.fr f2 (fun h => h)
      refine wd_append rfl rfl rfl rfl (by assumption) (by first | rfl | simp) (by decide) rfl (by assumption) (by omega) (by kernel_rfl) (by kernel_rfl) rfl rfl ?_
      intro g3 m3 r3 f3 l3 t3
      have l3' := l2'.fr f3 h1.dN
      refine wd_n rfl rfl rfl (nv_nil rfl rfl rfl) rfl rfl ?_
      refine wd_n rfl rfl rfl (nv_fa rfl rfl) rfl rfl ?_
      refine wd_store rfl rfl rfl rfl rfl (by assumption) rfl rfl (Nat.le_of_ble_eq_true rfl) (by kernel_rfl) (by kernel_rfl) rfl ?_
      intro m4 o4 f4 n4
      have c5 := o4.cell (i := 3) rfl
      refine wd_nil ?_
      refine thenW_n (wc_seq (wc_region (wm rfl rfl (wk rfl rfl rfl (wf rfl rfl ?_)))))
      refine wo_m rfl (mv_load rfl rfl (by assumption)) rfl rfl ?_
      first
        | refine wo_n rfl (nv_lenS rfl rfl rfl) rfl rfl ?_
        | refine wo_n rfl (nv_lenN rfl rfl rfl) rfl rfl ?_
        | refine wo_n rfl (nv_lenR (by assumption) rfl rfl rfl) rfl rfl ?_
      refine wo_n rfl (nv_sub rfl rfl rfl rfl (by first | decide | omega) (by first | decide | omega)) rfl rfl ?_
      refine wa rfl rfl (wo_nil (thenW_n (wc_ret ?_)))
      refine endW_ret rfl rfl ?_
      refine ⟨by simp <;> omega, .alloc h f1 ?_⟩
      have fM : Fr (fun q => q = pb ∨ oN q) m1 m4 := ((f2.mono (fun _ _ h => h.elim)).trans (f3.mono fun _ _ h => .inr h) (fun _ _ h => h)).trans (f4.mono fun _ _ h => .inl h) (fun _ _ h => h)
      have fN : Fr (own pb oN oO) m1 m4 := fM.mono fun _ _ h => by
        rcases h with h | h
        · exact .inl h
        · exact .inr (.inl h)
      have d0 : ∀ x, x < m1.next → ¬ (x = g3) := fun y hy e => by
        have := f2.le
        omega
      have hpb := hp.obj.lt
      obtain ⟨t1, t2, t3, t4⟩ := hp.move (S := fun _ => False) h1.dN h1.dO f2 (fun _ _ h => h.elim)
      have gp : ¬ (pb = g3) := d0 pb hpb
      refine ⟨fun x => oN x ∨ x = g3, oO, ⟨⟨tv, ov, _, .nili, ⟨o4, ?_, ?_, ?_, ?_⟩⟩, ?_, h1.dO, ?_, ?_, h1.ol, h1.d0, h1.d1, fN.nw w1, ?_, ?_, by rw [fN.gl]; exact h1.gl⟩, fN, ?_⟩
      · exact hp.toks.fr fN (fun _ _ h => h) (fun y hy k => by
          rcases k with k | (k | k) | k
          · exact .inl k
          · exact .inr (.inl k)
          · exact absurd k (d0 y hy)
          · exact .inr (.inr k))
      · refine (hp.ops.fr fM (fun y hy k c => ?_))
        rcases c with c | c
        · exact h1.dO (c ▸ k)
        · exact h1.dd y c k
      · have := r3.fr f4 (fun y hy k c => by
          rcases k with k | k
          · exact h1.dN (c ▸ k)
          · exact gp (c ▸ k))
        simpa using this
      · rw [hE]; exact .none
      · rintro (k | k)
        · exact h1.dN k
        · exact gp k
      · rintro y (k | k) c
        · exact h1.dd y k c
        · exact d0 y (h1.lO y c) k
      · simp; omega
      · rintro y (k | k)
        · exact Nat.lt_of_lt_of_le (h1.lN y k) fN.le
        · have := f4.le; omega
      · exact fun y k => Nat.lt_of_lt_of_le (h1.lO y k) fN.le
      · rintro y hy (k | (k | k) | k)
        · exact .inl k
        · exact .inr (.inl k)
        · exact absurd k (d0 y hy)
        · exact .inr (.inr k)
end
end Go.Proofs.YtppcjlplihiiiaaDoor.Sy

namespace Go.Proofs.YtppcjlplihiiiaaDoor.Sy
open Go Go.Ev Go.Ev.Pm
set_option linter.unusedVariables false
set_option linter.unusedSimpArgs false
set_option linter.unusedSectionVars false
structure Wx (m : Mem) (E : Int) (pb : Nat) (oN oO : Nat → Prop) (el : Nat) (g : Nat) (cs : List V) (m' : Mem) (P' : PS) : Prop where
  b : Blok m' g el cs
  p : ∃ oN' oO', Rep m' E pb oN' oO' P' ∧ ¬ own pb oN' oO' g ∧ Sub m (own pb oN oO) (own pb oN' oO')
  f : Fr (own pb oN oO) m m'
  hg : m.next ≤ g
section
variable {m m' : Mem} {E : Int} {pb : Nat} {oN oO : Nat → Prop} {P P' : PS} {el g : Nat} {cs : List V}
theorem Wx.start (A : Post m E pb oN oO m' P') {m2 : Mem} (o : Blok m2 g el cs) (f : Fr (fun _ => False) m' m2) (l : m'.next ≤ g) : Wx m E pb oN oO el g cs m2 P' := by
  obtain ⟨a, b, r, f0, s⟩ := A
  have := f0.le
  exact ⟨o, ⟨a, b, r.alloc f, fun c => Nat.lt_irrefl _ (Nat.lt_of_lt_of_le (r.lt c) l), s⟩, f0.trans (f.mono (fun _ _ h => h.elim)) (fun _ _ h => h), by omega⟩
theorem Wx.call {m1 : Mem} {P1 P2 : PS} {X : Mem → Prop} (w : Wx m E pb oN oO el g cs m1 P1) (k : ∀ oN1 oO1, Rep m1 E pb oN1 oO1 P1 → ∃ m2, X m2 ∧ Post m1 E pb oN1 oO1 m2 P2) : ∃ m2, X m2 ∧ Wx m E pb oN oO el g cs m2 P2 ∧ m1.next ≤ m2.next := by
  obtain ⟨a, b, r, hn, s⟩ := w.p
  obtain ⟨m2, x, c, d, r2, f2, s2⟩ := k a b r
  refine ⟨m2, x, ⟨w.b.fr f2 hn, ⟨c, d, r2, fun k => hn (s2 g w.b.lt k), fun y hy k => s y hy (s2 y (Nat.lt_of_lt_of_le hy w.f.le) k)⟩, w.f.trans f2 (fun q hq k => s q hq k), w.hg⟩, f2.le⟩
theorem Rep.aside {m1 m2 : Mem} {aN aO : Nat → Prop} (r : Rep m1 E pb aN aO P) (f : Fr (fun q => q = g) m1 m2) (hg : ¬ own pb aN aO g) (he : elOf m1 g = some el) (h1 : el ≠ 62) (h2 : el ≠ 67) (h3 : el ≠ 54) : Rep m2 E pb aN aO P := by
  obtain ⟨tv, ov, nv, ev, hp⟩ := r.ex
  have hS : ∀ x, own pb aN aO x → ¬ (x = g) := fun x k e => hg (e ▸ k)
  refine ⟨⟨_, _, _, _, ⟨hp.obj.fr f (hS _ (.inl rfl)), hp.toks.far f (fun x hx e => ?_) (fun _ _ h => h), hp.ops.fr f (fun x hx k c => hS x (.inr (.inr k)) c), hp.ns.fr f (fun x hx k c => hS x (.inr (.inl k)) c), hp.err.far f (fun x hx e => ?_) (fun _ _ h => h)⟩⟩, r.dN, r.dO, r.dd, r.nl, r.ol, r.d0, r.d1, f.nw r.nw, fun x hx => Nat.lt_of_lt_of_le (r.lN x hx) f.le, fun x hx => Nat.lt_of_lt_of_le (r.lO x hx) f.le, by rw [f.gl]; exact r.gl⟩
  · subst e; rw [he] at hx; exact h1 (Option.some.inj hx)
  · subst e; rw [he] at hx
    rcases hx with hx | hx
    · exact h2 (Option.some.inj hx)
    · exact h3 (Option.some.inj hx)
theorem Wx.store {m1 m2 : Mem} {P1 : PS} {cs' : List V} (w : Wx m E pb oN oO el g cs m1 P1) (o : Blok m2 g el cs') (f : Fr (fun q => q = g) m1 m2) (h1 : el ≠ 62 := by decide) (h2 : el ≠ 67 := by decide) (h3 : el ≠ 54 := by decide) : Wx m E pb oN oO el g cs' m2 P1 := by
  obtain ⟨a, b, r, hn, s⟩ := w.p
  have hg := w.hg
  refine ⟨o, ⟨a, b, r.aside f hn (Blok.elOf w.b) h1 h2 h3, hn, s⟩, ⟨fun q => f.nw (w.f.nw q), f.gl.trans w.f.gl, Nat.le_trans w.f.le f.le, fun q hq hk => ?_⟩, hg⟩
  obtain ⟨e1, e2⟩ := w.f.eq q hq hk
  obtain ⟨e3, e4⟩ := f.eq q (Nat.lt_of_lt_of_le hq w.f.le) (fun e => by omega)
  exact ⟨e3.trans e1, e4.trans e2⟩
theorem Wx.done {m1 : Mem} {P1 : PS} (w : Wx m E pb oN oO el g cs m1 P1) : Post m E pb oN oO m1 P1 := by
  obtain ⟨a, b, r, hn, s⟩ := w.p
  exact ⟨a, b, r, w.f, s⟩
variable {xb : XB} {ext : CallF} (hx : ∀ (f : Nat) (a : List V) (m : Mem), f ∉ XS → ext f a m = none)
include hx
theorem base_spec (h : Rep m E pb oN oO P) : ∃ m', Ev Tryd.prog xb ext 22 [.ptr pb 0] m (.int .i64 (base E P).1) m' ∧ Post m E pb oN oO m' (base E P).2 := by
  obtain ⟨ma, hta, hpa⟩ := take_spec (xb := xb) hx h kint
  refine ev_to ?_
  unfold base
  unfold take at hpa
  cases hs : is P kint with
  | true =>
    rw [hs] at hta hpa
    refine ev_of (fun m => hx _ _ m (by decide)) Tryd.func22 rfl rfl ?_
    refine wc_seq (wc_region (wa rfl rfl (wo_nil (thenW_n (wc_seq (wc_seq (wc_region (wm rfl rfl ?_))))))))
    refine wo_call rfl rfl (by kernel_rfl) (hta) rfl rfl ?_
    refine wo_nil (thenW_n (wc_true rfl (wc_seq (wc_region (wa rfl rfl (wo_nil (thenW_n (wc_ret (thenW_r ?_)))))))))
    refine endW_ret rfl rfl ?_
    exact ⟨rfl, hpa⟩
  | false =>
    rw [hs] at hta hpa
    obtain ⟨mb, htb, hpb⟩ := hpa.step fun _ _ r => must_spec (xb := xb) hx r kbool
    refine ev_of (fun m => hx _ _ m (by decide)) Tryd.func22 rfl rfl ?_
    refine wc_seq (wc_region (wa rfl rfl (wo_nil (thenW_n (wc_seq (wc_seq (wc_region (wm rfl rfl ?_))))))))
    refine wo_call rfl rfl (by kernel_rfl) (hta) rfl rfl ?_
    refine wo_nil (thenW_n (wc_false rfl (wc_skip (thenW_n (wc_seq (wc_region (wm rfl rfl ?_)))))))
    refine wo_call rfl rfl (by kernel_rfl) (htb) rfl rfl ?_
    refine wo_nil (thenW_n (wc_seq (wc_region (wa rfl rfl (wo_nil (thenW_n (wc_ret ?_)))))))
    refine endW_ret rfl rfl ?_
    exact ⟨rfl, hpb⟩
end
end Go.Proofs.YtppcjlplihiiiaaDoor.Sy
