/- What is asked of a translation's types and functions, as closed facts. -/
import Derived.Calls
namespace Go.Proofs.Ytemkogoclljhpaa.L
open Go
def scalarB (P : Program) (t : TypeId) : Bool := match P.underlying t with | some (.struct _) | some (.array _ _) | none => false | _ => true
def sizeB (P : Program) (t : TypeId) (n : Nat) : Bool := match P.info? t with | some i => Nat.beq i.size n | none => false
def aggB (P : Program) (t : TypeId) (n : Nat) : Bool := (match P.underlying t with | some (.struct _) | some (.array _ _) => true | _ => false) && sizeB P t n

/-- where a field stands -/
def fieldB (P : Program) (s : TypeId) (i off : Nat) : Bool := match P.underlying s with
  | some (.struct fs) => match fs[i]? with
    | some f => Nat.beq f.offset off && (match P.info? f.type with | some j => !Nat.beq j.size 0 | none => false)
    | none => false
  | _ => false

def zeroB (P : Program) (t : TypeId) : Bool := match P.info? t with | some i => i.zero.isSome | none => false

def nameB (P : Program) (f : FuncId) : Bool := match P.funcs[f]? with | some fn => !(fn.name == "runtime.NumGoroutine") && fn.body.isSome | none => false

/-- what an append needs to know of an element's type -/
def elemB (P : Program) (e : TypeId) (n bytes : Nat) : Bool := match P.info? e with | some i => Nat.beq i.size n && Nat.beq i.bytes bytes && (match i.zero with | some z => Nat.beq z.cells.size n | none => false) | none => false

end Go.Proofs.Ytemkogoclljhpaa.L
