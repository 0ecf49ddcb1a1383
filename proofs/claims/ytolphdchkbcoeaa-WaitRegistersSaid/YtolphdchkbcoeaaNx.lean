/- What an operation's next step is, as data; bits of masks. No program in sight. -/
import Derived.Test.YtolphdchkbcoeaaBits
namespace Go.Proofs.Ytolphdchkbcoeaa
set_option linter.unusedVariables false
/-- The next step of an operation: the access that it asks for, its outcome, and whether it is done. -/
structure Nx where
  k : Int
  c : Int
  o : Int
  n : Int
  s : List UInt8
  val : Int
  ver : Int
  rv : Int
  st : Int
  is : Bool
  lost : Bool
  err : Int
  done : Bool
  deriving DecidableEq
def Nx.ds (x : Nx) : List DV := [.int x.k, .int x.c, .int x.o, .int x.n, .str x.s, .int x.val, .int x.ver, .int x.rv, .int x.st, .bool x.is, .bool x.lost, .int x.err, .bool x.done]
def askN (k c o n : Int) : Nx := ⟨k, c, o, n, [], 0, 0, 0, 0, false, false, 0, false⟩
def doneN (val ver : Int) (is : Bool) (err : Int) : Nx := ⟨0, 0, 0, 0, [], val, ver, 0, 0, is, false, err, true⟩
theorem nx_0 (x : Nx) : ((x.ds[0]?).getD (DV.int 0)) = .int x.k := rfl
theorem nx_1 (x : Nx) : ((x.ds[1]?).getD (DV.int 0)) = .int x.c := rfl
theorem nx_2 (x : Nx) : ((x.ds[2]?).getD (DV.int 0)) = .int x.o := rfl
theorem nx_3 (x : Nx) : ((x.ds[3]?).getD (DV.int 0)) = .int x.n := rfl
theorem nx_4 (x : Nx) : ((x.ds[4]?).getD (DV.int 0)) = .str x.s := rfl
theorem nx_5 (x : Nx) : ((x.ds[5]?).getD (DV.int 0)) = .int x.val := rfl
theorem nx_6 (x : Nx) : ((x.ds[6]?).getD (DV.int 0)) = .int x.ver := rfl
theorem nx_7 (x : Nx) : ((x.ds[7]?).getD (DV.int 0)) = .int x.rv := rfl
theorem nx_8 (x : Nx) : ((x.ds[8]?).getD (DV.int 0)) = .int x.st := rfl
theorem nx_9 (x : Nx) : ((x.ds[9]?).getD (DV.int 0)) = .bool x.is := rfl
theorem nx_10 (x : Nx) : ((x.ds[10]?).getD (DV.int 0)) = .bool x.lost := rfl
theorem nx_11 (x : Nx) : ((x.ds[11]?).getD (DV.int 0)) = .int x.err := rfl
theorem nx_12 (x : Nx) : ((x.ds[12]?).getD (DV.int 0)) = .bool x.done := rfl
theorem nrm_nx (x : Nx) : nrmL [Cl.pl (CK.int IntKind.i64), Cl.pl (CK.int IntKind.i64), Cl.pl (CK.int IntKind.i64), Cl.pl (CK.int IntKind.i64), Cl.pl CK.str, Cl.pl (CK.int IntKind.i64), Cl.pl (CK.int IntKind.i64), Cl.pl (CK.int IntKind.i64), Cl.pl (CK.int IntKind.i64), Cl.pl CK.bool, Cl.pl CK.bool, Cl.pl (CK.int IntKind.i64), Cl.pl CK.bool] x.ds = x.ds := rfl
/-- An outcome, a memory and the number of accesses. -/
def outsM (x : Nx × List Int × Int) : List DV := [.int x.1.val, .int x.1.ver, .int x.1.rv, .int x.1.st, .bool x.1.is, .bool x.1.lost, .int x.1.err, .list (x.2.1.map DV.int), .int x.2.2]
theorem outs_0 (x : Nx × List Int × Int) : (((outsM x)[0]?).getD (DV.int 0)) = .int x.1.val := rfl
theorem outs_1 (x : Nx × List Int × Int) : (((outsM x)[1]?).getD (DV.int 0)) = .int x.1.ver := rfl
theorem outs_2 (x : Nx × List Int × Int) : (((outsM x)[2]?).getD (DV.int 0)) = .int x.1.rv := rfl
theorem outs_3 (x : Nx × List Int × Int) : (((outsM x)[3]?).getD (DV.int 0)) = .int x.1.st := rfl
theorem outs_4 (x : Nx × List Int × Int) : (((outsM x)[4]?).getD (DV.int 0)) = .bool x.1.is := rfl
theorem outs_5 (x : Nx × List Int × Int) : (((outsM x)[5]?).getD (DV.int 0)) = .bool x.1.lost := rfl
theorem outs_6 (x : Nx × List Int × Int) : (((outsM x)[6]?).getD (DV.int 0)) = .int x.1.err := rfl
theorem outs_7 (x : Nx × List Int × Int) : (((outsM x)[7]?).getD (DV.int 0)) = .list (x.2.1.map DV.int) := rfl
theorem outs_8 (x : Nx × List Int × Int) : (((outsM x)[8]?).getD (DV.int 0)) = .int x.2.2 := rfl
/-- A thread is in a mask. -/
def hasM (m t : Int) : Bool := decide (0 ≤ t ∧ t ≤ 61) && bitM m t.toNat
/-- A thread's bit. -/
def oneM (t : Int) : Int := if 0 ≤ t ∧ t ≤ 61 then 2 ^ t.toNat else 0
def withM (m t : Int) : Int := if hasM m t = true then m else m + oneM t
def offM (m t : Int) : Int := if hasM m t = true then m - oneM t else m
end Go.Proofs.Ytolphdchkbcoeaa
