/- What each Go function computes, and that the machine does so: printed by a program of this session (avgen.py). -/
import Derived.Test.YtnnppdjmhellcaaGreatProg
import Derived.Test.YtnnppdjmhellcaaGreatAvP
import Derived.Test.YtnnppdjmhellcaaGreatAvOrd
import Derived.Test.YtnnppdjmhellcaaGreatAvDel
namespace Go.Proofs.YtnnppdjmhellcaaGreat.V
open Go Go.Av Go.Proofs
set_option linter.unusedVariables false
set_option maxRecDepth 100000
theorem MX : Tryz.prog.follows .mixedOrders = true := by kernel_rfl
structure S23 where
  f0 : Int
  f1 : Int
  f2 : ByteArray
def z23 : S23 := ⟨0, 0, (⟨#[]⟩ : ByteArray)⟩
def e23 (x : S23) : List V := [.sc (.int .i64 x.f0), .sc (.int .i64 x.f1), .sc (.string x.f2)]
def r23 (x : S23) : List RC := [.p (.sc (.int .i64 x.f0)), .p (.sc (.int .i64 x.f1)), .p (.sc (.string x.f2))]
structure S25 where
  f0 : S23
  f1 : Int
  f2 : Int
  f3 : Int
  f4 : Int
def z25 : S25 := ⟨z23, 0, 0, 0, 0⟩
def e25 (x : S25) : List V := [.sc (.int .i64 x.f0.f0), .sc (.int .i64 x.f0.f1), .sc (.string x.f0.f2), .sc (.int .i64 x.f1), .sc (.int .i64 x.f2), .sc (.int .i64 x.f3), .sc (.int .i64 x.f4)]
def r25 (x : S25) : List RC := [.p (.sc (.int .i64 x.f0.f0)), .p (.sc (.int .i64 x.f0.f1)), .p (.sc (.string x.f0.f2)), .p (.sc (.int .i64 x.f1)), .p (.sc (.int .i64 x.f2)), .p (.sc (.int .i64 x.f3)), .p (.sc (.int .i64 x.f4))]
structure S110 where
  f0 : Int
  f1 : Int
  f2 : Int
  f3 : Bool
def z110 : S110 := ⟨0, 0, 0, false⟩
def e110 (x : S110) : List V := [.sc (.int .i64 x.f0), .sc (.int .i64 x.f1), .sc (.int .i64 x.f2), .sc (.bool x.f3)]
def r110 (x : S110) : List RC := [.p (.sc (.int .i64 x.f0)), .p (.sc (.int .i64 x.f1)), .p (.sc (.int .i64 x.f2)), .p (.sc (.bool x.f3))]
structure S29 where
  f0 : Int
  f1 : Int
  f2 : List Int
def z29 : S29 := ⟨0, 0, []⟩
def e29 (x : S29) : List V := [.sc (.int .i64 x.f0), .sc (.int .i64 x.f1), R 1 (eI .i64) 0 x.f2]
def r29 (x : S29) : List RC := [.p (.sc (.int .i64 x.f0)), .p (.sc (.int .i64 x.f1)), .own 3 1 x.f2.length (fun j => (eI .i64) (x.f2.getD j 0))]
structure S127 where
  f0 : List Int
def z127 : S127 := ⟨[]⟩
def e127 (x : S127) : List V := [R 1 (eI .i64) 0 x.f0]
def r127 (x : S127) : List RC := [.own 3 1 x.f0.length (fun j => (eI .i64) (x.f0.getD j 0))]
structure S32 where
  f0 : Int
  f1 : Int
  f2 : List S127
def z32 : S32 := ⟨0, 0, []⟩
def e32 (x : S32) : List V := [.sc (.int .i64 x.f0), .sc (.int .i64 x.f1), R 1 e127 z127 x.f2]
def r32 (x : S32) : List RC := [.p (.sc (.int .i64 x.f0)), .p (.sc (.int .i64 x.f1)), .own 127 1 x.f2.length (fun j => e127 (x.f2.getD j z127))]
structure S113 where
  f0 : Int
  f1 : Int
  f2 : Bool
def z113 : S113 := ⟨0, 0, false⟩
def e113 (x : S113) : List V := [.sc (.int .i64 x.f0), .sc (.int .i64 x.f1), .sc (.bool x.f2)]
def r113 (x : S113) : List RC := [.p (.sc (.int .i64 x.f0)), .p (.sc (.int .i64 x.f1)), .p (.sc (.bool x.f2))]
structure S35 where
  f0 : S25
  f1 : List S110
  f2 : S29
  f3 : Int
  f4 : Bool
  f5 : S32
  f6 : List S113
  f7 : List Int
def z35 : S35 := ⟨z25, [], z29, 0, false, z32, [], []⟩
def e35 (x : S35) : List V := [.sc (.int .i64 x.f0.f0.f0), .sc (.int .i64 x.f0.f0.f1), .sc (.string x.f0.f0.f2), .sc (.int .i64 x.f0.f1), .sc (.int .i64 x.f0.f2), .sc (.int .i64 x.f0.f3), .sc (.int .i64 x.f0.f4), R 4 e110 z110 x.f1, .sc (.int .i64 x.f2.f0), .sc (.int .i64 x.f2.f1), R 1 (eI .i64) 0 x.f2.f2, .sc (.int .i64 x.f3), .sc (.bool x.f4), .sc (.int .i64 x.f5.f0), .sc (.int .i64 x.f5.f1), R 1 e127 z127 x.f5.f2, R 3 e113 z113 x.f6, R 1 (eI .i64) 0 x.f7]
def r35 (x : S35) : List RC := [.p (.sc (.int .i64 x.f0.f0.f0)), .p (.sc (.int .i64 x.f0.f0.f1)), .p (.sc (.string x.f0.f0.f2)), .p (.sc (.int .i64 x.f0.f1)), .p (.sc (.int .i64 x.f0.f2)), .p (.sc (.int .i64 x.f0.f3)), .p (.sc (.int .i64 x.f0.f4)), .own 110 4 x.f1.length (fun j => e110 (x.f1.getD j z110)), .p (.sc (.int .i64 x.f2.f0)), .p (.sc (.int .i64 x.f2.f1)), .own 3 1 x.f2.f2.length (fun j => (eI .i64) (x.f2.f2.getD j 0)), .p (.sc (.int .i64 x.f3)), .p (.sc (.bool x.f4)), .p (.sc (.int .i64 x.f5.f0)), .p (.sc (.int .i64 x.f5.f1)), .own 127 1 x.f5.f2.length (fun j => e127 (x.f5.f2.getD j z127)), .own 113 3 x.f6.length (fun j => e113 (x.f6.getD j z113)), .own 3 1 x.f7.length (fun j => (eI .i64) (x.f7.getD j 0))]
structure S38 where
  f0 : Int
  f1 : Int
  f2 : ByteArray
def z38 : S38 := ⟨0, 0, (⟨#[]⟩ : ByteArray)⟩
def e38 (x : S38) : List V := [.sc (.int .i64 x.f0), .sc (.int .i64 x.f1), .sc (.string x.f2)]
def r38 (x : S38) : List RC := [.p (.sc (.int .i64 x.f0)), .p (.sc (.int .i64 x.f1)), .p (.sc (.string x.f2))]
structure S40 where
  f0 : S38
  f1 : Int
  f2 : Int
  f3 : Int
  f4 : Int
def z40 : S40 := ⟨z38, 0, 0, 0, 0⟩
def e40 (x : S40) : List V := [.sc (.int .i64 x.f0.f0), .sc (.int .i64 x.f0.f1), .sc (.string x.f0.f2), .sc (.int .i64 x.f1), .sc (.int .i64 x.f2), .sc (.int .i64 x.f3), .sc (.int .i64 x.f4)]
def r40 (x : S40) : List RC := [.p (.sc (.int .i64 x.f0.f0)), .p (.sc (.int .i64 x.f0.f1)), .p (.sc (.string x.f0.f2)), .p (.sc (.int .i64 x.f1)), .p (.sc (.int .i64 x.f2)), .p (.sc (.int .i64 x.f3)), .p (.sc (.int .i64 x.f4))]
structure S71 where
  f0 : Int
  f1 : Int
  f2 : Int
  f3 : Bool
def z71 : S71 := ⟨0, 0, 0, false⟩
def e71 (x : S71) : List V := [.sc (.int .i64 x.f0), .sc (.int .i64 x.f1), .sc (.int .i64 x.f2), .sc (.bool x.f3)]
def r71 (x : S71) : List RC := [.p (.sc (.int .i64 x.f0)), .p (.sc (.int .i64 x.f1)), .p (.sc (.int .i64 x.f2)), .p (.sc (.bool x.f3))]
structure S42 where
  f0 : Int
  f1 : Int
  f2 : List Int
def z42 : S42 := ⟨0, 0, []⟩
def e42 (x : S42) : List V := [.sc (.int .i64 x.f0), .sc (.int .i64 x.f1), R 1 (eI .i64) 0 x.f2]
def r42 (x : S42) : List RC := [.p (.sc (.int .i64 x.f0)), .p (.sc (.int .i64 x.f1)), .own 3 1 x.f2.length (fun j => (eI .i64) (x.f2.getD j 0))]
structure S65 where
  f0 : List Int
def z65 : S65 := ⟨[]⟩
def e65 (x : S65) : List V := [R 1 (eI .i64) 0 x.f0]
def r65 (x : S65) : List RC := [.own 3 1 x.f0.length (fun j => (eI .i64) (x.f0.getD j 0))]
structure S45 where
  f0 : Int
  f1 : Int
  f2 : List S65
def z45 : S45 := ⟨0, 0, []⟩
def e45 (x : S45) : List V := [.sc (.int .i64 x.f0), .sc (.int .i64 x.f1), R 1 e65 z65 x.f2]
def r45 (x : S45) : List RC := [.p (.sc (.int .i64 x.f0)), .p (.sc (.int .i64 x.f1)), .own 65 1 x.f2.length (fun j => e65 (x.f2.getD j z65))]
structure S69 where
  f0 : Int
  f1 : Int
  f2 : Bool
def z69 : S69 := ⟨0, 0, false⟩
def e69 (x : S69) : List V := [.sc (.int .i64 x.f0), .sc (.int .i64 x.f1), .sc (.bool x.f2)]
def r69 (x : S69) : List RC := [.p (.sc (.int .i64 x.f0)), .p (.sc (.int .i64 x.f1)), .p (.sc (.bool x.f2))]
structure S48 where
  f0 : S40
  f1 : List S71
  f2 : S42
  f3 : Int
  f4 : Bool
  f5 : S45
  f6 : List S69
  f7 : List Int
def z48 : S48 := ⟨z40, [], z42, 0, false, z45, [], []⟩
def e48 (x : S48) : List V := [.sc (.int .i64 x.f0.f0.f0), .sc (.int .i64 x.f0.f0.f1), .sc (.string x.f0.f0.f2), .sc (.int .i64 x.f0.f1), .sc (.int .i64 x.f0.f2), .sc (.int .i64 x.f0.f3), .sc (.int .i64 x.f0.f4), R 4 e71 z71 x.f1, .sc (.int .i64 x.f2.f0), .sc (.int .i64 x.f2.f1), R 1 (eI .i64) 0 x.f2.f2, .sc (.int .i64 x.f3), .sc (.bool x.f4), .sc (.int .i64 x.f5.f0), .sc (.int .i64 x.f5.f1), R 1 e65 z65 x.f5.f2, R 3 e69 z69 x.f6, R 1 (eI .i64) 0 x.f7]
def r48 (x : S48) : List RC := [.p (.sc (.int .i64 x.f0.f0.f0)), .p (.sc (.int .i64 x.f0.f0.f1)), .p (.sc (.string x.f0.f0.f2)), .p (.sc (.int .i64 x.f0.f1)), .p (.sc (.int .i64 x.f0.f2)), .p (.sc (.int .i64 x.f0.f3)), .p (.sc (.int .i64 x.f0.f4)), .own 71 4 x.f1.length (fun j => e71 (x.f1.getD j z71)), .p (.sc (.int .i64 x.f2.f0)), .p (.sc (.int .i64 x.f2.f1)), .own 3 1 x.f2.f2.length (fun j => (eI .i64) (x.f2.f2.getD j 0)), .p (.sc (.int .i64 x.f3)), .p (.sc (.bool x.f4)), .p (.sc (.int .i64 x.f5.f0)), .p (.sc (.int .i64 x.f5.f1)), .own 65 1 x.f5.f2.length (fun j => e65 (x.f5.f2.getD j z65)), .own 69 3 x.f6.length (fun j => e69 (x.f6.getD j z69)), .own 3 1 x.f7.length (fun j => (eI .i64) (x.f7.getD j 0))]
end Go.Proofs.YtnnppdjmhellcaaGreat.V
