/- What each Go function computes, and that the machine does so: printed by a program of this session (avgen.py). -/
import Derived.Test.YtoaknaceaghclaaGreatProg
import Derived.Test.YtoaknaceaghclaaGreatAvW
import Derived.Test.YtoaknaceaghclaaGreatAvOrd
import Derived.Test.YtoaknaceaghclaaGreatAvDel
namespace Go.Proofs.YtoaknaceaghclaaGreat.V
open Go Go.Av Go.Proofs Go.Proofs.Tryz
set_option linter.unusedVariables false
set_option maxRecDepth 100000
theorem MX : Tryz.prog.follows .mixedOrders = true := by kernel_rfl
section
variable {f : FuncId} {fn : Func} {N : Nat} {rds : List RD} {k : List Item} {S : FS} {obs : List Prop} {stk : List Item} {T : List (Nat × AV)} {H : List (Nat × Content)}
theorem rt {w0 : World} (hfn : Tryz.prog.funcs[f]? = some fn) (orc : List (Orc Tryz.prog)) (ho : All obs) (h : ev Tryz.prog N fn.results.toList rds .ret 1000 orc k S = some (obs ++ selfR rds) := by kernel_rfl) : AG Tryz.prog f N rds (plain w0) k S := byRet MX hfn 1000 orc ho h
theorem hd {w0 : Base} (hfn : Tryz.prog.funcs[f]? = some fn) (orc : List (Orc Tryz.prog)) (ho : All obs) (hg : AG Tryz.prog f N rds w0 stk (mkFS T H)) (h : ev Tryz.prog N fn.results.toList rds (.head stk T H) 1000 orc k S = some (obs ++ ((stk = stk) :: selfS T H)) := by kernel_rfl) : AG Tryz.prog f N rds w0 k S := byHead MX hfn 1000 orc ho hg h
theorem st {w0 : Base} (hfn : Tryz.prog.funcs[f]? = some fn) (orc : List (Orc Tryz.prog)) (ho : All obs) (hg : AG Tryz.prog f N rds w0 stk (mkFS T H)) (h : ev Tryz.prog N fn.results.toList rds (.stop stk T H) 1000 orc k S = some (obs ++ ((stk = stk) :: selfS T H)) := by kernel_rfl) : AG Tryz.prog f N rds w0 k S := byStop MX hfn 1000 orc ho hg h
end
theorem oT {p : Prop} [Decidable p] {l : List Prop} (h : p) (r : All l) : All ((decide p = true) :: l) := o1 (decide_eq_true h) r
theorem oF {p : Prop} [Decidable p] {l : List Prop} (h : ¬ p) (r : All l) : All ((decide p = false) :: l) := o1 (decide_eq_false h) r
theorem oc {l : List Prop} (C : Con Tryz.prog) (r : All l) : All (selfCall C ++ l) := oa (sc_ C) r
theorem oN {b : Bool} {l : List Prop} (h : ¬ b = true) (r : All l) : All (((!b) = true) :: l) := o1 (bnt (eqf h)) r
theorem oR {l : List Prop} (r : All l) : All ((true = true) :: l) := o1 rfl r
theorem ip {c : Prop} [Decidable c] {α : Type} {a b r : α} (hc : c) (h : (if c then a else b) = r) : a = r := (if_pos hc).symm.trans h
theorem iq {c : Prop} [Decidable c] {α : Type} {a b r : α} (hc : ¬ c) (h : (if c then a else b) = r) : b = r := (if_neg hc).symm.trans h
def iI (x : Int) : V := .sc (.int .i64 x)
structure S23 where
  f0 : Int
  f1 : Int
  f2 : ByteArray
def z23 : S23 := ⟨0, 0, (⟨#[]⟩ : ByteArray)⟩
def e23 (x : S23) : List V := [.sc (.int .i64 x.f0), .sc (.int .i64 x.f1), .sc (.string x.f2)]
def r23 (x : S23) : List RC := [.p (.sc (.int .i64 x.f0)), .p (.sc (.int .i64 x.f1)), .p (.sc (.string x.f2))]
structure S25 where
  f0 : S23
  f1 : Int
  f2 : Int
  f3 : Int
  f4 : Int
def z25 : S25 := ⟨z23, 0, 0, 0, 0⟩
def e25 (x : S25) : List V := [.sc (.int .i64 x.f0.f0), .sc (.int .i64 x.f0.f1), .sc (.string x.f0.f2), .sc (.int .i64 x.f1), .sc (.int .i64 x.f2), .sc (.int .i64 x.f3), .sc (.int .i64 x.f4)]
def r25 (x : S25) : List RC := [.p (.sc (.int .i64 x.f0.f0)), .p (.sc (.int .i64 x.f0.f1)), .p (.sc (.string x.f0.f2)), .p (.sc (.int .i64 x.f1)), .p (.sc (.int .i64 x.f2)), .p (.sc (.int .i64 x.f3)), .p (.sc (.int .i64 x.f4))]
structure S113 where
  f0 : Int
  f1 : Int
  f2 : Int
  f3 : Bool
def z113 : S113 := ⟨0, 0, 0, false⟩
def e113 (x : S113) : List V := [.sc (.int .i64 x.f0), .sc (.int .i64 x.f1), .sc (.int .i64 x.f2), .sc (.bool x.f3)]
def r113 (x : S113) : List RC := [.p (.sc (.int .i64 x.f0)), .p (.sc (.int .i64 x.f1)), .p (.sc (.int .i64 x.f2)), .p (.sc (.bool x.f3))]
structure S29 where
  f0 : Int
  f1 : Int
  f2 : List Int
def z29 : S29 := ⟨0, 0, []⟩
def e29 (x : S29) : List V := [.sc (.int .i64 x.f0), .sc (.int .i64 x.f1), R 1 (eI .i64) 0 x.f2]
def r29 (x : S29) : List RC := [.p (.sc (.int .i64 x.f0)), .p (.sc (.int .i64 x.f1)), .own 3 1 x.f2.length (fun j => (eI .i64) (x.f2.getD j 0))]
structure S147 where
  f0 : List Int
def z147 : S147 := ⟨[]⟩
def e147 (x : S147) : List V := [R 1 (eI .i64) 0 x.f0]
def r147 (x : S147) : List RC := [.own 3 1 x.f0.length (fun j => (eI .i64) (x.f0.getD j 0))]
structure S32 where
  f0 : Int
  f1 : Int
  f2 : List S147
def z32 : S32 := ⟨0, 0, []⟩
def e32 (x : S32) : List V := [.sc (.int .i64 x.f0), .sc (.int .i64 x.f1), R 1 e147 z147 x.f2]
def r32 (x : S32) : List RC := [.p (.sc (.int .i64 x.f0)), .p (.sc (.int .i64 x.f1)), .own 147 1 x.f2.length (fun j => e147 (x.f2.getD j z147))]
def rn32 (x : S32) : List RC := [.p (.sc (.int .i64 x.f0)), .p (.sc (.int .i64 x.f1)), NR 147 3 S147.f0 (Value.int .i64) z147 0 x.f2]
structure S116 where
  f0 : Int
  f1 : Int
  f2 : Bool
def z116 : S116 := ⟨0, 0, false⟩
def e116 (x : S116) : List V := [.sc (.int .i64 x.f0), .sc (.int .i64 x.f1), .sc (.bool x.f2)]
def r116 (x : S116) : List RC := [.p (.sc (.int .i64 x.f0)), .p (.sc (.int .i64 x.f1)), .p (.sc (.bool x.f2))]
structure S35 where
  f0 : S25
  f1 : List S113
  f2 : S29
  f3 : Int
  f4 : Bool
  f5 : S32
  f6 : List S116
  f7 : List Int
def z35 : S35 := ⟨z25, [], z29, 0, false, z32, [], []⟩
def e35 (x : S35) : List V := [.sc (.int .i64 x.f0.f0.f0), .sc (.int .i64 x.f0.f0.f1), .sc (.string x.f0.f0.f2), .sc (.int .i64 x.f0.f1), .sc (.int .i64 x.f0.f2), .sc (.int .i64 x.f0.f3), .sc (.int .i64 x.f0.f4), R 4 e113 z113 x.f1, .sc (.int .i64 x.f2.f0), .sc (.int .i64 x.f2.f1), R 1 (eI .i64) 0 x.f2.f2, .sc (.int .i64 x.f3), .sc (.bool x.f4), .sc (.int .i64 x.f5.f0), .sc (.int .i64 x.f5.f1), R 1 e147 z147 x.f5.f2, R 3 e116 z116 x.f6, R 1 (eI .i64) 0 x.f7]
def r35 (x : S35) : List RC := [.p (.sc (.int .i64 x.f0.f0.f0)), .p (.sc (.int .i64 x.f0.f0.f1)), .p (.sc (.string x.f0.f0.f2)), .p (.sc (.int .i64 x.f0.f1)), .p (.sc (.int .i64 x.f0.f2)), .p (.sc (.int .i64 x.f0.f3)), .p (.sc (.int .i64 x.f0.f4)), .own 113 4 x.f1.length (fun j => e113 (x.f1.getD j z113)), .p (.sc (.int .i64 x.f2.f0)), .p (.sc (.int .i64 x.f2.f1)), .own 3 1 x.f2.f2.length (fun j => (eI .i64) (x.f2.f2.getD j 0)), .p (.sc (.int .i64 x.f3)), .p (.sc (.bool x.f4)), .p (.sc (.int .i64 x.f5.f0)), .p (.sc (.int .i64 x.f5.f1)), .own 147 1 x.f5.f2.length (fun j => e147 (x.f5.f2.getD j z147)), .own 116 3 x.f6.length (fun j => e116 (x.f6.getD j z116)), .own 3 1 x.f7.length (fun j => (eI .i64) (x.f7.getD j 0))]
def rn35 (x : S35) : List RC := [.p (.sc (.int .i64 x.f0.f0.f0)), .p (.sc (.int .i64 x.f0.f0.f1)), .p (.sc (.string x.f0.f0.f2)), .p (.sc (.int .i64 x.f0.f1)), .p (.sc (.int .i64 x.f0.f2)), .p (.sc (.int .i64 x.f0.f3)), .p (.sc (.int .i64 x.f0.f4)), .own 113 4 x.f1.length (fun j => e113 (x.f1.getD j z113)), .p (.sc (.int .i64 x.f2.f0)), .p (.sc (.int .i64 x.f2.f1)), .own 3 1 x.f2.f2.length (fun j => (eI .i64) (x.f2.f2.getD j 0)), .p (.sc (.int .i64 x.f3)), .p (.sc (.bool x.f4)), .p (.sc (.int .i64 x.f5.f0)), .p (.sc (.int .i64 x.f5.f1)), NR 147 3 S147.f0 (Value.int .i64) z147 0 x.f5.f2, .own 116 3 x.f6.length (fun j => e116 (x.f6.getD j z116)), .own 3 1 x.f7.length (fun j => (eI .i64) (x.f7.getD j 0))]
structure S38 where
  f0 : Int
  f1 : Int
  f2 : ByteArray
def z38 : S38 := ⟨0, 0, (⟨#[]⟩ : ByteArray)⟩
def e38 (x : S38) : List V := [.sc (.int .i64 x.f0), .sc (.int .i64 x.f1), .sc (.string x.f2)]
def r38 (x : S38) : List RC := [.p (.sc (.int .i64 x.f0)), .p (.sc (.int .i64 x.f1)), .p (.sc (.string x.f2))]
structure S40 where
  f0 : S38
  f1 : Int
  f2 : Int
  f3 : Int
  f4 : Int
def z40 : S40 := ⟨z38, 0, 0, 0, 0⟩
def e40 (x : S40) : List V := [.sc (.int .i64 x.f0.f0), .sc (.int .i64 x.f0.f1), .sc (.string x.f0.f2), .sc (.int .i64 x.f1), .sc (.int .i64 x.f2), .sc (.int .i64 x.f3), .sc (.int .i64 x.f4)]
def r40 (x : S40) : List RC := [.p (.sc (.int .i64 x.f0.f0)), .p (.sc (.int .i64 x.f0.f1)), .p (.sc (.string x.f0.f2)), .p (.sc (.int .i64 x.f1)), .p (.sc (.int .i64 x.f2)), .p (.sc (.int .i64 x.f3)), .p (.sc (.int .i64 x.f4))]
structure S69 where
  f0 : Int
  f1 : Int
  f2 : Int
  f3 : Bool
def z69 : S69 := ⟨0, 0, 0, false⟩
def e69 (x : S69) : List V := [.sc (.int .i64 x.f0), .sc (.int .i64 x.f1), .sc (.int .i64 x.f2), .sc (.bool x.f3)]
def r69 (x : S69) : List RC := [.p (.sc (.int .i64 x.f0)), .p (.sc (.int .i64 x.f1)), .p (.sc (.int .i64 x.f2)), .p (.sc (.bool x.f3))]
structure S42 where
  f0 : Int
  f1 : Int
  f2 : List Int
def z42 : S42 := ⟨0, 0, []⟩
def e42 (x : S42) : List V := [.sc (.int .i64 x.f0), .sc (.int .i64 x.f1), R 1 (eI .i64) 0 x.f2]
def r42 (x : S42) : List RC := [.p (.sc (.int .i64 x.f0)), .p (.sc (.int .i64 x.f1)), .own 3 1 x.f2.length (fun j => (eI .i64) (x.f2.getD j 0))]
structure S72 where
  f0 : List Int
def z72 : S72 := ⟨[]⟩
def e72 (x : S72) : List V := [R 1 (eI .i64) 0 x.f0]
def r72 (x : S72) : List RC := [.own 3 1 x.f0.length (fun j => (eI .i64) (x.f0.getD j 0))]
structure S45 where
  f0 : Int
  f1 : Int
  f2 : List S72
def z45 : S45 := ⟨0, 0, []⟩
def e45 (x : S45) : List V := [.sc (.int .i64 x.f0), .sc (.int .i64 x.f1), R 1 e72 z72 x.f2]
def r45 (x : S45) : List RC := [.p (.sc (.int .i64 x.f0)), .p (.sc (.int .i64 x.f1)), .own 72 1 x.f2.length (fun j => e72 (x.f2.getD j z72))]
def rn45 (x : S45) : List RC := [.p (.sc (.int .i64 x.f0)), .p (.sc (.int .i64 x.f1)), NR 72 3 S72.f0 (Value.int .i64) z72 0 x.f2]
structure S74 where
  f0 : Int
  f1 : Int
  f2 : Bool
def z74 : S74 := ⟨0, 0, false⟩
def e74 (x : S74) : List V := [.sc (.int .i64 x.f0), .sc (.int .i64 x.f1), .sc (.bool x.f2)]
def r74 (x : S74) : List RC := [.p (.sc (.int .i64 x.f0)), .p (.sc (.int .i64 x.f1)), .p (.sc (.bool x.f2))]
structure S48 where
  f0 : S40
  f1 : List S69
  f2 : S42
  f3 : Int
  f4 : Bool
  f5 : S45
  f6 : List S74
  f7 : List Int
def z48 : S48 := ⟨z40, [], z42, 0, false, z45, [], []⟩
def e48 (x : S48) : List V := [.sc (.int .i64 x.f0.f0.f0), .sc (.int .i64 x.f0.f0.f1), .sc (.string x.f0.f0.f2), .sc (.int .i64 x.f0.f1), .sc (.int .i64 x.f0.f2), .sc (.int .i64 x.f0.f3), .sc (.int .i64 x.f0.f4), R 4 e69 z69 x.f1, .sc (.int .i64 x.f2.f0), .sc (.int .i64 x.f2.f1), R 1 (eI .i64) 0 x.f2.f2, .sc (.int .i64 x.f3), .sc (.bool x.f4), .sc (.int .i64 x.f5.f0), .sc (.int .i64 x.f5.f1), R 1 e72 z72 x.f5.f2, R 3 e74 z74 x.f6, R 1 (eI .i64) 0 x.f7]
def r48 (x : S48) : List RC := [.p (.sc (.int .i64 x.f0.f0.f0)), .p (.sc (.int .i64 x.f0.f0.f1)), .p (.sc (.string x.f0.f0.f2)), .p (.sc (.int .i64 x.f0.f1)), .p (.sc (.int .i64 x.f0.f2)), .p (.sc (.int .i64 x.f0.f3)), .p (.sc (.int .i64 x.f0.f4)), .own 69 4 x.f1.length (fun j => e69 (x.f1.getD j z69)), .p (.sc (.int .i64 x.f2.f0)), .p (.sc (.int .i64 x.f2.f1)), .own 3 1 x.f2.f2.length (fun j => (eI .i64) (x.f2.f2.getD j 0)), .p (.sc (.int .i64 x.f3)), .p (.sc (.bool x.f4)), .p (.sc (.int .i64 x.f5.f0)), .p (.sc (.int .i64 x.f5.f1)), .own 72 1 x.f5.f2.length (fun j => e72 (x.f5.f2.getD j z72)), .own 74 3 x.f6.length (fun j => e74 (x.f6.getD j z74)), .own 3 1 x.f7.length (fun j => (eI .i64) (x.f7.getD j 0))]
def rn48 (x : S48) : List RC := [.p (.sc (.int .i64 x.f0.f0.f0)), .p (.sc (.int .i64 x.f0.f0.f1)), .p (.sc (.string x.f0.f0.f2)), .p (.sc (.int .i64 x.f0.f1)), .p (.sc (.int .i64 x.f0.f2)), .p (.sc (.int .i64 x.f0.f3)), .p (.sc (.int .i64 x.f0.f4)), .own 69 4 x.f1.length (fun j => e69 (x.f1.getD j z69)), .p (.sc (.int .i64 x.f2.f0)), .p (.sc (.int .i64 x.f2.f1)), .own 3 1 x.f2.f2.length (fun j => (eI .i64) (x.f2.f2.getD j 0)), .p (.sc (.int .i64 x.f3)), .p (.sc (.bool x.f4)), .p (.sc (.int .i64 x.f5.f0)), .p (.sc (.int .i64 x.f5.f1)), NR 72 3 S72.f0 (Value.int .i64) z72 0 x.f5.f2, .own 74 3 x.f6.length (fun j => e74 (x.f6.getD j z74)), .own 3 1 x.f7.length (fun j => (eI .i64) (x.f7.getD j 0))]
end Go.Proofs.YtoaknaceaghclaaGreat.V
