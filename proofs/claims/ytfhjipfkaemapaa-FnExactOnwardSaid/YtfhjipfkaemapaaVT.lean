/- What each Go function computes, and that the machine does so: printed by a program of this session (avgen.py). -/
import Derived.Test.YtfhjipfkaemapaaProg
import Derived.Test.YtfhjipfkaemapaaAvW
namespace Go.Proofs.Ytfhjipfkaemapaa.V
open Go Go.Av Go.Proofs Go.Proofs.Try
set_option linter.unusedVariables false
set_option maxRecDepth 100000
theorem MX : Try.prog.follows .mixedOrders = true := by kernel_rfl
section
variable {f : FuncId} {fn : Func} {N : Nat} {rds : List RD} {k : List Item} {S : FS} {obs : List Prop} {stk : List Item} {T : List (Nat × AV)} {H : List (Nat × Content)}
theorem rt {w0 : World} (hfn : Try.prog.funcs[f]? = some fn) (orc : List (Orc Try.prog)) (ho : All obs) (h : ev Try.prog N fn.results.toList rds .ret 1000 orc k S = some (obs ++ selfR rds) := by kernel_rfl) : AG Try.prog f N rds (plain w0) k S := byRet MX hfn 1000 orc ho h
theorem hd {w0 : Base} (hfn : Try.prog.funcs[f]? = some fn) (orc : List (Orc Try.prog)) (ho : All obs) (hg : AG Try.prog f N rds w0 stk (mkFS T H)) (h : ev Try.prog N fn.results.toList rds (.head stk T H) 1000 orc k S = some (obs ++ ((stk = stk) :: selfS T H)) := by kernel_rfl) : AG Try.prog f N rds w0 k S := byHead MX hfn 1000 orc ho hg h
theorem st {w0 : Base} (hfn : Try.prog.funcs[f]? = some fn) (orc : List (Orc Try.prog)) (ho : All obs) (hg : AG Try.prog f N rds w0 stk (mkFS T H)) (h : ev Try.prog N fn.results.toList rds (.stop stk T H) 1000 orc k S = some (obs ++ ((stk = stk) :: selfS T H)) := by kernel_rfl) : AG Try.prog f N rds w0 k S := byStop MX hfn 1000 orc ho hg h
end
theorem oT {p : Prop} [Decidable p] {l : List Prop} (h : p) (r : All l) : All ((decide p = true) :: l) := o1 (decide_eq_true h) r
theorem oF {p : Prop} [Decidable p] {l : List Prop} (h : ¬ p) (r : All l) : All ((decide p = false) :: l) := o1 (decide_eq_false h) r
theorem oc {l : List Prop} (C : Con Try.prog) (r : All l) : All (selfCall C ++ l) := oa (sc_ C) r
theorem oN {b : Bool} {l : List Prop} (h : ¬ b = true) (r : All l) : All (((!b) = true) :: l) := o1 (bnt (eqf h)) r
theorem oR {l : List Prop} (r : All l) : All ((true = true) :: l) := o1 rfl r
theorem ip {c : Prop} [Decidable c] {α : Type} {a b r : α} (hc : c) (h : (if c then a else b) = r) : a = r := (if_pos hc).symm.trans h
theorem iq {c : Prop} [Decidable c] {α : Type} {a b r : α} (hc : ¬ c) (h : (if c then a else b) = r) : b = r := (if_neg hc).symm.trans h
def iI (x : Int) : V := .sc (.int .i64 x)
structure S23 where
  f0 : Int
  f1 : Int
  f2 : ByteArray
def z23 : S23 := ⟨0, 0, (⟨#[]⟩ : ByteArray)⟩
def e23 (x : S23) : List V := [.sc (.int .i64 x.f0), .sc (.int .i64 x.f1), .sc (.string x.f2)]
def r23 (x : S23) : List RC := [.p (.sc (.int .i64 x.f0)), .p (.sc (.int .i64 x.f1)), .p (.sc (.string x.f2))]
structure S25 where
  f0 : S23
  f1 : Int
  f2 : Int
  f3 : Int
  f4 : Int
def z25 : S25 := ⟨z23, 0, 0, 0, 0⟩
def e25 (x : S25) : List V := [.sc (.int .i64 x.f0.f0), .sc (.int .i64 x.f0.f1), .sc (.string x.f0.f2), .sc (.int .i64 x.f1), .sc (.int .i64 x.f2), .sc (.int .i64 x.f3), .sc (.int .i64 x.f4)]
def r25 (x : S25) : List RC := [.p (.sc (.int .i64 x.f0.f0)), .p (.sc (.int .i64 x.f0.f1)), .p (.sc (.string x.f0.f2)), .p (.sc (.int .i64 x.f1)), .p (.sc (.int .i64 x.f2)), .p (.sc (.int .i64 x.f3)), .p (.sc (.int .i64 x.f4))]
structure S92 where
  f0 : Int
  f1 : Int
  f2 : Int
  f3 : Bool
def z92 : S92 := ⟨0, 0, 0, false⟩
def e92 (x : S92) : List V := [.sc (.int .i64 x.f0), .sc (.int .i64 x.f1), .sc (.int .i64 x.f2), .sc (.bool x.f3)]
def r92 (x : S92) : List RC := [.p (.sc (.int .i64 x.f0)), .p (.sc (.int .i64 x.f1)), .p (.sc (.int .i64 x.f2)), .p (.sc (.bool x.f3))]
structure S29 where
  f0 : Int
  f1 : Int
  f2 : List Int
def z29 : S29 := ⟨0, 0, []⟩
def e29 (x : S29) : List V := [.sc (.int .i64 x.f0), .sc (.int .i64 x.f1), R 1 (eI .i64) 0 x.f2]
def r29 (x : S29) : List RC := [.p (.sc (.int .i64 x.f0)), .p (.sc (.int .i64 x.f1)), .own 3 1 x.f2.length (fun j => (eI .i64) (x.f2.getD j 0))]
structure S110 where
  f0 : List Int
def z110 : S110 := ⟨[]⟩
def e110 (x : S110) : List V := [R 1 (eI .i64) 0 x.f0]
def r110 (x : S110) : List RC := [.own 3 1 x.f0.length (fun j => (eI .i64) (x.f0.getD j 0))]
structure S32 where
  f0 : Int
  f1 : Int
  f2 : List S110
def z32 : S32 := ⟨0, 0, []⟩
def e32 (x : S32) : List V := [.sc (.int .i64 x.f0), .sc (.int .i64 x.f1), R 1 e110 z110 x.f2]
def r32 (x : S32) : List RC := [.p (.sc (.int .i64 x.f0)), .p (.sc (.int .i64 x.f1)), .own 110 1 x.f2.length (fun j => e110 (x.f2.getD j z110))]
def rn32 (x : S32) : List RC := [.p (.sc (.int .i64 x.f0)), .p (.sc (.int .i64 x.f1)), NR 110 3 S110.f0 (Value.int .i64) z110 0 x.f2]
structure S95 where
  f0 : Int
  f1 : Int
  f2 : Bool
def z95 : S95 := ⟨0, 0, false⟩
def e95 (x : S95) : List V := [.sc (.int .i64 x.f0), .sc (.int .i64 x.f1), .sc (.bool x.f2)]
def r95 (x : S95) : List RC := [.p (.sc (.int .i64 x.f0)), .p (.sc (.int .i64 x.f1)), .p (.sc (.bool x.f2))]
structure S35 where
  f0 : S25
  f1 : List S92
  f2 : S29
  f3 : Int
  f4 : Bool
  f5 : S32
  f6 : List S95
  f7 : List Int
def z35 : S35 := ⟨z25, [], z29, 0, false, z32, [], []⟩
def e35 (x : S35) : List V := [.sc (.int .i64 x.f0.f0.f0), .sc (.int .i64 x.f0.f0.f1), .sc (.string x.f0.f0.f2), .sc (.int .i64 x.f0.f1), .sc (.int .i64 x.f0.f2), .sc (.int .i64 x.f0.f3), .sc (.int .i64 x.f0.f4), R 4 e92 z92 x.f1, .sc (.int .i64 x.f2.f0), .sc (.int .i64 x.f2.f1), R 1 (eI .i64) 0 x.f2.f2, .sc (.int .i64 x.f3), .sc (.bool x.f4), .sc (.int .i64 x.f5.f0), .sc (.int .i64 x.f5.f1), R 1 e110 z110 x.f5.f2, R 3 e95 z95 x.f6, R 1 (eI .i64) 0 x.f7]
def r35 (x : S35) : List RC := [.p (.sc (.int .i64 x.f0.f0.f0)), .p (.sc (.int .i64 x.f0.f0.f1)), .p (.sc (.string x.f0.f0.f2)), .p (.sc (.int .i64 x.f0.f1)), .p (.sc (.int .i64 x.f0.f2)), .p (.sc (.int .i64 x.f0.f3)), .p (.sc (.int .i64 x.f0.f4)), .own 92 4 x.f1.length (fun j => e92 (x.f1.getD j z92)), .p (.sc (.int .i64 x.f2.f0)), .p (.sc (.int .i64 x.f2.f1)), .own 3 1 x.f2.f2.length (fun j => (eI .i64) (x.f2.f2.getD j 0)), .p (.sc (.int .i64 x.f3)), .p (.sc (.bool x.f4)), .p (.sc (.int .i64 x.f5.f0)), .p (.sc (.int .i64 x.f5.f1)), .own 110 1 x.f5.f2.length (fun j => e110 (x.f5.f2.getD j z110)), .own 95 3 x.f6.length (fun j => e95 (x.f6.getD j z95)), .own 3 1 x.f7.length (fun j => (eI .i64) (x.f7.getD j 0))]
def rn35 (x : S35) : List RC := [.p (.sc (.int .i64 x.f0.f0.f0)), .p (.sc (.int .i64 x.f0.f0.f1)), .p (.sc (.string x.f0.f0.f2)), .p (.sc (.int .i64 x.f0.f1)), .p (.sc (.int .i64 x.f0.f2)), .p (.sc (.int .i64 x.f0.f3)), .p (.sc (.int .i64 x.f0.f4)), .own 92 4 x.f1.length (fun j => e92 (x.f1.getD j z92)), .p (.sc (.int .i64 x.f2.f0)), .p (.sc (.int .i64 x.f2.f1)), .own 3 1 x.f2.f2.length (fun j => (eI .i64) (x.f2.f2.getD j 0)), .p (.sc (.int .i64 x.f3)), .p (.sc (.bool x.f4)), .p (.sc (.int .i64 x.f5.f0)), .p (.sc (.int .i64 x.f5.f1)), NR 110 3 S110.f0 (Value.int .i64) z110 0 x.f5.f2, .own 95 3 x.f6.length (fun j => e95 (x.f6.getD j z95)), .own 3 1 x.f7.length (fun j => (eI .i64) (x.f7.getD j 0))]
structure S37 where
  f0 : Int
  f1 : Int
  f2 : ByteArray
def z37 : S37 := ⟨0, 0, (⟨#[]⟩ : ByteArray)⟩
def e37 (x : S37) : List V := [.sc (.int .i64 x.f0), .sc (.int .i64 x.f1), .sc (.string x.f2)]
def r37 (x : S37) : List RC := [.p (.sc (.int .i64 x.f0)), .p (.sc (.int .i64 x.f1)), .p (.sc (.string x.f2))]
structure S39 where
  f0 : S37
  f1 : Int
  f2 : Int
  f3 : Int
  f4 : Int
def z39 : S39 := ⟨z37, 0, 0, 0, 0⟩
def e39 (x : S39) : List V := [.sc (.int .i64 x.f0.f0), .sc (.int .i64 x.f0.f1), .sc (.string x.f0.f2), .sc (.int .i64 x.f1), .sc (.int .i64 x.f2), .sc (.int .i64 x.f3), .sc (.int .i64 x.f4)]
def r39 (x : S39) : List RC := [.p (.sc (.int .i64 x.f0.f0)), .p (.sc (.int .i64 x.f0.f1)), .p (.sc (.string x.f0.f2)), .p (.sc (.int .i64 x.f1)), .p (.sc (.int .i64 x.f2)), .p (.sc (.int .i64 x.f3)), .p (.sc (.int .i64 x.f4))]
structure S90 where
  f0 : Int
  f1 : Int
  f2 : Int
  f3 : Bool
def z90 : S90 := ⟨0, 0, 0, false⟩
def e90 (x : S90) : List V := [.sc (.int .i64 x.f0), .sc (.int .i64 x.f1), .sc (.int .i64 x.f2), .sc (.bool x.f3)]
def r90 (x : S90) : List RC := [.p (.sc (.int .i64 x.f0)), .p (.sc (.int .i64 x.f1)), .p (.sc (.int .i64 x.f2)), .p (.sc (.bool x.f3))]
structure S41 where
  f0 : Int
  f1 : Int
  f2 : List Int
def z41 : S41 := ⟨0, 0, []⟩
def e41 (x : S41) : List V := [.sc (.int .i64 x.f0), .sc (.int .i64 x.f1), R 1 (eI .i64) 0 x.f2]
def r41 (x : S41) : List RC := [.p (.sc (.int .i64 x.f0)), .p (.sc (.int .i64 x.f1)), .own 3 1 x.f2.length (fun j => (eI .i64) (x.f2.getD j 0))]
structure S64 where
  f0 : List Int
def z64 : S64 := ⟨[]⟩
def e64 (x : S64) : List V := [R 1 (eI .i64) 0 x.f0]
def r64 (x : S64) : List RC := [.own 3 1 x.f0.length (fun j => (eI .i64) (x.f0.getD j 0))]
structure S44 where
  f0 : Int
  f1 : Int
  f2 : List S64
def z44 : S44 := ⟨0, 0, []⟩
def e44 (x : S44) : List V := [.sc (.int .i64 x.f0), .sc (.int .i64 x.f1), R 1 e64 z64 x.f2]
def r44 (x : S44) : List RC := [.p (.sc (.int .i64 x.f0)), .p (.sc (.int .i64 x.f1)), .own 64 1 x.f2.length (fun j => e64 (x.f2.getD j z64))]
def rn44 (x : S44) : List RC := [.p (.sc (.int .i64 x.f0)), .p (.sc (.int .i64 x.f1)), NR 64 3 S64.f0 (Value.int .i64) z64 0 x.f2]
structure S62 where
  f0 : Int
  f1 : Int
  f2 : Bool
def z62 : S62 := ⟨0, 0, false⟩
def e62 (x : S62) : List V := [.sc (.int .i64 x.f0), .sc (.int .i64 x.f1), .sc (.bool x.f2)]
def r62 (x : S62) : List RC := [.p (.sc (.int .i64 x.f0)), .p (.sc (.int .i64 x.f1)), .p (.sc (.bool x.f2))]
structure S47 where
  f0 : S39
  f1 : List S90
  f2 : S41
  f3 : Int
  f4 : Bool
  f5 : S44
  f6 : List S62
  f7 : List Int
def z47 : S47 := ⟨z39, [], z41, 0, false, z44, [], []⟩
def e47 (x : S47) : List V := [.sc (.int .i64 x.f0.f0.f0), .sc (.int .i64 x.f0.f0.f1), .sc (.string x.f0.f0.f2), .sc (.int .i64 x.f0.f1), .sc (.int .i64 x.f0.f2), .sc (.int .i64 x.f0.f3), .sc (.int .i64 x.f0.f4), R 4 e90 z90 x.f1, .sc (.int .i64 x.f2.f0), .sc (.int .i64 x.f2.f1), R 1 (eI .i64) 0 x.f2.f2, .sc (.int .i64 x.f3), .sc (.bool x.f4), .sc (.int .i64 x.f5.f0), .sc (.int .i64 x.f5.f1), R 1 e64 z64 x.f5.f2, R 3 e62 z62 x.f6, R 1 (eI .i64) 0 x.f7]
def r47 (x : S47) : List RC := [.p (.sc (.int .i64 x.f0.f0.f0)), .p (.sc (.int .i64 x.f0.f0.f1)), .p (.sc (.string x.f0.f0.f2)), .p (.sc (.int .i64 x.f0.f1)), .p (.sc (.int .i64 x.f0.f2)), .p (.sc (.int .i64 x.f0.f3)), .p (.sc (.int .i64 x.f0.f4)), .own 90 4 x.f1.length (fun j => e90 (x.f1.getD j z90)), .p (.sc (.int .i64 x.f2.f0)), .p (.sc (.int .i64 x.f2.f1)), .own 3 1 x.f2.f2.length (fun j => (eI .i64) (x.f2.f2.getD j 0)), .p (.sc (.int .i64 x.f3)), .p (.sc (.bool x.f4)), .p (.sc (.int .i64 x.f5.f0)), .p (.sc (.int .i64 x.f5.f1)), .own 64 1 x.f5.f2.length (fun j => e64 (x.f5.f2.getD j z64)), .own 62 3 x.f6.length (fun j => e62 (x.f6.getD j z62)), .own 3 1 x.f7.length (fun j => (eI .i64) (x.f7.getD j 0))]
def rn47 (x : S47) : List RC := [.p (.sc (.int .i64 x.f0.f0.f0)), .p (.sc (.int .i64 x.f0.f0.f1)), .p (.sc (.string x.f0.f0.f2)), .p (.sc (.int .i64 x.f0.f1)), .p (.sc (.int .i64 x.f0.f2)), .p (.sc (.int .i64 x.f0.f3)), .p (.sc (.int .i64 x.f0.f4)), .own 90 4 x.f1.length (fun j => e90 (x.f1.getD j z90)), .p (.sc (.int .i64 x.f2.f0)), .p (.sc (.int .i64 x.f2.f1)), .own 3 1 x.f2.f2.length (fun j => (eI .i64) (x.f2.f2.getD j 0)), .p (.sc (.int .i64 x.f3)), .p (.sc (.bool x.f4)), .p (.sc (.int .i64 x.f5.f0)), .p (.sc (.int .i64 x.f5.f1)), NR 64 3 S64.f0 (Value.int .i64) z64 0 x.f5.f2, .own 62 3 x.f6.length (fun j => e62 (x.f6.getD j z62)), .own 3 1 x.f7.length (fun j => (eI .i64) (x.f7.getD j 0))]
end Go.Proofs.Ytfhjipfkaemapaa.V
