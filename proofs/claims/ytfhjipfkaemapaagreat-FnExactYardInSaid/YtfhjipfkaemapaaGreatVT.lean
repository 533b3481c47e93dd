/- What each Go function computes, and that the machine does so: printed by a program of this session (avgen.py). -/
import Derived.Test.YtfhjipfkaemapaaGreatProg
import Derived.Test.YtfhjipfkaemapaaGreatAvY
import Derived.Test.YtfhjipfkaemapaaGreatAvOrd
import Derived.Test.YtfhjipfkaemapaaGreatAvDel
namespace Go.Proofs.YtfhjipfkaemapaaGreat.V
open Go Go.Av Go.Proofs Go.Proofs.Tryz
set_option linter.unusedVariables false
set_option maxRecDepth 100000
theorem MX : Tryz.prog.follows .mixedOrders = true := by kernel_rfl
section
variable {f : FuncId} {fn : Func} {N : Nat} {rds : List RD} {k : List Item} {S : FS} {obs : List Prop} {stk : List Item} {T : List (Nat × AV)} {H : List (Nat × Content)}
theorem rt {w0 : World} (hfn : Tryz.prog.funcs[f]? = some fn) (orc : List (Orc Tryz.prog)) (ho : All obs) (h : ev Tryz.prog N fn.results.toList rds .ret 1000 orc k S = some (obs ++ selfR rds) := by kernel_rfl) : AG Tryz.prog f N rds (plain w0) k S := byRet MX hfn 1000 orc ho h
theorem hd {w0 : Base} (hfn : Tryz.prog.funcs[f]? = some fn) (orc : List (Orc Tryz.prog)) (ho : All obs) (hg : AG Tryz.prog f N rds w0 stk (mkFS T H)) (h : ev Tryz.prog N fn.results.toList rds (.head stk T H) 1000 orc k S = some (obs ++ ((stk = stk) :: selfS T H)) := by kernel_rfl) : AG Tryz.prog f N rds w0 k S := byHead MX hfn 1000 orc ho hg h
theorem st {w0 : Base} (hfn : Tryz.prog.funcs[f]? = some fn) (orc : List (Orc Tryz.prog)) (ho : All obs) (hg : AG Tryz.prog f N rds w0 stk (mkFS T H)) (h : ev Tryz.prog N fn.results.toList rds (.stop stk T H) 1000 orc k S = some (obs ++ ((stk = stk) :: selfS T H)) := by kernel_rfl) : AG Tryz.prog f N rds w0 k S := byStop MX hfn 1000 orc ho hg h
end
theorem oT {p : Prop} [Decidable p] {l : List Prop} (h : p) (r : All l) : All ((decide p = true) :: l) := o1 (decide_eq_true h) r
theorem oF {p : Prop} [Decidable p] {l : List Prop} (h : ¬ p) (r : All l) : All ((decide p = false) :: l) := o1 (decide_eq_false h) r
theorem oc {l : List Prop} (C : Con Tryz.prog) (r : All l) : All (selfCall C ++ l) := oa (sc_ C) r
theorem oN {b : Bool} {l : List Prop} (h : ¬ b = true) (r : All l) : All (((!b) = true) :: l) := o1 (bnt (eqf h)) r
theorem oR {l : List Prop} (r : All l) : All ((true = true) :: l) := o1 rfl r
theorem ip {c : Prop} [Decidable c] {α : Type} {a b r : α} (hc : c) (h : (if c then a else b) = r) : a = r := (if_pos hc).symm.trans h
theorem iq {c : Prop} [Decidable c] {α : Type} {a b r : α} (hc : ¬ c) (h : (if c then a else b) = r) : b = r := (if_neg hc).symm.trans h
def iI (x : Int) : V := .sc (.int .i64 x)
structure S46 where
 f0 : List Int
 f1 : Int
 f2 : Bool
def z46 : S46 := ⟨[], 0, false⟩
def e46 (x : S46) : List V := [R 1 (eI .i64) 0 x.f0, .sc (.int .i64 x.f1), .sc (.bool x.f2)]
def r46 (x : S46) : List RC := [.own 3 1 x.f0.length (fun j => (eI .i64) (x.f0.getD j 0)), .p (.sc (.int .i64 x.f1)), .p (.sc (.bool x.f2))]
structure S59 where
 f0 : List Int
 f1 : Bool
def z59 : S59 := ⟨[], false⟩
def e59 (x : S59) : List V := [R 1 (eI .i64) 0 x.f0, .sc (.bool x.f1)]
def r59 (x : S59) : List RC := [.own 3 1 x.f0.length (fun j => (eI .i64) (x.f0.getD j 0)), .p (.sc (.bool x.f1))]
structure S24 where
 f0 : Int
 f1 : Int
 f2 : ByteArray
def z24 : S24 := ⟨0, 0, (⟨#[]⟩ : ByteArray)⟩
def e24 (x : S24) : List V := [.sc (.int .i64 x.f0), .sc (.int .i64 x.f1), .sc (.string x.f2)]
def r24 (x : S24) : List RC := [.p (.sc (.int .i64 x.f0)), .p (.sc (.int .i64 x.f1)), .p (.sc (.string x.f2))]
structure S26 where
 f0 : S24
 f1 : Int
 f2 : Int
 f3 : Int
 f4 : Int
def z26 : S26 := ⟨z24, 0, 0, 0, 0⟩
def e26 (x : S26) : List V := [.sc (.int .i64 x.f0.f0), .sc (.int .i64 x.f0.f1), .sc (.string x.f0.f2), .sc (.int .i64 x.f1), .sc (.int .i64 x.f2), .sc (.int .i64 x.f3), .sc (.int .i64 x.f4)]
def r26 (x : S26) : List RC := [.p (.sc (.int .i64 x.f0.f0)), .p (.sc (.int .i64 x.f0.f1)), .p (.sc (.string x.f0.f2)), .p (.sc (.int .i64 x.f1)), .p (.sc (.int .i64 x.f2)), .p (.sc (.int .i64 x.f3)), .p (.sc (.int .i64 x.f4))]
structure S51 where
 f0 : Int
 f1 : Int
 f2 : Int
 f3 : Bool
def z51 : S51 := ⟨0, 0, 0, false⟩
def e51 (x : S51) : List V := [.sc (.int .i64 x.f0), .sc (.int .i64 x.f1), .sc (.int .i64 x.f2), .sc (.bool x.f3)]
def r51 (x : S51) : List RC := [.p (.sc (.int .i64 x.f0)), .p (.sc (.int .i64 x.f1)), .p (.sc (.int .i64 x.f2)), .p (.sc (.bool x.f3))]
structure S29 where
 f0 : Int
 f1 : Int
 f2 : List Int
def z29 : S29 := ⟨0, 0, []⟩
def e29 (x : S29) : List V := [.sc (.int .i64 x.f0), .sc (.int .i64 x.f1), R 1 (eI .i64) 0 x.f2]
def r29 (x : S29) : List RC := [.p (.sc (.int .i64 x.f0)), .p (.sc (.int .i64 x.f1)), .own 3 1 x.f2.length (fun j => (eI .i64) (x.f2.getD j 0))]
structure S53 where
 f0 : List Int
def z53 : S53 := ⟨[]⟩
def e53 (x : S53) : List V := [R 1 (eI .i64) 0 x.f0]
def r53 (x : S53) : List RC := [.own 3 1 x.f0.length (fun j => (eI .i64) (x.f0.getD j 0))]
structure S32 where
 f0 : Int
 f1 : Int
 f2 : List S53
def z32 : S32 := ⟨0, 0, []⟩
def e32 (x : S32) : List V := [.sc (.int .i64 x.f0), .sc (.int .i64 x.f1), R 1 e53 z53 x.f2]
def r32 (x : S32) : List RC := [.p (.sc (.int .i64 x.f0)), .p (.sc (.int .i64 x.f1)), .own 53 1 x.f2.length (fun j => e53 (x.f2.getD j z53))]
def rn32 (x : S32) : List RC := [.p (.sc (.int .i64 x.f0)), .p (.sc (.int .i64 x.f1)), NR 53 3 S53.f0 (Value.int .i64) z53 0 x.f2]
structure S55 where
 f0 : Int
 f1 : Int
 f2 : Bool
def z55 : S55 := ⟨0, 0, false⟩
def e55 (x : S55) : List V := [.sc (.int .i64 x.f0), .sc (.int .i64 x.f1), .sc (.bool x.f2)]
def r55 (x : S55) : List RC := [.p (.sc (.int .i64 x.f0)), .p (.sc (.int .i64 x.f1)), .p (.sc (.bool x.f2))]
structure S35 where
 f0 : S26
 f1 : List S51
 f2 : S29
 f3 : Int
 f4 : Bool
 f5 : S32
 f6 : List S55
 f7 : List Int
def z35 : S35 := ⟨z26, [], z29, 0, false, z32, [], []⟩
def e35 (x : S35) : List V := [.sc (.int .i64 x.f0.f0.f0), .sc (.int .i64 x.f0.f0.f1), .sc (.string x.f0.f0.f2), .sc (.int .i64 x.f0.f1), .sc (.int .i64 x.f0.f2), .sc (.int .i64 x.f0.f3), .sc (.int .i64 x.f0.f4), R 4 e51 z51 x.f1, .sc (.int .i64 x.f2.f0), .sc (.int .i64 x.f2.f1), R 1 (eI .i64) 0 x.f2.f2, .sc (.int .i64 x.f3), .sc (.bool x.f4), .sc (.int .i64 x.f5.f0), .sc (.int .i64 x.f5.f1), R 1 e53 z53 x.f5.f2, R 3 e55 z55 x.f6, R 1 (eI .i64) 0 x.f7]
def r35 (x : S35) : List RC := [.p (.sc (.int .i64 x.f0.f0.f0)), .p (.sc (.int .i64 x.f0.f0.f1)), .p (.sc (.string x.f0.f0.f2)), .p (.sc (.int .i64 x.f0.f1)), .p (.sc (.int .i64 x.f0.f2)), .p (.sc (.int .i64 x.f0.f3)), .p (.sc (.int .i64 x.f0.f4)), .own 51 4 x.f1.length (fun j => e51 (x.f1.getD j z51)), .p (.sc (.int .i64 x.f2.f0)), .p (.sc (.int .i64 x.f2.f1)), .own 3 1 x.f2.f2.length (fun j => (eI .i64) (x.f2.f2.getD j 0)), .p (.sc (.int .i64 x.f3)), .p (.sc (.bool x.f4)), .p (.sc (.int .i64 x.f5.f0)), .p (.sc (.int .i64 x.f5.f1)), .own 53 1 x.f5.f2.length (fun j => e53 (x.f5.f2.getD j z53)), .own 55 3 x.f6.length (fun j => e55 (x.f6.getD j z55)), .own 3 1 x.f7.length (fun j => (eI .i64) (x.f7.getD j 0))]
def rn35 (x : S35) : List RC := [.p (.sc (.int .i64 x.f0.f0.f0)), .p (.sc (.int .i64 x.f0.f0.f1)), .p (.sc (.string x.f0.f0.f2)), .p (.sc (.int .i64 x.f0.f1)), .p (.sc (.int .i64 x.f0.f2)), .p (.sc (.int .i64 x.f0.f3)), .p (.sc (.int .i64 x.f0.f4)), .own 51 4 x.f1.length (fun j => e51 (x.f1.getD j z51)), .p (.sc (.int .i64 x.f2.f0)), .p (.sc (.int .i64 x.f2.f1)), .own 3 1 x.f2.f2.length (fun j => (eI .i64) (x.f2.f2.getD j 0)), .p (.sc (.int .i64 x.f3)), .p (.sc (.bool x.f4)), .p (.sc (.int .i64 x.f5.f0)), .p (.sc (.int .i64 x.f5.f1)), NR 53 3 S53.f0 (Value.int .i64) z53 0 x.f5.f2, .own 55 3 x.f6.length (fun j => e55 (x.f6.getD j z55)), .own 3 1 x.f7.length (fun j => (eI .i64) (x.f7.getD j 0))]
end Go.Proofs.YtfhjipfkaemapaaGreat.V