/- What each Go function computes, and that the machine does so: printed by a program of this session (avgen.py). -/
import Derived.Test.YtfhjipfkaemapaaGreatV3
namespace Go.Proofs.YtfhjipfkaemapaaGreat.V
open Go Go.Av Go.Proofs Go.Proofs.Tryz
set_option linter.unusedVariables false
set_option maxRecDepth 100000
def laws_FnExactYardIn.f (k : Nat) (a0 : List Int) : Option Bool := if 1048576 < (a0.length : Int) then (some true) else ((laws_toIntS.f k a0).bind fun t1 => (spec_YardIn.f k t1).bind fun t2 => (laws_toIntS.f k a0).bind fun t3 => (impl_YardIn.f k t3).bind fun t4 => (laws_eqYard.f k (⟨(⟨(⟨t4.1.f0.f0.f0, t4.1.f0.f0.f1, t4.1.f0.f0.f2⟩ : S24), t4.1.f0.f1, t4.1.f0.f2, t4.1.f0.f3, t4.1.f0.f4⟩ : S26), t4.1.f1, (⟨t4.1.f2.f0, t4.1.f2.f1, t4.1.f2.f2⟩ : S29), t4.1.f3, t4.1.f4, (⟨t4.1.f5.f0, t4.1.f5.f1, t4.1.f5.f2⟩ : S32), t4.1.f6, t4.1.f7⟩ : S35) (⟨(⟨(⟨t2.1.f0.f0.f0, t2.1.f0.f0.f1, t2.1.f0.f0.f2⟩ : S24), t2.1.f0.f1, t2.1.f0.f2, t2.1.f0.f3, t2.1.f0.f4⟩ : S26), t2.1.f1, (⟨t2.1.f2.f0, t2.1.f2.f1, t2.1.f2.f2⟩ : S29), t2.1.f3, t2.1.f4, (⟨t2.1.f5.f0, t2.1.f5.f1, t2.1.f5.f2⟩ : S32), t2.1.f6, t2.1.f7⟩ : S35)).bind fun t5 => if t5 = true then (if (t4.2 == t2.2) = true then ((laws_toIntS.f k a0).bind fun t6 => (laws_eqIntS.f k t3 t6).bind fun t7 => if t7 = true then ((laws_markIntS.f k t3 1).bind fun t8 => if t8.1 < 0 then (some false) else ((laws_eqYard.f k (⟨(⟨(⟨t4.1.f0.f0.f0, t4.1.f0.f0.f1, t4.1.f0.f0.f2⟩ : S24), t4.1.f0.f1, t4.1.f0.f2, t4.1.f0.f3, t4.1.f0.f4⟩ : S26), t4.1.f1, (⟨t4.1.f2.f0, t4.1.f2.f1, t4.1.f2.f2⟩ : S29), t4.1.f3, t4.1.f4, (⟨t4.1.f5.f0, t4.1.f5.f1, t4.1.f5.f2⟩ : S32), t4.1.f6, t4.1.f7⟩ : S35) (⟨(⟨(⟨t2.1.f0.f0.f0, t2.1.f0.f0.f1, t2.1.f0.f0.f2⟩ : S24), t2.1.f0.f1, t2.1.f0.f2, t2.1.f0.f3, t2.1.f0.f4⟩ : S26), t2.1.f1, (⟨t2.1.f2.f0, t2.1.f2.f1, t2.1.f2.f2⟩ : S29), t2.1.f3, t2.1.f4, (⟨t2.1.f5.f0, t2.1.f5.f1, t2.1.f5.f2⟩ : S32), t2.1.f6, t2.1.f7⟩ : S35)).bind fun t9 => if t9 = true then ((laws_markYard.f k (⟨(⟨(⟨t4.1.f0.f0.f0, t4.1.f0.f0.f1, t4.1.f0.f0.f2⟩ : S24), t4.1.f0.f1, t4.1.f0.f2, t4.1.f0.f3, t4.1.f0.f4⟩ : S26), t4.1.f1, (⟨t4.1.f2.f0, t4.1.f2.f1, t4.1.f2.f2⟩ : S29), t4.1.f3, t4.1.f4, (⟨t4.1.f5.f0, t4.1.f5.f1, t4.1.f5.f2⟩ : S32), t4.1.f6, t4.1.f7⟩ : S35) 1).bind fun t10 => (laws_heldYard.f k (⟨(⟨(⟨t4.1.f0.f0.f0, t4.1.f0.f0.f1, t4.1.f0.f0.f2⟩ : S24), t4.1.f0.f1, t4.1.f0.f2, t4.1.f0.f3, t4.1.f0.f4⟩ : S26), t10.2.1, (⟨t4.1.f2.f0, t4.1.f2.f1, t10.2.2.1⟩ : S29), t4.1.f3, t4.1.f4, (⟨t4.1.f5.f0, t4.1.f5.f1, t10.2.2.2.1⟩ : S32), t10.2.2.2.2.1, t10.2.2.2.2.2⟩ : S35) 1).bind fun t11 => if t11 < 0 then (some false) else (if t11 = t10.1 then ((laws_toIntS.f k a0).bind fun t12 => (impl_YardIn.f k t12).bind fun t13 => (laws_eqYard.f k (⟨(⟨(⟨t13.1.f0.f0.f0, t13.1.f0.f0.f1, t13.1.f0.f0.f2⟩ : S24), t13.1.f0.f1, t13.1.f0.f2, t13.1.f0.f3, t13.1.f0.f4⟩ : S26), t13.1.f1, (⟨t13.1.f2.f0, t13.1.f2.f1, t13.1.f2.f2⟩ : S29), t13.1.f3, t13.1.f4, (⟨t13.1.f5.f0, t13.1.f5.f1, t13.1.f5.f2⟩ : S32), t13.1.f6, t13.1.f7⟩ : S35) (⟨(⟨(⟨t2.1.f0.f0.f0, t2.1.f0.f0.f1, t2.1.f0.f0.f2⟩ : S24), t2.1.f0.f1, t2.1.f0.f2, t2.1.f0.f3, t2.1.f0.f4⟩ : S26), t2.1.f1, (⟨t2.1.f2.f0, t2.1.f2.f1, t2.1.f2.f2⟩ : S29), t2.1.f3, t2.1.f4, (⟨t2.1.f5.f0, t2.1.f5.f1, t2.1.f5.f2⟩ : S32), t2.1.f6, t2.1.f7⟩ : S35)).bind fun t14 => if t14 = true then (if (t13.2 == t2.2) = true then ((laws_heldYard.f k (⟨(⟨(⟨t4.1.f0.f0.f0, t4.1.f0.f0.f1, t4.1.f0.f0.f2⟩ : S24), t4.1.f0.f1, t4.1.f0.f2, t4.1.f0.f3, t4.1.f0.f4⟩ : S26), t10.2.1, (⟨t4.1.f2.f0, t4.1.f2.f1, t10.2.2.1⟩ : S29), t4.1.f3, t4.1.f4, (⟨t4.1.f5.f0, t4.1.f5.f1, t10.2.2.2.1⟩ : S32), t10.2.2.2.2.1, t10.2.2.2.2.2⟩ : S35) 1).bind fun t15 => if t15 < 0 then (some false) else (if t15 = t10.1 then (some true) else (some false))) else (some false)) else (some false)) else (some false))) else (some false))) else (some false)) else (some false)) else (some false))
theorem laws_FnExactYardIn.ok (k : Nat) (a0 : List Int) (r : Bool) (h : laws_FnExactYardIn.f k a0 = some r) : VCalls prog 3 [.c (R 1 (eI .i64) 0 a0)] [.c (.p (.sc (.bool r)))] := by
 unfold laws_FnExactYardIn.f at h
 refine VCalls.of (fn := f3) (N := 93) func3 rfl rfl (fun w0 => ?_)
 by_cases c1 : 1048576 < (a0.length : Int)
 ·replace h := ip c1 h
  cases h
  exact rt func3 [.b true, .fin] (oT c1 on)
 ·replace h := iq c1 h
  obtain ⟨t1, g2, h⟩ := bindN h
  let C2 := mkCon (laws_toIntS.ok k a0 t1 g2) laws_toIntS.go
  obtain ⟨t2, g3, h⟩ := bindN h
  let C3 := mkCon (spec_YardIn.ok k t1 t2 g3) spec_YardIn.go
  obtain ⟨t3, g4, h⟩ := bindN h
  let C4 := mkCon (laws_toIntS.ok k a0 t3 g4) laws_toIntS.go
  obtain ⟨t4, g5, h⟩ := bindN h
  let C5 := mkCon (impl_YardIn.ok k t3 t4 g5) impl_YardIn.go
  obtain ⟨t5, g6, h⟩ := bindN h
  let C6 := mkCon (laws_eqYard.ok k (⟨(⟨(⟨t4.1.f0.f0.f0, t4.1.f0.f0.f1, t4.1.f0.f0.f2⟩ : S24), t4.1.f0.f1, t4.1.f0.f2, t4.1.f0.f3, t4.1.f0.f4⟩ : S26), t4.1.f1, (⟨t4.1.f2.f0, t4.1.f2.f1, t4.1.f2.f2⟩ : S29), t4.1.f3, t4.1.f4, (⟨t4.1.f5.f0, t4.1.f5.f1, t4.1.f5.f2⟩ : S32), t4.1.f6, t4.1.f7⟩ : S35) (⟨(⟨(⟨t2.1.f0.f0.f0, t2.1.f0.f0.f1, t2.1.f0.f0.f2⟩ : S24), t2.1.f0.f1, t2.1.f0.f2, t2.1.f0.f3, t2.1.f0.f4⟩ : S26), t2.1.f1, (⟨t2.1.f2.f0, t2.1.f2.f1, t2.1.f2.f2⟩ : S29), t2.1.f3, t2.1.f4, (⟨t2.1.f5.f0, t2.1.f5.f1, t2.1.f5.f2⟩ : S32), t2.1.f6, t2.1.f7⟩ : S35) t5 g6) laws_eqYard.go
  by_cases c7 : t5 = true
  ·replace h := ip c7 h
   by_cases c8 : (t4.2 == t2.2) = true
   ·replace h := ip c8 h
    obtain ⟨t6, g9, h⟩ := bindN h
    let C9 := mkCon (laws_toIntS.ok k a0 t6 g9) laws_toIntS.go
    obtain ⟨t7, g10, h⟩ := bindN h
    let C10 := mkCon (laws_eqIntS.ok k t3 t6 t7 g10) laws_eqIntS.go
    by_cases c11 : t7 = true
    ·replace h := ip c11 h
     obtain ⟨t8, g12, h⟩ := bindN h
     let C12 := laws_markIntS.con k t3 1 t8 g12
     by_cases c13 : t8.1 < 0
     ·replace h := ip c13 h
      cases h
      exact rt func3 [.b false, .call C2, .call C3, .call C4, .call C5, .call C6, .dec 33 false, .b false, .call C9, .call C10, .b false, .callW C12 [(0, 1472)], .dec 48 true, .b true, .fin] (oF c1 (oc C2 (oc C3 (oc C4 (oc C5 (oc C6 (o1 (bnf c7) (o1 (bnf c8) (oc C9 (oc C10 (o1 (bnf c11) (oa (scw_ C12) (oT c13 (oR on))))))))))))))
     ·replace h := iq c13 h
      obtain ⟨t9, g14, h⟩ := bindN h
      let C14 := mkCon (laws_eqYard.ok k (⟨(⟨(⟨t4.1.f0.f0.f0, t4.1.f0.f0.f1, t4.1.f0.f0.f2⟩ : S24), t4.1.f0.f1, t4.1.f0.f2, t4.1.f0.f3, t4.1.f0.f4⟩ : S26), t4.1.f1, (⟨t4.1.f2.f0, t4.1.f2.f1, t4.1.f2.f2⟩ : S29), t4.1.f3, t4.1.f4, (⟨t4.1.f5.f0, t4.1.f5.f1, t4.1.f5.f2⟩ : S32), t4.1.f6, t4.1.f7⟩ : S35) (⟨(⟨(⟨t2.1.f0.f0.f0, t2.1.f0.f0.f1, t2.1.f0.f0.f2⟩ : S24), t2.1.f0.f1, t2.1.f0.f2, t2.1.f0.f3, t2.1.f0.f4⟩ : S26), t2.1.f1, (⟨t2.1.f2.f0, t2.1.f2.f1, t2.1.f2.f2⟩ : S29), t2.1.f3, t2.1.f4, (⟨t2.1.f5.f0, t2.1.f5.f1, t2.1.f5.f2⟩ : S32), t2.1.f6, t2.1.f7⟩ : S35) t9 g14) laws_eqYard.go
      by_cases c15 : t9 = true
      ·replace h := ip c15 h
       obtain ⟨t10, g16, h⟩ := bindN h
       let C16 := laws_markYard.con k (⟨(⟨(⟨t4.1.f0.f0.f0, t4.1.f0.f0.f1, t4.1.f0.f0.f2⟩ : S24), t4.1.f0.f1, t4.1.f0.f2, t4.1.f0.f3, t4.1.f0.f4⟩ : S26), t4.1.f1, (⟨t4.1.f2.f0, t4.1.f2.f1, t4.1.f2.f2⟩ : S29), t4.1.f3, t4.1.f4, (⟨t4.1.f5.f0, t4.1.f5.f1, t4.1.f5.f2⟩ : S32), t4.1.f6, t4.1.f7⟩ : S35) 1 t10 g16
       obtain ⟨t11, g17, h⟩ := bindN h
       let C17 := mkCon (laws_heldYard.ok k (⟨(⟨(⟨t4.1.f0.f0.f0, t4.1.f0.f0.f1, t4.1.f0.f0.f2⟩ : S24), t4.1.f0.f1, t4.1.f0.f2, t4.1.f0.f3, t4.1.f0.f4⟩ : S26), t10.2.1, (⟨t4.1.f2.f0, t4.1.f2.f1, t10.2.2.1⟩ : S29), t4.1.f3, t4.1.f4, (⟨t4.1.f5.f0, t4.1.f5.f1, t10.2.2.2.1⟩ : S32), t10.2.2.2.2.1, t10.2.2.2.2.2⟩ : S35) 1 t11 g17) laws_heldYard.go
       by_cases c18 : t11 < 0
       ·replace h := ip c18 h
        cases h
        exact rt func3 [.b false, .call C2, .call C3, .call C4, .call C5, .call C6, .dec 33 false, .b false, .call C9, .call C10, .b false, .callW C12 [(0, 1472)], .dec 48 false, .call C14, .dec 54 false, .b false, .callW C16 [(7, 1671), (10, 1674), (15, 1679), (16, 1680), (17, 1681)], .call C17, .b true, .fin] (oF c1 (oc C2 (oc C3 (oc C4 (oc C5 (oc C6 (o1 (bnf c7) (o1 (bnf c8) (oc C9 (oc C10 (o1 (bnf c11) (oa (scw_ C12) (oF c13 (oc C14 (o1 (bnf c15) (o1 (bnf c8) (oa (scw_ C16) (oc C17 (oT c18 on)))))))))))))))))))
       ·replace h := iq c18 h
        by_cases c19 : t11 = t10.1
        ·replace h := ip c19 h
         obtain ⟨t12, g20, h⟩ := bindN h
         let C20 := mkCon (laws_toIntS.ok k a0 t12 g20) laws_toIntS.go
         obtain ⟨t13, g21, h⟩ := bindN h
         let C21 := mkCon (impl_YardIn.ok k t12 t13 g21) impl_YardIn.go
         obtain ⟨t14, g22, h⟩ := bindN h
         let C22 := mkCon (laws_eqYard.ok k (⟨(⟨(⟨t13.1.f0.f0.f0, t13.1.f0.f0.f1, t13.1.f0.f0.f2⟩ : S24), t13.1.f0.f1, t13.1.f0.f2, t13.1.f0.f3, t13.1.f0.f4⟩ : S26), t13.1.f1, (⟨t13.1.f2.f0, t13.1.f2.f1, t13.1.f2.f2⟩ : S29), t13.1.f3, t13.1.f4, (⟨t13.1.f5.f0, t13.1.f5.f1, t13.1.f5.f2⟩ : S32), t13.1.f6, t13.1.f7⟩ : S35) (⟨(⟨(⟨t2.1.f0.f0.f0, t2.1.f0.f0.f1, t2.1.f0.f0.f2⟩ : S24), t2.1.f0.f1, t2.1.f0.f2, t2.1.f0.f3, t2.1.f0.f4⟩ : S26), t2.1.f1, (⟨t2.1.f2.f0, t2.1.f2.f1, t2.1.f2.f2⟩ : S29), t2.1.f3, t2.1.f4, (⟨t2.1.f5.f0, t2.1.f5.f1, t2.1.f5.f2⟩ : S32), t2.1.f6, t2.1.f7⟩ : S35) t14 g22) laws_eqYard.go
         by_cases c23 : t14 = true
         ·replace h := ip c23 h
          by_cases c24 : (t13.2 == t2.2) = true
          ·replace h := ip c24 h
           obtain ⟨t15, g25, h⟩ := bindN h
           let C25 := mkCon (laws_heldYard.ok k (⟨(⟨(⟨t4.1.f0.f0.f0, t4.1.f0.f0.f1, t4.1.f0.f0.f2⟩ : S24), t4.1.f0.f1, t4.1.f0.f2, t4.1.f0.f3, t4.1.f0.f4⟩ : S26), t10.2.1, (⟨t4.1.f2.f0, t4.1.f2.f1, t10.2.2.1⟩ : S29), t4.1.f3, t4.1.f4, (⟨t4.1.f5.f0, t4.1.f5.f1, t10.2.2.2.1⟩ : S32), t10.2.2.2.2.1, t10.2.2.2.2.2⟩ : S35) 1 t15 g25) laws_heldYard.go
           by_cases c26 : t15 < 0
           ·replace h := ip c26 h
            cases h
            exact rt func3 [.b false, .call C2, .call C3, .call C4, .call C5, .call C6, .dec 33 false, .b false, .call C9, .call C10, .b false, .callW C12 [(0, 1472)], .dec 48 false, .call C14, .dec 54 false, .b false, .callW C16 [(7, 1671), (10, 1674), (15, 1679), (16, 1680), (17, 1681)], .call C17, .b false, .b false, .call C20, .call C21, .call C22, .dec 80 false, .b false, .call C25, .b true, .fin] (oF c1 (oc C2 (oc C3 (oc C4 (oc C5 (oc C6 (o1 (bnf c7) (o1 (bnf c8) (oc C9 (oc C10 (o1 (bnf c11) (oa (scw_ C12) (oF c13 (oc C14 (o1 (bnf c15) (o1 (bnf c8) (oa (scw_ C16) (oc C17 (oF c18 (o1 (bnf (decide_eq_true c19)) (oc C20 (oc C21 (oc C22 (o1 (bnf c23) (o1 (bnf c24) (oc C25 (oT c26 on)))))))))))))))))))))))))))
           ·replace h := iq c26 h
            by_cases c27 : t15 = t10.1
            ·replace h := ip c27 h
             cases h
             exact rt func3 [.b false, .call C2, .call C3, .call C4, .call C5, .call C6, .dec 33 false, .b false, .call C9, .call C10, .b false, .callW C12 [(0, 1472)], .dec 48 false, .call C14, .dec 54 false, .b false, .callW C16 [(7, 1671), (10, 1674), (15, 1679), (16, 1680), (17, 1681)], .call C17, .b false, .b false, .call C20, .call C21, .call C22, .dec 80 false, .b false, .call C25, .b false, .b false, .fin] (oF c1 (oc C2 (oc C3 (oc C4 (oc C5 (oc C6 (o1 (bnf c7) (o1 (bnf c8) (oc C9 (oc C10 (o1 (bnf c11) (oa (scw_ C12) (oF c13 (oc C14 (o1 (bnf c15) (o1 (bnf c8) (oa (scw_ C16) (oc C17 (oF c18 (o1 (bnf (decide_eq_true c19)) (oc C20 (oc C21 (oc C22 (o1 (bnf c23) (o1 (bnf c24) (oc C25 (oF c26 (o1 (bnf (decide_eq_true c27)) on))))))))))))))))))))))))))))
            ·replace h := iq c27 h
             cases h
             exact rt func3 [.b false, .call C2, .call C3, .call C4, .call C5, .call C6, .dec 33 false, .b false, .call C9, .call C10, .b false, .callW C12 [(0, 1472)], .dec 48 false, .call C14, .dec 54 false, .b false, .callW C16 [(7, 1671), (10, 1674), (15, 1679), (16, 1680), (17, 1681)], .call C17, .b false, .b false, .call C20, .call C21, .call C22, .dec 80 false, .b false, .call C25, .b false, .b true, .fin] (oF c1 (oc C2 (oc C3 (oc C4 (oc C5 (oc C6 (o1 (bnf c7) (o1 (bnf c8) (oc C9 (oc C10 (o1 (bnf c11) (oa (scw_ C12) (oF c13 (oc C14 (o1 (bnf c15) (o1 (bnf c8) (oa (scw_ C16) (oc C17 (oF c18 (o1 (bnf (decide_eq_true c19)) (oc C20 (oc C21 (oc C22 (o1 (bnf c23) (o1 (bnf c24) (oc C25 (oF c26 (o1 (bnt (decide_eq_false c27)) on))))))))))))))))))))))))))))
          ·replace h := iq c24 h
           cases h
           exact rt func3 [.b false, .call C2, .call C3, .call C4, .call C5, .call C6, .dec 33 false, .b false, .call C9, .call C10, .b false, .callW C12 [(0, 1472)], .dec 48 false, .call C14, .dec 54 false, .b false, .callW C16 [(7, 1671), (10, 1674), (15, 1679), (16, 1680), (17, 1681)], .call C17, .b false, .b false, .call C20, .call C21, .call C22, .dec 80 false, .b true, .fin] (oF c1 (oc C2 (oc C3 (oc C4 (oc C5 (oc C6 (o1 (bnf c7) (o1 (bnf c8) (oc C9 (oc C10 (o1 (bnf c11) (oa (scw_ C12) (oF c13 (oc C14 (o1 (bnf c15) (o1 (bnf c8) (oa (scw_ C16) (oc C17 (oF c18 (o1 (bnf (decide_eq_true c19)) (oc C20 (oc C21 (oc C22 (o1 (bnf c23) (oN c24 on)))))))))))))))))))))))))
         ·replace h := iq c23 h
          cases h
          exact rt func3 [.b false, .call C2, .call C3, .call C4, .call C5, .call C6, .dec 33 false, .b false, .call C9, .call C10, .b false, .callW C12 [(0, 1472)], .dec 48 false, .call C14, .dec 54 false, .b false, .callW C16 [(7, 1671), (10, 1674), (15, 1679), (16, 1680), (17, 1681)], .call C17, .b false, .b false, .call C20, .call C21, .call C22, .dec 80 true, .b true, .fin] (oF c1 (oc C2 (oc C3 (oc C4 (oc C5 (oc C6 (o1 (bnf c7) (o1 (bnf c8) (oc C9 (oc C10 (o1 (bnf c11) (oa (scw_ C12) (oF c13 (oc C14 (o1 (bnf c15) (o1 (bnf c8) (oa (scw_ C16) (oc C17 (oF c18 (o1 (bnf (decide_eq_true c19)) (oc C20 (oc C21 (oc C22 (oN c23 (oR on)))))))))))))))))))))))))
        ·replace h := iq c19 h
         cases h
         exact rt func3 [.b false, .call C2, .call C3, .call C4, .call C5, .call C6, .dec 33 false, .b false, .call C9, .call C10, .b false, .callW C12 [(0, 1472)], .dec 48 false, .call C14, .dec 54 false, .b false, .callW C16 [(7, 1671), (10, 1674), (15, 1679), (16, 1680), (17, 1681)], .call C17, .b false, .b true, .fin] (oF c1 (oc C2 (oc C3 (oc C4 (oc C5 (oc C6 (o1 (bnf c7) (o1 (bnf c8) (oc C9 (oc C10 (o1 (bnf c11) (oa (scw_ C12) (oF c13 (oc C14 (o1 (bnf c15) (o1 (bnf c8) (oa (scw_ C16) (oc C17 (oF c18 (o1 (bnt (decide_eq_false c19)) on))))))))))))))))))))
      ·replace h := iq c15 h
       cases h
       exact rt func3 [.b false, .call C2, .call C3, .call C4, .call C5, .call C6, .dec 33 false, .b false, .call C9, .call C10, .b false, .callW C12 [(0, 1472)], .dec 48 false, .call C14, .dec 54 true, .b true, .fin] (oF c1 (oc C2 (oc C3 (oc C4 (oc C5 (oc C6 (o1 (bnf c7) (o1 (bnf c8) (oc C9 (oc C10 (o1 (bnf c11) (oa (scw_ C12) (oF c13 (oc C14 (oN c15 (oR on))))))))))))))))
    ·replace h := iq c11 h
     cases h
     exact rt func3 [.b false, .call C2, .call C3, .call C4, .call C5, .call C6, .dec 33 false, .b false, .call C9, .call C10, .b true, .fin] (oF c1 (oc C2 (oc C3 (oc C4 (oc C5 (oc C6 (o1 (bnf c7) (o1 (bnf c8) (oc C9 (oc C10 (oN c11 on)))))))))))
   ·replace h := iq c8 h
    cases h
    exact rt func3 [.b false, .call C2, .call C3, .call C4, .call C5, .call C6, .dec 33 false, .b true, .fin] (oF c1 (oc C2 (oc C3 (oc C4 (oc C5 (oc C6 (o1 (bnf c7) (oN c8 on))))))))
  ·replace h := iq c7 h
   cases h
   exact rt func3 [.b false, .call C2, .call C3, .call C4, .call C5, .call C6, .dec 33 true, .b true, .fin] (oF c1 (oc C2 (oc C3 (oc C4 (oc C5 (oc C6 (oN c7 (oR on))))))))
end Go.Proofs.YtfhjipfkaemapaaGreat.V