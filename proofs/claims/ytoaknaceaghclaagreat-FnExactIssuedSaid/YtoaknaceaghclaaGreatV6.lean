/- What each Go function computes, and that the machine does so: printed by a program of this session (avgen.py). -/
import Derived.Test.YtoaknaceaghclaaGreatV5
namespace Go.Proofs.YtoaknaceaghclaaGreat.V
open Go Go.Av Go.Proofs Go.Proofs.Tryz
set_option linter.unusedVariables false
set_option maxRecDepth 100000
/-! ### laws_FnExactIssued: function 5 -/
def laws_FnExactIssued.f (k : Nat) (a0 : S35) : Option Bool := (laws_szYard.f k a0 1048576).bind fun t1 => if t1 < 0 then (some true) else ((laws_toYard.f k a0).bind fun t2 => (spec_Issued.f k t2).bind fun t3 => (laws_toYard.f k a0).bind fun t4 => (impl_Issued.f k t4).bind fun t5 => (laws_eqYard.f k t5 t3).bind fun t6 => if t6 = true then ((laws_toYard.f k a0).bind fun t7 => (laws_eqYard.f k t4 t7).bind fun t8 => if t8 = true then ((laws_markYard.f k t4 1).bind fun t9 => if t9.1 < 0 then (some false) else ((laws_eqYard.f k t5 t3).bind fun t10 => if t10 = true then ((laws_markYard.f k t5 1).bind fun t11 => (laws_heldYard.f k (⟨t5.f0, t11.2.1, (⟨t5.f2.f0, t5.f2.f1, t11.2.2.1⟩ : S42), t5.f3, t5.f4, (⟨t5.f5.f0, t5.f5.f1, t11.2.2.2.1⟩ : S45), t11.2.2.2.2.1, t11.2.2.2.2.2⟩ : S48) 1).bind fun t12 => if t12 < 0 then (some false) else (if t12 = t11.1 then ((laws_toYard.f k a0).bind fun t13 => (impl_Issued.f k t13).bind fun t14 => (laws_eqYard.f k t14 t3).bind fun t15 => if t15 = true then ((laws_heldYard.f k (⟨t5.f0, t11.2.1, (⟨t5.f2.f0, t5.f2.f1, t11.2.2.1⟩ : S42), t5.f3, t5.f4, (⟨t5.f5.f0, t5.f5.f1, t11.2.2.2.1⟩ : S45), t11.2.2.2.2.1, t11.2.2.2.2.2⟩ : S48) 1).bind fun t16 => if t16 < 0 then (some false) else (if t16 = t11.1 then (some true) else (some false))) else (some false)) else (some false))) else (some false))) else (some false)) else (some false))
theorem laws_FnExactIssued.go : Callable prog 5 := ⟨_, func5, by kernel_rfl, rfl⟩
theorem laws_FnExactIssued.ok (k : Nat) (a0 : S35) (r : Bool) (h : laws_FnExactIssued.f k a0 = some r) : VCalls prog 5 [.agg (e35 a0)] [.c (.p (.sc (.bool r)))] := by
  unfold laws_FnExactIssued.f at h
  refine VCalls.of (fn := f5) (N := 69) func5 rfl rfl (fun w0 => ?_)
  obtain ⟨t1, g1, h⟩ := bindN h
  let C1 := mkCon (laws_szYard.ok k a0 1048576 t1 g1) laws_szYard.go
  by_cases c2 : t1 < 0
  · replace h := ip c2 h
    cases h
    exact rt func5 [.call C1, .b true, .fin] (oc C1 (oT c2 on))
  · replace h := iq c2 h
    obtain ⟨t2, g3, h⟩ := bindN h
    let C3 := mkCon (laws_toYard.ok k a0 t2 g3) laws_toYard.go
    obtain ⟨t3, g4, h⟩ := bindN h
    let C4 := mkCon (spec_Issued.ok k t2 t3 g4) spec_Issued.go
    obtain ⟨t4, g5, h⟩ := bindN h
    let C5 := mkCon (laws_toYard.ok k a0 t4 g5) laws_toYard.go
    obtain ⟨t5, g6, h⟩ := bindN h
    let C6 := mkCon (impl_Issued.ok k t4 t5 g6) impl_Issued.go
    obtain ⟨t6, g7, h⟩ := bindN h
    let C7 := mkCon (laws_eqYard.ok k t5 t3 t6 g7) laws_eqYard.go
    by_cases c8 : t6 = true
    · replace h := ip c8 h
      obtain ⟨t7, g9, h⟩ := bindN h
      let C9 := mkCon (laws_toYard.ok k a0 t7 g9) laws_toYard.go
      obtain ⟨t8, g10, h⟩ := bindN h
      let C10 := mkCon (laws_eqYard.ok k t4 t7 t8 g10) laws_eqYard.go
      by_cases c11 : t8 = true
      · replace h := ip c11 h
        obtain ⟨t9, g12, h⟩ := bindN h
        let C12 := laws_markYard.con k t4 1 t9 g12
        by_cases c13 : t9.1 < 0
        · replace h := ip c13 h
          cases h
          exact rt func5 [.call C1, .b false, .call C3, .call C4, .call C5, .call C6, .call C7, .b false, .call C9, .call C10, .b false, .callW C12 [(7, 1287), (10, 1290), (15, 1295), (16, 1296), (17, 1297)], .dec 37 true, .b true, .fin] (oc C1 (oF c2 (oc C3 (oc C4 (oc C5 (oc C6 (oc C7 (o1 (bnf c8) (oc C9 (oc C10 (o1 (bnf c11) (oa (scw_ C12) (oT c13 (oR on))))))))))))))
        · replace h := iq c13 h
          obtain ⟨t10, g14, h⟩ := bindN h
          let C14 := mkCon (laws_eqYard.ok k t5 t3 t10 g14) laws_eqYard.go
          by_cases c15 : t10 = true
          · replace h := ip c15 h
            obtain ⟨t11, g16, h⟩ := bindN h
            let C16 := laws_markYard.con k t5 1 t11 g16
            obtain ⟨t12, g17, h⟩ := bindN h
            let C17 := mkCon (laws_heldYard.ok k (⟨t5.f0, t11.2.1, (⟨t5.f2.f0, t5.f2.f1, t11.2.2.1⟩ : S42), t5.f3, t5.f4, (⟨t5.f5.f0, t5.f5.f1, t11.2.2.2.1⟩ : S45), t11.2.2.2.2.1, t11.2.2.2.2.2⟩ : S48) 1 t12 g17) laws_heldYard.go
            by_cases c18 : t12 < 0
            · replace h := ip c18 h
              cases h
              exact rt func5 [.call C1, .b false, .call C3, .call C4, .call C5, .call C6, .call C7, .b false, .call C9, .call C10, .b false, .callW C12 [(7, 1287), (10, 1290), (15, 1295), (16, 1296), (17, 1297)], .dec 37 false, .call C14, .b false, .callW C16 [(7, 1415), (10, 1418), (15, 1423), (16, 1424), (17, 1425)], .call C17, .b true, .fin] (oc C1 (oF c2 (oc C3 (oc C4 (oc C5 (oc C6 (oc C7 (o1 (bnf c8) (oc C9 (oc C10 (o1 (bnf c11) (oa (scw_ C12) (oF c13 (oc C14 (o1 (bnf c15) (oa (scw_ C16) (oc C17 (oT c18 on))))))))))))))))))
            · replace h := iq c18 h
              by_cases c19 : t12 = t11.1
              · replace h := ip c19 h
                obtain ⟨t13, g20, h⟩ := bindN h
                let C20 := mkCon (laws_toYard.ok k a0 t13 g20) laws_toYard.go
                obtain ⟨t14, g21, h⟩ := bindN h
                let C21 := mkCon (impl_Issued.ok k t13 t14 g21) impl_Issued.go
                obtain ⟨t15, g22, h⟩ := bindN h
                let C22 := mkCon (laws_eqYard.ok k t14 t3 t15 g22) laws_eqYard.go
                by_cases c23 : t15 = true
                · replace h := ip c23 h
                  obtain ⟨t16, g24, h⟩ := bindN h
                  let C24 := mkCon (laws_heldYard.ok k (⟨t5.f0, t11.2.1, (⟨t5.f2.f0, t5.f2.f1, t11.2.2.1⟩ : S42), t5.f3, t5.f4, (⟨t5.f5.f0, t5.f5.f1, t11.2.2.2.1⟩ : S45), t11.2.2.2.2.1, t11.2.2.2.2.2⟩ : S48) 1 t16 g24) laws_heldYard.go
                  by_cases c25 : t16 < 0
                  · replace h := ip c25 h
                    cases h
                    exact rt func5 [.call C1, .b false, .call C3, .call C4, .call C5, .call C6, .call C7, .b false, .call C9, .call C10, .b false, .callW C12 [(7, 1287), (10, 1290), (15, 1295), (16, 1296), (17, 1297)], .dec 37 false, .call C14, .b false, .callW C16 [(7, 1415), (10, 1418), (15, 1423), (16, 1424), (17, 1425)], .call C17, .b false, .b false, .call C20, .call C21, .call C22, .b false, .call C24, .b true, .fin] (oc C1 (oF c2 (oc C3 (oc C4 (oc C5 (oc C6 (oc C7 (o1 (bnf c8) (oc C9 (oc C10 (o1 (bnf c11) (oa (scw_ C12) (oF c13 (oc C14 (o1 (bnf c15) (oa (scw_ C16) (oc C17 (oF c18 (o1 (bnf (decide_eq_true c19)) (oc C20 (oc C21 (oc C22 (o1 (bnf c23) (oc C24 (oT c25 on)))))))))))))))))))))))))
                  · replace h := iq c25 h
                    by_cases c26 : t16 = t11.1
                    · replace h := ip c26 h
                      cases h
                      exact rt func5 [.call C1, .b false, .call C3, .call C4, .call C5, .call C6, .call C7, .b false, .call C9, .call C10, .b false, .callW C12 [(7, 1287), (10, 1290), (15, 1295), (16, 1296), (17, 1297)], .dec 37 false, .call C14, .b false, .callW C16 [(7, 1415), (10, 1418), (15, 1423), (16, 1424), (17, 1425)], .call C17, .b false, .b false, .call C20, .call C21, .call C22, .b false, .call C24, .b false, .b false, .fin] (oc C1 (oF c2 (oc C3 (oc C4 (oc C5 (oc C6 (oc C7 (o1 (bnf c8) (oc C9 (oc C10 (o1 (bnf c11) (oa (scw_ C12) (oF c13 (oc C14 (o1 (bnf c15) (oa (scw_ C16) (oc C17 (oF c18 (o1 (bnf (decide_eq_true c19)) (oc C20 (oc C21 (oc C22 (o1 (bnf c23) (oc C24 (oF c25 (o1 (bnf (decide_eq_true c26)) on))))))))))))))))))))))))))
                    · replace h := iq c26 h
                      cases h
                      exact rt func5 [.call C1, .b false, .call C3, .call C4, .call C5, .call C6, .call C7, .b false, .call C9, .call C10, .b false, .callW C12 [(7, 1287), (10, 1290), (15, 1295), (16, 1296), (17, 1297)], .dec 37 false, .call C14, .b false, .callW C16 [(7, 1415), (10, 1418), (15, 1423), (16, 1424), (17, 1425)], .call C17, .b false, .b false, .call C20, .call C21, .call C22, .b false, .call C24, .b false, .b true, .fin] (oc C1 (oF c2 (oc C3 (oc C4 (oc C5 (oc C6 (oc C7 (o1 (bnf c8) (oc C9 (oc C10 (o1 (bnf c11) (oa (scw_ C12) (oF c13 (oc C14 (o1 (bnf c15) (oa (scw_ C16) (oc C17 (oF c18 (o1 (bnf (decide_eq_true c19)) (oc C20 (oc C21 (oc C22 (o1 (bnf c23) (oc C24 (oF c25 (o1 (bnt (decide_eq_false c26)) on))))))))))))))))))))))))))
                · replace h := iq c23 h
                  cases h
                  exact rt func5 [.call C1, .b false, .call C3, .call C4, .call C5, .call C6, .call C7, .b false, .call C9, .call C10, .b false, .callW C12 [(7, 1287), (10, 1290), (15, 1295), (16, 1296), (17, 1297)], .dec 37 false, .call C14, .b false, .callW C16 [(7, 1415), (10, 1418), (15, 1423), (16, 1424), (17, 1425)], .call C17, .b false, .b false, .call C20, .call C21, .call C22, .b true, .fin] (oc C1 (oF c2 (oc C3 (oc C4 (oc C5 (oc C6 (oc C7 (o1 (bnf c8) (oc C9 (oc C10 (o1 (bnf c11) (oa (scw_ C12) (oF c13 (oc C14 (o1 (bnf c15) (oa (scw_ C16) (oc C17 (oF c18 (o1 (bnf (decide_eq_true c19)) (oc C20 (oc C21 (oc C22 (oN c23 on)))))))))))))))))))))))
              · replace h := iq c19 h
                cases h
                exact rt func5 [.call C1, .b false, .call C3, .call C4, .call C5, .call C6, .call C7, .b false, .call C9, .call C10, .b false, .callW C12 [(7, 1287), (10, 1290), (15, 1295), (16, 1296), (17, 1297)], .dec 37 false, .call C14, .b false, .callW C16 [(7, 1415), (10, 1418), (15, 1423), (16, 1424), (17, 1425)], .call C17, .b false, .b true, .fin] (oc C1 (oF c2 (oc C3 (oc C4 (oc C5 (oc C6 (oc C7 (o1 (bnf c8) (oc C9 (oc C10 (o1 (bnf c11) (oa (scw_ C12) (oF c13 (oc C14 (o1 (bnf c15) (oa (scw_ C16) (oc C17 (oF c18 (o1 (bnt (decide_eq_false c19)) on)))))))))))))))))))
          · replace h := iq c15 h
            cases h
            exact rt func5 [.call C1, .b false, .call C3, .call C4, .call C5, .call C6, .call C7, .b false, .call C9, .call C10, .b false, .callW C12 [(7, 1287), (10, 1290), (15, 1295), (16, 1296), (17, 1297)], .dec 37 false, .call C14, .b true, .fin] (oc C1 (oF c2 (oc C3 (oc C4 (oc C5 (oc C6 (oc C7 (o1 (bnf c8) (oc C9 (oc C10 (o1 (bnf c11) (oa (scw_ C12) (oF c13 (oc C14 (oN c15 on)))))))))))))))
      · replace h := iq c11 h
        cases h
        exact rt func5 [.call C1, .b false, .call C3, .call C4, .call C5, .call C6, .call C7, .b false, .call C9, .call C10, .b true, .fin] (oc C1 (oF c2 (oc C3 (oc C4 (oc C5 (oc C6 (oc C7 (o1 (bnf c8) (oc C9 (oc C10 (oN c11 on)))))))))))
    · replace h := iq c8 h
      cases h
      exact rt func5 [.call C1, .b false, .call C3, .call C4, .call C5, .call C6, .call C7, .b true, .fin] (oc C1 (oF c2 (oc C3 (oc C4 (oc C5 (oc C6 (oc C7 (oN c8 on))))))))
end Go.Proofs.YtoaknaceaghclaaGreat.V
