/- Regions that draw, in all their orders. -/
import Derived.Test.YtfhjipfkaemapaaGreatAvR
namespace Go.Av
open Go Go.RowKit
set_option linter.unusedVariables false
set_option linter.unusedSimpArgs false
variable {P : Program}
def opOne (P : Program) (N : Nat) (ops : Array Oper) (o : Oper) (S : FS) (orc : List (Orc P)) : Option (List Prop × FS) :=
 if dstOk N o.dst then match beforeOp o S orc with
  | some (ob1, orc1, S1) => match wantedS ops o S1.T with
    | some true => match opStep P o S1 orc1 with
      | some (ob2, orc2, S2) => match afterOp o S2 orc2 with
        | some (ob3, _, S3) => some (ob1 ++ (ob2 ++ ob3), S3)
        | none => none
      | none => none
    | some false => some (ob1, S1.put o.dst (.tup []))
    | none => none
  | none => none
 else none
theorem opOne_ok {w0 : Base} {N i : Nat} {ops : Array Oper} {o : Oper} {Q : Exit → Act → World → Prop} {K : Act → World → Prop} {S S' : FS} {orc : List (Orc P)} {obs : List Prop} {σ : Sig} {a : Act} {w : World} (hi : ops[i]? = some o)
  (h : opOne P N ops o S orc = some (obs, S')) (ho : All obs) (hr : Rel w0 N S σ a w) (hK : ∀ a' w' σ', Rel w0 N S' σ' a' w' → K a' w') : wpOp P ops Q i K a w := by
 unfold opOne at h
 split at h
 ·rename_i hd
  split at h
  ·rename_i ob1 orc1 S1 h1
   unfold wpOp
   rw [hi]
   simp only
   split at h
   ·rename_i hw
    split at h
    ·rename_i ob2 orc2 S2 h2
     split at h
     ·rename_i ob3 orc3 S3 h3
      simp only [Option.some.injEq, Prod.mk.injEq] at h
      obtain ⟨rfl, rfl⟩ := h
      obtain ⟨ho1, ho⟩ := All.append.1 ho
      obtain ⟨ho2, ho3⟩ := All.append.1 ho
      obtain ⟨σ1, hr1⟩ := beforeOp_ok h1 ho1 hr
      rw [if_pos (wantedS_ok hw hr1.tmps)]
      refine .inl (opStep_ok h2 ho2 hd hr1 _ _ fun a' w' σ' hr2 => ?_)
      obtain ⟨σ3, hr3⟩ := afterOp_ok h3 ho3 hr2
      exact hK a' w' σ3 hr3
     ·cases h
    ·cases h
   ·rename_i hw
    simp only [Option.some.injEq, Prod.mk.injEq] at h
    obtain ⟨rfl, rfl⟩ := h
    obtain ⟨σ1, hr1⟩ := beforeOp_ok h1 ho hr
    rw [if_neg (by rw [wantedS_ok hw hr1.tmps]; simp)]
    exact hK _ w σ1 (hr1.put (fun d e => by rw [e] at hd; simpa [dstOk] using hd) rep_undef)
   ·cases h
  ·cases h
 ·cases h
def segTake : List (Orc P) → List (Orc P)
 | [] => []
 | .reg _ :: _ => []
 | x :: r => x :: segTake r
def seg (i : Nat) : List (Orc P) → List (Orc P)
 | [] => []
 | .reg j :: r => if i = j then segTake r else seg i r
 | _ :: r => seg i r
def evAll {α : Type} (f : α → Option (List Prop)) : List α → Option (List Prop)
 | [] => some []
 | x :: r => match f x, evAll f r with
   | some l, some l' => some (l ++ l')
   | _, _ => none
theorem evAll_ok {α : Type} {f : α → Option (List Prop)} : ∀ {l : List α} {obs : List Prop}, evAll f l = some obs → All obs → ∀ x ∈ l, ∃ o, f x = some o ∧ All o
 | [], obs, h, ho, x, hx => by simp at hx
 | y :: r, obs, h, ho, x, hx => by
   simp only [evAll] at h
   split at h
   ·rename_i l l' h1 h2
    cases h
    obtain ⟨ho1, ho2⟩ := All.append.1 ho
    rcases List.mem_cons.1 hx with rfl | hx
    ·exact ⟨l, h1, ho1⟩
    ·exact evAll_ok h2 ho2 x hx
   ·cases h
def evAny (P : Program) (N : Nat) (ops : Array Oper) (orc : List (Orc P)) (T : List (Nat × AV)) (H : List (Nat × Content)) : Nat → Array Bool → FS → Option (List Prop)
 | 0, listed, S => if (Region.ready .any ops listed).isEmpty ∧ closed T H = true then match fitT S.T T, fitH S.H H with
    | some l, some l' => some (l ++ l')
    | _, _ => none
   else none
 | n + 1, listed, S => if (Region.ready .any ops listed).isEmpty then none else evAll (fun i => match ops[i]? with
    | some o => match opOne P N ops o S (seg i orc) with
      | some (ob, S') => match evAny P N ops orc T H n (listed.setIfInBounds i true) S' with
        | some l => some (ob ++ l)
        | none => none
      | none => none
    | none => none) (Region.ready .any ops listed)
theorem evAny_ok {w0 : Base} {N : Nat} {ops : Array Oper} {orc : List (Orc P)} {T : List (Nat × AV)} {H : List (Nat × Content)} {Q : Exit → Act → World → Prop} (hq : ∀ a w σ, Rel w0 N (mkFS T H) σ a w → Q .normal a w) :
  ∀ (n : Nat) (listed : Array Bool) (S : FS) (σ : Sig) (a : Act) (w : World) (obs : List Prop), evAny P N ops orc T H n listed S = some obs → All obs → Rel w0 N S σ a w → wpAny P .any ops Q n listed a w
 | 0, listed, S, σ, a, w, obs, h, ho, hr => by
   simp only [evAny] at h
   split at h
   ·rename_i hc
    split at h
    ·rename_i l l' h1 h2
     cases h
     obtain ⟨ho1, ho2⟩ := All.append.1 ho
     obtain ⟨σ', hr'⟩ := hr.fit h1 h2 ho1 ho2 hc.2
     exact ⟨List.isEmpty_iff.1 hc.1, hq a w σ' hr'⟩
    ·cases h
   ·cases h
 | n + 1, listed, S, σ, a, w, obs, h, ho, hr => by
   simp only [evAny] at h
   split at h
   ·cases h
   ·rename_i hne
    refine ⟨fun e => absurd (List.isEmpty_iff.2 e) hne, fun i hi => ?_⟩
    obtain ⟨o1, h1, ho1⟩ := evAll_ok h ho i hi
    split at h1
    ·rename_i o hoi
     split at h1
     ·rename_i ob S' h2
      split at h1
      ·rename_i l h3
       cases h1
       obtain ⟨hoa, hob⟩ := All.append.1 ho1
       exact opOne_ok hoi h2 hoa hr fun a' w' σ' hr' => evAny_ok hq n _ S' σ' a' w' l h3 hob hr'
      ·cases h1
     ·cases h1
    ·cases h1
theorem any_ok {w0 : Base} {N : Nat} {id : Nat} {ops : Array Oper} {S : FS} {orc : List (Orc P)} {T : List (Nat × AV)} {H : List (Nat × Content)} {obs : List Prop} (hm : P.follows .mixedOrders = true)
  (h : evAny P N ops orc T H ops.size (Array.replicate ops.size false) S = some obs) (ho : All obs) {σ : Sig} {a : Act} {w : World} (hr : Rel w0 N S σ a w) :
  (Code.region id ops true).wp P (fun e a' w' => e = .normal ∧ ∃ σ', Rel w0 N (mkFS T H) σ' a' w') a w := by
 have hev : Evo σ σ w { w with drawn := w.drawn + 1 } := ⟨Nat.le_refl _, fun _ _ _ => rfl, fun _ _ h => h⟩
 refine wp_region_any hm (evAny_ok (fun a w σ hr => ⟨rfl, σ, hr⟩) _ _ S σ a _ obs h ho ⟨hr.below.drew, hr.size, hr.defers, fun t => hev.repA (fun _ _ => rfl) (hr.tmps t), fun s c hs => ?_, hr.dom, hr.inj, hev.prot hr.prot⟩)
 obtain ⟨v, hv, hk⟩ := hr.sites s c hs
 exact ⟨v, hv, hev.site (fun _ _ => rfl) (fun _ _ _ _ _ => rfl) hk⟩
def drawStep (P : Program) (N : Nat) (ops : Array Oper) (S : FS) (orc : List (Orc P)) : Option (List Prop × List (Orc P) × FS) :=
 match orc with
 | .anyR m T H :: r => match evAny P N ops (r.take m) T H ops.size (Array.replicate ops.size false) S with
   | some l => some (l, r.drop m, mkFS T H)
   | none => none
 | orc => if regLt ops then evDraw P N ops (tabGo ops.toList []) ops.toList 0 S orc [] else none
theorem drawStep_ok {w0 : Base} {N : Nat} {id : Nat} {ops : Array Oper} {S S' : FS} {orc orc' : List (Orc P)} {obs : List Prop} (hm : P.follows .mixedOrders = true)
  (h : drawStep P N ops S orc = some (obs, orc', S')) (ho : All obs) {σ : Sig} {a : Act} {w : World} (hr : Rel w0 N S σ a w) :
  (Code.region id ops true).wp P (fun e a' w' => e = .normal ∧ ∃ σ', Rel w0 N S' σ' a' w') a w := by
 unfold drawStep at h
 split at h
 ·split at h
  ·rename_i l h1
   cases h
   exact any_ok hm h1 ho hr
  ·cases h
 ·split at h
  ·rename_i hreg
   exact draw_ok hm hreg h ho hr
  ·cases h
end Go.Av