/- A function's text, run to its end or to the head of a loop. -/
import Derived.Test.YtfhjipfkaemapaaGreatAvL
namespace Go.Av
open Go Go.RowKit
set_option linter.unusedVariables false
set_option linter.unusedSimpArgs false
variable {P : Program}
def tagOf (o : Oper) : Nat := o.dst.getD 999999
def beforeOp (o : Oper) (S : FS) : List (Orc P) → Option (List Prop × List (Orc P) × FS)
 | .op d :: r => if d = tagOf o then pre S r else some ([], .op d :: r, S)
 | l => some ([], l, S)
def afterOp (o : Oper) (S : FS) : List (Orc P) → Option (List Prop × List (Orc P) × FS)
 | .dec d v :: r => if d = tagOf o then match scOf (S.T d) with
    | some (.bool b) => some ([b = v], r, ⟨upd S.T d (scv (.bool v)), S.H⟩)
    | _ => none
   else some ([], .dec d v :: r, S)
 | .cst d y :: r => if d = tagOf o then pre S (.cast d y :: r) else some ([], .cst d y :: r, S)
 | .rowE d n g :: r => if d = tagOf o then pre S (.row (siteOf d 0) n g :: r) else some ([], .rowE d n g :: r, S)
 | .aft d :: r => if d = tagOf o then pre S r else some ([], .aft d :: r, S)
 | l => some ([], l, S)
theorem beforeOp_ok {w0 : Base} {N : Nat} {o : Oper} {orc orc' : List (Orc P)} {S S' : FS} {σ : Sig} {a : Act} {w : World} {obs : List Prop} (h : beforeOp o S orc = some (obs, orc', S')) (ho : All obs) (hr : Rel w0 N S σ a w) : ∃ σ', Rel w0 N S' σ' a w := by
 unfold beforeOp at h
 split at h
 ·split at h
  ·exact pre_ok h ho hr
  ·simp only [Option.some.injEq, Prod.mk.injEq] at h; obtain ⟨_, _, rfl⟩ := h; exact ⟨σ, hr⟩
 ·simp only [Option.some.injEq, Prod.mk.injEq] at h; obtain ⟨_, _, rfl⟩ := h; exact ⟨σ, hr⟩
theorem afterOp_ok {w0 : Base} {N : Nat} {o : Oper} {orc orc' : List (Orc P)} {S S' : FS} {σ : Sig} {a : Act} {w : World} {obs : List Prop} (h : afterOp o S orc = some (obs, orc', S')) (ho : All obs) (hr : Rel w0 N S σ a w) : ∃ σ', Rel w0 N S' σ' a w := by
 unfold afterOp at h
 split at h
 ·rename_i d v r
  split at h
  ·split at h
   ·rename_i b hb
    simp only [Option.some.injEq, Prod.mk.injEq] at h
    obtain ⟨rfl, rfl, rfl⟩ := h
    have hbv : b = v := ho
    refine ⟨σ, hr.below, hr.size, hr.defers, fun t => ?_, hr.sites, hr.dom, hr.inj, hr.prot⟩
    simp only [upd]
    split
    ·rename_i e
     subst e
     have := (scOf_rep hb (hr.tmps t)).1
     rw [this, hbv]
     exact rep_scv rfl
    ·exact hr.tmps t
   ·cases h
  ·simp only [Option.some.injEq, Prod.mk.injEq] at h; obtain ⟨_, _, rfl⟩ := h; exact ⟨σ, hr⟩
 ·split at h
  ·exact pre_ok h ho hr
  ·simp only [Option.some.injEq, Prod.mk.injEq] at h; obtain ⟨_, _, rfl⟩ := h; exact ⟨σ, hr⟩
 ·split at h
  ·exact pre_ok h ho hr
  ·simp only [Option.some.injEq, Prod.mk.injEq] at h; obtain ⟨_, _, rfl⟩ := h; exact ⟨σ, hr⟩
 ·split at h
  ·exact pre_ok h ho hr
  ·simp only [Option.some.injEq, Prod.mk.injEq] at h; obtain ⟨_, _, rfl⟩ := h; exact ⟨σ, hr⟩
 ·simp only [Option.some.injEq, Prod.mk.injEq] at h; obtain ⟨_, _, rfl⟩ := h; exact ⟨σ, hr⟩
def evOps (P : Program) (N : Nat) (ops : Array Oper) : List Oper → FS → List (Orc P) → Option (List Prop × List (Orc P) × FS)
 | [], S, orc => some ([], orc, S)
 | o :: rest, S, orc => if dstOk N o.dst then match beforeOp o S orc with
   | some (ob1, orc1, S1) => match wantedS ops o S1.T with
     | some true => match opStep P o S1 orc1 with
       | some (ob2, orc2, S2) => match afterOp o S2 orc2 with
         | some (ob3, orc3, S3) => match evOps P N ops rest S3 orc3 with
           | some (ob4, orc4, S4) => some (ob1 ++ (ob2 ++ (ob3 ++ ob4)), orc4, S4)
           | none => none
         | none => none
       | none => none
     | some false => match evOps P N ops rest (S1.put o.dst (.tup [])) orc1 with
       | some (ob4, orc4, S4) => some (ob1 ++ ob4, orc4, S4)
       | none => none
     | none => none
   | none => none
   else none
theorem evOps_ok {w0 : Base} {N : Nat} {ops : Array Oper} {Q : Exit → Act → World → Prop} : ∀ (l : List Oper) (k : Nat) {S S' : FS} {orc orc' : List (Orc P)} {obs : List Prop} {σ : Sig} {a : Act} {w : World}, (∀ j : Nat, l[j]? = ops[k + j]?) →
  evOps P N ops l S orc = some (obs, orc', S') → All obs → Rel w0 N S σ a w → (∀ a' w' σ', Rel w0 N S' σ' a' w' → Q .normal a' w') → wpOps P ops Q (List.range' k l.length) a w
 | [], k, S, S', orc, orc', obs, σ, a, w, hl, h, ho, hr, hq => by
   simp only [evOps, Option.some.injEq, Prod.mk.injEq] at h
   obtain ⟨_, _, rfl⟩ := h
   exact hq a w σ hr
 | o :: l, k, S, S', orc, orc', obs, σ, a, w, hl, h, ho, hr, hq => by
   have hk : ops[k]? = some o := by have := hl 0; simpa using this.symm
   have hl' : ∀ j : Nat, l[j]? = ops[k + 1 + j]? := fun j => by have := hl (j + 1); rw [List.getElem?_cons_succ] at this; rw [this]; congr 1; omega
   simp only [evOps] at h
   split at h
   ·rename_i hd
    split at h
    ·rename_i ob1 orc1 S1 h1
     have main : ∀ ob4 orc4 S4 S3 orc3 (a' : Act) (w' : World) σ', evOps P N ops l S3 orc3 = some (ob4, orc4, S4) → All ob4 → Rel w0 N S3 σ' a' w' → S4 = S' → wpOps P ops Q (List.range' (k + 1) l.length) a' w' :=
      fun ob4 orc4 S4 S3 orc3 a' w' σ' h4 ho4 hr4 e => evOps_ok l (k + 1) hl' h4 ho4 hr4 (by rw [e]; exact hq)
     rw [List.length_cons, List.range'_succ, wpOps_cons]
     unfold wpOp
     rw [hk]
     simp only
     split at h
     ·rename_i hw
      split at h
      ·rename_i ob2 orc2 S2 h2
       split at h
       ·rename_i ob3 orc3 S3 h3
        split at h
        ·rename_i ob4 orc4 S4 h4
         simp only [Option.some.injEq, Prod.mk.injEq] at h
         obtain ⟨rfl, rfl, rfl⟩ := h
         obtain ⟨ho1, ho⟩ := All.append.1 ho
         obtain ⟨ho2, ho⟩ := All.append.1 ho
         obtain ⟨ho3, ho4⟩ := All.append.1 ho
         obtain ⟨σ1, hr1⟩ := beforeOp_ok h1 ho1 hr
         rw [if_pos (wantedS_ok hw hr1.tmps)]
         refine .inl (opStep_ok h2 ho2 hd hr1 _ _ fun a' w' σ' hr2 => ?_)
         obtain ⟨σ3, hr3⟩ := afterOp_ok h3 ho3 hr2
         exact main ob4 orc4 S4 S3 orc3 a' w' σ3 h4 ho4 hr3 rfl
        ·cases h
       ·cases h
      ·cases h
     ·rename_i hw
      split at h
      ·rename_i ob4 orc4 S4 h4
       simp only [Option.some.injEq, Prod.mk.injEq] at h
       obtain ⟨rfl, rfl, rfl⟩ := h
       obtain ⟨ho1, ho4⟩ := All.append.1 ho
       obtain ⟨σ1, hr1⟩ := beforeOp_ok h1 ho1 hr
       rw [if_neg (by rw [wantedS_ok hw hr1.tmps]; simp)]
       exact main ob4 orc4 S4 _ orc1 _ w σ1 h4 ho4 (hr1.put (fun d e => by rw [e] at hd; simpa [dstOk] using hd) rep_undef) rfl
      ·cases h
     ·cases h
    ·cases h
   ·cases h
def AG (P : Program) (f : FuncId) (N : Nat) (rds : List RD) (w0 : Base) (k : List Item) (S : FS) : Prop :=
 ∀ (b : Frame) (cs : List Frame) (σ : Sig) (a : Act) (w : World), b.fn = f → b.kind = .normal → Rel w0 N S σ a w →
  ∃ w' fr vs us, Steps P (lone (b.at a k) cs w) (lone fr cs w') ∧ fr.fn = f ∧ fr.leaving P w' (.returned (one vs)) ∧ Below w0.base w0 w' ∧ ResOk w0.base w' rds vs us ∧ (∀ b, w0.F b → w'.heap[b]? = w0.O b) ∧ w0.Q w' (one vs) ∧ ∀ b, Owns (rds.flatMap RD.cells) us b → ¬ w0.F b
section
variable {f : FuncId} {N : Nat} {rds : List RD} {w0 : Base} {k k' : List Item} {S S' : FS}
theorem AG.step (hs : ∀ (b : Frame) (cs : List Frame) (a : Act) (w : World), step P (lone (b.at a k) cs w) = .next (lone (b.at a k') cs w)) (h : AG P f N rds w0 k' S) : AG P f N rds w0 k S :=
 fun b cs σ a w hb hk hr => by
  obtain ⟨w', fr, vs, us, h1, h2⟩ := h b cs σ a w hb hk hr
  exact ⟨w', fr, vs, us, .head (hs b cs a w) h1, h2⟩
theorem AG.weak (hs : ∀ (σ : Sig) (a : Act) (w : World), Rel w0 N S σ a w → ∃ σ', Rel w0 N S' σ' a w) (h : AG P f N rds w0 k S') : AG P f N rds w0 k S :=
 fun b cs σ a w hb hk hr => by
  obtain ⟨σ', hr'⟩ := hs σ a w hr
  exact h b cs σ' a w hb hk hr'
theorem AG.region {id : Nat} {ops : Array Oper} {draw : Bool} (hs : ∀ (σ : Sig) (a : Act) (w : World), Rel w0 N S σ a w → (Code.region id ops draw).wp P (fun e a' w' => e = .normal ∧ ∃ σ', Rel w0 N S' σ' a' w') a w) (h : AG P f N rds w0 k S') :
  AG P f N rds w0 (.code (.region id ops draw) :: k) S :=
 fun b cs σ a w hb hk hr => by
  obtain ⟨e, a', w', ⟨rfl, σ', hr'⟩, harr⟩ := hs σ a w hr b k cs
  obtain ⟨w2, fr, vs, us, h1, h2⟩ := h b cs σ' a' w' hb hk hr'
  exact ⟨w2, fr, vs, us, Steps.trans harr h1, h2⟩
end
def nodupN : List Nat → Bool
 | [] => true
 | x :: xs => !xs.contains x && nodupN xs
def fitRC (H : Nat → Option Content) : CV → RC → Option (List Prop × List Nat)
 | .p fr x, .p y => if fr || isSc x then some ([VE x y], []) else none
 | .any, .any => some ([True], [])
 | .h s, .own e z n g => match H s with
   | some (.row e' z' n' g' fr) => if e' = e ∧ z' = z ∧ fr = true then some ([GE n' g' n g], [s]) else none
   | _ => none
 | .hn s, .ownN e ei n m g => match H s with
   | some (.nest e' ei' n' m' g') => if e' = e ∧ ei' = ei then some ([GEN n' m' g' n m g], [s]) else none
   | _ => none
 | _, _ => none
def fitRCs (H : Nat → Option Content) : List CV → List RC → Option (List Prop × List Nat)
 | [], [] => some ([], [])
 | c :: cs, r :: rs => match fitRC H c r, fitRCs H cs rs with
   | some (l, s), some (l', s') => some (l ++ l', s ++ s')
   | _, _ => none
 | _, _ => none
def resAV (P : Program) (S : FS) : ResultVar → Option AV
 | .tmp t => some (S.T t)
 | .cell a t => match placeOf S.H (S.T a) with
   | some cs => loadV P t cs
   | none => none
def cellsR : AV → RD → Option (List CV)
 | .t (.c x), .c _ => some [x]
 | .ptr _ _, .c .any => some [.any]
 | .t (.agg xs), .agg _ => some xs
 | _, _ => none
def fitRets (P : Program) (S : FS) : List ResultVar → List RD → Option (List CV)
 | [], [] => some []
 | r :: rs, d :: ds => match resAV P S r with
   | some av => match cellsR av d, fitRets P S rs ds with
     | some l, some l' => if l.length = d.cells.length then some (l ++ l') else none
     | _, _ => none
   | none => none
 | _, _ => none
def fitRet (P : Program) (S : FS) (rvs : List ResultVar) (rds : List RD) : Option (List Prop) := match fitRets P S rvs rds with
 | some cs => match fitRCs S.H cs (rds.flatMap RD.cells) with
   | some (l, s) => if nodupN s then some l else none
   | none => none
 | none => none
def selfRC : RC → Prop
 | .p y => VE y y
 | .any => True
 | .own e z n g => GE n g n g
 | .ownN e ei n m g => GEN n m g n m g
def selfR (rds : List RD) : List Prop := (rds.flatMap RD.cells).map selfRC
theorem selfR_ok (rds : List RD) : All (selfR rds) := by
 unfold selfR
 generalize rds.flatMap RD.cells = l
 induction l with
 | nil => trivial
 | cons r l ih =>
   rw [List.map_cons, All.cons]
   refine ⟨?_, ih⟩
   cases r with
   | p y => exact VE.refl y
   | any => trivial
   | own e z n g => exact GE.refl n g
   | ownN e ei n m g => exact GEN.refl n m g
end Go.Av