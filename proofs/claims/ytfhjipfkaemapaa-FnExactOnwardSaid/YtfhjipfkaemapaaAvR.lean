/- Regions that draw their order: run in the text's order. -/
import Derived.Test.YtfhjipfkaemapaaAvQ
namespace Go.Av
open Go Go.RowKit
set_option linter.unusedVariables false
set_option linter.unusedSimpArgs false
variable {P : Program}

def effOf (P : Program) (o : Oper) (d : Nat) (Sr : FS) (orc : List (Orc P)) : Option (List Prop × List (Orc P) × Eff) :=
  match kindOf o.op with
  | .call f args => match orc with
    | .call C :: orc' => if (C.res.flatMap RD.cells).length ≤ 64 then match funOf (Sr.ev f) with
      | some (g, cs) => match fitAs Sr.H (args.map Sr.ev ++ cs) C.args with
          | some obs => some ((C.f = g) :: obs, orc', resEff d C.res)
          | none => none
      | none => none
      else none
    | _ => none
  | .other => match evOp P o Sr.ev Sr.H with
    | some (obs, E) => if E.news.all (fun x => x.1 == siteOf d 0) then some (obs, orc, E) else none
    | none => match nOther P o Sr.H Sr.ev with
      | some (obs, av) => some (obs, orc, ⟨av, []⟩)
      | none => none
  | _ => none
def decOf (d : Nat) (E : Eff) : List (Orc P) → Option (List Prop × List (Orc P) × Eff)
  | .dec d' v :: r => if d' = d then match scOf E.av with
      | some (.bool b) => some ([b = v], r, ⟨scv (.bool v), E.news⟩)
      | _ => none
    else some ([], .dec d' v :: r, E)
  | .cst d' y :: r => if d' = d then match E.av with
      | .t (.c (.p fr x)) => some ([VE x y], r, ⟨.t (.c (.p fr y)), E.news⟩)
      | _ => none
    else some ([], .cst d' y :: r, E)
  | .rowE d' n g :: r => if d' = d then match E.news with
      | [(s, .row e z n' g' fr)] => some ([GE n' g' n g], r, ⟨E.av, [(s, .row e z n g fr)]⟩)
      | _ => none
    else some ([], .rowE d' n g :: r, E)
  | l => some ([], l, E)
theorem grow_retold {base : Nat} {σ σ' : Sig} {w w' : World} {s e z n n' : Nat} {g g' : Nat → List V} {fr : Bool} (hg : GE n' g' n g) (h : Grow base σ σ' w w' [(s, .row e z n' g' fr)]) : Grow base σ σ' w w' [(s, .row e z n g fr)] := by
  have hl : ∀ (c c' : Content) s', [(s, c)].lookup s' = none ↔ [(s, c')].lookup s' = none := fun c c' s' => by
    simp only [List.lookup_cons, List.lookup_nil]
    split <;> simp
  refine ⟨h.below, fun s' hs => h.ext s' ((hl _ _ s').2 hs), fun s' c hs => ?_, fun s1 s2 v v' b h1 h2 => h.inj s1 s2 v v' b (fun e' => h1 ((hl _ _ s1).1 e')) (fun e' => h2 ((hl _ _ s2).1 e'))⟩
  simp only [List.lookup_cons, List.lookup_nil] at hs
  split at hs
  · rename_i heq
    cases hs
    have e1 : s' = s := by simpa using heq
    subst e1
    obtain ⟨v, hv, ⟨xs, k1, k2, k3, k4⟩, hb⟩ := h.new s' (.row e z n' g' fr) (by simp)
    obtain ⟨rfl, hg⟩ := hg
    refine ⟨v, hv, ⟨xs, k1, k2, fun j hj => (hg j hj).1 ▸ k3 j hj, fun j q x hj hx => ?_⟩, hb⟩
    obtain ⟨y, hy, hyx⟩ := (hg j hj).2 q x hx
    obtain ⟨u, hu, hru⟩ := k4 j q y hj hy
    exact ⟨u, hu, hyx _ _ _ hru⟩
  · cases hs
/-- What it makes is its own. -/
def kdOk (o : Oper) (d : Nat) : Bool := match kdOf o with
  | some d' => d' == d
  | none => true
def freeStep (P : Program) (ops : Array Oper) (i : Nat) (o : Oper) (d : Nat) (Sr : FS) (orc : List (Orc P)) : Option (List Prop × List (Orc P) × Eff) :=
  match wantedS ops o Sr.T with
  | some false => some ([], orc, ⟨.tup [], []⟩)
  | some true => if kdOk o d then match effOf P o d Sr orc with
    | some (ob1, orc1, E) => match decOf d E orc1 with
      | some (ob2, orc2, E') => some (ob1 ++ ob2, orc2, E')
      | none => none
    | none => none
    else none
  | none => none
/-- A store into a box that the region itself has made. -/
def freeStore (P : Program) (ops : Array Oper) (o : Oper) (Sr : FS) : Option Eff :=
  match wantedS ops o Sr.T, o.op with
  | some true, .store t (.tmp x) y => match Sr.T x, cellsOf (Sr.ev y), P.info? t with
    | .ptr s off, some xs, some i => match Sr.H s with
      | some (.box t' cs) => if s / 64 = x ∧ xs.length = i.size ∧ off + xs.length ≤ cs.length then some ⟨.any, [(s, .box t' (splice cs off xs))]⟩ else none
      | _ => none
    | _, _, _ => none
  | _, _ => none
/-- A call that writes a box, wherever it may come. -/
def freeQ (P : Program) (ops : Array Oper) (tab : Tab) (i : Nat) (o : Oper) (d : Nat) (Sr : FS) (orc : List (Orc P)) : Option (List Prop × List (Orc P) × Eff) :=
  match wantedS ops o Sr.T, kindOf o.op, orc with
  | some true, .call f args, .callQ C :: orc' => match qStep Sr.ev Sr C f args d with
    | some (obs, s, c, E) => if (E.news.lookup s).isNone && ((kdAt ops tab i).contains (s / 64) && E.news.all fun x => (Sr.H x.1).isNone && (!forbS ops tab i (x.1 / 64) && (kdAt ops tab i).contains (x.1 / 64))) then some (obs, orc', ⟨E.av, (s, c) :: E.news⟩) else none
    | none => none
  | _, _, _ => none
def fixedOk (tab : Tab) (n i : Nat) : Bool := (List.range i).all (fun j => (tab.l.getD i 0).testBit j) && (List.range n).all fun j => decide (j ≤ i) || (tab.l.getD j 0).testBit i

def evDraw (P : Program) (N : Nat) (ops : Array Oper) (tab : Tab) : List Oper → Nat → FS → List (Orc P) → Option (List Prop × List (Orc P) × FS)
  | [], _, S, orc => some ([], orc, S)
  | o :: rest, i, S, orc => if dstOk N o.dst then
      if fixedOk tab ops.size i then match beforeOp o S orc with
        | some (ob1, orc1, S1) => match wantedS ops o S1.T with
          | some true => match opStep P o S1 orc1 with
            | some (ob2, orc2, S2) => match afterOp o S2 orc2 with
              | some (ob3, orc3, S3) => match evDraw P N ops tab rest (i + 1) S3 orc3 with
                | some (ob4, orc4, S4) => some (ob1 ++ (ob2 ++ (ob3 ++ ob4)), orc4, S4)
                | none => none
              | none => none
            | none => none
          | some false => match evDraw P N ops tab rest (i + 1) (S1.put o.dst (.tup [])) orc1 with
            | some (ob4, orc4, S4) => some (ob1 ++ ob4, orc4, S4)
            | none => none
          | none => none
        | none => none
      else match o.dst with
        | some d => match freeQ P ops tab i o d (restr ops tab i S) orc with
          | some (ob1, orc1, E) => match evDraw P N ops tab rest (i + 1) (S.app (some d) E) orc1 with
            | some (ob2, orc2, S2) => some (ob1 ++ ob2, orc2, S2)
            | none => none
          | none => match freeStep P ops i o d (restr ops tab i S) orc with
          | some (ob1, orc1, E) => if E.news.all (fun x => (S.H x.1).isNone) && (E.news.isEmpty || (kdOf o).isSome) then match evDraw P N ops tab rest (i + 1) (S.app (some d) E) orc1 with
              | some (ob2, orc2, S2) => some (ob1 ++ ob2, orc2, S2)
              | none => none
            else none
          | none => none
        | none => match freeStore P ops o (restr ops tab i S) with
          | some E => evDraw P N ops tab rest (i + 1) (S.app none E) orc
          | none => none
    else none

theorem restr_sites {w0 : Base} {N : Nat} {ops : Array Oper} {tab : Tab} {i : Nat} {S : FS} {σ : Sig} {a : Act} {w : World} (h : Rel w0 N S σ a w) : ∀ s c, (restr ops tab i S).H s = some c → ∃ v, σ s = some v ∧ SiteOk w0.base w σ v c := by
  intro s c hs
  have hs : (if forbS ops tab i (s / 64) then none else S.H s) = some c := hs
  split at hs
  · cases hs
  · exact h.sites s c hs
theorem restr_T {w0 : Base} {N : Nat} {ops : Array Oper} {tab : Tab} {i : Nat} {S : FS} {σ : Sig} {a : Act} {w : World} (h : Rel w0 N S σ a w) (t : Nat) : RepA w0.base w σ ((restr ops tab i S).T t) (a.tmps.getD t undef) := by
  show RepA _ _ _ (if forbT ops tab i t then .any else S.T t) _
  split
  · trivial
  · exact h.tmps t
theorem restr_ev {w0 : Base} {N : Nat} {ops : Array Oper} {tab : Tab} {i : Nat} {S : FS} {σ : Sig} {a : Act} {w : World} (h : Rel w0 N S σ a w) (x : Operand) : RepA w0.base w σ ((restr ops tab i S).ev x) (a.eval x) := by
  cases x with
  | tmp t => exact unA_ok (restr_sites h) (restr_T h t)
  | const v => exact constAV_ok v
  | func f => exact h.ev (.func f)
  | global g => trivial

theorem lookup_keys {α : Type} {l : List (Nat × α)} {p : Nat → Bool} (h : l.all (fun x => p x.1) = true) {s : Nat} (hs : l.lookup s ≠ none) : p s = true := by
  obtain ⟨c, hc⟩ := Option.ne_none_iff_exists'.1 hs
  exact List.all_eq_true.1 h _ (lookup_mem hc)

theorem effOf_ok {w0 : Base} {N : Nat} {o : Oper} {d : Nat} {Sr S1 : FS} {orc orc' : List (Orc P)} {obs : List Prop} {E : Eff} {σ : Sig} {a : Act} {w : World} (h : effOf P o d Sr orc = some (obs, orc', E)) (ho : All obs)
    (hev : ∀ x, RepA w0.base w σ (Sr.ev x) (a.eval x)) (hH : ∀ s c, Sr.H s = some c → ∃ v, σ s = some v ∧ SiteOk w0.base w σ v c) (hr : Rel w0 N S1 σ a w) (hf : ∀ s, E.news.lookup s ≠ none → S1.H s = none) : EffOk P w0.base o E σ a w := by
  have hfree : ∀ s, E.news.lookup s ≠ none → σ s = none := fun s hs => hr.dom s (hf s hs)
  unfold effOf at h
  split at h
  · rename_i f args hk
    obtain ⟨ts, hop⟩ := kindOf_call hk
    split at h
    · rename_i C orc''
      split at h
      · split at h
        · rename_i g caps hg
          split at h
          · rename_i obs' hfit
            simp only [Option.some.injEq, Prod.mk.injEq] at h
            obtain ⟨rfl, rfl, rfl⟩ := h
            obtain ⟨e, ho2⟩ := All.cons.1 ho
            exact call_eff hop hev hH (by rw [hg, e]) hfit ho2 hr.based (fun b hb => (hr.live hb).2) hfree
          · cases h
        · cases h
      · cases h
    · cases h
  · split at h
    · rename_i obs' E' he
      split at h
      · simp only [Option.some.injEq, Prod.mk.injEq] at h
        obtain ⟨rfl, rfl, rfl⟩ := h
        exact evOp_ok he ho hev hH hr.based hfree
      · cases h
    · split at h
      · rename_i obs' av he
        simp only [Option.some.injEq, Prod.mk.injEq] at h
        obtain ⟨rfl, rfl, rfl⟩ := h
        exact nOther_ok hH hev he ho
      · cases h
  · cases h
theorem effOf_keys {o : Oper} {d : Nat} {Sr : FS} {orc orc' : List (Orc P)} {obs : List Prop} {E : Eff} (h : effOf P o d Sr orc = some (obs, orc', E)) : ∀ s, E.news.lookup s ≠ none → s / 64 = d := by
  unfold effOf at h
  intro s hs
  split at h
  · split at h
    · rename_i C orc''
      split at h
      · rename_i hlen
        split at h
        · split at h
          · simp only [Option.some.injEq, Prod.mk.injEq] at h
            obtain ⟨rfl, rfl, rfl⟩ := h
            obtain ⟨i, hi, rfl⟩ := news_keys s hs
            unfold siteOf
            omega
          · cases h
        · cases h
      · cases h
    · cases h
  · split at h
    · split at h
      · rename_i hall
        simp only [Option.some.injEq, Prod.mk.injEq] at h
        obtain ⟨rfl, rfl, rfl⟩ := h
        have := lookup_keys (p := fun k => k == siteOf d 0) hall hs
        have : s = siteOf d 0 := by simpa using this
        rw [this]
        unfold siteOf
        omega
      · cases h
    · split at h
      · simp only [Option.some.injEq, Prod.mk.injEq] at h
        obtain ⟨rfl, rfl, rfl⟩ := h
        simp at hs
      · cases h
  · cases h
theorem decOf_ok {d : Nat} {E E' : Eff} {orc orc' : List (Orc P)} {obs : List Prop} (h : decOf d E orc = some (obs, orc', E')) (ho : All obs) : (∀ s, E'.news.lookup s = none ↔ E.news.lookup s = none) ∧ ∀ base o σ a w, EffOk P base o E σ a w → EffOk P base o E' σ a w := by
  unfold decOf at h
  split at h
  · split at h
    · split at h
      · rename_i b hb
        simp only [Option.some.injEq, Prod.mk.injEq] at h
        obtain ⟨rfl, rfl, rfl⟩ := h
        have hbv : b = _ := ho
        subst hbv
        refine ⟨fun _ => Iff.rfl, fun base o σ a w he Kk Q hK => he Kk Q fun v w' σ' hg hr => hK v w' σ' hg ?_⟩
        have := (scOf_rep hb hr).1
        subst this
        exact rep_scv rfl
      · cases h
    · simp only [Option.some.injEq, Prod.mk.injEq] at h; obtain ⟨_, _, rfl⟩ := h; exact ⟨fun _ => Iff.rfl, fun _ _ _ _ _ h => h⟩
  · split at h
    · split at h
      · rename_i fr x hav
        simp only [Option.some.injEq, Prod.mk.injEq] at h
        obtain ⟨rfl, rfl, rfl⟩ := h
        refine ⟨fun _ => Iff.rfl, fun base o σ a w he Kk Q hK => he Kk Q fun v w' σ' hg hr => hK v w' σ' hg ?_⟩
        rw [hav] at hr
        exact ho _ _ _ hr
      · cases h
    · simp only [Option.some.injEq, Prod.mk.injEq] at h; obtain ⟨_, _, rfl⟩ := h; exact ⟨fun _ => Iff.rfl, fun _ _ _ _ _ h => h⟩
  · split at h
    · split at h
      · rename_i s e z n' g' fr hn
        simp only [Option.some.injEq, Prod.mk.injEq] at h
        obtain ⟨rfl, rfl, rfl⟩ := h
        refine ⟨fun s' => ?_, fun base o σ a w he Kk Q hK => he Kk Q fun v w' σ' hg hr => hK v w' σ' (grow_retold ho (by rw [hn] at hg; exact hg)) hr⟩
        rw [hn]
        simp only [List.lookup_cons, List.lookup_nil]
        split <;> simp
      · cases h
    · simp only [Option.some.injEq, Prod.mk.injEq] at h; obtain ⟨_, _, rfl⟩ := h; exact ⟨fun _ => Iff.rfl, fun _ _ _ _ _ h => h⟩
  · simp only [Option.some.injEq, Prod.mk.injEq] at h; obtain ⟨_, _, rfl⟩ := h; exact ⟨fun _ => Iff.rfl, fun _ _ _ _ _ h => h⟩

theorem freeStep_ok {w0 : Base} {N : Nat} {ops : Array Oper} {tab : Tab} {i : Nat} {o : Oper} {d : Nat} {S : FS} {orc orc' : List (Orc P)} {obs : List Prop} {E : Eff} (h : freeStep P ops i o d (restr ops tab i S) orc = some (obs, orc', E)) (ho : All obs) (hi : ops[i]? = some o) (hd : o.dst = some d) (hdN : d < N) (hkd : E.news = [] ∨ (kdOf o).isSome = true) :
    FreeOk P w0 N ops tab i o S E true := by
  have wn : ∀ (S1 : FS) σ a w b, restr ops tab i S1 = restr ops tab i S → wantedS ops o (restr ops tab i S).T = some b → Rel w0 N S1 σ a w → Region.wanted o (yielded ops a.tmps) = b := fun S1 σ a w b e hw hr => by
    rw [← e] at hw
    exact wantedS_ok hw (fun t => restr_T (ops := ops) (tab := tab) (i := i) hr t)
  unfold freeStep at h
  split at h
  · rename_i hw
    simp only [Option.some.injEq, Prod.mk.injEq] at h
    obtain ⟨rfl, rfl, rfl⟩ := h
    refine ⟨fun s hs => by simp at hs, fun S1 e hf σ a w hr Kk Q hK => ?_⟩
    unfold wpOp
    rw [hi]
    simp only
    rw [if_neg (by rw [wn S1 σ a w false e hw hr]; simp)]
    exact hK _ w σ (hr.put (fun d' e' => by rw [hd] at e'; cases e'; exact hdN) rep_undef)
  · rename_i hw
    split at h
    rotate_left
    · cases h
    rename_i hko
    split at h
    · rename_i ob1 orc1 E1 h1
      split at h
      · rename_i ob2 orc2 E2 h2
        simp only [Option.some.injEq, Prod.mk.injEq] at h
        obtain ⟨rfl, rfl, rfl⟩ := h
        obtain ⟨ho1, ho2⟩ := All.append.1 ho
        obtain ⟨hnews, hdec⟩ := decOf_ok h2 ho2
        refine ⟨fun s hs => ?_, fun S1 e hf σ a w hr Kk Q hK => ?_⟩
        · refine kdAt_of hi ?_
          rw [effOf_keys h1 s (fun e => hs ((hnews s).2 e))]
          rcases hkd with hkd | hkd
          · rw [hkd] at hs; simp at hs
          · unfold kdOk at hko
            cases hk : kdOf o with
            | none => rw [hk] at hkd; cases hkd
            | some d' => rw [hk] at hko; simp only [beq_iff_eq] at hko; rw [hko]
        · unfold wpOp
          rw [hi]
          simp only
          rw [if_pos (wn S1 σ a w true e hw hr)]
          left
          have hf' : ∀ s, E1.news.lookup s ≠ none → S1.H s = none := fun s hs => hf rfl s (fun e => hs ((hnews s).1 e))
          have heff := hdec _ _ _ _ _ (effOf_ok h1 ho1 (by rw [← e]; exact fun x => restr_ev hr x) (by rw [← e]; exact restr_sites hr) hr hf')
          exact hr.eff heff (hf rfl) (fun d' e' => by rw [hd] at e'; cases e'; exact hdN) Kk Q hK
      · cases h
    · cases h
  · cases h

theorem freeQ_ok {w0 : Base} {N : Nat} {ops : Array Oper} {tab : Tab} {i : Nat} {o : Oper} {d : Nat} {S : FS} {orc orc' : List (Orc P)} {obs : List Prop} {E : Eff} (h : freeQ P ops tab i o d (restr ops tab i S) orc = some (obs, orc', E)) (ho : All obs) (hi : ops[i]? = some o) (hd : o.dst = some d) (hdN : d < N) :
    FreeOk P w0 N ops tab i o S E false := by
  unfold freeQ at h
  split at h
  · rename_i f args C orc'' hw hk
    split at h
    · rename_i obs2 s c E0 hq
      split at h
      · rename_i hc
        simp only [Option.some.injEq, Prod.mk.injEq] at h
        obtain ⟨rfl, rfl, rfl⟩ := h
        rw [Bool.and_eq_true, Bool.and_eq_true] at hc
        obtain ⟨hn, hks, hall⟩ := hc
        obtain ⟨ts, hop⟩ := kindOf_call hk
        have hn : E0.news.lookup s = none := by simpa using hn
        have hall : ∀ s', E0.news.lookup s' ≠ none → (restr ops tab i S).H s' = none ∧ forbS ops tab i (s' / 64) = false ∧ s' / 64 ∈ kdAt ops tab i := fun s' hs' => by
          have := lookup_keys (p := fun k => ((restr ops tab i S).H k).isNone && (!forbS ops tab i (k / 64) && (kdAt ops tab i).contains (k / 64))) hall hs'
          simpa using this
        refine ⟨fun s' hs' => ?_, fun S1 e hf σ a w hr Kk Q hK => ?_⟩
        · simp only [List.lookup_cons] at hs'
          split at hs'
          · rename_i he
            have he : s' = s := by simpa using he
            rw [he]
            simpa using hks
          · exact (hall s' hs').2.2
        · unfold wpOp
          rw [hi]
          simp only
          rw [← e] at hw hq
          rw [if_pos (wantedS_ok hw (fun t => restr_T (ops := ops) (tab := tab) (i := i) hr t))]
          left
          have hsome : (S1.H s).isSome = true := by
            obtain ⟨t, cs, hb⟩ := qStep_box hq
            have hb : (if forbS ops tab i (s / 64) then none else S1.H s) = some (.box t cs) := hb
            split at hb
            · cases hb
            · rw [hb]; rfl
          have hfree : ∀ s', E0.news.lookup s' ≠ none → S1.H s' = none := fun s' hs' => by
            obtain ⟨h1, h2, _⟩ := hall s' hs'
            rw [← e] at h1
            have h1 : (if forbS ops tab i (s' / 64) then none else S1.H s') = none := h1
            rw [h2] at h1
            exact h1
          refine qcall_ok hr (fun x => restr_ev (ops := ops) (tab := tab) (i := i) hr x) (restr_sites hr) hop hq ho hsome hfree (fun d' e' => by rw [hd] at e'; cases e'; exact hdN) Kk Q (fun a' w' σ' hr' => hK a' w' σ' ?_)
          have : ((S1.setH s c).add E0.news).put o.dst E0.av = S1.app o.dst ⟨E0.av, (s, c) :: E0.news⟩ := by
            unfold FS.app FS.add FS.setH
            simp only
            congr 2
            funext s'
            simp only [List.lookup_cons, upd]
            by_cases e1 : s' = s
            · subst e1
              rw [hn]
              simp
            · have : (s' == s) = false := by simpa using e1
              rw [this, if_neg e1]
          rw [← this]
          exact hr'
      · cases h
    · cases h
  · cases h
theorem freeStore_ok {w0 : Base} {N : Nat} {ops : Array Oper} {tab : Tab} {i : Nat} {o : Oper} {S : FS} {E : Eff} (h : freeStore P ops o (restr ops tab i S) = some E) (hi : ops[i]? = some o) (hd : o.dst = none) :
    FreeOk P w0 N ops tab i o S E false := by
  unfold freeStore at h
  split at h
  · rename_i t x y hw hop
    split at h
    · rename_i s off xs inf hx hy hinf
      split at h
      · rename_i t' cs hs
        split at h
        · rename_i hc
          obtain ⟨hsx, hlen, hle⟩ := hc
          cases h
          refine ⟨fun s' hs' => ?_, fun S1 e hf σ a w hr Kk Q hK => ?_⟩
          · have : s' = s := by
              simp only [List.lookup_cons, List.lookup_nil] at hs'
              split at hs'
              · rename_i he; simpa using he
              · exact absurd rfl hs'
            refine kdAt_of hi ?_
            rw [this, hsx]
            unfold kdOf
            rw [hop]
          · rw [← e] at hw hx hy hs
            unfold wpOp
            rw [hi]
            simp only
            rw [if_pos (wantedS_ok hw (fun t => restr_T (ops := ops) (tab := tab) (i := i) hr t))]
            left
            have hs1 : S1.H s = some (.box t' cs) := by
              have hs : (if forbS ops tab i (s / 64) then none else S1.H s) = some (.box t' cs) := hs
              split at hs
              · cases hs
              · exact hs
            have hst : evStore P t (.ptr s off) xs S1 = some ⟨S1.T, upd S1.H s (some (.box t' (splice cs off xs)))⟩ := by
              unfold evStore
              rw [hinf]
              simp only
              rw [if_pos hlen, hs1]
              simp only
              rw [if_pos hle]
            have hrx := restr_ev (ops := ops) (tab := tab) (i := i) hr (.tmp x)
            have hx' : (restr ops tab i S1).ev (.tmp x) = .ptr s off := by
              show unA _ ((restr ops tab i S1).T x) = _
              rw [hx]
              rfl
            rw [hx'] at hrx
            refine evStore_ok hop hd hr hrx (cellsOf_rep hy (restr_ev hr y)) hst Kk Q (fun a' w' σ' hr' => hK a' w' σ' ?_)
            have : (⟨S1.T, upd S1.H s (some (.box t' (splice cs off xs)))⟩ : FS) = S1.app o.dst ⟨.any, [(s, .box t' (splice cs off xs))]⟩ := by
              rw [hd]
              unfold FS.app FS.put FS.add
              simp only
              congr 1
              funext s'
              simp only [upd, List.lookup_cons, List.lookup_nil]
              by_cases e1 : s' = s
              · subst e1; simp
              · have : (s' == s) = false := by simpa using e1
                rw [this, if_neg e1]
            rw [this] at hr'
            exact hr'
        · cases h
      · cases h
    · cases h
  · cases h

theorem evDraw_ok {w0 : Base} {N : Nat} {ops : Array Oper} {tab : Tab} (htab : ∀ i j, (tab.l.getD i 0).testBit j = true → TC ops j i) : ∀ (l : List Oper) (k : Nat) {S S' : FS} {orc orc' : List (Orc P)} {obs : List Prop}, (∀ j : Nat, l[j]? = ops[k + j]?) →
    evDraw P N ops tab l k S orc = some (obs, orc', S') → All obs → Lex P w0 N ops tab (List.range' k l.length) S S'
  | [], k, S, S', orc, orc', obs, hl, h, ho => by
    simp only [evDraw, Option.some.injEq, Prod.mk.injEq] at h
    obtain ⟨_, _, rfl⟩ := h
    exact .nil S
  | o :: l, k, S, S', orc, orc', obs, hl, h, ho => by
    have hk : ops[k]? = some o := by have := hl 0; simpa using this.symm
    have hl' : ∀ j : Nat, l[j]? = ops[k + 1 + j]? := fun j => by have := hl (j + 1); rw [List.getElem?_cons_succ] at this; rw [this]; congr 1; omega
    have hsz : k + (l.length + 1) = ops.size := by
      have h1 := hl l.length
      have h2 := hl (l.length + 1)
      rw [List.getElem?_eq_none (by simp)] at h2
      have h3 : (o :: l)[l.length]? ≠ none := by rw [List.getElem?_eq_getElem (by simp)]; simp
      rw [h1] at h3
      have h4 : k + l.length < ops.size := by
        rcases Nat.lt_or_ge (k + l.length) ops.size with h | h
        · exact h
        · exact absurd (Array.getElem?_eq_none h) h3
      have h5 : ops.size ≤ k + (l.length + 1) := by
        rcases Nat.lt_or_ge (k + (l.length + 1)) ops.size with h | h
        · rw [Array.getElem?_eq_getElem h] at h2; cases h2
        · exact h
      omega
    rw [List.length_cons, List.range'_succ]
    simp only [evDraw] at h
    split at h
    · rename_i hd
      have hd' : ∀ d, o.dst = some d → d < N := fun d e => by rw [e] at hd; simpa [dstOk] using hd
      split at h
      · rename_i hfix
        unfold fixedOk at hfix
        rw [Bool.and_eq_true] at hfix
        have f1 : ∀ j, j < k → TC ops j k := fun j hj => htab _ _ (List.all_eq_true.1 hfix.1 j (List.mem_range.2 hj))
        have f2 : ∀ j ∈ List.range' (k + 1) l.length, TC ops k j := fun j hj => by
          rw [List.mem_range'_1] at hj
          have := List.all_eq_true.1 hfix.2 j (List.mem_range.2 (by omega))
          rw [Bool.or_eq_true] at this
          rcases this with h | h
          · simp at h; omega
          · exact htab _ _ h
        split at h
        · rename_i ob1 orc1 S1 h1
          split at h
          · rename_i hw
            split at h
            · rename_i ob2 orc2 S2 h2
              split at h
              · rename_i ob3 orc3 S3 h3
                split at h
                · rename_i ob4 orc4 S4 h4
                  simp only [Option.some.injEq, Prod.mk.injEq] at h
                  obtain ⟨rfl, rfl, rfl⟩ := h
                  obtain ⟨ho1, ho⟩ := All.append.1 ho
                  obtain ⟨ho2, ho⟩ := All.append.1 ho
                  obtain ⟨ho3, ho4⟩ := All.append.1 ho
                  refine .fixed (S1 := S3) (fun σ a w hr Kk Q hK => ?_) f1 f2 (evDraw_ok htab l (k + 1) hl' h4 ho4)
                  obtain ⟨σ1, hr1⟩ := beforeOp_ok h1 ho1 hr
                  unfold wpOp
                  rw [hk]
                  simp only
                  rw [if_pos (wantedS_ok hw hr1.tmps)]
                  refine .inl (opStep_ok h2 ho2 hd hr1 _ _ fun a' w' σ' hr2 => ?_)
                  obtain ⟨σ3, hr3⟩ := afterOp_ok h3 ho3 hr2
                  exact hK a' w' σ3 hr3
                · cases h
              · cases h
            · cases h
          · rename_i hw
            split at h
            · rename_i ob4 orc4 S4 h4
              simp only [Option.some.injEq, Prod.mk.injEq] at h
              obtain ⟨rfl, rfl, rfl⟩ := h
              obtain ⟨ho1, ho4⟩ := All.append.1 ho
              refine .fixed (S1 := S1.put o.dst (.tup [])) (fun σ a w hr Kk Q hK => ?_) f1 f2 (evDraw_ok htab l (k + 1) hl' h4 ho4)
              obtain ⟨σ1, hr1⟩ := beforeOp_ok h1 ho1 hr
              unfold wpOp
              rw [hk]
              simp only
              rw [if_neg (by rw [wantedS_ok hw hr1.tmps]; simp)]
              exact hK _ w σ1 (hr1.put hd' rep_undef)
            · cases h
          · cases h
        · cases h
      · split at h
        · rename_i d hdst
          split at h
          · rename_i ob1 orc1 E h1
            split at h
            · rename_i ob2 orc2 S2 h2
              simp only [Option.some.injEq, Prod.mk.injEq] at h
              obtain ⟨rfl, rfl, rfl⟩ := h
              obtain ⟨ho1, ho2⟩ := All.append.1 ho
              refine .free (fresh := false) hk (freeQ_ok h1 ho1 hk hdst (hd' d hdst)) (fun e => by cases e) ?_
              rw [hdst]
              exact evDraw_ok htab l (k + 1) hl' h2 ho2
            · cases h
          rename_i hnq
          split at h
          · rename_i ob1 orc1 E h1
            split at h
            · rename_i hall
              split at h
              · rename_i ob2 orc2 S2 h2
                simp only [Option.some.injEq, Prod.mk.injEq] at h
                obtain ⟨rfl, rfl, rfl⟩ := h
                obtain ⟨ho1, ho2⟩ := All.append.1 ho
                rw [Bool.and_eq_true, Bool.or_eq_true] at hall
                refine .free hk (freeStep_ok h1 ho1 hk hdst (hd' d hdst) (hall.2.imp (fun h => List.isEmpty_iff.1 h) id)) (fun _ s hs => ?_) ?_
                · have := lookup_keys (p := fun k => (S.H k).isNone) hall.1 hs
                  simpa using this
                · rw [hdst]
                  exact evDraw_ok htab l (k + 1) hl' h2 ho2
              · cases h
            · cases h
          · cases h
        · rename_i hdst
          split at h
          · rename_i E h1
            refine .free (fresh := false) hk (freeStore_ok h1 hk hdst) (fun e => by cases e) ?_
            rw [hdst]
            exact evDraw_ok htab l (k + 1) hl' h ho
          · cases h
    · cases h

theorem draw_ok {w0 : Base} {N : Nat} {id : Nat} {ops : Array Oper} {x : List (Nat × Nat)} {S S' : FS} {orc orc' : List (Orc P)} {obs : List Prop} (hm : P.follows .mixedOrders = true) (hreg : regOk ops ⟨tabGo ops.toList [], x⟩ = true) (h : evDraw P N ops ⟨tabGo ops.toList [], x⟩ ops.toList 0 S orc = some (obs, orc', S')) (ho : All obs)
    {σ : Sig} {a : Act} {w : World} (hr : Rel w0 N S σ a w) : (Code.region id ops true).wp P (fun e a' w' => e = .normal ∧ ∃ σ', Rel w0 N S' σ' a' w') a w := by
  have htab := tabGo_ok (ops := ops) ops.toList [] (fun j => by simp) (fun i j h => by simp at h)
  have hL := evDraw_ok (w0 := w0) (ops := ops) (tab := ⟨tabGo ops.toList [], x⟩) htab ops.toList 0 (fun j => by simp) h ho
  rw [Array.length_toList, ← List.range_eq_range'] at hL
  have hrest : rest (Array.replicate ops.size false) ops.size = List.range ops.size := by
    unfold rest
    rw [List.filter_eq_self]
    intro j hj
    have := List.mem_range.1 hj
    rw [Array.getD_eq_getD_getElem?, Array.getElem?_eq_getElem (by simpa using this)]
    simp
  refine wp_region_any hm (Lex.any hreg htab (Sf := S') (fun a' w' σ' hr' => ⟨rfl, σ', hr'⟩) ops.size _ S σ a _ (by simp) (fun i hi => by rw [Array.getD_eq_getD_getElem?, Array.getElem?_replicate] at hi; split at hi <;> simp at hi) (by rw [hrest]; simp) (by rw [hrest]; exact hL) ?_)
  -- a draw turns no block
  have hev : Evo σ σ w { w with drawn := w.drawn + 1 } := ⟨Nat.le_refl _, fun _ _ _ => rfl, fun _ _ h => h⟩
  refine ⟨hr.below.drew, hr.size, hr.defers, fun t => hev.repA (fun _ _ => rfl) (hr.tmps t), fun s c hs => ?_, hr.dom, hr.inj, hev.prot hr.prot⟩
  obtain ⟨v, hv, hk⟩ := hr.sites s c hs
  exact ⟨v, hv, hev.site (fun _ _ => rfl) (fun _ _ _ _ _ => rfl) hk⟩
end Go.Av
