/- Regions that draw their order: run in the text's order; what is not told apart in time keeps clear of each other. -/
import Derived.Test.YtfhjipfkaemapaaGreatAvQ
namespace Go.Av
open Go Go.RowKit
set_option linter.unusedVariables false
set_option linter.unusedSimpArgs false
variable {P : Program}
def effOf (P : Program) (o : Oper) (d : Nat) (Sr : FS) (orc : List (Orc P)) : Option (List Prop × List (Orc P) × Eff) :=
 match kindOf o.op with
 | .call f args => match orc with
   | .call C :: orc' => if (C.res.flatMap RD.cells).length ≤ 64 then match funOf (Sr.ev f) with
     | some (g, cs) => match fitAs Sr.H (args.map Sr.ev ++ cs) C.args with
        | some obs => some ((C.f = g) :: obs, orc', resEff d C.res)
        | none => none
     | none => none
     else none
   | _ => none
 | .other => match evOp P o Sr.ev Sr.H with
   | some (obs, E) => if E.news.all (fun x => x.1 == siteOf d 0) then some (obs, orc, E) else none
   | none => match nOther P o Sr.H Sr.ev with
     | some (obs, av) => some (obs, orc, ⟨av, []⟩)
     | none => none
 | _ => none
def decOf (d : Nat) (E : Eff) : List (Orc P) → Option (List Prop × List (Orc P) × Eff)
 | .dec d' v :: r => if d' = d then match scOf E.av with
    | some (.bool b) => some ([b = v], r, ⟨scv (.bool v), E.news⟩)
    | _ => none
   else some ([], .dec d' v :: r, E)
 | .cst d' y :: r => if d' = d then match E.av with
    | .t (.c (.p fr x)) => some ([VE x y], r, ⟨.t (.c (.p fr y)), E.news⟩)
    | _ => none
   else some ([], .cst d' y :: r, E)
 | .rowE d' n g :: r => if d' = d then match E.news with
    | [(s, .row e z n' g' fr)] => some ([GE n' g' n g], r, ⟨E.av, [(s, .row e z n g fr)]⟩)
    | _ => none
   else some ([], .rowE d' n g :: r, E)
 | l => some ([], l, E)
theorem grow_retold {base : Nat} {σ σ' : Sig} {w w' : World} {s e z n n' : Nat} {g g' : Nat → List V} {fr : Bool} (hg : GE n' g' n g) (h : Grow base σ σ' w w' [(s, .row e z n' g' fr)]) : Grow base σ σ' w w' [(s, .row e z n g fr)] := by
 have hl : ∀ (c c' : Content) s', [(s, c)].lookup s' = none ↔ [(s, c')].lookup s' = none := fun c c' s' => by
  simp only [List.lookup_cons, List.lookup_nil]
  split <;> simp
 refine ⟨h.below, fun s' hs => h.ext s' ((hl _ _ s').2 hs), fun s' c hs => ?_, fun s1 s2 v v' b h1 h2 => h.inj s1 s2 v v' b (fun e' => h1 ((hl _ _ s1).1 e')) (fun e' => h2 ((hl _ _ s2).1 e'))⟩
 simp only [List.lookup_cons, List.lookup_nil] at hs
 split at hs
 ·rename_i heq
  cases hs
  have e1 : s' = s := by simpa using heq
  subst e1
  obtain ⟨v, hv, ⟨xs, k1, k2, k3, k4⟩, hb⟩ := h.new s' (.row e z n' g' fr) (by simp)
  obtain ⟨rfl, hg⟩ := hg
  refine ⟨v, hv, ⟨xs, k1, k2, fun j hj => (hg j hj).1 ▸ k3 j hj, fun j q x hj hx => ?_⟩, hb⟩
  obtain ⟨y, hy, hyx⟩ := (hg j hj).2 q x hx
  obtain ⟨u, hu, hru⟩ := k4 j q y hj hy
  exact ⟨u, hu, hyx _ _ _ hru⟩
 ·cases hs
structure Dat where
 rT : List (Nat × AV)
 rH : List (Nat × Option Content)
 sub : Option Nat
 dst : Option Nat
 av : AV
 news : List (Nat × Content)
def Dat.V (D : Dat) (S : FS) : Prop := (∀ p ∈ D.rT, S.T p.1 = p.2) ∧ ∀ p ∈ D.rH, S.H p.1 = p.2
def subO (s : Option Nat) (S : FS) : FS := match s with
 | some s => S.sub s .any none
 | none => S
def Dat.F (D : Dat) (S : FS) : FS := ((subO D.sub S).add D.news).put D.dst D.av
def Dat.keys (D : Dat) : List Nat := D.news.map Prod.fst ++ D.sub.toList
def Content.sites : Content → List Nat
 | .box _ cs => cs.flatMap CV.sites
 | _ => []
def subT' (s : Option Nat) (x : AV) : AV := match s with
 | some s => subA s .any x
 | none => x
def subH' (s : Option Nat) (k : Nat) (x : Option Content) : Option Content := match s with
 | some s => if k = s then none else x.map (subK s .any)
 | none => x
theorem F_T (D : Dat) (S : FS) (t : Nat) : (D.F S).T t = if D.dst = some t then D.av else subT' D.sub (S.T t) := by
 unfold Dat.F subO subT' FS.put FS.add FS.sub
 cases D.dst with
 | none => rw [if_neg (by simp)]; cases D.sub <;> rfl
 | some d =>
   simp only [upd, Option.some.injEq]
   by_cases e : t = d
   ·subst e; simp
   ·rw [if_neg e, if_neg (fun h => e h.symm)]; cases D.sub <;> rfl
theorem F_H (D : Dat) (S : FS) (k : Nat) : (D.F S).H k = match D.news.lookup k with
  | some c => some c
  | none => subH' D.sub k (S.H k) := by
 unfold Dat.F subO subH' FS.put FS.add FS.sub
 cases D.dst <;> cases D.sub <;> simp only [upd] <;> (cases D.news.lookup k <;> rfl)
theorem lookup_not {α : Type} {l : List (Nat × α)} {k : Nat} (h : (l.map Prod.fst).contains k = false) : l.lookup k = none := by
 cases hl : l.lookup k with
 | none => rfl
 | some c =>
   have : (l.map Prod.fst).contains k = true := List.contains_iff_mem.2 (List.mem_map.2 ⟨_, lookup_mem hl, rfl⟩)
   rw [this] at h
   cases h
theorem keys_not {D : Dat} {k : Nat} (h : D.keys.contains k = false) : D.news.lookup k = none := by
 refine lookup_not ?_
 cases hc : (D.news.map Prod.fst).contains k with
 | false => rfl
 | true =>
   have : D.keys.contains k = true := List.contains_iff_mem.2 (List.mem_append_left _ (List.contains_iff_mem.1 hc))
   rw [this] at h
   cases h
def fullC : CV → Bool
 | .any => false
 | _ => true
def fullT : TV → Bool
 | .c c => fullC c
 | .agg xs => xs.all fullC
def fullA : AV → Bool
 | .any => false
 | .t x => fullT x
 | .tup ys => ys.all fullT
 | _ => true
def fullK : Content → Bool
 | .box _ cs => cs.all fullC
 | _ => true
theorem map_same {α : Type} {f : α → α} {l : List α} (h : ∀ x ∈ l, f x = x) : l.map f = l := by
 conv => rhs; rw [← List.map_id l]
 exact List.map_congr_left h
theorem subC_of {s : Nat} {c : CV} (h : s ∉ c.sites) : subC s .any c = c := by
 cases c <;> simp only [CV.sites, List.mem_singleton] at h <;> simp only [subC] <;> first | rfl | (rw [if_neg (fun e => h e.symm)])
theorem subT_of {s : Nat} {c : TV} (h : s ∉ c.sites) : subT s .any c = c := by
 cases c with
 | c c => show TV.c (subC s .any c) = _; rw [subC_of h]
 | agg xs => show TV.agg (xs.map (subC s .any)) = _; rw [map_same fun c hc => subC_of fun hs => h (List.mem_flatMap.2 ⟨c, hc, hs⟩)]
theorem subA_of {s : Nat} {c : AV} (h : s ∉ c.sites) : subA s .any c = c := by
 cases c with
 | t x => show AV.t (subT s .any x) = _; rw [subT_of h]
 | tup ys => show AV.tup (ys.map (subT s .any)) = _; rw [map_same fun c hc => subT_of fun hs => h (List.mem_flatMap.2 ⟨c, hc, hs⟩)]
 | fn g caps =>
   simp only [subA]
   rw [if_neg]
   intro hc
   exact h (List.contains_iff_mem.1 hc)
 | any => rfl
 | bptr f e => rfl
 | bfn g es => rfl
 | _ => simp only [AV.sites, List.mem_singleton] at h; simp only [subA]; rw [if_neg (fun e => h e.symm)]
theorem subK_of {s : Nat} {c : Content} (h : s ∉ c.sites) : subK s .any c = c := by
 cases c with
 | box t cs =>
   show Content.box t (cs.map (subC s .any)) = _
   rw [map_same fun c hc => subC_of fun hs => h (List.mem_flatMap.2 ⟨c, hc, hs⟩)]
 | _ => rfl
theorem subC_full {s : Nat} {c : CV} (h : fullC (subC s .any c) = true) : s ∉ c.sites := fun hs => by
 cases c <;> simp only [CV.sites, List.mem_singleton, List.not_mem_nil] at hs <;> (subst hs; simp [subC, fullC] at h)
theorem subCs_full {s : Nat} {xs : List CV} (h : (xs.map (subC s .any)).all fullC = true) : s ∉ xs.flatMap CV.sites := fun hs => by
 obtain ⟨c, hc, hs⟩ := List.mem_flatMap.1 hs
 exact subC_full (List.all_eq_true.1 h _ (List.mem_map.2 ⟨c, hc, rfl⟩)) hs
theorem subT_full {s : Nat} {c : TV} (h : fullT (subT s .any c) = true) : s ∉ c.sites := by
 cases c with
 | c c => exact subC_full h
 | agg xs => exact subCs_full h
theorem subA_full {s : Nat} {c : AV} (h : fullA (subA s .any c) = true) : s ∉ c.sites := fun hs => by
 cases c with
 | t x => exact subT_full h hs
 | tup ys =>
   obtain ⟨c, hc, hs⟩ := List.mem_flatMap.1 hs
   exact subT_full (List.all_eq_true.1 h _ (List.mem_map.2 ⟨c, hc, rfl⟩)) hs
 | fn g caps =>
   simp only [subA] at h
   rw [if_pos (show (List.map (fun x => x.fst) caps).contains s = true from List.contains_iff_mem.2 hs)] at h
   cases h
 | any => simp [AV.sites] at hs
 | bptr f e => simp [AV.sites] at hs
 | bfn g es => simp [AV.sites] at hs
 | _ => simp only [AV.sites, List.mem_singleton] at hs; subst hs; simp [subA, fullA] at h
theorem subK_full {s : Nat} {c : Content} (h : fullK (subK s .any c) = true) : s ∉ c.sites := by
 cases c with
 | box t cs => exact subCs_full h
 | _ => simp [Content.sites]
theorem comm_gen {α : Type} (f : Nat → α → α) (any k : α) (c : Nat → Prop) [DecidablePred c] (h1 : ∀ s, f s k = if c s then any else k) (h2 : ∀ s, f s any = any) (s s' : Nat) : f s (f s' k) = f s' (f s k) := by
 rw [h1 s, h1 s']
 by_cases a : c s
 ·rw [if_pos a, h2]
  by_cases b : c s'
  ·rw [if_pos b, h2]
  ·rw [if_neg b, h1, if_pos a]
 ·rw [if_neg a]
  by_cases b : c s'
  ·rw [if_pos b, h2, h1, if_pos b]
  ·rw [if_neg b, h1, h1, if_neg a, if_neg b]
theorem subC_comm (s s' : Nat) (c : CV) : subC s .any (subC s' .any c) = subC s' .any (subC s .any c) := by
 cases c with
 | h x => exact comm_gen (fun s => subC s .any) .any (.h x) (fun s => x = s) (fun _ => rfl) (fun _ => rfl) s s'
 | hn x => exact comm_gen (fun s => subC s .any) .any (.hn x) (fun s => x = s) (fun _ => rfl) (fun _ => rfl) s s'
 | hv x y => exact comm_gen (fun s => subC s .any) .any (.hv x y) (fun s => x = s) (fun _ => rfl) (fun _ => rfl) s s'
 | _ => rfl
theorem subT_comm (s s' : Nat) (c : TV) : subT s .any (subT s' .any c) = subT s' .any (subT s .any c) := by
 cases c with
 | c c => simp only [subT, subC_comm s s']
 | agg xs => simp only [subT, List.map_map]; congr 1; exact List.map_congr_left fun c _ => subC_comm s s' c
theorem subA_comm (s s' : Nat) (c : AV) : subA s .any (subA s' .any c) = subA s' .any (subA s .any c) := by
 cases c with
 | t x => simp only [subA, subT_comm s s']
 | tup ys => simp only [subA, List.map_map]; congr 1; exact List.map_congr_left fun c _ => subT_comm s s' c
 | ptr x o => exact comm_gen (fun s => subA s .any) .any (.ptr x o) (fun s => x = s) (fun _ => rfl) (fun _ => rfl) s s'
 | eptr x z j q => exact comm_gen (fun s => subA s .any) .any (.eptr x z j q) (fun s => x = s) (fun _ => rfl) (fun _ => rfl) s s'
 | nptr x o => exact comm_gen (fun s => subA s .any) .any (.nptr x o) (fun s => x = s) (fun _ => rfl) (fun _ => rfl) s s'
 | nhd x o => exact comm_gen (fun s => subA s .any) .any (.nhd x o) (fun s => x = s) (fun _ => rfl) (fun _ => rfl) s s'
 | nelp x j q => exact comm_gen (fun s => subA s .any) .any (.nelp x j q) (fun s => x = s) (fun _ => rfl) (fun _ => rfl) s s'
 | fn g caps => exact comm_gen (fun s => subA s .any) .any (.fn g caps) (fun s => (caps.map (·.1)).contains s = true) (fun _ => rfl) (fun _ => rfl) s s'
 | _ => rfl
theorem subK_comm (s s' : Nat) (c : Content) : subK s .any (subK s' .any c) = subK s' .any (subK s .any c) := by
 cases c with
 | box t cs => simp only [subK, List.map_map]; congr 1; exact List.map_congr_left fun c _ => subC_comm s s' c
 | _ => rfl
def quietT (D : Dat) (t : Nat) (av : AV) : Bool := (D.dst != some t) && match D.sub with
 | some s => fullA av && !av.sites.contains s
 | none => true
def quietH (D : Dat) (k : Nat) (c : Option Content) : Bool := !D.keys.contains k && match D.sub with
 | some s => k != s && match c with
   | some c => fullK c && !c.sites.contains s
   | none => true
 | none => true
def calm (D E : Dat) : Bool := E.rT.all (fun p => quietT D p.1 p.2) && E.rH.all fun p => quietH D p.1 p.2
def clearOf (s : Option Nat) (E : Dat) : Bool := match s with
 | some s => !E.av.sites.contains s && (!E.keys.contains s && E.news.all fun p => !p.2.sites.contains s)
 | none => true
def apart (D E : Dat) : Bool := (match D.dst, E.dst with
 | some a, some b => a != b
 | _, _ => true) && (D.keys.all (fun k => !E.keys.contains k) && (clearOf D.sub E && clearOf E.sub D))
def compat (D E : Dat) : Bool := calm D E && (calm E D && apart D E)
theorem quietT_iff {D : Dat} {t : Nat} {av x : AV} (h : quietT D t av = true) : D.dst ≠ some t ∧ (subT' D.sub x = av ↔ x = av) := by
 unfold quietT at h
 simp only [Bool.and_eq_true, bne_iff_ne, ne_eq] at h
 obtain ⟨h1, h2⟩ := h
 refine ⟨h1, ?_⟩
 unfold subT'
 cases hs : D.sub with
 | none => exact Iff.rfl
 | some s =>
   rw [hs] at h2
   simp only [Bool.and_eq_true, Bool.not_eq_true'] at h2
   obtain ⟨h3, h4⟩ := h2
   have h4 : s ∉ av.sites := fun hm => by rw [List.contains_iff_mem.2 hm] at h4; cases h4
   refine ⟨fun e => ?_, fun e => by subst e; exact subA_of h4⟩
   have := subA_full (s := s) (c := x) (by simp only at e; rw [e]; exact h3)
   simp only at e
   rwa [subA_of this] at e
theorem quietH_iff {D : Dat} {k : Nat} {c x : Option Content} (h : quietH D k c = true) : D.news.lookup k = none ∧ (subH' D.sub k x = c ↔ x = c) := by
 unfold quietH at h
 simp only [Bool.and_eq_true, Bool.not_eq_true'] at h
 obtain ⟨h1, h2⟩ := h
 refine ⟨keys_not h1, ?_⟩
 unfold subH'
 cases hs : D.sub with
 | none => exact Iff.rfl
 | some s =>
   rw [hs] at h2
   simp only [Bool.and_eq_true, bne_iff_ne, ne_eq] at h2
   obtain ⟨h3, h4⟩ := h2
   simp only
   rw [if_neg h3]
   cases c with
   | none => exact ⟨fun e => (by cases x with | none => rfl | some y => cases e), fun e => (by rw [e]; rfl)⟩
   | some c =>
     simp only [Bool.and_eq_true, Bool.not_eq_true'] at h4
     obtain ⟨h5, h6⟩ := h4
     have h6 : s ∉ c.sites := fun hm => by rw [List.contains_iff_mem.2 hm] at h6; cases h6
     refine ⟨fun e => ?_, fun e => by rw [e]; exact congrArg some (subK_of h6)⟩
     cases x with
     | none => cases e
     | some y =>
       have e : subK s .any y = c := Option.some.inj e
       have := subK_full (s := s) (c := y) (by rw [e]; exact h5)
       rw [subK_of this] at e
       rw [e]
theorem calm_iff {D E : Dat} (h : calm D E = true) (S : FS) : E.V (D.F S) ↔ E.V S := by
 unfold calm at h
 rw [Bool.and_eq_true] at h
 obtain ⟨h1, h2⟩ := h
 unfold Dat.V
 refine and_congr (forall_congr' fun p => forall_congr' fun hp => ?_) (forall_congr' fun p => forall_congr' fun hp => ?_)
 ·obtain ⟨q1, q2⟩ := quietT_iff (x := S.T p.1) (List.all_eq_true.1 h1 p hp)
  rw [F_T, if_neg q1]
  exact q2
 ·obtain ⟨q1, q2⟩ := quietH_iff (x := S.H p.1) (List.all_eq_true.1 h2 p hp)
  rw [F_H, q1]
  exact q2
theorem clear_of {s : Option Nat} {E : Dat} (h : clearOf s E = true) : subT' s E.av = E.av ∧ ∀ k c, E.news.lookup k = some c → subH' s k (some c) = some c := by
 unfold clearOf at h
 cases s with
 | none => exact ⟨rfl, fun _ _ _ => rfl⟩
 | some s =>
   simp only [Bool.and_eq_true, Bool.not_eq_true', List.all_eq_true] at h
   obtain ⟨h1, h2, h3⟩ := h
   refine ⟨subA_of (fun hm => by rw [List.contains_iff_mem.2 hm] at h1; cases h1), fun k c hk => ?_⟩
   unfold subH'
   simp only
   rw [if_neg, Option.map_some, subK_of]
   ·intro hm
    have := h3 _ (lookup_mem hk)
    rw [List.contains_iff_mem.2 hm] at this
    cases this
   ·intro e
    subst e
    rw [keys_not h2] at hk
    cases hk
theorem F_comm {D E : Dat} (h : apart D E = true) (S : FS) : E.F (D.F S) = D.F (E.F S) := by
 unfold apart at h
 simp only [Bool.and_eq_true] at h
 obtain ⟨h1, h2, h3, h4⟩ := h
 obtain ⟨a1, a2⟩ := clear_of h3
 obtain ⟨b1, b2⟩ := clear_of h4
 have hT : ∀ t, (E.F (D.F S)).T t = (D.F (E.F S)).T t := fun t => by
  rw [F_T, F_T, F_T, F_T]
  by_cases e1 : E.dst = some t
  ·by_cases e2 : D.dst = some t
   ·rw [e1, e2] at h1
    simp at h1
   ·rw [if_pos e1, if_neg e2, if_pos e1, a1]
  ·by_cases e2 : D.dst = some t
   ·rw [if_neg e1, if_pos e2, if_pos e2, b1]
   ·rw [if_neg e1, if_neg e2, if_neg e2, if_neg e1]
    unfold subT'
    cases D.sub <;> cases E.sub <;> first | rfl | exact subA_comm _ _ _
 have hdis : ∀ k c c', D.news.lookup k = some c → E.news.lookup k = some c' → False := fun k c c' hc hc' => by
  have := List.all_eq_true.1 h2 k (List.mem_append_left _ (List.mem_map.2 ⟨_, lookup_mem hc, rfl⟩))
  have h5 : E.keys.contains k = true := List.contains_iff_mem.2 (List.mem_append_left _ (List.mem_map.2 ⟨_, lookup_mem hc', rfl⟩))
  rw [h5] at this
  cases this
 have hH : ∀ k, (E.F (D.F S)).H k = (D.F (E.F S)).H k := fun k => by
  rw [F_H, F_H, F_H, F_H]
  cases hd : D.news.lookup k with
  | some c =>
    cases he : E.news.lookup k with
    | some c' => exact (hdis k c c' hd he).elim
    | none => exact b2 k c hd
  | none =>
    cases he : E.news.lookup k with
    | some c' => exact (a2 k c' he).symm
    | none =>
      show subH' E.sub k (subH' D.sub k (S.H k)) = subH' D.sub k (subH' E.sub k (S.H k))
      unfold subH'
      cases hsd : D.sub with
      | none => rfl
      | some s =>
        cases hse : E.sub with
        | none => rfl
        | some s' =>
          simp only
          by_cases e1 : k = s
          ·rw [if_pos e1]
           by_cases e2 : k = s'
           ·rw [if_pos e2, if_pos e1]
           ·rw [if_neg e2, if_pos e1]; rfl
          ·rw [if_neg e1]
           by_cases e2 : k = s'
           ·rw [if_pos e2, if_neg e1]; rw [if_pos e2]; rfl
           ·rw [if_neg e2, if_neg e1, if_neg e2]
            cases S.H k with
            | none => rfl
            | some c => exact congrArg some (subK_comm s' s c)
 have ext : ∀ A B : FS, A.T = B.T → A.H = B.H → A = B := fun A B h1 h2 => by cases A; cases B; simp only at h1 h2; rw [h1, h2]
 exact ext _ _ (funext hT) (funext hH)
structure It where
 i : Nat
 V : FS → Prop
 F : FS → FS
def Comp (x y : It) : Prop := (∀ S, x.V (y.F S) ↔ x.V S) ∧ (∀ S, y.V (x.F S) ↔ y.V S) ∧ ∀ S, y.F (x.F S) = x.F (y.F S)
section
variable (P) (w0 : Base) (N : Nat) (ops : Array Oper)
def Runs : List It → FS → FS → Prop
 | [], S, Sf => S = Sf
 | x :: l, S, Sf => x.V S ∧ (∀ S1, x.V S1 → FixOk P w0 N ops x.i S1 (x.F S1)) ∧ Runs l (x.F S) Sf
def LX (l : List Nat) (S Sf : FS) : Prop := ∃ its : List It, its.map It.i = l ∧ Runs P w0 N ops its S Sf ∧ its.Pairwise fun x y => TC ops x.i y.i ∨ Comp x y
end
theorem Runs.pull {w0 : Base} {N : Nat} {ops : Array Oper} {x : It} {l2 : List It} {Sf : FS} : ∀ (l1 : List It) (S : FS), Runs P w0 N ops (l1 ++ x :: l2) S Sf → (∀ y ∈ l1, Comp y x) → x.V S ∧ (∀ S1, x.V S1 → FixOk P w0 N ops x.i S1 (x.F S1)) ∧ Runs P w0 N ops (l1 ++ l2) (x.F S) Sf
 | [], S, h, hc => h
 | y :: l1, S, h, hc => by
   obtain ⟨h1, h2, h3⟩ := h
   obtain ⟨c1, c2, c3⟩ := hc y (by simp)
   obtain ⟨q1, q2, q3⟩ := Runs.pull l1 _ h3 (fun z hz => hc z (List.mem_cons_of_mem _ hz))
   exact ⟨(c2 S).1 q1, q2, (c1 S).2 h1, h2, by rw [← c3]; exact q3⟩
theorem LX.nil {w0 : Base} {N : Nat} {ops : Array Oper} (S Sf : FS) (h : LX P w0 N ops [] S Sf) : S = Sf := by
 obtain ⟨its, h1, h2, _⟩ := h
 have : its = [] := by simpa using h1
 subst this
 exact h2
theorem LX.pull {w0 : Base} {N : Nat} {ops : Array Oper} (i : Nat) (l1 l2 : List Nat) (S Sf : FS) (h : LX P w0 N ops (l1 ++ i :: l2) S Sf) (hj : ∀ j ∈ l1, j < i ∧ ¬ TC ops j i) : ∃ S1, FixOk P w0 N ops i S S1 ∧ LX P w0 N ops (l1 ++ l2) S1 Sf := by
 obtain ⟨its, h1, h2, h3⟩ := h
 obtain ⟨a, b, rfl, ha, hb⟩ := List.map_eq_append_iff.1 h1
 obtain ⟨x, b, rfl, hx, hb⟩ := List.map_eq_cons_iff.1 hb
 have hcomp : ∀ y ∈ a, Comp y x := fun y hy => by
  have h4 := (List.pairwise_append.1 h3).2.2 y hy x (by simp)
  rcases h4 with h4 | h4
  ·rw [hx] at h4
   exact absurd h4 (hj y.i (by rw [← ha]; exact List.mem_map.2 ⟨y, hy, rfl⟩)).2
  ·exact h4
 obtain ⟨q1, q2, q3⟩ := Runs.pull a S h2 hcomp
 refine ⟨x.F S, by have := q2 S q1; rwa [hx] at this, a ++ b, by rw [List.map_append, ha, hb], q3, ?_⟩
 exact h3.sublist (List.Sublist.append (List.Sublist.refl a) (List.sublist_cons_self x b))
def opT (ops : Array Oper) (o : Oper) : List Nat := (o.op.operands.toList.filterMap fun
 | .tmp t => some t
 | _ => none) ++ match o.guard with
 | some (j, _) => match (ops[j]?).bind (·.dst) with
   | some t => [t]
   | none => []
 | none => []
def hvC' : CV → List Nat
 | .hv _ (.pointer _) => []
 | .hv s _ => [s]
 | _ => []
def hvA' : AV → List Nat
 | .t (.c c) => hvC' c
 | .t (.agg xs) => xs.flatMap hvC'
 | _ => []
def looks : Op → AV → List Nat
 | .move _, av => hvA' av
 | .assign _, av => hvA' av
 | .nilCheck _, av => hvA' av
 | .fieldAddr _ _ _, av => hvA' av
 | _, av => av.sites
def viewT (S : FS) (l : List Nat) : List (Nat × AV) := l.map fun t => (t, S.T t)
def viewS1 (S : FS) (op : Op) (l : List Nat) : List Nat := l.flatMap fun t => looks op (S.T t)
def viewS2 (S : FS) (l : List Nat) : List Nat := l.flatMap fun s => match S.H s with
 | some k => k.sites
 | none => []
def viewH (S : FS) (l : List Nat) : List (Nat × Option Content) := l.map fun s => (s, S.H s)
def seen (rT : List (Nat × AV)) (rH : List (Nat × Option Content)) : FS := ⟨look rT, fun s => match rH.lookup s with
 | some c => c
 | none => none⟩
def nilA : AV → Bool
 | .t (.c (.p _ (.sc (.slice none 0 0)))) => true
 | _ => false
def aftRow (d sid : Nat) (c : Content) : List (Orc P) → Option (List Prop × List (Orc P) × Content)
 | .aft d' :: .row s n g :: r => if d' = d ∧ s = sid then match c with
    | .row e z n' g' fr => some ([GE n' g' n g], r, .row e z n g fr)
    | _ => none
   else none
 | _ => none
def decQ (d : Nat) (av : AV) : List (Orc P) → Option (List Prop × List (Orc P) × AV)
 | .dec d' v :: r => if d' = d then match scOf av with
    | some (.bool b) => some ([b = v], r, scv (.bool v))
    | _ => none
   else some ([], .dec d' v :: r, av)
 | l => some ([], l, av)
def aftN (d sid : Nat) (c : Content) : List (Orc P) → Option (List Prop × List (Orc P) × Content)
 | .aft d' :: .rowN s n m g :: r => if d' = d ∧ s = sid then match c with
    | .nest e ei n' m' g' => some ([GEN n' m' g' n m g], r, .nest e ei n m g)
    | _ => none
   else none
 | _ => none
def litEff (P : Program) (o : Oper) (Sr : FS) (orc : List (Orc P)) : Option (List Prop × List (Orc P) × Option Nat × AV × List (Nat × Content) × List Nat) :=
 match litQ P o Sr.H Sr.ev with
 | some (obs, d, q, c) => match aftN d (siteOf d 0) c orc with
   | some (ob2, orc2, c') => some (obs ++ ob2, orc2, some q, .t (.c (.hn (siteOf d 0))), [(siteOf d 0, c')], [siteOf d 0])
   | none => none
 | none => none
def freeEff (P : Program) (ops : Array Oper) (o : Oper) (Sr : FS) (orc : List (Orc P)) : Option (List Prop × List (Orc P) × Option Nat × AV × List (Nat × Content) × List Nat) :=
 match wantedS ops o Sr.T with
 | some false => some ([], orc, none, .tup [], [], [])
 | none => none
 | some true => match kindOf o.op with
   | .store t x y => match o.dst, Sr.ev x, cellsOf (Sr.ev y), P.info? t with
     | none, .ptr s off, some xs, some i => match Sr.H s with
       | some (.box t' cs) => if xs.length = i.size ∧ off + xs.length ≤ cs.length then some ([], orc, none, .any, [(s, .box t' (splice cs off xs))], []) else none
       | _ => none
     | _, _, _, _ => none
   | .append t x y => if nilA (Sr.ev y) then none else match evAppend P t (Sr.ev x) (Sr.ev y) Sr with
     | some (obs, sid, S') => match S'.H sid with
       | some c => match aftRow (o.dst.getD 999999) sid c orc with
         | some (ob2, orc2, c') => some (obs ++ ob2, orc2, some sid, .t (.c (.h sid)), [(sid, c')], [])
         | none => none
       | none => none
     | none => none
   | .call f args => match orc with
     | .callQ C :: orc1 => match qStep Sr.ev Sr C f args (o.dst.getD 999999) with
       | some (obs, s, c, E) => if (E.news.lookup s).isNone then match decQ (o.dst.getD 999999) E.av orc1 with
          | some (ob2, orc2, av) => some (obs ++ ob2, orc2, none, av, (s, c) :: E.news, E.news.map Prod.fst)
          | none => none
         else none
       | none => none
     | _ => match o.dst with
       | some d => match effOf P o d Sr orc with
         | some (ob1, orc1, E) => match decOf d E orc1 with
           | some (ob2, orc2, E') => some (ob1 ++ ob2, orc2, none, E'.av, E'.news, E'.news.map Prod.fst)
           | none => none
         | none => none
       | none => none
   | _ => match o.dst with
      | some d => match effOf P o d Sr orc with
        | some (ob1, orc1, E) => match decOf d E orc1 with
          | some (ob2, orc2, E') => some (ob1 ++ ob2, orc2, none, E'.av, E'.news, E'.news.map Prod.fst)
          | none => none
        | none => litEff P o Sr orc
      | none => none
def fixedOk (tab : List Nat) (n i : Nat) : Bool := (List.range i).all (fun j => (tab.getD i 0).testBit j) && (List.range n).all fun j => decide (j ≤ i) || (tab.getD j 0).testBit i
section
variable {α : Type}
def forceC (c : CV) (k : CV → α) : α := match c with
 | .any => k .any
 | .p f x => k (.p f x)
 | .h s => k (.h s)
 | .hn s => k (.hn s)
 | .hv s x => k (.hv s x)
theorem forceC_eq (c : CV) (k : CV → α) : forceC c k = k c := by cases c <;> rfl
def forceCs : List CV → (List CV → α) → α
 | [], k => k []
 | c :: cs, k => forceC c fun c => forceCs cs fun cs => k (c :: cs)
theorem forceCs_eq : ∀ (cs : List CV) (k : List CV → α), forceCs cs k = k cs
 | [], k => rfl
 | c :: cs, k => by rw [forceCs, forceC_eq, forceCs_eq cs]
def forceA (av : AV) (k : AV → α) : α := match av with
 | .any => k .any
 | .t (.c c) => forceC c fun c => k (.t (.c c))
 | .t (.agg xs) => forceCs xs fun xs => k (.t (.agg xs))
 | .tup ys => k (.tup ys)
 | .ptr s o => k (.ptr s o)
 | .eptr s z j q => k (.eptr s z j q)
 | .bptr f e => k (.bptr f e)
 | .fn g c => k (.fn g c)
 | .bfn g c => k (.bfn g c)
 | .nptr s j => k (.nptr s j)
 | .nhd s j => k (.nhd s j)
 | .nelp s j q => k (.nelp s j q)
theorem forceA_eq (av : AV) (k : AV → α) : forceA av k = k av := by
 cases av with
 | t x => cases x with
   | c c => exact forceC_eq c fun c => k (.t (.c c))
   | agg xs => exact forceCs_eq xs fun xs => k (.t (.agg xs))
 | _ => rfl
def forceK (c : Content) (k : Content → α) : α := match c with
 | .box t cs => forceCs cs fun cs => k (.box t cs)
 | .row e z n g f => k (.row e z n g f)
 | .iter s p => k (.iter s p)
 | .nest e ei n m g => k (.nest e ei n m g)
 | .set P kt bt n l => k (.set P kt bt n l)
theorem forceK_eq (c : Content) (k : Content → α) : forceK c k = k c := by
 cases c with
 | box t cs => exact forceCs_eq cs fun cs => k (.box t cs)
 | _ => rfl
def forceT (S : FS) : List Nat → (List (Nat × AV) → α) → α
 | [], k => k []
 | t :: l, k => forceA (S.T t) fun av => forceT S l fun r => k ((t, av) :: r)
theorem forceT_eq (S : FS) : ∀ (l : List Nat) (k : List (Nat × AV) → α), forceT S l k = k (viewT S l)
 | [], k => rfl
 | t :: l, k => by rw [forceT, forceA_eq, forceT_eq S l]; rfl
def forceH (S : FS) : List Nat → (List (Nat × Option Content) → α) → α
 | [], k => k []
 | s :: l, k => match S.H s with
   | none => forceH S l fun r => k ((s, none) :: r)
   | some c => forceK c fun c => forceH S l fun r => k ((s, some c) :: r)
theorem forceH_eq (S : FS) : ∀ (l : List Nat) (k : List (Nat × Option Content) → α), forceH S l k = k (viewH S l)
 | [], k => rfl
 | s :: l, k => by
   unfold forceH
   cases h : S.H s with
   | none => simp only; rw [forceH_eq S l]; unfold viewH; rw [List.map_cons, h]
   | some c => simp only; rw [forceK_eq, forceH_eq S l]; unfold viewH; rw [List.map_cons, h]
def forceN : List (Nat × Content) → (List (Nat × Content) → α) → α
 | [], k => k []
 | (s, c) :: l, k => forceK c fun c => forceN l fun r => k ((s, c) :: r)
theorem forceN_eq : ∀ (l : List (Nat × Content)) (k : List (Nat × Content) → α), forceN l k = k l
 | [], k => rfl
 | (s, c) :: l, k => by rw [forceN, forceK_eq, forceN_eq l]
end
def freeDat (P : Program) (ops : Array Oper) (o : Oper) (S : FS) (orc : List (Orc P)) : Option (List Prop × List (Orc P) × Dat) :=
 forceT S (opT ops o) fun rT => forceH S (viewS1 S o.op (opT ops o) ++ viewS2 S (viewS1 S o.op (opT ops o))) fun rH =>
 match freeEff P ops o (seen rT rH) orc with
 | some (obs, orc', sub, av, news, fresh) => if fresh.all (fun k => (S.H k).isNone) then forceA av fun av => forceN news fun news => some (obs, orc', ⟨rT, rH ++ fresh.map fun k => (k, none), sub, o.dst, av, news⟩) else none
 | none => none
def okWith (tab : List Nat) (i : Nat) (D : Dat) (acc : List (Nat × Dat)) : Bool := acc.all fun p => (tab.getD i 0).testBit p.1 || compat p.2 D
def evDraw (P : Program) (N : Nat) (ops : Array Oper) (tab : List Nat) : List Oper → Nat → FS → List (Orc P) → List (Nat × Dat) → Option (List Prop × List (Orc P) × FS)
 | [], _, S, orc, _ => some ([], orc, S)
 | o :: rest, i, S, orc, acc => if dstOk N o.dst then
    if fixedOk tab ops.size i then match beforeOp o S orc with
     | some (ob1, orc1, S1) => match wantedS ops o S1.T with
       | some true => match opStep P o S1 orc1 with
         | some (ob2, orc2, S2) => match afterOp o S2 orc2 with
           | some (ob3, orc3, S3) => match evDraw P N ops tab rest (i + 1) S3 orc3 acc with
             | some (ob4, orc4, S4) => some (ob1 ++ (ob2 ++ (ob3 ++ ob4)), orc4, S4)
             | none => none
           | none => none
         | none => none
       | some false => match evDraw P N ops tab rest (i + 1) (S1.put o.dst (.tup [])) orc1 acc with
         | some (ob4, orc4, S4) => some (ob1 ++ ob4, orc4, S4)
         | none => none
       | none => none
     | none => none
    else match freeDat P ops o S orc with
     | some (ob1, orc1, D) => if okWith tab i D acc then match evDraw P N ops tab rest (i + 1) (D.F S) orc1 ((i, D) :: acc) with
        | some (ob2, orc2, S2) => some (ob1 ++ ob2, orc2, S2)
        | none => none
       else none
     | none => none
   else none
theorem effOf_ok {w0 : Base} {N : Nat} {o : Oper} {d : Nat} {Sr S1 : FS} {orc orc' : List (Orc P)} {obs : List Prop} {E : Eff} {σ : Sig} {a : Act} {w : World} (h : effOf P o d Sr orc = some (obs, orc', E)) (ho : All obs)
  (hev : ∀ x, RepA w0.base w σ (Sr.ev x) (a.eval x)) (hH : ∀ s c, Sr.H s = some c → ∃ v, σ s = some v ∧ SiteOk w0.base w σ v c) (hr : Rel w0 N S1 σ a w) (hf : ∀ s, E.news.lookup s ≠ none → S1.H s = none) : EffOk P w0.base o E σ a w := by
 have hfree : ∀ s, E.news.lookup s ≠ none → σ s = none := fun s hs => hr.dom s (hf s hs)
 unfold effOf at h
 split at h
 ·rename_i f args hk
  obtain ⟨ts, hop⟩ := kindOf_call hk
  split at h
  ·rename_i C orc''
   split at h
   ·split at h
    ·rename_i g caps hg
     split at h
     ·rename_i obs' hfit
      simp only [Option.some.injEq, Prod.mk.injEq] at h
      obtain ⟨rfl, rfl, rfl⟩ := h
      obtain ⟨e, ho2⟩ := All.cons.1 ho
      exact call_eff hop hev hH (by rw [hg, e]) hfit ho2 hr.based (fun b hb => (hr.live hb).2) hfree
     ·cases h
    ·cases h
   ·cases h
  ·cases h
 ·split at h
  ·rename_i obs' E' he
   split at h
   ·simp only [Option.some.injEq, Prod.mk.injEq] at h
    obtain ⟨rfl, rfl, rfl⟩ := h
    exact evOp_ok he ho hev hH hr.based hfree
   ·cases h
  ·split at h
   ·rename_i obs' av he
    simp only [Option.some.injEq, Prod.mk.injEq] at h
    obtain ⟨rfl, rfl, rfl⟩ := h
    exact nOther_ok hH hev he ho
   ·cases h
 ·cases h
theorem decOf_ok {d : Nat} {E E' : Eff} {orc orc' : List (Orc P)} {obs : List Prop} (h : decOf d E orc = some (obs, orc', E')) (ho : All obs) : (∀ s, E'.news.lookup s = none ↔ E.news.lookup s = none) ∧ ∀ base o σ a w, EffOk P base o E σ a w → EffOk P base o E' σ a w := by
 unfold decOf at h
 split at h
 ·split at h
  ·split at h
   ·rename_i b hb
    simp only [Option.some.injEq, Prod.mk.injEq] at h
    obtain ⟨rfl, rfl, rfl⟩ := h
    have hbv : b = _ := ho
    subst hbv
    refine ⟨fun _ => Iff.rfl, fun base o σ a w he Kk Q hK => he Kk Q fun v w' σ' hg hr => hK v w' σ' hg ?_⟩
    have := (scOf_rep hb hr).1
    subst this
    exact rep_scv rfl
   ·cases h
  ·simp only [Option.some.injEq, Prod.mk.injEq] at h; obtain ⟨_, _, rfl⟩ := h; exact ⟨fun _ => Iff.rfl, fun _ _ _ _ _ h => h⟩
 ·split at h
  ·split at h
   ·rename_i fr x hav
    simp only [Option.some.injEq, Prod.mk.injEq] at h
    obtain ⟨rfl, rfl, rfl⟩ := h
    refine ⟨fun _ => Iff.rfl, fun base o σ a w he Kk Q hK => he Kk Q fun v w' σ' hg hr => hK v w' σ' hg ?_⟩
    rw [hav] at hr
    exact ho _ _ _ hr
   ·cases h
  ·simp only [Option.some.injEq, Prod.mk.injEq] at h; obtain ⟨_, _, rfl⟩ := h; exact ⟨fun _ => Iff.rfl, fun _ _ _ _ _ h => h⟩
 ·split at h
  ·split at h
   ·rename_i s e z n' g' fr hn
    simp only [Option.some.injEq, Prod.mk.injEq] at h
    obtain ⟨rfl, rfl, rfl⟩ := h
    refine ⟨fun s' => ?_, fun base o σ a w he Kk Q hK => he Kk Q fun v w' σ' hg hr => hK v w' σ' (grow_retold ho (by rw [hn] at hg; exact hg)) hr⟩
    rw [hn]
    simp only [List.lookup_cons, List.lookup_nil]
    split <;> simp
   ·cases h
  ·simp only [Option.some.injEq, Prod.mk.injEq] at h; obtain ⟨_, _, rfl⟩ := h; exact ⟨fun _ => Iff.rfl, fun _ _ _ _ _ h => h⟩
 ·simp only [Option.some.injEq, Prod.mk.injEq] at h; obtain ⟨_, _, rfl⟩ := h; exact ⟨fun _ => Iff.rfl, fun _ _ _ _ _ h => h⟩
theorem seen_T {S : FS} {rT : List (Nat × AV)} {rH : List (Nat × Option Content)} (h : ∀ p ∈ rT, S.T p.1 = p.2) (t : Nat) : (seen rT rH).T t = .any ∨ (seen rT rH).T t = S.T t := by
 show look rT t = .any ∨ look rT t = S.T t
 unfold look
 cases hl : rT.lookup t with
 | none => exact .inl rfl
 | some av => exact .inr (h _ (lookup_mem hl)).symm
theorem seen_H {S : FS} {rT : List (Nat × AV)} {rH : List (Nat × Option Content)} (h : ∀ p ∈ rH, S.H p.1 = p.2) (s : Nat) (c : Content) (hc : (seen rT rH).H s = some c) : S.H s = some c := by
 have hc : (match rH.lookup s with | some c => c | none => none) = some c := hc
 cases hl : rH.lookup s with
 | none => rw [hl] at hc; cases hc
 | some k =>
   rw [hl] at hc
   simp only at hc
   rw [h _ (lookup_mem hl)]
   exact hc
section
variable {w0 : Base} {N : Nat} {S1 Sr : FS} {σ : Sig} {a : Act} {w : World}
theorem low_sites (hH : ∀ s c, Sr.H s = some c → S1.H s = some c) (h : Rel w0 N S1 σ a w) : ∀ s c, Sr.H s = some c → ∃ v, σ s = some v ∧ SiteOk w0.base w σ v c := fun s c hs => h.sites s c (hH s c hs)
theorem low_T (hT : ∀ t, Sr.T t = .any ∨ Sr.T t = S1.T t) (h : Rel w0 N S1 σ a w) (t : Nat) : RepA w0.base w σ (Sr.T t) (a.tmps.getD t undef) := by
 rcases hT t with e | e
 ·rw [e]; trivial
 ·rw [e]; exact h.tmps t
theorem low_ev (hT : ∀ t, Sr.T t = .any ∨ Sr.T t = S1.T t) (hH : ∀ s c, Sr.H s = some c → S1.H s = some c) (h : Rel w0 N S1 σ a w) (x : Operand) : RepA w0.base w σ (Sr.ev x) (a.eval x) := by
 cases x with
 | tmp t => exact unA_ok (low_sites hH h) (low_T hT h t)
 | const v => exact constAV_ok v
 | func f => exact h.ev (.func f)
 | global g => trivial
theorem Rel.reput {X : FS} {d : Option Nat} {av av' : AV} (h : Rel w0 N (X.put d av) σ a w) (hv : ∀ t, d = some t → RepA w0.base w σ av' (a.tmps.getD t undef)) : Rel w0 N (X.put d av') σ a w := by
 cases d with
 | none => exact h
 | some d =>
   refine ⟨h.below, h.size, h.defers, fun t => ?_, h.sites, h.dom, h.inj, h.prot⟩
   have h1 := h.tmps t
   simp only [FS.put, upd] at h1 ⊢
   by_cases e : t = d
   ·rw [if_pos e]; rw [e]; exact hv d rfl
   ·rw [if_neg e] at h1 ⊢; exact h1
end
theorem srcOf_low {Sr S1 : FS} (hH : ∀ s c, Sr.H s = some c → S1.H s = some c) {x : AV} {r : Nat × Nat × (Nat → List V) × Bool} (h : srcOf Sr x = some r) : srcOf S1 x = some r := by
 unfold srcOf at h ⊢
 split at h
 ·rename_i s
  split at h
  ·rename_i e z n g fr hs
   rw [hH _ _ hs]
   exact h
  ·cases h
 ·exact h
 ·cases h
theorem evAppend_low {Sr S1 S' : FS} (hH : ∀ s c, Sr.H s = some c → S1.H s = some c) {t : TypeId} {ax ay : AV} {obs : List Prop} {sid : Nat} (hn : nilA ay = false) (h : evAppend P t ax ay Sr = some (obs, sid, S')) :
  ∃ c, S'.H sid = some c ∧ evAppend P t ax ay S1 = some (obs, sid, S1.sub sid .any (some c)) := by
 unfold evAppend at h
 split at h
 ·rename_i e sid' hu
  split at h
  ·rename_i inf e' z n g fr hinf hs
   split at h
   ·rename_i hc
    split at h
    ·simp [nilA] at hn
    ·rename_i hx
     split at h
     ·rename_i z' n' g' fr' hsrc
      split at h
      ·rename_i hzz
       simp only [Option.some.injEq, Prod.mk.injEq] at h
       obtain ⟨rfl, rfl, rfl⟩ := h
       refine ⟨.row e z (n + n') (fun j => if j < n then g j else g' (j - n)) (fr && fr'), by simp [FS.sub, upd], ?_⟩
       unfold evAppend
       rw [hu]
       simp only
       rw [hinf, hH _ _ hs]
       simp only
       rw [if_pos hc]
       split
       ·rename_i heq
        rw [srcOf_low hH hsrc] at heq
        cases heq
        rw [if_pos hzz]
       ·rename_i heq
        rw [srcOf_low hH hsrc] at heq
        cases heq
      ·cases h
     ·cases h
   ·cases h
  ·cases h
 ·cases h
theorem F_none (S : FS) (dst : Option Nat) (av : AV) (news : List (Nat × Content)) (rT : List (Nat × AV)) (rH : List (Nat × Option Content)) : (Dat.F ⟨rT, rH, none, dst, av, news⟩ S) = (S.add news).put dst av := rfl
theorem litEff_ok {w0 : Base} {N : Nat} {o : Oper} {S1 Sr : FS} {orc orc' : List (Orc P)} {obs : List Prop} {sub : Option Nat} {av : AV} {news : List (Nat × Content)} {fresh : List Nat} {rT : List (Nat × AV)} {rH : List (Nat × Option Content)}
  (h : litEff P o Sr orc = some (obs, orc', sub, av, news, fresh)) (ho : All obs) (hdN : ∀ d, o.dst = some d → d < N) (hT : ∀ t, Sr.T t = .any ∨ Sr.T t = S1.T t) (hH : ∀ s c, Sr.H s = some c → S1.H s = some c) (hf : ∀ k ∈ fresh, S1.H k = none) {σ : Sig} {a : Act} {w : World} (hr : Rel w0 N S1 σ a w) :
  SeqOk P w0 N o (Dat.F ⟨rT, rH, sub, o.dst, av, news⟩ S1) a w := by
 unfold litEff at h
 split at h
 ·rename_i ob1 d q c hl
  split at h
  ·rename_i ob2 orc2 c' ha
   simp only [Option.some.injEq, Prod.mk.injEq] at h
   obtain ⟨rfl, rfl, rfl, rfl, rfl, rfl⟩ := h
   obtain ⟨ho1, ho2⟩ := All.append.1 ho
   obtain ⟨hn, hdst, hne⟩ := nLit_of (S := S1) hH hl
   have h0 : σ (siteOf d 0) = none := hr.dom _ (hf _ (by simp))
   intro Kk Q hK
   refine nLit_ok hr (fun d' e => by rw [hdst] at e; cases e; exact h0) (fun x => low_ev hT hH hr x) hn ho1 hdN Kk Q fun a' w' σ' hr' => ?_
   unfold aftN at ha
   split at ha
   ·rename_i d' s n m g r
    split at ha
    ·rename_i hds
     split at ha
     ·rename_i e ei n' m' g'
      simp only [Option.some.injEq, Prod.mk.injEq] at ha
      obtain ⟨rfl, rfl, rfl⟩ := ha
      obtain ⟨rfl, rfl⟩ := hds
      obtain ⟨v, hv, hsite⟩ := hr'.sites (siteOf d' 0) (.nest e ei n' m' g') (by simp [FS.mv, upd])
      refine hK a' w' σ' ?_
      have hs2 : ∀ σ2, SiteOk w0.base w' σ2 v (.nest e ei n m g) := fun _ => NestOk.re hsite ho2
      have hr2 := hr'.write hv (Below.refl _ _) (fun _ _ _ => rfl) (fun _ => hs2 _)
      have tmpS : ∀ t, siteOf d' 0 ∉ (S1.T t).sites := fun t hs => (hr.tmps t).known _ hs h0
      have boxS : ∀ k c, S1.H k = some c → ∀ t cs, c = .box t cs → siteOf d' 0 ∉ cs.flatMap CV.sites := fun k c hk t cs e hs => by
       subst e
       obtain ⟨v', hv', b, vs, _, _, _, _, hcs⟩ := hr.sites k _ hk
       obtain ⟨x, hx, hs⟩ := List.mem_flatMap.1 hs
       obtain ⟨j, hj, rfl⟩ := List.getElem_of_mem hx
       exact (hcs.2 j _ _ (List.getElem?_eq_getElem hj) (List.getElem?_eq_getElem (by rw [← hcs.1]; exact hj))).known _ hs h0
      have key : Dat.F ⟨rT, rH, some q, o.dst, .t (.c (.hn (siteOf d' 0))), [(siteOf d' 0, .nest e ei n m g)]⟩ S1 = ⟨((S1.put (some d') (.t (.c (.h (siteOf d' 0))))).mv q (siteOf d' 0) true (.nest e ei n' m' g')).T, upd ((S1.put (some d') (.t (.c (.h (siteOf d' 0))))).mv q (siteOf d' 0) true (.nest e ei n' m' g')).H (siteOf d' 0) (some (.nest e ei n m g))⟩ := by
       have ext : ∀ A B : FS, A.T = B.T → A.H = B.H → A = B := fun A B h1 h2 => by cases A; cases B; simp only at h1 h2; rw [h1, h2]
       refine ext _ _ (funext fun t => ?_) (funext fun k => ?_)
       ·rw [F_T, hdst]
        simp only [FS.mv, FS.put, upd, Option.some.injEq]
        by_cases e1 : t = d'
        ·rw [if_pos e1.symm, if_pos e1]
         simp only [mvA, mvT, mvC, if_neg (Ne.symm hne), if_true]
        ·rw [if_neg (fun h => e1 h.symm), if_neg e1]
         exact (mvA_sub (tmpS t)).symm
       ·rw [F_H]
        simp only [FS.mv, FS.put, upd, List.lookup_cons, List.lookup_nil]
        by_cases e1 : k = siteOf d' 0
        ·subst e1; simp
        ·have e2 : (k == siteOf d' 0) = false := by simpa using e1
         rw [e2]
         simp only [if_neg e1]
         unfold subH'
         simp only
         by_cases e3 : k = q
         ·rw [if_pos e3, if_pos e3]
         ·rw [if_neg e3, if_neg e3]
          cases hk : S1.H k with
          | none => rfl
          | some c => exact congrArg some (mvK_sub (boxS k c hk)).symm
      rw [key]
      exact hr2
     ·cases ha
    ·cases ha
   ·cases ha
  ·cases h
 ·cases h
theorem freeEff_ok {w0 : Base} {N i : Nat} {ops : Array Oper} {o : Oper} {S1 Sr : FS} {orc orc' : List (Orc P)} {obs : List Prop} {sub : Option Nat} {av : AV} {news : List (Nat × Content)} {fresh : List Nat} {rT : List (Nat × AV)} {rH : List (Nat × Option Content)} (hi : ops[i]? = some o)
  (h : freeEff P ops o Sr orc = some (obs, orc', sub, av, news, fresh)) (ho : All obs) (hdN : ∀ d, o.dst = some d → d < N) (hT : ∀ t, Sr.T t = .any ∨ Sr.T t = S1.T t) (hH : ∀ s c, Sr.H s = some c → S1.H s = some c) (hf : ∀ k ∈ fresh, S1.H k = none) :
  FixOk P w0 N ops i S1 (Dat.F ⟨rT, rH, sub, o.dst, av, news⟩ S1) := by
 intro σ a w hr Kk Q hK
 have wn : ∀ b, wantedS ops o Sr.T = some b → Region.wanted o (yielded ops a.tmps) = b := fun b hw => wantedS_ok hw (fun t => low_T hT hr t)
 have eff : ∀ (d : Nat) (hd : o.dst = some d) (ob1 ob2 : List Prop) (orc1 orc2 : List (Orc P)) (E E' : Eff), effOf P o d Sr orc = some (ob1, orc1, E) → decOf d E orc1 = some (ob2, orc2, E') → obs = ob1 ++ ob2 → news = E'.news → av = E'.av → sub = none → fresh = E'.news.map Prod.fst → wantedS ops o Sr.T = some true → wpOp P ops Q i Kk a w := by
  intro d hd ob1 ob2 orc1 orc2 E E' h1 h2 e1 e2 e3 e4 e5 hw
  subst e1 e2 e3 e4 e5
  obtain ⟨ho1, ho2⟩ := All.append.1 ho
  obtain ⟨hnews, hdec⟩ := decOf_ok h2 ho2
  have hfr : ∀ s, E'.news.lookup s ≠ none → S1.H s = none := fun s hs => by
   obtain ⟨c, hc⟩ := Option.ne_none_iff_exists'.1 hs
   exact hf s (List.mem_map.2 ⟨_, lookup_mem hc, rfl⟩)
  unfold wpOp
  rw [hi]
  simp only
  rw [if_pos (wn true hw)]
  left
  have heff := hdec _ _ _ _ _ (effOf_ok h1 ho1 (fun x => low_ev hT hH hr x) (low_sites hH hr) hr (fun s hs => hfr s (fun e => hs ((hnews s).1 e))))
  refine hr.eff heff hfr hdN Kk Q fun a' w' σ' hr' => hK a' w' σ' ?_
  rw [F_none]
  exact hr'
 unfold freeEff at h
 split at h
 ·rename_i hw
  simp only [Option.some.injEq, Prod.mk.injEq] at h
  obtain ⟨rfl, rfl, rfl, rfl, rfl, rfl⟩ := h
  unfold wpOp
  rw [hi]
  simp only
  rw [if_neg (by rw [wn false hw]; simp)]
  refine hK _ w σ ?_
  rw [F_none]
  have : S1.add [] = S1 := by unfold FS.add; simp
  rw [this]
  exact hr.put hdN rep_undef
 ·cases h
 ·rename_i hw
  split at h
  ·rename_i t x y hk
   split at h
   ·rename_i s off xs inf hd hx hy hinf
    split at h
    ·rename_i t' cs hs
     split at h
     ·rename_i hc
      simp only [Option.some.injEq, Prod.mk.injEq] at h
      obtain ⟨rfl, rfl, rfl, rfl, rfl, rfl⟩ := h
      unfold wpOp
      rw [hi]
      simp only
      rw [if_pos (wn true hw)]
      left
      have hst : evStore P t (.ptr s off) xs S1 = some ⟨S1.T, upd S1.H s (some (.box t' (splice cs off xs)))⟩ := by
       unfold evStore
       rw [hinf]
       simp only
       rw [if_pos hc.1, hH _ _ hs]
       simp only
       rw [if_pos hc.2]
      have hrx := low_ev hT hH hr x
      rw [hx] at hrx
      refine evStore_ok (kindOf_store hk) hd hr hrx (cellsOf_rep hy (low_ev hT hH hr y)) hst Kk Q (fun a' w' σ' hr' => hK a' w' σ' ?_)
      rw [F_none, hd]
      have : (⟨S1.T, upd S1.H s (some (.box t' (splice cs off xs)))⟩ : FS) = (S1.add [(s, .box t' (splice cs off xs))]).put none .any := by
       unfold FS.put FS.add
       simp only
       congr 1
       funext s'
       simp only [upd, List.lookup_cons, List.lookup_nil]
       by_cases e1 : s' = s
       ·subst e1; simp
       ·have : (s' == s) = false := by simpa using e1
        rw [this, if_neg e1]
      rw [this] at hr'
      exact hr'
     ·cases h
    ·cases h
   ·cases h
  ·rename_i t x y hk
   split at h
   ·cases h
   ·rename_i hn
    split at h
    ·rename_i ob1 sid S' hs
     split at h
     ·rename_i c hc
      split at h
      ·rename_i ob2 orc2 c' ha
       simp only [Option.some.injEq, Prod.mk.injEq] at h
       obtain ⟨rfl, rfl, rfl, rfl, rfl, rfl⟩ := h
       obtain ⟨ho1, ho2⟩ := All.append.1 ho
       obtain ⟨c0, hc0, hap⟩ := evAppend_low hH (by simpa using hn) hs
       rw [hc] at hc0
       cases hc0
       unfold aftRow at ha
       split at ha
       ·rename_i d' s n g r
        split at ha
        ·rename_i hds
         split at ha
         ·rename_i e z n' g' fr
          simp only [Option.some.injEq, Prod.mk.injEq] at ha
          obtain ⟨rfl, rfl, rfl⟩ := ha
          obtain ⟨rfl, rfl⟩ := hds
          unfold wpOp
          rw [hi]
          simp only
          rw [if_pos (wn true hw)]
          left
          refine evAppend_ok (kindOf_append hk) hr (low_ev hT hH hr x) (low_ev hT hH hr y) hap ho1 hdN Kk Q (fun a' w' σ' hr' => ?_)
          have hHs : ((S1.sub s .any (some (.row e z n' g' fr))).put o.dst (.t (.c (.h s)))).H s = some (.row e z n' g' fr) := by cases o.dst <;> simp [FS.put, FS.sub, upd]
          have hpre : pre ((S1.sub s .any (some (.row e z n' g' fr))).put o.dst (.t (.c (.h s)))) [(Orc.row s n g : Orc P)] = some ([GE n' g' n g], [], ⟨((S1.sub s .any (some (.row e z n' g' fr))).put o.dst (.t (.c (.h s)))).T, upd ((S1.sub s .any (some (.row e z n' g' fr))).put o.dst (.t (.c (.h s)))).H s (some (.row e z n g fr))⟩) := by
           simp only [pre, hHs]
          obtain ⟨σ2, hr2⟩ := pre_ok hpre ho2 hr'
          refine hK a' w' σ2 ?_
          have : Dat.F ⟨rT, rH, some s, o.dst, .t (.c (.h s)), [(s, .row e z n g fr)]⟩ S1 = ⟨((S1.sub s .any (some (.row e z n' g' fr))).put o.dst (.t (.c (.h s)))).T, upd ((S1.sub s .any (some (.row e z n' g' fr))).put o.dst (.t (.c (.h s)))).H s (some (.row e z n g fr))⟩ := by
           have key : ∀ s', ((S1.sub s .any none).add [(s, .row e z n g fr)]).H s' = upd (S1.sub s .any (some (.row e z n' g' fr))).H s (some (.row e z n g fr)) s' := fun s' => by
            unfold FS.add FS.sub
            simp only [List.lookup_cons, List.lookup_nil, upd]
            by_cases e1 : s' = s
            ·subst e1; simp
            ·have : (s' == s) = false := by simpa using e1
             rw [this]
             simp only [if_neg e1]
           unfold Dat.F subO FS.put
           cases o.dst <;> exact congrArg (FS.mk _) (funext key)
          rw [this]
          exact hr2
         ·cases ha
        ·cases ha
       ·cases ha
      ·cases h
     ·cases h
    ·cases h
  ·rename_i f args hk
   obtain ⟨ts, hop⟩ := kindOf_call hk
   split at h
   ·rename_i C orc1
    split at h
    ·rename_i ob1 s c E hq
     split at h
     ·rename_i hn
      split at h
      ·rename_i ob2 orc2 av2 hdq
       simp only [Option.some.injEq, Prod.mk.injEq] at h
       obtain ⟨rfl, rfl, rfl, rfl, rfl, rfl⟩ := h
       obtain ⟨ho1, ho2⟩ := All.append.1 ho
       have hn : E.news.lookup s = none := by simpa using hn
       unfold wpOp
       rw [hi]
       simp only
       rw [if_pos (wn true hw)]
       left
       obtain ⟨t, cs, hb⟩ := qStep_box hq
       refine qcall_ok hr (fun x => low_ev hT hH hr x) (low_sites hH hr) hop hq ho1 (by rw [hH _ _ hb]; rfl) (fun s' hs' => ?_) hdN Kk Q (fun a' w' σ' hr' => hK a' w' σ' ?_)
       ·obtain ⟨c', hc'⟩ := Option.ne_none_iff_exists'.1 hs'
        exact hf s' (List.mem_map.2 ⟨_, lookup_mem hc', rfl⟩)
       ·rw [F_none]
        have hadd : (S1.setH s c).add E.news = S1.add ((s, c) :: E.news) := by
         unfold FS.add FS.setH
         simp only
         congr 1
         funext s'
         simp only [List.lookup_cons, upd]
         by_cases e1 : s' = s
         ·subst e1
          rw [hn]
          simp
         ·have : (s' == s) = false := by simpa using e1
          rw [this, if_neg e1]
        rw [hadd] at hr'
        refine hr'.reput fun t ht => ?_
        have h5 := hr'.tmps t
        rw [ht] at h5
        have h5 : RepA w0.base w' σ' E.av (a'.tmps.getD t undef) := by simpa [FS.put, upd] using h5
        unfold decQ at hdq
        split at hdq
        ·split at hdq
         ·split at hdq
          ·rename_i b hb2
           simp only [Option.some.injEq, Prod.mk.injEq] at hdq
           obtain ⟨rfl, rfl, rfl⟩ := hdq
           have hbv : b = _ := ho2
           rw [(scOf_rep hb2 h5).1, hbv]
           exact rep_scv rfl
          ·cases hdq
         ·simp only [Option.some.injEq, Prod.mk.injEq] at hdq; obtain ⟨_, _, rfl⟩ := hdq; exact h5
        ·simp only [Option.some.injEq, Prod.mk.injEq] at hdq; obtain ⟨_, _, rfl⟩ := hdq; exact h5
      ·cases h
     ·cases h
    ·cases h
   ·split at h
    ·rename_i d hd
     split at h
     ·rename_i ob1 orc1 E h1
      split at h
      ·rename_i ob2 orc2 E' h2
       simp only [Option.some.injEq, Prod.mk.injEq] at h
       obtain ⟨rfl, rfl, rfl, rfl, rfl, rfl⟩ := h
       exact eff d hd _ _ _ _ E E' h1 h2 rfl rfl rfl rfl rfl hw
      ·cases h
     ·cases h
    ·cases h
  ·split at h
   ·rename_i d hd
    split at h
    ·rename_i ob1 orc1 E h1
     split at h
     ·rename_i ob2 orc2 E' h2
      simp only [Option.some.injEq, Prod.mk.injEq] at h
      obtain ⟨rfl, rfl, rfl, rfl, rfl, rfl⟩ := h
      exact eff d hd _ _ _ _ E E' h1 h2 rfl rfl rfl rfl rfl hw
     ·cases h
    ·unfold wpOp
     rw [hi]
     simp only
     rw [if_pos (wn true hw)]
     left
     exact litEff_ok h ho hdN hT hH hf hr Kk Q hK
   ·cases h
theorem freeDat_ok {w0 : Base} {N i : Nat} {ops : Array Oper} {o : Oper} {S : FS} {orc orc' : List (Orc P)} {obs : List Prop} {D : Dat} (hi : ops[i]? = some o) (h : freeDat P ops o S orc = some (obs, orc', D)) (ho : All obs) (hdN : ∀ d, o.dst = some d → d < N) :
  D.V S ∧ ∀ S1, D.V S1 → FixOk P w0 N ops i S1 (D.F S1) := by
 unfold freeDat at h
 simp only [forceT_eq, forceH_eq, forceA_eq, forceN_eq] at h
 split at h
 ·rename_i ob1 orc1 sub av news fresh h1
  split at h
  ·rename_i hfr
   simp only [Option.some.injEq, Prod.mk.injEq] at h
   obtain ⟨rfl, rfl, rfl⟩ := h
   refine ⟨⟨fun p hp => ?_, fun p hp => ?_⟩, fun S1 hV => ?_⟩
   ·obtain ⟨t, _, rfl⟩ := List.mem_map.1 hp; rfl
   ·rcases List.mem_append.1 hp with hp | hp
    ·obtain ⟨s, _, rfl⟩ := List.mem_map.1 hp; rfl
    ·obtain ⟨k, hk, rfl⟩ := List.mem_map.1 hp
     simpa using List.all_eq_true.1 hfr k hk
   ·exact freeEff_ok hi h1 ho hdN (seen_T hV.1) (seen_H fun p hp => hV.2 p (List.mem_append_left _ hp)) (fun k hk => hV.2 (k, none) (List.mem_append_right _ (List.mem_map.2 ⟨k, hk, rfl⟩)))
  ·cases h
 ·cases h
theorem evDraw_ok {w0 : Base} {N : Nat} {ops : Array Oper} {tab : List Nat} (htab : ∀ i j, (tab.getD i 0).testBit j = true → TC ops j i) : ∀ (l : List Oper) (k : Nat) {S S' : FS} {orc orc' : List (Orc P)} {obs : List Prop} {acc : List (Nat × Dat)}, (∀ j : Nat, l[j]? = ops[k + j]?) →
  (∀ p ∈ acc, p.1 < k) → evDraw P N ops tab l k S orc acc = some (obs, orc', S') → All obs →
  ∃ its : List It, its.map It.i = List.range' k l.length ∧ Runs P w0 N ops its S S' ∧ its.Pairwise (fun x y => TC ops x.i y.i ∨ Comp x y) ∧ ∀ p ∈ acc, ∀ y ∈ its, TC ops p.1 y.i ∨ Comp ⟨p.1, p.2.V, p.2.F⟩ y
 | [], k, S, S', orc, orc', obs, acc, hl, hk, h, ho => by
   simp only [evDraw, Option.some.injEq, Prod.mk.injEq] at h
   obtain ⟨_, _, rfl⟩ := h
   exact ⟨[], rfl, rfl, List.Pairwise.nil, fun p _ y hy => by simp at hy⟩
 | o :: l, k, S, S', orc, orc', obs, acc, hl, hk0, h, ho => by
   have hk : ops[k]? = some o := by have := hl 0; simpa using this.symm
   have hl' : ∀ j : Nat, l[j]? = ops[k + 1 + j]? := fun j => by have := hl (j + 1); rw [List.getElem?_cons_succ] at this; rw [this]; congr 1; omega
   have hsz : k + (l.length + 1) = ops.size := by
    have h1 := hl l.length
    have h2 := hl (l.length + 1)
    rw [List.getElem?_eq_none (by simp)] at h2
    have h3 : (o :: l)[l.length]? ≠ none := by rw [List.getElem?_eq_getElem (by simp)]; simp
    rw [h1] at h3
    have h4 : k + l.length < ops.size := by
     rcases Nat.lt_or_ge (k + l.length) ops.size with h | h
     ·exact h
     ·exact absurd (Array.getElem?_eq_none h) h3
    have h5 : ops.size ≤ k + (l.length + 1) := by
     rcases Nat.lt_or_ge (k + (l.length + 1)) ops.size with h | h
     ·rw [Array.getElem?_eq_getElem h] at h2; cases h2
     ·exact h
    omega
   rw [List.length_cons, List.range'_succ]
   simp only [evDraw] at h
   split at h
   ·rename_i hd
    have hd' : ∀ d, o.dst = some d → d < N := fun d e => by rw [e] at hd; simpa [dstOk] using hd
    split at h
    ·rename_i hfix
     unfold fixedOk at hfix
     rw [Bool.and_eq_true] at hfix
     have f1 : ∀ j, j < k → TC ops j k := fun j hj => htab _ _ (List.all_eq_true.1 hfix.1 j (List.mem_range.2 hj))
     have f2 : ∀ j ∈ List.range' (k + 1) l.length, TC ops k j := fun j hj => by
      rw [List.mem_range'_1] at hj
      have := List.all_eq_true.1 hfix.2 j (List.mem_range.2 (by omega))
      rw [Bool.or_eq_true] at this
      rcases this with h | h
      ·simp at h; omega
      ·exact htab _ _ h
     have fin : ∀ (S1 : FS) (ob4 : List Prop) (orc3 orc4 : List (Orc P)) (S4 : FS), FixOk P w0 N ops k S S1 → evDraw P N ops tab l (k + 1) S1 orc3 acc = some (ob4, orc4, S4) → All ob4 → S4 = S' →
       ∃ its : List It, its.map It.i = k :: List.range' (k + 1) l.length ∧ Runs P w0 N ops its S S' ∧ its.Pairwise (fun x y => TC ops x.i y.i ∨ Comp x y) ∧ ∀ p ∈ acc, ∀ y ∈ its, TC ops p.1 y.i ∨ Comp ⟨p.1, p.2.V, p.2.F⟩ y := fun S1 ob4 orc3 orc4 S4 hF h4 ho4 e => by
      subst e
      obtain ⟨its, q1, q2, q3, q4⟩ := evDraw_ok htab l (k + 1) hl' (fun p hp => by have := hk0 p hp; omega) h4 ho4
      refine ⟨⟨k, fun X => X = S, fun _ => S1⟩ :: its, by rw [List.map_cons, q1], ⟨rfl, fun X hX => by have hX : X = S := hX; subst hX; exact hF, q2⟩, List.pairwise_cons.2 ⟨fun y hy => .inl (f2 y.i (by rw [← q1]; exact List.mem_map.2 ⟨y, hy, rfl⟩)), q3⟩, fun p hp y hy => ?_⟩
      rcases List.mem_cons.1 hy with rfl | hy
      ·exact .inl (f1 _ (hk0 p hp))
      ·exact q4 p hp y hy
     split at h
     ·rename_i ob1 orc1 S1 h1
      split at h
      ·rename_i hw
       split at h
       ·rename_i ob2 orc2 S2 h2
        split at h
        ·rename_i ob3 orc3 S3 h3
         split at h
         ·rename_i ob4 orc4 S4 h4
          simp only [Option.some.injEq, Prod.mk.injEq] at h
          obtain ⟨rfl, rfl, rfl⟩ := h
          obtain ⟨ho1, ho⟩ := All.append.1 ho
          obtain ⟨ho2, ho⟩ := All.append.1 ho
          obtain ⟨ho3, ho4⟩ := All.append.1 ho
          refine fin S3 _ _ _ _ (fun σ a w hr Kk Q hK => ?_) h4 ho4 rfl
          obtain ⟨σ1, hr1⟩ := beforeOp_ok h1 ho1 hr
          unfold wpOp
          rw [hk]
          simp only
          rw [if_pos (wantedS_ok hw hr1.tmps)]
          refine .inl (opStep_ok h2 ho2 hd hr1 _ _ fun a' w' σ' hr2 => ?_)
          obtain ⟨σ3, hr3⟩ := afterOp_ok h3 ho3 hr2
          exact hK a' w' σ3 hr3
         ·cases h
        ·cases h
       ·cases h
      ·rename_i hw
       split at h
       ·rename_i ob4 orc4 S4 h4
        simp only [Option.some.injEq, Prod.mk.injEq] at h
        obtain ⟨rfl, rfl, rfl⟩ := h
        obtain ⟨ho1, ho4⟩ := All.append.1 ho
        refine fin (S1.put o.dst (.tup [])) _ _ _ _ (fun σ a w hr Kk Q hK => ?_) h4 ho4 rfl
        obtain ⟨σ1, hr1⟩ := beforeOp_ok h1 ho1 hr
        unfold wpOp
        rw [hk]
        simp only
        rw [if_neg (by rw [wantedS_ok hw hr1.tmps]; simp)]
        exact hK _ w σ1 (hr1.put hd' rep_undef)
       ·cases h
      ·cases h
     ·cases h
    ·split at h
     ·rename_i ob1 orc1 D h1
      split at h
      ·rename_i hwith
       split at h
       ·rename_i ob2 orc2 S2 h2
        simp only [Option.some.injEq, Prod.mk.injEq] at h
        obtain ⟨rfl, rfl, rfl⟩ := h
        obtain ⟨ho1, ho2⟩ := All.append.1 ho
        obtain ⟨v1, v2⟩ := freeDat_ok (w0 := w0) hk h1 ho1 hd'
        obtain ⟨its, q1, q2, q3, q4⟩ := evDraw_ok htab l (k + 1) hl' (acc := (k, D) :: acc) (fun p hp => by
         rcases List.mem_cons.1 hp with rfl | hp
         ·show k < k + 1; omega
         ·have := hk0 p hp; omega) h2 ho2
        refine ⟨⟨k, D.V, D.F⟩ :: its, by rw [List.map_cons, q1], ⟨v1, v2, q2⟩, List.pairwise_cons.2 ⟨fun y hy => q4 (k, D) (by simp) y hy, q3⟩, fun p hp y hy => ?_⟩
        rcases List.mem_cons.1 hy with rfl | hy
        ·have h5 := List.all_eq_true.1 hwith p hp
         rw [Bool.or_eq_true] at h5
         rcases h5 with h5 | h5
         ·exact .inl (htab _ _ h5)
         ·unfold compat at h5
          simp only [Bool.and_eq_true] at h5
          obtain ⟨c1, c2, c3⟩ := h5
          exact .inr ⟨fun X => calm_iff c2 X, fun X => calm_iff c1 X, fun X => F_comm c3 X⟩
        ·exact q4 p (List.mem_cons_of_mem _ hp) y hy
       ·cases h
      ·cases h
     ·cases h
   ·cases h
theorem draw_ok {w0 : Base} {N : Nat} {id : Nat} {ops : Array Oper} {S S' : FS} {orc orc' : List (Orc P)} {obs : List Prop} (hm : P.follows .mixedOrders = true) (hreg : regLt ops = true) (h : evDraw P N ops (tabGo ops.toList []) ops.toList 0 S orc [] = some (obs, orc', S')) (ho : All obs)
  {σ : Sig} {a : Act} {w : World} (hr : Rel w0 N S σ a w) : (Code.region id ops true).wp P (fun e a' w' => e = .normal ∧ ∃ σ', Rel w0 N S' σ' a' w') a w := by
 have htab := tabGo_ok (ops := ops) ops.toList [] (fun j => by simp) (fun i j h => by simp at h)
 obtain ⟨its, q1, q2, q3, _⟩ := evDraw_ok (w0 := w0) (ops := ops) htab ops.toList 0 (fun j => by simp) (fun p hp => by simp at hp) h ho
 rw [Array.length_toList, ← List.range_eq_range'] at q1
 have hL : LX P w0 N ops (List.range ops.size) S S' := ⟨its, q1, q2, q3⟩
 have hrest : rest (Array.replicate ops.size false) ops.size = List.range ops.size := by
  unfold rest
  rw [List.filter_eq_self]
  intro j hj
  have := List.mem_range.1 hj
  rw [Array.getD_eq_getD_getElem?, Array.getElem?_eq_getElem (by simpa using this)]
  simp
 refine wp_region_any hm (any_order hreg (LX P w0 N ops) LX.nil (fun i l1 l2 S Sf hin => LX.pull i l1 l2 S Sf) (Sf := S') (fun a' w' σ' hr' => ⟨rfl, σ', hr'⟩) ops.size _ S σ a _ (by simp) (fun i hi => by rw [Array.getD_eq_getD_getElem?, Array.getElem?_replicate] at hi; split at hi <;> simp at hi) (by rw [hrest]; simp) (by rw [hrest]; exact hL) ?_)
 -- a draw turns no block
 have hev : Evo σ σ w { w with drawn := w.drawn + 1 } := ⟨Nat.le_refl _, fun _ _ _ => rfl, fun _ _ h => h⟩
 refine ⟨hr.below.drew, hr.size, hr.defers, fun t => hev.repA (fun _ _ => rfl) (hr.tmps t), fun s c hs => ?_, hr.dom, hr.inj, hev.prot hr.prot⟩
 obtain ⟨v, hv, hk⟩ := hr.sites s c hs
 exact ⟨v, hv, hev.site (fun _ _ => rfl) (fun _ _ _ _ _ => rfl) hk⟩
end Go.Av