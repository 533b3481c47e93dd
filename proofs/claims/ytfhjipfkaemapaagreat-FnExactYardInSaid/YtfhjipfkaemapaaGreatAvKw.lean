/- Calls that write rows which are handed to them, in place. -/
import Derived.Test.YtfhjipfkaemapaaGreatAvKf
namespace Go.Av
open Go Go.RowKit
set_option linter.unusedVariables false
set_option linter.unusedSimpArgs false
variable {P : Program}
def WOk (P : Program) (f : FuncId) (args : List AV) (cin cout : List (Nat × Content)) (res : Value) : Prop :=
 ∀ (w : World) (base : Nat) (σ : Sig) (vals : List Value), base ≤ w.heap.size → args.length = vals.length → (∀ (i : Nat) av u, args[i]? = some av → vals[i]? = some u → RepA base w σ av u) →
  (∀ s c, cin.lookup s = some c → ∃ x, σ s = some x ∧ SiteOk base w σ x c) → (∀ s, cin.lookup s = none → σ s = none) →
  (∀ s s' v v' b, σ s = some v → σ s' = some v' → Own v b → Own v' b → s = s') →
  Calls P f vals.toArray w fun e w' => e = .returned res ∧ Below 0 w w' ∧ (∀ b, b < w.heap.size → ¬ Live σ b → w'.heap[b]? = w.heap[b]?) ∧ ∀ s c, cout.lookup s = some c → ∃ x, σ s = some x ∧ ∀ σ2, SiteOk base w' σ2 x c
structure WCon (P : Program) where
 f : FuncId
 args : List AV
 cin : List (Nat × Content)
 cout : List (Nat × Content)
 res : Value
 one : res.oneCell' = true
 ok : WOk P f args cin cout res
 go : Callable P f
def isRow : Content → Bool
 | .row _ _ _ _ _ => true
 | .nest _ _ _ _ _ => true
 | _ => false
def ndp : List Nat → Bool
 | [] => true
 | x :: xs => !xs.contains x && ndp xs
def renC (m : List (Nat × Nat)) : CV → CV
 | .h s => .h ((m.lookup s).getD s)
 | .hn s => .hn ((m.lookup s).getD s)
 | c => c
def renA (m : List (Nat × Nat)) : AV → AV
 | .t (.c c) => .t (.c (renC m c))
 | .t (.agg xs) => .t (.agg (xs.map (renC m)))
 | av => av
def patC (m : List (Nat × Nat)) : CV → Bool
 | .p _ _ => true
 | .h s => (m.lookup s).isSome
 | .hn s => (m.lookup s).isSome
 | _ => false
def patA (m : List (Nat × Nat)) : AV → Bool
 | .t (.c c) => patC m c
 | .t (.agg xs) => xs.all (patC m)
 | _ => false
def fitM (H : Nat → Option Content) (m : List (Nat × Nat)) : List (Nat × Content) → Option (List Prop)
 | [] => some []
 | (s, c) :: r => match m.lookup s with
   | some s' => match H s' with
     | some k => match fitK k c, fitM H m r with
       | some l, some l' => some (l ++ l')
       | _, _ => none
     | none => none
   | none => none
def fitAll : List AV → List AV → Option (List Prop)
 | [], [] => some []
 | x :: xs, y :: ys => match fitAV x y, fitAll xs ys with
   | some l, some l' => some (l ++ l')
   | _, _ => none
 | _, _ => none
def inv (m : List (Nat × Nat)) (s' : Nat) : Option Nat := (m.find? fun p => p.2 == s').map Prod.fst
def FS.wput (S : FS) (m : List (Nat × Nat)) (cout : List (Nat × Content)) : FS := ⟨S.T, fun s' => match inv m s' with
 | some s => match cout.lookup s with
   | some c => some c
   | none => S.H s'
 | none => S.H s'⟩
def wGood (C : WCon P) (m : List (Nat × Nat)) : Bool := (m.map Prod.fst == C.cin.map Prod.fst) && ((C.cout.map Prod.fst == C.cin.map Prod.fst) && (ndp (m.map Prod.fst) && (ndp (m.map Prod.snd) && (C.args.all (patA m) && C.cin.all fun p => isRow p.2))))
def wStep (ev : Operand → AV) (S : FS) (C : WCon P) (m : List (Nat × Nat)) (f : Operand) (args : List Operand) (dst : Option Nat) : Option (List Prop × FS) :=
 match ev f with
 | .fn g [] => if wGood C m = true then match fitAll (args.map ev) (C.args.map (renA m)), fitM S.H m C.cin with
    | some l, some l' => some ((C.f = g) :: (l ++ l'), (S.wput m C.cout).put dst (scv C.res))
    | _, _ => none
   else none
 | _ => none
theorem look_mem {α : Type} : ∀ {l : List (Nat × α)} {s : Nat} {c : α}, l.lookup s = some c → (s, c) ∈ l
 | [], s, c, h => by simp at h
 | (k, x) :: r, s, c, h => by
   rw [List.lookup_cons] at h
   split at h
   ·rename_i e
    cases h
    have : s = k := by simpa using e
    subst this
    simp
   ·exact List.mem_cons_of_mem _ (look_mem h)
theorem look_keys {α β : Type} : ∀ {l : List (Nat × α)} {l' : List (Nat × β)}, l.map Prod.fst = l'.map Prod.fst → ∀ s, (l.lookup s).isSome = (l'.lookup s).isSome
 | [], [], _, s => rfl
 | [], _ :: _, h, s => by simp at h
 | _ :: _, [], h, s => by simp at h
 | (k, x) :: r, (k', x') :: r', h, s => by
   simp only [List.map_cons, List.cons.injEq] at h
   obtain ⟨rfl, h⟩ := h
   rw [List.lookup_cons, List.lookup_cons]
   cases s == k
   ·exact look_keys h s
   ·rfl
theorem ndp_fst {α : Type} : ∀ {l : List (Nat × α)} {s : Nat} {c : α}, ndp (l.map Prod.fst) = true → (s, c) ∈ l → l.lookup s = some c
 | [], s, c, _, h => by simp at h
 | (k, x) :: r, s, c, hn, h => by
   simp only [List.map_cons, ndp, Bool.and_eq_true, Bool.not_eq_true'] at hn
   rcases List.mem_cons.1 h with e | h'
   ·cases e
    rw [List.lookup_cons]
    simp
   ·have hne : s ≠ k := fun e => by
     subst e
     have : (r.map Prod.fst).contains s = true := List.contains_iff_mem.2 (List.mem_map.2 ⟨(s, c), h', rfl⟩)
     rw [this] at hn
     cases hn.1
    rw [List.lookup_cons]
    have : (s == k) = false := by simpa using hne
    rw [this]
    exact ndp_fst hn.2 h'
theorem ndp_snd : ∀ {l : List (Nat × Nat)} {s1 s2 s' : Nat}, ndp (l.map Prod.snd) = true → (s1, s') ∈ l → (s2, s') ∈ l → s1 = s2
 | [], s1, s2, s', _, h, _ => by simp at h
 | (k, x) :: r, s1, s2, s', hn, h1, h2 => by
   simp only [List.map_cons, ndp, Bool.and_eq_true, Bool.not_eq_true'] at hn
   have far : ∀ s, (s, x) ∈ r → False := fun s hs => by
    have : (r.map Prod.snd).contains x = true := List.contains_iff_mem.2 (List.mem_map.2 ⟨_, hs, rfl⟩)
    rw [this] at hn
    cases hn.1
   rcases List.mem_cons.1 h1 with e1 | h1
   ·rcases List.mem_cons.1 h2 with e2 | h2
    ·cases e1; cases e2; rfl
    ·cases e1; exact (far _ h2).elim
   ·rcases List.mem_cons.1 h2 with e2 | h2
    ·cases e2; exact (far _ h1).elim
    ·exact ndp_snd hn.2 h1 h2
theorem inv_mem {m : List (Nat × Nat)} {s' s : Nat} (h : inv m s' = some s) : (s, s') ∈ m := by
 unfold inv at h
 obtain ⟨p, hp, rfl⟩ := Option.map_eq_some_iff.1 h
 have h1 := List.mem_of_find?_eq_some hp
 have h2 := List.find?_some hp
 have h2 : p.2 = s' := by simpa using h2
 rw [← h2]
 exact h1
theorem inv_of {m : List (Nat × Nat)} {s' s : Nat} (hn : ndp (m.map Prod.snd) = true) (h : (s, s') ∈ m) : inv m s' = some s := by
 cases hi : inv m s' with
 | none =>
   unfold inv at hi
   have := List.find?_eq_none.1 (Option.map_eq_none_iff.1 hi) (s, s') h
   simp at this
 | some s2 => rw [ndp_snd hn (inv_mem hi) h]
theorem fitM_at {H : Nat → Option Content} {m : List (Nat × Nat)} : ∀ {cin : List (Nat × Content)} {l : List Prop}, fitM H m cin = some l → All l → ∀ s c, (s, c) ∈ cin → ∃ s' k l', m.lookup s = some s' ∧ H s' = some k ∧ fitK k c = some l' ∧ All l'
 | [], l, h, ho, s, c, hm => by simp at hm
 | (s0, c0) :: r, l, h, ho, s, c, hm => by
   simp only [fitM] at h
   split at h
   ·rename_i s' hs'
    split at h
    ·rename_i k hk
     split at h
     ·rename_i l1 l2 h1 h2
      cases h
      obtain ⟨ho1, ho2⟩ := All.append.1 ho
      rcases List.mem_cons.1 hm with e | hm
      ·cases e; exact ⟨s', k, l1, hs', hk, h1, ho1⟩
      ·exact fitM_at h2 ho2 s c hm
     ·cases h
    ·cases h
   ·cases h
theorem fitAll_at : ∀ {xs ys : List AV} {l : List Prop}, fitAll xs ys = some l → All l → xs.length = ys.length ∧ ∀ (i : Nat) x y, xs[i]? = some x → ys[i]? = some y → ∃ l', fitAV x y = some l' ∧ All l'
 | [], [], l, h, ho => ⟨rfl, fun i x y hx => by simp at hx⟩
 | [], _ :: _, l, h, ho => by simp [fitAll] at h
 | _ :: _, [], l, h, ho => by simp [fitAll] at h
 | x :: xs, y :: ys, l, h, ho => by
   simp only [fitAll] at h
   split at h
   ·rename_i l1 l2 h1 h2
    cases h
    obtain ⟨ho1, ho2⟩ := All.append.1 ho
    obtain ⟨k1, k2⟩ := fitAll_at h2 ho2
    refine ⟨by simp [k1], fun i x' y' hx hy => ?_⟩
    cases i with
    | zero => simp at hx hy; subst hx; subst hy; exact ⟨l1, h1, ho1⟩
    | succ i => exact k2 i x' y' (by simpa using hx) (by simpa using hy)
   ·cases h
section
variable {base : Nat} {w : World} {σ : Sig}
def sigC (σ : Sig) (m : List (Nat × Nat)) : Sig := fun s => match m.lookup s with
 | some s' => σ s'
 | none => none
theorem sigC_live {m : List (Nat × Nat)} {b : Nat} (h : Live (sigC σ m) b) : ∃ s s' v, (s, s') ∈ m ∧ σ s' = some v ∧ Own v b := by
 obtain ⟨s, v, hs, hb⟩ := h
 unfold sigC at hs
 split at hs
 ·rename_i s' hl
  exact ⟨s, s', v, look_mem hl, hs, hb⟩
 ·cases hs
theorem K.sub {fr : Bool} {m : List (Nat × Nat)} {b : Nat} (h : K base w σ fr b) : K base w (sigC σ m) fr b := ⟨h.1, fun hl => by
 obtain ⟨_, s', v, _, hs, hb⟩ := sigC_live hl
 exact h.2.1 ⟨s', v, hs, hb⟩, h.2.2⟩
theorem renC_ok {m : List (Nat × Nat)} {c : CV} {v : Value} (hp : patC m c = true) (h : RepC base w σ (renC m c) v) : RepC base w (sigC σ m) c v := by
 cases c with
 | any => cases hp
 | p fr x => exact Rep.mono h (fun _ _ => rfl) (fun b hb => hb.sub)
 | h s =>
   obtain ⟨s', hs'⟩ := Option.isSome_iff_exists.1 hp
   simp only [renC, hs', Option.getD_some] at h
   exact ⟨by unfold sigC; rw [hs']; exact h.1, h.2⟩
 | hn s =>
   obtain ⟨s', hs'⟩ := Option.isSome_iff_exists.1 hp
   simp only [renC, hs', Option.getD_some] at h
   obtain ⟨us, h1⟩ := h.1
   exact ⟨⟨us, by unfold sigC; rw [hs']; exact h1⟩, h.2⟩
 | hv s x => cases hp
theorem renA_ok {m : List (Nat × Nat)} {c : AV} {v : Value} (hp : patA m c = true) (h : RepA base w σ (renA m c) v) : RepA base w (sigC σ m) c v := by
 unfold patA at hp
 split at hp
 ·exact renC_ok hp h
 ·rename_i xs
  obtain ⟨vs, rfl, hl, h⟩ := h
  refine ⟨vs, rfl, by rw [← hl, List.length_map], fun i c u hc hu => ?_⟩
  exact renC_ok (List.all_eq_true.1 hp c (List.mem_of_getElem? hc)) (h i (renC m c) u (by rw [List.getElem?_map, hc]; rfl) hu)
 ·cases hp
theorem site_sub {m : List (Nat × Nat)} {v : Value} {c : Content} (hr : isRow c = true) (h : SiteOk base w σ v c) : SiteOk base w (sigC σ m) v c := by
 cases c with
 | row e z n g fr =>
   obtain ⟨xs, h1, h2, h3, h4⟩ := h
   exact ⟨xs, h1, h2, h3, fun j q x hj hx => by obtain ⟨u, hu, hx2⟩ := h4 j q x hj hx; exact ⟨u, hu, hx2.mono (fun _ _ => rfl) (fun b hb => hb.sub)⟩⟩
 | nest e ei n m g => exact h
 | _ => cases hr
end
theorem wcall_ok {w0 : Base} {N : Nat} {S S' : FS} {o : Oper} {C : WCon P} {m : List (Nat × Nat)} {f : Operand} {xs : List Operand} {obs : List Prop} {ts : Array TypeId} {σ : Sig} {a : Act} {w : World} {ev : Operand → AV} (hr : Rel w0 N S σ a w) (hev : ∀ x, RepA w0.base w σ (ev x) (a.eval x))
  (hop : o.op = .call { callee := .value f, args := xs.toArray, argTypes := ts }) (h : wStep ev S C m f xs o.dst = some (obs, S')) (ho : All obs) (hd : ∀ d, o.dst = some d → d < N) : SeqOk P w0 N o S' a w := by
 unfold wStep at h
 split at h
 ·rename_i g hg
  split at h
  ·rename_i hgood
   split at h
   ·rename_i l l' h1 h2
    simp only [Option.some.injEq, Prod.mk.injEq] at h
    obtain ⟨rfl, rfl⟩ := h
    obtain ⟨rfl, ho'⟩ := All.cons.1 ho
    obtain ⟨ho1, ho2⟩ := All.append.1 ho'
    unfold wGood at hgood
    simp only [Bool.and_eq_true, beq_iff_eq] at hgood
    obtain ⟨k1, k2, k3, k4, k5, k6⟩ := hgood
    obtain ⟨ps, hfe, hpl⟩ : ∃ ps : List Value, a.eval f = .func (.func C.f) #[] ps.toArray ∧ ps.length = 0 := by
     have := hev f
     rw [hg] at this
     obtain ⟨ps, h1, h2, _⟩ := this
     exact ⟨ps, h1, by simpa using h2⟩
    obtain rfl := List.eq_nil_of_length_eq_zero hpl
    obtain ⟨hlen, hat⟩ := fitAll_at h1 ho1
    have hself : Evo σ σ w w := ⟨Nat.le_refl _, fun _ _ _ => rfl, fun _ _ h => h⟩
    have hcin : ∀ s c, C.cin.lookup s = some c → ∃ s' k x, m.lookup s = some s' ∧ σ s' = some x ∧ SiteOk w0.base w σ x c ∧ isRow c = true ∧ S.H s' = some k := fun s c hs => by
     have hmem := look_mem hs
     obtain ⟨s', k, l', q1, q2, q3, q4⟩ := fitM_at h2 ho2 s c hmem
     obtain ⟨x, hx, hk⟩ := hr.sites s' k q2
     have hrow := List.all_eq_true.1 k6 _ hmem
     refine ⟨s', k, x, q1, hx, fitK_ok hself q3 q4 (fun t cs e s2 hs2 => by subst e; cases hrow) hk, hrow, q2⟩
    have hcall := C.ok w w0.base (sigC σ m) (xs.map a.eval) hr.based (by have := hlen; simp at this ⊢; omega)
     (fun i av u hav hu => by
       rw [List.getElem?_map] at hu
       obtain ⟨x, hx, rfl⟩ := Option.map_eq_some_iff.1 hu
       obtain ⟨l1, q1, q2⟩ := hat i (ev x) (renA m av) (by rw [List.getElem?_map, hx]; rfl) (by rw [List.getElem?_map, hav]; rfl)
       exact renA_ok (List.all_eq_true.1 k5 av (List.mem_of_getElem? hav)) (fitAV_ok hself q1 q2 (fun _ _ => rfl) (hev x)))
     (fun s c hs => by
       obtain ⟨s', k, x, q1, q2, q3, q4, _⟩ := hcin s c hs
       exact ⟨x, by unfold sigC; rw [q1]; exact q2, site_sub q4 q3⟩)
     (fun s hs => by
       unfold sigC
       have := look_keys k1 s
       rw [hs] at this
       cases hl : m.lookup s with
       | none => rfl
       | some s' => rw [hl] at this; cases this)
     (fun s s2 v v2 b hs hs2 hb hb2 => by
       unfold sigC at hs hs2
       split at hs
       ·rename_i t ht
        split at hs2
        ·rename_i t2 ht2
         have := hr.inj t t2 v v2 b hs hs2 hb hb2
         subst this
         exact ndp_snd k4 (look_mem ht) (look_mem ht2)
        ·cases hs2
       ·cases hs)
    obtain ⟨fn, hfn, hname, hbody⟩ := C.go
    have hrun : (execOp a.eval o).run P w = .ok (.enter C.f (xs.map a.eval).toArray) w := by
     have hne : fn.body.isNone = false := by cases hb : fn.body with
      | none => rw [hb] at hbody; cases hbody
      | some c => rfl
     have hname' : fn.name ≠ "runtime.NumGoroutine" := by simpa using hname
     have hne' : fn.body ≠ none := by intro e; rw [e] at hne; cases hne
     simp [execOp, hop, resolve, hfe, Deferred.ofValue, invoke, callFunc, hfn]
     rw [if_neg hname', if_neg hne']
    intro Kk Q hK
    unfold Oper.wp
    rw [hrun]
    show Calls P C.f (xs.map a.eval).toArray w _
    refine hcall.mono ?_
    rintro ex w' ⟨rfl, hbel, hkeep, hout⟩
    have hev2 : Evo σ σ w w' := ⟨hbel.size, fun b hb hl => hkeep b hb (fun hl2 => by
     obtain ⟨_, s', v, _, hs, hv⟩ := sigC_live hl2
     exact hl ⟨s', v, hs, hv⟩), fun _ _ h => h⟩
    have hfar : ∀ s' u b, σ s' = some u → Own u b → inv m s' = none → b < w.heap.size → w'.heap[b]? = w.heap[b]? := fun s' u b hs hb hi hlt => hkeep b hlt (fun hl => by
     obtain ⟨t, s2, v, hm, hv, hbv⟩ := sigC_live hl
     have := hr.inj s' s2 u v b hs hv hb hbv
     subst this
     rw [inv_of k4 hm] at hi
     cases hi)
    have hrel : Rel w0 N (S.wput m C.cout) σ a w' := by
     refine ⟨hr.below.trans ⟨hbel.os, hbel.tape, hbel.output, hbel.size, fun b hb => hkeep b (Nat.lt_of_lt_of_le hb hr.based) (fun hl => ?_)⟩, hr.size, hr.defers, fun t => hev2.repA (fun _ _ => rfl) (hr.tmps t), fun s' k hk => ?_, fun s' hk => ?_, hr.inj, hev2.prot hr.prot⟩
     ·obtain ⟨_, s', v, _, hs, hv⟩ := sigC_live hl
      have := (hr.live ⟨s', v, hs, hv⟩).1
      omega
     ·have hk : (match inv m s' with
       | some s => match C.cout.lookup s with
         | some c => some c
         | none => S.H s'
       | none => S.H s') = some k := hk
      cases hi : inv m s' with
      | none =>
        rw [hi] at hk
        obtain ⟨u, hu, hu2⟩ := hr.sites s' k hk
        exact ⟨u, hu, hev2.site (fun b hb => hfar s' u b hu hb hi (hu2.block hb).2) (fun _ _ _ _ _ => rfl) hu2⟩
      | some s =>
        rw [hi] at hk
        have hm := ndp_fst k3 (inv_mem hi)
        cases hc : C.cout.lookup s with
        | none =>
          have := look_keys (k2.trans k1.symm) s
          rw [hc, hm] at this
          cases this
        | some c =>
          simp only [hc] at hk
          cases hk
          obtain ⟨x, hx, hx2⟩ := hout s _ hc
          unfold sigC at hx
          rw [hm] at hx
          exact ⟨x, hx, hx2 σ⟩
     ·have hk : (match inv m s' with
       | some s => match C.cout.lookup s with
         | some c => some c
         | none => S.H s'
       | none => S.H s') = none := hk
      cases hi : inv m s' with
      | none => rw [hi] at hk; exact hr.dom s' hk
      | some s =>
        rw [hi] at hk
        cases hc : C.cout.lookup s with
        | none => simp only [hc] at hk; exact hr.dom s' hk
        | some c => simp only [hc] at hk; cases hk
    exact hK _ w' σ (hrel.put hd (rep_scv C.one))
   ·cases h
  ·cases h
 ·cases h
end Go.Av