/- The whole: a function's text is run (ev), and the machine comes to what is told. -/
import Derived.Test.YtfhjipfkaemapaaGreatAvU
namespace Go.Av
open Go Go.RowKit
set_option linter.unusedVariables false
set_option linter.unusedSimpArgs false
variable {P : Program}
inductive Tgt where
 | ret
 | head (stk : List Item) (T : List (Nat × AV)) (H : List (Nat × Content))
 | stop (stk : List Item) (T : List (Nat × AV)) (H : List (Nat × Content))
 | retQ (T : List (Nat × AV)) (H : List (Nat × Content))
def atStop (k : List Item) : Tgt → Bool
 | .stop stk _ _ => k.length == stk.length
 | _ => false
def fitStop (k : List Item) (S : FS) : Tgt → Option (List Prop)
 | .stop stk T H => if closed T H then match fitT S.T T, fitH S.H H with
    | some l, some l' => some ((k = stk) :: (l ++ l'))
    | _, _ => none
   else none
 | _ => none
def fitHead (c : Code) (k : List Item) (S : FS) : Tgt → Option (List Prop)
 | .head stk T H => if closed T H then match fitT S.T T, fitH S.H H with
    | some l, some l' => some (((.code c :: .inLoop c :: k : List Item) = stk) :: (l ++ l'))
    | _, _ => none
   else none
 | _ => none
def finAt : List Item → Bool
 | [] => true
 | .code .ret :: _ => true
 | .code (.loop _) :: _ => true
 | .inLoop _ :: _ => true
 | .code (.exit _) :: _ => true
 | _ => false
def idAt : List Item → Nat
 | .code (.region id _ _) :: _ => id
 | _ => 999999999
def preAt (k : List Item) (S : FS) : List (Orc P) → Option (List Prop × List (Orc P) × FS)
 | .reg id :: r => if id = idAt k then pre S r else some ([], .reg id :: r, S)
 | .fin :: r => if finAt k then pre S r else some ([], .fin :: r, S)
 | l => some ([], l, S)
theorem preAt_ok {w0 : Base} {N : Nat} {k : List Item} {orc orc' : List (Orc P)} {S S' : FS} {σ : Sig} {a : Act} {w : World} {obs : List Prop} (h : preAt k S orc = some (obs, orc', S')) (ho : All obs) (hr : Rel w0 N S σ a w) : ∃ σ', Rel w0 N S' σ' a w := by
 unfold preAt at h
 split at h
 ·split at h
  ·exact pre_ok h ho hr
  ·simp only [Option.some.injEq, Prod.mk.injEq] at h; obtain ⟨_, _, rfl⟩ := h; exact ⟨σ, hr⟩
 ·split at h
  ·exact pre_ok h ho hr
  ·simp only [Option.some.injEq, Prod.mk.injEq] at h; obtain ⟨_, _, rfl⟩ := h; exact ⟨σ, hr⟩
 ·simp only [Option.some.injEq, Prod.mk.injEq] at h; obtain ⟨_, _, rfl⟩ := h; exact ⟨σ, hr⟩
def fitEnd (P : Program) (rvs : List ResultVar) (rds : List RD) (S : FS) : Tgt → Option (List Prop)
 | .ret => fitRet P S rvs rds
 | .retQ T H => if closed T H then match fitRet P S rvs rds, fitT S.T T, fitH S.H H with
    | some l, some l1, some l2 => some (l ++ (l1 ++ l2))
    | _, _, _ => none
   else none
 | _ => none
def ev (P : Program) (N : Nat) (rvs : List ResultVar) (rds : List RD) (tgt : Tgt) : Nat → List (Orc P) → List Item → FS → Option (List Prop)
 | 0, _, _, _ => none
 | n + 1, orc, k, S0 => match preAt k S0 orc with
   | none => none
   | some (ob, orc, S) => match (match k with
     | [] => fitEnd P rvs rds S tgt
     | .code .skip :: k => ev P N rvs rds tgt n orc k S
     | .code (.seq x y) :: k => ev P N rvs rds tgt n orc (.code x :: .code y :: k) S
     | .code (.cond c x y) :: k => match scOf (S.ev c), orc with
       | some (.bool t), .b v :: orc => match ev P N rvs rds tgt n orc (.code (if v then x else y) :: k) S with
         | some l => some ((t = v) :: l)
         | none => none
       | _, _ => none
     | .code (.block id c) :: k => ev P N rvs rds tgt n orc (.code c :: .inBlock id :: k) S
     | .inBlock _ :: k => ev P N rvs rds tgt n orc k S
     | .code (.exit id) :: k => match exitTo id k with
       | some k' => match atStop k' tgt with
         | true => fitStop k' S tgt
         | false => ev P N rvs rds tgt n orc k' S
       | none => none
     | .code .ret :: _ => fitEnd P rvs rds S tgt
     | .code (.loop c) :: k => fitHead c k S tgt
     | .inLoop c :: k => fitHead c k S tgt
     | .code (.region _ ops false) :: k => match evOps P N ops ops.toList S orc with
       | some (l, orc, S') => match ev P N rvs rds tgt n orc k S' with
         | some l' => some (l ++ l')
         | none => none
       | none => none
     | .code (.region _ ops true) :: k => match drawStep P N ops S orc with
       | some (l, orc, S') => match ev P N rvs rds tgt n orc k S' with
         | some l' => some (l ++ l')
         | none => none
       | none => none
     | _ => none) with
     | some l => some (ob ++ l)
     | none => none
def Goal (P : Program) (f : FuncId) (N : Nat) (rvs : List ResultVar) (rds : List RD) (w0 : Base) : Tgt → Prop
 | .ret => ∀ w v, w0.Q w v
 | .retQ T H => ∀ σ a w v, Rel w0 N (mkFS T H) σ a w → (∀ t, rvs = [.tmp t] → v = a.tmps.getD t undef) → w0.Q w v
 | .head stk T H => AG P f N rds w0 stk (mkFS T H)
 | .stop stk T H => AG P f N rds w0 stk (mkFS T H)
theorem fitHead_ok {f : FuncId} {N : Nat} {rvs : List ResultVar} {rds : List RD} {w0 : Base} {c : Code} {k k0 : List Item} {S : FS} {tgt : Tgt} {l : List Prop} (h : fitHead c k S tgt = some l) (ho : All l) (hg : Goal P f N rvs rds w0 tgt)
  (hs : ∀ (b : Frame) (cs : List Frame) (a : Act) (w : World), Go.step P (lone (b.at a k0) cs w) = .next (lone (b.at a (.code c :: .inLoop c :: k)) cs w)) : AG P f N rds w0 k0 S := by
 unfold fitHead at h
 split at h
 ·rename_i stk T H
  split at h
  ·rename_i hc
   split at h
   ·rename_i l1 l2 h1 h2
    cases h
    obtain ⟨rfl, ho3⟩ := All.cons.1 ho
    obtain ⟨ho1, ho2⟩ := All.append.1 ho3
    exact AG.step hs (AG.weak (fun σ a w hr => hr.fit h1 h2 ho1 ho2 hc) hg)
   ·cases h
  ·cases h
 ·cases h
theorem fitEnd_ok {f : FuncId} {N : Nat} {rds : List RD} {w0 : Base} {k : List Item} {S : FS} {fn : Func} {tgt : Tgt} {l : List Prop} (hfn : P.funcs[f]? = some fn) (hret : ∀ (b : Frame) (cs : List Frame) (a : Act) (w : World), ∃ todo, Go.step P (lone (b.at a k) cs w) = .next (lone { b.at a todo with mode := .returning } cs w))
  (h : fitEnd P fn.results.toList rds S tgt = some l) (ho : All l) (hg : Goal P f N fn.results.toList rds w0 tgt) : AG P f N rds w0 k S := by
 unfold fitEnd at h
 split at h
 ·exact AG.ret hfn hret h ho (fun σ a w v _ _ => hg w v)
 ·rename_i T H
  split at h
  ·rename_i hc
   split at h
   ·rename_i l0 l1 l2 h0 h1 h2
    cases h
    obtain ⟨ho0, ho3⟩ := All.append.1 ho
    obtain ⟨ho1, ho2⟩ := All.append.1 ho3
    refine AG.ret hfn hret h0 ho0 (fun σ a w v hr hv => ?_)
    obtain ⟨σ', hr'⟩ := hr.fit h1 h2 ho1 ho2 hc
    exact hg σ' a w v hr' hv
   ·cases h
  ·cases h
 ·cases h
theorem ev_ok (hm : P.follows .mixedOrders = true) {f : FuncId} {N : Nat} {rds : List RD} {w0 : Base} {tgt : Tgt} {fn : Func} (hfn : P.funcs[f]? = some fn) (hg : Goal P f N fn.results.toList rds w0 tgt) :
  ∀ (n : Nat) {orc : List (Orc P)} {k : List Item} {S : FS} {l : List Prop}, ev P N fn.results.toList rds tgt n orc k S = some l → All l → AG P f N rds w0 k S
 | 0, orc, k, S, l, h, ho => by simp [ev] at h
 | n + 1, orc0, k, S0, l, h, ho => by
   simp only [ev] at h
   split at h
   ·cases h
   ·rename_i ob orc S hpre
    split at h
    ·rename_i l2 h2
     cases h
     obtain ⟨ho1, ho⟩ := All.append.1 ho
     refine AG.weak (fun σ a w hr => preAt_ok hpre ho1 hr) ?_
     clear hpre
     split at h2
     ·exact fitEnd_ok hfn (fun b cs a w => ⟨[], step_end⟩) h2 ho hg
     ·exact AG.step (fun b cs a w => step_skip) (ev_ok hm hfn hg n h2 ho)
     ·exact AG.step (fun b cs a w => step_seq) (ev_ok hm hfn hg n h2 ho)
     ·rename_i c x y k
      split at h2
      ·rename_i t v orc hc
       split at h2
       ·rename_i l3 h3
        cases h2
        obtain ⟨rfl, ho3⟩ := All.cons.1 ho
        have ih := ev_ok hm hfn hg n h3 ho3
        intro b cs σ a w hb hk hr
        have hcv := (scOf_rep hc (hr.ev c)).1
        obtain ⟨w', fr, vs, us, h4, h5⟩ := ih b cs σ a w hb hk hr
        exact ⟨w', fr, vs, us, .head (step_cond hcv) h4, h5⟩
       ·cases h2
      ·cases h2
     ·exact AG.step (fun b cs a w => step_block) (ev_ok hm hfn hg n h2 ho)
     ·exact AG.step (fun b cs a w => step_inBlock) (ev_ok hm hfn hg n h2 ho)
     ·split at h2
      ·rename_i k' hk'
       refine AG.step (fun b cs a w => step_exit hk') ?_
       split at h2
       ·unfold fitStop at h2
        split at h2
        ·rename_i stk T H
         split at h2
         ·rename_i hc
          split at h2
          ·rename_i l1 l2 h3 h4
           cases h2
           obtain ⟨rfl, ho3⟩ := All.cons.1 ho
           obtain ⟨ho1, ho2⟩ := All.append.1 ho3
           exact AG.weak (fun σ a w hr => hr.fit h3 h4 ho1 ho2 hc) hg
          ·cases h2
         ·cases h2
        ·cases h2
       ·exact ev_ok hm hfn hg n h2 ho
      ·cases h2
     ·exact fitEnd_ok hfn (fun b cs a w => ⟨_, step_ret⟩) h2 ho hg
     ·exact fitHead_ok h2 ho hg (fun b cs a w => step_loop)
     ·exact fitHead_ok h2 ho hg (fun b cs a w => step_inLoop)
     ·rename_i id ops k
      split at h2
      ·rename_i l3 orc' S' h3
       split at h2
       ·rename_i l4 h4
        cases h2
        obtain ⟨ho2, ho3⟩ := All.append.1 ho
        refine AG.region (fun σ a w hr => ?_) (ev_ok hm hfn hg n h4 ho3)
        refine wp_region ?_
        have := evOps_ok (Q := fun e a' w' => e = .normal ∧ ∃ σ', Rel w0 N S' σ' a' w') ops.toList 0 (fun j => by simp) h3 ho2 hr (fun a' w' σ' hr' => ⟨rfl, σ', hr'⟩)
        rw [Array.length_toList, ← List.range_eq_range'] at this
        exact this
       ·cases h2
      ·cases h2
     ·rename_i id ops k
      split at h2
      ·rename_i l3 orc' S' h3
       split at h2
       ·rename_i l4 h4
        cases h2
        obtain ⟨ho2, ho3⟩ := All.append.1 ho
        exact AG.region (fun σ a w hr => drawStep_ok hm h3 ho2 hr) (ev_ok hm hfn hg n h4 ho3)
       ·cases h2
      ·cases h2
     ·cases h2
    ·cases h
def startT (args : List AD) : List (Nat × AV) := go 0 args
where
 go : Nat → List AD → List (Nat × AV)
  | _, [] => []
  | i, .c x :: r => (i, .t (.c (.p false x))) :: go (i + 1) r
  | i, .agg xs :: r => (i, .t (.agg (xs.map (.p false)))) :: go (i + 1) r
  | i, .ptr e :: r => (i, .bptr false e) :: go (i + 1) r
  | i, .fn g es :: r => (i, .bfn g es) :: go (i + 1) r
theorem startT_at {w : World} : ∀ (args : List AD) (vals : List Value) (k : Nat), args.length = vals.length → (∀ (i : Nat) d v, args[i]? = some d → vals[i]? = some v → ArgOk w d v) → ∀ t,
  RepA w.heap.size w (fun _ => none) (look (startT.go k args) t) (if t < k then undef else vals.getD (t - k) undef) ∨ look (startT.go k args) t = .any
 | [], vals, k, hl, h, t => .inr rfl
 | d :: args, [], k, hl, h, t => by simp at hl
 | d :: args, v :: vals, k, hl, h, t => by
   have ih := startT_at args vals (k + 1) (by simpa using hl) (fun i d v hd hv => h (i + 1) d v (by simpa using hd) (by simpa using hv)) t
   have hd := h 0 d v rfl rfl
   have hnl : ∀ b, ¬ Live (fun _ => none) b := fun b ⟨s, v, hs, _⟩ => by cases hs
   have hK : ∀ b, b < w.heap.size → K w.heap.size w (fun _ => none) false b := fun b hb => ⟨hb, hnl b, fun e => by cases e⟩
   have next : ∀ hne : t ≠ k, (if t < k + 1 then undef else vals.getD (t - (k + 1)) undef) = (if t < k then undef else (v :: vals).getD (t - k) undef) := fun hne => by
    by_cases hlt : t < k
    ·rw [if_pos (by omega), if_pos hlt]
    ·rw [if_neg (by omega), if_neg hlt]
     have : t - k = (t - (k + 1)) + 1 := by omega
     rw [this]
     simp
   have here : ∀ av, RepA w.heap.size w (fun _ => none) av v → RepA w.heap.size w (fun _ => none) (look ((k, av) :: startT.go (k + 1) args) t) (if t < k then undef else (v :: vals).getD (t - k) undef) ∨ look ((k, av) :: startT.go (k + 1) args) t = .any := fun av hav => by
    unfold look
    rw [List.lookup_cons]
    by_cases e : t = k
    ·subst e
     simp only [beq_self_eq_true]
     left
     rw [if_neg (by omega), Nat.sub_self]
     exact hav
    ·have : (t == k) = false := by simpa using e
     rw [this, ← next e]
     exact ih
   cases d with
   | c x => exact here _ (Rep.mono hd (fun _ _ => rfl) hK)
   | agg xs =>
     obtain ⟨vs, rfl, h1, h2⟩ := hd
     refine here _ ⟨vs, rfl, by simp [h1], fun i c u hc hu => ?_⟩
     rw [List.getElem?_map] at hc
     obtain ⟨x, hx, rfl⟩ := Option.map_eq_some_iff.1 hc
     exact Rep.mono (h2 i x u hx hu) (fun _ _ => rfl) hK
   | ptr e =>
     obtain ⟨ad, rfl, h1⟩ := hd
     refine here _ ⟨ad, rfl, ?_⟩
     rcases h1 with h1 | ⟨h1, h2⟩
     ·exact .inl h1
     ·exact .inr ⟨hK _ h1, fun q x hq => by obtain ⟨u, hu, hr⟩ := h2 q x hq; exact ⟨u, hu, hr.mono (fun _ _ => rfl) hK⟩⟩
   | fn g es =>
     obtain ⟨ps, rfl, h1, h2⟩ := hd
     refine here _ ⟨ps, rfl, h1.symm, fun i e u he hu => ?_⟩
     obtain ⟨ad, rfl, h3⟩ := h2 i e u he hu
     refine ⟨ad, rfl, ?_⟩
     rcases h3 with h3 | ⟨h3, h4⟩
     ·exact .inl h3
     ·exact .inr ⟨hK _ h3, fun q x hq => by obtain ⟨u, hu, hr⟩ := h4 q x hq; exact ⟨u, hu, hr.mono (fun _ _ => rfl) hK⟩⟩
theorem VCalls.of {f : FuncId} {fn : Func} {c : Code} {args : List AD} {rds : List RD} {N : Nat} (hfn : P.funcs[f]? = some fn) (hb : fn.body = some c) (hN : max fn.ntmps args.length = N)
  (h : ∀ w0 : World, AG P f N rds (plain w0) [.code c] (mkFS (startT args) [])) : VCalls P f args rds := by
 intro w vals hl hargs cs
 let b : Frame := { (default : Frame) with fn := f, kind := .normal }
 have henter : Frame.enter P f vals.toArray .normal = b.at { tmps := vals.toArray ++ Array.replicate (fn.ntmps - vals.toArray.size) undef, defers := [] } [.code c] := by
  simp [Frame.enter, Frame.at, hfn, hb, b]
 have hrel : Rel (plain w) N (mkFS (startT args) []) (fun _ => none) { tmps := vals.toArray ++ Array.replicate (fn.ntmps - vals.toArray.size) undef, defers := [] } w := by
  refine ⟨Below.refl _ _, ?_, rfl, fun t => ?_, fun s c hs => by simp [mkFS] at hs, fun _ _ => rfl, (fun s s' v v' b hs => by cases hs), (fun b (hb : False) => hb.elim)⟩
  ·simp
   omega
  ·have h1 := startT_at (w := w) args vals 0 hl hargs t
   simp only [Nat.not_lt_zero, if_false, Nat.sub_zero] at h1
   show RepA _ _ _ (look (startT.go 0 args) t) _
   rcases h1 with h1 | h1
   ·have : (vals.toArray ++ Array.replicate (fn.ntmps - vals.toArray.size) undef).getD t undef = vals.getD t undef := by
     rw [Array.getD_eq_getD_getElem?, List.getD_eq_getElem?_getD, Array.getElem?_append]
     split
     ·simp
     ·rename_i hge
      simp at hge
      rw [List.getElem?_eq_none hge]
      simp only [Array.getElem?_replicate]
      split <;> rfl
    rw [this]
    exact h1
   ·rw [h1]; trivial
 obtain ⟨w', fr, vs, us, h1, h2, h3, h4, h5, _⟩ := h w b cs _ _ w rfl rfl hrel
 rw [← henter] at h1
 exact ⟨.returned (Av.one vs), w', fr, ⟨vs, us, rfl, h4, h5⟩, h1, h2, h3⟩
end Go.Av