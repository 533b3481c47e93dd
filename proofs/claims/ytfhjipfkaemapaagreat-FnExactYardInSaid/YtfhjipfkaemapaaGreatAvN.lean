/- What is handed back. -/
import Derived.Test.YtfhjipfkaemapaaGreatAvM
namespace Go.Av
open Go Go.RowKit
set_option linter.unusedVariables false
set_option linter.unusedSimpArgs false
variable {P : Program}
theorem fitRCs_at {H : Nat → Option Content} : ∀ {cs : List CV} {rs : List RC} {l : List Prop} {ss : List Nat}, fitRCs H cs rs = some (l, ss) → All l →
  cs.length = rs.length ∧ ∀ (i : Nat) c r, cs[i]? = some c → rs[i]? = some r → ∃ l' s', fitRC H c r = some (l', s') ∧ All l' ∧ ∀ x ∈ s', x ∈ ss
 | [], [], l, ss, h, ho => ⟨rfl, fun i c r hc => by simp at hc⟩
 | [], _ :: _, l, ss, h, ho => by simp [fitRCs] at h
 | _ :: _, [], l, ss, h, ho => by simp [fitRCs] at h
 | c :: cs, r :: rs, l, ss, h, ho => by
   simp only [fitRCs] at h
   split at h
   ·rename_i l1 s1 l2 s2 h1 h2
    simp only [Option.some.injEq, Prod.mk.injEq] at h
    obtain ⟨rfl, rfl⟩ := h
    obtain ⟨ho1, ho2⟩ := All.append.1 ho
    obtain ⟨k1, k2⟩ := fitRCs_at h2 ho2
    refine ⟨by simp [k1], fun i c' r' hc hr => ?_⟩
    cases i with
    | zero => simp at hc hr; subst hc; subst hr; exact ⟨l1, s1, h1, ho1, fun x hx => List.mem_append_left _ hx⟩
    | succ i =>
      obtain ⟨l', s', q1, q2, q3⟩ := k2 i c' r' (by simpa using hc) (by simpa using hr)
      exact ⟨l', s', q1, q2, fun x hx => List.mem_append_right _ (q3 x hx)⟩
   ·cases h
theorem fitRC_own {H : Nat → Option Content} {c : CV} {r : RC} {l : List Prop} {ss : List Nat} (h : fitRC H c r = some (l, ss)) (ho : r.isOwn = true) : ∃ s, c.sites = [s] ∧ ss = [s] := by
 cases r with
 | p x => cases ho
 | any => cases ho
 | own e z n g =>
   cases c with
   | h s =>
     simp only [fitRC] at h
     split at h
     ·split at h
      ·simp only [Option.some.injEq, Prod.mk.injEq] at h
       exact ⟨s, rfl, h.2.symm⟩
      ·cases h
     ·cases h
   | _ => simp [fitRC] at h
 | ownN e ei n m g =>
   cases c with
   | hn s =>
     simp only [fitRC] at h
     split at h
     ·split at h
      ·simp only [Option.some.injEq, Prod.mk.injEq] at h
       exact ⟨s, rfl, h.2.symm⟩
      ·cases h
     ·cases h
   | _ => simp [fitRC] at h
theorem nodupN_app {l r : List Nat} (h : nodupN (l ++ r) = true) : nodupN r = true ∧ ∀ x ∈ l, x ∉ r := by
 induction l with
 | nil => exact ⟨h, fun x hx => by simp at hx⟩
 | cons y l ih =>
   simp only [List.cons_append, nodupN, Bool.and_eq_true, Bool.not_eq_true'] at h
   obtain ⟨h1, h2⟩ := h
   obtain ⟨h3, h4⟩ := ih h2
   refine ⟨h3, fun x hx hr => ?_⟩
   rcases List.mem_cons.1 hx with rfl | hx
   ·have : (l ++ r).contains x = true := List.contains_iff_mem.2 (List.mem_append_right _ hr)
    rw [this] at h1
    cases h1
   ·exact h4 x hx hr
theorem fitRCs_inj {H : Nat → Option Content} : ∀ {cs : List CV} {rs : List RC} {l : List Prop} {ss : List Nat}, fitRCs H cs rs = some (l, ss) → All l → nodupN ss = true →
  ∀ (i i' s : Nat) (r r' : RC) (c c' : CV), rs[i]? = some r → rs[i']? = some r' → r.isOwn = true → r'.isOwn = true → cs[i]? = some c → cs[i']? = some c' → c.sites = [s] → c'.sites = [s] → i = i'
 | [], [], l, ss, h, ho, hn => fun i i' s r r' c c' h1 => by simp at h1
 | [], _ :: _, l, ss, h, ho, hn => by simp [fitRCs] at h
 | _ :: _, [], l, ss, h, ho, hn => by simp [fitRCs] at h
 | c0 :: cs, r0 :: rs, l, ss, h, ho, hn => by
   simp only [fitRCs] at h
   split at h
   ·rename_i l1 s1 l2 s2 h1 h2
    simp only [Option.some.injEq, Prod.mk.injEq] at h
    obtain ⟨rfl, rfl⟩ := h
    obtain ⟨ho1, ho2⟩ := All.append.1 ho
    obtain ⟨hn2, hne⟩ := nodupN_app hn
    have hmem : ∀ (i s : Nat) (r : RC) (c : CV), rs[i]? = some r → r.isOwn = true → cs[i]? = some c → c.sites = [s] → s ∈ s2 := fun i s r c hi hro hc hs => by
     obtain ⟨l', s', q1, q2, q3⟩ := (fitRCs_at h2 ho2).2 i _ _ hc hi
     obtain ⟨s0, e1, e2⟩ := fitRC_own q1 hro
     rw [hs] at e1
     cases e1
     exact q3 s (by rw [e2]; simp)
    have hhead : ∀ s : Nat, r0.isOwn = true → c0.sites = [s] → s ∈ s1 := fun s hro hs => by
     obtain ⟨s0, e1, e2⟩ := fitRC_own h1 hro
     rw [hs] at e1
     cases e1
     rw [e2]; simp
    intro i i' s r r' c c' k1 k2 o1 o2 k3 k4 t1 t2
    cases i with
    | zero =>
      cases i' with
      | zero => rfl
      | succ i' =>
        simp at k1 k3
        subst k1
        subst k3
        exact (hne s (hhead s o1 t1) (hmem i' s r' c' (by simpa using k2) o2 (by simpa using k4) t2)).elim
    | succ i =>
      cases i' with
      | zero =>
        simp at k2 k4
        subst k2
        subst k4
        exact (hne s (hhead s o2 t2) (hmem i s r c (by simpa using k1) o1 (by simpa using k3) t1)).elim
      | succ i' =>
        rw [fitRCs_inj h2 ho2 hn2 i i' s r r' c c' (by simpa using k1) (by simpa using k2) o1 o2 (by simpa using k3) (by simpa using k4) t1 t2]
   ·cases h
def ghost (σ : Sig) : CV → Value → Value
 | .hn s, _ => (σ s).getD undef
 | .hv s x, _ => x
 | _, v => v
theorem ghost_hdr {base : Nat} {w : World} {σ : Sig} {c : CV} {u : Value} (h : RepC base w σ c u) : hdr (ghost σ c u) = u := by
 cases c with
 | hn s =>
   obtain ⟨⟨us, h1⟩, _⟩ := h
   show hdr ((σ s).getD undef) = u
   rw [h1]
   rfl
 | hv s x => exact h.2.1.symm
 | _ => exact hdr_one h.one
theorem ghost_own {base : Nat} {w : World} {σ : Sig} {c : CV} {u : Value} {s : Nat} (h : RepC base w σ c u) (hs : c.sites = [s]) : σ s = some (ghost σ c u) := by
 cases c with
 | h s' => simp only [CV.sites, List.cons.injEq, and_true] at hs; subst hs; exact h.1
 | hn s' =>
   simp only [CV.sites, List.cons.injEq, and_true] at hs
   subst hs
   obtain ⟨⟨us, h1⟩, _⟩ := h
   show σ s' = some ((σ s').getD undef)
   rw [h1]
   rfl
 | hv s' x => simp only [CV.sites, List.cons.injEq, and_true] at hs; subst hs; exact h.1
 | _ => simp [CV.sites] at hs
theorem resOk_of {w0 : Base} {N : Nat} {S : FS} {σ : Sig} {a : Act} {w : World} {rds : List RD} {cs : List CV} {vs us : List Value} {l : List Prop} {ss : List Nat} (h : Rel w0 N S σ a w) (hsh : Shapes rds vs us)
  (hr : RepCs w0.base w σ cs us) (hf : fitRCs S.H cs (rds.flatMap RD.cells) = some (l, ss)) (ho : All l) (hn : nodupN ss = true) : ∃ gs, ResOk w0.base w rds vs gs ∧ ∀ b, Owns (rds.flatMap RD.cells) gs b → ¬ w0.F b := by
 generalize hrs : rds.flatMap RD.cells = rs at hf
 obtain ⟨hlen, hat⟩ := fitRCs_at hf ho
 obtain ⟨gs, hgs⟩ : ∃ gs, gs = List.zipWith (ghost σ) cs us := ⟨_, rfl⟩
 have hget : ∀ (i : Nat) g, gs[i]? = some g → ∃ c u, cs[i]? = some c ∧ us[i]? = some u ∧ g = ghost σ c u ∧ RepC w0.base w σ c u := fun i g hg => by
  rw [hgs, List.getElem?_zipWith] at hg
  cases hc : cs[i]? with
  | none => rw [hc] at hg; simp at hg
  | some c =>
    cases hu : us[i]? with
    | none => rw [hc, hu] at hg; simp at hg
    | some u =>
      rw [hc, hu] at hg
      simp at hg
      exact ⟨c, u, rfl, rfl, hg.symm, hr.2 i c u hc hu⟩
 have hmap : gs.map hdr = us := by
  refine List.ext_getElem (by rw [List.length_map, hgs, List.length_zipWith, hr.1]; omega) fun i hi hi' => ?_
  have hig : i < gs.length := by simpa using hi
  obtain ⟨c, u, hc, hu, e1, hcu⟩ := hget i _ (List.getElem?_eq_getElem hig)
  rw [List.getElem_map, e1, ghost_hdr hcu]
  rw [List.getElem?_eq_getElem hi'] at hu
  exact (Option.some.inj hu).symm
 have own : ∀ (i : Nat) (r : RC) g, rs[i]? = some r → r.isOwn = true → gs[i]? = some g → ∃ s c, cs[i]? = some c ∧ c.sites = [s] ∧ σ s = some g := fun i r g hi hro hg => by
  obtain ⟨c, u, hc, hu, e1, hcu⟩ := hget i g hg
  obtain ⟨l', s', q1, q2, q3⟩ := hat i _ _ hc hi
  obtain ⟨s, e2, _⟩ := fitRC_own q1 hro
  exact ⟨s, c, hc, e2, by rw [e1]; exact ghost_own hcu e2⟩
 have hK : ∀ b, K w0.base w σ true b → w0.base ≤ b ∧ b < w.heap.size ∧ ¬ Owns rs gs b := fun b ⟨k1, k2, k3⟩ => ⟨k3 rfl, k1, fun ⟨i, r, u, hi, hro, hu, hb⟩ => by
  obtain ⟨s, _, _, _, hs⟩ := own i r u hi hro hu
  exact k2 ⟨s, u, hs, hb⟩⟩
 refine ⟨gs, ⟨by rw [hmap]; exact hsh, fun i r g hi hg => ?_, fun i i' r r' u u' b hi hi' hro hro' hu hu' hb hb' => ?_⟩, fun b ⟨i, r, u, hi, hro, hu, hb⟩ hF => ?_⟩
 ·rw [hrs] at hi ⊢
  obtain ⟨c, u, hc, hu, e1, hcu⟩ := hget i g hg
  obtain ⟨l', s', q1, q2, q3⟩ := hat i _ _ hc hi
  cases r with
  | any => rw [e1]; cases c <;> first | exact hcu | exact hcu.2 | exact hcu.one | (simp [fitRC] at q1; done)
  | own e z n gg =>
    cases c with
    | h s =>
      simp only [fitRC] at q1
      split at q1
      ·rename_i e2 z2 n' g' fr hH
       split at q1
       ·rename_i hc2
        obtain ⟨rfl, rfl, rfl⟩ := hc2
        simp only [Option.some.injEq, Prod.mk.injEq] at q1
        obtain ⟨rfl, rfl⟩ := q1
        obtain ⟨rfl, hgg⟩ : GE n' g' n gg := q2
        obtain ⟨v, hv, xs, k1, k2, k3, k4⟩ := h.sites s _ hH
        rw [hcu.1] at hv
        cases hv
        rw [e1]
        exact ⟨xs, k1, k2, fun j hj => (hgg j hj).1 ▸ k3 j hj, fun j q x hj hx => by
         obtain ⟨y, hy, hyx⟩ := (hgg j hj).2 q x hx
         obtain ⟨u2, hu2, hx2⟩ := k4 j q y hj hy
         exact ⟨u2, hu2, hyx _ _ _ (hx2.mono (fun _ _ => rfl) hK)⟩⟩
       ·cases q1
      ·cases q1
    | _ => simp [fitRC] at q1
  | ownN e ei n m gg =>
    cases c with
    | hn s =>
      simp only [fitRC] at q1
      split at q1
      ·rename_i e2 ei2 n' m' g' hH
       split at q1
       ·rename_i hc2
        obtain ⟨rfl, rfl⟩ := hc2
        simp only [Option.some.injEq, Prod.mk.injEq] at q1
        obtain ⟨rfl, rfl⟩ := q1
        obtain ⟨v, hv, hnest⟩ := h.sites s _ hH
        have hs := ghost_own hcu rfl
        rw [hv] at hs
        cases hs
        rw [e1]
        exact NestOk.re hnest q2
       ·cases q1
      ·cases q1
    | _ => simp [fitRC] at q1
  | p y =>
    cases c with
    | any => simp [fitRC] at q1
    | h s => simp [fitRC] at q1
    | hn s => simp [fitRC] at q1
    | hv s x => simp [fitRC] at q1
    | p fr x =>
      simp only [fitRC] at q1
      split at q1
      ·rename_i hfr
       simp only [Option.some.injEq, Prod.mk.injEq] at q1
       obtain ⟨rfl, rfl⟩ := q1
       replace hcu : Rep w (K w0.base w σ fr) x u := hcu
       rw [e1]
       show Rep w _ y u
       refine q2 w _ u ?_
       rcases (Bool.or_eq_true_iff).1 hfr with e | e
       ·subst e
        exact hcu.mono (fun _ _ => rfl) hK
       ·cases x with
        | sc v => cases hcu with | sc v h1 => exact .sc _ h1
        | _ => cases e
      ·cases q1
 ·rw [hrs] at hi hi'
  obtain ⟨s, c, hc, hs1, hs⟩ := own i r u hi hro hu
  obtain ⟨s', c', hc', hs1', hs'⟩ := own i' r' u' hi' hro' hu'
  have e1 := h.inj s s' u u' b hs hs' hb hb'
  subst e1
  exact fitRCs_inj hf ho hn i i' s r r' c c' hi hi' hro hro' hc hc' hs1 hs1'
 ·obtain ⟨s, c, hc, hs1, hs⟩ := own i r u hi hro hu
  exact (h.prot b hF).2.1 ⟨s, u, hs, hb⟩
def resRun (a : Act) : ResultVar → Sem Value
 | .tmp t => pure (a.tmps.getD t undef)
 | .cell x t => do loadVar t (← asAddr (a.tmps.getD x undef))
theorem resAV_ok {w0 : Base} {N : Nat} {S : FS} {σ : Sig} {a : Act} {w : World} (h : Rel w0 N S σ a w) {r : ResultVar} {av : AV} (hr : resAV P S r = some av) :
  ∃ v, (resRun a r).run P w = .ok v w ∧ RepA w0.base w σ av v := by
 unfold resAV at hr
 split at hr
 ·rename_i t
  cases hr
  exact ⟨_, rfl, h.tmps t⟩
 ·rename_i x t
  split at hr
  ·rename_i cs hp
   obtain ⟨ad, hx, hpl⟩ := place_of hp (h.tmps x) h.sites
   obtain ⟨v, hv, hrv⟩ := run_loadV (P := P) hr hpl
   refine ⟨v, ?_, hrv⟩
   simp only [resRun, Sem.run_bind, hx, asAddr]
   exact hv
  ·cases hr
theorem fitRets_ok {w0 : Base} {N : Nat} {S : FS} {σ : Sig} {a : Act} {w : World} (h : Rel w0 N S σ a w) : ∀ {rvs : List ResultVar} {rds : List RD} {cs : List CV}, fitRets P S rvs rds = some cs →
  ∃ vs us, (rvs.mapM (resRun a)).run P w = Result.ok vs w ∧ Shapes rds vs us ∧ RepCs w0.base w σ cs us
 | [], [], cs, hf => by
   simp only [fitRets, Option.some.injEq] at hf
   subst hf
   exact ⟨[], [], rfl, .nil, RepCs.nil⟩
 | [], _ :: _, cs, hf => by simp [fitRets] at hf
 | _ :: _, [], cs, hf => by simp [fitRets] at hf
 | r :: rvs, d :: rds, cs, hf => by
   simp only [fitRets] at hf
   split at hf
   ·rename_i av hav
    split at hf
    ·rename_i l l' h1 h2
     split at hf
     ·rename_i hlen
      cases hf
      obtain ⟨v, hv, hrv⟩ := resAV_ok h hav
      obtain ⟨vs, us, q1, q2, q3⟩ := fitRets_ok h h2
      obtain ⟨us1, hs1, hr1⟩ : ∃ us1, Shape1 d v us1 ∧ RepCs w0.base w σ l us1 := by
       unfold cellsR at h1
       split at h1
       ·rename_i x y
        cases h1
        refine ⟨[v], .c _ _, ⟨rfl, fun i c u hc hu => ?_⟩⟩
        cases i with
        | zero => simp at hc hu; subst hc; subst hu; exact hrv
        | succ i => simp at hc
       ·rename_i s off
        cases h1
        obtain ⟨b, _, rfl⟩ := hrv
        refine ⟨[_], .c _ _, ⟨rfl, fun i c u hc hu => ?_⟩⟩
        cases i with
        | zero => simp at hc hu; subst hc; subst hu; rfl
        | succ i => simp at hc
       ·rename_i xs ys
        cases h1
        obtain ⟨us, rfl, hrv⟩ := hrv
        exact ⟨us, .agg _ _ (by rw [← hrv.1]; exact hlen.symm), hrv⟩
       ·cases h1
      refine ⟨v :: vs, us1 ++ us, ?_, .cons hs1 q2, hr1.append q3⟩
      rw [List.mapM_cons]
      simp only [Sem.run_bind]
      rw [hv]
      simp only [Result.andThen_ok]
      rw [q1]
      rfl
     ·cases hf
    ·cases hf
   ·cases hf
theorem AG.ret {f : FuncId} {N : Nat} {rds : List RD} {w0 : Base} {k : List Item} {S : FS} {fn : Func} {l : List Prop} (hfn : P.funcs[f]? = some fn) (hret : ∀ (b : Frame) (cs : List Frame) (a : Act) (w : World), ∃ todo, Go.step P (lone (b.at a k) cs w) = .next (lone { b.at a todo with mode := .returning } cs w))
  (hf : fitRet P S fn.results.toList rds = some l) (ho : All l) (hQ : ∀ σ a w v, Rel w0 N S σ a w → (∀ t, fn.results.toList = [.tmp t] → v = a.tmps.getD t undef) → w0.Q w v) : AG P f N rds w0 k S := by
 intro b cs σ a w hb hk hr
 unfold fitRet at hf
 split at hf
 ·rename_i cells h1
  split at hf
  ·rename_i l' ss h2
   split at hf
   ·rename_i hn
    cases hf
    obtain ⟨vs, us, q1, q2, q3⟩ := fitRets_ok hr h1
    obtain ⟨todo, hs⟩ := hret b cs a w
    obtain ⟨gs, hgs, hgF⟩ := resOk_of hr q2 q3 h2 ho hn
    refine ⟨w, _, vs, gs, .one hs, hb, ⟨rfl, hr.defers, hk, fn, by show P.funcs[b.fn]? = some fn; rw [hb]; exact hfn, ?_⟩, hr.below, hgs, fun b hb => (hr.prot b hb).2.2, hQ σ a w _ hr (fun t ht => by
     rw [ht] at q1
     have q2 : Result.ok [a.tmps.getD t undef] w = Result.ok vs w := q1
     cases q2
     rfl), hgF⟩
    show (results fn a.tmps).run P w = .ok (Av.one vs) w
    have hres : results fn a.tmps = (do let vs ← fn.results.mapM (resRun a); pure (if h : vs.size = 1 then vs[0] else .tuple vs)) := by
     unfold results
     rfl
    rw [hres]
    simp only [Sem.run_bind]
    have q1' : (fn.results.mapM (resRun a)).run P w = Result.ok vs.toArray w := by
     rw [Array.mapM_eq_mapM_toList]
     simp only [map_eq_pure_bind, Sem.run_bind]
     rw [q1]
     rfl
    rw [q1']
    simp only [Result.andThen_ok, Av.one, List.size_toArray]
    split
    ·rename_i h3
     rfl
    ·rfl
   ·cases hf
  ·cases hf
 ·cases hf
end Go.Av