/- What is handed back. -/
import Derived.Test.YtnnppdjmhellcaaGreatAvM
namespace Go.Av
open Go Go.RowKit
set_option linter.unusedVariables false
set_option linter.unusedSimpArgs false
variable {P : Program}

theorem fitRCs_at {H : Nat → Option Content} : ∀ {cs : List CV} {rs : List RC} {l : List Prop} {ss : List Nat}, fitRCs H cs rs = some (l, ss) → All l →
    cs.length = rs.length ∧ ∀ (i : Nat) c r, cs[i]? = some c → rs[i]? = some r → ∃ l' s', fitRC H c r = some (l', s') ∧ All l' ∧ ∀ x ∈ s', x ∈ ss
  | [], [], l, ss, h, ho => ⟨rfl, fun i c r hc => by simp at hc⟩
  | [], _ :: _, l, ss, h, ho => by simp [fitRCs] at h
  | _ :: _, [], l, ss, h, ho => by simp [fitRCs] at h
  | c :: cs, r :: rs, l, ss, h, ho => by
    simp only [fitRCs] at h
    split at h
    · rename_i l1 s1 l2 s2 h1 h2
      simp only [Option.some.injEq, Prod.mk.injEq] at h
      obtain ⟨rfl, rfl⟩ := h
      obtain ⟨ho1, ho2⟩ := All.append.1 ho
      obtain ⟨k1, k2⟩ := fitRCs_at h2 ho2
      refine ⟨by simp [k1], fun i c' r' hc hr => ?_⟩
      cases i with
      | zero => simp at hc hr; subst hc; subst hr; exact ⟨l1, s1, h1, ho1, fun x hx => List.mem_append_left _ hx⟩
      | succ i =>
        obtain ⟨l', s', q1, q2, q3⟩ := k2 i c' r' (by simpa using hc) (by simpa using hr)
        exact ⟨l', s', q1, q2, fun x hx => List.mem_append_right _ (q3 x hx)⟩
    · cases h
theorem fitRC_own {H : Nat → Option Content} {c : CV} {e z n : Nat} {g : Nat → List V} {l : List Prop} {ss : List Nat} (h : fitRC H c (.own e z n g) = some (l, ss)) : ∃ s n' g', c = .h s ∧ ss = [s] ∧ H s = some (.row e z n' g' true) ∧ l = [GE n' g' n g] := by
  unfold fitRC at h
  split at h
  · rename_i heq; cases heq
  · rename_i s e2 z2 n2 g2 heq
    cases heq
    split at h
    · rename_i e' z' n' g' fr hH
      split at h
      · rename_i hc
        obtain ⟨rfl, rfl, rfl⟩ := hc
        simp only [Option.some.injEq, Prod.mk.injEq] at h
        obtain ⟨rfl, rfl⟩ := h
        exact ⟨s, n', g', rfl, rfl, hH, rfl⟩
      · cases h
    · cases h
  · cases h
theorem nodupN_app {l r : List Nat} (h : nodupN (l ++ r) = true) : nodupN r = true ∧ ∀ x ∈ l, x ∉ r := by
  induction l with
  | nil => exact ⟨h, fun x hx => by simp at hx⟩
  | cons y l ih =>
    simp only [List.cons_append, nodupN, Bool.and_eq_true, Bool.not_eq_true'] at h
    obtain ⟨h1, h2⟩ := h
    obtain ⟨h3, h4⟩ := ih h2
    refine ⟨h3, fun x hx hr => ?_⟩
    rcases List.mem_cons.1 hx with rfl | hx
    · have : (l ++ r).contains x = true := List.contains_iff_mem.2 (List.mem_append_right _ hr)
      rw [this] at h1
      cases h1
    · exact h4 x hx hr
theorem fitRCs_inj {H : Nat → Option Content} : ∀ {cs : List CV} {rs : List RC} {l : List Prop} {ss : List Nat}, fitRCs H cs rs = some (l, ss) → All l → nodupN ss = true →
    ∀ (i i' : Nat) (s e z n e' z' n' : Nat) (g g' : Nat → List V), rs[i]? = some (.own e z n g) → rs[i']? = some (.own e' z' n' g') → cs[i]? = some (.h s) → cs[i']? = some (.h s) → i = i'
  | [], [], l, ss, h, ho, hn => fun i i' s e z n e' z' n' g g' h1 => by simp at h1
  | [], _ :: _, l, ss, h, ho, hn => by simp [fitRCs] at h
  | _ :: _, [], l, ss, h, ho, hn => by simp [fitRCs] at h
  | c :: cs, r :: rs, l, ss, h, ho, hn => by
    simp only [fitRCs] at h
    split at h
    · rename_i l1 s1 l2 s2 h1 h2
      simp only [Option.some.injEq, Prod.mk.injEq] at h
      obtain ⟨rfl, rfl⟩ := h
      obtain ⟨ho1, ho2⟩ := All.append.1 ho
      obtain ⟨hn2, hne⟩ := nodupN_app hn
      have hmem : ∀ (i s e z n : Nat) (g : Nat → List V), rs[i]? = some (.own e z n g) → cs[i]? = some (.h s) → s ∈ s2 := fun i s e z n g hi hc => by
        obtain ⟨l', s', q1, q2, q3⟩ := (fitRCs_at h2 ho2).2 i _ _ hc hi
        obtain ⟨s0, _, _, e1, e2, _⟩ := fitRC_own q1
        cases e1
        exact q3 s (by rw [e2]; simp)
      have hhead : ∀ (s e z n : Nat) (g : Nat → List V), r = .own e z n g → c = .h s → s ∈ s1 := fun s e z n g hi hc => by
        subst hi
        subst hc
        obtain ⟨s0, _, _, e1, e2, _⟩ := fitRC_own h1
        cases e1
        rw [e2]; simp
      intro i i' s e z n e' z' n' g g' k1 k2 k3 k4
      cases i with
      | zero =>
        cases i' with
        | zero => rfl
        | succ i' =>
          simp at k1 k3
          exact (hne s (hhead s e z n g k1 k3) (hmem i' s e' z' n' g' (by simpa using k2) (by simpa using k4))).elim
      | succ i =>
        cases i' with
        | zero =>
          simp at k2 k4
          exact (hne s (hhead s e' z' n' g' k2 k4) (hmem i s e z n g (by simpa using k1) (by simpa using k3))).elim
        | succ i' =>
          rw [fitRCs_inj h2 ho2 hn2 i i' s e z n e' z' n' g g' (by simpa using k1) (by simpa using k2) (by simpa using k3) (by simpa using k4)]
    · cases h

theorem resOk_of {w0 : Base} {N : Nat} {S : FS} {σ : Sig} {a : Act} {w : World} {rds : List RD} {cs : List CV} {vs us : List Value} {l : List Prop} {ss : List Nat} (h : Rel w0 N S σ a w) (hsh : Shapes rds vs us)
    (hr : RepCs w0.heap.size w σ cs us) (hf : fitRCs S.H cs (rds.flatMap RD.cells) = some (l, ss)) (ho : All l) (hn : nodupN ss = true) : ResOk w0 w rds vs us := by
  generalize hrs : rds.flatMap RD.cells = rs at hf
  obtain ⟨hlen, hat⟩ := fitRCs_at hf ho
  have own : ∀ (i e z n : Nat) (g : Nat → List V) u, rs[i]? = some (.own e z n g) → us[i]? = some u → ∃ s n' g', cs[i]? = some (.h s) ∧ σ s = some u ∧ S.H s = some (.row e z n' g' true) ∧ GE n' g' n g := fun i e z n g u hi hu => by
    have hic : i < cs.length := by rw [hlen]; exact (List.getElem?_eq_some_iff.1 hi).1
    have hc := List.getElem?_eq_getElem hic
    obtain ⟨l', s', q1, q2, q3⟩ := hat i _ _ hc hi
    obtain ⟨s, n', g', e1, e2, e3, e4⟩ := fitRC_own q1
    rw [e1] at hc
    have h1 := hr.2 i _ u hc hu
    rw [e4] at q2
    exact ⟨s, n', g', hc, h1.1, e3, q2⟩
  have hK : ∀ b, K w0.heap.size w σ true b → w0.heap.size ≤ b ∧ b < w.heap.size ∧ ¬ Owns rs us b := fun b ⟨k1, k2, k3⟩ => ⟨k3 rfl, k1, fun ⟨i, e, z, n, g, u, hi, hu, hb⟩ => by
    obtain ⟨s, _, _, _, hs, _⟩ := own i e z n g u hi hu
    exact k2 ⟨s, u, hs, hb⟩⟩
  refine ⟨hsh, fun i r u hi hu => ?_, fun i i' e z n e' z' n' g g' u u' b hi hi' hu hu' hb hb' => ?_⟩
  · rw [hrs] at hi ⊢
    cases r with
    | own e z n g =>
      obtain ⟨s, n', g', hc, hs, hH, rfl, hg⟩ := own i e z n g u hi hu
      obtain ⟨v, hv, xs, k1, k2, k3, k4⟩ := h.sites s _ hH
      rw [hs] at hv
      cases hv
      exact ⟨xs, k1, k2, fun j hj => (hg j hj).1 ▸ k3 j hj, fun j q x hj hx => by
        obtain ⟨y, hy, hyx⟩ := (hg j hj).2 q x hx
        obtain ⟨u2, hu2, hx2⟩ := k4 j q y hj hy
        exact ⟨u2, hu2, hyx _ _ _ (hx2.mono (fun _ _ => rfl) hK)⟩⟩
    | p y =>
      have hic : i < cs.length := by rw [hlen]; exact (List.getElem?_eq_some_iff.1 hi).1
      have hc := List.getElem?_eq_getElem hic
      obtain ⟨l', s', q1, q2, q3⟩ := hat i _ _ hc hi
      have h1 := hr.2 i _ u hc hu
      generalize cs[i] = c at q1 h1
      cases c with
      | any => simp [fitRC] at q1
      | h s => simp [fitRC] at q1
      | p fr x =>
        simp only [fitRC] at q1
        split at q1
        · rename_i hfr
          simp only [Option.some.injEq, Prod.mk.injEq] at q1
          obtain ⟨rfl, rfl⟩ := q1
          replace h1 : Rep w (K w0.heap.size w σ fr) x u := h1
          show Rep w _ y u
          refine q2 w _ u ?_
          rcases (Bool.or_eq_true_iff).1 hfr with e | e
          · subst e
            exact h1.mono (fun _ _ => rfl) hK
          · cases x with
            | row => cases e
            | sc v => cases h1 with | sc v h1 => exact .sc _ h1
        · cases q1
  · rw [hrs] at hi hi'
    obtain ⟨s, _, _, hc, hs, _⟩ := own i e z n g u hi hu
    obtain ⟨s', _, _, hc', hs', _⟩ := own i' e' z' n' g' u' hi' hu'
    have e1 := h.inj s s' u u' b hs hs' hb hb'
    subst e1
    exact fitRCs_inj hf ho hn i i' s e z n e' z' n' g g' hi hi' hc hc'

def resRun (a : Act) : ResultVar → Sem Value
  | .tmp t => pure (a.tmps.getD t undef)
  | .cell x t => do loadVar t (← asAddr (a.tmps.getD x undef))
theorem resAV_ok {w0 : Base} {N : Nat} {S : FS} {σ : Sig} {a : Act} {w : World} (h : Rel w0 N S σ a w) {r : ResultVar} {av : AV} (hr : resAV P S r = some av) :
    ∃ v, (resRun a r).run P w = .ok v w ∧ RepA w0.heap.size w σ av v := by
  unfold resAV at hr
  split at hr
  · rename_i t
    cases hr
    exact ⟨_, rfl, h.tmps t⟩
  · rename_i x t
    split at hr
    · rename_i cs hp
      obtain ⟨ad, hx, hpl⟩ := place_of hp (h.tmps x) h.sites
      obtain ⟨v, hv, hrv⟩ := run_loadV (P := P) hr hpl
      refine ⟨v, ?_, hrv⟩
      simp only [resRun, Sem.run_bind, hx, asAddr]
      exact hv
    · cases hr

theorem fitRets_ok {w0 : Base} {N : Nat} {S : FS} {σ : Sig} {a : Act} {w : World} (h : Rel w0 N S σ a w) : ∀ {rvs : List ResultVar} {rds : List RD} {cs : List CV}, fitRets P S rvs rds = some cs →
    ∃ vs us, (rvs.mapM (resRun a)).run P w = Result.ok vs w ∧ Shapes rds vs us ∧ RepCs w0.heap.size w σ cs us
  | [], [], cs, hf => by
    simp only [fitRets, Option.some.injEq] at hf
    subst hf
    exact ⟨[], [], rfl, .nil, RepCs.nil⟩
  | [], _ :: _, cs, hf => by simp [fitRets] at hf
  | _ :: _, [], cs, hf => by simp [fitRets] at hf
  | r :: rvs, d :: rds, cs, hf => by
    simp only [fitRets] at hf
    split at hf
    · rename_i av hav
      split at hf
      · rename_i l l' h1 h2
        split at hf
        · rename_i hlen
          cases hf
          obtain ⟨v, hv, hrv⟩ := resAV_ok h hav
          obtain ⟨vs, us, q1, q2, q3⟩ := fitRets_ok h h2
          obtain ⟨us1, hs1, hr1⟩ : ∃ us1, Shape1 d v us1 ∧ RepCs w0.heap.size w σ l us1 := by
            unfold cellsR at h1
            split at h1
            · rename_i x y
              cases h1
              refine ⟨[v], .c _ _, ⟨rfl, fun i c u hc hu => ?_⟩⟩
              cases i with
              | zero => simp at hc hu; subst hc; subst hu; exact hrv
              | succ i => simp at hc
            · rename_i xs ys
              cases h1
              obtain ⟨us, rfl, hrv⟩ := hrv
              exact ⟨us, .agg _ _ (by rw [← hrv.1]; exact hlen.symm), hrv⟩
            · cases h1
          refine ⟨v :: vs, us1 ++ us, ?_, .cons hs1 q2, hr1.append q3⟩
          rw [List.mapM_cons]
          simp only [Sem.run_bind]
          rw [hv]
          simp only [Result.andThen_ok]
          rw [q1]
          rfl
        · cases hf
      · cases hf
    · cases hf

theorem AG.ret {f : FuncId} {N : Nat} {rds : List RD} {w0 : Base} {k : List Item} {S : FS} {fn : Func} {l : List Prop} (hfn : P.funcs[f]? = some fn) (hret : ∀ (b : Frame) (cs : List Frame) (a : Act) (w : World), ∃ todo, Go.step P (lone (b.at a k) cs w) = .next (lone { b.at a todo with mode := .returning } cs w))
    (hf : fitRet P S fn.results.toList rds = some l) (ho : All l) : AG P f N rds w0 k S := by
  intro b cs σ a w hb hk hr
  unfold fitRet at hf
  split at hf
  · rename_i cells h1
    split at hf
    · rename_i l' ss h2
      split at hf
      · rename_i hn
        cases hf
        obtain ⟨vs, us, q1, q2, q3⟩ := fitRets_ok hr h1
        obtain ⟨todo, hs⟩ := hret b cs a w
        refine ⟨w, _, vs, us, .one hs, hb, ⟨rfl, hr.defers, hk, fn, by show P.funcs[b.fn]? = some fn; rw [hb]; exact hfn, ?_⟩, hr.below, resOk_of hr q2 q3 h2 ho hn, fun b hb => (hr.prot b hb).2.2⟩
        show (results fn a.tmps).run P w = .ok (Av.one vs) w
        have hres : results fn a.tmps = (do let vs ← fn.results.mapM (resRun a); pure (if h : vs.size = 1 then vs[0] else .tuple vs)) := by
          unfold results
          rfl
        rw [hres]
        simp only [Sem.run_bind]
        have q1' : (fn.results.mapM (resRun a)).run P w = Result.ok vs.toArray w := by
          rw [Array.mapM_eq_mapM_toList]
          simp only [map_eq_pure_bind, Sem.run_bind]
          rw [q1]
          rfl
        rw [q1']
        simp only [Result.andThen_ok, Av.one, List.size_toArray]
        split
        · rename_i h3
          rfl
        · rfl
      · cases hf
    · cases hf
  · cases hf
end Go.Av
