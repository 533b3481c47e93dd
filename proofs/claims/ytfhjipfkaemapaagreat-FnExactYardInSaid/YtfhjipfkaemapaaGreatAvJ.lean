/- Appends. -/
import Derived.Test.YtfhjipfkaemapaaGreatAvI
namespace Go.Av
open Go Go.RowKit
set_option linter.unusedVariables false
set_option linter.unusedSimpArgs false
def srcOf (S : FS) : AV → Option (Nat × Nat × (Nat → List V) × Bool)
 | .t (.c (.h s)) => match S.H s with
   | some (.row _ z n g fr) => some (z, n, g, fr)
   | _ => none
 | .t (.c (.p fr (.row z n g))) => some (z, n, g, fr)
 | _ => none
theorem news_of_rep {w : World} {ok : Nat → Prop} {z n : Nat} {g : Nat → List V} {A : Option Addr} {m c : Nat} (h : Rep w ok (.row z n g) (.slice A m c)) (hz : 0 < z) :
  m = n ∧ (∀ j, j < n → (g j).length = z) ∧ ((A = none ∧ n = 0 ∧ c = 0) ∨ ∃ ad, A = some ad ∧ ∃ news : List Value, news.length = n * z ∧ (∀ (j : Nat) u, news[j]? = some u → w.cell? (ad.add j) = some u) ∧ (∀ u ∈ news, u.oneCell' = true) ∧
   ∀ (j q : Nat) y, j < n → (g j)[q]? = some y → ∃ u, news[j * z + q]? = some u ∧ Rep w ok y u) := by
 cases h with
 | none z g A c h0 =>
   refine ⟨rfl, fun j hj => by omega, ?_⟩
   cases A with
   | none => exact .inl ⟨rfl, rfl, h0 rfl⟩
   | some ad => exact .inr ⟨ad, rfl, [], by simp, fun j u hj => by simp at hj, fun u hu => by simp at hu, fun j q y hj => by omega⟩
 | row z n g ad c u hn hc hok hzl hu hr =>
   have hmod : ∀ j q, q < z → (j * z + q) / z = j ∧ (j * z + q) % z = q := fun j q hq => by
    constructor
    ·rw [Nat.mul_comm, Nat.mul_add_div hz, Nat.div_eq_of_lt hq, Nat.add_zero]
    ·rw [Nat.mul_comm, Nat.mul_add_mod, Nat.mod_eq_of_lt hq]
   refine ⟨rfl, hzl, .inr ⟨ad, rfl, (List.range (n * z)).map fun k => u (k / z) (k % z), by simp, fun k x hk => ?_, fun x hx => ?_, fun j q y hj hy => ?_⟩⟩
   ·rw [List.getElem?_map] at hk
    obtain ⟨k', hk', rfl⟩ := Option.map_eq_some_iff.1 hk
    have hk2 := List.getElem?_eq_some_iff.1 hk'
    obtain ⟨hlt, he⟩ := hk2
    simp at hlt he
    subst he
    have := hu (k / z) (k % z) (Nat.div_lt_of_lt_mul (by rw [Nat.mul_comm]; exact hlt)) (Nat.mod_lt _ hz)
    rw [Nat.div_add_mod' k z] at this
    exact this
   ·obtain ⟨k, hk, rfl⟩ := List.mem_map.1 hx
    have hk : k < n * z := by simpa using hk
    have h1 : k / z < n := Nat.div_lt_of_lt_mul (by rw [Nat.mul_comm]; exact hk)
    have h2 : k % z < (g (k / z)).length := by rw [hzl _ h1]; exact Nat.mod_lt _ hz
    exact (hr _ _ _ h1 (List.getElem?_eq_getElem h2)).one
   ·have hq : q < z := by rw [← hzl j hj]; exact (List.getElem?_eq_some_iff.1 hy).1
    have hlt : j * z + q < n * z := by
     have : j * z + z ≤ n * z := by rw [← Nat.succ_mul]; exact Nat.mul_le_mul_right _ hj
     omega
    refine ⟨u j q, ?_, hr j q y hj hy⟩
    rw [List.getElem?_map, List.getElem?_range hlt]
    simp [(hmod j q hq).1, (hmod j q hq).2]
def normA (z : Nat) : AV → AV
 | .t (.c (.p fr (.sc (.slice (some _) 0 _)))) => .t (.c (.p fr (.row z 0 (fun _ => []))))
 | x => x
theorem normA_ok {base : Nat} {w : World} {σ : Sig} {z : Nat} {x : AV} {v : Value} (h : RepA base w σ x v) : RepA base w σ (normA z x) v := by
 unfold normA
 split
 ·rename_i fr ad c
  replace h : Rep w (K base w σ fr) (.sc (.slice (some ad) 0 c)) v := h
  cases h with
  | sc => exact .none _ _ _ _ (fun h => by cases h)
 ·exact h
def evAppend (P : Program) (t : TypeId) (s x : AV) (S : FS) : Option (List Prop × Nat × FS) :=
 match P.underlying t, s with
 | some (.slice e), .t (.c (.h sid)) => match P.info? e, S.H sid with
   | some inf, some (.row e' z n g fr) => if e < MK ∧ e' = e ∧ z = inf.size ∧ 0 < z ∧ 0 < inf.bytes ∧ ((inf.zero.map fun zv => zv.cells.size) = some inf.size) then
      match x with
      | .t (.c (.p _ (.sc (.slice none 0 0)))) => some ([], sid, S)
      | _ => match srcOf S (normA z x) with
        | some (z', n', g', fr') => if z' = z then some ([(n + n') * inf.bytes ≤ 140737488355328], sid, S.sub sid .any (some (.row e z (n + n') (fun j => if j < n then g j else g' (j - n)) (fr && fr')))) else none
        | none => none
     else none
   | _, _ => none
 | _, _ => none
theorem evAppend_ok {P : Program} {w0 : Base} {N : Nat} {o : Oper} {S S' : FS} {σ : Sig} {a : Act} {w : World} {t : TypeId} {x y : Operand} {sid : Nat} {obs : List Prop} {ax ay : AV}
  (hop : o.op = .call { callee := .builtin .append, args := #[x, y], argTypes := #[t, t] }) (h : Rel w0 N S σ a w) (hx : RepA w0.base w σ ax (a.eval x)) (hy : RepA w0.base w σ ay (a.eval y))
  (hs : evAppend P t ax ay S = some (obs, sid, S')) (ho : All obs) (hd : ∀ d, o.dst = some d → d < N) : SeqOk P w0 N o (S'.put o.dst (.t (.c (.h sid)))) a w := by
 have fin : ∀ (v' : Value) (w' : World) (σ' : Sig), (Builtin.append_ #[t, t] o.type #[a.eval x, a.eval y]).run P w = .ok v' w' → Rel w0 N S' σ' a w' → σ' sid = some v' → v'.oneCell' = true → SeqOk P w0 N o (S'.put o.dst (.t (.c (.h sid)))) a w := by
  intro v' w' σ' hrun hrel hsid h1 Kk Q hk
  unfold Oper.wp
  have : (execOp a.eval o).run P w = .ok (.value v') w' := by
   simp [execOp, hop, resolve, invoke, builtin, hrun]
  rw [this]
  exact hk _ _ σ' (hrel.put hd ⟨hsid, h1⟩)
 unfold evAppend at hs
 split at hs
 ·rename_i e sid' hu
  split at hs
  ·rename_i inf e' z n g fr hinf hH
   split at hs
   ·rename_i hc
    obtain ⟨hmk, he, hz, hz0, hb0, hzero⟩ := hc
    subst he
    obtain ⟨zv, hzv, hzs⟩ : ∃ zv, inf.zero = some zv ∧ zv.cells.size = inf.size := by
     obtain ⟨zv, h1, h2⟩ := Option.map_eq_some_iff.1 hzero
     exact ⟨zv, h1, h2⟩
    obtain ⟨v, hv, xs, h1, h2, h3, h4⟩ := h.sites _ _ hH
    have hbase : w0.base ≤ w.heap.size := h.based
    have hv1 : v.oneCell' = true := by rcases h1.2 with ⟨rfl, _⟩ | ⟨_, _, _, rfl, _⟩ <;> rfl
    have same : ∀ (s : Nat), s = sid' → a.eval x = v → True := fun _ _ _ => trivial
    split at hs
    ·simp only [Option.some.injEq, Prod.mk.injEq] at hs
     obtain ⟨rfl, rfl, rfl⟩ := hs
     have hxe : a.eval x = v := by have := hx.1; rw [hv] at this; exact (Option.some.inj this).symm
     have hye : a.eval y = .slice none 0 0 := by
      replace hy : Rep w _ (.sc (.slice none 0 0)) (a.eval y) := hy
      generalize a.eval y = u at hy
      cases hy with
      | sc => rfl
     refine fin v w σ ?_ h hv hv1
     rw [hxe, hye]
     exact run_append_owned_none w w0.base t o.type _ inf z hu hinf v n xs (h1.own hmk)
    ·split at hs
     ·rename_i z' n' g' fr' hsrc
      split at hs
      ·rename_i hzz
       subst hzz
       simp only [Option.some.injEq, Prod.mk.injEq] at hs
       obtain ⟨rfl, rfl, rfl⟩ := hs
       have hxe : a.eval x = v := by have := hx.1; rw [hv] at this; exact (Option.some.inj this).symm
       simp only [All] at ho
       replace hy := normA_ok (z := z') hy
       obtain ⟨A, m, c, hye, hgl, hnews⟩ : ∃ A m c, a.eval y = .slice A m c ∧ (∀ j, j < n' → (g' j).length = z') ∧ (m = n' ∧ ((A = none ∧ n' = 0 ∧ c = 0) ∨ ∃ ad, A = some ad ∧ ∃ news : List Value, news.length = n' * z' ∧ (∀ (j : Nat) u, news[j]? = some u → w.cell? (ad.add j) = some u) ∧ (∀ u ∈ news, u.oneCell' = true) ∧
         ∀ (j q : Nat) y, j < n' → (g' j)[q]? = some y → ∃ u, news[j * z' + q]? = some u ∧ Rep w (K w0.base w σ fr') y u)) := by
        generalize normA z' ay = ay at hsrc hy
        unfold srcOf at hsrc
        split at hsrc
        ·rename_i s
         split at hsrc
         ·rename_i e2 z2 n2 g2 fr2 hH2
          simp only [Option.some.injEq, Prod.mk.injEq] at hsrc
          obtain ⟨rfl, rfl, rfl, rfl⟩ := hsrc
          obtain ⟨v2, hv2, xs2, k1, k2, k3, k4⟩ := h.sites _ _ hH2
          have hye : a.eval y = v2 := by have := hy.1; rw [hv2] at this; exact (Option.some.inj this).symm
          rcases k1.2 with ⟨rfl, rfl⟩ | ⟨b2, cap2, cur2, rfl, _⟩
          ·exact ⟨none, 0, 0, hye, k3, rfl, .inl ⟨rfl, rfl, rfl⟩⟩
          ·exact ⟨_, _, _, hye, k3, rfl, .inr ⟨_, rfl, xs2, k1.1, fun j u hj => k1.cells (g := b2) rfl j u hj, k2, k4⟩⟩
         ·cases hsrc
        ·rename_i fr2 z2 n2 g2
         simp only [Option.some.injEq, Prod.mk.injEq] at hsrc
         obtain ⟨rfl, rfl, rfl, rfl⟩ := hsrc
         replace hy : Rep w (K w0.base w σ fr2) (.row z2 n2 g2) (a.eval y) := hy
         obtain ⟨A, m, c, hye⟩ : ∃ A m c, a.eval y = .slice A m c := by
          generalize a.eval y = u at hy
          cases hy with
          | none => exact ⟨_, _, _, rfl⟩
          | row => exact ⟨_, _, _, rfl⟩
         rw [hye] at hy
         obtain ⟨k1, k2, k3⟩ := news_of_rep hy hz0
         exact ⟨A, m, c, hye, k2, k1, k3⟩
        ·cases hsrc
       have hg : ∀ (us : List Value), us.length = n' * z' → (∀ (j q : Nat) y, j < n' → (g' j)[q]? = some y → ∃ u, us[j * z' + q]? = some u ∧ Rep w (K w0.base w σ fr') y u) →
         (∀ j, j < n + n' → ((fun j => if j < n then g j else g' (j - n)) j).length = z') ∧
         ∀ (j q : Nat) y, j < n + n' → ((fun j => if j < n then g j else g' (j - n)) j)[q]? = some y → ∃ u, (xs ++ us)[j * z' + q]? = some u ∧ Rep w (K w0.base w σ (fr && fr')) y u := by
        intro us hul hus
        refine ⟨fun j hj => ?_, fun j q y hj hy => ?_⟩
        ·simp only
         split
         ·rename_i hlt; exact h3 j hlt
         ·exact hgl _ (by omega)
        ·simp only at hy
         split at hy
         ·rename_i hlt
          obtain ⟨u, hu, hr⟩ := h4 j q y hlt hy
          refine ⟨u, ?_, hr.weak (by simp; intro h _; exact h)⟩
          rw [List.getElem?_append_left (List.getElem?_eq_some_iff.1 hu).1]
          exact hu
         ·rename_i hge
          obtain ⟨u, hu, hr⟩ := hus (j - n) q y (by omega) hy
          refine ⟨u, ?_, hr.weak (by simp)⟩
          have hjn : n * z' + (j - n) * z' = j * z' := by rw [← Nat.add_mul]; congr 1; omega
          rw [List.getElem?_append_right (by rw [h1.1]; omega), h1.1, ← hu]
          congr 1
          omega
       obtain ⟨rfl, hnews⟩ := hnews
       rcases hnews with ⟨rfl, rfl, rfl⟩ | ⟨ad, rfl, news, k1, k2, k3, k4⟩
       ·obtain ⟨q1, q2⟩ := hg [] (by simp) (fun j q y hj => by omega)
        refine fin v w (upd σ sid' (some v)) ?_ (h.sub hv (Below.refl _ _) (fun _ _ _ => rfl) (fun u hu b hb => by cases hu; exact .inl hb) (fun _ _ => hv1) (fun k hk => ?_) (fun hk => by cases hk)) (by simp [upd]) hv1
        ·rw [hxe, hye]
         exact run_append_owned_none w w0.base t o.type _ inf z' hu hinf v n xs (h1.own hmk)
        ·cases hk
         refine ⟨v, rfl, fun hev => ⟨xs, by simpa using h1, h2, q1, fun j q y hj hy => ?_⟩⟩
         obtain ⟨u, hu', hr⟩ := q2 j q y hj hy
         exact ⟨u, by simpa using hu', hev.rep hr⟩
       ·have hsmall : n + m ≤ 140737488355328 := Nat.le_trans (Nat.le_mul_of_pos_right _ hb0) ho
        obtain ⟨v', w', hrun, ho', hgr, _, hown⟩ := run_append_own_at w w0.base t o.type _ inf zv z' inf.bytes hu hinf hzv hz.symm rfl (by rw [hzs, hz]) hz0 v n xs (h1.own hmk) ad m c news k1 k2 k3 (by simp only [maxLen]; omega) (by omega) hbase
        obtain ⟨q1, q2⟩ := hg news k1 k4
        have hblk : ∀ (u : Value) (b : Nat), (∃ A n c, u = .slice A n c) → (Own u b ↔ u.ownBlock = some b) := fun u b ⟨A, n, c, e⟩ => by subst e; rw [own_slice]; cases A <;> exact Iff.rfl
        have hvs : ∃ A n c, v = .slice A n c := by rcases h1.2 with ⟨rfl, _⟩ | ⟨_, _, _, rfl, _⟩ <;> exact ⟨_, _, _, rfl⟩
        have hvs' : ∃ A n c, v' = .slice A n c := by rcases ho'.2 with ⟨rfl, _⟩ | ⟨_, _, _, rfl, _⟩ <;> exact ⟨_, _, _, rfl⟩
        have hv1' : v'.oneCell' = true := by obtain ⟨_, _, _, rfl⟩ := hvs'; rfl
        refine fin v' w' (upd σ sid' (some v')) ?_ (h.sub hv (Below.grown (Below.refl _ _) hgr hbase (fun k hk => (h1.lt k hk).1)) (fun b hb hne => hgr.block b hb (fun e => hne ((hblk v b hvs).2 e.symm))) (fun u hu b hb => ?_) (fun _ _ => hv1) (fun k hk => ?_) (fun hk => by cases hk)) (by simp [upd]) hv1'
        ·rw [hxe, hye]; exact hrun
        ·cases hu
         rw [hblk _ _ hvs'] at hb
         rw [hblk _ _ hvs]
         rcases hown with e | e
         ·exact .inl (e ▸ hb)
         ·rw [e] at hb
          cases hb
          exact .inr (Nat.le_refl _)
        ·cases hk
         refine ⟨v', rfl, fun hev => ⟨xs ++ news, ORow.of_own ho' hmk, fun u hu => ?_, q1, fun j q y hj hy => ?_⟩⟩
         ·rcases List.mem_append.1 hu with hu | hu
          ·exact h2 u hu
          ·exact k3 u hu
         ·obtain ⟨u, hu', hr⟩ := q2 j q y hj hy
          exact ⟨u, hu', hev.rep hr⟩
      ·cases hs
     ·cases hs
   ·cases hs
  ·cases hs
 ·cases hs
end Go.Av