/- How the arguments of a law, as the statement tells them, read as Av's values; and arguments that stay as they were. -/
import Derived.Test.YtfhjipfkaemapaaGreatAvP
import Derived.ChangeArms
import Derived.ChangeReads
import Derived.ChangeStays
import Derived.ChangeBook
import Derived.ChangeBears
import Derived.ChangeShapes
import Derived.ChangeOld
import Derived.WideShapes
import Derived.SizedLaws
import Derived.Below
import Derived.Deep.Slices
import Derived.Deep.Frames
namespace Go.Av
open Go Go.ChangeShapes Go.WideShapes Go.RowKit Go.Deep
set_option linter.unusedVariables false
def Rng (z : Int) : Prop := -9223372036854775808 ≤ z ∧ z ≤ 9223372036854775807
def RepL (w : World) (xs : List V) (cs : List Value) : Prop := xs.length = cs.length ∧ ∀ (i : Nat) x u, xs[i]? = some x → cs[i]? = some u → Rep w (· < w.heap.size) x u
theorem RepL.one {w : World} {x : V} {u : Value} (h : Rep w (· < w.heap.size) x u) : RepL w [x] [u] := ⟨rfl, fun i y v hy hv => by
 cases i with
 | zero => simp at hy hv; subst hy; subst hv; exact h
 | succ i => simp at hy⟩
theorem RepL.app {w : World} {xs ys : List V} {cs ds : List Value} (h : RepL w xs cs) (k : RepL w ys ds) : RepL w (xs ++ ys) (cs ++ ds) := ⟨by simp [h.1, k.1], fun i x u hx hu => by
 by_cases hi : i < xs.length
 ·rw [List.getElem?_append_left hi] at hx
  rw [List.getElem?_append_left (h.1 ▸ hi)] at hu
  exact h.2 i x u hx hu
 ·rw [List.getElem?_append_right (by omega)] at hx
  rw [List.getElem?_append_right (by have := h.1; omega), ← h.1] at hu
  exact k.2 _ x u hx hu⟩
structure Opens {α : Type} (P : Program) (t : TypeId) (z : Nat) (e : α → List V) (Ok : α → Prop) : Prop where
 len : ∀ y, (e y).length = z
 out : ∀ (H : Type) (enc : TypeId × Value → H) (w : World) (n : Nat) (cs : List Value) (x : DataW H × List MemPlace),
  DataW.trod enc P w 0 (fun _ => true) true n t cs = some x → (∀ m ∈ x.1.weights P t, m ≤ reachBytes) → ∃ y, RepL w (e y) cs ∧ Ok y
theorem op_int {P : Program} {t : TypeId} {k : IntKind} (ht : P.underlying t = some (.int k)) : Opens P t 1 (eI k) (fun z => (Lit.int k z).wf = true) := ⟨fun _ => rfl, by
 intro H enc w n cs x hx _
 obtain ⟨z, rfl, _, hz⟩ := DataW.trod_int ht hx
 exact ⟨z, .one (.sc _ rfl), hz⟩⟩
theorem op_i64 {P : Program} {t : TypeId} (ht : P.underlying t = some (.int .i64)) : Opens P t 1 (eI .i64) Rng := ⟨fun _ => rfl, by
 intro H enc w n cs x hx hw
 obtain ⟨z, h, hz⟩ := (op_int ht).out H enc w n cs x hx hw
 refine ⟨z, h, ?_⟩
 simp only [Lit.wf, Bool.and_eq_true, decide_eq_true_eq] at hz
 have h1 : IntKind.min .i64 = -9223372036854775808 := by decide
 have h2 : IntKind.max .i64 = 9223372036854775807 := by decide
 rw [h1, h2] at hz
 exact hz⟩
theorem op_slice {α : Type} {P : Program} {t e : TypeId} {z : Nat} {en : α → List V} {Ok : α → Prop} (dflt : α) (b : Nat) (ht : P.underlying t = some (.slice e)) (hs : P.cellsOf e = z) (hz : 0 < z) (hb : P.bytesOf e = b) (h : Opens P e z en Ok) :
  Opens P t 1 (fun xs => [R z en dflt xs]) (fun xs => xs.length * b ≤ 140737488351232 ∧ ∀ x ∈ xs, Ok x) := ⟨fun _ => rfl, by
 intro H enc w n cs x hx hw
 rcases DataW.trod_slice ht hx with ⟨rfl, rfl⟩ | ⟨a, len, cap, elems, rest, m, rfl, rfl, rfl, _, hl, hm, hel, hi, _, _⟩
 ·exact ⟨[], .one (.none _ _ _ _ (fun _ => rfl)), by simp, fun x hx => by simp at hx⟩
 ·have hwl : (elems.length + rest.length) * P.bytesOf e ≤ reachBytes := hw _ (by simp [DataW.weights, ht])
  have hwe : ∀ j (hj : j < elems.length), ∀ q ∈ (elems[j]'hj).1.weights P e, q ≤ reachBytes := by
   intro j hj q hq
   apply hw
   simp only [DataW.weights, ht, List.mem_cons, List.mem_append]
   refine .inr (.inl ?_)
   have key : ∀ (l : List (DataW H)) (d : DataW H), d ∈ l → q ∈ d.weights P e → q ∈ DataW.weightsAll P e l := by
    intro l
    induction l with
    | nil => intro d hd; simp at hd
    | cons d0 l ih =>
      intro d hd hq
      simp only [DataW.weightsAll, List.mem_append]
      rcases List.mem_cons.1 hd with rfl | hd
      ·exact .inl hq
      ·exact .inr (ih d hd hq)
   exact key _ _ (List.mem_map.2 ⟨_, List.getElem_mem hj, rfl⟩) hq
  have each : ∀ j, j < len → ∃ y c, RepL w (en y) c ∧ (∀ i u, c[i]? = some u → w.cell? (a.add (j * z + i)) = some u) ∧ Ok y := by
   intro j hj
   have hjl : j < elems.length := by omega
   have h1 := hi j hj
   rw [List.getElem?_eq_getElem hjl] at h1
   obtain ⟨c, hc, hy⟩ := Option.bind_eq_some_iff.1 h1
   obtain ⟨_, hlen, hat⟩ := World.cells?_some hc
   obtain ⟨y, hk, ho⟩ := h.out H enc w m c _ hy (hwe j hjl)
   refine ⟨y, c, hk, ?_, ho⟩
   intro i u hu
   have hil : i < c.length := (List.getElem?_eq_some_iff.1 hu).1
   have := hat i (by omega)
   rw [hs, Go.Deep.add_add] at this
   rw [this, hu]
  obtain ⟨ys, hyl, hy⟩ : ∃ ys : List α, ys.length = len ∧ ∀ j (hj : j < ys.length), ∃ c, RepL w (en (ys[j]'hj)) c ∧ (∀ i u, c[i]? = some u → w.cell? (a.add (j * z + i)) = some u) ∧ Ok (ys[j]'hj) := by
   have go : ∀ k, k ≤ len → ∃ ys : List α, ys.length = k ∧ ∀ j (hj : j < ys.length), ∃ c, RepL w (en (ys[j]'hj)) c ∧ (∀ i u, c[i]? = some u → w.cell? (a.add (j * z + i)) = some u) ∧ Ok (ys[j]'hj) := by
    intro k
    induction k with
    | zero => exact fun _ => ⟨[], rfl, fun j hj => by simp at hj⟩
    | succ k ih =>
      intro hk
      obtain ⟨ys, hl, hy⟩ := ih (by omega)
      obtain ⟨y, c, h2, h3, h4⟩ := each k (by omega)
      refine ⟨ys ++ [y], by simp [hl], ?_⟩
      intro j hj
      by_cases hjk : j < ys.length
      ·obtain ⟨c', g2, g3, g4⟩ := hy j hjk
       have e : (ys ++ [y])[j]'hj = ys[j]'hjk := List.getElem_append_left hjk
       rw [e]
       exact ⟨c', g2, g3, g4⟩
      ·have ej : j = k := by simp at hj; omega
       subst ej
       have e : (ys ++ [y])[j]'hj = y := by
        rw [List.getElem_append_right (by omega)]
        simp [hl]
       rw [e]
       exact ⟨c, h2, h3, h4⟩
   exact go len (Nat.le_refl _)
  subst hyl
  have at_ : ∀ j (hj : j < ys.length), ∀ q, q < z → ∃ u, w.cell? (a.add (j * z + q)) = some u ∧ ∀ x, (en (ys[j]'hj))[q]? = some x → Rep w (· < w.heap.size) x u := by
   intro j hj q hq
   obtain ⟨c, h2, h3, _⟩ := hy j hj
   have hlen : c.length = z := h2.1 ▸ h.len _
   have hqc : q < c.length := by omega
   exact ⟨c[q], h3 q _ (List.getElem?_eq_getElem hqc), fun x hx => h2.2 q x _ hx (List.getElem?_eq_getElem hqc)⟩
  refine ⟨ys, .one ?_, ?_, ?_⟩
  ·show Rep w _ (.row z ys.length _) _
   rcases Nat.eq_zero_or_pos ys.length with h0 | h0
   ·rw [h0]
    exact .none _ _ _ _ (fun h => by cases h)
   ·have lt0 : a.block < w.heap.size := by
     obtain ⟨u, hu, _⟩ := at_ 0 h0 0 hz
     unfold World.cell? at hu
     rw [add_block] at hu
     split at hu
     ·rename_i hh
      exact (Array.getElem?_eq_some_iff.1 hh).1
     ·cases hu
    refine .row z ys.length _ a cap (fun j q => (w.cell? (a.add (j * z + q))).getD undef) h0 hl lt0 (fun j hj => h.len _) (fun j q hj hq => ?_) (fun j q x hj hx => ?_)
    ·obtain ⟨u, hu, _⟩ := at_ j hj q hq
     rw [hu]
     rfl
    ·rw [List.getD_eq_getElem?_getD, List.getElem?_eq_getElem hj] at hx
     have hq : q < z := by
      have := (List.getElem?_eq_some_iff.1 hx).1
      rw [h.len] at this
      exact this
     obtain ⟨u, hu, hr⟩ := at_ j hj q hq
     show Rep w _ x ((w.cell? (a.add (j * z + q))).getD undef)
     rw [hu]
     exact hr x hx
  ·rw [hb] at hwl
   simp only [reachBytes] at hwl
   refine Nat.le_trans (Nat.mul_le_mul_right _ ?_) hwl
   omega
  ·intro x hx
   obtain ⟨j, hj, rfl⟩ := List.getElem_of_mem hx
   obtain ⟨_, _, _, h4⟩ := hy j hj
   exact h4⟩
structure OpensFs {α : Type} (P : Program) (fs : List Field) (off z : Nat) (e : α → List V) (Ok : α → Prop) : Prop where
 len : ∀ y, (e y).length = z
 out : ∀ (H : Type) (enc : TypeId × Value → H) (w : World) (n : Nat) (cs : List Value) (xs : List (DataW H × List MemPlace)),
  cs.length = off + z → xs.length = fs.length →
  (∀ (i : Nat) (f : Field), fs[i]? = some f → DataW.trod enc P w 0 (fun _ => true) true n f.type ((cs.drop f.offset).take (P.cellsOf f.type)) = xs[i]?) →
  (∀ m ∈ DataW.weightsEach P (fs.map (·.type)) (xs.map (·.1)), m ≤ reachBytes) → ∃ y, RepL w (e y) (cs.drop off) ∧ Ok y
theorem open_op {α : Type} {P : Program} {t : TypeId} {z : Nat} {e : α → List V} {Ok : α → Prop} (h : Opens P t z e Ok) {H : Type} {enc : TypeId × Value → H} {w : World} {v : Value} {x : DataW H} {ps : List MemPlace}
  (hx : DataW.Trod enc P w 0 (fun _ => true) true t v x ps) (hw : ∀ m ∈ x.weights P t, m ≤ reachBytes) : ∃ y, RepL w (e y) v.cells.toList ∧ Ok y := by
 obtain ⟨n, hn⟩ := hx
 exact h.out H enc w n _ _ hn hw
theorem trod_below {H : Type} {enc : TypeId × Value → H} {P : Program} {t : TypeId} {W W' : World} {v : Value} {x : DataW H} {ps : List MemPlace} (hl : laidOutB P = true) (hr : P.readableRec t = true) (hrow : t < P.types.size) (hb : Below W.heap.size W W')
  (h : DataW.Trod enc P W 0 (fun _ => true) true t v x ps) (hlt : ∀ p ∈ ps, p.block < W.heap.size) :
  DataW.Trod enc P W' 0 (fun b => decide (b < W.heap.size)) true t v x ps := by
 obtain ⟨n, hn⟩ := h
 have hk : W.keptBut W' (fun _ => False) := hb.frame _
 exact ⟨n, DataW.trod_stays (kids_book hl hr) (book_sized hr) (fun h => by cases h) ⟨hrow, book_self t⟩ hn
  (fun p hp => hk.sameAt (hlt p hp) (fun h => h) (fun b e => by
    have := DataW.trod_good (kids_book hl hr) (fun h => by cases h) n t _ _ ⟨hrow, book_self t⟩ hn p hp
    subst e
    exact this))
  (fun p hp => by simpa using hlt p hp)⟩
theorem trodAll_below {H : Type} {enc : TypeId × Value → H} {P : Program} {W W' : World} (hl : laidOutB P = true) (hb : Below W.heap.size W W') :
  ∀ {ts : List TypeId} {vs : List Value} {ds : List (DataW H)} {p : List MemPlace}, (∀ t ∈ ts, P.readableRec t = true ∧ t < P.types.size) → (∀ q ∈ p, q.block < W.heap.size) →
   DataW.TrodAll enc P W 0 (fun _ => true) true ts vs ds p → DataW.TrodAll enc P W' 0 (fun b => decide (b < W.heap.size)) true ts vs ds p
 | [], _, _, _, _, _, h => by
   obtain ⟨rfl, rfl, rfl⟩ := trodAll_nil h
   rfl
 | t :: ts, _, _, _, ht, hlt, h => by
   obtain ⟨v, vs1, d, ds1, a, b, rfl, rfl, rfl, h1, h2⟩ := trodAll_cons h
   exact ⟨a, b, trod_below hl (ht t (by simp)).1 (ht t (by simp)).2 hb h1 (fun q hq => hlt q (List.mem_append_left _ hq)),
    trodAll_below hl hb (fun t' h' => ht t' (by simp [h'])) (fun q hq => hlt q (List.mem_append_right _ hq)) h2, rfl⟩
theorem weights_of {H : Type} {P : Program} {ts : List TypeId} {ds : List (DataW H)} (h : (DataW.weightsEach P ts ds).all (· ≤ reachBytes) = true) {j : Nat} {t : TypeId} {d : DataW H} (ht : ts[j]? = some t) (hd : ds[j]? = some d) :
  ∀ m ∈ d.weights P t, m ≤ reachBytes := fun m hm => by
 have := List.all_eq_true.1 h _ (DataW.weights_mem_each ht hd m hm)
 simpa using this
theorem VCalls.plain {P : Program} {f : FuncId} {args : List AD} {v : Value} (h : VCalls P f args [.c (.p (.sc v))]) (w : World) (vals : List Value) (hl : args.length = vals.length) (ha : ∀ (i : Nat) d u, args[i]? = some d → vals[i]? = some u → ArgOk w d u) :
  Calls P f vals.toArray w fun e w' => e = .returned v ∧ Below w.heap.size w w' := by
 refine (h w vals hl ha).mono fun e w' ⟨vs, us, he, hb, hr⟩ => ⟨?_, hb⟩
 subst he
 have hs := hr.shape
 have hlen := shapes_len hs
 match us, hlen with
 | [u], _ =>
   have h2 := hr.cells 0 _ _ rfl rfl
   replace h2 : Rep w' _ (.sc v) u := h2
   have h5 := h2.one
   cases h2
   replace hs : Shapes [.c (.p (.sc v))] vs [hdr v] := hs
   rw [hdr_one h5] at hs
   generalize hl2 : [v] = l2 at hs
   cases hs with
   | cons h1 hs =>
     cases hs
     cases h1
     cases hl2
     rfl
theorem args_one {w : World} {d : AD} {u : Value} (h : ArgOk w d u) : ∀ (i : Nat) d' u', [d][i]? = some d' → [u][i]? = some u' → ArgOk w d' u' := fun i d' u' hd hu => by
 cases i with
 | zero => simp at hd hu; subst hd; subst hu; exact h
 | succ i => simp at hd
end Go.Av