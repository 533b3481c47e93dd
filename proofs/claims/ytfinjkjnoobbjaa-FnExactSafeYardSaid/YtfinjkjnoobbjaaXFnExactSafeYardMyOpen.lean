/- What a reading of an argument hands to the printed contracts: each kind of data, opened as its 'Kd' reads it, with the bounds of its parts; and an argument that stays as it was. -/
import Derived.Test.YtfinjkjnoobbjaaXFnExactSafeYard
import Derived.ChangeArms
import Derived.ChangeReads
import Derived.ChangeStays
import Derived.ChangeBook
import Derived.ChangeBears
import Derived.ChangeShapes
import Derived.ChangeOld
import Derived.WideShapes
import Derived.SizedLaws
import Derived.Below
import Derived.Deep.Slices
import Derived.Deep.Frames
namespace Go.Proofs.Ytfinjkjnoobbjaa.MyOpen
open Go.ChangeShapes Go.WideShapes Go.RowKit Go.Deep Go.Proofs.YtfinjkjnoobbjaaW.PrintWords

/-- Data of type t are read as 'd' reads them, and 'Ok' holds of what is read. -/
def Opens {α : Type} (P : Program) (t : TypeId) (d : Kd α) (Ok : α → Prop) : Prop :=
  ∀ (H : Type) (enc : TypeId × Value → H) (w : World) (n : Nat) (cs : List Value) (x : DataW H × List MemPlace),
    DataW.trod enc P w 0 (fun _ => true) true n t cs = some x → (∀ m ∈ x.1.weights P t, m ≤ reachBytes) → ∃ y, d.K w y cs ∧ Ok y

theorem Opens.imp {α : Type} {P : Program} {t : TypeId} {d : Kd α} {Ok Ok' : α → Prop} (h : Opens P t d Ok) (hi : ∀ y, Ok y → Ok' y) : Opens P t d Ok' := by
  intro H enc w n cs x hx hw
  obtain ⟨y, hy, ho⟩ := h H enc w n cs x hx hw
  exact ⟨y, hy, hi y ho⟩

theorem op_int {P : Program} {t : TypeId} {k : IntKind} (ht : P.underlying t = some (.int k)) : Opens P t (Kd.int k) (fun z => (Lit.int k z).wf = true) := by
  intro H enc w n cs x hx _
  obtain ⟨z, rfl, _, hz⟩ := DataW.trod_int ht hx
  exact ⟨z, rfl, hz⟩

theorem op_i64 {P : Program} {t : TypeId} (ht : P.underlying t = some (.int .i64)) : Opens P t (Kd.int .i64) (fun z => -9223372036854775808 ≤ z ∧ z ≤ 9223372036854775807) :=
  (op_int ht).imp fun z hz => by
    simp only [Lit.wf, Bool.and_eq_true, decide_eq_true_eq] at hz
    have h1 : IntKind.min .i64 = -9223372036854775808 := by decide
    have h2 : IntKind.max .i64 = 9223372036854775807 := by decide
    rw [h1, h2] at hz
    exact hz

theorem op_bool {P : Program} {t : TypeId} (ht : P.underlying t = some .bool) : Opens P t Kd.bool (fun _ => True) := by
  intro H enc w n cs x hx _
  obtain ⟨b, rfl, _⟩ := DataW.trod_bool ht hx
  exact ⟨b, rfl, trivial⟩

theorem op_string {P : Program} {t : TypeId} (ht : P.underlying t = some .string) : Opens P t Kd.string (fun s => s.size ≤ 140737488351232) := by
  intro H enc w n cs x hx hw
  obtain ⟨s, rfl, rfl, _⟩ := DataW.trod_string ht hx
  refine ⟨s, rfl, ?_⟩
  have := hw s.data.toList.length (by simp [DataW.weights])
  simp only [reachBytes] at this
  rw [Array.length_toList] at this
  exact this

theorem op_slice {α : Type} {P : Program} {t e : TypeId} {d : Kd α} {Ok : α → Prop} (b : Nat) (ht : P.underlying t = some (.slice e)) (hs : P.cellsOf e = d.sz) (hb : P.bytesOf e = b) (h : Opens P e d Ok) :
    Opens P t (Kd.slice e d) (fun xs => xs.length * b ≤ 140737488351232 ∧ ∀ x ∈ xs, Ok x) := by
  intro H enc w n cs x hx hw
  rcases DataW.trod_slice ht hx with ⟨rfl, rfl⟩ | ⟨a, len, cap, elems, rest, m, rfl, rfl, rfl, _, hl, hm, hel, hi, _, _⟩
  · exact ⟨[], ⟨none, 0, rfl, by simp, ⟨rfl, by simp, fun h => by simp at h⟩⟩, by simp, fun x hx => by simp at hx⟩
  · have hwl : (elems.length + rest.length) * P.bytesOf e ≤ reachBytes := hw _ (by simp [DataW.weights, ht])
    have hwe : ∀ j (hj : j < elems.length), ∀ q ∈ (elems[j]'hj).1.weights P e, q ≤ reachBytes := by
      intro j hj q hq
      apply hw
      simp only [DataW.weights, ht, List.mem_cons, List.mem_append]
      refine .inr (.inl ?_)
      have key : ∀ (l : List (DataW H)) (d : DataW H), d ∈ l → q ∈ d.weights P e → q ∈ DataW.weightsAll P e l := by
        intro l
        induction l with
        | nil => intro d hd; simp at hd
        | cons d0 l ih =>
          intro d hd hq
          simp only [DataW.weightsAll, List.mem_append]
          rcases List.mem_cons.1 hd with rfl | hd
          · exact .inl hq
          · exact .inr (ih d hd hq)
      exact key _ _ (List.mem_map.2 ⟨_, List.getElem_mem hj, rfl⟩) hq
    have each : ∀ j, j < len → ∃ y c, c.length = d.sz ∧ d.K w y c ∧ (∀ i u, c[i]? = some u → w.cell? (a.add (j * d.sz + i)) = some u) ∧ Ok y := by
      intro j hj
      have hjl : j < elems.length := by omega
      have h1 := hi j hj
      rw [List.getElem?_eq_getElem hjl] at h1
      obtain ⟨c, hc, hy⟩ := Option.bind_eq_some_iff.1 h1
      obtain ⟨_, hlen, hat⟩ := World.cells?_some hc
      obtain ⟨y, hk, ho⟩ := h H enc w m c _ hy (hwe j hjl)
      refine ⟨y, c, d.K_len hk, hk, ?_, ho⟩
      intro i u hu
      have hil : i < c.length := (List.getElem?_eq_some_iff.1 hu).1
      have := hat i (by omega)
      rw [hs, Go.Deep.add_add] at this
      rw [this, hu]
    obtain ⟨ys, hyl, hy⟩ : ∃ ys : List α, ys.length = len ∧ ∀ j (hj : j < ys.length), ∃ c, c.length = d.sz ∧ d.K w (ys[j]'hj) c ∧ (∀ i u, c[i]? = some u → w.cell? (a.add (j * d.sz + i)) = some u) ∧ Ok (ys[j]'hj) := by
      have go : ∀ k, k ≤ len → ∃ ys : List α, ys.length = k ∧ ∀ j (hj : j < ys.length), ∃ c, c.length = d.sz ∧ d.K w (ys[j]'hj) c ∧ (∀ i u, c[i]? = some u → w.cell? (a.add (j * d.sz + i)) = some u) ∧ Ok (ys[j]'hj) := by
        intro k
        induction k with
        | zero => exact fun _ => ⟨[], rfl, fun j hj => by simp at hj⟩
        | succ k ih =>
          intro hk
          obtain ⟨ys, hl, hy⟩ := ih (by omega)
          obtain ⟨y, c, h1, h2, h3, h4⟩ := each k (by omega)
          refine ⟨ys ++ [y], by simp [hl], ?_⟩
          intro j hj
          by_cases hjk : j < ys.length
          · obtain ⟨c', g1, g2, g3, g4⟩ := hy j hjk
            have e : (ys ++ [y])[j]'hj = ys[j]'hjk := List.getElem_append_left hjk
            rw [e]
            exact ⟨c', g1, g2, g3, g4⟩
          · have ej : j = k := by simp at hj; omega
            subst ej
            have e : (ys ++ [y])[j]'hj = y := by
              rw [List.getElem_append_right (by omega)]
              simp [hl]
            rw [e]
            exact ⟨c, h1, h2, h3, h4⟩
      exact go len (Nat.le_refl _)
    subst hyl
    have hmax : maxLen ≤ 9223372036854775807 := by unfold maxLen; decide
    refine ⟨ys, ⟨some a, cap, rfl, hl, ⟨rfl, by omega, fun _ => ⟨a, rfl, ?_⟩⟩⟩, ?_, ?_⟩
    · intro j p hp
      obtain ⟨hj, rfl⟩ := List.getElem?_eq_some_iff.1 hp
      obtain ⟨c, h1, h2, h3, _⟩ := hy j hj
      exact ⟨c, h1, h2, h3⟩
    · rw [hb] at hwl
      simp only [reachBytes] at hwl
      refine Nat.le_trans (Nat.mul_le_mul_right _ ?_) hwl
      omega
    · intro x hx
      obtain ⟨j, hj, rfl⟩ := List.getElem_of_mem hx
      obtain ⟨_, _, _, _, h4⟩ := hy j hj
      exact h4

/-- A struct's fields in line, from an offset on. -/
def OpensFs {α : Type} (P : Program) (fs : List Field) (off : Nat) (d : Kd α) (Ok : α → Prop) : Prop :=
  ∀ (H : Type) (enc : TypeId × Value → H) (w : World) (n : Nat) (cs : List Value) (xs : List (DataW H × List MemPlace)),
    cs.length = off + d.sz → xs.length = fs.length →
    (∀ (i : Nat) (f : Field), fs[i]? = some f → DataW.trod enc P w 0 (fun _ => true) true n f.type ((cs.drop f.offset).take (P.cellsOf f.type)) = xs[i]?) →
    (∀ m ∈ DataW.weightsEach P (fs.map (·.type)) (xs.map (·.1)), m ≤ reachBytes) → ∃ y, d.K w y (cs.drop off) ∧ Ok y

theorem opFs_last {α : Type} {P : Program} {f : Field} {off : Nat} {d : Kd α} {Ok : α → Prop} (ho : f.offset = off) (hs : P.cellsOf f.type = d.sz) (h : Opens P f.type d Ok) : OpensFs P [f] off d Ok := by
  intro H enc w n cs xs hl hx hf hw
  match xs, hx with
  | [x], _ =>
    have h0 := hf 0 f rfl
    rw [ho, hs, List.take_of_length_le (by simp [hl])] at h0
    exact h H enc w n _ x h0 (fun m hm => hw m (by simpa [DataW.weightsEach] using hm))

theorem opFs_cons {α β : Type} {P : Program} {f : Field} {fs : List Field} {off : Nat} {a : Kd α} {b : Kd β} {OkA : α → Prop} {OkB : β → Prop} (ho : f.offset = off) (hs : P.cellsOf f.type = a.sz) (ha : Opens P f.type a OkA) (hb : OpensFs P fs (off + a.sz) b OkB) :
    OpensFs P (f :: fs) off (Kd.pair a b) (fun x => OkA x.1 ∧ OkB x.2) := by
  intro H enc w n cs xs hl hx hf hw
  match xs, hx with
  | x :: xs, hx =>
    have hl' : cs.length = off + (a.sz + b.sz) := hl
    have h0 := hf 0 f rfl
    rw [ho, hs] at h0
    obtain ⟨y, hy, oy⟩ := ha H enc w n _ x h0 (fun m hm => hw m (by simp [DataW.weightsEach]; exact .inl hm))
    obtain ⟨z, hz, oz⟩ := hb H enc w n cs xs (by omega) (by simpa using hx) (fun i g hg => hf (i + 1) g hg) (fun m hm => hw m (by simp [DataW.weightsEach]; exact .inr hm))
    exact ⟨(y, z), ⟨(cs.drop off).take a.sz, cs.drop (off + a.sz), by rw [← List.drop_drop, List.take_append_drop], hy, hz⟩, oy, oz⟩

theorem op_struct {α β : Type} {P : Program} {t : TypeId} {fs : Array Field} {d : Kd α} {Ok : α → Prop} (g : β → α) (ht : P.underlying t = some (.struct fs)) (hs : P.cellsOf t = d.sz) (hg : ∀ a, ∃ y, g y = a) (h : OpensFs P fs.toList 0 d Ok) :
    Opens P t (Kd.iso d g) (fun y => Ok (g y)) := by
  intro H enc w n cs x hx hw
  obtain ⟨xs, m, _, rfl, hl, hxl, hf⟩ := DataW.trod_struct ht hx
  obtain ⟨y, hy, ho⟩ := h H enc w m cs xs (by omega) (by simpa using hxl) (fun i f hi => hf i f (by simpa using hi)) (fun q hq => hw q (by simpa [DataW.weights, ht] using hq))
  obtain ⟨z, rfl⟩ := hg y
  exact ⟨z, hy, ho⟩

/-- One argument, opened. -/
theorem open_op {α : Type} {P : Program} {t : TypeId} {d : Kd α} {Ok : α → Prop} (h : Opens P t d Ok) {H : Type} {enc : TypeId × Value → H} {w : World} {v : Value} {x : DataW H} {ps : List MemPlace}
    (hx : DataW.Trod enc P w 0 (fun _ => true) true t v x ps) (hw : ∀ m ∈ x.weights P t, m ≤ reachBytes) : ∃ y, d.K w y v.cells.toList ∧ Ok y := by
  obtain ⟨n, hn⟩ := hx
  exact h H enc w n _ _ hn hw

/-- What was there before the call reads behind it as it did. -/
theorem trod_below {H : Type} {enc : TypeId × Value → H} {P : Program} {t : TypeId} {W W' : World} {v : Value} {x : DataW H} {ps : List MemPlace} (hl : laidOutB P = true) (hr : P.readableRec t = true) (hrow : t < P.types.size) (hb : Below W.heap.size W W')
    (h : DataW.Trod enc P W 0 (fun _ => true) true t v x ps) (hlt : ∀ p ∈ ps, p.block < W.heap.size) :
    DataW.Trod enc P W' 0 (fun b => decide (b < W.heap.size)) true t v x ps := by
  obtain ⟨n, hn⟩ := h
  have hk : W.keptBut W' (fun _ => False) := hb.frame _
  exact ⟨n, DataW.trod_stays (kids_book hl hr) (book_sized hr) (fun h => by cases h) ⟨hrow, book_self t⟩ hn
    (fun p hp => hk.sameAt (hlt p hp) (fun h => h) (fun b e => by
      have := DataW.trod_good (kids_book hl hr) (fun h => by cases h) n t _ _ ⟨hrow, book_self t⟩ hn p hp
      subst e
      exact this))
    (fun p hp => by simpa using hlt p hp)⟩

theorem trodAll_below {H : Type} {enc : TypeId × Value → H} {P : Program} {W W' : World} (hl : laidOutB P = true) (hb : Below W.heap.size W W') :
    ∀ {ts : List TypeId} {vs : List Value} {ds : List (DataW H)} {p : List MemPlace}, (∀ t ∈ ts, P.readableRec t = true ∧ t < P.types.size) → (∀ q ∈ p, q.block < W.heap.size) →
      DataW.TrodAll enc P W 0 (fun _ => true) true ts vs ds p → DataW.TrodAll enc P W' 0 (fun b => decide (b < W.heap.size)) true ts vs ds p
  | [], _, _, _, _, _, h => by
    obtain ⟨rfl, rfl, rfl⟩ := trodAll_nil h
    rfl
  | t :: ts, _, _, _, ht, hlt, h => by
    obtain ⟨v, vs1, d, ds1, a, b, rfl, rfl, rfl, h1, h2⟩ := trodAll_cons h
    exact ⟨a, b, trod_below hl (ht t (by simp)).1 (ht t (by simp)).2 hb h1 (fun q hq => hlt q (List.mem_append_left _ hq)),
      trodAll_below hl hb (fun t' h' => ht t' (by simp [h'])) (fun q hq => hlt q (List.mem_append_right _ hq)) h2, rfl⟩

/-- The weights of one argument among all. -/
theorem weights_of {H : Type} {P : Program} {ts : List TypeId} {ds : List (DataW H)} (h : (DataW.weightsEach P ts ds).all (· ≤ reachBytes) = true) {j : Nat} {t : TypeId} {d : DataW H} (ht : ts[j]? = some t) (hd : ds[j]? = some d) :
    ∀ m ∈ d.weights P t, m ≤ reachBytes := fun m hm => by
  have := List.all_eq_true.1 h _ (DataW.weights_mem_each ht hd m hm)
  simpa using this

end Go.Proofs.Ytfinjkjnoobbjaa.MyOpen
