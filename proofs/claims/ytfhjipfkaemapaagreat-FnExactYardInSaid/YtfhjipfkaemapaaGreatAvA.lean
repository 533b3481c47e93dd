/- What is known of values and memory while a function's text is run, without the machine: values of cells, rows, boxes; what a state says of the machine's. -/
import Derived.Test.YtfhjipfkaemapaaGreatAvX
import Derived.Orders
import Derived.Below
import Derived.Maps.AppendAt
import Derived.Laws.MakeOwn
import Derived.Laws.OwnMore
import Derived.KernelRfl
namespace Go.Av
open Go Go.RowKit
set_option linter.unusedVariables false
set_option linter.unusedSimpArgs false
theorem add_block (a : Addr) (n : Nat) : (a.add n).block = a.block := by unfold Addr.add; split <;> rfl
inductive V where
 | sc (v : Value)
 | row (z n : Nat) (g : Nat → List V)
 | known (u v : Value) (x : V)
inductive Rep (w : World) (ok : Nat → Prop) : V → Value → Prop
 | sc (v : Value) (h1 : v.oneCell' = true) : Rep w ok (.sc v) v
 | none (z : Nat) (g : Nat → List V) (A : Option Addr) (c : Nat) (h0 : A = none → c = 0) : Rep w ok (.row z 0 g) (.slice A 0 c)
 | row (z n : Nat) (g : Nat → List V) (ad : Addr) (c : Nat) (u : Nat → Nat → Value) (hn : 0 < n) (hc : n ≤ c) (hok : ok ad.block)
    (hz : ∀ j, j < n → (g j).length = z)
    (hu : ∀ j q, j < n → q < z → w.cell? (ad.add (j * z + q)) = some (u j q))
    (hr : ∀ (j q : Nat) x, j < n → (g j)[q]? = some x → Rep w ok x (u j q)) : Rep w ok (.row z n g) (.slice (some ad) n c)
 | known (u v : Value) (x : V) (h1 : u.oneCell' = true) (h : Rep w ok x v) : Rep w ok (.known u v x) u
theorem Rep.mono {w w' : World} {ok ok' : Nat → Prop} {x : V} {v : Value} (h : Rep w ok x v)
  (hw : ∀ b, ok b → w'.heap[b]? = w.heap[b]?) (hk : ∀ b, ok b → ok' b) : Rep w' ok' x v := by
 induction h with
 | sc v h1 => exact .sc v h1
 | none z g A c h0 => exact .none z g A c h0
 | row z n g ad c u hn hc hok hz hu hr ih =>
   refine .row z n g ad c u hn hc (hk _ hok) hz (fun j q hj hq => ?_) (fun j q x hj hx => ih j q x hj hx)
   rw [World.cell?_of_block (w := w) (by rw [add_block]; exact hw _ hok)]
   exact hu j q hj hq
 | known u v x h1 h ih => exact .known u v x h1 ih
theorem Rep.one {w : World} {ok : Nat → Prop} {x : V} {v : Value} (h : Rep w ok x v) : v.oneCell' = true := by
 induction h with
 | sc v h1 => exact h1
 | none => rfl
 | row => rfl
 | known u v x h1 h ih => exact h1
inductive CV where
 | any
 | p (fr : Bool) (x : V)
 | h (s : Nat)
 | hn (s : Nat)
 | hv (s : Nat) (x : Value)
inductive TV where
 | c (x : CV)
 | agg (xs : List CV)
inductive AV where
 | any
 | t (x : TV)
 | tup (xs : List TV)
 | ptr (s off : Nat)
 | eptr (s z j q : Nat)
 | bptr (fr : Bool) (e : List V)
 | fn (g : FuncId) (caps : List (Nat × Nat))
 | bfn (g : FuncId) (es : List (List V))
 | nptr (s j : Nat)
 | nhd (s j : Nat)
 | nelp (s j q : Nat)
inductive Content where
 | box (t : TypeId) (cs : List CV)
 | row (e : TypeId) (z n : Nat) (g : Nat → List V) (fr : Bool)
 | iter (s : ByteArray) (pos : Nat)
 | nest (e ei : TypeId) (n : Nat) (m : Nat → Nat) (g : Nat → Nat → List V)
 | set (P : Program) (kt bt : TypeId) (n : Nat) (l : List Int)
def hdr : Value → Value
 | .tuple vs => vs.getD 0 undef
 | v => v
theorem hdr_one {v : Value} (h : v.oneCell' = true) : hdr v = v := by
 cases v <;> first | rfl | cases h
abbrev Sig := Nat → Option Value
def blk : Value → Option Nat
 | .pointer (some a) => some a.block
 | .slice (some a) _ _ => some a.block
 | .map (some b) => some b
 | _ => none
def Own (v : Value) (b : Nat) : Prop := blk v = some b ∨ ∃ us : List Value, v = .tuple us.toArray ∧ ∃ u ∈ us, blk u = some b
theorem own_of {v : Value} {b : Nat} (h : blk v = some b) : Own v b := .inl h
theorem own_ptr {a : Option Addr} {b : Nat} : Own (.pointer a) b ↔ blk (.pointer a) = some b := ⟨fun h => (by rcases h with h | ⟨us, h, _⟩; exact h; cases h), fun h => Or.inl h⟩
theorem own_slice {a : Option Addr} {n c b : Nat} : Own (.slice a n c) b ↔ blk (.slice a n c) = some b := ⟨fun h => (by rcases h with h | ⟨us, h, _⟩; exact h; cases h), fun h => Or.inl h⟩
theorem own_map {a : Option Nat} {b : Nat} : Own (.map a) b ↔ blk (.map a) = some b := ⟨fun h => (by rcases h with h | ⟨us, h, _⟩; exact h; cases h), fun h => Or.inl h⟩
theorem own_tup {us : List Value} {b : Nat} : Own (.tuple us.toArray) b ↔ ∃ u ∈ us, blk u = some b := ⟨fun h => by
 rcases h with h | ⟨us', h, h'⟩
 ·cases h
 ·have e : us = us' := by simpa using h
  subst e
  exact h', fun h => .inr ⟨us, rfl, h⟩⟩
theorem own_nil {n c b : Nat} (h : Own (.slice none n c) b) : False := by rw [own_slice] at h; cases h
theorem own_p {n off b : Nat} (h : Own (.pointer (some ⟨n, off, none⟩)) b) : b = n := by rw [own_ptr] at h; simpa [blk, eq_comm] using h
theorem own_s {n k c b : Nat} (h : Own (.slice (some ⟨n, 0, none⟩) k c) b) : b = n := by rw [own_slice] at h; simpa [blk, eq_comm] using h
theorem own_m {n b : Nat} (h : Own (.map (some n)) b) : b = n := by rw [own_map] at h; simpa [blk, eq_comm] using h
def Live (σ : Sig) (b : Nat) : Prop := ∃ s v, σ s = some v ∧ Own v b
def K (base : Nat) (w : World) (σ : Sig) (fr : Bool) (b : Nat) : Prop := b < w.heap.size ∧ ¬ Live σ b ∧ (fr = true → base ≤ b)
def MK : Nat := 1099511627776
def Blk (w : World) (g : Nat) (cur : Array Value) (e : Nat) : Prop := if e < MK then w.heap[g]? = some (.cells cur e (0, 0)) else ∃ fz : Nat × Nat, w.heap[g]? = some (.cells cur (e - MK) fz) ∧ (fz.2 = 0 ∨ cur.size ≤ fz.1)
theorem Blk.cells {w : World} {g : Nat} {cur : Array Value} {e : Nat} (h : Blk w g cur e) : ∃ t fz, w.heap[g]? = some (.cells cur t fz) ∧ (fz.2 = 0 ∨ cur.size ≤ fz.1) := by
 unfold Blk at h
 split at h
 ·exact ⟨_, _, h, .inl rfl⟩
 ·obtain ⟨fz, h1, h2⟩ := h; exact ⟨_, _, h1, h2⟩
theorem Blk.lt {w : World} {g : Nat} {cur : Array Value} {e : Nat} (h : Blk w g cur e) : g < w.heap.size := by
 obtain ⟨t, fz, h1, _⟩ := h.cells
 exact (Array.getElem?_eq_some_iff.1 h1).1
theorem Blk.of_eq {w w' : World} {g : Nat} {cur : Array Value} {e : Nat} (h : Blk w g cur e) (hb : w'.heap[g]? = w.heap[g]?) : Blk w' g cur e := by
 unfold Blk at h ⊢
 rw [hb]
 exact h
theorem Blk.setRow {w : World} {g : Nat} {cur new : Array Value} {e : Nat} (h : Blk w g cur e) (hs : new.size = cur.size) : Blk (w.setRow g new) g new e := by
 unfold Blk at h ⊢
 split at h
 ·rename_i he; rw [if_pos he]; exact setRow_heap w g cur new e _ h
 ·rename_i he
  rw [if_neg he]
  obtain ⟨fz, h1, h2⟩ := h
  exact ⟨fz, setRow_heap w g cur new _ _ h1, by rw [hs]; exact h2⟩
def ORow (w : World) (base : Nat) (e : Nat) (size : Nat) (v : Value) (n : Nat) (xs : List Value) : Prop :=
 xs.length = n * size ∧
 ((v = .slice none 0 0 ∧ n = 0) ∨
  ∃ g cap cur, v = .slice (some ⟨g, 0, none⟩) n cap ∧ base ≤ g ∧ Blk w g cur e ∧ n ≤ cap ∧ cap ≤ maxLen ∧ cur.size = cap * size ∧ cur.toList.take (n * size) = xs)
section
variable {w : World} {base e size : Nat} {v : Value} {n : Nat} {xs : List Value}
theorem ORow.own (h : ORow w base e size v n xs) (he : e < MK) : w.ownsRow base e size v n xs := by
 refine ⟨h.1, ?_⟩
 rcases h.2 with h | ⟨g, cap, cur, h1, h2, h3, h4⟩
 ·exact .inl h
 ·unfold Blk at h3
  rw [if_pos he] at h3
  exact .inr ⟨g, cap, cur, h1, h2, h3, h4⟩
theorem ORow.of_own (h : w.ownsRow base e size v n xs) (he : e < MK) : ORow w base e size v n xs := by
 refine ⟨h.1, ?_⟩
 rcases h.2 with h | ⟨g, cap, cur, h1, h2, h3, h4⟩
 ·exact .inl h
 ·refine .inr ⟨g, cap, cur, h1, h2, ?_, h4⟩
  unfold Blk
  rw [if_pos he]
  exact h3
theorem ORow.lt (h : ORow w base e size v n xs) : ∀ k, v.ownBlock = some k → base ≤ k ∧ k < w.heap.size := by
 intro k hk
 rcases h.2 with ⟨rfl, _⟩ | ⟨g, cap, cur, rfl, hb, hg, _⟩
 ·simp [Value.ownBlock] at hk
 ·simp [Value.ownBlock] at hk
  subst hk
  exact ⟨hb, hg.lt⟩
theorem ORow.form (h : ORow w base e size v n xs) (hn : 0 < n) : ∃ g cap, v = .slice (some ⟨g, 0, none⟩) n cap ∧ base ≤ g ∧ g < w.heap.size := by
 rcases h.2 with ⟨_, h0⟩ | ⟨g, cap, cur, h1, h2, h3, _⟩
 ·omega
 ·exact ⟨g, cap, h1, h2, h3.lt⟩
theorem ORow.cellAt {g cap : Nat} (h : ORow w base e size (.slice (some ⟨g, 0, none⟩) n cap) n xs) (j : Nat) (hj : j < n * size) : w.cell? ⟨g, j, none⟩ = xs[j]? := by
 rcases h.2 with ⟨h', _⟩ | ⟨g', cap', cur, h', _, hg, _, _, _, htake⟩
 ·simp at h'
 ·simp only [Value.slice.injEq, Option.some.injEq, Addr.mk.injEq, and_true, true_and] at h'
  obtain ⟨rfl, rfl⟩ := h'
  obtain ⟨t, fz, hg, _⟩ := hg.cells
  rw [cell_of_row w g j cur t fz hg, ← htake, List.getElem?_take, if_pos hj]
  simp
theorem ORow.blk (h : ORow w base e size v n xs) {b : Nat} (hb : Av.blk v = some b) : base ≤ b ∧ b < w.heap.size := by
 refine h.lt b ?_
 rcases h.2 with ⟨rfl, _⟩ | ⟨g', cap, cur, rfl, _⟩
 ·simp [Av.blk] at hb
 ·simpa [Av.blk, Value.ownBlock] using hb
theorem ORow.far {w' : World} (h : ORow w base e size v n xs) (hb : ∀ b, Av.blk v = some b → w'.heap[b]? = w.heap[b]?) : ORow w' base e size v n xs := by
 obtain ⟨h1, h1'⟩ := h
 refine ⟨h1, ?_⟩
 rcases h1' with h1' | ⟨g', cap, cur, rfl, k1, k2, k3⟩
 ·exact .inl h1'
 ·exact .inr ⟨g', cap, cur, rfl, k1, k2.of_eq (hb g' rfl), k3⟩
theorem ORow.cells (h : ORow w base e size v n xs) {g : Nat} (hg : v.ownBlock = some g) : ∀ j u, xs[j]? = some u → w.cell? ((⟨g, 0, none⟩ : Addr).add j) = some u := by
 intro j u hu
 rcases h.2 with ⟨rfl, _⟩ | ⟨g', cap, cur, rfl, _, hgg, _, _, _, htake⟩
 ·simp [Value.ownBlock] at hg
 ·simp [Value.ownBlock] at hg
  subst hg
  obtain ⟨t, fz, hgg, _⟩ := hgg.cells
  have hadd : (⟨g', 0, none⟩ : Addr).add j = ⟨g', j, none⟩ := by unfold Addr.add; split <;> simp_all
  rw [hadd, cell_of_row w g' j cur t fz hgg]
  rw [← htake, List.getElem?_take] at hu
  split at hu
  ·simpa using hu
  ·cases hu
end
def NestOk (base : Nat) (w : World) (v : Value) (e ei : TypeId) (n : Nat) (m : Nat → Nat) (g : Nat → Nat → List V) : Prop :=
 ∃ hd us, v = .tuple (hd :: us).toArray ∧ ORow w base e 1 hd n us ∧
   (∀ (j : Nat) u, us[j]? = some u → u.oneCell' = true ∧ ∃ xs, ORow w base ei 1 u (m j) xs ∧ (∀ x ∈ xs, x.oneCell' = true) ∧ ∀ q, q < m j → ∃ x, g j q = [.sc x] ∧ xs[q]? = some x) ∧
   (∀ (j j' : Nat) u u' b, us[j]? = some u → us[j']? = some u' → blk u = some b → blk u' = some b → j = j') ∧ ∀ u ∈ us, ∀ b, blk u = some b → blk hd ≠ some b
theorem NestOk.blk {base : Nat} {w : World} {v : Value} {e ei : TypeId} {n : Nat} {m : Nat → Nat} {g : Nat → Nat → List V} (h : NestOk base w v e ei n m g) {b : Nat} (hb : Own v b) : base ≤ b ∧ b < w.heap.size := by
 obtain ⟨hd, us, rfl, h1, h2, _⟩ := h
 obtain ⟨u, hu, hb'⟩ := own_tup.1 hb
 rcases List.mem_cons.1 hu with e | hu
 ·rw [e] at hb'
  exact h1.blk hb'
 ·obtain ⟨j, hj, e⟩ := List.getElem_of_mem hu
  rw [← e] at hb'
  obtain ⟨_, xs, h3, _⟩ := h2 j _ (List.getElem?_eq_getElem hj)
  exact h3.blk hb'
theorem NestOk.far {base : Nat} {w w' : World} {v : Value} {e ei : TypeId} {n : Nat} {m : Nat → Nat} {g : Nat → Nat → List V} (h : NestOk base w v e ei n m g) (hb : ∀ b, Own v b → w'.heap[b]? = w.heap[b]?) : NestOk base w' v e ei n m g := by
 obtain ⟨hd, us, rfl, h1, h2, h3, h4⟩ := h
 refine ⟨hd, us, rfl, h1.far fun b hb' => hb b (own_tup.2 ⟨hd, by simp, hb'⟩), fun j u hu => ?_, h3, h4⟩
 obtain ⟨h5, xs, h6, h7⟩ := h2 j u hu
 exact ⟨h5, xs, h6.far fun b hb' => hb b (own_tup.2 ⟨u, List.mem_cons_of_mem _ (List.mem_of_getElem? hu), hb'⟩), h7⟩
theorem ORow.base_le {w : World} {base base' e size : Nat} {v : Value} {n : Nat} {xs : List Value} (h : ORow w base e size v n xs) (hb : base' ≤ base) : ORow w base' e size v n xs := by
 refine ⟨h.1, ?_⟩
 rcases h.2 with k | ⟨b', cap, cur, e1, hb', rest⟩
 ·exact .inl k
 ·exact .inr ⟨b', cap, cur, e1, by omega, rest⟩
theorem NestOk.base_le {base base' : Nat} {w : World} {v : Value} {e ei : TypeId} {n : Nat} {m : Nat → Nat} {g : Nat → Nat → List V} (h : NestOk base w v e ei n m g) (hb : base' ≤ base) : NestOk base' w v e ei n m g := by
 obtain ⟨hd, us, rfl, h1, h2, h3⟩ := h
 refine ⟨hd, us, rfl, h1.base_le hb, fun j u hu => ?_, h3⟩
 obtain ⟨h5, xs, h6, h7⟩ := h2 j u hu
 exact ⟨h5, xs, h6.base_le hb, h7⟩
section
variable (base : Nat) (w : World) (σ : Sig)
def RepC : CV → Value → Prop
 | .any, v => v.oneCell' = true
 | .p fr x, v => Rep w (K base w σ fr) x v
 | .h s, v => σ s = some v ∧ v.oneCell' = true
 | .hn s, v => (∃ us : List Value, σ s = some (.tuple (v :: us).toArray)) ∧ v.oneCell' = true
 | .hv s x, v => σ s = some x ∧ v = hdr x ∧ v.oneCell' = true
def RepCs (cs : List CV) (vs : List Value) : Prop := cs.length = vs.length ∧ ∀ (i : Nat) c v, cs[i]? = some c → vs[i]? = some v → RepC base w σ c v
def RepT : TV → Value → Prop
 | .c x, v => RepC base w σ x v
 | .agg xs, v => ∃ vs : List Value, v = .agg vs.toArray ∧ RepCs base w σ xs vs
def RepTs (ts : List TV) (vs : List Value) : Prop := ts.length = vs.length ∧ ∀ (i : Nat) t v, ts[i]? = some t → vs[i]? = some v → RepT base w σ t v
def RepB (fr : Bool) (e : List V) (ad : Addr) : Prop :=
 e = [] ∨ (K base w σ fr ad.block ∧ ∀ (q : Nat) x, e[q]? = some x → ∃ u, w.cell? (ad.add q) = some u ∧ Rep w (K base w σ fr) x u)
def RepA : AV → Value → Prop
 | .any, _ => True
 | .t x, v => RepT base w σ x v
 | .tup xs, v => ∃ vs : List Value, v = .tuple vs.toArray ∧ RepTs base w σ xs vs
 | .ptr s off, v => ∃ b, σ s = some (.pointer (some ⟨b, 0, none⟩)) ∧ v = .pointer (some ⟨b, off, none⟩)
 | .eptr s z j q, v => ∃ b n c, σ s = some (.slice (some ⟨b, 0, none⟩) n c) ∧ j < n ∧ v = .pointer (some ⟨b, j * z + q, none⟩)
 | .bptr fr e, v => ∃ ad, v = .pointer (some ad) ∧ RepB base w σ fr e ad
 | .fn g caps, v => ∃ ps : List Value, v = .func (.func g) #[] ps.toArray ∧ ps.length = caps.length ∧
    ∀ (i : Nat) c u, caps[i]? = some c → ps[i]? = some u → ∃ b, σ c.1 = some (.pointer (some ⟨b, 0, none⟩)) ∧ u = .pointer (some ⟨b, c.2, none⟩)
 | .bfn g es, v => ∃ ps : List Value, v = .func (.func g) #[] ps.toArray ∧ ps.length = es.length ∧
    ∀ (i : Nat) e u, es[i]? = some e → ps[i]? = some u → ∃ ad, u = .pointer (some ad) ∧ RepB base w σ false e ad
 | .nptr s j, v => ∃ b n c us, σ s = some (.tuple (.slice (some ⟨b, 0, none⟩) n c :: us : List Value).toArray) ∧ j < n ∧ v = .pointer (some ⟨b, j, none⟩)
 | .nhd s j, v => ∃ hd us, σ s = some (.tuple (hd :: us : List Value).toArray) ∧ us[j]? = some v ∧ v.oneCell' = true
 | .nelp s j q, v => ∃ hd us b n c, σ s = some (.tuple (hd :: us : List Value).toArray) ∧ us[j]? = some (.slice (some ⟨b, 0, none⟩) n c) ∧ q < n ∧ v = .pointer (some ⟨b, q, none⟩)
def SiteOk (v : Value) : Content → Prop
 | .box t cs => ∃ b vs, v = .pointer (some ⟨b, 0, none⟩) ∧ base ≤ b ∧ w.heap[b]? = some (.cells vs t (0, 0)) ∧ (∀ u ∈ vs, u.oneCell' = true) ∧ RepCs base w σ cs vs.toList
 | .row e z n g fr => ∃ xs, ORow w base e z v n xs ∧ (∀ u ∈ xs, u.oneCell' = true) ∧ (∀ j, j < n → (g j).length = z) ∧
    ∀ (j q : Nat) x, j < n → (g j)[q]? = some x → ∃ u, xs[j * z + q]? = some u ∧ Rep w (K base w σ fr) x u
 | .iter s pos => ∃ b, v = .pointer (some ⟨b, 0, none⟩) ∧ base ≤ b ∧ w.heap[b]? = some (.stringIter s pos)
 | .nest e ei n m g => NestOk base w v e ei n m g
 | .set P kt bt n l => ∃ b, v = .map (some b) ∧ base ≤ b ∧ SetAt P kt bt w b n l
end
theorem SiteOk.block {base : Nat} {w : World} {σ : Sig} {v : Value} {c : Content} (h : SiteOk base w σ v c) {b : Nat} (hb : Own v b) : base ≤ b ∧ b < w.heap.size := by
 cases c with
 | box t cs =>
   obtain ⟨b', vs, rfl, h1, h2, _⟩ := h
   rw [own_ptr] at hb
   simp only [blk, Option.some.injEq] at hb
   subst hb
   exact ⟨h1, (Array.getElem?_eq_some_iff.1 h2).1⟩
 | row e z n g fr =>
   obtain ⟨xs, h, _⟩ := h
   refine h.lt b ?_
   rcases h.2 with ⟨rfl, _⟩ | ⟨g', cap, cur, rfl, _⟩
   ·simp [own_slice, blk] at hb
   ·simpa [own_slice, blk, Value.ownBlock] using hb
 | nest e ei n m g => exact NestOk.blk h hb
 | iter s pos =>
   obtain ⟨b', rfl, h1, h2⟩ := h
   rw [own_ptr] at hb
   simp only [blk, Option.some.injEq] at hb
   subst hb
   exact ⟨h1, (Array.getElem?_eq_some_iff.1 h2).1⟩
 | set P kt bt n l =>
   obtain ⟨b', rfl, h1, h2⟩ := h
   rw [own_map] at hb
   simp only [blk, Option.some.injEq] at hb
   subst hb
   exact ⟨h1, h2.lt⟩
structure FS where
 T : Nat → AV
 H : Nat → Option Content
structure Base extends World where
 F : Nat → Prop
 O : Nat → Option Obj
 base : Nat
 hb : base ≤ heap.size
 Q : World → Value → Prop
instance : Coe Base World := ⟨Base.toWorld⟩
def plain (w : World) : Base := { w with F := fun _ => False, O := fun _ => none, base := w.heap.size, hb := Nat.le_refl _, Q := fun _ _ => True }
instance : Coe World Base := ⟨plain⟩
def Prot (w0 : Base) (σ : Sig) (w : World) : Prop := ∀ b, w0.F b → b < w.heap.size ∧ ¬ Live σ b ∧ w.heap[b]? = w0.O b
structure Rel (w0 : Base) (N : Nat) (S : FS) (σ : Sig) (a : Act) (w : World) : Prop where
 below : Below w0.base w0 w
 size : a.tmps.size = N
 defers : a.defers = []
 tmps : ∀ t, RepA w0.base w σ (S.T t) (a.tmps.getD t undef)
 sites : ∀ s c, S.H s = some c → ∃ v, σ s = some v ∧ SiteOk w0.base w σ v c
 dom : ∀ s, S.H s = none → σ s = none
 inj : ∀ s s' v v' b, σ s = some v → σ s' = some v' → Own v b → Own v' b → s = s'
 prot : Prot w0 σ w
theorem Rel.based {w0 : Base} {N : Nat} {S : FS} {σ : Sig} {a : Act} {w : World} (h : Rel w0 N S σ a w) : w0.base ≤ w.heap.size := Nat.le_trans w0.hb h.below.size
theorem Rel.live {w0 : Base} {N : Nat} {S : FS} {σ : Sig} {a : Act} {w : World} (h : Rel w0 N S σ a w) {b : Nat} (hb : Live σ b) : w0.base ≤ b ∧ b < w.heap.size := by
 obtain ⟨s, v, hs, hv⟩ := hb
 cases hH : S.H s with
 | none => rw [h.dom s hH] at hs; cases hs
 | some c =>
   obtain ⟨v', hs', ho⟩ := h.sites s c hH
   rw [hs] at hs'
   cases hs'
   exact ho.block hv
structure Evo (σ σ' : Sig) (w w' : World) : Prop where
 size : w.heap.size ≤ w'.heap.size
 keep : ∀ b, b < w.heap.size → ¬ Live σ b → w'.heap[b]? = w.heap[b]?
 live : ∀ b, b < w.heap.size → Live σ' b → Live σ b
theorem Evo.prot {w0 : Base} {σ σ' : Sig} {w w' : World} (he : Evo σ σ' w w') (h : Prot w0 σ w) : Prot w0 σ' w' := fun b hb =>
 ⟨Nat.lt_of_lt_of_le (h b hb).1 he.size, fun hl => (h b hb).2.1 (he.live b (h b hb).1 hl), (he.keep b (h b hb).1 (h b hb).2.1).trans (h b hb).2.2⟩
theorem Evo.K {base : Nat} {σ σ' : Sig} {w w' : World} (h : Evo σ σ' w w') {fr : Bool} {b : Nat} (hk : K base w σ fr b) : Av.K base w' σ' fr b :=
 ⟨Nat.lt_of_lt_of_le hk.1 h.size, fun hl => hk.2.1 (h.live b hk.1 hl), hk.2.2⟩
theorem Evo.rep {base : Nat} {σ σ' : Sig} {w w' : World} (h : Evo σ σ' w w') {fr : Bool} {x : V} {v : Value} (hr : Rep w (Av.K base w σ fr) x v) : Rep w' (Av.K base w' σ' fr) x v :=
 hr.mono (fun b hb => h.keep b hb.1 hb.2.1) (fun b hb => h.K hb)
def CV.sites : CV → List Nat
 | .h s => [s]
 | .hn s => [s]
 | .hv s _ => [s]
 | _ => []
theorem Evo.repC {base : Nat} {σ σ' : Sig} {w w' : World} (h : Evo σ σ' w w') {c : CV} {v : Value} (hs : ∀ s ∈ c.sites, σ' s = σ s) (hr : RepC base w σ c v) : RepC base w' σ' c v := by
 cases c with
 | any => exact hr
 | p fr x => exact h.rep hr
 | h s => exact ⟨(hs s (by simp [CV.sites])).trans hr.1, hr.2⟩
 | hn s => obtain ⟨us, h1⟩ := hr.1; exact ⟨⟨us, (hs s (by simp [CV.sites])).trans h1⟩, hr.2⟩
 | hv s x => exact ⟨(hs s (by simp [CV.sites])).trans hr.1, hr.2⟩
theorem Evo.repB {base : Nat} {σ σ' : Sig} {w w' : World} (h : Evo σ σ' w w') {fr : Bool} {e : List V} {ad : Addr} (hr : RepB base w σ fr e ad) : RepB base w' σ' fr e ad := by
 rcases hr with hr | ⟨hk, hr⟩
 ·exact .inl hr
 ·refine .inr ⟨h.K hk, fun q x hq => ?_⟩
  obtain ⟨u, hu, hx⟩ := hr q x hq
  refine ⟨u, ?_, h.rep hx⟩
  rw [World.cell?_of_block (w := w) (by rw [add_block]; exact h.keep _ hk.1 hk.2.1)]
  exact hu
def TV.sites : TV → List Nat
 | .c x => x.sites
 | .agg xs => xs.flatMap CV.sites
def AV.sites : AV → List Nat
 | .any => []
 | .t x => x.sites
 | .tup xs => xs.flatMap TV.sites
 | .ptr s _ => [s]
 | .eptr s _ _ _ => [s]
 | .bptr _ _ => []
 | .fn _ caps => caps.map (·.1)
 | .bfn _ _ => []
 | .nptr s _ => [s]
 | .nhd s _ => [s]
 | .nelp s _ _ => [s]
theorem mem_flat {α : Type} {f : α → List Nat} {l : List α} {i : Nat} {x : α} (h : l[i]? = some x) {s : Nat} (hs : s ∈ f x) : s ∈ l.flatMap f :=
 List.mem_flatMap.2 ⟨x, List.mem_of_getElem? h, hs⟩
theorem Evo.repT {base : Nat} {σ σ' : Sig} {w w' : World} (h : Evo σ σ' w w') {c : TV} {v : Value} (hs : ∀ s ∈ c.sites, σ' s = σ s) (hr : RepT base w σ c v) : RepT base w' σ' c v := by
 cases c with
 | c x => exact h.repC (fun s e => hs s e) hr
 | agg xs =>
   obtain ⟨vs, rfl, hl, hr⟩ := hr
   exact ⟨vs, rfl, hl, fun i c v hc hv => h.repC (fun s e => hs s (mem_flat hc e)) (hr i c v hc hv)⟩
theorem Evo.repA {base : Nat} {σ σ' : Sig} {w w' : World} (h : Evo σ σ' w w') {c : AV} {v : Value} (hs : ∀ s ∈ c.sites, σ' s = σ s) (hr : RepA base w σ c v) : RepA base w' σ' c v := by
 cases c with
 | any => trivial
 | t x => exact h.repT hs hr
 | tup xs =>
   obtain ⟨vs, rfl, hl, hr⟩ := hr
   exact ⟨vs, rfl, hl, fun i c v hc hv => h.repT (fun s e => hs s (mem_flat hc e)) (hr i c v hc hv)⟩
 | ptr s off => obtain ⟨b, h1, h2⟩ := hr; exact ⟨b, (hs s (by simp [AV.sites])).trans h1, h2⟩
 | eptr s z j q => obtain ⟨b, n, c, h1, h2⟩ := hr; exact ⟨b, n, c, (hs s (by simp [AV.sites])).trans h1, h2⟩
 | bptr fr e => obtain ⟨ad, h1, h2⟩ := hr; exact ⟨ad, h1, h.repB h2⟩
 | fn g caps =>
   obtain ⟨ps, h1, h2, h3⟩ := hr
   refine ⟨ps, h1, h2, fun i c u hc hu => ?_⟩
   obtain ⟨b, h4, h5⟩ := h3 i c u hc hu
   exact ⟨b, (hs c.1 (List.mem_map.2 ⟨c, List.mem_of_getElem? hc, rfl⟩)).trans h4, h5⟩
 | bfn g es =>
   obtain ⟨ps, h1, h2, h3⟩ := hr
   exact ⟨ps, h1, h2, fun i e u he hu => by obtain ⟨ad, h4, h5⟩ := h3 i e u he hu; exact ⟨ad, h4, h.repB h5⟩⟩
 | nptr s j => obtain ⟨b, n, c, us, h1, h2⟩ := hr; exact ⟨b, n, c, us, (hs s (by simp [AV.sites])).trans h1, h2⟩
 | nhd s j => obtain ⟨hd, us, h1, h2⟩ := hr; exact ⟨hd, us, (hs s (by simp [AV.sites])).trans h1, h2⟩
 | nelp s j q => obtain ⟨hd, us, b, n, c, h1, h2⟩ := hr; exact ⟨hd, us, b, n, c, (hs s (by simp [AV.sites])).trans h1, h2⟩
theorem Evo.site {base : Nat} {σ σ' : Sig} {w w' : World} (h : Evo σ σ' w w') {v : Value} {c : Content} (hb : ∀ b, Own v b → w'.heap[b]? = w.heap[b]?)
  (hs : ∀ t cs, c = .box t cs → ∀ s ∈ cs.flatMap CV.sites, σ' s = σ s) (hr : SiteOk base w σ v c) : SiteOk base w' σ' v c := by
 cases c with
 | box t cs =>
   obtain ⟨b, vs, rfl, h1, h2, h3, h4, h5⟩ := hr
   refine ⟨b, vs, rfl, h1, (hb b (own_of rfl)).trans h2, h3, h4, fun i c v hc hv => h.repC (fun s e => hs t cs rfl s (mem_flat hc e)) (h5 i c v hc hv)⟩
 | row e z n g fr =>
   obtain ⟨xs, ⟨h1, h1'⟩, h2, h3, h4⟩ := hr
   refine ⟨xs, ⟨h1, ?_⟩, h2, h3, fun j q x hj hx => ?_⟩
   ·rcases h1' with h1' | ⟨g', cap, cur, rfl, k1, k2, k3⟩
    ·exact .inl h1'
    ·exact .inr ⟨g', cap, cur, rfl, k1, k2.of_eq (hb g' (own_of rfl)), k3⟩
   ·obtain ⟨u, hu, hx⟩ := h4 j q x hj hx
    exact ⟨u, hu, h.rep hx⟩
 | nest e ei n m g => exact NestOk.far hr hb
 | iter s pos =>
   obtain ⟨b, rfl, h1, h2⟩ := hr
   exact ⟨b, rfl, h1, (hb b (own_of rfl)).trans h2⟩
 | set P kt bt n l =>
   obtain ⟨b, rfl, h1, h2⟩ := hr
   exact ⟨b, rfl, h1, h2.far (hb b (own_of rfl))⟩
end Go.Av