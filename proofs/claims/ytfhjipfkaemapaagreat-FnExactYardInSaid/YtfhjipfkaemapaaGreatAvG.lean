/- evOp tells what the machine does. -/
import Derived.Test.YtfhjipfkaemapaaGreatAvF
import Derived.Deep.AppendLies
import Derived.Great.BuildSlice
import Derived.Lib.ConvBytes
import Derived.Laws.RangeString
import Derived.Laws.IdiomStrings
namespace Go.Av
open Go Go.RowKit
set_option linter.unusedVariables false
set_option linter.unusedSimpArgs false
section
variable {P : Program} {base : Nat} {o : Oper} {ev : Operand → AV} {H : Nat → Option Content} {σ : Sig} {a : Act} {w : World}
theorem zeroV_ok {t : TypeId} {zs : List V} (h : zeroV P t = some zs) : ∃ i z, P.info? t = some i ∧ i.zero = some z ∧ (∀ u ∈ z.cells, u.oneCell' = true) ∧ zs = z.cells.toList.map .sc := by
 unfold zeroV at h
 split at h
 ·rename_i i hi
  split at h
  ·rename_i z hz
   split at h
   ·rename_i ha
    cases h
    exact ⟨i, z, hi, hz, fun u hu => by simpa using List.all_eq_true.1 ha u (by simpa using hu), rfl⟩
   ·cases h
  ·cases h
 ·cases h
theorem rowOf_ok (hH : ∀ s c, H s = some c → ∃ v, σ s = some v ∧ SiteOk base w σ v c) {av : AV} {u : Value} {z n : Nat} {g : Nat → List V} (h : rowOf H av = some (z, n, g)) (hr : RepA base w σ av u) :
  ∃ A c, u = .slice A n c ∧ (A = none → n = 0) ∧ ∀ ad, A = some ad → ∀ (j q : Nat) x, j < n → (g j)[q]? = some x → (g j).length = z → ∃ y, w.cell? (ad.add (j * z + q)) = some y ∧ ∃ ok, Rep w ok x y := by
 unfold rowOf at h
 split at h
 ·rename_i s
  split at h
  ·rename_i e z' n' g' fr hs
   cases h
   obtain ⟨v, hv, xs, h1, h2, h3, h4⟩ := hH s _ hs
   have hu : u = v := by have := hr.1; rw [hv] at this; exact (Option.some.inj this).symm
   subst hu
   rcases h1.2 with ⟨rfl, rfl⟩ | ⟨b, cap, cur, rfl, _⟩
   ·exact ⟨none, 0, rfl, (fun _ => rfl), (fun ad h => by cases h)⟩
   ·refine ⟨_, _, rfl, (fun h => by cases h), fun ad had j q x hj hx _ => ?_⟩
    cases had
    obtain ⟨y, hy, hr'⟩ := h4 j q x hj hx
    exact ⟨y, h1.cells rfl _ _ hy, _, hr'⟩
  ·cases h
 ·rename_i fr z' n' g'
  cases h
  replace hr : Rep w (K base w σ fr) (.row z n g) u := hr
  cases hr with
  | none z g A c h0 => exact ⟨A, c, rfl, fun _ => rfl, fun ad _ j q x hj => by omega⟩
  | row z n g ad c u' hn hc hok hz hu hr' =>
    refine ⟨_, _, rfl, (fun h => by cases h), fun ad' had j q x hj hx hl => ?_⟩
    cases had
    have hq : q < z := by rw [← hl]; exact (List.getElem?_eq_some_iff.1 hx).1
    exact ⟨_, hu j q hj hq, _, hr' j q x hj hx⟩
 ·cases h
theorem conv_back {src dst e : TypeId} {x : Operand} {n : Nat} {g : Nat → List V} (hop : o.op = .convert src dst x) (hev : ∀ x, RepA base w σ (ev x) (a.eval x)) (hH : ∀ s c, H s = some c → ∃ v, σ s = some v ∧ SiteOk base w σ v c)
  (hs : P.underlying src = some (.slice e)) (he : P.underlying e = some (.int .u8)) (hd : P.underlying dst = some .string) (hr : rowOf H (ev x) = some (1, n, g)) (ho : ByOk n g) :
  EffOk P base o ⟨scv (.string (bstr n g)), []⟩ σ a w := by
 obtain ⟨A, c, hu, h0, hc⟩ := rowOf_ok hH hr (hev x)
 refine EffOk.still (v := .string (bstr n g)) ?_ (rep_scv rfl)
 have hrun : (convert src dst (a.eval x)).run P w = .ok (.string (bstr n g)) w := by
  rw [hu]
  cases A with
  | none =>
    obtain rfl := h0 rfl
    unfold convert
    simp [underlying, hs, hd, he, Conv.bytesToString, bstr]
    rfl
  | some ad =>
    have hl : n = ((List.range n).map fun j => byOf (g j)).length := by simp
    have hk := run_convert_bytes_back (P := P) w src dst e ad c ((List.range n).map fun j => byOf (g j)) hs he hd (fun j hj => by
     have hj' : j < n := by simpa using hj
     obtain ⟨b, hb⟩ := ho j hj'
     obtain ⟨y, hy, ok, hrep⟩ := hc ad rfl j 0 (.sc (.int .u8 (b.toNat : Int))) hj' (by rw [hb]; rfl) (by rw [hb]; rfl)
     cases hrep
     rw [Nat.mul_one, Nat.add_zero] at hy
     rw [hy]
     simp [hb, byOf])
    rw [← hl] at hk
    exact hk
 simp [execOp, hop, hrun]
theorem conv_bytes {src dst e d : TypeId} {x : Operand} {s : ByteArray} {u : TypeDesc} (hop : o.op = .convert src dst x) (hx : a.eval x = .string s) (hbase : base ≤ w.heap.size) (hf : σ (siteOf d 0) = none)
  (hs : P.underlying src = some u) (hd : P.underlying dst = some (.slice e)) (he : P.underlying e = some (.int .u8)) (hm : s.size ≤ maxLen) :
  EffOk P base o ⟨.t (.c (.h (siteOf d 0))), [(siteOf d 0, .row (e + MK) 1 s.size (fun j => [.sc (.int .u8 (bt s j))]) true)]⟩ σ a w := by
 have hr := Go.Lib.run_convert_string_bytes (P := P) w src dst e s hs hd he
 have hss : s.data.toList.length = s.size := Array.length_toList
 have hge := grownCap_ge w s.size 0 e
 have hsz : (Go.Lib.bytesCells w e s).size = grownCap w s.size 0 e := by
  simp only [Go.Lib.bytesCells, Array.size_append, Array.size_map, Array.size_replicate]
  show s.size + _ = _
  omega
 have hbel : Below w.heap.size w (Go.Lib.bytesWorld w e s) := ⟨rfl, rfl, rfl, by rw [Go.Lib.bytesWorld_size]; omega, fun k hk => Go.Lib.bytesWorld_at_old w e s k hk⟩
 have htake : (Go.Lib.bytesCells w e s).toList.take (s.size * 1) = s.data.toList.map fun b => Value.int .u8 (b.toNat : Int) := by
  simp only [Go.Lib.bytesCells, Array.toList_append, Array.toList_map, Nat.mul_one]
  rw [List.take_append_of_le_length (by simp [hss])]
  exact List.take_of_length_le (by rw [List.length_map, hss]; exact Nat.le_refl _)
 refine EffOk.value (v := .slice (some ⟨w.heap.size, 0, none⟩) s.size (grownCap w s.size 0 e)) (w' := Go.Lib.bytesWorld w e s) (by simp [execOp, hop, hx, hr])
  (grow_newG hbel (fun b hb => by first | exact own_p hb | exact own_s hb | exact own_m hb) ⟨s.data.toList.map fun b => .int .u8 (b.toNat : Int), ⟨by rw [List.length_map, hss, Nat.mul_one], .inr ⟨w.heap.size, _, _, rfl, hbase, ?_, hge, grownCap_le_maxLen w s.size 0 e hm, by rw [hsz, Nat.mul_one], htake⟩⟩, fun v hv => ?_, fun j _ => rfl, fun j q x hj hx => ?_⟩) ⟨by simp [upd], rfl⟩
 ·unfold Blk
  rw [if_neg (by omega), Nat.add_sub_cancel]
  exact ⟨_, Go.Lib.bytesWorld_at_new w e s, .inr (Nat.le_refl _)⟩
 ·obtain ⟨b, _, rfl⟩ := List.mem_map.1 hv
  rfl
 ·cases q with
  | zero =>
    simp at hx
    subst hx
    refine ⟨.int .u8 (bt s j), ?_, .sc _ rfl⟩
    rw [Nat.mul_one, Nat.add_zero, List.getElem?_map, List.getElem?_eq_getElem (by rw [hss]; exact hj)]
    simp only [Option.map_some, Option.some.injEq, Value.int.injEq, true_and]
    unfold bt
    simp only [Int.toNat_natCast]
    rw [dif_pos hj]
    rfl
  | succ q => simp at hx
theorem rowNil_ok {op : BinOp} {t : TypeId} {x : AV} {v u : Value} {n : Nat} {b : Bool} (h : rowNil P op t x v = some (n, b)) (hx : RepA base w σ x u) (hn : 0 < n) :
  ∃ (a : Addr) (l c : Nat) (e : TypeId), u = .slice (some a) l c ∧ P.underlying t = some (.slice e) ∧ (op = .eql ∧ b = false ∨ op = .neq ∧ b = true) ∧ v = .slice none 0 0 := by
 unfold rowNil at h
 split at h
 ·rename_i e fr z n' g hu
  cases h
  replace hx : Rep w (K base w σ fr) (.row z n g) u := hx
  cases hx with
  | none => omega
  | row => exact ⟨_, _, _, e, rfl, hu, .inl ⟨rfl, rfl⟩, rfl⟩
 ·rename_i e fr z n' g hu
  cases h
  replace hx : Rep w (K base w σ fr) (.row z n g) u := hx
  cases hx with
  | none => omega
  | row => exact ⟨_, _, _, e, rfl, hu, .inr ⟨rfl, rfl⟩, rfl⟩
 ·cases h
theorem partsOf_ok (hev : ∀ x, RepA base w σ (ev x) (a.eval x)) : ∀ {l : List (Nat × Operand)} {ps : List (Nat × List CV)}, partsOf ev l = some ps →
  ps.length = l.length ∧ ∀ (i : Nat) p q, ps[i]? = some p → (l.map fun (i, x) => (i, a.eval x))[i]? = some q → p.1 = q.1 ∧ RepCs base w σ p.2 q.2.cells.toList
 | [], ps, h => by
   simp only [partsOf, Option.some.injEq] at h
   subst h
   exact ⟨rfl, fun i p q hp => by simp at hp⟩
 | (k, x) :: l, ps, h => by
   simp only [partsOf] at h
   split at h
   ·rename_i cs ps' hc hp
    cases h
    obtain ⟨h1, h2⟩ := partsOf_ok hev hp
    refine ⟨by simp [h1], fun i p q hp hq => ?_⟩
    cases i with
    | zero =>
      simp at hp hq
      subst hp
      subst hq
      exact ⟨rfl, cellsOf_rep hc (hev x)⟩
    | succ i => exact h2 i p q (by simpa using hp) (by simpa using hq)
   ·cases h
theorem capsOf_ok (hev : ∀ x, RepA base w σ (ev x) (a.eval x)) : ∀ {l : List Operand} {cs : List (Nat × Nat)}, capsOf ev l = some cs →
  (l.map a.eval).length = cs.length ∧ ∀ (i : Nat) c u, cs[i]? = some c → (l.map a.eval)[i]? = some u → ∃ b, σ c.1 = some (.pointer (some ⟨b, 0, none⟩)) ∧ u = .pointer (some ⟨b, c.2, none⟩)
 | [], cs, h => by
   simp only [capsOf, Option.some.injEq] at h
   subst h
   exact ⟨rfl, fun i c u hc => by simp at hc⟩
 | x :: l, cs, h => by
   simp only [capsOf] at h
   split at h
   ·rename_i s off l' hx hl
    cases h
    obtain ⟨h1, h2⟩ := capsOf_ok hev hl
    refine ⟨by simpa using h1, fun i c u hc hu => ?_⟩
    cases i with
    | zero =>
      simp at hc hu
      subst hc
      subst hu
      have hr := hev x
      rw [hx] at hr
      exact hr
    | succ i => exact h2 i c u (by simpa using hc) (by simpa using hu)
   ·cases h
theorem loOf_ok (hev : ∀ x, RepA base w σ (ev x) (a.eval x)) {lo : Option Operand} {l : Int} (h : loOf ev lo = some l) : (lo = none ∧ l = 0) ∨ ∃ x k, lo = some x ∧ a.eval x = .int k l := by
 unfold loOf at h
 split at h
 ·cases h; exact .inl ⟨rfl, rfl⟩
 ·rename_i x
  split at h
  ·rename_i k n hs
   cases h
   exact .inr ⟨x, k, rfl, (scOf_rep hs (hev x)).1⟩
  ·cases h
theorem hiOf_ok (hev : ∀ x, RepA base w σ (ev x) (a.eval x)) {n : Nat} {lo : Option Operand} {l : Int} (h : hiOf ev n lo = some l) : (lo = none ∧ l = (n : Int)) ∨ ∃ x k, lo = some x ∧ a.eval x = .int k l := by
 unfold hiOf at h
 split at h
 ·cases h; exact .inl ⟨rfl, rfl⟩
 ·rename_i x
  split at h
  ·rename_i k n hs
   cases h
   exact .inr ⟨x, k, rfl, (scOf_rep hs (hev x)).1⟩
  ·cases h
theorem run_bounds (hev : ∀ x, RepA base w σ (ev x) (a.eval x)) {isSlice : Bool} {len cap : Nat} {lo hi : Option Operand} {l h : Int} (h1 : loOf ev lo = some l) (h2 : hiOf ev len hi = some h)
  (hl : 0 ≤ l) (hlh : l ≤ h) (hn : h ≤ (len : Int)) (hc : len ≤ cap) :
  (Instr.sliceBounds isSlice len cap (lo.map a.eval) (hi.map a.eval) none).run P w = .ok (l.toNat, h.toNat, cap) w := by
 rcases loOf_ok hev h1 with ⟨rfl, rfl⟩ | ⟨x, k, rfl, hx⟩ <;> rcases hiOf_ok hev h2 with ⟨rfl, rfl⟩ | ⟨y, k', rfl, hy⟩
 ·simp [Instr.sliceBounds]
 ·have : (0 ≤ h ∧ h ≤ (cap : Int)) := by omega
  simp [Instr.sliceBounds, hy, Instr.sliceBound, asIntOf, this]
 ·simp [Instr.sliceBounds, hx, Instr.sliceBound, asIntOf, hl, hlh]
 ·have : (0 ≤ h ∧ h ≤ (cap : Int)) := by omega
  have h3 : l ≤ (h.toNat : Int) := by omega
  simp [Instr.sliceBounds, hx, hy, Instr.sliceBound, asIntOf, this, hl, h3]
  try (intro h4; omega)
theorem rep_cut {ok : Nat → Prop} {z n l h : Nat} {g : Nat → List V} {A : Option Addr} {c m : Nat} (hr : Rep w ok (.row z n g) (.slice A m c)) (h1 : l ≤ h) (h2 : h ≤ n) :
  m = n ∧ m ≤ c ∧ Rep w ok (.row z (h - l) (fun j => g (l + j))) (.slice (if c = l then A else A.map (·.add (l * z))) (h - l) (c - l)) := by
 cases hr with
 | none z g A c h0 =>
   have e : h - l = 0 := by omega
   refine ⟨rfl, Nat.zero_le _, ?_⟩
   rw [e]
   refine .none _ _ _ _ (fun hA => ?_)
   have : A = none := by
    split at hA
    ·exact hA
    ·simpa using hA
   rw [h0 this, Nat.zero_sub]
 | row z n g ad c u hn hc hok hz hu hr =>
   refine ⟨rfl, hc, ?_⟩
   rcases Nat.eq_zero_or_pos (h - l) with e | e
   ·rw [e]
    exact .none _ _ _ _ (fun hA => by split at hA <;> simp at hA)
   ·rw [if_neg (by omega)]
    refine .row z (h - l) _ (ad.add (l * z)) (c - l) (fun j => u (l + j)) e (by omega) (by rw [add_block]; exact hok) (fun j hj => hz _ (by omega)) (fun j q hj hq => ?_) (fun j q x hj hx => hr _ q x (by omega) hx)
    rw [add_add, ← Nat.add_assoc, ← Nat.add_mul]
    exact hu (l + j) q (by omega) hq
theorem evOp_ok {obs : List Prop} {E : Eff} (h : evOp P o ev H = some (obs, E)) (ho : All obs) (hev : ∀ x, RepA base w σ (ev x) (a.eval x))
  (hH : ∀ s c, H s = some c → ∃ v, σ s = some v ∧ SiteOk base w σ v c) (hbase : base ≤ w.heap.size) (hfree : ∀ s, E.news.lookup s ≠ none → σ s = none) : EffOk P base o E σ a w := by
 unfold evOp at h
 split at h
 ·-- move
  rename_i x hop
  cases h
  exact EffOk.still (v := a.eval x) (by simp [execOp, hop]) (hev x)
 ·rename_i x hop
  cases h
  exact EffOk.still (v := a.eval x) (by simp [execOp, hop]) (hev x)
 ·-- nilCheck
  rename_i x hop
  split at h
  ·rename_i s off hx
   cases h
   have h1 := hev x
   rw [hx] at h1
   obtain ⟨b, h2, h3⟩ := h1
   exact EffOk.still (v := a.eval x) (by simp [execOp, hop, h3]) (by rw [h3]; exact ⟨b, h2, rfl⟩)
  ·cases h
 ·-- pick
  rename_i c x y hop
  split at h
  ·rename_i hc
   cases h
   have hb := (scOf_rep hc (hev c)).1
   exact EffOk.still (v := a.eval x) (by simp [execOp, hop, hb, asBool]) (hev x)
  ·rename_i hc
   cases h
   have hb := (scOf_rep hc (hev c)).1
   exact EffOk.still (v := a.eval y) (by simp [execOp, hop, hb, asBool]) (hev y)
  ·cases h
 ·-- binOp
  rename_i op t x y yt hop
  split at h
  ·rename_i u v hu hv
   split at h
   ·rename_i obs' r hb
    cases h
    have e1 := (scOf_rep hu (hev x)).1
    have e2 := (scOf_rep hv (hev y)).1
    obtain ⟨hr, h1⟩ := run_binV (P := P) (x := x) (y := y) (w := w) hb ho
    refine EffOk.still (v := r) ?_ (rep_scv h1)
    simp only [execOp, hop, e1, e2]
    have : (do let r ← (do eqGuard op t x y u v; binOp op t u v : Sem Value); pure (Next.value r) : Sem Next).run P w = .ok (.value r) w := by
     rw [Sem.run_bind, hr]; rfl
    simpa using this
   ·cases h
  ·rename_i v hv hu
   split at h
   ·rename_i n b hb
    cases h
    have e2 := (scOf_rep hv (hev y)).1
    have hx := hev x
    simp only [All] at ho
    obtain ⟨a', l', c', e', e1, hty, ⟨rfl, rfl⟩ | ⟨rfl, rfl⟩, hv'⟩ := rowNil_ok hb hx ho
    all_goals
     refine EffOk.still (v := .bool _) ?_ (rep_scv rfl)
     have hg : ∀ op', eqGuard op' t x y (.slice (some a') l' c') (.slice none 0 0) = pure () := by intro op'; unfold eqGuard; cases op' <;> rfl
     simp [execOp, hop, e1, e2, hv', hg, binOp, run_equal_slice_nil w t e' (some a') l' c' hty, *]
   ·cases h
  ·cases h
 ·-- unOp
  rename_i op t x hop
  split at h
  ·rename_i b hb
   cases h
   have e1 := (scOf_rep hb (hev x)).1
   exact EffOk.still (v := .bool (!b)) (by simp [execOp, hop, e1, Op.unary]) (rep_scv rfl)
  ·rename_i k n hb
   cases h
   have e1 := (scOf_rep hb (hev x)).1
   exact EffOk.still (v := .int k (k.wrap (0 - n))) (by simp [execOp, hop, e1, Op.unary, Op.intArith]) (rep_scv rfl)
  ·cases h
 ·-- convert
  rename_i src dst x hop
  split at h
  ·rename_i d k kn n hs hd hn
   cases h
   have e1 := (scOf_rep hn (hev x)).1
   refine EffOk.still (v := .int k (k.wrap n)) ?_ (rep_scv rfl)
   have hc : (convert src dst (.int kn n)).run P w = .ok (.int k (k.wrap n)) w := by
    unfold convert
    simp [underlying, hs, hd, Conv.intToInt]
   simp [execOp, hop, e1, hc]
  ·rename_i src' e s hs hd hn
   split at h
   ·rename_i d he hdst
    cases h
    exact conv_bytes hop (scOf_rep hn (hev x)).1 hbase (hfree (siteOf d 0) (by simp)) hs hd he ho
   ·cases h
  ·rename_i e hs hd hn
   split at h
   ·rename_i n g he hr
    cases h
    exact conv_back hop hev hH hs he hd hr ho
   ·cases h
  ·cases h
 ·-- makeMap
  rename_i t hop
  split at h
  ·rename_i kt bt d hu hd
   cases h
   have hf := hfree (siteOf d 0) (by simp)
   refine EffOk.value (v := .map (some w.heap.size)) (w' := w.alloc (.map #[] 0)) ?_ (grow_new _ (fun b hb => by first | exact own_p hb | exact own_s hb | exact own_m hb) ⟨_, rfl, hbase, SetAt.made P kt bt w⟩) ⟨by simp [upd], rfl⟩
   have := run_makeMap (P := P) t w
   simp [execOp, hop, this]
  ·cases h
 ·-- lookup
  rename_i t m x hop
  split at h
  ·rename_i s y kt bt hm hx hu
   split at h
   ·rename_i P' kt' bt' n l i hs hk hb hi
    split at h
    ·rename_i hc
     obtain ⟨rfl, rfl⟩ := hc
     split at h
     ·rename_i hz
      cases h
      obtain ⟨hP, hwf⟩ := ho
      subst hP
      have e2 := (scOf_rep hx (hev x)).1
      obtain ⟨v, hv, b, rfl, hb1, hset⟩ := hH s _ hs
      have e1 : a.eval m = .map (some b) := by
       have := hev m
       rw [hm] at this
       have := this.1
       rw [hv] at this
       exact (Option.some.inj this).symm
      have hz' : (zeroValue bt').run P' w = .ok (.bool false) w := by
       simp [zeroValue, typeInfo, hi, hz]
      have hrun := hset.look (Go.Maps.int_keyed hk) hu hk hb hz' y hwf
      exact EffOk.still (v := .bool (l.contains y)) (by simp [execOp, hop, e1, e2, hrun]) (rep_scv rfl)
     ·cases h
    ·cases h
   ·cases h
  ·cases h
 ·-- range
  rename_i t x hop
  split at h
  ·rename_i s d hu hs hd
   cases h
   have e1 := (scOf_rep hs (hev x)).1
   have hf := hfree (siteOf d 0) (by simp)
   refine EffOk.value (v := .pointer (some ⟨w.heap.size, 0, none⟩)) (w' := w.alloc (.stringIter s 0)) ?_ (grow_new _ (fun b hb => by first | exact own_p hb | exact own_s hb | exact own_m hb) ⟨_, rfl, hbase, by rw [heap_alloc_new]⟩) ⟨_, by simp [upd], rfl⟩
   have := run_range_string (P := P) w t s hu
   simp [execOp, hop, e1, this, World.iter]
  ·cases h
 ·-- extract
  rename_i x i hop
  split at h
  ·rename_i ts ht
   split at h
   ·rename_i t hi
    cases h
    have hr := hev x
    rw [ht] at hr
    obtain ⟨vs, hx, hl, hr⟩ := hr
    have hlt := (List.getElem?_eq_some_iff.1 hi).1
    have hv : vs[i]? = some (vs[i]'(by omega)) := List.getElem?_eq_getElem (by omega)
    refine EffOk.still (v := vs[i]'(by omega)) ?_ (hr i t _ hi hv)
    simp [execOp, hop, hx, Instr.extract, hv]
   ·cases h
  ·cases h
 ·-- index
  rename_i t x ix hop
  split at h
  ·rename_i s k i hu hs hi
   cases h
   have e1 := (scOf_rep hs (hev x)).1
   have e2 := (scOf_rep hi (hev ix)).1
   simp only [All] at ho
   obtain ⟨h0, h1⟩ := ho
   have hlt : i.toNat < s.size := by omega
   refine EffOk.still (v := .int .u8 (bt s i)) ?_ (rep_scv rfl)
   have hb : s[i.toNat]? = some (s[i.toNat]'hlt) := by simp [hlt]
   simp [execOp, hop, e1, e2, Instr.index, asIntOf, underlying, hu, h0, hlt, bt]
  ·cases h
 ·-- load
  rename_i t x hop
  split at h
  ·rename_i cs hp
   split at h
   ·rename_i av hl
    cases h
    obtain ⟨ad, hx, hpl⟩ := place_of hp (hev x) hH
    obtain ⟨v, hv, hr⟩ := run_loadV (P := P) hl hpl
    refine EffOk.still (v := v) ?_ hr
    simp [execOp, hop, hx, Instr.loadAt, Instr.sureAddr, hv]
   ·cases h
  ·cases h
 ·-- fieldAddr
  rename_i t x f hop
  split at h
  ·rename_i fs hfs
   split at h
   ·rename_i fd hfd
    split at h
    ·rename_i i hi
     split at h
     ·cases h
     ·rename_i hsz
      have hu : P.underlying t = some (.struct fs) := by
       unfold fieldsOf at hfs
       split at hfs
       ·rename_i hu; cases hfs; exact hu
       ·cases hfs
      have run : ∀ ad : Addr, a.eval x = .pointer (some ad) → (execOp a.eval o).run P w = .ok (.value (.pointer (some (ad.add fd.offset)))) w := fun ad hx => by
       simp [execOp, hop, hx, Instr.fieldAt, underlying, hu, hfd, Instr.sureAddr, fieldPlace, sizeOf, typeInfo, hi, hsz]
      have hr := hev x
      split at h
      ·rename_i s off hx
       cases h
       rw [hx] at hr
       obtain ⟨b, h1, h2⟩ := hr
       refine EffOk.still (run _ h2) ⟨b, h1, ?_⟩
       rw [Addr.add_lit]
      ·rename_i s z j q hx
       cases h
       rw [hx] at hr
       obtain ⟨b, n, c, h1, h2, h3⟩ := hr
       refine EffOk.still (run _ h3) ⟨b, n, c, h1, h2, ?_⟩
       rw [Addr.add_lit, Nat.add_assoc]
      ·rename_i fr e hx
       cases h
       rw [hx] at hr
       obtain ⟨ad, h1, h2⟩ := hr
       refine EffOk.still (run _ h1) ⟨_, rfl, ?_⟩
       rcases h2 with rfl | ⟨hk, h2⟩
       ·exact .inl (by simp)
       ·refine .inr ⟨by rw [add_block]; exact hk, fun q y hy => ?_⟩
        rw [List.getElem?_drop] at hy
        obtain ⟨u, hu', hy'⟩ := h2 _ y hy
        exact ⟨u, by rw [add_add]; exact hu', hy'⟩
      ·cases h
    ·cases h
   ·cases h
  ·cases h
 ·-- field
  rename_i t x f hop
  split at h
  ·rename_i fs hfs
   split at h
   ·rename_i fd hfd
    split at h
    ·rename_i xs hx
     split at h
     ·rename_i av hl
      cases h
      have hu : P.underlying t = some (.struct fs) := by
       unfold fieldsOf at hfs
       split at hfs
       ·rename_i hu; cases hfs; exact hu
       ·cases hfs
      have hr := hev x
      rw [hx] at hr
      obtain ⟨vs, h1, h2⟩ := hr
      have key : ∃ v, (part fd.type vs.toArray fd.offset).run P w = .ok v w ∧ RepA base w σ av v := by
       have h3 := h2.drop fd.offset
       unfold loadV at hl
       split at hl
       ·rename_i fs' i hu' hi
        split at hl
        ·rename_i hlen
         cases hl
         refine ⟨.agg ((vs.drop fd.offset).take i.size).toArray, ?_, _, rfl, h3.take _⟩
         simp [part, isAgg, underlying, hu', sizeOf, typeInfo, hi, List.extract_eq_take_drop]
        ·cases hl
       ·cases hl
       ·rename_i d i hns hna hu' hi
        split at hl
        ·rename_i y ys hy
         cases hl
         obtain ⟨u, us, hus⟩ : ∃ u us', vs.drop fd.offset = u :: us' := by
          cases hvs : vs.drop fd.offset with
          | nil => have := h3.1; rw [hy, hvs] at this; simp at this
          | cons u us' => exact ⟨u, us', rfl⟩
         have hat : vs[fd.offset]? = some u := by
          have : (vs.drop fd.offset)[0]? = some u := by rw [hus]; rfl
          rw [List.getElem?_drop] at this
          simpa using this
         refine ⟨u, ?_, h3.2 0 y u (by rw [hy]; rfl) (by rw [hus]; rfl)⟩
         have hf : (isAgg fd.type).run P w = .ok false w := by
          simp only [isAgg]
          simp [underlying, hu']
         simp [part, hf, hat]
        ·cases hl
       ·cases hl
      obtain ⟨v, hv, hr⟩ := key
      refine EffOk.still (v := v) ?_ hr
      simp [execOp, hop, h1, Instr.field, underlying, hu, hfd, asAgg, hv]
     ·cases h
    ·cases h
   ·cases h
  ·cases h
 ·-- indexAddr
  rename_i t x ix hop
  split at h
  ·rename_i e hu
   split at h
   ·rename_i inf k i hinf hi
    have e2 := (scOf_rep hi (hev ix)).1
    have hr := hev x
    split at h
    ·rename_i fr z n g hx
     rw [hx] at hr
     split at h
     ·rename_i hz
      cases h
      simp only [All] at ho
      obtain ⟨h0, h1⟩ := ho
      replace hr : Rep w (K base w σ fr) (.row z n g) (a.eval x) := hr
      generalize hxv : a.eval x = xv at hr
      cases hr with
      | none => simp at h1; omega
      | row z n g ad c u hn hc hok hzl huu hrr =>
        have hj : i.toNat < n := by omega
        refine EffOk.still (v := .pointer (some (ad.add (i.toNat * inf.size)))) ?_ ⟨_, rfl, .inr ⟨by rw [add_block]; exact hok, fun q y hy => ?_⟩⟩
        ·have : (0 ≤ i ∧ i < (n : Int)) := ⟨h0, h1⟩
         simp [execOp, hop, hxv, e2, Instr.indexAt, asIntOf, underlying, hu, this, sizeOf, typeInfo, hinf]
        ·have hq : q < z := by rw [← hzl _ hj]; exact (List.getElem?_eq_some_iff.1 hy).1
         refine ⟨u i.toNat q, ?_, hrr _ q y hj hy⟩
         rw [add_add, hz]
         exact huu _ q hj hq
     ·cases h
    ·rename_i s hx
     rw [hx] at hr
     split at h
     ·rename_i e' z n g fr hs
      split at h
      ·rename_i hz
       cases h
       simp only [All] at ho
       obtain ⟨h0, h1⟩ := ho
       obtain ⟨v', h2, xs, h3, h4, h5, h6⟩ := hH s _ hs
       have hxv : a.eval x = v' := by have := hr.1; rw [h2] at this; exact (Option.some.inj this).symm
       obtain ⟨b, cap, hv', _⟩ := h3.form (by omega)
       refine EffOk.still (v := .pointer (some ⟨b, i.toNat * inf.size, none⟩)) ?_ ⟨b, n, cap, by rw [h2, hv'], by omega, by rw [hz, Nat.add_zero]⟩
       have : (0 ≤ i ∧ i < (n : Int)) := ⟨h0, h1⟩
       simp [execOp, hop, hxv, hv', e2, Instr.indexAt, asIntOf, underlying, hu, this, sizeOf, typeInfo, hinf, Addr.add_lit]
      ·cases h
     ·cases h
    ·cases h
   ·cases h
  ·cases h
 ·-- slice
  rename_i t x lo hi hop
  split at h
  ·rename_i hu
   split at h
   ·rename_i s hs
    split at h
    ·rename_i l hh hl hhi
     cases h
     simp only [All] at ho
     obtain ⟨h0, h1, h2⟩ := ho
     have e1 := (scOf_rep hs (hev x)).1
     refine EffOk.still (v := .string (s.extract l.toNat hh.toNat)) ?_ (rep_scv rfl)
     have hb := run_bounds (P := P) (w := w) (isSlice := false) (cap := s.size) hev hl hhi h0 h1 h2 (Nat.le_refl _)
     simp [execOp, hop, e1, Instr.sliceAt, underlying, hu, Instr.slice, hb]
    ·cases h
   ·cases h
  ·rename_i e hu
   split at h
   ·rename_i inf fr z n g hinf hx
    split at h
    ·rename_i hz
     split at h
     ·rename_i l hh hl hhi
      cases h
      simp only [All] at ho
      obtain ⟨h0, h1, h2⟩ := ho
      have hr : RepA base w σ (ev x) (a.eval x) := hev x
      rw [hx] at hr
      replace hr : Rep w (K base w σ fr) (.row z n g) (a.eval x) := hr
      obtain ⟨A, m, c, hxv⟩ : ∃ A m c, a.eval x = .slice A m c := by
       generalize a.eval x = xv at hr
       cases hr with
       | none => exact ⟨_, _, _, rfl⟩
       | row => exact ⟨_, _, _, rfl⟩
      rw [hxv] at hr
      obtain ⟨rfl, hc, hcut⟩ := rep_cut (l := l.toNat) (h := hh.toNat) hr (by omega) (by omega)
      have hb := run_bounds (P := P) (w := w) (isSlice := true) (cap := c) hev hl hhi h0 h1 h2 hc
      refine EffOk.still ?_ hcut
      rw [← hz]
      simp [execOp, hop, hxv, Instr.sliceAt, underlying, hu, Instr.slice, hb, sizeOf, typeInfo, hinf]
     ·cases h
    ·cases h
   ·rename_i inf fr u v x0 hinf hx
    split at h
    ·rename_i hz
     obtain ⟨hz, hl, hhi⟩ := hz
     cases h
     have ho : SliceK u v x0 := ho
     have hr : RepA base w σ (ev x) (a.eval x) := hev x
     rw [hx] at hr
     replace hr : Rep w (K base w σ fr) (.known u v x0) (a.eval x) := hr
     obtain ⟨hxu, hv⟩ : a.eval x = u ∧ Rep w (K base w σ fr) x0 v := by
      generalize a.eval x = xv at hr
      cases hr with
      | known _ _ _ h1 h2 => exact ⟨rfl, h2⟩
     obtain ⟨n, g, hn, hr2⟩ := ho _ _ hv
     obtain ⟨A, m, c, rfl⟩ : ∃ A m c, u = .slice A m c := by
      cases hr2 with
      | none => exact ⟨_, _, _, rfl⟩
      | row => exact ⟨_, _, _, rfl⟩
     obtain ⟨rfl, hc, _⟩ := rep_cut (l := 1) (h := n) hr2 (by omega) (by omega)
     have hnone : hi = none := by cases hi with
      | none => rfl
      | some x => cases hhi
     subst hnone
     have hb := run_bounds (P := P) (w := w) (isSlice := true) (cap := c) (len := m) (lo := lo) (hi := none) (l := 1) (h := (m : Int)) hev hl rfl (by omega) (by omega) (by omega) hc
     rw [Option.map_none] at hb
     refine EffOk.still (v := cut1 (.slice A m c)) ?_ (Rep.known _ _ _ rfl hv)
     simp [execOp, hop, hxu, Instr.sliceAt, underlying, hu, Instr.slice, hb, sizeOf, typeInfo, hinf, hz, cut1]
    ·cases h
   ·cases h
  ·cases h
 ·-- box
  rename_i t x hop
  split at h
  ·rename_i cs d hc hd
   cases h
   refine new_box (vs := (a.eval x).cells) hbase ?_ ?_ (cellsOf_rep hc (hev x))
   ·exact hfree (siteOf d 0) (by simp)
   ·simp [execOp, hop, Instr.box, newVar, newRow, newObj, Sem.run]
  ·cases h
 ·-- alloc
  rename_i t hop
  split at h
  ·rename_i zs d hz hd
   cases h
   obtain ⟨i, z, hi, hzz, h1, rfl⟩ := zeroV_ok hz
   refine new_box (vs := z.cells) hbase ?_ ?_ ⟨by simp, fun i c v hc hv => ?_⟩
   ·exact hfree (siteOf d 0) (by simp)
   ·simp [execOp, hop, Instr.alloc, zeroValue, typeInfo, hi, hzz, newVar, newRow, newObj, Sem.run]
   ·simp only [List.map_map, List.getElem?_map] at hc
    rw [hv] at hc
    cases hc
    exact .sc v (h1 v (by have := List.mem_of_getElem? hv; simpa using this))
  ·cases h
 ·-- build
  rename_i t parts hop
  split at h
  ·rename_i fs zs ps hfs hz hp
   split at h
   ·rename_i hall
    split at h
    ·rename_i cs hfill
     cases h
     obtain ⟨i, z, hi, hzz, h1, rfl⟩ := zeroV_ok hz
     have hu : P.underlying t = some (.struct fs) := by
      unfold fieldsOf at hfs
      split at hfs
      ·rename_i hu; cases hfs; exact hu
      ·cases hfs
     obtain ⟨hpl, hpp⟩ := partsOf_ok hev hp
     have hz0 : RepCs base w σ ((z.cells.toList.map V.sc).map (.p true)) z.cells.toList := by
      refine ⟨by simp, fun i c v hc hv => ?_⟩
      simp only [List.map_map, List.getElem?_map] at hc
      rw [hv] at hc
      cases hc
      exact .sc v (h1 v (by have := List.mem_of_getElem? hv; simpa using this))
     obtain ⟨out, hout, hr⟩ := fill_ok _ ps (parts.toList.map fun (i, x) => (i, a.eval x)) _ cs z.cells hz0 (by simp [hpl]) hpp hfill
     refine EffOk.still (v := .agg out) ?_ ⟨out.toList, by simp, hr⟩
     have hm : ∀ (l : List Field), (∀ f ∈ l, (P.info? f.type).isSome = true) → (l.mapM fun f => Prod.mk f.offset <$> sizeOf f.type : Sem (List (Nat × Nat))).run P w = .ok (l.map fun f => (f.offset, P.cellsOf f.type)) w := by
      intro l
      induction l with
      | nil => intro _; rfl
      | cons f l ih =>
        intro hl
        obtain ⟨inf, hinf⟩ := Option.isSome_iff_exists.1 (hl f (by simp))
        have h3 := ih (fun f hf => hl f (by simp [hf]))
        rw [List.mapM_cons]
        simp [sizeOf, typeInfo, hinf, Program.cellsOf] at h3 ⊢
        simp [h3]
     have hm' : (fs.mapM fun f => Prod.mk f.offset <$> sizeOf f.type : Sem (Array (Nat × Nat))).run P w = .ok (fs.toList.map fun f => (f.offset, P.cellsOf f.type)).toArray w := by
      rw [Array.mapM_eq_mapM_toList]
      have h3 := hm fs.toList (fun f hf => by simpa using Array.all_eq_true'.1 hall f (by simpa using hf))
      simp [h3]
     have e1 : (parts.toList.map fun (i, x) => (i, a.eval x)) = (parts.map fun (i, x) => (i, a.eval x)).toList := by simp
     rw [e1] at hout
     have hrun : (Instr.build t (parts.map fun (i, x) => (i, a.eval x))).run P w = .ok (.agg out) w := by
      generalize (parts.map fun (i, x) => (i, a.eval x)) = pv at hout ⊢
      simp [Instr.build, zeroValue, typeInfo, hi, hzz, underlying, hu, hm', hout]
     simp [execOp, hop, hrun]
    ·cases h
   ·cases h
  ·cases h
 ·-- buildSlice
  rename_i t len parts hop
  split at h
  ·rename_i e d hu hd
   split at h
   ·rename_i inf zs ps hinf hz hp
    split at h
    ·cases h
    ·rename_i hc
     simp only [not_or, Nat.not_lt, Decidable.not_not] at hc
     obtain ⟨hsmall, hzl, hs0, hmk⟩ := hc
     replace hmk : e < MK := Nat.lt_of_not_le (by simpa using hmk)
     split at h
     ·rename_i cs hfill
      split at h
      ·rename_i fr xs hpu
       cases h
       obtain ⟨i, z, hi, hzz, h1, rfl⟩ := zeroV_ok hz
       rw [hinf] at hi
       cases hi
       obtain ⟨hpl, hpp⟩ := partsOf_ok hev hp
       have hzl' : z.cells.size = inf.size := by simpa using hzl
       have hz0 : RepCs base w σ ((List.range (len * inf.size)).map fun k => CV.p true ((z.cells.toList.map V.sc).getD (k % (z.cells.toList.map V.sc).length) (.sc undef)))
         ((Array.range (len * inf.size)).map (z.cells[· % z.cells.size]!)).toList := by
        refine ⟨by simp, fun i c v hc hv => ?_⟩
        have hlt : i < len * inf.size := by have := (List.getElem?_eq_some_iff.1 hc).1; simpa using this
        have hm : i % z.cells.size < z.cells.size := Nat.mod_lt _ (by omega)
        simp [hlt] at hc hv
        subst hc
        subst hv
        rw [getElem!_pos z.cells _ hm]
        have : (z.cells.toList.map V.sc).getD (i % z.cells.size) (.sc undef) = .sc (z.cells[i % z.cells.size]) := by
         rw [List.getD_eq_getElem?_getD]; simp [hm]
        have h2 : z.cells.toList[i % z.cells.size]? = some z.cells[i % z.cells.size] := by simp [hm]
        simp [hm]
        exact .sc _ (h1 _ (Array.getElem_mem hm))
       obtain ⟨out, hout, hr⟩ := fill_ok _ ps (parts.toList.map fun (i, x) => (i, a.eval x)) _ cs _ hz0 (by simp [hpl]) hpp hfill
       obtain ⟨hl1, hl2⟩ := pures_rep hpu hr
       have hosz : out.size = len * inf.size := by
        have h3 := fillC_len _ _ _ _ hfill
        have h4 := hr.1
        simp at h3 h4
        omega
       have hrun : (Instr.buildSlice t len (parts.map fun (i, x) => (i, a.eval x))).run P w = .ok (.slice (some ⟨w.heap.size, 0, none⟩) len len) (w.alloc (.cells out e)) := by
        rcases Nat.eq_zero_or_pos (len * inf.size) with h0 | hpos
        ·have e0 : ((Array.range (len * inf.size)).map (fun x => z.cells[x % z.cells.size]!)) = #[] := by rw [h0]; simp
         rw [e0] at hout
         have e1 : (parts.toList.map fun (i, x) => (i, a.eval x)) = (parts.map fun (i, x) => (i, a.eval x)).toList := by simp
         rw [e1] at hout
         generalize (parts.map fun (i, x) => (i, a.eval x)) = pv at hout ⊢
         have e2 : (Array.map (fun _ => (default : Value)) (Array.range 0)) = #[] := by simp
         simp [Instr.buildSlice, run_underlying hu, sizeOf, typeInfo, hinf, h0, newRow]
         simp [e2, hout]
        ·refine Go.run_buildSlice w t e len _ out inf z hu hinf hzz (by omega) (by omega) ?_
         simpa using hout
       obtain ⟨k1, k2⟩ := chunk_rep (base := base) (w := w) (σ := σ) (fr := fr) (z := inf.size) (n := len) hl1 (by simpa using hosz) hl2
       refine new_row (vs := out) hmk hbase ?_ ?_ ?_ hosz ?_ k1 (fun j q x hj hx => ?_)
       ·exact hfree (siteOf d 0) (by simp)
       ·simp [execOp, hop, hrun]
       ·have : len ≤ len * inf.size := Nat.le_mul_of_pos_right _ (by omega)
        have : (2 : Nat) ^ 24 = 16777216 := rfl
        simp only [maxLen]
        omega
       ·intro u hu
        exact hr.one u (by simpa using hu)
       ·obtain ⟨u, hu, hx⟩ := k2 j q x hj hx
        exact ⟨u, by simpa using hu, hx⟩
      ·cases h
     ·cases h
   ·cases h
  ·cases h
 ·-- makeSlice
  rename_i t l c hop
  split at h
  ·rename_i e d hu hd
   split at h
   ·rename_i inf zs k n k' m hinf hz hn hm
    split at h
    ·cases h
    ·rename_i hc
     simp only [not_or, Decidable.not_not] at hc
     obtain ⟨hzl, hs0, hmk⟩ := hc
     replace hmk : e < MK := Nat.lt_of_not_le hmk
     cases h
     simp only [All] at ho
     obtain ⟨rfl, h0, hmax, hby⟩ := ho
     obtain ⟨i, z, hi, hzz, h1, rfl⟩ := zeroV_ok hz
     rw [hinf] at hi
     cases hi
     have hzl' : z.cells.size = inf.size := by simpa using hzl
     have e1 := (scOf_rep hn (hev l)).1
     have e2 := (scOf_rep hm (hev c)).1
     obtain ⟨nn, rfl⟩ : ∃ nn : Nat, n = (nn : Int) := ⟨n.toNat, by omega⟩
     simp only [Int.toNat_natCast] at hmax hby ⊢
     have h63 : (nn : Int) ≤ 9223372036854775807 := by simp only [maxLen] at hmax; omega
     have hb' : (inf.bytes : Int) * (nn : Int) ≤ 281474976710656 := by
      have h : ((inf.bytes * nn : Nat) : Int) ≤ 281474976710656 := by rw [Nat.mul_comm]; omega
      rwa [Int.natCast_mul] at h
     have hr := run_make (P := P) w t e inf z hu hinf hzz k k' nn nn (by omega) (Int.le_refl _) hb' h63
     simp only [Int.toNat_natCast] at hr
     have hcell : ∀ j, j < nn * inf.size → (madeCells z.cells (nn * inf.size))[j]? = some (z.cells[j % z.cells.size]!) := fun j hj => by
      simp [madeCells, hj]
     refine new_row (vs := madeCells z.cells (nn * inf.size)) hmk hbase (hfree (siteOf d 0) (by simp)) (by simp [execOp, hop, e1, e2, hr]) hmax (size_madeCells _ _) (fun u hu => ?_) (fun j _ => by simpa using hzl) (fun j q x hj hx => ?_)
     ·obtain ⟨j, hj, rfl⟩ := Array.mem_iff_getElem.1 hu
      rw [size_madeCells] at hj
      have h3 := hcell j hj
      rw [Array.getElem?_eq_getElem (by rw [size_madeCells]; exact hj)] at h3
      rw [Option.some.inj h3, getElem!_pos z.cells _ (Nat.mod_lt _ (by omega))]
      exact h1 _ (Array.getElem_mem _)
     ·have hq : q < inf.size := by have := (List.getElem?_eq_some_iff.1 hx).1; simp at this; omega
      have hlt : j * inf.size + q < nn * inf.size := by
       have : j * inf.size + inf.size ≤ nn * inf.size := by rw [← Nat.succ_mul]; exact Nat.mul_le_mul_right _ hj
       omega
      refine ⟨_, hcell _ hlt, ?_⟩
      have hmod : (j * inf.size + q) % z.cells.size = q := by rw [hzl', Nat.mul_comm, Nat.mul_add_mod, Nat.mod_eq_of_lt hq]
      rw [hmod, getElem!_pos z.cells q (by omega)]
      have hx' : x = .sc z.cells[q] := by
       rw [List.getElem?_map] at hx
       have : z.cells.toList[q]? = some z.cells[q] := by simp
       rw [this] at hx
       exact (Option.some.inj hx).symm
      subst hx'
      exact .sc _ (h1 _ (Array.getElem_mem _))
   ·cases h
  ·cases h
 ·-- makeFunc
  rename_i g first caps hop
  split at h
  ·rename_i hf
   split at h
   ·rename_i l hc
    cases h
    obtain ⟨h1, h2⟩ := capsOf_ok hev hc
    have e0 : first = #[] := Array.eq_empty_of_size_eq_zero hf
    subst e0
    refine EffOk.still (v := .func (.func g) #[] (caps.map a.eval)) ?_ ⟨caps.toList.map a.eval, ?_, h1, fun i c u hc hu => h2 i c u hc hu⟩
    ·simp [execOp, hop, Instr.makeFunc]
    ·congr 1
     apply Array.ext'
     simp
   ·cases h
  ·cases h
 ·-- len
  rename_i args ts hop
  split at h
  ·rename_i x t hx ht
   have run : ∀ n : Int, (Builtin.len_ ts o.type (args.map a.eval)).run P w = .ok (.int .i64 n) w → (execOp a.eval o).run P w = .ok (.value (.int .i64 n)) w := fun n hn => by
    simp [execOp, hop, resolve, invoke, builtin, hn]
   have hx' : (args.map a.eval)[0]? = some (a.eval x) := by simp [hx]
   split at h
   ·rename_i hu
    split at h
    ·rename_i s hs
     cases h
     have e1 := (scOf_rep hs (hev x)).1
     refine EffOk.still (run _ ?_) (rep_scv rfl)
     simp only [Builtin.len_, ht, hx', e1]
     simp [underlying, hu, goInt]
    ·cases h
   ·rename_i e hu
    have hr := hev x
    split at h
    ·rename_i fr z n g hxx
     cases h
     rw [hxx] at hr
     replace hr : Rep w (K base w σ fr) (.row z n g) (a.eval x) := hr
     generalize hxv : a.eval x = xv at hr hx'
     refine EffOk.still (run _ ?_) (rep_scv rfl)
     cases hr with
     | none =>
       simp only [Builtin.len_, ht, hx']
       simp [underlying, hu, goInt]
     | row =>
       simp only [Builtin.len_, ht, hx']
       simp [underlying, hu, goInt]
    ·rename_i hxx
     cases h
     rw [hxx] at hr
     replace hr : Rep w _ (.sc (.slice none 0 0)) (a.eval x) := hr
     generalize hxv : a.eval x = xv at hr hx'
     refine EffOk.still (run _ ?_) (rep_scv rfl)
     cases hr with
     | sc =>
       simp only [Builtin.len_, ht, hx']
       simp [underlying, hu, goInt]
    ·rename_i s hxx
     rw [hxx] at hr
     split at h
     ·rename_i e' z n g fr hs
      cases h
      obtain ⟨v', h2, xs, h3, _⟩ := hH s _ hs
      have hxv : a.eval x = v' := by have := hr.1; rw [h2] at this; exact (Option.some.inj this).symm
      refine EffOk.still (run _ ?_) (rep_scv rfl)
      rw [hxv] at hx'
      rcases h3.2 with ⟨rfl, rfl⟩ | ⟨g', cap, cur, rfl, _⟩
      ·simp only [Builtin.len_, ht, hx']
       simp [underlying, hu, goInt]
      ·simp only [Builtin.len_, ht, hx']
       simp [underlying, hu, goInt]
     ·cases h
    ·cases h
   ·cases h
  ·cases h
 ·rename_i args ts hop
  split at h
  ·rename_i x y hl
   split at h
   ·rename_i k a' k' b hx hy
    cases h
    have e1 := (scOf_rep hx (hev x)).1
    have e2 := (scOf_rep hy (hev y)).1
    have hargs : args = #[x, y] := by apply Array.ext'; simpa using hl
    refine EffOk.still (v := .int k (if b > a' then b else a')) ?_ (rep_scv rfl)
    simp [execOp, hop, hargs, resolve, invoke, builtin, Builtin.max_, e1, e2, Builtin.max2]
   ·cases h
  ·cases h
 ·rename_i args ts hop
  split at h
  ·rename_i x y hl
   split at h
   ·rename_i k a' k' b hx hy
    cases h
    have e1 := (scOf_rep hx (hev x)).1
    have e2 := (scOf_rep hy (hev y)).1
    have hargs : args = #[x, y] := by apply Array.ext'; simpa using hl
    refine EffOk.still (v := .int k (if b < a' then b else a')) ?_ (rep_scv rfl)
    simp [execOp, hop, hargs, resolve, invoke, builtin, Builtin.min_, e1, e2, Builtin.min2]
   ·cases h
  ·cases h
 ·cases h
end
end Go.Av