/- Calls that write a box whose address is handed to them first; calls that hand back the address of a new box. -/
import Derived.Test.YtfhjipfkaemapaaGreatAvKw
namespace Go.Av
open Go Go.RowKit
set_option linter.unusedVariables false
set_option linter.unusedSimpArgs false
variable {P : Program}
theorem VE.known (v : Value) (x : V) : VE (.known v v x) x := fun w ok u h => by
 cases h with
 | known u v x h1 h => exact h
def exactV : V → Option Value
 | .sc v => some v
 | .known u _ _ => some u
 | _ => none
theorem exactV_rep {w : World} {ok : Nat → Prop} {y : V} {u u' : Value} (h : exactV y = some u) (hr : Rep w ok y u') : u' = u := by
 cases y with
 | sc v => cases hr with | sc v h1 => simpa [exactV] using h
 | known v v0 x => cases hr with | known _ _ _ h1 h2 => simpa [exactV] using h
 | row => cases h
def KeepV (x y : V) : Prop := ∀ w ok u, Rep w ok x u → ∃ u', exactV y = some u' ∧ Rep w ok y u'
theorem KeepV.sc {x : V} {v : Value} (h : v.oneCell' = true) : KeepV x (.sc v) := fun w ok u _ => ⟨v, rfl, .sc v h⟩
theorem KeepV.same (v : Value) (x : V) : KeepV (.known v v x) (.known v v x) := fun w ok u0 h => by
 have := exactV_rep (y := .known v v x) rfl h
 subst this
 exact ⟨_, rfl, h⟩
theorem KeepV.cut (v : Value) (x : V) (j j' : Nat) : KeepV (.known (cutH v j) v x) (.known (cutH v j') v x) := fun w ok u0 h => by
 cases h with
 | known _ _ _ h2 h =>
   refine ⟨cutH v j', rfl, .known _ _ _ ?_ h⟩
   cases j' with
   | zero => exact h.one
   | succ j' => show (cut1 _).oneCell' = true; unfold cut1; split <;> rfl
def KeepVs (cin cout : List V) : Prop := cin.length = cout.length ∧ ∀ (i : Nat) x y, cin[i]? = some x → cout[i]? = some y → KeepV x y
theorem KeepVs.nil : KeepVs [] [] := ⟨rfl, fun i x y h => by simp at h⟩
theorem KeepVs.cons {x y : V} {xs ys : List V} (h : KeepV x y) (hs : KeepVs xs ys) : KeepVs (x :: xs) (y :: ys) := ⟨by simp [hs.1], fun i x' y' hx hy => by
 cases i with
 | zero => simp at hx hy; subst hx; subst hy; exact h
 | succ i => exact hs.2 i x' y' (by simpa using hx) (by simpa using hy)⟩
def ArgB (w : World) (b : Nat) : AD → Value → Prop
 | .c x, v => Rep w (fun k => k < w.heap.size ∧ k ≠ b) x v
 | .agg xs, v => ∃ vs : List Value, v = .agg vs.toArray ∧ xs.length = vs.length ∧ ∀ (i : Nat) x u, xs[i]? = some x → vs[i]? = some u → Rep w (fun k => k < w.heap.size ∧ k ≠ b) x u
 | _, _ => False
def CellsB (w : World) (b : Nat) (cs : List V) (vs : List Value) : Prop := cs.length = vs.length ∧ ∀ (i : Nat) x u, cs[i]? = some x → vs[i]? = some u → Rep w (fun k => k < w.heap.size ∧ k ≠ b) x u
def QOk (P : Program) (f : FuncId) (t : TypeId) (cin : List V) (args : List AD) (cout : List V) (res : List RD) : Prop :=
 ∀ (w : World) (b : Nat) (bs : Array Value) (vals : List Value), w.heap[b]? = some (.cells bs t (0, 0)) → (∀ u ∈ bs, u.oneCell' = true) → CellsB w b cin bs.toList →
  args.length = vals.length → (∀ (i : Nat) d v, args[i]? = some d → vals[i]? = some v → ArgB w b d v) →
  Calls P f (.pointer (some ⟨b, 0, none⟩) :: vals).toArray w fun e w' => ∃ vs us bs', e = .returned (one vs) ∧ Below 0 w w' ∧ (∀ k, k < w.heap.size → k ≠ b → w'.heap[k]? = w.heap[k]?) ∧ ResOk w.heap.size w' res vs us ∧
   w'.heap[b]? = some (.cells bs' t (0, 0)) ∧ (∀ u ∈ bs', u.oneCell' = true) ∧ cout.map exactV = bs'.toList.map some
structure QCon (P : Program) where
 f : FuncId
 t : TypeId
 cin : List V
 args : List AD
 cout : List V
 res : List RD
 keep : KeepVs cin cout
 ok : QOk P f t cin args cout res
 go : Callable P f
def NOk (P : Program) (f : FuncId) (v : Value) (x : V) (t : TypeId) (cs : List V) : Prop :=
 ∀ (w : World), Rep w (· < w.heap.size) x v → Calls P f #[v] w fun e w' => ∃ b bs, e = .returned (.pointer (some ⟨b, 0, none⟩)) ∧ Below w.heap.size w w' ∧ w.heap.size ≤ b ∧ w'.heap[b]? = some (.cells bs t (0, 0)) ∧
  (∀ u ∈ bs, u.oneCell' = true) ∧ cs.map exactV = bs.toList.map some
structure NCon (P : Program) where
 f : FuncId
 v : Value
 x : V
 t : TypeId
 cs : List V
 form : ∀ y ∈ cs, (∃ u, y = .sc u) ∨ y = .known v v x
 ok : NOk P f v x t cs
 go : Callable P f
def newC : CV → V → CV
 | .p fr _, y => .p (fr || isSc y) y
 | _, _ => .any
def newCs : List CV → List V → List CV
 | c :: cs, y :: ys => newC c y :: newCs cs ys
 | _, _ => []
def fitPc : List CV → List V → Option (List Prop)
 | [], [] => some []
 | .p _ x :: cs, y :: ys => match fitPc cs ys with
   | some r => some (VE x y :: r)
   | none => none
 | _, _ => none
def farA (s : Nat) : AV → AD → Bool
 | .t (.c x), .c _ => !x.sites.contains s
 | .t (.agg xs), .agg _ => !(xs.flatMap CV.sites).contains s
 | _, _ => false
def farAs (s : Nat) : List AV → List AD → Bool
 | [], [] => true
 | x :: xs, d :: ds => farA s x d && farAs s xs ds
 | _, _ => false
def FS.setH (S : FS) (s : Nat) (c : Content) : FS := ⟨S.T, upd S.H s (some c)⟩
def qStep (ev : Operand → AV) (S : FS) (C : QCon P) (f : Operand) (args : List Operand) (d : Nat) : Option (List Prop × Nat × Content × Eff) :=
 match ev f, args with
 | .fn g [], x :: xs => match ev x with
   | .ptr s 0 => match S.H s with
     | some (.box t cs) => if t = C.t ∧ farAs s (xs.map ev) C.args = true then match fitPc cs C.cin, fitAs S.H (xs.map ev) C.args with
       | some l, some l' => some ((C.f = g) :: (l ++ l'), s, .box t (newCs cs C.cout), resEff d C.res)
       | _, _ => none
       else none
     | _ => none
   | _ => none
 | _, _ => none
theorem fitPc_ok {base : Nat} {w : World} {σ : Sig} : ∀ {cs : List CV} {ys : List V} {l : List Prop} {vs : List Value}, fitPc cs ys = some l → All l → RepCs base w σ cs vs →
  cs.length = ys.length ∧ ∀ (i : Nat) c y u, cs[i]? = some c → ys[i]? = some y → vs[i]? = some u → ∃ fr x, c = .p fr x ∧ VE x y
 | [], [], l, vs, h, ho, hr => ⟨rfl, fun i c y u hc => by simp at hc⟩
 | [], _ :: _, l, vs, h, ho, hr => by simp [fitPc] at h
 | .p fr x :: cs, [], l, vs, h, ho, hr => by simp [fitPc] at h
 | .p fr x :: cs, y :: ys, l, [], h, ho, hr => by have := hr.1; simp at this
 | .p fr x :: cs, y :: ys, l, v :: vs, h, ho, hr => by
   simp only [fitPc] at h
   split at h
   ·rename_i r hr2
    cases h
    obtain ⟨h1, h2⟩ := All.cons.1 ho
    have hr' : RepCs base w σ cs vs := ⟨by have := hr.1; simpa using this, fun i c v hc hv => hr.2 (i + 1) c v (by simpa using hc) (by simpa using hv)⟩
    obtain ⟨k1, k2⟩ := fitPc_ok hr2 h2 hr'
    refine ⟨by simp [k1], fun i c y' u hc hy hu => ?_⟩
    cases i with
    | zero => simp at hc hy; subst hc; subst hy; exact ⟨fr, x, rfl, h1⟩
    | succ i => exact k2 i c y' u (by simpa using hc) (by simpa using hy) (by simpa using hu)
   ·cases h
 | .any :: cs, ys, l, vs, h, ho, hr => by cases ys <;> simp [fitPc] at h
 | .h s :: cs, ys, l, vs, h, ho, hr => by cases ys <;> simp [fitPc] at h
 | .hn s :: cs, ys, l, vs, h, ho, hr => by cases ys <;> simp [fitPc] at h
 | .hv s x :: cs, ys, l, vs, h, ho, hr => by cases ys <;> simp [fitPc] at h
theorem newCs_get : ∀ (cs : List CV) (ys : List V) (i : Nat), cs.length = ys.length → (newCs cs ys)[i]? = match cs[i]?, ys[i]? with
  | some c, some y => some (newC c y)
  | _, _ => none
 | [], [], i, h => by simp [newCs]
 | [], _ :: _, i, h => by simp at h
 | _ :: _, [], i, h => by simp at h
 | c :: cs, y :: ys, 0, h => by simp [newCs]
 | c :: cs, y :: ys, i + 1, h => by simpa [newCs] using newCs_get cs ys i (by simpa using h)
theorem newCs_len : ∀ (cs : List CV) (ys : List V), cs.length = ys.length → (newCs cs ys).length = ys.length
 | [], [], h => rfl
 | [], _ :: _, h => by simp at h
 | _ :: _, [], h => by simp at h
 | c :: cs, y :: ys, h => by simpa [newCs] using newCs_len cs ys (by simpa using h)
section
variable {base : Nat} {w : World} {σ : Sig} {H : Nat → Option Content} {b : Nat} {s : Nat}
theorem row_far {e z n : Nat} {g : Nat → List V} {fr : Bool} {v : Value} (h : SiteOk base w σ v (.row e z n g fr)) (hv : ∀ k, Own v k → k ≠ b) (hb : Live σ b) : Rep w (fun k => k < w.heap.size ∧ k ≠ b) (.row z n g) v := by
 obtain ⟨xs, h1, h2, h3, h4⟩ := h
 rcases Nat.eq_zero_or_pos n with rfl | hn
 ·rcases h1.2 with ⟨rfl, _⟩ | ⟨g', cap, cur, rfl, _⟩
  ·exact .none _ _ _ _ (fun _ => rfl)
  ·exact .none _ _ _ _ (fun e => by cases e)
 ·obtain ⟨k, cap, rfl, hk, hlt⟩ := h1.form hn
  have hcap : n ≤ cap := by
   rcases h1.2 with ⟨e, _⟩ | ⟨g', cap', cur, e, _, _, hle, _⟩
   ·cases e
   ·simp only [Value.slice.injEq] at e; omega
  have hlen : ∀ j q, j < n → q < z → j * z + q < n * z := fun j q hj hq => by
   have : j * z + z ≤ n * z := by rw [← Nat.succ_mul]; exact Nat.mul_le_mul_right _ hj
   omega
  refine .row z n g ⟨k, 0, none⟩ cap (fun j q => xs.getD (j * z + q) undef) hn hcap ⟨hlt, hv k (own_of rfl)⟩ h3 (fun j q hj hq => ?_) (fun j q y hj hy => ?_)
  ·rw [Addr.add_lit, Nat.zero_add, h1.cellAt _ (hlen j q hj hq), List.getD_eq_getElem?_getD, List.getElem?_eq_getElem (by rw [h1.1]; exact hlen j q hj hq)]
   rfl
  ·obtain ⟨u, hu, hr⟩ := h4 j q y hj hy
   rw [List.getD_eq_getElem?_getD, hu]
   exact hr.mono (fun _ _ => rfl) (fun k hk => ⟨hk.1, fun e => hk.2.1 (e ▸ hb)⟩)
theorem nest_far {e ei n : Nat} {m : Nat → Nat} {g : Nat → Nat → List V} {hd : Value} {us : List Value} (h : NestOk base w (.tuple (hd :: us).toArray) e ei n m g) (hv : ∀ k, Own (.tuple (hd :: us).toArray) k → k ≠ b) :
  Rep w (fun k => k < w.heap.size ∧ k ≠ b) (.row 1 n fun j => [.row 1 (m j) (g j)]) hd := by
 obtain ⟨hd', us', e1, h1, h2, h3, h4⟩ := h
 have e1 : hd :: us = hd' :: us' := by simpa using e1
 obtain ⟨rfl, rfl⟩ := List.cons.inj e1
 let σ0 : Sig := fun s => if s = 0 then some (.pointer (some ⟨b, 0, none⟩)) else none
 have hb0 : Live σ0 b := ⟨0, _, if_pos rfl, own_of rfl⟩
 have hl0 : ∀ k, Live σ0 k → k = b := fun k ⟨s, v, hs, hk⟩ => by
  have hs : (if s = 0 then some (.pointer (some ⟨b, 0, none⟩)) else none) = some v := hs
  split at hs
  ·cases hs; exact own_p hk
  ·cases hs
 have hmem : ∀ u ∈ us, ∀ k, blk u = some k → k ≠ b := fun u hu k hk => hv k (own_tup.2 ⟨u, List.mem_cons_of_mem _ hu, hk⟩)
 have inner : ∀ (j : Nat) (hj : j < us.length), Rep w (fun k => k < w.heap.size ∧ k ≠ b) (.row 1 (m j) (g j)) us[j] := fun j hj => by
  obtain ⟨k0, xs, k1, k2, k3⟩ := h2 j _ (List.getElem?_eq_getElem hj)
  refine row_far (σ := σ0) (fr := false) (base := base) (e := ei) ⟨xs, k1, k2, fun q hq => by obtain ⟨x, hx, _⟩ := k3 q hq; rw [hx]; rfl, fun q i x hq hx => ?_⟩ (fun k hk => ?_) hb0
  ·obtain ⟨y, hy, hy2⟩ := k3 q hq
   rw [hy] at hx
   cases i with
   | succ i => simp at hx
   | zero =>
     simp at hx
     subst hx
     exact ⟨y, by rw [Nat.mul_one, Nat.add_zero]; exact hy2, .sc y (k2 y (List.mem_of_getElem? hy2))⟩
  ·rcases k1.2 with ⟨e1, _⟩ | ⟨g', cap, cur, e1, _⟩
   ·rw [e1] at hk; exact (own_nil hk).elim
   ·rw [e1] at hk
    have := own_s hk
    subst this
    exact hmem us[j] (List.getElem_mem hj) _ (by rw [e1]; rfl)
 refine row_far (σ := σ0) (fr := false) (base := base) (e := e) ⟨us, h1, fun u hu => ?_, fun _ _ => rfl, fun j q x hj hx => ?_⟩ (fun k hk => ?_) hb0
 ·obtain ⟨j, hj, rfl⟩ := List.getElem_of_mem hu
  exact (h2 j _ (List.getElem?_eq_getElem hj)).1
 ·cases q with
  | succ q => simp at hx
  | zero =>
    simp at hx
    subst hx
    have hl : j < us.length := by rw [h1.1]; omega
    exact ⟨us[j], by rw [Nat.mul_one, Nat.add_zero]; exact List.getElem?_eq_getElem hl, (inner j hl).mono (fun _ _ => rfl) (fun k hk => ⟨hk.1, fun hl => hk.2 (hl0 k hl), fun e => by cases e⟩)⟩
 ·rcases h1.2 with ⟨e1, _⟩ | ⟨g', cap, cur, e1, _⟩
  ·rw [e1] at hk; exact (own_nil hk).elim
  ·rw [e1] at hk
   have := own_s hk
   subst this
   exact hv _ (own_tup.2 ⟨hd, by simp, by rw [e1]; rfl⟩)
theorem fitC_far (hH : ∀ s c, H s = some c → ∃ v, σ s = some v ∧ SiteOk base w σ v c) (hs : ∃ v, σ s = some v ∧ Own v b) (hinj : ∀ s s' v v' b, σ s = some v → σ s' = some v' → Own v b → Own v' b → s = s') {c : CV} {y : V} {obs : List Prop} {v : Value} (hne : s ∉ c.sites)
  (h : fitC H c y = some obs) (ho : All obs) (hr : RepC base w σ c v) : Rep w (fun k => k < w.heap.size ∧ k ≠ b) y v := by
 obtain ⟨vb, hvb, hob⟩ := hs
 have hlive : Live σ b := ⟨s, vb, hvb, hob⟩
 cases c with
 | any => cases h
 | p fr x =>
   simp only [fitC, Option.some.injEq] at h
   subst h
   exact ho w _ v (Rep.mono hr (fun _ _ => rfl) (fun k hk => ⟨hk.1, fun e => hk.2.1 (e ▸ hlive)⟩))
 | h s' =>
   simp only [fitC] at h
   split at h
   ·rename_i e z n g fr hs'
    simp only [Option.some.injEq] at h
    subst h
    obtain ⟨v', h1, h2⟩ := hH s' _ hs'
    have : v = v' := by have := hr.1; rw [h1] at this; exact (Option.some.inj this).symm
    subst this
    exact ho w _ v (row_far h2 (fun k hk e => hne (by subst e; rw [hinj s s' vb v k hvb h1 hob hk]; simp [CV.sites])) hlive)
   ·cases h
 | hn s' =>
   simp only [fitC] at h
   split at h
   ·rename_i e ei n m g hs'
    simp only [Option.some.injEq] at h
    subst h
    obtain ⟨v', h1, h2⟩ := hH s' _ hs'
    obtain ⟨us, h3⟩ := hr.1
    rw [h1] at h3
    cases h3
    exact ho w _ v (nest_far h2 (fun k hk e => hne (by subst e; rw [hinj s s' vb _ k hvb h1 hob hk]; simp [CV.sites])))
   ·cases h
 | hv s x => cases h
theorem fitCs_far (hH : ∀ s c, H s = some c → ∃ v, σ s = some v ∧ SiteOk base w σ v c) (hs : ∃ v, σ s = some v ∧ Own v b) (hinj : ∀ s s' v v' b, σ s = some v → σ s' = some v' → Own v b → Own v' b → s = s') : ∀ {cs : List CV} {ys : List V} {obs : List Prop} {vs : List Value}, s ∉ cs.flatMap CV.sites → fitCs H cs ys = some obs → All obs → RepCs base w σ cs vs →
  ys.length = vs.length ∧ ∀ (i : Nat) y v, ys[i]? = some y → vs[i]? = some v → Rep w (fun k => k < w.heap.size ∧ k ≠ b) y v
 | [], [], obs, vs, hne, h, ho, hr => ⟨hr.1, fun i y v hy => by simp at hy⟩
 | [], _ :: _, obs, vs, hne, h, ho, hr => by simp [fitCs] at h
 | _ :: _, [], obs, vs, hne, h, ho, hr => by simp [fitCs] at h
 | c :: cs, y :: ys, obs, [], hne, h, ho, hr => by have := hr.1; simp at this
 | c :: cs, y :: ys, obs, v :: vs, hne, h, ho, hr => by
   simp only [fitCs] at h
   split at h
   ·rename_i l r h1 h2
    cases h
    obtain ⟨ho1, ho2⟩ := All.append.1 ho
    have hr' : RepCs base w σ cs vs := ⟨by have := hr.1; simpa using this, fun i c v hc hv => hr.2 (i + 1) c v (by simpa using hc) (by simpa using hv)⟩
    rw [List.flatMap_cons, List.mem_append, not_or] at hne
    obtain ⟨k1, k2⟩ := fitCs_far hH hs hinj hne.2 h2 ho2 hr'
    have k0 := fitC_far hH hs hinj hne.1 h1 ho1 (hr.2 0 c v rfl rfl)
    refine ⟨by simp [k1], fun i y' v' hy hv => ?_⟩
    cases i with
    | zero => simp at hy hv; subst hy; subst hv; exact k0
    | succ i => exact k2 i y' v' (by simpa using hy) (by simpa using hv)
   ·cases h
theorem fitAs_far (hH : ∀ s c, H s = some c → ∃ v, σ s = some v ∧ SiteOk base w σ v c) (hs : ∃ v, σ s = some v ∧ Own v b) (hinj : ∀ s s' v v' b, σ s = some v → σ s' = some v' → Own v b → Own v' b → s = s') : ∀ {xs : List AV} {ds : List AD} {obs : List Prop} {vs : List Value}, farAs s xs ds = true → fitAs H xs ds = some obs → All obs → xs.length = vs.length →
  (∀ (i : Nat) x v, xs[i]? = some x → vs[i]? = some v → RepA base w σ x v) → ds.length = vs.length ∧ ∀ (i : Nat) d v, ds[i]? = some d → vs[i]? = some v → ArgB w b d v
 | [], [], obs, vs, hf, h, ho, hl, hr => ⟨hl, fun i y v hy => by simp at hy⟩
 | [], _ :: _, obs, vs, hf, h, ho, hl, hr => by simp [fitAs] at h
 | _ :: _, [], obs, vs, hf, h, ho, hl, hr => by simp [fitAs] at h
 | c :: cs, y :: ys, obs, [], hf, h, ho, hl, hr => by simp at hl
 | c :: cs, y :: ys, obs, v :: vs, hf, h, ho, hl, hr => by
   simp only [fitAs] at h
   simp only [farAs, Bool.and_eq_true] at hf
   split at h
   ·rename_i l r h1 h2
    cases h
    obtain ⟨ho1, ho2⟩ := All.append.1 ho
    obtain ⟨k1, k2⟩ := fitAs_far hH hs hinj hf.2 h2 ho2 (by simpa using hl) (fun i c u hc hu => hr (i + 1) c u (by simpa using hc) (by simpa using hu))
    have k0 : ArgB w b y v := by
     have hx := hr 0 c v rfl rfl
     have hf1 := hf.1
     unfold farA at hf1
     split at hf1
     ·rename_i x y'
      exact fitC_far hH hs hinj (by simpa using hf1) h1 ho1 hx
     ·rename_i xs ys'
      obtain ⟨us, rfl, hu⟩ := hx
      obtain ⟨q1, q2⟩ := fitCs_far hH hs hinj (by simpa using hf1) h1 ho1 hu
      exact ⟨us, rfl, q1, q2⟩
     ·cases hf1
    refine ⟨by simp [k1], fun i y' v' hy hv => ?_⟩
    cases i with
    | zero => simp at hy hv; subst hy; subst hv; exact k0
    | succ i => exact k2 i y' v' (by simpa using hy) (by simpa using hv)
   ·cases h
end
theorem call_run {f : FuncId} {o : Oper} {a : Act} {w : World} {fo : Operand} {xs : List Operand} {ts : Array TypeId} (go : Callable P f) (hop : o.op = .call { callee := .value fo, args := xs.toArray, argTypes := ts }) (hf : a.eval fo = .func (.func f) #[] #[]) :
  (execOp a.eval o).run P w = .ok (.enter f (xs.map a.eval).toArray) w := by
 obtain ⟨fn, hfn, hname, hbody⟩ := go
 have hne : fn.body.isNone = false := by cases hb : fn.body with
  | none => rw [hb] at hbody; cases hbody
  | some c => rfl
 have hname' : fn.name ≠ "runtime.NumGoroutine" := by simpa using hname
 have hne' : fn.body ≠ none := by intro e; rw [e] at hne; cases hne
 simp [execOp, hop, resolve, hf, Deferred.ofValue, invoke, callFunc, hfn]
 rw [if_neg hname', if_neg hne']
theorem qcall_ok {w0 : Base} {N : Nat} {S0 S1 : FS} {o : Oper} {C : QCon P} {f : Operand} {xs : List Operand} {obs : List Prop} {ts : Array TypeId} {σ : Sig} {a : Act} {w : World} {ev : Operand → AV} {d s : Nat} {c : Content} {E : Eff}
  (hr : Rel w0 N S1 σ a w) (hev : ∀ x, RepA w0.base w σ (ev x) (a.eval x)) (hH : ∀ s c, S0.H s = some c → ∃ v, σ s = some v ∧ SiteOk w0.base w σ v c)
  (hop : o.op = .call { callee := .value f, args := xs.toArray, argTypes := ts }) (h : qStep ev S0 C f xs d = some (obs, s, c, E)) (ho : All obs) (hs1 : (S1.H s).isSome = true) (hfree : ∀ s', E.news.lookup s' ≠ none → S1.H s' = none)
  (hd : ∀ d, o.dst = some d → d < N) : SeqOk P w0 N o (((S1.setH s c).add E.news).put o.dst E.av) a w := by
 unfold qStep at h
 split at h
 ·rename_i g x xs hg
  split at h
  ·rename_i s' hx
   split at h
   ·rename_i t cs hbox
    split at h
    ·rename_i hcond
     obtain ⟨ht, hfar⟩ := hcond
     split at h
     ·rename_i l l' h1 h2
      simp only [Option.some.injEq, Prod.mk.injEq] at h
      obtain ⟨rfl, rfl, rfl, rfl⟩ := h
      obtain ⟨rfl, ho'⟩ := All.cons.1 ho
      obtain ⟨ho1, ho2⟩ := All.append.1 ho'
      obtain ⟨ps, hfe, hpl⟩ : ∃ ps : List Value, a.eval f = .func (.func C.f) #[] ps.toArray ∧ ps.length = 0 := by
       have := hev f
       rw [hg] at this
       obtain ⟨ps, h1, h2, _⟩ := this
       exact ⟨ps, h1, by simpa using h2⟩
      obtain rfl := List.eq_nil_of_length_eq_zero hpl
      obtain ⟨b, hsb, hxe⟩ : ∃ b, σ s' = some (.pointer (some ⟨b, 0, none⟩)) ∧ a.eval x = .pointer (some ⟨b, 0, none⟩) := by
       have := hev x
       rw [hx] at this
       exact this
      obtain ⟨vb, hvb, b', bs, rfl, hb1, hb2, hb3, hb4⟩ := hH s' _ hbox
      rw [hsb] at hvb
      simp only [Option.some.injEq, Value.pointer.injEq, Addr.mk.injEq, and_true] at hvb
      subst hvb
      subst ht
      have hlive : Live σ b := ⟨s', _, hsb, own_of rfl⟩
      have hlt : b < w.heap.size := (Array.getElem?_eq_some_iff.1 hb2).1
      obtain ⟨q1, q2⟩ := fitPc_ok h1 ho1 hb4
      have hrun := call_run (P := P) (w := w) C.go hop hfe
      rw [List.map_cons, hxe] at hrun
      obtain ⟨p1, p2⟩ := fitAs_far hH ⟨_, hsb, own_of rfl⟩ hr.inj hfar h2 ho2 (vs := xs.map a.eval) (by simp) (fun i x v hx hv => by
       rw [List.getElem?_map] at hx hv
       obtain ⟨y, hy, rfl⟩ := Option.map_eq_some_iff.1 hx
       rw [hy] at hv
       cases hv
       exact hev y)
      have hcells : CellsB w b C.cin bs.toList := ⟨by rw [← q1]; exact hb4.1, fun i y u hy hu => by
       have hlt : i < cs.length := by rw [q1]; exact (List.getElem?_eq_some_iff.1 hy).1
       obtain ⟨fr, x, e, hve⟩ := q2 i _ y u (List.getElem?_eq_getElem hlt) hy hu
       have h5 := hb4.2 i _ u (List.getElem?_eq_getElem hlt) hu
       rw [e] at h5
       exact hve w _ u (Rep.mono h5 (fun _ _ => rfl) (fun k hk => ⟨hk.1, fun e => hk.2.1 (e ▸ hlive)⟩))⟩
      have hcall := C.ok w b bs (xs.map a.eval) hb2 hb3 hcells p1 p2
      intro Kk Q hK
      unfold Oper.wp
      rw [hrun]
      show Calls P C.f _ w _
      refine hcall.mono ?_
      rintro ex w' ⟨vs, us, bs', rfl, hbel, hkeep, hres, hbox', hone', hcout⟩
      let w1 : World := { w' with heap := (w.setRow b bs').heap, drawn := w'.drawn }
      have hsz1 : (w.setRow b bs').heap.size = w.heap.size := by simp
      have hrow : (w.setRow b bs').heap[b]? = some (.cells bs' C.t (0, 0)) := setRow_heap w b bs bs' C.t _ hb2
      have hoth : ∀ k, k ≠ b → (w.setRow b bs').heap[k]? = w.heap[k]? := fun k hk => setRow_other w b k _ hk
      have hbel1 : Below w0.base w w1 := ⟨hbel.os, hbel.tape, hbel.output, by show w.heap.size ≤ (w.setRow b bs').heap.size; omega, fun k hk => hoth k (by omega)⟩
      have hr1 : Rel w0 N (S1.setH s' (.box C.t (newCs cs C.cout))) σ a w1 := hr.write hsb hbel1 (fun k hk hne => hoth k (fun e => hne (by subst e; exact own_of rfl))) (fun hev1 => ?_)
      ·have hbel2 : Below w1.heap.size w1 w' := ⟨rfl, rfl, rfl, by show (w.setRow b bs').heap.size ≤ w'.heap.size; rw [hsz1]; exact hbel.size, fun k hk => by
        have hk : k < (w.setRow b bs').heap.size := hk
        rw [hsz1] at hk
        show w'.heap[k]? = (w.setRow b bs').heap[k]?
        by_cases e : k = b
        ·subst e; rw [hbox', hrow]
        ·rw [hkeep k hk e, hoth k e]⟩
       have hlv : ∀ k, Live σ k → k < w1.heap.size := fun k hk => by show k < (w.setRow b bs').heap.size; rw [hsz1]; exact (hr.live hk).2
       obtain ⟨σ', hg, hav⟩ := resEff_grow (base := w0.base) (σ := σ) (w := w1) (w' := w') (d := d) (rds := C.res) hr1.based hbel2 (by show ResOk (w.setRow b bs').heap.size w' C.res vs us; rw [hsz1]; exact hres) hlv (fun s2 hs2 => hr.dom s2 (hfree s2 hs2))
       refine hK _ w' σ' ((hr1.grow hg (fun s2 hs2 => ?_)).put hd hav)
       have := hfree s2 hs2
       show upd S1.H s' _ s2 = none
       simp only [upd]
       split
       ·rename_i e; subst e; rw [this] at hs1; cases hs1
       ·exact this
      ·refine ⟨b, bs', rfl, hb1, hrow, hone', ?_⟩
       have hl2 : C.cout.length = bs'.toList.length := by have := congrArg List.length hcout; simpa using this
       have hl3 : cs.length = C.cout.length := q1.trans C.keep.1
       refine ⟨by rw [newCs_len _ _ hl3]; exact hl2, fun i c' u hc hu => ?_⟩
       rw [newCs_get _ _ _ hl3] at hc
       split at hc
       ·rename_i c0 y hc0 hy
        cases hc
        have hlt2 : i < C.cin.length := by rw [C.keep.1]; exact (List.getElem?_eq_some_iff.1 hy).1
        have hlt3 : i < bs.toList.length := by rw [← hb4.1, q1]; exact hlt2
        obtain ⟨fr, x, rfl, hve⟩ := q2 i c0 _ _ hc0 (List.getElem?_eq_getElem hlt2) (List.getElem?_eq_getElem hlt3)
        have h5 := hb4.2 i _ _ hc0 (List.getElem?_eq_getElem hlt3)
        have h6 : Rep w1 (K w0.base w1 σ fr) x bs.toList[i] := hev1.rep h5
        obtain ⟨u', hu', hru⟩ := C.keep.2 i _ y (List.getElem?_eq_getElem hlt2) hy _ _ _ (hve _ _ _ h6)
        have hue : u = u' := by
         have e1 : (C.cout.map exactV)[i]? = (bs'.toList.map some)[i]? := by rw [hcout]
         rw [List.getElem?_map, List.getElem?_map, hy, hu] at e1
         simp only [Option.map_some, Option.some.injEq] at e1
         rw [hu'] at e1
         exact (Option.some.inj e1).symm
        subst hue
        show Rep w1 (K w0.base w1 σ (fr || isSc y)) y u
        cases y with
        | sc v => cases hru with | sc v h1 => exact .sc _ h1
        | _ => exact hru.mono (fun _ _ => rfl) (fun k hk => ⟨hk.1, hk.2.1, fun e => hk.2.2 (by simpa [isSc] using e)⟩)
       ·cases hc
     ·cases h
    ·cases h
   ·cases h
  ·cases h
 ·cases h
theorem qStep_box {ev : Operand → AV} {S : FS} {C : QCon P} {f : Operand} {xs : List Operand} {d s : Nat} {c : Content} {E : Eff} {obs : List Prop} (h : qStep ev S C f xs d = some (obs, s, c, E)) : ∃ t cs, S.H s = some (.box t cs) := by
 unfold qStep at h
 split at h
 ·split at h
  ·split at h
   ·rename_i t cs hb
    split at h
    ·split at h
     ·simp only [Option.some.injEq, Prod.mk.injEq] at h
      obtain ⟨_, rfl, _⟩ := h
      exact ⟨t, cs, hb⟩
     ·cases h
    ·cases h
   ·cases h
  ·cases h
 ·cases h
theorem qStep_eff {ev : Operand → AV} {S : FS} {C : QCon P} {f : Operand} {xs : List Operand} {d s : Nat} {c : Content} {E : Eff} {obs : List Prop} (h : qStep ev S C f xs d = some (obs, s, c, E)) : E = resEff d C.res := by
 unfold qStep at h
 split at h
 ·split at h
  ·split at h
   ·split at h
    ·split at h
     ·simp only [Option.some.injEq, Prod.mk.injEq] at h
      exact h.2.2.2.symm
     ·cases h
    ·cases h
   ·cases h
  ·cases h
 ·cases h
def nStep (ev : Operand → AV) (C : NCon P) (f : Operand) (args : List Operand) (d : Nat) : Option (List Prop × Eff) :=
 match ev f, args with
 | .fn g [], [x] => match ev x with
   | .t (.c (.p fr y)) => some ([C.f = g, VE y (.known C.v C.v C.x)], ⟨.ptr (siteOf d 0) 0, [(siteOf d 0, .box C.t (C.cs.map fun y => .p (fr || isSc y) y))]⟩)
   | _ => none
 | _, _ => none
theorem nStep_key {ev : Operand → AV} {C : NCon P} {f : Operand} {xs : List Operand} {d : Nat} {E : Eff} {obs : List Prop} (h : nStep ev C f xs d = some (obs, E)) {s : Nat} (hs : E.news.lookup s ≠ none) : s = siteOf d 0 := by
 unfold nStep at h
 split at h
 ·split at h
  ·simp only [Option.some.injEq, Prod.mk.injEq] at h
   obtain ⟨_, rfl⟩ := h
   simp only [List.lookup_cons, List.lookup_nil] at hs
   split at hs
   ·rename_i e; simpa using e
   ·exact absurd rfl hs
  ·cases h
 ·cases h
theorem ncall_ok {w0 : Base} {N : Nat} {S1 : FS} {o : Oper} {C : NCon P} {f : Operand} {xs : List Operand} {obs : List Prop} {ts : Array TypeId} {σ : Sig} {a : Act} {w : World} {ev : Operand → AV} {d : Nat} {E : Eff}
  (hr : Rel w0 N S1 σ a w) (hev : ∀ x, RepA w0.base w σ (ev x) (a.eval x))
  (hop : o.op = .call { callee := .value f, args := xs.toArray, argTypes := ts }) (h : nStep ev C f xs d = some (obs, E)) (ho : All obs) (hfree : ∀ s', E.news.lookup s' ≠ none → S1.H s' = none) : EffOk P w0.base o E σ a w := by
 unfold nStep at h
 split at h
 ·rename_i g x hg
  split at h
  ·rename_i fr y hx
   simp only [Option.some.injEq, Prod.mk.injEq] at h
   obtain ⟨rfl, rfl⟩ := h
   obtain ⟨rfl, hve⟩ := ho
   obtain ⟨ps, hfe, hpl⟩ : ∃ ps : List Value, a.eval f = .func (.func C.f) #[] ps.toArray ∧ ps.length = 0 := by
    have := hev f
    rw [hg] at this
    obtain ⟨ps, h1, h2, _⟩ := this
    exact ⟨ps, h1, by simpa using h2⟩
   obtain rfl := List.eq_nil_of_length_eq_zero hpl
   have hrx : Rep w (K w0.base w σ fr) y (a.eval x) := by have := hev x; rw [hx] at this; exact this
   have hk := hve w _ _ hrx
   have hxv : a.eval x = C.v := exactV_rep (y := .known C.v C.v C.x) rfl hk
   have hrun := call_run (P := P) (w := w) C.go hop hfe
   rw [List.map_cons, hxv, List.map_nil] at hrun
   have hcall := C.ok w (by
    have h1 := VE.known C.v C.x w _ _ hk
    rw [hxv] at h1
    exact h1.mono (fun _ _ => rfl) (fun k hk => hk.1))
   intro Kk Q hK
   unfold Oper.wp
   rw [hrun]
   show Calls P C.f _ w _
   refine hcall.mono ?_
   rintro ex w' ⟨b, bs, rfl, hbel, hb, hheap, hone, hcs⟩
   let σ' : Sig := fun s => if s = siteOf d 0 then some (.pointer (some ⟨b, 0, none⟩)) else σ s
   have hno : σ (siteOf d 0) = none := hr.dom _ (hfree _ (by simp))
   have hkeys : ∀ s c, [(siteOf d 0, Content.box C.t (C.cs.map fun y => CV.p (fr || isSc y) y))].lookup s = some c → s = siteOf d 0 ∧ c = .box C.t (C.cs.map fun y => .p (fr || isSc y) y) := fun s c hs => by
    simp only [List.lookup_cons, List.lookup_nil] at hs
    split at hs
    ·rename_i e; cases hs; exact ⟨by simpa using e, rfl⟩
    ·cases hs
   have hev' : Evo σ σ' w w' := ⟨hbel.size, fun k hk _ => hbel.block k hk, fun k hk ⟨s, v, hs, hv⟩ => by
    have hs : (if s = siteOf d 0 then some (.pointer (some ⟨b, 0, none⟩)) else σ s) = some v := hs
    split at hs
    ·cases hs
     have := own_p hv
     omega
    ·exact ⟨s, v, hs, hv⟩⟩
   have hσ : σ' (siteOf d 0) = some (.pointer (some ⟨b, 0, none⟩)) := if_pos rfl
   refine hK _ w' σ' ⟨hbel, fun s hs => ?_, fun s c hs => ?_, fun s s2 v v2 k h1 h2 hs hs2 hk hk2 => ?_⟩ ⟨b, hσ, rfl⟩
   ·show (if s = siteOf d 0 then _ else σ s) = σ s
    rw [if_neg]
    intro e
    subst e
    simp at hs
   ·obtain ⟨rfl, rfl⟩ := hkeys s c hs
    refine ⟨_, hσ, ⟨b, bs, rfl, by have := hr.based; omega, hheap, hone, ?_⟩, fun k hk => by rw [own_p hk]; exact hb⟩
    have hl : C.cs.length = bs.toList.length := by have := congrArg List.length hcs; simpa using this
    refine ⟨by simpa using hl, fun i c u hc hu => ?_⟩
    rw [List.getElem?_map] at hc
    obtain ⟨y', hy', rfl⟩ := Option.map_eq_some_iff.1 hc
    have e1 : (C.cs.map exactV)[i]? = (bs.toList.map some)[i]? := by rw [hcs]
    rw [List.getElem?_map, List.getElem?_map, hy', hu] at e1
    simp only [Option.map_some, Option.some.injEq] at e1
    rcases C.form y' (List.mem_of_getElem? hy') with ⟨v, rfl⟩ | rfl
    ·simp only [exactV, Option.some.injEq] at e1
     subst e1
     exact .sc _ (hone _ (by simpa using List.mem_of_getElem? hu))
    ·simp only [exactV, Option.some.injEq] at e1
     subst e1
     have h5 := hev'.rep hk
     rw [hxv] at h5
     show Rep w' (K w0.base w' σ' (fr || false)) _ _
     rw [Bool.or_false]
     exact h5
   ·have k1 : s = siteOf d 0 := by
     obtain ⟨c, hc⟩ := Option.ne_none_iff_exists'.1 h1
     exact (hkeys s c hc).1
    have k2 : s2 = siteOf d 0 := by
     obtain ⟨c, hc⟩ := Option.ne_none_iff_exists'.1 h2
     exact (hkeys s2 c hc).1
    rw [k1, k2]
  ·cases h
 ·cases h
end Go.Av