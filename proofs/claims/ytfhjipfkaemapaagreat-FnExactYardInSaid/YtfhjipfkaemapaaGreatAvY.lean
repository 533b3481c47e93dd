/- Functions that write a box whose address is handed to them; functions that hand back the address of a new box: how they are run. -/
import Derived.Test.YtfhjipfkaemapaaGreatAvW
namespace Go.Av
open Go Go.RowKit
set_option linter.unusedVariables false
set_option linter.unusedSimpArgs false
variable {P : Program}
def BoxEnd (b : Nat) (t : TypeId) (cs : List V) (w : World) : Prop := ∃ bs, w.heap[b]? = some (.cells bs t (0, 0)) ∧ (∀ u ∈ bs, u.oneCell' = true) ∧ cs.map exactV = bs.toList.map some
def flatRC (t : TypeId) : RC → Prop
 | .p x => isSc x = true
 | .any => True
 | .own e z n g => e < MK ∧ e ≠ t ∧ SC n g
 | .ownN e ei n m g => e < MK ∧ ei < MK ∧ e ≠ t ∧ ei ≠ t
def flatRCs (t : TypeId) (rds : List RD) : Prop := ∀ r ∈ rds.flatMap RD.cells, flatRC t r
theorem flatRCs_of {t : TypeId} {rds : List RD} (h : All ((rds.flatMap RD.cells).map (flatRC t))) : flatRCs t rds := by
 unfold flatRCs
 generalize rds.flatMap RD.cells = l at h
 induction l with
 | nil => intro r hr; simp at hr
 | cons x l ih =>
   rw [List.map_cons, All.cons] at h
   intro r hr
   rcases List.mem_cons.1 hr with rfl | hr
   ·exact h.1
   ·exact ih h.2 r hr
theorem ORow.ty {w : World} {base e size : Nat} {v : Value} {n : Nat} {xs : List Value} {b : Nat} (h : ORow w base e size v n xs) (he : e < MK) (hb : Av.blk v = some b) : ∃ cur fz, w.heap[b]? = some (.cells cur e fz) := by
 rcases h.2 with ⟨rfl, _⟩ | ⟨g, cap, cur, rfl, _, hg, _⟩
 ·cases hb
 ·cases hb
  unfold Blk at hg
  rw [if_pos he] at hg
  exact ⟨_, _, hg⟩
theorem startB_at {w : World} {b : Nat} {σ : Sig} (hl0 : ∀ k, Live σ k → k = b) : ∀ (args : List AD) (vals : List Value) (k : Nat), args.length = vals.length → (∀ (i : Nat) d v, args[i]? = some d → vals[i]? = some v → ArgB w b d v) → ∀ t,
  RepA 0 w σ (look (startT.go k args) t) (if t < k then undef else vals.getD (t - k) undef) ∨ look (startT.go k args) t = .any
 | [], vals, k, hl, h, t => .inr rfl
 | d :: args, [], k, hl, h, t => by simp at hl
 | d :: args, v :: vals, k, hl, h, t => by
   have ih := startB_at hl0 args vals (k + 1) (by simpa using hl) (fun i d v hd hv => h (i + 1) d v (by simpa using hd) (by simpa using hv)) t
   have hd := h 0 d v rfl rfl
   have hK : ∀ c, c < w.heap.size ∧ c ≠ b → K 0 w σ false c := fun c hc => ⟨hc.1, fun hl => hc.2 (hl0 c hl), fun e => by cases e⟩
   have next : ∀ hne : t ≠ k, (if t < k + 1 then undef else vals.getD (t - (k + 1)) undef) = (if t < k then undef else (v :: vals).getD (t - k) undef) := fun hne => by
    by_cases hlt : t < k
    ·rw [if_pos (by omega), if_pos hlt]
    ·rw [if_neg (by omega), if_neg hlt]
     have : t - k = (t - (k + 1)) + 1 := by omega
     rw [this]
     simp
   have here : ∀ av, RepA 0 w σ av v → RepA 0 w σ (look ((k, av) :: startT.go (k + 1) args) t) (if t < k then undef else (v :: vals).getD (t - k) undef) ∨ look ((k, av) :: startT.go (k + 1) args) t = .any := fun av hav => by
    unfold look
    rw [List.lookup_cons]
    by_cases e : t = k
    ·subst e
     simp only [beq_self_eq_true]
     left
     rw [if_neg (by omega), Nat.sub_self]
     exact hav
    ·have : (t == k) = false := by simpa using e
     rw [this, ← next e]
     exact ih
   cases d with
   | c x => exact here _ (Rep.mono hd (fun _ _ => rfl) hK)
   | agg xs =>
     obtain ⟨vs, rfl, h1, h2⟩ := hd
     refine here _ ⟨vs, rfl, by simp [h1], fun i c u hc hu => ?_⟩
     rw [List.getElem?_map] at hc
     obtain ⟨x, hx, rfl⟩ := Option.map_eq_some_iff.1 hc
     exact Rep.mono (h2 i x u hx hu) (fun _ _ => rfl) hK
   | ptr e => exact hd.elim
   | fn g es => exact hd.elim
theorem tmps_at (vals : List Value) (n t : Nat) : (vals.toArray ++ Array.replicate n undef).getD t undef = vals.getD t undef := by
 rw [Array.getD_eq_getD_getElem?, List.getD_eq_getElem?_getD, Array.getElem?_append]
 split
 ·simp
 ·rename_i hge
  simp at hge
  rw [List.getElem?_eq_none hge]
  simp only [Array.getElem?_replicate]
  split <;> rfl
theorem QOk.of {f : FuncId} {fn : Func} {c : Code} {t : TypeId} {cin : List V} {args : List AD} {cout : List V} {res : List RD} {N : Nat} (hfn : P.funcs[f]? = some fn) (hb : fn.body = some c) (hN : max fn.ntmps (args.length + 1) = N) (hflat : flatRCs t res)
  (h : ∀ (w0 : Base) (b : Nat), w0.base = 0 → (∀ w' v, BoxEnd b t cout w' → w0.Q w' v) → AG P f N res w0 [.code c] (mkFS ((0, .t (.c (.hv 0 (.pointer (some ⟨b, 0, none⟩))))) :: startT.go 1 args) [(0, .box t (cin.map (.p false)))])) : QOk P f t cin args cout res := by
 intro w b bs vals hbox hone hcells hl hargs cs
 let w0 : Base := { w with F := fun k => k < w.heap.size ∧ k ≠ b, O := fun k => w.heap[k]?, base := 0, hb := Nat.zero_le _, Q := fun w' _ => BoxEnd b t cout w' }
 let σ : Sig := fun s => if s = 0 then some (.pointer (some ⟨b, 0, none⟩)) else none
 let fr : Frame := { (default : Frame) with fn := f, kind := .normal }
 let av : List Value := .pointer (some ⟨b, 0, none⟩) :: vals
 have hσ : ∀ s v, σ s = some v → s = 0 ∧ v = .pointer (some ⟨b, 0, none⟩) := fun s v hs => by
  have hs : (if s = 0 then some (.pointer (some ⟨b, 0, none⟩)) else none) = some v := hs
  split at hs
  ·rename_i e; exact ⟨e, (Option.some.inj hs).symm⟩
  ·cases hs
 have hl0 : ∀ k, Live σ k → k = b := fun k ⟨s, v, hs, hk⟩ => by
  obtain ⟨_, rfl⟩ := hσ s v hs
  exact own_p hk
 have hnl : ∀ k, k ≠ b → ¬ Live σ k := fun k hk h => hk (hl0 k h)
 have henter : Frame.enter P f av.toArray .normal = fr.at { tmps := av.toArray ++ Array.replicate (fn.ntmps - av.toArray.size) undef, defers := [] } [.code c] := by
  simp [Frame.enter, Frame.at, hfn, hb, fr]
 have hrel : Rel w0 N (mkFS ((0, .t (.c (.hv 0 (.pointer (some ⟨b, 0, none⟩))))) :: startT.go 1 args) [(0, .box t (cin.map (.p false)))]) σ { tmps := av.toArray ++ Array.replicate (fn.ntmps - av.toArray.size) undef, defers := [] } w := by
  refine ⟨⟨rfl, rfl, rfl, Nat.le_refl _, fun k hk => rfl⟩, ?_, rfl, fun t => ?_, fun s c hs => ?_, fun s hs => ?_, fun s s' v v' k hs hs' _ _ => by rw [(hσ s v hs).1, (hσ s' v' hs').1], (fun k hk => ⟨hk.1, hnl k hk.2, rfl⟩)⟩
  ·simp [av]
   omega
  ·show RepA 0 w σ (look _ t) _
   rw [tmps_at]
   cases t with
   | zero =>
     show RepC 0 w σ (.hv 0 (.pointer (some ⟨b, 0, none⟩))) (.pointer (some ⟨b, 0, none⟩))
     exact ⟨if_pos rfl, rfl, rfl⟩
   | succ t =>
     have h1 := startB_at hl0 args vals 1 hl hargs (t + 1)
     rw [if_neg (by omega), Nat.add_sub_cancel] at h1
     have e1 : look ((0, AV.t (.c (.hv 0 (.pointer (some ⟨b, 0, none⟩))))) :: startT.go 1 args) (t + 1) = look (startT.go 1 args) (t + 1) := by
      unfold look
      rw [List.lookup_cons]
      have : (t + 1 == 0) = false := by simp
      rw [this]
     rw [e1]
     rcases h1 with h1 | h1
     ·simpa [av] using h1
     ·rw [h1]; trivial
  ·have hs : [(0, Content.box t (cin.map (.p false)))].lookup s = some c := hs
   simp only [List.lookup_cons, List.lookup_nil] at hs
   split at hs
   ·rename_i e
    cases hs
    have e : s = 0 := by simpa using e
    subst e
    refine ⟨_, if_pos rfl, b, bs, rfl, Nat.zero_le _, hbox, hone, by simpa using hcells.1, fun i c u hc hu => ?_⟩
    rw [List.getElem?_map] at hc
    obtain ⟨x, hx, rfl⟩ := Option.map_eq_some_iff.1 hc
    exact Rep.mono (hcells.2 i x u hx hu) (fun _ _ => rfl) (fun k hk => ⟨hk.1, hnl k hk.2, fun e => by cases e⟩)
   ·cases hs
  ·have hs : [(0, Content.box t (cin.map (.p false)))].lookup s = none := hs
   simp only [List.lookup_cons, List.lookup_nil] at hs
   split at hs
   ·cases hs
   ·rename_i e
    exact if_neg (by simpa using e)
 obtain ⟨w', fr', vs, us, h1, h2, h3, h4, h5, h6, ⟨bs', q1, q2, q3⟩, h8⟩ := h w0 b rfl (fun w' v h => h) fr cs _ _ w rfl rfl hrel
 rw [← henter] at h1
 have hown : ∀ k, Owns (res.flatMap RD.cells) us k → w.heap.size ≤ k := fun k hk => by
  rcases Nat.lt_or_ge k w.heap.size with hlt | hge
  ·exfalso
   by_cases e : k = b
   ·subst e
    obtain ⟨i, r, u, hi, hro, hu, hob⟩ := hk
    have hf := hflat r (List.mem_of_getElem? hi)
    have hc := h5.cells i r u hi hu
    have no : ∀ e' : Nat, e' ≠ t → (∃ cur fz, w'.heap[k]? = some (.cells cur e' fz)) → False := fun e' hne ⟨cur, fz, hh⟩ => by
     rw [q1] at hh
     simp only [Option.some.injEq, Obj.cells.injEq] at hh
     exact hne hh.2.1.symm
    cases r with
    | p x => cases hro
    | any => cases hro
    | own e z n g =>
      obtain ⟨xs, k1, _⟩ := hc
      refine no e hf.2.1 (k1.ty hf.1 ?_)
      rcases k1.2 with ⟨rfl, _⟩ | ⟨g', cap, cur, rfl, _⟩
      ·exact (own_nil hob).elim
      ·rw [own_s hob]; rfl
    | ownN e ei n m g =>
      obtain ⟨hd, ins, rfl, k1, k2, _⟩ := hc
      obtain ⟨u, hu, hbu⟩ := own_tup.1 hob
      rcases List.mem_cons.1 hu with rfl | hu
      ·exact no e hf.2.2.1 (k1.ty hf.1 hbu)
      ·obtain ⟨j, hj, rfl⟩ := List.getElem_of_mem hu
       obtain ⟨_, xs, k3, _⟩ := k2 j _ (List.getElem?_eq_getElem hj)
       exact no ei hf.2.2.2 (k3.ty hf.2.1 hbu)
   ·exact h8 k hk ⟨hlt, e⟩
  ·exact hge
 refine ⟨.returned (Av.one vs), w', fr', ⟨vs, us, bs', rfl, h4, fun k hk hne => h6 k ⟨hk, hne⟩, ⟨h5.shape, fun i r u hi hu => ?_, h5.inj⟩, q1, q2, q3⟩, h1, h2, h3⟩
 have hc := h5.cells i r u hi hu
 have hf := hflat r (List.mem_of_getElem? hi)
 cases r with
 | any => exact hc
 | p x => cases x with
   | sc v => replace hc : Rep w' _ (.sc v) u := hc; cases hc with | sc v h1 => exact .sc _ h1
   | _ => cases hf
 | own e z n g =>
   obtain ⟨xs, k1, k2, k3, k4⟩ := hc
   refine ⟨xs, k1.up fun k hk => hown k ⟨i, _, u, hi, rfl, hu, own_of hk⟩, k2, k3, fun j q x hj hx => ?_⟩
   obtain ⟨u2, hu2, hr⟩ := k4 j q x hj hx
   refine ⟨u2, hu2, ?_⟩
   have hs := hf.2.2 j hj x (List.mem_of_getElem? hx)
   cases x with
   | sc v => cases hr with | sc v h1 => exact .sc _ h1
   | _ => cases hs
 | ownN e ei n m g => exact NestOk.up hc fun k hk => hown k ⟨i, _, u, hi, rfl, hu, hk⟩
section
variable {f : FuncId} {fn : Func} {N : Nat} {rds : List RD} {w0 : Base} {k : List Item} {S : FS} {obs : List Prop}
theorem cells_exact {base : Nat} {w : World} {σ : Sig} {cs : List V} {fr : Bool} {vs : List Value} (hex : cs.all (fun y => (exactV y).isSome) = true) (h : RepCs base w σ (cs.map (.p fr)) vs) : cs.map exactV = vs.map some := by
 refine List.ext_getElem? fun i => ?_
 rw [List.getElem?_map, List.getElem?_map]
 have hl : cs.length = vs.length := by simpa using h.1
 cases hc : cs[i]? with
 | none => rw [List.getElem?_eq_none (by have := List.getElem?_eq_none_iff.1 hc; omega)]; rfl
 | some y =>
   have hi : i < vs.length := by rw [← hl]; exact (List.getElem?_eq_some_iff.1 hc).1
   rw [List.getElem?_eq_getElem hi]
   have h1 := h.2 i (.p fr y) vs[i] (by rw [List.getElem?_map, hc]; rfl) (List.getElem?_eq_getElem hi)
   have h2 := List.all_eq_true.1 hex y (List.mem_of_getElem? hc)
   obtain ⟨u, hu⟩ := Option.isSome_iff_exists.1 h2
   simp only [Option.map_some, Option.some.injEq]
   rw [hu, exactV_rep hu h1]
theorem byRetB (hm : P.follows .mixedOrders = true) (hfn : P.funcs[f]? = some fn) {b : Nat} {t : TypeId} {cout : List V} {T : List (Nat × AV)} (hQ : ∀ w' v, BoxEnd b t cout w' → w0.Q w' v) (hex : cout.all (fun y => (exactV y).isSome) = true)
  (hT : hvSites T = [(0, .pointer (some ⟨b, 0, none⟩))]) (n : Nat) (orc : List (Orc P)) (ho : All obs)
  (h : ev P N fn.results.toList rds (.retQ T [(0, .box t (cout.map (.p false)))]) n orc k S = some (obs ++ (selfR rds ++ selfS T [(0, .box t (cout.map (.p false)))]))) : AG P f N rds w0 k S :=
 byRetQ hm hfn n orc ho (fun σ a w v hr _ => hQ w v (by
  obtain ⟨x, hx, b', vs, rfl, h1, h2, h3, h4⟩ := hr.sites 0 (.box t (cout.map (.p false))) rfl
  have hm2 : (0, Value.pointer (some ⟨b, 0, none⟩)) ∈ hvSites T := by rw [hT]; simp
  obtain ⟨t0, _, ht⟩ := List.mem_flatMap.1 hm2
  have hp := hvOf_ok (hr.tmps t0) ht
  rw [hx] at hp
  simp only [Option.some.injEq, Value.pointer.injEq, Addr.mk.injEq, and_true] at hp
  subst hp
  exact ⟨vs, h2, h3, cells_exact hex h4⟩)) h
def NEnd (base : Nat) (t : TypeId) (cs : List V) (w : World) (v : Value) : Prop := ∃ b, v = .pointer (some ⟨b, 0, none⟩) ∧ base ≤ b ∧ BoxEnd b t cs w
end
theorem VCalls.name {f : FuncId} {x : V} {rest : List AD} {rds : List RD} (h : ∀ v, VCalls P f (.c (.known v v x) :: rest) rds) : VCalls P f (.c x :: rest) rds := by
 intro w vals hl ha
 match vals, hl with
 | v :: vals, hl =>
   refine h v w (v :: vals) (by simpa using hl) (fun i d u hd hu => ?_)
   cases i with
   | zero =>
     simp at hd hu
     subst hd
     subst hu
     exact .known _ _ _ (Rep.one (ha 0 _ _ rfl rfl)) (ha 0 _ _ rfl rfl)
   | succ i => exact ha (i + 1) d u (by simpa using hd) (by simpa using hu)
theorem VE.cut0 {α : Type} {e : α → List V} {d : α} (v : Value) (l : List α) : VE (.known v v (R 1 e d l)) (.known (cutH v 0) v (R 1 e d l)) := VE.refl _
theorem rep_cutH {w : World} {ok : Nat → Prop} {α : Type} {e : α → List V} {d : α} {v : Value} {l : List α} (h : Rep w ok (R 1 e d l) v) : ∀ j, Rep w ok (R 1 e d (l.drop j)) (cutH v j)
 | 0 => h
 | j + 1 => by
   have ih := rep_cutH h j
   show Rep w ok (R 1 e d (l.drop (j + 1))) (cut1 (cutH v j))
   unfold R at ih ⊢
   have hl : (l.drop (j + 1)).length = (l.drop j).length - 1 := by simp only [List.length_drop]; omega
   have hg : ∀ i, (l.drop (j + 1)).getD i d = (l.drop j).getD (1 + i) d := fun i => by
    simp only [List.getD_eq_getElem?_getD, List.getElem?_drop]
    congr 2
    omega
   rw [hl]
   simp only [hg]
   generalize (l.drop j).length = n at ih
   generalize cutH v j = u at ih
   obtain ⟨A, m, c, rfl⟩ : ∃ A m c, u = .slice A m c := by
    cases ih with
    | none => exact ⟨_, _, _, rfl⟩
    | row => exact ⟨_, _, _, rfl⟩
   rcases Nat.eq_zero_or_pos n with rfl | hn
   ·cases ih with
    | none z g A c h0 =>
      refine .none _ _ _ _ (fun hA => ?_)
      have : A = none := by
       split at hA
       ·exact hA
       ·simpa using hA
      rw [h0 this]
    | row => omega
   ·obtain ⟨rfl, hc, h3⟩ := rep_cut (l := 1) (h := n) ih (by omega) (by omega)
    unfold cut1
    exact h3
theorem VE.cutk {α : Type} {e : α → List V} {d : α} (v : Value) (l : List α) (j : Nat) : VE (.known (cutH v j) v (R 1 e d l)) (R 1 e d (l.drop j)) := fun w ok u h => by
 cases h with
 | known _ _ _ h1 h => exact rep_cutH h j
theorem SliceK.of {α : Type} {e : α → List V} {d : α} (v : Value) (l : List α) (j : Nat) (h : 1 ≤ ((l.drop j).length : Int)) : SliceK (cutH v j) v (R 1 e d l) := fun w ok hr => ⟨(l.drop j).length, _, by omega, rep_cutH hr j⟩
def bitAnd (k : IntKind) (a b : Int) : Int := k.wrap (BitVec.ofInt k.bits a &&& BitVec.ofInt k.bits b).toNat
def bitOr (k : IntKind) (a b : Int) : Int := k.wrap (BitVec.ofInt k.bits a ||| BitVec.ofInt k.bits b).toNat
def bitXor (k : IntKind) (a b : Int) : Int := k.wrap (BitVec.ofInt k.bits a ^^^ BitVec.ofInt k.bits b).toNat
def bAnd (a b : Int) : Int := bitAnd .i64 a b
def bOr (a b : Int) : Int := bitOr .i64 a b
def bXor (a b : Int) : Int := bitXor .i64 a b
def bShr (k : IntKind) (a b : Int) : Int := a.fdiv (2 ^ (min b.toNat k.bits))
def bShl (k : IntKind) (a b : Int) : Int := k.wrap (a * 2 ^ (min b.toNat k.bits))
def selfQ (C : QCon P) : List Prop := (C.f = C.f) :: ((C.cin.map fun x => VE x x) ++ selfArgs C.args)
theorem scq_ (C : QCon P) : All (selfQ C) := All.cons.2 ⟨rfl, All.append.2 ⟨mapVE _, selfArgs_ok C.args⟩⟩
end Go.Av