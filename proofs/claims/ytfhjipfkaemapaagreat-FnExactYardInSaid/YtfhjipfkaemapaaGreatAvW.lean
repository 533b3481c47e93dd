/- Functions that write rows which are handed to them, in place: how they are run. -/
import Derived.Test.YtfhjipfkaemapaaGreatAvP
namespace Go.Av
open Go Go.RowKit
set_option linter.unusedVariables false
set_option linter.unusedSimpArgs false
variable {P : Program}
theorem resOk_plain {b0 : Nat} {w' : World} {v : Value} {vs us : List Value} (hr : ResOk b0 w' [.c (.p (.sc v))] vs us) : one vs = v := by
 have hs := hr.shape
 have hlen := shapes_len hs
 match us, hlen with
 | [u], _ =>
   have h2 := hr.cells 0 _ _ rfl rfl
   replace h2 : Rep w' _ (.sc v) u := h2
   have h5 := h2.one
   cases h2
   replace hs : Shapes [.c (.p (.sc v))] vs [hdr v] := hs
   rw [hdr_one h5] at hs
   generalize hl2 : [v] = l2 at hs
   cases hs with
   | cons h1 hs =>
     cases hs
     cases h1
     cases hl2
     rfl
def hvC (x : Nat → Value) : CV → CV
 | .h s => .hv s (x s)
 | .hn s => .hv s (x s)
 | c => c
def hvA (x : Nat → Value) : AV → AV
 | .t (.c c) => .t (.c (hvC x c))
 | .t (.agg xs) => .t (.agg (xs.map (hvC x)))
 | av => av
def startW (x : Nat → Value) (args : List AV) : List (Nat × AV) := go 0 args
where
 go : Nat → List AV → List (Nat × AV)
  | _, [] => []
  | i, av :: r => (i, hvA x av) :: go (i + 1) r
def isT : AV → Bool
 | .t _ => true
 | _ => false
def flatP : Content → Prop
 | .row _ _ n g _ => SC n g
 | .nest _ _ _ _ _ => True
 | _ => False
theorem ORow.up {w : World} {b0 base e size : Nat} {v : Value} {n : Nat} {xs : List Value} (h : ORow w b0 e size v n xs) (hb : ∀ b, Av.blk v = some b → base ≤ b) : ORow w base e size v n xs := by
 refine ⟨h.1, ?_⟩
 rcases h.2 with k | ⟨b', cap, cur, e1, hb', rest⟩
 ·exact .inl k
 ·subst e1
  exact .inr ⟨b', cap, cur, rfl, hb b' rfl, rest⟩
theorem NestOk.up {b0 base : Nat} {w : World} {v : Value} {e ei : TypeId} {n : Nat} {m : Nat → Nat} {g : Nat → Nat → List V} (h : NestOk b0 w v e ei n m g) (hb : ∀ b, Own v b → base ≤ b) : NestOk base w v e ei n m g := by
 obtain ⟨hd, us, rfl, h1, h2, h3⟩ := h
 refine ⟨hd, us, rfl, h1.up fun b hb' => hb b (own_tup.2 ⟨hd, by simp, hb'⟩), fun j u hu => ?_, h3⟩
 obtain ⟨h5, xs, h6, h7⟩ := h2 j u hu
 exact ⟨h5, xs, h6.up fun b hb' => hb b (own_tup.2 ⟨u, List.mem_cons_of_mem _ (List.mem_of_getElem? hu), hb'⟩), h7⟩
theorem site_flat {b0 base : Nat} {w : World} {σ σ2 : Sig} {v : Value} {c : Content} (hf : flatP c) (h : SiteOk b0 w σ v c) (hb : ∀ b, Own v b → base ≤ b) : SiteOk base w σ2 v c := by
 cases c with
 | row e z n g fr =>
   obtain ⟨xs, h1, h2, h3, h4⟩ := h
   refine ⟨xs, h1.up fun b hb' => hb b (own_of hb'), h2, h3, fun j q x hj hx => ?_⟩
   obtain ⟨u, hu, hru⟩ := h4 j q x hj hx
   refine ⟨u, hu, ?_⟩
   have hs := hf j hj x (List.mem_of_getElem? hx)
   cases x with
   | sc y => cases hru with | sc y h1 => exact .sc _ h1
   | _ => cases hs
 | nest e ei n m g => exact NestOk.up h hb
 | box t cs => exact hf.elim
 | iter s p => exact hf.elim
 | set P kt bt n l => exact hf.elim
theorem hvA_ok {base : Nat} {w : World} {σ : Sig} {av : AV} {v : Value} (ht : isT av = true) (h : RepA base w σ av v) : RepA 0 w σ (hvA (fun s => (σ s).getD undef) av) v := by
 have hK : ∀ fr b, K base w σ fr b → K 0 w σ fr b := fun fr b hb => ⟨hb.1, hb.2.1, fun _ => Nat.zero_le _⟩
 have hC : ∀ (c : CV) (v : Value), RepC base w σ c v → RepC 0 w σ (hvC (fun s => (σ s).getD undef) c) v := fun c v h => by
  cases c with
  | any => exact h
  | p fr x => exact Rep.mono h (fun _ _ => rfl) (hK fr)
  | h s => exact ⟨by show σ s = some ((σ s).getD undef); rw [h.1]; rfl, by show v = hdr ((σ s).getD undef); rw [h.1]; exact (hdr_one h.2).symm, h.2⟩
  | hn s =>
    obtain ⟨us, h1⟩ := h.1
    exact ⟨by show σ s = some ((σ s).getD undef); rw [h1]; rfl, by show v = hdr ((σ s).getD undef); rw [h1]; rfl, h.2⟩
  | hv s x => exact h
 cases av with
 | t t => cases t with
   | c c => exact hC c v h
   | agg xs =>
     obtain ⟨vs, rfl, hl, h⟩ := h
     refine ⟨vs, rfl, by rw [List.length_map]; exact hl, fun i c u hc hu => ?_⟩
     rw [List.getElem?_map] at hc
     obtain ⟨c', hc', rfl⟩ := Option.map_eq_some_iff.1 hc
     exact hC c' u (h i c' u hc' hu)
 | _ => cases ht
theorem startW_at {w : World} {base : Nat} {σ : Sig} : ∀ (args : List AV) (vals : List Value) (k : Nat), args.length = vals.length → args.all isT = true → (∀ (i : Nat) av v, args[i]? = some av → vals[i]? = some v → RepA base w σ av v) → ∀ t,
  RepA 0 w σ (look (startW.go (fun s => (σ s).getD undef) k args) t) (if t < k then undef else vals.getD (t - k) undef) ∨ look (startW.go (fun s => (σ s).getD undef) k args) t = .any
 | [], vals, k, hl, ht, h, t => .inr rfl
 | d :: args, [], k, hl, ht, h, t => by simp at hl
 | d :: args, v :: vals, k, hl, ht, h, t => by
   simp only [List.all_cons, Bool.and_eq_true] at ht
   have ih := startW_at args vals (k + 1) (by simpa using hl) ht.2 (fun i d v hd hv => h (i + 1) d v (by simpa using hd) (by simpa using hv)) t
   have hd := hvA_ok ht.1 (h 0 d v rfl rfl)
   have next : ∀ hne : t ≠ k, (if t < k + 1 then undef else vals.getD (t - (k + 1)) undef) = (if t < k then undef else (v :: vals).getD (t - k) undef) := fun hne => by
    by_cases hlt : t < k
    ·rw [if_pos (by omega), if_pos hlt]
    ·rw [if_neg (by omega), if_neg hlt]
     have : t - k = (t - (k + 1)) + 1 := by omega
     rw [this]
     simp
   show RepA 0 w σ (look ((k, hvA _ d) :: startW.go _ (k + 1) args) t) _ ∨ look ((k, hvA _ d) :: startW.go _ (k + 1) args) t = .any
   unfold look
   rw [List.lookup_cons]
   by_cases e : t = k
   ·subst e
    simp only [beq_self_eq_true]
    left
    rw [if_neg (by omega), Nat.sub_self]
    exact hd
   ·have : (t == k) = false := by simpa using e
    rw [this, ← next e]
    exact ih
theorem WOk.of {f : FuncId} {fn : Func} {c : Code} {args : List AV} {cin cout : List (Nat × Content)} {res : Value} {N : Nat} (hfn : P.funcs[f]? = some fn) (hb : fn.body = some c) (hN : max fn.ntmps args.length = N)
  (hT : args.all isT = true) (hkeys : cout.map Prod.fst = cin.map Prod.fst) (hrow : cin.all (fun p => isRow p.2) = true) (hflat : ∀ p ∈ cout, flatP p.2)
  (h : ∀ (w0 : Base) (x : Nat → Value), w0.base = 0 → (∀ w', (∀ s c, cout.lookup s = some c → ∀ σ2, SiteOk 0 w' σ2 (x s) c) → ∀ v, w0.Q w' v) → AG P f N [.c (.p (.sc res))] w0 [.code c] (mkFS (startW x args) cin)) : WOk P f args cin cout res := by
 intro w base σ vals hbase hl hargs hcin hnone hinj cs
 let x : Nat → Value := fun s => (σ s).getD undef
 let w0 : Base := { w with F := fun b => b < w.heap.size ∧ ¬ Live σ b, O := fun b => w.heap[b]?, base := 0, hb := Nat.zero_le _, Q := fun w' _ => ∀ s c, cout.lookup s = some c → ∀ σ2, SiteOk 0 w' σ2 (x s) c }
 let b : Frame := { (default : Frame) with fn := f, kind := .normal }
 have henter : Frame.enter P f vals.toArray .normal = b.at { tmps := vals.toArray ++ Array.replicate (fn.ntmps - vals.toArray.size) undef, defers := [] } [.code c] := by
  simp [Frame.enter, Frame.at, hfn, hb, b]
 have hrel : Rel w0 N (mkFS (startW x args) cin) σ { tmps := vals.toArray ++ Array.replicate (fn.ntmps - vals.toArray.size) undef, defers := [] } w := by
  refine ⟨⟨rfl, rfl, rfl, Nat.le_refl _, fun k hk => rfl⟩, ?_, rfl, fun t => ?_, fun s c hs => ?_, fun s hs => hnone s hs, hinj, (fun b hb => ⟨hb.1, hb.2, rfl⟩)⟩
  ·simp
   omega
  ·have h1 := startW_at (w := w) args vals 0 hl hT hargs t
   simp only [Nat.not_lt_zero, if_false, Nat.sub_zero] at h1
   show RepA _ _ _ (look (startW.go x 0 args) t) _
   rcases h1 with h1 | h1
   ·have : (vals.toArray ++ Array.replicate (fn.ntmps - vals.toArray.size) undef).getD t undef = vals.getD t undef := by
     rw [Array.getD_eq_getD_getElem?, List.getD_eq_getElem?_getD, Array.getElem?_append]
     split
     ·simp
     ·rename_i hge
      simp at hge
      rw [List.getElem?_eq_none hge]
      simp only [Array.getElem?_replicate]
      split <;> rfl
    rw [this]
    exact h1
   ·have h1 : look (startW.go x 0 args) t = .any := h1
    rw [h1]; trivial
  ·obtain ⟨v, hv, hs2⟩ := hcin s c hs
   refine ⟨v, hv, ?_⟩
   have hr := List.all_eq_true.1 hrow _ (look_mem hs)
   cases c with
   | row e z n g fr =>
     obtain ⟨xs, h1, h2, h3, h4⟩ := hs2
     exact ⟨xs, h1.base_le (Nat.zero_le _), h2, h3, fun j q y hj hy => by obtain ⟨u, hu, hru⟩ := h4 j q y hj hy; exact ⟨u, hu, hru.mono (fun _ _ => rfl) (fun b hb => ⟨hb.1, hb.2.1, fun _ => Nat.zero_le _⟩)⟩⟩
   | nest e ei n m g => exact NestOk.base_le hs2 (Nat.zero_le _)
   | box t cs => cases hr
   | iter s p => cases hr
   | set P kt bt n l => cases hr
 obtain ⟨w', fr, vs, us, h1, h2, h3, h4, h5, h6, h7, _⟩ := h w0 x rfl (fun w' h _ => h) b cs _ _ w rfl rfl hrel
 rw [← henter] at h1
 refine ⟨.returned (Av.one vs), w', fr, ⟨by rw [resOk_plain h5], h4, fun b hb hl => h6 b ⟨hb, hl⟩, fun s c hs => ?_⟩, h1, h2, h3⟩
 have hk := look_keys hkeys s
 rw [hs] at hk
 obtain ⟨c0, hc0⟩ := Option.isSome_iff_exists.1 hk.symm
 obtain ⟨v, hv, hs2⟩ := hcin s c0 hc0
 have hx : x s = v := by show (σ s).getD undef = v; rw [hv]; rfl
 refine ⟨v, hv, fun σ2 => ?_⟩
 have h8 := h7 s c hs σ2
 rw [hx] at h8
 exact site_flat (hflat _ (look_mem hs)) h8 (fun b hb => (hs2.block hb).1)
def hvOfC : CV → List (Nat × Value)
 | .hv s x => [(s, x)]
 | _ => []
def hvOf : AV → List (Nat × Value)
 | .t (.c c) => hvOfC c
 | .t (.agg xs) => xs.flatMap hvOfC
 | _ => []
def hvSites (T : List (Nat × AV)) : List (Nat × Value) := (T.map Prod.fst).flatMap fun t => hvOf (look T t)
theorem hvOf_ok {base : Nat} {w : World} {σ : Sig} {av : AV} {v : Value} (h : RepA base w σ av v) {s : Nat} {x : Value} (hm : (s, x) ∈ hvOf av) : σ s = some x := by
 have hC : ∀ (c : CV) (v : Value), RepC base w σ c v → (s, x) ∈ hvOfC c → σ s = some x := fun c v h hm => by
  cases c with
  | hv s' x' => simp [hvOfC] at hm; obtain ⟨rfl, rfl⟩ := hm; exact h.1
  | _ => simp [hvOfC] at hm
 cases av with
 | t t => cases t with
   | c c => exact hC c v h hm
   | agg xs =>
     obtain ⟨vs, rfl, hl, h⟩ := h
     obtain ⟨c, hc, hm⟩ := List.mem_flatMap.1 hm
     obtain ⟨i, hi, rfl⟩ := List.getElem_of_mem hc
     exact hC _ _ (h i xs[i] vs[i] (List.getElem?_eq_getElem hi) (List.getElem?_eq_getElem (by omega))) hm
 | _ => simp [hvOf] at hm
theorem byRetW {f : FuncId} {fn : Func} {N : Nat} {rds : List RD} {w0 : Base} {k : List Item} {S : FS} {obs : List Prop} (hm : P.follows .mixedOrders = true) (hfn : P.funcs[f]? = some fn) {x : Nat → Value} {cout : List (Nat × Content)} {T : List (Nat × AV)}
  (hB : w0.base = 0) (hQ : ∀ w', (∀ s c, cout.lookup s = some c → ∀ σ2, SiteOk 0 w' σ2 (x s) c) → ∀ v, w0.Q w' v) (hflat : ∀ p ∈ cout, flatP p.2) (hT : hvSites T = cout.map fun p => (p.1, x p.1)) (n : Nat) (orc : List (Orc P)) (ho : All obs)
  (h : ev P N fn.results.toList rds (.retQ T cout) n orc k S = some (obs ++ (selfR rds ++ selfS T cout))) : AG P f N rds w0 k S :=
 byRetQ hm hfn n orc ho (fun σ a w v hr _ => hQ w (fun s c hc σ2 => by
  obtain ⟨v, hv, hs⟩ := hr.sites s c hc
  have hm2 : (s, x s) ∈ hvSites T := by rw [hT]; exact List.mem_map.2 ⟨(s, c), look_mem hc, rfl⟩
  obtain ⟨t, _, ht⟩ := List.mem_flatMap.1 hm2
  have hx := hvOf_ok (hr.tmps t) ht
  rw [hv] at hx
  cases hx
  rw [hB] at hs
  exact site_flat (hflat _ (look_mem hc)) hs (fun _ _ => Nat.zero_le _)) v) h
def NC {α β : Type} (e ei : TypeId) (p : α → List β) (enc : β → Value) (d : α) (db : β) (l : List α) : Content := .nest e ei l.length (fun j => (p (l.getD j d)).length) (fun j q => [.sc (enc ((p (l.getD j d)).getD q db))])
def NR {α β : Type} (e ei : TypeId) (p : α → List β) (enc : β → Value) (d : α) (db : β) (l : List α) : RC := .ownN e ei l.length (fun j => (p (l.getD j d)).length) (fun j q => [.sc (enc ((p (l.getD j d)).getD q db))])
def nrow {α β : Type} (s : Nat) (p : α → List β) (enc : β → Value) (d : α) (db : β) (l : List α) : Orc P := .rowN s l.length (fun j => (p (l.getD j d)).length) (fun j q => [.sc (enc ((p (l.getD j d)).getD q db))])
theorem GEN.set {α β : Type} (p : α → List β) (enc : β → Value) (d : α) (db : β) (l : List α) (i : Nat) (v : α) (hi : i < l.length) {m' : Nat} {g' : Nat → List V} (hm : m' = (p v).length) (hg : ∀ q, g' q = [.sc (enc ((p v).getD q db))]) :
  GEN l.length (upd (fun j => (p (l.getD j d)).length) i m') (upd (fun j q => [.sc (enc ((p (l.getD j d)).getD q db))]) i g') (l.set i v).length (fun j => (p ((l.set i v).getD j d)).length) (fun j q => [.sc (enc ((p ((l.set i v).getD j d)).getD q db))]) := by
 refine ⟨by simp, fun j hj => ?_⟩
 by_cases e : j = i
 ·subst e
  have e1 : (l.set j v).getD j d = v := by rw [List.getD_eq_getElem?_getD, List.getElem?_set_self hi]; rfl
  simp only [upd, if_true, e1]
  exact ⟨hm, fun q _ => hg q⟩
 ·have e1 : (l.set i v).getD j d = l.getD j d := by rw [List.getD_eq_getElem?_getD, List.getD_eq_getElem?_getD, List.getElem?_set_ne (fun h => e h.symm)]
  simp only [upd, e1]
  rw [if_neg e, if_neg e]
  exact ⟨rfl, fun _ _ => rfl⟩
def selfWC (C : WCon P) : List Prop := (C.f = C.f) :: (C.args.flatMap selfA ++ C.cin.flatMap fun x => selfK x.2)
theorem scw_ (C : WCon P) : All (selfWC C) := All.cons.2 ⟨rfl, All.append.2 ⟨All.flat (fun x => by
 cases x with
 | t y => cases y with
   | c c => exact selfC_ok c
   | agg xs => exact All.flat selfC_ok xs
 | bptr f e => exact mapVE e
 | bfn g es => exact All.cons.2 ⟨rfl, All.flat mapVE es⟩
 | _ => trivial) _, All.flat (fun x => by
 cases x.2 with
 | box t cs => exact All.flat selfC_ok cs
 | row e z n g f => exact GE.refl n g
 | iter s p => exact ⟨rfl, rfl⟩
 | nest e ei n m g => exact GEN.refl n m g
 | set P kt bt n l => exact ⟨rfl, rfl, rfl⟩) _⟩⟩
theorem flatP_nil : ∀ p ∈ ([] : List (Nat × Content)), flatP p.2 := fun p hp => by simp at hp
theorem flatP_cons {s : Nat} {c : Content} {l : List (Nat × Content)} (h : flatP c) (hl : ∀ p ∈ l, flatP p.2) : ∀ p ∈ (s, c) :: l, flatP p.2 := fun p hp => by
 rcases List.mem_cons.1 hp with rfl | hp
 ·exact h
 ·exact hl p hp
theorem innerEq {β : Type} (enc : β → Value) (db : β) (x : List β) : ∀ q, q < x.length → [V.sc (enc (x.getD q db))] = [V.sc (enc (x.getD q db))] := fun _ _ => rfl
theorem lt_set {α : Type} {l : List α} {k : Nat} {v : α} {i : Int} (h : i < (l.length : Int)) : i < ((l.set k v).length : Int) := by rw [List.length_set]; exact h
theorem GE.set2 {α : Type} {e : α → List V} {d : α} (l : List α) (i : Nat) (x y : α) (hi : i < l.length) {f : List V → List V} (hu : f (e x) = e y) :
  GE (l.set i x).length (fun j => if j = i then f (e ((l.set i x).getD i d)) else e ((l.set i x).getD j d)) (l.set i y).length (fun j => e ((l.set i y).getD j d)) := by
 refine GE.of_eq (by simp) (fun j hj => ?_)
 show (if j = i then f (e ((l.set i x).getD i d)) else e ((l.set i x).getD j d)) = e ((l.set i y).getD j d)
 split
 ·rename_i h
  subst h
  rw [List.length_set] at hj
  rw [List.getD_eq_getElem?_getD, List.getElem?_set_self hj, List.getD_eq_getElem?_getD, List.getElem?_set_self hj]
  exact hu
 ·rename_i h
  rw [List.getD_eq_getElem?_getD, List.getD_eq_getElem?_getD, List.getElem?_set_ne (fun e => h e.symm), List.getElem?_set_ne (fun e => h e.symm)]
theorem nilG.zero (g : Nat → List V) : nilG 0 g := fun j hj => absurd hj (Nat.not_lt_zero j)
theorem GEN.nil {α β : Type} (p : α → List β) (enc : β → Value) (d : α) (db : β) : GEN 0 (fun _ => 0) (fun _ _ => []) ([] : List α).length (fun j => (p (([] : List α).getD j d)).length) (fun j q => [.sc (enc ((p (([] : List α).getD j d)).getD q db))]) := ⟨rfl, fun j hj => absurd hj (Nat.not_lt_zero j)⟩
theorem GEN.one {α β : Type} (p : α → List β) (enc : β → Value) (d : α) (db : β) (v : α) {m : Nat} {g : Nat → List V} (hm : m = (p v).length) (hg : ∀ q, g q = [.sc (enc ((p v).getD q db))]) :
  GEN 1 (fun _ => m) (fun _ => g) [v].length (fun j => (p ([v].getD j d)).length) (fun j q => [.sc (enc ((p ([v].getD j d)).getD q db))]) := ⟨rfl, fun j hj => by
 obtain rfl : j = 0 := by omega
 exact ⟨hm, fun q _ => hg q⟩⟩
theorem GEN.app {α β : Type} (p : α → List β) (enc : β → Value) (d : α) (db : β) (l r : List α) :
  GEN (l.length + r.length) (fun j => if j < l.length then (p (l.getD j d)).length else (p (r.getD (j - l.length) d)).length) (fun j => if j < l.length then (fun q => [.sc (enc ((p (l.getD j d)).getD q db))]) else fun q => [.sc (enc ((p (r.getD (j - l.length) d)).getD q db))])
   (l ++ r).length (fun j => (p ((l ++ r).getD j d)).length) (fun j q => [.sc (enc ((p ((l ++ r).getD j d)).getD q db))]) := by
 refine ⟨by simp, fun j hj => ?_⟩
 by_cases h : j < l.length
 ·have e : (l ++ r).getD j d = l.getD j d := by rw [List.getD_eq_getElem?_getD, List.getD_eq_getElem?_getD, List.getElem?_append_left h]
  simp only [if_pos h, e]
  exact ⟨trivial, fun _ _ => trivial⟩
 ·have e : (l ++ r).getD j d = r.getD (j - l.length) d := by rw [List.getD_eq_getElem?_getD, List.getD_eq_getElem?_getD, List.getElem?_append_right (by omega)]
  simp only [if_neg h, e]
  exact ⟨trivial, fun _ _ => trivial⟩
end Go.Av