/- Rows of values of a type, and loops of a text. -/
import Derived.Test.YtfhjipfkaemapaaGreatAvS
namespace Go.Av
open Go
set_option linter.unusedVariables false
def loopsOf : Code → List Item → List (Code × List Item)
 | .seq a b, k => loopsOf a (.code b :: k) ++ loopsOf b k
 | .cond _ x y, k => loopsOf x k ++ loopsOf y k
 | .block id c, k => loopsOf c (.inBlock id :: k)
 | .loop c, k => (c, k) :: loopsOf c (.inLoop c :: k)
 | _, _ => []
def headStk (c : Code) (i : Nat) : List Item := match (loopsOf c [])[i]? with
 | some (c, k) => .code c :: .inLoop c :: k
 | none => []
def codeOf (f : Func) : Code := f.body.getD .skip
def R {α : Type} (z : Nat) (e : α → List V) (d : α) (l : List α) : V := .row z l.length (fun j => e (l.getD j d))
def eI (k : IntKind) (x : Int) : List V := [.sc (.int k x)]
def eB (x : Bool) : List V := [.sc (.bool x)]
def eS (x : ByteArray) : List V := [.sc (.string x)]
def rowI (k : IntKind) (l : List Int) : V := R 1 (eI k) 0 l
theorem All.one {p : Prop} (h : p) : All [p] := h
theorem All.app {l r : List Prop} (h : All l) (k : All r) : All (l ++ r) := All.append.2 ⟨h, k⟩
theorem ifN {α : Type} {c : Prop} [Decidable c] {a : Option α} {r : α} (h : (if c then a else none) = some r) : c ∧ a = some r := by
 split at h
 ·exact ⟨‹_›, h⟩
 ·cases h
theorem GE.app {α : Type} {e : α → List V} {d : α} (l r : List α) {n n' : Nat} {g' : Nat → List V} (hn : n' = r.length) (hg : ∀ j, j < r.length → CE (g' j) (e (r.getD j d))) (h0 : n = l.length) :
  GE (n + n') (fun j => if j < n then e (l.getD j d) else g' (j - n)) (l ++ r).length (fun j => e ((l ++ r).getD j d)) := by
 subst h0
 subst hn
 refine ⟨by simp, fun j hj => ?_⟩
 simp only
 split
 ·rename_i h
  refine CE.of_eq ?_
  rw [List.getD_eq_getElem?_getD, List.getD_eq_getElem?_getD, List.getElem?_append_left h]
 ·rename_i h
  have h1 := hg (j - l.length) (by omega)
  have e1 : (l ++ r).getD j d = r.getD (j - l.length) d := by
   rw [List.getD_eq_getElem?_getD, List.getD_eq_getElem?_getD, List.getElem?_append_right (by omega)]
  rw [e1]
  exact h1
theorem GE.set {α : Type} {e : α → List V} {d : α} (l : List α) (i : Nat) (x : α) (hi : i < l.length) {u : List V} (hu : u = e x) :
  GE l.length (fun j => if j = i then u else e (l.getD j d)) (l.set i x).length (fun j => e ((l.set i x).getD j d)) := by
 refine GE.of_eq (by simp) (fun j hj => ?_)
 show (if j = i then u else e (l.getD j d)) = e ((l.set i x).getD j d)
 split
 ·rename_i h
  subst h
  rw [hu, List.getD_eq_getElem?_getD, List.getElem?_set_self hi]
  rfl
 ·rename_i h
  rw [List.getD_eq_getElem?_getD, List.getD_eq_getElem?_getD, List.getElem?_set_ne (fun e => h e.symm)]
theorem GE.rep {α : Type} {e : α → List V} {d : α} (n : Nat) {zs : List V} (hz : CE zs (e d)) : GE n (fun _ => zs) (List.replicate n d).length (fun j => e ((List.replicate n d).getD j d)) := by
 refine ⟨by simp, fun j hj => ?_⟩
 have : (List.replicate n d).getD j d = d := by
  simp only [List.getD_eq_getElem?_getD, List.getElem?_replicate]
  split <;> rfl
 show CE zs (e ((List.replicate n d).getD j d))
 rw [this]
 exact hz
theorem GE.nil {α : Type} (e : α → List V) (d : α) : GE 0 (fun _ => []) ([] : List α).length (fun j => e (([] : List α).getD j d)) := ⟨rfl, fun j hj => by omega⟩
theorem GE.lit {α : Type} (z : Nat) (e : α → List V) (d : α) (l : List α) (hz : ∀ x, (e x).length = z) : GE l.length (chunk z (l.flatMap e)) l.length (fun j => e (l.getD j d)) := by
 refine GE.of_eq rfl (fun j hj => ?_)
 induction l generalizing j with
 | nil => simp at hj
 | cons x l ih =>
   cases j with
   | zero =>
     simp only [chunk, Nat.zero_mul, List.drop_zero, List.flatMap_cons]
     rw [List.take_left' (hz x)]
     rfl
   | succ j =>
     have h := ih j (by simpa using hj)
     simp only [chunk, List.flatMap_cons] at h ⊢
     have e1 : (j + 1) * z = (e x).length + j * z := by rw [hz, Nat.succ_mul]; omega
     rw [e1, List.drop_length_add_append]
     simpa using h
theorem VE.cut {α : Type} {z : Nat} {e : α → List V} {d : α} (l : List α) {n : Nat} {lo hi : Int} (hn : n = l.length) (h0 : 0 ≤ lo) (h1 : lo ≤ hi) (h2 : hi ≤ (n : Int)) :
  VE (.row z (hi.toNat - lo.toNat) (fun j => e (l.getD (lo.toNat + j) d))) (R z e d ((l.drop lo.toNat).take (hi.toNat - lo.toNat))) := by
 subst hn
 refine VE.row (GE.of_eq (by rw [List.length_take, List.length_drop]; omega) fun j hj => ?_)
 simp only [List.getD_eq_getElem?_getD, List.getElem?_take, List.getElem?_drop]
 rw [if_pos hj]
theorem SC.of {α : Type} {e : α → List V} {d : α} (l : List α) (he : ∀ x, (e x).all isSc = true) : SC l.length (fun j => e (l.getD j d)) := fun j _ x hx => List.all_eq_true.1 (he _) x hx
theorem mxl {n b : Nat} (hb : 0 < b) (h : n * b ≤ 140737488355328) : n ≤ maxLen := by
 have : n ≤ n * b := Nat.le_mul_of_pos_right _ hb
 simp only [maxLen]
 omega
theorem lt_toNat {i : Int} {n : Nat} (h0 : 0 ≤ i) (h1 : i < (n : Int)) : i.toNat < n := by omega
theorem bindN {α β : Type} {x : Option α} {f : α → Option β} {r : β} (h : x.bind f = some r) : ∃ a, x = some a ∧ f a = some r := Option.bind_eq_some_iff.1 h
theorem on : All [] := trivial
theorem o1 {p : Prop} {l : List Prop} (h : p) (r : All l) : All (p :: l) := All.cons.2 ⟨h, r⟩
theorem oa {l r : List Prop} (h : All l) (k : All r) : All (l ++ r) := All.append.2 ⟨h, k⟩
theorem bnt {b : Bool} (h : b = false) : (!b) = true := by rw [h]; rfl
theorem bnf {b : Bool} (h : b = true) : (!b) = false := by rw [h]; rfl
theorem eqf {b : Bool} (h : ¬ b = true) : b = false := by simpa using h
abbrev w64 (x : Int) : Int := IntKind.i64.wrap x
def rdD {α : Type} (d : α) (l : List α) (i : Int) : α := l.getD i.toNat d
def exitStk (c : Code) (i : Nat) : List Item := match (loopsOf c [])[i]? with
 | some (_, .inBlock _ :: k) => k
 | _ => []
def bytesOf (s : ByteArray) : List Int := s.data.toList.map fun b => (b.toNat : Int)
def strOf (l : List Int) : ByteArray := ⟨(l.map fun b => UInt8.ofNat b.toNat).toArray⟩
theorem bytesOf_length (s : ByteArray) : (bytesOf s).length = s.size := by
 rw [bytesOf, List.length_map, Array.length_toList]; rfl
theorem bytesOf_at (s : ByteArray) (j : Nat) (hj : j < s.size) : (bytesOf s).getD j 0 = bt s j := by
 have hl : j < s.data.toList.length := by rw [Array.length_toList]; exact hj
 rw [List.getD_eq_getElem?_getD, bytesOf, List.getElem?_map, List.getElem?_eq_getElem hl]
 unfold bt
 simp only [Int.toNat_natCast]
 rw [dif_pos hj]
 rfl
theorem GE.bytes (s : ByteArray) : GE s.size (fun j => [.sc (.int .u8 (bt s j))]) (bytesOf s).length (fun j => eI .u8 ((bytesOf s).getD j 0)) :=
 GE.of_eq (bytesOf_length s).symm fun j hj => by rw [bytesOf_at s j hj]; rfl
def isBytes (l : List Int) : Bool := l.all fun b => decide (0 ≤ b) && decide (b < 256)
theorem isBytes_at {l : List Int} (h : isBytes l = true) (j : Nat) (hj : j < l.length) : 0 ≤ l.getD j 0 ∧ l.getD j 0 < 256 := by
 rw [List.getD_eq_getElem?_getD, List.getElem?_eq_getElem hj]
 have := List.all_eq_true.1 h l[j] (List.getElem_mem hj)
 simpa using this
theorem ByOk.of {l : List Int} (h : isBytes l = true) : ByOk l.length (fun j => eI .u8 (l.getD j 0)) := fun j hj => by
 obtain ⟨h0, h1⟩ := isBytes_at h j hj
 refine ⟨UInt8.ofNat (l.getD j 0).toNat, ?_⟩
 have : ((UInt8.ofNat (l.getD j 0).toNat).toNat : Int) = l.getD j 0 := by
  rw [UInt8.toNat_ofNat']
  rw [Nat.mod_eq_of_lt (by omega)]
  omega
 rw [this]
 rfl
theorem VE.str (l : List Int) : VE (.sc (.string (bstr l.length (fun j => eI .u8 (l.getD j 0))))) (.sc (.string (strOf l))) := VE.of_eq (by
 have : (List.range l.length).map (fun j => byOf (eI .u8 (l.getD j 0))) = l.map fun b => UInt8.ofNat b.toNat := by
  apply List.ext_getElem (by simp)
  intro i h1 h2
  simp at h1
  simp [byOf, eI, List.getD_eq_getElem?_getD, List.getElem?_eq_getElem h1]
 unfold bstr strOf
 rw [this])
def mkCon {P : Program} {f : FuncId} {args : List AD} {res : List RD} (h : VCalls P f args res) (g : Callable P f) : Con P := ⟨f, args, res, h, g⟩
def selfCall {P : Program} (C : Con P) : List Prop := (C.f = C.f) :: selfArgs C.args
theorem sc_ {P : Program} (C : Con P) : All (selfCall C) := All.cons.2 ⟨rfl, selfArgs_ok C.args⟩
def orow {P : Program} {α : Type} (s : Nat) (e : α → List V) (d : α) (l : List α) : Orc P := .row s l.length (fun j => e (l.getD j d))
def rowe {P : Program} {α : Type} (d0 : Nat) (e : α → List V) (d : α) (l : List α) : Orc P := .rowE d0 l.length (fun j => e (l.getD j d))
section
variable {P : Program} {f : FuncId} {fn : Func} {N : Nat} {rds : List RD} {w0 : Base} {k : List Item} {S : FS} {obs : List Prop}
theorem byRet {w0 : World} (hm : P.follows .mixedOrders = true) (hfn : P.funcs[f]? = some fn) (n : Nat) (orc : List (Orc P)) (ho : All obs) (h : ev P N fn.results.toList rds .ret n orc k S = some (obs ++ selfR rds)) : AG P f N rds (plain w0) k S :=
 ev_ok hm hfn (tgt := .ret) (fun _ _ => trivial) n h (oa ho (selfR_ok rds))
theorem byRetQ (hm : P.follows .mixedOrders = true) (hfn : P.funcs[f]? = some fn) {T : List (Nat × AV)} {H : List (Nat × Content)} (n : Nat) (orc : List (Orc P)) (ho : All obs) (hg : ∀ σ a w v, Rel w0 N (mkFS T H) σ a w → (∀ t, fn.results.toList = [.tmp t] → v = a.tmps.getD t undef) → w0.Q w v)
  (h : ev P N fn.results.toList rds (.retQ T H) n orc k S = some (obs ++ (selfR rds ++ selfS T H))) : AG P f N rds w0 k S :=
 ev_ok hm hfn (tgt := .retQ T H) hg n h (oa ho (oa (selfR_ok rds) (selfS_ok T H)))
theorem byHead (hm : P.follows .mixedOrders = true) (hfn : P.funcs[f]? = some fn) {stk : List Item} {T : List (Nat × AV)} {H : List (Nat × Content)} (n : Nat) (orc : List (Orc P)) (ho : All obs) (hg : AG P f N rds w0 stk (mkFS T H))
  (h : ev P N fn.results.toList rds (.head stk T H) n orc k S = some (obs ++ ((stk = stk) :: selfS T H))) : AG P f N rds w0 k S :=
 ev_ok hm hfn (tgt := .head stk T H) hg n h (oa ho (o1 rfl (selfS_ok T H)))
theorem byStop (hm : P.follows .mixedOrders = true) (hfn : P.funcs[f]? = some fn) {stk : List Item} {T : List (Nat × AV)} {H : List (Nat × Content)} (n : Nat) (orc : List (Orc P)) (ho : All obs) (hg : AG P f N rds w0 stk (mkFS T H))
  (h : ev P N fn.results.toList rds (.stop stk T H) n orc k S = some (obs ++ ((stk = stk) :: selfS T H))) : AG P f N rds w0 k S :=
 ev_ok hm hfn (tgt := .stop stk T H) hg n h (oa ho (o1 rfl (selfS_ok T H)))
end
end Go.Av