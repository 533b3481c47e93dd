/- The law FnFrames over numbers and lists alone: it answers true for every input; no condition beside the bounds of the kinds. -/
import Derived.Test.YtpkffapjplebgaaMFnFramesx
import Derived.Test.YtpkffapjplebgaaOpFnFrames
import Derived.Laws.BitsLemmas
namespace Go.Proofs.Ytpkffapjplebgaa.Pure
open Go.RowKit Go.Proofs.Ytpkffapjplebgaa.MFnFrames Go.Proofs.YtpkffapjplebgaaW.PrintWords Go.Proofs.YtpkffapjplebgaaW.PrintLast Go.Proofs.Ytpkffapjplebgaa
set_option linter.unusedVariables false
set_option linter.unusedSimpArgs false

theorem w64 {x : Int} (h1 : -9223372036854775808 ≤ x) (h2 : x ≤ 9223372036854775807) : wrap64 x = x := by unfold wrap64; omega
theorem wnat {i : Nat} (h : i < 4611686018427387904) : wrap64 ((i : Int) + 1) = ((i + 1 : Nat) : Int) := by unfold wrap64; omega
theorem ksucc {k d : Nat} (h : d < k) : ∃ m, k = m + 1 := ⟨k - 1, by omega⟩

/-! texts as lists of bytes -/
def ofL (l : List UInt8) : ByteArray := ⟨l.toArray⟩
theorem ofL_app (a b : List UInt8) : ofL a ++ ofL b = ofL (a ++ b) := by apply ByteArray.ext; simp [ofL]
theorem ofL_size (a : List UInt8) : (ofL a).size = a.length := by simp [ofL, ByteArray.size]
theorem ofL_nil (x : ByteArray) : ofL [] ++ x = x := by apply ByteArray.ext; simp [ofL]
theorem ofL_list (a : List UInt8) : (ofL a).data.toList = a := by simp [ofL]
theorem ofL_of (x : ByteArray) : ofL x.data.toList = x := by apply ByteArray.ext; simp [ofL]

/-! draws -/
theorem mask255 (x : Int) : ∃ v : Nat, v ≤ 255 ∧ Go.bits .and .i64 x 255 = (v : Int) := by
  refine ⟨((BitVec.ofInt 64 x) &&& (BitVec.ofInt 64 255)).toNat, ?_, ?_⟩
  · rw [BitVec.toNat_and]
    exact Nat.le_trans Nat.and_le_right (by decide)
  · have h : ((BitVec.ofInt 64 x) &&& (BitVec.ofInt 64 255)).toNat ≤ 255 := by
      rw [BitVec.toNat_and]
      exact Nat.le_trans Nat.and_le_right (by decide)
    have e : Go.bits .and .i64 x 255 = IntKind.i64.wrap ((((BitVec.ofInt 64 x) &&& (BitVec.ofInt 64 255)).toNat : Nat) : Int) := rfl
    rw [e, IntKind.wrap_i64]
    generalize ((BitVec.ofInt 64 x) &&& (BitVec.ofInt 64 255)).toNat = n at h
    omega
theorem byte_ev (l : List Int) (hl : l.length ≤ 1048576) (i h : Int) (h0 : 0 ≤ i) (h1 : i ≤ l.length) : ∃ (v : Nat) (i' h' : Int), spec_l01Byte.f l i h = some ((v : Int), i', h') ∧ v ≤ 255 ∧ 0 ≤ i' ∧ i' ≤ l.length := by
  unfold spec_l01Byte.f
  by_cases c : i < (l.length : Int)
  · obtain ⟨v, hv, e⟩ := mask255 (wrap64 ((Go.bits .and .i64 (Go.bits .xor .i64 ((wrap64 ((wrap64 (h * 6364136223846793005)) + 1442695040888963407)) / 8589934592) ((wrap64 ((wrap64 (h * 6364136223846793005)) + 1442695040888963407)) / 35184372088832)) 255) + (wrap64 (rd l i))))
    rw [if_pos c, if_pos h0, e, w64 (x := i + 1) (by omega) (by omega)]
    exact ⟨v, _, _, rfl, hv, by omega, by omega⟩
  · obtain ⟨v, hv, e⟩ := mask255 (Go.bits .xor .i64 ((wrap64 ((wrap64 (h * 6364136223846793005)) + 1442695040888963407)) / 8589934592) ((wrap64 ((wrap64 (h * 6364136223846793005)) + 1442695040888963407)) / 35184372088832))
    rw [if_neg c, e]
    exact ⟨v, _, _, rfl, hv, h0, h1⟩
theorem below_ev (l : List Int) (hl : l.length ≤ 1048576) (i h : Int) (h0 : 0 ≤ i) (h1 : i ≤ l.length) (n : Int) (n1 : 1 ≤ n) (n2 : n ≤ 256) : ∃ (v : Nat) (i' h' : Int), spec_l01Below.f l i h n = some ((v : Int), i', h') ∧ (v : Int) < n ∧ 0 ≤ i' ∧ i' ≤ l.length := by
  obtain ⟨v, i', h', e, hv, g0, g1⟩ := byte_ev l hl i h h0 h1
  unfold spec_l01Below.f
  rw [if_neg (by omega), if_pos (by omega), e]
  simp only [Option.bind_some]
  obtain ⟨m, rfl⟩ : ∃ m : Nat, n = m := ⟨n.toNat, by omega⟩
  rw [if_neg (by omega), Int.tmod_eq_emod_of_nonneg (by omega), ← Int.natCast_emod]
  exact ⟨v % m, i', h', rfl, by have := Nat.mod_lt v (show m > 0 by omega); omega, g0, g1⟩
theorem new_l (l : List Int) (hl : l.length ≤ 1048576) : ∀ (d i k : Nat) (h : Int), i + d = l.length → 4001 - i < k → i ≤ 4000 → ∃ h', spec_l01New.l0 k l h (i : Int) = some (l, 0, h') := by
  intro d
  induction d with
  | zero =>
    intro i k h hi hk _
    obtain ⟨k, rfl⟩ := ksucc (show 0 < k by omega)
    rw [spec_l01New.l0, if_neg (by omega)]
    exact ⟨_, rfl⟩
  | succ d ih =>
    intro i k h hi hk h4
    obtain ⟨k, rfl⟩ := ksucc (show 0 < k by omega)
    rw [spec_l01New.l0, if_pos (by omega)]
    by_cases c : (i : Int) < 4000
    · rw [if_pos c, if_pos (by omega), wnat (by omega)]
      exact ih (i + 1) k _ (by omega) (by omega) (by omega)
    · rw [if_neg c]
      exact ⟨_, rfl⟩
theorem new_ev (l : List Int) (hl : l.length ≤ 1048576) (k : Nat) (hk : 4001 < k) : ∃ h, spec_l01New.f k l = some (l, 0, h) := new_l l hl l.length 0 k _ (by omega) (by omega) (by omega)

/-! drawn commands -/
def okC (a b c : Nat) : Bool := (a == 2 && b == 0 && c == 0) || (a == 8 && b == 0 && c == 0) || (a == 3) || (a == 6) || ((a == 1 || a == 4 || a == 5 || a == 7) && c == 0)
/-- A drawn command. -/
def drawn (x : S26) : Prop := ∃ a b c : Nat, x = ⟨(a : Int), (b : Int), (c : Int)⟩ ∧ a < 9 ∧ b < 9 ∧ c < 9 ∧ okC a b c = true
theorem cmd_ev (l : List Int) (hl : l.length ≤ 1048576) (i h : Int) (h0 : 0 ≤ i) (h1 : i ≤ l.length) : ∃ (a b c : Int) (i' h' : Int), spec_l30Cmd.f l i h = some (a, b, c, i', h') ∧ drawn ⟨a, b, c⟩ ∧ 0 ≤ i' ∧ i' ≤ l.length := by
  obtain ⟨v, i1, j1, e1, hv, g0, g1⟩ := below_ev l hl i h h0 h1 6 (by omega) (by omega)
  unfold spec_l30Cmd.f
  rw [e1]
  simp only [Option.bind_some]
  have two : ∃ (b c : Nat) (i3 j3 : Int), (b : Int) < 9 ∧ (c : Int) < 9 ∧ 0 ≤ i3 ∧ i3 ≤ l.length ∧ ∀ a : Int, ((spec_l01Below.f l i1 j1 9).bind fun x => (spec_l01Below.f l x.2.1 x.2.2 9).bind fun y => some (a, x.1, y.1, y.2.1, y.2.2)) = some (a, (b : Int), (c : Int), i3, j3) := by
    obtain ⟨b, i2, j2, e2, hb, k0, k1⟩ := below_ev l hl i1 j1 g0 g1 9 (by omega) (by omega)
    obtain ⟨c, i3, j3, e3, hc, m0, m1⟩ := below_ev l hl i2 j2 k0 k1 9 (by omega) (by omega)
    refine ⟨b, c, i3, j3, hb, hc, m0, m1, fun a => ?_⟩
    rw [e2]
    simp only [Option.bind_some]
    rw [e3]
    rfl
  by_cases q0 : (v : Int) = 0
  · rw [if_pos q0]
    exact ⟨_, _, _, _, _, rfl, ⟨2, 0, 0, rfl, by omega, by omega, by omega, rfl⟩, g0, g1⟩
  rw [if_neg q0]
  by_cases q1 : (v : Int) = 1
  · rw [if_pos q1]
    obtain ⟨b, c, i3, j3, hb, hc, m0, m1, e⟩ := two
    exact ⟨_, _, _, _, _, e 3, ⟨3, b, c, rfl, by omega, by omega, by omega, rfl⟩, m0, m1⟩
  rw [if_neg q1]
  by_cases q2 : (v : Int) = 2
  · rw [if_pos q2]
    obtain ⟨b, c, i3, j3, hb, hc, m0, m1, e⟩ := two
    exact ⟨_, _, _, _, _, e 6, ⟨6, b, c, rfl, by omega, by omega, by omega, rfl⟩, m0, m1⟩
  rw [if_neg q2]
  by_cases q3 : (v : Int) = 3
  · rw [if_pos q3]
    exact ⟨_, _, _, _, _, rfl, ⟨8, 0, 0, rfl, by omega, by omega, by omega, rfl⟩, g0, g1⟩
  rw [if_neg q3]
  obtain ⟨u, i2, j2, e2, hu, k0, k1⟩ := below_ev l hl i1 j1 g0 g1 4 (by omega) (by omega)
  obtain ⟨b, i3, j3, e3, hb, m0, m1⟩ := below_ev l hl i2 j2 k0 k1 6 (by omega) (by omega)
  have ep : spec_l01PickInt.f l i1 j1 [1, 4, 5, 7] = some (rd [1, 4, 5, 7] (u : Int), i2, j2) := by
    unfold spec_l01PickInt.f
    rw [show (([1, 4, 5, 7] : List Int).length : Int) = 4 from rfl, e2]
    simp only [Option.bind_some]
    rw [if_pos (by omega), if_pos (by omega)]
  rw [ep]
  simp only [Option.bind_some]
  rw [e3]
  simp only [Option.bind_some]
  refine ⟨_, _, _, _, _, rfl, ?_, m0, m1⟩
  have hu4 : u = 0 ∨ u = 1 ∨ u = 2 ∨ u = 3 := by omega
  rcases hu4 with rfl | rfl | rfl | rfl
  · exact ⟨1, b, 0, rfl, by omega, by omega, by omega, rfl⟩
  · exact ⟨4, b, 0, rfl, by omega, by omega, by omega, rfl⟩
  · exact ⟨5, b, 0, rfl, by omega, by omega, by omega, rfl⟩
  · exact ⟨7, b, 0, rfl, by omega, by omega, by omega, rfl⟩
theorem written_l (l : List Int) (hl : l.length ≤ 1048576) : ∀ (d m k : Nat) (out : List S26) (i h : Int), m + d = 9 → out.length = m → (∀ x ∈ out, drawn x) → 0 ≤ i → i ≤ l.length → d < k →
    ∃ r, spec_DrawWritten.l0 k out (m : Int) l i h = some r ∧ r.length ≤ 9 ∧ ∀ x ∈ r, drawn x := by
  intro d
  induction d with
  | zero =>
    intro m k out i h hm ho hd h0 h1 hk
    obtain ⟨k, rfl⟩ := ksucc hk
    obtain ⟨v, i1, j1, e1, hv, g0, g1⟩ := below_ev l hl i h h0 h1 9 (by omega) (by omega)
    rw [spec_DrawWritten.l0, e1, Option.bind_some]
    dsimp only
    rw [w64 (by omega) (by omega), if_neg (by omega)]
    exact ⟨out, rfl, by omega, hd⟩
  | succ d ih =>
    intro m k out i h hm ho hd h0 h1 hk
    obtain ⟨k, rfl⟩ := ksucc hk
    obtain ⟨v, i1, j1, e1, hv, g0, g1⟩ := below_ev l hl i h h0 h1 9 (by omega) (by omega)
    rw [spec_DrawWritten.l0, e1, Option.bind_some]
    dsimp only
    rw [w64 (by omega) (by omega)]
    by_cases c : (m : Int) < 1 + (v : Int)
    · rw [if_pos c]
      obtain ⟨a, b, c, i2, j2, e2, hx, k0, k1⟩ := cmd_ev l hl i1 j1 g0 g1
      rw [e2, Option.bind_some]
      dsimp only
      rw [if_pos (by omega), wnat (by omega)]
      refine ih (m + 1) k _ i2 j2 (by omega) (by simp [ho]) ?_ k0 k1 (by omega)
      intro x hm
      rcases List.mem_append.1 hm with h | h
      · exact hd x h
      · rw [List.mem_singleton.1 h]; exact hx
    · rw [if_neg c]
      exact ⟨out, rfl, by omega, hd⟩
theorem written_ev (l : List Int) (hl : l.length ≤ 1048576) (k : Nat) (hk : 4001 < k) : ∃ r, spec_DrawWritten.f k l = some r ∧ r.length ≤ 9 ∧ ∀ x ∈ r, drawn x := by
  obtain ⟨h, e⟩ := new_ev l hl k hk
  unfold spec_DrawWritten.f
  rw [e]
  simp only [Option.bind_some]
  exact written_l l hl 9 0 k [] 0 h (by omega) rfl (by simp) (by omega) (by omega) (by omega)

theorem big_ev (l : List Int) (hl : l.length ≤ 1048576) (i h : Int) (h0 : 0 ≤ i) (h1 : i ≤ l.length) : ∃ (v i' h' : Int), spec_l01Below.f l i h 10000 = some (v, i', h') ∧ 0 ≤ v ∧ 0 ≤ i' ∧ i' ≤ l.length := by
  obtain ⟨v1, i1, j1, e1, q1, g0, g1⟩ := byte_ev l hl i h h0 h1
  obtain ⟨v2, i2, j2, e2, q2, g2, g3⟩ := byte_ev l hl i1 j1 g0 g1
  obtain ⟨v3, i3, j3, e3, q3, g4, g5⟩ := byte_ev l hl i2 j2 g2 g3
  obtain ⟨v4, i4, j4, e4, q4, g6, g7⟩ := byte_ev l hl i3 j3 g4 g5
  unfold spec_l01Below.f
  rw [if_neg (by omega), if_neg (by omega), e1, Option.bind_some]
  dsimp only
  rw [e2, Option.bind_some]
  dsimp only
  rw [e3, Option.bind_some]
  dsimp only
  rw [e4, Option.bind_some]
  dsimp only
  rw [if_neg (by omega), w64 (x := (v1 : Int) * 16777216) (by omega) (by omega), w64 (x := (v2 : Int) * 65536) (by omega) (by omega), w64 (x := (v3 : Int) * 256) (by omega) (by omega), w64 (x := (v1 : Int) * 16777216 + (v2 : Int) * 65536) (by omega) (by omega), w64 (x := (v1 : Int) * 16777216 + (v2 : Int) * 65536 + (v3 : Int) * 256) (by omega) (by omega), w64 (by omega) (by omega)]
  exact ⟨_, _, _, rfl, Int.tmod_nonneg _ (by omega), g6, g7⟩
theorem places_l (l : List Int) (hl : l.length ≤ 1048576) : ∀ (d m k : Nat) (out : List Int) (i h : Int), m + d = 12 → out.length = m → (∀ x ∈ out, 0 ≤ x) → 0 ≤ i → i ≤ l.length → d < k →
    ∃ r, spec_DrawPlaces.l0 k out (m : Int) l i h = some r ∧ 2 ≤ r.length ∧ ∀ x ∈ r, 0 ≤ x := by
  intro d
  induction d with
  | zero =>
    intro m k out i h hm ho hd h0 h1 hk
    obtain ⟨k, rfl⟩ := ksucc hk
    rw [spec_DrawPlaces.l0, if_neg (by omega)]
    exact ⟨out, rfl, by omega, hd⟩
  | succ d ih =>
    intro m k out i h hm ho hd h0 h1 hk
    obtain ⟨k, rfl⟩ := ksucc hk
    obtain ⟨v, i1, j1, e1, hv, g0, g1⟩ := big_ev l hl i h h0 h1
    rw [spec_DrawPlaces.l0, if_pos (by omega), e1, Option.bind_some]
    dsimp only
    rw [if_pos (by omega), wnat (by omega)]
    refine ih (m + 1) k _ i1 j1 (by omega) (by simp [ho]) ?_ g0 g1 (by omega)
    intro x hx
    rcases List.mem_append.1 hx with h | h
    · exact hd x h
    · rw [List.mem_singleton.1 h]; exact hv
theorem places_ev (l : List Int) (hl : l.length ≤ 1048576) (k : Nat) (hk : 4001 < k) : ∃ r, spec_DrawPlaces.f k l = some r ∧ 2 ≤ r.length ∧ ∀ x ∈ r, 0 ≤ x := by
  obtain ⟨h, e⟩ := new_ev l hl k hk
  obtain ⟨v, i, j, e1, _, g0, g1⟩ := byte_ev l hl 0 h (by omega) (by omega)
  unfold spec_DrawPlaces.f
  rw [e, Option.bind_some]
  dsimp only
  rw [e1, Option.bind_some]
  exact places_l l hl 12 0 k [] i j (by omega) rfl (by simp) g0 g1 (by omega)
theorem rd_nonneg (ps : List Int) (hp : ∀ x ∈ ps, 0 ≤ x) (i : Int) : 0 ≤ rd ps i := by
  unfold rd
  rw [List.getD_eq_getElem?_getD]
  cases h : ps[i.toNat]? with
  | none => simp
  | some v => exact hp v (List.mem_of_getElem? h)
theorem turned_ne (x : UInt8) (W : Int) (h1 : 1 ≤ W) (h2 : W ≤ 255) : UInt8.ofNat (Go.bits .xor .u8 ((x.toNat : Nat) : Int) W).toNat ≠ x := by
  intro e
  have e0 : Go.bits .xor .u8 ((x.toNat : Nat) : Int) W = IntKind.u8.wrap ((((BitVec.ofInt 8 ((x.toNat : Nat) : Int)) ^^^ (BitVec.ofInt 8 W)).toNat : Nat) : Int) := rfl
  rw [e0, IntKind.wrap_u8] at e
  have hx : (BitVec.ofInt 8 ((x.toNat : Nat) : Int)).toNat = x.toNat := by
    have := x.toNat_lt
    rw [BitVec.toNat_ofInt]
    omega
  have hW : (BitVec.ofInt 8 W).toNat = W.toNat := by
    rw [BitVec.toNat_ofInt]
    omega
  generalize BitVec.ofInt 8 ((x.toNat : Nat) : Int) = A at e hx
  generalize BitVec.ofInt 8 W = B at e hW
  have hlt := (A ^^^ B).isLt
  have e1 := congrArg UInt8.toNat e
  have e2 : (A ^^^ B).toNat = A.toNat := by
    generalize (A ^^^ B).toNat = n at e1 hlt
    have e7 : ((n : Int) % 256).toNat = n := by omega
    rw [e7] at e1
    have e8 : (UInt8.ofNat n).toNat = n := by simp; omega
    omega
  have e3 : A ^^^ B = A := BitVec.eq_of_toNat_eq e2
  have e4 : B = 0 := by
    have h5 : A ^^^ (A ^^^ B) = A ^^^ A := by rw [e3]
    rw [← BitVec.xor_assoc] at h5
    simpa using h5
  rw [e4] at hW
  simp at hW
  omega
/-- The frame of three numbers. -/
def fr (a b c : Nat) : List UInt8 := [UInt8.ofNat a, UInt8.ofNat b, UInt8.ofNat c, UInt8.ofNat ((a + 3 * b + 7 * c) % 251)]
theorem isByte_ev (x : Nat) : impl_isByte.f (x : Int) = some (decide (x ≤ 250)) := by
  unfold impl_isByte.f
  rw [if_pos (by omega)]
  congr 1
  simp only [decide_eq_decide]
  omega
theorem frame_ev (a b c : Nat) (ha : a ≤ 255) (hb : b ≤ 255) (hc : c ≤ 255) : impl_FrameOf.f (a : Int) (b : Int) (c : Int) = some (if a ≤ 250 ∧ b ≤ 250 ∧ c ≤ 250 then (ofL (fr a b c), true) else (ofL [], false)) := by
  unfold impl_FrameOf.f
  rw [isByte_ev, isByte_ev, isByte_ev]
  simp only [Option.bind_some, decide_eq_true_eq]
  by_cases h1 : a ≤ 250
  · rw [if_pos h1]
    by_cases h2 : b ≤ 250
    · rw [if_pos h2]
      by_cases h3 : c ≤ 250
      · rw [if_pos h3, if_pos ⟨h1, h2, h3⟩]
        rw [w64 (x := 3 * (b : Int)) (by omega) (by omega), w64 (x := (a : Int) + _) (by omega) (by omega), w64 (x := 7 * (c : Int)) (by omega) (by omega), w64 (by omega) (by omega), Int.tmod_eq_emod_of_nonneg (by omega)]
        congr 2
        apply ByteArray.ext
        have e1 : ((a : Int) % 256).toNat = a := by omega
        have e2 : ((b : Int) % 256).toNat = b := by omega
        have e3 : ((c : Int) % 256).toNat = c := by omega
        have e4 : (((a : Int) + 3 * (b : Int) + 7 * (c : Int)) % 251 % 256).toNat = (a + 3 * b + 7 * c) % 251 := by omega
        simp only [strOfNums, ofL, fr, List.map_cons, List.map_nil, e1, e2, e3, e4]
      · rw [if_neg h3, if_neg (fun t => h3 t.2.2)]; rfl
    · rw [if_neg h2, if_neg (fun t => h2 t.2.1)]; rfl
  · rw [if_neg h1, if_neg (fun t => h1 t.1)]; rfl
theorem toL (l : List UInt8) : (ofL l).toList = l := by rw [ByteArray.toList_eq, ofL_list]
theorem ofNat_self (x : UInt8) : UInt8.ofNat x.toNat = x := by simp
theorem cmdIn_ev (x y z u : UInt8) : impl_CmdIn.f (ofL [x, y, z, u]) = some (if (x.toNat ≤ 250 ∧ y.toNat ≤ 250 ∧ z.toNat ≤ 250) ∧ UInt8.ofNat ((x.toNat + 3 * y.toNat + 7 * z.toNat) % 251) = u then ((x.toNat : Int), (y.toNat : Int), (z.toNat : Int), true) else (0, 0, 0, false)) := by
  have hx := x.toNat_lt
  have hy := y.toNat_lt
  have hz := z.toNat_lt
  have b0 : bt (ofL [x, y, z, u]) 0 = ((x.toNat : Nat) : Int) := rfl
  have b1 : bt (ofL [x, y, z, u]) 1 = ((y.toNat : Nat) : Int) := rfl
  have b2 : bt (ofL [x, y, z, u]) 2 = ((z.toNat : Nat) : Int) := rfl
  have hs : (ofL [x, y, z, u]).size = 4 := rfl
  unfold impl_CmdIn.f
  rw [b0, b1, b2, hs, if_pos (by omega), if_pos (by omega), if_pos (by omega), if_pos (by omega), w64 (by omega) (by omega), w64 (by omega) (by omega), w64 (by omega) (by omega), frame_ev _ _ _ (by omega) (by omega) (by omega)]
  simp only [Option.bind_some]
  by_cases h : x.toNat ≤ 250 ∧ y.toNat ≤ 250 ∧ z.toNat ≤ 250
  · simp only [if_pos h, if_true, toL, fr, ofNat_self]
    by_cases h2 : UInt8.ofNat ((x.toNat + 3 * y.toNat + 7 * z.toNat) % 251) = u
    · rw [if_pos (by rw [h2]), if_pos ⟨h, h2⟩]
    · rw [if_neg (fun e => h2 (by simpa using e)), if_neg (fun t => h2 t.2)]
  · simp only [if_neg h, Bool.false_eq_true, if_false]
    rw [if_neg (fun t => h t.1)]
theorem own_frame (a b c : Nat) (ha : a < 9) (hb : b < 9) (hc : c < 9) : impl_CmdIn.f (ofL (fr a b c)) = some ((a : Int), (b : Int), (c : Int), true) := by
  have ea : (UInt8.ofNat a).toNat = a := by simp; omega
  have eb : (UInt8.ofNat b).toNat = b := by simp; omega
  have ec : (UInt8.ofNat c).toNat = c := by simp; omega
  unfold fr
  rw [cmdIn_ev, ea, eb, ec, if_pos ⟨⟨by omega, by omega, by omega⟩, rfl⟩]
theorem ofNat_eq {m : Nat} {u : UInt8} (hm : m < 256) (h : UInt8.ofNat m = u) : u.toNat = m := by
  rw [← h]; simp; omega
theorem bad_frame (a b c : Nat) (ha : a < 9) (hb : b < 9) (hc : c < 9) (j : Nat) (hj : j < 4) (v : UInt8) (hv : v ≠ (fr a b c).getD j 0) : ∃ q, impl_CmdIn.f (ofL ((fr a b c).set j v)) = some q ∧ q.2.2.2 = false := by
  have ea : (UInt8.ofNat a).toNat = a := by simp; omega
  have eb : (UInt8.ofNat b).toNat = b := by simp; omega
  have ec : (UInt8.ofNat c).toNat = c := by simp; omega
  have es : (UInt8.ofNat ((a + 3 * b + 7 * c) % 251)).toNat = (a + 3 * b + 7 * c) % 251 := by simp; omega
  have ne : ∀ {m : Nat}, m < 256 → v ≠ UInt8.ofNat m → v.toNat ≠ m := by
    intro m hm h e
    exact h (by rw [← e]; simp)
  have hj4 : j = 0 ∨ j = 1 ∨ j = 2 ∨ j = 3 := by omega
  unfold fr at hv ⊢
  rcases hj4 with rfl | rfl | rfl | rfl
  · have h := ne (show a < 256 by omega) (by simpa using hv)
    simp only [List.set_cons_zero, List.set_cons_succ]
    rw [cmdIn_ev, if_neg]
    · exact ⟨_, rfl, rfl⟩
    · rintro ⟨⟨h1, h2, h3⟩, h4⟩
      have := ofNat_eq (by omega) h4
      rw [es, eb, ec] at this
      omega
  · have h := ne (show b < 256 by omega) (by simpa using hv)
    simp only [List.set_cons_zero, List.set_cons_succ]
    rw [cmdIn_ev, if_neg]
    · exact ⟨_, rfl, rfl⟩
    · rintro ⟨⟨h1, h2, h3⟩, h4⟩
      have := ofNat_eq (by omega) h4
      rw [es, ea, ec] at this
      omega
  · have h := ne (show c < 256 by omega) (by simpa using hv)
    simp only [List.set_cons_zero, List.set_cons_succ]
    rw [cmdIn_ev, if_neg]
    · exact ⟨_, rfl, rfl⟩
    · rintro ⟨⟨h1, h2, h3⟩, h4⟩
      have := ofNat_eq (by omega) h4
      rw [es, ea, eb] at this
      omega
  · have h := ne (show (a + 3 * b + 7 * c) % 251 < 256 by omega) (by simpa using hv)
    simp only [List.set_cons_zero, List.set_cons_succ]
    rw [cmdIn_ev, if_neg]
    · exact ⟨_, rfl, rfl⟩
    · rintro ⟨⟨h1, h2, h3⟩, h4⟩
      have := ofNat_eq (by omega) h4
      rw [ea, eb, ec] at this
      omega
theorem law_l (cs : List S26) (hc : cs.length ≤ 9) (hd : ∀ x ∈ cs, drawn x) (ps : List Int) (h2 : 2 ≤ ps.length) (hp : ∀ x ∈ ps, 0 ≤ x) : ∀ (d m k : Nat), m + d = cs.length → d < k → laws_FnFrames.l0 k cs ps (m : Int) = some true := by
  have g0 := rd_nonneg ps hp 0
  have g1 := rd_nonneg ps hp 1
  intro d
  induction d with
  | zero =>
    intro m k hm hk
    obtain ⟨k, rfl⟩ := ksucc hk
    rw [laws_FnFrames.l0, if_neg (by omega)]
  | succ d ih =>
    intro m k hm hk
    obtain ⟨k, rfl⟩ := ksucc hk
    have hl : m < cs.length := by omega
    have er : rd_T26 cs (m : Int) = cs[m] := by simp [rd_T26, List.getD, hl]
    obtain ⟨a, b, c, ex, ha, hb, hc2, _⟩ := hd _ (List.getElem_mem hl)
    have m0 : 0 ≤ Int.tmod (rd ps 0) 4 := Int.tmod_nonneg _ g0
    have m4 : Int.tmod (rd ps 0) 4 < 4 := Int.tmod_lt_of_pos _ (by omega)
    have w0 : 0 ≤ Int.tmod (rd ps 1) 255 := Int.tmod_nonneg _ g1
    have w4 : Int.tmod (rd ps 1) 255 < 255 := Int.tmod_lt_of_pos _ (by omega)
    have ew : IntKind.u8.wrap (wrap64 (1 + (Int.tmod (rd ps 1) 255))) = 1 + Int.tmod (rd ps 1) 255 := by
      rw [w64 (by omega) (by omega), IntKind.wrap_u8]; omega
    obtain ⟨q, e1, e2⟩ := bad_frame a b c ha hb hc2 (Int.tmod (rd ps 0) 4).toNat (by omega) _ (turned_ne ((fr a b c).getD (Int.tmod (rd ps 0) 4).toNat 0) (1 + Int.tmod (rd ps 1) 255) (by omega) (by omega))
    have ef := frame_ev a b c (by omega) (by omega) (by omega)
    rw [if_pos ⟨by omega, by omega, by omega⟩] at ef
    rw [laws_FnFrames.l0, if_pos (by omega), if_pos (by omega), er, ex, ef, Option.bind_some]
    dsimp only
    rw [own_frame a b c ha hb hc2, Option.bind_some]
    dsimp only
    have hsz : ((ofL (fr a b c)).size : Int) = 4 := rfl
    rw [if_pos rfl, if_pos rfl, if_neg (by simp), if_pos hsz, if_pos (by omega), if_pos m0, ofL_list]
    unfold laws_FnFrames.turn
    rw [ew]
    have e1' : impl_CmdIn.f ⟨((fr a b c).set (Int.tmod (rd ps 0) 4).toNat (UInt8.ofNat (Go.bits .xor .u8 ((((fr a b c).getD (Int.tmod (rd ps 0) 4).toNat 0).toNat : Nat) : Int) (1 + Int.tmod (rd ps 1) 255)).toNat)).toArray⟩ = some q := e1
    rw [e1', Option.bind_some, if_neg (by rw [e2]; decide), wnat (by omega)]
    exact ih (m + 1) k (by omega) (by omega)
theorem FnFrames : OpFnFrames.Pure := by
  intro l _
  obtain ⟨K, hK⟩ : ∃ K, 5000 < K := ⟨5001, by omega⟩
  refine ⟨K, ?_⟩
  unfold laws_FnFrames.f laws_big.f
  simp only [Option.bind_some]
  by_cases h : (l.length : Int) > 1048576
  · rw [if_pos (by simpa using h)]
  · rw [if_neg (by simpa using h)]
    obtain ⟨cs, e, h9, hd⟩ := written_ev l (by omega) K (by omega)
    obtain ⟨ps, e2, h2, hp⟩ := places_ev l (by omega) K (by omega)
    rw [e, Option.bind_some, e2, Option.bind_some]
    exact law_l cs h9 hd ps h2 hp cs.length 0 K (by omega) (by omega)

end Go.Proofs.Ytpkffapjplebgaa.Pure
