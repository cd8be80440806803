/- What nets may be: the program's check, in plain words. -/
import Derived.Test.YtcafmkekkcbamaaGreatCodeC
import Derived.Test.YtcafmkekkcbamaaGreatMachB
namespace Go.Proofs.YtcafmkekkcbamaaGreat
open Go.RowKit
namespace Vm
attribute [local irreducible] VCallF VYield VLoop VRet inK
set_option maxRecDepth 100000

/-- The cells of arcs. -/
def arcG (f t c : Nat → Int) (i : Nat) : Value := if i % 3 = 0 then .int .i64 (f (i / 3)) else if i % 3 = 1 then .int .i64 (t (i / 3)) else .int .i64 (c (i / 3))
theorem arcG_ints (f t c : Nat → Int) : ints (arcG f t c) := by
  intro i
  unfold arcG
  split
  · exact .inl ⟨_, _, rfl⟩
  · split <;> exact .inl ⟨_, _, rfl⟩
theorem arcG_0 (f t c : Nat → Int) (i : Nat) : arcG f t c (0 + i * 3) = .int .i64 (f i) := by
  have h1 : (0 + i * 3) % 3 = 0 := by omega
  have h2 : (0 + i * 3) / 3 = i := by omega
  unfold arcG; rw [if_pos h1, h2]
theorem arcG_1 (f t c : Nat → Int) (i : Nat) : arcG f t c (0 + i * 3 + 1) = .int .i64 (t i) := by
  have h1 : ¬ (0 + i * 3 + 1) % 3 = 0 := by omega
  have h2 : (0 + i * 3 + 1) / 3 = i := by omega
  have h3 : (0 + i * 3 + 1) % 3 = 1 := by omega
  unfold arcG; rw [if_neg h1, if_pos h3, h2]
theorem arcG_2 (f t c : Nat → Int) (i : Nat) : arcG f t c (0 + i * 3 + 1 + 1) = .int .i64 (c i) := by
  have h1 : ¬ (0 + i * 3 + 1 + 1) % 3 = 0 := by omega
  have h2 : (0 + i * 3 + 1 + 1) / 3 = i := by omega
  have h3 : ¬ (0 + i * 3 + 1 + 1) % 3 = 1 := by omega
  unfold arcG; rw [if_neg h1, if_neg h3, h2]
theorem arcG_r (f t c : Nat → Int) (i : Nat) : rangeG (arcG f t c) (0 + i * 3) 3 = [.int .i64 (f i), .int .i64 (t i), .int .i64 (c i)] := by
  simp only [rangeG, arcG_0, arcG_1, arcG_2]

theorem arcG_ri (f t c : Nat → Int) (i : Nat) : rangeG (arcG f t c) (0 + (i : Int).toNat * 3) 3 = [.int .i64 (f i), .int .i64 (t i), .int .i64 (c i)] := arcG_r f t c i

theorem arcG_rz (f t c : Nat → Int) {i : Nat} {z : Int} (hz : (i : Int) = z) : rangeG (arcG f t c) (0 + z.toNat * 3) 3 = [.int .i64 (f i), .int .i64 (t i), .int .i64 (c i)] := by
  subst hz; exact arcG_r f t c i

theorem arcG_z0 (f t c : Nat → Int) {i : Nat} {z : Int} (hz : (i : Int) = z) : arcG f t c (0 + z.toNat * 3) = .int .i64 (f i) := by
  subst hz; exact arcG_0 f t c i
theorem arcG_z1 (f t c : Nat → Int) {i : Nat} {z : Int} (hz : (i : Int) = z) : arcG f t c (0 + z.toNat * 3 + 1) = .int .i64 (t i) := by
  subst hz; exact arcG_1 f t c i
theorem arcG_z2 (f t c : Nat → Int) {i : Nat} {z : Int} (hz : (i : Int) = z) : arcG f t c (0 + z.toNat * 3 + 1 + 1) = .int .i64 (c i) := by
  subst hz; exact arcG_2 f t c i

/-- A net, whose arcs lie in object 0, or nowhere. -/
def netV (N S T : Int) (ad : Option Addr) (l c : Nat) : Value := .agg ⟨[.int .i64 N, .int .i64 S, .int .i64 T, .slice ad l c]⟩
def At0 (ad : Option Addr) (l : Nat) : Prop := (ad = none ∧ l = 0) ∨ ad = some ⟨0, 0, none⟩
def arcV (l : Nat) (f t c : Nat → Int) : VObj := .view (l * 3) (arcG f t c)
theorem arcV_ok (l : Nat) (f t c : Nat → Int) (m : Nat) : okO m (arcV l f t c) := (arcG_ints f t c).okO
theorem arcV_ole (l : Nat) (f t c : Nat → Int) (σ : Sig) : OLe σ (some (arcV l f t c)) (arcV l f t c) := (arcG_ints f t c).ole (.inl ⟨_, rfl, Nat.le_refl _⟩)
section
variable {N S T : Int} {ad : Option Addr} {l k : Nat} (f t c : Nat → Int)

theorem vertex_c (hs : At0 ad l) (x : Int) : VCalls Tryz.prog 256 [netV N S T ad l k, .int .i64 x] [arcV l f t c] (fun v M' => v = .bool (decide (0 ≤ x) && decide (x < N)) ∧ M' = [arcV l f t c]) := by
  rcases hs with ⟨rfl, rfl⟩ | rfl
  all_goals
    refine VCalls.ok2 f256_ok mixed rfl ?_
    conv => whnf
    refine Br.both (fun h => ?_) (fun h => ?_)
    · rw [h]
      (try conv => whnf); repeat ((first | (with_reducible first | refine Br.tt ?_ | refine Br.ff ?_ | refine Br.nt ?_ | refine Br.nf ?_) | ((with_reducible refine Br.yk ?_ ?_); omega) | ((with_reducible refine Br.yd ?_ ?_); omega) | ((with_reducible refine Br.nd ?_ ?_); omega) | ((with_reducible refine Br.nyd ?_ ?_); omega) | ((with_reducible refine Br.nnd ?_ ?_); omega) | ((with_reducible refine Br.yd ?_ ?_); decide) | ((with_reducible refine Br.nyd ?_ ?_); decide)); conv => whnf)
      refine VRet.dr [_] _ rfl rfl ⟨arcV_ok _ _ _ _ _, trivial⟩ rfl ⟨?_, rfl⟩
      simp only [h, Bool.true_and]; rfl
    · rw [h]
      (try conv => whnf); repeat ((first | (with_reducible first | refine Br.tt ?_ | refine Br.ff ?_ | refine Br.nt ?_ | refine Br.nf ?_) | ((with_reducible refine Br.yk ?_ ?_); omega) | ((with_reducible refine Br.yd ?_ ?_); omega) | ((with_reducible refine Br.nd ?_ ?_); omega) | ((with_reducible refine Br.nyd ?_ ?_); omega) | ((with_reducible refine Br.nnd ?_ ?_); omega) | ((with_reducible refine Br.yd ?_ ?_); decide) | ((with_reducible refine Br.nyd ?_ ?_); decide)); conv => whnf)
      refine VRet.dr [_] _ rfl rfl ⟨arcV_ok _ _ _ _ _, trivial⟩ rfl ⟨?_, rfl⟩
      simp only [h, Bool.false_and]; rfl

/-- Closed function values. -/
def fnV (g : FuncId) : Value := .func (.func g) #[] #[]
theorem rule1_c (hs : At0 ad l) : VCalls Tryz.prog 253 [netV N S T ad l k] [arcV l f t c] (fun v M' => v = .bool (decide (2 ≤ N) && decide (N ≤ 4096)) ∧ M' = [arcV l f t c]) := by
  rcases hs with ⟨rfl, rfl⟩ | rfl
  all_goals
    refine VCalls.ok2 f253_ok mixed rfl ?_
    conv => whnf
    refine Br.both (fun h => ?_) (fun h => ?_)
    · rw [h]
      (try conv => whnf); repeat ((first | (with_reducible first | refine Br.tt ?_ | refine Br.ff ?_ | refine Br.nt ?_ | refine Br.nf ?_) | ((with_reducible refine Br.yk ?_ ?_); omega) | ((with_reducible refine Br.yd ?_ ?_); omega) | ((with_reducible refine Br.nd ?_ ?_); omega) | ((with_reducible refine Br.nyd ?_ ?_); omega) | ((with_reducible refine Br.nnd ?_ ?_); omega) | ((with_reducible refine Br.yd ?_ ?_); decide) | ((with_reducible refine Br.nyd ?_ ?_); decide)); conv => whnf)
      refine VRet.dr [_] _ rfl rfl ⟨arcV_ok _ _ _ _ _, trivial⟩ rfl ⟨?_, rfl⟩
      simp only [h, Bool.true_and]; rfl
    · rw [h]
      (try conv => whnf); repeat ((first | (with_reducible first | refine Br.tt ?_ | refine Br.ff ?_ | refine Br.nt ?_ | refine Br.nf ?_) | ((with_reducible refine Br.yk ?_ ?_); omega) | ((with_reducible refine Br.yd ?_ ?_); omega) | ((with_reducible refine Br.nd ?_ ?_); omega) | ((with_reducible refine Br.nyd ?_ ?_); omega) | ((with_reducible refine Br.nnd ?_ ?_); omega) | ((with_reducible refine Br.yd ?_ ?_); decide) | ((with_reducible refine Br.nyd ?_ ?_); decide)); conv => whnf)
      refine VRet.dr [_] _ rfl rfl ⟨arcV_ok _ _ _ _ _, trivial⟩ rfl ⟨?_, rfl⟩
      simp only [h, Bool.false_and]; rfl
theorem rule2_c (hs : At0 ad l) : VCalls Tryz.prog 254 [netV N S T ad l k] [arcV l f t c] (fun v M' => v = .bool (decide ((l : Int) ≤ 16384)) ∧ M' = [arcV l f t c]) := by
  rcases hs with ⟨rfl, rfl⟩ | rfl
  all_goals
    refine VCalls.ok2 f254_ok mixed rfl ?_
    conv => whnf
    exact VRet.dr [_] _ rfl rfl ⟨arcV_ok _ _ _ _ _, trivial⟩ rfl ⟨rfl, rfl⟩
theorem rule3_c (hs : At0 ad l) : VCalls Tryz.prog 255 [netV N S T ad l k] [arcV l f t c]
    (fun v M' => v = .bool ((decide (0 ≤ S) && decide (S < N)) && ((decide (0 ≤ T) && decide (T < N)) && !decide (S = T))) ∧ M' = [arcV l f t c]) := by
  have hs0 := hs
  rcases hs with ⟨rfl, rfl⟩ | rfl
  all_goals
    refine VCalls.ok2 f255_ok mixed rfl ?_
    conv => whnf
    refine VCallF.rd [0] (vertex_c f t c hs0 S) (by decide) (hlt_of rfl) ?_ rfl rfl rfl rfl ?_
    · exact ⟨arcV_ole _ _ _ _ _, trivial⟩
    cases h1 : (decide (0 ≤ S) && decide (S < N))
    · conv => whnf
      (try conv => whnf); repeat ((first | (with_reducible first | refine Br.tt ?_ | refine Br.ff ?_ | refine Br.nt ?_ | refine Br.nf ?_) | ((with_reducible refine Br.yk ?_ ?_); omega) | ((with_reducible refine Br.yd ?_ ?_); omega) | ((with_reducible refine Br.nd ?_ ?_); omega) | ((with_reducible refine Br.nyd ?_ ?_); omega) | ((with_reducible refine Br.nnd ?_ ?_); omega) | ((with_reducible refine Br.yd ?_ ?_); decide) | ((with_reducible refine Br.nyd ?_ ?_); decide)); conv => whnf)
      exact VRet.dr [_] _ rfl rfl ⟨arcV_ok _ _ _ _ _, trivial⟩ rfl ⟨rfl, rfl⟩
    · conv => whnf
      (try conv => whnf); repeat ((first | (with_reducible first | refine Br.tt ?_ | refine Br.ff ?_ | refine Br.nt ?_ | refine Br.nf ?_) | ((with_reducible refine Br.yk ?_ ?_); omega) | ((with_reducible refine Br.yd ?_ ?_); omega) | ((with_reducible refine Br.nd ?_ ?_); omega) | ((with_reducible refine Br.nyd ?_ ?_); omega) | ((with_reducible refine Br.nnd ?_ ?_); omega) | ((with_reducible refine Br.yd ?_ ?_); decide) | ((with_reducible refine Br.nyd ?_ ?_); decide)); conv => whnf)
      refine VCallF.rd [0] (vertex_c f t c hs0 T) (by decide) (hlt_of rfl) ?_ rfl rfl rfl rfl ?_
      · exact ⟨arcV_ole _ _ _ _ _, trivial⟩
      cases h2 : (decide (0 ≤ T) && decide (T < N))
      · conv => whnf
        (try conv => whnf); repeat ((first | (with_reducible first | refine Br.tt ?_ | refine Br.ff ?_ | refine Br.nt ?_ | refine Br.nf ?_) | ((with_reducible refine Br.yk ?_ ?_); omega) | ((with_reducible refine Br.yd ?_ ?_); omega) | ((with_reducible refine Br.nd ?_ ?_); omega) | ((with_reducible refine Br.nyd ?_ ?_); omega) | ((with_reducible refine Br.nnd ?_ ?_); omega) | ((with_reducible refine Br.yd ?_ ?_); decide) | ((with_reducible refine Br.nyd ?_ ?_); decide)); conv => whnf)
        exact VRet.dr [_] _ rfl rfl ⟨arcV_ok _ _ _ _ _, trivial⟩ rfl ⟨rfl, rfl⟩
      · conv => whnf
        (try conv => whnf); repeat ((first | (with_reducible first | refine Br.tt ?_ | refine Br.ff ?_ | refine Br.nt ?_ | refine Br.nf ?_) | ((with_reducible refine Br.yk ?_ ?_); omega) | ((with_reducible refine Br.yd ?_ ?_); omega) | ((with_reducible refine Br.nd ?_ ?_); omega) | ((with_reducible refine Br.nyd ?_ ?_); omega) | ((with_reducible refine Br.nnd ?_ ?_); omega) | ((with_reducible refine Br.yd ?_ ?_); decide) | ((with_reducible refine Br.nyd ?_ ?_); decide)); conv => whnf)
        exact VRet.dr [_] _ rfl rfl ⟨arcV_ok _ _ _ _ _, trivial⟩ rfl ⟨rfl, rfl⟩
end
end Vm
end Go.Proofs.YtcafmkekkcbamaaGreat
namespace Go.Proofs.YtcafmkekkcbamaaGreat
open Go.RowKit
namespace Vm
attribute [local irreducible] VCallF VYield VLoop VRet inK
set_option maxRecDepth 100000

/-- Capacities, added up. -/
def sumL (c : Nat → Int) : Nat → Int
  | 0 => 0
  | n + 1 => sumL c n + c n
def capOk (c : Nat → Int) (j : Nat) : Bool := decide (0 ≤ c j) && decide (c j ≤ 4611686018427387904 - sumL c j)
def capsOk (c : Nat → Int) : Nat → Bool
  | 0 => true
  | n + 1 => capsOk c n && capOk c n
theorem capsOk_lt {c : Nat → Int} : ∀ {n : Nat}, capsOk c n = true → ∀ j, j < n → capOk c j = true
  | 0, _, j, h => by omega
  | n + 1, h, j, hj => by
    simp only [capsOk, Bool.and_eq_true] at h
    rcases Nat.lt_or_ge j n with h' | h'
    · exact capsOk_lt h.1 j h'
    · have : j = n := by omega
      subst this; exact h.2
theorem capsOk_sum {c : Nat → Int} : ∀ {n : Nat}, capsOk c n = true → 0 ≤ sumL c n ∧ sumL c n ≤ 4611686018427387904
  | 0, _ => by simp [sumL]
  | n + 1, h => by
    simp only [capsOk, Bool.and_eq_true] at h
    have ih := capsOk_sum h.1
    have h2 := h.2
    simp only [capOk, Bool.and_eq_true, decide_eq_true_eq] at h2
    simp only [sumL]; omega
theorem capsOk_false {c : Nat → Int} {n i : Nat} (hi : i < n) (h : capOk c i = false) : capsOk c n = false := by
  cases hb : capsOk c n with
  | false => rfl
  | true => rw [capsOk_lt hb i hi] at h; cases h

section
variable {N S T : Int} {ad : Option Addr} {l k : Nat} (f t c : Nat → Int)

theorem sum_some (hl : l < 2 ^ 60) : VCalls Tryz.prog 261 [netV N S T (some ⟨0, 0, none⟩) l k] [arcV l f t c]
    (fun v M' => v = (if capsOk c l then .tuple ⟨[.int .i64 (sumL c l), .bool true]⟩ else .tuple ⟨[.int .i64 0, .bool false]⟩) ∧ M' = [arcV l f t c]) := by
  refine VCalls.ok2 f261_ok mixed rfl ?_
  conv => whnf
  refine VLoop.intro (fun m E M => ∃ (i : Nat) (z y : Int), (i : Int) = z ∧ y = 4611686018427387904 - sumL c i ∧ i ≤ l ∧ m = l - i ∧ capsOk c i = true ∧
    E = [(10, .int .i64 z), (9, .int .i64 l), (8, .slice (some ⟨0, 0, none⟩) l k), (4, .int .i64 y)] ∧ M = [arcV l f t c]) l _ _ ⟨0, 0, 4611686018427387904, rfl, by simp [sumL], Nat.zero_le _, rfl, rfl, rfl, rfl⟩ (WeakE.of [0] (by decide) rfl ⟨arcV_ole _ _ _ _ _, trivial⟩ (by repeat (first | exact trivial | refine ⟨rfl, rfl, ?_⟩))) ?_
  rintro m E M ⟨i, z, y, hz, hy, hi, rfl, hc, rfl, rfl⟩
  have hsum := capsOk_sum hc
  conv => whnf
  refine Br.bd (fun h hb => ?_) (fun h hb => ?_)
  · conv => whnf
    (try conv => whnf); repeat ((first | (with_reducible first | refine Br.tt ?_ | refine Br.ff ?_ | refine Br.nt ?_ | refine Br.nf ?_) | ((with_reducible refine Br.yk ?_ ?_); omega) | ((with_reducible refine Br.yd ?_ ?_); omega) | ((with_reducible refine Br.nd ?_ ?_); omega) | ((with_reducible refine Br.nyd ?_ ?_); omega) | ((with_reducible refine Br.nnd ?_ ?_); omega) | ((with_reducible refine Br.yd ?_ ?_); decide) | ((with_reducible refine Br.nyd ?_ ?_); decide)); conv => whnf)
    rw [arcG_z0 f t c hz, arcG_z1 f t c hz, arcG_z2 f t c hz]
    conv => whnf
    refine Br.bd (fun h1' h1 => ?_) (fun h1' h1 => ?_)
    · rw [h1]
      (try conv => whnf); repeat ((first | (with_reducible first | refine Br.tt ?_ | refine Br.ff ?_ | refine Br.nt ?_ | refine Br.nf ?_) | ((with_reducible refine Br.yk ?_ ?_); omega) | ((with_reducible refine Br.yd ?_ ?_); omega) | ((with_reducible refine Br.nd ?_ ?_); omega) | ((with_reducible refine Br.nyd ?_ ?_); omega) | ((with_reducible refine Br.nnd ?_ ?_); omega) | ((with_reducible refine Br.yd ?_ ?_); decide) | ((with_reducible refine Br.nyd ?_ ?_); decide)); conv => whnf)
      refine VRet.dr [_] _ rfl rfl ⟨arcV_ok _ _ _ _ _, trivial⟩ rfl ⟨?_, rfl⟩
      rw [if_neg]
      · rfl
      · rw [capsOk_false (i := i) (by omega) (by simp only [capOk, Bool.and_eq_false_iff, decide_eq_false_iff_not]; omega)]
        decide
    · rw [h1]
      (try conv => whnf); repeat ((first | (with_reducible first | refine Br.tt ?_ | refine Br.ff ?_ | refine Br.nt ?_ | refine Br.nf ?_) | ((with_reducible refine Br.yk ?_ ?_); omega) | ((with_reducible refine Br.yd ?_ ?_); omega) | ((with_reducible refine Br.nd ?_ ?_); omega) | ((with_reducible refine Br.nyd ?_ ?_); omega) | ((with_reducible refine Br.nnd ?_ ?_); omega) | ((with_reducible refine Br.yd ?_ ?_); decide) | ((with_reducible refine Br.nyd ?_ ?_); decide)); conv => whnf)
      refine Br.bd (fun h2' h2 => ?_) (fun h2' h2 => ?_)
      · conv => whnf
        refine VRet.dr [_] _ rfl rfl ⟨arcV_ok _ _ _ _ _, trivial⟩ rfl ⟨?_, rfl⟩
        rw [if_neg]
        · rfl
        · rw [capsOk_false (i := i) (by omega) (by simp only [capOk, Bool.and_eq_false_iff, decide_eq_false_iff_not]; omega)]
          decide
      · conv => whnf
        (try conv => whnf); repeat ((first | (with_reducible first | refine Br.tt ?_ | refine Br.ff ?_ | refine Br.nt ?_ | refine Br.nf ?_) | ((with_reducible refine Br.yk ?_ ?_); omega) | ((with_reducible refine Br.yd ?_ ?_); omega) | ((with_reducible refine Br.nd ?_ ?_); omega) | ((with_reducible refine Br.nyd ?_ ?_); omega) | ((with_reducible refine Br.nnd ?_ ?_); omega) | ((with_reducible refine Br.yd ?_ ?_); decide) | ((with_reducible refine Br.nyd ?_ ?_); decide)); conv => whnf)
        refine ⟨l - (i + 1), _, _, ?_, ⟨i + 1, z + 1, y - c i, ?_, ?_, ?_, rfl, ?_, rfl, rfl⟩, WeakE.of [0] (by decide) rfl ⟨arcV_ole _ _ _ _ _, trivial⟩ (by repeat (first | exact trivial | refine ⟨rfl, rfl, ?_⟩))⟩
        · omega
        · omega
        · simp only [sumL]; omega
        · omega
        · simp only [capsOk, hc, capOk, Bool.true_and, Bool.and_eq_true, decide_eq_true_eq]; omega
  · have hil : i = l := by omega
    subst hil
    conv => whnf
    (try conv => whnf); repeat ((first | (with_reducible first | refine Br.tt ?_ | refine Br.ff ?_ | refine Br.nt ?_ | refine Br.nf ?_) | ((with_reducible refine Br.yk ?_ ?_); omega) | ((with_reducible refine Br.yd ?_ ?_); omega) | ((with_reducible refine Br.nd ?_ ?_); omega) | ((with_reducible refine Br.nyd ?_ ?_); omega) | ((with_reducible refine Br.nnd ?_ ?_); omega) | ((with_reducible refine Br.yd ?_ ?_); decide) | ((with_reducible refine Br.nyd ?_ ?_); decide)); conv => whnf)
    refine VRet.dr [_] _ rfl rfl ⟨arcV_ok _ _ _ _ _, trivial⟩ rfl ⟨?_, rfl⟩
    rw [if_pos hc]
    show Value.tuple ⟨[.int .i64 (4611686018427387904 - y), .bool true]⟩ = _
    congr 4; omega
theorem sum_none : VCalls Tryz.prog 261 [netV N S T none 0 k] [arcV 0 f t c]
    (fun v M' => v = .tuple ⟨[.int .i64 0, .bool true]⟩ ∧ M' = [arcV 0 f t c]) := by
  refine VCalls.ok2 f261_ok mixed rfl ?_
  conv => whnf
  refine VLoop.intro (fun m E M => E = [(10, .int .i64 0), (9, .int .i64 0), (8, .slice none 0 k), (4, .int .i64 4611686018427387904)] ∧ M = [arcV 0 f t c]) 0 _ _ ⟨rfl, rfl⟩ (WeakE.of [0] (by decide) rfl ⟨arcV_ole _ _ _ _ _, trivial⟩ (by repeat (first | exact trivial | refine ⟨rfl, rfl, ?_⟩))) ?_
  rintro m E M ⟨rfl, rfl⟩
  conv => whnf
  (try conv => whnf); repeat ((first | (with_reducible first | refine Br.tt ?_ | refine Br.ff ?_ | refine Br.nt ?_ | refine Br.nf ?_) | ((with_reducible refine Br.yk ?_ ?_); omega) | ((with_reducible refine Br.yd ?_ ?_); omega) | ((with_reducible refine Br.nd ?_ ?_); omega) | ((with_reducible refine Br.nyd ?_ ?_); omega) | ((with_reducible refine Br.nnd ?_ ?_); omega) | ((with_reducible refine Br.yd ?_ ?_); decide) | ((with_reducible refine Br.nyd ?_ ?_); decide)); conv => whnf)
  exact VRet.dr [_] _ rfl rfl ⟨arcV_ok _ _ _ _ _, trivial⟩ rfl ⟨rfl, rfl⟩
theorem sum_c (hs : At0 ad l) (hl : l < 2 ^ 60) : VCalls Tryz.prog 261 [netV N S T ad l k] [arcV l f t c]
    (fun v M' => v = (if capsOk c l then .tuple ⟨[.int .i64 (sumL c l), .bool true]⟩ else .tuple ⟨[.int .i64 0, .bool false]⟩) ∧ M' = [arcV l f t c]) := by
  rcases hs with ⟨rfl, rfl⟩ | rfl
  · exact sum_none f t c
  · exact sum_some f t c hl
end
end Vm
end Go.Proofs.YtcafmkekkcbamaaGreat
namespace Go.Proofs.YtcafmkekkcbamaaGreat
open Go.RowKit
namespace Vm
attribute [local irreducible] VCallF VYield VLoop VRet inK
set_option maxRecDepth 100000

/-- The first number below n that is one, or -1. -/
def idxF (q : Nat → Bool) : Nat → Int
  | 0 => -1
  | n + 1 => if 0 ≤ idxF q n then idxF q n else if q n then n else -1
theorem idxF_stop {q : Nat → Bool} {i : Nat} (h : idxF q i = -1) (hq : q i = true) : ∀ {n : Nat}, i < n → idxF q n = i
  | 0, hn => by omega
  | n + 1, hn => by
    simp only [idxF]
    rcases Nat.lt_or_ge i n with h' | h'
    · rw [idxF_stop h hq h', if_pos (by omega)]
    · have : i = n := by omega
      subst this
      rw [h, if_neg (by omega), hq]; rfl
theorem idxF_go {q : Nat → Bool} {i : Nat} (h : idxF q i = -1) (hq : q i = false) : idxF q (i + 1) = -1 := by
  simp only [idxF, h, hq]; rfl
def allF (p : Nat → Bool) : Nat → Bool
  | 0 => true
  | n + 1 => allF p n && p n
theorem idxF_all (p : Nat → Bool) : ∀ n, decide (0 ≤ idxF (fun i => !p i) n) = !allF p n
  | 0 => rfl
  | n + 1 => by
    have ih := idxF_all p n
    simp only [idxF, allF]
    cases h : allF p n with
    | true =>
      rw [h] at ih
      have h0 := of_decide_eq_false ih
      rw [if_neg h0]
      by_cases hp : p n = true
      · simp [hp]
      · have hp : p n = false := by simpa using hp
        simp [hp]
    | false =>
      rw [h] at ih
      have h0 := of_decide_eq_true ih
      rw [if_pos h0]; simpa using h0

def arcA (a b d : Int) : Value := .agg ⟨[.int .i64 a, .int .i64 b, .int .i64 d]⟩
def netG (N S T : Int) (ad : Option Addr) (l k : Nat) : Nat → Value
  | 0 => .int .i64 N
  | 1 => .int .i64 S
  | 2 => .int .i64 T
  | _ => .slice ad l k
def oneG (v : Value) : Nat → Value := fun _ => v
section
variable {N S T : Int} {ad : Option Addr} {l k : Nat} (f t c : Nat → Int)

theorem rule4_c (hs : At0 ad l) (a b d : Int) : VCalls Tryz.prog 258 [netV N S T ad l k, arcA a b d] [arcV l f t c]
    (fun v M' => v = .bool ((decide (0 ≤ a) && decide (a < N)) && (decide (0 ≤ b) && decide (b < N))) ∧ M' = [arcV l f t c]) := by
  have hs0 := hs
  rcases hs with ⟨rfl, rfl⟩ | rfl
  all_goals
    refine VCalls.ok2 f258_ok mixed rfl ?_
    conv => whnf
    refine VCallF.rd [0] (vertex_c f t c hs0 a) (by decide) (hlt_of rfl) ?_ rfl rfl rfl rfl ?_
    · exact ⟨arcV_ole _ _ _ _ _, trivial⟩
    cases h1 : (decide (0 ≤ a) && decide (a < N))
    · conv => whnf
      (try conv => whnf); repeat ((first | (with_reducible first | refine Br.tt ?_ | refine Br.ff ?_ | refine Br.nt ?_ | refine Br.nf ?_) | ((with_reducible refine Br.yk ?_ ?_); omega) | ((with_reducible refine Br.yd ?_ ?_); omega) | ((with_reducible refine Br.nd ?_ ?_); omega) | ((with_reducible refine Br.nyd ?_ ?_); omega) | ((with_reducible refine Br.nnd ?_ ?_); omega) | ((with_reducible refine Br.yd ?_ ?_); decide) | ((with_reducible refine Br.nyd ?_ ?_); decide)); conv => whnf)
      exact VRet.dr [_] _ rfl rfl ⟨arcV_ok _ _ _ _ _, trivial⟩ rfl ⟨rfl, rfl⟩
    · conv => whnf
      (try conv => whnf); repeat ((first | (with_reducible first | refine Br.tt ?_ | refine Br.ff ?_ | refine Br.nt ?_ | refine Br.nf ?_) | ((with_reducible refine Br.yk ?_ ?_); omega) | ((with_reducible refine Br.yd ?_ ?_); omega) | ((with_reducible refine Br.nd ?_ ?_); omega) | ((with_reducible refine Br.nyd ?_ ?_); omega) | ((with_reducible refine Br.nnd ?_ ?_); omega) | ((with_reducible refine Br.yd ?_ ?_); decide) | ((with_reducible refine Br.nyd ?_ ?_); decide)); conv => whnf)
      refine VCallF.rd [0] (vertex_c f t c hs0 b) (by decide) (hlt_of rfl) ?_ rfl rfl rfl rfl ?_
      · exact ⟨arcV_ole _ _ _ _ _, trivial⟩
      conv => whnf
      (try conv => whnf); repeat ((first | (with_reducible first | refine Br.tt ?_ | refine Br.ff ?_ | refine Br.nt ?_ | refine Br.nf ?_) | ((with_reducible refine Br.yk ?_ ?_); omega) | ((with_reducible refine Br.yd ?_ ?_); omega) | ((with_reducible refine Br.nd ?_ ?_); omega) | ((with_reducible refine Br.nyd ?_ ?_); omega) | ((with_reducible refine Br.nnd ?_ ?_); omega) | ((with_reducible refine Br.yd ?_ ?_); decide) | ((with_reducible refine Br.nyd ?_ ?_); decide)); conv => whnf)
      exact VRet.dr [_] _ rfl rfl ⟨arcV_ok _ _ _ _ _, trivial⟩ rfl ⟨rfl, rfl⟩
theorem rule5_c (hs : At0 ad l) (a b d : Int) : VCalls Tryz.prog 259 [netV N S T ad l k, arcA a b d] [arcV l f t c]
    (fun v M' => v = .bool (decide (0 ≤ d)) ∧ M' = [arcV l f t c]) := by
  rcases hs with ⟨rfl, rfl⟩ | rfl
  all_goals
    refine VCalls.ok2 f259_ok mixed rfl ?_
    conv => whnf
    exact VRet.dr [_] _ rfl rfl ⟨arcV_ok _ _ _ _ _, trivial⟩ rfl ⟨rfl, rfl⟩
theorem rule6_c (hs : At0 ad l) (hl : l < 2 ^ 60) : VCalls Tryz.prog 260 [netV N S T ad l k] [arcV l f t c]
    (fun v M' => v = .bool (capsOk c l) ∧ M' = [arcV l f t c]) := by
  have hsum := sum_c (N := N) (S := S) (T := T) (k := k) f t c hs hl
  cases hc : capsOk c l
  · rw [hc, if_neg (by decide)] at hsum
    rcases hs with ⟨rfl, rfl⟩ | rfl
    all_goals
      refine VCalls.ok2 f260_ok mixed rfl ?_
      conv => whnf
      refine VCallF.rd [0] hsum (by decide) (hlt_of rfl) ?_ rfl rfl rfl rfl ?_
      · exact ⟨arcV_ole _ _ _ _ _, trivial⟩
      conv => whnf
      exact VRet.dr [_] _ rfl rfl ⟨arcV_ok _ _ _ _ _, trivial⟩ rfl ⟨rfl, rfl⟩
  · rw [hc, if_pos rfl] at hsum
    rcases hs with ⟨rfl, rfl⟩ | rfl
    all_goals
      refine VCalls.ok2 f260_ok mixed rfl ?_
      conv => whnf
      refine VCallF.rd [0] hsum (by decide) (hlt_of rfl) ?_ rfl rfl rfl rfl ?_
      · exact ⟨arcV_ole _ _ _ _ _, trivial⟩
      conv => whnf
      exact VRet.dr [_] _ rfl rfl ⟨arcV_ok _ _ _ _ _, trivial⟩ rfl ⟨rfl, rfl⟩

/-- What is asked of each arc, handed on. -/
theorem of11_c (hs : At0 ad l) (g : FuncId) (a b d : Int) (p : Bool)
    (hg : VCalls Tryz.prog g [netV N S T ad l k, arcA a b d] [arcV l f t c] (fun v M' => v = .bool p ∧ M' = [arcV l f t c])) :
    VCalls Tryz.prog 307 [arcA a b d, .pointer (some ⟨1, 0, none⟩), .pointer (some ⟨2, 0, none⟩)] [arcV l f t c, .view 1 (oneG (fnV g)), .view 4 (netG N S T ad l k)]
      (fun v M' => v = .bool (!p) ∧ M' = [arcV l f t c, .view 1 (oneG (fnV g)), .view 4 (netG N S T ad l k)]) := by
  rcases hs with ⟨rfl, rfl⟩ | rfl
  all_goals
    refine VCalls.ok2 f307_ok mixed rfl ?_
    conv => whnf
    (try conv => whnf); repeat ((first | (with_reducible first | refine Br.tt ?_ | refine Br.ff ?_ | refine Br.nt ?_ | refine Br.nf ?_) | ((with_reducible refine Br.yk ?_ ?_); omega) | ((with_reducible refine Br.yd ?_ ?_); omega) | ((with_reducible refine Br.nd ?_ ?_); omega) | ((with_reducible refine Br.nyd ?_ ?_); omega) | ((with_reducible refine Br.nnd ?_ ?_); omega) | ((with_reducible refine Br.yd ?_ ?_); decide) | ((with_reducible refine Br.nyd ?_ ?_); decide)); conv => whnf)
    refine VCallF.rd [0] hg (by decide) (hlt_of rfl) ?_ rfl rfl rfl rfl ?_
    · exact ⟨arcV_ole _ _ _ _ _, trivial⟩
    conv => whnf
    refine VRet.dr [_, _, _] _ rfl rfl ⟨arcV_ok _ _ _ _ _, ?_, ?_, trivial⟩ rfl ⟨rfl, rfl⟩
    · intro i hi; rfl
    · intro i hi
      match i, hi with
      | 0, _ => rfl
      | 1, _ => rfl
      | 2, _ => rfl
      | 3, _ => rfl
end
end Vm
end Go.Proofs.YtcafmkekkcbamaaGreat
namespace Go.Proofs.YtcafmkekkcbamaaGreat
open Go.RowKit
namespace Vm
attribute [local irreducible] VCallF VYield VLoop VRet inK
set_option maxRecDepth 100000

def netO (N S T : Int) (ad : Option Addr) (l k : Nat) : VObj := .view 4 (netG N S T ad l k)
def oneO (v : Value) : VObj := .view 1 (oneG v)
theorem netO_ole {σ : Sig} {N S T : Int} {ad : Option Addr} {l k : Nat} (hs : At0 ad l) (h0 : σ = 0 :: σ.tail) : OLe σ (some (netO N S T ad l k)) (netO N S T ad l k) := by
  rw [h0]
  rcases hs with ⟨rfl, rfl⟩ | rfl
  all_goals
    refine ⟨Nat.le_refl _, fun i hi => ?_⟩
    match i, hi with
    | 0, _ => exact ⟨rfl, rfl⟩
    | 1, _ => exact ⟨rfl, rfl⟩
    | 2, _ => exact ⟨rfl, rfl⟩
    | 3, _ => exact ⟨rfl, rfl⟩
theorem netO_cells {σ : Sig} {N S T : Int} {ad : Option Addr} {l k : Nat} {X : TypeId} (hs : At0 ad l) (h0 : σ = 0 :: σ.tail) : OLe σ (some (.cells [.int .i64 N, .int .i64 S, .int .i64 T, .slice ad l k] X)) (netO N S T ad l k) := by
  rw [h0]
  rcases hs with ⟨rfl, rfl⟩ | rfl
  all_goals
    refine fun i hi => ?_
    match i, hi with
    | 0, _ => exact ⟨rfl, rfl⟩
    | 1, _ => exact ⟨rfl, rfl⟩
    | 2, _ => exact ⟨rfl, rfl⟩
    | 3, _ => exact ⟨rfl, rfl⟩
theorem oneO_fn {σ : Sig} {g : FuncId} {n : Nat} : OLe σ (some (oneO (fnV g))) (oneO (fnV g)) := ⟨Nat.le_refl _, fun _ _ => ⟨rfl, rfl⟩⟩
theorem oneO_cells {σ : Sig} {g : FuncId} {X : TypeId} : OLe σ (some (.cells [fnV g] X)) (oneO (fnV g)) := fun i hi => by
  match i, hi with
  | 0, _ => exact ⟨rfl, rfl⟩
theorem oneO_ok {g : FuncId} {m : Nat} : okO m (oneO (fnV g)) := fun _ _ => rfl
theorem netO_ok {N S T : Int} {ad : Option Addr} {l k m : Nat} (hs : At0 ad l) : okO (m + 1) (netO N S T ad l k) := by
  rcases hs with ⟨rfl, rfl⟩ | rfl
  all_goals
    refine fun i hi => ?_
    match i, hi with
    | 0, _ => rfl
    | 1, _ => rfl
    | 2, _ => rfl
    | 3, _ => rfl

section
variable {N S T : Int} {ad : Option Addr} {l k : Nat} (f t c : Nat → Int)
def clV (g : FuncId) : Value := .func (.func g) #[] #[.pointer (some ⟨1, 0, none⟩), .pointer (some ⟨2, 0, none⟩)]

theorem index_c (hs : At0 ad l) (hl : l < 2 ^ 60) (g h : FuncId) (q : Nat → Bool)
    (hq : ∀ i, VCalls Tryz.prog h [arcA (f i) (t i) (c i), .pointer (some ⟨1, 0, none⟩), .pointer (some ⟨2, 0, none⟩)] [arcV l f t c, oneO (fnV g), netO N S T ad l k] (fun v M' => v = .bool (q i) ∧ M' = [arcV l f t c, oneO (fnV g), netO N S T ad l k])) :
    VCalls Tryz.prog 316 [.slice ad l k, clV h] [arcV l f t c, oneO (fnV g), netO N S T ad l k]
      (fun v M' => v = .int .i64 (idxF q l) ∧ M' = [arcV l f t c, oneO (fnV g), netO N S T ad l k]) := by
  have hok : okM 3 [arcV l f t c, oneO (fnV g), netO N S T ad l k] := ⟨arcV_ok _ _ _ _ _, oneO_ok, netO_ok hs, trivial⟩
  have hole : MemLe [0, 1, 2] [arcV l f t c, oneO (fnV g), netO N S T ad l k] [0, 1, 2] [arcV l f t c, oneO (fnV g), netO N S T ad l k] := ⟨arcV_ole _ _ _ _ _, oneO_fn (n := 0), netO_ole hs rfl, trivial⟩
  rcases hs with ⟨rfl, rfl⟩ | rfl
  · refine VCalls.ok2 f316_ok mixed rfl ?_
    conv => whnf
    refine VLoop.intro (fun m E M => E = [(8, .int .i64 0), (7, .int .i64 0), (1, clV h), (0, .slice none 0 k)] ∧ M = [arcV 0 f t c, oneO (fnV g), netO N S T none 0 k]) 0 _ _ ⟨rfl, rfl⟩ (WeakE.of [0, 1, 2] (by decide) rfl hole (by repeat (first | exact trivial | refine ⟨rfl, rfl, ?_⟩))) ?_
    rintro m E M ⟨rfl, rfl⟩
    conv => whnf
    (try conv => whnf); repeat ((first | (with_reducible first | refine Br.tt ?_ | refine Br.ff ?_ | refine Br.nt ?_ | refine Br.nf ?_) | ((with_reducible refine Br.yk ?_ ?_); omega) | ((with_reducible refine Br.yd ?_ ?_); omega) | ((with_reducible refine Br.nd ?_ ?_); omega) | ((with_reducible refine Br.nyd ?_ ?_); omega) | ((with_reducible refine Br.nnd ?_ ?_); omega) | ((with_reducible refine Br.yd ?_ ?_); decide) | ((with_reducible refine Br.nyd ?_ ?_); decide)); conv => whnf)
    exact VRet.dr [_, _, _] _ rfl rfl hok rfl ⟨rfl, rfl⟩
  · refine VCalls.ok2 f316_ok mixed rfl ?_
    conv => whnf
    refine VLoop.intro (fun m E M => ∃ (i : Nat) (z : Int), (i : Int) = z ∧ i ≤ l ∧ m = l - i ∧ idxF q i = -1 ∧ E = [(8, .int .i64 z), (7, .int .i64 l), (1, clV h), (0, .slice (some ⟨0, 0, none⟩) l k)] ∧ M = [arcV l f t c, oneO (fnV g), netO N S T (some ⟨0, 0, none⟩) l k]) l _ _ ⟨0, 0, rfl, Nat.zero_le _, rfl, rfl, rfl, rfl⟩ (WeakE.of [0, 1, 2] (by decide) rfl hole (by repeat (first | exact trivial | refine ⟨rfl, rfl, ?_⟩))) ?_
    rintro m E M ⟨i, z, hz, hi, rfl, hx, rfl, rfl⟩
    conv => whnf
    refine Br.bd (fun h hb => ?_) (fun h hb => ?_)
    · conv => whnf
      (try conv => whnf); repeat ((first | (with_reducible first | refine Br.tt ?_ | refine Br.ff ?_ | refine Br.nt ?_ | refine Br.nf ?_) | ((with_reducible refine Br.yk ?_ ?_); omega) | ((with_reducible refine Br.yd ?_ ?_); omega) | ((with_reducible refine Br.nd ?_ ?_); omega) | ((with_reducible refine Br.nyd ?_ ?_); omega) | ((with_reducible refine Br.nnd ?_ ?_); omega) | ((with_reducible refine Br.yd ?_ ?_); decide) | ((with_reducible refine Br.nyd ?_ ?_); decide)); conv => whnf)
      rw [arcG_z0 f t c hz, arcG_z1 f t c hz, arcG_z2 f t c hz]
      conv => whnf
      refine VCallF.same (VCalls.mono (hq i) ?_)
      rintro v M' ⟨rfl, rfl⟩
      conv => whnf
      cases hqi : q i
      · conv => whnf
        (try conv => whnf); repeat ((first | (with_reducible first | refine Br.tt ?_ | refine Br.ff ?_ | refine Br.nt ?_ | refine Br.nf ?_) | ((with_reducible refine Br.yk ?_ ?_); omega) | ((with_reducible refine Br.yd ?_ ?_); omega) | ((with_reducible refine Br.nd ?_ ?_); omega) | ((with_reducible refine Br.nyd ?_ ?_); omega) | ((with_reducible refine Br.nnd ?_ ?_); omega) | ((with_reducible refine Br.yd ?_ ?_); decide) | ((with_reducible refine Br.nyd ?_ ?_); decide)); conv => whnf)
        refine ⟨l - (i + 1), _, _, ?_, ⟨i + 1, z + 1, ?_, ?_, rfl, idxF_go hx hqi, rfl, rfl⟩, WeakE.of [0, 1, 2] (by decide) rfl hole (by repeat (first | exact trivial | refine ⟨rfl, rfl, ?_⟩))⟩
        · omega
        · omega
        · omega
      · conv => whnf
        (try conv => whnf); repeat ((first | (with_reducible first | refine Br.tt ?_ | refine Br.ff ?_ | refine Br.nt ?_ | refine Br.nf ?_) | ((with_reducible refine Br.yk ?_ ?_); omega) | ((with_reducible refine Br.yd ?_ ?_); omega) | ((with_reducible refine Br.nd ?_ ?_); omega) | ((with_reducible refine Br.nyd ?_ ?_); omega) | ((with_reducible refine Br.nnd ?_ ?_); omega) | ((with_reducible refine Br.yd ?_ ?_); decide) | ((with_reducible refine Br.nyd ?_ ?_); decide)); conv => whnf)
        refine VRet.dr [_, _, _] _ rfl rfl hok rfl ⟨?_, rfl⟩
        rw [idxF_stop hx hqi (by omega), hz]; rfl
    · have hil : i = l := by omega
      subst hil
      conv => whnf
      (try conv => whnf); repeat ((first | (with_reducible first | refine Br.tt ?_ | refine Br.ff ?_ | refine Br.nt ?_ | refine Br.nf ?_) | ((with_reducible refine Br.yk ?_ ?_); omega) | ((with_reducible refine Br.yd ?_ ?_); omega) | ((with_reducible refine Br.nd ?_ ?_); omega) | ((with_reducible refine Br.nyd ?_ ?_); omega) | ((with_reducible refine Br.nnd ?_ ?_); omega) | ((with_reducible refine Br.yd ?_ ?_); decide) | ((with_reducible refine Br.nyd ?_ ?_); decide)); conv => whnf)
      refine VRet.dr [_, _, _] _ rfl rfl hok rfl ⟨?_, rfl⟩
      rw [hx]; rfl
theorem contains_c (hs : At0 ad l) (hl : l < 2 ^ 60) (g h : FuncId) (q : Nat → Bool)
    (hq : ∀ i, VCalls Tryz.prog h [arcA (f i) (t i) (c i), .pointer (some ⟨1, 0, none⟩), .pointer (some ⟨2, 0, none⟩)] [arcV l f t c, oneO (fnV g), netO N S T ad l k] (fun v M' => v = .bool (q i) ∧ M' = [arcV l f t c, oneO (fnV g), netO N S T ad l k])) :
    VCalls Tryz.prog 306 [.slice ad l k, clV h] [arcV l f t c, oneO (fnV g), netO N S T ad l k]
      (fun v M' => v = .bool (decide (0 ≤ idxF q l)) ∧ M' = [arcV l f t c, oneO (fnV g), netO N S T ad l k]) := by
  have hok : okM 3 [arcV l f t c, oneO (fnV g), netO N S T ad l k] := ⟨arcV_ok _ _ _ _ _, oneO_ok, netO_ok hs, trivial⟩
  have hc := index_c f t c hs hl g h q hq
  rcases hs with ⟨rfl, rfl⟩ | rfl
  all_goals
    refine VCalls.ok2 f306_ok mixed rfl ?_
    conv => whnf
    refine VCallF.same (VCalls.mono hc ?_)
    rintro v M' ⟨rfl, rfl⟩
    conv => whnf
    exact VRet.dr [_, _, _] _ rfl rfl hok rfl ⟨rfl, rfl⟩

/-- What is asked of all arcs. -/
theorem of1_c (hs : At0 ad l) (hl : l < 2 ^ 60) (g : FuncId) (p : Nat → Bool)
    (hg : ∀ i, VCalls Tryz.prog g [netV N S T ad l k, arcA (f i) (t i) (c i)] [arcV l f t c] (fun v M' => v = .bool (p i) ∧ M' = [arcV l f t c])) :
    VCalls Tryz.prog 305 [netV N S T ad l k, .pointer (some ⟨1, 0, none⟩)] [arcV l f t c, oneO (fnV g)] (fun v M' => v = .bool (allF p l) ∧ M' = [arcV l f t c, oneO (fnV g)]) := by
  have hc := contains_c f t c hs hl g 307 (fun i => !p i) (fun i => of11_c f t c hs g (f i) (t i) (c i) (p i) (hg i))
  have hcell := fun X => netO_cells (σ := [0, 1, 2]) (N := N) (S := S) (T := T) (ad := ad) (l := l) (k := k) (X := X) hs rfl
  rcases hs with ⟨rfl, rfl⟩ | rfl
  all_goals
    refine VCalls.ok2 f305_ok mixed rfl ?_
    conv => whnf
    refine VCallF.rd [0, 1, 2] hc (by decide) (hlt_of rfl) ?_ rfl rfl rfl rfl ?_
    · exact ⟨arcV_ole _ _ _ _ _, oneO_fn (n := 0), hcell _, trivial⟩
    conv => whnf
    refine VRet.dr [_, _] _ rfl rfl ⟨arcV_ok _ _ _ _ _, oneO_ok, trivial⟩ rfl ⟨?_, rfl⟩
    rw [idxF_all, Bool.not_not]; rfl
end
end Vm
end Go.Proofs.YtcafmkekkcbamaaGreat
namespace Go.Proofs.YtcafmkekkcbamaaGreat
open Go.RowKit
namespace Vm
attribute [local irreducible] VCallF VYield VLoop VRet inK
set_option maxRecDepth 100000

def fnC (g : FuncId) (k : Nat) : Value := .func (.func g) #[] #[.pointer (some ⟨k, 0, none⟩)]
theorem of_c (g : FuncId) : VCalls Tryz.prog 257 [fnV g] [] (fun v M' => v = fnC 305 0 ∧ M' = [.cells [fnV g] 309]) := by
  refine VCalls.ok2 f257_ok mixed rfl ?_
  conv => whnf
  exact VRet.here ⟨rfl, rfl⟩
def rulesV (j k : Nat) : Value := .agg ⟨[fnV 253, .int .i64 10, fnV 254, .int .i64 11, fnV 255, .int .i64 12, fnC 305 j, .int .i64 13, fnC 305 k, .int .i64 14, fnV 260, .int .i64 15]⟩
theorem rules_c : VCalls Tryz.prog 190 [] [] (fun v M' => v = rulesV 0 1 ∧ M' = [.cells [fnV 258] 309, .cells [fnV 259] 309]) := by
  refine VCalls.ok2 f190_ok mixed rfl ?_
  conv => whnf
  refine VCallF.new [] (of_c _) (by decide) (by simp) trivial rfl rfl rfl ?_
  rintro v M1 ⟨rfl, rfl⟩
  refine ⟨_, rfl, rfl, ⟨rfl, trivial⟩, trivial, rfl, ?_⟩
  conv => whnf
  refine VCallF.new [] (of_c _) (by decide) (by simp) trivial rfl rfl rfl ?_
  rintro v M1 ⟨rfl, rfl⟩
  refine ⟨_, rfl, rfl, ⟨rfl, trivial⟩, trivial, rfl, ?_⟩
  conv => whnf
  exact VRet.of (v2 := rulesV 0 1) (M2 := [.cells [fnV 258] 309, .cells [fnV 259] 309]) [1, 2] (by decide) rfl ⟨⟨rfl, rfl, rfl⟩, ⟨rfl, rfl, rfl⟩, trivial⟩ rfl rfl ⟨rfl, rfl⟩

def rulesE (z : Int) : Env := [(6, .int .i64 z), (5, rulesV 2 3), (1, .pointer (some ⟨1, 0, none⟩))]
def checkM (N S T : Int) (ad : Option Addr) (l k : Nat) (f t c : Nat → Int) : VMem := [arcV l f t c, .cells [.int .i64 N, .int .i64 S, .int .i64 T, .slice ad l k] 24, .cells [fnV 258] 309, .cells [fnV 259] 309]
/-- What the check tells. -/
def arcsOk (N : Int) (f t : Nat → Int) (i : Nat) : Bool := (decide (0 ≤ f i) && decide (f i < N)) && (decide (0 ≤ t i) && decide (t i < N))
def netChk (N S T : Int) (l : Nat) (f t c : Nat → Int) : Int :=
  if (decide (2 ≤ N) && decide (N ≤ 4096)) = true then
    if decide ((l : Int) ≤ 16384) = true then
      if ((decide (0 ≤ S) && decide (S < N)) && ((decide (0 ≤ T) && decide (T < N)) && !decide (S = T))) = true then
        if allF (arcsOk N f t) l = true then
          if allF (fun i => decide (0 ≤ c i)) l = true then
            if capsOk c l = true then 0 else 15
          else 14
        else 13
      else 12
    else 11
  else 10

section
variable {N S T : Int} {ad : Option Addr} {l k : Nat} (f t c : Nat → Int)

theorem check_c (hs : At0 ad l) (hl : l < 2 ^ 60) : VCalls Tryz.prog 108 [netV N S T ad l k] [arcV l f t c]
    (fun v M' => v = .int .i64 (netChk N S T l f t c) ∧ M' = [arcV l f t c]) := by
  have h1 := rule1_c (N := N) (S := S) (T := T) (k := k) f t c hs
  have h2 := rule2_c (N := N) (S := S) (T := T) (k := k) f t c hs
  have h3 := rule3_c (N := N) (S := S) (T := T) (k := k) f t c hs
  have h4 := of1_c (N := N) (S := S) (T := T) (k := k) f t c hs hl _ (arcsOk N f t) (fun i => rule4_c f t c hs (f i) (t i) (c i))
  have h5 := of1_c (N := N) (S := S) (T := T) (k := k) f t c hs hl _ (fun i => decide (0 ≤ c i)) (fun i => rule5_c f t c hs (f i) (t i) (c i))
  have h6 := rule6_c (N := N) (S := S) (T := T) (k := k) f t c hs hl
  have hnet : netV N S T ad l k = .agg ⟨[.int .i64 N, .int .i64 S, .int .i64 T, .slice ad l k]⟩ := rfl
  have hok1 : okN dep 4 (.slice ad l k) = true := by rcases hs with ⟨rfl, rfl⟩ | rfl <;> rfl
  unfold netChk
  generalize (decide (2 ≤ N) && decide (N ≤ 4096)) = b1 at *
  generalize decide ((l : Int) ≤ 16384) = b2 at *
  generalize ((decide (0 ≤ S) && decide (S < N)) && ((decide (0 ≤ T) && decide (T < N)) && !decide (S = T))) = b3 at *
  generalize allF (arcsOk N f t) l = b4 at *
  generalize allF (fun i => decide (0 ≤ c i)) l = b5 at *
  generalize capsOk c l = b6 at *
  rcases hs with ⟨rfl, rfl⟩ | rfl
  · refine VCalls.ok2 f108_ok mixed rfl ?_
    conv => whnf
    refine VCallF.new [] rules_c (by decide) (by simp) trivial rfl rfl rfl ?_
    rintro v M1 ⟨rfl, rfl⟩
    refine ⟨_, rfl, rfl, ⟨rfl, rfl, trivial⟩, trivial, rfl, ?_⟩
    conv => whnf
    refine VLoop.intro (fun m E M => ((m = 7 ∧ E = rulesE 0) ∨ (m = 6 ∧ b1 = true ∧ E = rulesE 1) ∨ (m = 5 ∧ b1 = true ∧ b2 = true ∧ E = rulesE 2) ∨ (m = 4 ∧ b1 = true ∧ b2 = true ∧ b3 = true ∧ E = rulesE 3) ∨ (m = 3 ∧ b1 = true ∧ b2 = true ∧ b3 = true ∧ b4 = true ∧ E = rulesE 4) ∨ (m = 2 ∧ b1 = true ∧ b2 = true ∧ b3 = true ∧ b4 = true ∧ b5 = true ∧ E = rulesE 5) ∨ (m = 1 ∧ b1 = true ∧ b2 = true ∧ b3 = true ∧ b4 = true ∧ b5 = true ∧ b6 = true ∧ E = rulesE 6)) ∧ M = checkM N S T none 0 k f t c) 7 _ _ ⟨(.inl ⟨rfl, rfl⟩), rfl⟩ (WeakE.of [0, 1, 2, 3] (by decide) rfl ⟨arcV_ole _ _ _ _ _, ⟨rfl, rfl, rfl⟩, ⟨rfl, rfl, rfl⟩, ⟨rfl, rfl, rfl⟩, trivial⟩ (by repeat (first | exact trivial | refine ⟨rfl, rfl, ?_⟩))) ?_
    rintro m E M ⟨⟨rfl, rfl⟩ | ⟨rfl, rfl, rfl⟩ | ⟨rfl, rfl, rfl, rfl⟩ | ⟨rfl, rfl, rfl, rfl, rfl⟩ | ⟨rfl, rfl, rfl, rfl, rfl, rfl⟩ | ⟨rfl, rfl, rfl, rfl, rfl, rfl, rfl⟩ | ⟨rfl, rfl, rfl, rfl, rfl, rfl, rfl, rfl⟩, rfl⟩
    · conv => whnf
      (try conv => whnf); repeat ((first | (with_reducible first | refine Br.tt ?_ | refine Br.ff ?_ | refine Br.nt ?_ | refine Br.nf ?_) | ((with_reducible refine Br.yk ?_ ?_); omega) | ((with_reducible refine Br.yd ?_ ?_); omega) | ((with_reducible refine Br.nd ?_ ?_); omega) | ((with_reducible refine Br.nyd ?_ ?_); omega) | ((with_reducible refine Br.nnd ?_ ?_); omega) | ((with_reducible refine Br.yd ?_ ?_); decide) | ((with_reducible refine Br.nyd ?_ ?_); decide)); conv => whnf)
      refine VCallF.rd [0] h1 (by decide) (hlt_of rfl) ?_ rfl rfl rfl rfl ?_
      · exact ⟨arcV_ole _ _ _ _ _, trivial⟩
      cases b1
      · conv => whnf
        (try conv => whnf); repeat ((first | (with_reducible first | refine Br.tt ?_ | refine Br.ff ?_ | refine Br.nt ?_ | refine Br.nf ?_) | ((with_reducible refine Br.yk ?_ ?_); omega) | ((with_reducible refine Br.yd ?_ ?_); omega) | ((with_reducible refine Br.nd ?_ ?_); omega) | ((with_reducible refine Br.nyd ?_ ?_); omega) | ((with_reducible refine Br.nnd ?_ ?_); omega) | ((with_reducible refine Br.yd ?_ ?_); decide) | ((with_reducible refine Br.nyd ?_ ?_); decide)); conv => whnf)
        exact VRet.dr [_] _ rfl rfl ⟨arcV_ok _ _ _ _ _, trivial⟩ rfl ⟨rfl, rfl⟩
      · conv => whnf
        (try conv => whnf); repeat ((first | (with_reducible first | refine Br.tt ?_ | refine Br.ff ?_ | refine Br.nt ?_ | refine Br.nf ?_) | ((with_reducible refine Br.yk ?_ ?_); omega) | ((with_reducible refine Br.yd ?_ ?_); omega) | ((with_reducible refine Br.nd ?_ ?_); omega) | ((with_reducible refine Br.nyd ?_ ?_); omega) | ((with_reducible refine Br.nnd ?_ ?_); omega) | ((with_reducible refine Br.yd ?_ ?_); decide) | ((with_reducible refine Br.nyd ?_ ?_); decide)); conv => whnf)
        exact ⟨6, _, _, by decide, ⟨(.inr (.inl ⟨rfl, rfl, rfl⟩)), rfl⟩, WeakE.of [0, 1, 2, 3] (by decide) rfl ⟨arcV_ole _ _ _ _ _, ⟨rfl, rfl, rfl⟩, ⟨rfl, rfl, rfl⟩, ⟨rfl, rfl, rfl⟩, trivial⟩ (by repeat (first | exact trivial | refine ⟨rfl, rfl, ?_⟩))⟩
    · conv => whnf
      (try conv => whnf); repeat ((first | (with_reducible first | refine Br.tt ?_ | refine Br.ff ?_ | refine Br.nt ?_ | refine Br.nf ?_) | ((with_reducible refine Br.yk ?_ ?_); omega) | ((with_reducible refine Br.yd ?_ ?_); omega) | ((with_reducible refine Br.nd ?_ ?_); omega) | ((with_reducible refine Br.nyd ?_ ?_); omega) | ((with_reducible refine Br.nnd ?_ ?_); omega) | ((with_reducible refine Br.yd ?_ ?_); decide) | ((with_reducible refine Br.nyd ?_ ?_); decide)); conv => whnf)
      refine VCallF.rd [0] h2 (by decide) (hlt_of rfl) ?_ rfl rfl rfl rfl ?_
      · exact ⟨arcV_ole _ _ _ _ _, trivial⟩
      cases b2
      · conv => whnf
        (try conv => whnf); repeat ((first | (with_reducible first | refine Br.tt ?_ | refine Br.ff ?_ | refine Br.nt ?_ | refine Br.nf ?_) | ((with_reducible refine Br.yk ?_ ?_); omega) | ((with_reducible refine Br.yd ?_ ?_); omega) | ((with_reducible refine Br.nd ?_ ?_); omega) | ((with_reducible refine Br.nyd ?_ ?_); omega) | ((with_reducible refine Br.nnd ?_ ?_); omega) | ((with_reducible refine Br.yd ?_ ?_); decide) | ((with_reducible refine Br.nyd ?_ ?_); decide)); conv => whnf)
        exact VRet.dr [_] _ rfl rfl ⟨arcV_ok _ _ _ _ _, trivial⟩ rfl ⟨rfl, rfl⟩
      · conv => whnf
        (try conv => whnf); repeat ((first | (with_reducible first | refine Br.tt ?_ | refine Br.ff ?_ | refine Br.nt ?_ | refine Br.nf ?_) | ((with_reducible refine Br.yk ?_ ?_); omega) | ((with_reducible refine Br.yd ?_ ?_); omega) | ((with_reducible refine Br.nd ?_ ?_); omega) | ((with_reducible refine Br.nyd ?_ ?_); omega) | ((with_reducible refine Br.nnd ?_ ?_); omega) | ((with_reducible refine Br.yd ?_ ?_); decide) | ((with_reducible refine Br.nyd ?_ ?_); decide)); conv => whnf)
        exact ⟨5, _, _, by decide, ⟨(.inr (.inr (.inl ⟨rfl, rfl, rfl, rfl⟩))), rfl⟩, WeakE.of [0, 1, 2, 3] (by decide) rfl ⟨arcV_ole _ _ _ _ _, ⟨rfl, rfl, rfl⟩, ⟨rfl, rfl, rfl⟩, ⟨rfl, rfl, rfl⟩, trivial⟩ (by repeat (first | exact trivial | refine ⟨rfl, rfl, ?_⟩))⟩
    · conv => whnf
      (try conv => whnf); repeat ((first | (with_reducible first | refine Br.tt ?_ | refine Br.ff ?_ | refine Br.nt ?_ | refine Br.nf ?_) | ((with_reducible refine Br.yk ?_ ?_); omega) | ((with_reducible refine Br.yd ?_ ?_); omega) | ((with_reducible refine Br.nd ?_ ?_); omega) | ((with_reducible refine Br.nyd ?_ ?_); omega) | ((with_reducible refine Br.nnd ?_ ?_); omega) | ((with_reducible refine Br.yd ?_ ?_); decide) | ((with_reducible refine Br.nyd ?_ ?_); decide)); conv => whnf)
      refine VCallF.rd [0] h3 (by decide) (hlt_of rfl) ?_ rfl rfl rfl rfl ?_
      · exact ⟨arcV_ole _ _ _ _ _, trivial⟩
      cases b3
      · conv => whnf
        (try conv => whnf); repeat ((first | (with_reducible first | refine Br.tt ?_ | refine Br.ff ?_ | refine Br.nt ?_ | refine Br.nf ?_) | ((with_reducible refine Br.yk ?_ ?_); omega) | ((with_reducible refine Br.yd ?_ ?_); omega) | ((with_reducible refine Br.nd ?_ ?_); omega) | ((with_reducible refine Br.nyd ?_ ?_); omega) | ((with_reducible refine Br.nnd ?_ ?_); omega) | ((with_reducible refine Br.yd ?_ ?_); decide) | ((with_reducible refine Br.nyd ?_ ?_); decide)); conv => whnf)
        exact VRet.dr [_] _ rfl rfl ⟨arcV_ok _ _ _ _ _, trivial⟩ rfl ⟨rfl, rfl⟩
      · conv => whnf
        (try conv => whnf); repeat ((first | (with_reducible first | refine Br.tt ?_ | refine Br.ff ?_ | refine Br.nt ?_ | refine Br.nf ?_) | ((with_reducible refine Br.yk ?_ ?_); omega) | ((with_reducible refine Br.yd ?_ ?_); omega) | ((with_reducible refine Br.nd ?_ ?_); omega) | ((with_reducible refine Br.nyd ?_ ?_); omega) | ((with_reducible refine Br.nnd ?_ ?_); omega) | ((with_reducible refine Br.yd ?_ ?_); decide) | ((with_reducible refine Br.nyd ?_ ?_); decide)); conv => whnf)
        exact ⟨4, _, _, by decide, ⟨(.inr (.inr (.inr (.inl ⟨rfl, rfl, rfl, rfl, rfl⟩)))), rfl⟩, WeakE.of [0, 1, 2, 3] (by decide) rfl ⟨arcV_ole _ _ _ _ _, ⟨rfl, rfl, rfl⟩, ⟨rfl, rfl, rfl⟩, ⟨rfl, rfl, rfl⟩, trivial⟩ (by repeat (first | exact trivial | refine ⟨rfl, rfl, ?_⟩))⟩
    · conv => whnf
      (try conv => whnf); repeat ((first | (with_reducible first | refine Br.tt ?_ | refine Br.ff ?_ | refine Br.nt ?_ | refine Br.nf ?_) | ((with_reducible refine Br.yk ?_ ?_); omega) | ((with_reducible refine Br.yd ?_ ?_); omega) | ((with_reducible refine Br.nd ?_ ?_); omega) | ((with_reducible refine Br.nyd ?_ ?_); omega) | ((with_reducible refine Br.nnd ?_ ?_); omega) | ((with_reducible refine Br.yd ?_ ?_); decide) | ((with_reducible refine Br.nyd ?_ ?_); decide)); conv => whnf)
      refine VCallF.rd [0, 2] h4 (by decide) (hlt_of rfl) ?_ rfl rfl rfl rfl ?_
      · exact ⟨arcV_ole _ _ _ _ _, oneO_cells, trivial⟩
      cases b4
      · conv => whnf
        (try conv => whnf); repeat ((first | (with_reducible first | refine Br.tt ?_ | refine Br.ff ?_ | refine Br.nt ?_ | refine Br.nf ?_) | ((with_reducible refine Br.yk ?_ ?_); omega) | ((with_reducible refine Br.yd ?_ ?_); omega) | ((with_reducible refine Br.nd ?_ ?_); omega) | ((with_reducible refine Br.nyd ?_ ?_); omega) | ((with_reducible refine Br.nnd ?_ ?_); omega) | ((with_reducible refine Br.yd ?_ ?_); decide) | ((with_reducible refine Br.nyd ?_ ?_); decide)); conv => whnf)
        exact VRet.dr [_] _ rfl rfl ⟨arcV_ok _ _ _ _ _, trivial⟩ rfl ⟨rfl, rfl⟩
      · conv => whnf
        (try conv => whnf); repeat ((first | (with_reducible first | refine Br.tt ?_ | refine Br.ff ?_ | refine Br.nt ?_ | refine Br.nf ?_) | ((with_reducible refine Br.yk ?_ ?_); omega) | ((with_reducible refine Br.yd ?_ ?_); omega) | ((with_reducible refine Br.nd ?_ ?_); omega) | ((with_reducible refine Br.nyd ?_ ?_); omega) | ((with_reducible refine Br.nnd ?_ ?_); omega) | ((with_reducible refine Br.yd ?_ ?_); decide) | ((with_reducible refine Br.nyd ?_ ?_); decide)); conv => whnf)
        exact ⟨3, _, _, by decide, ⟨(.inr (.inr (.inr (.inr (.inl ⟨rfl, rfl, rfl, rfl, rfl, rfl⟩))))), rfl⟩, WeakE.of [0, 1, 2, 3] (by decide) rfl ⟨arcV_ole _ _ _ _ _, ⟨rfl, rfl, rfl⟩, ⟨rfl, rfl, rfl⟩, ⟨rfl, rfl, rfl⟩, trivial⟩ (by repeat (first | exact trivial | refine ⟨rfl, rfl, ?_⟩))⟩
    · conv => whnf
      (try conv => whnf); repeat ((first | (with_reducible first | refine Br.tt ?_ | refine Br.ff ?_ | refine Br.nt ?_ | refine Br.nf ?_) | ((with_reducible refine Br.yk ?_ ?_); omega) | ((with_reducible refine Br.yd ?_ ?_); omega) | ((with_reducible refine Br.nd ?_ ?_); omega) | ((with_reducible refine Br.nyd ?_ ?_); omega) | ((with_reducible refine Br.nnd ?_ ?_); omega) | ((with_reducible refine Br.yd ?_ ?_); decide) | ((with_reducible refine Br.nyd ?_ ?_); decide)); conv => whnf)
      refine VCallF.rd [0, 3] h5 (by decide) (hlt_of rfl) ?_ rfl rfl rfl rfl ?_
      · exact ⟨arcV_ole _ _ _ _ _, oneO_cells, trivial⟩
      cases b5
      · conv => whnf
        (try conv => whnf); repeat ((first | (with_reducible first | refine Br.tt ?_ | refine Br.ff ?_ | refine Br.nt ?_ | refine Br.nf ?_) | ((with_reducible refine Br.yk ?_ ?_); omega) | ((with_reducible refine Br.yd ?_ ?_); omega) | ((with_reducible refine Br.nd ?_ ?_); omega) | ((with_reducible refine Br.nyd ?_ ?_); omega) | ((with_reducible refine Br.nnd ?_ ?_); omega) | ((with_reducible refine Br.yd ?_ ?_); decide) | ((with_reducible refine Br.nyd ?_ ?_); decide)); conv => whnf)
        exact VRet.dr [_] _ rfl rfl ⟨arcV_ok _ _ _ _ _, trivial⟩ rfl ⟨rfl, rfl⟩
      · conv => whnf
        (try conv => whnf); repeat ((first | (with_reducible first | refine Br.tt ?_ | refine Br.ff ?_ | refine Br.nt ?_ | refine Br.nf ?_) | ((with_reducible refine Br.yk ?_ ?_); omega) | ((with_reducible refine Br.yd ?_ ?_); omega) | ((with_reducible refine Br.nd ?_ ?_); omega) | ((with_reducible refine Br.nyd ?_ ?_); omega) | ((with_reducible refine Br.nnd ?_ ?_); omega) | ((with_reducible refine Br.yd ?_ ?_); decide) | ((with_reducible refine Br.nyd ?_ ?_); decide)); conv => whnf)
        exact ⟨2, _, _, by decide, ⟨(.inr (.inr (.inr (.inr (.inr (.inl ⟨rfl, rfl, rfl, rfl, rfl, rfl, rfl⟩)))))), rfl⟩, WeakE.of [0, 1, 2, 3] (by decide) rfl ⟨arcV_ole _ _ _ _ _, ⟨rfl, rfl, rfl⟩, ⟨rfl, rfl, rfl⟩, ⟨rfl, rfl, rfl⟩, trivial⟩ (by repeat (first | exact trivial | refine ⟨rfl, rfl, ?_⟩))⟩
    · conv => whnf
      (try conv => whnf); repeat ((first | (with_reducible first | refine Br.tt ?_ | refine Br.ff ?_ | refine Br.nt ?_ | refine Br.nf ?_) | ((with_reducible refine Br.yk ?_ ?_); omega) | ((with_reducible refine Br.yd ?_ ?_); omega) | ((with_reducible refine Br.nd ?_ ?_); omega) | ((with_reducible refine Br.nyd ?_ ?_); omega) | ((with_reducible refine Br.nnd ?_ ?_); omega) | ((with_reducible refine Br.yd ?_ ?_); decide) | ((with_reducible refine Br.nyd ?_ ?_); decide)); conv => whnf)
      refine VCallF.rd [0] h6 (by decide) (hlt_of rfl) ?_ rfl rfl rfl rfl ?_
      · exact ⟨arcV_ole _ _ _ _ _, trivial⟩
      cases b6
      · conv => whnf
        (try conv => whnf); repeat ((first | (with_reducible first | refine Br.tt ?_ | refine Br.ff ?_ | refine Br.nt ?_ | refine Br.nf ?_) | ((with_reducible refine Br.yk ?_ ?_); omega) | ((with_reducible refine Br.yd ?_ ?_); omega) | ((with_reducible refine Br.nd ?_ ?_); omega) | ((with_reducible refine Br.nyd ?_ ?_); omega) | ((with_reducible refine Br.nnd ?_ ?_); omega) | ((with_reducible refine Br.yd ?_ ?_); decide) | ((with_reducible refine Br.nyd ?_ ?_); decide)); conv => whnf)
        exact VRet.dr [_] _ rfl rfl ⟨arcV_ok _ _ _ _ _, trivial⟩ rfl ⟨rfl, rfl⟩
      · conv => whnf
        (try conv => whnf); repeat ((first | (with_reducible first | refine Br.tt ?_ | refine Br.ff ?_ | refine Br.nt ?_ | refine Br.nf ?_) | ((with_reducible refine Br.yk ?_ ?_); omega) | ((with_reducible refine Br.yd ?_ ?_); omega) | ((with_reducible refine Br.nd ?_ ?_); omega) | ((with_reducible refine Br.nyd ?_ ?_); omega) | ((with_reducible refine Br.nnd ?_ ?_); omega) | ((with_reducible refine Br.yd ?_ ?_); decide) | ((with_reducible refine Br.nyd ?_ ?_); decide)); conv => whnf)
        exact ⟨1, _, _, by decide, ⟨(.inr (.inr (.inr (.inr (.inr (.inr (⟨rfl, rfl, rfl, rfl, rfl, rfl, rfl, rfl⟩))))))), rfl⟩, WeakE.of [0, 1, 2, 3] (by decide) rfl ⟨arcV_ole _ _ _ _ _, ⟨rfl, rfl, rfl⟩, ⟨rfl, rfl, rfl⟩, ⟨rfl, rfl, rfl⟩, trivial⟩ (by repeat (first | exact trivial | refine ⟨rfl, rfl, ?_⟩))⟩
    · conv => whnf
      (try conv => whnf); repeat ((first | (with_reducible first | refine Br.tt ?_ | refine Br.ff ?_ | refine Br.nt ?_ | refine Br.nf ?_) | ((with_reducible refine Br.yk ?_ ?_); omega) | ((with_reducible refine Br.yd ?_ ?_); omega) | ((with_reducible refine Br.nd ?_ ?_); omega) | ((with_reducible refine Br.nyd ?_ ?_); omega) | ((with_reducible refine Br.nnd ?_ ?_); omega) | ((with_reducible refine Br.yd ?_ ?_); decide) | ((with_reducible refine Br.nyd ?_ ?_); decide)); conv => whnf)
      exact VRet.dr [_] _ rfl rfl ⟨arcV_ok _ _ _ _ _, trivial⟩ rfl ⟨rfl, rfl⟩
  · refine VCalls.ok2 f108_ok mixed rfl ?_
    conv => whnf
    refine VCallF.new [] rules_c (by decide) (by simp) trivial rfl rfl rfl ?_
    rintro v M1 ⟨rfl, rfl⟩
    refine ⟨_, rfl, rfl, ⟨rfl, rfl, trivial⟩, trivial, rfl, ?_⟩
    conv => whnf
    refine VLoop.intro (fun m E M => ((m = 7 ∧ E = rulesE 0) ∨ (m = 6 ∧ b1 = true ∧ E = rulesE 1) ∨ (m = 5 ∧ b1 = true ∧ b2 = true ∧ E = rulesE 2) ∨ (m = 4 ∧ b1 = true ∧ b2 = true ∧ b3 = true ∧ E = rulesE 3) ∨ (m = 3 ∧ b1 = true ∧ b2 = true ∧ b3 = true ∧ b4 = true ∧ E = rulesE 4) ∨ (m = 2 ∧ b1 = true ∧ b2 = true ∧ b3 = true ∧ b4 = true ∧ b5 = true ∧ E = rulesE 5) ∨ (m = 1 ∧ b1 = true ∧ b2 = true ∧ b3 = true ∧ b4 = true ∧ b5 = true ∧ b6 = true ∧ E = rulesE 6)) ∧ M = checkM N S T (some ⟨0, 0, none⟩) l k f t c) 7 _ _ ⟨(.inl ⟨rfl, rfl⟩), rfl⟩ (WeakE.of [0, 1, 2, 3] (by decide) rfl ⟨arcV_ole _ _ _ _ _, ⟨rfl, rfl, rfl⟩, ⟨rfl, rfl, rfl⟩, ⟨rfl, rfl, rfl⟩, trivial⟩ (by repeat (first | exact trivial | refine ⟨rfl, rfl, ?_⟩))) ?_
    rintro m E M ⟨⟨rfl, rfl⟩ | ⟨rfl, rfl, rfl⟩ | ⟨rfl, rfl, rfl, rfl⟩ | ⟨rfl, rfl, rfl, rfl, rfl⟩ | ⟨rfl, rfl, rfl, rfl, rfl, rfl⟩ | ⟨rfl, rfl, rfl, rfl, rfl, rfl, rfl⟩ | ⟨rfl, rfl, rfl, rfl, rfl, rfl, rfl, rfl⟩, rfl⟩
    · conv => whnf
      (try conv => whnf); repeat ((first | (with_reducible first | refine Br.tt ?_ | refine Br.ff ?_ | refine Br.nt ?_ | refine Br.nf ?_) | ((with_reducible refine Br.yk ?_ ?_); omega) | ((with_reducible refine Br.yd ?_ ?_); omega) | ((with_reducible refine Br.nd ?_ ?_); omega) | ((with_reducible refine Br.nyd ?_ ?_); omega) | ((with_reducible refine Br.nnd ?_ ?_); omega) | ((with_reducible refine Br.yd ?_ ?_); decide) | ((with_reducible refine Br.nyd ?_ ?_); decide)); conv => whnf)
      refine VCallF.rd [0] h1 (by decide) (hlt_of rfl) ?_ rfl rfl rfl rfl ?_
      · exact ⟨arcV_ole _ _ _ _ _, trivial⟩
      cases b1
      · conv => whnf
        (try conv => whnf); repeat ((first | (with_reducible first | refine Br.tt ?_ | refine Br.ff ?_ | refine Br.nt ?_ | refine Br.nf ?_) | ((with_reducible refine Br.yk ?_ ?_); omega) | ((with_reducible refine Br.yd ?_ ?_); omega) | ((with_reducible refine Br.nd ?_ ?_); omega) | ((with_reducible refine Br.nyd ?_ ?_); omega) | ((with_reducible refine Br.nnd ?_ ?_); omega) | ((with_reducible refine Br.yd ?_ ?_); decide) | ((with_reducible refine Br.nyd ?_ ?_); decide)); conv => whnf)
        exact VRet.dr [_] _ rfl rfl ⟨arcV_ok _ _ _ _ _, trivial⟩ rfl ⟨rfl, rfl⟩
      · conv => whnf
        (try conv => whnf); repeat ((first | (with_reducible first | refine Br.tt ?_ | refine Br.ff ?_ | refine Br.nt ?_ | refine Br.nf ?_) | ((with_reducible refine Br.yk ?_ ?_); omega) | ((with_reducible refine Br.yd ?_ ?_); omega) | ((with_reducible refine Br.nd ?_ ?_); omega) | ((with_reducible refine Br.nyd ?_ ?_); omega) | ((with_reducible refine Br.nnd ?_ ?_); omega) | ((with_reducible refine Br.yd ?_ ?_); decide) | ((with_reducible refine Br.nyd ?_ ?_); decide)); conv => whnf)
        exact ⟨6, _, _, by decide, ⟨(.inr (.inl ⟨rfl, rfl, rfl⟩)), rfl⟩, WeakE.of [0, 1, 2, 3] (by decide) rfl ⟨arcV_ole _ _ _ _ _, ⟨rfl, rfl, rfl⟩, ⟨rfl, rfl, rfl⟩, ⟨rfl, rfl, rfl⟩, trivial⟩ (by repeat (first | exact trivial | refine ⟨rfl, rfl, ?_⟩))⟩
    · conv => whnf
      (try conv => whnf); repeat ((first | (with_reducible first | refine Br.tt ?_ | refine Br.ff ?_ | refine Br.nt ?_ | refine Br.nf ?_) | ((with_reducible refine Br.yk ?_ ?_); omega) | ((with_reducible refine Br.yd ?_ ?_); omega) | ((with_reducible refine Br.nd ?_ ?_); omega) | ((with_reducible refine Br.nyd ?_ ?_); omega) | ((with_reducible refine Br.nnd ?_ ?_); omega) | ((with_reducible refine Br.yd ?_ ?_); decide) | ((with_reducible refine Br.nyd ?_ ?_); decide)); conv => whnf)
      refine VCallF.rd [0] h2 (by decide) (hlt_of rfl) ?_ rfl rfl rfl rfl ?_
      · exact ⟨arcV_ole _ _ _ _ _, trivial⟩
      cases b2
      · conv => whnf
        (try conv => whnf); repeat ((first | (with_reducible first | refine Br.tt ?_ | refine Br.ff ?_ | refine Br.nt ?_ | refine Br.nf ?_) | ((with_reducible refine Br.yk ?_ ?_); omega) | ((with_reducible refine Br.yd ?_ ?_); omega) | ((with_reducible refine Br.nd ?_ ?_); omega) | ((with_reducible refine Br.nyd ?_ ?_); omega) | ((with_reducible refine Br.nnd ?_ ?_); omega) | ((with_reducible refine Br.yd ?_ ?_); decide) | ((with_reducible refine Br.nyd ?_ ?_); decide)); conv => whnf)
        exact VRet.dr [_] _ rfl rfl ⟨arcV_ok _ _ _ _ _, trivial⟩ rfl ⟨rfl, rfl⟩
      · conv => whnf
        (try conv => whnf); repeat ((first | (with_reducible first | refine Br.tt ?_ | refine Br.ff ?_ | refine Br.nt ?_ | refine Br.nf ?_) | ((with_reducible refine Br.yk ?_ ?_); omega) | ((with_reducible refine Br.yd ?_ ?_); omega) | ((with_reducible refine Br.nd ?_ ?_); omega) | ((with_reducible refine Br.nyd ?_ ?_); omega) | ((with_reducible refine Br.nnd ?_ ?_); omega) | ((with_reducible refine Br.yd ?_ ?_); decide) | ((with_reducible refine Br.nyd ?_ ?_); decide)); conv => whnf)
        exact ⟨5, _, _, by decide, ⟨(.inr (.inr (.inl ⟨rfl, rfl, rfl, rfl⟩))), rfl⟩, WeakE.of [0, 1, 2, 3] (by decide) rfl ⟨arcV_ole _ _ _ _ _, ⟨rfl, rfl, rfl⟩, ⟨rfl, rfl, rfl⟩, ⟨rfl, rfl, rfl⟩, trivial⟩ (by repeat (first | exact trivial | refine ⟨rfl, rfl, ?_⟩))⟩
    · conv => whnf
      (try conv => whnf); repeat ((first | (with_reducible first | refine Br.tt ?_ | refine Br.ff ?_ | refine Br.nt ?_ | refine Br.nf ?_) | ((with_reducible refine Br.yk ?_ ?_); omega) | ((with_reducible refine Br.yd ?_ ?_); omega) | ((with_reducible refine Br.nd ?_ ?_); omega) | ((with_reducible refine Br.nyd ?_ ?_); omega) | ((with_reducible refine Br.nnd ?_ ?_); omega) | ((with_reducible refine Br.yd ?_ ?_); decide) | ((with_reducible refine Br.nyd ?_ ?_); decide)); conv => whnf)
      refine VCallF.rd [0] h3 (by decide) (hlt_of rfl) ?_ rfl rfl rfl rfl ?_
      · exact ⟨arcV_ole _ _ _ _ _, trivial⟩
      cases b3
      · conv => whnf
        (try conv => whnf); repeat ((first | (with_reducible first | refine Br.tt ?_ | refine Br.ff ?_ | refine Br.nt ?_ | refine Br.nf ?_) | ((with_reducible refine Br.yk ?_ ?_); omega) | ((with_reducible refine Br.yd ?_ ?_); omega) | ((with_reducible refine Br.nd ?_ ?_); omega) | ((with_reducible refine Br.nyd ?_ ?_); omega) | ((with_reducible refine Br.nnd ?_ ?_); omega) | ((with_reducible refine Br.yd ?_ ?_); decide) | ((with_reducible refine Br.nyd ?_ ?_); decide)); conv => whnf)
        exact VRet.dr [_] _ rfl rfl ⟨arcV_ok _ _ _ _ _, trivial⟩ rfl ⟨rfl, rfl⟩
      · conv => whnf
        (try conv => whnf); repeat ((first | (with_reducible first | refine Br.tt ?_ | refine Br.ff ?_ | refine Br.nt ?_ | refine Br.nf ?_) | ((with_reducible refine Br.yk ?_ ?_); omega) | ((with_reducible refine Br.yd ?_ ?_); omega) | ((with_reducible refine Br.nd ?_ ?_); omega) | ((with_reducible refine Br.nyd ?_ ?_); omega) | ((with_reducible refine Br.nnd ?_ ?_); omega) | ((with_reducible refine Br.yd ?_ ?_); decide) | ((with_reducible refine Br.nyd ?_ ?_); decide)); conv => whnf)
        exact ⟨4, _, _, by decide, ⟨(.inr (.inr (.inr (.inl ⟨rfl, rfl, rfl, rfl, rfl⟩)))), rfl⟩, WeakE.of [0, 1, 2, 3] (by decide) rfl ⟨arcV_ole _ _ _ _ _, ⟨rfl, rfl, rfl⟩, ⟨rfl, rfl, rfl⟩, ⟨rfl, rfl, rfl⟩, trivial⟩ (by repeat (first | exact trivial | refine ⟨rfl, rfl, ?_⟩))⟩
    · conv => whnf
      (try conv => whnf); repeat ((first | (with_reducible first | refine Br.tt ?_ | refine Br.ff ?_ | refine Br.nt ?_ | refine Br.nf ?_) | ((with_reducible refine Br.yk ?_ ?_); omega) | ((with_reducible refine Br.yd ?_ ?_); omega) | ((with_reducible refine Br.nd ?_ ?_); omega) | ((with_reducible refine Br.nyd ?_ ?_); omega) | ((with_reducible refine Br.nnd ?_ ?_); omega) | ((with_reducible refine Br.yd ?_ ?_); decide) | ((with_reducible refine Br.nyd ?_ ?_); decide)); conv => whnf)
      refine VCallF.rd [0, 2] h4 (by decide) (hlt_of rfl) ?_ rfl rfl rfl rfl ?_
      · exact ⟨arcV_ole _ _ _ _ _, oneO_cells, trivial⟩
      cases b4
      · conv => whnf
        (try conv => whnf); repeat ((first | (with_reducible first | refine Br.tt ?_ | refine Br.ff ?_ | refine Br.nt ?_ | refine Br.nf ?_) | ((with_reducible refine Br.yk ?_ ?_); omega) | ((with_reducible refine Br.yd ?_ ?_); omega) | ((with_reducible refine Br.nd ?_ ?_); omega) | ((with_reducible refine Br.nyd ?_ ?_); omega) | ((with_reducible refine Br.nnd ?_ ?_); omega) | ((with_reducible refine Br.yd ?_ ?_); decide) | ((with_reducible refine Br.nyd ?_ ?_); decide)); conv => whnf)
        exact VRet.dr [_] _ rfl rfl ⟨arcV_ok _ _ _ _ _, trivial⟩ rfl ⟨rfl, rfl⟩
      · conv => whnf
        (try conv => whnf); repeat ((first | (with_reducible first | refine Br.tt ?_ | refine Br.ff ?_ | refine Br.nt ?_ | refine Br.nf ?_) | ((with_reducible refine Br.yk ?_ ?_); omega) | ((with_reducible refine Br.yd ?_ ?_); omega) | ((with_reducible refine Br.nd ?_ ?_); omega) | ((with_reducible refine Br.nyd ?_ ?_); omega) | ((with_reducible refine Br.nnd ?_ ?_); omega) | ((with_reducible refine Br.yd ?_ ?_); decide) | ((with_reducible refine Br.nyd ?_ ?_); decide)); conv => whnf)
        exact ⟨3, _, _, by decide, ⟨(.inr (.inr (.inr (.inr (.inl ⟨rfl, rfl, rfl, rfl, rfl, rfl⟩))))), rfl⟩, WeakE.of [0, 1, 2, 3] (by decide) rfl ⟨arcV_ole _ _ _ _ _, ⟨rfl, rfl, rfl⟩, ⟨rfl, rfl, rfl⟩, ⟨rfl, rfl, rfl⟩, trivial⟩ (by repeat (first | exact trivial | refine ⟨rfl, rfl, ?_⟩))⟩
    · conv => whnf
      (try conv => whnf); repeat ((first | (with_reducible first | refine Br.tt ?_ | refine Br.ff ?_ | refine Br.nt ?_ | refine Br.nf ?_) | ((with_reducible refine Br.yk ?_ ?_); omega) | ((with_reducible refine Br.yd ?_ ?_); omega) | ((with_reducible refine Br.nd ?_ ?_); omega) | ((with_reducible refine Br.nyd ?_ ?_); omega) | ((with_reducible refine Br.nnd ?_ ?_); omega) | ((with_reducible refine Br.yd ?_ ?_); decide) | ((with_reducible refine Br.nyd ?_ ?_); decide)); conv => whnf)
      refine VCallF.rd [0, 3] h5 (by decide) (hlt_of rfl) ?_ rfl rfl rfl rfl ?_
      · exact ⟨arcV_ole _ _ _ _ _, oneO_cells, trivial⟩
      cases b5
      · conv => whnf
        (try conv => whnf); repeat ((first | (with_reducible first | refine Br.tt ?_ | refine Br.ff ?_ | refine Br.nt ?_ | refine Br.nf ?_) | ((with_reducible refine Br.yk ?_ ?_); omega) | ((with_reducible refine Br.yd ?_ ?_); omega) | ((with_reducible refine Br.nd ?_ ?_); omega) | ((with_reducible refine Br.nyd ?_ ?_); omega) | ((with_reducible refine Br.nnd ?_ ?_); omega) | ((with_reducible refine Br.yd ?_ ?_); decide) | ((with_reducible refine Br.nyd ?_ ?_); decide)); conv => whnf)
        exact VRet.dr [_] _ rfl rfl ⟨arcV_ok _ _ _ _ _, trivial⟩ rfl ⟨rfl, rfl⟩
      · conv => whnf
        (try conv => whnf); repeat ((first | (with_reducible first | refine Br.tt ?_ | refine Br.ff ?_ | refine Br.nt ?_ | refine Br.nf ?_) | ((with_reducible refine Br.yk ?_ ?_); omega) | ((with_reducible refine Br.yd ?_ ?_); omega) | ((with_reducible refine Br.nd ?_ ?_); omega) | ((with_reducible refine Br.nyd ?_ ?_); omega) | ((with_reducible refine Br.nnd ?_ ?_); omega) | ((with_reducible refine Br.yd ?_ ?_); decide) | ((with_reducible refine Br.nyd ?_ ?_); decide)); conv => whnf)
        exact ⟨2, _, _, by decide, ⟨(.inr (.inr (.inr (.inr (.inr (.inl ⟨rfl, rfl, rfl, rfl, rfl, rfl, rfl⟩)))))), rfl⟩, WeakE.of [0, 1, 2, 3] (by decide) rfl ⟨arcV_ole _ _ _ _ _, ⟨rfl, rfl, rfl⟩, ⟨rfl, rfl, rfl⟩, ⟨rfl, rfl, rfl⟩, trivial⟩ (by repeat (first | exact trivial | refine ⟨rfl, rfl, ?_⟩))⟩
    · conv => whnf
      (try conv => whnf); repeat ((first | (with_reducible first | refine Br.tt ?_ | refine Br.ff ?_ | refine Br.nt ?_ | refine Br.nf ?_) | ((with_reducible refine Br.yk ?_ ?_); omega) | ((with_reducible refine Br.yd ?_ ?_); omega) | ((with_reducible refine Br.nd ?_ ?_); omega) | ((with_reducible refine Br.nyd ?_ ?_); omega) | ((with_reducible refine Br.nnd ?_ ?_); omega) | ((with_reducible refine Br.yd ?_ ?_); decide) | ((with_reducible refine Br.nyd ?_ ?_); decide)); conv => whnf)
      refine VCallF.rd [0] h6 (by decide) (hlt_of rfl) ?_ rfl rfl rfl rfl ?_
      · exact ⟨arcV_ole _ _ _ _ _, trivial⟩
      cases b6
      · conv => whnf
        (try conv => whnf); repeat ((first | (with_reducible first | refine Br.tt ?_ | refine Br.ff ?_ | refine Br.nt ?_ | refine Br.nf ?_) | ((with_reducible refine Br.yk ?_ ?_); omega) | ((with_reducible refine Br.yd ?_ ?_); omega) | ((with_reducible refine Br.nd ?_ ?_); omega) | ((with_reducible refine Br.nyd ?_ ?_); omega) | ((with_reducible refine Br.nnd ?_ ?_); omega) | ((with_reducible refine Br.yd ?_ ?_); decide) | ((with_reducible refine Br.nyd ?_ ?_); decide)); conv => whnf)
        exact VRet.dr [_] _ rfl rfl ⟨arcV_ok _ _ _ _ _, trivial⟩ rfl ⟨rfl, rfl⟩
      · conv => whnf
        (try conv => whnf); repeat ((first | (with_reducible first | refine Br.tt ?_ | refine Br.ff ?_ | refine Br.nt ?_ | refine Br.nf ?_) | ((with_reducible refine Br.yk ?_ ?_); omega) | ((with_reducible refine Br.yd ?_ ?_); omega) | ((with_reducible refine Br.nd ?_ ?_); omega) | ((with_reducible refine Br.nyd ?_ ?_); omega) | ((with_reducible refine Br.nnd ?_ ?_); omega) | ((with_reducible refine Br.yd ?_ ?_); decide) | ((with_reducible refine Br.nyd ?_ ?_); decide)); conv => whnf)
        exact ⟨1, _, _, by decide, ⟨(.inr (.inr (.inr (.inr (.inr (.inr (⟨rfl, rfl, rfl, rfl, rfl, rfl, rfl, rfl⟩))))))), rfl⟩, WeakE.of [0, 1, 2, 3] (by decide) rfl ⟨arcV_ole _ _ _ _ _, ⟨rfl, rfl, rfl⟩, ⟨rfl, rfl, rfl⟩, ⟨rfl, rfl, rfl⟩, trivial⟩ (by repeat (first | exact trivial | refine ⟨rfl, rfl, ?_⟩))⟩
    · conv => whnf
      (try conv => whnf); repeat ((first | (with_reducible first | refine Br.tt ?_ | refine Br.ff ?_ | refine Br.nt ?_ | refine Br.nf ?_) | ((with_reducible refine Br.yk ?_ ?_); omega) | ((with_reducible refine Br.yd ?_ ?_); omega) | ((with_reducible refine Br.nd ?_ ?_); omega) | ((with_reducible refine Br.nyd ?_ ?_); omega) | ((with_reducible refine Br.nnd ?_ ?_); omega) | ((with_reducible refine Br.yd ?_ ?_); decide) | ((with_reducible refine Br.nyd ?_ ?_); decide)); conv => whnf)
      exact VRet.dr [_] _ rfl rfl ⟨arcV_ok _ _ _ _ _, trivial⟩ rfl ⟨rfl, rfl⟩
end
end Vm
end Go.Proofs.YtcafmkekkcbamaaGreat
namespace Go.Proofs.YtcafmkekkcbamaaGreat
open Go.RowKit
namespace Vm
attribute [local irreducible] VCallF VYield VLoop VRet inK
set_option maxRecDepth 100000

def amI (x n : Int) : Int := (x.tmod n + n).tmod n
theorem tmod_lt (x : Int) {n : Int} (hn : 0 < n) : x.tmod n < n := Int.tmod_lt_of_pos x hn
theorem tmod_gt (x : Int) {n : Int} (hn : 0 < n) : -n < x.tmod n := Int.lt_tmod_of_pos x hn
theorem tmod_nn {x : Int} (n : Int) (hx : 0 ≤ x) : 0 ≤ x.tmod n := Int.tmod_nonneg n hx
theorem amI_nn (x : Int) {n : Int} (hn : 0 < n) : 0 ≤ amI x n := tmod_nn _ (by have := tmod_gt x hn; omega)
theorem amI_lt (x : Int) {n : Int} (hn : 0 < n) : amI x n < n := tmod_lt _ hn

theorem among_c (x n : Int) (hn : 0 < n) (hn2 : n < 2 ^ 60) : VCalls Tryz.prog 69 [.int .i64 x, .int .i64 n] [] (fun v M' => v = .int .i64 (amI x n) ∧ M' = []) := by
  have h1 := tmod_gt x hn
  have h2 := tmod_lt x hn
  refine VCalls.ok2 f69_ok mixed rfl ?_
  conv => whnf
  (try conv => whnf); repeat ((first | (with_reducible first | refine Br.tt ?_ | refine Br.ff ?_ | refine Br.nt ?_ | refine Br.nf ?_) | ((with_reducible refine Br.yk ?_ ?_); omega) | ((with_reducible refine Br.yd ?_ ?_); omega) | ((with_reducible refine Br.nd ?_ ?_); omega) | ((with_reducible refine Br.nyd ?_ ?_); omega) | ((with_reducible refine Br.nnd ?_ ?_); omega) | ((with_reducible refine Br.yd ?_ ?_); decide) | ((with_reducible refine Br.nyd ?_ ?_); decide)); conv => whnf)
  exact VRet.dr [] _ rfl rfl trivial rfl ⟨rfl, rfl⟩
end Vm
end Go.Proofs.YtcafmkekkcbamaaGreat
namespace Go.Proofs.YtcafmkekkcbamaaGreat
open Go.RowKit
namespace Vm
attribute [local irreducible] VCallF VYield VLoop VRet inK
set_option maxRecDepth 100000

/-- A right net's numbers, of at most so many vertices. -/
structure RightN (verts N S T : Int) : Prop where
  n2 : 2 ≤ N
  nv : N ≤ verts
  s0 : 0 ≤ S
  sn : S < N
  t0 : 0 ≤ T
  tn : T < N
  ne : S ≠ T
structure RightA (N : Int) (l : Nat) (f t c : Nat → Int) : Prop where
  f0 : ∀ i, i < l → 0 ≤ f i
  fn : ∀ i, i < l → f i < N
  t0 : ∀ i, i < l → 0 ≤ t i
  tn : ∀ i, i < l → t i < N
  c0 : ∀ i, i < l → 0 ≤ c i
  cb : ∀ i, i < l → c i < 1125899906842624
def setF (f : Nat → Int) (i : Nat) (x : Int) (j : Nat) : Int := if j = i then x else f j
theorem setF_lt {f : Nat → Int} {i j : Nat} {x : Int} (h : j < i) : setF f i x j = f j := by unfold setF; rw [if_neg (by omega)]
theorem setF_eq {f : Nat → Int} {i : Nat} {x : Int} : setF f i x i = x := by unfold setF; rw [if_pos rfl]
theorem RightA.add {N : Int} {l : Nat} {f t c : Nat → Int} (h : RightA N l f t c) {a b d : Int} (ha : 0 ≤ a) (ha2 : a < N) (hb : 0 ≤ b) (hb2 : b < N) (hd : 0 ≤ d) (hd2 : d < 1125899906842624) : RightA N (l + 1) (setF f l a) (setF t l b) (setF c l d) := by
  refine ⟨fun i hi => ?_, fun i hi => ?_, fun i hi => ?_, fun i hi => ?_, fun i hi => ?_, fun i hi => ?_⟩
  all_goals
    rcases Nat.lt_or_ge i l with h' | h'
    · rw [setF_lt h']
      first | exact h.f0 i h' | exact h.fn i h' | exact h.t0 i h' | exact h.tn i h' | exact h.c0 i h' | exact h.cb i h'
    · have : i = l := by omega
      subst this
      rw [setF_eq]; assumption
theorem arcG_add (f t c : Nat → Int) (i : Nat) (a b d : Int) (src : Nat → Value) (h0 : src 0 = .int .i64 a) (h1 : src 1 = .int .i64 b) (h2 : src 2 = .int .i64 d) : ∀ j, j < (i + 1) * 3 → appG (i * 3) (arcG f t c) src j = arcG (setF f i a) (setF t i b) (setF c i d) j := by
  intro j hj
  unfold appG
  by_cases h : j < i * 3
  · have hb : Nat.blt j (i * 3) = true := by rw [Nat.blt_eq]; exact h
    rw [hb]
    have h3 : j / 3 < i := by omega
    show arcG f t c j = _
    unfold arcG
    rw [setF_lt h3, setF_lt h3, setF_lt h3]
  · have hb : Nat.blt j (i * 3) = false := by
      cases hx : Nat.blt j (i * 3) with
      | false => rfl
      | true => rw [Nat.blt_eq] at hx; exact absurd hx h
    rw [hb]
    show src (j - i * 3) = _
    have h3 : j / 3 = i := by omega
    unfold arcG
    rw [h3, setF_eq, setF_eq, setF_eq]
    have hc : j % 3 = 0 ∨ j % 3 = 1 ∨ j % 3 = 2 := by omega
    rcases hc with hc | hc | hc
    · rw [if_pos hc, show j - i * 3 = 0 by omega, h0]
    · rw [if_neg (by omega), if_pos hc, show j - i * 3 = 1 by omega, h1]
    · rw [if_neg (by omega), if_neg (by omega), show j - i * 3 = 2 by omega, h2]

theorem arcG_one (f t c : Nat → Int) (a b d : Int) : ∀ j, j < (0 + 1) * 3 → ([.int .i64 a, .int .i64 b, .int .i64 d] : List Value).getD j undef = arcG (setF f 0 a) (setF t 0 b) (setF c 0 d) j :=
  fun j hj => arcG_add f t c 0 a b d (fun i => ([.int .i64 a, .int .i64 b, .int .i64 d] : List Value).getD i undef) rfl rfl rfl j hj
def outM (N S T : Int) (i : Nat) : VObj := .cells [.int .i64 N, .int .i64 S, .int .i64 T, .slice (if i = 0 then none else some ⟨3, 0, none⟩) i i] 24
def capI (x : Int) : Int := (if x < 0 then -(x + 1) else x).tmod 1125899906842624

section
variable {N S T : Int} {ad : Option Addr} {l k : Nat} (f t c : Nat → Int)
def someI (N' S' T' : Int) (l k n : Nat) (f t c : Nat → Int) (m : Nat) (E : Env) (M : VMem) : Prop := ∃ (i : Nat) (z : Int) (f' t' c' : Nat → Int), (i : Int) = z ∧ i ≤ n ∧ m = n - i ∧ RightA N' i f' t' c' ∧
  E = [(51, .int .i64 z), (50, .int .i64 n), (49, .slice (some ⟨0, 0, none⟩) n k), (7, .pointer (some ⟨2, 0, none⟩)), (6, .pointer (some ⟨1, 0, none⟩))] ∧
  ((i = 0 ∧ M = [arcV l f t c, .cells [.int .i64 0, .int .i64 0, .int .i64 0, .slice none 0 0] 24, .cells [.int .i64 N', .int .i64 S', .int .i64 T', .slice none 0 0] 24]) ∨
   (0 < i ∧ M = [arcV l f t c, .cells [.int .i64 0, .int .i64 0, .int .i64 0, .slice none 0 0] 24, .cells [.int .i64 N', .int .i64 S', .int .i64 T', .slice (some ⟨3, 0, none⟩) i i] 24, .arr 3 (i * 3) (arcG f' t' c') 131]))
theorem some_c (hs : At0 ad l) (hlk : l ≤ k) (hk : k ≤ 9223372036854775807) (hc : ∀ i, i < l → -9223372036854775808 ≤ c i ∧ c i ≤ 9223372036854775807) (verts : Int) (arcs : Nat) (hv : 2 ≤ verts) (hv2 : verts ≤ 1000) (ha : arcs ≤ 1000) :
    VCalls Tryz.prog 23 [netV N S T ad l k, .int .i64 verts, .int .i64 arcs] [arcV l f t c]
    (fun v M' => ∃ N' S' T' l' f' t' c', RightN verts N' S' T' ∧ RightA N' l' f' t' c' ∧ l' ≤ arcs ∧
      ((l' = 0 ∧ v = netV N' S' T' none 0 0 ∧ M' = [arcV l f t c]) ∨ (v = netV N' S' T' (some ⟨1, 0, none⟩) l' l' ∧ M' = [arcV l f t c, .arr 3 (l' * 3) (arcG f' t' c') 131]))) := by
  rcases hs with ⟨rfl, rfl⟩ | rfl
  · refine VCalls.ok2 f23_ok mixed rfl ?_
    have h1 := amI_nn N (n := verts - 1) (by omega)
    have h2 := amI_lt N (n := verts - 1) (by omega)
    conv => whnf
    (try conv => whnf); repeat ((first | (with_reducible first | refine Br.tt ?_ | refine Br.ff ?_ | refine Br.nt ?_ | refine Br.nf ?_) | ((with_reducible refine Br.yk ?_ ?_); omega) | ((with_reducible refine Br.yd ?_ ?_); omega) | ((with_reducible refine Br.nd ?_ ?_); omega) | ((with_reducible refine Br.nyd ?_ ?_); omega) | ((with_reducible refine Br.nnd ?_ ?_); omega) | ((with_reducible refine Br.yd ?_ ?_); decide) | ((with_reducible refine Br.nyd ?_ ?_); decide)); conv => whnf)
    refine VCallF.rd [] (among_c N (verts - 1) (by omega) (by omega)) (by decide) (hlt_of rfl) ?_ rfl rfl rfl rfl ?_
    · trivial
    conv => whnf
    (try conv => whnf); repeat ((first | (with_reducible first | refine Br.tt ?_ | refine Br.ff ?_ | refine Br.nt ?_ | refine Br.nf ?_) | ((with_reducible refine Br.yk ?_ ?_); omega) | ((with_reducible refine Br.yd ?_ ?_); omega) | ((with_reducible refine Br.nd ?_ ?_); omega) | ((with_reducible refine Br.nyd ?_ ?_); omega) | ((with_reducible refine Br.nnd ?_ ?_); omega) | ((with_reducible refine Br.yd ?_ ?_); decide) | ((with_reducible refine Br.nyd ?_ ?_); decide)); conv => whnf)
    refine VCallF.rd [] (among_c S _ (by omega) (by omega)) (by decide) (hlt_of rfl) ?_ rfl rfl rfl rfl ?_
    · trivial
    conv => whnf
    refine VCallF.rd [] (among_c T _ (by omega) (by omega)) (by decide) (hlt_of rfl) ?_ rfl rfl rfl rfl ?_
    · trivial
    conv => whnf
    have h3 := amI_nn S (n := 2 + amI N (verts - 1)) (by omega)
    have h4 := amI_lt S (n := 2 + amI N (verts - 1)) (by omega)
    have h5 := amI_nn T (n := 2 + amI N (verts - 1)) (by omega)
    have h6 := amI_lt T (n := 2 + amI N (verts - 1)) (by omega)
    have hn : ∃ n : Nat, (if (arcs : Int) < ((0 : Nat) : Int) then (arcs : Int) else ((0 : Nat) : Int)) = (n : Int) ∧ n ≤ arcs ∧ n ≤ 0 := by
      by_cases h : (arcs : Int) < ((0 : Nat) : Int)
      · exact ⟨arcs, by rw [if_pos h], Nat.le_refl _, by omega⟩
      · exact ⟨0, by rw [if_neg h], by omega, Nat.le_refl _⟩
    obtain ⟨n, hn, hna, hnl⟩ := hn
    have hn0 : n = 0 := by omega
    subst hn0
    refine Br.bd (fun h hb => ?_) (fun h hb => ?_)
    conv => whnf
    (try conv => whnf); repeat ((first | (with_reducible first | refine Br.tt ?_ | refine Br.ff ?_ | refine Br.nt ?_ | refine Br.nf ?_) | ((with_reducible refine Br.yk ?_ ?_); omega) | ((with_reducible refine Br.yd ?_ ?_); omega) | ((with_reducible refine Br.nd ?_ ?_); omega) | ((with_reducible refine Br.nyd ?_ ?_); omega) | ((with_reducible refine Br.nnd ?_ ?_); omega) | ((with_reducible refine Br.yd ?_ ?_); decide) | ((with_reducible refine Br.nyd ?_ ?_); decide)); conv => whnf)
    have h7 := tmod_lt (amI S (2 + amI N (verts - 1)) + 1) (n := 2 + amI N (verts - 1)) (by omega)
    have h8 := tmod_nn (x := amI S (2 + amI N (verts - 1)) + 1) (2 + amI N (verts - 1)) (by omega)
    have h9 : amI S (2 + amI N (verts - 1)) ≠ (amI S (2 + amI N (verts - 1)) + 1).tmod (2 + amI N (verts - 1)) := by
      rcases Int.lt_or_le (amI S (2 + amI N (verts - 1)) + 1) (2 + amI N (verts - 1)) with hlt | hge
      · rw [Int.tmod_eq_of_lt (by omega) hlt]; omega
      · have e : amI S (2 + amI N (verts - 1)) + 1 = 2 + amI N (verts - 1) := by omega
        rw [e, Int.tmod_self]; omega
    rw [hn]
    generalize (amI S (2 + amI N (verts - 1)) + 1).tmod (2 + amI N (verts - 1)) = T' at *
    generalize amI S (2 + amI N (verts - 1)) = S' at *
    have hr : RightN verts (2 + amI N (verts - 1)) S' T' := ⟨by omega, by omega, h3, h4, h8, h7, h9⟩
    rotate_left
    conv => whnf
    (try conv => whnf); repeat ((first | (with_reducible first | refine Br.tt ?_ | refine Br.ff ?_ | refine Br.nt ?_ | refine Br.nf ?_) | ((with_reducible refine Br.yk ?_ ?_); omega) | ((with_reducible refine Br.yd ?_ ?_); omega) | ((with_reducible refine Br.nd ?_ ?_); omega) | ((with_reducible refine Br.nyd ?_ ?_); omega) | ((with_reducible refine Br.nnd ?_ ?_); omega) | ((with_reducible refine Br.yd ?_ ?_); decide) | ((with_reducible refine Br.nyd ?_ ?_); decide)); conv => whnf)
    rw [hn]
    generalize amI T (2 + amI N (verts - 1)) = T' at *
    generalize amI S (2 + amI N (verts - 1)) = S' at *
    have hr : RightN verts (2 + amI N (verts - 1)) S' T' := ⟨by omega, by omega, h3, h4, h5, h6, h⟩
    all_goals
      have hn2 := hr.n2
      have hnv := hr.nv
      clear hb hn h1 h2
      generalize 2 + amI N (verts - 1) = N' at *
      refine VLoop.intro (fun m E M => E = [(51, .int .i64 0), (50, .int .i64 0), (7, .pointer (some ⟨2, 0, none⟩)), (6, .pointer (some ⟨1, 0, none⟩))] ∧ M = [arcV 0 f t c, .cells [.int .i64 0, .int .i64 0, .int .i64 0, .slice none 0 0] 24, .cells [.int .i64 N', .int .i64 S', .int .i64 T', .slice none 0 0] 24]) 0 _ _ ⟨rfl, rfl⟩ (WeakE.of [0, 2, 3] (by decide) rfl ⟨arcV_ole _ _ _ _ _, ⟨rfl, rfl, rfl⟩, ⟨rfl, rfl, rfl⟩, trivial⟩ (by repeat (first | exact trivial | refine ⟨rfl, rfl, ?_⟩))) ?_
      rintro m E M ⟨rfl, rfl⟩
      conv => whnf
      (try conv => whnf); repeat ((first | (with_reducible first | refine Br.tt ?_ | refine Br.ff ?_ | refine Br.nt ?_ | refine Br.nf ?_) | ((with_reducible refine Br.yk ?_ ?_); omega) | ((with_reducible refine Br.yd ?_ ?_); omega) | ((with_reducible refine Br.nd ?_ ?_); omega) | ((with_reducible refine Br.nyd ?_ ?_); omega) | ((with_reducible refine Br.nnd ?_ ?_); omega) | ((with_reducible refine Br.yd ?_ ?_); decide) | ((with_reducible refine Br.nyd ?_ ?_); decide)); conv => whnf)
      exact VRet.dr [_] _ rfl rfl ⟨arcV_ok _ _ _ _ _, trivial⟩ rfl ⟨N', S', T', 0, f, t, c, hr, ⟨by omega, by omega, by omega, by omega, by omega, by omega⟩, Nat.zero_le _, .inl ⟨rfl, rfl, rfl⟩⟩
  · refine VCalls.ok2 f23_ok mixed rfl ?_
    have h1 := amI_nn N (n := verts - 1) (by omega)
    have h2 := amI_lt N (n := verts - 1) (by omega)
    conv => whnf
    (try conv => whnf); repeat ((first | (with_reducible first | refine Br.tt ?_ | refine Br.ff ?_ | refine Br.nt ?_ | refine Br.nf ?_) | ((with_reducible refine Br.yk ?_ ?_); omega) | ((with_reducible refine Br.yd ?_ ?_); omega) | ((with_reducible refine Br.nd ?_ ?_); omega) | ((with_reducible refine Br.nyd ?_ ?_); omega) | ((with_reducible refine Br.nnd ?_ ?_); omega) | ((with_reducible refine Br.yd ?_ ?_); decide) | ((with_reducible refine Br.nyd ?_ ?_); decide)); conv => whnf)
    refine VCallF.rd [] (among_c N (verts - 1) (by omega) (by omega)) (by decide) (hlt_of rfl) ?_ rfl rfl rfl rfl ?_
    · trivial
    conv => whnf
    (try conv => whnf); repeat ((first | (with_reducible first | refine Br.tt ?_ | refine Br.ff ?_ | refine Br.nt ?_ | refine Br.nf ?_) | ((with_reducible refine Br.yk ?_ ?_); omega) | ((with_reducible refine Br.yd ?_ ?_); omega) | ((with_reducible refine Br.nd ?_ ?_); omega) | ((with_reducible refine Br.nyd ?_ ?_); omega) | ((with_reducible refine Br.nnd ?_ ?_); omega) | ((with_reducible refine Br.yd ?_ ?_); decide) | ((with_reducible refine Br.nyd ?_ ?_); decide)); conv => whnf)
    refine VCallF.rd [] (among_c S _ (by omega) (by omega)) (by decide) (hlt_of rfl) ?_ rfl rfl rfl rfl ?_
    · trivial
    conv => whnf
    refine VCallF.rd [] (among_c T _ (by omega) (by omega)) (by decide) (hlt_of rfl) ?_ rfl rfl rfl rfl ?_
    · trivial
    conv => whnf
    have h3 := amI_nn S (n := 2 + amI N (verts - 1)) (by omega)
    have h4 := amI_lt S (n := 2 + amI N (verts - 1)) (by omega)
    have h5 := amI_nn T (n := 2 + amI N (verts - 1)) (by omega)
    have h6 := amI_lt T (n := 2 + amI N (verts - 1)) (by omega)
    have hn : ∃ n : Nat, (if (arcs : Int) < (l : Int) then (arcs : Int) else (l : Int)) = (n : Int) ∧ n ≤ arcs ∧ n ≤ l := by
      by_cases h : (arcs : Int) < (l : Int)
      · exact ⟨arcs, by rw [if_pos h], Nat.le_refl _, by omega⟩
      · exact ⟨l, by rw [if_neg h], by omega, Nat.le_refl _⟩
    obtain ⟨n, hn, hna, hnl⟩ := hn
    refine Br.bd (fun h hb => ?_) (fun h hb => ?_)
    conv => whnf
    (try conv => whnf); repeat ((first | (with_reducible first | refine Br.tt ?_ | refine Br.ff ?_ | refine Br.nt ?_ | refine Br.nf ?_) | ((with_reducible refine Br.yk ?_ ?_); omega) | ((with_reducible refine Br.yd ?_ ?_); omega) | ((with_reducible refine Br.nd ?_ ?_); omega) | ((with_reducible refine Br.nyd ?_ ?_); omega) | ((with_reducible refine Br.nnd ?_ ?_); omega) | ((with_reducible refine Br.yd ?_ ?_); decide) | ((with_reducible refine Br.nyd ?_ ?_); decide)); conv => whnf)
    have h7 := tmod_lt (amI S (2 + amI N (verts - 1)) + 1) (n := 2 + amI N (verts - 1)) (by omega)
    have h8 := tmod_nn (x := amI S (2 + amI N (verts - 1)) + 1) (2 + amI N (verts - 1)) (by omega)
    have h9 : amI S (2 + amI N (verts - 1)) ≠ (amI S (2 + amI N (verts - 1)) + 1).tmod (2 + amI N (verts - 1)) := by
      rcases Int.lt_or_le (amI S (2 + amI N (verts - 1)) + 1) (2 + amI N (verts - 1)) with hlt | hge
      · rw [Int.tmod_eq_of_lt (by omega) hlt]; omega
      · have e : amI S (2 + amI N (verts - 1)) + 1 = 2 + amI N (verts - 1) := by omega
        rw [e, Int.tmod_self]; omega
    rw [hn]
    generalize (amI S (2 + amI N (verts - 1)) + 1).tmod (2 + amI N (verts - 1)) = T' at *
    generalize amI S (2 + amI N (verts - 1)) = S' at *
    have hr : RightN verts (2 + amI N (verts - 1)) S' T' := ⟨by omega, by omega, h3, h4, h8, h7, h9⟩
    rotate_left
    conv => whnf
    (try conv => whnf); repeat ((first | (with_reducible first | refine Br.tt ?_ | refine Br.ff ?_ | refine Br.nt ?_ | refine Br.nf ?_) | ((with_reducible refine Br.yk ?_ ?_); omega) | ((with_reducible refine Br.yd ?_ ?_); omega) | ((with_reducible refine Br.nd ?_ ?_); omega) | ((with_reducible refine Br.nyd ?_ ?_); omega) | ((with_reducible refine Br.nnd ?_ ?_); omega) | ((with_reducible refine Br.yd ?_ ?_); decide) | ((with_reducible refine Br.nyd ?_ ?_); decide)); conv => whnf)
    rw [hn]
    generalize amI T (2 + amI N (verts - 1)) = T' at *
    generalize amI S (2 + amI N (verts - 1)) = S' at *
    have hr : RightN verts (2 + amI N (verts - 1)) S' T' := ⟨by omega, by omega, h3, h4, h5, h6, h⟩
    all_goals
      have hn2 := hr.n2
      have hnv := hr.nv
      clear hb hn h1 h2
      generalize 2 + amI N (verts - 1) = N' at *
      refine VLoop.intro (someI N' S' T' l k n f t c) n _ _ ⟨0, 0, f, t, c, rfl, Nat.zero_le _, rfl, ⟨by omega, by omega, by omega, by omega, by omega, by omega⟩, rfl, .inl ⟨rfl, rfl⟩⟩ (WeakE.of [0, 2, 3] (by decide) rfl ⟨arcV_ole _ _ _ _ _, ⟨rfl, rfl, rfl⟩, ⟨rfl, rfl, rfl⟩, trivial⟩ (by repeat (first | exact trivial | refine ⟨rfl, rfl, ?_⟩))) ?_
      rintro m E M ⟨i, z, f', t', c', hz, hi, rfl, hA, rfl, ⟨h0, rfl⟩ | ⟨h0, rfl⟩⟩
      · subst h0
        conv => whnf
        refine Br.bd (fun h hb => ?_) (fun h hb => ?_)
        · have hci := hc 0 (by omega)
          have a1 := amI_nn (f 0) (n := N') (by omega)
          have a2 := amI_lt (f 0) (n := N') (by omega)
          have b1 := amI_nn (t 0) (n := N') (by omega)
          have b2 := amI_lt (t 0) (n := N') (by omega)
          conv => whnf
          (try conv => whnf); repeat ((first | (with_reducible first | refine Br.tt ?_ | refine Br.ff ?_ | refine Br.nt ?_ | refine Br.nf ?_) | ((with_reducible refine Br.yk ?_ ?_); omega) | ((with_reducible refine Br.yd ?_ ?_); omega) | ((with_reducible refine Br.nd ?_ ?_); omega) | ((with_reducible refine Br.nyd ?_ ?_); omega) | ((with_reducible refine Br.nnd ?_ ?_); omega) | ((with_reducible refine Br.yd ?_ ?_); decide) | ((with_reducible refine Br.nyd ?_ ?_); decide)); conv => whnf)
          rw [arcG_z0 f t c hz, arcG_z1 f t c hz, arcG_z2 f t c hz]
          conv => whnf
          refine Br.bd (fun hg _ => ?_) (fun hg _ => ?_)
          all_goals
            conv => whnf
            (try conv => whnf); repeat ((first | (with_reducible first | refine Br.tt ?_ | refine Br.ff ?_ | refine Br.nt ?_ | refine Br.nf ?_) | ((with_reducible refine Br.yk ?_ ?_); omega) | ((with_reducible refine Br.yd ?_ ?_); omega) | ((with_reducible refine Br.nd ?_ ?_); omega) | ((with_reducible refine Br.nyd ?_ ?_); omega) | ((with_reducible refine Br.nnd ?_ ?_); omega) | ((with_reducible refine Br.yd ?_ ?_); decide) | ((with_reducible refine Br.nyd ?_ ?_); decide)); conv => whnf)
            apply exC
            · conv => whnf
              refine VCallF.rd [] (among_c (f 0) N' (by omega) (by omega)) (by decide) (hlt_of rfl) ?_ rfl rfl rfl rfl ?_
              · trivial
              · exact ⟨rfl, rfl⟩
            · rfl
            · rfl
            conv => whnf
            refine And.intro (by (conv => whnf); first | rfl | (refine Br.yd (by omega) ?_; rfl)) ?_; (try conv => whnf)
            refine And.intro (by (conv => whnf); first | rfl | (refine Br.yd (by omega) ?_; rfl)) ?_; (try conv => whnf)
            refine And.intro (by (conv => whnf); first | rfl | (refine Br.yd (by omega) ?_; rfl)) ?_; (try conv => whnf)
            conv => whnf
            apply exC
            · conv => whnf
              refine VCallF.rd [] (among_c (t 0) N' (by omega) (by omega)) (by decide) (hlt_of rfl) ?_ rfl rfl rfl rfl ?_
              · trivial
              · exact ⟨rfl, rfl⟩
            · rfl
            · rfl
            conv => whnf
            refine And.intro (by (conv => whnf); first | rfl | (refine Br.yd (by omega) ?_; rfl)) ?_; (try conv => whnf)
            conv => whnf
            (try conv => whnf); repeat ((first | (with_reducible first | refine Br.tt ?_ | refine Br.ff ?_ | refine Br.nt ?_ | refine Br.nf ?_) | ((with_reducible refine Br.yk ?_ ?_); omega) | ((with_reducible refine Br.yd ?_ ?_); omega) | ((with_reducible refine Br.nd ?_ ?_); omega) | ((with_reducible refine Br.nyd ?_ ?_); omega) | ((with_reducible refine Br.nnd ?_ ?_); omega) | ((with_reducible refine Br.yd ?_ ?_); decide) | ((with_reducible refine Br.nyd ?_ ?_); decide)); conv => whnf)
          · have d1 := tmod_nn (x := 0 - (c 0 + 1)) 1125899906842624 (by omega)
            have d2 := tmod_lt (0 - (c 0 + 1)) (n := 1125899906842624) (by omega)
            refine ⟨n - (0 + 1), _, _, by omega, ⟨0 + 1, z + 1, setF f' 0 (amI (f 0) N'), setF t' 0 (amI (t 0) N'), setF c' 0 ((0 - (c 0 + 1)).tmod 1125899906842624), by omega, by omega, rfl, hA.add a1 a2 b1 b2 d1 d2, rfl, .inr ⟨Nat.succ_pos _, rfl⟩⟩, WeakE.of [0, 1, 2, 5] (by decide) rfl ⟨arcV_ole _ _ _ _ _, ⟨rfl, rfl, rfl⟩, ⟨rfl, rfl, rfl⟩, ⟨rfl, rfl, Nat.le_refl _, fun j hj => ⟨(arcG_ints _ _ _).ok _ _ _, ?_⟩⟩, trivial⟩ (by repeat (first | exact trivial | refine ⟨rfl, rfl, ?_⟩))⟩
            rw [(arcG_ints _ _ _).ren]
            exact arcG_one f' t' c' _ _ _ j hj
          · have d1 := tmod_nn (x := c 0) 1125899906842624 (by omega)
            have d2 := tmod_lt (c 0) (n := 1125899906842624) (by omega)
            refine ⟨n - (0 + 1), _, _, by omega, ⟨0 + 1, z + 1, setF f' 0 (amI (f 0) N'), setF t' 0 (amI (t 0) N'), setF c' 0 ((c 0).tmod 1125899906842624), by omega, by omega, rfl, hA.add a1 a2 b1 b2 d1 d2, rfl, .inr ⟨Nat.succ_pos _, rfl⟩⟩, WeakE.of [0, 1, 2, 5] (by decide) rfl ⟨arcV_ole _ _ _ _ _, ⟨rfl, rfl, rfl⟩, ⟨rfl, rfl, rfl⟩, ⟨rfl, rfl, Nat.le_refl _, fun j hj => ⟨(arcG_ints _ _ _).ok _ _ _, ?_⟩⟩, trivial⟩ (by repeat (first | exact trivial | refine ⟨rfl, rfl, ?_⟩))⟩
            rw [(arcG_ints _ _ _).ren]
            exact arcG_one f' t' c' _ _ _ j hj
        · conv => whnf
          (try conv => whnf); repeat ((first | (with_reducible first | refine Br.tt ?_ | refine Br.ff ?_ | refine Br.nt ?_ | refine Br.nf ?_) | ((with_reducible refine Br.yk ?_ ?_); omega) | ((with_reducible refine Br.yd ?_ ?_); omega) | ((with_reducible refine Br.nd ?_ ?_); omega) | ((with_reducible refine Br.nyd ?_ ?_); omega) | ((with_reducible refine Br.nnd ?_ ?_); omega) | ((with_reducible refine Br.yd ?_ ?_); decide) | ((with_reducible refine Br.nyd ?_ ?_); decide)); conv => whnf)
          exact VRet.dr [_] _ rfl rfl ⟨arcV_ok _ _ _ _ _, trivial⟩ rfl ⟨N', S', T', 0, f', t', c', hr, hA, Nat.zero_le _, .inl ⟨rfl, rfl, rfl⟩⟩
      · conv => whnf
        refine Br.bd (fun h hb => ?_) (fun h hb => ?_)
        · have hci := hc i (by omega)
          have a1 := amI_nn (f i) (n := N') (by omega)
          have a2 := amI_lt (f i) (n := N') (by omega)
          have b1 := amI_nn (t i) (n := N') (by omega)
          have b2 := amI_lt (t i) (n := N') (by omega)
          conv => whnf
          (try conv => whnf); repeat ((first | (with_reducible first | refine Br.tt ?_ | refine Br.ff ?_ | refine Br.nt ?_ | refine Br.nf ?_) | ((with_reducible refine Br.yk ?_ ?_); omega) | ((with_reducible refine Br.yd ?_ ?_); omega) | ((with_reducible refine Br.nd ?_ ?_); omega) | ((with_reducible refine Br.nyd ?_ ?_); omega) | ((with_reducible refine Br.nnd ?_ ?_); omega) | ((with_reducible refine Br.yd ?_ ?_); decide) | ((with_reducible refine Br.nyd ?_ ?_); decide)); conv => whnf)
          rw [arcG_z0 f t c hz, arcG_z1 f t c hz, arcG_z2 f t c hz]
          conv => whnf
          refine Br.bd (fun hg _ => ?_) (fun hg _ => ?_)
          all_goals
            conv => whnf
            (try conv => whnf); repeat ((first | (with_reducible first | refine Br.tt ?_ | refine Br.ff ?_ | refine Br.nt ?_ | refine Br.nf ?_) | ((with_reducible refine Br.yk ?_ ?_); omega) | ((with_reducible refine Br.yd ?_ ?_); omega) | ((with_reducible refine Br.nd ?_ ?_); omega) | ((with_reducible refine Br.nyd ?_ ?_); omega) | ((with_reducible refine Br.nnd ?_ ?_); omega) | ((with_reducible refine Br.yd ?_ ?_); decide) | ((with_reducible refine Br.nyd ?_ ?_); decide)); conv => whnf)
            apply exC
            · conv => whnf
              refine VCallF.rd [] (among_c (f i) N' (by omega) (by omega)) (by decide) (hlt_of rfl) ?_ rfl rfl rfl rfl ?_
              · trivial
              · exact ⟨rfl, rfl⟩
            · rfl
            · rfl
            conv => whnf
            refine And.intro (by (conv => whnf); first | rfl | (refine Br.yd (by omega) ?_; rfl)) ?_; (try conv => whnf)
            refine And.intro (by (conv => whnf); first | rfl | (refine Br.yd (by omega) ?_; rfl)) ?_; (try conv => whnf)
            refine And.intro (by (conv => whnf); first | rfl | (refine Br.yd (by omega) ?_; rfl)) ?_; (try conv => whnf)
            conv => whnf
            apply exC
            · conv => whnf
              refine VCallF.rd [] (among_c (t i) N' (by omega) (by omega)) (by decide) (hlt_of rfl) ?_ rfl rfl rfl rfl ?_
              · trivial
              · exact ⟨rfl, rfl⟩
            · rfl
            · rfl
            conv => whnf
            refine And.intro (by (conv => whnf); first | rfl | (refine Br.yd (by omega) ?_; rfl)) ?_; (try conv => whnf)
            conv => whnf
            (try conv => whnf); repeat ((first | (with_reducible first | refine Br.tt ?_ | refine Br.ff ?_ | refine Br.nt ?_ | refine Br.nf ?_) | ((with_reducible refine Br.yk ?_ ?_); omega) | ((with_reducible refine Br.yd ?_ ?_); omega) | ((with_reducible refine Br.nd ?_ ?_); omega) | ((with_reducible refine Br.nyd ?_ ?_); omega) | ((with_reducible refine Br.nnd ?_ ?_); omega) | ((with_reducible refine Br.yd ?_ ?_); decide) | ((with_reducible refine Br.nyd ?_ ?_); decide)); conv => whnf)
          · have d1 := tmod_nn (x := 0 - (c i + 1)) 1125899906842624 (by omega)
            have d2 := tmod_lt (0 - (c i + 1)) (n := 1125899906842624) (by omega)
            refine ⟨n - (i + 1), _, _, by omega, ⟨i + 1, z + 1, setF f' i (amI (f i) N'), setF t' i (amI (t i) N'), setF c' i ((0 - (c i + 1)).tmod 1125899906842624), by omega, by omega, rfl, hA.add a1 a2 b1 b2 d1 d2, rfl, .inr ⟨Nat.succ_pos _, rfl⟩⟩, WeakE.of [0, 1, 2, 6] (by decide) rfl ⟨arcV_ole _ _ _ _ _, ⟨rfl, rfl, rfl⟩, ⟨rfl, rfl, rfl⟩, ⟨rfl, rfl, Nat.le_refl _, fun j hj => ⟨(arcG_ints _ _ _).ok _ _ _, ?_⟩⟩, trivial⟩ (by repeat (first | exact trivial | refine ⟨rfl, rfl, ?_⟩))⟩
            rw [(arcG_ints _ _ _).ren]
            exact arcG_add f' t' c' i _ _ _ _ rfl rfl rfl j hj
          · have d1 := tmod_nn (x := c i) 1125899906842624 (by omega)
            have d2 := tmod_lt (c i) (n := 1125899906842624) (by omega)
            refine ⟨n - (i + 1), _, _, by omega, ⟨i + 1, z + 1, setF f' i (amI (f i) N'), setF t' i (amI (t i) N'), setF c' i ((c i).tmod 1125899906842624), by omega, by omega, rfl, hA.add a1 a2 b1 b2 d1 d2, rfl, .inr ⟨Nat.succ_pos _, rfl⟩⟩, WeakE.of [0, 1, 2, 6] (by decide) rfl ⟨arcV_ole _ _ _ _ _, ⟨rfl, rfl, rfl⟩, ⟨rfl, rfl, rfl⟩, ⟨rfl, rfl, Nat.le_refl _, fun j hj => ⟨(arcG_ints _ _ _).ok _ _ _, ?_⟩⟩, trivial⟩ (by repeat (first | exact trivial | refine ⟨rfl, rfl, ?_⟩))⟩
            rw [(arcG_ints _ _ _).ren]
            exact arcG_add f' t' c' i _ _ _ _ rfl rfl rfl j hj
        · conv => whnf
          (try conv => whnf); repeat ((first | (with_reducible first | refine Br.tt ?_ | refine Br.ff ?_ | refine Br.nt ?_ | refine Br.nf ?_) | ((with_reducible refine Br.yk ?_ ?_); omega) | ((with_reducible refine Br.yd ?_ ?_); omega) | ((with_reducible refine Br.nd ?_ ?_); omega) | ((with_reducible refine Br.nyd ?_ ?_); omega) | ((with_reducible refine Br.nnd ?_ ?_); omega) | ((with_reducible refine Br.yd ?_ ?_); decide) | ((with_reducible refine Br.nyd ?_ ?_); decide)); conv => whnf)
          exact VRet.of (v2 := netV N' S' T' (some ⟨1, 0, none⟩) i i) (M2 := [arcV l f t c, .arr 3 (i * 3) (arcG f' t' c') 131]) [0, 3] (by decide) rfl ⟨arcV_ole _ _ _ _ _, ⟨rfl, rfl, Nat.le_refl _, fun j hj => ⟨(arcG_ints _ _ _).ok _ _ _, ((arcG_ints _ _ _).ren _ _ _).symm⟩⟩, trivial⟩ rfl rfl ⟨N', S', T', i, f', t', c', hr, hA, by omega, .inr ⟨rfl, rfl⟩⟩
end
end Vm
end Go.Proofs.YtcafmkekkcbamaaGreat
namespace Go.Proofs.YtcafmkekkcbamaaGreat
open Go.RowKit
namespace Vm
attribute [local irreducible] VCallF VYield VLoop VRet inK
set_option maxRecDepth 100000

def intG (h : Nat → Int) (i : Nat) : Value := .int .i64 (h i)
theorem intG_ints (h : Nat → Int) : ints (intG h) := fun _ => .inl ⟨_, _, rfl⟩
def boolG (h : Nat → Bool) (i : Nat) : Value := .bool (h i)
theorem boolG_ints (h : Nat → Bool) : ints (boolG h) := fun _ => .inr ⟨_, rfl⟩
theorem updG_int (h : Nat → Int) (i : Nat) (x : Int) : updG (intG h) i (.int .i64 x) = intG (setF h i x) := by
  funext j
  unfold updG intG setF
  by_cases hj : j = i
  · subst hj; rw [Nat.beq_refl, if_pos rfl]; rfl
  · have : Nat.beq j i = false := by
      cases hb : Nat.beq j i with
      | false => rfl
      | true => exact absurd (Nat.eq_of_beq_eq_true hb) hj
    rw [this, if_neg hj]; rfl
theorem setF_ne {f : Nat → Int} {i j : Nat} {x : Int} (h : j ≠ i) : setF f i x j = f j := by unfold setF; rw [if_neg h]
/-- An object of numbers, as it is to be. -/
theorem intO {σ : Sig} {g : Nat → Value} {h : Nat → Int} {n : Nat} {X : TypeId} (hp : ∀ j, j < n → g j = intG h j) : OLe σ (some (.arr 1 n g X)) (.arr 1 n (intG h) X) :=
  ⟨rfl, rfl, Nat.le_refl _, fun j hj => ⟨(intG_ints h).ok _ _ _, by rw [(intG_ints h).ren]; exact hp j hj⟩⟩
theorem intO2 {σ : Sig} {o : Option VObj} {g : Nat → Value} {h : Nat → Int} {m n : Nat} {X : TypeId} (ho : o = some (.arr 1 m g X)) (hm : n ≤ m) (hp : ∀ j, j < n → g j = intG h j) : OLe σ o (.arr 1 n (intG h) X) := by
  subst ho
  exact ⟨rfl, rfl, hm, fun j hj => ⟨(intG_ints h).ok _ _ _, by rw [(intG_ints h).ren]; exact hp j hj⟩⟩
theorem netC_ole {σ : Sig} {N S T : Int} {ad : Option Addr} {l k : Nat} {X : TypeId} (hs : At0 ad l) (h0 : σ = 0 :: σ.tail) : OLe σ (some (.cells [.int .i64 N, .int .i64 S, .int .i64 T, .slice ad l k] X)) (.cells [.int .i64 N, .int .i64 S, .int .i64 T, .slice ad l k] X) := by
  rw [h0]
  rcases hs with ⟨rfl, rfl⟩ | rfl
  · exact ⟨rfl, rfl, rfl⟩
  · exact ⟨rfl, rfl, rfl⟩

/-- How many ends of arcs (but loops) a vertex is, of the first ones. -/
def dg (f t : Nat → Int) (v : Int) : Nat → Int
  | 0 => 0
  | n + 1 => dg f t v n + (if f n = t n then 0 else (if f n = v then 1 else 0) + (if t n = v then 1 else 0))
def preF (f t : Nat → Int) (l : Nat) : Nat → Int
  | 0 => 0
  | v + 1 => preF f t l v + dg f t v l
theorem dg_nn (f t : Nat → Int) (v : Int) : ∀ n, 0 ≤ dg f t v n
  | 0 => Int.le_refl _
  | n + 1 => by have := dg_nn f t v n; simp only [dg]; split <;> (try split) <;> (try split) <;> omega
theorem dg_le (f t : Nat → Int) (v : Int) : ∀ n, dg f t v n ≤ 2 * n
  | 0 => Int.le_refl _
  | n + 1 => by have := dg_le f t v n; simp only [dg]; split <;> (try split) <;> (try split) <;> omega
theorem dg_mono (f t : Nat → Int) (v : Int) (n : Nat) : ∀ m, n ≤ m → dg f t v n ≤ dg f t v m
  | 0, h => by have : n = 0 := by omega
               subst this; exact Int.le_refl _
  | m + 1, h => by
    rcases Nat.lt_or_ge n (m + 1) with h' | h'
    · have := dg_mono f t v n m (by omega)
      simp only [dg]; split <;> (try split) <;> (try split) <;> omega
    · have : n = m + 1 := by omega
      subst this; exact Int.le_refl _
theorem preF_mono (f t : Nat → Int) (l u : Nat) : ∀ v, u ≤ v → preF f t l u ≤ preF f t l v
  | 0, h => by have : u = 0 := by omega
               subst this; exact Int.le_refl _
  | v + 1, h => by
    rcases Nat.lt_or_ge u (v + 1) with h' | h'
    · have := preF_mono f t l u v (by omega)
      have := dg_nn f t v l
      simp only [preF]; omega
    · have : u = v + 1 := by omega
      subst this; exact Int.le_refl _
/-- All of them: two of each arc, at most. -/
def inN (x : Int) (v : Nat) : Int := if 0 ≤ x ∧ x < v then 1 else 0
theorem preF_sum (f t : Nat → Int) (v : Nat) : ∀ l, preF f t (l + 1) v = preF f t l v + (if f l = t l then 0 else inN (f l) v + inN (t l) v) := by
  intro l
  induction v with
  | zero => simp only [preF, inN]; split <;> (try rw [if_neg (by omega), if_neg (by omega)]) <;> rfl
  | succ v ih =>
    simp only [preF, dg]
    rw [ih]
    by_cases h : f l = t l
    · rw [if_pos h, if_pos h, if_pos h]; omega
    · rw [if_neg h, if_neg h, if_neg h]
      unfold inN
      split <;> split <;> split <;> split <;> split <;> split <;> omega
theorem preF_le (f t : Nat → Int) (v : Nat) : ∀ l : Nat, preF f t l v ≤ 2 * (l : Int)
  | 0 => by
    induction v with
    | zero => simp [preF]
    | succ v ih => simp only [preF, dg]; omega
  | l + 1 => by
    have := preF_le f t v l
    rw [preF_sum]
    unfold inN
    split <;> (try split) <;> (try split) <;> omega
def cnt (f t : Nat → Int) (i j : Nat) : Int := if j = 0 then 0 else dg f t ((j - 1 : Nat) : Int) i
def mid (f t : Nat → Int) (l v j : Nat) : Int := if j ≤ v then preF f t l j else dg f t ((j - 1 : Nat) : Int) l
theorem setF_or (f : Nat → Int) (i j : Nat) (x : Int) : setF f i x j = x ∨ setF f i x j = f j := by
  unfold setF; split
  · exact .inl rfl
  · exact .inr rfl
theorem mid_0 (f t : Nat → Int) (l j : Nat) : cnt f t l j = mid f t l 0 j := by
  unfold cnt mid
  by_cases h : j = 0
  · subst h; rfl
  · rw [if_neg h, if_neg (by omega)]
theorem mid_step (f t : Nat → Int) (l v j : Nat) {z : Int} (hz : (v : Int) = z) : setF (mid f t l v) (0 + (z + 1).toNat * 1) (mid f t l v (0 + (z + 1).toNat * 1) + mid f t l v (0 + z.toNat * 1)) j = mid f t l (v + 1) j := by
  have h1 : 0 + (z + 1).toNat * 1 = v + 1 := by omega
  have h2 : 0 + z.toNat * 1 = v := by omega
  rw [h1, h2]
  by_cases hj : j = v + 1
  · subst hj
    rw [setF_eq]
    unfold mid
    rw [if_neg (by omega), if_pos (Nat.le_refl _), if_pos (Nat.le_refl _)]
    simp only [preF, Nat.add_sub_cancel]
    omega
  · rw [setF_ne hj]
    unfold mid
    by_cases hv : j ≤ v
    · rw [if_pos hv, if_pos (by omega)]
    · rw [if_neg hv, if_neg (by omega)]
theorem preF_nn (f t : Nat → Int) (l : Nat) : ∀ v, 0 ≤ preF f t l v
  | 0 => Int.le_refl _
  | v + 1 => by have := preF_nn f t l v; have := dg_nn f t v l; simp only [preF]; omega
theorem mid_b (f t : Nat → Int) (l v j : Nat) : 0 ≤ mid f t l v j ∧ mid f t l v j ≤ 2 * l := by
  unfold mid
  split
  · exact ⟨preF_nn _ _ _ _, preF_le _ _ _ _⟩
  · exact ⟨dg_nn _ _ _ _, dg_le _ _ _ _⟩
theorem cnt_b (f t : Nat → Int) (i j : Nat) : 0 ≤ cnt f t i j ∧ cnt f t i j ≤ 2 * i := by
  unfold cnt
  split
  · omega
  · exact ⟨dg_nn _ _ _ _, dg_le _ _ _ _⟩
theorem cnt_same (f t : Nat → Int) (i j : Nat) (h : f i = t i) : cnt f t i j = cnt f t (i + 1) j := by
  unfold cnt
  split
  · rfl
  · simp only [dg]; rw [if_pos h]; omega
theorem cnt_step (f t : Nat → Int) (i j : Nat) (h : f i ≠ t i) (hf : 0 ≤ f i) (ht : 0 ≤ t i) :
    setF (setF (cnt f t i) (0 + (f i + 1).toNat * 1) (cnt f t i (0 + (f i + 1).toNat * 1) + 1)) (0 + (t i + 1).toNat * 1) (setF (cnt f t i) (0 + (f i + 1).toNat * 1) (cnt f t i (0 + (f i + 1).toNat * 1) + 1) (0 + (t i + 1).toNat * 1) + 1) j = cnt f t (i + 1) j := by
  have h1 : 0 + (f i + 1).toNat * 1 = (f i).toNat + 1 := by omega
  have h2 : 0 + (t i + 1).toNat * 1 = (t i).toNat + 1 := by omega
  rw [h1, h2, setF_ne (show (t i).toNat + 1 ≠ (f i).toNat + 1 by omega)]
  cases j with
  | zero =>
    rw [setF_ne (by omega), setF_ne (by omega)]; rfl
  | succ j =>
    have e : ∀ m q, cnt f t m (q + 1) = dg f t (q : Nat) m := fun m q => rfl
    rw [e (i + 1) j]
    simp only [dg]
    rw [if_neg h]
    by_cases hb : j = (t i).toNat
    · subst hb
      rw [setF_eq, e, if_neg (by omega), if_pos (by omega)]; omega
    · rw [setF_ne (by omega)]
      by_cases ha : j = (f i).toNat
      · subst ha
        rw [setF_eq, e, if_pos (by omega), if_neg (by omega)]; omega
      · rw [setF_ne (by omega), e, if_neg (by omega), if_neg (by omega)]; omega
end Vm
end Go.Proofs.YtcafmkekkcbamaaGreat
namespace Go.Proofs.YtcafmkekkcbamaaGreat
open Go.RowKit
namespace Vm
attribute [local irreducible] VCallF VYield VLoop VRet inK
set_option maxRecDepth 100000
section
variable {S T : Int} {ad : Option Addr} {l k : Nat} (f t c : Nat → Int)

theorem counted_c (N : Int) (n : Nat) (hN : (n : Int) = N) (hn : n ≤ 5000) (hs : At0 ad l) (hl : l ≤ 20000) (hf0 : ∀ i, i < l → 0 ≤ f i) (hfn : ∀ i, i < l → f i < N) (ht0 : ∀ i, i < l → 0 ≤ t i) (htn : ∀ i, i < l → t i < N) :
    VCalls Tryz.prog 109 [netV N S T ad l k] [arcV l f t c] (fun v M' => v = .slice (some ⟨1, 0, none⟩) (n + 1) (n + 1) ∧ M' = [arcV l f t c, .arr 1 (n + 1) (intG (preF f t l)) 3]) := by
  rcases hs with ⟨rfl, hl0⟩ | rfl
  · refine VCalls.ok2 f109_ok mixed rfl ?_
    conv => whnf
    (try conv => whnf); repeat ((first | (with_reducible first | refine Br.tt ?_ | refine Br.ff ?_ | refine Br.nt ?_ | refine Br.nf ?_) | ((with_reducible refine Br.yk ?_ ?_); omega) | ((with_reducible refine Br.yd ?_ ?_); omega) | ((with_reducible refine Br.nd ?_ ?_); omega) | ((with_reducible refine Br.nyd ?_ ?_); omega) | ((with_reducible refine Br.nnd ?_ ?_); omega) | ((with_reducible refine Br.yd ?_ ?_); decide) | ((with_reducible refine Br.nyd ?_ ?_); decide)); conv => whnf)
    rw [show (N + 1).toNat = n + 1 by omega]
    refine VLoop.intro (fun m E M => ∃ (i : Nat) (z : Int), (i : Int) = z ∧ i ≤ l ∧ m = l - i ∧ E = [(14, .int .i64 z), (13, .int .i64 l), (12, .slice none l k), (3, .slice (some ⟨2, 0, none⟩) (n + 1) (n + 1)), (1, .pointer (some ⟨1, 0, none⟩))] ∧
      M = [arcV l f t c, .cells [.int .i64 N, .int .i64 S, .int .i64 T, .slice none l k] 24, .arr 1 (n + 1) (intG (cnt f t i)) 3]) l _ _ ⟨0, 0, rfl, Nat.zero_le _, rfl, rfl, rfl⟩ ?_ ?_
    · refine WeakE.of [0, 1, 2] (by decide) rfl ⟨arcV_ole _ _ _ _ _, ⟨rfl, rfl, rfl⟩, ?_, trivial⟩ ?_
      · refine intO2 (h := cnt f t 0) rfl (by omega) fun j hj => ?_
        show ([Value.int .i64 0] : List Value).getD (j % 1) undef = _
        rw [Nat.mod_one]
        unfold intG cnt
        split <;> rfl
      · exact (by repeat (first | exact trivial | refine ⟨rfl, rfl, ?_⟩))
    rintro m E M ⟨i, z, hz, hi, rfl, rfl, rfl⟩
    conv => whnf
    refine Br.bd (fun h hb => ?_) (fun h hb => ?_)
    · exfalso; omega
    · have hil : i = l := by omega
      subst hil
      conv => whnf
      (try conv => whnf); repeat ((first | (with_reducible first | refine Br.tt ?_ | refine Br.ff ?_ | refine Br.nt ?_ | refine Br.nf ?_) | ((with_reducible refine Br.yk ?_ ?_); omega) | ((with_reducible refine Br.yd ?_ ?_); omega) | ((with_reducible refine Br.nd ?_ ?_); omega) | ((with_reducible refine Br.nyd ?_ ?_); omega) | ((with_reducible refine Br.nnd ?_ ?_); omega) | ((with_reducible refine Br.yd ?_ ?_); decide) | ((with_reducible refine Br.nyd ?_ ?_); decide)); conv => whnf)
      refine VLoop.intro (fun m E M => ∃ (v : Nat) (z : Int), (v : Int) = z ∧ v ≤ n ∧ m = n - v ∧ E = [(42, .int .i64 z), (41, .int .i64 N), (3, .slice (some ⟨1, 0, none⟩) (n + 1) (n + 1))] ∧ M = [arcV i f t c, .arr 1 (n + 1) (intG (mid f t i v)) 3]) n _ _ ⟨0, 0, rfl, Nat.zero_le _, rfl, rfl, rfl⟩ ?_ ?_
      · refine WeakE.of [0, 2] (by decide) rfl ⟨arcV_ole _ _ _ _ _, intO2 (h := mid f t i 0) rfl (Nat.le_refl _) fun j hj => ?_, trivial⟩ (by repeat (first | exact trivial | refine ⟨rfl, rfl, ?_⟩))
        unfold intG
        rw [mid_0]
      rintro m E M ⟨v, y, hy, hv, rfl, rfl, rfl⟩
      have hb1 := mid_b f t i v (0 + (y + 1).toNat * 1)
      have hb2 := mid_b f t i v (0 + y.toNat * 1)
      conv => whnf
      refine Br.bd (fun h' hb' => ?_) (fun h' hb' => ?_)
      · conv => whnf
        (try conv => whnf); repeat ((first | (with_reducible first | refine Br.tt ?_ | refine Br.ff ?_ | refine Br.nt ?_ | refine Br.nf ?_) | ((with_reducible refine Br.yk ?_ ?_); omega) | ((with_reducible refine Br.yd ?_ ?_); omega) | ((with_reducible refine Br.nd ?_ ?_); omega) | ((with_reducible refine Br.nyd ?_ ?_); omega) | ((with_reducible refine Br.nnd ?_ ?_); omega) | ((with_reducible refine Br.yd ?_ ?_); decide) | ((with_reducible refine Br.nyd ?_ ?_); decide)); conv => whnf)
        refine ⟨n - (v + 1), _, _, by omega, ⟨v + 1, y + 1, by omega, by omega, rfl, rfl, rfl⟩, WeakE.of [0, 1] (by decide) rfl ⟨arcV_ole _ _ _ _ _, intO2 (h := mid f t i (v + 1)) rfl (Nat.le_refl _) fun j hj => ?_, trivial⟩ (by repeat (first | exact trivial | refine ⟨rfl, rfl, ?_⟩))⟩
        show updG _ _ _ j = _
        rw [updG_int]
        unfold intG
        rw [mid_step f t i v j hy]
      · have hvn : v = n := by omega
        subst hvn
        conv => whnf
        (try conv => whnf); repeat ((first | (with_reducible first | refine Br.tt ?_ | refine Br.ff ?_ | refine Br.nt ?_ | refine Br.nf ?_) | ((with_reducible refine Br.yk ?_ ?_); omega) | ((with_reducible refine Br.yd ?_ ?_); omega) | ((with_reducible refine Br.nd ?_ ?_); omega) | ((with_reducible refine Br.nyd ?_ ?_); omega) | ((with_reducible refine Br.nnd ?_ ?_); omega) | ((with_reducible refine Br.yd ?_ ?_); decide) | ((with_reducible refine Br.nyd ?_ ?_); decide)); conv => whnf)
        exact VRet.of (v2 := .slice (some ⟨1, 0, none⟩) (v + 1) (v + 1)) (M2 := [arcV i f t c, .arr 1 (v + 1) (intG (preF f t i)) 3]) [0, 1] (by decide) rfl ⟨arcV_ole _ _ _ _ _, intO2 (h := preF f t i) rfl (Nat.le_refl _) fun j hj => by
          unfold intG mid
          rw [if_pos (by omega)], trivial⟩ rfl rfl ⟨rfl, rfl⟩
  · refine VCalls.ok2 f109_ok mixed rfl ?_
    conv => whnf
    (try conv => whnf); repeat ((first | (with_reducible first | refine Br.tt ?_ | refine Br.ff ?_ | refine Br.nt ?_ | refine Br.nf ?_) | ((with_reducible refine Br.yk ?_ ?_); omega) | ((with_reducible refine Br.yd ?_ ?_); omega) | ((with_reducible refine Br.nd ?_ ?_); omega) | ((with_reducible refine Br.nyd ?_ ?_); omega) | ((with_reducible refine Br.nnd ?_ ?_); omega) | ((with_reducible refine Br.yd ?_ ?_); decide) | ((with_reducible refine Br.nyd ?_ ?_); decide)); conv => whnf)
    rw [show (N + 1).toNat = n + 1 by omega]
    refine VLoop.intro (fun m E M => ∃ (i : Nat) (z : Int), (i : Int) = z ∧ i ≤ l ∧ m = l - i ∧ E = [(14, .int .i64 z), (13, .int .i64 l), (12, .slice (some ⟨0, 0, none⟩) l k), (3, .slice (some ⟨2, 0, none⟩) (n + 1) (n + 1)), (1, .pointer (some ⟨1, 0, none⟩))] ∧
      M = [arcV l f t c, .cells [.int .i64 N, .int .i64 S, .int .i64 T, .slice (some ⟨0, 0, none⟩) l k] 24, .arr 1 (n + 1) (intG (cnt f t i)) 3]) l _ _ ⟨0, 0, rfl, Nat.zero_le _, rfl, rfl, rfl⟩ ?_ ?_
    · refine WeakE.of [0, 1, 2] (by decide) rfl ⟨arcV_ole _ _ _ _ _, ⟨rfl, rfl, rfl⟩, ?_, trivial⟩ ?_
      · refine intO2 (h := cnt f t 0) rfl (by omega) fun j hj => ?_
        show ([Value.int .i64 0] : List Value).getD (j % 1) undef = _
        rw [Nat.mod_one]
        unfold intG cnt
        split <;> rfl
      · exact (by repeat (first | exact trivial | refine ⟨rfl, rfl, ?_⟩))
    rintro m E M ⟨i, z, hz, hi, rfl, rfl, rfl⟩
    conv => whnf
    refine Br.bd (fun h hb => ?_) (fun h hb => ?_)
    · conv => whnf
      (try conv => whnf); repeat ((first | (with_reducible first | refine Br.tt ?_ | refine Br.ff ?_ | refine Br.nt ?_ | refine Br.nf ?_) | ((with_reducible refine Br.yk ?_ ?_); omega) | ((with_reducible refine Br.yd ?_ ?_); omega) | ((with_reducible refine Br.nd ?_ ?_); omega) | ((with_reducible refine Br.nyd ?_ ?_); omega) | ((with_reducible refine Br.nnd ?_ ?_); omega) | ((with_reducible refine Br.yd ?_ ?_); decide) | ((with_reducible refine Br.nyd ?_ ?_); decide)); conv => whnf)
      rw [arcG_z0 f t c hz, arcG_z1 f t c hz, arcG_z2 f t c hz]
      conv => whnf
      have hf0i := hf0 i (by omega)
      have hfni := hfn i (by omega)
      have ht0i := ht0 i (by omega)
      have htni := htn i (by omega)
      refine Br.nb (fun hft => ?_) (fun hft => ?_)
      · conv => whnf
        have hb1 := cnt_b f t i (0 + (f i + 1).toNat * 1)
        (try conv => whnf); repeat ((first | (with_reducible first | refine Br.tt ?_ | refine Br.ff ?_ | refine Br.nt ?_ | refine Br.nf ?_) | ((with_reducible refine Br.yk ?_ ?_); omega) | ((with_reducible refine Br.yd ?_ ?_); omega) | ((with_reducible refine Br.nd ?_ ?_); omega) | ((with_reducible refine Br.nyd ?_ ?_); omega) | ((with_reducible refine Br.nnd ?_ ?_); omega) | ((with_reducible refine Br.yd ?_ ?_); decide) | ((with_reducible refine Br.nyd ?_ ?_); decide)); conv => whnf)
        rw [updG_int]
        have hb2 := cnt_b f t i (0 + (t i + 1).toNat * 1)
        have hb3 := setF_or (cnt f t i) (0 + (f i + 1).toNat * 1) (0 + (t i + 1).toNat * 1) (cnt f t i (0 + (f i + 1).toNat * 1) + 1)
        conv => whnf
        (try conv => whnf); repeat ((first | (with_reducible first | refine Br.tt ?_ | refine Br.ff ?_ | refine Br.nt ?_ | refine Br.nf ?_) | ((with_reducible refine Br.yk ?_ ?_); omega) | ((with_reducible refine Br.yd ?_ ?_); omega) | ((with_reducible refine Br.nd ?_ ?_); omega) | ((with_reducible refine Br.nyd ?_ ?_); omega) | ((with_reducible refine Br.nnd ?_ ?_); omega) | ((with_reducible refine Br.yd ?_ ?_); decide) | ((with_reducible refine Br.nyd ?_ ?_); decide)); conv => whnf)
        refine ⟨l - (i + 1), _, _, by omega, ⟨i + 1, z + 1, by omega, by omega, rfl, rfl, rfl⟩, WeakE.of [0, 1, 2] (by decide) rfl ⟨arcV_ole _ _ _ _ _, ⟨rfl, rfl, rfl⟩, intO2 (h := cnt f t (i + 1)) rfl (Nat.le_refl _) fun j hj => ?_, trivial⟩ (by repeat (first | exact trivial | refine ⟨rfl, rfl, ?_⟩))⟩
        show updG _ _ _ j = _
        rw [updG_int]
        unfold intG
        rw [cnt_step f t i j hft hf0i ht0i]
      · conv => whnf
        (try conv => whnf); repeat ((first | (with_reducible first | refine Br.tt ?_ | refine Br.ff ?_ | refine Br.nt ?_ | refine Br.nf ?_) | ((with_reducible refine Br.yk ?_ ?_); omega) | ((with_reducible refine Br.yd ?_ ?_); omega) | ((with_reducible refine Br.nd ?_ ?_); omega) | ((with_reducible refine Br.nyd ?_ ?_); omega) | ((with_reducible refine Br.nnd ?_ ?_); omega) | ((with_reducible refine Br.yd ?_ ?_); decide) | ((with_reducible refine Br.nyd ?_ ?_); decide)); conv => whnf)
        refine ⟨l - (i + 1), _, _, by omega, ⟨i + 1, z + 1, by omega, by omega, rfl, rfl, rfl⟩, WeakE.of [0, 1, 2] (by decide) rfl ⟨arcV_ole _ _ _ _ _, ⟨rfl, rfl, rfl⟩, intO2 (h := cnt f t (i + 1)) rfl (Nat.le_refl _) fun j hj => ?_, trivial⟩ (by repeat (first | exact trivial | refine ⟨rfl, rfl, ?_⟩))⟩
        unfold intG
        rw [cnt_same f t i j hft]
    · have hil : i = l := by omega
      subst hil
      conv => whnf
      (try conv => whnf); repeat ((first | (with_reducible first | refine Br.tt ?_ | refine Br.ff ?_ | refine Br.nt ?_ | refine Br.nf ?_) | ((with_reducible refine Br.yk ?_ ?_); omega) | ((with_reducible refine Br.yd ?_ ?_); omega) | ((with_reducible refine Br.nd ?_ ?_); omega) | ((with_reducible refine Br.nyd ?_ ?_); omega) | ((with_reducible refine Br.nnd ?_ ?_); omega) | ((with_reducible refine Br.yd ?_ ?_); decide) | ((with_reducible refine Br.nyd ?_ ?_); decide)); conv => whnf)
      refine VLoop.intro (fun m E M => ∃ (v : Nat) (z : Int), (v : Int) = z ∧ v ≤ n ∧ m = n - v ∧ E = [(42, .int .i64 z), (41, .int .i64 N), (3, .slice (some ⟨1, 0, none⟩) (n + 1) (n + 1))] ∧ M = [arcV i f t c, .arr 1 (n + 1) (intG (mid f t i v)) 3]) n _ _ ⟨0, 0, rfl, Nat.zero_le _, rfl, rfl, rfl⟩ ?_ ?_
      · refine WeakE.of [0, 2] (by decide) rfl ⟨arcV_ole _ _ _ _ _, intO2 (h := mid f t i 0) rfl (Nat.le_refl _) fun j hj => ?_, trivial⟩ (by repeat (first | exact trivial | refine ⟨rfl, rfl, ?_⟩))
        unfold intG
        rw [mid_0]
      rintro m E M ⟨v, y, hy, hv, rfl, rfl, rfl⟩
      have hb1 := mid_b f t i v (0 + (y + 1).toNat * 1)
      have hb2 := mid_b f t i v (0 + y.toNat * 1)
      conv => whnf
      refine Br.bd (fun h' hb' => ?_) (fun h' hb' => ?_)
      · conv => whnf
        (try conv => whnf); repeat ((first | (with_reducible first | refine Br.tt ?_ | refine Br.ff ?_ | refine Br.nt ?_ | refine Br.nf ?_) | ((with_reducible refine Br.yk ?_ ?_); omega) | ((with_reducible refine Br.yd ?_ ?_); omega) | ((with_reducible refine Br.nd ?_ ?_); omega) | ((with_reducible refine Br.nyd ?_ ?_); omega) | ((with_reducible refine Br.nnd ?_ ?_); omega) | ((with_reducible refine Br.yd ?_ ?_); decide) | ((with_reducible refine Br.nyd ?_ ?_); decide)); conv => whnf)
        refine ⟨n - (v + 1), _, _, by omega, ⟨v + 1, y + 1, by omega, by omega, rfl, rfl, rfl⟩, WeakE.of [0, 1] (by decide) rfl ⟨arcV_ole _ _ _ _ _, intO2 (h := mid f t i (v + 1)) rfl (Nat.le_refl _) fun j hj => ?_, trivial⟩ (by repeat (first | exact trivial | refine ⟨rfl, rfl, ?_⟩))⟩
        show updG _ _ _ j = _
        rw [updG_int]
        unfold intG
        rw [mid_step f t i v j hy]
      · have hvn : v = n := by omega
        subst hvn
        conv => whnf
        (try conv => whnf); repeat ((first | (with_reducible first | refine Br.tt ?_ | refine Br.ff ?_ | refine Br.nt ?_ | refine Br.nf ?_) | ((with_reducible refine Br.yk ?_ ?_); omega) | ((with_reducible refine Br.yd ?_ ?_); omega) | ((with_reducible refine Br.nd ?_ ?_); omega) | ((with_reducible refine Br.nyd ?_ ?_); omega) | ((with_reducible refine Br.nnd ?_ ?_); omega) | ((with_reducible refine Br.yd ?_ ?_); decide) | ((with_reducible refine Br.nyd ?_ ?_); decide)); conv => whnf)
        exact VRet.of (v2 := .slice (some ⟨1, 0, none⟩) (v + 1) (v + 1)) (M2 := [arcV i f t c, .arr 1 (v + 1) (intG (preF f t i)) 3]) [0, 1] (by decide) rfl ⟨arcV_ole _ _ _ _ _, intO2 (h := preF f t i) rfl (Nat.le_refl _) fun j hj => by
          unfold intG mid
          rw [if_pos (by omega)], trivial⟩ rfl rfl ⟨rfl, rfl⟩
end
end Vm
end Go.Proofs.YtcafmkekkcbamaaGreat
namespace Go.Proofs.YtcafmkekkcbamaaGreat
open Go.RowKit
namespace Vm
attribute [local irreducible] VCallF VYield VLoop VRet inK
set_option maxRecDepth 100000
theorem clone_c (o n k m : Nat) (h : Nat → Int) (hm : o + n ≤ m) (hn : n < 2 ^ 40) : VCalls Tryz.prog 98 [.slice (some ⟨0, o, none⟩) n k] [.view m (intG h)] (fun v M' => v = .slice (some ⟨1, 0, none⟩) n n ∧ M' = [.view m (intG h), .arr 1 n (intG fun i => h (o + i)) 3]) := by
  refine VCalls.ok2 f98_ok mixed rfl ?_
  conv => whnf
  (try conv => whnf); repeat ((first | (with_reducible first | refine Br.tt ?_ | refine Br.ff ?_ | refine Br.nt ?_ | refine Br.nf ?_) | ((with_reducible refine Br.yk ?_ ?_); omega) | ((with_reducible refine Br.yd ?_ ?_); omega) | ((with_reducible refine Br.nd ?_ ?_); omega) | ((with_reducible refine Br.nyd ?_ ?_); omega) | ((with_reducible refine Br.nnd ?_ ?_); omega) | ((with_reducible refine Br.yd ?_ ?_); decide) | ((with_reducible refine Br.nyd ?_ ?_); decide)); conv => whnf)
  refine ⟨fun i _ => rfl, ?_⟩
  conv => whnf
  (try conv => whnf); repeat ((first | (with_reducible first | refine Br.tt ?_ | refine Br.ff ?_ | refine Br.nt ?_ | refine Br.nf ?_) | ((with_reducible refine Br.yk ?_ ?_); omega) | ((with_reducible refine Br.yd ?_ ?_); omega) | ((with_reducible refine Br.nd ?_ ?_); omega) | ((with_reducible refine Br.nyd ?_ ?_); omega) | ((with_reducible refine Br.nnd ?_ ?_); omega) | ((with_reducible refine Br.yd ?_ ?_); decide) | ((with_reducible refine Br.nyd ?_ ?_); decide)); conv => whnf)
  refine VRet.of (v2 := .slice (some ⟨1, 0, none⟩) n n) (M2 := [.view m (intG h), .arr 1 n (intG fun i => h (o + i)) 3]) [0, 2] (by decide) rfl ⟨(intG_ints h).ole (.inl ⟨_, rfl, Nat.le_refl _⟩), intO2 rfl (by omega) fun j hj => rfl, trivial⟩ rfl ?_ ⟨rfl, rfl⟩
  show Value.slice _ _ _ = Value.slice _ _ _
  rw [show 0 + n = n by omega]; rfl
theorem clone64_c (o n k m : Nat) (h : Nat → Int) (hm : o + n ≤ m) (hn : n < 2 ^ 40) : VCalls Tryz.prog 82 [.slice (some ⟨0, o, none⟩) n k] [.view m (intG h)] (fun v M' => v = .slice (some ⟨1, 0, none⟩) n n ∧ M' = [.view m (intG h), .arr 1 n (intG fun i => h (o + i)) 2]) := by
  refine VCalls.ok2 f82_ok mixed rfl ?_
  conv => whnf
  (try conv => whnf); repeat ((first | (with_reducible first | refine Br.tt ?_ | refine Br.ff ?_ | refine Br.nt ?_ | refine Br.nf ?_) | ((with_reducible refine Br.yk ?_ ?_); omega) | ((with_reducible refine Br.yd ?_ ?_); omega) | ((with_reducible refine Br.nd ?_ ?_); omega) | ((with_reducible refine Br.nyd ?_ ?_); omega) | ((with_reducible refine Br.nnd ?_ ?_); omega) | ((with_reducible refine Br.yd ?_ ?_); decide) | ((with_reducible refine Br.nyd ?_ ?_); decide)); conv => whnf)
  refine ⟨fun i _ => rfl, ?_⟩
  conv => whnf
  (try conv => whnf); repeat ((first | (with_reducible first | refine Br.tt ?_ | refine Br.ff ?_ | refine Br.nt ?_ | refine Br.nf ?_) | ((with_reducible refine Br.yk ?_ ?_); omega) | ((with_reducible refine Br.yd ?_ ?_); omega) | ((with_reducible refine Br.nd ?_ ?_); omega) | ((with_reducible refine Br.nyd ?_ ?_); omega) | ((with_reducible refine Br.nnd ?_ ?_); omega) | ((with_reducible refine Br.yd ?_ ?_); decide) | ((with_reducible refine Br.nyd ?_ ?_); decide)); conv => whnf)
  refine VRet.of (v2 := .slice (some ⟨1, 0, none⟩) n n) (M2 := [.view m (intG h), .arr 1 n (intG fun i => h (o + i)) 2]) [0, 2] (by decide) rfl ⟨(intG_ints h).ole (.inl ⟨_, rfl, Nat.le_refl _⟩), intO2 rfl (by omega) fun j hj => rfl, trivial⟩ rfl ?_ ⟨rfl, rfl⟩
  show Value.slice _ _ _ = Value.slice _ _ _
  rw [show 0 + n = n by omega]; rfl
theorem clone64_e (o m : Nat) (h : Nat → Int) : VCalls Tryz.prog 82 [.slice (some ⟨0, o, some 0⟩) 0 0] [.view m (intG h)] (fun v M' => v = .slice (some ⟨1, 0, none⟩) 0 0 ∧ M' = [.view m (intG h), .arr 1 0 (intG fun i => h (o + i)) 2]) := by
  refine VCalls.ok2 f82_ok mixed rfl ?_
  conv => whnf
  (try conv => whnf); repeat ((first | (with_reducible first | refine Br.tt ?_ | refine Br.ff ?_ | refine Br.nt ?_ | refine Br.nf ?_) | ((with_reducible refine Br.yk ?_ ?_); omega) | ((with_reducible refine Br.yd ?_ ?_); omega) | ((with_reducible refine Br.nd ?_ ?_); omega) | ((with_reducible refine Br.nyd ?_ ?_); omega) | ((with_reducible refine Br.nnd ?_ ?_); omega) | ((with_reducible refine Br.yd ?_ ?_); decide) | ((with_reducible refine Br.nyd ?_ ?_); decide)); conv => whnf)
  refine VRet.of (v2 := .slice (some ⟨1, 0, none⟩) 0 0) (M2 := [.view m (intG h), .arr 1 0 (intG fun i => h (o + i)) 2]) [0, 2] (by decide) rfl ⟨(intG_ints h).ole (.inl ⟨_, rfl, Nat.le_refl _⟩), intO2 rfl (by omega) fun j hj => by omega, trivial⟩ rfl rfl ⟨rfl, rfl⟩
end Vm
end Go.Proofs.YtcafmkekkcbamaaGreat
namespace Go.Proofs.YtcafmkekkcbamaaGreat
open Go.RowKit
namespace Vm
attribute [local irreducible] VCallF VYield VLoop VRet inK
set_option maxRecDepth 100000

def sl1 (k n : Nat) : Value := .slice (some ⟨k, 0, none⟩) n n
/-- The cells of a row, whose lists lie from some number on. -/
def csrL (N S T : Int) (n A k : Nat) : List Value := [.int .i64 N, .int .i64 S, .int .i64 T, sl1 k (n + 1), sl1 (k + 1) A, sl1 (k + 2) A, sl1 (k + 3) A, sl1 (k + 4) A, sl1 (k + 5) A]
def csrG (N S T : Int) (n A k : Nat) (i : Nat) : Value := (csrL N S T n A k).getD i undef
def setB (f : Nat → Bool) (i : Nat) (x : Bool) (j : Nat) : Bool := if j = i then x else f j
theorem updG_bool (h : Nat → Bool) (i : Nat) (x : Bool) : updG (boolG h) i (.bool x) = boolG (setB h i x) := by
  funext j
  unfold updG boolG setB
  by_cases hj : j = i
  · subst hj; rw [Nat.beq_refl, if_pos rfl]; rfl
  · have : Nat.beq j i = false := by
      cases hb : Nat.beq j i with
      | false => rfl
      | true => exact absurd (Nat.eq_of_beq_eq_true hb) hj
    rw [this, if_neg hj]; rfl
theorem boolO2 {σ : Sig} {o : Option VObj} {g : Nat → Value} {h : Nat → Bool} {m n : Nat} {X : TypeId} (ho : o = some (.arr 1 m g X)) (hm : n ≤ m) (hp : ∀ j, j < n → g j = boolG h j) : OLe σ o (.arr 1 n (boolG h) X) := by
  subst ho
  exact ⟨rfl, rfl, hm, fun j hj => ⟨(boolG_ints h).ok _ _ _, by rw [(boolG_ints h).ren]; exact hp j hj⟩⟩
theorem intA_ok {m n : Nat} {h : Nat → Int} {X : TypeId} : okO m (.arr 1 n (intG h) X) := (intG_ints h).okA
theorem boolA_ok {m n : Nat} {h : Nat → Bool} {X : TypeId} : okO m (.arr 1 n (boolG h) X) := (boolG_ints h).okA
theorem intV_ok {m n : Nat} {h : Nat → Int} : okO m (.view n (intG h)) := (intG_ints h).okO
theorem boolV_ok {m n : Nat} {h : Nat → Bool} : okO m (.view n (boolG h)) := (boolG_ints h).okO

/-- What the making of a row works on: its own list of places, the row, its lists. -/
def putM (N S T : Int) (n A : Nat) (hd cp ac : Nat → Int) (bk : Nat → Bool) (nx : Nat → Int) : VMem :=
  [.view 1 (oneG (sl1 8 (n + 1))), .view 9 (csrG N S T n A 2), .gone, .arr 1 A (intG hd) 3, .gone, .arr 1 A (intG cp) 2, .arr 1 A (intG ac) 3, .arr 1 A (boolG bk) 4, .arr 1 (n + 1) (intG nx) 3]
theorem csrV_ole {σ : Sig} {N S T : Int} {n A k : Nat} (h : ∀ j, j < 9 → okN dep σ.length (csrG N S T n A k j) = true) (h2 : ∀ j, j < 9 → renN dep σ (csrG N S T n A k j) = csrG N S T n A k j) : OLe σ (some (.view 9 (csrG N S T n A k))) (.view 9 (csrG N S T n A k)) :=
  ⟨Nat.le_refl _, fun j hj => ⟨h j hj, (h2 j hj).symm⟩⟩
theorem below9 {p : Nat → Prop} (h0 : p 0) (h1 : p 1) (h2 : p 2) (h3 : p 3) (h4 : p 4) (h5 : p 5) (h6 : p 6) (h7 : p 7) (h8 : p 8) : ∀ j, j < 9 → p j := by
  intro j hj
  match j, hj with
  | 0, _ => exact h0
  | 1, _ => exact h1
  | 2, _ => exact h2
  | 3, _ => exact h3
  | 4, _ => exact h4
  | 5, _ => exact h5
  | 6, _ => exact h6
  | 7, _ => exact h7
  | 8, _ => exact h8
theorem put_c (N S T : Int) (n A : Nat) (hd cp ac : Nat → Int) (bk : Nat → Bool) (nx : Nat → Int) (u : Nat) (fr to most arc : Int) (back : Bool) (hu : (u : Int) = fr) (hun : u ≤ n) (h0 : 0 ≤ nx u) (hA : nx u < A) (hA2 : A < 2 ^ 40) :
    VCalls Tryz.prog 110 [.int .i64 fr, .int .i64 to, .int .i64 most, .int .i64 arc, .bool back, .pointer (some ⟨0, 0, none⟩), .pointer (some ⟨1, 0, none⟩)] (putM N S T n A hd cp ac bk nx)
      (fun v M' => v = .int .i64 (nx u) ∧ M' = putM N S T n A (setF hd (nx u).toNat to) (setF cp (nx u).toNat most) (setF ac (nx u).toNat arc) (setB bk (nx u).toNat back) (setF nx u (nx u + 1))) := by
  have hu2 : 0 + fr.toNat * 1 = u := by omega
  refine VCalls.ok2 f110_ok mixed rfl ?_
  conv => whnf
  (try conv => whnf); repeat ((first | (with_reducible first | refine Br.tt ?_ | refine Br.ff ?_ | refine Br.nt ?_ | refine Br.nf ?_) | ((with_reducible refine Br.yk ?_ ?_); omega) | ((with_reducible refine Br.yd ?_ ?_); omega) | ((with_reducible refine Br.nd ?_ ?_); omega) | ((with_reducible refine Br.nyd ?_ ?_); omega) | ((with_reducible refine Br.nnd ?_ ?_); omega) | ((with_reducible refine Br.yd ?_ ?_); decide) | ((with_reducible refine Br.nyd ?_ ?_); decide)); conv => whnf)
  rw [hu2]
  conv => whnf
  (try conv => whnf); repeat ((first | (with_reducible first | refine Br.tt ?_ | refine Br.ff ?_ | refine Br.nt ?_ | refine Br.nf ?_) | ((with_reducible refine Br.yk ?_ ?_); omega) | ((with_reducible refine Br.yd ?_ ?_); omega) | ((with_reducible refine Br.nd ?_ ?_); omega) | ((with_reducible refine Br.nyd ?_ ?_); omega) | ((with_reducible refine Br.nnd ?_ ?_); omega) | ((with_reducible refine Br.yd ?_ ?_); decide) | ((with_reducible refine Br.nyd ?_ ?_); decide)); conv => whnf)
  refine ⟨rfl, rfl, ?_⟩
  conv => whnf
  refine And.intro (by (conv => whnf); first | rfl | (refine Br.yd (by omega) ?_; rfl)) ?_; (try conv => whnf)
  refine And.intro (by (conv => whnf); first | rfl | (refine Br.yd (by omega) ?_; rfl)) ?_; (try conv => whnf)
  refine And.intro (by (conv => whnf); first | rfl | (refine Br.yd (by omega) ?_; rfl)) ?_; (try conv => whnf)
  conv => whnf
  (try conv => whnf); repeat ((first | (with_reducible first | refine Br.tt ?_ | refine Br.ff ?_ | refine Br.nt ?_ | refine Br.nf ?_) | ((with_reducible refine Br.yk ?_ ?_); omega) | ((with_reducible refine Br.yd ?_ ?_); omega) | ((with_reducible refine Br.nd ?_ ?_); omega) | ((with_reducible refine Br.nyd ?_ ?_); omega) | ((with_reducible refine Br.nnd ?_ ?_); omega) | ((with_reducible refine Br.yd ?_ ?_); decide) | ((with_reducible refine Br.nyd ?_ ?_); decide)); conv => whnf)
  refine ⟨rfl, rfl, ?_⟩
  conv => whnf
  refine And.intro (by (conv => whnf); first | rfl | (refine Br.yd (by omega) ?_; rfl)) ?_; (try conv => whnf)
  refine And.intro (by (conv => whnf); first | rfl | (refine Br.yd (by omega) ?_; rfl)) ?_; (try conv => whnf)
  conv => whnf
  (try conv => whnf); repeat ((first | (with_reducible first | refine Br.tt ?_ | refine Br.ff ?_ | refine Br.nt ?_ | refine Br.nf ?_) | ((with_reducible refine Br.yk ?_ ?_); omega) | ((with_reducible refine Br.yd ?_ ?_); omega) | ((with_reducible refine Br.nd ?_ ?_); omega) | ((with_reducible refine Br.nyd ?_ ?_); omega) | ((with_reducible refine Br.nnd ?_ ?_); omega) | ((with_reducible refine Br.yd ?_ ?_); decide) | ((with_reducible refine Br.nyd ?_ ?_); decide)); conv => whnf)
  refine ⟨rfl, rfl, ?_⟩
  conv => whnf
  refine And.intro (by (conv => whnf); first | rfl | (refine Br.yd (by omega) ?_; rfl)) ?_; (try conv => whnf)
  conv => whnf
  (try conv => whnf); repeat ((first | (with_reducible first | refine Br.tt ?_ | refine Br.ff ?_ | refine Br.nt ?_ | refine Br.nf ?_) | ((with_reducible refine Br.yk ?_ ?_); omega) | ((with_reducible refine Br.yd ?_ ?_); omega) | ((with_reducible refine Br.nd ?_ ?_); omega) | ((with_reducible refine Br.nyd ?_ ?_); omega) | ((with_reducible refine Br.nnd ?_ ?_); omega) | ((with_reducible refine Br.yd ?_ ?_); decide) | ((with_reducible refine Br.nyd ?_ ?_); decide)); conv => whnf)
  have hx : 0 + (nx u).toNat * 1 = (nx u).toNat := by omega
  refine VRet.of (v2 := .int .i64 (nx u)) (M2 := putM N S T n A (setF hd (nx u).toNat to) (setF cp (nx u).toNat most) (setF ac (nx u).toNat arc) (setB bk (nx u).toNat back) (setF nx u (nx u + 1))) [0, 1, 2, 3, 4, 5, 6, 7, 8] (by decide) rfl
    ⟨⟨Nat.le_refl _, fun _ _ => ⟨rfl, rfl⟩⟩, csrV_ole (below9 rfl rfl rfl rfl rfl rfl rfl rfl rfl) (below9 rfl rfl rfl rfl rfl rfl rfl rfl rfl), trivial,
     intO2 rfl (Nat.le_refl _) fun j hj => ?_, trivial, intO2 rfl (Nat.le_refl _) fun j hj => ?_, intO2 rfl (Nat.le_refl _) fun j hj => ?_, boolO2 rfl (Nat.le_refl _) fun j hj => ?_, intO2 rfl (Nat.le_refl _) fun j hj => ?_, trivial⟩ rfl rfl ⟨rfl, rfl⟩
  · show updG _ _ _ j = _
    rw [updG_int, hx]
  · show updG _ _ _ j = _
    rw [updG_int, hx]
  · show updG _ _ _ j = _
    rw [updG_int, hx]
  · show updG _ _ _ j = _
    rw [updG_bool, hx]
  · show updG _ _ _ j = _
    rw [updG_int, hu2]
end Vm
end Go.Proofs.YtcafmkekkcbamaaGreat
namespace Go.Proofs.YtcafmkekkcbamaaGreat
open Go.RowKit
namespace Vm
attribute [local irreducible] VCallF VYield VLoop VRet inK
set_option maxRecDepth 100000

theorem sumL_le {c : Nat → Int} {b : Int} : ∀ {n : Nat}, (∀ i, i < n → 0 ≤ c i ∧ c i ≤ b) → 0 ≤ sumL c n ∧ sumL c n ≤ n * b
  | 0, _ => by simp [sumL]
  | n + 1, h => by
    have h1 := sumL_le (n := n) fun i hi => h i (by omega)
    have h2 := h n (by omega)
    have e : ((n + 1 : Nat) : Int) * b = n * b + b := by rw [Int.natCast_add]; simp [Int.add_mul]
    rw [e]; simp only [sumL]; omega
theorem capsOk_of {c : Nat → Int} : ∀ {n : Nat}, n ≤ 1000 → (∀ i, i < n → 0 ≤ c i ∧ c i ≤ 1125899906842624) → capsOk c n = true
  | 0, _, _ => rfl
  | n + 1, hn, h => by
    have h1 := sumL_le (n := n) fun i hi => h i (by omega)
    have h2 := h n (by omega)
    have ih := capsOk_of (n := n) (by omega) fun i hi => h i (by omega)
    have e : (n : Int) * 1125899906842624 ≤ 1000 * 1125899906842624 := by omega
    simp only [capsOk, ih, capOk, Bool.true_and, Bool.and_eq_true, decide_eq_true_eq]
    omega
theorem allF_of {p : Nat → Bool} : ∀ {n : Nat}, (∀ i, i < n → p i = true) → allF p n = true
  | 0, _ => rfl
  | n + 1, h => by simp only [allF, allF_of (n := n) fun i hi => h i (by omega), h n (by omega), Bool.and_self]
theorem chk_right {verts N S T : Int} {l : Nat} {f t c : Nat → Int} (hv : verts ≤ 1000) (hl : l ≤ 1000) (hN : RightN verts N S T) (hA : RightA N l f t c) : netChk N S T l f t c = 0 := by
  have h1 := hN.n2
  have h2 := hN.nv
  have h3 := hN.s0
  have h4 := hN.sn
  have h5 := hN.t0
  have h6 := hN.tn
  have h7 := hN.ne
  unfold netChk
  rw [if_pos (by simp only [Bool.and_eq_true, decide_eq_true_eq]; omega), if_pos (by simp only [decide_eq_true_eq]; omega), if_pos (by simp only [Bool.and_eq_true, Bool.not_eq_true', decide_eq_true_eq, decide_eq_false_iff_not]; omega),
    if_pos (allF_of fun i hi => ?_), if_pos (allF_of fun i hi => ?_), if_pos (capsOk_of hl fun i hi => ⟨hA.c0 i hi, by have := hA.cb i hi; omega⟩)]
  · have := hA.c0 i hi
    simpa using this
  · have g1 := hA.f0 i hi
    have g2 := hA.fn i hi
    have g3 := hA.t0 i hi
    have g4 := hA.tn i hi
    unfold arcsOk
    simp only [Bool.and_eq_true, decide_eq_true_eq]; omega

/-- What is known of a row. -/
structure RowOk (N : Int) (n A : Nat) (fst hd rv cp : Nat → Int) : Prop where
  f0 : ∀ v, v ≤ n → 0 ≤ fst v
  fA : ∀ v, v ≤ n → fst v ≤ A
  fm : ∀ v, v < n → fst v ≤ fst (v + 1)
  h0 : ∀ j, j < A → 0 ≤ hd j
  hn : ∀ j, j < A → hd j < N
  r0 : ∀ j, j < A → 0 ≤ rv j
  rA : ∀ j, j < A → rv j < A
  c0 : ∀ j, j < A → 0 ≤ cp j
  cb : ∀ j, j < A → cp j < 1125899906842624
/-- .. as it is made. -/
structure RowI (N : Int) (n A l : Nat) (f t : Nat → Int) (i : Nat) (hd rv cp nx : Nat → Int) : Prop where
  h0 : ∀ j, j < A → 0 ≤ hd j
  hn : ∀ j, j < A → hd j < N
  r0 : ∀ j, j < A → 0 ≤ rv j
  rA : ∀ j, j < A → rv j < A
  c0 : ∀ j, j < A → 0 ≤ cp j
  cb : ∀ j, j < A → cp j < 1125899906842624
  nx : ∀ v, v < n → nx v = preF f t l v + dg f t v i
theorem setF_all {p : Int → Prop} {g : Nat → Int} {A a : Nat} {x : Int} (h : ∀ j, j < A → p (g j)) (hx : p x) : ∀ j, j < A → p (setF g a x j) := fun j hj => by
  unfold setF; split
  · exact hx
  · exact h j hj
theorem nx_lt {n A l : Nat} {f t : Nat → Int} {i : Nat} {nx : Nat → Int} (hA : (A : Int) = preF f t l n) (h : ∀ v, v < n → nx v = preF f t l v + dg f t v i) (hi : i < l) (hft : f i ≠ t i) {u : Nat} (hu : u < n) (he : f i = u ∨ t i = u) : 0 ≤ nx u ∧ nx u < A := by
  have h1 := preF_nn f t l u
  have h2 := dg_nn f t u i
  have h3 := preF_mono f t l (u + 1) n hu
  have h4 := dg_mono f t u (i + 1) l hi
  simp only [preF] at h3
  simp only [dg] at h4
  rw [if_neg hft] at h4
  rw [h u hu]
  rcases he with he | he
  · rw [if_pos he] at h4
    have : (0 : Int) ≤ (if t i = (u : Int) then 1 else 0) := by split <;> omega
    omega
  · rw [if_pos he] at h4
    have : (0 : Int) ≤ (if f i = (u : Int) then 1 else 0) := by split <;> omega
    omega
theorem RowI.same {N : Int} {n A l : Nat} {f t : Nat → Int} {i : Nat} {hd rv cp nx : Nat → Int} (h : RowI N n A l f t i hd rv cp nx) (hft : f i = t i) : RowI N n A l f t (i + 1) hd rv cp nx :=
  ⟨h.h0, h.hn, h.r0, h.rA, h.c0, h.cb, fun v hv => by rw [h.nx v hv]; simp only [dg]; rw [if_pos hft]; omega⟩
theorem RowI.step {N : Int} {n A l : Nat} {f t : Nat → Int} {i : Nat} {hd rv cp nx : Nat → Int} (h : RowI N n A l f t i hd rv cp nx) (hN : (n : Int) = N) (hft : f i ≠ t i) {u w p q : Nat} {x y ci : Int} (hu : (u : Int) = f i) (hw : (w : Int) = t i) (hx : x = f i) (hy : y = t i) (hun : u < n) (hwn : w < n)
    (hp : p < A) (hq : q < A) (hc0 : 0 ≤ ci) (hcb : ci < 1125899906842624) :
    RowI N n A l f t (i + 1) (setF (setF hd p y) q x) (setF (setF rv p q) q p) (setF (setF cp p ci) q 0) (setF (setF nx u (nx u + 1)) w (nx w + 1)) := by
  refine ⟨setF_all (setF_all h.h0 (by omega)) (by omega), setF_all (p := (· < N)) (setF_all (p := (· < N)) h.hn (by omega)) (by omega), setF_all (setF_all h.r0 (by omega)) (by omega), setF_all (p := (· < (A : Int))) (setF_all (p := (· < (A : Int))) h.rA (by omega)) (by omega),
    setF_all (setF_all h.c0 hc0) (by omega), setF_all (p := (· < (1125899906842624 : Int))) (setF_all (p := (· < (1125899906842624 : Int))) h.cb hcb) (by omega), fun v hv => ?_⟩
  simp only [dg]
  rw [if_neg hft]
  by_cases h1 : v = w
  · subst h1
    rw [setF_eq, h.nx v hv, if_neg (by omega), if_pos (by omega)]; omega
  · rw [setF_ne h1]
    by_cases h2 : v = u
    · subst h2
      rw [setF_eq, h.nx v hv, if_pos (by omega), if_neg (by omega)]; omega
    · rw [setF_ne h2, h.nx v hv, if_neg (by omega), if_neg (by omega)]; omega
end Vm
end Go.Proofs.YtcafmkekkcbamaaGreat
