/- The row of a net: made. -/
import Derived.Test.YtcafmkekkcbamaaGreatNetA
namespace Go.Proofs.YtcafmkekkcbamaaGreat
open Go.RowKit
namespace Vm
attribute [local irreducible] VCallF VYield VLoop VRet inK
set_option maxRecDepth 100000

def csrO (n A : Nat) (fst hd rv cp ac : Nat → Int) (bk : Nat → Bool) : VMem :=
  [.arr 1 (n + 1) (intG fst) 3, .arr 1 A (intG hd) 3, .arr 1 A (intG rv) 3, .arr 1 A (intG cp) 2, .arr 1 A (intG ac) 3, .arr 1 A (boolG bk) 4]
def zero9 : List Value := [.int .i64 0, .int .i64 0, .int .i64 0, .slice none 0 0, .slice none 0 0, .slice none 0 0, .slice none 0 0, .slice none 0 0, .slice none 0 0]
def makeM (N S T : Int) (n A l : Nat) (f t c : Nat → Int) (fst hd rv cp ac : Nat → Int) (bk : Nat → Bool) (nx : Nat → Int) : VMem :=
  [arcV l f t c, .cells zero9 29, .cells (csrL N S T n A 3) 29, .arr 1 (n + 1) (intG fst) 3, .arr 1 A (intG hd) 3, .arr 1 A (intG rv) 3, .arr 1 A (intG cp) 2, .arr 1 A (intG ac) 3, .arr 1 A (boolG bk) 4, .cells [sl1 10 (n + 1)] 25, .arr 1 (n + 1) (intG nx) 3]
theorem put0_ole {n : Nat} {X : TypeId} : OLe [9, 2, 3, 4, 5, 6, 7, 8, 10] (some (.cells [sl1 10 (n + 1)] X)) (.view 1 (oneG (sl1 8 (n + 1)))) := fun i hi => by
  match i, hi with
  | 0, _ => exact ⟨rfl, rfl⟩
theorem put1_ole {N S T : Int} {n A : Nat} {X : TypeId} : OLe [9, 2, 3, 4, 5, 6, 7, 8, 10] (some (.cells (csrL N S T n A 3) X)) (.view 9 (csrG N S T n A 2)) :=
  below9 (p := fun i => okN dep 9 (csrG N S T n A 2 i) = true ∧ (csrL N S T n A 3)[i]? = some (renN dep [9, 2, 3, 4, 5, 6, 7, 8, 10] (csrG N S T n A 2 i))) ⟨rfl, rfl⟩ ⟨rfl, rfl⟩ ⟨rfl, rfl⟩ ⟨rfl, rfl⟩ ⟨rfl, rfl⟩ ⟨rfl, rfl⟩ ⟨rfl, rfl⟩ ⟨rfl, rfl⟩ ⟨rfl, rfl⟩
theorem putM_ok (N S T : Int) (n A : Nat) (hd cp ac : Nat → Int) (bk : Nat → Bool) (nx : Nat → Int) : okM 9 (putM N S T n A hd cp ac bk nx) :=
  ⟨fun _ _ => rfl, below9 (p := fun i => okN dep 9 (csrG N S T n A 2 i) = true) rfl rfl rfl rfl rfl rfl rfl rfl rfl, trivial, intA_ok, trivial, intA_ok, intA_ok, boolA_ok, intA_ok, trivial⟩
def makeE (l : Nat) (ad : Option Addr) (k : Nat) (z : Int) : Env :=
  [(56, .int .i64 z), (55, .int .i64 l), (54, .slice ad l k), (8, .func (.func 110) #[] #[.pointer (some ⟨9, 0, none⟩), .pointer (some ⟨2, 0, none⟩)]), (5, .pointer (some ⟨2, 0, none⟩)), (2, .pointer (some ⟨1, 0, none⟩))]
section
variable {N S T : Int} {ad : Option Addr} {l k : Nat} (f t c : Nat → Int)
set_option maxHeartbeats 2000000 in
theorem make_c (verts : Int) (n : Nat) (hnN : (n : Int) = N) (hs : At0 ad l) (hl : l ≤ 1000) (hv : verts ≤ 1000) (hN : RightN verts N S T) (hR : RightA N l f t c) :
    VCalls Tryz.prog 50 [netV N S T ad l k] [arcV l f t c] (fun v M' => ∃ A fst hd rv cp ac bk, RowOk N n A fst hd rv cp ∧ A ≤ 2 * l ∧ v = .tuple ⟨[.agg ⟨csrL N S T n A 1⟩, .int .i64 0]⟩ ∧ M' = arcV l f t c :: csrO n A fst hd rv cp ac bk) := by
  have hchk := check_c (N := N) (S := S) (T := T) (k := k) f t c hs (by omega)
  rw [chk_right hv hl hN hR] at hchk
  have hcnt := counted_c (N := N) (S := S) (T := T) (k := k) f t c n hnN (by have := hN.nv; omega) hs (by omega) hR.f0 hR.fn hR.t0 hR.tn
  have hn2 := hN.n2
  have hnv := hN.nv
  have hpn := preF_nn f t l n
  have hpl := preF_le f t n l
  have hN0 : 0 + N.toNat * 1 = n := by omega
  obtain ⟨A, hA⟩ : ∃ A : Nat, (A : Int) = preF f t l n := ⟨(preF f t l n).toNat, by omega⟩
  have hfst := fun (m : Nat) (hm : m ≤ n) => preF_mono f t l m n hm
  rcases hs with ⟨rfl, hl0⟩ | rfl
  · refine VCalls.ok2 f50_ok mixed rfl ?_
    conv => whnf
    refine VCallF.rd [0] hchk (by decide) (hlt_of rfl) ?_ rfl rfl rfl rfl ?_
    · exact ⟨arcV_ole _ _ _ _ _, trivial⟩
    conv => whnf
    (try conv => whnf); repeat ((first | (with_reducible first | refine Br.tt ?_ | refine Br.ff ?_ | refine Br.nt ?_ | refine Br.nf ?_) | ((with_reducible refine Br.yk ?_ ?_); omega) | ((with_reducible refine Br.yd ?_ ?_); omega) | ((with_reducible refine Br.nd ?_ ?_); omega) | ((with_reducible refine Br.nyd ?_ ?_); omega) | ((with_reducible refine Br.nnd ?_ ?_); omega) | ((with_reducible refine Br.yd ?_ ?_); decide) | ((with_reducible refine Br.nyd ?_ ?_); decide)); conv => whnf)
    apply exC
    · conv => whnf
      refine VCallF.new [0] hcnt (by decide) (hlt_of rfl) ⟨arcV_ole _ _ _ _ _, trivial⟩ rfl rfl rfl ?_
      rintro v M1 ⟨rfl, rfl⟩
      exact ⟨_, rfl, rfl, ⟨intA_ok, trivial⟩, ⟨arcV_ok _ _ _ _ _, trivial⟩, rfl, rfl, rfl⟩
    · rfl
    · rfl
    conv => whnf
    refine And.intro (by (conv => whnf); first | rfl | (refine Br.yd (by omega) ?_; rfl)) ?_; (try conv => whnf)
    refine And.intro (by (conv => whnf); first | rfl | (refine Br.yd (by omega) ?_; rfl)) ?_; (try conv => whnf)
    refine And.intro (by (conv => whnf); first | rfl | (refine Br.yd (by omega) ?_; rfl)) ?_; (try conv => whnf)
    conv => whnf
    (try conv => whnf); repeat ((first | (with_reducible first | refine Br.tt ?_ | refine Br.ff ?_ | refine Br.nt ?_ | refine Br.nf ?_) | ((with_reducible refine Br.yk ?_ ?_); omega) | ((with_reducible refine Br.yd ?_ ?_); omega) | ((with_reducible refine Br.nd ?_ ?_); omega) | ((with_reducible refine Br.nyd ?_ ?_); omega) | ((with_reducible refine Br.nnd ?_ ?_); omega) | ((with_reducible refine Br.yd ?_ ?_); decide) | ((with_reducible refine Br.nyd ?_ ?_); decide)); conv => whnf)
    rw [hN0]
    generalize hpa : preF f t l n = a at *
    have haA : a.toNat = A := by omega
    (try conv => whnf); repeat ((first | (with_reducible first | refine Br.tt ?_ | refine Br.ff ?_ | refine Br.nt ?_ | refine Br.nf ?_) | ((with_reducible refine Br.yk ?_ ?_); omega) | ((with_reducible refine Br.yd ?_ ?_); omega) | ((with_reducible refine Br.nd ?_ ?_); omega) | ((with_reducible refine Br.nyd ?_ ?_); omega) | ((with_reducible refine Br.nnd ?_ ?_); omega) | ((with_reducible refine Br.yd ?_ ?_); decide) | ((with_reducible refine Br.nyd ?_ ?_); decide)); conv => whnf)
    refine ⟨rfl, rfl, ?_⟩
    conv => whnf
    (try conv => whnf); repeat ((first | (with_reducible first | refine Br.tt ?_ | refine Br.ff ?_ | refine Br.nt ?_ | refine Br.nf ?_) | ((with_reducible refine Br.yk ?_ ?_); omega) | ((with_reducible refine Br.yd ?_ ?_); omega) | ((with_reducible refine Br.nd ?_ ?_); omega) | ((with_reducible refine Br.nyd ?_ ?_); omega) | ((with_reducible refine Br.nnd ?_ ?_); omega) | ((with_reducible refine Br.yd ?_ ?_); decide) | ((with_reducible refine Br.nyd ?_ ?_); decide)); conv => whnf)
    refine ⟨rfl, rfl, ?_⟩
    conv => whnf
    (try conv => whnf); repeat ((first | (with_reducible first | refine Br.tt ?_ | refine Br.ff ?_ | refine Br.nt ?_ | refine Br.nf ?_) | ((with_reducible refine Br.yk ?_ ?_); omega) | ((with_reducible refine Br.yd ?_ ?_); omega) | ((with_reducible refine Br.nd ?_ ?_); omega) | ((with_reducible refine Br.nyd ?_ ?_); omega) | ((with_reducible refine Br.nnd ?_ ?_); omega) | ((with_reducible refine Br.yd ?_ ?_); decide) | ((with_reducible refine Br.nyd ?_ ?_); decide)); conv => whnf)
    refine ⟨rfl, rfl, ?_⟩
    conv => whnf
    (try conv => whnf); repeat ((first | (with_reducible first | refine Br.tt ?_ | refine Br.ff ?_ | refine Br.nt ?_ | refine Br.nf ?_) | ((with_reducible refine Br.yk ?_ ?_); omega) | ((with_reducible refine Br.yd ?_ ?_); omega) | ((with_reducible refine Br.nd ?_ ?_); omega) | ((with_reducible refine Br.nyd ?_ ?_); omega) | ((with_reducible refine Br.nnd ?_ ?_); omega) | ((with_reducible refine Br.yd ?_ ?_); decide) | ((with_reducible refine Br.nyd ?_ ?_); decide)); conv => whnf)
    refine ⟨rfl, rfl, ?_⟩
    conv => whnf
    (try conv => whnf); repeat ((first | (with_reducible first | refine Br.tt ?_ | refine Br.ff ?_ | refine Br.nt ?_ | refine Br.nf ?_) | ((with_reducible refine Br.yk ?_ ?_); omega) | ((with_reducible refine Br.yd ?_ ?_); omega) | ((with_reducible refine Br.nd ?_ ?_); omega) | ((with_reducible refine Br.nyd ?_ ?_); omega) | ((with_reducible refine Br.nnd ?_ ?_); omega) | ((with_reducible refine Br.yd ?_ ?_); decide) | ((with_reducible refine Br.nyd ?_ ?_); decide)); conv => whnf)
    refine VCallF.new [4] (clone_c 0 (n + 1) (n + 1) (n + 1) (preF f t l) (by omega) (by omega)) (by decide) (hlt_of rfl) ⟨⟨Nat.le_refl _, fun j hj => ⟨rfl, rfl⟩⟩, trivial⟩ rfl rfl rfl ?_
    rintro v M1 ⟨rfl, rfl⟩
    refine ⟨_, rfl, rfl, ⟨intA_ok, trivial⟩, ⟨intV_ok, trivial⟩, rfl, ?_⟩
    conv => whnf
    rw [haA]
    refine VLoop.intro (fun m E M => ∃ (i : Nat) (z : Int) (hd rv cp ac : Nat → Int) (bk : Nat → Bool) (nx : Nat → Int), (i : Int) = z ∧ i ≤ l ∧ m = l - i ∧ RowI N n A l f t i hd rv cp nx ∧ E = makeE l none k z ∧ M = makeM N S T n A l f t c (preF f t l) hd rv cp ac bk nx) l _ _
      ⟨0, 0, fun _ => 0, fun _ => 0, fun _ => 0, fun _ => 0, fun _ => false, preF f t l, rfl, Nat.zero_le _, rfl, ⟨fun _ _ => Int.le_refl _, fun _ _ => by omega, fun _ _ => Int.le_refl _, fun j hj => by omega, fun _ _ => Int.le_refl _, fun _ _ => by omega, fun v _ => by simp only [dg]; omega⟩, rfl, rfl⟩ ?_ ?_
    · refine WeakE.of [0, 2, 3, 4, 5, 6, 7, 8, 9, 11, 10] (by decide) rfl ⟨arcV_ole _ _ _ _ _, ⟨rfl, rfl, rfl⟩, ⟨rfl, by simp only [hpa, haA]; rfl, rfl⟩, intO2 rfl (Nat.le_refl _) fun j _ => rfl, intO2 rfl (by omega) fun j _ => ?_, intO2 rfl (by omega) fun j _ => ?_, intO2 rfl (by omega) fun j _ => ?_, intO2 rfl (by omega) fun j _ => ?_, boolO2 rfl (by omega) fun j _ => ?_, ⟨rfl, rfl, rfl⟩, intO2 rfl (Nat.le_refl _) fun j _ => ?_, trivial⟩ (by repeat (first | exact trivial | refine ⟨rfl, rfl, ?_⟩))
      · rw [Nat.mod_one]; rfl
      · rw [Nat.mod_one]; rfl
      · rw [Nat.mod_one]; rfl
      · rw [Nat.mod_one]; rfl
      · rw [Nat.mod_one]; rfl
      · show Value.int .i64 (preF f t l (0 + j)) = _
        rw [Nat.zero_add]; rfl
    rintro m E M ⟨i, z, hd, rv, cp, ac, bk, nx, hz, hi, rfl, hI, rfl, rfl⟩
    conv => whnf
    refine Br.bd (fun h hb => ?_) (fun h hb => ?_)
    · exfalso; omega
    · have hil : i = l := by omega
      subst hil
      conv => whnf
      (try conv => whnf); repeat ((first | (with_reducible first | refine Br.tt ?_ | refine Br.ff ?_ | refine Br.nt ?_ | refine Br.nf ?_) | ((with_reducible refine Br.yk ?_ ?_); omega) | ((with_reducible refine Br.yd ?_ ?_); omega) | ((with_reducible refine Br.nd ?_ ?_); omega) | ((with_reducible refine Br.nyd ?_ ?_); omega) | ((with_reducible refine Br.nnd ?_ ?_); omega) | ((with_reducible refine Br.yd ?_ ?_); decide) | ((with_reducible refine Br.nyd ?_ ?_); decide)); conv => whnf)
      exact VRet.of (v2 := .tuple ⟨[.agg ⟨csrL N S T n A 1⟩, .int .i64 0]⟩) (M2 := arcV i f t c :: csrO n A (preF f t i) hd rv cp ac bk) [0, 3, 4, 5, 6, 7, 8] (by decide) rfl ⟨arcV_ole _ _ _ _ _, intO2 rfl (Nat.le_refl _) fun j _ => rfl, intO2 rfl (Nat.le_refl _) fun j _ => rfl, intO2 rfl (Nat.le_refl _) fun j _ => rfl, intO2 rfl (Nat.le_refl _) fun j _ => rfl, intO2 rfl (Nat.le_refl _) fun j _ => rfl, boolO2 rfl (Nat.le_refl _) fun j _ => rfl, trivial⟩ rfl rfl
        ⟨A, preF f t i, hd, rv, cp, ac, bk, ⟨fun v _ => preF_nn f t i v, fun v hv => by have := hfst v hv; omega, fun v _ => preF_mono f t i v (v + 1) (by omega), hI.h0, hI.hn, hI.r0, hI.rA, hI.c0, hI.cb⟩, by omega, rfl, rfl⟩
  · refine VCalls.ok2 f50_ok mixed rfl ?_
    conv => whnf
    refine VCallF.rd [0] hchk (by decide) (hlt_of rfl) ?_ rfl rfl rfl rfl ?_
    · exact ⟨arcV_ole _ _ _ _ _, trivial⟩
    conv => whnf
    (try conv => whnf); repeat ((first | (with_reducible first | refine Br.tt ?_ | refine Br.ff ?_ | refine Br.nt ?_ | refine Br.nf ?_) | ((with_reducible refine Br.yk ?_ ?_); omega) | ((with_reducible refine Br.yd ?_ ?_); omega) | ((with_reducible refine Br.nd ?_ ?_); omega) | ((with_reducible refine Br.nyd ?_ ?_); omega) | ((with_reducible refine Br.nnd ?_ ?_); omega) | ((with_reducible refine Br.yd ?_ ?_); decide) | ((with_reducible refine Br.nyd ?_ ?_); decide)); conv => whnf)
    apply exC
    · conv => whnf
      refine VCallF.new [0] hcnt (by decide) (hlt_of rfl) ⟨arcV_ole _ _ _ _ _, trivial⟩ rfl rfl rfl ?_
      rintro v M1 ⟨rfl, rfl⟩
      exact ⟨_, rfl, rfl, ⟨intA_ok, trivial⟩, ⟨arcV_ok _ _ _ _ _, trivial⟩, rfl, rfl, rfl⟩
    · rfl
    · rfl
    conv => whnf
    refine And.intro (by (conv => whnf); first | rfl | (refine Br.yd (by omega) ?_; rfl)) ?_; (try conv => whnf)
    refine And.intro (by (conv => whnf); first | rfl | (refine Br.yd (by omega) ?_; rfl)) ?_; (try conv => whnf)
    refine And.intro (by (conv => whnf); first | rfl | (refine Br.yd (by omega) ?_; rfl)) ?_; (try conv => whnf)
    conv => whnf
    (try conv => whnf); repeat ((first | (with_reducible first | refine Br.tt ?_ | refine Br.ff ?_ | refine Br.nt ?_ | refine Br.nf ?_) | ((with_reducible refine Br.yk ?_ ?_); omega) | ((with_reducible refine Br.yd ?_ ?_); omega) | ((with_reducible refine Br.nd ?_ ?_); omega) | ((with_reducible refine Br.nyd ?_ ?_); omega) | ((with_reducible refine Br.nnd ?_ ?_); omega) | ((with_reducible refine Br.yd ?_ ?_); decide) | ((with_reducible refine Br.nyd ?_ ?_); decide)); conv => whnf)
    rw [hN0]
    generalize hpa : preF f t l n = a at *
    have haA : a.toNat = A := by omega
    (try conv => whnf); repeat ((first | (with_reducible first | refine Br.tt ?_ | refine Br.ff ?_ | refine Br.nt ?_ | refine Br.nf ?_) | ((with_reducible refine Br.yk ?_ ?_); omega) | ((with_reducible refine Br.yd ?_ ?_); omega) | ((with_reducible refine Br.nd ?_ ?_); omega) | ((with_reducible refine Br.nyd ?_ ?_); omega) | ((with_reducible refine Br.nnd ?_ ?_); omega) | ((with_reducible refine Br.yd ?_ ?_); decide) | ((with_reducible refine Br.nyd ?_ ?_); decide)); conv => whnf)
    refine ⟨rfl, rfl, ?_⟩
    conv => whnf
    (try conv => whnf); repeat ((first | (with_reducible first | refine Br.tt ?_ | refine Br.ff ?_ | refine Br.nt ?_ | refine Br.nf ?_) | ((with_reducible refine Br.yk ?_ ?_); omega) | ((with_reducible refine Br.yd ?_ ?_); omega) | ((with_reducible refine Br.nd ?_ ?_); omega) | ((with_reducible refine Br.nyd ?_ ?_); omega) | ((with_reducible refine Br.nnd ?_ ?_); omega) | ((with_reducible refine Br.yd ?_ ?_); decide) | ((with_reducible refine Br.nyd ?_ ?_); decide)); conv => whnf)
    refine ⟨rfl, rfl, ?_⟩
    conv => whnf
    (try conv => whnf); repeat ((first | (with_reducible first | refine Br.tt ?_ | refine Br.ff ?_ | refine Br.nt ?_ | refine Br.nf ?_) | ((with_reducible refine Br.yk ?_ ?_); omega) | ((with_reducible refine Br.yd ?_ ?_); omega) | ((with_reducible refine Br.nd ?_ ?_); omega) | ((with_reducible refine Br.nyd ?_ ?_); omega) | ((with_reducible refine Br.nnd ?_ ?_); omega) | ((with_reducible refine Br.yd ?_ ?_); decide) | ((with_reducible refine Br.nyd ?_ ?_); decide)); conv => whnf)
    refine ⟨rfl, rfl, ?_⟩
    conv => whnf
    (try conv => whnf); repeat ((first | (with_reducible first | refine Br.tt ?_ | refine Br.ff ?_ | refine Br.nt ?_ | refine Br.nf ?_) | ((with_reducible refine Br.yk ?_ ?_); omega) | ((with_reducible refine Br.yd ?_ ?_); omega) | ((with_reducible refine Br.nd ?_ ?_); omega) | ((with_reducible refine Br.nyd ?_ ?_); omega) | ((with_reducible refine Br.nnd ?_ ?_); omega) | ((with_reducible refine Br.yd ?_ ?_); decide) | ((with_reducible refine Br.nyd ?_ ?_); decide)); conv => whnf)
    refine ⟨rfl, rfl, ?_⟩
    conv => whnf
    (try conv => whnf); repeat ((first | (with_reducible first | refine Br.tt ?_ | refine Br.ff ?_ | refine Br.nt ?_ | refine Br.nf ?_) | ((with_reducible refine Br.yk ?_ ?_); omega) | ((with_reducible refine Br.yd ?_ ?_); omega) | ((with_reducible refine Br.nd ?_ ?_); omega) | ((with_reducible refine Br.nyd ?_ ?_); omega) | ((with_reducible refine Br.nnd ?_ ?_); omega) | ((with_reducible refine Br.yd ?_ ?_); decide) | ((with_reducible refine Br.nyd ?_ ?_); decide)); conv => whnf)
    refine VCallF.new [4] (clone_c 0 (n + 1) (n + 1) (n + 1) (preF f t l) (by omega) (by omega)) (by decide) (hlt_of rfl) ⟨⟨Nat.le_refl _, fun j hj => ⟨rfl, rfl⟩⟩, trivial⟩ rfl rfl rfl ?_
    rintro v M1 ⟨rfl, rfl⟩
    refine ⟨_, rfl, rfl, ⟨intA_ok, trivial⟩, ⟨intV_ok, trivial⟩, rfl, ?_⟩
    conv => whnf
    rw [haA]
    refine VLoop.intro (fun m E M => ∃ (i : Nat) (z : Int) (hd rv cp ac : Nat → Int) (bk : Nat → Bool) (nx : Nat → Int), (i : Int) = z ∧ i ≤ l ∧ m = l - i ∧ RowI N n A l f t i hd rv cp nx ∧ E = makeE l (some ⟨0, 0, none⟩) k z ∧ M = makeM N S T n A l f t c (preF f t l) hd rv cp ac bk nx) l _ _
      ⟨0, 0, fun _ => 0, fun _ => 0, fun _ => 0, fun _ => 0, fun _ => false, preF f t l, rfl, Nat.zero_le _, rfl, ⟨fun _ _ => Int.le_refl _, fun _ _ => by omega, fun _ _ => Int.le_refl _, fun j hj => by omega, fun _ _ => Int.le_refl _, fun _ _ => by omega, fun v _ => by simp only [dg]; omega⟩, rfl, rfl⟩ ?_ ?_
    · refine WeakE.of [0, 2, 3, 4, 5, 6, 7, 8, 9, 11, 10] (by decide) rfl ⟨arcV_ole _ _ _ _ _, ⟨rfl, rfl, rfl⟩, ⟨rfl, by simp only [hpa, haA]; rfl, rfl⟩, intO2 rfl (Nat.le_refl _) fun j _ => rfl, intO2 rfl (by omega) fun j _ => ?_, intO2 rfl (by omega) fun j _ => ?_, intO2 rfl (by omega) fun j _ => ?_, intO2 rfl (by omega) fun j _ => ?_, boolO2 rfl (by omega) fun j _ => ?_, ⟨rfl, rfl, rfl⟩, intO2 rfl (Nat.le_refl _) fun j _ => ?_, trivial⟩ (by repeat (first | exact trivial | refine ⟨rfl, rfl, ?_⟩))
      · rw [Nat.mod_one]; rfl
      · rw [Nat.mod_one]; rfl
      · rw [Nat.mod_one]; rfl
      · rw [Nat.mod_one]; rfl
      · rw [Nat.mod_one]; rfl
      · show Value.int .i64 (preF f t l (0 + j)) = _
        rw [Nat.zero_add]; rfl
    rintro m E M ⟨i, z, hd, rv, cp, ac, bk, nx, hz, hi, rfl, hI, rfl, rfl⟩
    conv => whnf
    refine Br.bd (fun h hb => ?_) (fun h hb => ?_)
    · conv => whnf
      (try conv => whnf); repeat ((first | (with_reducible first | refine Br.tt ?_ | refine Br.ff ?_ | refine Br.nt ?_ | refine Br.nf ?_) | ((with_reducible refine Br.yk ?_ ?_); omega) | ((with_reducible refine Br.yd ?_ ?_); omega) | ((with_reducible refine Br.nd ?_ ?_); omega) | ((with_reducible refine Br.nyd ?_ ?_); omega) | ((with_reducible refine Br.nnd ?_ ?_); omega) | ((with_reducible refine Br.yd ?_ ?_); decide) | ((with_reducible refine Br.nyd ?_ ?_); decide)); conv => whnf)
      rw [arcG_z0 f t c hz, arcG_z1 f t c hz, arcG_z2 f t c hz]
      conv => whnf
      have hf0 := hR.f0 i (by omega)
      have hfn := hR.fn i (by omega)
      have ht0 := hR.t0 i (by omega)
      have htn := hR.tn i (by omega)
      have hc0 := hR.c0 i (by omega)
      have hcb := hR.cb i (by omega)
      refine Br.bd (fun hft _ => ?_) (fun hft _ => ?_)
      · conv => whnf
        (try conv => whnf); repeat ((first | (with_reducible first | refine Br.tt ?_ | refine Br.ff ?_ | refine Br.nt ?_ | refine Br.nf ?_) | ((with_reducible refine Br.yk ?_ ?_); omega) | ((with_reducible refine Br.yd ?_ ?_); omega) | ((with_reducible refine Br.nd ?_ ?_); omega) | ((with_reducible refine Br.nyd ?_ ?_); omega) | ((with_reducible refine Br.nnd ?_ ?_); omega) | ((with_reducible refine Br.yd ?_ ?_); decide) | ((with_reducible refine Br.nyd ?_ ?_); decide)); conv => whnf)
        refine ⟨l - (i + 1), _, _, by omega, ⟨i + 1, z + 1, hd, rv, cp, ac, bk, nx, by omega, by omega, rfl, hI.same hft, rfl, rfl⟩, WeakE.of [0, 1, 2, 3, 4, 5, 6, 7, 8, 9, 10] (by decide) rfl ⟨arcV_ole _ _ _ _ _, ⟨rfl, rfl, rfl⟩, ⟨rfl, rfl, rfl⟩, intO2 rfl (Nat.le_refl _) fun j _ => rfl, intO2 rfl (Nat.le_refl _) fun j _ => rfl, intO2 rfl (Nat.le_refl _) fun j _ => rfl, intO2 rfl (Nat.le_refl _) fun j _ => rfl, intO2 rfl (Nat.le_refl _) fun j _ => rfl, boolO2 rfl (Nat.le_refl _) fun j _ => rfl, ⟨rfl, rfl, rfl⟩, intO2 rfl (Nat.le_refl _) fun j _ => rfl, trivial⟩ (by repeat (first | exact trivial | refine ⟨rfl, rfl, ?_⟩))⟩
      · conv => whnf
        obtain ⟨u, hu⟩ : ∃ u : Nat, (u : Int) = f i := ⟨(f i).toNat, by omega⟩
        obtain ⟨w, hw⟩ : ∃ w : Nat, (w : Int) = t i := ⟨(t i).toNat, by omega⟩
        have hA' : (A : Int) = preF f t l n := by omega
        have g1 := nx_lt hA' hI.nx (by omega) hft (u := u) (by omega) (.inl hu.symm)
        have g2 := nx_lt hA' hI.nx (by omega) hft (u := w) (by omega) (.inr hw.symm)
        have g3 : setF nx u (nx u + 1) w = nx w := setF_ne (by omega)
        refine VCallF.wr [9, 2, 3, 4, 5, 6, 7, 8, 10] (put_c N S T n A hd cp ac bk nx u (f i) (t i) (c i) z false hu (by omega) g1.1 g1.2 (by omega)) (by decide) (hlt_of rfl) ⟨put0_ole, put1_ole, trivial, intO2 rfl (Nat.le_refl _) fun j _ => rfl, trivial, intO2 rfl (Nat.le_refl _) fun j _ => rfl, intO2 rfl (Nat.le_refl _) fun j _ => rfl, boolO2 rfl (Nat.le_refl _) fun j _ => rfl, intO2 rfl (Nat.le_refl _) fun j _ => rfl, trivial⟩ rfl rfl rfl rfl (putM_ok _ _ _ _ _ _ _ _ _ _) rfl
          (.int .i64 (nx u)) (makeM N S T n A l f t c (preF f t l) (setF hd (nx u).toNat (t i)) rv (setF cp (nx u).toNat (c i)) (setF ac (nx u).toNat z) (setB bk (nx u).toNat false) (setF nx u (nx u + 1)) ++ [.cells [.int .i64 (f i), .int .i64 (t i), .int .i64 (c i)] 131]) rfl rfl ?_
        conv => whnf
        refine VCallF.wr [9, 2, 3, 4, 5, 6, 7, 8, 10] (put_c N S T n A (setF hd (nx u).toNat (t i)) (setF cp (nx u).toNat (c i)) (setF ac (nx u).toNat z) (setB bk (nx u).toNat false) (setF nx u (nx u + 1)) w (t i) (f i) 0 z true hw (by omega) (by omega) (by omega) (by omega)) (by decide) (hlt_of rfl) ⟨put0_ole, put1_ole, trivial, intO2 rfl (Nat.le_refl _) fun j _ => rfl, trivial, intO2 rfl (Nat.le_refl _) fun j _ => rfl, intO2 rfl (Nat.le_refl _) fun j _ => rfl, boolO2 rfl (Nat.le_refl _) fun j _ => rfl, intO2 rfl (Nat.le_refl _) fun j _ => rfl, trivial⟩ rfl rfl rfl rfl (putM_ok _ _ _ _ _ _ _ _ _ _) rfl
          (.int .i64 (setF nx u (nx u + 1) w)) (makeM N S T n A l f t c (preF f t l) (setF (setF hd (nx u).toNat (t i)) (setF nx u (nx u + 1) w).toNat (f i)) rv (setF (setF cp (nx u).toNat (c i)) (setF nx u (nx u + 1) w).toNat 0) (setF (setF ac (nx u).toNat z) (setF nx u (nx u + 1) w).toNat z) (setB (setB bk (nx u).toNat false) (setF nx u (nx u + 1) w).toNat true) (setF (setF nx u (nx u + 1)) w (setF nx u (nx u + 1) w + 1)) ++ [.cells [.int .i64 (f i), .int .i64 (t i), .int .i64 (c i)] 131]) rfl rfl ?_
        conv => whnf
        (try conv => whnf); repeat ((first | (with_reducible first | refine Br.tt ?_ | refine Br.ff ?_ | refine Br.nt ?_ | refine Br.nf ?_) | ((with_reducible refine Br.yk ?_ ?_); omega) | ((with_reducible refine Br.yd ?_ ?_); omega) | ((with_reducible refine Br.nd ?_ ?_); omega) | ((with_reducible refine Br.nyd ?_ ?_); omega) | ((with_reducible refine Br.nnd ?_ ?_); omega) | ((with_reducible refine Br.yd ?_ ?_); decide) | ((with_reducible refine Br.nyd ?_ ?_); decide)); conv => whnf)
        refine ⟨rfl, rfl, ?_⟩
        conv => whnf
        refine And.intro (by (conv => whnf); first | rfl | (refine Br.yd (by omega) ?_; rfl)) ?_; (try conv => whnf)
        conv => whnf
        (try conv => whnf); repeat ((first | (with_reducible first | refine Br.tt ?_ | refine Br.ff ?_ | refine Br.nt ?_ | refine Br.nf ?_) | ((with_reducible refine Br.yk ?_ ?_); omega) | ((with_reducible refine Br.yd ?_ ?_); omega) | ((with_reducible refine Br.nd ?_ ?_); omega) | ((with_reducible refine Br.nyd ?_ ?_); omega) | ((with_reducible refine Br.nnd ?_ ?_); omega) | ((with_reducible refine Br.yd ?_ ?_); decide) | ((with_reducible refine Br.nyd ?_ ?_); decide)); conv => whnf)
        have e1 : ((nx u).toNat : Int) = nx u := by omega
        have e2 : ((setF nx u (nx u + 1) w).toNat : Int) = setF nx u (nx u + 1) w := by omega
        have e3 : 0 + (nx u).toNat * 1 = (nx u).toNat := by omega
        have e4 : 0 + (setF nx u (nx u + 1) w).toNat * 1 = (setF nx u (nx u + 1) w).toNat := by omega
        refine ⟨l - (i + 1), _, _, by omega, ⟨i + 1, z + 1, setF (setF hd (nx u).toNat (t i)) (setF nx u (nx u + 1) w).toNat (f i), setF (setF rv (nx u).toNat ((setF nx u (nx u + 1) w).toNat : Int)) (setF nx u (nx u + 1) w).toNat ((nx u).toNat : Int), setF (setF cp (nx u).toNat (c i)) (setF nx u (nx u + 1) w).toNat 0,
          setF (setF ac (nx u).toNat z) (setF nx u (nx u + 1) w).toNat z, setB (setB bk (nx u).toNat false) (setF nx u (nx u + 1) w).toNat true, setF (setF nx u (nx u + 1)) w (setF nx u (nx u + 1) w + 1), by omega, by omega, rfl, ?_, rfl, rfl⟩,
          WeakE.of [0, 1, 2, 3, 4, 5, 6, 7, 8, 9, 10] (by decide) rfl ⟨arcV_ole _ _ _ _ _, ⟨rfl, rfl, rfl⟩, ⟨rfl, rfl, rfl⟩, intO2 rfl (Nat.le_refl _) fun j _ => rfl, intO2 rfl (Nat.le_refl _) fun j _ => rfl, intO2 rfl (Nat.le_refl _) fun j _ => ?_, intO2 rfl (Nat.le_refl _) fun j _ => rfl, intO2 rfl (Nat.le_refl _) fun j _ => rfl, boolO2 rfl (Nat.le_refl _) fun j _ => rfl, ⟨rfl, rfl, rfl⟩, intO2 rfl (Nat.le_refl _) fun j _ => rfl, trivial⟩ (by repeat (first | exact trivial | refine ⟨rfl, rfl, ?_⟩))⟩
        · rw [g3]
          exact hI.step hnN hft hu hw rfl rfl (by omega) (by omega) (by omega) (by omega) hc0 hcb
        · rw [e1, e2]
          show updG (updG _ _ _) _ _ j = _
          rw [updG_int, updG_int, e3, e4]
    · have hil : i = l := by omega
      subst hil
      conv => whnf
      (try conv => whnf); repeat ((first | (with_reducible first | refine Br.tt ?_ | refine Br.ff ?_ | refine Br.nt ?_ | refine Br.nf ?_) | ((with_reducible refine Br.yk ?_ ?_); omega) | ((with_reducible refine Br.yd ?_ ?_); omega) | ((with_reducible refine Br.nd ?_ ?_); omega) | ((with_reducible refine Br.nyd ?_ ?_); omega) | ((with_reducible refine Br.nnd ?_ ?_); omega) | ((with_reducible refine Br.yd ?_ ?_); decide) | ((with_reducible refine Br.nyd ?_ ?_); decide)); conv => whnf)
      exact VRet.of (v2 := .tuple ⟨[.agg ⟨csrL N S T n A 1⟩, .int .i64 0]⟩) (M2 := arcV i f t c :: csrO n A (preF f t i) hd rv cp ac bk) [0, 3, 4, 5, 6, 7, 8] (by decide) rfl ⟨arcV_ole _ _ _ _ _, intO2 rfl (Nat.le_refl _) fun j _ => rfl, intO2 rfl (Nat.le_refl _) fun j _ => rfl, intO2 rfl (Nat.le_refl _) fun j _ => rfl, intO2 rfl (Nat.le_refl _) fun j _ => rfl, intO2 rfl (Nat.le_refl _) fun j _ => rfl, boolO2 rfl (Nat.le_refl _) fun j _ => rfl, trivial⟩ rfl rfl
        ⟨A, preF f t i, hd, rv, cp, ac, bk, ⟨fun v _ => preF_nn f t i v, fun v hv => by have := hfst v hv; omega, fun v _ => preF_mono f t i v (v + 1) (by omega), hI.h0, hI.hn, hI.r0, hI.rA, hI.c0, hI.cb⟩, by omega, rfl, rfl⟩
end
end Vm
end Go.Proofs.YtcafmkekkcbamaaGreat
namespace Go.Proofs.YtcafmkekkcbamaaGreat
open Go.RowKit
namespace Vm
attribute [local irreducible] VCallF VYield VLoop VRet inK
set_option maxRecDepth 100000

def roomI (v : Int) : Int := if v ≤ 1 then 1 else if v ≤ 2 then 2 else if v ≤ 4 then 4 else if v ≤ 8 then 8 else 16
theorem roomI_b (v : Int) : 1 ≤ roomI v ∧ roomI v ≤ 16 := by unfold roomI; repeat (first | omega | split)
theorem wrap_small {z : Int} (h : -9223372036854775808 ≤ z ∧ z ≤ 9223372036854775807) : IntKind.i64.wrap z = z := inK_wrap (inK64 h)
theorem room_c (v : Int) (hv : v ≤ 16) : VCalls Tryz.prog 156 [.int .i64 v] [] (fun r M' => r = .int .i64 (roomI v) ∧ M' = []) := by
  refine VCalls.ok2 f156_ok mixed rfl ?_
  conv => whnf
  refine VLoop.intro (fun m E M => ∃ z : Int, (z = 1 ∧ m = 4 ∨ z = 2 ∧ m = 3 ∧ 1 < v ∨ z = 4 ∧ m = 2 ∧ 2 < v ∨ z = 8 ∧ m = 1 ∧ 4 < v ∨ z = 16 ∧ m = 0 ∧ 8 < v) ∧ E = [(0, .int .i64 v), (3, .int .i64 z)] ∧ M = []) 4 _ _ ⟨1, .inl ⟨rfl, rfl⟩, rfl, rfl⟩ (WeakE.of [] (by decide) rfl trivial (by repeat (first | exact trivial | refine ⟨rfl, rfl, ?_⟩))) ?_
  rintro m E M ⟨z, hz, rfl, rfl⟩
  conv => whnf
  refine Br.bd (fun h hb => ?_) (fun h hb => ?_)
  · conv => whnf
    (try conv => whnf); repeat ((first | (with_reducible first | refine Br.tt ?_ | refine Br.ff ?_ | refine Br.nt ?_ | refine Br.nf ?_) | ((with_reducible refine Br.yk ?_ ?_); omega) | ((with_reducible refine Br.yd ?_ ?_); omega) | ((with_reducible refine Br.nd ?_ ?_); omega) | ((with_reducible refine Br.nyd ?_ ?_); omega) | ((with_reducible refine Br.nnd ?_ ?_); omega) | ((with_reducible refine Br.yd ?_ ?_); decide) | ((with_reducible refine Br.nyd ?_ ?_); decide)); conv => whnf)
    refine ⟨m - 1, _, _, by omega, ⟨2 * z, by omega, rfl, rfl⟩, WeakE.of [] (by decide) rfl trivial ⟨rfl, rfl, rfl, ?_, trivial⟩⟩
    show some (Value.int .i64 (IntKind.i64.wrap (z * 2 ^ (min (1 : Int).toNat IntKind.i64.bits)))) = some (Value.int .i64 (2 * z))
    rw [show min (1 : Int).toNat IntKind.i64.bits = 1 from rfl, wrap_small (by omega)]
    congr 2; omega
  · conv => whnf
    (try conv => whnf); repeat ((first | (with_reducible first | refine Br.tt ?_ | refine Br.ff ?_ | refine Br.nt ?_ | refine Br.nf ?_) | ((with_reducible refine Br.yk ?_ ?_); omega) | ((with_reducible refine Br.yd ?_ ?_); omega) | ((with_reducible refine Br.nd ?_ ?_); omega) | ((with_reducible refine Br.nyd ?_ ?_); omega) | ((with_reducible refine Br.nnd ?_ ?_); omega) | ((with_reducible refine Br.yd ?_ ?_); decide) | ((with_reducible refine Br.nyd ?_ ?_); decide)); conv => whnf)
    refine VRet.dr [] _ rfl rfl trivial rfl ⟨?_, rfl⟩
    show Value.int .i64 z = Value.int .i64 (roomI v)
    congr 1
    unfold roomI
    repeat (first | omega | split)

theorem more_c (x0 x1 x2 x3 x4 x5 x6 x7 x8 x9 x10 x11 x12 s n : Int) (hs : 0 ≤ s ∧ s < 1000000) (hn : 0 ≤ n ∧ n < 1000000) :
    VCalls Tryz.prog 157 [.int .i64 n, .pointer (some ⟨0, 0, none⟩)] [.cells [.int .i64 x0, .int .i64 x1, .int .i64 x2, .int .i64 x3, .int .i64 x4, .int .i64 x5, .int .i64 x6, .int .i64 x7, .int .i64 x8, .int .i64 x9, .int .i64 x10, .int .i64 x11, .int .i64 x12, .int .i64 s] 31]
      (fun v M' => v = .int .i64 s ∧ M' = [.cells [.int .i64 x0, .int .i64 x1, .int .i64 x2, .int .i64 x3, .int .i64 x4, .int .i64 x5, .int .i64 x6, .int .i64 x7, .int .i64 x8, .int .i64 x9, .int .i64 x10, .int .i64 x11, .int .i64 x12, .int .i64 (s + n)] 31]) := by
  refine VCalls.ok2 f157_ok mixed rfl ?_
  conv => whnf
  (try conv => whnf); repeat ((first | (with_reducible first | refine Br.tt ?_ | refine Br.ff ?_ | refine Br.nt ?_ | refine Br.nf ?_) | ((with_reducible refine Br.yk ?_ ?_); omega) | ((with_reducible refine Br.yd ?_ ?_); omega) | ((with_reducible refine Br.nd ?_ ?_); omega) | ((with_reducible refine Br.nyd ?_ ?_); omega) | ((with_reducible refine Br.nnd ?_ ?_); omega) | ((with_reducible refine Br.yd ?_ ?_); decide) | ((with_reducible refine Br.nyd ?_ ?_); decide)); conv => whnf)
  refine VRet.here ⟨?_, rfl⟩
  show Value.int .i64 (s + n - n) = _
  congr 1; omega
end Vm
end Go.Proofs.YtcafmkekkcbamaaGreat
namespace Go.Proofs.YtcafmkekkcbamaaGreat
open Go.RowKit
namespace Vm
attribute [local irreducible] VCallF VYield VLoop VRet inK
set_option maxRecDepth 100000

theorem mul_b {w r : Int} (hw : 1 ≤ w) (hw2 : w ≤ 64) (hr : 1 ≤ r) (hr2 : r ≤ 16) : 0 ≤ w * (r + 2) ∧ w * (r + 2) ≤ 1152 := by
  have h1 : 0 ≤ w * (r + 2) := Int.mul_nonneg (by omega) (by omega)
  have h2 : w * (r + 2) ≤ 64 * 18 := Int.mul_le_mul hw2 (by omega) (by omega) (by omega)
  omega
def layL (v a w r : Int) : List Value :=
  [.int .i64 v, .int .i64 a, .int .i64 w, .int .i64 r, .int .i64 0, .int .i64 (0 + a), .int .i64 (0 + a + v), .int .i64 (0 + a + v + v), .int .i64 (0 + a + v + v + v), .int .i64 (0 + a + v + v + v + 1), .int .i64 (0 + a + v + v + v + 1 + 1), .int .i64 (0 + a + v + v + v + 1 + 1 + 1),
    .int .i64 (0 + a + v + v + v + 1 + 1 + 1 + 1), .int .i64 (0 + a + v + v + v + 1 + 1 + 1 + 1 + w * (r + 2))]
def zero14 : List Value := [.int .i64 0, .int .i64 0, .int .i64 0, .int .i64 0, .int .i64 0, .int .i64 0, .int .i64 0, .int .i64 0, .int .i64 0, .int .i64 0, .int .i64 0, .int .i64 0, .int .i64 0, .int .i64 0]
theorem plan_ok (v a w : Int) (hv : 0 ≤ v) (hv2 : v ≤ 16) (ha : 0 ≤ a) (ha2 : a ≤ 1000) (hw : 1 ≤ w) (hw2 : w ≤ 64) :
    VCalls Tryz.prog 71 [.int .i64 v, .int .i64 a, .int .i64 w] [] (fun r M' => r = .tuple ⟨[.agg ⟨layL v a w (roomI v)⟩, .int .i64 0]⟩ ∧ M' = []) := by
  have hr := roomI_b v
  have hm := mul_b hw hw2 hr.1 hr.2
  refine VCalls.ok2 f71_ok mixed rfl ?_
  conv => whnf
  (try conv => whnf); repeat ((first | (with_reducible first | refine Br.tt ?_ | refine Br.ff ?_ | refine Br.nt ?_ | refine Br.nf ?_) | ((with_reducible refine Br.yk ?_ ?_); omega) | ((with_reducible refine Br.yd ?_ ?_); omega) | ((with_reducible refine Br.nd ?_ ?_); omega) | ((with_reducible refine Br.nyd ?_ ?_); omega) | ((with_reducible refine Br.nnd ?_ ?_); omega) | ((with_reducible refine Br.yd ?_ ?_); decide) | ((with_reducible refine Br.nyd ?_ ?_); decide)); conv => whnf)
  refine VCallF.rd [] (room_c v hv2) (by decide) (hlt_of rfl) ?_ rfl rfl rfl rfl ?_
  · trivial
  conv => whnf
  refine VCallF.wr [1] (more_c v a w (roomI v) 0 0 0 0 0 0 0 0 0 0 a (by omega) (by omega)) (by decide) (hlt_of rfl) ⟨⟨rfl, rfl, rfl⟩, trivial⟩ rfl rfl rfl rfl ⟨rfl, trivial⟩ rfl (.int .i64 0) [.cells zero14 31, .cells [.int .i64 v, .int .i64 a, .int .i64 w, .int .i64 (roomI v), .int .i64 0, .int .i64 0, .int .i64 0, .int .i64 0, .int .i64 0, .int .i64 0, .int .i64 0, .int .i64 0, .int .i64 0, .int .i64 (0 + a)] 31] rfl rfl ?_
  conv => whnf
  refine VCallF.wr [1] (more_c v a w (roomI v) 0 0 0 0 0 0 0 0 0 (0 + a) v (by omega) (by omega)) (by decide) (hlt_of rfl) ⟨⟨rfl, rfl, rfl⟩, trivial⟩ rfl rfl rfl rfl ⟨rfl, trivial⟩ rfl (.int .i64 (0 + a)) [.cells zero14 31, .cells [.int .i64 v, .int .i64 a, .int .i64 w, .int .i64 (roomI v), .int .i64 0, .int .i64 0, .int .i64 0, .int .i64 0, .int .i64 0, .int .i64 0, .int .i64 0, .int .i64 0, .int .i64 0, .int .i64 (0 + a + v)] 31] rfl rfl ?_
  conv => whnf
  refine VCallF.wr [1] (more_c v a w (roomI v) 0 0 0 0 0 0 0 0 0 (0 + a + v) v (by omega) (by omega)) (by decide) (hlt_of rfl) ⟨⟨rfl, rfl, rfl⟩, trivial⟩ rfl rfl rfl rfl ⟨rfl, trivial⟩ rfl (.int .i64 (0 + a + v)) [.cells zero14 31, .cells [.int .i64 v, .int .i64 a, .int .i64 w, .int .i64 (roomI v), .int .i64 0, .int .i64 0, .int .i64 0, .int .i64 0, .int .i64 0, .int .i64 0, .int .i64 0, .int .i64 0, .int .i64 0, .int .i64 (0 + a + v + v)] 31] rfl rfl ?_
  conv => whnf
  refine VCallF.wr [1] (more_c v a w (roomI v) 0 0 0 0 0 0 0 0 0 (0 + a + v + v) v (by omega) (by omega)) (by decide) (hlt_of rfl) ⟨⟨rfl, rfl, rfl⟩, trivial⟩ rfl rfl rfl rfl ⟨rfl, trivial⟩ rfl (.int .i64 (0 + a + v + v)) [.cells zero14 31, .cells [.int .i64 v, .int .i64 a, .int .i64 w, .int .i64 (roomI v), .int .i64 0, .int .i64 0, .int .i64 0, .int .i64 0, .int .i64 0, .int .i64 0, .int .i64 0, .int .i64 0, .int .i64 0, .int .i64 (0 + a + v + v + v)] 31] rfl rfl ?_
  conv => whnf
  refine VCallF.wr [1] (more_c v a w (roomI v) 0 (0 + a) (0 + a + v) (0 + a + v + v) 0 0 0 0 0 (0 + a + v + v + v) 1 (by omega) (by omega)) (by decide) (hlt_of rfl) ⟨⟨rfl, rfl, rfl⟩, trivial⟩ rfl rfl rfl rfl ⟨rfl, trivial⟩ rfl (.int .i64 (0 + a + v + v + v)) [.cells zero14 31, .cells [.int .i64 v, .int .i64 a, .int .i64 w, .int .i64 (roomI v), .int .i64 0, .int .i64 (0 + a), .int .i64 (0 + a + v), .int .i64 (0 + a + v + v), .int .i64 0, .int .i64 0, .int .i64 0, .int .i64 0, .int .i64 0, .int .i64 (0 + a + v + v + v + 1)] 31] rfl rfl ?_
  conv => whnf
  refine VCallF.wr [1] (more_c v a w (roomI v) 0 (0 + a) (0 + a + v) (0 + a + v + v) 0 0 0 0 0 (0 + a + v + v + v + 1) 1 (by omega) (by omega)) (by decide) (hlt_of rfl) ⟨⟨rfl, rfl, rfl⟩, trivial⟩ rfl rfl rfl rfl ⟨rfl, trivial⟩ rfl (.int .i64 (0 + a + v + v + v + 1)) [.cells zero14 31, .cells [.int .i64 v, .int .i64 a, .int .i64 w, .int .i64 (roomI v), .int .i64 0, .int .i64 (0 + a), .int .i64 (0 + a + v), .int .i64 (0 + a + v + v), .int .i64 0, .int .i64 0, .int .i64 0, .int .i64 0, .int .i64 0, .int .i64 (0 + a + v + v + v + 1 + 1)] 31] rfl rfl ?_
  conv => whnf
  refine VCallF.wr [1] (more_c v a w (roomI v) 0 (0 + a) (0 + a + v) (0 + a + v + v) 0 0 0 0 0 (0 + a + v + v + v + 1 + 1) 1 (by omega) (by omega)) (by decide) (hlt_of rfl) ⟨⟨rfl, rfl, rfl⟩, trivial⟩ rfl rfl rfl rfl ⟨rfl, trivial⟩ rfl (.int .i64 (0 + a + v + v + v + 1 + 1)) [.cells zero14 31, .cells [.int .i64 v, .int .i64 a, .int .i64 w, .int .i64 (roomI v), .int .i64 0, .int .i64 (0 + a), .int .i64 (0 + a + v), .int .i64 (0 + a + v + v), .int .i64 0, .int .i64 0, .int .i64 0, .int .i64 0, .int .i64 0, .int .i64 (0 + a + v + v + v + 1 + 1 + 1)] 31] rfl rfl ?_
  conv => whnf
  refine VCallF.wr [1] (more_c v a w (roomI v) 0 (0 + a) (0 + a + v) (0 + a + v + v) 0 0 0 0 0 (0 + a + v + v + v + 1 + 1 + 1) 1 (by omega) (by omega)) (by decide) (hlt_of rfl) ⟨⟨rfl, rfl, rfl⟩, trivial⟩ rfl rfl rfl rfl ⟨rfl, trivial⟩ rfl (.int .i64 (0 + a + v + v + v + 1 + 1 + 1)) [.cells zero14 31, .cells [.int .i64 v, .int .i64 a, .int .i64 w, .int .i64 (roomI v), .int .i64 0, .int .i64 (0 + a), .int .i64 (0 + a + v), .int .i64 (0 + a + v + v), .int .i64 0, .int .i64 0, .int .i64 0, .int .i64 0, .int .i64 0, .int .i64 (0 + a + v + v + v + 1 + 1 + 1 + 1)] 31] rfl rfl ?_
  conv => whnf
  (try conv => whnf); repeat ((first | (with_reducible first | refine Br.tt ?_ | refine Br.ff ?_ | refine Br.nt ?_ | refine Br.nf ?_) | ((with_reducible refine Br.yk ?_ ?_); omega) | ((with_reducible refine Br.yd ?_ ?_); omega) | ((with_reducible refine Br.nd ?_ ?_); omega) | ((with_reducible refine Br.nyd ?_ ?_); omega) | ((with_reducible refine Br.nnd ?_ ?_); omega) | ((with_reducible refine Br.yd ?_ ?_); decide) | ((with_reducible refine Br.nyd ?_ ?_); decide)); conv => whnf)
  refine VCallF.wr [1] (more_c v a w (roomI v) 0 (0 + a) (0 + a + v) (0 + a + v + v) (0 + a + v + v + v) (0 + a + v + v + v + 1) (0 + a + v + v + v + 1 + 1) (0 + a + v + v + v + 1 + 1 + 1) 0 (0 + a + v + v + v + 1 + 1 + 1 + 1) (w * (roomI v + 2)) (by omega) (by omega)) (by decide) (hlt_of rfl) ⟨⟨rfl, rfl, rfl⟩, trivial⟩ rfl rfl rfl rfl ⟨rfl, trivial⟩ rfl (.int .i64 (0 + a + v + v + v + 1 + 1 + 1 + 1)) [.cells zero14 31, .cells [.int .i64 v, .int .i64 a, .int .i64 w, .int .i64 (roomI v), .int .i64 0, .int .i64 (0 + a), .int .i64 (0 + a + v), .int .i64 (0 + a + v + v), .int .i64 (0 + a + v + v + v), .int .i64 (0 + a + v + v + v + 1), .int .i64 (0 + a + v + v + v + 1 + 1), .int .i64 (0 + a + v + v + v + 1 + 1 + 1), .int .i64 0, .int .i64 (0 + a + v + v + v + 1 + 1 + 1 + 1 + (w * (roomI v + 2)))] 31] rfl rfl ?_
  conv => whnf
  exact VRet.dr [] _ rfl rfl trivial rfl ⟨rfl, rfl⟩
theorem plan_bad (v a w : Int) (hv : 0 ≤ v) (hv2 : v ≤ 16) (ha : 0 ≤ a) (ha2 : a ≤ 1000) (hw : w < 1 ∨ 64 < w) :
    VCalls Tryz.prog 71 [.int .i64 v, .int .i64 a, .int .i64 w] [] (fun r M' => r = .tuple ⟨[.agg ⟨zero14⟩, .int .i64 2]⟩ ∧ M' = []) := by
  refine VCalls.ok2 f71_ok mixed rfl ?_
  rcases hw with hw | hw
  all_goals
    conv => whnf
    (try conv => whnf); repeat ((first | (with_reducible first | refine Br.tt ?_ | refine Br.ff ?_ | refine Br.nt ?_ | refine Br.nf ?_) | ((with_reducible refine Br.yk ?_ ?_); omega) | ((with_reducible refine Br.yd ?_ ?_); omega) | ((with_reducible refine Br.nd ?_ ?_); omega) | ((with_reducible refine Br.nyd ?_ ?_); omega) | ((with_reducible refine Br.nnd ?_ ?_); omega) | ((with_reducible refine Br.yd ?_ ?_); decide) | ((with_reducible refine Br.nyd ?_ ?_); decide)); conv => whnf)
    exact VRet.dr [] _ rfl rfl trivial rfl ⟨rfl, rfl⟩
def bankV (k n : Nat) : Value := .slice (some ⟨k, 0, none⟩) n n
/-- A new bank: its cells are all 0. -/
theorem bank_c (n : Int) (m : Nat) (hm : (m : Int) = n) (h2 : n ≤ 524288) : VCalls Tryz.prog 73 [.int .i64 n] [] (fun r M' => r = .tuple ⟨[.pointer (some ⟨0, 0, none⟩), .int .i64 0]⟩ ∧ M' = [.cells [bankV 1 m] 221, .arr 1 m (intG fun _ => 0) 226]) := by
  have hn : n.toNat = m := by omega
  refine VCalls.ok2 f73_ok mixed rfl ?_
  conv => whnf
  (try conv => whnf); repeat ((first | (with_reducible first | refine Br.tt ?_ | refine Br.ff ?_ | refine Br.nt ?_ | refine Br.nf ?_) | ((with_reducible refine Br.yk ?_ ?_); omega) | ((with_reducible refine Br.yd ?_ ?_); omega) | ((with_reducible refine Br.nd ?_ ?_); omega) | ((with_reducible refine Br.nyd ?_ ?_); omega) | ((with_reducible refine Br.nnd ?_ ?_); omega) | ((with_reducible refine Br.yd ?_ ?_); decide) | ((with_reducible refine Br.nyd ?_ ?_); decide)); conv => whnf)
  rw [hn]
  refine VRet.of (v2 := .tuple ⟨[.pointer (some ⟨0, 0, none⟩), .int .i64 0]⟩) (M2 := [.cells [bankV 1 m] 221, .arr 1 m (intG fun _ => 0) 226]) [1, 0] (by decide) rfl ⟨⟨rfl, rfl, rfl⟩, intO2 rfl (by omega) fun j _ => ?_, trivial⟩ rfl rfl ⟨rfl, rfl⟩
  rw [Nat.mod_one]; rfl
end Vm
end Go.Proofs.YtcafmkekkcbamaaGreat
namespace Go.Proofs.YtcafmkekkcbamaaGreat
open Go.RowKit
namespace Vm
attribute [local irreducible] VCallF VYield VLoop VRet inK
set_option maxRecDepth 100000

/-- A row's lists, looked at. -/
def csrW (n A : Nat) (fst hd rv cp ac : Nat → Int) (bk : Nat → Bool) : VMem := [.view (n + 1) (intG fst), .view A (intG hd), .view A (intG rv), .view A (intG cp), .view A (intG ac), .view A (boolG bk)]
theorem csrW_ok {m n A : Nat} {fst hd rv cp ac : Nat → Int} {bk : Nat → Bool} : okM m (csrW n A fst hd rv cp ac bk) := ⟨intV_ok, intV_ok, intV_ok, intV_ok, intV_ok, boolV_ok, trivial⟩
theorem vwO {σ : Sig} {g : Nat → Value} (h : ints g) {n : Nat} : OLe σ (some (.view n g)) (.view n g) := h.ole (.inl ⟨_, rfl, Nat.le_refl _⟩)
section
variable (N S T : Int) (n A : Nat) (fst hd rv cp ac : Nat → Int) (bk : Nat → Bool)
theorem len_c (a : Int) (ha : (A : Int) = a) : VCalls Tryz.prog 72 [.agg ⟨csrL N S T n A 0⟩] (csrW n A fst hd rv cp ac bk) (fun v M' => v = .int .i64 a ∧ M' = csrW n A fst hd rv cp ac bk) := by
  refine VCalls.ok2 f72_ok mixed rfl ?_
  conv => whnf
  refine VRet.dr [_, _, _, _, _, _] _ rfl rfl csrW_ok rfl ⟨?_, rfl⟩
  show Value.int .i64 (A : Int) = _
  rw [ha]
def crewL (N S T : Int) (n A : Nat) (a w limit : Int) (k : Nat) : List Value := csrL N S T n A 0 ++ layL N a w (roomI N) ++ [.pointer (some ⟨k, 0, none⟩), .int .i64 limit]
theorem csrW_ole {σ : Sig} (M : VMem) (h : σ = 0 :: 1 :: 2 :: 3 :: 4 :: 5 :: []) : MemLe σ (csrW n A fst hd rv cp ac bk ++ M) σ (csrW n A fst hd rv cp ac bk) := by
  subst h
  exact ⟨vwO (intG_ints _), vwO (intG_ints _), vwO (intG_ints _), vwO (intG_ints _), vwO (intG_ints _), vwO (boolG_ints _), trivial⟩
theorem crew_c (w limit : Int) (hN : 0 ≤ N) (hN2 : N ≤ 16) (hA : A ≤ 1000) (hw : 1 ≤ w) (hw2 : w ≤ 64) (hl : 1 ≤ limit) :
    VCalls Tryz.prog 25 [.agg ⟨csrL N S T n A 0⟩, .int .i64 w, .int .i64 limit] (csrW n A fst hd rv cp ac bk) (fun v M' => ∃ a m, (A : Int) = a ∧ v = .tuple ⟨[.pointer (some ⟨6, 0, none⟩), .int .i64 0]⟩ ∧
      M' = csrW n A fst hd rv cp ac bk ++ [VObj.cells (crewL N S T n A a w limit 7) 80, VObj.cells [bankV 8 m] 221, VObj.arr 1 m (intG fun _ => 0) 226]) := by
  obtain ⟨a, ha⟩ : ∃ a : Int, (A : Int) = a := ⟨_, rfl⟩
  have hr := roomI_b N
  have hm := mul_b hw hw2 hr.1 hr.2
  obtain ⟨m, hmm⟩ : ∃ m : Nat, (m : Int) = 0 + a + N + N + N + 1 + 1 + 1 + 1 + w * (roomI N + 2) := ⟨(0 + a + N + N + N + 1 + 1 + 1 + 1 + w * (roomI N + 2)).toNat, by omega⟩
  refine VCalls.ok2 f25_ok mixed rfl ?_
  conv => whnf
  apply exC
  · conv => whnf
    refine VCallF.rd [0, 1, 2, 3, 4, 5] (len_c N S T n A fst hd rv cp ac bk a ha) (by decide) (hlt_of rfl) ?_ rfl rfl rfl rfl ?_
    · exact csrW_ole _ _ _ _ _ _ _ _ _ rfl
    · exact ⟨rfl, rfl⟩
  · rfl
  · rfl
  conv => whnf
  refine And.intro (by (conv => whnf); first | rfl | (refine Br.yd (by omega) ?_; rfl)) ?_; (try conv => whnf)
  conv => whnf
  apply exC
  · conv => whnf
    refine VCallF.rd [] (plan_ok N a w hN hN2 (by omega) (by omega) hw hw2) (by decide) (hlt_of rfl) ?_ rfl rfl rfl rfl ?_
    · trivial
    · exact ⟨rfl, rfl⟩
  · rfl
  · rfl
  conv => whnf
  refine ⟨rfl, rfl, ?_⟩
  conv => whnf
  (try conv => whnf); repeat ((first | (with_reducible first | refine Br.tt ?_ | refine Br.ff ?_ | refine Br.nt ?_ | refine Br.nf ?_) | ((with_reducible refine Br.yk ?_ ?_); omega) | ((with_reducible refine Br.yd ?_ ?_); omega) | ((with_reducible refine Br.nd ?_ ?_); omega) | ((with_reducible refine Br.nyd ?_ ?_); omega) | ((with_reducible refine Br.nnd ?_ ?_); omega) | ((with_reducible refine Br.yd ?_ ?_); decide) | ((with_reducible refine Br.nyd ?_ ?_); decide)); conv => whnf)
  refine VCallF.new [] (bank_c _ m hmm (by omega)) (by decide) (hlt_of rfl) trivial rfl rfl rfl ?_
  rintro v M1 ⟨rfl, rfl⟩
  refine ⟨_, rfl, rfl, ⟨rfl, intA_ok, trivial⟩, trivial, rfl, ?_⟩
  conv => whnf
  (try conv => whnf); repeat ((first | (with_reducible first | refine Br.tt ?_ | refine Br.ff ?_ | refine Br.nt ?_ | refine Br.nf ?_) | ((with_reducible refine Br.yk ?_ ?_); omega) | ((with_reducible refine Br.yd ?_ ?_); omega) | ((with_reducible refine Br.nd ?_ ?_); omega) | ((with_reducible refine Br.nyd ?_ ?_); omega) | ((with_reducible refine Br.nnd ?_ ?_); omega) | ((with_reducible refine Br.yd ?_ ?_); decide) | ((with_reducible refine Br.nyd ?_ ?_); decide)); conv => whnf)
  exact VRet.of (v2 := .tuple ⟨[.pointer (some ⟨6, 0, none⟩), .int .i64 0]⟩) (M2 := (csrW n A fst hd rv cp ac bk ++ [VObj.cells (crewL N S T n A a w limit 7) 80, VObj.cells [bankV 8 m] 221, VObj.arr 1 m (intG fun _ => 0) 226] : VMem)) [0, 1, 2, 3, 4, 5, 10, 8, 9] (by decide) rfl
    ⟨vwO (intG_ints _), vwO (intG_ints _), vwO (intG_ints _), vwO (intG_ints _), vwO (intG_ints _), vwO (boolG_ints _), ⟨rfl, rfl, rfl⟩, ⟨rfl, rfl, rfl⟩, intO2 rfl (Nat.le_refl _) fun j _ => rfl, trivial⟩ rfl rfl ⟨a, m, ha, rfl, rfl⟩
theorem crewBad_c (w limit : Int) (hN : 0 ≤ N) (hN2 : N ≤ 16) (hA : A ≤ 1000) (hw : w < 1 ∨ 64 < w) :
    VCalls Tryz.prog 25 [.agg ⟨csrL N S T n A 0⟩, .int .i64 w, .int .i64 limit] (csrW n A fst hd rv cp ac bk) (fun v M' => v = .tuple ⟨[.pointer none, .int .i64 2]⟩ ∧ M' = csrW n A fst hd rv cp ac bk) := by
  obtain ⟨a, ha⟩ : ∃ a : Int, (A : Int) = a := ⟨_, rfl⟩
  refine VCalls.ok2 f25_ok mixed rfl ?_
  conv => whnf
  apply exC
  · conv => whnf
    refine VCallF.rd [0, 1, 2, 3, 4, 5] (len_c N S T n A fst hd rv cp ac bk a ha) (by decide) (hlt_of rfl) ?_ rfl rfl rfl rfl ?_
    · exact csrW_ole _ _ _ _ _ _ _ _ _ rfl
    · exact ⟨rfl, rfl⟩
  · rfl
  · rfl
  conv => whnf
  refine And.intro (by (conv => whnf); first | rfl | (refine Br.yd (by omega) ?_; rfl)) ?_; (try conv => whnf)
  conv => whnf
  apply exC
  · conv => whnf
    refine VCallF.rd [] (plan_bad N a w hN hN2 (by omega) (by omega) hw) (by decide) (hlt_of rfl) ?_ rfl rfl rfl rfl ?_
    · trivial
    · exact ⟨rfl, rfl⟩
  · rfl
  · rfl
  conv => whnf
  refine ⟨rfl, rfl, ?_⟩
  conv => whnf
  (try conv => whnf); repeat ((first | (with_reducible first | refine Br.tt ?_ | refine Br.ff ?_ | refine Br.nt ?_ | refine Br.nf ?_) | ((with_reducible refine Br.yk ?_ ?_); omega) | ((with_reducible refine Br.yd ?_ ?_); omega) | ((with_reducible refine Br.nd ?_ ?_); omega) | ((with_reducible refine Br.nyd ?_ ?_); omega) | ((with_reducible refine Br.nnd ?_ ?_); omega) | ((with_reducible refine Br.yd ?_ ?_); decide) | ((with_reducible refine Br.nyd ?_ ?_); decide)); conv => whnf)
  exact VRet.dr [_, _, _, _, _, _] _ rfl rfl csrW_ok rfl ⟨rfl, rfl⟩
theorem crewLim_c (w limit : Int) (hN : 0 ≤ N) (hN2 : N ≤ 16) (hA : A ≤ 1000) (hw : 1 ≤ w) (hw2 : w ≤ 64) (hl : limit < 1) :
    VCalls Tryz.prog 25 [.agg ⟨csrL N S T n A 0⟩, .int .i64 w, .int .i64 limit] (csrW n A fst hd rv cp ac bk) (fun v M' => v = .tuple ⟨[.pointer none, .int .i64 2]⟩ ∧ M' = csrW n A fst hd rv cp ac bk) := by
  obtain ⟨a, ha⟩ : ∃ a : Int, (A : Int) = a := ⟨_, rfl⟩
  refine VCalls.ok2 f25_ok mixed rfl ?_
  conv => whnf
  apply exC
  · conv => whnf
    refine VCallF.rd [0, 1, 2, 3, 4, 5] (len_c N S T n A fst hd rv cp ac bk a ha) (by decide) (hlt_of rfl) ?_ rfl rfl rfl rfl ?_
    · exact csrW_ole _ _ _ _ _ _ _ _ _ rfl
    · exact ⟨rfl, rfl⟩
  · rfl
  · rfl
  conv => whnf
  refine And.intro (by (conv => whnf); first | rfl | (refine Br.yd (by omega) ?_; rfl)) ?_; (try conv => whnf)
  conv => whnf
  apply exC
  · conv => whnf
    refine VCallF.rd [] (plan_ok N a w hN hN2 (by omega) (by omega) hw hw2) (by decide) (hlt_of rfl) ?_ rfl rfl rfl rfl ?_
    · trivial
    · exact ⟨rfl, rfl⟩
  · rfl
  · rfl
  conv => whnf
  refine ⟨rfl, rfl, ?_⟩
  conv => whnf
  (try conv => whnf); repeat ((first | (with_reducible first | refine Br.tt ?_ | refine Br.ff ?_ | refine Br.nt ?_ | refine Br.nf ?_) | ((with_reducible refine Br.yk ?_ ?_); omega) | ((with_reducible refine Br.yd ?_ ?_); omega) | ((with_reducible refine Br.nd ?_ ?_); omega) | ((with_reducible refine Br.nyd ?_ ?_); omega) | ((with_reducible refine Br.nnd ?_ ?_); omega) | ((with_reducible refine Br.yd ?_ ?_); decide) | ((with_reducible refine Br.nyd ?_ ?_); decide)); conv => whnf)
  exact VRet.dr [_, _, _, _, _, _] _ rfl rfl csrW_ok rfl ⟨rfl, rfl⟩
end
end Vm
end Go.Proofs.YtcafmkekkcbamaaGreat
namespace Go.Proofs.YtcafmkekkcbamaaGreat
open Go.RowKit
namespace Vm
attribute [local irreducible] VCallF VYield VLoop VRet inK
set_option maxRecDepth 100000

theorem sumL_set {g : Nat → Int} {i : Nat} {x : Int} : ∀ {n : Nat}, sumL (setF g i x) n = sumL g n + (if i < n then x - g i else 0)
  | 0 => by simp [sumL]
  | n + 1 => by
    simp only [sumL]
    rw [sumL_set (n := n)]
    by_cases h : i = n
    · subst h
      rw [setF_eq, if_neg (by omega), if_pos (by omega)]; omega
    · rw [setF_ne (by omega)]
      by_cases h2 : i < n
      · rw [if_pos h2, if_pos (by omega)]; omega
      · rw [if_neg h2, if_neg (by omega)]; omega
theorem sumL_mem {g : Nat → Int} : ∀ {n : Nat}, (∀ j, j < n → 0 ≤ g j) → ∀ i, i < n → g i ≤ sumL g n
  | 0, _, i, hi => by omega
  | n + 1, h, i, hi => by
    simp only [sumL]
    have h1 : 0 ≤ sumL g n := by
      rcases Nat.eq_zero_or_pos n with h' | h'
      · subst h'; simp [sumL]
      · exact Int.le_trans (h 0 (by omega)) (sumL_mem (fun j hj => h j (by omega)) 0 h')
    rcases Nat.lt_or_ge i n with h2 | h2
    · have := sumL_mem (n := n) (fun j hj => h j (by omega)) i h2
      have := h n (by omega)
      omega
    · have : i = n := by omega
      subst this; omega
/-- Two places: one has less, then one has more. -/
def mv (g : Nat → Int) (i j : Nat) (d : Int) : Nat → Int := setF (setF g i (g i - d)) j (setF g i (g i - d) j + d)
theorem mv_sum {g : Nat → Int} {i j n : Nat} {d : Int} (hi : i < n) (hj : j < n) : sumL (mv g i j d) n = sumL g n := by
  unfold mv
  rw [sumL_set, sumL_set, if_pos hi, if_pos hj]; omega
theorem mv_b {g : Nat → Int} {i j n : Nat} {d b : Int} (hd : 0 ≤ d) (hi : i < n) (h : ∀ k, k < n → -b ≤ g k ∧ g k ≤ b) : ∀ k, k < n → -(b + d) ≤ mv g i j d k ∧ mv g i j d k ≤ b + d := by
  intro k hk
  unfold mv
  have h1 := h i hi
  have h2 := h k hk
  by_cases hkj : k = j
  · subst hkj
    rw [setF_eq]
    by_cases hki : k = i
    · subst hki; rw [setF_eq]; omega
    · rw [setF_ne hki]; omega
  · rw [setF_ne hkj]
    by_cases hki : k = i
    · subst hki; rw [setF_eq]; omega
    · rw [setF_ne hki]; omega
theorem mv_nn {g : Nat → Int} {i j n : Nat} (hi : i < n) (h : ∀ k, k < n → 0 ≤ g k) : ∀ k, k < n → 0 ≤ mv g i j (g i) k := by
  intro k hk
  unfold mv
  have h1 := h i hi
  have h2 := h k hk
  by_cases hkj : k = j
  · subst hkj
    rw [setF_eq]
    by_cases hki : k = i
    · subst hki; rw [setF_eq]; omega
    · rw [setF_ne hki]; omega
  · rw [setF_ne hkj]
    by_cases hki : k = i
    · subst hki; rw [setF_eq]; omega
    · rw [setF_ne hki]; omega

def preL (n A k : Nat) : List Value := [sl1 k A, sl1 (k + 1) n, sl1 (k + 2) n]
def preG (n A k : Nat) (i : Nat) : Value := (preL n A k).getD i undef
theorem below3 {p : Nat → Prop} (h0 : p 0) (h1 : p 1) (h2 : p 2) : ∀ j, j < 3 → p j := by
  intro j hj
  match j, hj with
  | 0, _ => exact h0
  | 1, _ => exact h1
  | 2, _ => exact h2
section
variable (N S T : Int) (n A : Nat) (fst hd rv cp ac : Nat → Int) (bk : Nat → Bool)
def moveM (n A : Nat) (fst hd rv cp ac : Nat → Int) (bk : Nat → Bool) (rs ex : Nat → Int) : VMem :=
  csrW n A fst hd rv cp ac bk ++ [VObj.view 3 (preG n A 7), .arr 1 A (intG rs) 2, .arr 1 n (intG ex) 2, .gone]
theorem moveM_ole {rs ex : Nat → Int} {rs' ex' : Nat → Value} (G : VMem) (h1 : ∀ j, j < A → rs' j = intG rs j) (h2 : ∀ j, j < n → ex' j = intG ex j) : MemLe [0, 1, 2, 3, 4, 5, 6, 7, 8, 9] (csrW n A fst hd rv cp ac bk ++ [VObj.view 3 (preG n A 7), .arr 1 A rs' 2, .arr 1 n ex' 2, .gone] ++ G) [0, 1, 2, 3, 4, 5, 6, 7, 8, 9] (moveM n A fst hd rv cp ac bk rs ex) :=
  ⟨vwO (intG_ints _), vwO (intG_ints _), vwO (intG_ints _), vwO (intG_ints _), vwO (intG_ints _), vwO (boolG_ints _),
   ⟨Nat.le_refl _, below3 (p := fun j => okN dep 10 (preG n A 7 j) = true ∧ preG n A 7 j = renN dep [0, 1, 2, 3, 4, 5, 6, 7, 8, 9] (preG n A 7 j)) ⟨rfl, rfl⟩ ⟨rfl, rfl⟩ ⟨rfl, rfl⟩⟩, intO2 rfl (Nat.le_refl _) h1, intO2 rfl (Nat.le_refl _) h2, trivial, trivial⟩
theorem move_c (rs ex : Nat → Int) (a' b u v : Nat) (a d : Int) (ha : (a' : Int) = a) (haA : a' < A) (hb : rv a' = b) (hbA : b < A) (hu : hd b = u) (hun : u < n) (hv : hd a' = v) (hvn : v < n)
    (hd0 : 0 ≤ d) (hd1 : d ≤ 1152921504606846976) (hrs : ∀ j, j < A → 0 ≤ rs j ∧ rs j ≤ 1152921504606846976) (hex : ∀ j, j < n → -2305843009213693952 ≤ ex j ∧ ex j ≤ 2305843009213693952) :
    VCalls Tryz.prog 121 [.agg ⟨csrL N S T n A 0⟩, .pointer (some ⟨6, 0, none⟩), .int .i64 a, .int .i64 d] (moveM n A fst hd rv cp ac bk rs ex)
      (fun r M' => r = .tuple #[] ∧ M' = moveM n A fst hd rv cp ac bk (mv rs a' b d) (mv ex u v d)) := by
  have e1 : 0 + a.toNat * 1 = a' := by omega
  refine VCalls.ok2 f121_ok mixed rfl ?_
  have e2 : 0 + (rv a').toNat * 1 = b := by omega
  have e3 : 0 + (hd b).toNat * 1 = u := by omega
  have e4 : 0 + (hd a').toNat * 1 = v := by omega
  have r1 := hrs a' haA
  have r2 := hrs b hbA
  have r3 := setF_or rs a' b (rs a' - d)
  have x1 := hex u hun
  have x2 := hex v hvn
  have x3 := setF_or ex u v (ex u - d)
  conv => whnf
  (try conv => whnf); repeat ((first | (with_reducible first | refine Br.tt ?_ | refine Br.ff ?_ | refine Br.nt ?_ | refine Br.nf ?_) | ((with_reducible refine Br.yk ?_ ?_); omega) | ((with_reducible refine Br.yd ?_ ?_); omega) | ((with_reducible refine Br.nd ?_ ?_); omega) | ((with_reducible refine Br.nyd ?_ ?_); omega) | ((with_reducible refine Br.nnd ?_ ?_); omega) | ((with_reducible refine Br.yd ?_ ?_); decide) | ((with_reducible refine Br.nyd ?_ ?_); decide) | rw [e1] | rw [e2] | rw [e3] | rw [e4] | rw [updG_int]); conv => whnf)
  exact VRet.dr [_, _, _, _, _, _, _, _, _, _] _ rfl rfl ⟨intV_ok, intV_ok, intV_ok, intV_ok, intV_ok, boolV_ok, below3 (p := fun j => okN dep 10 (preG n A 7 j) = true) rfl rfl rfl, intA_ok, intA_ok, trivial, trivial⟩ rfl ⟨rfl, rfl⟩
theorem arcs_c (u : Int) : VCalls Tryz.prog 116 [.agg ⟨csrL N S T n A 0⟩, .int .i64 u] (csrW n A fst hd rv cp ac bk) (fun r M' => r = .func (.func 199) #[] #[.pointer (some ⟨6, 0, none⟩), .pointer (some ⟨7, 0, none⟩)] ∧
    M' = csrW n A fst hd rv cp ac bk ++ [VObj.cells (csrL N S T n A 0) 29, VObj.cells [.int .i64 u] 3]) := by
  refine VCalls.ok2 f116_ok mixed rfl ?_
  conv => whnf
  exact VRet.here ⟨rfl, rfl⟩
end
end Vm
end Go.Proofs.YtcafmkekkcbamaaGreat
namespace Go.Proofs.YtcafmkekkcbamaaGreat
open Go.RowKit
namespace Vm
attribute [local irreducible] VCallF VYield VLoop VRet inK
set_option maxRecDepth 100000
section
variable (N S T : Int) (n A : Nat) (fst hd rv cp ac : Nat → Int) (bk : Nat → Bool)
def beginM (N S T : Int) (n A : Nat) (fst hd rv cp ac : Nat → Int) (bk : Nat → Bool) (rs ex hh : Nat → Int) : VMem :=
  [.view (n + 1) (intG fst), .view A (intG hd), .view A (intG rv), .view A (intG cp), .view A (intG ac), .view A (boolG bk), .cells (csrL N S T n A 0) 29, .cells [.slice none 0 0, .slice none 0 0, .slice none 0 0] 53,
   .arr 1 n (intG ex) 2, .arr 1 n (intG hh) 3, .cells [sl1 11 A, sl1 8 n, sl1 9 n] 53, .arr 1 A (intG rs) 2, .cells (csrL N S T n A 0) 29, .cells [.int .i64 S] 3]
def esubP (E : Env) : Env → Prop
  | [] => True
  | (t, v) :: E0 => eget E t = some v ∧ esubP E E0
theorem esub_of {E : Env} : ∀ {E0 : Env}, esubP E E0 → ∀ t v, eget E0 t = some v → eget E t = some v
  | [], _, t, v, h => by simp [eget] at h
  | (u, x) :: E0, ⟨h1, h2⟩, t, v, h => by
    simp only [eget] at h
    split at h
    · rename_i hb
      rw [← Nat.eq_of_beq_eq_true hb, h1]; exact h
    · exact esub_of h2 t v h
def loopE : Env := [(3, .pointer (some ⟨10, 0, none⟩)), (1, .pointer (some ⟨6, 0, none⟩))]
def begE (z : Int) : Env := [(4, .int .i64 z), (2, .pointer (some ⟨13, 0, none⟩)), (1, .pointer (some ⟨12, 0, none⟩)), (0, .func (.yield 14) #[] #[])]
noncomputable def begL (st : LoopState) : VObj := .loop st none loopE 36 #[26] (pathC (bodyC Tryz.f75) [1, 1, 1, 0, 1, 0, 0]) (pathC (bodyC Tryz.f75) [1, 1, 1, 0, 1, 0, 1])
structure BegI (n A : Nat) (cp : Nat → Int) (q : Int) (rs ex : Nat → Int) : Prop where
  q0 : 0 ≤ q
  sum : sumL ex n = 0
  exb : ∀ j, j < n → -(q * 72057594037927936) ≤ ex j ∧ ex j ≤ q * 72057594037927936
  rsum : sumL rs A = sumL cp A
  rs0 : ∀ j, j < A → 0 ≤ rs j
theorem begin_c (hnN : (n : Int) = N) (hn : n ≤ 1000) (hA : A ≤ 32) (s : Nat) (hs : (s : Int) = S) (hsn : s < n) (hR : RowOk N n A fst hd rv cp) :
    VCalls Tryz.prog 75 [.agg ⟨csrL N S T n A 0⟩] (csrW n A fst hd rv cp ac bk)
      (fun r M' => ∃ rs ex hh, sumL ex n = 0 ∧ (∀ j, j < n → -2305843009213693952 ≤ ex j ∧ ex j ≤ 2305843009213693952) ∧ hh s = N ∧
        r = .agg ⟨preL n A 6⟩ ∧ M' = csrW n A fst hd rv cp ac bk ++ [VObj.arr 1 A (intG rs) 2, .arr 1 n (intG ex) 2, .arr 1 n (intG hh) 3]) := by
  have e1 : 0 + S.toNat * 1 = s := by omega
  have e2 : N.toNat = n := by omega
  refine VCalls.ok2 f75_ok mixed rfl ?_
  conv => whnf
  apply exC
  · conv => whnf
    refine VCallF.new [3] (clone64_c 0 A A A cp (by omega) (by omega)) (by decide) (hlt_of rfl) ⟨vwO (intG_ints _), trivial⟩ rfl rfl rfl ?_
    rintro v M1 ⟨rfl, rfl⟩
    exact ⟨_, rfl, rfl, ⟨intA_ok, trivial⟩, ⟨intV_ok, trivial⟩, rfl, rfl, rfl⟩
  · rfl
  · rfl
  conv => whnf
  refine And.intro (by (conv => whnf); first | rfl | (refine Br.yd (by omega) ?_; rfl)) ?_; (try conv => whnf)
  refine And.intro (by (conv => whnf); first | rfl | (refine Br.yd (by omega) ?_; rfl)) ?_; (try conv => whnf)
  conv => whnf
  (try conv => whnf); repeat ((first | (with_reducible first | refine Br.tt ?_ | refine Br.ff ?_ | refine Br.nt ?_ | refine Br.nf ?_) | ((with_reducible refine Br.yk ?_ ?_); omega) | ((with_reducible refine Br.yd ?_ ?_); omega) | ((with_reducible refine Br.nd ?_ ?_); omega) | ((with_reducible refine Br.nyd ?_ ?_); omega) | ((with_reducible refine Br.nnd ?_ ?_); omega) | ((with_reducible refine Br.yd ?_ ?_); decide) | ((with_reducible refine Br.nyd ?_ ?_); decide) | rw [e1] | rw [e2] | rw [updG_int]); conv => whnf)
  refine VCallF.wa [0, 1, 2, 3, 4, 5] (arcs_c N S T n A fst hd rv cp ac bk S) (by decide) (hlt_of rfl) (csrW_ole n A fst hd rv cp ac bk _ rfl) rfl rfl rfl rfl ⟨intV_ok, intV_ok, intV_ok, intV_ok, intV_ok, boolV_ok, rfl, rfl, trivial⟩ rfl ?_
  conv => whnf
  refine ⟨loopE, esub_of ⟨rfl, rfl, trivial⟩, ?_⟩
  refine VCalls.ok2 f199_ok mixed rfl ?_
  conv => whnf
  (try conv => whnf); repeat ((first | (with_reducible first | refine Br.tt ?_ | refine Br.ff ?_ | refine Br.nt ?_ | refine Br.nf ?_) | ((with_reducible refine Br.yk ?_ ?_); omega) | ((with_reducible refine Br.yd ?_ ?_); omega) | ((with_reducible refine Br.nd ?_ ?_); omega) | ((with_reducible refine Br.nyd ?_ ?_); omega) | ((with_reducible refine Br.nnd ?_ ?_); omega) | ((with_reducible refine Br.yd ?_ ?_); decide) | ((with_reducible refine Br.nyd ?_ ?_); decide) | rw [e1]); conv => whnf)
  have hf0 := hR.f0 s (by omega)
  have hf1 := hR.fm s hsn
  have hf2 := hR.fA (s + 1) (by omega)
  have hC := sumL_le (c := cp) (b := 1125899906842624) (n := A) (fun j hj => ⟨hR.c0 j hj, by have := hR.cb j hj; omega⟩)
  have e3 : 0 + (S + 1).toNat * 1 = s + 1 := by omega
  refine VLoop.intro (fun m E M => ∃ (rs ex : Nat → Int) (z q : Int), q = z - fst s ∧ z ≤ fst (s + 1) ∧ m = (fst (s + 1) - z).toNat ∧ BegI n A cp q rs ex ∧ E = begE z ∧ M = beginM N S T n A fst hd rv cp ac bk rs ex (setF (fun _ => 0) s N) ++ [begL .ready]) (fst (s + 1) - fst s).toNat _ _
    ⟨cp, fun _ => 0, fst s, 0, by omega, by omega, rfl, ⟨Int.le_refl _, ?_, fun j hj => by omega, rfl, hR.c0⟩, rfl, rfl⟩ ?_ ?_
  · clear hs hsn hnN hn hA hR e1 e2 hf0 hf1 hf2 hC e3
    induction n with
    | zero => rfl
    | succ n ih => simp only [sumL, ih]; rfl
  · refine WeakE.of [0, 1, 2, 3, 4, 5, 6, 7, 8, 9, 10, 11, 12, 13, 14] (by decide) rfl ⟨vwO (intG_ints _), vwO (intG_ints _), vwO (intG_ints _), vwO (intG_ints _), vwO (intG_ints _), vwO (boolG_ints _), ⟨rfl, rfl, rfl⟩, ⟨rfl, rfl, rfl⟩, intO2 rfl (by omega) fun j _ => ?_, intO2 rfl (by omega) fun j _ => ?_, ⟨rfl, rfl, rfl⟩, intO2 rfl (Nat.le_refl _) fun j _ => ?_, ⟨rfl, rfl, rfl⟩, ⟨rfl, rfl, rfl⟩, ⟨rfl, rfl, rfl, rfl, rfl, rfl, rfl, rfl, rfl, rfl, trivial⟩, trivial⟩ (by repeat (first | exact trivial | refine ⟨rfl, rfl, ?_⟩))
    · rw [Nat.mod_one]; rfl
    · have e : (fun i => ([Value.int .i64 0] : List Value).getD (i % 1) undef) = intG (fun _ => 0) := by funext i; rw [Nat.mod_one]; rfl
      rw [e, updG_int]
    · show Value.int .i64 (cp (0 + j)) = _
      rw [Nat.zero_add]; rfl
  rintro m E M ⟨rs, ex, z, q, hq, hz, rfl, hI, rfl, rfl⟩
  have hq0 := hI.q0
  conv => whnf
  (try conv => whnf); repeat ((first | (with_reducible first | refine Br.tt ?_ | refine Br.ff ?_ | refine Br.nt ?_ | refine Br.nf ?_) | ((with_reducible refine Br.yk ?_ ?_); omega) | ((with_reducible refine Br.yd ?_ ?_); omega) | ((with_reducible refine Br.nd ?_ ?_); omega) | ((with_reducible refine Br.nyd ?_ ?_); omega) | ((with_reducible refine Br.nnd ?_ ?_); omega) | ((with_reducible refine Br.yd ?_ ?_); decide) | ((with_reducible refine Br.nyd ?_ ?_); decide) | rw [e3]); conv => whnf)
  refine Br.bd (fun h hb => ?_) (fun h hb => ?_)
  · conv => whnf
    have hz0 : 0 ≤ z := by omega
    obtain ⟨a', ha'⟩ : ∃ a' : Nat, (a' : Int) = z := ⟨z.toNat, by omega⟩
    have haA : a' < A := by omega
    have e4 : 0 + z.toNat * 1 = a' := by omega
    have r0 := hR.r0 a' haA
    have rA := hR.rA a' haA
    obtain ⟨b, hb'⟩ : ∃ b : Nat, rv a' = b := ⟨(rv a').toNat, by omega⟩
    have g0 := hR.h0 b (by omega)
    have g1 := hR.hn b (by omega)
    have g2 := hR.h0 a' haA
    have g3 := hR.hn a' haA
    obtain ⟨u, hu⟩ : ∃ u : Nat, hd b = u := ⟨(hd b).toNat, by omega⟩
    obtain ⟨v, hv⟩ : ∃ v : Nat, hd a' = v := ⟨(hd a').toNat, by omega⟩
    have hC2 : sumL cp A ≤ 36028797018963968 := by
      have : (A : Int) * 1125899906842624 ≤ 32 * 1125899906842624 := by omega
      omega
    have hrsb : ∀ j, j < A → 0 ≤ rs j ∧ rs j ≤ 36028797018963968 := fun j hj => ⟨hI.rs0 j hj, by have := sumL_mem hI.rs0 j hj; have := hI.rsum; omega⟩
    have hd1 := hrsb a' haA
    refine VYield.of2 mixed (k := 14) (nt := 36) (ps := #[26]) rfl (ga := er f75La0) (va := er f75La0) (gb := er f75Lb0) (vb := er f75Lb0) (by kernel_rfl) (by kernel_rfl) (by kernel_rfl) (by kernel_rfl) rfl rfl ?_
    conv => whnf
    (try conv => whnf); repeat ((first | (with_reducible first | refine Br.tt ?_ | refine Br.ff ?_ | refine Br.nt ?_ | refine Br.nf ?_) | ((with_reducible refine Br.yk ?_ ?_); omega) | ((with_reducible refine Br.yd ?_ ?_); omega) | ((with_reducible refine Br.nd ?_ ?_); omega) | ((with_reducible refine Br.nyd ?_ ?_); omega) | ((with_reducible refine Br.nnd ?_ ?_); omega) | ((with_reducible refine Br.yd ?_ ?_); decide) | ((with_reducible refine Br.nyd ?_ ?_); decide) | rw [e4]); conv => whnf)
    refine VCallF.wr [0, 1, 2, 3, 4, 5, 10, 11, 8, 9] (move_c N S T n A fst hd rv cp ac bk rs ex a' b u v z (rs a') ha' haA hb' (by omega) hu (by omega) hv (by omega) hd1.1 (by omega) (fun j hj => ⟨(hrsb j hj).1, by have := (hrsb j hj).2; omega⟩) (fun j hj => by have := hI.exb j hj; omega))
      (by decide) (hlt_of rfl) ⟨vwO (intG_ints _), vwO (intG_ints _), vwO (intG_ints _), vwO (intG_ints _), vwO (intG_ints _), vwO (boolG_ints _), ?_, intO2 rfl (Nat.le_refl _) fun j _ => rfl, intO2 rfl (Nat.le_refl _) fun j _ => rfl, trivial, trivial⟩ rfl rfl rfl rfl
      ⟨intV_ok, intV_ok, intV_ok, intV_ok, intV_ok, boolV_ok, below3 (p := fun j => okN dep 10 (preG n A 7 j) = true) rfl rfl rfl, intA_ok, intA_ok, trivial, trivial⟩ rfl
      (.tuple #[]) (beginM N S T n A fst hd rv cp ac bk (mv rs a' b (rs a')) (mv ex u v (rs a')) (setF (fun _ => 0) s N) ++ [begL .busy]) rfl rfl ?_
    · exact below3 (p := fun j => okN dep 10 (preG n A 7 j) = true ∧ ([sl1 11 A, sl1 8 n, sl1 9 n] : List Value)[j]? = some (renN dep [0, 1, 2, 3, 4, 5, 10, 11, 8, 9] (preG n A 7 j))) ⟨rfl, rfl⟩ ⟨rfl, rfl⟩ ⟨rfl, rfl⟩
    conv => whnf
    (try conv => whnf); repeat ((first | (with_reducible first | refine Br.tt ?_ | refine Br.ff ?_ | refine Br.nt ?_ | refine Br.nf ?_) | ((with_reducible refine Br.yk ?_ ?_); omega) | ((with_reducible refine Br.yd ?_ ?_); omega) | ((with_reducible refine Br.nd ?_ ?_); omega) | ((with_reducible refine Br.nyd ?_ ?_); omega) | ((with_reducible refine Br.nnd ?_ ?_); omega) | ((with_reducible refine Br.yd ?_ ?_); decide) | ((with_reducible refine Br.nyd ?_ ?_); decide)); conv => whnf)
    refine ⟨(fst (s + 1) - (z + 1)).toNat, _, _, by omega, ⟨mv rs a' b (rs a'), mv ex u v (rs a'), z + 1, q + 1, by omega, by omega, rfl, ⟨by omega, ?_, fun j hj => ?_, ?_, mv_nn haA hI.rs0⟩, rfl, rfl⟩,
      WeakE.of [0, 1, 2, 3, 4, 5, 6, 7, 8, 9, 10, 11, 12, 13, 14] (by decide) rfl ⟨vwO (intG_ints _), vwO (intG_ints _), vwO (intG_ints _), vwO (intG_ints _), vwO (intG_ints _), vwO (boolG_ints _), ⟨rfl, rfl, rfl⟩, ⟨rfl, rfl, rfl⟩, intO2 rfl (Nat.le_refl _) fun j _ => rfl, intO2 rfl (Nat.le_refl _) fun j _ => rfl, ⟨rfl, rfl, rfl⟩, intO2 rfl (Nat.le_refl _) fun j _ => rfl, ⟨rfl, rfl, rfl⟩, ⟨rfl, rfl, rfl⟩, ⟨rfl, rfl, rfl, rfl, rfl, rfl, rfl, rfl, rfl, rfl, trivial⟩, trivial⟩ (by repeat (first | exact trivial | refine ⟨rfl, rfl, ?_⟩))⟩
    · rw [mv_sum (by omega) (by omega)]; exact hI.sum
    · have := mv_b (j := v) hd1.1 (show u < n by omega) hI.exb j hj
      omega
    · rw [mv_sum haA (by omega)]; exact hI.rsum
  · conv => whnf
    refine VRet.here ?_
    conv => whnf
    exact VRet.of (v2 := .agg ⟨preL n A 6⟩) (M2 := (csrW n A fst hd rv cp ac bk ++ [VObj.arr 1 A (intG rs) 2, .arr 1 n (intG ex) 2, .arr 1 n (intG (setF (fun _ => 0) s N)) 3] : VMem)) [0, 1, 2, 3, 4, 5, 11, 8, 9] (by decide) rfl
      ⟨vwO (intG_ints _), vwO (intG_ints _), vwO (intG_ints _), vwO (intG_ints _), vwO (intG_ints _), vwO (boolG_ints _), intO2 rfl (Nat.le_refl _) fun j _ => rfl, intO2 rfl (Nat.le_refl _) fun j _ => rfl, intO2 rfl (Nat.le_refl _) fun j _ => rfl, trivial⟩ rfl rfl
      ⟨rs, ex, setF (fun _ => 0) s N, hI.sum, fun j hj => by have := hI.exb j hj; omega, setF_eq, rfl, rfl⟩
end
end Vm
end Go.Proofs.YtcafmkekkcbamaaGreat
namespace Go.Proofs.YtcafmkekkcbamaaGreat
open Go.RowKit
namespace Vm
attribute [local irreducible] VCallF VYield VLoop VRet inK
set_option maxRecDepth 100000

def mxI (cp : Nat → Int) (i b : Nat) : Int := if cp i < cp b then cp b else cp i
def evBad (rv cp rs : Nat → Int) (i : Nat) : Bool := decide (rs i < 0) || (decide (mxI cp i (rv i).toNat < rs i) || !decide (rs (rv i).toNat = mxI cp i (rv i).toNat - rs i))
def evOk (rv cp rs : Nat → Int) : Nat → Bool
  | 0 => true
  | i + 1 => evOk rv cp rs i && !evBad rv cp rs i
def exF (hd rv : Nat → Int) (bk : Nat → Bool) (rs : Nat → Int) : Nat → Nat → Int
  | 0 => fun _ => 0
  | i + 1 => if bk i = true then mv (exF hd rv bk rs i) (hd i).toNat (hd (rv i).toNat).toNat (rs i) else exF hd rv bk rs i
def eqF (a b : Nat → Int) (n : Nat) : Bool := allF (fun j => decide (a j = b j)) n
def owF (S : Int) (ex : Nat → Int) (v : Nat) : Bool := !decide ((v : Int) = S) && decide (ex v < 0)
def evenB (S : Int) (n A : Nat) (hd rv cp : Nat → Int) (bk : Nat → Bool) (rs pex : Nat → Int) : Bool :=
  evOk rv cp rs A && (allF (fun v => !owF S (exF hd rv bk rs A) v) n && eqF (exF hd rv bk rs A) pex n)
theorem evOk_lt {rv cp rs : Nat → Int} : ∀ {n : Nat}, evOk rv cp rs n = true → ∀ i, i < n → evBad rv cp rs i = false
  | 0, _, i, h => by omega
  | n + 1, h, i, hi => by
    simp only [evOk, Bool.and_eq_true, Bool.not_eq_true'] at h
    rcases Nat.lt_or_ge i n with h' | h'
    · exact evOk_lt h.1 i h'
    · have : i = n := by omega
      subst this; exact h.2
theorem evOk_bad {rv cp rs : Nat → Int} {n i : Nat} (hi : i < n) (h : evBad rv cp rs i = true) : evOk rv cp rs n = false := by
  cases hb : evOk rv cp rs n with
  | false => rfl
  | true => rw [evOk_lt hb i hi] at h; cases h
theorem allF_bad {p : Nat → Bool} : ∀ {n i : Nat}, i < n → p i = false → allF p n = false
  | 0, i, hi, _ => by omega
  | n + 1, i, hi, h => by
    simp only [allF]
    rcases Nat.lt_or_ge i n with h' | h'
    · rw [allF_bad h' h]; rfl
    · have : i = n := by omega
      subst this; rw [h, Bool.and_false]
theorem evBad_out {rv cp rs : Nat → Int} {i : Nat} (h : evBad rv cp rs i = false) : 0 ≤ rs i ∧ rs i ≤ mxI cp i (rv i).toNat ∧ rs (rv i).toNat = mxI cp i (rv i).toNat - rs i := by
  simp only [evBad, Bool.or_eq_false_iff, decide_eq_false_iff_not, Bool.not_eq_false', decide_eq_true_eq] at h
  omega
theorem evBad_in {rv cp rs : Nat → Int} {i : Nat} (h : evBad rv cp rs i = true) : rs i < 0 ∨ mxI cp i (rv i).toNat < rs i ∨ rs (rv i).toNat ≠ mxI cp i (rv i).toNat - rs i := by
  simpa only [evBad, Bool.or_eq_true, decide_eq_true_eq, Bool.not_eq_true', decide_eq_false_iff_not] using h
structure RowH (N : Int) (n A : Nat) (hd rv cp : Nat → Int) : Prop where
  h0 : ∀ j, j < A → 0 ≤ hd j
  hn : ∀ j, j < A → hd j < n
  r0 : ∀ j, j < A → 0 ≤ rv j
  rA : ∀ j, j < A → rv j < A
  c0 : ∀ j, j < A → 0 ≤ cp j
  cb : ∀ j, j < A → cp j < 1125899906842624
theorem ex_facts {N : Int} {n A : Nat} {hd rv cp : Nat → Int} {bk : Nat → Bool} {rs : Nat → Int} (hR : RowH N n A hd rv cp) : ∀ i, i ≤ A → evOk rv cp rs i = true →
    sumL (exF hd rv bk rs i) n = 0 ∧ ∀ j, j < n → -((i : Int) * 1125899906842624) ≤ exF hd rv bk rs i j ∧ exF hd rv bk rs i j ≤ (i : Int) * 1125899906842624
  | 0, _, _ => by
    refine ⟨?_, fun j hj => by simp [exF]⟩
    clear hR
    induction n with
    | zero => rfl
    | succ n ih => simp only [sumL, ih]; rfl
  | i + 1, hi, h => by
    simp only [evOk, Bool.and_eq_true, Bool.not_eq_true'] at h
    obtain ⟨ih1, ih2⟩ := ex_facts (bk := bk) hR i (by omega) h.1
    have hb := evBad_out h.2
    have r0 := hR.r0 i (by omega)
    have rA := hR.rA i (by omega)
    have g0 := hR.h0 i (by omega)
    have gn := hR.hn i (by omega)
    have k0 := hR.h0 (rv i).toNat (by omega)
    have kn := hR.hn (rv i).toNat (by omega)
    have c1 := hR.cb i (by omega)
    have c2 := hR.cb (rv i).toNat (by omega)
    have hm : mxI cp i (rv i).toNat ≤ 1125899906842624 := by unfold mxI; split <;> omega
    simp only [exF]
    split
    · refine ⟨?_, fun j hj => ?_⟩
      · rw [mv_sum (by omega) (by omega)]; exact ih1
      · have := mv_b (j := (hd (rv i).toNat).toNat) hb.1 (show (hd i).toNat < n by omega) ih2 j hj
        omega
    · exact ⟨ih1, fun j hj => by have := ih2 j hj; omega⟩

/-- Two lists: are they the same? -/
theorem equal_c (n m : Nat) (a b : Nat → Int) (hn : n < 2 ^ 40) (hm : m < 2 ^ 40) : VCalls Tryz.prog 102 [sl1 0 n, sl1 1 m] [.view n (intG a), .view m (intG b)]
    (fun r M' => r = .bool (decide (n = m) && eqF a b n) ∧ M' = [.view n (intG a), .view m (intG b)]) := by
  refine VCalls.ok2 f102_ok mixed rfl ?_
  by_cases hnm : n = m
  · subst hnm
    conv => whnf
    (try conv => whnf); repeat ((first | (with_reducible first | refine Br.tt ?_ | refine Br.ff ?_ | refine Br.nt ?_ | refine Br.nf ?_) | ((with_reducible refine Br.yk ?_ ?_); omega) | ((with_reducible refine Br.yd ?_ ?_); omega) | ((with_reducible refine Br.nd ?_ ?_); omega) | ((with_reducible refine Br.nyd ?_ ?_); omega) | ((with_reducible refine Br.nnd ?_ ?_); omega) | ((with_reducible refine Br.yd ?_ ?_); decide) | ((with_reducible refine Br.nyd ?_ ?_); decide)); conv => whnf)
    refine VLoop.intro (fun m E M => ∃ (i : Nat) (z : Int), (i : Int) = z ∧ i ≤ n ∧ m = n - i ∧ allF (fun j => decide (a j = b j)) i = true ∧ E = [(13, .int .i64 z), (12, .int .i64 n), (1, sl1 1 n), (0, sl1 0 n)] ∧ M = [.view n (intG a), .view n (intG b)]) n _ _
      ⟨0, 0, rfl, Nat.zero_le _, rfl, rfl, rfl, rfl⟩ (WeakE.of [0, 1] (by decide) rfl ⟨vwO (intG_ints _), vwO (intG_ints _), trivial⟩ (by repeat (first | exact trivial | refine ⟨rfl, rfl, ?_⟩))) ?_
    rintro m E M ⟨i, z, hz, hi, rfl, hq, rfl, rfl⟩
    have e1 : 0 + z.toNat * 1 = i := by omega
    conv => whnf
    refine Br.bd (fun h hb => ?_) (fun h hb => ?_)
    · conv => whnf
      (try conv => whnf); repeat ((first | (with_reducible first | refine Br.tt ?_ | refine Br.ff ?_ | refine Br.nt ?_ | refine Br.nf ?_) | ((with_reducible refine Br.yk ?_ ?_); omega) | ((with_reducible refine Br.yd ?_ ?_); omega) | ((with_reducible refine Br.nd ?_ ?_); omega) | ((with_reducible refine Br.nyd ?_ ?_); omega) | ((with_reducible refine Br.nnd ?_ ?_); omega) | ((with_reducible refine Br.yd ?_ ?_); decide) | ((with_reducible refine Br.nyd ?_ ?_); decide) | rw [e1]); conv => whnf)
      refine Br.nb (fun hx => ?_) (fun hx => ?_)
      · conv => whnf
        (try conv => whnf); repeat ((first | (with_reducible first | refine Br.tt ?_ | refine Br.ff ?_ | refine Br.nt ?_ | refine Br.nf ?_) | ((with_reducible refine Br.yk ?_ ?_); omega) | ((with_reducible refine Br.yd ?_ ?_); omega) | ((with_reducible refine Br.nd ?_ ?_); omega) | ((with_reducible refine Br.nyd ?_ ?_); omega) | ((with_reducible refine Br.nnd ?_ ?_); omega) | ((with_reducible refine Br.yd ?_ ?_); decide) | ((with_reducible refine Br.nyd ?_ ?_); decide)); conv => whnf)
        refine VRet.dr [_, _] _ rfl rfl ⟨intV_ok, intV_ok, trivial⟩ rfl ⟨?_, rfl⟩
        unfold eqF
        rw [allF_bad (i := i) (by omega) (decide_eq_false hx), Bool.and_false]; rfl
      · conv => whnf
        (try conv => whnf); repeat ((first | (with_reducible first | refine Br.tt ?_ | refine Br.ff ?_ | refine Br.nt ?_ | refine Br.nf ?_) | ((with_reducible refine Br.yk ?_ ?_); omega) | ((with_reducible refine Br.yd ?_ ?_); omega) | ((with_reducible refine Br.nd ?_ ?_); omega) | ((with_reducible refine Br.nyd ?_ ?_); omega) | ((with_reducible refine Br.nnd ?_ ?_); omega) | ((with_reducible refine Br.yd ?_ ?_); decide) | ((with_reducible refine Br.nyd ?_ ?_); decide)); conv => whnf)
        refine ⟨n - (i + 1), _, _, by omega, ⟨i + 1, z + 1, by omega, by omega, rfl, ?_, rfl, rfl⟩, WeakE.of [0, 1] (by decide) rfl ⟨vwO (intG_ints _), vwO (intG_ints _), trivial⟩ (by repeat (first | exact trivial | refine ⟨rfl, rfl, ?_⟩))⟩
        simp only [allF, hq, decide_eq_true hx, Bool.and_self]
    · have hin : i = n := by omega
      subst hin
      conv => whnf
      (try conv => whnf); repeat ((first | (with_reducible first | refine Br.tt ?_ | refine Br.ff ?_ | refine Br.nt ?_ | refine Br.nf ?_) | ((with_reducible refine Br.yk ?_ ?_); omega) | ((with_reducible refine Br.yd ?_ ?_); omega) | ((with_reducible refine Br.nd ?_ ?_); omega) | ((with_reducible refine Br.nyd ?_ ?_); omega) | ((with_reducible refine Br.nnd ?_ ?_); omega) | ((with_reducible refine Br.yd ?_ ?_); decide) | ((with_reducible refine Br.nyd ?_ ?_); decide)); conv => whnf)
      refine VRet.dr [_, _] _ rfl rfl ⟨intV_ok, intV_ok, trivial⟩ rfl ⟨?_, rfl⟩
      unfold eqF
      rw [hq, decide_eq_true rfl]; rfl
  · conv => whnf
    (try conv => whnf); repeat ((first | (with_reducible first | refine Br.tt ?_ | refine Br.ff ?_ | refine Br.nt ?_ | refine Br.nf ?_) | ((with_reducible refine Br.yk ?_ ?_); omega) | ((with_reducible refine Br.yd ?_ ?_); omega) | ((with_reducible refine Br.nd ?_ ?_); omega) | ((with_reducible refine Br.nyd ?_ ?_); omega) | ((with_reducible refine Br.nnd ?_ ?_); omega) | ((with_reducible refine Br.yd ?_ ?_); decide) | ((with_reducible refine Br.nyd ?_ ?_); decide)); conv => whnf)
    refine VRet.dr [_, _] _ rfl rfl ⟨intV_ok, intV_ok, trivial⟩ rfl ⟨?_, rfl⟩
    rw [decide_eq_false hnm]; rfl
end Vm
end Go.Proofs.YtcafmkekkcbamaaGreat
namespace Go.Proofs.YtcafmkekkcbamaaGreat
open Go.RowKit
namespace Vm
attribute [local irreducible] VCallF VYield VLoop VRet inK
set_option maxRecDepth 100000

def nsG (N S : Int) : Nat → Value
  | 0 => .int .i64 N
  | _ => .int .i64 S
theorem owes_c (N S : Int) (n : Nat) (ex : Nat → Int) (v : Nat) (z : Int) (hz : (v : Int) = z) (hv : v < n) : VCalls Tryz.prog 158 [.int .i64 z, .pointer (some ⟨0, 0, none⟩), .pointer (some ⟨1, 0, none⟩)] [.view 2 (nsG N S), .view 1 (oneG (sl1 2 n)), .view n (intG ex)]
    (fun r M' => r = .bool (owF S ex v) ∧ M' = [.view 2 (nsG N S), .view 1 (oneG (sl1 2 n)), .view n (intG ex)]) := by
  have e1 : 0 + z.toNat * 1 = v := by omega
  have hok : okM 3 [.view 2 (nsG N S), .view 1 (oneG (sl1 2 n)), .view n (intG ex)] := ⟨fun i hi => by
    match i, hi with
    | 0, _ => rfl
    | 1, _ => rfl, fun _ _ => rfl, intV_ok, trivial⟩
  refine VCalls.ok2 f158_ok mixed rfl ?_
  unfold owF
  rw [hz]
  conv => whnf
  (try conv => whnf); repeat ((first | (with_reducible first | refine Br.tt ?_ | refine Br.ff ?_ | refine Br.nt ?_ | refine Br.nf ?_) | ((with_reducible refine Br.yk ?_ ?_); omega) | ((with_reducible refine Br.yd ?_ ?_); omega) | ((with_reducible refine Br.nd ?_ ?_); omega) | ((with_reducible refine Br.nyd ?_ ?_); omega) | ((with_reducible refine Br.nnd ?_ ?_); omega) | ((with_reducible refine Br.yd ?_ ?_); decide) | ((with_reducible refine Br.nyd ?_ ?_); decide)); conv => whnf)
  refine Br.nb (fun h => ?_) (fun h => ?_)
  · conv => whnf
    (try conv => whnf); repeat ((first | (with_reducible first | refine Br.tt ?_ | refine Br.ff ?_ | refine Br.nt ?_ | refine Br.nf ?_) | ((with_reducible refine Br.yk ?_ ?_); omega) | ((with_reducible refine Br.yd ?_ ?_); omega) | ((with_reducible refine Br.nd ?_ ?_); omega) | ((with_reducible refine Br.nyd ?_ ?_); omega) | ((with_reducible refine Br.nnd ?_ ?_); omega) | ((with_reducible refine Br.yd ?_ ?_); decide) | ((with_reducible refine Br.nyd ?_ ?_); decide) | rw [e1]); conv => whnf)
    refine VRet.dr [_, _, _] _ rfl rfl hok rfl ⟨?_, rfl⟩
    rw [decide_eq_false h]; rfl
  · conv => whnf
    (try conv => whnf); repeat ((first | (with_reducible first | refine Br.tt ?_ | refine Br.ff ?_ | refine Br.nt ?_ | refine Br.nf ?_) | ((with_reducible refine Br.yk ?_ ?_); omega) | ((with_reducible refine Br.yd ?_ ?_); omega) | ((with_reducible refine Br.nd ?_ ?_); omega) | ((with_reducible refine Br.nyd ?_ ?_); omega) | ((with_reducible refine Br.nnd ?_ ?_); omega) | ((with_reducible refine Br.yd ?_ ?_); decide) | ((with_reducible refine Br.nyd ?_ ?_); decide)); conv => whnf)
    refine VRet.dr [_, _, _] _ rfl rfl hok rfl ⟨?_, rfl⟩
    rw [decide_eq_true h]; rfl
def preR (lr n k : Nat) : List Value := [sl1 k lr, sl1 (k + 1) n, sl1 (k + 2) n]
def evenM (n A lr : Nat) (fst hd rv cp ac : Nat → Int) (bk : Nat → Bool) (rs pex hh : Nat → Int) : VMem :=
  [.view (n + 1) (intG fst), .view A (intG hd), .view A (intG rv), .view A (intG cp), .view A (intG ac), .view A (boolG bk), .view lr (intG rs), .view n (intG pex), .view n (intG hh)]
theorem evenM_ok {m n A lr : Nat} {fst hd rv cp ac : Nat → Int} {bk : Nat → Bool} {rs pex hh : Nat → Int} : okM m (evenM n A lr fst hd rv cp ac bk rs pex hh) := ⟨intV_ok, intV_ok, intV_ok, intV_ok, intV_ok, boolV_ok, intV_ok, intV_ok, intV_ok, trivial⟩
def evenL (N S T : Int) (n A lr : Nat) (fst hd rv cp ac : Nat → Int) (bk : Nat → Bool) (rs pex hh ex : Nat → Int) : VMem :=
  evenM n A lr fst hd rv cp ac bk rs pex hh ++ [.cells (csrL N S T n A 0) 29, .cells (preR lr n 6) 53, .arr 1 n (intG ex) 2, .cells [sl1 11 n] 26]
section
variable (N S T : Int) (n A : Nat) (fst hd rv cp ac : Nat → Int) (bk : Nat → Bool)
theorem even_len (lr : Nat) (rs pex hh : Nat → Int) (hlr : lr ≠ A) :
    VCalls Tryz.prog 78 [.agg ⟨csrL N S T n A 0⟩, .agg ⟨preR lr n 6⟩] (evenM n A lr fst hd rv cp ac bk rs pex hh) (fun r M' => r = .bool false ∧ M' = evenM n A lr fst hd rv cp ac bk rs pex hh) := by
  obtain ⟨a, ha⟩ : ∃ a : Int, (A : Int) = a := ⟨_, rfl⟩
  refine VCalls.ok2 f78_ok mixed rfl ?_
  conv => whnf
  apply exC
  · conv => whnf
    refine VCallF.rd [0, 1, 2, 3, 4, 5] (len_c N S T n A fst hd rv cp ac bk a ha) (by decide) (hlt_of rfl) ?_ rfl rfl rfl rfl ?_
    · exact csrW_ole n A fst hd rv cp ac bk _ rfl
    · exact ⟨rfl, rfl⟩
  · rfl
  · rfl
  conv => whnf
  refine And.intro (by (conv => whnf); first | rfl | (refine Br.yd (by omega) ?_; rfl)) ?_; (try conv => whnf)
  conv => whnf
  (try conv => whnf); repeat ((first | (with_reducible first | refine Br.tt ?_ | refine Br.ff ?_ | refine Br.nt ?_ | refine Br.nf ?_) | ((with_reducible refine Br.yk ?_ ?_); omega) | ((with_reducible refine Br.yd ?_ ?_); omega) | ((with_reducible refine Br.nd ?_ ?_); omega) | ((with_reducible refine Br.nyd ?_ ?_); omega) | ((with_reducible refine Br.nnd ?_ ?_); omega) | ((with_reducible refine Br.yd ?_ ?_); decide) | ((with_reducible refine Br.nyd ?_ ?_); decide)); conv => whnf)
  exact VRet.dr [_, _, _, _, _, _, _, _, _] _ rfl rfl evenM_ok rfl ⟨rfl, rfl⟩
theorem even_c (rs pex hh : Nat → Int) (hnN : (n : Int) = N) (hn : n ≤ 1000) (hA : A ≤ 32) (hR : RowH N n A hd rv cp) :
    VCalls Tryz.prog 78 [.agg ⟨csrL N S T n A 0⟩, .agg ⟨preR A n 6⟩] (evenM n A A fst hd rv cp ac bk rs pex hh) (fun r M' => r = .bool (evenB S n A hd rv cp bk rs pex) ∧ M' = evenM n A A fst hd rv cp ac bk rs pex hh) := by
  obtain ⟨a, ha⟩ : ∃ a : Int, (A : Int) = a := ⟨_, rfl⟩
  have e0 : N.toNat = n := by omega
  refine VCalls.ok2 f78_ok mixed rfl ?_
  conv => whnf
  apply exC
  · conv => whnf
    refine VCallF.rd [0, 1, 2, 3, 4, 5] (len_c N S T n A fst hd rv cp ac bk a ha) (by decide) (hlt_of rfl) ?_ rfl rfl rfl rfl ?_
    · exact csrW_ole n A fst hd rv cp ac bk _ rfl
    · exact ⟨rfl, rfl⟩
  · rfl
  · rfl
  conv => whnf
  refine And.intro (by (conv => whnf); first | rfl | (refine Br.yd (by omega) ?_; rfl)) ?_; (try conv => whnf)
  conv => whnf
  (try conv => whnf); repeat ((first | (with_reducible first | refine Br.tt ?_ | refine Br.ff ?_ | refine Br.nt ?_ | refine Br.nf ?_) | ((with_reducible refine Br.yk ?_ ?_); omega) | ((with_reducible refine Br.yd ?_ ?_); omega) | ((with_reducible refine Br.nd ?_ ?_); omega) | ((with_reducible refine Br.nyd ?_ ?_); omega) | ((with_reducible refine Br.nnd ?_ ?_); omega) | ((with_reducible refine Br.yd ?_ ?_); decide) | ((with_reducible refine Br.nyd ?_ ?_); decide) | rw [e0]); conv => whnf)
  refine VLoop.intro (fun m E M => ∃ (i : Nat) (z : Int), (i : Int) = z ∧ i ≤ A ∧ m = A - i ∧ evOk rv cp rs i = true ∧ E = [(32, .int .i64 z), (31, .int .i64 A), (30, sl1 6 A), (5, .pointer (some ⟨12, 0, none⟩)), (3, .pointer (some ⟨10, 0, none⟩)), (2, .pointer (some ⟨9, 0, none⟩))] ∧
    M = evenL N S T n A A fst hd rv cp ac bk rs pex hh (exF hd rv bk rs i)) A _ _ ⟨0, 0, rfl, Nat.zero_le _, rfl, rfl, rfl, rfl⟩ ?_ ?_
  · refine WeakE.of [0, 1, 2, 3, 4, 5, 6, 7, 8, 9, 10, 11, 12] (by decide) rfl ⟨vwO (intG_ints _), vwO (intG_ints _), vwO (intG_ints _), vwO (intG_ints _), vwO (intG_ints _), vwO (boolG_ints _), vwO (intG_ints _), vwO (intG_ints _), vwO (intG_ints _), ⟨rfl, rfl, rfl⟩, ⟨rfl, rfl, rfl⟩, intO2 rfl (by omega) fun j _ => ?_, ⟨rfl, rfl, rfl⟩, trivial⟩ (by repeat (first | exact trivial | refine ⟨rfl, rfl, ?_⟩))
    rw [Nat.mod_one]; rfl
  rintro m E M ⟨i, z, hz, hi, rfl, hq, rfl, rfl⟩
  conv => whnf
  refine Br.bd (fun h hb => ?_) (fun h hb => ?_)
  · have r0 := hR.r0 i (by omega)
    have rA := hR.rA i (by omega)
    have g0 := hR.h0 i (by omega)
    have gn := hR.hn i (by omega)
    have k0 := hR.h0 (rv i).toNat (by omega)
    have kn := hR.hn (rv i).toNat (by omega)
    have c0 := hR.c0 i (by omega)
    have c1 := hR.cb i (by omega)
    have c2 := hR.cb (rv i).toNat (by omega)
    have c3 := hR.c0 (rv i).toNat (by omega)
    have hm : mxI cp i (rv i).toNat ≤ 1125899906842624 := by unfold mxI; split <;> omega
    have hm0 : 0 ≤ mxI cp i (rv i).toNat := by unfold mxI; split <;> omega
    have hfx := (ex_facts (bk := bk) hR i hi hq).2
    have e1 : 0 + z.toNat * 1 = i := by omega
    have e2 : 0 + (rv i).toNat * 1 = (rv i).toNat := by omega
    have e3 : 0 + (hd i).toNat * 1 = (hd i).toNat := by omega
    have e4 : 0 + (hd (rv i).toNat).toNat * 1 = (hd (rv i).toNat).toNat := by omega
    have e5 : (if cp i < cp (rv i).toNat then cp (rv i).toNat else cp i) = mxI cp i (rv i).toNat := rfl
    have x1 := hfx (hd i).toNat (by omega)
    have x2 := hfx (hd (rv i).toNat).toNat (by omega)
    have x3 := setF_or (exF hd rv bk rs i) (hd i).toNat (hd (rv i).toNat).toNat (exF hd rv bk rs i (hd i).toNat - rs i)
    cases hbad : evBad rv cp rs i with
    | true =>
      have hfin : evenB S n A hd rv cp bk rs pex = false := by unfold evenB; rw [evOk_bad (i := i) (by omega) hbad]; rfl
      rw [hfin]
      have hb2 := evBad_in hbad
      by_cases q1 : rs i < 0
      · conv => whnf
        (try conv => whnf); repeat ((first | (with_reducible first | refine Br.tt ?_ | refine Br.ff ?_ | refine Br.nt ?_ | refine Br.nf ?_) | ((with_reducible refine Br.yk ?_ ?_); omega) | ((with_reducible refine Br.yd ?_ ?_); omega) | ((with_reducible refine Br.nd ?_ ?_); omega) | ((with_reducible refine Br.nyd ?_ ?_); omega) | ((with_reducible refine Br.nnd ?_ ?_); omega) | ((with_reducible refine Br.yd ?_ ?_); decide) | ((with_reducible refine Br.nyd ?_ ?_); decide) | rw [e1] | rw [e2] | rw [e5]); conv => whnf)
        exact VRet.dr [_, _, _, _, _, _, _, _, _] _ rfl rfl evenM_ok rfl ⟨rfl, rfl⟩
      · by_cases q2 : mxI cp i (rv i).toNat < rs i
        · conv => whnf
          (try conv => whnf); repeat ((first | (with_reducible first | refine Br.tt ?_ | refine Br.ff ?_ | refine Br.nt ?_ | refine Br.nf ?_) | ((with_reducible refine Br.yk ?_ ?_); omega) | ((with_reducible refine Br.yd ?_ ?_); omega) | ((with_reducible refine Br.nd ?_ ?_); omega) | ((with_reducible refine Br.nyd ?_ ?_); omega) | ((with_reducible refine Br.nnd ?_ ?_); omega) | ((with_reducible refine Br.yd ?_ ?_); decide) | ((with_reducible refine Br.nyd ?_ ?_); decide) | rw [e1] | rw [e2] | rw [e5]); conv => whnf)
          exact VRet.dr [_, _, _, _, _, _, _, _, _] _ rfl rfl evenM_ok rfl ⟨rfl, rfl⟩
        · have q3 : rs (rv i).toNat ≠ mxI cp i (rv i).toNat - rs i := by omega
          conv => whnf
          (try conv => whnf); repeat ((first | (with_reducible first | refine Br.tt ?_ | refine Br.ff ?_ | refine Br.nt ?_ | refine Br.nf ?_) | ((with_reducible refine Br.yk ?_ ?_); omega) | ((with_reducible refine Br.yd ?_ ?_); omega) | ((with_reducible refine Br.nd ?_ ?_); omega) | ((with_reducible refine Br.nyd ?_ ?_); omega) | ((with_reducible refine Br.nnd ?_ ?_); omega) | ((with_reducible refine Br.yd ?_ ?_); decide) | ((with_reducible refine Br.nyd ?_ ?_); decide) | rw [e1] | rw [e2] | rw [e5]); conv => whnf)
          exact VRet.dr [_, _, _, _, _, _, _, _, _] _ rfl rfl evenM_ok rfl ⟨rfl, rfl⟩
    | false =>
      obtain ⟨q1, q2, q3⟩ := evBad_out hbad
      conv => whnf
      (try conv => whnf); repeat ((first | (with_reducible first | refine Br.tt ?_ | refine Br.ff ?_ | refine Br.nt ?_ | refine Br.nf ?_) | ((with_reducible refine Br.yk ?_ ?_); omega) | ((with_reducible refine Br.yd ?_ ?_); omega) | ((with_reducible refine Br.nd ?_ ?_); omega) | ((with_reducible refine Br.nyd ?_ ?_); omega) | ((with_reducible refine Br.nnd ?_ ?_); omega) | ((with_reducible refine Br.yd ?_ ?_); decide) | ((with_reducible refine Br.nyd ?_ ?_); decide) | rw [e1] | rw [e2] | rw [e5]); conv => whnf)
      refine Br.both (fun hbk => ?_) (fun hbk => ?_)
      · conv => whnf
        (try conv => whnf); repeat ((first | (with_reducible first | refine Br.tt ?_ | refine Br.ff ?_ | refine Br.nt ?_ | refine Br.nf ?_) | ((with_reducible refine Br.yk ?_ ?_); omega) | ((with_reducible refine Br.yd ?_ ?_); omega) | ((with_reducible refine Br.nd ?_ ?_); omega) | ((with_reducible refine Br.nyd ?_ ?_); omega) | ((with_reducible refine Br.nnd ?_ ?_); omega) | ((with_reducible refine Br.yd ?_ ?_); decide) | ((with_reducible refine Br.nyd ?_ ?_); decide) | rw [e1] | rw [e2] | rw [e3] | rw [e4] | rw [updG_int]); conv => whnf)
        refine ⟨A - (i + 1), _, _, by omega, ⟨i + 1, z + 1, by omega, by omega, rfl, by simp only [evOk, hq, hbad]; rfl, rfl, rfl⟩, WeakE.of [0, 1, 2, 3, 4, 5, 6, 7, 8, 9, 10, 11, 12] (by decide) rfl ⟨vwO (intG_ints _), vwO (intG_ints _), vwO (intG_ints _), vwO (intG_ints _), vwO (intG_ints _), vwO (boolG_ints _), vwO (intG_ints _), vwO (intG_ints _), vwO (intG_ints _), ⟨rfl, rfl, rfl⟩, ⟨rfl, rfl, rfl⟩, intO2 rfl (Nat.le_refl _) fun j _ => ?_, ⟨rfl, rfl, rfl⟩, trivial⟩ (by repeat (first | exact trivial | refine ⟨rfl, rfl, ?_⟩))⟩
        simp only [exF]
        rw [if_pos hbk]; rfl
      · conv => whnf
        (try conv => whnf); repeat ((first | (with_reducible first | refine Br.tt ?_ | refine Br.ff ?_ | refine Br.nt ?_ | refine Br.nf ?_) | ((with_reducible refine Br.yk ?_ ?_); omega) | ((with_reducible refine Br.yd ?_ ?_); omega) | ((with_reducible refine Br.nd ?_ ?_); omega) | ((with_reducible refine Br.nyd ?_ ?_); omega) | ((with_reducible refine Br.nnd ?_ ?_); omega) | ((with_reducible refine Br.yd ?_ ?_); decide) | ((with_reducible refine Br.nyd ?_ ?_); decide)); conv => whnf)
        refine ⟨A - (i + 1), _, _, by omega, ⟨i + 1, z + 1, by omega, by omega, rfl, by simp only [evOk, hq, hbad]; rfl, rfl, rfl⟩, WeakE.of [0, 1, 2, 3, 4, 5, 6, 7, 8, 9, 10, 11, 12] (by decide) rfl ⟨vwO (intG_ints _), vwO (intG_ints _), vwO (intG_ints _), vwO (intG_ints _), vwO (intG_ints _), vwO (boolG_ints _), vwO (intG_ints _), vwO (intG_ints _), vwO (intG_ints _), ⟨rfl, rfl, rfl⟩, ⟨rfl, rfl, rfl⟩, intO2 rfl (Nat.le_refl _) fun j _ => ?_, ⟨rfl, rfl, rfl⟩, trivial⟩ (by repeat (first | exact trivial | refine ⟨rfl, rfl, ?_⟩))⟩
        simp only [exF]
        rw [if_neg (by rw [hbk]; decide)]
  · have hiA : i = A := by omega
    subst hiA
    conv => whnf
    (try conv => whnf); repeat ((first | (with_reducible first | refine Br.tt ?_ | refine Br.ff ?_ | refine Br.nt ?_ | refine Br.nf ?_) | ((with_reducible refine Br.yk ?_ ?_); omega) | ((with_reducible refine Br.yd ?_ ?_); omega) | ((with_reducible refine Br.nd ?_ ?_); omega) | ((with_reducible refine Br.nyd ?_ ?_); omega) | ((with_reducible refine Br.nnd ?_ ?_); omega) | ((with_reducible refine Br.yd ?_ ?_); decide) | ((with_reducible refine Br.nyd ?_ ?_); decide)); conv => whnf)
    refine VLoop.intro (fun m E M => ∃ (v : Nat) (y : Int), (v : Int) = y ∧ v ≤ n ∧ m = n - v ∧ allF (fun v => !owF S (exF hd rv bk rs i) v) v = true ∧ E = [(102, .int .i64 y), (101, .int .i64 N), (10, .func (.func 158) #[] #[.pointer (some ⟨9, 0, none⟩), .pointer (some ⟨12, 0, none⟩)]), (5, .pointer (some ⟨12, 0, none⟩)), (3, .pointer (some ⟨10, 0, none⟩))] ∧
      M = evenL N S T n i i fst hd rv cp ac bk rs pex hh (exF hd rv bk rs i)) n _ _ ⟨0, 0, rfl, Nat.zero_le _, rfl, rfl, rfl, rfl⟩ ?_ ?_
    · refine WeakE.of [0, 1, 2, 3, 4, 5, 6, 7, 8, 9, 10, 11, 12] (by decide) rfl ⟨vwO (intG_ints _), vwO (intG_ints _), vwO (intG_ints _), vwO (intG_ints _), vwO (intG_ints _), vwO (boolG_ints _), vwO (intG_ints _), vwO (intG_ints _), vwO (intG_ints _), ⟨rfl, rfl, rfl⟩, ⟨rfl, rfl, rfl⟩, intO2 rfl (Nat.le_refl _) fun j _ => ?_, ⟨rfl, rfl, rfl⟩, trivial⟩ (by repeat (first | exact trivial | refine ⟨rfl, rfl, ?_⟩))
      rfl
    rintro m E M ⟨v, y, hy, hv, rfl, ho, rfl, rfl⟩
    conv => whnf
    refine Br.bd (fun h' hb' => ?_) (fun h' hb' => ?_)
    · conv => whnf
      refine VCallF.rd [9, 12, 11] (owes_c N S n (exF hd rv bk rs i) v y hy (by omega)) (by decide) (hlt_of rfl) ?_ rfl rfl rfl rfl ?_
      · refine ⟨fun j hj => ?_, fun j hj => ?_, (intG_ints _).ole (.inr ⟨_, _, _, rfl, Nat.le_refl _⟩), trivial⟩
        · match j, hj with
          | 0, _ => exact ⟨rfl, rfl⟩
          | 1, _ => exact ⟨rfl, rfl⟩
        · match j, hj with
          | 0, _ => exact ⟨rfl, rfl⟩
      cases how : owF S (exF hd rv bk rs i) v with
      | true =>
        have hfin : evenB S n i hd rv cp bk rs pex = false := by
          unfold evenB; rw [allF_bad (n := n) (i := v) (by omega) (by rw [how]; rfl), Bool.false_and, Bool.and_false]
        rw [hfin]
        conv => whnf
        (try conv => whnf); repeat ((first | (with_reducible first | refine Br.tt ?_ | refine Br.ff ?_ | refine Br.nt ?_ | refine Br.nf ?_) | ((with_reducible refine Br.yk ?_ ?_); omega) | ((with_reducible refine Br.yd ?_ ?_); omega) | ((with_reducible refine Br.nd ?_ ?_); omega) | ((with_reducible refine Br.nyd ?_ ?_); omega) | ((with_reducible refine Br.nnd ?_ ?_); omega) | ((with_reducible refine Br.yd ?_ ?_); decide) | ((with_reducible refine Br.nyd ?_ ?_); decide)); conv => whnf)
        exact VRet.dr [_, _, _, _, _, _, _, _, _] _ rfl rfl evenM_ok rfl ⟨rfl, rfl⟩
      | false =>
        conv => whnf
        (try conv => whnf); repeat ((first | (with_reducible first | refine Br.tt ?_ | refine Br.ff ?_ | refine Br.nt ?_ | refine Br.nf ?_) | ((with_reducible refine Br.yk ?_ ?_); omega) | ((with_reducible refine Br.yd ?_ ?_); omega) | ((with_reducible refine Br.nd ?_ ?_); omega) | ((with_reducible refine Br.nyd ?_ ?_); omega) | ((with_reducible refine Br.nnd ?_ ?_); omega) | ((with_reducible refine Br.yd ?_ ?_); decide) | ((with_reducible refine Br.nyd ?_ ?_); decide)); conv => whnf)
        refine ⟨n - (v + 1), _, _, by omega, ⟨v + 1, y + 1, by omega, by omega, rfl, by simp only [allF, ho, how]; rfl, rfl, rfl⟩, WeakE.of [0, 1, 2, 3, 4, 5, 6, 7, 8, 9, 10, 11, 12] (by decide) rfl ⟨vwO (intG_ints _), vwO (intG_ints _), vwO (intG_ints _), vwO (intG_ints _), vwO (intG_ints _), vwO (boolG_ints _), vwO (intG_ints _), vwO (intG_ints _), vwO (intG_ints _), ⟨rfl, rfl, rfl⟩, ⟨rfl, rfl, rfl⟩, intO2 rfl (Nat.le_refl _) fun j _ => ?_, ⟨rfl, rfl, rfl⟩, trivial⟩ (by repeat (first | exact trivial | refine ⟨rfl, rfl, ?_⟩))⟩
        rfl
    · have hvn : v = n := by omega
      subst hvn
      conv => whnf
      refine VCallF.rd [11, 7] (equal_c v v (exF hd rv bk rs i) pex (by omega) (by omega)) (by decide) (hlt_of rfl) ?_ rfl rfl rfl rfl ?_
      · exact ⟨(intG_ints _).ole (.inr ⟨_, _, _, rfl, Nat.le_refl _⟩), vwO (intG_ints _), trivial⟩
      conv => whnf
      refine VRet.dr [_, _, _, _, _, _, _, _, _] _ rfl rfl evenM_ok rfl ⟨?_, rfl⟩
      unfold evenB
      rw [hq, ho, decide_eq_true rfl]; rfl
end
end Vm
end Go.Proofs.YtcafmkekkcbamaaGreat
namespace Go.Proofs.YtcafmkekkcbamaaGreat
open Go.RowKit
namespace Vm
attribute [local irreducible] VCallF VYield VLoop VRet inK
set_option maxRecDepth 100000

def hOk (N : Int) (hh : Nat → Int) (i : Nat) : Bool := !(decide (hh i < 0) || decide (N < hh i))
theorem high_c (N x : Int) : VCalls Tryz.prog 80 [.int .i64 x, .pointer (some ⟨0, 0, none⟩)] [.view 1 (oneG (.int .i64 N))] (fun r M' => r = .bool (decide (x < 0) || decide (N < x)) ∧ M' = [.view 1 (oneG (.int .i64 N))]) := by
  have hok : okM 1 [.view 1 (oneG (.int .i64 N))] := ⟨fun _ _ => rfl, trivial⟩
  refine VCalls.ok2 f80_ok mixed rfl ?_
  conv => whnf
  refine Br.bd (fun h _ => ?_) (fun h _ => ?_)
  · conv => whnf
    (try conv => whnf); repeat ((first | (with_reducible first | refine Br.tt ?_ | refine Br.ff ?_ | refine Br.nt ?_ | refine Br.nf ?_) | ((with_reducible refine Br.yk ?_ ?_); omega) | ((with_reducible refine Br.yd ?_ ?_); omega) | ((with_reducible refine Br.nd ?_ ?_); omega) | ((with_reducible refine Br.nyd ?_ ?_); omega) | ((with_reducible refine Br.nnd ?_ ?_); omega) | ((with_reducible refine Br.yd ?_ ?_); decide) | ((with_reducible refine Br.nyd ?_ ?_); decide)); conv => whnf)
    refine VRet.dr [_] _ rfl rfl hok rfl ⟨?_, rfl⟩
    rw [decide_eq_true h]; rfl
  · conv => whnf
    (try conv => whnf); repeat ((first | (with_reducible first | refine Br.tt ?_ | refine Br.ff ?_ | refine Br.nt ?_ | refine Br.nf ?_) | ((with_reducible refine Br.yk ?_ ?_); omega) | ((with_reducible refine Br.yd ?_ ?_); omega) | ((with_reducible refine Br.nd ?_ ?_); omega) | ((with_reducible refine Br.nyd ?_ ?_); omega) | ((with_reducible refine Br.nnd ?_ ?_); omega) | ((with_reducible refine Br.yd ?_ ?_); decide) | ((with_reducible refine Br.nyd ?_ ?_); decide)); conv => whnf)
    refine VRet.dr [_] _ rfl rfl hok rfl ⟨?_, rfl⟩
    rw [decide_eq_false h]; rfl
theorem indexH_c (N : Int) (n : Nat) (hh : Nat → Int) (hn : n < 2 ^ 40) : VCalls Tryz.prog 159 [sl1 0 n, .func (.func 80) #[] #[.pointer (some ⟨1, 0, none⟩)]] [.view n (intG hh), .view 1 (oneG (.int .i64 N))]
    (fun v M' => v = .int .i64 (idxF (fun i => !hOk N hh i) n) ∧ M' = [.view n (intG hh), .view 1 (oneG (.int .i64 N))]) := by
  have hok : okM 2 [.view n (intG hh), .view 1 (oneG (.int .i64 N))] := ⟨intV_ok, fun _ _ => rfl, trivial⟩
  refine VCalls.ok2 f159_ok mixed rfl ?_
  conv => whnf
  refine VLoop.intro (fun m E M => ∃ (i : Nat) (z : Int), (i : Int) = z ∧ i ≤ n ∧ m = n - i ∧ idxF (fun i => !hOk N hh i) i = -1 ∧ E = [(8, .int .i64 z), (7, .int .i64 n), (1, .func (.func 80) #[] #[.pointer (some ⟨1, 0, none⟩)]), (0, sl1 0 n)] ∧ M = [.view n (intG hh), .view 1 (oneG (.int .i64 N))]) n _ _
    ⟨0, 0, rfl, Nat.zero_le _, rfl, rfl, rfl, rfl⟩ (WeakE.of [0, 1] (by decide) rfl ⟨vwO (intG_ints _), ⟨Nat.le_refl _, fun _ _ => ⟨rfl, rfl⟩⟩, trivial⟩ (by repeat (first | exact trivial | refine ⟨rfl, rfl, ?_⟩))) ?_
  rintro m E M ⟨i, z, hz, hi, rfl, hx, rfl, rfl⟩
  have e1 : 0 + z.toNat * 1 = i := by omega
  conv => whnf
  refine Br.bd (fun h hb => ?_) (fun h hb => ?_)
  · conv => whnf
    (try conv => whnf); repeat ((first | (with_reducible first | refine Br.tt ?_ | refine Br.ff ?_ | refine Br.nt ?_ | refine Br.nf ?_) | ((with_reducible refine Br.yk ?_ ?_); omega) | ((with_reducible refine Br.yd ?_ ?_); omega) | ((with_reducible refine Br.nd ?_ ?_); omega) | ((with_reducible refine Br.nyd ?_ ?_); omega) | ((with_reducible refine Br.nnd ?_ ?_); omega) | ((with_reducible refine Br.yd ?_ ?_); decide) | ((with_reducible refine Br.nyd ?_ ?_); decide) | rw [e1]); conv => whnf)
    refine VCallF.rd [1] (high_c N (hh i)) (by decide) (hlt_of rfl) ?_ rfl rfl rfl rfl ?_
    · exact ⟨⟨Nat.le_refl _, fun _ _ => ⟨rfl, rfl⟩⟩, trivial⟩
    have hq : (decide (hh i < 0) || decide (N < hh i)) = !hOk N hh i := by unfold hOk; rw [Bool.not_not]
    rw [hq]
    cases hqi : hOk N hh i
    · conv => whnf
      (try conv => whnf); repeat ((first | (with_reducible first | refine Br.tt ?_ | refine Br.ff ?_ | refine Br.nt ?_ | refine Br.nf ?_) | ((with_reducible refine Br.yk ?_ ?_); omega) | ((with_reducible refine Br.yd ?_ ?_); omega) | ((with_reducible refine Br.nd ?_ ?_); omega) | ((with_reducible refine Br.nyd ?_ ?_); omega) | ((with_reducible refine Br.nnd ?_ ?_); omega) | ((with_reducible refine Br.yd ?_ ?_); decide) | ((with_reducible refine Br.nyd ?_ ?_); decide)); conv => whnf)
      refine VRet.dr [_, _] _ rfl rfl hok rfl ⟨?_, rfl⟩
      rw [idxF_stop (n := n) hx (by rw [hqi]; rfl) (by omega), hz]; rfl
    · conv => whnf
      (try conv => whnf); repeat ((first | (with_reducible first | refine Br.tt ?_ | refine Br.ff ?_ | refine Br.nt ?_ | refine Br.nf ?_) | ((with_reducible refine Br.yk ?_ ?_); omega) | ((with_reducible refine Br.yd ?_ ?_); omega) | ((with_reducible refine Br.nd ?_ ?_); omega) | ((with_reducible refine Br.nyd ?_ ?_); omega) | ((with_reducible refine Br.nnd ?_ ?_); omega) | ((with_reducible refine Br.yd ?_ ?_); decide) | ((with_reducible refine Br.nyd ?_ ?_); decide)); conv => whnf)
      refine ⟨n - (i + 1), _, _, by omega, ⟨i + 1, z + 1, by omega, by omega, rfl, idxF_go hx (by rw [hqi]; rfl), rfl, rfl⟩, WeakE.of [0, 1] (by decide) rfl ⟨vwO (intG_ints _), ⟨Nat.le_refl _, fun _ _ => ⟨rfl, rfl⟩⟩, trivial⟩ (by repeat (first | exact trivial | refine ⟨rfl, rfl, ?_⟩))⟩
  · have hil : i = n := by omega
    subst hil
    conv => whnf
    (try conv => whnf); repeat ((first | (with_reducible first | refine Br.tt ?_ | refine Br.ff ?_ | refine Br.nt ?_ | refine Br.nf ?_) | ((with_reducible refine Br.yk ?_ ?_); omega) | ((with_reducible refine Br.yd ?_ ?_); omega) | ((with_reducible refine Br.nd ?_ ?_); omega) | ((with_reducible refine Br.nyd ?_ ?_); omega) | ((with_reducible refine Br.nnd ?_ ?_); omega) | ((with_reducible refine Br.yd ?_ ?_); decide) | ((with_reducible refine Br.nyd ?_ ?_); decide)); conv => whnf)
    refine VRet.dr [_, _] _ rfl rfl hok rfl ⟨?_, rfl⟩
    rw [hx]; rfl
theorem containsH_c (N : Int) (n : Nat) (hh : Nat → Int) (hn : n < 2 ^ 40) : VCalls Tryz.prog 79 [sl1 0 n, .func (.func 80) #[] #[.pointer (some ⟨1, 0, none⟩)]] [.view n (intG hh), .view 1 (oneG (.int .i64 N))]
    (fun v M' => v = .bool (!allF (hOk N hh) n) ∧ M' = [.view n (intG hh), .view 1 (oneG (.int .i64 N))]) := by
  have hok : okM 2 [.view n (intG hh), .view 1 (oneG (.int .i64 N))] := ⟨intV_ok, fun _ _ => rfl, trivial⟩
  refine VCalls.ok2 f79_ok mixed rfl ?_
  conv => whnf
  refine VCallF.same (VCalls.mono (indexH_c N n hh hn) ?_)
  rintro v M' ⟨rfl, rfl⟩
  conv => whnf
  refine VRet.dr [_, _] _ rfl rfl hok rfl ⟨?_, rfl⟩
  rw [idxF_all]; rfl
theorem even_sum {N S : Int} {n A : Nat} {hd rv cp : Nat → Int} {bk : Nat → Bool} {rs pex : Nat → Int} (hR : RowH N n A hd rv cp) (h : evenB S n A hd rv cp bk rs pex = true) : sumL pex n = 0 := by
  simp only [evenB, Bool.and_eq_true] at h
  obtain ⟨h1, _, h2⟩ := h
  have h3 := (ex_facts (bk := bk) hR A (Nat.le_refl _) h1).1
  have key : ∀ m, allF (fun j => decide (exF hd rv bk rs A j = pex j)) m = true → sumL (exF hd rv bk rs A) m = sumL pex m := by
    intro m
    induction m with
    | zero => intro _; rfl
    | succ m ih =>
      intro hm
      simp only [allF, Bool.and_eq_true, decide_eq_true_eq] at hm
      simp only [sumL]; rw [ih hm.1, hm.2]
  rw [← key n h2]; exact h3
section
variable (N S T : Int) (n A : Nat) (fst hd rv cp ac : Nat → Int) (bk : Nat → Bool)
theorem fits_len (lr : Nat) (rs pex hh : Nat → Int) (hnN : (n : Int) = N) (hlr : lr ≠ A) :
    VCalls Tryz.prog 30 [.agg ⟨csrL N S T n A 0⟩, .agg ⟨preR lr n 6⟩] (evenM n A lr fst hd rv cp ac bk rs pex hh) (fun r M' => r = .bool false ∧ M' = evenM n A lr fst hd rv cp ac bk rs pex hh) := by
  have W6 : ∀ G, MemLe [0, 1, 2, 3, 4, 5, 6, 7, 8] (evenM n A lr fst hd rv cp ac bk rs pex hh ++ G) [0, 1, 2, 3, 4, 5, 6, 7, 8] (evenM n A lr fst hd rv cp ac bk rs pex hh) := fun G => ⟨vwO (intG_ints _), vwO (intG_ints _), vwO (intG_ints _), vwO (intG_ints _), vwO (intG_ints _), vwO (boolG_ints _), vwO (intG_ints _), vwO (intG_ints _), vwO (intG_ints _), trivial⟩
  refine VCalls.ok2 f30_ok mixed rfl ?_
  conv => whnf
  (try conv => whnf); repeat ((first | (with_reducible first | refine Br.tt ?_ | refine Br.ff ?_ | refine Br.nt ?_ | refine Br.nf ?_) | ((with_reducible refine Br.yk ?_ ?_); omega) | ((with_reducible refine Br.yd ?_ ?_); omega) | ((with_reducible refine Br.nd ?_ ?_); omega) | ((with_reducible refine Br.nyd ?_ ?_); omega) | ((with_reducible refine Br.nnd ?_ ?_); omega) | ((with_reducible refine Br.yd ?_ ?_); decide) | ((with_reducible refine Br.nyd ?_ ?_); decide)); conv => whnf)
  apply exC
  · conv => whnf
    (try conv => whnf); repeat ((first | (with_reducible first | refine Br.tt ?_ | refine Br.ff ?_ | refine Br.nt ?_ | refine Br.nf ?_) | ((with_reducible refine Br.yk ?_ ?_); omega) | ((with_reducible refine Br.yd ?_ ?_); omega) | ((with_reducible refine Br.nd ?_ ?_); omega) | ((with_reducible refine Br.nyd ?_ ?_); omega) | ((with_reducible refine Br.nnd ?_ ?_); omega) | ((with_reducible refine Br.yd ?_ ?_); decide) | ((with_reducible refine Br.nyd ?_ ?_); decide)); conv => whnf)
    refine VCallF.rd [0, 1, 2, 3, 4, 5, 6, 7, 8] (even_len N S T n A fst hd rv cp ac bk lr rs pex hh hlr) (by decide) (hlt_of rfl) ?_ rfl rfl rfl rfl ?_
    · exact W6 _
    · exact ⟨rfl, rfl⟩
  · rfl
  · rfl
  conv => whnf
  (try conv => whnf); repeat ((first | (with_reducible first | refine Br.tt ?_ | refine Br.ff ?_ | refine Br.nt ?_ | refine Br.nf ?_) | ((with_reducible refine Br.yk ?_ ?_); omega) | ((with_reducible refine Br.yd ?_ ?_); omega) | ((with_reducible refine Br.nd ?_ ?_); omega) | ((with_reducible refine Br.nyd ?_ ?_); omega) | ((with_reducible refine Br.nnd ?_ ?_); omega) | ((with_reducible refine Br.yd ?_ ?_); decide) | ((with_reducible refine Br.nyd ?_ ?_); decide)); conv => whnf)
  exact VRet.dr [_, _, _, _, _, _, _, _, _] _ rfl rfl evenM_ok rfl ⟨rfl, rfl⟩
end
end Vm
end Go.Proofs.YtcafmkekkcbamaaGreat
namespace Go.Proofs.YtcafmkekkcbamaaGreat
open Go.RowKit
namespace Vm
attribute [local irreducible] VCallF VYield VLoop VRet inK
set_option maxRecDepth 100000
section
variable (N S T : Int) (n A : Nat) (fst hd rv cp ac : Nat → Int) (bk : Nat → Bool)
theorem fits_no (rs pex hh : Nat → Int) (hnN : (n : Int) = N) (hn : n ≤ 1000) (hA : A ≤ 32) (hR : RowH N n A hd rv cp) (s t : Nat) (hs : (s : Int) = S) (ht : (t : Int) = T) (hsn : s < n) (htn : t < n)
    (hbad : sumL pex n ≠ 0 ∨ hh s ≠ N ∨ ∃ v, v < n ∧ (hh v < 0 ∨ N < hh v)) :
    VCalls Tryz.prog 30 [.agg ⟨csrL N S T n A 0⟩, .agg ⟨preR A n 6⟩] (evenM n A A fst hd rv cp ac bk rs pex hh) (fun r M' => r = .bool false ∧ M' = evenM n A A fst hd rv cp ac bk rs pex hh) := by
  have W6 : ∀ G, MemLe [0, 1, 2, 3, 4, 5, 6, 7, 8] (evenM n A A fst hd rv cp ac bk rs pex hh ++ G) [0, 1, 2, 3, 4, 5, 6, 7, 8] (evenM n A A fst hd rv cp ac bk rs pex hh) := fun G => ⟨vwO (intG_ints _), vwO (intG_ints _), vwO (intG_ints _), vwO (intG_ints _), vwO (intG_ints _), vwO (boolG_ints _), vwO (intG_ints _), vwO (intG_ints _), vwO (intG_ints _), trivial⟩
  have hev := even_c N S T n A fst hd rv cp ac bk rs pex hh hnN hn hA hR
  have e1 : 0 + S.toNat * 1 = s := by omega
  have e2 : 0 + T.toNat * 1 = t := by omega
  cases heb : evenB S n A hd rv cp bk rs pex with
  | false =>
    rw [heb] at hev
    refine VCalls.ok2 f30_ok mixed rfl ?_
    conv => whnf
    (try conv => whnf); repeat ((first | (with_reducible first | refine Br.tt ?_ | refine Br.ff ?_ | refine Br.nt ?_ | refine Br.nf ?_) | ((with_reducible refine Br.yk ?_ ?_); omega) | ((with_reducible refine Br.yd ?_ ?_); omega) | ((with_reducible refine Br.nd ?_ ?_); omega) | ((with_reducible refine Br.nyd ?_ ?_); omega) | ((with_reducible refine Br.nnd ?_ ?_); omega) | ((with_reducible refine Br.yd ?_ ?_); decide) | ((with_reducible refine Br.nyd ?_ ?_); decide)); conv => whnf)
    apply exC
    · conv => whnf
      (try conv => whnf); repeat ((first | (with_reducible first | refine Br.tt ?_ | refine Br.ff ?_ | refine Br.nt ?_ | refine Br.nf ?_) | ((with_reducible refine Br.yk ?_ ?_); omega) | ((with_reducible refine Br.yd ?_ ?_); omega) | ((with_reducible refine Br.nd ?_ ?_); omega) | ((with_reducible refine Br.nyd ?_ ?_); omega) | ((with_reducible refine Br.nnd ?_ ?_); omega) | ((with_reducible refine Br.yd ?_ ?_); decide) | ((with_reducible refine Br.nyd ?_ ?_); decide)); conv => whnf)
      refine VCallF.rd [0, 1, 2, 3, 4, 5, 6, 7, 8] hev (by decide) (hlt_of rfl) ?_ rfl rfl rfl rfl ?_
      · exact W6 _
      · exact ⟨rfl, rfl⟩
    · rfl
    · rfl
    conv => whnf
    (try conv => whnf); repeat ((first | (with_reducible first | refine Br.tt ?_ | refine Br.ff ?_ | refine Br.nt ?_ | refine Br.nf ?_) | ((with_reducible refine Br.yk ?_ ?_); omega) | ((with_reducible refine Br.yd ?_ ?_); omega) | ((with_reducible refine Br.nd ?_ ?_); omega) | ((with_reducible refine Br.nyd ?_ ?_); omega) | ((with_reducible refine Br.nnd ?_ ?_); omega) | ((with_reducible refine Br.yd ?_ ?_); decide) | ((with_reducible refine Br.nyd ?_ ?_); decide)); conv => whnf)
    exact VRet.dr [_, _, _, _, _, _, _, _, _] _ rfl rfl evenM_ok rfl ⟨rfl, rfl⟩
  | true =>
    have hsum := even_sum hR heb
    rw [heb] at hev
    by_cases h1 : hh s = N
    · by_cases h2 : hh t = 0
      · have h3 : ∃ v, v < n ∧ (hh v < 0 ∨ N < hh v) := by
          rcases hbad with h | h | h
          · exact absurd hsum h
          · exact absurd h1 h
          · exact h
        obtain ⟨v, hv, h3⟩ := h3
        have h4 : allF (hOk N hh) n = false := allF_bad (i := v) hv (by
          unfold hOk
          rcases h3 with h3 | h3
          · rw [decide_eq_true h3]; rfl
          · rw [decide_eq_true h3, Bool.or_true]; rfl)
        have hcon := containsH_c N n hh (by omega)
        rw [h4] at hcon
        refine VCalls.ok2 f30_ok mixed rfl ?_
        conv => whnf
        (try conv => whnf); repeat ((first | (with_reducible first | refine Br.tt ?_ | refine Br.ff ?_ | refine Br.nt ?_ | refine Br.nf ?_) | ((with_reducible refine Br.yk ?_ ?_); omega) | ((with_reducible refine Br.yd ?_ ?_); omega) | ((with_reducible refine Br.nd ?_ ?_); omega) | ((with_reducible refine Br.nyd ?_ ?_); omega) | ((with_reducible refine Br.nnd ?_ ?_); omega) | ((with_reducible refine Br.yd ?_ ?_); decide) | ((with_reducible refine Br.nyd ?_ ?_); decide)); conv => whnf)
        apply exC
        · conv => whnf
          (try conv => whnf); repeat ((first | (with_reducible first | refine Br.tt ?_ | refine Br.ff ?_ | refine Br.nt ?_ | refine Br.nf ?_) | ((with_reducible refine Br.yk ?_ ?_); omega) | ((with_reducible refine Br.yd ?_ ?_); omega) | ((with_reducible refine Br.nd ?_ ?_); omega) | ((with_reducible refine Br.nyd ?_ ?_); omega) | ((with_reducible refine Br.nnd ?_ ?_); omega) | ((with_reducible refine Br.yd ?_ ?_); decide) | ((with_reducible refine Br.nyd ?_ ?_); decide)); conv => whnf)
          refine VCallF.rd [0, 1, 2, 3, 4, 5, 6, 7, 8] hev (by decide) (hlt_of rfl) ?_ rfl rfl rfl rfl ?_
          · exact W6 _
          · exact ⟨rfl, rfl⟩
        · rfl
        · rfl
        conv => whnf
        (try conv => whnf); repeat ((first | (with_reducible first | refine Br.tt ?_ | refine Br.ff ?_ | refine Br.nt ?_ | refine Br.nf ?_) | ((with_reducible refine Br.yk ?_ ?_); omega) | ((with_reducible refine Br.yd ?_ ?_); omega) | ((with_reducible refine Br.nd ?_ ?_); omega) | ((with_reducible refine Br.nyd ?_ ?_); omega) | ((with_reducible refine Br.nnd ?_ ?_); omega) | ((with_reducible refine Br.yd ?_ ?_); decide) | ((with_reducible refine Br.nyd ?_ ?_); decide) | rw [e1] | rw [e2]); conv => whnf)
        refine VCallF.rd [8, 9] hcon (by decide) (hlt_of rfl) ?_ rfl rfl rfl rfl ?_
        · refine ⟨vwO (intG_ints _), fun j hj => ?_, trivial⟩
          match j, hj with
          | 0, _ => exact ⟨rfl, rfl⟩
        conv => whnf
        (try conv => whnf); repeat ((first | (with_reducible first | refine Br.tt ?_ | refine Br.ff ?_ | refine Br.nt ?_ | refine Br.nf ?_) | ((with_reducible refine Br.yk ?_ ?_); omega) | ((with_reducible refine Br.yd ?_ ?_); omega) | ((with_reducible refine Br.nd ?_ ?_); omega) | ((with_reducible refine Br.nyd ?_ ?_); omega) | ((with_reducible refine Br.nnd ?_ ?_); omega) | ((with_reducible refine Br.yd ?_ ?_); decide) | ((with_reducible refine Br.nyd ?_ ?_); decide)); conv => whnf)
        exact VRet.dr [_, _, _, _, _, _, _, _, _] _ rfl rfl evenM_ok rfl ⟨rfl, rfl⟩
      · refine VCalls.ok2 f30_ok mixed rfl ?_
        conv => whnf
        (try conv => whnf); repeat ((first | (with_reducible first | refine Br.tt ?_ | refine Br.ff ?_ | refine Br.nt ?_ | refine Br.nf ?_) | ((with_reducible refine Br.yk ?_ ?_); omega) | ((with_reducible refine Br.yd ?_ ?_); omega) | ((with_reducible refine Br.nd ?_ ?_); omega) | ((with_reducible refine Br.nyd ?_ ?_); omega) | ((with_reducible refine Br.nnd ?_ ?_); omega) | ((with_reducible refine Br.yd ?_ ?_); decide) | ((with_reducible refine Br.nyd ?_ ?_); decide)); conv => whnf)
        apply exC
        · conv => whnf
          (try conv => whnf); repeat ((first | (with_reducible first | refine Br.tt ?_ | refine Br.ff ?_ | refine Br.nt ?_ | refine Br.nf ?_) | ((with_reducible refine Br.yk ?_ ?_); omega) | ((with_reducible refine Br.yd ?_ ?_); omega) | ((with_reducible refine Br.nd ?_ ?_); omega) | ((with_reducible refine Br.nyd ?_ ?_); omega) | ((with_reducible refine Br.nnd ?_ ?_); omega) | ((with_reducible refine Br.yd ?_ ?_); decide) | ((with_reducible refine Br.nyd ?_ ?_); decide)); conv => whnf)
          refine VCallF.rd [0, 1, 2, 3, 4, 5, 6, 7, 8] hev (by decide) (hlt_of rfl) ?_ rfl rfl rfl rfl ?_
          · exact W6 _
          · exact ⟨rfl, rfl⟩
        · rfl
        · rfl
        conv => whnf
        (try conv => whnf); repeat ((first | (with_reducible first | refine Br.tt ?_ | refine Br.ff ?_ | refine Br.nt ?_ | refine Br.nf ?_) | ((with_reducible refine Br.yk ?_ ?_); omega) | ((with_reducible refine Br.yd ?_ ?_); omega) | ((with_reducible refine Br.nd ?_ ?_); omega) | ((with_reducible refine Br.nyd ?_ ?_); omega) | ((with_reducible refine Br.nnd ?_ ?_); omega) | ((with_reducible refine Br.yd ?_ ?_); decide) | ((with_reducible refine Br.nyd ?_ ?_); decide) | rw [e1] | rw [e2]); conv => whnf)
        exact VRet.dr [_, _, _, _, _, _, _, _, _] _ rfl rfl evenM_ok rfl ⟨rfl, rfl⟩
    · refine VCalls.ok2 f30_ok mixed rfl ?_
      conv => whnf
      (try conv => whnf); repeat ((first | (with_reducible first | refine Br.tt ?_ | refine Br.ff ?_ | refine Br.nt ?_ | refine Br.nf ?_) | ((with_reducible refine Br.yk ?_ ?_); omega) | ((with_reducible refine Br.yd ?_ ?_); omega) | ((with_reducible refine Br.nd ?_ ?_); omega) | ((with_reducible refine Br.nyd ?_ ?_); omega) | ((with_reducible refine Br.nnd ?_ ?_); omega) | ((with_reducible refine Br.yd ?_ ?_); decide) | ((with_reducible refine Br.nyd ?_ ?_); decide)); conv => whnf)
      apply exC
      · conv => whnf
        (try conv => whnf); repeat ((first | (with_reducible first | refine Br.tt ?_ | refine Br.ff ?_ | refine Br.nt ?_ | refine Br.nf ?_) | ((with_reducible refine Br.yk ?_ ?_); omega) | ((with_reducible refine Br.yd ?_ ?_); omega) | ((with_reducible refine Br.nd ?_ ?_); omega) | ((with_reducible refine Br.nyd ?_ ?_); omega) | ((with_reducible refine Br.nnd ?_ ?_); omega) | ((with_reducible refine Br.yd ?_ ?_); decide) | ((with_reducible refine Br.nyd ?_ ?_); decide)); conv => whnf)
        refine VCallF.rd [0, 1, 2, 3, 4, 5, 6, 7, 8] hev (by decide) (hlt_of rfl) ?_ rfl rfl rfl rfl ?_
        · exact W6 _
        · exact ⟨rfl, rfl⟩
      · rfl
      · rfl
      conv => whnf
      (try conv => whnf); repeat ((first | (with_reducible first | refine Br.tt ?_ | refine Br.ff ?_ | refine Br.nt ?_ | refine Br.nf ?_) | ((with_reducible refine Br.yk ?_ ?_); omega) | ((with_reducible refine Br.yd ?_ ?_); omega) | ((with_reducible refine Br.nd ?_ ?_); omega) | ((with_reducible refine Br.nyd ?_ ?_); omega) | ((with_reducible refine Br.nnd ?_ ?_); omega) | ((with_reducible refine Br.yd ?_ ?_); decide) | ((with_reducible refine Br.nyd ?_ ?_); decide) | rw [e1] | rw [e2]); conv => whnf)
      exact VRet.dr [_, _, _, _, _, _, _, _, _] _ rfl rfl evenM_ok rfl ⟨rfl, rfl⟩
/-- .. in one. -/
def Unfit (N : Int) (n A lr s : Nat) (pex hh : Nat → Int) : Prop := lr ≠ A ∨ (lr = A ∧ (sumL pex n ≠ 0 ∨ hh s ≠ N ∨ ∃ v, v < n ∧ (hh v < 0 ∨ N < hh v)))
theorem unfit_c (lr : Nat) (rs pex hh : Nat → Int) (hnN : (n : Int) = N) (hn : n ≤ 1000) (hA : A ≤ 32) (hR : RowH N n A hd rv cp) (s t : Nat) (hs : (s : Int) = S) (ht : (t : Int) = T) (hsn : s < n) (htn : t < n) (hu : Unfit N n A lr s pex hh) :
    VCalls Tryz.prog 30 [.agg ⟨csrL N S T n A 0⟩, .agg ⟨preR lr n 6⟩] (evenM n A lr fst hd rv cp ac bk rs pex hh) (fun r M' => r = .bool false ∧ M' = evenM n A lr fst hd rv cp ac bk rs pex hh) := by
  rcases hu with h | ⟨rfl, h⟩
  · exact fits_len N S T n A fst hd rv cp ac bk lr rs pex hh hnN h
  · exact fits_no N S T n lr fst hd rv cp ac bk rs pex hh hnN hn hA hR s t hs ht hsn htn h
end
end Vm
end Go.Proofs.YtcafmkekkcbamaaGreat
namespace Go.Proofs.YtcafmkekkcbamaaGreat
open Go.RowKit
namespace Vm
attribute [local irreducible] VCallF VYield VLoop VRet inK
set_option maxRecDepth 100000

def listG (cs : List Value) (i : Nat) : Value := cs.getD i undef
theorem listV_ole {σ : Sig} {cs cs0 : List Value} {X : TypeId} (hok : cs0.all (okN dep σ.length) = true) (he : cs = cs0.map (renN dep σ)) : OLe σ (some (.cells cs X)) (.view cs0.length (listG cs0)) := fun i hi => by
  subst he
  have hg : cs0[i]? = some (listG cs0 i) := by unfold listG; rw [List.getD_eq_getElem?_getD, List.getElem?_eq_getElem hi]; rfl
  exact ⟨List.all_eq_true.1 hok _ (List.mem_of_getElem? hg), by rw [List.getElem?_map, hg]; rfl⟩
theorem listV_ok {m : Nat} {cs : List Value} (hok : cs.all (okN dep m) = true) : okO m (.view cs.length (listG cs)) := fun i hi => by
  have hg : cs[i]? = some (listG cs i) := by unfold listG; rw [List.getD_eq_getElem?_getD, List.getElem?_eq_getElem hi]; rfl
  exact List.all_eq_true.1 hok _ (List.mem_of_getElem? hg)
def zero25 : List Value := [.int .i64 0, .int .i64 0, .int .i64 0, .slice none 0 0, .slice none 0 0, .slice none 0 0, .slice none 0 0, .slice none 0 0, .slice none 0 0, .int .i64 0, .int .i64 0, .int .i64 0, .int .i64 0, .int .i64 0, .int .i64 0, .int .i64 0, .int .i64 0, .int .i64 0, .int .i64 0, .int .i64 0, .int .i64 0, .int .i64 0, .int .i64 0, .pointer none, .int .i64 0]
def noPhase (e : Int) : Value := .tuple ⟨[.agg ⟨[.slice none 0 0, .slice none 0 0, .slice none 0 0]⟩, .agg ⟨[.int .i64 0, .int .i64 0, .bool false, .slice none 0 0]⟩, .int .i64 e]⟩
section
variable (N S T : Int) (n A lr : Nat) (fst hd rv cp ac : Nat → Int) (bk : Nat → Bool) (rs pex hh : Nat → Int)
theorem run_nil (most : Int) : VCalls Tryz.prog 34 [.pointer none, .agg ⟨preR lr n 6⟩, .slice none 0 0, .int .i64 most] (evenM n A lr fst hd rv cp ac bk rs pex hh)
    (fun r M' => r = noPhase 1 ∧ M' = evenM n A lr fst hd rv cp ac bk rs pex hh) := by
  refine VCalls.ok2 f34_ok mixed rfl ?_
  conv => whnf
  (try conv => whnf); repeat ((first | (with_reducible first | refine Br.tt ?_ | refine Br.ff ?_ | refine Br.nt ?_ | refine Br.nf ?_) | ((with_reducible refine Br.yk ?_ ?_); omega) | ((with_reducible refine Br.yd ?_ ?_); omega) | ((with_reducible refine Br.nd ?_ ?_); omega) | ((with_reducible refine Br.nyd ?_ ?_); omega) | ((with_reducible refine Br.nnd ?_ ?_); omega) | ((with_reducible refine Br.yd ?_ ?_); decide) | ((with_reducible refine Br.nyd ?_ ?_); decide)); conv => whnf)
  exact VRet.dr [_, _, _, _, _, _, _, _, _] _ rfl rfl evenM_ok rfl ⟨rfl, rfl⟩
theorem run_empty (most : Int) : VCalls Tryz.prog 34 [.pointer (some ⟨9, 0, none⟩), .agg ⟨preR lr n 6⟩, .slice none 0 0, .int .i64 most] (evenM n A lr fst hd rv cp ac bk rs pex hh ++ [VObj.view 25 (listG zero25)])
    (fun r M' => r = noPhase 1 ∧ M' = evenM n A lr fst hd rv cp ac bk rs pex hh ++ [VObj.view 25 (listG zero25)]) := by
  refine VCalls.ok2 f34_ok mixed rfl ?_
  conv => whnf
  (try conv => whnf); repeat ((first | (with_reducible first | refine Br.tt ?_ | refine Br.ff ?_ | refine Br.nt ?_ | refine Br.nf ?_) | ((with_reducible refine Br.yk ?_ ?_); omega) | ((with_reducible refine Br.yd ?_ ?_); omega) | ((with_reducible refine Br.nd ?_ ?_); omega) | ((with_reducible refine Br.nyd ?_ ?_); omega) | ((with_reducible refine Br.nnd ?_ ?_); omega) | ((with_reducible refine Br.yd ?_ ?_); decide) | ((with_reducible refine Br.nyd ?_ ?_); decide)); conv => whnf)
  exact VRet.dr [_, _, _, _, _, _, _, _, _, _] _ rfl rfl ⟨intV_ok, intV_ok, intV_ok, intV_ok, intV_ok, boolV_ok, intV_ok, intV_ok, intV_ok, listV_ok (cs := zero25) rfl, trivial⟩ rfl ⟨rfl, rfl⟩
def runM (N S T : Int) (n A lr : Nat) (fst hd rv cp ac : Nat → Int) (bk : Nat → Bool) (rs pex hh : Nat → Int) (a w limit : Int) : VMem :=
  evenM n A lr fst hd rv cp ac bk rs pex hh ++ [VObj.view 25 (listG (crewL N S T n A a w limit 10)), .gone]
theorem runM_ok {m : Nat} {a w limit : Int} : okM (m + 11) (runM N S T n A lr fst hd rv cp ac bk rs pex hh a w limit) := ⟨intV_ok, intV_ok, intV_ok, intV_ok, intV_ok, boolV_ok, intV_ok, intV_ok, intV_ok, listV_ok (cs := crewL N S T n A a w limit 10) rfl, trivial, trivial⟩
theorem run_most (a w limit : Int) : VCalls Tryz.prog 34 [.pointer (some ⟨9, 0, none⟩), .agg ⟨preR lr n 6⟩, .slice none 0 0, .int .i64 0] (runM N S T n A lr fst hd rv cp ac bk rs pex hh a w limit)
    (fun r M' => r = noPhase 2 ∧ M' = runM N S T n A lr fst hd rv cp ac bk rs pex hh a w limit) := by
  refine VCalls.ok2 f34_ok mixed rfl ?_
  conv => whnf
  (try conv => whnf); repeat ((first | (with_reducible first | refine Br.tt ?_ | refine Br.ff ?_ | refine Br.nt ?_ | refine Br.nf ?_) | ((with_reducible refine Br.yk ?_ ?_); omega) | ((with_reducible refine Br.yd ?_ ?_); omega) | ((with_reducible refine Br.nd ?_ ?_); omega) | ((with_reducible refine Br.nyd ?_ ?_); omega) | ((with_reducible refine Br.nnd ?_ ?_); omega) | ((with_reducible refine Br.yd ?_ ?_); decide) | ((with_reducible refine Br.nyd ?_ ?_); decide)); conv => whnf)
  exact VRet.dr [_, _, _, _, _, _, _, _, _, _, _] _ rfl rfl (runM_ok (m := 0) ..) rfl ⟨rfl, rfl⟩
theorem run_unfit (a w limit : Int) (hnN : (n : Int) = N) (hn : n ≤ 1000) (hA : A ≤ 32) (hR : RowH N n A hd rv cp) (s t : Nat) (hs : (s : Int) = S) (ht : (t : Int) = T) (hsn : s < n) (htn : t < n) (hu : Unfit N n A lr s pex hh) :
    VCalls Tryz.prog 34 [.pointer (some ⟨9, 0, none⟩), .agg ⟨preR lr n 6⟩, .slice none 0 0, .int .i64 2097152] (runM N S T n A lr fst hd rv cp ac bk rs pex hh a w limit)
    (fun r M' => r = noPhase 2 ∧ M' = runM N S T n A lr fst hd rv cp ac bk rs pex hh a w limit) := by
  refine VCalls.ok2 f34_ok mixed rfl ?_
  conv => whnf
  (try conv => whnf); repeat ((first | (with_reducible first | refine Br.tt ?_ | refine Br.ff ?_ | refine Br.nt ?_ | refine Br.nf ?_) | ((with_reducible refine Br.yk ?_ ?_); omega) | ((with_reducible refine Br.yd ?_ ?_); omega) | ((with_reducible refine Br.nd ?_ ?_); omega) | ((with_reducible refine Br.nyd ?_ ?_); omega) | ((with_reducible refine Br.nnd ?_ ?_); omega) | ((with_reducible refine Br.yd ?_ ?_); decide) | ((with_reducible refine Br.nyd ?_ ?_); decide)); conv => whnf)
  refine VCallF.rd [0, 1, 2, 3, 4, 5, 6, 7, 8] (unfit_c N S T n A fst hd rv cp ac bk lr rs pex hh hnN hn hA hR s t hs ht hsn htn hu) (by decide) (hlt_of rfl) ?_ rfl rfl rfl rfl ?_
  · exact ⟨vwO (intG_ints _), vwO (intG_ints _), vwO (intG_ints _), vwO (intG_ints _), vwO (intG_ints _), vwO (boolG_ints _), vwO (intG_ints _), vwO (intG_ints _), vwO (intG_ints _), trivial⟩
  conv => whnf
  (try conv => whnf); repeat ((first | (with_reducible first | refine Br.tt ?_ | refine Br.ff ?_ | refine Br.nt ?_ | refine Br.nf ?_) | ((with_reducible refine Br.yk ?_ ?_); omega) | ((with_reducible refine Br.yd ?_ ?_); omega) | ((with_reducible refine Br.nd ?_ ?_); omega) | ((with_reducible refine Br.nyd ?_ ?_); omega) | ((with_reducible refine Br.nnd ?_ ?_); omega) | ((with_reducible refine Br.yd ?_ ?_); decide) | ((with_reducible refine Br.nyd ?_ ?_); decide)); conv => whnf)
  exact VRet.dr [_, _, _, _, _, _, _, _, _, _, _] _ rfl rfl (runM_ok (m := 0) ..) rfl ⟨rfl, rfl⟩
theorem cold_c (hnN : (n : Int) = N) (hn : n ≤ 1000) (hA : A ≤ 32) (s : Nat) (hs : (s : Int) = S) (hsn : s < n) (hR : RowOk N n A fst hd rv cp) :
    VCalls Tryz.prog 27 [.agg ⟨csrL N S T n A 0⟩] (csrW n A fst hd rv cp ac bk)
      (fun r M' => ∃ rs ex hh, sumL ex n = 0 ∧ (∀ j, j < n → -2305843009213693952 ≤ ex j ∧ ex j ≤ 2305843009213693952) ∧ hh s = N ∧
        r = .agg ⟨preL n A 6⟩ ∧ M' = csrW n A fst hd rv cp ac bk ++ [VObj.arr 1 A (intG rs) 2, .arr 1 n (intG ex) 2, .arr 1 n (intG hh) 3]) := by
  refine VCalls.ok2 f27_ok mixed rfl ?_
  conv => whnf
  refine VCallF.new [0, 1, 2, 3, 4, 5] (begin_c N S T n A fst hd rv cp ac bk hnN hn hA s hs hsn hR) (by decide) (hlt_of rfl) (csrW_ole n A fst hd rv cp ac bk _ rfl) rfl rfl rfl ?_
  rintro v M1 ⟨rs, ex, hh, h1, h2, h3, rfl, rfl⟩
  refine ⟨_, rfl, rfl, ⟨intA_ok, intA_ok, intA_ok, trivial⟩, csrW_ok, rfl, ?_⟩
  conv => whnf
  exact VRet.of (v2 := .agg ⟨preL n A 6⟩) (M2 := (csrW n A fst hd rv cp ac bk ++ [VObj.arr 1 A (intG rs) 2, .arr 1 n (intG ex) 2, .arr 1 n (intG hh) 3] : VMem)) [0, 1, 2, 3, 4, 5, 8, 9, 10] (by decide) rfl
    ⟨vwO (intG_ints _), vwO (intG_ints _), vwO (intG_ints _), vwO (intG_ints _), vwO (intG_ints _), vwO (boolG_ints _), intO2 rfl (Nat.le_refl _) fun j _ => rfl, intO2 rfl (Nat.le_refl _) fun j _ => rfl, intO2 rfl (Nat.le_refl _) fun j _ => rfl, trivial⟩ rfl rfl ⟨rs, ex, hh, h1, h2, h3, rfl, rfl⟩
end
end Vm
end Go.Proofs.YtcafmkekkcbamaaGreat
