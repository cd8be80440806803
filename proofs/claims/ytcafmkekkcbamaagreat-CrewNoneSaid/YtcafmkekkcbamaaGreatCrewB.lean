/- A crew that is none, a state that is none: the law's own text, for a net without arcs. -/
import Derived.Test.YtcafmkekkcbamaaGreatCrewA
namespace Go.Proofs.YtcafmkekkcbamaaGreat
open Go.RowKit
namespace Vm
attribute [local irreducible] VCallF VYield VLoop VRet inK
set_option maxRecDepth 100000
def noneM0 (N S T : Int) (n A : Nat) (fst hd rv cp ac : Nat → Int) (bk : Nat → Bool) (a w lim : Int) : VMem :=
  [.view 3 (listG [.int .i64 N, .int .i64 S, .int .i64 T]), .view (n + 1) (intG fst), .view A (intG hd), .view A (intG rv), .view A (intG cp), .view A (intG ac), .view A (boolG bk), .view 25 (listG (crewB 1 N S T n A a w lim 8)), .gone, .view 9 (listG (csrL N S T n A 1)), .view 25 (listG zero25), .view 2 (listG [.pointer none, .pointer (some ⟨10, 0, none⟩)])]
def noneE0 (z : Int) (at' which : Int) : Env := [(44, .int .i64 z), (43, .int .i64 2), (42, .slice (some ⟨11, 0, none⟩) 2 2), (8, .pointer (some ⟨7, 0, none⟩)), (7, .pointer (some ⟨9, 0, none⟩)), (3, .pointer (some ⟨0, 0, none⟩)), (2, .int .u8 which), (1, .int .u8 at')]
theorem none_n {N S T : Int} {k : Nat} (f t c : Nat → Int) (at' which : Int) (hw : 0 ≤ at' ∧ at' ≤ 255) (hlim : 0 ≤ which ∧ which ≤ 255)
    (hawake : VCalls Tryz.prog 24 [] [] (fun v M' => v = .bool true ∧ M' = [])) :
    VCalls Tryz.prog 8 [netV N S T none 0 0, .int .u8 at', .int .u8 which] [] (fun v M' => v = .bool true ∧ M' = []) := by
  have hsome := some17_c (N := N) (S := S) (T := T) (ad := none) (l := 0) (k := 0) f t c (.inl ⟨rfl, rfl⟩) (Nat.le_refl _) (by omega) (fun i hi => by omega) at' which hw hlim
  refine VCalls.ok2 f8_ok mixed rfl ?_
  conv => whnf
  refine VCallF.new [0] hsome (by decide) (hlt_of rfl) ⟨fun i hi => by omega, trivial⟩ rfl rfl rfl ?_
  rintro v M1 ⟨N', S', T', n, A, fst, hd, rv, cp, ac, bk, a, w, lim, m, ad', l', hN, hn, hR, hA, had, rfl, rfl⟩
  refine ⟨_, rfl, by rcases had with ⟨rfl, rfl⟩ | rfl <;> rfl, ⟨intA_ok, intA_ok, intA_ok, intA_ok, intA_ok, boolA_ok, rfl, rfl, intA_ok, trivial, trivial⟩, ⟨arcV_ok _ _ _ _ _, trivial⟩, rfl, ?_⟩
  have n2 := hN.n2
  have nv := hN.nv
  have s0 := hN.s0
  have sn := hN.sn
  have t0 := hN.t0
  have tn := hN.tn
  obtain ⟨s, hs'⟩ : ∃ s : Nat, (s : Int) = S' := ⟨S'.toNat, by omega⟩
  obtain ⟨tt, ht'⟩ : ∃ s : Nat, (s : Int) = T' := ⟨T'.toNat, by omega⟩
  have hRH : RowH N' n A hd rv cp := ⟨hR.h0, fun j hj => by have := hR.hn j hj; omega, hR.r0, hR.rA, hR.c0, hR.cb⟩
  have hcold := cold_c N' S' T' n A fst hd rv cp ac bk hn (by omega) (by omega) s hs' (by omega) hR
  clear hsome
  rcases had with ⟨rfl, rfl⟩ | rfl
  all_goals
    conv => whnf
    (try conv => whnf); repeat ((first | (with_reducible first | refine Br.tt ?_ | refine Br.ff ?_ | refine Br.nt ?_ | refine Br.nf ?_) | ((with_reducible refine Br.yk ?_ ?_); omega) | ((with_reducible refine Br.yd ?_ ?_); omega) | ((with_reducible refine Br.nd ?_ ?_); omega) | ((with_reducible refine Br.nyd ?_ ?_); omega) | ((with_reducible refine Br.nnd ?_ ?_); omega) | ((with_reducible refine Br.yd ?_ ?_); decide) | ((with_reducible refine Br.nyd ?_ ?_); decide)); conv => whnf)
    refine VLoop.intro (fun m E M => (m = 2 ∧ E = noneE0 0 at' which ∨ m = 1 ∧ E = noneE0 1 at' which ∨ m = 0 ∧ E = noneE0 2 at' which) ∧ M = noneM0 N' S' T' n A fst hd rv cp ac bk a w lim) 2 _ _ ⟨.inl ⟨rfl, rfl⟩, rfl⟩ ?_ ?_
    · exact WeakE.of [0, 1, 2, 3, 4, 5, 6, 7, 8, 11, 12, 13] (by decide) rfl ⟨listVS (cs0 := [.int .i64 N', .int .i64 S', .int .i64 T']) rfl rfl, (intG_ints _).ole (.inr ⟨_, _, _, rfl, Nat.le_refl _⟩), (intG_ints _).ole (.inr ⟨_, _, _, rfl, Nat.le_refl _⟩), (intG_ints _).ole (.inr ⟨_, _, _, rfl, Nat.le_refl _⟩), (intG_ints _).ole (.inr ⟨_, _, _, rfl, Nat.le_refl _⟩), (intG_ints _).ole (.inr ⟨_, _, _, rfl, Nat.le_refl _⟩), (boolG_ints _).ole (.inr ⟨_, _, _, rfl, Nat.le_refl _⟩), listVS (cs0 := crewB 1 N' S' T' n A a w lim 8) rfl rfl, trivial, listVS (cs0 := csrL N' S' T' n A 1) rfl rfl, listVS (cs0 := zero25) rfl rfl, listVS (cs0 := [.pointer none, .pointer (some ⟨10, 0, none⟩)]) rfl rfl, trivial⟩ (by repeat (first | exact trivial | refine ⟨rfl, rfl, ?_⟩))
    rintro m E M ⟨⟨rfl, rfl⟩ | ⟨rfl, rfl⟩ | ⟨rfl, rfl⟩, rfl⟩
    · conv => whnf
      (try conv => whnf); repeat ((first | (with_reducible first | refine Br.tt ?_ | refine Br.ff ?_ | refine Br.nt ?_ | refine Br.nf ?_) | ((with_reducible refine Br.yk ?_ ?_); omega) | ((with_reducible refine Br.yd ?_ ?_); omega) | ((with_reducible refine Br.nd ?_ ?_); omega) | ((with_reducible refine Br.nyd ?_ ?_); omega) | ((with_reducible refine Br.nnd ?_ ?_); omega) | ((with_reducible refine Br.yd ?_ ?_); decide) | ((with_reducible refine Br.nyd ?_ ?_); decide)); conv => whnf)
      refine VCallF.new [1, 2, 3, 4, 5, 6] hcold (by decide) (hlt_of rfl) ⟨vwO (intG_ints _), vwO (intG_ints _), vwO (intG_ints _), vwO (intG_ints _), vwO (intG_ints _), vwO (boolG_ints _), trivial⟩ rfl rfl rfl ?_
      rintro v M1 ⟨rs, ex, hh, hx1, hx2, hx3, rfl, rfl⟩
      refine ⟨_, rfl, rfl, ⟨intA_ok, intA_ok, intA_ok, trivial⟩, csrW_ok, rfl, ?_⟩
      conv => whnf
      refine VCallF.rd [1, 2, 3, 4, 5, 6, 12, 13, 14] (run_nil n A A fst hd rv cp ac bk rs ex hh 10) (by decide) (hlt_of rfl) ?_ rfl rfl rfl rfl ?_
      · exact ⟨vwO (intG_ints _), vwO (intG_ints _), vwO (intG_ints _), vwO (intG_ints _), vwO (intG_ints _), vwO (boolG_ints _), intV2 rfl (Nat.le_refl _) fun j _ => rfl, intV2 rfl (Nat.le_refl _) fun j _ => rfl, intV2 rfl (Nat.le_refl _) fun j _ => rfl, trivial⟩
      conv => whnf
      (try conv => whnf); repeat ((first | (with_reducible first | refine Br.tt ?_ | refine Br.ff ?_ | refine Br.nt ?_ | refine Br.nf ?_) | ((with_reducible refine Br.yk ?_ ?_); omega) | ((with_reducible refine Br.yd ?_ ?_); omega) | ((with_reducible refine Br.nd ?_ ?_); omega) | ((with_reducible refine Br.nyd ?_ ?_); omega) | ((with_reducible refine Br.nnd ?_ ?_); omega) | ((with_reducible refine Br.yd ?_ ?_); decide) | ((with_reducible refine Br.nyd ?_ ?_); decide)); conv => whnf)
      exact ⟨1, _, _, by decide, ⟨.inr (.inl ⟨rfl, rfl⟩), rfl⟩, WeakE.of [0, 1, 2, 3, 4, 5, 6, 7, 8, 9, 10, 11] (by decide) rfl ⟨listVV (cs0 := [.int .i64 N', .int .i64 S', .int .i64 T']) rfl rfl, vwO (intG_ints _), vwO (intG_ints _), vwO (intG_ints _), vwO (intG_ints _), vwO (intG_ints _), vwO (boolG_ints _), listVV (cs0 := crewB 1 N' S' T' n A a w lim 8) rfl rfl, trivial, listVV (cs0 := csrL N' S' T' n A 1) rfl rfl, listVV (cs0 := zero25) rfl rfl, listVV (cs0 := [.pointer none, .pointer (some ⟨10, 0, none⟩)]) rfl rfl, trivial⟩ (by repeat (first | exact trivial | refine ⟨rfl, rfl, ?_⟩))⟩
    · conv => whnf
      (try conv => whnf); repeat ((first | (with_reducible first | refine Br.tt ?_ | refine Br.ff ?_ | refine Br.nt ?_ | refine Br.nf ?_) | ((with_reducible refine Br.yk ?_ ?_); omega) | ((with_reducible refine Br.yd ?_ ?_); omega) | ((with_reducible refine Br.nd ?_ ?_); omega) | ((with_reducible refine Br.nyd ?_ ?_); omega) | ((with_reducible refine Br.nnd ?_ ?_); omega) | ((with_reducible refine Br.yd ?_ ?_); decide) | ((with_reducible refine Br.nyd ?_ ?_); decide)); conv => whnf)
      refine VCallF.new [1, 2, 3, 4, 5, 6] hcold (by decide) (hlt_of rfl) ⟨vwO (intG_ints _), vwO (intG_ints _), vwO (intG_ints _), vwO (intG_ints _), vwO (intG_ints _), vwO (boolG_ints _), trivial⟩ rfl rfl rfl ?_
      rintro v M1 ⟨rs, ex, hh, hx1, hx2, hx3, rfl, rfl⟩
      refine ⟨_, rfl, rfl, ⟨intA_ok, intA_ok, intA_ok, trivial⟩, csrW_ok, rfl, ?_⟩
      conv => whnf
      refine VCallF.rd [1, 2, 3, 4, 5, 6, 12, 13, 14, 10] (run_empty n A A fst hd rv cp ac bk rs ex hh 10) (by decide) (hlt_of rfl) ?_ rfl rfl rfl rfl ?_
      · exact ⟨vwO (intG_ints _), vwO (intG_ints _), vwO (intG_ints _), vwO (intG_ints _), vwO (intG_ints _), vwO (boolG_ints _), intV2 rfl (Nat.le_refl _) fun j _ => rfl, intV2 rfl (Nat.le_refl _) fun j _ => rfl, intV2 rfl (Nat.le_refl _) fun j _ => rfl, listVV (cs0 := zero25) rfl rfl, trivial⟩
      conv => whnf
      (try conv => whnf); repeat ((first | (with_reducible first | refine Br.tt ?_ | refine Br.ff ?_ | refine Br.nt ?_ | refine Br.nf ?_) | ((with_reducible refine Br.yk ?_ ?_); omega) | ((with_reducible refine Br.yd ?_ ?_); omega) | ((with_reducible refine Br.nd ?_ ?_); omega) | ((with_reducible refine Br.nyd ?_ ?_); omega) | ((with_reducible refine Br.nnd ?_ ?_); omega) | ((with_reducible refine Br.yd ?_ ?_); decide) | ((with_reducible refine Br.nyd ?_ ?_); decide)); conv => whnf)
      exact ⟨0, _, _, by decide, ⟨.inr (.inr ⟨rfl, rfl⟩), rfl⟩, WeakE.of [0, 1, 2, 3, 4, 5, 6, 7, 8, 9, 10, 11] (by decide) rfl ⟨listVV (cs0 := [.int .i64 N', .int .i64 S', .int .i64 T']) rfl rfl, vwO (intG_ints _), vwO (intG_ints _), vwO (intG_ints _), vwO (intG_ints _), vwO (intG_ints _), vwO (boolG_ints _), listVV (cs0 := crewB 1 N' S' T' n A a w lim 8) rfl rfl, trivial, listVV (cs0 := csrL N' S' T' n A 1) rfl rfl, listVV (cs0 := zero25) rfl rfl, listVV (cs0 := [.pointer none, .pointer (some ⟨10, 0, none⟩)]) rfl rfl, trivial⟩ (by repeat (first | exact trivial | refine ⟨rfl, rfl, ?_⟩))⟩
    · conv => whnf
      (try conv => whnf); repeat ((first | (with_reducible first | refine Br.tt ?_ | refine Br.ff ?_ | refine Br.nt ?_ | refine Br.nf ?_) | ((with_reducible refine Br.yk ?_ ?_); omega) | ((with_reducible refine Br.yd ?_ ?_); omega) | ((with_reducible refine Br.nd ?_ ?_); omega) | ((with_reducible refine Br.nyd ?_ ?_); omega) | ((with_reducible refine Br.nnd ?_ ?_); omega) | ((with_reducible refine Br.yd ?_ ?_); decide) | ((with_reducible refine Br.nyd ?_ ?_); decide)); conv => whnf)
      refine VCallF.new [1, 2, 3, 4, 5, 6] hcold (by decide) (hlt_of rfl) ⟨vwO (intG_ints _), vwO (intG_ints _), vwO (intG_ints _), vwO (intG_ints _), vwO (intG_ints _), vwO (boolG_ints _), trivial⟩ rfl rfl rfl ?_
      rintro v M1 ⟨rs, ex, hh, hx1, hx2, hx3, rfl, rfl⟩
      refine ⟨_, rfl, rfl, ⟨intA_ok, intA_ok, intA_ok, trivial⟩, csrW_ok, rfl, ?_⟩
      conv => whnf
      (try conv => whnf); repeat ((first | (with_reducible first | refine Br.tt ?_ | refine Br.ff ?_ | refine Br.nt ?_ | refine Br.nf ?_) | ((with_reducible refine Br.yk ?_ ?_); omega) | ((with_reducible refine Br.yd ?_ ?_); omega) | ((with_reducible refine Br.nd ?_ ?_); omega) | ((with_reducible refine Br.nyd ?_ ?_); omega) | ((with_reducible refine Br.nnd ?_ ?_); omega) | ((with_reducible refine Br.yd ?_ ?_); decide) | ((with_reducible refine Br.nyd ?_ ?_); decide)); conv => whnf)
      have v1 := tmod_nn (x := at') N' hw.1
      have v2 := tmod_lt at' (n := N') (by omega)
      have q1 := tmod_nn (x := which) 5 hlim.1
      have q2 := tmod_lt which (n := 5) (by omega)
      obtain ⟨vv, hv⟩ : ∃ v : Nat, (v : Int) = at'.tmod N' := ⟨(at'.tmod N').toNat, by omega⟩
      have hvv : vv < n := by omega
      have e3 : 0 + (at'.tmod N').toNat * 1 = vv := by omega
      have e4 : 0 + S'.toNat * 1 = s := by omega
      have hx4 := hx2 vv hvv
      have hq : which.tmod 5 = 0 ∨ which.tmod 5 = 1 ∨ which.tmod 5 = 2 ∨ which.tmod 5 = 3 ∨ which.tmod 5 = 4 := by omega
      rcases hq with hq | hq | hq | hq | hq
      · conv => whnf
        (try conv => whnf); repeat ((first | (with_reducible first | refine Br.tt ?_ | refine Br.ff ?_ | refine Br.nt ?_ | refine Br.nf ?_) | ((with_reducible refine Br.yk ?_ ?_); omega) | ((with_reducible refine Br.yd ?_ ?_); omega) | ((with_reducible refine Br.nd ?_ ?_); omega) | ((with_reducible refine Br.nyd ?_ ?_); omega) | ((with_reducible refine Br.nnd ?_ ?_); omega) | ((with_reducible refine Br.yd ?_ ?_); decide) | ((with_reducible refine Br.nyd ?_ ?_); decide) | rw [e3] | rw [e4]); conv => whnf)
        have hu : Unfit N' n A A s ex (setF hh vv (N' + 1)) := .inr ⟨rfl, .inr (.inr ⟨vv, hvv, .inr (by rw [setF_eq]; omega)⟩)⟩
        refine VCallF.rd [1, 2, 3, 4, 5, 6, 12, 13, 14, 7, 8] (run_unfit N' S' T' n A A fst hd rv cp ac bk rs ex (setF hh vv (N' + 1)) a w lim hn (by omega) (by omega) hRH s tt hs' ht' (by omega) (by omega) hu) (by decide) (hlt_of rfl) ?_ rfl rfl rfl rfl ?_
        · exact ⟨vwO (intG_ints _), vwO (intG_ints _), vwO (intG_ints _), vwO (intG_ints _), vwO (intG_ints _), vwO (boolG_ints _), intV2 rfl (Nat.le_refl _) fun j _ => rfl, intV2 rfl (Nat.le_refl _) fun j _ => rfl, intV2 rfl (Nat.le_refl _) fun j _ => (by show updG (intG _) _ _ j = _; rw [updG_int]), listVV (cs0 := crewL N' S' T' n A a w lim 10) rfl rfl, trivial, trivial⟩
        conv => whnf
        (try conv => whnf); repeat ((first | (with_reducible first | refine Br.tt ?_ | refine Br.ff ?_ | refine Br.nt ?_ | refine Br.nf ?_) | ((with_reducible refine Br.yk ?_ ?_); omega) | ((with_reducible refine Br.yd ?_ ?_); omega) | ((with_reducible refine Br.nd ?_ ?_); omega) | ((with_reducible refine Br.nyd ?_ ?_); omega) | ((with_reducible refine Br.nnd ?_ ?_); omega) | ((with_reducible refine Br.yd ?_ ?_); decide) | ((with_reducible refine Br.nyd ?_ ?_); decide)); conv => whnf)
        refine VCallF.new [1, 2, 3, 4, 5, 6] hcold (by decide) (hlt_of rfl) ⟨vwO (intG_ints _), vwO (intG_ints _), vwO (intG_ints _), vwO (intG_ints _), vwO (intG_ints _), vwO (boolG_ints _), trivial⟩ rfl rfl rfl ?_
        rintro v M1 ⟨rs2, ex2, hh2, hx12, hx22, hx32, rfl, rfl⟩
        refine ⟨_, rfl, rfl, ⟨intA_ok, intA_ok, intA_ok, trivial⟩, csrW_ok, rfl, ?_⟩
        conv => whnf
        (try conv => whnf); repeat ((first | (with_reducible first | refine Br.tt ?_ | refine Br.ff ?_ | refine Br.nt ?_ | refine Br.nf ?_) | ((with_reducible refine Br.yk ?_ ?_); omega) | ((with_reducible refine Br.yd ?_ ?_); omega) | ((with_reducible refine Br.nd ?_ ?_); omega) | ((with_reducible refine Br.nyd ?_ ?_); omega) | ((with_reducible refine Br.nnd ?_ ?_); omega) | ((with_reducible refine Br.yd ?_ ?_); decide) | ((with_reducible refine Br.nyd ?_ ?_); decide)); conv => whnf)
        refine VCallF.rd [1, 2, 3, 4, 5, 6, 18, 19, 20, 7, 8] (run_most N' S' T' n A A fst hd rv cp ac bk rs2 ex2 hh2 a w lim) (by decide) (hlt_of rfl) ?_ rfl rfl rfl rfl ?_
        · exact ⟨vwO (intG_ints _), vwO (intG_ints _), vwO (intG_ints _), vwO (intG_ints _), vwO (intG_ints _), vwO (boolG_ints _), intV2 rfl (Nat.le_refl _) fun j _ => rfl, intV2 rfl (Nat.le_refl _) fun j _ => rfl, intV2 rfl (Nat.le_refl _) fun j _ => rfl, listVV (cs0 := crewL N' S' T' n A a w lim 10) rfl rfl, trivial, trivial⟩
        conv => whnf
        (try conv => whnf); repeat ((first | (with_reducible first | refine Br.tt ?_ | refine Br.ff ?_ | refine Br.nt ?_ | refine Br.nf ?_) | ((with_reducible refine Br.yk ?_ ?_); omega) | ((with_reducible refine Br.yd ?_ ?_); omega) | ((with_reducible refine Br.nd ?_ ?_); omega) | ((with_reducible refine Br.nyd ?_ ?_); omega) | ((with_reducible refine Br.nnd ?_ ?_); omega) | ((with_reducible refine Br.yd ?_ ?_); decide) | ((with_reducible refine Br.nyd ?_ ?_); decide)); conv => whnf)
        refine VCallF.rd [1, 2, 3, 4, 5, 6] (crewBad_c N' S' T' n A fst hd rv cp ac bk 0 5 (by omega) (by omega) (by omega) (.inl (by omega))) (by decide) (hlt_of rfl) ?_ rfl rfl rfl rfl ?_
        · exact ⟨vwO (intG_ints _), vwO (intG_ints _), vwO (intG_ints _), vwO (intG_ints _), vwO (intG_ints _), vwO (boolG_ints _), trivial⟩
        conv => whnf
        (try conv => whnf); repeat ((first | (with_reducible first | refine Br.tt ?_ | refine Br.ff ?_ | refine Br.nt ?_ | refine Br.nf ?_) | ((with_reducible refine Br.yk ?_ ?_); omega) | ((with_reducible refine Br.yd ?_ ?_); omega) | ((with_reducible refine Br.nd ?_ ?_); omega) | ((with_reducible refine Br.nyd ?_ ?_); omega) | ((with_reducible refine Br.nnd ?_ ?_); omega) | ((with_reducible refine Br.yd ?_ ?_); decide) | ((with_reducible refine Br.nyd ?_ ?_); decide)); conv => whnf)
        refine VCallF.rd [1, 2, 3, 4, 5, 6] (crewBad_c N' S' T' n A fst hd rv cp ac bk 65 5 (by omega) (by omega) (by omega) (.inr (by omega))) (by decide) (hlt_of rfl) ?_ rfl rfl rfl rfl ?_
        · exact ⟨vwO (intG_ints _), vwO (intG_ints _), vwO (intG_ints _), vwO (intG_ints _), vwO (intG_ints _), vwO (boolG_ints _), trivial⟩
        conv => whnf
        (try conv => whnf); repeat ((first | (with_reducible first | refine Br.tt ?_ | refine Br.ff ?_ | refine Br.nt ?_ | refine Br.nf ?_) | ((with_reducible refine Br.yk ?_ ?_); omega) | ((with_reducible refine Br.yd ?_ ?_); omega) | ((with_reducible refine Br.nd ?_ ?_); omega) | ((with_reducible refine Br.nyd ?_ ?_); omega) | ((with_reducible refine Br.nnd ?_ ?_); omega) | ((with_reducible refine Br.yd ?_ ?_); decide) | ((with_reducible refine Br.nyd ?_ ?_); decide)); conv => whnf)
        refine VCallF.rd [1, 2, 3, 4, 5, 6] (crewLim_c N' S' T' n A fst hd rv cp ac bk 2 0 (by omega) (by omega) (by omega) (by omega) (by omega) (by omega)) (by decide) (hlt_of rfl) ?_ rfl rfl rfl rfl ?_
        · exact ⟨vwO (intG_ints _), vwO (intG_ints _), vwO (intG_ints _), vwO (intG_ints _), vwO (intG_ints _), vwO (boolG_ints _), trivial⟩
        conv => whnf
        (try conv => whnf); repeat ((first | (with_reducible first | refine Br.tt ?_ | refine Br.ff ?_ | refine Br.nt ?_ | refine Br.nf ?_) | ((with_reducible refine Br.yk ?_ ?_); omega) | ((with_reducible refine Br.yd ?_ ?_); omega) | ((with_reducible refine Br.nd ?_ ?_); omega) | ((with_reducible refine Br.nyd ?_ ?_); omega) | ((with_reducible refine Br.nnd ?_ ?_); omega) | ((with_reducible refine Br.yd ?_ ?_); decide) | ((with_reducible refine Br.nyd ?_ ?_); decide)); conv => whnf)
        refine VCallF.rd [1, 2, 3, 4, 5, 6, 12, 13, 14] (unfit_c N' S' T' n A fst hd rv cp ac bk A rs ex (setF hh vv (N' + 1)) hn (by omega) (by omega) hRH s tt hs' ht' (by omega) (by omega) hu) (by decide) (hlt_of rfl) ?_ rfl rfl rfl rfl ?_
        · exact ⟨vwO (intG_ints _), vwO (intG_ints _), vwO (intG_ints _), vwO (intG_ints _), vwO (intG_ints _), vwO (boolG_ints _), intV2 rfl (Nat.le_refl _) fun j _ => rfl, intV2 rfl (Nat.le_refl _) fun j _ => rfl, intV2 rfl (Nat.le_refl _) fun j _ => (by show updG (intG _) _ _ j = _; rw [updG_int]), trivial⟩
        conv => whnf
        (try conv => whnf); repeat ((first | (with_reducible first | refine Br.tt ?_ | refine Br.ff ?_ | refine Br.nt ?_ | refine Br.nf ?_) | ((with_reducible refine Br.yk ?_ ?_); omega) | ((with_reducible refine Br.yd ?_ ?_); omega) | ((with_reducible refine Br.nd ?_ ?_); omega) | ((with_reducible refine Br.nyd ?_ ?_); omega) | ((with_reducible refine Br.nnd ?_ ?_); omega) | ((with_reducible refine Br.yd ?_ ?_); decide) | ((with_reducible refine Br.nyd ?_ ?_); decide)); conv => whnf)
        refine VCallF.rd [] hawake (by decide) (hlt_of rfl) ?_ rfl rfl rfl rfl ?_
        · trivial
        conv => whnf
        (try conv => whnf); repeat ((first | (with_reducible first | refine Br.tt ?_ | refine Br.ff ?_ | refine Br.nt ?_ | refine Br.nf ?_) | ((with_reducible refine Br.yk ?_ ?_); omega) | ((with_reducible refine Br.yd ?_ ?_); omega) | ((with_reducible refine Br.nd ?_ ?_); omega) | ((with_reducible refine Br.nyd ?_ ?_); omega) | ((with_reducible refine Br.nnd ?_ ?_); omega) | ((with_reducible refine Br.yd ?_ ?_); decide) | ((with_reducible refine Br.nyd ?_ ?_); decide)); conv => whnf)
        exact VRet.dr [] _ rfl rfl trivial rfl ⟨rfl, rfl⟩
      · conv => whnf
        (try conv => whnf); repeat ((first | (with_reducible first | refine Br.tt ?_ | refine Br.ff ?_ | refine Br.nt ?_ | refine Br.nf ?_) | ((with_reducible refine Br.yk ?_ ?_); omega) | ((with_reducible refine Br.yd ?_ ?_); omega) | ((with_reducible refine Br.nd ?_ ?_); omega) | ((with_reducible refine Br.nyd ?_ ?_); omega) | ((with_reducible refine Br.nnd ?_ ?_); omega) | ((with_reducible refine Br.yd ?_ ?_); decide) | ((with_reducible refine Br.nyd ?_ ?_); decide) | rw [e3] | rw [e4]); conv => whnf)
        have hu : Unfit N' n A A s (setF ex vv (ex vv + 1)) hh := .inr ⟨rfl, .inl (by rw [sumL_set, if_pos hvv, hx1]; omega)⟩
        refine VCallF.rd [1, 2, 3, 4, 5, 6, 12, 13, 14, 7, 8] (run_unfit N' S' T' n A A fst hd rv cp ac bk rs (setF ex vv (ex vv + 1)) hh a w lim hn (by omega) (by omega) hRH s tt hs' ht' (by omega) (by omega) hu) (by decide) (hlt_of rfl) ?_ rfl rfl rfl rfl ?_
        · exact ⟨vwO (intG_ints _), vwO (intG_ints _), vwO (intG_ints _), vwO (intG_ints _), vwO (intG_ints _), vwO (boolG_ints _), intV2 rfl (Nat.le_refl _) fun j _ => rfl, intV2 rfl (Nat.le_refl _) fun j _ => (by show updG (intG _) _ _ j = _; rw [updG_int]), intV2 rfl (Nat.le_refl _) fun j _ => rfl, listVV (cs0 := crewL N' S' T' n A a w lim 10) rfl rfl, trivial, trivial⟩
        conv => whnf
        (try conv => whnf); repeat ((first | (with_reducible first | refine Br.tt ?_ | refine Br.ff ?_ | refine Br.nt ?_ | refine Br.nf ?_) | ((with_reducible refine Br.yk ?_ ?_); omega) | ((with_reducible refine Br.yd ?_ ?_); omega) | ((with_reducible refine Br.nd ?_ ?_); omega) | ((with_reducible refine Br.nyd ?_ ?_); omega) | ((with_reducible refine Br.nnd ?_ ?_); omega) | ((with_reducible refine Br.yd ?_ ?_); decide) | ((with_reducible refine Br.nyd ?_ ?_); decide)); conv => whnf)
        refine VCallF.new [1, 2, 3, 4, 5, 6] hcold (by decide) (hlt_of rfl) ⟨vwO (intG_ints _), vwO (intG_ints _), vwO (intG_ints _), vwO (intG_ints _), vwO (intG_ints _), vwO (boolG_ints _), trivial⟩ rfl rfl rfl ?_
        rintro v M1 ⟨rs2, ex2, hh2, hx12, hx22, hx32, rfl, rfl⟩
        refine ⟨_, rfl, rfl, ⟨intA_ok, intA_ok, intA_ok, trivial⟩, csrW_ok, rfl, ?_⟩
        conv => whnf
        (try conv => whnf); repeat ((first | (with_reducible first | refine Br.tt ?_ | refine Br.ff ?_ | refine Br.nt ?_ | refine Br.nf ?_) | ((with_reducible refine Br.yk ?_ ?_); omega) | ((with_reducible refine Br.yd ?_ ?_); omega) | ((with_reducible refine Br.nd ?_ ?_); omega) | ((with_reducible refine Br.nyd ?_ ?_); omega) | ((with_reducible refine Br.nnd ?_ ?_); omega) | ((with_reducible refine Br.yd ?_ ?_); decide) | ((with_reducible refine Br.nyd ?_ ?_); decide)); conv => whnf)
        refine VCallF.rd [1, 2, 3, 4, 5, 6, 18, 19, 20, 7, 8] (run_most N' S' T' n A A fst hd rv cp ac bk rs2 ex2 hh2 a w lim) (by decide) (hlt_of rfl) ?_ rfl rfl rfl rfl ?_
        · exact ⟨vwO (intG_ints _), vwO (intG_ints _), vwO (intG_ints _), vwO (intG_ints _), vwO (intG_ints _), vwO (boolG_ints _), intV2 rfl (Nat.le_refl _) fun j _ => rfl, intV2 rfl (Nat.le_refl _) fun j _ => rfl, intV2 rfl (Nat.le_refl _) fun j _ => rfl, listVV (cs0 := crewL N' S' T' n A a w lim 10) rfl rfl, trivial, trivial⟩
        conv => whnf
        (try conv => whnf); repeat ((first | (with_reducible first | refine Br.tt ?_ | refine Br.ff ?_ | refine Br.nt ?_ | refine Br.nf ?_) | ((with_reducible refine Br.yk ?_ ?_); omega) | ((with_reducible refine Br.yd ?_ ?_); omega) | ((with_reducible refine Br.nd ?_ ?_); omega) | ((with_reducible refine Br.nyd ?_ ?_); omega) | ((with_reducible refine Br.nnd ?_ ?_); omega) | ((with_reducible refine Br.yd ?_ ?_); decide) | ((with_reducible refine Br.nyd ?_ ?_); decide)); conv => whnf)
        refine VCallF.rd [1, 2, 3, 4, 5, 6] (crewBad_c N' S' T' n A fst hd rv cp ac bk 0 5 (by omega) (by omega) (by omega) (.inl (by omega))) (by decide) (hlt_of rfl) ?_ rfl rfl rfl rfl ?_
        · exact ⟨vwO (intG_ints _), vwO (intG_ints _), vwO (intG_ints _), vwO (intG_ints _), vwO (intG_ints _), vwO (boolG_ints _), trivial⟩
        conv => whnf
        (try conv => whnf); repeat ((first | (with_reducible first | refine Br.tt ?_ | refine Br.ff ?_ | refine Br.nt ?_ | refine Br.nf ?_) | ((with_reducible refine Br.yk ?_ ?_); omega) | ((with_reducible refine Br.yd ?_ ?_); omega) | ((with_reducible refine Br.nd ?_ ?_); omega) | ((with_reducible refine Br.nyd ?_ ?_); omega) | ((with_reducible refine Br.nnd ?_ ?_); omega) | ((with_reducible refine Br.yd ?_ ?_); decide) | ((with_reducible refine Br.nyd ?_ ?_); decide)); conv => whnf)
        refine VCallF.rd [1, 2, 3, 4, 5, 6] (crewBad_c N' S' T' n A fst hd rv cp ac bk 65 5 (by omega) (by omega) (by omega) (.inr (by omega))) (by decide) (hlt_of rfl) ?_ rfl rfl rfl rfl ?_
        · exact ⟨vwO (intG_ints _), vwO (intG_ints _), vwO (intG_ints _), vwO (intG_ints _), vwO (intG_ints _), vwO (boolG_ints _), trivial⟩
        conv => whnf
        (try conv => whnf); repeat ((first | (with_reducible first | refine Br.tt ?_ | refine Br.ff ?_ | refine Br.nt ?_ | refine Br.nf ?_) | ((with_reducible refine Br.yk ?_ ?_); omega) | ((with_reducible refine Br.yd ?_ ?_); omega) | ((with_reducible refine Br.nd ?_ ?_); omega) | ((with_reducible refine Br.nyd ?_ ?_); omega) | ((with_reducible refine Br.nnd ?_ ?_); omega) | ((with_reducible refine Br.yd ?_ ?_); decide) | ((with_reducible refine Br.nyd ?_ ?_); decide)); conv => whnf)
        refine VCallF.rd [1, 2, 3, 4, 5, 6] (crewLim_c N' S' T' n A fst hd rv cp ac bk 2 0 (by omega) (by omega) (by omega) (by omega) (by omega) (by omega)) (by decide) (hlt_of rfl) ?_ rfl rfl rfl rfl ?_
        · exact ⟨vwO (intG_ints _), vwO (intG_ints _), vwO (intG_ints _), vwO (intG_ints _), vwO (intG_ints _), vwO (boolG_ints _), trivial⟩
        conv => whnf
        (try conv => whnf); repeat ((first | (with_reducible first | refine Br.tt ?_ | refine Br.ff ?_ | refine Br.nt ?_ | refine Br.nf ?_) | ((with_reducible refine Br.yk ?_ ?_); omega) | ((with_reducible refine Br.yd ?_ ?_); omega) | ((with_reducible refine Br.nd ?_ ?_); omega) | ((with_reducible refine Br.nyd ?_ ?_); omega) | ((with_reducible refine Br.nnd ?_ ?_); omega) | ((with_reducible refine Br.yd ?_ ?_); decide) | ((with_reducible refine Br.nyd ?_ ?_); decide)); conv => whnf)
        refine VCallF.rd [1, 2, 3, 4, 5, 6, 12, 13, 14] (unfit_c N' S' T' n A fst hd rv cp ac bk A rs (setF ex vv (ex vv + 1)) hh hn (by omega) (by omega) hRH s tt hs' ht' (by omega) (by omega) hu) (by decide) (hlt_of rfl) ?_ rfl rfl rfl rfl ?_
        · exact ⟨vwO (intG_ints _), vwO (intG_ints _), vwO (intG_ints _), vwO (intG_ints _), vwO (intG_ints _), vwO (boolG_ints _), intV2 rfl (Nat.le_refl _) fun j _ => rfl, intV2 rfl (Nat.le_refl _) fun j _ => (by show updG (intG _) _ _ j = _; rw [updG_int]), intV2 rfl (Nat.le_refl _) fun j _ => rfl, trivial⟩
        conv => whnf
        (try conv => whnf); repeat ((first | (with_reducible first | refine Br.tt ?_ | refine Br.ff ?_ | refine Br.nt ?_ | refine Br.nf ?_) | ((with_reducible refine Br.yk ?_ ?_); omega) | ((with_reducible refine Br.yd ?_ ?_); omega) | ((with_reducible refine Br.nd ?_ ?_); omega) | ((with_reducible refine Br.nyd ?_ ?_); omega) | ((with_reducible refine Br.nnd ?_ ?_); omega) | ((with_reducible refine Br.yd ?_ ?_); decide) | ((with_reducible refine Br.nyd ?_ ?_); decide)); conv => whnf)
        refine VCallF.rd [] hawake (by decide) (hlt_of rfl) ?_ rfl rfl rfl rfl ?_
        · trivial
        conv => whnf
        (try conv => whnf); repeat ((first | (with_reducible first | refine Br.tt ?_ | refine Br.ff ?_ | refine Br.nt ?_ | refine Br.nf ?_) | ((with_reducible refine Br.yk ?_ ?_); omega) | ((with_reducible refine Br.yd ?_ ?_); omega) | ((with_reducible refine Br.nd ?_ ?_); omega) | ((with_reducible refine Br.nyd ?_ ?_); omega) | ((with_reducible refine Br.nnd ?_ ?_); omega) | ((with_reducible refine Br.yd ?_ ?_); decide) | ((with_reducible refine Br.nyd ?_ ?_); decide)); conv => whnf)
        exact VRet.dr [] _ rfl rfl trivial rfl ⟨rfl, rfl⟩
      · conv => whnf
        (try conv => whnf); repeat ((first | (with_reducible first | refine Br.tt ?_ | refine Br.ff ?_ | refine Br.nt ?_ | refine Br.nf ?_) | ((with_reducible refine Br.yk ?_ ?_); omega) | ((with_reducible refine Br.yd ?_ ?_); omega) | ((with_reducible refine Br.nd ?_ ?_); omega) | ((with_reducible refine Br.nyd ?_ ?_); omega) | ((with_reducible refine Br.nnd ?_ ?_); omega) | ((with_reducible refine Br.yd ?_ ?_); decide) | ((with_reducible refine Br.nyd ?_ ?_); decide) | rw [e3] | rw [e4] | rw [hx3]); conv => whnf)
        have hu : Unfit N' n A A s ex (setF hh s (N' - 1)) := .inr ⟨rfl, .inr (.inl (by rw [setF_eq]; omega))⟩
        refine VCallF.rd [1, 2, 3, 4, 5, 6, 12, 13, 14, 7, 8] (run_unfit N' S' T' n A A fst hd rv cp ac bk rs ex (setF hh s (N' - 1)) a w lim hn (by omega) (by omega) hRH s tt hs' ht' (by omega) (by omega) hu) (by decide) (hlt_of rfl) ?_ rfl rfl rfl rfl ?_
        · exact ⟨vwO (intG_ints _), vwO (intG_ints _), vwO (intG_ints _), vwO (intG_ints _), vwO (intG_ints _), vwO (boolG_ints _), intV2 rfl (Nat.le_refl _) fun j _ => rfl, intV2 rfl (Nat.le_refl _) fun j _ => rfl, intV2 rfl (Nat.le_refl _) fun j _ => (by show updG (intG _) _ _ j = _; rw [updG_int]), listVV (cs0 := crewL N' S' T' n A a w lim 10) rfl rfl, trivial, trivial⟩
        conv => whnf
        (try conv => whnf); repeat ((first | (with_reducible first | refine Br.tt ?_ | refine Br.ff ?_ | refine Br.nt ?_ | refine Br.nf ?_) | ((with_reducible refine Br.yk ?_ ?_); omega) | ((with_reducible refine Br.yd ?_ ?_); omega) | ((with_reducible refine Br.nd ?_ ?_); omega) | ((with_reducible refine Br.nyd ?_ ?_); omega) | ((with_reducible refine Br.nnd ?_ ?_); omega) | ((with_reducible refine Br.yd ?_ ?_); decide) | ((with_reducible refine Br.nyd ?_ ?_); decide)); conv => whnf)
        refine VCallF.new [1, 2, 3, 4, 5, 6] hcold (by decide) (hlt_of rfl) ⟨vwO (intG_ints _), vwO (intG_ints _), vwO (intG_ints _), vwO (intG_ints _), vwO (intG_ints _), vwO (boolG_ints _), trivial⟩ rfl rfl rfl ?_
        rintro v M1 ⟨rs2, ex2, hh2, hx12, hx22, hx32, rfl, rfl⟩
        refine ⟨_, rfl, rfl, ⟨intA_ok, intA_ok, intA_ok, trivial⟩, csrW_ok, rfl, ?_⟩
        conv => whnf
        (try conv => whnf); repeat ((first | (with_reducible first | refine Br.tt ?_ | refine Br.ff ?_ | refine Br.nt ?_ | refine Br.nf ?_) | ((with_reducible refine Br.yk ?_ ?_); omega) | ((with_reducible refine Br.yd ?_ ?_); omega) | ((with_reducible refine Br.nd ?_ ?_); omega) | ((with_reducible refine Br.nyd ?_ ?_); omega) | ((with_reducible refine Br.nnd ?_ ?_); omega) | ((with_reducible refine Br.yd ?_ ?_); decide) | ((with_reducible refine Br.nyd ?_ ?_); decide)); conv => whnf)
        refine VCallF.rd [1, 2, 3, 4, 5, 6, 18, 19, 20, 7, 8] (run_most N' S' T' n A A fst hd rv cp ac bk rs2 ex2 hh2 a w lim) (by decide) (hlt_of rfl) ?_ rfl rfl rfl rfl ?_
        · exact ⟨vwO (intG_ints _), vwO (intG_ints _), vwO (intG_ints _), vwO (intG_ints _), vwO (intG_ints _), vwO (boolG_ints _), intV2 rfl (Nat.le_refl _) fun j _ => rfl, intV2 rfl (Nat.le_refl _) fun j _ => rfl, intV2 rfl (Nat.le_refl _) fun j _ => rfl, listVV (cs0 := crewL N' S' T' n A a w lim 10) rfl rfl, trivial, trivial⟩
        conv => whnf
        (try conv => whnf); repeat ((first | (with_reducible first | refine Br.tt ?_ | refine Br.ff ?_ | refine Br.nt ?_ | refine Br.nf ?_) | ((with_reducible refine Br.yk ?_ ?_); omega) | ((with_reducible refine Br.yd ?_ ?_); omega) | ((with_reducible refine Br.nd ?_ ?_); omega) | ((with_reducible refine Br.nyd ?_ ?_); omega) | ((with_reducible refine Br.nnd ?_ ?_); omega) | ((with_reducible refine Br.yd ?_ ?_); decide) | ((with_reducible refine Br.nyd ?_ ?_); decide)); conv => whnf)
        refine VCallF.rd [1, 2, 3, 4, 5, 6] (crewBad_c N' S' T' n A fst hd rv cp ac bk 0 5 (by omega) (by omega) (by omega) (.inl (by omega))) (by decide) (hlt_of rfl) ?_ rfl rfl rfl rfl ?_
        · exact ⟨vwO (intG_ints _), vwO (intG_ints _), vwO (intG_ints _), vwO (intG_ints _), vwO (intG_ints _), vwO (boolG_ints _), trivial⟩
        conv => whnf
        (try conv => whnf); repeat ((first | (with_reducible first | refine Br.tt ?_ | refine Br.ff ?_ | refine Br.nt ?_ | refine Br.nf ?_) | ((with_reducible refine Br.yk ?_ ?_); omega) | ((with_reducible refine Br.yd ?_ ?_); omega) | ((with_reducible refine Br.nd ?_ ?_); omega) | ((with_reducible refine Br.nyd ?_ ?_); omega) | ((with_reducible refine Br.nnd ?_ ?_); omega) | ((with_reducible refine Br.yd ?_ ?_); decide) | ((with_reducible refine Br.nyd ?_ ?_); decide)); conv => whnf)
        refine VCallF.rd [1, 2, 3, 4, 5, 6] (crewBad_c N' S' T' n A fst hd rv cp ac bk 65 5 (by omega) (by omega) (by omega) (.inr (by omega))) (by decide) (hlt_of rfl) ?_ rfl rfl rfl rfl ?_
        · exact ⟨vwO (intG_ints _), vwO (intG_ints _), vwO (intG_ints _), vwO (intG_ints _), vwO (intG_ints _), vwO (boolG_ints _), trivial⟩
        conv => whnf
        (try conv => whnf); repeat ((first | (with_reducible first | refine Br.tt ?_ | refine Br.ff ?_ | refine Br.nt ?_ | refine Br.nf ?_) | ((with_reducible refine Br.yk ?_ ?_); omega) | ((with_reducible refine Br.yd ?_ ?_); omega) | ((with_reducible refine Br.nd ?_ ?_); omega) | ((with_reducible refine Br.nyd ?_ ?_); omega) | ((with_reducible refine Br.nnd ?_ ?_); omega) | ((with_reducible refine Br.yd ?_ ?_); decide) | ((with_reducible refine Br.nyd ?_ ?_); decide)); conv => whnf)
        refine VCallF.rd [1, 2, 3, 4, 5, 6] (crewLim_c N' S' T' n A fst hd rv cp ac bk 2 0 (by omega) (by omega) (by omega) (by omega) (by omega) (by omega)) (by decide) (hlt_of rfl) ?_ rfl rfl rfl rfl ?_
        · exact ⟨vwO (intG_ints _), vwO (intG_ints _), vwO (intG_ints _), vwO (intG_ints _), vwO (intG_ints _), vwO (boolG_ints _), trivial⟩
        conv => whnf
        (try conv => whnf); repeat ((first | (with_reducible first | refine Br.tt ?_ | refine Br.ff ?_ | refine Br.nt ?_ | refine Br.nf ?_) | ((with_reducible refine Br.yk ?_ ?_); omega) | ((with_reducible refine Br.yd ?_ ?_); omega) | ((with_reducible refine Br.nd ?_ ?_); omega) | ((with_reducible refine Br.nyd ?_ ?_); omega) | ((with_reducible refine Br.nnd ?_ ?_); omega) | ((with_reducible refine Br.yd ?_ ?_); decide) | ((with_reducible refine Br.nyd ?_ ?_); decide)); conv => whnf)
        refine VCallF.rd [1, 2, 3, 4, 5, 6, 12, 13, 14] (unfit_c N' S' T' n A fst hd rv cp ac bk A rs ex (setF hh s (N' - 1)) hn (by omega) (by omega) hRH s tt hs' ht' (by omega) (by omega) hu) (by decide) (hlt_of rfl) ?_ rfl rfl rfl rfl ?_
        · exact ⟨vwO (intG_ints _), vwO (intG_ints _), vwO (intG_ints _), vwO (intG_ints _), vwO (intG_ints _), vwO (boolG_ints _), intV2 rfl (Nat.le_refl _) fun j _ => rfl, intV2 rfl (Nat.le_refl _) fun j _ => rfl, intV2 rfl (Nat.le_refl _) fun j _ => (by show updG (intG _) _ _ j = _; rw [updG_int]), trivial⟩
        conv => whnf
        (try conv => whnf); repeat ((first | (with_reducible first | refine Br.tt ?_ | refine Br.ff ?_ | refine Br.nt ?_ | refine Br.nf ?_) | ((with_reducible refine Br.yk ?_ ?_); omega) | ((with_reducible refine Br.yd ?_ ?_); omega) | ((with_reducible refine Br.nd ?_ ?_); omega) | ((with_reducible refine Br.nyd ?_ ?_); omega) | ((with_reducible refine Br.nnd ?_ ?_); omega) | ((with_reducible refine Br.yd ?_ ?_); decide) | ((with_reducible refine Br.nyd ?_ ?_); decide)); conv => whnf)
        refine VCallF.rd [] hawake (by decide) (hlt_of rfl) ?_ rfl rfl rfl rfl ?_
        · trivial
        conv => whnf
        (try conv => whnf); repeat ((first | (with_reducible first | refine Br.tt ?_ | refine Br.ff ?_ | refine Br.nt ?_ | refine Br.nf ?_) | ((with_reducible refine Br.yk ?_ ?_); omega) | ((with_reducible refine Br.yd ?_ ?_); omega) | ((with_reducible refine Br.nd ?_ ?_); omega) | ((with_reducible refine Br.nyd ?_ ?_); omega) | ((with_reducible refine Br.nnd ?_ ?_); omega) | ((with_reducible refine Br.yd ?_ ?_); decide) | ((with_reducible refine Br.nyd ?_ ?_); decide)); conv => whnf)
        exact VRet.dr [] _ rfl rfl trivial rfl ⟨rfl, rfl⟩
      · conv => whnf
        (try conv => whnf); repeat ((first | (with_reducible first | refine Br.tt ?_ | refine Br.ff ?_ | refine Br.nt ?_ | refine Br.nf ?_) | ((with_reducible refine Br.yk ?_ ?_); omega) | ((with_reducible refine Br.yd ?_ ?_); omega) | ((with_reducible refine Br.nd ?_ ?_); omega) | ((with_reducible refine Br.nyd ?_ ?_); omega) | ((with_reducible refine Br.nnd ?_ ?_); omega) | ((with_reducible refine Br.yd ?_ ?_); decide) | ((with_reducible refine Br.nyd ?_ ?_); decide) | rw [e3] | rw [e4]); conv => whnf)
        have hu : Unfit N' n A (A + 1) s ex hh := .inl (by omega)
        refine VCallF.rd [1, 2, 3, 4, 5, 6, 17, 13, 14, 7, 8] (run_unfit N' S' T' n A (A + 1) fst hd rv cp ac bk (fun j => if j < A then rs j else 0) ex hh a w lim hn (by omega) (by omega) hRH s tt hs' ht' (by omega) (by omega) hu) (by decide) (hlt_of rfl) ?_ rfl rfl rfl rfl ?_
        · exact ⟨vwO (intG_ints _), vwO (intG_ints _), vwO (intG_ints _), vwO (intG_ints _), vwO (intG_ints _), vwO (boolG_ints _), intV2 rfl (by omega) (appOne A rs _ rfl), intV2 rfl (Nat.le_refl _) fun j _ => rfl, intV2 rfl (Nat.le_refl _) fun j _ => rfl, listVV (cs0 := crewL N' S' T' n A a w lim 10) rfl rfl, trivial, trivial⟩
        conv => whnf
        (try conv => whnf); repeat ((first | (with_reducible first | refine Br.tt ?_ | refine Br.ff ?_ | refine Br.nt ?_ | refine Br.nf ?_) | ((with_reducible refine Br.yk ?_ ?_); omega) | ((with_reducible refine Br.yd ?_ ?_); omega) | ((with_reducible refine Br.nd ?_ ?_); omega) | ((with_reducible refine Br.nyd ?_ ?_); omega) | ((with_reducible refine Br.nnd ?_ ?_); omega) | ((with_reducible refine Br.yd ?_ ?_); decide) | ((with_reducible refine Br.nyd ?_ ?_); decide)); conv => whnf)
        refine VCallF.new [1, 2, 3, 4, 5, 6] hcold (by decide) (hlt_of rfl) ⟨vwO (intG_ints _), vwO (intG_ints _), vwO (intG_ints _), vwO (intG_ints _), vwO (intG_ints _), vwO (boolG_ints _), trivial⟩ rfl rfl rfl ?_
        rintro v M1 ⟨rs2, ex2, hh2, hx12, hx22, hx32, rfl, rfl⟩
        refine ⟨_, rfl, rfl, ⟨intA_ok, intA_ok, intA_ok, trivial⟩, csrW_ok, rfl, ?_⟩
        conv => whnf
        (try conv => whnf); repeat ((first | (with_reducible first | refine Br.tt ?_ | refine Br.ff ?_ | refine Br.nt ?_ | refine Br.nf ?_) | ((with_reducible refine Br.yk ?_ ?_); omega) | ((with_reducible refine Br.yd ?_ ?_); omega) | ((with_reducible refine Br.nd ?_ ?_); omega) | ((with_reducible refine Br.nyd ?_ ?_); omega) | ((with_reducible refine Br.nnd ?_ ?_); omega) | ((with_reducible refine Br.yd ?_ ?_); decide) | ((with_reducible refine Br.nyd ?_ ?_); decide)); conv => whnf)
        refine VCallF.rd [1, 2, 3, 4, 5, 6, 20, 21, 22, 7, 8] (run_most N' S' T' n A A fst hd rv cp ac bk rs2 ex2 hh2 a w lim) (by decide) (hlt_of rfl) ?_ rfl rfl rfl rfl ?_
        · exact ⟨vwO (intG_ints _), vwO (intG_ints _), vwO (intG_ints _), vwO (intG_ints _), vwO (intG_ints _), vwO (boolG_ints _), intV2 rfl (Nat.le_refl _) fun j _ => rfl, intV2 rfl (Nat.le_refl _) fun j _ => rfl, intV2 rfl (Nat.le_refl _) fun j _ => rfl, listVV (cs0 := crewL N' S' T' n A a w lim 10) rfl rfl, trivial, trivial⟩
        conv => whnf
        (try conv => whnf); repeat ((first | (with_reducible first | refine Br.tt ?_ | refine Br.ff ?_ | refine Br.nt ?_ | refine Br.nf ?_) | ((with_reducible refine Br.yk ?_ ?_); omega) | ((with_reducible refine Br.yd ?_ ?_); omega) | ((with_reducible refine Br.nd ?_ ?_); omega) | ((with_reducible refine Br.nyd ?_ ?_); omega) | ((with_reducible refine Br.nnd ?_ ?_); omega) | ((with_reducible refine Br.yd ?_ ?_); decide) | ((with_reducible refine Br.nyd ?_ ?_); decide)); conv => whnf)
        refine VCallF.rd [1, 2, 3, 4, 5, 6] (crewBad_c N' S' T' n A fst hd rv cp ac bk 0 5 (by omega) (by omega) (by omega) (.inl (by omega))) (by decide) (hlt_of rfl) ?_ rfl rfl rfl rfl ?_
        · exact ⟨vwO (intG_ints _), vwO (intG_ints _), vwO (intG_ints _), vwO (intG_ints _), vwO (intG_ints _), vwO (boolG_ints _), trivial⟩
        conv => whnf
        (try conv => whnf); repeat ((first | (with_reducible first | refine Br.tt ?_ | refine Br.ff ?_ | refine Br.nt ?_ | refine Br.nf ?_) | ((with_reducible refine Br.yk ?_ ?_); omega) | ((with_reducible refine Br.yd ?_ ?_); omega) | ((with_reducible refine Br.nd ?_ ?_); omega) | ((with_reducible refine Br.nyd ?_ ?_); omega) | ((with_reducible refine Br.nnd ?_ ?_); omega) | ((with_reducible refine Br.yd ?_ ?_); decide) | ((with_reducible refine Br.nyd ?_ ?_); decide)); conv => whnf)
        refine VCallF.rd [1, 2, 3, 4, 5, 6] (crewBad_c N' S' T' n A fst hd rv cp ac bk 65 5 (by omega) (by omega) (by omega) (.inr (by omega))) (by decide) (hlt_of rfl) ?_ rfl rfl rfl rfl ?_
        · exact ⟨vwO (intG_ints _), vwO (intG_ints _), vwO (intG_ints _), vwO (intG_ints _), vwO (intG_ints _), vwO (boolG_ints _), trivial⟩
        conv => whnf
        (try conv => whnf); repeat ((first | (with_reducible first | refine Br.tt ?_ | refine Br.ff ?_ | refine Br.nt ?_ | refine Br.nf ?_) | ((with_reducible refine Br.yk ?_ ?_); omega) | ((with_reducible refine Br.yd ?_ ?_); omega) | ((with_reducible refine Br.nd ?_ ?_); omega) | ((with_reducible refine Br.nyd ?_ ?_); omega) | ((with_reducible refine Br.nnd ?_ ?_); omega) | ((with_reducible refine Br.yd ?_ ?_); decide) | ((with_reducible refine Br.nyd ?_ ?_); decide)); conv => whnf)
        refine VCallF.rd [1, 2, 3, 4, 5, 6] (crewLim_c N' S' T' n A fst hd rv cp ac bk 2 0 (by omega) (by omega) (by omega) (by omega) (by omega) (by omega)) (by decide) (hlt_of rfl) ?_ rfl rfl rfl rfl ?_
        · exact ⟨vwO (intG_ints _), vwO (intG_ints _), vwO (intG_ints _), vwO (intG_ints _), vwO (intG_ints _), vwO (boolG_ints _), trivial⟩
        conv => whnf
        (try conv => whnf); repeat ((first | (with_reducible first | refine Br.tt ?_ | refine Br.ff ?_ | refine Br.nt ?_ | refine Br.nf ?_) | ((with_reducible refine Br.yk ?_ ?_); omega) | ((with_reducible refine Br.yd ?_ ?_); omega) | ((with_reducible refine Br.nd ?_ ?_); omega) | ((with_reducible refine Br.nyd ?_ ?_); omega) | ((with_reducible refine Br.nnd ?_ ?_); omega) | ((with_reducible refine Br.yd ?_ ?_); decide) | ((with_reducible refine Br.nyd ?_ ?_); decide)); conv => whnf)
        refine VCallF.rd [1, 2, 3, 4, 5, 6, 17, 13, 14] (unfit_c N' S' T' n A fst hd rv cp ac bk (A + 1) (fun j => if j < A then rs j else 0) ex hh hn (by omega) (by omega) hRH s tt hs' ht' (by omega) (by omega) hu) (by decide) (hlt_of rfl) ?_ rfl rfl rfl rfl ?_
        · exact ⟨vwO (intG_ints _), vwO (intG_ints _), vwO (intG_ints _), vwO (intG_ints _), vwO (intG_ints _), vwO (boolG_ints _), intV2 rfl (by omega) (appOne A rs _ rfl), intV2 rfl (Nat.le_refl _) fun j _ => rfl, intV2 rfl (Nat.le_refl _) fun j _ => rfl, trivial⟩
        conv => whnf
        (try conv => whnf); repeat ((first | (with_reducible first | refine Br.tt ?_ | refine Br.ff ?_ | refine Br.nt ?_ | refine Br.nf ?_) | ((with_reducible refine Br.yk ?_ ?_); omega) | ((with_reducible refine Br.yd ?_ ?_); omega) | ((with_reducible refine Br.nd ?_ ?_); omega) | ((with_reducible refine Br.nyd ?_ ?_); omega) | ((with_reducible refine Br.nnd ?_ ?_); omega) | ((with_reducible refine Br.yd ?_ ?_); decide) | ((with_reducible refine Br.nyd ?_ ?_); decide)); conv => whnf)
        refine VCallF.rd [] hawake (by decide) (hlt_of rfl) ?_ rfl rfl rfl rfl ?_
        · trivial
        conv => whnf
        (try conv => whnf); repeat ((first | (with_reducible first | refine Br.tt ?_ | refine Br.ff ?_ | refine Br.nt ?_ | refine Br.nf ?_) | ((with_reducible refine Br.yk ?_ ?_); omega) | ((with_reducible refine Br.yd ?_ ?_); omega) | ((with_reducible refine Br.nd ?_ ?_); omega) | ((with_reducible refine Br.nyd ?_ ?_); omega) | ((with_reducible refine Br.nnd ?_ ?_); omega) | ((with_reducible refine Br.yd ?_ ?_); decide) | ((with_reducible refine Br.nyd ?_ ?_); decide)); conv => whnf)
        exact VRet.dr [] _ rfl rfl trivial rfl ⟨rfl, rfl⟩
      · conv => whnf
        (try conv => whnf); repeat ((first | (with_reducible first | refine Br.tt ?_ | refine Br.ff ?_ | refine Br.nt ?_ | refine Br.nf ?_) | ((with_reducible refine Br.yk ?_ ?_); omega) | ((with_reducible refine Br.yd ?_ ?_); omega) | ((with_reducible refine Br.nd ?_ ?_); omega) | ((with_reducible refine Br.nyd ?_ ?_); omega) | ((with_reducible refine Br.nnd ?_ ?_); omega) | ((with_reducible refine Br.yd ?_ ?_); decide) | ((with_reducible refine Br.nyd ?_ ?_); decide) | rw [e3] | rw [e4]); conv => whnf)
        have hu : Unfit N' n A A s ex (setF hh vv (-1)) := .inr ⟨rfl, .inr (.inr ⟨vv, hvv, .inl (by rw [setF_eq]; omega)⟩)⟩
        refine VCallF.rd [1, 2, 3, 4, 5, 6, 12, 13, 14, 7, 8] (run_unfit N' S' T' n A A fst hd rv cp ac bk rs ex (setF hh vv (-1)) a w lim hn (by omega) (by omega) hRH s tt hs' ht' (by omega) (by omega) hu) (by decide) (hlt_of rfl) ?_ rfl rfl rfl rfl ?_
        · exact ⟨vwO (intG_ints _), vwO (intG_ints _), vwO (intG_ints _), vwO (intG_ints _), vwO (intG_ints _), vwO (boolG_ints _), intV2 rfl (Nat.le_refl _) fun j _ => rfl, intV2 rfl (Nat.le_refl _) fun j _ => rfl, intV2 rfl (Nat.le_refl _) fun j _ => (by show updG (intG _) _ _ j = _; rw [updG_int]), listVV (cs0 := crewL N' S' T' n A a w lim 10) rfl rfl, trivial, trivial⟩
        conv => whnf
        (try conv => whnf); repeat ((first | (with_reducible first | refine Br.tt ?_ | refine Br.ff ?_ | refine Br.nt ?_ | refine Br.nf ?_) | ((with_reducible refine Br.yk ?_ ?_); omega) | ((with_reducible refine Br.yd ?_ ?_); omega) | ((with_reducible refine Br.nd ?_ ?_); omega) | ((with_reducible refine Br.nyd ?_ ?_); omega) | ((with_reducible refine Br.nnd ?_ ?_); omega) | ((with_reducible refine Br.yd ?_ ?_); decide) | ((with_reducible refine Br.nyd ?_ ?_); decide)); conv => whnf)
        refine VCallF.new [1, 2, 3, 4, 5, 6] hcold (by decide) (hlt_of rfl) ⟨vwO (intG_ints _), vwO (intG_ints _), vwO (intG_ints _), vwO (intG_ints _), vwO (intG_ints _), vwO (boolG_ints _), trivial⟩ rfl rfl rfl ?_
        rintro v M1 ⟨rs2, ex2, hh2, hx12, hx22, hx32, rfl, rfl⟩
        refine ⟨_, rfl, rfl, ⟨intA_ok, intA_ok, intA_ok, trivial⟩, csrW_ok, rfl, ?_⟩
        conv => whnf
        (try conv => whnf); repeat ((first | (with_reducible first | refine Br.tt ?_ | refine Br.ff ?_ | refine Br.nt ?_ | refine Br.nf ?_) | ((with_reducible refine Br.yk ?_ ?_); omega) | ((with_reducible refine Br.yd ?_ ?_); omega) | ((with_reducible refine Br.nd ?_ ?_); omega) | ((with_reducible refine Br.nyd ?_ ?_); omega) | ((with_reducible refine Br.nnd ?_ ?_); omega) | ((with_reducible refine Br.yd ?_ ?_); decide) | ((with_reducible refine Br.nyd ?_ ?_); decide)); conv => whnf)
        refine VCallF.rd [1, 2, 3, 4, 5, 6, 18, 19, 20, 7, 8] (run_most N' S' T' n A A fst hd rv cp ac bk rs2 ex2 hh2 a w lim) (by decide) (hlt_of rfl) ?_ rfl rfl rfl rfl ?_
        · exact ⟨vwO (intG_ints _), vwO (intG_ints _), vwO (intG_ints _), vwO (intG_ints _), vwO (intG_ints _), vwO (boolG_ints _), intV2 rfl (Nat.le_refl _) fun j _ => rfl, intV2 rfl (Nat.le_refl _) fun j _ => rfl, intV2 rfl (Nat.le_refl _) fun j _ => rfl, listVV (cs0 := crewL N' S' T' n A a w lim 10) rfl rfl, trivial, trivial⟩
        conv => whnf
        (try conv => whnf); repeat ((first | (with_reducible first | refine Br.tt ?_ | refine Br.ff ?_ | refine Br.nt ?_ | refine Br.nf ?_) | ((with_reducible refine Br.yk ?_ ?_); omega) | ((with_reducible refine Br.yd ?_ ?_); omega) | ((with_reducible refine Br.nd ?_ ?_); omega) | ((with_reducible refine Br.nyd ?_ ?_); omega) | ((with_reducible refine Br.nnd ?_ ?_); omega) | ((with_reducible refine Br.yd ?_ ?_); decide) | ((with_reducible refine Br.nyd ?_ ?_); decide)); conv => whnf)
        refine VCallF.rd [1, 2, 3, 4, 5, 6] (crewBad_c N' S' T' n A fst hd rv cp ac bk 0 5 (by omega) (by omega) (by omega) (.inl (by omega))) (by decide) (hlt_of rfl) ?_ rfl rfl rfl rfl ?_
        · exact ⟨vwO (intG_ints _), vwO (intG_ints _), vwO (intG_ints _), vwO (intG_ints _), vwO (intG_ints _), vwO (boolG_ints _), trivial⟩
        conv => whnf
        (try conv => whnf); repeat ((first | (with_reducible first | refine Br.tt ?_ | refine Br.ff ?_ | refine Br.nt ?_ | refine Br.nf ?_) | ((with_reducible refine Br.yk ?_ ?_); omega) | ((with_reducible refine Br.yd ?_ ?_); omega) | ((with_reducible refine Br.nd ?_ ?_); omega) | ((with_reducible refine Br.nyd ?_ ?_); omega) | ((with_reducible refine Br.nnd ?_ ?_); omega) | ((with_reducible refine Br.yd ?_ ?_); decide) | ((with_reducible refine Br.nyd ?_ ?_); decide)); conv => whnf)
        refine VCallF.rd [1, 2, 3, 4, 5, 6] (crewBad_c N' S' T' n A fst hd rv cp ac bk 65 5 (by omega) (by omega) (by omega) (.inr (by omega))) (by decide) (hlt_of rfl) ?_ rfl rfl rfl rfl ?_
        · exact ⟨vwO (intG_ints _), vwO (intG_ints _), vwO (intG_ints _), vwO (intG_ints _), vwO (intG_ints _), vwO (boolG_ints _), trivial⟩
        conv => whnf
        (try conv => whnf); repeat ((first | (with_reducible first | refine Br.tt ?_ | refine Br.ff ?_ | refine Br.nt ?_ | refine Br.nf ?_) | ((with_reducible refine Br.yk ?_ ?_); omega) | ((with_reducible refine Br.yd ?_ ?_); omega) | ((with_reducible refine Br.nd ?_ ?_); omega) | ((with_reducible refine Br.nyd ?_ ?_); omega) | ((with_reducible refine Br.nnd ?_ ?_); omega) | ((with_reducible refine Br.yd ?_ ?_); decide) | ((with_reducible refine Br.nyd ?_ ?_); decide)); conv => whnf)
        refine VCallF.rd [1, 2, 3, 4, 5, 6] (crewLim_c N' S' T' n A fst hd rv cp ac bk 2 0 (by omega) (by omega) (by omega) (by omega) (by omega) (by omega)) (by decide) (hlt_of rfl) ?_ rfl rfl rfl rfl ?_
        · exact ⟨vwO (intG_ints _), vwO (intG_ints _), vwO (intG_ints _), vwO (intG_ints _), vwO (intG_ints _), vwO (boolG_ints _), trivial⟩
        conv => whnf
        (try conv => whnf); repeat ((first | (with_reducible first | refine Br.tt ?_ | refine Br.ff ?_ | refine Br.nt ?_ | refine Br.nf ?_) | ((with_reducible refine Br.yk ?_ ?_); omega) | ((with_reducible refine Br.yd ?_ ?_); omega) | ((with_reducible refine Br.nd ?_ ?_); omega) | ((with_reducible refine Br.nyd ?_ ?_); omega) | ((with_reducible refine Br.nnd ?_ ?_); omega) | ((with_reducible refine Br.yd ?_ ?_); decide) | ((with_reducible refine Br.nyd ?_ ?_); decide)); conv => whnf)
        refine VCallF.rd [1, 2, 3, 4, 5, 6, 12, 13, 14] (unfit_c N' S' T' n A fst hd rv cp ac bk A rs ex (setF hh vv (-1)) hn (by omega) (by omega) hRH s tt hs' ht' (by omega) (by omega) hu) (by decide) (hlt_of rfl) ?_ rfl rfl rfl rfl ?_
        · exact ⟨vwO (intG_ints _), vwO (intG_ints _), vwO (intG_ints _), vwO (intG_ints _), vwO (intG_ints _), vwO (boolG_ints _), intV2 rfl (Nat.le_refl _) fun j _ => rfl, intV2 rfl (Nat.le_refl _) fun j _ => rfl, intV2 rfl (Nat.le_refl _) fun j _ => (by show updG (intG _) _ _ j = _; rw [updG_int]), trivial⟩
        conv => whnf
        (try conv => whnf); repeat ((first | (with_reducible first | refine Br.tt ?_ | refine Br.ff ?_ | refine Br.nt ?_ | refine Br.nf ?_) | ((with_reducible refine Br.yk ?_ ?_); omega) | ((with_reducible refine Br.yd ?_ ?_); omega) | ((with_reducible refine Br.nd ?_ ?_); omega) | ((with_reducible refine Br.nyd ?_ ?_); omega) | ((with_reducible refine Br.nnd ?_ ?_); omega) | ((with_reducible refine Br.yd ?_ ?_); decide) | ((with_reducible refine Br.nyd ?_ ?_); decide)); conv => whnf)
        refine VCallF.rd [] hawake (by decide) (hlt_of rfl) ?_ rfl rfl rfl rfl ?_
        · trivial
        conv => whnf
        (try conv => whnf); repeat ((first | (with_reducible first | refine Br.tt ?_ | refine Br.ff ?_ | refine Br.nt ?_ | refine Br.nf ?_) | ((with_reducible refine Br.yk ?_ ?_); omega) | ((with_reducible refine Br.yd ?_ ?_); omega) | ((with_reducible refine Br.nd ?_ ?_); omega) | ((with_reducible refine Br.nyd ?_ ?_); omega) | ((with_reducible refine Br.nnd ?_ ?_); omega) | ((with_reducible refine Br.yd ?_ ?_); decide) | ((with_reducible refine Br.nyd ?_ ?_); decide)); conv => whnf)
        exact VRet.dr [] _ rfl rfl trivial rfl ⟨rfl, rfl⟩
end Vm
end Go.Proofs.YtcafmkekkcbamaaGreat
