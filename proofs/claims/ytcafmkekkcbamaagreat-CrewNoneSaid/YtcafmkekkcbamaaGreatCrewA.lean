/- A net made right, its row, and a crew. -/
import Derived.Test.YtcafmkekkcbamaaGreatNetB
namespace Go.Proofs.YtcafmkekkcbamaaGreat
open Go.RowKit
namespace Vm
attribute [local irreducible] VCallF VYield VLoop VRet inK
set_option maxRecDepth 100000

def crewB (b : Nat) (N S T : Int) (n A : Nat) (a w limit : Int) (k : Nat) : List Value := csrL N S T n A b ++ layL N a w (roomI N) ++ [.pointer (some ⟨k, 0, none⟩), .int .i64 limit]
def someM (l : Nat) (f t c : Nat → Int) (N S T : Int) (n A : Nat) (fst hd rv cp ac : Nat → Int) (bk : Nat → Bool) (a w limit : Int) (m : Nat) : VMem :=
  arcV l f t c :: csrO n A fst hd rv cp ac bk ++ [VObj.cells (crewB 1 N S T n A a w limit 8) 80, VObj.cells [bankV 9 m] 221, VObj.arr 1 m (intG fun _ => 0) 226, VObj.gone]
theorem some17_c {N S T : Int} {ad : Option Addr} {l k : Nat} (f t c : Nat → Int) (hs : At0 ad l) (hlk : l ≤ k) (hk : k ≤ 9223372036854775807) (hc : ∀ i, i < l → -9223372036854775808 ≤ c i ∧ c i ≤ 9223372036854775807) (w lim : Int) (hw : 0 ≤ w ∧ w ≤ 255) (hlim : 0 ≤ lim ∧ lim ≤ 255) :
    VCalls Tryz.prog 37 [netV N S T ad l k, .int .u8 w, .int .u8 lim] [arcV l f t c] (fun v M' => ∃ (N' S' T' : Int) (n A : Nat) (fst hd rv cp ac : Nat → Int) (bk : Nat → Bool) (a w' lim' : Int) (m : Nat) (ad' : Option Addr) (l' : Nat), RightN 6 N' S' T' ∧ (n : Int) = N' ∧ RowOk N' n A fst hd rv cp ∧ A ≤ 24 ∧
      ((ad' = none ∧ l' = 0) ∨ ad' = some ⟨10, 0, none⟩) ∧ v = .tuple ⟨[netV N' S' T' ad' l' l', .agg ⟨csrL N' S' T' n A 1⟩, .pointer (some ⟨7, 0, none⟩), .bool true]⟩ ∧ M' = someM l f t c N' S' T' n A fst hd rv cp ac bk a w' lim' m) := by
  have hsome := some_c (N := N) (S := S) (T := T) (k := k) f t c hs hlk hk hc 6 12 (by omega) (by omega) (by omega)
  have w1 := tmod_nn (x := w) 4 hw.1
  have w2 := tmod_lt w (n := 4) (by omega)
  have w3 := tmod_nn (x := lim) 40 hlim.1
  have w4 := tmod_lt lim (n := 40) (by omega)
  have hok1 : okN dep 1 (netV N S T ad l k) = true := by rcases hs with ⟨rfl, rfl⟩ | rfl <;> rfl
  have hre : netV N S T ad l k = renN dep [0] (netV N S T ad l k) := by rcases hs with ⟨rfl, rfl⟩ | rfl <;> rfl
  refine VCalls.ok2 f37_ok mixed rfl ?_
  conv => whnf
  refine VCallF.new [0] hsome (by decide) (hlt_of rfl) ⟨arcV_ole _ _ _ _ _, trivial⟩ rfl (by
    show (okN dep 1 (netV N S T ad l k) && _) = true
    rw [hok1]; rfl) (by
    show [netV N S T ad l k, _, _] = [renN dep [0] (netV N S T ad l k), _, _]
    rw [← hre]; rfl) ?_
  rintro v M1 ⟨N', S', T', l', f', t', c', hN, hA, hl', ⟨rfl, rfl, rfl⟩ | ⟨rfl, rfl⟩⟩
  · refine ⟨[], rfl, rfl, trivial, ⟨arcV_ok _ _ _ _ _, trivial⟩, rfl, ?_⟩
    conv => whnf
    obtain ⟨n, hn⟩ : ∃ n : Nat, (n : Int) = N' := ⟨N'.toNat, by have := hN.n2; omega⟩
    refine VCallF.new [0] (make_c (N := N') (S := S') (T := T') (ad := none) (l := 0) (k := 0) f t c 6 n hn (.inl ⟨rfl, rfl⟩) (by omega) (by omega) hN ⟨fun i hi => by omega, fun i hi => by omega, fun i hi => by omega, fun i hi => by omega, fun i hi => by omega, fun i hi => by omega⟩) (by decide) (hlt_of rfl) ⟨⟨Nat.zero_le _, fun i hi => by omega⟩, trivial⟩ rfl rfl rfl ?_
    rintro v M1 ⟨A, fst, hd, rv, cp, ac, bk, hR, hAl, rfl, rfl⟩
    refine ⟨_, rfl, rfl, ⟨intA_ok, intA_ok, intA_ok, intA_ok, intA_ok, boolA_ok, trivial⟩, ⟨arcV_ok _ _ _ _ _, trivial⟩, rfl, ?_⟩
    conv => whnf
    (try conv => whnf); repeat ((first | (with_reducible first | refine Br.tt ?_ | refine Br.ff ?_ | refine Br.nt ?_ | refine Br.nf ?_) | ((with_reducible refine Br.yk ?_ ?_); omega) | ((with_reducible refine Br.yd ?_ ?_); omega) | ((with_reducible refine Br.nd ?_ ?_); omega) | ((with_reducible refine Br.nyd ?_ ?_); omega) | ((with_reducible refine Br.nnd ?_ ?_); omega) | ((with_reducible refine Br.yd ?_ ?_); decide) | ((with_reducible refine Br.nyd ?_ ?_); decide)); conv => whnf)
    refine VCallF.new [4, 5, 6, 7, 8, 9] (crew_c N' S' T' n A fst hd rv cp ac bk (1 + w.tmod 4) (1 + lim.tmod 40) (by have := hN.n2; omega) (by have := hN.nv; omega) (by omega) (by omega) (by omega) (by omega)) (by decide) (hlt_of rfl) ⟨(intG_ints _).ole (.inr ⟨_, _, _, rfl, Nat.le_refl _⟩), (intG_ints _).ole (.inr ⟨_, _, _, rfl, Nat.le_refl _⟩), (intG_ints _).ole (.inr ⟨_, _, _, rfl, Nat.le_refl _⟩), (intG_ints _).ole (.inr ⟨_, _, _, rfl, Nat.le_refl _⟩), (intG_ints _).ole (.inr ⟨_, _, _, rfl, Nat.le_refl _⟩), (boolG_ints _).ole (.inr ⟨_, _, _, rfl, Nat.le_refl _⟩), trivial⟩ rfl rfl rfl ?_
    rintro v M1 ⟨a, m, ha, rfl, rfl⟩
    refine ⟨_, rfl, rfl, ⟨rfl, rfl, intA_ok, trivial⟩, csrW_ok, rfl, ?_⟩
    conv => whnf
    (try conv => whnf); repeat ((first | (with_reducible first | refine Br.tt ?_ | refine Br.ff ?_ | refine Br.nt ?_ | refine Br.nf ?_) | ((with_reducible refine Br.yk ?_ ?_); omega) | ((with_reducible refine Br.yd ?_ ?_); omega) | ((with_reducible refine Br.nd ?_ ?_); omega) | ((with_reducible refine Br.nyd ?_ ?_); omega) | ((with_reducible refine Br.nnd ?_ ?_); omega) | ((with_reducible refine Br.yd ?_ ?_); decide) | ((with_reducible refine Br.nyd ?_ ?_); decide)); conv => whnf)
    refine ⟨rfl, rfl, ?_⟩
    conv => whnf
    refine And.intro (by (conv => whnf); first | rfl | (refine Br.yd (by omega) ?_; rfl)) ?_; (try conv => whnf)
    conv => whnf
    (try conv => whnf); repeat ((first | (with_reducible first | refine Br.tt ?_ | refine Br.ff ?_ | refine Br.nt ?_ | refine Br.nf ?_) | ((with_reducible refine Br.yk ?_ ?_); omega) | ((with_reducible refine Br.yd ?_ ?_); omega) | ((with_reducible refine Br.nd ?_ ?_); omega) | ((with_reducible refine Br.nyd ?_ ?_); omega) | ((with_reducible refine Br.nnd ?_ ?_); omega) | ((with_reducible refine Br.yd ?_ ?_); decide) | ((with_reducible refine Br.nyd ?_ ?_); decide)); conv => whnf)
    refine ⟨rfl, rfl, ?_⟩
    conv => whnf
    (try conv => whnf); repeat ((first | (with_reducible first | refine Br.tt ?_ | refine Br.ff ?_ | refine Br.nt ?_ | refine Br.nf ?_) | ((with_reducible refine Br.yk ?_ ?_); omega) | ((with_reducible refine Br.yd ?_ ?_); omega) | ((with_reducible refine Br.nd ?_ ?_); omega) | ((with_reducible refine Br.nyd ?_ ?_); omega) | ((with_reducible refine Br.nnd ?_ ?_); omega) | ((with_reducible refine Br.yd ?_ ?_); decide) | ((with_reducible refine Br.nyd ?_ ?_); decide)); conv => whnf)
    exact VRet.of (v2 := .tuple ⟨[netV N' S' T' none 0 0, .agg ⟨csrL N' S' T' n A 1⟩, .pointer (some ⟨7, 0, none⟩), .bool true]⟩) (M2 := someM l f t c N' S' T' n A fst hd rv cp ac bk a (1 + w.tmod 4) (1 + lim.tmod 40) m) [0, 4, 5, 6, 7, 8, 9, 11, 12, 13, 1000] (by decide) rfl
      ⟨arcV_ole _ _ _ _ _, intO2 rfl (Nat.le_refl _) fun j _ => rfl, intO2 rfl (Nat.le_refl _) fun j _ => rfl, intO2 rfl (Nat.le_refl _) fun j _ => rfl, intO2 rfl (Nat.le_refl _) fun j _ => rfl, intO2 rfl (Nat.le_refl _) fun j _ => rfl, boolO2 rfl (Nat.le_refl _) fun j _ => rfl, ⟨rfl, rfl, rfl⟩, ⟨rfl, rfl, rfl⟩, intO2 rfl (Nat.le_refl _) fun j _ => rfl, trivial, trivial⟩ rfl rfl
      ⟨N', S', T', n, A, fst, hd, rv, cp, ac, bk, a, 1 + w.tmod 4, 1 + lim.tmod 40, m, none, 0, hN, hn, hR, by omega, .inl ⟨rfl, rfl⟩, rfl, rfl⟩
  · refine ⟨_, rfl, rfl, ⟨(arcG_ints _ _ _).okA, trivial⟩, ⟨arcV_ok _ _ _ _ _, trivial⟩, rfl, ?_⟩
    conv => whnf
    obtain ⟨n, hn⟩ : ∃ n : Nat, (n : Int) = N' := ⟨N'.toNat, by have := hN.n2; omega⟩
    refine VCallF.new [4] (make_c (N := N') (S := S') (T := T') (ad := (some ⟨0, 0, none⟩)) (l := l') (k := l') f' t' c' 6 n hn (.inr rfl) (by omega) (by omega) hN hA) (by decide) (hlt_of rfl) ⟨⟨Nat.le_refl _, fun j _ => ⟨(arcG_ints _ _ _).ok _ _ _, ((arcG_ints _ _ _).ren _ _ _).trans ((arcG_ints _ _ _).ren _ _ _).symm⟩⟩, trivial⟩ rfl rfl rfl ?_
    rintro v M1 ⟨A, fst, hd, rv, cp, ac, bk, hR, hAl, rfl, rfl⟩
    refine ⟨_, rfl, rfl, ⟨intA_ok, intA_ok, intA_ok, intA_ok, intA_ok, boolA_ok, trivial⟩, ⟨arcV_ok _ _ _ _ _, trivial⟩, rfl, ?_⟩
    conv => whnf
    (try conv => whnf); repeat ((first | (with_reducible first | refine Br.tt ?_ | refine Br.ff ?_ | refine Br.nt ?_ | refine Br.nf ?_) | ((with_reducible refine Br.yk ?_ ?_); omega) | ((with_reducible refine Br.yd ?_ ?_); omega) | ((with_reducible refine Br.nd ?_ ?_); omega) | ((with_reducible refine Br.nyd ?_ ?_); omega) | ((with_reducible refine Br.nnd ?_ ?_); omega) | ((with_reducible refine Br.yd ?_ ?_); decide) | ((with_reducible refine Br.nyd ?_ ?_); decide)); conv => whnf)
    refine VCallF.new [5, 6, 7, 8, 9, 10] (crew_c N' S' T' n A fst hd rv cp ac bk (1 + w.tmod 4) (1 + lim.tmod 40) (by have := hN.n2; omega) (by have := hN.nv; omega) (by omega) (by omega) (by omega) (by omega)) (by decide) (hlt_of rfl) ⟨(intG_ints _).ole (.inr ⟨_, _, _, rfl, Nat.le_refl _⟩), (intG_ints _).ole (.inr ⟨_, _, _, rfl, Nat.le_refl _⟩), (intG_ints _).ole (.inr ⟨_, _, _, rfl, Nat.le_refl _⟩), (intG_ints _).ole (.inr ⟨_, _, _, rfl, Nat.le_refl _⟩), (intG_ints _).ole (.inr ⟨_, _, _, rfl, Nat.le_refl _⟩), (boolG_ints _).ole (.inr ⟨_, _, _, rfl, Nat.le_refl _⟩), trivial⟩ rfl rfl rfl ?_
    rintro v M1 ⟨a, m, ha, rfl, rfl⟩
    refine ⟨_, rfl, rfl, ⟨rfl, rfl, intA_ok, trivial⟩, csrW_ok, rfl, ?_⟩
    conv => whnf
    (try conv => whnf); repeat ((first | (with_reducible first | refine Br.tt ?_ | refine Br.ff ?_ | refine Br.nt ?_ | refine Br.nf ?_) | ((with_reducible refine Br.yk ?_ ?_); omega) | ((with_reducible refine Br.yd ?_ ?_); omega) | ((with_reducible refine Br.nd ?_ ?_); omega) | ((with_reducible refine Br.nyd ?_ ?_); omega) | ((with_reducible refine Br.nnd ?_ ?_); omega) | ((with_reducible refine Br.yd ?_ ?_); decide) | ((with_reducible refine Br.nyd ?_ ?_); decide)); conv => whnf)
    refine ⟨rfl, rfl, ?_⟩
    conv => whnf
    refine And.intro (by (conv => whnf); first | rfl | (refine Br.yd (by omega) ?_; rfl)) ?_; (try conv => whnf)
    conv => whnf
    (try conv => whnf); repeat ((first | (with_reducible first | refine Br.tt ?_ | refine Br.ff ?_ | refine Br.nt ?_ | refine Br.nf ?_) | ((with_reducible refine Br.yk ?_ ?_); omega) | ((with_reducible refine Br.yd ?_ ?_); omega) | ((with_reducible refine Br.nd ?_ ?_); omega) | ((with_reducible refine Br.nyd ?_ ?_); omega) | ((with_reducible refine Br.nnd ?_ ?_); omega) | ((with_reducible refine Br.yd ?_ ?_); decide) | ((with_reducible refine Br.nyd ?_ ?_); decide)); conv => whnf)
    refine ⟨rfl, rfl, ?_⟩
    conv => whnf
    (try conv => whnf); repeat ((first | (with_reducible first | refine Br.tt ?_ | refine Br.ff ?_ | refine Br.nt ?_ | refine Br.nf ?_) | ((with_reducible refine Br.yk ?_ ?_); omega) | ((with_reducible refine Br.yd ?_ ?_); omega) | ((with_reducible refine Br.nd ?_ ?_); omega) | ((with_reducible refine Br.nyd ?_ ?_); omega) | ((with_reducible refine Br.nnd ?_ ?_); omega) | ((with_reducible refine Br.yd ?_ ?_); decide) | ((with_reducible refine Br.nyd ?_ ?_); decide)); conv => whnf)
    exact VRet.of (v2 := .tuple ⟨[netV N' S' T' (some ⟨10, 0, none⟩) l' l', .agg ⟨csrL N' S' T' n A 1⟩, .pointer (some ⟨7, 0, none⟩), .bool true]⟩) (M2 := someM l f t c N' S' T' n A fst hd rv cp ac bk a (1 + w.tmod 4) (1 + lim.tmod 40) m) [0, 5, 6, 7, 8, 9, 10, 12, 13, 14, 4] (by decide) rfl
      ⟨arcV_ole _ _ _ _ _, intO2 rfl (Nat.le_refl _) fun j _ => rfl, intO2 rfl (Nat.le_refl _) fun j _ => rfl, intO2 rfl (Nat.le_refl _) fun j _ => rfl, intO2 rfl (Nat.le_refl _) fun j _ => rfl, intO2 rfl (Nat.le_refl _) fun j _ => rfl, boolO2 rfl (Nat.le_refl _) fun j _ => rfl, ⟨rfl, rfl, rfl⟩, ⟨rfl, rfl, rfl⟩, intO2 rfl (Nat.le_refl _) fun j _ => rfl, trivial, trivial⟩ rfl rfl
      ⟨N', S', T', n, A, fst, hd, rv, cp, ac, bk, a, 1 + w.tmod 4, 1 + lim.tmod 40, m, (some ⟨10, 0, none⟩), l', hN, hn, hR, by omega, .inr rfl, rfl, rfl⟩
end Vm
end Go.Proofs.YtcafmkekkcbamaaGreat
namespace Go.Proofs.YtcafmkekkcbamaaGreat
open Go.RowKit
namespace Vm
attribute [local irreducible] VCallF VYield VLoop VRet inK
set_option maxRecDepth 100000

theorem listVV {σ : Sig} {cs cs0 : List Value} {n : Nat} (hok : cs0.all (okN dep σ.length) = true) (he : cs = cs0.map (renN dep σ)) (hn : cs0.length ≤ n := by exact Nat.le_refl _) : OLe σ (some (.view n (listG cs))) (.view cs0.length (listG cs0)) := by
  subst he
  refine ⟨hn, fun i hi => ?_⟩
  have hg : cs0[i]? = some (listG cs0 i) := by unfold listG; rw [List.getD_eq_getElem?_getD, List.getElem?_eq_getElem hi]; rfl
  refine ⟨List.all_eq_true.1 hok _ (List.mem_of_getElem? hg), ?_⟩
  have hm : (cs0.map (renN dep σ))[i]? = some (renN dep σ (listG cs0 i)) := by rw [List.getElem?_map, hg]; rfl
  show (cs0.map (renN dep σ)).getD i undef = _
  rw [List.getD_eq_getElem?_getD, hm]; rfl
theorem listVS {σ : Sig} {cs cs0 : List Value} {X : TypeId} {n : Nat} (hok : cs0.all (okN dep σ.length) = true) (he : cs.take cs0.length = cs0.map (renN dep σ)) (hn : n = cs0.length := by rfl) : OLe σ (some (.cells cs X)) (.view n (listG cs0)) := fun i hi => by
  subst hn
  have hg : cs0[i]? = some (listG cs0 i) := by unfold listG; rw [List.getD_eq_getElem?_getD, List.getElem?_eq_getElem hi]; rfl
  refine ⟨List.all_eq_true.1 hok _ (List.mem_of_getElem? hg), ?_⟩
  have h1 : (cs.take cs0.length)[i]? = cs[i]? := List.getElem?_take_of_lt hi
  rw [← h1, he, List.getElem?_map, hg]; rfl
theorem intV2 {σ : Sig} {o : Option VObj} {g : Nat → Value} {h : Nat → Int} {m n : Nat} {X : TypeId} (ho : o = some (.arr 1 m g X)) (hm : n ≤ m) (hp : ∀ j, j < n → g j = intG h j) : OLe σ o (.view n (intG h)) := by
  subst ho
  exact ⟨hm, fun j hj => ⟨(intG_ints h).ok _ _ _, by rw [(intG_ints h).ren]; exact hp j hj⟩⟩
def noneM (l : Nat) (f t c : Nat → Int) (N S T : Int) (n A : Nat) (fst hd rv cp ac : Nat → Int) (bk : Nat → Bool) (a w lim : Int) : VMem :=
  [arcV l f t c, .view 3 (listG [.int .i64 N, .int .i64 S, .int .i64 T]), .view (n + 1) (intG fst), .view A (intG hd), .view A (intG rv), .view A (intG cp), .view A (intG ac), .view A (boolG bk), .view 25 (listG (crewB 2 N S T n A a w lim 9)), .gone, .view 9 (listG (csrL N S T n A 2)), .view 25 (listG zero25), .view 2 (listG [.pointer none, .pointer (some ⟨11, 0, none⟩)])]
def noneE (z : Int) (at' which : Int) : Env := [(44, .int .i64 z), (43, .int .i64 2), (42, .slice (some ⟨12, 0, none⟩) 2 2), (8, .pointer (some ⟨8, 0, none⟩)), (7, .pointer (some ⟨10, 0, none⟩)), (3, .pointer (some ⟨1, 0, none⟩)), (2, .int .u8 which), (1, .int .u8 at')]
theorem appOne (A : Nat) (rs : Nat → Int) (g : Nat → Value) (hg : g = intG rs) : ∀ j, j < A + 1 → appG (A * 1) g (fun i => ([.int .i64 0] : List Value).getD i undef) j = intG (fun j => if j < A then rs j else 0) j := by
  subst hg
  intro j hj
  unfold appG intG
  by_cases h : j < A
  · have hb : Nat.blt j (A * 1) = true := by rw [Nat.blt_eq]; omega
    rw [hb]
    show Value.int .i64 (rs j) = Value.int .i64 (if j < A then rs j else 0)
    rw [if_pos h]
  · have hb : Nat.blt j (A * 1) = false := by
      cases hx : Nat.blt j (A * 1) with
      | false => rfl
      | true => rw [Nat.blt_eq] at hx; omega
    rw [hb, show j - A * 1 = 0 by omega]
    show Value.int .i64 0 = Value.int .i64 (if j < A then rs j else 0)
    rw [if_neg h]
theorem none_c {N S T : Int} {ad : Option Addr} {l k : Nat} (f t c : Nat → Int) (hs : At0 ad l) (hlk : l ≤ k) (hk : k ≤ 9223372036854775807) (hc : ∀ i, i < l → -9223372036854775808 ≤ c i ∧ c i ≤ 9223372036854775807) (at' which : Int) (hw : 0 ≤ at' ∧ at' ≤ 255) (hlim : 0 ≤ which ∧ which ≤ 255)
    (hawake : VCalls Tryz.prog 24 [] [] (fun v M' => v = .bool true ∧ M' = [])) :
    VCalls Tryz.prog 8 [netV N S T ad l k, .int .u8 at', .int .u8 which] [arcV l f t c] (fun v M' => v = .bool true ∧ M' = [arcV l f t c]) := by
  have hsome := some17_c (N := N) (S := S) (T := T) (k := k) f t c hs hlk hk hc at' which hw hlim
  have hok1 : okN dep 1 (netV N S T ad l k) = true := by rcases hs with ⟨rfl, rfl⟩ | rfl <;> rfl
  have hre : netV N S T ad l k = renN dep [0] (netV N S T ad l k) := by rcases hs with ⟨rfl, rfl⟩ | rfl <;> rfl
  refine VCalls.ok2 f8_ok mixed rfl ?_
  conv => whnf
  refine VCallF.new [0] hsome (by decide) (hlt_of rfl) ⟨arcV_ole _ _ _ _ _, trivial⟩ rfl (by
    show (okN dep 1 (netV N S T ad l k) && _) = true
    rw [hok1]; rfl) (by
    show [netV N S T ad l k, _, _] = [renN dep [0] (netV N S T ad l k), _, _]
    rw [← hre]; rfl) ?_
  rintro v M1 ⟨N', S', T', n, A, fst, hd, rv, cp, ac, bk, a, w, lim, m, ad', l', hN, hn, hR, hA, had, rfl, rfl⟩
  refine ⟨_, rfl, by rcases had with ⟨rfl, rfl⟩ | rfl <;> rfl, ⟨intA_ok, intA_ok, intA_ok, intA_ok, intA_ok, boolA_ok, rfl, rfl, intA_ok, trivial, trivial⟩, ⟨arcV_ok _ _ _ _ _, trivial⟩, rfl, ?_⟩
  have n2 := hN.n2
  have nv := hN.nv
  have s0 := hN.s0
  have sn := hN.sn
  have t0 := hN.t0
  have tn := hN.tn
  obtain ⟨s, hs'⟩ : ∃ s : Nat, (s : Int) = S' := ⟨S'.toNat, by omega⟩
  obtain ⟨tt, ht'⟩ : ∃ s : Nat, (s : Int) = T' := ⟨T'.toNat, by omega⟩
  have hRH : RowH N' n A hd rv cp := ⟨hR.h0, fun j hj => by have := hR.hn j hj; omega, hR.r0, hR.rA, hR.c0, hR.cb⟩
  have hcold := cold_c N' S' T' n A fst hd rv cp ac bk hn (by omega) (by omega) s hs' (by omega) hR
  clear hsome hok1 hre
  rcases had with ⟨rfl, rfl⟩ | rfl
  all_goals
    conv => whnf
    (try conv => whnf); repeat ((first | (with_reducible first | refine Br.tt ?_ | refine Br.ff ?_ | refine Br.nt ?_ | refine Br.nf ?_) | ((with_reducible refine Br.yk ?_ ?_); omega) | ((with_reducible refine Br.yd ?_ ?_); omega) | ((with_reducible refine Br.nd ?_ ?_); omega) | ((with_reducible refine Br.nyd ?_ ?_); omega) | ((with_reducible refine Br.nnd ?_ ?_); omega) | ((with_reducible refine Br.yd ?_ ?_); decide) | ((with_reducible refine Br.nyd ?_ ?_); decide)); conv => whnf)
    refine VLoop.intro (fun m E M => (m = 2 ∧ E = noneE 0 at' which ∨ m = 1 ∧ E = noneE 1 at' which ∨ m = 0 ∧ E = noneE 2 at' which) ∧ M = noneM l f t c N' S' T' n A fst hd rv cp ac bk a w lim) 2 _ _ ⟨.inl ⟨rfl, rfl⟩, rfl⟩ ?_ ?_
    · exact WeakE.of [0, 1, 2, 3, 4, 5, 6, 7, 8, 9, 12, 13, 14] (by decide) rfl ⟨arcV_ole _ _ _ _ _, listVS (cs0 := [.int .i64 N', .int .i64 S', .int .i64 T']) rfl rfl, (intG_ints _).ole (.inr ⟨_, _, _, rfl, Nat.le_refl _⟩), (intG_ints _).ole (.inr ⟨_, _, _, rfl, Nat.le_refl _⟩), (intG_ints _).ole (.inr ⟨_, _, _, rfl, Nat.le_refl _⟩), (intG_ints _).ole (.inr ⟨_, _, _, rfl, Nat.le_refl _⟩), (intG_ints _).ole (.inr ⟨_, _, _, rfl, Nat.le_refl _⟩), (boolG_ints _).ole (.inr ⟨_, _, _, rfl, Nat.le_refl _⟩), listVS (cs0 := crewB 2 N' S' T' n A a w lim 9) rfl rfl, trivial, listVS (cs0 := csrL N' S' T' n A 2) rfl rfl, listVS (cs0 := zero25) rfl rfl, listVS (cs0 := [.pointer none, .pointer (some ⟨11, 0, none⟩)]) rfl rfl, trivial⟩ (by repeat (first | exact trivial | refine ⟨rfl, rfl, ?_⟩))
    rintro m E M ⟨⟨rfl, rfl⟩ | ⟨rfl, rfl⟩ | ⟨rfl, rfl⟩, rfl⟩
    · conv => whnf
      (try conv => whnf); repeat ((first | (with_reducible first | refine Br.tt ?_ | refine Br.ff ?_ | refine Br.nt ?_ | refine Br.nf ?_) | ((with_reducible refine Br.yk ?_ ?_); omega) | ((with_reducible refine Br.yd ?_ ?_); omega) | ((with_reducible refine Br.nd ?_ ?_); omega) | ((with_reducible refine Br.nyd ?_ ?_); omega) | ((with_reducible refine Br.nnd ?_ ?_); omega) | ((with_reducible refine Br.yd ?_ ?_); decide) | ((with_reducible refine Br.nyd ?_ ?_); decide)); conv => whnf)
      refine VCallF.new [2, 3, 4, 5, 6, 7] hcold (by decide) (hlt_of rfl) ⟨vwO (intG_ints _), vwO (intG_ints _), vwO (intG_ints _), vwO (intG_ints _), vwO (intG_ints _), vwO (boolG_ints _), trivial⟩ rfl rfl rfl ?_
      rintro v M1 ⟨rs, ex, hh, hx1, hx2, hx3, rfl, rfl⟩
      refine ⟨_, rfl, rfl, ⟨intA_ok, intA_ok, intA_ok, trivial⟩, csrW_ok, rfl, ?_⟩
      conv => whnf
      refine VCallF.rd [2, 3, 4, 5, 6, 7, 13, 14, 15] (run_nil n A A fst hd rv cp ac bk rs ex hh 10) (by decide) (hlt_of rfl) ?_ rfl rfl rfl rfl ?_
      · exact ⟨vwO (intG_ints _), vwO (intG_ints _), vwO (intG_ints _), vwO (intG_ints _), vwO (intG_ints _), vwO (boolG_ints _), intV2 rfl (Nat.le_refl _) fun j _ => rfl, intV2 rfl (Nat.le_refl _) fun j _ => rfl, intV2 rfl (Nat.le_refl _) fun j _ => rfl, trivial⟩
      conv => whnf
      (try conv => whnf); repeat ((first | (with_reducible first | refine Br.tt ?_ | refine Br.ff ?_ | refine Br.nt ?_ | refine Br.nf ?_) | ((with_reducible refine Br.yk ?_ ?_); omega) | ((with_reducible refine Br.yd ?_ ?_); omega) | ((with_reducible refine Br.nd ?_ ?_); omega) | ((with_reducible refine Br.nyd ?_ ?_); omega) | ((with_reducible refine Br.nnd ?_ ?_); omega) | ((with_reducible refine Br.yd ?_ ?_); decide) | ((with_reducible refine Br.nyd ?_ ?_); decide)); conv => whnf)
      exact ⟨1, _, _, by decide, ⟨.inr (.inl ⟨rfl, rfl⟩), rfl⟩, WeakE.of [0, 1, 2, 3, 4, 5, 6, 7, 8, 9, 10, 11, 12] (by decide) rfl ⟨arcV_ole _ _ _ _ _, listVV (cs0 := [.int .i64 N', .int .i64 S', .int .i64 T']) rfl rfl, vwO (intG_ints _), vwO (intG_ints _), vwO (intG_ints _), vwO (intG_ints _), vwO (intG_ints _), vwO (boolG_ints _), listVV (cs0 := crewB 2 N' S' T' n A a w lim 9) rfl rfl, trivial, listVV (cs0 := csrL N' S' T' n A 2) rfl rfl, listVV (cs0 := zero25) rfl rfl, listVV (cs0 := [.pointer none, .pointer (some ⟨11, 0, none⟩)]) rfl rfl, trivial⟩ (by repeat (first | exact trivial | refine ⟨rfl, rfl, ?_⟩))⟩
    · conv => whnf
      (try conv => whnf); repeat ((first | (with_reducible first | refine Br.tt ?_ | refine Br.ff ?_ | refine Br.nt ?_ | refine Br.nf ?_) | ((with_reducible refine Br.yk ?_ ?_); omega) | ((with_reducible refine Br.yd ?_ ?_); omega) | ((with_reducible refine Br.nd ?_ ?_); omega) | ((with_reducible refine Br.nyd ?_ ?_); omega) | ((with_reducible refine Br.nnd ?_ ?_); omega) | ((with_reducible refine Br.yd ?_ ?_); decide) | ((with_reducible refine Br.nyd ?_ ?_); decide)); conv => whnf)
      refine VCallF.new [2, 3, 4, 5, 6, 7] hcold (by decide) (hlt_of rfl) ⟨vwO (intG_ints _), vwO (intG_ints _), vwO (intG_ints _), vwO (intG_ints _), vwO (intG_ints _), vwO (boolG_ints _), trivial⟩ rfl rfl rfl ?_
      rintro v M1 ⟨rs, ex, hh, hx1, hx2, hx3, rfl, rfl⟩
      refine ⟨_, rfl, rfl, ⟨intA_ok, intA_ok, intA_ok, trivial⟩, csrW_ok, rfl, ?_⟩
      conv => whnf
      refine VCallF.rd [2, 3, 4, 5, 6, 7, 13, 14, 15, 11] (run_empty n A A fst hd rv cp ac bk rs ex hh 10) (by decide) (hlt_of rfl) ?_ rfl rfl rfl rfl ?_
      · exact ⟨vwO (intG_ints _), vwO (intG_ints _), vwO (intG_ints _), vwO (intG_ints _), vwO (intG_ints _), vwO (boolG_ints _), intV2 rfl (Nat.le_refl _) fun j _ => rfl, intV2 rfl (Nat.le_refl _) fun j _ => rfl, intV2 rfl (Nat.le_refl _) fun j _ => rfl, listVV (cs0 := zero25) rfl rfl, trivial⟩
      conv => whnf
      (try conv => whnf); repeat ((first | (with_reducible first | refine Br.tt ?_ | refine Br.ff ?_ | refine Br.nt ?_ | refine Br.nf ?_) | ((with_reducible refine Br.yk ?_ ?_); omega) | ((with_reducible refine Br.yd ?_ ?_); omega) | ((with_reducible refine Br.nd ?_ ?_); omega) | ((with_reducible refine Br.nyd ?_ ?_); omega) | ((with_reducible refine Br.nnd ?_ ?_); omega) | ((with_reducible refine Br.yd ?_ ?_); decide) | ((with_reducible refine Br.nyd ?_ ?_); decide)); conv => whnf)
      exact ⟨0, _, _, by decide, ⟨.inr (.inr ⟨rfl, rfl⟩), rfl⟩, WeakE.of [0, 1, 2, 3, 4, 5, 6, 7, 8, 9, 10, 11, 12] (by decide) rfl ⟨arcV_ole _ _ _ _ _, listVV (cs0 := [.int .i64 N', .int .i64 S', .int .i64 T']) rfl rfl, vwO (intG_ints _), vwO (intG_ints _), vwO (intG_ints _), vwO (intG_ints _), vwO (intG_ints _), vwO (boolG_ints _), listVV (cs0 := crewB 2 N' S' T' n A a w lim 9) rfl rfl, trivial, listVV (cs0 := csrL N' S' T' n A 2) rfl rfl, listVV (cs0 := zero25) rfl rfl, listVV (cs0 := [.pointer none, .pointer (some ⟨11, 0, none⟩)]) rfl rfl, trivial⟩ (by repeat (first | exact trivial | refine ⟨rfl, rfl, ?_⟩))⟩
    · conv => whnf
      (try conv => whnf); repeat ((first | (with_reducible first | refine Br.tt ?_ | refine Br.ff ?_ | refine Br.nt ?_ | refine Br.nf ?_) | ((with_reducible refine Br.yk ?_ ?_); omega) | ((with_reducible refine Br.yd ?_ ?_); omega) | ((with_reducible refine Br.nd ?_ ?_); omega) | ((with_reducible refine Br.nyd ?_ ?_); omega) | ((with_reducible refine Br.nnd ?_ ?_); omega) | ((with_reducible refine Br.yd ?_ ?_); decide) | ((with_reducible refine Br.nyd ?_ ?_); decide)); conv => whnf)
      refine VCallF.new [2, 3, 4, 5, 6, 7] hcold (by decide) (hlt_of rfl) ⟨vwO (intG_ints _), vwO (intG_ints _), vwO (intG_ints _), vwO (intG_ints _), vwO (intG_ints _), vwO (boolG_ints _), trivial⟩ rfl rfl rfl ?_
      rintro v M1 ⟨rs, ex, hh, hx1, hx2, hx3, rfl, rfl⟩
      refine ⟨_, rfl, rfl, ⟨intA_ok, intA_ok, intA_ok, trivial⟩, csrW_ok, rfl, ?_⟩
      conv => whnf
      (try conv => whnf); repeat ((first | (with_reducible first | refine Br.tt ?_ | refine Br.ff ?_ | refine Br.nt ?_ | refine Br.nf ?_) | ((with_reducible refine Br.yk ?_ ?_); omega) | ((with_reducible refine Br.yd ?_ ?_); omega) | ((with_reducible refine Br.nd ?_ ?_); omega) | ((with_reducible refine Br.nyd ?_ ?_); omega) | ((with_reducible refine Br.nnd ?_ ?_); omega) | ((with_reducible refine Br.yd ?_ ?_); decide) | ((with_reducible refine Br.nyd ?_ ?_); decide)); conv => whnf)
      have v1 := tmod_nn (x := at') N' hw.1
      have v2 := tmod_lt at' (n := N') (by omega)
      have q1 := tmod_nn (x := which) 5 hlim.1
      have q2 := tmod_lt which (n := 5) (by omega)
      obtain ⟨vv, hv⟩ : ∃ v : Nat, (v : Int) = at'.tmod N' := ⟨(at'.tmod N').toNat, by omega⟩
      have hvv : vv < n := by omega
      have e3 : 0 + (at'.tmod N').toNat * 1 = vv := by omega
      have e4 : 0 + S'.toNat * 1 = s := by omega
      have hx4 := hx2 vv hvv
      have hq : which.tmod 5 = 0 ∨ which.tmod 5 = 1 ∨ which.tmod 5 = 2 ∨ which.tmod 5 = 3 ∨ which.tmod 5 = 4 := by omega
      rcases hq with hq | hq | hq | hq | hq
      · conv => whnf
        (try conv => whnf); repeat ((first | (with_reducible first | refine Br.tt ?_ | refine Br.ff ?_ | refine Br.nt ?_ | refine Br.nf ?_) | ((with_reducible refine Br.yk ?_ ?_); omega) | ((with_reducible refine Br.yd ?_ ?_); omega) | ((with_reducible refine Br.nd ?_ ?_); omega) | ((with_reducible refine Br.nyd ?_ ?_); omega) | ((with_reducible refine Br.nnd ?_ ?_); omega) | ((with_reducible refine Br.yd ?_ ?_); decide) | ((with_reducible refine Br.nyd ?_ ?_); decide) | rw [e3] | rw [e4]); conv => whnf)
        have hu : Unfit N' n A A s ex (setF hh vv (N' + 1)) := .inr ⟨rfl, .inr (.inr ⟨vv, hvv, .inr (by rw [setF_eq]; omega)⟩)⟩
        refine VCallF.rd [2, 3, 4, 5, 6, 7, 13, 14, 15, 8, 9] (run_unfit N' S' T' n A A fst hd rv cp ac bk rs ex (setF hh vv (N' + 1)) a w lim hn (by omega) (by omega) hRH s tt hs' ht' (by omega) (by omega) hu) (by decide) (hlt_of rfl) ?_ rfl rfl rfl rfl ?_
        · exact ⟨vwO (intG_ints _), vwO (intG_ints _), vwO (intG_ints _), vwO (intG_ints _), vwO (intG_ints _), vwO (boolG_ints _), intV2 rfl (Nat.le_refl _) fun j _ => rfl, intV2 rfl (Nat.le_refl _) fun j _ => rfl, intV2 rfl (Nat.le_refl _) fun j _ => (by show updG (intG _) _ _ j = _; rw [updG_int]), listVV (cs0 := crewL N' S' T' n A a w lim 10) rfl rfl, trivial, trivial⟩
        conv => whnf
        (try conv => whnf); repeat ((first | (with_reducible first | refine Br.tt ?_ | refine Br.ff ?_ | refine Br.nt ?_ | refine Br.nf ?_) | ((with_reducible refine Br.yk ?_ ?_); omega) | ((with_reducible refine Br.yd ?_ ?_); omega) | ((with_reducible refine Br.nd ?_ ?_); omega) | ((with_reducible refine Br.nyd ?_ ?_); omega) | ((with_reducible refine Br.nnd ?_ ?_); omega) | ((with_reducible refine Br.yd ?_ ?_); decide) | ((with_reducible refine Br.nyd ?_ ?_); decide)); conv => whnf)
        refine VCallF.new [2, 3, 4, 5, 6, 7] hcold (by decide) (hlt_of rfl) ⟨vwO (intG_ints _), vwO (intG_ints _), vwO (intG_ints _), vwO (intG_ints _), vwO (intG_ints _), vwO (boolG_ints _), trivial⟩ rfl rfl rfl ?_
        rintro v M1 ⟨rs2, ex2, hh2, hx12, hx22, hx32, rfl, rfl⟩
        refine ⟨_, rfl, rfl, ⟨intA_ok, intA_ok, intA_ok, trivial⟩, csrW_ok, rfl, ?_⟩
        conv => whnf
        (try conv => whnf); repeat ((first | (with_reducible first | refine Br.tt ?_ | refine Br.ff ?_ | refine Br.nt ?_ | refine Br.nf ?_) | ((with_reducible refine Br.yk ?_ ?_); omega) | ((with_reducible refine Br.yd ?_ ?_); omega) | ((with_reducible refine Br.nd ?_ ?_); omega) | ((with_reducible refine Br.nyd ?_ ?_); omega) | ((with_reducible refine Br.nnd ?_ ?_); omega) | ((with_reducible refine Br.yd ?_ ?_); decide) | ((with_reducible refine Br.nyd ?_ ?_); decide)); conv => whnf)
        refine VCallF.rd [2, 3, 4, 5, 6, 7, 19, 20, 21, 8, 9] (run_most N' S' T' n A A fst hd rv cp ac bk rs2 ex2 hh2 a w lim) (by decide) (hlt_of rfl) ?_ rfl rfl rfl rfl ?_
        · exact ⟨vwO (intG_ints _), vwO (intG_ints _), vwO (intG_ints _), vwO (intG_ints _), vwO (intG_ints _), vwO (boolG_ints _), intV2 rfl (Nat.le_refl _) fun j _ => rfl, intV2 rfl (Nat.le_refl _) fun j _ => rfl, intV2 rfl (Nat.le_refl _) fun j _ => rfl, listVV (cs0 := crewL N' S' T' n A a w lim 10) rfl rfl, trivial, trivial⟩
        conv => whnf
        (try conv => whnf); repeat ((first | (with_reducible first | refine Br.tt ?_ | refine Br.ff ?_ | refine Br.nt ?_ | refine Br.nf ?_) | ((with_reducible refine Br.yk ?_ ?_); omega) | ((with_reducible refine Br.yd ?_ ?_); omega) | ((with_reducible refine Br.nd ?_ ?_); omega) | ((with_reducible refine Br.nyd ?_ ?_); omega) | ((with_reducible refine Br.nnd ?_ ?_); omega) | ((with_reducible refine Br.yd ?_ ?_); decide) | ((with_reducible refine Br.nyd ?_ ?_); decide)); conv => whnf)
        refine VCallF.rd [2, 3, 4, 5, 6, 7] (crewBad_c N' S' T' n A fst hd rv cp ac bk 0 5 (by omega) (by omega) (by omega) (.inl (by omega))) (by decide) (hlt_of rfl) ?_ rfl rfl rfl rfl ?_
        · exact ⟨vwO (intG_ints _), vwO (intG_ints _), vwO (intG_ints _), vwO (intG_ints _), vwO (intG_ints _), vwO (boolG_ints _), trivial⟩
        conv => whnf
        (try conv => whnf); repeat ((first | (with_reducible first | refine Br.tt ?_ | refine Br.ff ?_ | refine Br.nt ?_ | refine Br.nf ?_) | ((with_reducible refine Br.yk ?_ ?_); omega) | ((with_reducible refine Br.yd ?_ ?_); omega) | ((with_reducible refine Br.nd ?_ ?_); omega) | ((with_reducible refine Br.nyd ?_ ?_); omega) | ((with_reducible refine Br.nnd ?_ ?_); omega) | ((with_reducible refine Br.yd ?_ ?_); decide) | ((with_reducible refine Br.nyd ?_ ?_); decide)); conv => whnf)
        refine VCallF.rd [2, 3, 4, 5, 6, 7] (crewBad_c N' S' T' n A fst hd rv cp ac bk 65 5 (by omega) (by omega) (by omega) (.inr (by omega))) (by decide) (hlt_of rfl) ?_ rfl rfl rfl rfl ?_
        · exact ⟨vwO (intG_ints _), vwO (intG_ints _), vwO (intG_ints _), vwO (intG_ints _), vwO (intG_ints _), vwO (boolG_ints _), trivial⟩
        conv => whnf
        (try conv => whnf); repeat ((first | (with_reducible first | refine Br.tt ?_ | refine Br.ff ?_ | refine Br.nt ?_ | refine Br.nf ?_) | ((with_reducible refine Br.yk ?_ ?_); omega) | ((with_reducible refine Br.yd ?_ ?_); omega) | ((with_reducible refine Br.nd ?_ ?_); omega) | ((with_reducible refine Br.nyd ?_ ?_); omega) | ((with_reducible refine Br.nnd ?_ ?_); omega) | ((with_reducible refine Br.yd ?_ ?_); decide) | ((with_reducible refine Br.nyd ?_ ?_); decide)); conv => whnf)
        refine VCallF.rd [2, 3, 4, 5, 6, 7] (crewLim_c N' S' T' n A fst hd rv cp ac bk 2 0 (by omega) (by omega) (by omega) (by omega) (by omega) (by omega)) (by decide) (hlt_of rfl) ?_ rfl rfl rfl rfl ?_
        · exact ⟨vwO (intG_ints _), vwO (intG_ints _), vwO (intG_ints _), vwO (intG_ints _), vwO (intG_ints _), vwO (boolG_ints _), trivial⟩
        conv => whnf
        (try conv => whnf); repeat ((first | (with_reducible first | refine Br.tt ?_ | refine Br.ff ?_ | refine Br.nt ?_ | refine Br.nf ?_) | ((with_reducible refine Br.yk ?_ ?_); omega) | ((with_reducible refine Br.yd ?_ ?_); omega) | ((with_reducible refine Br.nd ?_ ?_); omega) | ((with_reducible refine Br.nyd ?_ ?_); omega) | ((with_reducible refine Br.nnd ?_ ?_); omega) | ((with_reducible refine Br.yd ?_ ?_); decide) | ((with_reducible refine Br.nyd ?_ ?_); decide)); conv => whnf)
        refine VCallF.rd [2, 3, 4, 5, 6, 7, 13, 14, 15] (unfit_c N' S' T' n A fst hd rv cp ac bk A rs ex (setF hh vv (N' + 1)) hn (by omega) (by omega) hRH s tt hs' ht' (by omega) (by omega) hu) (by decide) (hlt_of rfl) ?_ rfl rfl rfl rfl ?_
        · exact ⟨vwO (intG_ints _), vwO (intG_ints _), vwO (intG_ints _), vwO (intG_ints _), vwO (intG_ints _), vwO (boolG_ints _), intV2 rfl (Nat.le_refl _) fun j _ => rfl, intV2 rfl (Nat.le_refl _) fun j _ => rfl, intV2 rfl (Nat.le_refl _) fun j _ => (by show updG (intG _) _ _ j = _; rw [updG_int]), trivial⟩
        conv => whnf
        (try conv => whnf); repeat ((first | (with_reducible first | refine Br.tt ?_ | refine Br.ff ?_ | refine Br.nt ?_ | refine Br.nf ?_) | ((with_reducible refine Br.yk ?_ ?_); omega) | ((with_reducible refine Br.yd ?_ ?_); omega) | ((with_reducible refine Br.nd ?_ ?_); omega) | ((with_reducible refine Br.nyd ?_ ?_); omega) | ((with_reducible refine Br.nnd ?_ ?_); omega) | ((with_reducible refine Br.yd ?_ ?_); decide) | ((with_reducible refine Br.nyd ?_ ?_); decide)); conv => whnf)
        refine VCallF.rd [] hawake (by decide) (hlt_of rfl) ?_ rfl rfl rfl rfl ?_
        · trivial
        conv => whnf
        (try conv => whnf); repeat ((first | (with_reducible first | refine Br.tt ?_ | refine Br.ff ?_ | refine Br.nt ?_ | refine Br.nf ?_) | ((with_reducible refine Br.yk ?_ ?_); omega) | ((with_reducible refine Br.yd ?_ ?_); omega) | ((with_reducible refine Br.nd ?_ ?_); omega) | ((with_reducible refine Br.nyd ?_ ?_); omega) | ((with_reducible refine Br.nnd ?_ ?_); omega) | ((with_reducible refine Br.yd ?_ ?_); decide) | ((with_reducible refine Br.nyd ?_ ?_); decide)); conv => whnf)
        exact VRet.dr [_] _ rfl rfl ⟨arcV_ok _ _ _ _ _, trivial⟩ rfl ⟨rfl, rfl⟩
      · conv => whnf
        (try conv => whnf); repeat ((first | (with_reducible first | refine Br.tt ?_ | refine Br.ff ?_ | refine Br.nt ?_ | refine Br.nf ?_) | ((with_reducible refine Br.yk ?_ ?_); omega) | ((with_reducible refine Br.yd ?_ ?_); omega) | ((with_reducible refine Br.nd ?_ ?_); omega) | ((with_reducible refine Br.nyd ?_ ?_); omega) | ((with_reducible refine Br.nnd ?_ ?_); omega) | ((with_reducible refine Br.yd ?_ ?_); decide) | ((with_reducible refine Br.nyd ?_ ?_); decide) | rw [e3] | rw [e4]); conv => whnf)
        have hu : Unfit N' n A A s (setF ex vv (ex vv + 1)) hh := .inr ⟨rfl, .inl (by rw [sumL_set, if_pos hvv, hx1]; omega)⟩
        refine VCallF.rd [2, 3, 4, 5, 6, 7, 13, 14, 15, 8, 9] (run_unfit N' S' T' n A A fst hd rv cp ac bk rs (setF ex vv (ex vv + 1)) hh a w lim hn (by omega) (by omega) hRH s tt hs' ht' (by omega) (by omega) hu) (by decide) (hlt_of rfl) ?_ rfl rfl rfl rfl ?_
        · exact ⟨vwO (intG_ints _), vwO (intG_ints _), vwO (intG_ints _), vwO (intG_ints _), vwO (intG_ints _), vwO (boolG_ints _), intV2 rfl (Nat.le_refl _) fun j _ => rfl, intV2 rfl (Nat.le_refl _) fun j _ => (by show updG (intG _) _ _ j = _; rw [updG_int]), intV2 rfl (Nat.le_refl _) fun j _ => rfl, listVV (cs0 := crewL N' S' T' n A a w lim 10) rfl rfl, trivial, trivial⟩
        conv => whnf
        (try conv => whnf); repeat ((first | (with_reducible first | refine Br.tt ?_ | refine Br.ff ?_ | refine Br.nt ?_ | refine Br.nf ?_) | ((with_reducible refine Br.yk ?_ ?_); omega) | ((with_reducible refine Br.yd ?_ ?_); omega) | ((with_reducible refine Br.nd ?_ ?_); omega) | ((with_reducible refine Br.nyd ?_ ?_); omega) | ((with_reducible refine Br.nnd ?_ ?_); omega) | ((with_reducible refine Br.yd ?_ ?_); decide) | ((with_reducible refine Br.nyd ?_ ?_); decide)); conv => whnf)
        refine VCallF.new [2, 3, 4, 5, 6, 7] hcold (by decide) (hlt_of rfl) ⟨vwO (intG_ints _), vwO (intG_ints _), vwO (intG_ints _), vwO (intG_ints _), vwO (intG_ints _), vwO (boolG_ints _), trivial⟩ rfl rfl rfl ?_
        rintro v M1 ⟨rs2, ex2, hh2, hx12, hx22, hx32, rfl, rfl⟩
        refine ⟨_, rfl, rfl, ⟨intA_ok, intA_ok, intA_ok, trivial⟩, csrW_ok, rfl, ?_⟩
        conv => whnf
        (try conv => whnf); repeat ((first | (with_reducible first | refine Br.tt ?_ | refine Br.ff ?_ | refine Br.nt ?_ | refine Br.nf ?_) | ((with_reducible refine Br.yk ?_ ?_); omega) | ((with_reducible refine Br.yd ?_ ?_); omega) | ((with_reducible refine Br.nd ?_ ?_); omega) | ((with_reducible refine Br.nyd ?_ ?_); omega) | ((with_reducible refine Br.nnd ?_ ?_); omega) | ((with_reducible refine Br.yd ?_ ?_); decide) | ((with_reducible refine Br.nyd ?_ ?_); decide)); conv => whnf)
        refine VCallF.rd [2, 3, 4, 5, 6, 7, 19, 20, 21, 8, 9] (run_most N' S' T' n A A fst hd rv cp ac bk rs2 ex2 hh2 a w lim) (by decide) (hlt_of rfl) ?_ rfl rfl rfl rfl ?_
        · exact ⟨vwO (intG_ints _), vwO (intG_ints _), vwO (intG_ints _), vwO (intG_ints _), vwO (intG_ints _), vwO (boolG_ints _), intV2 rfl (Nat.le_refl _) fun j _ => rfl, intV2 rfl (Nat.le_refl _) fun j _ => rfl, intV2 rfl (Nat.le_refl _) fun j _ => rfl, listVV (cs0 := crewL N' S' T' n A a w lim 10) rfl rfl, trivial, trivial⟩
        conv => whnf
        (try conv => whnf); repeat ((first | (with_reducible first | refine Br.tt ?_ | refine Br.ff ?_ | refine Br.nt ?_ | refine Br.nf ?_) | ((with_reducible refine Br.yk ?_ ?_); omega) | ((with_reducible refine Br.yd ?_ ?_); omega) | ((with_reducible refine Br.nd ?_ ?_); omega) | ((with_reducible refine Br.nyd ?_ ?_); omega) | ((with_reducible refine Br.nnd ?_ ?_); omega) | ((with_reducible refine Br.yd ?_ ?_); decide) | ((with_reducible refine Br.nyd ?_ ?_); decide)); conv => whnf)
        refine VCallF.rd [2, 3, 4, 5, 6, 7] (crewBad_c N' S' T' n A fst hd rv cp ac bk 0 5 (by omega) (by omega) (by omega) (.inl (by omega))) (by decide) (hlt_of rfl) ?_ rfl rfl rfl rfl ?_
        · exact ⟨vwO (intG_ints _), vwO (intG_ints _), vwO (intG_ints _), vwO (intG_ints _), vwO (intG_ints _), vwO (boolG_ints _), trivial⟩
        conv => whnf
        (try conv => whnf); repeat ((first | (with_reducible first | refine Br.tt ?_ | refine Br.ff ?_ | refine Br.nt ?_ | refine Br.nf ?_) | ((with_reducible refine Br.yk ?_ ?_); omega) | ((with_reducible refine Br.yd ?_ ?_); omega) | ((with_reducible refine Br.nd ?_ ?_); omega) | ((with_reducible refine Br.nyd ?_ ?_); omega) | ((with_reducible refine Br.nnd ?_ ?_); omega) | ((with_reducible refine Br.yd ?_ ?_); decide) | ((with_reducible refine Br.nyd ?_ ?_); decide)); conv => whnf)
        refine VCallF.rd [2, 3, 4, 5, 6, 7] (crewBad_c N' S' T' n A fst hd rv cp ac bk 65 5 (by omega) (by omega) (by omega) (.inr (by omega))) (by decide) (hlt_of rfl) ?_ rfl rfl rfl rfl ?_
        · exact ⟨vwO (intG_ints _), vwO (intG_ints _), vwO (intG_ints _), vwO (intG_ints _), vwO (intG_ints _), vwO (boolG_ints _), trivial⟩
        conv => whnf
        (try conv => whnf); repeat ((first | (with_reducible first | refine Br.tt ?_ | refine Br.ff ?_ | refine Br.nt ?_ | refine Br.nf ?_) | ((with_reducible refine Br.yk ?_ ?_); omega) | ((with_reducible refine Br.yd ?_ ?_); omega) | ((with_reducible refine Br.nd ?_ ?_); omega) | ((with_reducible refine Br.nyd ?_ ?_); omega) | ((with_reducible refine Br.nnd ?_ ?_); omega) | ((with_reducible refine Br.yd ?_ ?_); decide) | ((with_reducible refine Br.nyd ?_ ?_); decide)); conv => whnf)
        refine VCallF.rd [2, 3, 4, 5, 6, 7] (crewLim_c N' S' T' n A fst hd rv cp ac bk 2 0 (by omega) (by omega) (by omega) (by omega) (by omega) (by omega)) (by decide) (hlt_of rfl) ?_ rfl rfl rfl rfl ?_
        · exact ⟨vwO (intG_ints _), vwO (intG_ints _), vwO (intG_ints _), vwO (intG_ints _), vwO (intG_ints _), vwO (boolG_ints _), trivial⟩
        conv => whnf
        (try conv => whnf); repeat ((first | (with_reducible first | refine Br.tt ?_ | refine Br.ff ?_ | refine Br.nt ?_ | refine Br.nf ?_) | ((with_reducible refine Br.yk ?_ ?_); omega) | ((with_reducible refine Br.yd ?_ ?_); omega) | ((with_reducible refine Br.nd ?_ ?_); omega) | ((with_reducible refine Br.nyd ?_ ?_); omega) | ((with_reducible refine Br.nnd ?_ ?_); omega) | ((with_reducible refine Br.yd ?_ ?_); decide) | ((with_reducible refine Br.nyd ?_ ?_); decide)); conv => whnf)
        refine VCallF.rd [2, 3, 4, 5, 6, 7, 13, 14, 15] (unfit_c N' S' T' n A fst hd rv cp ac bk A rs (setF ex vv (ex vv + 1)) hh hn (by omega) (by omega) hRH s tt hs' ht' (by omega) (by omega) hu) (by decide) (hlt_of rfl) ?_ rfl rfl rfl rfl ?_
        · exact ⟨vwO (intG_ints _), vwO (intG_ints _), vwO (intG_ints _), vwO (intG_ints _), vwO (intG_ints _), vwO (boolG_ints _), intV2 rfl (Nat.le_refl _) fun j _ => rfl, intV2 rfl (Nat.le_refl _) fun j _ => (by show updG (intG _) _ _ j = _; rw [updG_int]), intV2 rfl (Nat.le_refl _) fun j _ => rfl, trivial⟩
        conv => whnf
        (try conv => whnf); repeat ((first | (with_reducible first | refine Br.tt ?_ | refine Br.ff ?_ | refine Br.nt ?_ | refine Br.nf ?_) | ((with_reducible refine Br.yk ?_ ?_); omega) | ((with_reducible refine Br.yd ?_ ?_); omega) | ((with_reducible refine Br.nd ?_ ?_); omega) | ((with_reducible refine Br.nyd ?_ ?_); omega) | ((with_reducible refine Br.nnd ?_ ?_); omega) | ((with_reducible refine Br.yd ?_ ?_); decide) | ((with_reducible refine Br.nyd ?_ ?_); decide)); conv => whnf)
        refine VCallF.rd [] hawake (by decide) (hlt_of rfl) ?_ rfl rfl rfl rfl ?_
        · trivial
        conv => whnf
        (try conv => whnf); repeat ((first | (with_reducible first | refine Br.tt ?_ | refine Br.ff ?_ | refine Br.nt ?_ | refine Br.nf ?_) | ((with_reducible refine Br.yk ?_ ?_); omega) | ((with_reducible refine Br.yd ?_ ?_); omega) | ((with_reducible refine Br.nd ?_ ?_); omega) | ((with_reducible refine Br.nyd ?_ ?_); omega) | ((with_reducible refine Br.nnd ?_ ?_); omega) | ((with_reducible refine Br.yd ?_ ?_); decide) | ((with_reducible refine Br.nyd ?_ ?_); decide)); conv => whnf)
        exact VRet.dr [_] _ rfl rfl ⟨arcV_ok _ _ _ _ _, trivial⟩ rfl ⟨rfl, rfl⟩
      · conv => whnf
        (try conv => whnf); repeat ((first | (with_reducible first | refine Br.tt ?_ | refine Br.ff ?_ | refine Br.nt ?_ | refine Br.nf ?_) | ((with_reducible refine Br.yk ?_ ?_); omega) | ((with_reducible refine Br.yd ?_ ?_); omega) | ((with_reducible refine Br.nd ?_ ?_); omega) | ((with_reducible refine Br.nyd ?_ ?_); omega) | ((with_reducible refine Br.nnd ?_ ?_); omega) | ((with_reducible refine Br.yd ?_ ?_); decide) | ((with_reducible refine Br.nyd ?_ ?_); decide) | rw [e3] | rw [e4] | rw [hx3]); conv => whnf)
        have hu : Unfit N' n A A s ex (setF hh s (N' - 1)) := .inr ⟨rfl, .inr (.inl (by rw [setF_eq]; omega))⟩
        refine VCallF.rd [2, 3, 4, 5, 6, 7, 13, 14, 15, 8, 9] (run_unfit N' S' T' n A A fst hd rv cp ac bk rs ex (setF hh s (N' - 1)) a w lim hn (by omega) (by omega) hRH s tt hs' ht' (by omega) (by omega) hu) (by decide) (hlt_of rfl) ?_ rfl rfl rfl rfl ?_
        · exact ⟨vwO (intG_ints _), vwO (intG_ints _), vwO (intG_ints _), vwO (intG_ints _), vwO (intG_ints _), vwO (boolG_ints _), intV2 rfl (Nat.le_refl _) fun j _ => rfl, intV2 rfl (Nat.le_refl _) fun j _ => rfl, intV2 rfl (Nat.le_refl _) fun j _ => (by show updG (intG _) _ _ j = _; rw [updG_int]), listVV (cs0 := crewL N' S' T' n A a w lim 10) rfl rfl, trivial, trivial⟩
        conv => whnf
        (try conv => whnf); repeat ((first | (with_reducible first | refine Br.tt ?_ | refine Br.ff ?_ | refine Br.nt ?_ | refine Br.nf ?_) | ((with_reducible refine Br.yk ?_ ?_); omega) | ((with_reducible refine Br.yd ?_ ?_); omega) | ((with_reducible refine Br.nd ?_ ?_); omega) | ((with_reducible refine Br.nyd ?_ ?_); omega) | ((with_reducible refine Br.nnd ?_ ?_); omega) | ((with_reducible refine Br.yd ?_ ?_); decide) | ((with_reducible refine Br.nyd ?_ ?_); decide)); conv => whnf)
        refine VCallF.new [2, 3, 4, 5, 6, 7] hcold (by decide) (hlt_of rfl) ⟨vwO (intG_ints _), vwO (intG_ints _), vwO (intG_ints _), vwO (intG_ints _), vwO (intG_ints _), vwO (boolG_ints _), trivial⟩ rfl rfl rfl ?_
        rintro v M1 ⟨rs2, ex2, hh2, hx12, hx22, hx32, rfl, rfl⟩
        refine ⟨_, rfl, rfl, ⟨intA_ok, intA_ok, intA_ok, trivial⟩, csrW_ok, rfl, ?_⟩
        conv => whnf
        (try conv => whnf); repeat ((first | (with_reducible first | refine Br.tt ?_ | refine Br.ff ?_ | refine Br.nt ?_ | refine Br.nf ?_) | ((with_reducible refine Br.yk ?_ ?_); omega) | ((with_reducible refine Br.yd ?_ ?_); omega) | ((with_reducible refine Br.nd ?_ ?_); omega) | ((with_reducible refine Br.nyd ?_ ?_); omega) | ((with_reducible refine Br.nnd ?_ ?_); omega) | ((with_reducible refine Br.yd ?_ ?_); decide) | ((with_reducible refine Br.nyd ?_ ?_); decide)); conv => whnf)
        refine VCallF.rd [2, 3, 4, 5, 6, 7, 19, 20, 21, 8, 9] (run_most N' S' T' n A A fst hd rv cp ac bk rs2 ex2 hh2 a w lim) (by decide) (hlt_of rfl) ?_ rfl rfl rfl rfl ?_
        · exact ⟨vwO (intG_ints _), vwO (intG_ints _), vwO (intG_ints _), vwO (intG_ints _), vwO (intG_ints _), vwO (boolG_ints _), intV2 rfl (Nat.le_refl _) fun j _ => rfl, intV2 rfl (Nat.le_refl _) fun j _ => rfl, intV2 rfl (Nat.le_refl _) fun j _ => rfl, listVV (cs0 := crewL N' S' T' n A a w lim 10) rfl rfl, trivial, trivial⟩
        conv => whnf
        (try conv => whnf); repeat ((first | (with_reducible first | refine Br.tt ?_ | refine Br.ff ?_ | refine Br.nt ?_ | refine Br.nf ?_) | ((with_reducible refine Br.yk ?_ ?_); omega) | ((with_reducible refine Br.yd ?_ ?_); omega) | ((with_reducible refine Br.nd ?_ ?_); omega) | ((with_reducible refine Br.nyd ?_ ?_); omega) | ((with_reducible refine Br.nnd ?_ ?_); omega) | ((with_reducible refine Br.yd ?_ ?_); decide) | ((with_reducible refine Br.nyd ?_ ?_); decide)); conv => whnf)
        refine VCallF.rd [2, 3, 4, 5, 6, 7] (crewBad_c N' S' T' n A fst hd rv cp ac bk 0 5 (by omega) (by omega) (by omega) (.inl (by omega))) (by decide) (hlt_of rfl) ?_ rfl rfl rfl rfl ?_
        · exact ⟨vwO (intG_ints _), vwO (intG_ints _), vwO (intG_ints _), vwO (intG_ints _), vwO (intG_ints _), vwO (boolG_ints _), trivial⟩
        conv => whnf
        (try conv => whnf); repeat ((first | (with_reducible first | refine Br.tt ?_ | refine Br.ff ?_ | refine Br.nt ?_ | refine Br.nf ?_) | ((with_reducible refine Br.yk ?_ ?_); omega) | ((with_reducible refine Br.yd ?_ ?_); omega) | ((with_reducible refine Br.nd ?_ ?_); omega) | ((with_reducible refine Br.nyd ?_ ?_); omega) | ((with_reducible refine Br.nnd ?_ ?_); omega) | ((with_reducible refine Br.yd ?_ ?_); decide) | ((with_reducible refine Br.nyd ?_ ?_); decide)); conv => whnf)
        refine VCallF.rd [2, 3, 4, 5, 6, 7] (crewBad_c N' S' T' n A fst hd rv cp ac bk 65 5 (by omega) (by omega) (by omega) (.inr (by omega))) (by decide) (hlt_of rfl) ?_ rfl rfl rfl rfl ?_
        · exact ⟨vwO (intG_ints _), vwO (intG_ints _), vwO (intG_ints _), vwO (intG_ints _), vwO (intG_ints _), vwO (boolG_ints _), trivial⟩
        conv => whnf
        (try conv => whnf); repeat ((first | (with_reducible first | refine Br.tt ?_ | refine Br.ff ?_ | refine Br.nt ?_ | refine Br.nf ?_) | ((with_reducible refine Br.yk ?_ ?_); omega) | ((with_reducible refine Br.yd ?_ ?_); omega) | ((with_reducible refine Br.nd ?_ ?_); omega) | ((with_reducible refine Br.nyd ?_ ?_); omega) | ((with_reducible refine Br.nnd ?_ ?_); omega) | ((with_reducible refine Br.yd ?_ ?_); decide) | ((with_reducible refine Br.nyd ?_ ?_); decide)); conv => whnf)
        refine VCallF.rd [2, 3, 4, 5, 6, 7] (crewLim_c N' S' T' n A fst hd rv cp ac bk 2 0 (by omega) (by omega) (by omega) (by omega) (by omega) (by omega)) (by decide) (hlt_of rfl) ?_ rfl rfl rfl rfl ?_
        · exact ⟨vwO (intG_ints _), vwO (intG_ints _), vwO (intG_ints _), vwO (intG_ints _), vwO (intG_ints _), vwO (boolG_ints _), trivial⟩
        conv => whnf
        (try conv => whnf); repeat ((first | (with_reducible first | refine Br.tt ?_ | refine Br.ff ?_ | refine Br.nt ?_ | refine Br.nf ?_) | ((with_reducible refine Br.yk ?_ ?_); omega) | ((with_reducible refine Br.yd ?_ ?_); omega) | ((with_reducible refine Br.nd ?_ ?_); omega) | ((with_reducible refine Br.nyd ?_ ?_); omega) | ((with_reducible refine Br.nnd ?_ ?_); omega) | ((with_reducible refine Br.yd ?_ ?_); decide) | ((with_reducible refine Br.nyd ?_ ?_); decide)); conv => whnf)
        refine VCallF.rd [2, 3, 4, 5, 6, 7, 13, 14, 15] (unfit_c N' S' T' n A fst hd rv cp ac bk A rs ex (setF hh s (N' - 1)) hn (by omega) (by omega) hRH s tt hs' ht' (by omega) (by omega) hu) (by decide) (hlt_of rfl) ?_ rfl rfl rfl rfl ?_
        · exact ⟨vwO (intG_ints _), vwO (intG_ints _), vwO (intG_ints _), vwO (intG_ints _), vwO (intG_ints _), vwO (boolG_ints _), intV2 rfl (Nat.le_refl _) fun j _ => rfl, intV2 rfl (Nat.le_refl _) fun j _ => rfl, intV2 rfl (Nat.le_refl _) fun j _ => (by show updG (intG _) _ _ j = _; rw [updG_int]), trivial⟩
        conv => whnf
        (try conv => whnf); repeat ((first | (with_reducible first | refine Br.tt ?_ | refine Br.ff ?_ | refine Br.nt ?_ | refine Br.nf ?_) | ((with_reducible refine Br.yk ?_ ?_); omega) | ((with_reducible refine Br.yd ?_ ?_); omega) | ((with_reducible refine Br.nd ?_ ?_); omega) | ((with_reducible refine Br.nyd ?_ ?_); omega) | ((with_reducible refine Br.nnd ?_ ?_); omega) | ((with_reducible refine Br.yd ?_ ?_); decide) | ((with_reducible refine Br.nyd ?_ ?_); decide)); conv => whnf)
        refine VCallF.rd [] hawake (by decide) (hlt_of rfl) ?_ rfl rfl rfl rfl ?_
        · trivial
        conv => whnf
        (try conv => whnf); repeat ((first | (with_reducible first | refine Br.tt ?_ | refine Br.ff ?_ | refine Br.nt ?_ | refine Br.nf ?_) | ((with_reducible refine Br.yk ?_ ?_); omega) | ((with_reducible refine Br.yd ?_ ?_); omega) | ((with_reducible refine Br.nd ?_ ?_); omega) | ((with_reducible refine Br.nyd ?_ ?_); omega) | ((with_reducible refine Br.nnd ?_ ?_); omega) | ((with_reducible refine Br.yd ?_ ?_); decide) | ((with_reducible refine Br.nyd ?_ ?_); decide)); conv => whnf)
        exact VRet.dr [_] _ rfl rfl ⟨arcV_ok _ _ _ _ _, trivial⟩ rfl ⟨rfl, rfl⟩
      · conv => whnf
        (try conv => whnf); repeat ((first | (with_reducible first | refine Br.tt ?_ | refine Br.ff ?_ | refine Br.nt ?_ | refine Br.nf ?_) | ((with_reducible refine Br.yk ?_ ?_); omega) | ((with_reducible refine Br.yd ?_ ?_); omega) | ((with_reducible refine Br.nd ?_ ?_); omega) | ((with_reducible refine Br.nyd ?_ ?_); omega) | ((with_reducible refine Br.nnd ?_ ?_); omega) | ((with_reducible refine Br.yd ?_ ?_); decide) | ((with_reducible refine Br.nyd ?_ ?_); decide) | rw [e3] | rw [e4]); conv => whnf)
        have hu : Unfit N' n A (A + 1) s ex hh := .inl (by omega)
        refine VCallF.rd [2, 3, 4, 5, 6, 7, 18, 14, 15, 8, 9] (run_unfit N' S' T' n A (A + 1) fst hd rv cp ac bk (fun j => if j < A then rs j else 0) ex hh a w lim hn (by omega) (by omega) hRH s tt hs' ht' (by omega) (by omega) hu) (by decide) (hlt_of rfl) ?_ rfl rfl rfl rfl ?_
        · exact ⟨vwO (intG_ints _), vwO (intG_ints _), vwO (intG_ints _), vwO (intG_ints _), vwO (intG_ints _), vwO (boolG_ints _), intV2 rfl (by omega) (appOne A rs _ rfl), intV2 rfl (Nat.le_refl _) fun j _ => rfl, intV2 rfl (Nat.le_refl _) fun j _ => rfl, listVV (cs0 := crewL N' S' T' n A a w lim 10) rfl rfl, trivial, trivial⟩
        conv => whnf
        (try conv => whnf); repeat ((first | (with_reducible first | refine Br.tt ?_ | refine Br.ff ?_ | refine Br.nt ?_ | refine Br.nf ?_) | ((with_reducible refine Br.yk ?_ ?_); omega) | ((with_reducible refine Br.yd ?_ ?_); omega) | ((with_reducible refine Br.nd ?_ ?_); omega) | ((with_reducible refine Br.nyd ?_ ?_); omega) | ((with_reducible refine Br.nnd ?_ ?_); omega) | ((with_reducible refine Br.yd ?_ ?_); decide) | ((with_reducible refine Br.nyd ?_ ?_); decide)); conv => whnf)
        refine VCallF.new [2, 3, 4, 5, 6, 7] hcold (by decide) (hlt_of rfl) ⟨vwO (intG_ints _), vwO (intG_ints _), vwO (intG_ints _), vwO (intG_ints _), vwO (intG_ints _), vwO (boolG_ints _), trivial⟩ rfl rfl rfl ?_
        rintro v M1 ⟨rs2, ex2, hh2, hx12, hx22, hx32, rfl, rfl⟩
        refine ⟨_, rfl, rfl, ⟨intA_ok, intA_ok, intA_ok, trivial⟩, csrW_ok, rfl, ?_⟩
        conv => whnf
        (try conv => whnf); repeat ((first | (with_reducible first | refine Br.tt ?_ | refine Br.ff ?_ | refine Br.nt ?_ | refine Br.nf ?_) | ((with_reducible refine Br.yk ?_ ?_); omega) | ((with_reducible refine Br.yd ?_ ?_); omega) | ((with_reducible refine Br.nd ?_ ?_); omega) | ((with_reducible refine Br.nyd ?_ ?_); omega) | ((with_reducible refine Br.nnd ?_ ?_); omega) | ((with_reducible refine Br.yd ?_ ?_); decide) | ((with_reducible refine Br.nyd ?_ ?_); decide)); conv => whnf)
        refine VCallF.rd [2, 3, 4, 5, 6, 7, 21, 22, 23, 8, 9] (run_most N' S' T' n A A fst hd rv cp ac bk rs2 ex2 hh2 a w lim) (by decide) (hlt_of rfl) ?_ rfl rfl rfl rfl ?_
        · exact ⟨vwO (intG_ints _), vwO (intG_ints _), vwO (intG_ints _), vwO (intG_ints _), vwO (intG_ints _), vwO (boolG_ints _), intV2 rfl (Nat.le_refl _) fun j _ => rfl, intV2 rfl (Nat.le_refl _) fun j _ => rfl, intV2 rfl (Nat.le_refl _) fun j _ => rfl, listVV (cs0 := crewL N' S' T' n A a w lim 10) rfl rfl, trivial, trivial⟩
        conv => whnf
        (try conv => whnf); repeat ((first | (with_reducible first | refine Br.tt ?_ | refine Br.ff ?_ | refine Br.nt ?_ | refine Br.nf ?_) | ((with_reducible refine Br.yk ?_ ?_); omega) | ((with_reducible refine Br.yd ?_ ?_); omega) | ((with_reducible refine Br.nd ?_ ?_); omega) | ((with_reducible refine Br.nyd ?_ ?_); omega) | ((with_reducible refine Br.nnd ?_ ?_); omega) | ((with_reducible refine Br.yd ?_ ?_); decide) | ((with_reducible refine Br.nyd ?_ ?_); decide)); conv => whnf)
        refine VCallF.rd [2, 3, 4, 5, 6, 7] (crewBad_c N' S' T' n A fst hd rv cp ac bk 0 5 (by omega) (by omega) (by omega) (.inl (by omega))) (by decide) (hlt_of rfl) ?_ rfl rfl rfl rfl ?_
        · exact ⟨vwO (intG_ints _), vwO (intG_ints _), vwO (intG_ints _), vwO (intG_ints _), vwO (intG_ints _), vwO (boolG_ints _), trivial⟩
        conv => whnf
        (try conv => whnf); repeat ((first | (with_reducible first | refine Br.tt ?_ | refine Br.ff ?_ | refine Br.nt ?_ | refine Br.nf ?_) | ((with_reducible refine Br.yk ?_ ?_); omega) | ((with_reducible refine Br.yd ?_ ?_); omega) | ((with_reducible refine Br.nd ?_ ?_); omega) | ((with_reducible refine Br.nyd ?_ ?_); omega) | ((with_reducible refine Br.nnd ?_ ?_); omega) | ((with_reducible refine Br.yd ?_ ?_); decide) | ((with_reducible refine Br.nyd ?_ ?_); decide)); conv => whnf)
        refine VCallF.rd [2, 3, 4, 5, 6, 7] (crewBad_c N' S' T' n A fst hd rv cp ac bk 65 5 (by omega) (by omega) (by omega) (.inr (by omega))) (by decide) (hlt_of rfl) ?_ rfl rfl rfl rfl ?_
        · exact ⟨vwO (intG_ints _), vwO (intG_ints _), vwO (intG_ints _), vwO (intG_ints _), vwO (intG_ints _), vwO (boolG_ints _), trivial⟩
        conv => whnf
        (try conv => whnf); repeat ((first | (with_reducible first | refine Br.tt ?_ | refine Br.ff ?_ | refine Br.nt ?_ | refine Br.nf ?_) | ((with_reducible refine Br.yk ?_ ?_); omega) | ((with_reducible refine Br.yd ?_ ?_); omega) | ((with_reducible refine Br.nd ?_ ?_); omega) | ((with_reducible refine Br.nyd ?_ ?_); omega) | ((with_reducible refine Br.nnd ?_ ?_); omega) | ((with_reducible refine Br.yd ?_ ?_); decide) | ((with_reducible refine Br.nyd ?_ ?_); decide)); conv => whnf)
        refine VCallF.rd [2, 3, 4, 5, 6, 7] (crewLim_c N' S' T' n A fst hd rv cp ac bk 2 0 (by omega) (by omega) (by omega) (by omega) (by omega) (by omega)) (by decide) (hlt_of rfl) ?_ rfl rfl rfl rfl ?_
        · exact ⟨vwO (intG_ints _), vwO (intG_ints _), vwO (intG_ints _), vwO (intG_ints _), vwO (intG_ints _), vwO (boolG_ints _), trivial⟩
        conv => whnf
        (try conv => whnf); repeat ((first | (with_reducible first | refine Br.tt ?_ | refine Br.ff ?_ | refine Br.nt ?_ | refine Br.nf ?_) | ((with_reducible refine Br.yk ?_ ?_); omega) | ((with_reducible refine Br.yd ?_ ?_); omega) | ((with_reducible refine Br.nd ?_ ?_); omega) | ((with_reducible refine Br.nyd ?_ ?_); omega) | ((with_reducible refine Br.nnd ?_ ?_); omega) | ((with_reducible refine Br.yd ?_ ?_); decide) | ((with_reducible refine Br.nyd ?_ ?_); decide)); conv => whnf)
        refine VCallF.rd [2, 3, 4, 5, 6, 7, 18, 14, 15] (unfit_c N' S' T' n A fst hd rv cp ac bk (A + 1) (fun j => if j < A then rs j else 0) ex hh hn (by omega) (by omega) hRH s tt hs' ht' (by omega) (by omega) hu) (by decide) (hlt_of rfl) ?_ rfl rfl rfl rfl ?_
        · exact ⟨vwO (intG_ints _), vwO (intG_ints _), vwO (intG_ints _), vwO (intG_ints _), vwO (intG_ints _), vwO (boolG_ints _), intV2 rfl (by omega) (appOne A rs _ rfl), intV2 rfl (Nat.le_refl _) fun j _ => rfl, intV2 rfl (Nat.le_refl _) fun j _ => rfl, trivial⟩
        conv => whnf
        (try conv => whnf); repeat ((first | (with_reducible first | refine Br.tt ?_ | refine Br.ff ?_ | refine Br.nt ?_ | refine Br.nf ?_) | ((with_reducible refine Br.yk ?_ ?_); omega) | ((with_reducible refine Br.yd ?_ ?_); omega) | ((with_reducible refine Br.nd ?_ ?_); omega) | ((with_reducible refine Br.nyd ?_ ?_); omega) | ((with_reducible refine Br.nnd ?_ ?_); omega) | ((with_reducible refine Br.yd ?_ ?_); decide) | ((with_reducible refine Br.nyd ?_ ?_); decide)); conv => whnf)
        refine VCallF.rd [] hawake (by decide) (hlt_of rfl) ?_ rfl rfl rfl rfl ?_
        · trivial
        conv => whnf
        (try conv => whnf); repeat ((first | (with_reducible first | refine Br.tt ?_ | refine Br.ff ?_ | refine Br.nt ?_ | refine Br.nf ?_) | ((with_reducible refine Br.yk ?_ ?_); omega) | ((with_reducible refine Br.yd ?_ ?_); omega) | ((with_reducible refine Br.nd ?_ ?_); omega) | ((with_reducible refine Br.nyd ?_ ?_); omega) | ((with_reducible refine Br.nnd ?_ ?_); omega) | ((with_reducible refine Br.yd ?_ ?_); decide) | ((with_reducible refine Br.nyd ?_ ?_); decide)); conv => whnf)
        exact VRet.dr [_] _ rfl rfl ⟨arcV_ok _ _ _ _ _, trivial⟩ rfl ⟨rfl, rfl⟩
      · conv => whnf
        (try conv => whnf); repeat ((first | (with_reducible first | refine Br.tt ?_ | refine Br.ff ?_ | refine Br.nt ?_ | refine Br.nf ?_) | ((with_reducible refine Br.yk ?_ ?_); omega) | ((with_reducible refine Br.yd ?_ ?_); omega) | ((with_reducible refine Br.nd ?_ ?_); omega) | ((with_reducible refine Br.nyd ?_ ?_); omega) | ((with_reducible refine Br.nnd ?_ ?_); omega) | ((with_reducible refine Br.yd ?_ ?_); decide) | ((with_reducible refine Br.nyd ?_ ?_); decide) | rw [e3] | rw [e4]); conv => whnf)
        have hu : Unfit N' n A A s ex (setF hh vv (-1)) := .inr ⟨rfl, .inr (.inr ⟨vv, hvv, .inl (by rw [setF_eq]; omega)⟩)⟩
        refine VCallF.rd [2, 3, 4, 5, 6, 7, 13, 14, 15, 8, 9] (run_unfit N' S' T' n A A fst hd rv cp ac bk rs ex (setF hh vv (-1)) a w lim hn (by omega) (by omega) hRH s tt hs' ht' (by omega) (by omega) hu) (by decide) (hlt_of rfl) ?_ rfl rfl rfl rfl ?_
        · exact ⟨vwO (intG_ints _), vwO (intG_ints _), vwO (intG_ints _), vwO (intG_ints _), vwO (intG_ints _), vwO (boolG_ints _), intV2 rfl (Nat.le_refl _) fun j _ => rfl, intV2 rfl (Nat.le_refl _) fun j _ => rfl, intV2 rfl (Nat.le_refl _) fun j _ => (by show updG (intG _) _ _ j = _; rw [updG_int]), listVV (cs0 := crewL N' S' T' n A a w lim 10) rfl rfl, trivial, trivial⟩
        conv => whnf
        (try conv => whnf); repeat ((first | (with_reducible first | refine Br.tt ?_ | refine Br.ff ?_ | refine Br.nt ?_ | refine Br.nf ?_) | ((with_reducible refine Br.yk ?_ ?_); omega) | ((with_reducible refine Br.yd ?_ ?_); omega) | ((with_reducible refine Br.nd ?_ ?_); omega) | ((with_reducible refine Br.nyd ?_ ?_); omega) | ((with_reducible refine Br.nnd ?_ ?_); omega) | ((with_reducible refine Br.yd ?_ ?_); decide) | ((with_reducible refine Br.nyd ?_ ?_); decide)); conv => whnf)
        refine VCallF.new [2, 3, 4, 5, 6, 7] hcold (by decide) (hlt_of rfl) ⟨vwO (intG_ints _), vwO (intG_ints _), vwO (intG_ints _), vwO (intG_ints _), vwO (intG_ints _), vwO (boolG_ints _), trivial⟩ rfl rfl rfl ?_
        rintro v M1 ⟨rs2, ex2, hh2, hx12, hx22, hx32, rfl, rfl⟩
        refine ⟨_, rfl, rfl, ⟨intA_ok, intA_ok, intA_ok, trivial⟩, csrW_ok, rfl, ?_⟩
        conv => whnf
        (try conv => whnf); repeat ((first | (with_reducible first | refine Br.tt ?_ | refine Br.ff ?_ | refine Br.nt ?_ | refine Br.nf ?_) | ((with_reducible refine Br.yk ?_ ?_); omega) | ((with_reducible refine Br.yd ?_ ?_); omega) | ((with_reducible refine Br.nd ?_ ?_); omega) | ((with_reducible refine Br.nyd ?_ ?_); omega) | ((with_reducible refine Br.nnd ?_ ?_); omega) | ((with_reducible refine Br.yd ?_ ?_); decide) | ((with_reducible refine Br.nyd ?_ ?_); decide)); conv => whnf)
        refine VCallF.rd [2, 3, 4, 5, 6, 7, 19, 20, 21, 8, 9] (run_most N' S' T' n A A fst hd rv cp ac bk rs2 ex2 hh2 a w lim) (by decide) (hlt_of rfl) ?_ rfl rfl rfl rfl ?_
        · exact ⟨vwO (intG_ints _), vwO (intG_ints _), vwO (intG_ints _), vwO (intG_ints _), vwO (intG_ints _), vwO (boolG_ints _), intV2 rfl (Nat.le_refl _) fun j _ => rfl, intV2 rfl (Nat.le_refl _) fun j _ => rfl, intV2 rfl (Nat.le_refl _) fun j _ => rfl, listVV (cs0 := crewL N' S' T' n A a w lim 10) rfl rfl, trivial, trivial⟩
        conv => whnf
        (try conv => whnf); repeat ((first | (with_reducible first | refine Br.tt ?_ | refine Br.ff ?_ | refine Br.nt ?_ | refine Br.nf ?_) | ((with_reducible refine Br.yk ?_ ?_); omega) | ((with_reducible refine Br.yd ?_ ?_); omega) | ((with_reducible refine Br.nd ?_ ?_); omega) | ((with_reducible refine Br.nyd ?_ ?_); omega) | ((with_reducible refine Br.nnd ?_ ?_); omega) | ((with_reducible refine Br.yd ?_ ?_); decide) | ((with_reducible refine Br.nyd ?_ ?_); decide)); conv => whnf)
        refine VCallF.rd [2, 3, 4, 5, 6, 7] (crewBad_c N' S' T' n A fst hd rv cp ac bk 0 5 (by omega) (by omega) (by omega) (.inl (by omega))) (by decide) (hlt_of rfl) ?_ rfl rfl rfl rfl ?_
        · exact ⟨vwO (intG_ints _), vwO (intG_ints _), vwO (intG_ints _), vwO (intG_ints _), vwO (intG_ints _), vwO (boolG_ints _), trivial⟩
        conv => whnf
        (try conv => whnf); repeat ((first | (with_reducible first | refine Br.tt ?_ | refine Br.ff ?_ | refine Br.nt ?_ | refine Br.nf ?_) | ((with_reducible refine Br.yk ?_ ?_); omega) | ((with_reducible refine Br.yd ?_ ?_); omega) | ((with_reducible refine Br.nd ?_ ?_); omega) | ((with_reducible refine Br.nyd ?_ ?_); omega) | ((with_reducible refine Br.nnd ?_ ?_); omega) | ((with_reducible refine Br.yd ?_ ?_); decide) | ((with_reducible refine Br.nyd ?_ ?_); decide)); conv => whnf)
        refine VCallF.rd [2, 3, 4, 5, 6, 7] (crewBad_c N' S' T' n A fst hd rv cp ac bk 65 5 (by omega) (by omega) (by omega) (.inr (by omega))) (by decide) (hlt_of rfl) ?_ rfl rfl rfl rfl ?_
        · exact ⟨vwO (intG_ints _), vwO (intG_ints _), vwO (intG_ints _), vwO (intG_ints _), vwO (intG_ints _), vwO (boolG_ints _), trivial⟩
        conv => whnf
        (try conv => whnf); repeat ((first | (with_reducible first | refine Br.tt ?_ | refine Br.ff ?_ | refine Br.nt ?_ | refine Br.nf ?_) | ((with_reducible refine Br.yk ?_ ?_); omega) | ((with_reducible refine Br.yd ?_ ?_); omega) | ((with_reducible refine Br.nd ?_ ?_); omega) | ((with_reducible refine Br.nyd ?_ ?_); omega) | ((with_reducible refine Br.nnd ?_ ?_); omega) | ((with_reducible refine Br.yd ?_ ?_); decide) | ((with_reducible refine Br.nyd ?_ ?_); decide)); conv => whnf)
        refine VCallF.rd [2, 3, 4, 5, 6, 7] (crewLim_c N' S' T' n A fst hd rv cp ac bk 2 0 (by omega) (by omega) (by omega) (by omega) (by omega) (by omega)) (by decide) (hlt_of rfl) ?_ rfl rfl rfl rfl ?_
        · exact ⟨vwO (intG_ints _), vwO (intG_ints _), vwO (intG_ints _), vwO (intG_ints _), vwO (intG_ints _), vwO (boolG_ints _), trivial⟩
        conv => whnf
        (try conv => whnf); repeat ((first | (with_reducible first | refine Br.tt ?_ | refine Br.ff ?_ | refine Br.nt ?_ | refine Br.nf ?_) | ((with_reducible refine Br.yk ?_ ?_); omega) | ((with_reducible refine Br.yd ?_ ?_); omega) | ((with_reducible refine Br.nd ?_ ?_); omega) | ((with_reducible refine Br.nyd ?_ ?_); omega) | ((with_reducible refine Br.nnd ?_ ?_); omega) | ((with_reducible refine Br.yd ?_ ?_); decide) | ((with_reducible refine Br.nyd ?_ ?_); decide)); conv => whnf)
        refine VCallF.rd [2, 3, 4, 5, 6, 7, 13, 14, 15] (unfit_c N' S' T' n A fst hd rv cp ac bk A rs ex (setF hh vv (-1)) hn (by omega) (by omega) hRH s tt hs' ht' (by omega) (by omega) hu) (by decide) (hlt_of rfl) ?_ rfl rfl rfl rfl ?_
        · exact ⟨vwO (intG_ints _), vwO (intG_ints _), vwO (intG_ints _), vwO (intG_ints _), vwO (intG_ints _), vwO (boolG_ints _), intV2 rfl (Nat.le_refl _) fun j _ => rfl, intV2 rfl (Nat.le_refl _) fun j _ => rfl, intV2 rfl (Nat.le_refl _) fun j _ => (by show updG (intG _) _ _ j = _; rw [updG_int]), trivial⟩
        conv => whnf
        (try conv => whnf); repeat ((first | (with_reducible first | refine Br.tt ?_ | refine Br.ff ?_ | refine Br.nt ?_ | refine Br.nf ?_) | ((with_reducible refine Br.yk ?_ ?_); omega) | ((with_reducible refine Br.yd ?_ ?_); omega) | ((with_reducible refine Br.nd ?_ ?_); omega) | ((with_reducible refine Br.nyd ?_ ?_); omega) | ((with_reducible refine Br.nnd ?_ ?_); omega) | ((with_reducible refine Br.yd ?_ ?_); decide) | ((with_reducible refine Br.nyd ?_ ?_); decide)); conv => whnf)
        refine VCallF.rd [] hawake (by decide) (hlt_of rfl) ?_ rfl rfl rfl rfl ?_
        · trivial
        conv => whnf
        (try conv => whnf); repeat ((first | (with_reducible first | refine Br.tt ?_ | refine Br.ff ?_ | refine Br.nt ?_ | refine Br.nf ?_) | ((with_reducible refine Br.yk ?_ ?_); omega) | ((with_reducible refine Br.yd ?_ ?_); omega) | ((with_reducible refine Br.nd ?_ ?_); omega) | ((with_reducible refine Br.nyd ?_ ?_); omega) | ((with_reducible refine Br.nnd ?_ ?_); omega) | ((with_reducible refine Br.yd ?_ ?_); decide) | ((with_reducible refine Br.nyd ?_ ?_); decide)); conv => whnf)
        exact VRet.dr [_] _ rfl rfl ⟨arcV_ok _ _ _ _ _, trivial⟩ rfl ⟨rfl, rfl⟩
end Vm
end Go.Proofs.YtcafmkekkcbamaaGreat
