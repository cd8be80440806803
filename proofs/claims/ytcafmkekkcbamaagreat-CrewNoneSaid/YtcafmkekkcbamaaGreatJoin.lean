/- What a law's statement asks, where the law writes nothing that it was handed: in general. -/
import Derived.Test.YtcafmkekkcbamaaGreatMachB
import Derived.ProofKit
import Derived.Deep.Slices
import Derived.ReadAgain
import Derived.Test.YtcafmkekkcbamaaGreatNetA
namespace Go.Proofs.YtcafmkekkcbamaaGreat
open Go.RowKit Go.ChangeShapes Go.WideShapes Go.ChangeAt
namespace Vm

theorem trodAll_carry {H : Type} {enc : TypeId × Value → H} {P : Program} {w w' : World} {base : Nat} {sp : Nat → Bool} {held : Bool} : ∀ {ts : List TypeId} {vs : List Value} {ds : List (DataW H)} {ps : List MemPlace},
    DataW.TrodAll enc P w base sp held ts vs ds ps → (∀ p ∈ ps, w.sameAt w' p) → DataW.TrodAll enc P w' base sp held ts vs ds ps
  | [], [], [], _, h, _ => h
  | _ :: _, _ :: _, _ :: _, _, ⟨p, q, ⟨n, h1⟩, h2, e⟩, hs =>
    ⟨p, q, ⟨n, DataW.trod_carry n _ _ _ h1 fun x hx => hs x (by rw [e]; exact List.mem_append_left _ hx)⟩, trodAll_carry h2 (fun x hx => hs x (by rw [e]; exact List.mem_append_right _ hx)), e⟩

/-- What is asked behind a law that answers true and writes nothing that was there. -/
theorem post_true {H : Type} {enc : TypeId × Value → H} {P : Program} {f : Func} {s : ChangeSpec} {W W' : World} {args : Array Value} {ds : List (DataW H)} {before : List MemPlace} {tb : TypeId}
    (kids : Kids P (· < P.types.size)) (full : ∀ t e, t < P.types.size → P.underlying t = some (.slice e) → 0 < P.cellsOf e) (hT : ∀ t ∈ f.params.toList, t < P.types.size) (hb : P.underlying tb = some .bool) (hrt : f.resultTypes = #[tb]) (hvars : s.vars = [])
    (hfn : s.fn H ds = { results := [.lit (.bool true)], args := ds }) (hW : DataW.Whole enc P f.params.toList s.vars false W args.toList ds [] before)
    (hos : W'.os = W.os) (hout : W'.output = W.output) (hheap : ∀ b, b < W.heap.size → W'.heap[b]? = W.heap[b]?) : s.post enc P f false true false false W args (.bool true) W' := by
  have hlt : ∀ p ∈ before, p.block < W.heap.size := fun p hp => hW.lt p hp
  have hW' := hW
  obtain ⟨p, q, hA, hV, rfl, hz, _⟩ := hW
  rw [hvars] at hV
  obtain ⟨_, rfl⟩ := trodVars_none hV
  have hsame : ∀ x ∈ p ++ [], W.sameAt W' x := fun x hx => by
    have hl := hlt x hx
    cases x with
    | cell b off =>
      show W'.cell? ⟨b, off, none⟩ = W.cell? ⟨b, off, none⟩
      have : b < W.heap.size := hl
      unfold World.cell?
      rw [hheap b this]
    | map b => exact hheap b hl
  rw [List.append_nil] at hsame hlt
  have hds : s.fn H (ds ++ []) = { results := [.lit (.bool true)], args := ds } := by rw [List.append_nil]; exact hfn
  refine ⟨ds, [], p ++ [], [], p, [], hW', ?_, ?_, ?_, ?_, fun h => by cases h⟩
  · rw [hds, hrt]
    exact trodAll_mk1 ⟨1, by unfold DataW.trod; rw [hb]; rfl⟩
  · rw [hds]
    exact trodAll_carry (DataW.TrodAll.respare kids full hT hA fun x hx => by simpa using hlt x hx) hsame
  · rw [hds, hvars]; rfl
  · refine ⟨hos, hout, fun i hi => ?_⟩
    rw [hheap i hi]
    split
    · rename_i h1 h2
      rw [h1] at h2; cases h2
      exact ⟨rfl, rfl, rfl, fun _ _ => rfl⟩
    · rename_i h1 h2
      rw [h1] at h2; cases h2
      exact .inr ⟨rfl, rfl⟩
    · rfl

/-- A net that is handed in. -/
theorem open_net {H : Type} {enc : TypeId × Value → H} {P : Program} {W : World} {tn ti tl ts te : TypeId} {f0 f1 f2 f3 g0 g1 g2 : Field} (hu : P.underlying tn = some (.struct #[f0, f1, f2, f3])) (hf : [f0.type, f1.type, f2.type, f3.type] = [ti, ti, ti, ts] ∧ [f0.offset, f1.offset, f2.offset, f3.offset] = [0, 1, 2, 3])
    (hi : P.underlying ti = some (.int .i64)) (hl : P.underlying tl = some (.int .i64)) (hs : P.underlying ts = some (.slice te)) (he : P.underlying te = some (.struct #[g0, g1, g2])) (hg : [g0.type, g1.type, g2.type] = [ti, ti, tl] ∧ [g0.offset, g1.offset, g2.offset] = [0, 1, 2])
    (hc : [P.cellsOf tn, P.cellsOf ti, P.cellsOf tl, P.cellsOf ts, P.cellsOf te] = [4, 1, 1, 1, 3]) (hct : P.cellTypes P.depth tn = some [ti, ti, ti, ts]) {v : Value} {d : DataW H} {p : List MemPlace} {b0 : Nat} (hval : Value.okWide P W .any b0 tn v) (h : DataW.Trod enc P W 0 (fun _ => true) true tn v d p) :
    ∃ (N S T : Int) (x : Value), v = .agg #[.int .i64 N, .int .i64 S, .int .i64 T, x] ∧
      ((x = .slice none 0 0) ∨ ∃ (a : Addr) (len cap : Nat) (f t c : Nat → Int) (cs : Array Value) (X : TypeId) (fr : Nat × Nat), x = .slice (some a) len cap ∧ a.spot = none ∧ len ≤ cap ∧ cap ≤ 9223372036854775807 ∧ W.heap[a.block]? = some (.cells cs X fr) ∧
        (∀ i, i < len → cs[a.off + i * 3]? = some (.int .i64 (f i)) ∧ cs[a.off + i * 3 + 1]? = some (.int .i64 (t i)) ∧ cs[a.off + i * 3 + 2]? = some (.int .i64 (c i))) ∧ ∀ i, i < len → -9223372036854775808 ≤ c i ∧ c i ≤ 9223372036854775807) := by
  simp only [List.cons.injEq, and_true] at hf hg hc
  obtain ⟨⟨ht0, ht1, ht2, ht3⟩, ho0, ho1, ho2, ho3⟩ := hf
  obtain ⟨⟨gt0, gt1, gt2⟩, go0, go1, go2⟩ := hg
  obtain ⟨cn, ci, cl, cts, cte⟩ := hc
  unfold Value.okWide at hval
  rw [hu] at hval
  obtain ⟨cs, rfl, hsz, tys, htys, _, hcell⟩ := hval
  rw [hct] at htys
  cases htys
  obtain ⟨fuel, hf0⟩ := h
  obtain ⟨xs, n, rfl, _, hlen, hxl, hfld⟩ := DataW.trod_struct hu hf0
  have hl4 : cs.toList.length = 4 := by simpa [cn] using hsz
  obtain ⟨cs⟩ := cs
  have hcs : ∃ a b c x, cs = [a, b, c, x] := by
    match cs, hl4 with
    | [a, b, c, x], _ => exact ⟨a, b, c, x, rfl⟩
  obtain ⟨a, b, c, x, rfl⟩ := hcs
  have hx : ∀ i, i < 4 → ∃ y, xs[i]? = some y := fun i hi' => ⟨xs[i]'(by rw [hxl]; exact hi'), List.getElem?_eq_getElem _⟩
  obtain ⟨y0, hy0⟩ := hx 0 (by omega)
  obtain ⟨y1, hy1⟩ := hx 1 (by omega)
  obtain ⟨y2, hy2⟩ := hx 2 (by omega)
  obtain ⟨y3, hy3⟩ := hx 3 (by omega)
  have k0 := hfld 0 f0 rfl
  have k1 := hfld 1 f1 rfl
  have k2 := hfld 2 f2 rfl
  have k3 := hfld 3 f3 rfl
  rw [hy0, ht0, ho0, ci] at k0
  rw [hy1, ht1, ho1, ci] at k1
  rw [hy2, ht2, ho2, ci] at k2
  rw [hy3, ht3, ho3, cts] at k3
  obtain ⟨N, e0, _, _⟩ := DataW.trod_int hi k0
  obtain ⟨S, e1, _, _⟩ := DataW.trod_int hi k1
  obtain ⟨T, e2, _, _⟩ := DataW.trod_int hi k2
  have we0 : a = .int .i64 N := (List.cons.inj (show [a] = [.int .i64 N] from e0)).1
  have we1 : b = .int .i64 S := (List.cons.inj (show [b] = [.int .i64 S] from e1)).1
  have we2 : c = .int .i64 T := (List.cons.inj (show [c] = [.int .i64 T] from e2)).1
  clear k0 k1 k2 e0 e1 e2
  subst we0; subst we1; subst we2
  refine ⟨N, S, T, x, rfl, ?_⟩
  rcases Deep.open_slice hs k3 with ⟨e3, _⟩ | ⟨ad, len, cap, m, n', D, Pl, e3, _, hle, hcap, hm, _, helem⟩
  · exact .inl (List.cons.inj (show [x] = [.slice none 0 0] from e3)).1
  have we3 : x = .slice (some ad) len cap := (List.cons.inj (show [x] = [.slice (some ad) len cap] from e3)).1
  clear k3 e3
  subst we3
  right
  obtain ⟨u, hu3, hok⟩ := hcell 3 _ rfl
  have hu3 : ts = u := by simpa using hu3
  subst hu3
  unfold Cell.okWide at hok
  rw [hs] at hok
  simp only [Cell.ok, hs] at hok
  obtain ⟨_, hcapm, _, hspot, row, cells, hshape, _⟩ := hok
  have hheap : ∃ (c : Array Value) (X : TypeId) (fr : Nat × Nat), W.heap[ad.block]? = some (.cells c X fr) := by
    unfold World.shape? at hshape
    split at hshape
    · rename_i c X fr hh; exact ⟨c, X, fr, hh⟩
    · cases hshape
  obtain ⟨c, X, fr, hh⟩ := hheap
  have hm' : m = cap := by simpa using hm
  have hadd : ∀ j, ad.add j = ⟨ad.block, ad.off + j, none⟩ := fun j => by
    unfold Addr.add
    by_cases hj : j = 0
    · subst hj
      obtain ⟨bb, oo, sp⟩ := ad
      simp only at hspot
      subst hspot; simp
    · rw [if_neg hj]
  have hone : ∀ i, i < len → ∃ y : Int × Int × Int, (c[ad.off + i * 3]? = some (.int .i64 y.1) ∧ c[ad.off + i * 3 + 1]? = some (.int .i64 y.2.1) ∧ c[ad.off + i * 3 + 2]? = some (.int .i64 y.2.2)) ∧ -9223372036854775808 ≤ y.2.2 ∧ y.2.2 ≤ 9223372036854775807 := by
    intro i hi'
    obtain ⟨cs', hc1, hc2⟩ := helem i (by omega)
    rw [cte] at hc1
    obtain ⟨_, hl3, hcc⟩ := World.cells?_some hc1
    obtain ⟨zs, n2, _, _, _, hzl, hzf⟩ := DataW.trod_struct he hc2
    have hcs' : ∃ p q r, cs' = [p, q, r] := by
      match cs', hl3 with
      | [p, q, r], _ => exact ⟨p, q, r, rfl⟩
    obtain ⟨p, q, r, rfl⟩ := hcs'
    have hz : ∀ i, i < 3 → ∃ y, zs[i]? = some y := fun i hi'' => ⟨zs[i]'(by rw [hzl]; exact hi''), List.getElem?_eq_getElem _⟩
    obtain ⟨z0, hz0⟩ := hz 0 (by omega)
    obtain ⟨z1, hz1⟩ := hz 1 (by omega)
    obtain ⟨z2, hz2⟩ := hz 2 (by omega)
    have j0 := hzf 0 g0 rfl
    have j1 := hzf 1 g1 rfl
    have j2 := hzf 2 g2 rfl
    rw [hz0, gt0, go0, ci] at j0
    rw [hz1, gt1, go1, ci] at j1
    rw [hz2, gt2, go2, cl] at j2
    obtain ⟨P1, q0, _, _⟩ := DataW.trod_int hi j0
    obtain ⟨P2, q1, _, _⟩ := DataW.trod_int hi j1
    obtain ⟨P3, q2, _, hwf⟩ := DataW.trod_int hl j2
    have wq0 : p = .int .i64 P1 := by simpa using q0
    have wq1 : q = .int .i64 P2 := by simpa using q1
    have wq2 : r = .int .i64 P3 := by simpa using q2
    clear j0 j1 j2 q0 q1 q2
    subst wq0; subst wq1; subst wq2
    have hcell' : ∀ j, j < 3 → c[ad.off + i * 3 + j]? = ([.int .i64 P1, .int .i64 P2, .int .i64 P3] : List Value)[j]? := fun j hj => by
      have := hcc j hj
      rw [Deep.add_add, hadd] at this
      unfold World.cell? at this
      rw [hh] at this
      simpa [Nat.add_assoc] using this
    refine ⟨(P1, P2, P3), ⟨hcell' 0 (by omega), hcell' 1 (by omega), hcell' 2 (by omega)⟩, ?_⟩
    simp only [Lit.wf, Bool.and_eq_true, decide_eq_true_eq] at hwf
    exact hwf
  obtain ⟨g, hg'⟩ := Deep.choose_lt hone
  exact ⟨ad, len, cap, fun i => (g i).1, fun i => (g i).2.1, fun i => (g i).2.2, c, X, fr, rfl, hspot, hle, (by have h9 : (cap : Int) ≤ 9223372036854775807 := hcapm; omega), hh, fun i hi' => (hg' i hi').1, fun i hi' => (hg' i hi').2⟩
end Vm
end Go.Proofs.YtcafmkekkcbamaaGreat
namespace Go.Proofs.YtcafmkekkcbamaaGreat
open Go.RowKit Go.ChangeShapes Go.WideShapes Go.ChangeAt
namespace Vm

/-- What was made is dropped. -/
theorem VCalls.bare {P : Program} {f : FuncId} {args : List Value} {t : Bool} (h : VCalls P f args [] (fun v _ => v = .bool t)) : VCalls P f args [] (fun v M' => v = .bool t ∧ M' = []) := by
  refine ⟨h.1, fun ρ w args' hs ha => CallsIn.mono (h.2 ρ w args' hs ha) ?_⟩
  rintro e w' ⟨v, v', M', δ, h1, rfl, h3, h4, h5, h6⟩
  have hv := VR.bool_inv h3
  have hρ : ρ = [] := List.eq_nil_of_length_eq_zero hs.len
  subst hρ
  refine ⟨.bool t, v', [], [], h1, ⟨rfl, rfl⟩, by rw [hv]; exact .bool t, ⟨rfl, fun k o hk => by simp at hk, fun k k' o o' b x y b' x' y' _ hk => by simp at hk⟩, h5, fun b hb => ?_⟩
  obtain ⟨k, o, x, y, hk, _⟩ := hb
  simp at hk

theorem calls_of {P : Program} {f : FuncId} {args args' : List Value} {M : VMem} {W : World} {ρ : Ren} {t : Bool} (h : VCalls P f args M (fun v M' => v = .bool t ∧ M' = M)) (hs : Sim ρ M W) (ha : VRs ρ args args') (hrd : rdM M = true) :
    Calls P f ⟨args'⟩ W (fun e W' => e = .returned (.bool t) ∧ W'.os = W.os ∧ W'.output = W.output ∧ ∀ b, b < W.heap.size → W'.heap[b]? = W.heap[b]?) := by
  refine (callsIn_wide (n := 0)).1 ?_
  refine CallsIn.mono (h.2 ρ W args' hs ha) ?_
  rintro e w' ⟨v, v', M', δ, rfl, ⟨rfl, rfl⟩, h3, _, h5, _⟩
  rw [VR.bool_inv h3]
  have hno : ∀ (M : VMem), rdM M = true → ∀ (k : Nat) o, M[k]? = some o → o.owned = false := by
    intro M
    induction M with
    | nil => intro _ k o hk; simp at hk
    | cons x M ih =>
      intro hr k o hk
      have hr2 : rdM M = true ∧ x.owned = false := by
        cases x with
        | view n g => exact ⟨hr, rfl⟩
        | gone => exact ⟨hr, rfl⟩
        | _ => cases hr
      cases k with
      | zero => simp at hk; subst hk; exact hr2.2
      | succ k => exact ih hr2.1 k o (by simpa using hk)
  refine ⟨rfl, h5.os, h5.output, fun b hb => h5.block b hb ?_⟩
  rintro ⟨k, o, x, y, hk, ho, _⟩
  rw [hno M' hrd k o hk] at ho; cases ho

/-- A net of no arcs, none handed in. -/
theorem net_nil {N S T : Int} : VR [] (netV N S T none 0 0) (.agg #[.int .i64 N, .int .i64 S, .int .i64 T, .slice none 0 0]) :=
  .agg _ _ (.cons _ _ _ _ (.int _ _) (.cons _ _ _ _ (.int _ _) (.cons _ _ _ _ (.int _ _) (.cons _ _ _ _ (.snil _ _) .nil))))
theorem sim_nil {W : World} : Sim [] [] W := ⟨rfl, fun k o hk => by simp at hk, fun k k' o o' b x y b' x' y' _ hk => by simp at hk⟩
/-- A net whose arcs lie somewhere. -/
theorem net_some {N S T : Int} {a : Addr} {len cap : Nat} (hsp : a.spot = none) : VR [some (a.block, a.off, cap)] (netV N S T (some ⟨0, 0, none⟩) len cap) (.agg #[.int .i64 N, .int .i64 S, .int .i64 T, .slice (some a) len cap]) := by
  obtain ⟨b, o, sp⟩ := a
  simp only at hsp
  subst hsp
  refine .agg _ _ (.cons _ _ _ _ (.int _ _) (.cons _ _ _ _ (.int _ _) (.cons _ _ _ _ (.int _ _) (.cons _ _ _ _ ?_ .nil))))
  have := VR.slice (ρ := [some (b, o, cap)]) 0 0 len cap b o cap cap rfl (.inl rfl)
  rwa [Nat.zero_add] at this
theorem sim_some {W : World} {a : Addr} {len cap : Nat} {f t c : Nat → Int} {cs : Array Value} {X : TypeId} {fr : Nat × Nat} (hh : W.heap[a.block]? = some (.cells cs X fr))
    (hc : ∀ i, i < len → cs[a.off + i * 3]? = some (.int .i64 (f i)) ∧ cs[a.off + i * 3 + 1]? = some (.int .i64 (t i)) ∧ cs[a.off + i * 3 + 2]? = some (.int .i64 (c i))) : Sim [some (a.block, a.off, cap)] [arcV len f t c] W := by
  refine ⟨rfl, fun k o hk ho => ?_, fun k k' o o' b x y b' x' y' hkk hk hk' _ _ _ _ => ?_⟩
  · cases k with
    | succ k => simp at hk
    | zero =>
      simp at hk; subst hk
      refine ⟨_, _, _, rfl, cs, X, fr, hh, fun i hi => ?_⟩
      obtain ⟨h0, h1, h2⟩ := hc (i / 3) (by omega)
      have hr : i % 3 = 0 ∨ i % 3 = 1 ∨ i % 3 = 2 := by omega
      unfold arcG
      rcases hr with hr | hr | hr
      · rw [if_pos hr]
        exact ⟨_, by rw [show i + a.off = a.off + i / 3 * 3 by omega]; exact h0, .int _ _⟩
      · rw [if_neg (by omega), if_pos hr]
        exact ⟨_, by rw [show i + a.off = a.off + i / 3 * 3 + 1 by omega]; exact h1, .int _ _⟩
      · rw [if_neg (by omega), if_neg (by omega)]
        exact ⟨_, by rw [show i + a.off = a.off + i / 3 * 3 + 2 by omega]; exact h2, .int _ _⟩
  · cases k with
    | succ k => simp at hk
    | zero => cases k' with
      | zero => exact absurd rfl hkk
      | succ k' => simp at hk'
end Vm
end Go.Proofs.YtcafmkekkcbamaaGreat
