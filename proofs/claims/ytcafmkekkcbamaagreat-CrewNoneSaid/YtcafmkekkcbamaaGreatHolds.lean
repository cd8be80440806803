/- CrewNone answers true for every net, worker's number and changed thing, and leaves what it was handed as it was. Conditions: none.
   The law's text was walked with contracts of the functions that it calls; its example by a run that the kernel reckons. -/
import Derived.Test.YtcafmkekkcbamaaGreatRows
import Derived.Test.YtcafmkekkcbamaaGreatFacts
import Derived.Test.YtcafmkekkcbamaaGreatJoin
import Derived.Test.YtcafmkekkcbamaaGreatCrewB
import Derived.Test.YtcafmkekkcbamaaGreatRun
namespace Go.Proofs.YtcafmkekkcbamaaGreat
open Go.ChangeShapes Go.WideShapes Go.ChangeAt Go.RowKit

theorem Tryz.own : ownKnob Tryz.prog.godebug = none := by kernel_rfl
theorem Tryz.laidOut : laidOutB Tryz.prog = true := by kernel_rfl
theorem Tryz.kids : Kids Tryz.prog (· < Tryz.prog.types.size) := kids_rows Tryz.laidOut (by kernel_rfl)
theorem Tryz.full : ∀ t e, t < Tryz.prog.types.size → Tryz.prog.underlying t = some (.slice e) → 0 < Tryz.prog.cellsOf e := slices_full_of Tryz.prog (by kernel_rfl)

namespace Vm
theorem awake17_c : VCalls Tryz.prog 24 [] [] (fun v M' => v = .bool true ∧ M' = []) :=
  VCalls.bare (VCalls.runV tab17L_ok tab17R_ok mixed r17 (K := fun v _ => v = .bool true) fun _ => rfl)
end Vm

set_option maxRecDepth 100000 in
theorem crewNone_lifted (os : Os) (started : os.Started) (H : Type) (enc : TypeId × Value → H) :
    ReturnsInHanded {} Tryz.checked os 8 .any (Rows.crewNoneSpec.pre6 enc Tryz.prog Tryz.f8 Rows.crewNoneRow.domain false) (Rows.crewNoneSpec.post enc Tryz.prog Tryz.f8 false true false false) := by
  refine returnsInHanded_of_change (C := Tryz.checked) Tryz.own started (by kernel_rfl) Tryz.func8
    (ChangeSpec.witness6 (enc := enc) (C := Tryz.checked) false ⟨#[], #[.agg #[.int .i64 0, .int .i64 0, .int .i64 0, .slice none 0 0], .int .u8 0, .int .u8 0], []⟩ 8 (by kernel_rfl) (by kernel_rfl) (by kernel_rfl) (by kernel_rfl)) ?_
  intro W base args ds gs before hval0 hW hcnd _
  have hval : ∀ (j : Nat) t v, Tryz.f8.params[j]? = some t → args[j]? = some v → Value.okWide Tryz.prog W .any base t v := hval0
  have hW' := hW
  obtain ⟨p, q, hA0, hV, rfl, hfz, hnd⟩ := hW
  have hA : DataW.TrodAll enc Tryz.prog W 0 (fun _ => true) true Tryz.f8.params.toList args.toList ds p := hA0
  rw [Tryz.params8] at hA hval
  obtain ⟨v0, v1, v2, d0, d1, d2, p0, p1, p2, rfl, rfl, rfl, h0, h1, h2⟩ := trodAll_three hA
  obtain ⟨rfl, rfl⟩ := trodVars_none hV
  obtain ⟨x, rfl, _, _, wx⟩ := open_int Tryz.underlying5 (hval 1 _ v1 rfl rfl) h1
  obtain ⟨y, rfl, _, _, wy⟩ := open_int Tryz.underlying5 (hval 2 _ v2 rfl rfl) h2
  have hx : 0 ≤ x ∧ x ≤ 255 := by simpa [Lit.wf, IntKind.min, IntKind.max, IntKind.signed, IntKind.bits] using wx
  have hy : 0 ≤ y ∧ y ≤ 255 := by simpa [Lit.wf, IntKind.min, IntKind.max, IntKind.signed, IntKind.bits] using wy
  have hT : ∀ t ∈ Tryz.f8.params.toList, t < Tryz.prog.types.size := fun t ht => by
    have h : (Tryz.f8.params.toList.all fun t => Nat.blt t Tryz.prog.types.size) = true := by kernel_rfl
    have := List.all_eq_true.1 h t ht
    rwa [Nat.blt_eq] at this
  obtain ⟨N, S, T, z, rfl, hz⟩ := Vm.open_net Tryz.underlying24 ⟨rfl, rfl⟩ Tryz.underlying3 Tryz.underlying2 Tryz.underlying22 Tryz.underlying131 ⟨rfl, rfl⟩ (by kernel_rfl) (by kernel_rfl) (hval 0 _ v0 rfl rfl) h0
  rcases hz with rfl | ⟨a, len, cap, f, t, c, cs, X, fr, rfl, hsp, hle, hcap, hh, hcell, hcb⟩
  · have hcalls := Vm.calls_of (Vm.none_n (N := N) (S := S) (T := T) (k := 0) (fun _ => 0) (fun _ => 0) (fun _ => 0) x y hx hy Vm.awake17_c) (Vm.sim_nil (W := W)) (.cons _ _ _ _ Vm.net_nil (.cons _ _ _ _ (.int _ _) (.cons _ _ _ _ (.int _ _) .nil))) rfl
    exact hcalls.mono fun e W' ⟨he, ho, hu, hheap⟩ => ⟨_, he, Vm.post_true Tryz.kids Tryz.full hT Tryz.underlying4 rfl rfl rfl hW' ho hu hheap⟩
  · have hcalls := Vm.calls_of (Vm.none_c (N := N) (S := S) (T := T) (k := cap) f t c (.inr rfl) hle hcap hcb x y hx hy Vm.awake17_c) (Vm.sim_some (cap := cap) hh hcell) (.cons _ _ _ _ (Vm.net_some hsp) (.cons _ _ _ _ (.int _ _) (.cons _ _ _ _ (.int _ _) .nil))) rfl
    exact hcalls.mono fun e W' ⟨he, ho, hu, hheap⟩ => ⟨_, he, Vm.post_true Tryz.kids Tryz.full hT Tryz.underlying4 rfl rfl rfl hW' ho hu hheap⟩

theorem crewNone_holds : Rows.CrewNoneSaid :=
  OpenClaim.holds_of_wide 8 Tryz.f8 rfl rfl rfl rfl rfl rfl rfl ⟨rfl, rfl, rfl, rfl, rfl⟩ rfl rfl rfl rfl rfl crewNone_named Tryz.func8 crewNone_facts crewNone_inst crewNone_wrap
    (fun os started H enc _ => crewNone_lifted os started H enc)
#print axioms crewNone_holds
end Go.Proofs.YtcafmkekkcbamaaGreat
