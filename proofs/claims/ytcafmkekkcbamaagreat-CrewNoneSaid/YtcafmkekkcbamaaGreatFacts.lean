/- Closed facts of the row. -/
import Derived.Test.YtcafmkekkcbamaaGreatRows
import Derived.JoinedOf
import Derived.KernelRfl
namespace Go.Proofs.YtcafmkekkcbamaaGreat
open Go.ChangeShapes Go.WideShapes
set_option maxRecDepth 100000
noncomputable abbrev fP := Tryz.pinned.checked.prog
noncomputable abbrev fFn := Tryz.f8
noncomputable abbrev fC := Rows.crewNoneRow
noncomputable abbrev fS := Rows.crewNoneSpec
noncomputable abbrev fT := fFn.params.toList ++ fS.plain.varTypes fP
theorem crewNone_named : Tryz.pinned.checked.prog.funcNamed Rows.crewNoneRow.func = some 8 := by kernel_rfl
theorem crewNone_inst : Tryz.f8.isInstance Tryz.pinned.checked.prog Rows.crewNoneRow.origin Rows.crewNoneRow.targs := of_decide_eq_true (by kernel_rfl)
theorem crewNone_wrap : Tryz.f8.isWrapper Tryz.pinned.checked.prog Rows.crewNoneRow.wrapper Rows.crewNoneRow.mainSum := by unfold Func.isWrapper; first | (rw [if_pos (by decide +kernel)]; kernel_rfl) | (rw [if_neg (by decide +kernel)]; exact ⟨rfl, rfl⟩)
theorem cg0 : ((laidOutB fP) && (mapsRowed fP) && (fFn.params.all (fP.readableRec ·)) && (namedTie fP fC.named fS.vars) && (fP.stops == []) && (fP.stopKnobs == [])) = true := by kernel_rfl
theorem cg1 : ((fC.inPlace == fP.inPlace 8) && (fC.unfollowed == fP.unfollowed 8) && (fC.recurses == fP.recurses 8) && (fC.named == fP.varsNamed 8)) = true := by kernel_rfl
theorem cg2 : ((fC.wf (OpenSpec.ofChange fS)) && (fC.stops == []) && (fC.knobs == []) && (fC.maps == fT.any (fP.mapsRec ·)) && (fC.ifaces == fT.any (fP.ifacesRec ·)) && (fC.mapsOut == fP.mapsAmong fFn.resultTypes.toList) && (fC.loops == fT.any (fP.loopsFrom ·)) && (fC.wideKeys == (fT ++ fFn.resultTypes.toList).any (fP.wideKeysFrom ·)) && (fS.vars.all (fP.varReadable ·)) && (fFn.resultTypes.all (fun t => fP.readableRec t && decide (t < fP.types.size))) && (fC.ifacesOut == fFn.resultTypes.toList.any (fP.ifacesRec ·)) && (fC.loopsOut == fFn.resultTypes.toList.any (fP.loopsFrom ·)) && (fC.plainKeys == fP.plainKeys) && (fC.shortTexts.isNone) && (fP.stopsHeard) && (fP.mayEnter) && (fC.lifted == fP.liftsFinal) && (fP.make == some fC.make) && (fC.kinds == (if fC.domain.isEmpty then [] else fFn.params.toList.map fun t => match fP.underlying t with | some (.int k) => some k | _ => none)) && (fC.pinned == fC.pinnedBy) && (fC.veiled == (fT ++ fFn.resultTypes.toList).any (fP.veiledRec ·)) && (fC.veiledFits fP fFn.params.toList (fT ++ fFn.resultTypes.toList))) = true := by kernel_rfl
theorem bb {a b : Bool} (h : (a && b) = true) : a = true ∧ b = true := by cases a <;> cases b <;> first | exact ⟨rfl, rfl⟩ | cases h
theorem aa {a b : Bool} (h : a = true) (k : b = true) : (a && b) = true := by rw [h, k]; rfl
theorem crewNone_facts : joinedFacts Tryz.pinned.checked.prog 8 Tryz.f8 Rows.crewNoneSpec Rows.crewNoneRow = true := by
  obtain ⟨h, cf9⟩ := bb cg0
  obtain ⟨h, cf7⟩ := bb h
  obtain ⟨h, cf5⟩ := bb h
  obtain ⟨h, cf4⟩ := bb h
  obtain ⟨cf2, cf3⟩ := bb h
  obtain ⟨h, cf13⟩ := bb cg1
  obtain ⟨h, cf12⟩ := bb h
  obtain ⟨cf10, cf11⟩ := bb h
  obtain ⟨h, cf28⟩ := bb cg2
  obtain ⟨h, cf27⟩ := bb h
  obtain ⟨h, cf26⟩ := bb h
  obtain ⟨h, cf25⟩ := bb h
  obtain ⟨h, cf24c⟩ := bb h
  obtain ⟨h, cf24b⟩ := bb h
  obtain ⟨h, cf24⟩ := bb h
  obtain ⟨h, cf23b⟩ := bb h
  obtain ⟨h, cf23⟩ := bb h
  obtain ⟨h, cf22⟩ := bb h
  obtain ⟨h, cf21⟩ := bb h
  obtain ⟨h, cf20⟩ := bb h
  obtain ⟨h, cf19⟩ := bb h
  obtain ⟨h, cf18⟩ := bb h
  obtain ⟨h, cf17b⟩ := bb h
  obtain ⟨h, cf17⟩ := bb h
  obtain ⟨h, cf16⟩ := bb h
  obtain ⟨h, cf15⟩ := bb h
  obtain ⟨h, cf14⟩ := bb h
  obtain ⟨h, cf8⟩ := bb h
  obtain ⟨cf1, cf6⟩ := bb h
  unfold joinedFacts
  exact aa (aa (aa (aa (aa (aa (aa (aa (aa (aa (aa (aa (aa (aa (aa (aa (aa (aa (aa (aa (aa (aa (aa (aa (aa (aa (aa (aa (aa (aa (aa cf1 cf2) cf3) cf4) cf5) cf6) cf7) cf8) cf9) cf10) cf11) cf12) cf13) cf14) cf15) cf16) cf17) cf17b) cf18) cf19) cf20) cf21) cf22) cf23) cf23b) cf24) cf24b) cf24c) cf25) cf26) cf27) cf28
end Go.Proofs.YtcafmkekkcbamaaGreat
