
import Derived.Test.YtcafmkekkcbamaaGreatMachX
import Derived.Test.YtcafmkekkcbamaaGreatProg
import Derived.Test.YtcafmkekkcbamaaGreatCodeA
import Derived.Test.YtcafmkekkcbamaaGreatCodeB
namespace Go.Proofs.YtcafmkekkcbamaaGreat
open Go.RowKit
namespace Vm
set_option maxRecDepth 100000
def f292R0 : VC := .drw [0, 0, 2, 6, 0, 16, 48, 112, 240, 510, 0, 1024, 3072, 7168, 16383] [⟨0, .P, ⟨(some 4), none, .mov (.t 1)⟩⟩,⟨1, .P, ⟨(some 5), none, .mov (.t 0)⟩⟩,⟨2, .P, ⟨(some 6), none, .nil (.t 5)⟩⟩,⟨3, .P, ⟨(some 7), none, .fad 0 (.t 6)⟩⟩,⟨4, .P, ⟨(some 8), none, .mov (.t 0)⟩⟩,⟨5, .P, ⟨(some 9), none, .nil (.t 8)⟩⟩,⟨6, .P, ⟨(some 10), none, .fad 0 (.t 9)⟩⟩,⟨7, .P, ⟨(some 11), none, .fad 17 (.t 10)⟩⟩,⟨8, .L, ⟨(some 12), none, .ld false 1 (.t 11)⟩⟩,⟨10, .P, ⟨(some 14), none, .mov (.t 0)⟩⟩,⟨11, .P, ⟨(some 15), none, .nil (.t 14)⟩⟩,⟨12, .P, ⟨(some 16), none, .fad 21 (.t 15)⟩⟩,⟨13, .L, ⟨(some 17), none, .ld false 1 (.t 16)⟩⟩,⟨9, .C [13], ⟨(some 13), none, .call (.k (fv 311)) [(.t 7), (.t 12)]⟩⟩]
 [⟨(some 18), none, .call (.k (fv 127)) [(.t 4), (.t 13), (.t 17)]⟩]
def f292H : HC := .leaf f292R0
def f292S : List VRes := []
noncomputable def f292X : FX := fun call lf l0 m0 => lK l0 fun x1 l2 => lK l2 fun x3 l4 => lE l4 (padK 0 m0 fun i5 m6 => nilK x1 (fadK 0 x1 fun x7 => nilK x1 (fadK 0 x1 fun x8 => fadK 17 x8 fun x9 => ldK false 1 x9 m6 fun x10 => nilK x1 (fadK 21 x1 fun x11 => ldK false 1 x11 m6 fun x12 => callK call (fv 311) [x7, x10] m6 fun x13 m14 => effK m6 m14 0 i5 (ldK false 1 x11 m14 fun x15 => sameK x12 x15 (callK call (fv 127) [x3, x13, x12] m14 fun x16 m17 => some (.tuple ⟨[]⟩, m17)))))))
theorem f292_ok : FnOk Tryz.prog 292 Tryz.f292 (er f292H) f292S 19 := ⟨Tryz.func292, by kernel_rfl, by kernel_rfl, by kernel_rfl, by kernel_rfl⟩
theorem f292_h : f292X = fnH f292H f292S 2 := by kernel_rfl
def f293R0 : VC := .drw [0, 0, 2, 6, 14, 0, 32, 96, 224, 480, 992, 2047] [⟨0, .P, ⟨(some 4), none, .mov (.t 1)⟩⟩,⟨1, .P, ⟨(some 5), none, .mov (.t 0)⟩⟩,⟨2, .P, ⟨(some 6), none, .nil (.t 5)⟩⟩,⟨3, .P, ⟨(some 7), none, .fad 0 (.t 6)⟩⟩,⟨5, .P, ⟨(some 9), none, .mov (.t 0)⟩⟩,⟨6, .P, ⟨(some 10), none, .nil (.t 9)⟩⟩,⟨7, .P, ⟨(some 11), none, .fad 0 (.t 10)⟩⟩,⟨8, .P, ⟨(some 12), none, .fad 17 (.t 11)⟩⟩,⟨9, .L, ⟨(some 13), none, .ld false 1 (.t 12)⟩⟩,⟨10, .P, ⟨(some 14), none, .bin .add (.t 13) (.k (jj 1))⟩⟩,⟨4, .C [9], ⟨(some 8), none, .call (.k (fv 309)) [(.t 7)]⟩⟩]
 [⟨(some 15), none, .call (.k (fv 127)) [(.t 4), (.t 8), (.t 14)]⟩]
def f293R1 : VC := .reg [op 16 (.mov (.t 0)),op 17 (.nil (.t 16)),op 18 (.fad 0 (.t 17)),op 19 (.call (.k (fv 312)) [(.t 18), (.k bT)])]
def f293H : HC := .seq (.leaf f293R0) (.leaf f293R1)
def f293S : List VRes := []
noncomputable def f293X : FX := fun call lf l0 m0 => lK l0 fun x1 l2 => lK l2 fun x3 l4 => lE l4 (padK 0 m0 fun i5 m6 => nilK x1 (fadK 0 x1 fun x7 => nilK x1 (fadK 0 x1 fun x8 => fadK 17 x8 fun x9 => ldK false 1 x9 m6 fun x10 => binK .add x10 (jj 1) fun x11 => callK call (fv 309) [x7] m6 fun x12 m13 => effK m6 m13 0 i5 (ldK false 1 x9 m13 fun x14 => sameK x10 x14 (callK call (fv 127) [x3, x12, x11] m13 fun x15 m16 => nilK x1 (fadK 0 x1 fun x17 => callK call (fv 312) [x17, bT] m16 fun x18 m19 => some (.tuple ⟨[]⟩, m19)))))))
theorem f293_ok : FnOk Tryz.prog 293 Tryz.f293 (er f293H) f293S 20 := ⟨Tryz.func293, by kernel_rfl, by kernel_rfl, by kernel_rfl, by kernel_rfl⟩
theorem f293_h : f293X = fnH f293H f293S 2 := by kernel_rfl
def f294R0 : VC := .reg [op 3 (.mov (.k bF))]
def f294R1 : VC := .reg [op 4 (.mov (.t 0)),op 5 (.fad 9 (.t 1)),op 6 (.ld false 1 (.t 5)),op 7 (.call (.k (fv 127)) [(.t 4), (.t 6), (.k (jj 1))])]
def f294R2 : VC := .reg [op 3 (.mov (.k bF))]
def f294H : HC := .seq (.leaf f294R0) (.seq (.leaf f294R1) (.seq (.leaf f294R2) .ret))
def f294S : List VRes := [.t 3]
noncomputable def f294X : FX := fun call lf l0 m0 => lK l0 fun x1 l2 => lK l2 fun x3 l4 => lE l4 (fadK 9 x3 fun x5 => ldK false 1 x5 m0 fun x6 => callK call (fv 127) [x1, x6, (jj 1)] m0 fun x7 m8 => some (bF, m8))
theorem f294_ok : FnOk Tryz.prog 294 Tryz.f294 (er f294H) f294S 8 := ⟨Tryz.func294, by kernel_rfl, by kernel_rfl, by kernel_rfl, by kernel_rfl⟩
theorem f294_h : f294X = fnH f294H f294S 2 := by kernel_rfl
def f295R0 : VC := .reg [op 2 (.box 31 (.t 0)),op 4 (.alloc 334 [(jj 0), bF])]
def f295R1 : VC := .reg [op 5 (.fad 7 (.t 2)),op 6 (.ld false 1 (.t 5)),op 7 (.mov (.t 1)),op 8 (.bin .add (.t 6) (.t 7)),op 9 (.build [(jj 0), bF] [(0, 1, (.t 8))]),op 10 (.build [(jj 0), bF] [(0, 2, (.t 9))]),⟨none, none, .st 2 (.t 4) (.t 10)⟩]
def f295H : HC := .seq (.leaf f295R0) (.seq (.leaf f295R1) .ret)
def f295S : List VRes := [.cell 4 true 2]
noncomputable def f295X : FX := fun call lf l0 m0 => lK l0 fun x1 l2 => lK l2 fun x3 l4 => lE l4 (boxK 31 x1 m0 fun x5 m6 => boxL 334 [(jj 0), bF] m6 fun x7 m8 => fadK 7 x5 fun x9 => ldK false 1 x9 m8 fun x10 => binK .add x10 x3 fun x11 => buildK [(jj 0), bF] [(0, 1, x11)] fun x12 => buildK [(jj 0), bF] [(0, 2, x12)] fun x13 => stK 2 x7 x13 m8 fun m14 => ldK true 2 x7 m14 fun x15 => some (x15, m14))
theorem f295_ok : FnOk Tryz.prog 295 Tryz.f295 (er f295H) f295S 11 := ⟨Tryz.func295, by kernel_rfl, by kernel_rfl, by kernel_rfl, by kernel_rfl⟩
theorem f295_h : f295X = fnH f295H f295S 2 := by kernel_rfl
def f296R0 : VC := .reg [op 4 (.mov (.k bF))]
def f296R1 : VC := .reg [op 5 (.mov (.t 0)),op 6 (.nil (.t 5)),op 7 (.fad 0 (.t 6)),op 8 (.call (.k (fv 287)) [(.t 7)])]
def f296R2 : VC := .reg [op 9 (.mov (.t 1)),op 10 (.mov (.t 0)),op 11 (.nil (.t 10)),op 12 (.fad 0 (.t 11)),op 13 (.fad 0 (.t 12)),op 14 (.ld false 1 (.t 13)),op 15 (.call (.k (fv 127)) [(.t 9), (.t 14), (.k (jj 0))])]
def f296R3 : VC := .reg [op 4 (.mov (.k bT))]
def f296H : HC := .seq (.leaf f296R0) (.seq (.join [] (.seq (.leaf f296R1) (.cond (.t 8) (.leaf f296R2) .skip))) (.seq (.leaf f296R3) .ret))
def f296S : List VRes := [.t 4]
noncomputable def f296X : FX := fun call lf l0 m0 => lK l0 fun x1 l2 => lK l2 fun x3 l4 => lE l4 (jn (fun l5 m6 => lE l5 (some (bT, m6))) fun j7 => nilK x1 (fadK 0 x1 fun x8 => callK call (fv 287) [x8] m0 fun x9 m10 => vBool x9 (nilK x1 (fadK 0 x1 fun x11 => fadK 0 x11 fun x12 => ldK false 1 x12 m10 fun x13 => callK call (fv 127) [x3, x13, (jj 0)] m10 fun x14 m15 => j7 [] m15)) (j7 [] m10) none))
theorem f296_ok : FnOk Tryz.prog 296 Tryz.f296 (er f296H) f296S 16 := ⟨Tryz.func296, by kernel_rfl, by kernel_rfl, by kernel_rfl, by kernel_rfl⟩
theorem f296_h : f296X = fnH f296H f296S 2 := by kernel_rfl
def f297R0 : VC := .reg [op 1 (.box 31 (.t 0)),op 2 (.alloc 336 [.nilFunc, bF, bF])]
def f297R1 : VC := .reg [op 3 (.ld true 14 (.t 1)),op 4 (.call (.k (fv 289)) [(.t 3), (.k (.int .i64 (-1)))]),op 5 (.build [.nilFunc, bF, bF] [(0, 3, (.t 4))]),⟨none, none, .st 3 (.t 2) (.t 5)⟩]
def f297H : HC := .seq (.leaf f297R0) (.seq (.leaf f297R1) .ret)
def f297S : List VRes := [.cell 2 true 3]
noncomputable def f297X : FX := fun call lf l0 m0 => lK l0 fun x1 l2 => lE l2 (boxK 31 x1 m0 fun x3 m4 => boxL 336 [.nilFunc, bF, bF] m4 fun x5 m6 => ldK true 14 x3 m6 fun x7 => callK call (fv 289) [x7, (.int .i64 (-1))] m6 fun x8 m9 => buildK [.nilFunc, bF, bF] [(0, 3, x8)] fun x10 => stK 3 x5 x10 m9 fun m11 => ldK true 3 x5 m11 fun x12 => some (x12, m11))
theorem f297_ok : FnOk Tryz.prog 297 Tryz.f297 (er f297H) f297S 6 := ⟨Tryz.func297, by kernel_rfl, by kernel_rfl, by kernel_rfl, by kernel_rfl⟩
theorem f297_h : f297X = fnH f297H f297S 1 := by kernel_rfl
def f298R0 : VC := .reg [op 4 (.mov (.k bF))]
def f298R1 : VC := .reg [op 5 (.mov (.t 0)),op 6 (.nil (.t 5)),op 7 (.fad 0 (.t 6)),op 8 (.mov (.t 1)),op 9 (.call (.k (fv 284)) [(.t 7), (.t 8)]),op 4 (.mov (.t 9))]
def f298H : HC := .seq (.leaf f298R0) (.seq (.leaf f298R1) .ret)
def f298S : List VRes := [.t 4]
noncomputable def f298X : FX := fun call lf l0 m0 => lK l0 fun x1 l2 => lK l2 fun x3 l4 => lE l4 (nilK x1 (fadK 0 x1 fun x5 => callK call (fv 284) [x5, x3] m0 fun x6 m7 => some (x6, m7)))
theorem f298_ok : FnOk Tryz.prog 298 Tryz.f298 (er f298H) f298S 10 := ⟨Tryz.func298, by kernel_rfl, by kernel_rfl, by kernel_rfl, by kernel_rfl⟩
theorem f298_h : f298X = fnH f298H f298S 2 := by kernel_rfl
def f299R0 : VC := .reg [op 4 (.mov (.k (.int .u8 0)))]
def f299R1 : VC := .reg [op 5 (.mov (.t 0)),op 6 (.nil (.t 5)),op 7 (.fad 15 (.t 6)),⟨none, none, .st 1 (.t 7) (.k (jj 1))⟩]
def f299R2 : VC := .reg [op 8 (.mov (.t 1)),op 9 (.mov (.t 0)),op 10 (.nil (.t 9)),op 11 (.fad 0 (.t 10)),op 12 (.fad 11 (.t 11)),op 13 (.ld false 1 (.t 12)),op 14 (.call (.k (fv 17)) [(.t 8), (.t 13)]),op 15 (.bin .neq (.t 14) (.k (jj 0)))]
def f299R3 : VC := .reg [op 16 (.mov (.t 0)),op 17 (.nil (.t 16)),op 18 (.fad 15 (.t 17)),⟨none, none, .st 1 (.t 18) (.k (jj 0))⟩]
def f299R4 : VC := .reg [op 4 (.mov (.k (.int .u8 1)))]
def f299H : HC := .seq (.leaf f299R0) (.seq (.join [] (.seq (.leaf f299R1) (.seq (.leaf f299R2) (.cond (.t 15) (.leaf f299R3) .skip)))) (.seq (.leaf f299R4) .ret))
def f299S : List VRes := [.t 4]
noncomputable def f299X : FX := fun call lf l0 m0 => lK l0 fun x1 l2 => lK l2 fun x3 l4 => lE l4 (jn (fun l5 m6 => lE l5 (some ((.int .u8 1), m6))) fun j7 => nilK x1 (fadK 15 x1 fun x8 => stK 1 x8 (jj 1) m0 fun m9 => nilK x1 (fadK 0 x1 fun x10 => fadK 11 x10 fun x11 => ldK false 1 x11 m9 fun x12 => callK call (fv 17) [x3, x12] m9 fun x13 m14 => binK .neq x13 (jj 0) fun x15 => vBool x15 (nilK x1 (fadK 15 x1 fun x16 => stK 1 x16 (jj 0) m14 fun m17 => j7 [] m17)) (j7 [] m14) none)))
theorem f299_ok : FnOk Tryz.prog 299 Tryz.f299 (er f299H) f299S 19 := ⟨Tryz.func299, by kernel_rfl, by kernel_rfl, by kernel_rfl, by kernel_rfl⟩
theorem f299_h : f299X = fnH f299H f299S 2 := by kernel_rfl
def f300R0 : VC := .reg [op 4 (.mov (.k (.int .u8 0)))]
def f300R1 : VC := .reg [op 5 (.mov (.t 0)),op 6 (.mov (.t 1)),op 7 (.mov (.t 0)),op 8 (.nil (.t 7)),op 9 (.fad 0 (.t 8)),op 10 (.fad 10 (.t 9)),op 11 (.ld false 1 (.t 10)),op 12 (.call (.k (fv 126)) [(.t 6), (.t 11), (.k (.int .i64 (-1)))]),op 13 (.bin .eql (.t 12) (.k (jj 0))),op 14 (.nil (.t 5)),op 15 (.fad 16 (.t 14)),⟨none, none, .st 1 (.t 15) (.t 13)⟩]
def f300R2 : VC := .reg [op 16 (.mov (.t 0)),op 17 (.nil (.t 16)),op 18 (.fad 16 (.t 17)),op 19 (.ld false 1 (.t 18))]
def f300R3 : VC := .reg [op 4 (.mov (.k (.int .u8 2)))]
def f300R4 : VC := .reg [op 4 (.mov (.k (.int .u8 4)))]
def f300H : HC := .seq (.leaf f300R0) (.seq (.seq (.leaf f300R1) (.seq (.leaf f300R2) (.cond (.t 19) (.seq (.leaf f300R3) .ret) .skip))) (.seq (.leaf f300R4) .ret))
def f300S : List VRes := [.t 4]
noncomputable def f300X : FX := fun call lf l0 m0 => lK l0 fun x1 l2 => lK l2 fun x3 l4 => lE l4 (nilK x1 (fadK 0 x1 fun x5 => fadK 10 x5 fun x6 => ldK false 1 x6 m0 fun x7 => callK call (fv 126) [x3, x7, (.int .i64 (-1))] m0 fun x8 m9 => binK .eql x8 (jj 0) fun x10 => nilK x1 (fadK 16 x1 fun x11 => stK 1 x11 x10 m9 fun m12 => nilK x1 (fadK 16 x1 fun x13 => ldK false 1 x13 m12 fun x14 => vBool x14 (some ((.int .u8 2), m12)) (some ((.int .u8 4), m12)) none))))
theorem f300_ok : FnOk Tryz.prog 300 Tryz.f300 (er f300H) f300S 20 := ⟨Tryz.func300, by kernel_rfl, by kernel_rfl, by kernel_rfl, by kernel_rfl⟩
theorem f300_h : f300X = fnH f300H f300S 2 := by kernel_rfl
def f301R0 : VC := .reg [op 4 (.mov (.k (.int .u8 0)))]
def f301R1 : VC := .drw [0, 0, 2, 6, 14, 30, 0, 64, 192, 448, 960, 2047] [⟨0, .P, ⟨(some 5), none, .mov (.t 1)⟩⟩,⟨1, .P, ⟨(some 6), none, .mov (.t 0)⟩⟩,⟨2, .P, ⟨(some 7), none, .nil (.t 6)⟩⟩,⟨3, .P, ⟨(some 8), none, .fad 0 (.t 7)⟩⟩,⟨4, .P, ⟨(some 9), none, .fad 10 (.t 8)⟩⟩,⟨5, .L, ⟨(some 10), none, .ld false 1 (.t 9)⟩⟩,⟨6, .P, ⟨(some 11), none, .mov (.t 0)⟩⟩,⟨7, .P, ⟨(some 12), none, .nil (.t 11)⟩⟩,⟨8, .P, ⟨(some 13), none, .fad 0 (.t 12)⟩⟩,⟨9, .P, ⟨(some 14), none, .fad 2 (.t 13)⟩⟩,⟨10, .L, ⟨(some 15), none, .ld false 1 (.t 14)⟩⟩]
 [⟨(some 16), none, .call (.k (fv 127)) [(.t 5), (.t 10), (.t 15)]⟩]
def f301R2 : VC := .reg [op 4 (.mov (.k (.int .u8 3)))]
def f301H : HC := .seq (.leaf f301R0) (.seq (.leaf f301R1) (.seq (.leaf f301R2) .ret))
def f301S : List VRes := [.t 4]
noncomputable def f301X : FX := fun call lf l0 m0 => lK l0 fun x1 l2 => lK l2 fun x3 l4 => lE l4 (padK 0 m0 fun i5 m6 => nilK x1 (fadK 0 x1 fun x7 => fadK 10 x7 fun x8 => ldK false 1 x8 m6 fun x9 => nilK x1 (fadK 0 x1 fun x10 => fadK 2 x10 fun x11 => ldK false 1 x11 m6 fun x12 => callK call (fv 127) [x3, x9, x12] m6 fun x13 m14 => some ((.int .u8 3), m14))))
theorem f301_ok : FnOk Tryz.prog 301 Tryz.f301 (er f301H) f301S 17 := ⟨Tryz.func301, by kernel_rfl, by kernel_rfl, by kernel_rfl, by kernel_rfl⟩
theorem f301_h : f301X = fnH f301H f301S 2 := by kernel_rfl
def f302R0 : VC := .reg [op 4 (.mov (.k (.int .u8 0)))]
def f302R1 : VC := .drw [0, 0, 2, 6, 14, 30, 0, 64, 192, 448, 1023] [⟨0, .P, ⟨(some 5), none, .mov (.t 1)⟩⟩,⟨1, .P, ⟨(some 6), none, .mov (.t 0)⟩⟩,⟨2, .P, ⟨(some 7), none, .nil (.t 6)⟩⟩,⟨3, .P, ⟨(some 8), none, .fad 0 (.t 7)⟩⟩,⟨4, .P, ⟨(some 9), none, .fad 11 (.t 8)⟩⟩,⟨5, .L, ⟨(some 10), none, .ld false 1 (.t 9)⟩⟩,⟨6, .P, ⟨(some 11), none, .mov (.t 0)⟩⟩,⟨7, .P, ⟨(some 12), none, .nil (.t 11)⟩⟩,⟨8, .P, ⟨(some 13), none, .fad 15 (.t 12)⟩⟩,⟨9, .L, ⟨(some 14), none, .ld false 1 (.t 13)⟩⟩]
 [⟨(some 15), none, .call (.k (fv 127)) [(.t 5), (.t 10), (.t 14)]⟩]
def f302R2 : VC := .reg [op 4 (.mov (.k (.int .u8 5)))]
def f302H : HC := .seq (.leaf f302R0) (.seq (.leaf f302R1) (.seq (.leaf f302R2) .ret))
def f302S : List VRes := [.t 4]
noncomputable def f302X : FX := fun call lf l0 m0 => lK l0 fun x1 l2 => lK l2 fun x3 l4 => lE l4 (padK 0 m0 fun i5 m6 => nilK x1 (fadK 0 x1 fun x7 => fadK 11 x7 fun x8 => ldK false 1 x8 m6 fun x9 => nilK x1 (fadK 15 x1 fun x10 => ldK false 1 x10 m6 fun x11 => callK call (fv 127) [x3, x9, x11] m6 fun x12 m13 => some ((.int .u8 5), m13))))
theorem f302_ok : FnOk Tryz.prog 302 Tryz.f302 (er f302H) f302S 16 := ⟨Tryz.func302, by kernel_rfl, by kernel_rfl, by kernel_rfl, by kernel_rfl⟩
theorem f302_h : f302X = fnH f302H f302S 2 := by kernel_rfl
def f303R0 : VC := .reg [op 4 (.mov (.k (.int .u8 0)))]
def f303R1 : VC := .drw [0, 0, 2, 6, 14, 30, 63, 0, 128, 384, 896, 2047] [⟨0, .P, ⟨(some 5), none, .mov (.t 1)⟩⟩,⟨1, .P, ⟨(some 6), none, .mov (.t 0)⟩⟩,⟨2, .P, ⟨(some 7), none, .nil (.t 6)⟩⟩,⟨3, .P, ⟨(some 8), none, .fad 0 (.t 7)⟩⟩,⟨4, .P, ⟨(some 9), none, .fad 11 (.t 8)⟩⟩,⟨5, .L, ⟨(some 10), none, .ld false 1 (.t 9)⟩⟩,⟨7, .P, ⟨(some 12), none, .mov (.t 0)⟩⟩,⟨8, .P, ⟨(some 13), none, .nil (.t 12)⟩⟩,⟨9, .P, ⟨(some 14), none, .fad 15 (.t 13)⟩⟩,⟨10, .L, ⟨(some 15), none, .ld false 1 (.t 14)⟩⟩,⟨6, .C [10], ⟨(some 11), none, .call (.k (fv 17)) [(.t 5), (.t 10)]⟩⟩]
 [⟨(some 16), none, .bin .eql (.t 11) (.t 15)⟩]
def f303R2 : VC := .reg [op 4 (.mov (.k (.int .u8 5)))]
def f303R3 : VC := .reg [op 4 (.mov (.k (.int .u8 4)))]
def f303H : HC := .seq (.leaf f303R0) (.seq (.seq (.leaf f303R1) (.cond (.t 16) (.seq (.leaf f303R2) .ret) .skip)) (.seq (.leaf f303R3) .ret))
def f303S : List VRes := [.t 4]
noncomputable def f303X : FX := fun call lf l0 m0 => lK l0 fun x1 l2 => lK l2 fun x3 l4 => lE l4 (padK 0 m0 fun i5 m6 => nilK x1 (fadK 0 x1 fun x7 => fadK 11 x7 fun x8 => ldK false 1 x8 m6 fun x9 => nilK x1 (fadK 15 x1 fun x10 => ldK false 1 x10 m6 fun x11 => callK call (fv 17) [x3, x9] m6 fun x12 m13 => effK m6 m13 0 i5 (ldK false 1 x10 m13 fun x14 => sameK x11 x14 (binK .eql x12 x11 fun x15 => vBool x15 (some ((.int .u8 5), m13)) (some ((.int .u8 4), m13)) none)))))
theorem f303_ok : FnOk Tryz.prog 303 Tryz.f303 (er f303H) f303S 17 := ⟨Tryz.func303, by kernel_rfl, by kernel_rfl, by kernel_rfl, by kernel_rfl⟩
theorem f303_h : f303X = fnH f303H f303S 2 := by kernel_rfl
def f304R0 : VC := .reg [op 6 (.ld false 1 (.t 1)),op 7 (.nil (.t 6)),op 8 (.fad 2 (.t 7)),op 9 (.ld false 1 (.t 8)),op 10 (.len (.t 9)),op 4 (.mov (.t 10))]
def f304R1 : VC := .reg [op 11 (.mov (.t 4)),op 12 (.mov (.k (jj 0)))]
def f304R2 : VC := .reg [op 13 (.bin .lss (.t 12) (.t 11))]
def f304R3 : VC := .reg [op 14 (.mov (.t 12)),op 5 (.mov (.t 14))]
def f304R4 : VC := .reg [op 15 (.mov (.t 0)),op 16 (.ld false 1 (.t 2)),op 17 (.mov (.t 5)),op 18 (.bin .add (.t 16) (.t 17)),op 19 (.mov (.t 4)),op 20 (.bin .rem (.t 18) (.t 19)),op 21 (.call (.t 15) [(.t 20)]),op 22 (.not (.t 21))]
def f304R5 : VC := .reg [op 23 (.bin .add (.t 12) (.k (jj 1))),op 12 (.mov (.t 23))]
def f304H : HC := .seq (.leaf f304R0) (.seq (.leaf f304R1) (.block 0 (.loop [0, 2, 4, 11, 12] (.seq (.leaf f304R2) (.seq (.cond (.t 13) .skip (.exit 0)) (.seq (.block 1 (.seq (.leaf f304R3) (.seq (.leaf f304R4) (.cond (.t 22) .ret .skip)))) (.leaf f304R5)))))))
def f304S : List VRes := []
noncomputable def f304X : FX := fun call lf l0 m0 => lK l0 fun x1 l2 => lK l2 fun x3 l4 => lK l4 fun x5 l6 => lE l6 (ldK false 1 x3 m0 fun x7 => nilK x7 (fadK 2 x7 fun x8 => ldK false 1 x8 m0 fun x9 => lenK x9 fun x10 => loopK (fun a11 l12 m13 => lK l12 fun x14 l15 => lK l15 fun x16 l17 => lK l17 fun x18 l19 => lK l19 fun x20 l21 => lK l21 fun x22 l23 => lE l23 (binK .lss x22 x20 fun x24 => vBool x24 (ldK false 1 x16 m13 fun x25 => binK .add x25 x22 fun x26 => binK .rem x26 x18 fun x27 => callK call x14 [x27] m13 fun x28 m29 => notK x28 fun x30 => vBool x30 (some (.tuple ⟨[]⟩, m29)) (binK .add x22 (jj 1) fun x31 => a11 [x14, x16, x18, x20, x31] m29) none) (some (.tuple ⟨[]⟩, m13)) none)) lf [x1, x5, x10, x10, (jj 0)] m0))
theorem f304_ok : FnOk Tryz.prog 304 Tryz.f304 (er f304H) f304S 24 := ⟨Tryz.func304, by kernel_rfl, by kernel_rfl, by kernel_rfl, by kernel_rfl⟩
theorem f304_h : f304X = fnH f304H f304S 3 := by kernel_rfl
def f305R0 : VC := .reg [op 2 (.box 24 (.t 0)),op 3 (.mov (.k bF))]
def f305R1 : VC := .reg [op 4 (.fad 3 (.t 2)),op 5 (.ld false 1 (.t 4)),op 6 (.mkf 307 [] [(.t 1), (.t 2)]),op 7 (.call (.k (fv 306)) [(.t 5), (.t 6)]),op 8 (.not (.t 7)),op 3 (.mov (.t 8))]
def f305H : HC := .seq (.leaf f305R0) (.seq (.leaf f305R1) .ret)
def f305S : List VRes := [.t 3]
noncomputable def f305X : FX := fun call lf l0 m0 => lK l0 fun x1 l2 => lK l2 fun x3 l4 => lE l4 (boxK 24 x1 m0 fun x5 m6 => fadK 3 x5 fun x7 => ldK false 1 x7 m6 fun x8 => bdK (.func (.func 307) ⟨[]⟩ ⟨[x3, x5]⟩) fun x9 => callK call (fv 306) [x8, x9] m6 fun x10 m11 => notK x10 fun x12 => some (x12, m11))
theorem f305_ok : FnOk Tryz.prog 305 Tryz.f305 (er f305H) f305S 9 := ⟨Tryz.func305, by kernel_rfl, by kernel_rfl, by kernel_rfl, by kernel_rfl⟩
theorem f305_h : f305X = fnH f305H f305S 2 := by kernel_rfl
def f306R0 : VC := .reg [op 4 (.mov (.k bF))]
def f306R1 : VC := .reg [op 5 (.mov (.t 0)),op 6 (.mov (.t 1)),op 7 (.call (.k (fv 316)) [(.t 5), (.t 6)]),op 8 (.bin .geq (.t 7) (.k (jj 0))),op 4 (.mov (.t 8))]
def f306H : HC := .seq (.leaf f306R0) (.seq (.leaf f306R1) .ret)
def f306S : List VRes := [.t 4]
noncomputable def f306X : FX := fun call lf l0 m0 => lK l0 fun x1 l2 => lK l2 fun x3 l4 => lE l4 (callK call (fv 316) [x1, x3] m0 fun x5 m6 => binK .geq x5 (jj 0) fun x7 => some (x7, m6))
theorem f306_ok : FnOk Tryz.prog 306 Tryz.f306 (er f306H) f306S 9 := ⟨Tryz.func306, by kernel_rfl, by kernel_rfl, by kernel_rfl, by kernel_rfl⟩
theorem f306_h : f306X = fnH f306H f306S 2 := by kernel_rfl
def f307R0 : VC := .reg [op 3 (.box 131 (.t 0)),op 4 (.mov (.k bF))]
def f307R1 : VC := .reg [op 5 (.ld false 1 (.t 1)),op 6 (.ld true 4 (.t 2)),op 7 (.ld true 3 (.t 3)),op 8 (.call (.t 5) [(.t 6), (.t 7)]),op 9 (.not (.t 8)),op 4 (.mov (.t 9))]
def f307H : HC := .seq (.leaf f307R0) (.seq (.leaf f307R1) .ret)
def f307S : List VRes := [.t 4]
noncomputable def f307X : FX := fun call lf l0 m0 => lK l0 fun x1 l2 => lK l2 fun x3 l4 => lK l4 fun x5 l6 => lE l6 (boxK 131 x1 m0 fun x7 m8 => ldK false 1 x3 m8 fun x9 => ldK true 4 x5 m8 fun x10 => ldK true 3 x7 m8 fun x11 => callK call x9 [x10, x11] m8 fun x12 m13 => notK x12 fun x14 => some (x14, m13))
theorem f307_ok : FnOk Tryz.prog 307 Tryz.f307 (er f307H) f307S 10 := ⟨Tryz.func307, by kernel_rfl, by kernel_rfl, by kernel_rfl, by kernel_rfl⟩
theorem f307_h : f307X = fnH f307H f307S 3 := by kernel_rfl
def f308R0 : VC := .reg [op 4 (.mov (.t 0)),op 5 (.mov (.t 1)),op 6 (.mov (.t 0)),op 7 (.call (.k (fv 309)) [(.t 6)]),op 8 (.call (.k (fv 17)) [(.t 5), (.t 7)]),op 9 (.nil (.t 4)),op 10 (.fad 17 (.t 9)),⟨none, none, .st 1 (.t 10) (.t 8)⟩]
def f308H : HC := .leaf f308R0
def f308S : List VRes := []
noncomputable def f308X : FX := fun call lf l0 m0 => lK l0 fun x1 l2 => lK l2 fun x3 l4 => lE l4 (callK call (fv 309) [x1] m0 fun x5 m6 => callK call (fv 17) [x3, x5] m6 fun x7 m8 => nilK x1 (fadK 17 x1 fun x9 => stK 1 x9 x7 m8 fun m10 => some (.tuple ⟨[]⟩, m10)))
theorem f308_ok : FnOk Tryz.prog 308 Tryz.f308 (er f308H) f308S 11 := ⟨Tryz.func308, by kernel_rfl, by kernel_rfl, by kernel_rfl, by kernel_rfl⟩
theorem f308_h : f308X = fnH f308H f308S 2 := by kernel_rfl
def f309R0 : VC := .reg [op 2 (.mov (.k (jj 0)))]
def f309R1 : VC := .drw [0, 1, 3, 7, 0, 16, 48, 112, 255, 511] [⟨0, .P, ⟨(some 3), none, .mov (.t 0)⟩⟩,⟨1, .P, ⟨(some 4), none, .nil (.t 3)⟩⟩,⟨2, .P, ⟨(some 5), none, .fad 0 (.t 4)⟩⟩,⟨3, .L, ⟨(some 6), none, .ld true 14 (.t 5)⟩⟩,⟨4, .P, ⟨(some 7), none, .mov (.t 0)⟩⟩,⟨5, .P, ⟨(some 8), none, .nil (.t 7)⟩⟩,⟨6, .P, ⟨(some 9), none, .fad 14 (.t 8)⟩⟩,⟨7, .L, ⟨(some 10), none, .ld false 1 (.t 9)⟩⟩]
 [⟨(some 11), none, .call (.k (fv 66)) [(.t 6), (.t 10)]⟩,op 2 (.mov (.t 11))]
def f309H : HC := .seq (.leaf f309R0) (.seq (.leaf f309R1) .ret)
def f309S : List VRes := [.t 2]
noncomputable def f309X : FX := fun call lf l0 m0 => lK l0 fun x1 l2 => lE l2 (padK 0 m0 fun i3 m4 => nilK x1 (fadK 0 x1 fun x5 => ldK true 14 x5 m4 fun x6 => nilK x1 (fadK 14 x1 fun x7 => ldK false 1 x7 m4 fun x8 => callK call (fv 66) [x6, x8] m4 fun x9 m10 => some (x9, m10))))
theorem f309_ok : FnOk Tryz.prog 309 Tryz.f309 (er f309H) f309S 12 := ⟨Tryz.func309, by kernel_rfl, by kernel_rfl, by kernel_rfl, by kernel_rfl⟩
theorem f309_h : f309X = fnH f309H f309S 1 := by kernel_rfl
def f310R0 : VC := .reg [op 4 (.mov (.t 0)),op 5 (.mov (.t 1)),op 6 (.mov (.t 0)),op 7 (.call (.k (fv 313)) [(.t 6)]),op 8 (.call (.k (fv 17)) [(.t 5), (.t 7)]),op 9 (.nil (.t 4)),op 10 (.fad 16 (.t 9)),⟨none, none, .st 1 (.t 10) (.t 8)⟩]
def f310H : HC := .leaf f310R0
def f310S : List VRes := []
noncomputable def f310X : FX := fun call lf l0 m0 => lK l0 fun x1 l2 => lK l2 fun x3 l4 => lE l4 (callK call (fv 313) [x1] m0 fun x5 m6 => callK call (fv 17) [x3, x5] m6 fun x7 m8 => nilK x1 (fadK 16 x1 fun x9 => stK 1 x9 x7 m8 fun m10 => some (.tuple ⟨[]⟩, m10)))
theorem f310_ok : FnOk Tryz.prog 310 Tryz.f310 (er f310H) f310S 11 := ⟨Tryz.func310, by kernel_rfl, by kernel_rfl, by kernel_rfl, by kernel_rfl⟩
theorem f310_h : f310X = fnH f310H f310S 2 := by kernel_rfl
def f311R0 : VC := .reg [op 4 (.mov (.k (jj 0)))]
def f311R1 : VC := .drw [0, 1, 3, 7, 0, 16, 48, 112, 0, 511, 1023] [⟨0, .P, ⟨(some 5), none, .mov (.t 0)⟩⟩,⟨1, .P, ⟨(some 6), none, .nil (.t 5)⟩⟩,⟨2, .P, ⟨(some 7), none, .fad 0 (.t 6)⟩⟩,⟨3, .L, ⟨(some 8), none, .ld true 14 (.t 7)⟩⟩,⟨4, .P, ⟨(some 9), none, .mov (.t 0)⟩⟩,⟨5, .P, ⟨(some 10), none, .nil (.t 9)⟩⟩,⟨6, .P, ⟨(some 11), none, .fad 14 (.t 10)⟩⟩,⟨7, .L, ⟨(some 12), none, .ld false 1 (.t 11)⟩⟩,⟨8, .P, ⟨(some 13), none, .mov (.t 1)⟩⟩]
 [⟨(some 14), none, .call (.k (fv 67)) [(.t 8), (.t 12), (.t 13)]⟩,op 4 (.mov (.t 14))]
def f311H : HC := .seq (.leaf f311R0) (.seq (.leaf f311R1) .ret)
def f311S : List VRes := [.t 4]
noncomputable def f311X : FX := fun call lf l0 m0 => lK l0 fun x1 l2 => lK l2 fun x3 l4 => lE l4 (padK 0 m0 fun i5 m6 => nilK x1 (fadK 0 x1 fun x7 => ldK true 14 x7 m6 fun x8 => nilK x1 (fadK 14 x1 fun x9 => ldK false 1 x9 m6 fun x10 => callK call (fv 67) [x8, x10, x3] m6 fun x11 m12 => some (x11, m12))))
theorem f311_ok : FnOk Tryz.prog 311 Tryz.f311 (er f311H) f311S 15 := ⟨Tryz.func311, by kernel_rfl, by kernel_rfl, by kernel_rfl, by kernel_rfl⟩
theorem f311_h : f311X = fnH f311H f311S 2 := by kernel_rfl
def f312R0 : VC := .reg [op 4 (.mov (.t 0)),op 5 (.mov (.t 0)),op 6 (.mov (.t 1)),op 7 (.nil (.t 4)),op 8 (.fad 19 (.t 7)),⟨none, none, .st 1 (.t 8) (.k bT)⟩,op 9 (.nil (.t 5)),op 10 (.fad 20 (.t 9)),⟨none, none, .st 1 (.t 10) (.t 6)⟩]
def f312H : HC := .leaf f312R0
def f312S : List VRes := []
noncomputable def f312X : FX := fun call lf l0 m0 => lK l0 fun x1 l2 => lK l2 fun x3 l4 => lE l4 (nilK x1 (fadK 19 x1 fun x5 => stK 1 x5 bT m0 fun m6 => nilK x1 (fadK 20 x1 fun x7 => stK 1 x7 x3 m6 fun m8 => some (.tuple ⟨[]⟩, m8))))
theorem f312_ok : FnOk Tryz.prog 312 Tryz.f312 (er f312H) f312S 11 := ⟨Tryz.func312, by kernel_rfl, by kernel_rfl, by kernel_rfl, by kernel_rfl⟩
theorem f312_h : f312X = fnH f312H f312S 2 := by kernel_rfl
def f313R0 : VC := .reg [op 2 (.mov (.k (jj 0)))]
def f313R1 : VC := .drw [0, 1, 3, 7, 0, 16, 48, 112, 255, 511] [⟨0, .P, ⟨(some 3), none, .mov (.t 0)⟩⟩,⟨1, .P, ⟨(some 4), none, .nil (.t 3)⟩⟩,⟨2, .P, ⟨(some 5), none, .fad 0 (.t 4)⟩⟩,⟨3, .L, ⟨(some 6), none, .ld true 14 (.t 5)⟩⟩,⟨4, .P, ⟨(some 7), none, .mov (.t 0)⟩⟩,⟨5, .P, ⟨(some 8), none, .nil (.t 7)⟩⟩,⟨6, .P, ⟨(some 9), none, .fad 14 (.t 8)⟩⟩,⟨7, .L, ⟨(some 10), none, .ld false 1 (.t 9)⟩⟩]
 [⟨(some 11), none, .call (.k (fv 65)) [(.t 6), (.t 10)]⟩,op 2 (.mov (.t 11))]
def f313H : HC := .seq (.leaf f313R0) (.seq (.leaf f313R1) .ret)
def f313S : List VRes := [.t 2]
noncomputable def f313X : FX := fun call lf l0 m0 => lK l0 fun x1 l2 => lE l2 (padK 0 m0 fun i3 m4 => nilK x1 (fadK 0 x1 fun x5 => ldK true 14 x5 m4 fun x6 => nilK x1 (fadK 14 x1 fun x7 => ldK false 1 x7 m4 fun x8 => callK call (fv 65) [x6, x8] m4 fun x9 m10 => some (x9, m10))))
theorem f313_ok : FnOk Tryz.prog 313 Tryz.f313 (er f313H) f313S 12 := ⟨Tryz.func313, by kernel_rfl, by kernel_rfl, by kernel_rfl, by kernel_rfl⟩
theorem f313_h : f313X = fnH f313H f313S 1 := by kernel_rfl
def f314R0 : VC := .reg [op 6 (.mov (.k bF))]
def f314R1 : VC := .reg [op 7 (.mov (.t 0)),op 8 (.nil (.t 7)),op 9 (.fad 0 (.t 8)),op 10 (.mov (.t 1)),op 11 (.mov (.t 2)),op 12 (.call (.k (fv 317)) [(.t 9), (.t 10), (.t 11)]),op 6 (.mov (.t 12))]
def f314H : HC := .seq (.leaf f314R0) (.seq (.leaf f314R1) .ret)
def f314S : List VRes := [.t 6]
noncomputable def f314X : FX := fun call lf l0 m0 => lK l0 fun x1 l2 => lK l2 fun x3 l4 => lK l4 fun x5 l6 => lE l6 (nilK x1 (fadK 0 x1 fun x7 => callK call (fv 317) [x7, x3, x5] m0 fun x8 m9 => some (x8, m9)))
theorem f314_ok : FnOk Tryz.prog 314 Tryz.f314 (er f314H) f314S 13 := ⟨Tryz.func314, by kernel_rfl, by kernel_rfl, by kernel_rfl, by kernel_rfl⟩
theorem f314_h : f314X = fnH f314H f314S 3 := by kernel_rfl
def f315R0 : VC := .reg [op 4 (.mov (.k bF))]
def f315R1 : VC := .reg [op 5 (.mov (.t 0)),op 6 (.fad 8 (.t 1)),op 7 (.ld false 1 (.t 6)),op 8 (.ld false 1 (.t 2)),op 9 (.call (.k (fv 126)) [(.t 5), (.t 7), (.t 8)]),op 10 (.bin .eql (.t 9) (.k (jj 0))),op 4 (.mov (.t 10))]
def f315H : HC := .seq (.leaf f315R0) (.seq (.leaf f315R1) .ret)
def f315S : List VRes := [.t 4]
noncomputable def f315X : FX := fun call lf l0 m0 => lK l0 fun x1 l2 => lK l2 fun x3 l4 => lK l4 fun x5 l6 => lE l6 (fadK 8 x3 fun x7 => ldK false 1 x7 m0 fun x8 => ldK false 1 x5 m0 fun x9 => callK call (fv 126) [x1, x8, x9] m0 fun x10 m11 => binK .eql x10 (jj 0) fun x12 => some (x12, m11))
theorem f315_ok : FnOk Tryz.prog 315 Tryz.f315 (er f315H) f315S 11 := ⟨Tryz.func315, by kernel_rfl, by kernel_rfl, by kernel_rfl, by kernel_rfl⟩
theorem f315_h : f315X = fnH f315H f315S 3 := by kernel_rfl
def f316R0 : VC := .reg [op 4 (.mov (.k (jj 0)))]
def f316R1 : VC := .reg [op 6 (.mov (.t 0)),op 7 (.len (.t 6)),op 8 (.mov (.k (jj 0)))]
def f316R2 : VC := .reg [op 9 (.bin .lss (.t 8) (.t 7))]
def f316R3 : VC := .reg [op 10 (.mov (.t 8)),op 5 (.mov (.t 10))]
def f316R4 : VC := .reg [op 11 (.mov (.t 1)),op 12 (.mov (.t 0)),op 13 (.mov (.t 5)),op 14 (.ixa 3 (.t 12) (.t 13)),op 15 (.ld true 3 (.t 14)),op 16 (.call (.t 11) [(.t 15)])]
def f316R5 : VC := .reg [op 17 (.mov (.t 5)),op 4 (.mov (.t 17))]
def f316R6 : VC := .reg [op 18 (.bin .add (.t 8) (.k (jj 1))),op 8 (.mov (.t 18))]
def f316R7 : VC := .reg [op 4 (.mov (.k (.int .i64 (-1))))]
def f316H : HC := .seq (.leaf f316R0) (.seq (.seq (.leaf f316R1) (.block 0 (.loop [0, 1, 7, 8] (.seq (.leaf f316R2) (.seq (.cond (.t 9) .skip (.exit 0)) (.seq (.block 1 (.seq (.leaf f316R3) (.seq (.leaf f316R4) (.cond (.t 16) (.seq (.leaf f316R5) .ret) .skip)))) (.leaf f316R6))))))) (.seq (.leaf f316R7) .ret))
def f316S : List VRes := [.t 4]
noncomputable def f316X : FX := fun call lf l0 m0 => lK l0 fun x1 l2 => lK l2 fun x3 l4 => lE l4 (lenK x1 fun x5 => loopK (fun a6 l7 m8 => lK l7 fun x9 l10 => lK l10 fun x11 l12 => lK l12 fun x13 l14 => lK l14 fun x15 l16 => lE l16 (binK .lss x15 x13 fun x17 => vBool x17 (ixaK 3 x9 x15 fun x18 => ldK true 3 x18 m8 fun x19 => callK call x11 [x19] m8 fun x20 m21 => vBool x20 (some (x15, m21)) (binK .add x15 (jj 1) fun x22 => a6 [x9, x11, x13, x22] m21) none) (some ((.int .i64 (-1)), m8)) none)) lf [x1, x3, x5, (jj 0)] m0)
theorem f316_ok : FnOk Tryz.prog 316 Tryz.f316 (er f316H) f316S 19 := ⟨Tryz.func316, by kernel_rfl, by kernel_rfl, by kernel_rfl, by kernel_rfl⟩
theorem f316_h : f316X = fnH f316H f316S 2 := by kernel_rfl
end Vm
end Go.Proofs.YtcafmkekkcbamaaGreat
namespace Go.Proofs.YtcafmkekkcbamaaGreat
open Go.RowKit
namespace Vm
set_option maxRecDepth 100000
noncomputable def tab17E : List (Nat × LE) := [(136, ⟨176, #[118], (pathC (bodyC Tryz.f34) [1, 1, 1, 1, 1, 1, 1, 1, 0, 1, 0, 0]), (pathC (bodyC Tryz.f34) [1, 1, 1, 1, 1, 1, 1, 1, 0, 1, 0, 1]), [4, 7, 8, 9, 10, 17]⟩),
 (300, ⟨36, #[26], (pathC (bodyC Tryz.f75) [1, 1, 1, 0, 1, 0, 0]), (pathC (bodyC Tryz.f75) [1, 1, 1, 0, 1, 0, 1]), [1, 3]⟩),
 (332, ⟨55, #[30, 31], (pathC (bodyC Tryz.f83) [1, 1, 1, 0, 1, 0, 0]), (pathC (bodyC Tryz.f83) [1, 1, 1, 0, 1, 0, 1]), [5]⟩),
 (333, ⟨55, #[41], (pathC (bodyC Tryz.f83) [1, 1, 1, 1, 1, 1, 0, 1, 0, 0]), (pathC (bodyC Tryz.f83) [1, 1, 1, 1, 1, 1, 0, 1, 0, 1]), [4, 9, 12]⟩),
 (672, ⟨23, #[13], (pathC (bodyC Tryz.f168) [1, 1, 0, 1, 0, 0]), (pathC (bodyC Tryz.f168) [1, 1, 0, 1, 0, 1]), [2, 3, 4, 5]⟩)]
noncomputable instance : LT := ⟨leOf tab17E⟩
noncomputable def tab17R : List (Nat × LR) := [(136, ⟨f34La0, f34Lb0, f34LX0⟩),
 (300, ⟨f75La0, f75Lb0, f75LX0⟩),
 (332, ⟨f83La0, f83Lb0, f83LX0⟩),
 (333, ⟨f83La1, f83Lb1, f83LX1⟩),
 (672, ⟨f168La0, f168Lb0, f168LX0⟩)]
set_option maxRecDepth 100000 in
theorem tab17R_ok : AllOk (LrOk Tryz.prog) tab17R :=
 .cons rfl ⟨⟨er f34La0, by kernel_rfl⟩, ⟨er f34Lb0, by kernel_rfl⟩, by kernel_rfl, by kernel_rfl, by kernel_rfl, f34L0_h⟩ <|
 .cons rfl ⟨⟨er f75La0, by kernel_rfl⟩, ⟨er f75Lb0, by kernel_rfl⟩, by kernel_rfl, by kernel_rfl, by kernel_rfl, f75L0_h⟩ <|
 .cons rfl ⟨⟨er f83La0, by kernel_rfl⟩, ⟨er f83Lb0, by kernel_rfl⟩, by kernel_rfl, by kernel_rfl, by kernel_rfl, f83L0_h⟩ <|
 .cons rfl ⟨⟨er f83La1, by kernel_rfl⟩, ⟨er f83Lb1, by kernel_rfl⟩, by kernel_rfl, by kernel_rfl, by kernel_rfl, f83L1_h⟩ <|
 .cons rfl ⟨⟨er f168La0, by kernel_rfl⟩, ⟨er f168Lb0, by kernel_rfl⟩, by kernel_rfl, by kernel_rfl, by kernel_rfl, f168L0_h⟩ <|
  .nil
noncomputable def tab17L0 : List (Nat × FE) := [(8, .fn f8H f8S 178 3 f8X),
 (16, .fn f16H f16S 18 1 f16X),
 (17, .fn f17H f17S 13 2 f17X),
 (22, .fn f22H f22S 156 1 f22X),
 (23, .fn f23H f23S 82 3 f23X),
 (24, .fn f24H f24S 36 0 f24X),
 (25, .fn f25H f25S 42 3 f25X),
 (27, .fn f27H f27S 5 1 f27X),
 (30, .fn f30H f30S 62 2 f30X),
 (34, .fn f34H f34S 176 4 f34X),
 (37, .fn f37H f37S 43 3 f37X),
 (50, .fn f50H f50S 94 1 f50X),
 (58, .fn f58H f58S 12 1 f58X),
 (59, .fn f59H f59S 21 2 f59X),
 (60, .fn f60H f60S 12 1 f60X),
 (61, .fn f61H f61S 26 2 f61X),
 (62, .fn f62H f62S 7 1 f62X),
 (65, .fn f65H f65S 13 2 f65X),
 (66, .fn f66H f66S 9 2 f66X),
 (67, .fn f67H f67S 17 3 f67X),
 (68, .fn f68H f68S 77 1 f68X),
 (69, .fn f69H f69S 14 2 f69X),
 (70, .fn f70H f70S 88 2 f70X),
 (71, .fn f71H f71S 77 3 f71X),
 (72, .fn f72H f72S 6 1 f72X)]
set_option maxRecDepth 100000 in
theorem tab17L0_ok : AllOk (FEOk Tryz.prog) tab17L0 :=
 .cons rfl ⟨⟨Tryz.f8, f8_ok⟩, noRf_ok (by kernel_rfl), rfl, f8_h⟩ <|
 .cons rfl ⟨⟨Tryz.f16, f16_ok⟩, noRf_ok (by kernel_rfl), rfl, f16_h⟩ <|
 .cons rfl ⟨⟨Tryz.f17, f17_ok⟩, noRf_ok (by kernel_rfl), rfl, f17_h⟩ <|
 .cons rfl ⟨⟨Tryz.f22, f22_ok⟩, noRf_ok (by kernel_rfl), rfl, f22_h⟩ <|
 .cons rfl ⟨⟨Tryz.f23, f23_ok⟩, noRf_ok (by kernel_rfl), rfl, f23_h⟩ <|
 .cons rfl ⟨⟨Tryz.f24, f24_ok⟩, noRf_ok (by kernel_rfl), rfl, f24_h⟩ <|
 .cons rfl ⟨⟨Tryz.f25, f25_ok⟩, noRf_ok (by kernel_rfl), rfl, f25_h⟩ <|
 .cons rfl ⟨⟨Tryz.f27, f27_ok⟩, noRf_ok (by kernel_rfl), rfl, f27_h⟩ <|
 .cons rfl ⟨⟨Tryz.f30, f30_ok⟩, noRf_ok (by kernel_rfl), rfl, f30_h⟩ <|
 .cons rfl ⟨⟨Tryz.f34, f34_ok⟩, ⟨trivial, ⟨⟨trivial, ⟨⟨trivial, trivial⟩, ⟨trivial, ⟨⟨trivial, trivial⟩, trivial⟩⟩⟩⟩, ⟨trivial, ⟨trivial, ⟨⟨trivial, ⟨⟨trivial, trivial⟩, trivial⟩⟩, ⟨trivial, ⟨⟨trivial, ⟨trivial, ⟨⟨trivial, trivial⟩, ⟨⟨trivial, ⟨trivial, ⟨⟨trivial, ⟨⟨trivial, trivial⟩, trivial⟩⟩, trivial⟩⟩⟩, trivial⟩⟩⟩⟩, ⟨trivial, ⟨⟨trivial, ⟨rfl, rfl, rfl, rfl, rfl⟩⟩, ⟨trivial, ⟨trivial, trivial⟩⟩⟩⟩⟩⟩⟩⟩⟩⟩⟩, rfl, f34_h⟩ <|
 .cons rfl ⟨⟨Tryz.f37, f37_ok⟩, noRf_ok (by kernel_rfl), rfl, f37_h⟩ <|
 .cons rfl ⟨⟨Tryz.f50, f50_ok⟩, noRf_ok (by kernel_rfl), rfl, f50_h⟩ <|
 .cons rfl ⟨⟨Tryz.f58, f58_ok⟩, noRf_ok (by kernel_rfl), rfl, f58_h⟩ <|
 .cons rfl ⟨⟨Tryz.f59, f59_ok⟩, noRf_ok (by kernel_rfl), rfl, f59_h⟩ <|
 .cons rfl ⟨⟨Tryz.f60, f60_ok⟩, noRf_ok (by kernel_rfl), rfl, f60_h⟩ <|
 .cons rfl ⟨⟨Tryz.f61, f61_ok⟩, noRf_ok (by kernel_rfl), rfl, f61_h⟩ <|
 .cons rfl ⟨⟨Tryz.f62, f62_ok⟩, noRf_ok (by kernel_rfl), rfl, f62_h⟩ <|
 .cons rfl ⟨⟨Tryz.f65, f65_ok⟩, noRf_ok (by kernel_rfl), rfl, f65_h⟩ <|
 .cons rfl ⟨⟨Tryz.f66, f66_ok⟩, noRf_ok (by kernel_rfl), rfl, f66_h⟩ <|
 .cons rfl ⟨⟨Tryz.f67, f67_ok⟩, noRf_ok (by kernel_rfl), rfl, f67_h⟩ <|
 .cons rfl ⟨⟨Tryz.f68, f68_ok⟩, noRf_ok (by kernel_rfl), rfl, f68_h⟩ <|
 .cons rfl ⟨⟨Tryz.f69, f69_ok⟩, noRf_ok (by kernel_rfl), rfl, f69_h⟩ <|
 .cons rfl ⟨⟨Tryz.f70, f70_ok⟩, noRf_ok (by kernel_rfl), rfl, f70_h⟩ <|
 .cons rfl ⟨⟨Tryz.f71, f71_ok⟩, noRf_ok (by kernel_rfl), rfl, f71_h⟩ <|
 .cons rfl ⟨⟨Tryz.f72, f72_ok⟩, noRf_ok (by kernel_rfl), rfl, f72_h⟩ <|
  .nil
noncomputable def tab17L1 : List (Nat × FE) := [(73, .fn f73H f73S 14 1 f73X),
 (75, .fn f75H f75S 36 1 f75X),
 (78, .fn f78H f78S 113 2 f78X),
 (79, .fn f79H f79S 9 2 f79X),
 (80, .fn f80H f80S 12 2 f80X),
 (81, .fn f81H f81S 25 1 f81X),
 (82, .fn f82H f82S 8 1 f82X),
 (83, .fn f83H f83S 55 4 f83X),
 (84, .fn f84H f84S 20 2 f84X),
 (85, .fn f85H f85S 47 4 f85X),
 (86, .fn f86H f86S 10 2 f86X),
 (87, .fn f87H f87S 9 1 f87X),
 (88, .fn f88H f88S 72 3 f88X),
 (98, .fn f98H f98S 8 1 f98X),
 (102, .fn f102H f102S 26 2 f102X),
 (107, .fn f107H f107S 8 0 f107X),
 (108, .fn f108H f108S 17 1 f108X),
 (109, .fn f109H f109S 58 1 f109X),
 (110, .fn f110H f110S 45 7 f110X),
 (116, .fn f116H f116S 6 2 f116X),
 (121, .fn f121H f121S 66 4 f121X),
 (126, .fn f126H f126S 16 3 f126X),
 (127, .fn f127H f127S 15 3 f127X),
 (128, .fn f128H f128S 25 2 f128X),
 (129, .fn f129H f129S 30 2 f129X)]
set_option maxRecDepth 100000 in
theorem tab17L1_ok : AllOk (FEOk Tryz.prog) tab17L1 :=
 .cons rfl ⟨⟨Tryz.f73, f73_ok⟩, noRf_ok (by kernel_rfl), rfl, f73_h⟩ <|
 .cons rfl ⟨⟨Tryz.f75, f75_ok⟩, ⟨trivial, ⟨trivial, ⟨trivial, ⟨⟨trivial, ⟨rfl, rfl, rfl, rfl, rfl⟩⟩, ⟨trivial, trivial⟩⟩⟩⟩⟩, rfl, f75_h⟩ <|
 .cons rfl ⟨⟨Tryz.f78, f78_ok⟩, noRf_ok (by kernel_rfl), rfl, f78_h⟩ <|
 .cons rfl ⟨⟨Tryz.f79, f79_ok⟩, noRf_ok (by kernel_rfl), rfl, f79_h⟩ <|
 .cons rfl ⟨⟨Tryz.f80, f80_ok⟩, noRf_ok (by kernel_rfl), rfl, f80_h⟩ <|
 .cons rfl ⟨⟨Tryz.f81, f81_ok⟩, noRf_ok (by kernel_rfl), rfl, f81_h⟩ <|
 .cons rfl ⟨⟨Tryz.f82, f82_ok⟩, noRf_ok (by kernel_rfl), rfl, f82_h⟩ <|
 .cons rfl ⟨⟨Tryz.f83, f83_ok⟩, ⟨trivial, ⟨trivial, ⟨⟨trivial, ⟨⟨trivial, trivial⟩, trivial⟩⟩, ⟨⟨trivial, ⟨rfl, rfl, rfl, rfl, rfl⟩⟩, ⟨trivial, ⟨trivial, ⟨⟨trivial, ⟨rfl, rfl, rfl, rfl, rfl⟩⟩, ⟨trivial, trivial⟩⟩⟩⟩⟩⟩⟩⟩, rfl, f83_h⟩ <|
 .cons rfl ⟨⟨Tryz.f84, f84_ok⟩, noRf_ok (by kernel_rfl), rfl, f84_h⟩ <|
 .cons rfl ⟨⟨Tryz.f85, f85_ok⟩, noRf_ok (by kernel_rfl), rfl, f85_h⟩ <|
 .cons rfl ⟨⟨Tryz.f86, f86_ok⟩, noRf_ok (by kernel_rfl), rfl, f86_h⟩ <|
 .cons rfl ⟨⟨Tryz.f87, f87_ok⟩, noRf_ok (by kernel_rfl), rfl, f87_h⟩ <|
 .cons rfl ⟨⟨Tryz.f88, f88_ok⟩, noRf_ok (by kernel_rfl), rfl, f88_h⟩ <|
 .cons rfl ⟨⟨Tryz.f98, f98_ok⟩, noRf_ok (by kernel_rfl), rfl, f98_h⟩ <|
 .cons rfl ⟨⟨Tryz.f102, f102_ok⟩, noRf_ok (by kernel_rfl), rfl, f102_h⟩ <|
 .cons rfl ⟨⟨Tryz.f107, f107_ok⟩, noRf_ok (by kernel_rfl), rfl, f107_h⟩ <|
 .cons rfl ⟨⟨Tryz.f108, f108_ok⟩, noRf_ok (by kernel_rfl), rfl, f108_h⟩ <|
 .cons rfl ⟨⟨Tryz.f109, f109_ok⟩, noRf_ok (by kernel_rfl), rfl, f109_h⟩ <|
 .cons rfl ⟨⟨Tryz.f110, f110_ok⟩, noRf_ok (by kernel_rfl), rfl, f110_h⟩ <|
 .cons rfl ⟨⟨Tryz.f116, f116_ok⟩, noRf_ok (by kernel_rfl), rfl, f116_h⟩ <|
 .cons rfl ⟨⟨Tryz.f121, f121_ok⟩, noRf_ok (by kernel_rfl), rfl, f121_h⟩ <|
 .cons rfl ⟨⟨Tryz.f126, f126_ok⟩, noRf_ok (by kernel_rfl), rfl, f126_h⟩ <|
 .cons rfl ⟨⟨Tryz.f127, f127_ok⟩, noRf_ok (by kernel_rfl), rfl, f127_h⟩ <|
 .cons rfl ⟨⟨Tryz.f128, f128_ok⟩, noRf_ok (by kernel_rfl), rfl, f128_h⟩ <|
 .cons rfl ⟨⟨Tryz.f129, f129_ok⟩, noRf_ok (by kernel_rfl), rfl, f129_h⟩ <|
  .nil
noncomputable def tab17L2 : List (Nat × FE) := [(130, .fn f130H f130S 18 2 f130X),
 (131, .fn f131H f131S 17 2 f131X),
 (132, .fn f132H f132S 31 2 f132X),
 (133, .fn f133H f133S 29 2 f133X),
 (134, .fn f134H f134S 29 2 f134X),
 (135, .fn f135H f135S 57 2 f135X),
 (136, .fn f136H f136S 47 2 f136X),
 (137, .fn f137H f137S 30 2 f137X),
 (138, .fn f138H f138S 27 2 f138X),
 (139, .fn f139H f139S 67 2 f139X),
 (140, .fn f140H f140S 26 2 f140X),
 (141, .fn f141H f141S 31 2 f141X),
 (142, .fn f142H f142S 15 2 f142X),
 (143, .fn f143H f143S 55 2 f143X),
 (144, .fn f144H f144S 15 2 f144X),
 (145, .fn f145H f145S 40 2 f145X),
 (146, .fn f146H f146S 7 2 f146X),
 (147, .fn f147H f147S 38 2 f147X),
 (148, .fn f148H f148S 26 2 f148X),
 (149, .fn f149H f149S 9 2 f149X),
 (150, .fn f150H f150S 7 2 f150X),
 (151, .fn f151H f151S 9 2 f151X),
 (152, .fn f152H f152S 12 2 f152X),
 (153, .aload),
 (154, .fn f154H f154S 13 2 f154X)]
set_option maxRecDepth 100000 in
theorem tab17L2_ok : AllOk (FEOk Tryz.prog) tab17L2 :=
 .cons rfl ⟨⟨Tryz.f130, f130_ok⟩, noRf_ok (by kernel_rfl), rfl, f130_h⟩ <|
 .cons rfl ⟨⟨Tryz.f131, f131_ok⟩, noRf_ok (by kernel_rfl), rfl, f131_h⟩ <|
 .cons rfl ⟨⟨Tryz.f132, f132_ok⟩, noRf_ok (by kernel_rfl), rfl, f132_h⟩ <|
 .cons rfl ⟨⟨Tryz.f133, f133_ok⟩, noRf_ok (by kernel_rfl), rfl, f133_h⟩ <|
 .cons rfl ⟨⟨Tryz.f134, f134_ok⟩, noRf_ok (by kernel_rfl), rfl, f134_h⟩ <|
 .cons rfl ⟨⟨Tryz.f135, f135_ok⟩, noRf_ok (by kernel_rfl), rfl, f135_h⟩ <|
 .cons rfl ⟨⟨Tryz.f136, f136_ok⟩, noRf_ok (by kernel_rfl), rfl, f136_h⟩ <|
 .cons rfl ⟨⟨Tryz.f137, f137_ok⟩, noRf_ok (by kernel_rfl), rfl, f137_h⟩ <|
 .cons rfl ⟨⟨Tryz.f138, f138_ok⟩, noRf_ok (by kernel_rfl), rfl, f138_h⟩ <|
 .cons rfl ⟨⟨Tryz.f139, f139_ok⟩, noRf_ok (by kernel_rfl), rfl, f139_h⟩ <|
 .cons rfl ⟨⟨Tryz.f140, f140_ok⟩, noRf_ok (by kernel_rfl), rfl, f140_h⟩ <|
 .cons rfl ⟨⟨Tryz.f141, f141_ok⟩, noRf_ok (by kernel_rfl), rfl, f141_h⟩ <|
 .cons rfl ⟨⟨Tryz.f142, f142_ok⟩, noRf_ok (by kernel_rfl), rfl, f142_h⟩ <|
 .cons rfl ⟨⟨Tryz.f143, f143_ok⟩, noRf_ok (by kernel_rfl), rfl, f143_h⟩ <|
 .cons rfl ⟨⟨Tryz.f144, f144_ok⟩, noRf_ok (by kernel_rfl), rfl, f144_h⟩ <|
 .cons rfl ⟨⟨Tryz.f145, f145_ok⟩, noRf_ok (by kernel_rfl), rfl, f145_h⟩ <|
 .cons rfl ⟨⟨Tryz.f146, f146_ok⟩, noRf_ok (by kernel_rfl), rfl, f146_h⟩ <|
 .cons rfl ⟨⟨Tryz.f147, f147_ok⟩, noRf_ok (by kernel_rfl), rfl, f147_h⟩ <|
 .cons rfl ⟨⟨Tryz.f148, f148_ok⟩, noRf_ok (by kernel_rfl), rfl, f148_h⟩ <|
 .cons rfl ⟨⟨Tryz.f149, f149_ok⟩, noRf_ok (by kernel_rfl), rfl, f149_h⟩ <|
 .cons rfl ⟨⟨Tryz.f150, f150_ok⟩, noRf_ok (by kernel_rfl), rfl, f150_h⟩ <|
 .cons rfl ⟨⟨Tryz.f151, f151_ok⟩, noRf_ok (by kernel_rfl), rfl, f151_h⟩ <|
 .cons rfl ⟨⟨Tryz.f152, f152_ok⟩, noRf_ok (by kernel_rfl), rfl, f152_h⟩ <|
 .cons rfl ⟨Tryz.f153, ⟨Tryz.func153, by kernel_rfl, by kernel_rfl, by kernel_rfl⟩, by kernel_rfl⟩ <|
 .cons rfl ⟨⟨Tryz.f154, f154_ok⟩, noRf_ok (by kernel_rfl), rfl, f154_h⟩ <|
  .nil
noncomputable def tab17L3 : List (Nat × FE) := [(155, .fn f155H f155S 32 1 f155X),
 (156, .fn f156H f156S 10 1 f156X),
 (157, .fn f157H f157S 13 2 f157X),
 (158, .fn f158H f158S 16 3 f158X),
 (159, .fn f159H f159S 19 2 f159X),
 (160, .fn f160H f160S 28 1 f160X),
 (161, .fn f161H f161S 27 2 f161X),
 (162, .fn f162H f162S 6 2 f162X),
 (163, .fn f163H f163S 41 1 f163X),
 (164, .fn f164H f164S 6 2 f164X),
 (165, .fn f165H f165S 38 3 f165X),
 (166, .fn f166H f166S 17 1 f166X),
 (167, .fn f167H f167S 32 4 f167X),
 (168, .fn f168H f168S 23 2 f168X),
 (169, .fn f169H f169S 13 1 f169X),
 (190, .fn f190H f190S 10 0 f190X),
 (199, .fn f199H f199S 24 3 f199X),
 (205, .fn f205H f205S 10 2 f205X),
 (206, .fn f206H f206S 9 2 f206X),
 (207, .fn f207H f207S 23 2 f207X),
 (208, .fn f208H f208S 10 1 f208X),
 (209, .fn f209H f209S 14 2 f209X),
 (210, .fn f210H f210S 41 2 f210X),
 (211, .fn f211H f211S 23 2 f211X),
 (212, .fn f212H f212S 10 1 f212X)]
set_option maxRecDepth 100000 in
theorem tab17L3_ok : AllOk (FEOk Tryz.prog) tab17L3 :=
 .cons rfl ⟨⟨Tryz.f155, f155_ok⟩, noRf_ok (by kernel_rfl), rfl, f155_h⟩ <|
 .cons rfl ⟨⟨Tryz.f156, f156_ok⟩, noRf_ok (by kernel_rfl), rfl, f156_h⟩ <|
 .cons rfl ⟨⟨Tryz.f157, f157_ok⟩, noRf_ok (by kernel_rfl), rfl, f157_h⟩ <|
 .cons rfl ⟨⟨Tryz.f158, f158_ok⟩, noRf_ok (by kernel_rfl), rfl, f158_h⟩ <|
 .cons rfl ⟨⟨Tryz.f159, f159_ok⟩, noRf_ok (by kernel_rfl), rfl, f159_h⟩ <|
 .cons rfl ⟨⟨Tryz.f160, f160_ok⟩, noRf_ok (by kernel_rfl), rfl, f160_h⟩ <|
 .cons rfl ⟨⟨Tryz.f161, f161_ok⟩, noRf_ok (by kernel_rfl), rfl, f161_h⟩ <|
 .cons rfl ⟨⟨Tryz.f162, f162_ok⟩, noRf_ok (by kernel_rfl), rfl, f162_h⟩ <|
 .cons rfl ⟨⟨Tryz.f163, f163_ok⟩, noRf_ok (by kernel_rfl), rfl, f163_h⟩ <|
 .cons rfl ⟨⟨Tryz.f164, f164_ok⟩, noRf_ok (by kernel_rfl), rfl, f164_h⟩ <|
 .cons rfl ⟨⟨Tryz.f165, f165_ok⟩, noRf_ok (by kernel_rfl), rfl, f165_h⟩ <|
 .cons rfl ⟨⟨Tryz.f166, f166_ok⟩, noRf_ok (by kernel_rfl), rfl, f166_h⟩ <|
 .cons rfl ⟨⟨Tryz.f167, f167_ok⟩, noRf_ok (by kernel_rfl), rfl, f167_h⟩ <|
 .cons rfl ⟨⟨Tryz.f168, f168_ok⟩, ⟨trivial, ⟨⟨trivial, ⟨⟨trivial, trivial⟩, trivial⟩⟩, ⟨⟨trivial, ⟨rfl, rfl, rfl, rfl, rfl⟩⟩, ⟨trivial, trivial⟩⟩⟩⟩, rfl, f168_h⟩ <|
 .cons rfl ⟨⟨Tryz.f169, f169_ok⟩, noRf_ok (by kernel_rfl), rfl, f169_h⟩ <|
 .cons rfl ⟨⟨Tryz.f190, f190_ok⟩, noRf_ok (by kernel_rfl), rfl, f190_h⟩ <|
 .cons rfl ⟨⟨Tryz.f199, f199_ok⟩, noRf_ok (by kernel_rfl), rfl, f199_h⟩ <|
 .cons rfl ⟨⟨Tryz.f205, f205_ok⟩, noRf_ok (by kernel_rfl), rfl, f205_h⟩ <|
 .cons rfl ⟨⟨Tryz.f206, f206_ok⟩, noRf_ok (by kernel_rfl), rfl, f206_h⟩ <|
 .cons rfl ⟨⟨Tryz.f207, f207_ok⟩, noRf_ok (by kernel_rfl), rfl, f207_h⟩ <|
 .cons rfl ⟨⟨Tryz.f208, f208_ok⟩, noRf_ok (by kernel_rfl), rfl, f208_h⟩ <|
 .cons rfl ⟨⟨Tryz.f209, f209_ok⟩, noRf_ok (by kernel_rfl), rfl, f209_h⟩ <|
 .cons rfl ⟨⟨Tryz.f210, f210_ok⟩, noRf_ok (by kernel_rfl), rfl, f210_h⟩ <|
 .cons rfl ⟨⟨Tryz.f211, f211_ok⟩, noRf_ok (by kernel_rfl), rfl, f211_h⟩ <|
 .cons rfl ⟨⟨Tryz.f212, f212_ok⟩, noRf_ok (by kernel_rfl), rfl, f212_h⟩ <|
  .nil
noncomputable def tab17L4 : List (Nat × FE) := [(213, .fn f213H f213S 6 1 f213X),
 (214, .fn f214H f214S 10 2 f214X),
 (215, .fn f215H f215S 8 1 f215X),
 (216, .fn f216H f216S 13 1 f216X),
 (217, .fn f217H f217S 6 1 f217X),
 (218, .fn f218H f218S 10 2 f218X),
 (219, .fn f219H f219S 8 1 f219X),
 (220, .fn f220H f220S 17 4 f220X),
 (221, .fn f221H f221S 42 1 f221X),
 (222, .fn f222H f222S 55 1 f222X),
 (223, .fn f223H f223S 31 2 f223X),
 (224, .fn f224H f224S 11 2 f224X),
 (225, .fn f225H f225S 19 2 f225X),
 (226, .fn f226H f226S 7 1 f226X),
 (227, .fn f227H f227S 9 2 f227X),
 (228, .fn f228H f228S 10 2 f228X),
 (229, .fn f229H f229S 12 3 f229X),
 (230, .fn f230H f230S 23 2 f230X),
 (231, .fn f231H f231S 6 1 f231X),
 (232, .fn f232H f232S 10 2 f232X),
 (233, .fn f233H f233S 25 3 f233X),
 (234, .fn f234H f234S 12 2 f234X),
 (235, .fn f235H f235S 39 2 f235X),
 (236, .fn f236H f236S 10 1 f236X),
 (237, .fn f237H f237S 69 3 f237X)]
set_option maxRecDepth 100000 in
theorem tab17L4_ok : AllOk (FEOk Tryz.prog) tab17L4 :=
 .cons rfl ⟨⟨Tryz.f213, f213_ok⟩, noRf_ok (by kernel_rfl), rfl, f213_h⟩ <|
 .cons rfl ⟨⟨Tryz.f214, f214_ok⟩, noRf_ok (by kernel_rfl), rfl, f214_h⟩ <|
 .cons rfl ⟨⟨Tryz.f215, f215_ok⟩, noRf_ok (by kernel_rfl), rfl, f215_h⟩ <|
 .cons rfl ⟨⟨Tryz.f216, f216_ok⟩, noRf_ok (by kernel_rfl), rfl, f216_h⟩ <|
 .cons rfl ⟨⟨Tryz.f217, f217_ok⟩, noRf_ok (by kernel_rfl), rfl, f217_h⟩ <|
 .cons rfl ⟨⟨Tryz.f218, f218_ok⟩, noRf_ok (by kernel_rfl), rfl, f218_h⟩ <|
 .cons rfl ⟨⟨Tryz.f219, f219_ok⟩, noRf_ok (by kernel_rfl), rfl, f219_h⟩ <|
 .cons rfl ⟨⟨Tryz.f220, f220_ok⟩, noRf_ok (by kernel_rfl), rfl, f220_h⟩ <|
 .cons rfl ⟨⟨Tryz.f221, f221_ok⟩, noRf_ok (by kernel_rfl), rfl, f221_h⟩ <|
 .cons rfl ⟨⟨Tryz.f222, f222_ok⟩, noRf_ok (by kernel_rfl), rfl, f222_h⟩ <|
 .cons rfl ⟨⟨Tryz.f223, f223_ok⟩, noRf_ok (by kernel_rfl), rfl, f223_h⟩ <|
 .cons rfl ⟨⟨Tryz.f224, f224_ok⟩, noRf_ok (by kernel_rfl), rfl, f224_h⟩ <|
 .cons rfl ⟨⟨Tryz.f225, f225_ok⟩, noRf_ok (by kernel_rfl), rfl, f225_h⟩ <|
 .cons rfl ⟨⟨Tryz.f226, f226_ok⟩, noRf_ok (by kernel_rfl), rfl, f226_h⟩ <|
 .cons rfl ⟨⟨Tryz.f227, f227_ok⟩, noRf_ok (by kernel_rfl), rfl, f227_h⟩ <|
 .cons rfl ⟨⟨Tryz.f228, f228_ok⟩, noRf_ok (by kernel_rfl), rfl, f228_h⟩ <|
 .cons rfl ⟨⟨Tryz.f229, f229_ok⟩, noRf_ok (by kernel_rfl), rfl, f229_h⟩ <|
 .cons rfl ⟨⟨Tryz.f230, f230_ok⟩, noRf_ok (by kernel_rfl), rfl, f230_h⟩ <|
 .cons rfl ⟨⟨Tryz.f231, f231_ok⟩, noRf_ok (by kernel_rfl), rfl, f231_h⟩ <|
 .cons rfl ⟨⟨Tryz.f232, f232_ok⟩, noRf_ok (by kernel_rfl), rfl, f232_h⟩ <|
 .cons rfl ⟨⟨Tryz.f233, f233_ok⟩, noRf_ok (by kernel_rfl), rfl, f233_h⟩ <|
 .cons rfl ⟨⟨Tryz.f234, f234_ok⟩, noRf_ok (by kernel_rfl), rfl, f234_h⟩ <|
 .cons rfl ⟨⟨Tryz.f235, f235_ok⟩, noRf_ok (by kernel_rfl), rfl, f235_h⟩ <|
 .cons rfl ⟨⟨Tryz.f236, f236_ok⟩, noRf_ok (by kernel_rfl), rfl, f236_h⟩ <|
 .cons rfl ⟨⟨Tryz.f237, f237_ok⟩, noRf_ok (by kernel_rfl), rfl, f237_h⟩ <|
  .nil
noncomputable def tab17L5 : List (Nat × FE) := [(238, .fn f238H f238S 14 2 f238X),
 (239, .fn f239H f239S 49 3 f239X),
 (240, .fn f240H f240S 9 2 f240X),
 (241, .fn f241H f241S 6 2 f241X),
 (242, .fn f242H f242S 34 1 f242X),
 (243, .fn f243H f243S 15 2 f243X),
 (244, .fn f244H f244S 62 3 f244X),
 (253, .fn f253H f253S 11 1 f253X),
 (254, .fn f254H f254S 7 1 f254X),
 (255, .fn f255H f255S 20 1 f255X),
 (256, .fn f256H f256S 13 2 f256X),
 (257, .fn f257H f257S 4 1 f257X),
 (258, .fn f258H f258S 15 2 f258X),
 (259, .fn f259H f259S 8 2 f259X),
 (260, .fn f260H f260S 11 1 f260X),
 (261, .fn f261H f261S 30 1 f261X),
 (268, .aadd),
 (269, .astore),
 (270, .fn f270H f270S 19 1 f270X),
 (271, .fn f271H f271S 18 2 f271X),
 (272, .fn f272H f272S 15 2 f272X),
 (273, .fn f273H f273S 9 2 f273X),
 (274, .fn f274H f274S 48 2 f274X),
 (275, .fn f275H f275S 25 2 f275X),
 (276, .fn f276H f276S 20 2 f276X)]
set_option maxRecDepth 100000 in
theorem tab17L5_ok : AllOk (FEOk Tryz.prog) tab17L5 :=
 .cons rfl ⟨⟨Tryz.f238, f238_ok⟩, noRf_ok (by kernel_rfl), rfl, f238_h⟩ <|
 .cons rfl ⟨⟨Tryz.f239, f239_ok⟩, noRf_ok (by kernel_rfl), rfl, f239_h⟩ <|
 .cons rfl ⟨⟨Tryz.f240, f240_ok⟩, noRf_ok (by kernel_rfl), rfl, f240_h⟩ <|
 .cons rfl ⟨⟨Tryz.f241, f241_ok⟩, noRf_ok (by kernel_rfl), rfl, f241_h⟩ <|
 .cons rfl ⟨⟨Tryz.f242, f242_ok⟩, noRf_ok (by kernel_rfl), rfl, f242_h⟩ <|
 .cons rfl ⟨⟨Tryz.f243, f243_ok⟩, noRf_ok (by kernel_rfl), rfl, f243_h⟩ <|
 .cons rfl ⟨⟨Tryz.f244, f244_ok⟩, noRf_ok (by kernel_rfl), rfl, f244_h⟩ <|
 .cons rfl ⟨⟨Tryz.f253, f253_ok⟩, noRf_ok (by kernel_rfl), rfl, f253_h⟩ <|
 .cons rfl ⟨⟨Tryz.f254, f254_ok⟩, noRf_ok (by kernel_rfl), rfl, f254_h⟩ <|
 .cons rfl ⟨⟨Tryz.f255, f255_ok⟩, noRf_ok (by kernel_rfl), rfl, f255_h⟩ <|
 .cons rfl ⟨⟨Tryz.f256, f256_ok⟩, noRf_ok (by kernel_rfl), rfl, f256_h⟩ <|
 .cons rfl ⟨⟨Tryz.f257, f257_ok⟩, noRf_ok (by kernel_rfl), rfl, f257_h⟩ <|
 .cons rfl ⟨⟨Tryz.f258, f258_ok⟩, noRf_ok (by kernel_rfl), rfl, f258_h⟩ <|
 .cons rfl ⟨⟨Tryz.f259, f259_ok⟩, noRf_ok (by kernel_rfl), rfl, f259_h⟩ <|
 .cons rfl ⟨⟨Tryz.f260, f260_ok⟩, noRf_ok (by kernel_rfl), rfl, f260_h⟩ <|
 .cons rfl ⟨⟨Tryz.f261, f261_ok⟩, noRf_ok (by kernel_rfl), rfl, f261_h⟩ <|
 .cons rfl ⟨Tryz.f268, ⟨Tryz.func268, by kernel_rfl, by kernel_rfl, by kernel_rfl⟩, by kernel_rfl⟩ <|
 .cons rfl ⟨Tryz.f269, ⟨Tryz.func269, by kernel_rfl, by kernel_rfl, by kernel_rfl⟩, by kernel_rfl⟩ <|
 .cons rfl ⟨⟨Tryz.f270, f270_ok⟩, noRf_ok (by kernel_rfl), rfl, f270_h⟩ <|
 .cons rfl ⟨⟨Tryz.f271, f271_ok⟩, noRf_ok (by kernel_rfl), rfl, f271_h⟩ <|
 .cons rfl ⟨⟨Tryz.f272, f272_ok⟩, noRf_ok (by kernel_rfl), rfl, f272_h⟩ <|
 .cons rfl ⟨⟨Tryz.f273, f273_ok⟩, noRf_ok (by kernel_rfl), rfl, f273_h⟩ <|
 .cons rfl ⟨⟨Tryz.f274, f274_ok⟩, noRf_ok (by kernel_rfl), rfl, f274_h⟩ <|
 .cons rfl ⟨⟨Tryz.f275, f275_ok⟩, noRf_ok (by kernel_rfl), rfl, f275_h⟩ <|
 .cons rfl ⟨⟨Tryz.f276, f276_ok⟩, noRf_ok (by kernel_rfl), rfl, f276_h⟩ <|
  .nil
noncomputable def tab17L6 : List (Nat × FE) := [(277, .fn f277H f277S 20 1 f277X),
 (278, .fn f278H f278S 9 2 f278X),
 (279, .fn f279H f279S 9 2 f279X),
 (280, .fn f280H f280S 24 2 f280X),
 (281, .fn f281H f281S 19 2 f281X),
 (282, .fn f282H f282S 34 2 f282X),
 (283, .fn f283H f283S 9 2 f283X),
 (284, .fn f284H f284S 29 2 f284X),
 (285, .fn f285H f285S 5 1 f285X),
 (286, .fn f286H f286S 9 2 f286X),
 (287, .fn f287H f287S 13 1 f287X),
 (288, .fn f288H f288S 21 4 f288X),
 (289, .fn f289H f289S 7 2 f289X),
 (290, .fn f290H f290S 9 2 f290X),
 (291, .fn f291H f291S 31 2 f291X),
 (292, .fn f292H f292S 19 2 f292X),
 (293, .fn f293H f293S 20 2 f293X),
 (294, .fn f294H f294S 8 2 f294X),
 (295, .fn f295H f295S 11 2 f295X),
 (296, .fn f296H f296S 16 2 f296X),
 (297, .fn f297H f297S 6 1 f297X),
 (298, .fn f298H f298S 10 2 f298X),
 (299, .fn f299H f299S 19 2 f299X),
 (300, .fn f300H f300S 20 2 f300X),
 (301, .fn f301H f301S 17 2 f301X)]
set_option maxRecDepth 100000 in
theorem tab17L6_ok : AllOk (FEOk Tryz.prog) tab17L6 :=
 .cons rfl ⟨⟨Tryz.f277, f277_ok⟩, noRf_ok (by kernel_rfl), rfl, f277_h⟩ <|
 .cons rfl ⟨⟨Tryz.f278, f278_ok⟩, noRf_ok (by kernel_rfl), rfl, f278_h⟩ <|
 .cons rfl ⟨⟨Tryz.f279, f279_ok⟩, noRf_ok (by kernel_rfl), rfl, f279_h⟩ <|
 .cons rfl ⟨⟨Tryz.f280, f280_ok⟩, noRf_ok (by kernel_rfl), rfl, f280_h⟩ <|
 .cons rfl ⟨⟨Tryz.f281, f281_ok⟩, noRf_ok (by kernel_rfl), rfl, f281_h⟩ <|
 .cons rfl ⟨⟨Tryz.f282, f282_ok⟩, noRf_ok (by kernel_rfl), rfl, f282_h⟩ <|
 .cons rfl ⟨⟨Tryz.f283, f283_ok⟩, noRf_ok (by kernel_rfl), rfl, f283_h⟩ <|
 .cons rfl ⟨⟨Tryz.f284, f284_ok⟩, noRf_ok (by kernel_rfl), rfl, f284_h⟩ <|
 .cons rfl ⟨⟨Tryz.f285, f285_ok⟩, noRf_ok (by kernel_rfl), rfl, f285_h⟩ <|
 .cons rfl ⟨⟨Tryz.f286, f286_ok⟩, noRf_ok (by kernel_rfl), rfl, f286_h⟩ <|
 .cons rfl ⟨⟨Tryz.f287, f287_ok⟩, noRf_ok (by kernel_rfl), rfl, f287_h⟩ <|
 .cons rfl ⟨⟨Tryz.f288, f288_ok⟩, noRf_ok (by kernel_rfl), rfl, f288_h⟩ <|
 .cons rfl ⟨⟨Tryz.f289, f289_ok⟩, noRf_ok (by kernel_rfl), rfl, f289_h⟩ <|
 .cons rfl ⟨⟨Tryz.f290, f290_ok⟩, noRf_ok (by kernel_rfl), rfl, f290_h⟩ <|
 .cons rfl ⟨⟨Tryz.f291, f291_ok⟩, noRf_ok (by kernel_rfl), rfl, f291_h⟩ <|
 .cons rfl ⟨⟨Tryz.f292, f292_ok⟩, noRf_ok (by kernel_rfl), rfl, f292_h⟩ <|
 .cons rfl ⟨⟨Tryz.f293, f293_ok⟩, noRf_ok (by kernel_rfl), rfl, f293_h⟩ <|
 .cons rfl ⟨⟨Tryz.f294, f294_ok⟩, noRf_ok (by kernel_rfl), rfl, f294_h⟩ <|
 .cons rfl ⟨⟨Tryz.f295, f295_ok⟩, noRf_ok (by kernel_rfl), rfl, f295_h⟩ <|
 .cons rfl ⟨⟨Tryz.f296, f296_ok⟩, noRf_ok (by kernel_rfl), rfl, f296_h⟩ <|
 .cons rfl ⟨⟨Tryz.f297, f297_ok⟩, noRf_ok (by kernel_rfl), rfl, f297_h⟩ <|
 .cons rfl ⟨⟨Tryz.f298, f298_ok⟩, noRf_ok (by kernel_rfl), rfl, f298_h⟩ <|
 .cons rfl ⟨⟨Tryz.f299, f299_ok⟩, noRf_ok (by kernel_rfl), rfl, f299_h⟩ <|
 .cons rfl ⟨⟨Tryz.f300, f300_ok⟩, noRf_ok (by kernel_rfl), rfl, f300_h⟩ <|
 .cons rfl ⟨⟨Tryz.f301, f301_ok⟩, noRf_ok (by kernel_rfl), rfl, f301_h⟩ <|
  .nil
noncomputable def tab17L7 : List (Nat × FE) := [(302, .fn f302H f302S 16 2 f302X),
 (303, .fn f303H f303S 17 2 f303X),
 (304, .fn f304H f304S 24 3 f304X),
 (305, .fn f305H f305S 9 2 f305X),
 (306, .fn f306H f306S 9 2 f306X),
 (307, .fn f307H f307S 10 3 f307X),
 (308, .fn f308H f308S 11 2 f308X),
 (309, .fn f309H f309S 12 1 f309X),
 (310, .fn f310H f310S 11 2 f310X),
 (311, .fn f311H f311S 15 2 f311X),
 (312, .fn f312H f312S 11 2 f312X),
 (313, .fn f313H f313S 12 1 f313X),
 (314, .fn f314H f314S 13 3 f314X),
 (315, .fn f315H f315S 11 3 f315X),
 (316, .fn f316H f316S 19 2 f316X),
 (317, .acas)]
set_option maxRecDepth 100000 in
theorem tab17L7_ok : AllOk (FEOk Tryz.prog) tab17L7 :=
 .cons rfl ⟨⟨Tryz.f302, f302_ok⟩, noRf_ok (by kernel_rfl), rfl, f302_h⟩ <|
 .cons rfl ⟨⟨Tryz.f303, f303_ok⟩, noRf_ok (by kernel_rfl), rfl, f303_h⟩ <|
 .cons rfl ⟨⟨Tryz.f304, f304_ok⟩, noRf_ok (by kernel_rfl), rfl, f304_h⟩ <|
 .cons rfl ⟨⟨Tryz.f305, f305_ok⟩, noRf_ok (by kernel_rfl), rfl, f305_h⟩ <|
 .cons rfl ⟨⟨Tryz.f306, f306_ok⟩, noRf_ok (by kernel_rfl), rfl, f306_h⟩ <|
 .cons rfl ⟨⟨Tryz.f307, f307_ok⟩, noRf_ok (by kernel_rfl), rfl, f307_h⟩ <|
 .cons rfl ⟨⟨Tryz.f308, f308_ok⟩, noRf_ok (by kernel_rfl), rfl, f308_h⟩ <|
 .cons rfl ⟨⟨Tryz.f309, f309_ok⟩, noRf_ok (by kernel_rfl), rfl, f309_h⟩ <|
 .cons rfl ⟨⟨Tryz.f310, f310_ok⟩, noRf_ok (by kernel_rfl), rfl, f310_h⟩ <|
 .cons rfl ⟨⟨Tryz.f311, f311_ok⟩, noRf_ok (by kernel_rfl), rfl, f311_h⟩ <|
 .cons rfl ⟨⟨Tryz.f312, f312_ok⟩, noRf_ok (by kernel_rfl), rfl, f312_h⟩ <|
 .cons rfl ⟨⟨Tryz.f313, f313_ok⟩, noRf_ok (by kernel_rfl), rfl, f313_h⟩ <|
 .cons rfl ⟨⟨Tryz.f314, f314_ok⟩, noRf_ok (by kernel_rfl), rfl, f314_h⟩ <|
 .cons rfl ⟨⟨Tryz.f315, f315_ok⟩, noRf_ok (by kernel_rfl), rfl, f315_h⟩ <|
 .cons rfl ⟨⟨Tryz.f316, f316_ok⟩, noRf_ok (by kernel_rfl), rfl, f316_h⟩ <|
 .cons rfl ⟨Tryz.f317, ⟨Tryz.func317, by kernel_rfl, by kernel_rfl, by kernel_rfl⟩, by kernel_rfl⟩ <|
  .nil
noncomputable def tab17L : List (Nat × FE) := tab17L0 ++ tab17L1 ++ tab17L2 ++ tab17L3 ++ tab17L4 ++ tab17L5 ++ tab17L6 ++ tab17L7
theorem tab17L_ok : AllOk (FEOk Tryz.prog) tab17L := (((((((tab17L0_ok).append tab17L1_ok).append tab17L2_ok).append tab17L3_ok).append tab17L4_ok).append tab17L5_ok).append tab17L6_ok).append tab17L7_ok
theorem mixed : Tryz.prog.follows .mixedOrders = true := by kernel_rfl
end Vm
end Go.Proofs.YtcafmkekkcbamaaGreat
