/- impl.letter, strconv.Itoa, strings.Join, strings.Split, strings.IndexByte and strconv.Atoi at this seat, in the print's shape; the variables that they read. -/
import Derived.Test.YtonapnobpllfoaaDoorRows
import Derived.Test.YtonapnobpllfoaaDoorQFnCodeTextW
import Derived.Shelf.Strconv.Itoa3
import Derived.Shelf.Strings.OnBuilder
import Derived.Shelf.Strings.SplitShaped
import Derived.Shelf.Strconv.ErrVarAll
import Derived.Shelf.Vars
import Derived.Stop.LaidErr
import Derived.HandedShaped
import Derived.Lib.QuietBelow
import Derived.Lib.LaidU8
import Derived.LaidMore
import Derived.Lay
import Derived.ProofKit
import Derived.Stop.Joined
namespace Go.Proofs.YtonapnobpllfoaaDoor.Tz
open Go.Shelf Go.RowKit Go.Proofs.YtonapnobpllfoaaDoorW.PrintWords Go.Proofs.YtonapnobpllfoaaDoorW.PrintLast Go.Proofs.YtonapnobpllfoaaDoorW.PrintMore
set_option linter.unusedVariables false
set_option linter.unusedSimpArgs false
def l171_ren : Ren := ⟨fun x => match x with | 171 => 42 | 243 => 61 | 246 => 78 | 283 => 88 | 284 => 89 | 285 => 90 | 286 => 91 | 129 => 98 | 317 => 97 | 318 => 99 | 319 => 100 | 320 => 101 | 337 => 102 | 338 => 103 | n => n, fun x => match x with | 3 => 3 | 9 => 9 | 2 => 2 | 4 => 4 | 171 => 101 | 0 => 0 | 53 => 52 | 37 => 34 | 5 => 5 | 173 => 104 | 212 => 121 | 51 => 113 | 20 => 20 | 213 => 122 | 46 => 94 | 232 => 125 | 233 => 126 | n => n, fun x => match x with | 17 => 5 | 18 => 6 | 19 => 7 | n => n⟩
theorem l171 : LaysM.n171 Tryd.prog l171_ren := { mixed := by kernel_rfl, f129 := Tryd.func98.trans (congrArg some (by kernel_rfl)), f171 := Tryd.func42.trans (congrArg some (by kernel_rfl)), f243 := Tryd.func61.trans (congrArg some (by kernel_rfl)), f246 := Tryd.func78.trans (congrArg some (by kernel_rfl)), f283 := Tryd.func88.trans (congrArg some (by kernel_rfl)), f284 := Tryd.func89.trans (congrArg some (by kernel_rfl)), f285 := Tryd.func90.trans (congrArg some (by kernel_rfl)), f286 := Tryd.func91.trans (congrArg some (by kernel_rfl)), f317 := Tryd.func97.trans (congrArg some (by kernel_rfl)), f318 := Tryd.func99.trans (congrArg some (by kernel_rfl)), f319 := Tryd.func100.trans (congrArg some (by kernel_rfl)), f320 := Tryd.func101.trans (congrArg some (by kernel_rfl)), f337 := Tryd.func102.trans (congrArg some (by kernel_rfl)), f338 := Tryd.func103.trans (congrArg some (by kernel_rfl)), t0 := Tryd.underlying0, a0 := Tryd.isAgg0, z0 := Tryd.sizeOf0, v0 := Tryd.zeroValue0, t2 := Tryd.underlying2, a2 := Tryd.isAgg2, z2 := Tryd.sizeOf2, v2 := Tryd.zeroValue2, t3 := Tryd.underlying3, a3 := Tryd.isAgg3, z3 := Tryd.sizeOf3, v3 := Tryd.zeroValue3, t4 := Tryd.underlying4, a4 := Tryd.isAgg4, z4 := Tryd.sizeOf4, v4 := Tryd.zeroValue4, t5 := Tryd.underlying5, a5 := Tryd.isAgg5, z5 := Tryd.sizeOf5, v5 := Tryd.zeroValue5, t9 := Tryd.underlying9, a9 := Tryd.isAgg9, z9 := Tryd.sizeOf9, v9 := Tryd.zeroValue9, t20 := Tryd.underlying20, a20 := Tryd.isAgg20, z20 := Tryd.sizeOf20, v20 := Tryd.zeroValue20, t37 := Tryd.underlying34, a37 := Tryd.isAgg34, z37 := Tryd.sizeOf34, v37 := Tryd.zeroValue34, t46 := Tryd.underlying94, a46 := Tryd.isAgg94, z46 := Tryd.sizeOf94, v46 := Tryd.zeroValue94, t51 := Tryd.underlying113, a51 := Tryd.isAgg113, z51 := Tryd.sizeOf113, v51 := Tryd.zeroValue113, t53 := Tryd.underlying52, a53 := Tryd.isAgg52, z53 := Tryd.sizeOf52, v53 := Tryd.zeroValue52, t171 := Tryd.underlying101, a171 := Tryd.isAgg101, z171 := Tryd.sizeOf101, v171 := Tryd.zeroValue101, t173 := Tryd.underlying104, a173 := Tryd.isAgg104, z173 := Tryd.sizeOf104, v173 := Tryd.zeroValue104, t212 := Tryd.underlying121, a212 := Tryd.isAgg121, z212 := Tryd.sizeOf121, v212 := Tryd.zeroValue121, t213 := Tryd.underlying122, a213 := Tryd.isAgg122, z213 := Tryd.sizeOf122, t232 := Tryd.underlying125, a232 := Tryd.isAgg125, z232 := Tryd.sizeOf125, v232 := Tryd.zeroValue125, t233 := Tryd.underlying126, a233 := Tryd.isAgg126, z233 := Tryd.sizeOf126, v233 := Tryd.zeroValue126, g17 := by kernel_rfl, g18 := by kernel_rfl, g19 := by kernel_rfl, i0 := by kernel_rfl, i2 := by kernel_rfl, i3 := by kernel_rfl, i4 := by kernel_rfl, i5 := by kernel_rfl, i9 := by kernel_rfl, i20 := by kernel_rfl, i37 := by kernel_rfl, i46 := by kernel_rfl, i51 := by kernel_rfl, i53 := by kernel_rfl, i171 := by kernel_rfl, i173 := by kernel_rfl, i212 := by kernel_rfl, i232 := by kernel_rfl, i233 := by kernel_rfl, m17 := by kernel_rfl, m18 := by kernel_rfl, m19 := by kernel_rfl }
def l156_ren : Ren := ⟨fun x => match x with | 156 => 43 | 165 => 62 | 166 => 63 | 169 => 64 | 240 => 79 | 241 => 80 | 276 => 92 | 277 => 93 | n => n, fun x => match x with | 31 => 38 | 9 => 9 | 3 => 3 | 4 => 4 | 0 => 0 | 20 => 20 | 72 => 78 | 76 => 64 | 70 => 76 | 37 => 34 | 75 => 63 | 127 => 93 | 164 => 106 | 5 => 5 | 80 => 80 | n => n, fun x => x⟩
theorem l156 : Lays.n156 Tryd.prog l156_ren := { mixed := by kernel_rfl, f156 := Tryd.func43.trans (congrArg some (by kernel_rfl)), f165 := Tryd.func62.trans (congrArg some (by kernel_rfl)), f166 := Tryd.func63.trans (congrArg some (by kernel_rfl)), f169 := Tryd.func64.trans (congrArg some (by kernel_rfl)), f240 := Tryd.func79.trans (congrArg some (by kernel_rfl)), f241 := Tryd.func80.trans (congrArg some (by kernel_rfl)), f276 := Tryd.func92.trans (congrArg some (by kernel_rfl)), f277 := Tryd.func93.trans (congrArg some (by kernel_rfl)), t0 := Tryd.underlying0, a0 := Tryd.isAgg0, z0 := Tryd.sizeOf0, v0 := Tryd.zeroValue0, t3 := Tryd.underlying3, a3 := Tryd.isAgg3, z3 := Tryd.sizeOf3, v3 := Tryd.zeroValue3, t4 := Tryd.underlying4, a4 := Tryd.isAgg4, z4 := Tryd.sizeOf4, v4 := Tryd.zeroValue4, t9 := Tryd.underlying9, a9 := Tryd.isAgg9, z9 := Tryd.sizeOf9, v9 := Tryd.zeroValue9, t20 := Tryd.underlying20, a20 := Tryd.isAgg20, z20 := Tryd.sizeOf20, v20 := Tryd.zeroValue20, t31 := Tryd.underlying38, a31 := Tryd.isAgg38, z31 := Tryd.sizeOf38, v31 := Tryd.zeroValue38, t37 := Tryd.underlying34, a37 := Tryd.isAgg34, z37 := Tryd.sizeOf34, v37 := Tryd.zeroValue34, t70 := Tryd.underlying76, a70 := Tryd.isAgg76, z70 := Tryd.sizeOf76, v70 := Tryd.zeroValue76, t72 := Tryd.underlying78, a72 := Tryd.isAgg78, z72 := Tryd.sizeOf78, v72 := Tryd.zeroValue78, t75 := Tryd.underlying63, a75 := Tryd.isAgg63, z75 := Tryd.sizeOf63, v75 := Tryd.zeroValue63, t76 := Tryd.underlying64, a76 := Tryd.isAgg64, z76 := Tryd.sizeOf64, v76 := Tryd.zeroValue64, t127 := Tryd.underlying93, a127 := Tryd.isAgg93, z127 := Tryd.sizeOf93, v127 := Tryd.zeroValue93, t164 := Tryd.underlying106, a164 := Tryd.isAgg106, z164 := Tryd.sizeOf106, v164 := Tryd.zeroValue106 }
def l146_ren : Ren := ⟨fun x => match x with | 146 => 21 | 221 => 35 | 268 => 52 | 138 => 53 | 143 => 54 | 195 => 67 | 197 => 68 | 218 => 69 | 219 => 70 | 260 => 81 | 217 => 57 | 225 => 82 | 224 => 83 | 267 => 84 | 266 => 76 | 314 => 94 | n => n, fun x => match x with | 9 => 9 | 31 => 38 | 3 => 3 | 4 => 4 | 0 => 0 | 105 => 84 | 21 => 21 | 5 => 5 | 46 => 94 | 119 => 109 | 139 => 112 | 138 => 111 | 146 => 114 | 51 => 113 | n => n, fun x => match x with | 1 => 0 | 3 => 3 | 4 => 4 | n => n⟩
theorem l146 : LaysM.n146 Tryd.prog l146_ren := { mixed := by kernel_rfl, f138 := Tryd.func53.trans (congrArg some (by kernel_rfl)), f143 := Tryd.func54.trans (congrArg some (by kernel_rfl)), f146 := Tryd.func21.trans (congrArg some (by kernel_rfl)), f195 := Tryd.func67.trans (congrArg some (by kernel_rfl)), f197 := Tryd.func68.trans (congrArg some (by kernel_rfl)), f217 := Tryd.func57.trans (congrArg some (by kernel_rfl)), f218 := Tryd.func69.trans (congrArg some (by kernel_rfl)), f219 := Tryd.func70.trans (congrArg some (by kernel_rfl)), f221 := Tryd.func35.trans (congrArg some (by kernel_rfl)), f224 := Tryd.func83.trans (congrArg some (by kernel_rfl)), f225 := Tryd.func82.trans (congrArg some (by kernel_rfl)), f260 := Tryd.func81.trans (congrArg some (by kernel_rfl)), f266 := Tryd.func76.trans (congrArg some (by kernel_rfl)), f267 := Tryd.func84.trans (congrArg some (by kernel_rfl)), f268 := Tryd.func52.trans (congrArg some (by kernel_rfl)), f314 := Tryd.func94.trans (congrArg some (by kernel_rfl)), t0 := Tryd.underlying0, a0 := Tryd.isAgg0, z0 := Tryd.sizeOf0, v0 := Tryd.zeroValue0, t3 := Tryd.underlying3, a3 := Tryd.isAgg3, z3 := Tryd.sizeOf3, v3 := Tryd.zeroValue3, t4 := Tryd.underlying4, a4 := Tryd.isAgg4, z4 := Tryd.sizeOf4, v4 := Tryd.zeroValue4, t5 := Tryd.underlying5, a5 := Tryd.isAgg5, z5 := Tryd.sizeOf5, v5 := Tryd.zeroValue5, t9 := Tryd.underlying9, a9 := Tryd.isAgg9, z9 := Tryd.sizeOf9, v9 := Tryd.zeroValue9, t21 := Tryd.underlying21, a21 := Tryd.isAgg21, z21 := Tryd.sizeOf21, v21 := Tryd.zeroValue21, t31 := Tryd.underlying38, a31 := Tryd.isAgg38, z31 := Tryd.sizeOf38, v31 := Tryd.zeroValue38, t46 := Tryd.underlying94, a46 := Tryd.isAgg94, z46 := Tryd.sizeOf94, v46 := Tryd.zeroValue94, t51 := Tryd.underlying113, a51 := Tryd.isAgg113, z51 := Tryd.sizeOf113, v51 := Tryd.zeroValue113, t105 := Tryd.underlying84, a105 := Tryd.isAgg84, z105 := Tryd.sizeOf84, v105 := Tryd.zeroValue84, t119 := Tryd.underlying109, a119 := Tryd.isAgg109, z119 := Tryd.sizeOf109, t138 := Tryd.underlying111, a138 := Tryd.isAgg111, z138 := Tryd.sizeOf111, v138 := Tryd.zeroValue111, t139 := Tryd.underlying112, a139 := Tryd.isAgg112, z139 := Tryd.sizeOf112, v139 := Tryd.zeroValue112, t146 := Tryd.underlying114, a146 := Tryd.isAgg114, z146 := Tryd.sizeOf114, v146 := Tryd.zeroValue114, g1 := by kernel_rfl, g3 := by kernel_rfl, g4 := by kernel_rfl, i0 := by kernel_rfl, i3 := by kernel_rfl, i4 := by kernel_rfl, i5 := by kernel_rfl, i9 := by kernel_rfl, i21 := by kernel_rfl, i31 := by kernel_rfl, i46 := by kernel_rfl, i51 := by kernel_rfl, i105 := by kernel_rfl, i138 := by kernel_rfl, i139 := by kernel_rfl, i146 := by kernel_rfl, m1 := by kernel_rfl, s1_3 := fun w h => cell_of_shapedOpen_int (zero := #[.int .i64 0]) (t := 3) h (of_decide_eq_true (by kernel_rfl)) (by kernel_rfl) rfl (by kernel_rfl) (by kernel_rfl) Tryd.underlying3, m3 := by kernel_rfl, m4 := by kernel_rfl }
def l172_ren : Ren := ⟨fun x => match x with | 172 => 36 | 244 => 55 | 245 => 56 | 247 => 71 | 279 => 72 | 280 => 73 | 281 => 74 | 282 => 75 | 287 => 85 | 316 => 86 | 171 => 42 | 205 => 87 | 321 => 95 | 322 => 96 | 243 => 61 | 246 => 78 | 283 => 88 | 284 => 89 | 285 => 90 | 286 => 91 | 129 => 98 | 317 => 97 | 318 => 99 | 319 => 100 | 320 => 101 | 337 => 102 | 338 => 103 | n => n, fun x => match x with | 9 => 9 | 3 => 3 | 75 => 63 | 76 => 64 | 4 => 4 | 5 => 5 | 167 => 86 | 37 => 34 | 0 => 0 | 85 => 87 | 2 => 2 | 168 => 89 | 53 => 52 | 175 => 95 | 46 => 94 | 210 => 99 | 127 => 93 | 145 => 119 | 143 => 117 | 21 => 21 | 171 => 101 | 173 => 104 | 212 => 121 | 51 => 113 | 20 => 20 | 213 => 122 | 232 => 125 | 233 => 126 | 80 => 80 | n => n, fun x => match x with | 15 => 1 | 16 => 2 | 17 => 5 | 18 => 6 | 19 => 7 | n => n⟩
theorem l172 : LaysC.n172 Tryd.prog l172_ren := { mixed := by kernel_rfl, f129 := Tryd.func98.trans (congrArg some (by kernel_rfl)), f171 := Tryd.func42.trans (congrArg some (by kernel_rfl)), f172 := Tryd.func36.trans (congrArg some (by kernel_rfl)), f205 := Tryd.func87.trans (congrArg some (by kernel_rfl)), f243 := Tryd.func61.trans (congrArg some (by kernel_rfl)), f244 := Tryd.func55.trans (congrArg some (by kernel_rfl)), f245 := Tryd.func56.trans (congrArg some (by kernel_rfl)), f246 := Tryd.func78.trans (congrArg some (by kernel_rfl)), f247 := Tryd.func71.trans (congrArg some (by kernel_rfl)), f279 := Tryd.func72.trans (congrArg some (by kernel_rfl)), f280 := Tryd.func73.trans (congrArg some (by kernel_rfl)), f281 := Tryd.func74.trans (congrArg some (by kernel_rfl)), f282 := Tryd.func75.trans (congrArg some (by kernel_rfl)), f283 := Tryd.func88.trans (congrArg some (by kernel_rfl)), f284 := Tryd.func89.trans (congrArg some (by kernel_rfl)), f285 := Tryd.func90.trans (congrArg some (by kernel_rfl)), f286 := Tryd.func91.trans (congrArg some (by kernel_rfl)), f287 := Tryd.func85.trans (congrArg some (by kernel_rfl)), f316 := Tryd.func86.trans (congrArg some (by kernel_rfl)), f317 := Tryd.func97.trans (congrArg some (by kernel_rfl)), f318 := Tryd.func99.trans (congrArg some (by kernel_rfl)), f319 := Tryd.func100.trans (congrArg some (by kernel_rfl)), f320 := Tryd.func101.trans (congrArg some (by kernel_rfl)), f321 := Tryd.func95.trans (congrArg some (by kernel_rfl)), f322 := Tryd.func96.trans (congrArg some (by kernel_rfl)), f337 := Tryd.func102.trans (congrArg some (by kernel_rfl)), f338 := Tryd.func103.trans (congrArg some (by kernel_rfl)), t0 := Tryd.underlying0, a0 := Tryd.isAgg0, z0 := Tryd.sizeOf0, v0 := Tryd.zeroValue0, t2 := Tryd.underlying2, a2 := Tryd.isAgg2, z2 := Tryd.sizeOf2, v2 := Tryd.zeroValue2, t3 := Tryd.underlying3, a3 := Tryd.isAgg3, z3 := Tryd.sizeOf3, v3 := Tryd.zeroValue3, t4 := Tryd.underlying4, a4 := Tryd.isAgg4, z4 := Tryd.sizeOf4, v4 := Tryd.zeroValue4, t5 := Tryd.underlying5, a5 := Tryd.isAgg5, z5 := Tryd.sizeOf5, v5 := Tryd.zeroValue5, t9 := Tryd.underlying9, a9 := Tryd.isAgg9, z9 := Tryd.sizeOf9, v9 := Tryd.zeroValue9, t20 := Tryd.underlying20, a20 := Tryd.isAgg20, z20 := Tryd.sizeOf20, v20 := Tryd.zeroValue20, t21 := Tryd.underlying21, a21 := Tryd.isAgg21, z21 := Tryd.sizeOf21, v21 := Tryd.zeroValue21, t37 := Tryd.underlying34, a37 := Tryd.isAgg34, z37 := Tryd.sizeOf34, v37 := Tryd.zeroValue34, t46 := Tryd.underlying94, a46 := Tryd.isAgg94, z46 := Tryd.sizeOf94, v46 := Tryd.zeroValue94, t51 := Tryd.underlying113, a51 := Tryd.isAgg113, z51 := Tryd.sizeOf113, v51 := Tryd.zeroValue113, t53 := Tryd.underlying52, a53 := Tryd.isAgg52, z53 := Tryd.sizeOf52, v53 := Tryd.zeroValue52, t75 := Tryd.underlying63, a75 := Tryd.isAgg63, z75 := Tryd.sizeOf63, v75 := Tryd.zeroValue63, t76 := Tryd.underlying64, a76 := Tryd.isAgg64, z76 := Tryd.sizeOf64, v76 := Tryd.zeroValue64, t85 := Tryd.underlying87, a85 := Tryd.isAgg87, z85 := Tryd.sizeOf87, v85 := Tryd.zeroValue87, t127 := Tryd.underlying93, a127 := Tryd.isAgg93, z127 := Tryd.sizeOf93, v127 := Tryd.zeroValue93, t143 := Tryd.underlying117, a143 := Tryd.isAgg117, z143 := Tryd.sizeOf117, v143 := Tryd.zeroValue117, t145 := Tryd.underlying119, a145 := Tryd.isAgg119, z145 := Tryd.sizeOf119, v145 := Tryd.zeroValue119, t167 := Tryd.underlying86, a167 := Tryd.isAgg86, z167 := Tryd.sizeOf86, v167 := Tryd.zeroValue86, t168 := Tryd.underlying89, a168 := Tryd.isAgg89, z168 := Tryd.sizeOf89, v168 := Tryd.zeroValue89, t171 := Tryd.underlying101, a171 := Tryd.isAgg101, z171 := Tryd.sizeOf101, v171 := Tryd.zeroValue101, t173 := Tryd.underlying104, a173 := Tryd.isAgg104, z173 := Tryd.sizeOf104, v173 := Tryd.zeroValue104, t175 := Tryd.underlying95, a175 := Tryd.isAgg95, z175 := Tryd.sizeOf95, v175 := Tryd.zeroValue95, t210 := Tryd.underlying99, a210 := Tryd.isAgg99, z210 := Tryd.sizeOf99, v210 := Tryd.zeroValue99, t212 := Tryd.underlying121, a212 := Tryd.isAgg121, z212 := Tryd.sizeOf121, v212 := Tryd.zeroValue121, t213 := Tryd.underlying122, a213 := Tryd.isAgg122, z213 := Tryd.sizeOf122, t232 := Tryd.underlying125, a232 := Tryd.isAgg125, z232 := Tryd.sizeOf125, v232 := Tryd.zeroValue125, t233 := Tryd.underlying126, a233 := Tryd.isAgg126, z233 := Tryd.sizeOf126, v233 := Tryd.zeroValue126, g15 := by kernel_rfl, g16 := by kernel_rfl, g17 := by kernel_rfl, g18 := by kernel_rfl, g19 := by kernel_rfl, t80 := Tryd.underlying80, a80 := Tryd.isAgg80, z80 := Tryd.sizeOf80, v80 := Tryd.zeroValue80, i0 := by kernel_rfl, i2 := by kernel_rfl, i3 := by kernel_rfl, i4 := by kernel_rfl, i5 := by kernel_rfl, i9 := by kernel_rfl, i20 := by kernel_rfl, i21 := by kernel_rfl, i37 := by kernel_rfl, i46 := by kernel_rfl, i51 := by kernel_rfl, i53 := by kernel_rfl, i75 := by kernel_rfl, i76 := by kernel_rfl, i80 := by kernel_rfl, i85 := by kernel_rfl, i127 := by kernel_rfl, i143 := by kernel_rfl, i145 := by kernel_rfl, i167 := by kernel_rfl, i168 := by kernel_rfl, i171 := by kernel_rfl, i173 := by kernel_rfl, i175 := by kernel_rfl, i210 := by kernel_rfl, i212 := by kernel_rfl, i232 := by kernel_rfl, i233 := by kernel_rfl, m15 := by kernel_rfl, m16 := by kernel_rfl, m17 := by kernel_rfl, m18 := by kernel_rfl, m19 := by kernel_rfl, c0 := by kernel_rfl, c2 := by kernel_rfl, c3 := by kernel_rfl, c4 := by kernel_rfl, c5 := by kernel_rfl, c9 := by kernel_rfl, c20 := by kernel_rfl, c21 := by kernel_rfl, c37 := by kernel_rfl, c46 := by kernel_rfl, c51 := by kernel_rfl, c53 := by kernel_rfl, c75 := by kernel_rfl, c76 := by kernel_rfl, c80 := by kernel_rfl, c85 := by kernel_rfl, c127 := by kernel_rfl, c143 := by kernel_rfl, c145 := by kernel_rfl, c167 := by kernel_rfl, c168 := by kernel_rfl, c171 := by kernel_rfl, c173 := by kernel_rfl, c175 := by kernel_rfl, c210 := by kernel_rfl, c212 := by kernel_rfl, c213 := by kernel_rfl, c232 := by kernel_rfl, c233 := by kernel_rfl }
def l217_ren : Ren := ⟨fun x => match x with | 217 => 57 | 266 => 76 | n => n, fun x => match x with | 9 => 9 | 5 => 5 | 3 => 3 | n => n, fun x => x⟩
theorem l217 : Lays.n217 Tryd.prog l217_ren := { mixed := by kernel_rfl, f217 := Tryd.func57.trans (congrArg some (by kernel_rfl)), f266 := Tryd.func76.trans (congrArg some (by kernel_rfl)), t3 := Tryd.underlying3, a3 := Tryd.isAgg3, z3 := Tryd.sizeOf3, v3 := Tryd.zeroValue3, t5 := Tryd.underlying5, a5 := Tryd.isAgg5, z5 := Tryd.sizeOf5, v5 := Tryd.zeroValue5, t9 := Tryd.underlying9, a9 := Tryd.isAgg9, z9 := Tryd.sizeOf9, v9 := Tryd.zeroValue9 }

theorem var_below {w w' : World} {n : String} {x : Array Value} (hb : Below w.heap.size w w') (h : w.var? Tryd.prog n = some x) : w'.var? Tryd.prog n = some x := by
  unfold World.var? at *
  cases hg : Tryd.prog.globalNamed n with
  | none => rw [hg] at h; cases h
  | some g =>
    rw [hg] at h
    simp only [Option.bind_some] at h ⊢
    cases hk : w.heap[g]? with
    | none => rw [hk] at h; cases h
    | some o =>
      have hlt : g < w.heap.size := (Array.getElem?_eq_some_iff.1 hk).1
      rw [hb.block g hlt]
      exact h
/-- What the library's functions read: the table of tens, some number in MaxLen, the two errors. -/
def Laid (w : World) : Prop := Lib.TabIs Tryd.prog w "internal/strconv.uint64pow10" .u64 Lib.pow10Tab ∧ (∃ m, w.cell? ⟨l146_ren.g 1, 0, none⟩ = some (.int .i64 m)) ∧ (∃ tp p, w.var? Tryd.prog "strconv.ErrSyntax" = some #[.iface tp p]) ∧ (∃ tp p, w.var? Tryd.prog "strconv.ErrRange" = some #[.iface tp p])
theorem Laid.below {w w' : World} (h : Laid w) (hb : Below w.heap.size w w') : Laid w' := by
  obtain ⟨h1, ⟨m, h2⟩, ⟨t3, p3, h3⟩, t4, p4, h4⟩ := h
  exact ⟨var_below hb h1, ⟨m, (hb.cell (World.block_lt_of_cell? w _ h2)).trans h2⟩, ⟨t3, p3, var_below hb h3⟩, t4, p4, var_below hb h4⟩
theorem Laid.drewN {w : World} (h : Laid w) (m : Nat) : Laid (w.drewN m) := h.below (pw_below_drewN (Below.refl _ _) m)
theorem Laid.drew {w : World} (h : Laid w) : Laid w.drew := h.below (below_drew (Below.refl _ _))
def letter (a : Int) : Option ByteArray := if 0 ≤ a then (if a ≤ 7 then some ⟨#[(97 + a.toNat).toUInt8]⟩ else none) else none
set_option maxHeartbeats 2000000 in
set_option maxRecDepth 100000 in
theorem letter_calls (a0 : Int) (r : ByteArray) (w : World) (h : letter a0 = some r) : Calls Tryd.prog 41 #[.int .i64 a0] w fun e w' => e = .returned (.string r) ∧ Drawn0 w w' := by
  unfold letter at h
  split at h
  · split at h
    · rename_i h0 h1
      have hc : a0 = 0 ∨ a0 = 1 ∨ a0 = 2 ∨ a0 = 3 ∨ a0 = 4 ∨ a0 = 5 ∨ a0 = 6 ∨ a0 = 7 := by omega
      obtain rfl := Option.some.inj h
      rcases hc with rfl | rfl | rfl | rfl | rfl | rfl | rfl | rfl
      all_goals
        go_enter Tryd.func41, Tryd.ntmps41
        go_wp2
        go_ret
        exact ⟨by first | rfl | (simp; done) | decide, by repeat (first | exact Drawn0.refl _ | apply Drawn0.step)⟩
    · cases h
  · cases h
def itoa (a : Int) : Option ByteArray := if -9223372036854775808 ≤ a then (if a ≤ 9223372036854775807 then some ⟨(Lib.itoa a).toArray⟩ else none) else none
theorem itoa_calls (a0 : Int) (r : ByteArray) (w : World) (h : itoa a0 = some r) (hT : Laid w) : Calls Tryd.prog 42 #[.int .i64 a0] w fun e w' => e = .returned (.string r) ∧ Below w.heap.size w w' := by
  unfold itoa at h
  split at h
  · split at h
    · rename_i h0 h1
      obtain rfl := Option.some.inj h
      refine (Any.strconv_Itoa l171 a0 h0 h1 w hT.1).mono ?_
      rintro e w' ⟨rfl, k, os, rfl⟩
      exact ⟨rfl, below_regrown w (w.drawn + k) os⟩
    · cases h
  · cases h
theorem extra : Builder.Extra Tryd.prog l156_ren where
  sizeBuilder := by kernel_rfl
  liesBuilder := by kernel_rfl
  t5 := Tryd.underlying5
  a5 := Tryd.isAgg5
  z5 := Tryd.sizeOf5
  v5 := Tryd.zeroValue5
  infoByte := by kernel_rfl
  cellsByte := by kernel_rfl
  sizeByte := by kernel_rfl
  neB5 := by decide
def join (l : List ByteArray) (s : ByteArray) : Option ByteArray := if l.length ≤ 140737488355328 then (if (Lib.join (l.map (·.data.toList)) s.data.toList).length ≤ 140737488355328 then some ⟨(Lib.join (l.map (·.data.toList)) s.data.toList).toArray⟩ else none) else none
theorem join_calls (A0 : Option Addr) (c0 : Nat) (l0 : List ByteArray) (a1 : ByteArray) (r : ByteArray) (w : World) (hr0 : Kd.C Kd.string w A0 l0.length l0) (hc0 : l0.length ≤ c0) (h : join l0 a1 = some r) :
    Calls Tryd.prog 43 #[.slice A0 l0.length c0, .string a1] w fun e w' => e = .returned (.string r) ∧ Below w.heap.size w w' := by
  unfold join at h
  split at h
  · split at h
    · rename_i h0 h1
      obtain rfl := Option.some.inj h
      by_cases hl : l0.length = 0
      · obtain rfl : l0 = [] := List.eq_nil_of_length_eq_zero hl
        refine (Any.strings_Join_none l156 extra A0 c0 a1 w).mono ?_
        rintro e w' ⟨rfl, rfl⟩
        exact ⟨rfl, Below.refl _ _⟩
      · obtain ⟨ad, e0, hx⟩ := Kd.at_string hr0 0 (by omega) (by omega)
        have hx0 : w.cell? ad = some (.string (rdOf ByteArray.empty l0 0)) := by simpa [Addr.add] using hx
        have hsp : ad.spot = none := by
          unfold World.cell? at hx0
          split at hx0
          · split at hx0
            · cases hx0
            · rename_i hs
              simpa using hs
          · cases hx0
        obtain ⟨b, o, sp⟩ := ad
        obtain rfl : sp = none := hsp
        subst e0
        refine (Any.strings_Join l156 extra b o c0 l0 a1 w ?_ (World.block_lt_of_cell? w _ hx0) h0 hc0 h1).mono ?_
        · intro j x hj
          obtain ⟨hlt, rfl⟩ := List.getElem?_eq_some_iff.1 hj
          obtain ⟨ad, e1, h2⟩ := Kd.at_string hr0 (j : Int) (by omega) (by omega)
          cases e1
          have e2 : Addr.add ⟨b, o, none⟩ j = ⟨b, o + j, none⟩ := by
            unfold Addr.add
            split
            · simp_all
            · rfl
          rw [Int.toNat_natCast, e2] at h2
          rw [h2]
          simp [rdOf, List.getD_eq_getElem?_getD, hlt]
        · rintro e w' ⟨rfl, hb⟩
          exact ⟨rfl, hb⟩
    · cases h
  · cases h
def ixb (s : ByteArray) (c : Int) : Option Int := some (Lib.indexByte s.data.toList c.toNat.toUInt8)
theorem ixb_calls (a0 : ByteArray) (a1 : Int) (r : Int) (w : World) (h : ixb a0 a1 = some r) : Calls Tryd.prog 37 #[.string a0, .int .u8 a1] w fun e w' => e = .returned (.int .i64 r) ∧ Drawn0 w w' := by
  obtain rfl := Option.some.inj h
  go_enter Tryd.func37, Tryd.ntmps37
  go_wp2_with (go_at_call 57; refine (Any.stringslite_IndexByte l217 _ _ _).mono ?_; rintro e w' ⟨rfl, rfl⟩)
  go_ret
  exact ⟨rfl, by repeat (first | exact Drawn0.refl _ | apply Drawn0.step)⟩
def split (s sep : ByteArray) : Option (List ByteArray) := if s.size < 4294967281 then (if 1 ≤ sep.size then some (Lib.splitB sep 0 (Lib.countB s sep) s) else none) else none
theorem split_calls (a0 a1 : ByteArray) (r : List ByteArray) (w : World) (h : split a0 a1 = some r) (hT : Laid w) :
    Calls Tryd.prog 21 #[.string a0, .string a1] w fun e w' => ∃ v0_ : Value, e = .returned (v0_) ∧ Kd.R Kd.string 9 w' w.heap.size (fun _ => True) v0_ r ∧ Below w.heap.size w w' := by
  unfold split at h
  split at h
  · split at h
    · rename_i h0 h1
      obtain rfl := Option.some.inj h
      obtain ⟨m, hm⟩ := hT.2.1
      have hl := Lib.splitB_all a1 h1 0 _ a0 rfl
      have hc := Lib.countB_le a1 h1 a0.size a0 (Nat.le_refl _)
      refine (Any.strings_Split { l146 with } l146.i9 a0 a1 m w h0 hm h1).mono ?_
      rintro e w' ⟨rfl, rfl⟩
      refine ⟨_, rfl, ?_, below_alloc (Below.refl _ _) _⟩
      refine Kd.R_of_own (enc := Value.string) (h1 := fun _ => rfl) ⟨by simp [encs], .inr ⟨w.heap.size, Lib.countB a0 a1 + 1, _, by rw [hl], Nat.le_refl _, blk_new w _, by omega, by unfold maxLen; omega, by simp [hl], ?_⟩⟩ (fun _ _ => trivial)
      simp only [Nat.mul_one, encs]
      exact List.take_of_length_le (by simp)
    · cases h
  · cases h
/-- strconv.Atoi: the number and whether there is no error. -/
def atoi (s : ByteArray) : Option (Int × Bool) := if s.size ≤ 281474976710656 then some (match Lib.atoiAll s.data.toList with | .ok v => (v, true) | .range => (Lib.atoiSat s.data.toList, false) | _ => (0, false)) else none
def errV : Bool → Nat → Value
  | true, _ => .nilIface
  | false, n => .iface (l172_ren.t 168) (.pointer (some ⟨n, 0, none⟩))
theorem atoi_calls (a0 : ByteArray) (r1 : Int) (r2 : Bool) (w : World) (h : atoi a0 = some (r1, r2)) (hT : Laid w) :
    Calls Tryd.prog 36 #[.string a0] w fun e w' => ∃ n : Nat, e = .returned (.tuple #[.int .i64 r1, errV r2 n]) ∧ Below w.heap.size w w' := by
  unfold atoi at h
  split at h
  · rename_i h0
    have h := Option.some.inj h
    rcases ha : Lib.atoiAll a0.data.toList with v | _ | _
    · rw [ha] at h
      obtain ⟨rfl, rfl⟩ := Prod.mk.inj h
      refine (Any.strconv_Atoi_ok l172 a0 (by omega) v ha w).mono ?_
      rintro e w' ⟨rfl, hw⟩
      refine ⟨0, rfl, ?_⟩
      rcases hw with rfl | ⟨t, rfl⟩
      · exact Below.refl _ _
      · exact Lib.bytesWorld_below _ _ _
    · rw [ha] at h
      obtain ⟨rfl, rfl⟩ := Prod.mk.inj h
      obtain ⟨tp, p, hv⟩ := hT.2.2.1
      refine (Any.strconv_Atoi_syntax_var l172 a0 h0 ha tp p w hv).mono ?_
      rintro e w' ⟨n, rfl, _, _, hb⟩
      exact ⟨n, rfl, hb⟩
    · rw [ha] at h
      obtain ⟨rfl, rfl⟩ := Prod.mk.inj h
      obtain ⟨tp, p, hv⟩ := hT.2.2.2
      refine (Any.strconv_Atoi_range_var l172 a0 h0 ha tp p w hv).mono ?_
      rintro e w' ⟨n, rfl, _, _, hb⟩
      exact ⟨n, rfl, hb⟩
  · cases h
theorem star : "*" ++ "errors.errorString" = "*errors.errorString" := by decide
theorem row_err (u : TypeId) (h : Tryd.prog.typeName? 3 u = some "*errors.errorString") : u = 117 := typeName_ptr_named (nm := "errors.errorString") (by rw [star]; kernel_rfl) (by kernel_rfl) (by decide) u (by rw [star]; exact h)
def listed : List (String × DataW Unit) := Rows.fnExactReadCodeRow.laid
theorem of_laid {W : World} (h : laidMetH Tryd.prog listed W) (hs : W.ShapedOpen Tryd.prog) : Laid W := by
  rw [MakeChecks.laidMetH_plain _ _ _ (by kernel_rfl)] at h
  refine ⟨?_, l146.s1_3 W hs, ?_, ?_⟩
  · have hr : Lib.VarReads Tryd.prog W "internal/strconv.uint64pow10" (Lib.tabData .u64 Lib.pow10Tab) := Lib.laidMet.reads h (.tail _ (.tail _ (.head _)))
    obtain ⟨g, t, cs, fuel, p, hg, hty, hvar, hd⟩ := hr
    obtain rfl := Option.some.inj ((show (Tryd.prog.globalNamed "internal/strconv.uint64pow10").bind (fun g => (Tryd.prog.globals[g]?).map (·.type)) = some 121 by kernel_rfl).symm.trans (by rw [hg]; exact hty))
    have hcs := Lib.cells_of_tab Tryd.underlying121 Tryd.underlying52 (by kernel_rfl) (by kernel_rfl) hd
    unfold Lib.TabIs
    rw [hvar, ← hcs, Array.toArray_toList]
  · obtain ⟨a, s, hv, _⟩ := laid_sentinel (P := Tryd.prog) (ti := 63) (tp := 117) (te := 119) (ts := 9) h.tail.tail.tail.tail.tail (show Tryd.prog.globalNamed "strconv.ErrSyntax" = some (l172_ren.g 15) by kernel_rfl) (by kernel_rfl) Tryd.underlying63 row_err Tryd.underlying117 Tryd.underlying119 rfl rfl Tryd.underlying9 (by kernel_rfl) (by kernel_rfl)
    exact ⟨_, _, hv⟩
  · obtain ⟨a, s, hv, _⟩ := laid_sentinel (P := Tryd.prog) (ti := 63) (tp := 117) (te := 119) (ts := 9) h.tail.tail.tail.tail (show Tryd.prog.globalNamed "strconv.ErrRange" = some (l172_ren.g 16) by kernel_rfl) (by kernel_rfl) Tryd.underlying63 row_err Tryd.underlying117 Tryd.underlying119 rfl rfl Tryd.underlying9 (by kernel_rfl) (by kernel_rfl)
    exact ⟨_, _, hv⟩
theorem door_met (os : Os) (args : Array Value) : laidMetH Tryd.prog listed ((World.laidAll Tryd.prog os listed).forCall (fun _ _ => 0) ⟨#[], args, []⟩).memory := by
  rw [MakeChecks.laidMetH_plain _ _ _ (by kernel_rfl)]
  exact laidMet_laidAll _ (by kernel_rfl) (by kernel_rfl)
end Go.Proofs.YtonapnobpllfoaaDoor.Tz
