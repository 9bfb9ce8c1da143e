/- impl.letter, strconv.Itoa and strings.Join at this seat, in the print's shape; the table that Itoa reads. -/
import Derived.Test.YtonapnobpllfoaaDoorRows
import Derived.Test.YtonapnobpllfoaaDoorWMore
import Derived.Test.YtonapnobpllfoaaDoorWLast
import Derived.Shelf.Strconv.Itoa3
import Derived.Shelf.Strings.OnBuilder
import Derived.Lib.QuietBelow
import Derived.Lib.LaidU8
import Derived.LaidMore
import Derived.ProofKit
import Derived.Stop.Joined
namespace Go.Proofs.YtonapnobpllfoaaDoor.Tz
open Go.Shelf Go.RowKit Go.Proofs.YtonapnobpllfoaaDoorW.PrintWords Go.Proofs.YtonapnobpllfoaaDoorW.PrintLast Go.Proofs.YtonapnobpllfoaaDoorW.PrintMore
set_option linter.unusedVariables false
set_option linter.unusedSimpArgs false
def l171_ren : Ren := ⟨fun x => match x with | 171 => 42 | 243 => 61 | 246 => 78 | 283 => 88 | 284 => 89 | 285 => 90 | 286 => 91 | 129 => 98 | 317 => 97 | 318 => 99 | 319 => 100 | 320 => 101 | 337 => 102 | 338 => 103 | n => n, fun x => match x with | 3 => 3 | 9 => 9 | 2 => 2 | 4 => 4 | 171 => 101 | 0 => 0 | 53 => 52 | 37 => 34 | 5 => 5 | 173 => 104 | 212 => 121 | 51 => 113 | 20 => 20 | 213 => 122 | 46 => 94 | 232 => 125 | 233 => 126 | n => n, fun x => match x with | 17 => 5 | 18 => 6 | 19 => 7 | n => n⟩
theorem l171 : LaysM.n171 Tryd.prog l171_ren := { mixed := by kernel_rfl, f129 := Tryd.func98.trans (congrArg some (by kernel_rfl)), f171 := Tryd.func42.trans (congrArg some (by kernel_rfl)), f243 := Tryd.func61.trans (congrArg some (by kernel_rfl)), f246 := Tryd.func78.trans (congrArg some (by kernel_rfl)), f283 := Tryd.func88.trans (congrArg some (by kernel_rfl)), f284 := Tryd.func89.trans (congrArg some (by kernel_rfl)), f285 := Tryd.func90.trans (congrArg some (by kernel_rfl)), f286 := Tryd.func91.trans (congrArg some (by kernel_rfl)), f317 := Tryd.func97.trans (congrArg some (by kernel_rfl)), f318 := Tryd.func99.trans (congrArg some (by kernel_rfl)), f319 := Tryd.func100.trans (congrArg some (by kernel_rfl)), f320 := Tryd.func101.trans (congrArg some (by kernel_rfl)), f337 := Tryd.func102.trans (congrArg some (by kernel_rfl)), f338 := Tryd.func103.trans (congrArg some (by kernel_rfl)), t0 := Tryd.underlying0, a0 := Tryd.isAgg0, z0 := Tryd.sizeOf0, v0 := Tryd.zeroValue0, t2 := Tryd.underlying2, a2 := Tryd.isAgg2, z2 := Tryd.sizeOf2, v2 := Tryd.zeroValue2, t3 := Tryd.underlying3, a3 := Tryd.isAgg3, z3 := Tryd.sizeOf3, v3 := Tryd.zeroValue3, t4 := Tryd.underlying4, a4 := Tryd.isAgg4, z4 := Tryd.sizeOf4, v4 := Tryd.zeroValue4, t5 := Tryd.underlying5, a5 := Tryd.isAgg5, z5 := Tryd.sizeOf5, v5 := Tryd.zeroValue5, t9 := Tryd.underlying9, a9 := Tryd.isAgg9, z9 := Tryd.sizeOf9, v9 := Tryd.zeroValue9, t20 := Tryd.underlying20, a20 := Tryd.isAgg20, z20 := Tryd.sizeOf20, v20 := Tryd.zeroValue20, t37 := Tryd.underlying34, a37 := Tryd.isAgg34, z37 := Tryd.sizeOf34, v37 := Tryd.zeroValue34, t46 := Tryd.underlying94, a46 := Tryd.isAgg94, z46 := Tryd.sizeOf94, v46 := Tryd.zeroValue94, t51 := Tryd.underlying113, a51 := Tryd.isAgg113, z51 := Tryd.sizeOf113, v51 := Tryd.zeroValue113, t53 := Tryd.underlying52, a53 := Tryd.isAgg52, z53 := Tryd.sizeOf52, v53 := Tryd.zeroValue52, t171 := Tryd.underlying101, a171 := Tryd.isAgg101, z171 := Tryd.sizeOf101, v171 := Tryd.zeroValue101, t173 := Tryd.underlying104, a173 := Tryd.isAgg104, z173 := Tryd.sizeOf104, v173 := Tryd.zeroValue104, t212 := Tryd.underlying121, a212 := Tryd.isAgg121, z212 := Tryd.sizeOf121, v212 := Tryd.zeroValue121, t213 := Tryd.underlying122, a213 := Tryd.isAgg122, z213 := Tryd.sizeOf122, t232 := Tryd.underlying125, a232 := Tryd.isAgg125, z232 := Tryd.sizeOf125, v232 := Tryd.zeroValue125, t233 := Tryd.underlying126, a233 := Tryd.isAgg126, z233 := Tryd.sizeOf126, v233 := Tryd.zeroValue126, g17 := by kernel_rfl, g18 := by kernel_rfl, g19 := by kernel_rfl, i0 := by kernel_rfl, i2 := by kernel_rfl, i3 := by kernel_rfl, i4 := by kernel_rfl, i5 := by kernel_rfl, i9 := by kernel_rfl, i20 := by kernel_rfl, i37 := by kernel_rfl, i46 := by kernel_rfl, i51 := by kernel_rfl, i53 := by kernel_rfl, i171 := by kernel_rfl, i173 := by kernel_rfl, i212 := by kernel_rfl, i232 := by kernel_rfl, i233 := by kernel_rfl, m17 := by kernel_rfl, m18 := by kernel_rfl, m19 := by kernel_rfl }
def l156_ren : Ren := ⟨fun x => match x with | 156 => 43 | 165 => 62 | 166 => 63 | 169 => 64 | 240 => 79 | 241 => 80 | 276 => 92 | 277 => 93 | n => n, fun x => match x with | 31 => 38 | 9 => 9 | 3 => 3 | 4 => 4 | 0 => 0 | 20 => 20 | 72 => 78 | 76 => 64 | 70 => 76 | 37 => 34 | 75 => 63 | 127 => 93 | 164 => 106 | 5 => 5 | 80 => 80 | n => n, fun x => x⟩
theorem l156 : Lays.n156 Tryd.prog l156_ren := { mixed := by kernel_rfl, f156 := Tryd.func43.trans (congrArg some (by kernel_rfl)), f165 := Tryd.func62.trans (congrArg some (by kernel_rfl)), f166 := Tryd.func63.trans (congrArg some (by kernel_rfl)), f169 := Tryd.func64.trans (congrArg some (by kernel_rfl)), f240 := Tryd.func79.trans (congrArg some (by kernel_rfl)), f241 := Tryd.func80.trans (congrArg some (by kernel_rfl)), f276 := Tryd.func92.trans (congrArg some (by kernel_rfl)), f277 := Tryd.func93.trans (congrArg some (by kernel_rfl)), t0 := Tryd.underlying0, a0 := Tryd.isAgg0, z0 := Tryd.sizeOf0, v0 := Tryd.zeroValue0, t3 := Tryd.underlying3, a3 := Tryd.isAgg3, z3 := Tryd.sizeOf3, v3 := Tryd.zeroValue3, t4 := Tryd.underlying4, a4 := Tryd.isAgg4, z4 := Tryd.sizeOf4, v4 := Tryd.zeroValue4, t9 := Tryd.underlying9, a9 := Tryd.isAgg9, z9 := Tryd.sizeOf9, v9 := Tryd.zeroValue9, t20 := Tryd.underlying20, a20 := Tryd.isAgg20, z20 := Tryd.sizeOf20, v20 := Tryd.zeroValue20, t31 := Tryd.underlying38, a31 := Tryd.isAgg38, z31 := Tryd.sizeOf38, v31 := Tryd.zeroValue38, t37 := Tryd.underlying34, a37 := Tryd.isAgg34, z37 := Tryd.sizeOf34, v37 := Tryd.zeroValue34, t70 := Tryd.underlying76, a70 := Tryd.isAgg76, z70 := Tryd.sizeOf76, v70 := Tryd.zeroValue76, t72 := Tryd.underlying78, a72 := Tryd.isAgg78, z72 := Tryd.sizeOf78, v72 := Tryd.zeroValue78, t75 := Tryd.underlying63, a75 := Tryd.isAgg63, z75 := Tryd.sizeOf63, v75 := Tryd.zeroValue63, t76 := Tryd.underlying64, a76 := Tryd.isAgg64, z76 := Tryd.sizeOf64, v76 := Tryd.zeroValue64, t127 := Tryd.underlying93, a127 := Tryd.isAgg93, z127 := Tryd.sizeOf93, v127 := Tryd.zeroValue93, t164 := Tryd.underlying106, a164 := Tryd.isAgg106, z164 := Tryd.sizeOf106, v164 := Tryd.zeroValue106 }

def Laid (w : World) : Prop := Lib.TabIs Tryd.prog w "internal/strconv.uint64pow10" .u64 Lib.pow10Tab
theorem Laid.below {w w' : World} (h : Laid w) (hb : Below w.heap.size w w') : Laid w' := by
  unfold Laid Lib.TabIs World.var? at *
  cases hg : Tryd.prog.globalNamed "internal/strconv.uint64pow10" with
  | none => rw [hg] at h; cases h
  | some g =>
    rw [hg] at h
    simp only [Option.bind_some] at h ⊢
    cases hk : w.heap[g]? with
    | none => rw [hk] at h; cases h
    | some o =>
      have hlt : g < w.heap.size := (Array.getElem?_eq_some_iff.1 hk).1
      rw [hb.block g hlt]
      exact h
theorem Laid.drewN {w : World} (h : Laid w) (m : Nat) : Laid (w.drewN m) := h.below (pw_below_drewN (Below.refl _ _) m)
theorem Laid.drew {w : World} (h : Laid w) : Laid w.drew := h.below (below_drew (Below.refl _ _))
def letter (a : Int) : Option ByteArray := if 0 ≤ a then (if a ≤ 7 then some ⟨#[(97 + a.toNat).toUInt8]⟩ else none) else none
set_option maxHeartbeats 2000000 in
set_option maxRecDepth 100000 in
theorem letter_calls (a0 : Int) (r : ByteArray) (w : World) (h : letter a0 = some r) : Calls Tryd.prog 41 #[.int .i64 a0] w fun e w' => e = .returned (.string r) ∧ Drawn0 w w' := by
  unfold letter at h
  split at h
  · split at h
    · rename_i h0 h1
      have hc : a0 = 0 ∨ a0 = 1 ∨ a0 = 2 ∨ a0 = 3 ∨ a0 = 4 ∨ a0 = 5 ∨ a0 = 6 ∨ a0 = 7 := by omega
      obtain rfl := Option.some.inj h
      rcases hc with rfl | rfl | rfl | rfl | rfl | rfl | rfl | rfl
      all_goals
        go_enter Tryd.func41, Tryd.ntmps41
        go_wp2
        go_ret
        exact ⟨by first | rfl | (simp; done) | decide, by repeat (first | exact Drawn0.refl _ | apply Drawn0.step)⟩
    · cases h
  · cases h
def itoa (a : Int) : Option ByteArray := if -9223372036854775808 ≤ a then (if a ≤ 9223372036854775807 then some ⟨(Lib.itoa a).toArray⟩ else none) else none
theorem itoa_calls (a0 : Int) (r : ByteArray) (w : World) (h : itoa a0 = some r) (hT : Laid w) : Calls Tryd.prog 42 #[.int .i64 a0] w fun e w' => e = .returned (.string r) ∧ Below w.heap.size w w' := by
  unfold itoa at h
  split at h
  · split at h
    · rename_i h0 h1
      obtain rfl := Option.some.inj h
      refine (Any.strconv_Itoa l171 a0 h0 h1 w hT).mono ?_
      rintro e w' ⟨rfl, k, os, rfl⟩
      exact ⟨rfl, below_regrown w (w.drawn + k) os⟩
    · cases h
  · cases h
theorem extra : Builder.Extra Tryd.prog l156_ren where
  sizeBuilder := by kernel_rfl
  liesBuilder := by kernel_rfl
  t5 := Tryd.underlying5
  a5 := Tryd.isAgg5
  z5 := Tryd.sizeOf5
  v5 := Tryd.zeroValue5
  infoByte := by kernel_rfl
  cellsByte := by kernel_rfl
  sizeByte := by kernel_rfl
  neB5 := by decide
def join (l : List ByteArray) (s : ByteArray) : Option ByteArray := if l.length ≤ 140737488355328 then (if (Lib.join (l.map (·.data.toList)) s.data.toList).length ≤ 140737488355328 then some ⟨(Lib.join (l.map (·.data.toList)) s.data.toList).toArray⟩ else none) else none
theorem join_calls (A0 : Option Addr) (c0 : Nat) (l0 : List ByteArray) (a1 : ByteArray) (r : ByteArray) (w : World) (hr0 : Kd.C Kd.string w A0 l0.length l0) (hc0 : l0.length ≤ c0) (h : join l0 a1 = some r) :
    Calls Tryd.prog 43 #[.slice A0 l0.length c0, .string a1] w fun e w' => e = .returned (.string r) ∧ Below w.heap.size w w' := by
  unfold join at h
  split at h
  · split at h
    · rename_i h0 h1
      obtain rfl := Option.some.inj h
      by_cases hl : l0.length = 0
      · obtain rfl : l0 = [] := List.eq_nil_of_length_eq_zero hl
        refine (Any.strings_Join_none l156 extra A0 c0 a1 w).mono ?_
        rintro e w' ⟨rfl, rfl⟩
        exact ⟨rfl, Below.refl _ _⟩
      · obtain ⟨ad, e0, hx⟩ := Kd.at_string hr0 0 (by omega) (by omega)
        have hx0 : w.cell? ad = some (.string (rdOf ByteArray.empty l0 0)) := by simpa [Addr.add] using hx
        have hsp : ad.spot = none := by
          unfold World.cell? at hx0
          split at hx0
          · split at hx0
            · cases hx0
            · rename_i hs
              simpa using hs
          · cases hx0
        obtain ⟨b, o, sp⟩ := ad
        obtain rfl : sp = none := hsp
        subst e0
        refine (Any.strings_Join l156 extra b o c0 l0 a1 w ?_ (World.block_lt_of_cell? w _ hx0) h0 hc0 h1).mono ?_
        · intro j x hj
          obtain ⟨hlt, rfl⟩ := List.getElem?_eq_some_iff.1 hj
          obtain ⟨ad, e1, h2⟩ := Kd.at_string hr0 (j : Int) (by omega) (by omega)
          cases e1
          have e2 : Addr.add ⟨b, o, none⟩ j = ⟨b, o + j, none⟩ := by
            unfold Addr.add
            split
            · simp_all
            · rfl
          rw [Int.toNat_natCast, e2] at h2
          rw [h2]
          simp [rdOf, List.getD_eq_getElem?_getD, hlt]
        · rintro e w' ⟨rfl, hb⟩
          exact ⟨rfl, hb⟩
    · cases h
  · cases h
def listed : List (String × DataW Unit) := Rows.fnExactCodeTextRow.laid
theorem of_laid {W : World} (h : laidMetH Tryd.prog listed W) : Laid W := by
  rw [MakeChecks.laidMetH_plain _ _ _ (by kernel_rfl)] at h
  have hr : Lib.VarReads Tryd.prog W "internal/strconv.uint64pow10" (Lib.tabData .u64 Lib.pow10Tab) := Lib.laidMet.reads h (.tail _ (.tail _ (.head _)))
  obtain ⟨g, t, cs, fuel, p, hg, hty, hvar, hd⟩ := hr
  obtain rfl := Option.some.inj ((show (Tryd.prog.globalNamed "internal/strconv.uint64pow10").bind (fun g => (Tryd.prog.globals[g]?).map (·.type)) = some 121 by kernel_rfl).symm.trans (by rw [hg]; exact hty))
  have hcs := Lib.cells_of_tab Tryd.underlying121 Tryd.underlying52 (by kernel_rfl) (by kernel_rfl) hd
  unfold Laid Lib.TabIs
  rw [hvar, ← hcs, Array.toArray_toList]
theorem door_met (os : Os) (args : Array Value) : laidMetH Tryd.prog listed ((World.doorLaid Tryd.prog 400 os).forCall (fun _ _ => 0) ⟨#[], args, []⟩).memory :=
  laidMetH_of_parts3 (fuel := 8) (laidMet_of_run' 8 (by kernel_rfl) (by kernel_rfl)) (by kernel_rfl) (by kernel_rfl)
end Go.Proofs.YtonapnobpllfoaaDoor.Tz
