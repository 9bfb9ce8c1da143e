/- math/bits.TrailingZeros at this seat: the shelf's contract, its table out of what the row lists, and a start that lists it. -/
import Derived.Test.YtncagigpflfkbaaDoorRows
import Derived.Test.YtncagigpflfkbaaDoorWMore
import Derived.Test.YtncagigpflfkbaaDoorWLast
import Derived.Shelf.Spec.TrailingZeros
import Derived.Lib.LaidU8
import Derived.LaidMore
import Derived.ProofKit
import Derived.Stop.Joined
namespace Go.Proofs.YtncagigpflfkbaaDoor.Tz
open Go.Shelf Go.RowKit Go.Proofs.YtncagigpflfkbaaDoorW.PrintWords Go.Proofs.YtncagigpflfkbaaDoorW.PrintLast Go.Proofs.YtncagigpflfkbaaDoorW.PrintMore
set_option linter.unusedVariables false
def ren : Ren := ⟨fun f => match f with | 27 => 35 | 28 => 40 | 29 => 41 | n => n, fun t => match t with | 0 => 0 | 3 => 3 | 4 => 4 | 5 => 5 | 22 => 30 | 25 => 27 | 27 => 40 | 53 => 42 | 54 => 43 | n => n, fun g => match g with | 0 => 0 | 1 => 1 | n => n⟩
theorem lays : Lays7.n27 Tryd.prog ren := { mixed := by kernel_rfl, f27 := Tryd.func35.trans (congrArg some (by kernel_rfl)), f28 := Tryd.func40.trans (congrArg some (by kernel_rfl)), f29 := Tryd.func41.trans (congrArg some (by kernel_rfl)), t0 := Tryd.underlying0, a0 := Tryd.isAgg0, z0 := Tryd.sizeOf0, v0 := Tryd.zeroValue0, i0 := by kernel_rfl, t3 := Tryd.underlying3, a3 := Tryd.isAgg3, z3 := Tryd.sizeOf3, v3 := Tryd.zeroValue3, i3 := by kernel_rfl, t4 := Tryd.underlying4, a4 := Tryd.isAgg4, z4 := Tryd.sizeOf4, v4 := Tryd.zeroValue4, i4 := by kernel_rfl, t5 := Tryd.underlying5, a5 := Tryd.isAgg5, z5 := Tryd.sizeOf5, v5 := Tryd.zeroValue5, i5 := by kernel_rfl, t22 := Tryd.underlying30, a22 := Tryd.isAgg30, z22 := Tryd.sizeOf30, v22 := Tryd.zeroValue30, i22 := by kernel_rfl, t25 := Tryd.underlying27, a25 := Tryd.isAgg27, z25 := Tryd.sizeOf27, v25 := Tryd.zeroValue27, i25 := by kernel_rfl, t27 := Tryd.underlying40, a27 := Tryd.isAgg40, z27 := Tryd.sizeOf40, v27 := Tryd.zeroValue40, i27 := by kernel_rfl, t53 := Tryd.underlying42, a53 := Tryd.isAgg42, z53 := Tryd.sizeOf42, v53 := Tryd.zeroValue42, i53 := by kernel_rfl, t54 := Tryd.underlying43, a54 := Tryd.isAgg43, z54 := Tryd.sizeOf43, g0 := by kernel_rfl, g1 := by kernel_rfl }
/-- The table lies in its variable. -/
def Laid (w : World) : Prop := TabAt 1 Lib.deBruijn64tab w
theorem Laid.below {w w' : World} (h : Laid w) (hb : Below w.heap.size w w') : Laid w' := fun j hj => (hb.cell (World.block_lt_of_cell? w _ (h j hj))).trans (h j hj)
theorem Laid.drewN {w : World} (h : Laid w) (m : Nat) : Laid (w.drewN m) := h.below (pw_below_drewN (Below.refl _ _) m)
theorem Laid.drew {w : World} (h : Laid w) : Laid w.drew := h.below (below_drew (Below.refl _ _))
theorem Laid.drawn {w w' : World} (h : Laid w) (hd : Drawn0 w w') : Laid w' := h.below hd.below
def tz (a : Int) : Option Int := if 0 ≤ a then (if a < 18446744073709551616 then some (Lib.ctz 64 a.toNat : Int) else none) else none
theorem tz_calls (a0 : Int) (r : Int) (w : World) (h : tz a0 = some r) (hT : Laid w) : Calls Tryd.prog 35 #[.int .u64 a0] w fun e w' => e = .returned (.int .i64 r) ∧ Drawn0 w w' := by
  unfold tz at h
  split at h
  · split at h
    · rename_i h0 h1
      obtain ⟨x, rfl⟩ := Int.eq_ofNat_of_zero_le h0
      obtain rfl := Option.some.inj h
      refine (Any7.bits_TrailingZeros lays x (by omega) w (fun _ => hT)).mono ?_
      rintro e w' ⟨rfl, rfl⟩
      exact ⟨rfl, Drawn0.refl _⟩
    · cases h
  · cases h
theorem laid_of_reads {w : World} (h : Lib.VarReads Tryd.prog w "math/bits.deBruijn64tab" (Lib.tabData .u8 (Lib.deBruijn64tab.map fun n : Nat => (n : Int)))) : Laid w := by
  intro j hj
  obtain ⟨g, t, cs, fuel, p, hg, hty, hvar, hd⟩ := h
  obtain rfl := Option.some.inj ((show Tryd.prog.globalNamed "math/bits.deBruijn64tab" = some 1 by kernel_rfl).symm.trans hg)
  obtain rfl := Option.some.inj ((show (Tryd.prog.globals[1]?).map (·.type) = some 43 by kernel_rfl).symm.trans hty)
  have hcs := Lib.cells_of_tab Tryd.underlying43 Tryd.underlying5 (by kernel_rfl) (by kernel_rfl) hd
  have := World.var?_cell hg hvar j
  rw [this, ← Array.getElem?_toList, hcs]
  simp [hj]
def listed : List (String × DataW Unit) := [("math/bits.deBruijn32tab", Rows.laid_math_bits_deBruijn32tab), ("math/bits.deBruijn64tab", Rows.laid_math_bits_deBruijn64tab)]
theorem of_laid {W : World} (h : laidMetH Tryd.prog listed W) : Laid W := by
  rw [MakeChecks.laidMetH_plain _ _ _ (by kernel_rfl)] at h
  have e : (Rows.laid_math_bits_deBruijn64tab : DataW Unit) = Lib.tabData .u8 (Lib.deBruijn64tab.map fun n : Nat => (n : Int)) := by kernel_rfl
  exact laid_of_reads (e ▸ Lib.laidMet.reads h (.tail _ (.head _)))
theorem door_met (os : Os) (args : Array Value) : laidMetH Tryd.prog listed ((World.doorLaid Tryd.prog 400 os).forCall (fun _ _ => 0) ⟨#[], args, []⟩).memory :=
  laidMetH_of_parts3 (fuel := 8) (laidMet_of_run' 8 (by kernel_rfl) (by kernel_rfl)) (by kernel_rfl) (by kernel_rfl)
end Go.Proofs.YtncagigpflfkbaaDoor.Tz
