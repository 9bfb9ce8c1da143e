/- slices.Sort and slices.Compact at []int in this seat: the shelf's contracts, in the shape of rows of one's own. -/
import Derived.Test.YtoggmpihojkbfaaProg
import Derived.Test.YtoggmpihojkbfaaQFnCodeW
import Derived.Shelf.Sort.Plain
import Derived.Shelf.Slices.CompactI
import Derived.Shelf.Slices.In.SortNone
import Derived.Sort.OwnSortedInts
namespace Go.Proofs.Ytoggmpihojkbfaa.Srt
open Go.Shelf Go.RowKit Go.Proofs.YtoggmpihojkbfaaW.PrintWords Go.Proofs.YtoggmpihojkbfaaW.PrintLast Go.Proofs.YtoggmpihojkbfaaW.PrintMore
set_option linter.unusedVariables false
set_option linter.unusedSimpArgs false
def l189_ren : Ren := ⟨fun x => match x with | 189 => 29 | 125 => 49 | 257 => 48 | 128 => 71 | 129 => 72 | 294 => 62 | 295 => 63 | 296 => 64 | 297 => 65 | 298 => 66 | 299 => 67 | 216 => 68 | 300 => 69 | 301 => 70 | 328 => 76 | 329 => 77 | 330 => 78 | 331 => 79 | 332 => 80 | 215 => 81 | 343 => 82 | n => n, fun x => match x with | 28 => 24 | 3 => 3 | 46 => 69 | 0 => 0 | 51 => 86 | 53 => 56 | 4 => 4 | 183 => 78 | 182 => 77 | 131 => 83 | 5 => 5 | 9 => 9 | 218 => 90 | 222 => 94 | 228 => 96 | 229 => 97 | n => n, fun x => x⟩
theorem l189 : Lays.n189 Try.prog l189_ren := { mixed := by kernel_rfl, f125 := Try.func49.trans (congrArg some (by kernel_rfl)), f128 := Try.func71.trans (congrArg some (by kernel_rfl)), f129 := Try.func72.trans (congrArg some (by kernel_rfl)), f189 := Try.func29.trans (congrArg some (by kernel_rfl)), f215 := Try.func81.trans (congrArg some (by kernel_rfl)), f216 := Try.func68.trans (congrArg some (by kernel_rfl)), f257 := Try.func48.trans (congrArg some (by kernel_rfl)), f294 := Try.func62.trans (congrArg some (by kernel_rfl)), f295 := Try.func63.trans (congrArg some (by kernel_rfl)), f296 := Try.func64.trans (congrArg some (by kernel_rfl)), f297 := Try.func65.trans (congrArg some (by kernel_rfl)), f298 := Try.func66.trans (congrArg some (by kernel_rfl)), f299 := Try.func67.trans (congrArg some (by kernel_rfl)), f300 := Try.func69.trans (congrArg some (by kernel_rfl)), f301 := Try.func70.trans (congrArg some (by kernel_rfl)), f328 := Try.func76.trans (congrArg some (by kernel_rfl)), f329 := Try.func77.trans (congrArg some (by kernel_rfl)), f330 := Try.func78.trans (congrArg some (by kernel_rfl)), f331 := Try.func79.trans (congrArg some (by kernel_rfl)), f332 := Try.func80.trans (congrArg some (by kernel_rfl)), f343 := Try.func82.trans (congrArg some (by kernel_rfl)), t0 := Try.underlying0, a0 := Try.isAgg0, z0 := Try.sizeOf0, v0 := Try.zeroValue0, t3 := Try.underlying3, a3 := Try.isAgg3, z3 := Try.sizeOf3, v3 := Try.zeroValue3, t4 := Try.underlying4, a4 := Try.isAgg4, z4 := Try.sizeOf4, v4 := Try.zeroValue4, t5 := Try.underlying5, a5 := Try.isAgg5, z5 := Try.sizeOf5, v5 := Try.zeroValue5, t9 := Try.underlying9, a9 := Try.isAgg9, z9 := Try.sizeOf9, v9 := Try.zeroValue9, t28 := Try.underlying24, a28 := Try.isAgg24, z28 := Try.sizeOf24, v28 := Try.zeroValue24, t46 := Try.underlying69, a46 := Try.isAgg69, z46 := Try.sizeOf69, v46 := Try.zeroValue69, t51 := Try.underlying86, a51 := Try.isAgg86, z51 := Try.sizeOf86, v51 := Try.zeroValue86, t53 := Try.underlying56, a53 := Try.isAgg56, z53 := Try.sizeOf56, v53 := Try.zeroValue56, t131 := Try.underlying83, a131 := Try.isAgg83, z131 := Try.sizeOf83, v131 := Try.zeroValue83, t182 := Try.underlying77, a182 := Try.isAgg77, z182 := Try.sizeOf77, v182 := Try.zeroValue77, t183 := Try.underlying78, a183 := Try.isAgg78, z183 := Try.sizeOf78, v183 := Try.zeroValue78, t218 := Try.underlying90, a218 := Try.isAgg90, z218 := Try.sizeOf90, v218 := Try.zeroValue90, t222 := Try.underlying94, a222 := Try.isAgg94, z222 := Try.sizeOf94, v222 := Try.zeroValue94, t228 := Try.underlying96, a228 := Try.isAgg96, z228 := Try.sizeOf96, v228 := Try.zeroValue96, t229 := Try.underlying97, a229 := Try.isAgg97, z229 := Try.sizeOf97, v229 := Try.zeroValue97 }
def l20_ren : Ren := ⟨fun x => match x with | 20 => 30 | n => n, fun x => match x with | 22 => 24 | 3 => 3 | 4 => 4 | 0 => 0 | n => n, fun x => x⟩
theorem l20 : Lays2.n20 Try.prog l20_ren := { mixed := by kernel_rfl, f20 := Try.func30.trans (congrArg some (by kernel_rfl)), t0 := Try.underlying0, a0 := Try.isAgg0, z0 := Try.sizeOf0, v0 := Try.zeroValue0, t3 := Try.underlying3, a3 := Try.isAgg3, z3 := Try.sizeOf3, v3 := Try.zeroValue3, t4 := Try.underlying4, a4 := Try.isAgg4, z4 := Try.sizeOf4, v4 := Try.zeroValue4, t22 := Try.underlying24, a22 := Try.isAgg24, z22 := Try.sizeOf24, v22 := Try.zeroValue24, i3 := by kernel_rfl }

def srt (l : List Int) : Option (List Int) := if l.length < 4611686018427387904 then some (l.mergeSort fun x y => decide (x ≤ y)) else none
def cmp (l : List Int) : Option (List Int) := if l.length < 4611686018427387904 then some (Lib.compact l) else none
theorem sort_calls (P0_ : Nat → Prop) (u : Value) (l0 r : List Int) (w0 w : World) (hB : Below w0.heap.size w0 w) (ho0 : Kd.R (Kd.int .i64) 3 w w0.heap.size P0_ u l0) (h : srt l0 = some r) :
    Calls Try.prog 29 #[u] w fun e w' => e = .returned (.tuple #[]) ∧ Kd.R (Kd.int .i64) 3 w' w0.heap.size (fun k_ => (P0_ k_ ∨ w.heap.size ≤ k_)) u r ∧ Below w0.heap.size w0 w' ∧ Kept w w' (fun k_ => P0_ k_) := by
  unfold srt at h
  split at h
  · rename_i hlen
    obtain rfl := Option.some.inj h
    have ho := Kd.own_of_R ho0
    rcases ho.2 with ⟨rfl, h0⟩ | ⟨g, cap, cur, rfl, hg, hb, h1, h2, h3, h4⟩
    · obtain rfl : l0 = [] := List.eq_nil_of_length_eq_zero h0
      refine (Any.slices_Sort_int_none l189 none 0 w).mono ?_
      rintro e w' ⟨rfl, rfl⟩
      exact ⟨rfl, by simpa using Kd.R_mono ho0 (fun _ hk => Or.inl hk), hB, Kept.refl _ _⟩
    · have hgw : g < w.heap.size := (Array.getElem?_eq_some_iff.1 hb).1
      have hH : Go.Sort.Holds (Value.int .i64) w g 0 l0.toArray := holds_of_blockI hb (by rw [Nat.mul_one] at h4; exact h4)
      refine (Any.slices_Sort_int l189 g 0 cap l0 w hH hgw hlen).mono ?_
      rintro e w' ⟨rfl, n, os, rfl⟩
      have hs : (l0.mergeSort fun x y => decide (x ≤ y)).length = l0.length := List.length_mergeSort _
      have hgr : w.grownBy (Go.Sort.grow (Go.Sort.putRow (Value.int .i64) (Go.Sort.ahead w n) g 0 (l0.mergeSort fun x y => decide (x ≤ y)).toArray) os) (some g) := grownBy_sortedI _
      have hP : P0_ g := ho0.1 g rfl
      refine ⟨rfl, Kd.R_of_own ?_ (fun k hk => Or.inl (ho0.1 k hk)), pw_below_grown hB (some g) hB.size hgr (fun k hk => by cases hk; exact hg), ⟨hgr.size, fun i hi hn => hgr.block i hi (fun e => hn (by cases e; exact hP))⟩⟩
      have := ownsRow_sortedI (n := n) (os := os) (ts := l0.mergeSort fun x y => decide (x ≤ y)) hs hg hb h1 h2 h3
      rw [← hs] at this
      simpa only [hs, encs] using this
  · cases h
theorem compact_le (l : List Int) : (Lib.compact l).length ≤ l.length := by
  unfold Lib.compact Lib.compactUpTo
  rw [List.length_map]
  exact Nat.le_trans (List.length_filter_le _ _) (by simp)
theorem compact_calls (P0_ : Nat → Prop) (u : Value) (l0 r : List Int) (w0 w : World) (hB : Below w0.heap.size w0 w) (ho0 : Kd.R (Kd.int .i64) 3 w w0.heap.size P0_ u l0) (h : cmp l0 = some r) :
    Calls Try.prog 30 #[u] w fun e w' => ∃ v0_ : Value, e = .returned (v0_) ∧ Kd.R (Kd.int .i64) 3 w' w0.heap.size (fun k_ => (P0_ k_ ∨ w.heap.size ≤ k_)) v0_ r ∧ Below w0.heap.size w0 w' ∧ Kept w w' (fun k_ => P0_ k_) := by
  unfold cmp at h
  split at h
  · rename_i hlen
    obtain rfl := Option.some.inj h
    have ho := Kd.own_of_R ho0
    rcases ho.2 with ⟨rfl, h0⟩ | ⟨g, cap, cur, rfl, hg, hb, h1, h2, h3, h4⟩
    · obtain rfl : l0 = [] := List.eq_nil_of_length_eq_zero h0
      refine (Any.slices_Compact_int_empty l20 none 0 w).mono ?_
      rintro e w' ⟨rfl, rfl⟩
      exact ⟨_, rfl, Kd.R_mono ho0 (fun _ hk => Or.inl hk), hB, Kept.refl _ _⟩
    · have hH : Go.Sort.Holds (Value.int .i64) w g 0 l0.toArray := holds_of_blockI hb (by rw [Nat.mul_one] at h4; exact h4)
      refine (Any.slices_Compact_int l20 g 0 cap l0 w hH (by omega) h1).mono ?_
      rintro e w' ⟨rfl, n, hw⟩
      have hc := compact_le l0
      generalize hts : Lib.compact l0 ++ List.replicate (l0.length - (Lib.compact l0).length) 0 = ts at hw
      have hs : ts.length = l0.length := by rw [← hts]; simp; omega
      have hgw : Go.Sort.grow (Go.Sort.putRow (Value.int .i64) (Go.Sort.ahead w n) g 0 ts.toArray) #[] = w' := by rw [hw]; unfold Go.Sort.grow; rw [Array.append_empty]
      have hgr : w.grownBy w' (some g) := by rw [← hgw]; exact grownBy_sortedI _
      have hP : P0_ g := ho0.1 g rfl
      refine ⟨_, rfl, Kd.R_of_own ?_ (fun k hk => Or.inl (ho0.1 k hk)), pw_below_grown hB (some g) hB.size hgr (fun k hk => by cases hk; exact hg), ⟨hgr.size, fun i hi hn => hgr.block i hi (fun e => hn (by cases e; exact hP))⟩⟩
      have := ownsRow_sortedI (n := n) (os := #[]) (ts := ts) hs hg hb h1 h2 h3
      rw [hgw] at this
      rcases this.2 with ⟨hx, _⟩ | ⟨g', cap', cur', hv, hg', hb', h1', h2', h3', h4'⟩
      · cases hx
      · cases hv
        refine ⟨by simp [encs], .inr ⟨g, cap, cur', rfl, hg', hb', by omega, h2', h3', ?_⟩⟩
        rw [Nat.mul_one] at h4' ⊢
        have e1 : cur'.toList.take (Lib.compact l0).length = (cur'.toList.take l0.length).take (Lib.compact l0).length := by rw [List.take_take, Nat.min_eq_left hc]
        rw [e1, h4', ← hts]
        simp [encs]
  · cases h
end Go.Proofs.Ytoggmpihojkbfaa.Srt
