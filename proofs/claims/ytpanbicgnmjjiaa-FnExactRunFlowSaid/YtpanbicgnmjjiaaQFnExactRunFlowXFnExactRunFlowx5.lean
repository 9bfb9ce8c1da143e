-- Printed by a patched copy of the print, a program of this session. Lean checks it.
import Derived.Test.YtpanbicgnmjjiaaQFnExactRunFlowXFnExactRunFlowx0
import Derived.Test.YtpanbicgnmjjiaaQFnExactRunFlowXFnExactRunFlowx4
namespace Go.Proofs.Ytpanbicgnmjjiaa.XFnExactRunFlow
open Go.RowKit Go.Proofs.YtpanbicgnmjjiaaW.PrintWords Go.Proofs.YtpanbicgnmjjiaaW.PrintLast Go.Proofs.YtpanbicgnmjjiaaW.PrintMore
attribute [local go_sem] max2_int min2_int max_two min_two max_three min_three max_four min_four   -- for this text's walks alone
set_option linter.unusedVariables false
set_option linter.unusedSimpArgs false

/-! ### spec_l3Run: function 43 -/
def spec_l3Run.l0 : Nat → List Int → List Int → List (S65) → Int → Int → Option (List Int × List Int)
 | 0, _, _, _, _, _ => none
 | k + 1, x1, x2, x9, x10, x11 => if x11 < x10 then (if 0 ≤ x11 then (if x11 < (x9.length : Int) then (if ((rd_T65 x9 x11).f0) = 1 then (if 0 ≤ ((rd_T65 x9 x11).f1) then (if ((rd_T65 x9 x11).f1) < (x1.length : Int) then (spec_l3Run.l0 k (x1.set (((rd_T65 x9 x11).f1) : Int).toNat ((rd_T65 x9 x11).f4)) x2 x9 x10 (wrap64 (x11 + 1))) else (none)) else (none)) else (if ((rd_T65 x9 x11).f0) = 2 then (if 0 ≤ ((rd_T65 x9 x11).f2) then (if ((rd_T65 x9 x11).f2) < (x1.length : Int) then (if 0 ≤ ((rd_T65 x9 x11).f1) then (if ((rd_T65 x9 x11).f1) < (x1.length : Int) then (spec_l3Run.l0 k (x1.set (((rd_T65 x9 x11).f1) : Int).toNat (rd x1 ((rd_T65 x9 x11).f2))) x2 x9 x10 (wrap64 (x11 + 1))) else (none)) else (none)) else (none)) else (none)) else (if ((rd_T65 x9 x11).f0) = 8 then (if 0 ≤ ((rd_T65 x9 x11).f2) then (if ((rd_T65 x9 x11).f2) < (x1.length : Int) then (if x2.length < 17592186044416 then (spec_l3Run.l0 k x1 (x2 ++ [rd x1 ((rd_T65 x9 x11).f2)]) x9 x10 (wrap64 (x11 + 1))) else (none)) else (none)) else (none)) else (if 0 ≤ ((rd_T65 x9 x11).f2) then (if ((rd_T65 x9 x11).f2) < (x1.length : Int) then (if 0 ≤ ((rd_T65 x9 x11).f3) then (if ((rd_T65 x9 x11).f3) < (x1.length : Int) then ((spec_l3Do.f ((rd_T65 x9 x11).f0) (rd x1 ((rd_T65 x9 x11).f2)) (rd x1 ((rd_T65 x9 x11).f3))).bind fun t198 => (if 0 ≤ ((rd_T65 x9 x11).f1) then (if ((rd_T65 x9 x11).f1) < (x1.length : Int) then (spec_l3Run.l0 k (x1.set (((rd_T65 x9 x11).f1) : Int).toNat t198) x2 x9 x10 (wrap64 (x11 + 1))) else (none)) else (none))) else (none)) else (none)) else (none)) else (none))))) else (none)) else (none)) else (some (x2, x1))
def spec_l3Run.f (k : Nat) (l0 : List (S65)) (l1 : List Int) (l2 : List Int) : Option (List Int × List Int) := spec_l3Run.l0 k l1 l2 l0 (l0.length : Int) 0
theorem spec_l3Run.mono_l : ∀ k, (∀ y0 y1 y2 y3 y4, LeO (spec_l3Run.l0 k y0 y1 y2 y3 y4) (spec_l3Run.l0 (k + 1) y0 y1 y2 y3 y4))
 | 0 => fun _ _ _ _ _ r h => by simp [spec_l3Run.l0] at h
 | k + 1 => by
  have ih0 := spec_l3Run.mono_l k
  ·intro y0 y1 y2 y3 y4
   unfold spec_l3Run.l0
   repeat' first
   | (with_reducible exact ih0 _ _ _ _ _)
   | (with_reducible exact LeO.refl _)
   | (with_reducible exact LeO.none _)
   | (with_reducible refine LeO.ite ?_ ?_)
   | (with_reducible refine LeO.bind ?_ (fun _ => ?_))
   | exact ih0 _ _ _ _ _
   | exact LeO.none _
   | refine LeO.ite ?_ ?_
   | refine LeO.bind ?_ (fun _ => ?_)
theorem spec_l3Run.mono : ∀ a0 a1 a2 k, LeO (spec_l3Run.f k a0 a1 a2) (spec_l3Run.f (k + 1) a0 a1 a2) := by
 intro a0 a1 a2 k
 have ih0 := spec_l3Run.mono_l k
 unfold spec_l3Run.f
 repeat' first
   | (with_reducible exact ih0 _ _ _ _ _)
   | (with_reducible exact LeO.refl _)
   | (with_reducible exact LeO.none _)
   | (with_reducible refine LeO.ite ?_ ?_)
   | (with_reducible refine LeO.bind ?_ (fun _ => ?_))
   | exact ih0 _ _ _ _ _
   | exact LeO.none _
   | refine LeO.ite ?_ ?_
   | refine LeO.bind ?_ (fun _ => ?_)
def spec_l3Run.T5 : Bool × List (List Nat × List Nat) := (true, [([], []), ([], []), ([1], [1]), ([], []), ([3], [3]), ([], []), ([], []), ([6], [6]), ([5, 7], [5, 7]), ([8], [8]), ([], []), ([], []), ([11], [11]), ([10, 12], [10, 12]), ([13], [13]), ([4, 9, 14], [4, 9, 14]), ([0, 2, 0, 1, 2, 3, 4, 5, 6, 7, 8, 9, 10, 11, 12, 13, 14, 15], [0, 2]), ([16, 15, 15, 0, 1, 2, 3, 4, 5, 6, 7, 8, 9, 10, 11, 12, 13, 14, 15], [15, 16])])
def spec_l3Run.B5 : List Nat := [0, 0, 2, 0, 8, 0, 0, 64, 224, 480, 0, 0, 2048, 7168, 15360, 32760, 65535, 131071]
theorem spec_l3Run.tab5 : rtab .any (opsOf Try.f43 5) = spec_l3Run.T5 := by kernel_rfl
theorem spec_l3Run.bits5 : waitsOk spec_l3Run.T5.2 spec_l3Run.B5 = true := by kernel_rfl
def spec_l3Run.T9 : Bool × List (List Nat × List Nat) := (true, [([], []), ([], []), ([1], [1]), ([], []), ([], []), ([4], [4]), ([3, 5], [3, 5]), ([6], [6]), ([0, 2, 0, 1, 2, 3, 4, 5, 6, 7], [0, 2]), ([8, 7, 0, 1, 2, 3, 4, 5, 6, 7], [7, 8])])
def spec_l3Run.B9 : List Nat := [0, 0, 2, 0, 0, 16, 56, 120, 255, 511]
theorem spec_l3Run.tab9 : rtab .any (opsOf Try.f43 9) = spec_l3Run.T9 := by kernel_rfl
theorem spec_l3Run.bits9 : waitsOk spec_l3Run.T9.2 spec_l3Run.B9 = true := by kernel_rfl
set_option maxHeartbeats 8000000 in
set_option maxRecDepth 100000 in
theorem spec_l3Run.calls (k : Nat) (A0 : Option Addr) (c0 : Nat) (l0 : List (S65)) (P1_ : Nat → Prop) (u9000_ : Value) (l1 : List Int) (P2_ : Nat → Prop) (u9001_ : Value) (l2 : List Int) (r1 : List Int) (r2 : List Int) (w0 w : World) (hB : Below w0.heap.size w0 w) (hr0 : ∀ W_, Kept w W_ (fun k_ => P1_ k_ ∨ P2_ k_) → Kd.C k65 W_ A0 l0.length l0) (hc0 : l0.length ≤ c0) (ho1 : Kd.R (Kd.int .i64) 3 w w0.heap.size P1_ u9000_ l1) (hp1_2 : ∀ k_, P1_ k_ → ¬ P2_ k_) (ho2 : Kd.R (Kd.int .i64) 3 w w0.heap.size P2_ u9001_ l2) (hp2_1 : ∀ k_, P2_ k_ → ¬ P1_ k_) (h : spec_l3Run.f k l0 l1 l2 = some (r1, r2)) :
  Calls Try.prog 43 #[.slice A0 l0.length c0, u9000_, u9001_] w fun e w' => ∃ v0_ : Value, e = .returned (v0_) ∧ Kd.R (Kd.int .i64) 3 w' w0.heap.size (fun k_ => ((P1_ k_ ∨ P2_ k_) ∨ w.heap.size ≤ k_) ∧ some k_ ≠ (u9000_ : Value).ownBlock) v0_ r1 ∧ Kd.R (Kd.int .i64) 3 w' w0.heap.size (fun k_ => ((P1_ k_ ∨ P2_ k_) ∨ w.heap.size ≤ k_)) u9000_ r2 ∧ Below w0.heap.size w0 w' ∧ Kept w w' (fun k_ => P1_ k_ ∨ P2_ k_) := by
 have hu65 := Try.underlying65
 have HR0 := Aside0.mk hr0
 have HC0 := Aside0.mk hc0
 clear hr0 hc0
 have HO1 := Aside0.mk (show Kd.R (Kd.int .i64) 3 w w0.heap.size (fun k_ => ((P1_ k_ ∨ P2_ k_) ∨ w.heap.size ≤ k_) ∧ some k_ ≠ (u9001_ : Value).ownBlock) u9000_ l1 from Kd.R_mono ho1 (fun k_ hk => ⟨(.inl (.inl hk)), fun e_ => hp1_2 k_ hk (ho2.1 k_ e_.symm)⟩))
 have HO2 := Aside0.mk (show Kd.R (Kd.int .i64) 3 w w0.heap.size (fun k_ => ((P1_ k_ ∨ P2_ k_) ∨ w.heap.size ≤ k_) ∧ some k_ ≠ (u9000_ : Value).ownBlock) u9001_ l2 from Kd.R_mono ho2 (fun k_ hk => ⟨(.inl (.inr hk)), fun e_ => hp2_1 k_ hk (ho1.1 k_ e_.symm)⟩))
 have HK := Aside0.mk (Kept.refl w (fun k_ => P1_ k_ ∨ P2_ k_))
 have HW0 := Aside0.mk hB.size
 have HB := Aside0.mk hB
 clear hB
 have H : (spec_l3Run.l0 k l1 l2 l0 (l0.length : Int) 0) = some (r1, r2) := h
 clear h
 have H' := Aside0.mk H
 clear H
 go_enter Try.func43, Try.ntmps43
 go_wp2
 go_loopg [2, 11] k (fun kq v2 v11 w' => ∃ (x1_1 : List Int) (x2_1 : List Int) (x11_1 : Int), v11 = .int .i64 x11_1 ∧ Aside0 (spec_l3Run.l0 kq x1_1 x2_1 l0 (l0.length : Int) x11_1 = some (r1, r2)) ∧ Aside0 (kq ≤ k) ∧ Aside0 (Kd.R (Kd.int .i64) 3 w' w0.heap.size (fun k_ => ((P1_ k_ ∨ P2_ k_) ∨ w.heap.size ≤ k_) ∧ some k_ ≠ (v2 : Value).ownBlock) u9000_ x1_1) ∧ Aside0 (Kd.R (Kd.int .i64) 3 w' w0.heap.size (fun k_ => ((P1_ k_ ∨ P2_ k_) ∨ w.heap.size ≤ k_) ∧ some k_ ≠ (u9000_ : Value).ownBlock) v2 x2_1) ∧ Aside0 (Kept w w' (fun k_ => P1_ k_ ∨ P2_ k_)) ∧ Aside0 (Below w0.heap.size w0 w'))
 case atStart => exact ⟨(l1), (l2), (0), (by first | rfl | (simp; done) | (simp [*]; done)), H', ⟨Nat.le_refl _⟩, ⟨by (with_reducible repeat (first | apply Kd.R_alloc | apply Kd.R_drewN | apply Kd.R_drew)); exact HO1.out⟩, ⟨by (with_reducible repeat (first | apply Kd.R_alloc | apply Kd.R_drewN | apply Kd.R_drew)); exact HO2.out⟩, ⟨by repeat (first | (with_reducible first | exact HK.out | apply Kept.alloc | apply Kept.drewN | apply Kept.drew) | exact HK.out)⟩, ⟨by repeat (first | (with_reducible first | exact HB.out | apply below_alloc | apply pw_below_drewN | apply below_drew1) | exact HB.out)⟩⟩
 case round =>
  clear H'
  try clear p1
  try clear p2
  obtain ⟨x1_1, x2_1, x11_1, rfl, HA, HK1, HO_1, HO_2, HK, HB⟩ := hrel
  cases gk with
  | zero => exact absurd HA.out (by simp [spec_l3Run.l0])
  | succ k1 =>
   have H := HA.out
   clear HA
   simp only [spec_l3Run.l0] at H
   by_cases c4 : x11_1 < (l0.length : Int)
   ·rw [if_pos c4] at H
    have c4b0 : decide (x11_1 < (l0.length : Int)) = true := decide_eq_true c4
    clear c4
    by_cases c5 : 0 ≤ x11_1
    ·rw [if_pos c5] at H
     have c5b0 : decide (0 ≤ x11_1) = true := decide_eq_true c5
     clear c5
     by_cases c6 : x11_1 < (l0.length : Int)
     ·rw [if_pos c6] at H
      have c6b0 : decide (x11_1 < (l0.length : Int)) = true := decide_eq_true c6
      clear c6
      by_cases c7 : ((rd_T65 l0 x11_1).f0) = 1
      ·rw [if_pos c7] at H
       have c7b0 : (((rd_T65 l0 x11_1).f0) == 1) = true := beq_iff_eq.mpr c7
       have c7b1 : (((rd_T65 l0 x11_1).f0) != 1) = false := bne_eq_false_iff_eq.mpr c7
       clear c7
       by_cases c8 : 0 ≤ ((rd_T65 l0 x11_1).f1)
       ·rw [if_pos c8] at H
        have c8b0 : decide (0 ≤ ((rd_T65 l0 x11_1).f1)) = true := decide_eq_true c8
        clear c8
        by_cases c9 : ((rd_T65 l0 x11_1).f1) < (x1_1.length : Int)
        ·rw [if_pos c9] at H
         have c9b0 : decide (((rd_T65 l0 x11_1).f1) < (x1_1.length : Int)) = true := decide_eq_true c9
         clear c9
         obtain ⟨y189, hy189⟩ : ∃ y_ : List Int, y_ = (x1_1.set (((rd_T65 l0 x11_1).f1) : Int).toNat ((rd_T65 l0 x11_1).f4)) := ⟨_, rfl⟩
         replace H : (spec_l3Run.l0 k1 y189 x2_1 l0 (l0.length : Int) (wrap64 (x11_1 + 1))) = some (r1, r2) := by first | (rw [hy189]; with_reducible exact H) | (have H2_ := (Option.bind_some _ _).symm.trans H; rw [hy189]; with_reducible exact H2_) | (have H2_ := (Option.bind_some _ _).symm.trans H; with_reducible exact H2_) | with_reducible exact H | (rw [hy189]; exact H) | exact H
         have Ny189 := Aside0.mk hy189
         clear hy189
         have H' := Aside0.mk H
         clear H
         have p187 : 0 ≤ (x11_1 : Int) := of_decide_eq_true (by first | (with_reducible assumption) | assumption)
         have q187 : x11_1 < (l0.length : Int) := of_decide_eq_true (by first | (with_reducible assumption) | assumption)
         obtain ⟨ad187, e187, hx187_0, hx187_1, hx187_2, hx187_3, hx187_4⟩ := at_T65 (Kd.C_kept_now HR0.out HK.out) x11_1 p187 q187
         cases e187
         replace p187 := eq_true p187
         replace q187 := eq_true q187
         go_wp2_with (first | ((with_reducible refine gate_dst (N := 8) rfl ?_); refine box_event ?hg (N := 8) ?hd (cs := #[.int .i64 0, .int .i64 0, .int .i64 0, .int .i64 0, .int .i64 0]) (t := 65) ?hr ?_; (case hd => rfl); (case hg => rfl); (case hr => first | (go_simp; done) | (go_simp; rfl)); intro gb188 hg w11 hbox hb; have n0_ := Aside0.mk (Kd.R_below (by (with_reducible repeat (first | apply Kd.R_alloc | apply Kd.R_drewN | apply Kd.R_drew)); exact HO_1.out) hb); have n1_ := Aside0.mk (Kd.R_below (by (with_reducible repeat (first | apply Kd.R_alloc | apply Kd.R_drewN | apply Kd.R_drew)); exact HO_2.out) hb); have n2_ := Aside0.mk (Kept.below (S := (fun k_ => P1_ k_ ∨ P2_ k_)) (by repeat (first | (with_reducible first | exact HK.out | apply Kept.alloc | apply Kept.drewN | apply Kept.drew) | exact HK.out)) hb); have n3_ := Aside0.mk (below_step (by repeat (first | (with_reducible first | exact HB.out | apply below_alloc | apply pw_below_drewN | apply below_drew1) | exact HB.out)) hb); have n4_ := Aside0.mk (hbox); have n5_ := Aside0.mk ((by rw [hg]; exact (by first | exact HK.out.1 | exact (show Kept w _ (fun k_ => P1_ k_ ∨ P2_ k_) from by repeat (first | (with_reducible first | exact HK.out | apply Kept.alloc | apply Kept.drewN | apply Kept.drew) | exact HK.out)).1) : w.heap.size ≤ gb188)); have n6_ := Aside0.mk ((by rw [hg]; exact (below_size (by repeat (first | (with_reducible first | exact HB.out | apply below_alloc | apply pw_below_drewN | apply below_drew1) | exact HB.out))) : w0.heap.size ≤ gb188)); clear HO_1; clear HO_2; clear HK; clear HB; have HO_1 := n0_; have HO_2 := n1_; have HK := n2_; have HB := n3_; have BK188 := n4_; have GW188 := n5_; have GE188 := n6_; clear n0_ n1_ n2_ n3_ n4_ n5_ n6_; clear hb hbox hg; have hcz12_0 : w11.cell? ⟨gb188, 0, none⟩ = some (.int .i64 0) := (blk_cell BK188.out 0).trans rfl; have hcz12_1 : w11.cell? ⟨gb188, 1, none⟩ = some (.int .i64 0) := (blk_cell BK188.out 1).trans rfl; have hcz12_2 : w11.cell? ⟨gb188, 2, none⟩ = some (.int .i64 0) := (blk_cell BK188.out 2).trans rfl; have hcz12_3 : w11.cell? ⟨gb188, 3, none⟩ = some (.int .i64 0) := (blk_cell BK188.out 3).trans rfl; have hcz12_4 : w11.cell? ⟨gb188, 4, none⟩ = some (.int .i64 0) := (blk_cell BK188.out 4).trans rfl; have hfz12_0 := blk_frozen BK188.out 0; have hfz12_1 := blk_frozen BK188.out 1; have hfz12_2 := blk_frozen BK188.out 2; have hfz12_3 := blk_frozen BK188.out 3; have hfz12_4 := blk_frozen BK188.out 4) | ((with_reducible refine gate_store (t := 65) (p := 8) rfl ?_); refine store_event (t := 65) (p := 8) (v := ?vo_w13) (w1 := (((((w11.setCell ⟨gb188, 0, none⟩ (.int .i64 ((rd_T65 l0 x11_1).f0))).setCell ⟨gb188, 1, none⟩ (.int .i64 ((rd_T65 l0 x11_1).f1))).setCell ⟨gb188, 2, none⟩ (.int .i64 ((rd_T65 l0 x11_1).f2))).setCell ⟨gb188, 3, none⟩ (.int .i64 ((rd_T65 l0 x11_1).f3))).setCell ⟨gb188, 4, none⟩ (.int .i64 ((rd_T65 l0 x11_1).f4)))) ?hg ?ho ?hn ?hr ?_; (case ho => rfl); (case hg => rfl); (case hn => rfl); (case hr => first | (go_simp; done) | (go_simp; rfl)); intro w13 hw; have n0_ : Aside0 (Kd.R (Kd.int .i64) 3 w13 w0.heap.size (fun k_ => ((P1_ k_ ∨ P2_ k_) ∨ w.heap.size ≤ k_) ∧ some k_ ≠ (u2 : Value).ownBlock) u9000_ x1_1) := ⟨(by rw [hw]; exact (by (with_reducible repeat (first | apply Kd.R_alloc | apply Kd.R_drewN | apply Kd.R_drew)); exact Kd.R_mono (Kd.R_far (p := ⟨gb188, 4, none⟩) (Kd.R_far (p := ⟨gb188, 3, none⟩) (Kd.R_far (p := ⟨gb188, 2, none⟩) (Kd.R_far (p := ⟨gb188, 1, none⟩) (Kd.R_far (p := ⟨gb188, 0, none⟩) (Kd.R_types HO_1.out BK188.out (by decide)) (fun _ hk => hk.2) (.int .i64 ((rd_T65 l0 x11_1).f0))) (fun _ hk => hk.2) (.int .i64 ((rd_T65 l0 x11_1).f1))) (fun _ hk => hk.2) (.int .i64 ((rd_T65 l0 x11_1).f2))) (fun _ hk => hk.2) (.int .i64 ((rd_T65 l0 x11_1).f3))) (fun _ hk => hk.2) (.int .i64 ((rd_T65 l0 x11_1).f4))) (fun _ hk => ⟨hk.1.1, hk.1.2⟩)))⟩; have n1_ : Aside0 (Kd.R (Kd.int .i64) 3 w13 w0.heap.size (fun k_ => ((P1_ k_ ∨ P2_ k_) ∨ w.heap.size ≤ k_) ∧ some k_ ≠ (u9000_ : Value).ownBlock) u2 x2_1) := ⟨(by rw [hw]; exact (by (with_reducible repeat (first | apply Kd.R_alloc | apply Kd.R_drewN | apply Kd.R_drew)); exact Kd.R_mono (Kd.R_far (p := ⟨gb188, 4, none⟩) (Kd.R_far (p := ⟨gb188, 3, none⟩) (Kd.R_far (p := ⟨gb188, 2, none⟩) (Kd.R_far (p := ⟨gb188, 1, none⟩) (Kd.R_far (p := ⟨gb188, 0, none⟩) (Kd.R_types HO_2.out BK188.out (by decide)) (fun _ hk => hk.2) (.int .i64 ((rd_T65 l0 x11_1).f0))) (fun _ hk => hk.2) (.int .i64 ((rd_T65 l0 x11_1).f1))) (fun _ hk => hk.2) (.int .i64 ((rd_T65 l0 x11_1).f2))) (fun _ hk => hk.2) (.int .i64 ((rd_T65 l0 x11_1).f3))) (fun _ hk => hk.2) (.int .i64 ((rd_T65 l0 x11_1).f4))) (fun _ hk => ⟨hk.1.1, hk.1.2⟩)))⟩; have n2_ : Aside0 (w13.heap[gb188]? = some (.cells #[.int .i64 ((rd_T65 l0 x11_1).f0), .int .i64 ((rd_T65 l0 x11_1).f1), .int .i64 ((rd_T65 l0 x11_1).f2), .int .i64 ((rd_T65 l0 x11_1).f3), .int .i64 ((rd_T65 l0 x11_1).f4)] 65 (0, 0))) := ⟨(by rw [hw]; exact (by (with_reducible repeat (first | refine blk_drewN ?_ _ | refine blk_drew ?_ | refine blk_alloc ?_ _)); refine blk_put (cs := #[.int .i64 ((rd_T65 l0 x11_1).f0), .int .i64 ((rd_T65 l0 x11_1).f1), .int .i64 ((rd_T65 l0 x11_1).f2), .int .i64 ((rd_T65 l0 x11_1).f3), .int .i64 0]) ?_ 4 _ rfl; (with_reducible repeat (first | refine blk_drewN ?_ _ | refine blk_drew ?_ | refine blk_alloc ?_ _)); refine blk_put (cs := #[.int .i64 ((rd_T65 l0 x11_1).f0), .int .i64 ((rd_T65 l0 x11_1).f1), .int .i64 ((rd_T65 l0 x11_1).f2), .int .i64 0, .int .i64 0]) ?_ 3 _ rfl; (with_reducible repeat (first | refine blk_drewN ?_ _ | refine blk_drew ?_ | refine blk_alloc ?_ _)); refine blk_put (cs := #[.int .i64 ((rd_T65 l0 x11_1).f0), .int .i64 ((rd_T65 l0 x11_1).f1), .int .i64 0, .int .i64 0, .int .i64 0]) ?_ 2 _ rfl; (with_reducible repeat (first | refine blk_drewN ?_ _ | refine blk_drew ?_ | refine blk_alloc ?_ _)); refine blk_put (cs := #[.int .i64 ((rd_T65 l0 x11_1).f0), .int .i64 0, .int .i64 0, .int .i64 0, .int .i64 0]) ?_ 1 _ rfl; (with_reducible repeat (first | refine blk_drewN ?_ _ | refine blk_drew ?_ | refine blk_alloc ?_ _)); refine blk_put (cs := #[.int .i64 0, .int .i64 0, .int .i64 0, .int .i64 0, .int .i64 0]) ?_ 0 _ rfl; (with_reducible repeat (first | refine blk_drewN ?_ _ | refine blk_drew ?_ | refine blk_alloc ?_ _)); exact BK188.out))⟩; have n3_ : Aside0 (Kept w w13 (fun k_ => P1_ k_ ∨ P2_ k_)) := ⟨(by rw [hw]; exact (by repeat (first | (with_reducible first | exact HK.out | apply Kept.alloc | apply Kept.drewN | apply Kept.drew | refine Kept.setCell ?_ (.inr GW188.out) _) | exact HK.out)))⟩; have n4_ : Aside0 (Below w0.heap.size w0 w13) := ⟨(by rw [hw]; exact (by repeat (first | (with_reducible first | exact HB.out | apply below_alloc | apply pw_below_drewN | apply below_drew1 | refine below_set ?_ GE188.out) | exact HB.out)))⟩; clear hw; clear HO_1; clear HO_2; clear BK188; clear HK; clear HB; have HO_1 := n0_; have HO_2 := n1_; have BK188 := n2_; have HK := n3_; have HB := n4_; clear n0_ n1_ n2_ n3_ n4_; have hcz14_0 : w13.cell? ⟨gb188, 0, none⟩ = some (.int .i64 ((rd_T65 l0 x11_1).f0)) := (blk_cell BK188.out 0).trans rfl; have hcz14_1 : w13.cell? ⟨gb188, 1, none⟩ = some (.int .i64 ((rd_T65 l0 x11_1).f1)) := (blk_cell BK188.out 1).trans rfl; have hcz14_2 : w13.cell? ⟨gb188, 2, none⟩ = some (.int .i64 ((rd_T65 l0 x11_1).f2)) := (blk_cell BK188.out 2).trans rfl; have hcz14_3 : w13.cell? ⟨gb188, 3, none⟩ = some (.int .i64 ((rd_T65 l0 x11_1).f3)) := (blk_cell BK188.out 3).trans rfl; have hcz14_4 : w13.cell? ⟨gb188, 4, none⟩ = some (.int .i64 ((rd_T65 l0 x11_1).f4)) := (blk_cell BK188.out 4).trans rfl; have hfz14_0 := blk_frozen BK188.out 0; have hfz14_1 := blk_frozen BK188.out 1; have hfz14_2 := blk_frozen BK188.out 2; have hfz14_3 := blk_frozen BK188.out 3; have hfz14_4 := blk_frozen BK188.out 4; have p10 : 0 ≤ (((rd_T65 l0 x11_1).f1) : Int) := of_decide_eq_true (by first | (with_reducible assumption) | assumption); have q10 : (((rd_T65 l0 x11_1).f1) : Int) < ((x1_1.length : Int) : Int) := of_decide_eq_true (by first | (with_reducible assumption) | assumption); obtain ⟨go10, co10, eo10, gb10, gl10, cl10, HG10⟩ := Kd.R_form HO_1.out (by omega); (first | cases eo10 | (injection eo10 with ea_ en_ ec_; (first | subst ea_ | (injection ea_ with ea_; subst ea_)); subst ec_; clear en_)); have GB10 := Aside0.mk gb10; have GG10 := Aside0.mk HG10; clear gb10 gl10 HG10; have HMgo10 := Aside0.mk (show ((P1_ go10 ∨ P2_ go10) ∨ w.heap.size ≤ go10) from (HO_1.out.1 _ rfl).1); obtain ⟨hx10_0, hf10_0⟩ := Kd.R_celln 0 HO_1.out (((rd_T65 l0 x11_1).f1) : Int) p10 q10; replace p10 := eq_true p10; replace q10 := eq_true q10; obtain ⟨hy15_, hz15_⟩ := Kd.R_celln 0 HO_1.out (((rd_T65 l0 x11_1).f1) : Int) (of_decide_eq_true (by first | (with_reducible assumption) | assumption)) (of_decide_eq_true (by first | (with_reducible assumption) | assumption)); have HP15 := Kd.R_putg HO_1.out (((rd_T65 l0 x11_1).f1) : Int) ((rd_T65 l0 x11_1).f4)) | ((with_reducible refine gate_store (t := 3) (p := 41) rfl ?_); refine store_event (t := 3) (p := 41) (v := ?vo_w16) (w1 := (w13.setCell ⟨go10, (((rd_T65 l0 x11_1).f1) : Int).toNat, none⟩ (.int .i64 ((rd_T65 l0 x11_1).f4)))) ?hg ?ho ?hn ?hr ?_; (case ho => rfl); (case hg => rfl); (case hn => rfl); (case hr => first | (go_simp; done) | (go_simp; rfl)); intro w16 hw; have hg : w13.grownBy w16 (some go10) := (by rw [hw]; exact HP15.2); have hp_ : Kd.R (Kd.int .i64) 3 w16 w0.heap.size (fun k_ => ((P1_ k_ ∨ P2_ k_) ∨ w.heap.size ≤ k_) ∧ some k_ ≠ (u2 : Value).ownBlock) (.slice (some ⟨go10, 0, none⟩) x1_1.length co10) y189 := (by rw [hw, Ny189.out]; exact HP15.1); clear HP15; have n0_ := Aside0.mk (hp_); have n1_ := Aside0.mk (Kd.R_after (v := (.slice (some ⟨go10, 0, none⟩) x1_1.length co10)) (v1 := (.slice (some ⟨go10, 0, none⟩) x1_1.length co10)) (ok := (fun k_ => ((P1_ k_ ∨ P2_ k_) ∨ w.heap.size ≤ k_))) (by (with_reducible repeat (first | apply Kd.R_alloc | apply Kd.R_drewN | apply Kd.R_drew)); exact HO_2.out) hg (.inl rfl)); have n2_ := Aside0.mk (blk_grown (g := gb188) (o := .cells #[.int .i64 ((rd_T65 l0 x11_1).f0), .int .i64 ((rd_T65 l0 x11_1).f1), .int .i64 ((rd_T65 l0 x11_1).f2), .int .i64 ((rd_T65 l0 x11_1).f3), .int .i64 ((rd_T65 l0 x11_1).f4)] 65 (0, 0)) (by (with_reducible repeat (first | refine blk_drewN ?_ _ | refine blk_drew ?_ | refine blk_alloc ?_ _)); exact BK188.out) hg (Kd.R_ne HO_1.out BK188.out (by decide))); have n3_ := Aside0.mk ((by rw [hw]; exact below_set (HB.out) GB10.out : Below w0.heap.size w0 w16)); have n4_ := Aside0.mk (Kept.of_grown (S := (fun k_ => P1_ k_ ∨ P2_ k_)) hg (by repeat (first | (with_reducible first | exact HK.out | apply Kept.alloc | apply Kept.drewN | apply Kept.drew | refine Kept.setCell ?_ (.inr GW188.out) _) | exact HK.out)) (fun k_ e_ => (HO_1.out.1 k_ e_).1)); clear HO_1; clear HO_2; clear BK188; clear HB; clear HK; have HO_1 := n0_; have HO_2 := n1_; have BK188 := n2_; have HB := n3_; have HK := n4_; clear n0_ n1_ n2_ n3_ n4_; clear hg hw hp_))
         go_roundg k1
         case measure => have := HK1.out; omega
         case rel => exact ⟨(y189), (x2_1), (wrap64 (x11_1 + 1)), (by first | rfl | (simp; done) | (simp [*]; done)), H', ⟨by have := HK1.out; omega⟩, ⟨by (with_reducible repeat (first | apply Kd.R_alloc | apply Kd.R_drewN | apply Kd.R_drew)); exact HO_1.out⟩, ⟨by (with_reducible repeat (first | apply Kd.R_alloc | apply Kd.R_drewN | apply Kd.R_drew)); exact HO_2.out⟩, ⟨by repeat (first | (with_reducible first | exact HK.out | apply Kept.alloc | apply Kept.drewN | apply Kept.drew | refine Kept.setCell ?_ (.inr GW188.out) _) | exact HK.out)⟩, ⟨by repeat (first | (with_reducible first | exact HB.out | apply below_alloc | apply pw_below_drewN | apply below_drew1 | refine below_set ?_ GE188.out) | exact HB.out)⟩⟩
        ·rw [if_neg c9] at H
         exact absurd H (by simp)
       ·rw [if_neg c8] at H
        exact absurd H (by simp)
      ·rw [if_neg c7] at H
       have c7b0 : (((rd_T65 l0 x11_1).f0) == 1) = false := beq_eq_false_iff_ne.mpr c7
       have c7b1 : (((rd_T65 l0 x11_1).f0) != 1) = true := bne_iff_ne.mpr c7
       by_cases c17 : ((rd_T65 l0 x11_1).f0) = 2
       ·rw [if_pos c17] at H
        have c17b0 : (((rd_T65 l0 x11_1).f0) == 2) = true := beq_iff_eq.mpr c17
        have c17b1 : (((rd_T65 l0 x11_1).f0) != 2) = false := bne_eq_false_iff_eq.mpr c17
        clear c17
        by_cases c18 : 0 ≤ ((rd_T65 l0 x11_1).f2)
        ·rw [if_pos c18] at H
         have c18b0 : decide (0 ≤ ((rd_T65 l0 x11_1).f2)) = true := decide_eq_true c18
         clear c18
         by_cases c19 : ((rd_T65 l0 x11_1).f2) < (x1_1.length : Int)
         ·rw [if_pos c19] at H
          have c19b0 : decide (((rd_T65 l0 x11_1).f2) < (x1_1.length : Int)) = true := decide_eq_true c19
          clear c19
          by_cases c20 : 0 ≤ ((rd_T65 l0 x11_1).f1)
          ·rw [if_pos c20] at H
           have c20b0 : decide (0 ≤ ((rd_T65 l0 x11_1).f1)) = true := decide_eq_true c20
           clear c20
           by_cases c21 : ((rd_T65 l0 x11_1).f1) < (x1_1.length : Int)
           ·rw [if_pos c21] at H
            have c21b0 : decide (((rd_T65 l0 x11_1).f1) < (x1_1.length : Int)) = true := decide_eq_true c21
            clear c21
            obtain ⟨y191, hy191⟩ : ∃ y_ : List Int, y_ = (x1_1.set (((rd_T65 l0 x11_1).f1) : Int).toNat (rd x1_1 ((rd_T65 l0 x11_1).f2))) := ⟨_, rfl⟩
            replace H : (spec_l3Run.l0 k1 y191 x2_1 l0 (l0.length : Int) (wrap64 (x11_1 + 1))) = some (r1, r2) := by first | (rw [hy191]; with_reducible exact H) | (have H2_ := (Option.bind_some _ _).symm.trans H; rw [hy191]; with_reducible exact H2_) | (have H2_ := (Option.bind_some _ _).symm.trans H; with_reducible exact H2_) | with_reducible exact H | (rw [hy191]; exact H) | exact H
            have Ny191 := Aside0.mk hy191
            clear hy191
            have H' := Aside0.mk H
            clear H
            have p187 : 0 ≤ (x11_1 : Int) := of_decide_eq_true (by first | (with_reducible assumption) | assumption)
            have q187 : x11_1 < (l0.length : Int) := of_decide_eq_true (by first | (with_reducible assumption) | assumption)
            obtain ⟨ad187, e187, hx187_0, hx187_1, hx187_2, hx187_3, hx187_4⟩ := at_T65 (Kd.C_kept_now HR0.out HK.out) x11_1 p187 q187
            cases e187
            replace p187 := eq_true p187
            replace q187 := eq_true q187
            try go_wp2_with (first | ((with_reducible refine gate_dst (N := 8) rfl ?_); refine box_event ?hg (N := 8) ?hd (cs := #[.int .i64 0, .int .i64 0, .int .i64 0, .int .i64 0, .int .i64 0]) (t := 65) ?hr ?_; (case hd => rfl); (case hg => rfl); (case hr => first | (go_simp; done) | (go_simp; rfl)); intro gb188 hg w23 hbox hb; have n0_ := Aside0.mk (Kd.R_below (by (with_reducible repeat (first | apply Kd.R_alloc | apply Kd.R_drewN | apply Kd.R_drew)); exact HO_1.out) hb); have n1_ := Aside0.mk (Kd.R_below (by (with_reducible repeat (first | apply Kd.R_alloc | apply Kd.R_drewN | apply Kd.R_drew)); exact HO_2.out) hb); have n2_ := Aside0.mk (Kept.below (S := (fun k_ => P1_ k_ ∨ P2_ k_)) (by repeat (first | (with_reducible first | exact HK.out | apply Kept.alloc | apply Kept.drewN | apply Kept.drew) | exact HK.out)) hb); have n3_ := Aside0.mk (below_step (by repeat (first | (with_reducible first | exact HB.out | apply below_alloc | apply pw_below_drewN | apply below_drew1) | exact HB.out)) hb); have n4_ := Aside0.mk (hbox); have n5_ := Aside0.mk ((by rw [hg]; exact (by first | exact HK.out.1 | exact (show Kept w _ (fun k_ => P1_ k_ ∨ P2_ k_) from by repeat (first | (with_reducible first | exact HK.out | apply Kept.alloc | apply Kept.drewN | apply Kept.drew) | exact HK.out)).1) : w.heap.size ≤ gb188)); have n6_ := Aside0.mk ((by rw [hg]; exact (below_size (by repeat (first | (with_reducible first | exact HB.out | apply below_alloc | apply pw_below_drewN | apply below_drew1) | exact HB.out))) : w0.heap.size ≤ gb188)); clear HO_1; clear HO_2; clear HK; clear HB; have HO_1 := n0_; have HO_2 := n1_; have HK := n2_; have HB := n3_; have BK188 := n4_; have GW188 := n5_; have GE188 := n6_; clear n0_ n1_ n2_ n3_ n4_ n5_ n6_; clear hb hbox hg; have hcz24_0 : w23.cell? ⟨gb188, 0, none⟩ = some (.int .i64 0) := (blk_cell BK188.out 0).trans rfl; have hcz24_1 : w23.cell? ⟨gb188, 1, none⟩ = some (.int .i64 0) := (blk_cell BK188.out 1).trans rfl; have hcz24_2 : w23.cell? ⟨gb188, 2, none⟩ = some (.int .i64 0) := (blk_cell BK188.out 2).trans rfl; have hcz24_3 : w23.cell? ⟨gb188, 3, none⟩ = some (.int .i64 0) := (blk_cell BK188.out 3).trans rfl; have hcz24_4 : w23.cell? ⟨gb188, 4, none⟩ = some (.int .i64 0) := (blk_cell BK188.out 4).trans rfl; have hfz24_0 := blk_frozen BK188.out 0; have hfz24_1 := blk_frozen BK188.out 1; have hfz24_2 := blk_frozen BK188.out 2; have hfz24_3 := blk_frozen BK188.out 3; have hfz24_4 := blk_frozen BK188.out 4))
            have n0_ : Aside0 (Kd.R (Kd.int .i64) 3 (((((w23.setCell ⟨gb188, 0, none⟩ (.int .i64 ((rd_T65 l0 x11_1).f0))).setCell ⟨gb188, 1, none⟩ (.int .i64 ((rd_T65 l0 x11_1).f1))).setCell ⟨gb188, 2, none⟩ (.int .i64 ((rd_T65 l0 x11_1).f2))).setCell ⟨gb188, 3, none⟩ (.int .i64 ((rd_T65 l0 x11_1).f3))).setCell ⟨gb188, 4, none⟩ (.int .i64 ((rd_T65 l0 x11_1).f4))) w0.heap.size (fun k_ => ((P1_ k_ ∨ P2_ k_) ∨ w.heap.size ≤ k_) ∧ some k_ ≠ (u2 : Value).ownBlock) u9000_ x1_1) := ⟨by (with_reducible repeat (first | apply Kd.R_alloc | apply Kd.R_drewN | apply Kd.R_drew)); exact Kd.R_mono (Kd.R_far (p := ⟨gb188, 4, none⟩) (Kd.R_far (p := ⟨gb188, 3, none⟩) (Kd.R_far (p := ⟨gb188, 2, none⟩) (Kd.R_far (p := ⟨gb188, 1, none⟩) (Kd.R_far (p := ⟨gb188, 0, none⟩) (Kd.R_types HO_1.out BK188.out (by decide)) (fun _ hk => hk.2) (.int .i64 ((rd_T65 l0 x11_1).f0))) (fun _ hk => hk.2) (.int .i64 ((rd_T65 l0 x11_1).f1))) (fun _ hk => hk.2) (.int .i64 ((rd_T65 l0 x11_1).f2))) (fun _ hk => hk.2) (.int .i64 ((rd_T65 l0 x11_1).f3))) (fun _ hk => hk.2) (.int .i64 ((rd_T65 l0 x11_1).f4))) (fun _ hk => ⟨hk.1.1, hk.1.2⟩)⟩
            have n1_ : Aside0 (Kd.R (Kd.int .i64) 3 (((((w23.setCell ⟨gb188, 0, none⟩ (.int .i64 ((rd_T65 l0 x11_1).f0))).setCell ⟨gb188, 1, none⟩ (.int .i64 ((rd_T65 l0 x11_1).f1))).setCell ⟨gb188, 2, none⟩ (.int .i64 ((rd_T65 l0 x11_1).f2))).setCell ⟨gb188, 3, none⟩ (.int .i64 ((rd_T65 l0 x11_1).f3))).setCell ⟨gb188, 4, none⟩ (.int .i64 ((rd_T65 l0 x11_1).f4))) w0.heap.size (fun k_ => ((P1_ k_ ∨ P2_ k_) ∨ w.heap.size ≤ k_) ∧ some k_ ≠ (u9000_ : Value).ownBlock) u2 x2_1) := ⟨by (with_reducible repeat (first | apply Kd.R_alloc | apply Kd.R_drewN | apply Kd.R_drew)); exact Kd.R_mono (Kd.R_far (p := ⟨gb188, 4, none⟩) (Kd.R_far (p := ⟨gb188, 3, none⟩) (Kd.R_far (p := ⟨gb188, 2, none⟩) (Kd.R_far (p := ⟨gb188, 1, none⟩) (Kd.R_far (p := ⟨gb188, 0, none⟩) (Kd.R_types HO_2.out BK188.out (by decide)) (fun _ hk => hk.2) (.int .i64 ((rd_T65 l0 x11_1).f0))) (fun _ hk => hk.2) (.int .i64 ((rd_T65 l0 x11_1).f1))) (fun _ hk => hk.2) (.int .i64 ((rd_T65 l0 x11_1).f2))) (fun _ hk => hk.2) (.int .i64 ((rd_T65 l0 x11_1).f3))) (fun _ hk => hk.2) (.int .i64 ((rd_T65 l0 x11_1).f4))) (fun _ hk => ⟨hk.1.1, hk.1.2⟩)⟩
            have n2_ : Aside0 ((((((w23.setCell ⟨gb188, 0, none⟩ (.int .i64 ((rd_T65 l0 x11_1).f0))).setCell ⟨gb188, 1, none⟩ (.int .i64 ((rd_T65 l0 x11_1).f1))).setCell ⟨gb188, 2, none⟩ (.int .i64 ((rd_T65 l0 x11_1).f2))).setCell ⟨gb188, 3, none⟩ (.int .i64 ((rd_T65 l0 x11_1).f3))).setCell ⟨gb188, 4, none⟩ (.int .i64 ((rd_T65 l0 x11_1).f4))).heap[gb188]? = some (.cells #[.int .i64 ((rd_T65 l0 x11_1).f0), .int .i64 ((rd_T65 l0 x11_1).f1), .int .i64 ((rd_T65 l0 x11_1).f2), .int .i64 ((rd_T65 l0 x11_1).f3), .int .i64 ((rd_T65 l0 x11_1).f4)] 65 (0, 0))) := ⟨by (with_reducible repeat (first | refine blk_drewN ?_ _ | refine blk_drew ?_ | refine blk_alloc ?_ _)); refine blk_put (cs := #[.int .i64 ((rd_T65 l0 x11_1).f0), .int .i64 ((rd_T65 l0 x11_1).f1), .int .i64 ((rd_T65 l0 x11_1).f2), .int .i64 ((rd_T65 l0 x11_1).f3), .int .i64 0]) ?_ 4 _ rfl; (with_reducible repeat (first | refine blk_drewN ?_ _ | refine blk_drew ?_ | refine blk_alloc ?_ _)); refine blk_put (cs := #[.int .i64 ((rd_T65 l0 x11_1).f0), .int .i64 ((rd_T65 l0 x11_1).f1), .int .i64 ((rd_T65 l0 x11_1).f2), .int .i64 0, .int .i64 0]) ?_ 3 _ rfl; (with_reducible repeat (first | refine blk_drewN ?_ _ | refine blk_drew ?_ | refine blk_alloc ?_ _)); refine blk_put (cs := #[.int .i64 ((rd_T65 l0 x11_1).f0), .int .i64 ((rd_T65 l0 x11_1).f1), .int .i64 0, .int .i64 0, .int .i64 0]) ?_ 2 _ rfl; (with_reducible repeat (first | refine blk_drewN ?_ _ | refine blk_drew ?_ | refine blk_alloc ?_ _)); refine blk_put (cs := #[.int .i64 ((rd_T65 l0 x11_1).f0), .int .i64 0, .int .i64 0, .int .i64 0, .int .i64 0]) ?_ 1 _ rfl; (with_reducible repeat (first | refine blk_drewN ?_ _ | refine blk_drew ?_ | refine blk_alloc ?_ _)); refine blk_put (cs := #[.int .i64 0, .int .i64 0, .int .i64 0, .int .i64 0, .int .i64 0]) ?_ 0 _ rfl; (with_reducible repeat (first | refine blk_drewN ?_ _ | refine blk_drew ?_ | refine blk_alloc ?_ _)); exact BK188.out⟩
            have n3_ : Aside0 (Kept w (((((w23.setCell ⟨gb188, 0, none⟩ (.int .i64 ((rd_T65 l0 x11_1).f0))).setCell ⟨gb188, 1, none⟩ (.int .i64 ((rd_T65 l0 x11_1).f1))).setCell ⟨gb188, 2, none⟩ (.int .i64 ((rd_T65 l0 x11_1).f2))).setCell ⟨gb188, 3, none⟩ (.int .i64 ((rd_T65 l0 x11_1).f3))).setCell ⟨gb188, 4, none⟩ (.int .i64 ((rd_T65 l0 x11_1).f4))) (fun k_ => P1_ k_ ∨ P2_ k_)) := ⟨by repeat (first | (with_reducible first | exact HK.out | apply Kept.alloc | apply Kept.drewN | apply Kept.drew | refine Kept.setCell ?_ (.inr GW188.out) _) | exact HK.out)⟩
            have n4_ : Aside0 (Below w0.heap.size w0 (((((w23.setCell ⟨gb188, 0, none⟩ (.int .i64 ((rd_T65 l0 x11_1).f0))).setCell ⟨gb188, 1, none⟩ (.int .i64 ((rd_T65 l0 x11_1).f1))).setCell ⟨gb188, 2, none⟩ (.int .i64 ((rd_T65 l0 x11_1).f2))).setCell ⟨gb188, 3, none⟩ (.int .i64 ((rd_T65 l0 x11_1).f3))).setCell ⟨gb188, 4, none⟩ (.int .i64 ((rd_T65 l0 x11_1).f4)))) := ⟨by repeat (first | (with_reducible first | exact HB.out | apply below_alloc | apply pw_below_drewN | apply below_drew1 | refine below_set ?_ GE188.out) | exact HB.out)⟩
            (try clear HO_1)
            (try clear HO_2)
            (try clear BK188)
            (try clear HK)
            (try clear HB)
            generalize (((((w23.setCell ⟨gb188, 0, none⟩ (.int .i64 ((rd_T65 l0 x11_1).f0))).setCell ⟨gb188, 1, none⟩ (.int .i64 ((rd_T65 l0 x11_1).f1))).setCell ⟨gb188, 2, none⟩ (.int .i64 ((rd_T65 l0 x11_1).f2))).setCell ⟨gb188, 3, none⟩ (.int .i64 ((rd_T65 l0 x11_1).f3))).setCell ⟨gb188, 4, none⟩ (.int .i64 ((rd_T65 l0 x11_1).f4))) = w25 at n0_ n1_ n2_ n3_ n4_ ⊢
            have HO_1 := n0_
            have HO_2 := n1_
            have BK188 := n2_
            have HK := n3_
            have HB := n4_
            clear n0_ n1_ n2_ n3_ n4_
            have n0_ := Aside0.mk (Kd.R_drew HO_1.out)
            have n1_ := Aside0.mk (Kd.R_drew HO_2.out)
            have n2_ := Aside0.mk (blk_drew BK188.out)
            have n3_ := Aside0.mk (Kept.drew HK.out)
            have n4_ := Aside0.mk (below_drew1 HB.out)
            clear HO_1
            clear HO_2
            clear BK188
            clear HK
            clear HB
            have HO_1 := n0_
            have HO_2 := n1_
            have BK188 := n2_
            have HK := n3_
            have HB := n4_
            clear n0_ n1_ n2_ n3_ n4_
            obtain ⟨Ao27, co27, eo27⟩ := Kd.R_slice HO_1.out
            (first | subst eo27 | (injection eo27 with f1_ f2_ f3_; have f4_ := f1_.symm; have f5_ := f3_.symm; clear f1_ f2_ f3_; subst f4_; subst f5_))
            have p190 : 0 ≤ (((rd_T65 l0 x11_1).f2) : Int) := of_decide_eq_true (by first | (with_reducible assumption) | assumption)
            have q190 : ((rd_T65 l0 x11_1).f2) < (x1_1.length : Int) := of_decide_eq_true (by first | (with_reducible assumption) | assumption)
            obtain ⟨ad190, e190, hx190_0⟩ := Kd.at_int (Kd.R_reads' HO_1.out).2.2 ((rd_T65 l0 x11_1).f2) p190 q190
            cases e190
            replace p190 := eq_true p190
            replace q190 := eq_true q190
            have p22 : 0 ≤ (((rd_T65 l0 x11_1).f1) : Int) := of_decide_eq_true (by first | (with_reducible assumption) | assumption)
            have q22 : (((rd_T65 l0 x11_1).f1) : Int) < ((x1_1.length : Int) : Int) := of_decide_eq_true (by first | (with_reducible assumption) | assumption)
            obtain ⟨go22, co22, eo22, gb22, gl22, cl22, HG22⟩ := Kd.R_form HO_1.out (by omega)
            (first | cases eo22 | (injection eo22 with ea_ en_ ec_; (first | subst ea_ | (injection ea_ with ea_; subst ea_)); subst ec_; clear en_))
            have GB22 := Aside0.mk gb22
            have GG22 := Aside0.mk HG22
            clear gb22 gl22 HG22
            have HMgo22 := Aside0.mk (show ((P1_ go22 ∨ P2_ go22) ∨ w.heap.size ≤ go22) from (HO_1.out.1 _ rfl).1)
            (first | simp only [add_plain] at hx190_0 | skip)
            obtain ⟨hx22_0, hf22_0⟩ := Kd.R_celln 0 HO_1.out (((rd_T65 l0 x11_1).f1) : Int) p22 q22
            replace p22 := eq_true p22
            replace q22 := eq_true q22
            have HP28 := Kd.R_putn HO_1.out (((rd_T65 l0 x11_1).f1) : Int) (rd x1_1 ((rd_T65 l0 x11_1).f2))
            rw [← Ny191.out] at HP28
            have HQ28 := Aside0.mk HP28
            clear HP28
            refine start_ (n := 10) (S := fun w' => w'.cell? ⟨gb188, 0, none⟩ = some (.int .i64 ((rd_T65 l0 x11_1).f0)) ∧ w'.cell? ⟨gb188, 1, none⟩ = some (.int .i64 ((rd_T65 l0 x11_1).f1)) ∧ w'.cell? ⟨gb188, 2, none⟩ = some (.int .i64 ((rd_T65 l0 x11_1).f2)) ∧ w'.cell? ⟨gb188, 3, none⟩ = some (.int .i64 ((rd_T65 l0 x11_1).f3)) ∧ w'.cell? ⟨gb188, 4, none⟩ = some (.int .i64 ((rd_T65 l0 x11_1).f4)) ∧ w'.cell? ⟨go22, (((rd_T65 l0 x11_1).f2)).toNat, none⟩ = some (.int .i64 (rd x1_1 ((rd_T65 l0 x11_1).f2)))) (ds := [9]) #[false, false, false, false, false, false, false, false, false, false] (by kernel_rfl) rfl rfl ⟨(blk_cell BK188.out 0).trans rfl, (blk_cell BK188.out 1).trans rfl, (blk_cell BK188.out 2).trans rfl, (blk_cell BK188.out 3).trans rfl, (blk_cell BK188.out 4).trans rfl, hx190_0⟩ (fun hHeld => ?_); refine with_tabW spec_l3Run.tab9 spec_l3Run.bits9 (fun HT_ HW_ => ?_)
            generalize w25.drew = w26 at HO_1 HO_2 BK188 HK HB GG22 HQ28 hf22_0 hx190_0 hx22_0 hHeld ⊢
            refine pure_ (i := 0) (N := some 44) (v := ?_) (a' := ?_) #[true, false, false, false, false, false, false, false, false, false] rfl rfl (any_of HT_.out (by kernel_rfl)) (fun _ _ _ h => h) (Or.inl ⟨by rfl, ?_⟩) ?_ ?_
            rotate_left
            ·intro w'
             go_simp
             with_reducible rfl
            rotate_left
            ·simp only [Act.put, List.setIfInBounds_toArray, List.set_cons_zero, List.set_cons_succ, i64_w, i32_w]
             rfl
            refine pure_ (i := 1) (N := some 45) (v := ?_) (a' := ?_) #[true, true, false, false, false, false, false, false, false, false] rfl rfl (any_of HT_.out (by kernel_rfl)) (fun _ _ _ h => h) (Or.inl ⟨by rfl, ?_⟩) ?_ ?_
            rotate_left
            ·intro w'
             go_simp
             with_reducible rfl
            rotate_left
            ·simp only [Act.put, List.setIfInBounds_toArray, List.set_cons_zero, List.set_cons_succ, i64_w, i32_w]
             rfl
            refine pure_ (i := 3) (N := some 47) (v := ?_) (a' := ?_) #[true, true, false, true, false, false, false, false, false, false] rfl rfl (any_of HT_.out (by kernel_rfl)) (fun _ _ _ h => h) (Or.inl ⟨by rfl, ?_⟩) ?_ ?_
            rotate_left
            ·intro w'
             go_simp
             with_reducible rfl
            rotate_left
            ·simp only [Act.put, List.setIfInBounds_toArray, List.set_cons_zero, List.set_cons_succ, i64_w, i32_w]
             rfl
            refine pure_ (i := 4) (N := some 48) (v := ?_) (a' := ?_) #[true, true, false, true, true, false, false, false, false, false] rfl rfl (any_of HT_.out (by kernel_rfl)) (fun _ _ _ h => h) (Or.inl ⟨by rfl, ?_⟩) ?_ ?_
            rotate_left
            ·intro w'
             go_simp
             with_reducible rfl
            rotate_left
            ·simp only [Act.put, List.setIfInBounds_toArray, List.set_cons_zero, List.set_cons_succ, i64_w, i32_w]
             rfl
            refine take_ (i := 2) (N := some 46) (v := ?_) (a' := ?_) #[true, true, true, true, true, false, false, false, false, false] rfl rfl (take_ofW HT_.out HW_.out (by kernel_rfl)) (fun _ _ _ h => h) (Or.inl ⟨by rfl, ?_⟩) hHeld ?_ ?_
            rotate_left
            ·rintro w' ⟨s0, s1, s2, s3, s4, s5⟩
             go_simp
             with_reducible rfl
            rotate_left
            ·simp only [Act.put, List.setIfInBounds_toArray, List.set_cons_zero, List.set_cons_succ, i64_w, i32_w]
             rfl
            refine take_ (i := 5) (N := some 49) (v := ?_) (a' := ?_) #[true, true, true, true, true, true, false, false, false, false] rfl rfl (take_ofW HT_.out HW_.out (by kernel_rfl)) (fun _ _ _ h => h) (Or.inl ⟨by rfl, ?_⟩) hHeld ?_ ?_
            rotate_left
            ·rintro w' ⟨s0, s1, s2, s3, s4, s5⟩
             go_simp
             with_reducible rfl
            rotate_left
            ·simp only [Act.put, List.setIfInBounds_toArray, List.set_cons_zero, List.set_cons_succ, i64_w, i32_w]
             rfl
            refine pure_ (i := 6) (N := some 50) (v := ?_) (a' := ?_) #[true, true, true, true, true, true, true, false, false, false] rfl rfl (any_of HT_.out (by kernel_rfl)) (fun _ _ _ h => h) (Or.inl ⟨by rfl, ?_⟩) ?_ ?_
            rotate_left
            ·intro w'
             go_simp
             with_reducible rfl
            rotate_left
            ·simp only [Act.put, List.setIfInBounds_toArray, List.set_cons_zero, List.set_cons_succ, i64_w, i32_w]
             rfl
            refine take_ (i := 7) (N := some 51) (v := ?_) (a' := ?_) #[true, true, true, true, true, true, true, true, false, false] rfl rfl (take_ofW HT_.out HW_.out (by kernel_rfl)) (fun _ _ _ h => h) (Or.inl ⟨by rfl, ?_⟩) hHeld ?_ ?_
            rotate_left
            ·rintro w' ⟨s0, s1, s2, s3, s4, s5⟩
             go_simp
             with_reducible rfl
            rotate_left
            ·simp only [Act.put, List.setIfInBounds_toArray, List.set_cons_zero, List.set_cons_succ, i64_w, i32_w]
             rfl
            refine pure_ (i := 8) (N := some 52) (v := ?_) (a' := ?_) #[true, true, true, true, true, true, true, true, true, false] rfl rfl (any_of HT_.out (by kernel_rfl)) (fun _ _ _ h => h) (Or.inl ⟨by rfl, ?_⟩) ?_ ?_
            rotate_left
            ·intro w'
             go_simp
             with_reducible rfl
            rotate_left
            ·simp only [Act.put, List.setIfInBounds_toArray, List.set_cons_zero, List.set_cons_succ, i64_w, i32_w]
             rfl
            refine last_ (i := 9) (N := none) #[true, true, true, true, true, true, true, true, true, true] rfl rfl (one_of HT_.out (by kernel_rfl)) (by decide) (fun K hK => ?_)
            refine skip_ (w1 := ?_) (by rfl) rfl ?_ ?_
            rotate_left
            ·go_simp
             rfl
            refine hK.out _ _ ?_
            clear hK K
            refine done_ (done_of HT_.out (by kernel_rfl)) ?_
            try go_wp2
            go_roundg k1
            case measure => have := HK1.out; omega
            case rel => exact ⟨(y191), (x2_1), (wrap64 (x11_1 + 1)), (by first | rfl | (simp; done) | (simp [*]; done)), H', ⟨by have := HK1.out; omega⟩, ⟨by (with_reducible repeat (first | apply Kd.R_alloc | apply Kd.R_drewN | apply Kd.R_drew)); exact HQ28.out⟩, ⟨by (with_reducible repeat (first | apply Kd.R_alloc | apply Kd.R_drewN | apply Kd.R_drew)); exact Kd.R_mono (Kd.R_far (p := ⟨go22, (((rd_T65 l0 x11_1).f1) : Int).toNat, none⟩) (Kd.R_mono HO_2.out (fun k_ hk => (⟨hk, fun e_ => hk.2 (by rw [e_]; rfl)⟩ : _ ∧ k_ ≠ go22))) (fun _ hk => hk.2) (.int .i64 (rd x1_1 ((rd_T65 l0 x11_1).f2)))) (fun _ hk => ⟨hk.1.1, hk.1.2⟩)⟩, ⟨by repeat (first | (with_reducible first | exact HK.out | apply Kept.alloc | apply Kept.drewN | apply Kept.drew | refine Kept.setCell ?_ HMgo22.out _ | refine Kept.setCell ?_ (.inr GW188.out) _) | exact HK.out)⟩, ⟨by repeat (first | (with_reducible first | exact HB.out | apply below_alloc | apply pw_below_drewN | apply below_drew1 | refine below_set ?_ GB22.out | refine below_set ?_ GE188.out) | exact HB.out)⟩⟩
           ·rw [if_neg c21] at H
            exact absurd H (by simp)
          ·rw [if_neg c20] at H
           exact absurd H (by simp)
         ·rw [if_neg c19] at H
          exact absurd H (by simp)
        ·rw [if_neg c18] at H
         exact absurd H (by simp)
       ·rw [if_neg c17] at H
        have c17b0 : (((rd_T65 l0 x11_1).f0) == 2) = false := beq_eq_false_iff_ne.mpr c17
        have c17b1 : (((rd_T65 l0 x11_1).f0) != 2) = true := bne_iff_ne.mpr c17
        by_cases c29 : ((rd_T65 l0 x11_1).f0) = 8
        ·rw [if_pos c29] at H
         have c29b0 : (((rd_T65 l0 x11_1).f0) == 8) = true := beq_iff_eq.mpr c29
         have c29b1 : (((rd_T65 l0 x11_1).f0) != 8) = false := bne_eq_false_iff_eq.mpr c29
         clear c29
         by_cases c30 : 0 ≤ ((rd_T65 l0 x11_1).f2)
         ·rw [if_pos c30] at H
          have c30b0 : decide (0 ≤ ((rd_T65 l0 x11_1).f2)) = true := decide_eq_true c30
          clear c30
          by_cases c31 : ((rd_T65 l0 x11_1).f2) < (x1_1.length : Int)
          ·rw [if_pos c31] at H
           have c31b0 : decide (((rd_T65 l0 x11_1).f2) < (x1_1.length : Int)) = true := decide_eq_true c31
           clear c31
           by_cases c32 : x2_1.length < 17592186044416
           ·rw [if_pos c32] at H
            have LMc32 := Aside0.mk c32
            clear c32
            obtain ⟨y193, hy193⟩ : ∃ y_ : List Int, y_ = (x2_1 ++ [rd x1_1 ((rd_T65 l0 x11_1).f2)]) := ⟨_, rfl⟩
            replace H : (spec_l3Run.l0 k1 x1_1 y193 l0 (l0.length : Int) (wrap64 (x11_1 + 1))) = some (r1, r2) := by first | (rw [hy193]; with_reducible exact H) | (have H2_ := (Option.bind_some _ _).symm.trans H; rw [hy193]; with_reducible exact H2_) | (have H2_ := (Option.bind_some _ _).symm.trans H; with_reducible exact H2_) | with_reducible exact H | (rw [hy193]; exact H) | exact H
            have Ny193 := Aside0.mk hy193
            clear hy193
            have H' := Aside0.mk H
            clear H
            have p187 : 0 ≤ (x11_1 : Int) := of_decide_eq_true (by first | (with_reducible assumption) | assumption)
            have q187 : x11_1 < (l0.length : Int) := of_decide_eq_true (by first | (with_reducible assumption) | assumption)
            obtain ⟨ad187, e187, hx187_0, hx187_1, hx187_2, hx187_3, hx187_4⟩ := at_T65 (Kd.C_kept_now HR0.out HK.out) x11_1 p187 q187
            cases e187
            replace p187 := eq_true p187
            replace q187 := eq_true q187
            go_wp2_with (first | ((with_reducible refine gate_dst (N := 8) rfl ?_); refine box_event ?hg (N := 8) ?hd (cs := #[.int .i64 0, .int .i64 0, .int .i64 0, .int .i64 0, .int .i64 0]) (t := 65) ?hr ?_; (case hd => rfl); (case hg => rfl); (case hr => first | (go_simp; done) | (go_simp; rfl)); intro gb188 hg w33 hbox hb; have n0_ := Aside0.mk (Kd.R_below (by (with_reducible repeat (first | apply Kd.R_alloc | apply Kd.R_drewN | apply Kd.R_drew)); exact HO_1.out) hb); have n1_ := Aside0.mk (Kd.R_below (by (with_reducible repeat (first | apply Kd.R_alloc | apply Kd.R_drewN | apply Kd.R_drew)); exact HO_2.out) hb); have n2_ := Aside0.mk (Kept.below (S := (fun k_ => P1_ k_ ∨ P2_ k_)) (by repeat (first | (with_reducible first | exact HK.out | apply Kept.alloc | apply Kept.drewN | apply Kept.drew) | exact HK.out)) hb); have n3_ := Aside0.mk (below_step (by repeat (first | (with_reducible first | exact HB.out | apply below_alloc | apply pw_below_drewN | apply below_drew1) | exact HB.out)) hb); have n4_ := Aside0.mk (hbox); have n5_ := Aside0.mk ((by rw [hg]; exact (by first | exact HK.out.1 | exact (show Kept w _ (fun k_ => P1_ k_ ∨ P2_ k_) from by repeat (first | (with_reducible first | exact HK.out | apply Kept.alloc | apply Kept.drewN | apply Kept.drew) | exact HK.out)).1) : w.heap.size ≤ gb188)); have n6_ := Aside0.mk ((by rw [hg]; exact (below_size (by repeat (first | (with_reducible first | exact HB.out | apply below_alloc | apply pw_below_drewN | apply below_drew1) | exact HB.out))) : w0.heap.size ≤ gb188)); clear HO_1; clear HO_2; clear HK; clear HB; have HO_1 := n0_; have HO_2 := n1_; have HK := n2_; have HB := n3_; have BK188 := n4_; have GW188 := n5_; have GE188 := n6_; clear n0_ n1_ n2_ n3_ n4_ n5_ n6_; clear hb hbox hg; have hcz34_0 : w33.cell? ⟨gb188, 0, none⟩ = some (.int .i64 0) := (blk_cell BK188.out 0).trans rfl; have hcz34_1 : w33.cell? ⟨gb188, 1, none⟩ = some (.int .i64 0) := (blk_cell BK188.out 1).trans rfl; have hcz34_2 : w33.cell? ⟨gb188, 2, none⟩ = some (.int .i64 0) := (blk_cell BK188.out 2).trans rfl; have hcz34_3 : w33.cell? ⟨gb188, 3, none⟩ = some (.int .i64 0) := (blk_cell BK188.out 3).trans rfl; have hcz34_4 : w33.cell? ⟨gb188, 4, none⟩ = some (.int .i64 0) := (blk_cell BK188.out 4).trans rfl; have hfz34_0 := blk_frozen BK188.out 0; have hfz34_1 := blk_frozen BK188.out 1; have hfz34_2 := blk_frozen BK188.out 2; have hfz34_3 := blk_frozen BK188.out 3; have hfz34_4 := blk_frozen BK188.out 4; obtain ⟨Ao35, co35, eo35⟩ := Kd.R_slice HO_1.out; subst eo35; have p192 : 0 ≤ (((rd_T65 l0 x11_1).f2) : Int) := of_decide_eq_true (by first | (with_reducible assumption) | assumption); have q192 : ((rd_T65 l0 x11_1).f2) < (x1_1.length : Int) := of_decide_eq_true (by first | (with_reducible assumption) | assumption); obtain ⟨ad192, e192, hx192_0⟩ := Kd.at_int (Kd.R_reads' HO_1.out).2.2 ((rd_T65 l0 x11_1).f2) p192 q192; cases e192; have hn192_0 : ad192.block ≠ gb188 := Kd.own_blk (Kd.R_ne HO_1.out BK188.out (by decide)); have hn192_1 : ad192.block ≠ gb188 := Kd.own_blk (Kd.R_ne HO_1.out BK188.out (by decide)); have hn192_2 : ad192.block ≠ gb188 := Kd.own_blk (Kd.R_ne HO_1.out BK188.out (by decide)); have hn192_3 : ad192.block ≠ gb188 := Kd.own_blk (Kd.R_ne HO_1.out BK188.out (by decide)); have hn192_4 : ad192.block ≠ gb188 := Kd.own_blk (Kd.R_ne HO_1.out BK188.out (by decide)); replace hx192_0 := (cell_far (p := ⟨gb188, 0, none⟩) (by first | (rw [add_block]; exact hn192_0) | (show (Addr.add _ _).block ≠ _; rw [add_block]; exact hn192_0) | exact hn192_0) (.int .i64 ((rd_T65 l0 x11_1).f0))).trans hx192_0; replace hx192_0 := (cell_far (p := ⟨gb188, 1, none⟩) (by first | (rw [add_block]; exact hn192_1) | (show (Addr.add _ _).block ≠ _; rw [add_block]; exact hn192_1) | exact hn192_1) (.int .i64 ((rd_T65 l0 x11_1).f1))).trans hx192_0; replace hx192_0 := (cell_far (p := ⟨gb188, 2, none⟩) (by first | (rw [add_block]; exact hn192_2) | (show (Addr.add _ _).block ≠ _; rw [add_block]; exact hn192_2) | exact hn192_2) (.int .i64 ((rd_T65 l0 x11_1).f2))).trans hx192_0; replace hx192_0 := (cell_far (p := ⟨gb188, 3, none⟩) (by first | (rw [add_block]; exact hn192_3) | (show (Addr.add _ _).block ≠ _; rw [add_block]; exact hn192_3) | exact hn192_3) (.int .i64 ((rd_T65 l0 x11_1).f3))).trans hx192_0; replace hx192_0 := (cell_far (p := ⟨gb188, 4, none⟩) (by first | (rw [add_block]; exact hn192_4) | (show (Addr.add _ _).block ≠ _; rw [add_block]; exact hn192_4) | exact hn192_4) (.int .i64 ((rd_T65 l0 x11_1).f4))).trans hx192_0; clear hn192_0; clear hn192_1; clear hn192_2; clear hn192_3; clear hn192_4; replace p192 := eq_true p192; replace q192 := eq_true q192) | ((with_reducible refine gate_builtin (b := .append) (xs := #[.tmp 55, .tmp 61]) rfl ?_); at_builtin; refine Kd.R_append (Kd.int .i64) (w0 := w0) w0.heap.size rfl (.tmp 55) (.tmp 61) 23 3 (.int .i64 0) 8 rfl Try.underlying23 info3 rfl (by decide) (by omega) u2 x2_1 (rd x1_1 ((rd_T65 l0 x11_1).f2)) [.int .i64 (rd x1_1 ((rd_T65 l0 x11_1).f2))] (fun k_ => ((P1_ k_ ∨ P2_ k_) ∨ w.heap.size ≤ k_) ∧ some k_ ≠ (.slice (some ad192) x1_1.length co35 : Value).ownBlock) (fun _ => False) rfl (by first | (go_simp; done) | (go_simp; rfl)) ?aP (fun _ hk => hk.elim) ?aF ?aO ?aB ?aS ?aL ?_; (case aP => exact rfl); (case aB => exact (by repeat (first | (with_reducible first | exact HB.out | apply below_alloc | apply pw_below_drewN | apply below_drew1 | refine below_set ?_ GE188.out) | exact HB.out))); (case aF => exact (fun k_ hk => ⟨(.inr (Nat.le_trans (show Kept w _ (fun k_ => P1_ k_ ∨ P2_ k_) from by repeat (first | (with_reducible first | exact HK.out | apply Kept.alloc | apply Kept.drewN | apply Kept.drew | refine Kept.setCell ?_ (.inr GW188.out) _) | exact HK.out)).1 hk)), Kd.fresh' (Kd.R_lt (by (with_reducible repeat (first | apply Kd.R_alloc | apply Kd.R_drewN | apply Kd.R_drew)); exact (Kd.R_mono (Kd.R_far (p := ⟨gb188, 4, none⟩) (Kd.R_far (p := ⟨gb188, 3, none⟩) (Kd.R_far (p := ⟨gb188, 2, none⟩) (Kd.R_far (p := ⟨gb188, 1, none⟩) (Kd.R_far (p := ⟨gb188, 0, none⟩) (Kd.R_types HO_1.out BK188.out (by decide)) (fun _ hk => hk.2) (.int .i64 ((rd_T65 l0 x11_1).f0))) (fun _ hk => hk.2) (.int .i64 ((rd_T65 l0 x11_1).f1))) (fun _ hk => hk.2) (.int .i64 ((rd_T65 l0 x11_1).f2))) (fun _ hk => hk.2) (.int .i64 ((rd_T65 l0 x11_1).f3))) (fun _ hk => hk.2) (.int .i64 ((rd_T65 l0 x11_1).f4))) (fun _ h_ => h_.1)))) k_ hk⟩)); (case aO => exact (by (with_reducible repeat (first | apply Kd.R_alloc | apply Kd.R_drewN | apply Kd.R_drew)); exact Kd.R_mono (Kd.R_far (p := ⟨gb188, 4, none⟩) (Kd.R_far (p := ⟨gb188, 3, none⟩) (Kd.R_far (p := ⟨gb188, 2, none⟩) (Kd.R_far (p := ⟨gb188, 1, none⟩) (Kd.R_far (p := ⟨gb188, 0, none⟩) (Kd.R_types HO_2.out BK188.out (by decide)) (fun _ hk => hk.2) (.int .i64 ((rd_T65 l0 x11_1).f0))) (fun _ hk => hk.2) (.int .i64 ((rd_T65 l0 x11_1).f1))) (fun _ hk => hk.2) (.int .i64 ((rd_T65 l0 x11_1).f2))) (fun _ hk => hk.2) (.int .i64 ((rd_T65 l0 x11_1).f3))) (fun _ hk => hk.2) (.int .i64 ((rd_T65 l0 x11_1).f4))) (fun _ hk => ⟨hk.1.1, hk.1.2⟩))); (case aS => exact (below_size (by repeat (first | (with_reducible first | exact HB.out | apply below_alloc | apply pw_below_drewN | apply below_drew1 | refine below_set ?_ GE188.out) | exact HB.out)))); (case aL => have := LMc32.out; omega); intro v194 w36 ho hb hg hat; rw [← Ny193.out] at ho; have n0_ := Aside0.mk (Kd.R_after (ok := (fun k_ => ((P1_ k_ ∨ P2_ k_) ∨ w.heap.size ≤ k_))) (by (with_reducible repeat (first | apply Kd.R_alloc | apply Kd.R_drewN | apply Kd.R_drew)); exact Kd.R_mono (Kd.R_far (p := ⟨gb188, 4, none⟩) (Kd.R_far (p := ⟨gb188, 3, none⟩) (Kd.R_far (p := ⟨gb188, 2, none⟩) (Kd.R_far (p := ⟨gb188, 1, none⟩) (Kd.R_far (p := ⟨gb188, 0, none⟩) (Kd.R_types HO_1.out BK188.out (by decide)) (fun _ hk => hk.2) (.int .i64 ((rd_T65 l0 x11_1).f0))) (fun _ hk => hk.2) (.int .i64 ((rd_T65 l0 x11_1).f1))) (fun _ hk => hk.2) (.int .i64 ((rd_T65 l0 x11_1).f2))) (fun _ hk => hk.2) (.int .i64 ((rd_T65 l0 x11_1).f3))) (fun _ hk => hk.2) (.int .i64 ((rd_T65 l0 x11_1).f4))) (fun _ hk => ⟨hk.1.1, hk.1.2⟩)) hg hat); have n1_ := Aside0.mk (blk_grown (g := gb188) (o := .cells #[.int .i64 ((rd_T65 l0 x11_1).f0), .int .i64 ((rd_T65 l0 x11_1).f1), .int .i64 ((rd_T65 l0 x11_1).f2), .int .i64 ((rd_T65 l0 x11_1).f3), .int .i64 ((rd_T65 l0 x11_1).f4)] 65 (0, 0)) (by (with_reducible repeat (first | refine blk_drewN ?_ _ | refine blk_drew ?_ | refine blk_alloc ?_ _)); refine blk_put (cs := #[.int .i64 ((rd_T65 l0 x11_1).f0), .int .i64 ((rd_T65 l0 x11_1).f1), .int .i64 ((rd_T65 l0 x11_1).f2), .int .i64 ((rd_T65 l0 x11_1).f3), .int .i64 0]) ?_ 4 _ rfl; (with_reducible repeat (first | refine blk_drewN ?_ _ | refine blk_drew ?_ | refine blk_alloc ?_ _)); refine blk_put (cs := #[.int .i64 ((rd_T65 l0 x11_1).f0), .int .i64 ((rd_T65 l0 x11_1).f1), .int .i64 ((rd_T65 l0 x11_1).f2), .int .i64 0, .int .i64 0]) ?_ 3 _ rfl; (with_reducible repeat (first | refine blk_drewN ?_ _ | refine blk_drew ?_ | refine blk_alloc ?_ _)); refine blk_put (cs := #[.int .i64 ((rd_T65 l0 x11_1).f0), .int .i64 ((rd_T65 l0 x11_1).f1), .int .i64 0, .int .i64 0, .int .i64 0]) ?_ 2 _ rfl; (with_reducible repeat (first | refine blk_drewN ?_ _ | refine blk_drew ?_ | refine blk_alloc ?_ _)); refine blk_put (cs := #[.int .i64 ((rd_T65 l0 x11_1).f0), .int .i64 0, .int .i64 0, .int .i64 0, .int .i64 0]) ?_ 1 _ rfl; (with_reducible repeat (first | refine blk_drewN ?_ _ | refine blk_drew ?_ | refine blk_alloc ?_ _)); refine blk_put (cs := #[.int .i64 0, .int .i64 0, .int .i64 0, .int .i64 0, .int .i64 0]) ?_ 0 _ rfl; (with_reducible repeat (first | refine blk_drewN ?_ _ | refine blk_drew ?_ | refine blk_alloc ?_ _)); exact BK188.out) hg (Kd.R_ne HO_2.out BK188.out (by decide))); have n2_ := Aside0.mk (hb); have n3_ := Aside0.mk (Kept.of_grown (S := (fun k_ => P1_ k_ ∨ P2_ k_)) hg (by repeat (first | (with_reducible first | exact HK.out | apply Kept.alloc | apply Kept.drewN | apply Kept.drew | refine Kept.setCell ?_ (.inr GW188.out) _) | exact HK.out)) (fun k_ e_ => (HO_2.out.1 k_ e_).1)); have n4_ := Aside0.mk (ho); clear HO_1; clear BK188; clear HB; clear HK; clear HO_2; have HO_1 := n0_; have BK188 := n1_; have HB := n2_; have HK := n3_; have HO195 := n4_; clear n0_ n1_ n2_ n3_ n4_; clear ho hb hg hat))
            go_roundg k1
            case measure => have := HK1.out; omega
            case rel => exact ⟨(x1_1), (y193), (wrap64 (x11_1 + 1)), (by first | rfl | (simp; done) | (simp [*]; done)), H', ⟨by have := HK1.out; omega⟩, ⟨by (with_reducible repeat (first | apply Kd.R_alloc | apply Kd.R_drewN | apply Kd.R_drew)); exact HO_1.out⟩, ⟨by (with_reducible repeat (first | apply Kd.R_alloc | apply Kd.R_drewN | apply Kd.R_drew)); exact HO195.out⟩, ⟨by repeat (first | (with_reducible first | exact HK.out | apply Kept.alloc | apply Kept.drewN | apply Kept.drew | refine Kept.setCell ?_ (.inr GW188.out) _) | exact HK.out)⟩, ⟨by repeat (first | (with_reducible first | exact HB.out | apply below_alloc | apply pw_below_drewN | apply below_drew1 | refine below_set ?_ GE188.out) | exact HB.out)⟩⟩
           ·rw [if_neg c32] at H
            exact absurd H (by simp)
          ·rw [if_neg c31] at H
           exact absurd H (by simp)
         ·rw [if_neg c30] at H
          exact absurd H (by simp)
        ·rw [if_neg c29] at H
         have c29b0 : (((rd_T65 l0 x11_1).f0) == 8) = false := beq_eq_false_iff_ne.mpr c29
         have c29b1 : (((rd_T65 l0 x11_1).f0) != 8) = true := bne_iff_ne.mpr c29
         by_cases c37 : 0 ≤ ((rd_T65 l0 x11_1).f2)
         ·rw [if_pos c37] at H
          have c37b0 : decide (0 ≤ ((rd_T65 l0 x11_1).f2)) = true := decide_eq_true c37
          clear c37
          by_cases c38 : ((rd_T65 l0 x11_1).f2) < (x1_1.length : Int)
          ·rw [if_pos c38] at H
           have c38b0 : decide (((rd_T65 l0 x11_1).f2) < (x1_1.length : Int)) = true := decide_eq_true c38
           clear c38
           by_cases c39 : 0 ≤ ((rd_T65 l0 x11_1).f3)
           ·rw [if_pos c39] at H
            have c39b0 : decide (0 ≤ ((rd_T65 l0 x11_1).f3)) = true := decide_eq_true c39
            clear c39
            by_cases c40 : ((rd_T65 l0 x11_1).f3) < (x1_1.length : Int)
            ·rw [if_pos c40] at H
             have c40b0 : decide (((rd_T65 l0 x11_1).f3) < (x1_1.length : Int)) = true := decide_eq_true c40
             clear c40
             replace H := Option.bind_eq_some_iff.mp H
             obtain ⟨t198, A410, H⟩ := H
             replace H : (if 0 ≤ ((rd_T65 l0 x11_1).f1) then (if ((rd_T65 l0 x11_1).f1) < (x1_1.length : Int) then (spec_l3Run.l0 k1 (x1_1.set (((rd_T65 l0 x11_1).f1) : Int).toNat t198) x2_1 l0 (l0.length : Int) (wrap64 (x11_1 + 1))) else (none)) else (none)) = some (r1, r2) := H
             have A41 := Aside0.mk A410
             clear A410
             by_cases c42 : 0 ≤ ((rd_T65 l0 x11_1).f1)
             ·rw [if_pos c42] at H
              have c42b0 : decide (0 ≤ ((rd_T65 l0 x11_1).f1)) = true := decide_eq_true c42
              clear c42
              by_cases c43 : ((rd_T65 l0 x11_1).f1) < (x1_1.length : Int)
              ·rw [if_pos c43] at H
               have c43b0 : decide (((rd_T65 l0 x11_1).f1) < (x1_1.length : Int)) = true := decide_eq_true c43
               clear c43
               obtain ⟨y199, hy199⟩ : ∃ y_ : List Int, y_ = (x1_1.set (((rd_T65 l0 x11_1).f1) : Int).toNat t198) := ⟨_, rfl⟩
               replace H : (spec_l3Run.l0 k1 y199 x2_1 l0 (l0.length : Int) (wrap64 (x11_1 + 1))) = some (r1, r2) := by first | (rw [hy199]; with_reducible exact H) | (have H2_ := (Option.bind_some _ _).symm.trans H; rw [hy199]; with_reducible exact H2_) | (have H2_ := (Option.bind_some _ _).symm.trans H; with_reducible exact H2_) | with_reducible exact H | (rw [hy199]; exact H) | exact H
               have Ny199 := Aside0.mk hy199
               clear hy199
               have H' := Aside0.mk H
               clear H
               have p187 : 0 ≤ (x11_1 : Int) := of_decide_eq_true (by first | (with_reducible assumption) | assumption)
               have q187 : x11_1 < (l0.length : Int) := of_decide_eq_true (by first | (with_reducible assumption) | assumption)
               obtain ⟨ad187, e187, hx187_0, hx187_1, hx187_2, hx187_3, hx187_4⟩ := at_T65 (Kd.C_kept_now HR0.out HK.out) x11_1 p187 q187
               cases e187
               replace p187 := eq_true p187
               replace q187 := eq_true q187
               try go_wp2_with (first | ((with_reducible refine gate_dst (N := 8) rfl ?_); refine box_event ?hg (N := 8) ?hd (cs := #[.int .i64 0, .int .i64 0, .int .i64 0, .int .i64 0, .int .i64 0]) (t := 65) ?hr ?_; (case hd => rfl); (case hg => rfl); (case hr => first | (go_simp; done) | (go_simp; rfl)); intro gb188 hg w45 hbox hb; have n0_ := Aside0.mk (Kd.R_below (by (with_reducible repeat (first | apply Kd.R_alloc | apply Kd.R_drewN | apply Kd.R_drew)); exact HO_1.out) hb); have n1_ := Aside0.mk (Kd.R_below (by (with_reducible repeat (first | apply Kd.R_alloc | apply Kd.R_drewN | apply Kd.R_drew)); exact HO_2.out) hb); have n2_ := Aside0.mk (Kept.below (S := (fun k_ => P1_ k_ ∨ P2_ k_)) (by repeat (first | (with_reducible first | exact HK.out | apply Kept.alloc | apply Kept.drewN | apply Kept.drew) | exact HK.out)) hb); have n3_ := Aside0.mk (below_step (by repeat (first | (with_reducible first | exact HB.out | apply below_alloc | apply pw_below_drewN | apply below_drew1) | exact HB.out)) hb); have n4_ := Aside0.mk (hbox); have n5_ := Aside0.mk ((by rw [hg]; exact (by first | exact HK.out.1 | exact (show Kept w _ (fun k_ => P1_ k_ ∨ P2_ k_) from by repeat (first | (with_reducible first | exact HK.out | apply Kept.alloc | apply Kept.drewN | apply Kept.drew) | exact HK.out)).1) : w.heap.size ≤ gb188)); have n6_ := Aside0.mk ((by rw [hg]; exact (below_size (by repeat (first | (with_reducible first | exact HB.out | apply below_alloc | apply pw_below_drewN | apply below_drew1) | exact HB.out))) : w0.heap.size ≤ gb188)); clear HO_1; clear HO_2; clear HK; clear HB; have HO_1 := n0_; have HO_2 := n1_; have HK := n2_; have HB := n3_; have BK188 := n4_; have GW188 := n5_; have GE188 := n6_; clear n0_ n1_ n2_ n3_ n4_ n5_ n6_; clear hb hbox hg; have hcz46_0 : w45.cell? ⟨gb188, 0, none⟩ = some (.int .i64 0) := (blk_cell BK188.out 0).trans rfl; have hcz46_1 : w45.cell? ⟨gb188, 1, none⟩ = some (.int .i64 0) := (blk_cell BK188.out 1).trans rfl; have hcz46_2 : w45.cell? ⟨gb188, 2, none⟩ = some (.int .i64 0) := (blk_cell BK188.out 2).trans rfl; have hcz46_3 : w45.cell? ⟨gb188, 3, none⟩ = some (.int .i64 0) := (blk_cell BK188.out 3).trans rfl; have hcz46_4 : w45.cell? ⟨gb188, 4, none⟩ = some (.int .i64 0) := (blk_cell BK188.out 4).trans rfl; have hfz46_0 := blk_frozen BK188.out 0; have hfz46_1 := blk_frozen BK188.out 1; have hfz46_2 := blk_frozen BK188.out 2; have hfz46_3 := blk_frozen BK188.out 3; have hfz46_4 := blk_frozen BK188.out 4))
               have n0_ : Aside0 (Kd.R (Kd.int .i64) 3 (((((w45.setCell ⟨gb188, 0, none⟩ (.int .i64 ((rd_T65 l0 x11_1).f0))).setCell ⟨gb188, 1, none⟩ (.int .i64 ((rd_T65 l0 x11_1).f1))).setCell ⟨gb188, 2, none⟩ (.int .i64 ((rd_T65 l0 x11_1).f2))).setCell ⟨gb188, 3, none⟩ (.int .i64 ((rd_T65 l0 x11_1).f3))).setCell ⟨gb188, 4, none⟩ (.int .i64 ((rd_T65 l0 x11_1).f4))) w0.heap.size (fun k_ => ((P1_ k_ ∨ P2_ k_) ∨ w.heap.size ≤ k_) ∧ some k_ ≠ (u2 : Value).ownBlock) u9000_ x1_1) := ⟨by (with_reducible repeat (first | apply Kd.R_alloc | apply Kd.R_drewN | apply Kd.R_drew)); exact Kd.R_mono (Kd.R_far (p := ⟨gb188, 4, none⟩) (Kd.R_far (p := ⟨gb188, 3, none⟩) (Kd.R_far (p := ⟨gb188, 2, none⟩) (Kd.R_far (p := ⟨gb188, 1, none⟩) (Kd.R_far (p := ⟨gb188, 0, none⟩) (Kd.R_types HO_1.out BK188.out (by decide)) (fun _ hk => hk.2) (.int .i64 ((rd_T65 l0 x11_1).f0))) (fun _ hk => hk.2) (.int .i64 ((rd_T65 l0 x11_1).f1))) (fun _ hk => hk.2) (.int .i64 ((rd_T65 l0 x11_1).f2))) (fun _ hk => hk.2) (.int .i64 ((rd_T65 l0 x11_1).f3))) (fun _ hk => hk.2) (.int .i64 ((rd_T65 l0 x11_1).f4))) (fun _ hk => ⟨hk.1.1, hk.1.2⟩)⟩
               have n1_ : Aside0 (Kd.R (Kd.int .i64) 3 (((((w45.setCell ⟨gb188, 0, none⟩ (.int .i64 ((rd_T65 l0 x11_1).f0))).setCell ⟨gb188, 1, none⟩ (.int .i64 ((rd_T65 l0 x11_1).f1))).setCell ⟨gb188, 2, none⟩ (.int .i64 ((rd_T65 l0 x11_1).f2))).setCell ⟨gb188, 3, none⟩ (.int .i64 ((rd_T65 l0 x11_1).f3))).setCell ⟨gb188, 4, none⟩ (.int .i64 ((rd_T65 l0 x11_1).f4))) w0.heap.size (fun k_ => ((P1_ k_ ∨ P2_ k_) ∨ w.heap.size ≤ k_) ∧ some k_ ≠ (u9000_ : Value).ownBlock) u2 x2_1) := ⟨by (with_reducible repeat (first | apply Kd.R_alloc | apply Kd.R_drewN | apply Kd.R_drew)); exact Kd.R_mono (Kd.R_far (p := ⟨gb188, 4, none⟩) (Kd.R_far (p := ⟨gb188, 3, none⟩) (Kd.R_far (p := ⟨gb188, 2, none⟩) (Kd.R_far (p := ⟨gb188, 1, none⟩) (Kd.R_far (p := ⟨gb188, 0, none⟩) (Kd.R_types HO_2.out BK188.out (by decide)) (fun _ hk => hk.2) (.int .i64 ((rd_T65 l0 x11_1).f0))) (fun _ hk => hk.2) (.int .i64 ((rd_T65 l0 x11_1).f1))) (fun _ hk => hk.2) (.int .i64 ((rd_T65 l0 x11_1).f2))) (fun _ hk => hk.2) (.int .i64 ((rd_T65 l0 x11_1).f3))) (fun _ hk => hk.2) (.int .i64 ((rd_T65 l0 x11_1).f4))) (fun _ hk => ⟨hk.1.1, hk.1.2⟩)⟩
               have n2_ : Aside0 ((((((w45.setCell ⟨gb188, 0, none⟩ (.int .i64 ((rd_T65 l0 x11_1).f0))).setCell ⟨gb188, 1, none⟩ (.int .i64 ((rd_T65 l0 x11_1).f1))).setCell ⟨gb188, 2, none⟩ (.int .i64 ((rd_T65 l0 x11_1).f2))).setCell ⟨gb188, 3, none⟩ (.int .i64 ((rd_T65 l0 x11_1).f3))).setCell ⟨gb188, 4, none⟩ (.int .i64 ((rd_T65 l0 x11_1).f4))).heap[gb188]? = some (.cells #[.int .i64 ((rd_T65 l0 x11_1).f0), .int .i64 ((rd_T65 l0 x11_1).f1), .int .i64 ((rd_T65 l0 x11_1).f2), .int .i64 ((rd_T65 l0 x11_1).f3), .int .i64 ((rd_T65 l0 x11_1).f4)] 65 (0, 0))) := ⟨by (with_reducible repeat (first | refine blk_drewN ?_ _ | refine blk_drew ?_ | refine blk_alloc ?_ _)); refine blk_put (cs := #[.int .i64 ((rd_T65 l0 x11_1).f0), .int .i64 ((rd_T65 l0 x11_1).f1), .int .i64 ((rd_T65 l0 x11_1).f2), .int .i64 ((rd_T65 l0 x11_1).f3), .int .i64 0]) ?_ 4 _ rfl; (with_reducible repeat (first | refine blk_drewN ?_ _ | refine blk_drew ?_ | refine blk_alloc ?_ _)); refine blk_put (cs := #[.int .i64 ((rd_T65 l0 x11_1).f0), .int .i64 ((rd_T65 l0 x11_1).f1), .int .i64 ((rd_T65 l0 x11_1).f2), .int .i64 0, .int .i64 0]) ?_ 3 _ rfl; (with_reducible repeat (first | refine blk_drewN ?_ _ | refine blk_drew ?_ | refine blk_alloc ?_ _)); refine blk_put (cs := #[.int .i64 ((rd_T65 l0 x11_1).f0), .int .i64 ((rd_T65 l0 x11_1).f1), .int .i64 0, .int .i64 0, .int .i64 0]) ?_ 2 _ rfl; (with_reducible repeat (first | refine blk_drewN ?_ _ | refine blk_drew ?_ | refine blk_alloc ?_ _)); refine blk_put (cs := #[.int .i64 ((rd_T65 l0 x11_1).f0), .int .i64 0, .int .i64 0, .int .i64 0, .int .i64 0]) ?_ 1 _ rfl; (with_reducible repeat (first | refine blk_drewN ?_ _ | refine blk_drew ?_ | refine blk_alloc ?_ _)); refine blk_put (cs := #[.int .i64 0, .int .i64 0, .int .i64 0, .int .i64 0, .int .i64 0]) ?_ 0 _ rfl; (with_reducible repeat (first | refine blk_drewN ?_ _ | refine blk_drew ?_ | refine blk_alloc ?_ _)); exact BK188.out⟩
               have n3_ : Aside0 (Kept w (((((w45.setCell ⟨gb188, 0, none⟩ (.int .i64 ((rd_T65 l0 x11_1).f0))).setCell ⟨gb188, 1, none⟩ (.int .i64 ((rd_T65 l0 x11_1).f1))).setCell ⟨gb188, 2, none⟩ (.int .i64 ((rd_T65 l0 x11_1).f2))).setCell ⟨gb188, 3, none⟩ (.int .i64 ((rd_T65 l0 x11_1).f3))).setCell ⟨gb188, 4, none⟩ (.int .i64 ((rd_T65 l0 x11_1).f4))) (fun k_ => P1_ k_ ∨ P2_ k_)) := ⟨by repeat (first | (with_reducible first | exact HK.out | apply Kept.alloc | apply Kept.drewN | apply Kept.drew | refine Kept.setCell ?_ (.inr GW188.out) _) | exact HK.out)⟩
               have n4_ : Aside0 (Below w0.heap.size w0 (((((w45.setCell ⟨gb188, 0, none⟩ (.int .i64 ((rd_T65 l0 x11_1).f0))).setCell ⟨gb188, 1, none⟩ (.int .i64 ((rd_T65 l0 x11_1).f1))).setCell ⟨gb188, 2, none⟩ (.int .i64 ((rd_T65 l0 x11_1).f2))).setCell ⟨gb188, 3, none⟩ (.int .i64 ((rd_T65 l0 x11_1).f3))).setCell ⟨gb188, 4, none⟩ (.int .i64 ((rd_T65 l0 x11_1).f4)))) := ⟨by repeat (first | (with_reducible first | exact HB.out | apply below_alloc | apply pw_below_drewN | apply below_drew1 | refine below_set ?_ GE188.out) | exact HB.out)⟩
               (try clear HO_1)
               (try clear HO_2)
               (try clear BK188)
               (try clear HK)
               (try clear HB)
               generalize (((((w45.setCell ⟨gb188, 0, none⟩ (.int .i64 ((rd_T65 l0 x11_1).f0))).setCell ⟨gb188, 1, none⟩ (.int .i64 ((rd_T65 l0 x11_1).f1))).setCell ⟨gb188, 2, none⟩ (.int .i64 ((rd_T65 l0 x11_1).f2))).setCell ⟨gb188, 3, none⟩ (.int .i64 ((rd_T65 l0 x11_1).f3))).setCell ⟨gb188, 4, none⟩ (.int .i64 ((rd_T65 l0 x11_1).f4))) = w47 at n0_ n1_ n2_ n3_ n4_ ⊢
               have HO_1 := n0_
               have HO_2 := n1_
               have BK188 := n2_
               have HK := n3_
               have HB := n4_
               clear n0_ n1_ n2_ n3_ n4_
               have n0_ := Aside0.mk (Kd.R_drew HO_1.out)
               have n1_ := Aside0.mk (Kd.R_drew HO_2.out)
               have n2_ := Aside0.mk (blk_drew BK188.out)
               have n3_ := Aside0.mk (Kept.drew HK.out)
               have n4_ := Aside0.mk (below_drew1 HB.out)
               clear HO_1
               clear HO_2
               clear BK188
               clear HK
               clear HB
               have HO_1 := n0_
               have HO_2 := n1_
               have BK188 := n2_
               have HK := n3_
               have HB := n4_
               clear n0_ n1_ n2_ n3_ n4_
               obtain ⟨Ao49, co49, eo49⟩ := Kd.R_slice HO_1.out
               (first | subst eo49 | (injection eo49 with f1_ f2_ f3_; have f4_ := f1_.symm; have f5_ := f3_.symm; clear f1_ f2_ f3_; subst f4_; subst f5_))
               have p196 : 0 ≤ (((rd_T65 l0 x11_1).f2) : Int) := of_decide_eq_true (by first | (with_reducible assumption) | assumption)
               have q196 : ((rd_T65 l0 x11_1).f2) < (x1_1.length : Int) := of_decide_eq_true (by first | (with_reducible assumption) | assumption)
               obtain ⟨ad196, e196, hx196_0⟩ := Kd.at_int (Kd.R_reads' HO_1.out).2.2 ((rd_T65 l0 x11_1).f2) p196 q196
               cases e196
               replace p196 := eq_true p196
               replace q196 := eq_true q196
               have p197 : 0 ≤ (((rd_T65 l0 x11_1).f3) : Int) := of_decide_eq_true (by first | (with_reducible assumption) | assumption)
               have q197 : ((rd_T65 l0 x11_1).f3) < (x1_1.length : Int) := of_decide_eq_true (by first | (with_reducible assumption) | assumption)
               obtain ⟨ad197, e197, hx197_0⟩ := Kd.at_int (Kd.R_reads' HO_1.out).2.2 ((rd_T65 l0 x11_1).f3) p197 q197
               obtain rfl : ad196 = ad197 := (by injection e197)
               replace p197 := eq_true p197
               replace q197 := eq_true q197
               refine start_ (n := 18) (S := fun w' => w'.cell? ⟨gb188, 0, none⟩ = some (.int .i64 ((rd_T65 l0 x11_1).f0)) ∧ w'.cell? ⟨gb188, 1, none⟩ = some (.int .i64 ((rd_T65 l0 x11_1).f1)) ∧ w'.cell? ⟨gb188, 2, none⟩ = some (.int .i64 ((rd_T65 l0 x11_1).f2)) ∧ w'.cell? ⟨gb188, 3, none⟩ = some (.int .i64 ((rd_T65 l0 x11_1).f3)) ∧ w'.cell? ⟨gb188, 4, none⟩ = some (.int .i64 ((rd_T65 l0 x11_1).f4)) ∧ w'.cell? (ad196.add (((rd_T65 l0 x11_1).f2)).toNat) = some (.int .i64 (rd x1_1 ((rd_T65 l0 x11_1).f2))) ∧ w'.cell? (ad196.add (((rd_T65 l0 x11_1).f3)).toNat) = some (.int .i64 (rd x1_1 ((rd_T65 l0 x11_1).f3)))) (ds := [17]) #[false, false, false, false, false, false, false, false, false, false, false, false, false, false, false, false, false, false] (by kernel_rfl) rfl rfl ⟨(blk_cell BK188.out 0).trans rfl, (blk_cell BK188.out 1).trans rfl, (blk_cell BK188.out 2).trans rfl, (blk_cell BK188.out 3).trans rfl, (blk_cell BK188.out 4).trans rfl, hx196_0, hx197_0⟩ (fun hHeld => ?_); refine with_tabW spec_l3Run.tab5 spec_l3Run.bits5 (fun HT_ HW_ => ?_)
               generalize w47.drew = w48 at HO_1 HO_2 BK188 HK HB hx196_0 hx197_0 hHeld ⊢
               refine pure_ (i := 0) (N := some 17) (v := ?_) (a' := ?_) #[true, false, false, false, false, false, false, false, false, false, false, false, false, false, false, false, false, false] rfl rfl (any_of HT_.out (by kernel_rfl)) (fun _ _ _ h => h) (Or.inl ⟨by rfl, ?_⟩) ?_ ?_
               rotate_left
               ·intro w'
                go_simp
                with_reducible rfl
               rotate_left
               ·simp only [Act.put, List.setIfInBounds_toArray, List.set_cons_zero, List.set_cons_succ, i64_w, i32_w]
                rfl
               refine pure_ (i := 1) (N := some 18) (v := ?_) (a' := ?_) #[true, true, false, false, false, false, false, false, false, false, false, false, false, false, false, false, false, false] rfl rfl (any_of HT_.out (by kernel_rfl)) (fun _ _ _ h => h) (Or.inl ⟨by rfl, ?_⟩) ?_ ?_
               rotate_left
               ·intro w'
                go_simp
                with_reducible rfl
               rotate_left
               ·simp only [Act.put, List.setIfInBounds_toArray, List.set_cons_zero, List.set_cons_succ, i64_w, i32_w]
                rfl
               refine pure_ (i := 3) (N := some 20) (v := ?_) (a' := ?_) #[true, true, false, true, false, false, false, false, false, false, false, false, false, false, false, false, false, false] rfl rfl (any_of HT_.out (by kernel_rfl)) (fun _ _ _ h => h) (Or.inl ⟨by rfl, ?_⟩) ?_ ?_
               rotate_left
               ·intro w'
                go_simp
                with_reducible rfl
               rotate_left
               ·simp only [Act.put, List.setIfInBounds_toArray, List.set_cons_zero, List.set_cons_succ, i64_w, i32_w]
                rfl
               refine pure_ (i := 5) (N := some 22) (v := ?_) (a' := ?_) #[true, true, false, true, false, true, false, false, false, false, false, false, false, false, false, false, false, false] rfl rfl (any_of HT_.out (by kernel_rfl)) (fun _ _ _ h => h) (Or.inl ⟨by rfl, ?_⟩) ?_ ?_
               rotate_left
               ·intro w'
                go_simp
                with_reducible rfl
               rotate_left
               ·simp only [Act.put, List.setIfInBounds_toArray, List.set_cons_zero, List.set_cons_succ, i64_w, i32_w]
                rfl
               refine pure_ (i := 6) (N := some 23) (v := ?_) (a' := ?_) #[true, true, false, true, false, true, true, false, false, false, false, false, false, false, false, false, false, false] rfl rfl (any_of HT_.out (by kernel_rfl)) (fun _ _ _ h => h) (Or.inl ⟨by rfl, ?_⟩) ?_ ?_
               rotate_left
               ·intro w'
                go_simp
                with_reducible rfl
               rotate_left
               ·simp only [Act.put, List.setIfInBounds_toArray, List.set_cons_zero, List.set_cons_succ, i64_w, i32_w]
                rfl
               refine pure_ (i := 10) (N := some 27) (v := ?_) (a' := ?_) #[true, true, false, true, false, true, true, false, false, false, true, false, false, false, false, false, false, false] rfl rfl (any_of HT_.out (by kernel_rfl)) (fun _ _ _ h => h) (Or.inl ⟨by rfl, ?_⟩) ?_ ?_
               rotate_left
               ·intro w'
                go_simp
                with_reducible rfl
               rotate_left
               ·simp only [Act.put, List.setIfInBounds_toArray, List.set_cons_zero, List.set_cons_succ, i64_w, i32_w]
                rfl
               refine pure_ (i := 11) (N := some 28) (v := ?_) (a' := ?_) #[true, true, false, true, false, true, true, false, false, false, true, true, false, false, false, false, false, false] rfl rfl (any_of HT_.out (by kernel_rfl)) (fun _ _ _ h => h) (Or.inl ⟨by rfl, ?_⟩) ?_ ?_
               rotate_left
               ·intro w'
                go_simp
                with_reducible rfl
               rotate_left
               ·simp only [Act.put, List.setIfInBounds_toArray, List.set_cons_zero, List.set_cons_succ, i64_w, i32_w]
                rfl
               refine take_ (i := 2) (N := some 19) (v := ?_) (a' := ?_) #[true, true, true, true, false, true, true, false, false, false, true, true, false, false, false, false, false, false] rfl rfl (take_ofW HT_.out HW_.out (by kernel_rfl)) (fun _ _ _ h => h) (Or.inl ⟨by rfl, ?_⟩) hHeld ?_ ?_
               rotate_left
               ·rintro w' ⟨s0, s1, s2, s3, s4, s5, s6⟩
                go_simp
                with_reducible rfl
               rotate_left
               ·simp only [Act.put, List.setIfInBounds_toArray, List.set_cons_zero, List.set_cons_succ, i64_w, i32_w]
                rfl
               refine take_ (i := 4) (N := some 21) (v := ?_) (a' := ?_) #[true, true, true, true, true, true, true, false, false, false, true, true, false, false, false, false, false, false] rfl rfl (take_ofW HT_.out HW_.out (by kernel_rfl)) (fun _ _ _ h => h) (Or.inl ⟨by rfl, ?_⟩) hHeld ?_ ?_
               rotate_left
               ·rintro w' ⟨s0, s1, s2, s3, s4, s5, s6⟩
                go_simp
                with_reducible rfl
               rotate_left
               ·simp only [Act.put, List.setIfInBounds_toArray, List.set_cons_zero, List.set_cons_succ, i64_w, i32_w]
                rfl
               refine take_ (i := 7) (N := some 24) (v := ?_) (a' := ?_) #[true, true, true, true, true, true, true, true, false, false, true, true, false, false, false, false, false, false] rfl rfl (take_ofW HT_.out HW_.out (by kernel_rfl)) (fun _ _ _ h => h) (Or.inl ⟨by rfl, ?_⟩) hHeld ?_ ?_
               rotate_left
               ·rintro w' ⟨s0, s1, s2, s3, s4, s5, s6⟩
                go_simp
                with_reducible rfl
               rotate_left
               ·simp only [Act.put, List.setIfInBounds_toArray, List.set_cons_zero, List.set_cons_succ, i64_w, i32_w]
                rfl
               refine pure_ (i := 8) (N := some 25) (v := ?_) (a' := ?_) #[true, true, true, true, true, true, true, true, true, false, true, true, false, false, false, false, false, false] rfl rfl (any_of HT_.out (by kernel_rfl)) (fun _ _ _ h => h) (Or.inl ⟨by rfl, ?_⟩) ?_ ?_
               rotate_left
               ·intro w'
                go_simp
                with_reducible rfl
               rotate_left
               ·simp only [Act.put, List.setIfInBounds_toArray, List.set_cons_zero, List.set_cons_succ, i64_w, i32_w]
                rfl
               refine take_ (i := 9) (N := some 26) (v := ?_) (a' := ?_) #[true, true, true, true, true, true, true, true, true, true, true, true, false, false, false, false, false, false] rfl rfl (take_ofW HT_.out HW_.out (by kernel_rfl)) (fun _ _ _ h => h) (Or.inl ⟨by rfl, ?_⟩) hHeld ?_ ?_
               rotate_left
               ·rintro w' ⟨s0, s1, s2, s3, s4, s5, s6⟩
                go_simp
                with_reducible rfl
               rotate_left
               ·simp only [Act.put, List.setIfInBounds_toArray, List.set_cons_zero, List.set_cons_succ, i64_w, i32_w]
                rfl
               refine take_ (i := 12) (N := some 29) (v := ?_) (a' := ?_) #[true, true, true, true, true, true, true, true, true, true, true, true, true, false, false, false, false, false] rfl rfl (take_ofW HT_.out HW_.out (by kernel_rfl)) (fun _ _ _ h => h) (Or.inl ⟨by rfl, ?_⟩) hHeld ?_ ?_
               rotate_left
               ·rintro w' ⟨s0, s1, s2, s3, s4, s5, s6⟩
                go_simp
                with_reducible rfl
               rotate_left
               ·simp only [Act.put, List.setIfInBounds_toArray, List.set_cons_zero, List.set_cons_succ, i64_w, i32_w]
                rfl
               refine pure_ (i := 13) (N := some 30) (v := ?_) (a' := ?_) #[true, true, true, true, true, true, true, true, true, true, true, true, true, true, false, false, false, false] rfl rfl (any_of HT_.out (by kernel_rfl)) (fun _ _ _ h => h) (Or.inl ⟨by rfl, ?_⟩) ?_ ?_
               rotate_left
               ·intro w'
                go_simp
                with_reducible rfl
               rotate_left
               ·simp only [Act.put, List.setIfInBounds_toArray, List.set_cons_zero, List.set_cons_succ, i64_w, i32_w]
                rfl
               refine take_ (i := 14) (N := some 31) (v := ?_) (a' := ?_) #[true, true, true, true, true, true, true, true, true, true, true, true, true, true, true, false, false, false] rfl rfl (take_ofW HT_.out HW_.out (by kernel_rfl)) (fun _ _ _ h => h) (Or.inl ⟨by rfl, ?_⟩) hHeld ?_ ?_
               rotate_left
               ·rintro w' ⟨s0, s1, s2, s3, s4, s5, s6⟩
                go_simp
                with_reducible rfl
               rotate_left
               ·simp only [Act.put, List.setIfInBounds_toArray, List.set_cons_zero, List.set_cons_succ, i64_w, i32_w]
                rfl
               refine one_ (i := 15) (N := some 32) #[true, true, true, true, true, true, true, true, true, true, true, true, true, true, true, true, false, false] rfl rfl (one_of HT_.out (by kernel_rfl)) (by decide) (fun K hK => ?_)
               refine goes_ Try.func71 (by kernel_rfl) rfl #[.int .i64 ((rd_T65 l0 x11_1).f0), .int .i64 (rd x1_1 ((rd_T65 l0 x11_1).f2)), .int .i64 (rd x1_1 ((rd_T65 l0 x11_1).f3))] (by rfl) rfl rfl (by (try simp only [List.map_toArray, List.map_cons, List.map_nil]); first | done | rfl | (simp only [List.length_drop, List.length_take]; rfl)) ?_
               with_reducible refine (spec_l3Do.calls ((rd_T65 l0 x11_1).f0) (rd x1_1 ((rd_T65 l0 x11_1).f2)) (rd x1_1 ((rd_T65 l0 x11_1).f3)) t198 _ A41.out).mono ?_
               rintro e w' ⟨rfl, ⟨nd, rfl⟩⟩
               refine ⟨_, rfl, ?_⟩
               have p44 : 0 ≤ (((rd_T65 l0 x11_1).f1) : Int) := of_decide_eq_true (by first | (with_reducible assumption) | assumption)
               have q44 : (((rd_T65 l0 x11_1).f1) : Int) < ((x1_1.length : Int) : Int) := of_decide_eq_true (by first | (with_reducible assumption) | assumption)
               obtain ⟨go44, co44, eo44, gb44, gl44, cl44, HG44⟩ := Kd.R_form HO_1.out (by omega)
               (first | cases eo44 | (injection eo44 with ea_ en_ ec_; (first | subst ea_ | (injection ea_ with ea_; subst ea_)); subst ec_; clear en_))
               have GB44 := Aside0.mk gb44
               have GG44 := Aside0.mk HG44
               clear gb44 gl44 HG44
               have HMgo44 := Aside0.mk (show ((P1_ go44 ∨ P2_ go44) ∨ w.heap.size ≤ go44) from (HO_1.out.1 _ rfl).1)
               (first | simp only [add_plain] at hx196_0 | skip)
               (first | simp only [add_plain] at hx197_0 | skip)
               obtain ⟨hx44_0, hf44_0⟩ := Kd.R_celln 0 HO_1.out (((rd_T65 l0 x11_1).f1) : Int) p44 q44
               replace p44 := eq_true p44
               replace q44 := eq_true q44
               have HP50 := Kd.R_putn HO_1.out (((rd_T65 l0 x11_1).f1) : Int) t198
               rw [← Ny199.out] at HP50
               have HQ50 := Aside0.mk HP50
               clear HP50
               refine hK.out _ _ ⟨(blk_cell BK188.out 0).trans rfl, (blk_cell BK188.out 1).trans rfl, (blk_cell BK188.out 2).trans rfl, (blk_cell BK188.out 3).trans rfl, (blk_cell BK188.out 4).trans rfl, hHeld.2.2.2.2.2.1, hHeld.2.2.2.2.2.2⟩ (fun hHeld => ?_)
               clear hK K
               refine norm_ (a' := ?_) ?_ ?_
               rotate_left
               ·show Act.put _ (some 32) _ = _
                simp only [Act.put, List.setIfInBounds_toArray, List.set_cons_zero, List.set_cons_succ, i64_w, i32_w]
                rfl
               refine pure_ (i := 16) (N := some 33) (v := ?_) (a' := ?_) #[true, true, true, true, true, true, true, true, true, true, true, true, true, true, true, true, true, false] rfl rfl (any_of HT_.out (by kernel_rfl)) (fun _ _ _ h => h) (Or.inl ⟨by rfl, ?_⟩) ?_ ?_
               rotate_left
               ·intro w'
                go_simp
                with_reducible rfl
               rotate_left
               ·simp only [Act.put, List.setIfInBounds_toArray, List.set_cons_zero, List.set_cons_succ, i64_w, i32_w]
                rfl
               refine last_ (i := 17) (N := none) #[true, true, true, true, true, true, true, true, true, true, true, true, true, true, true, true, true, true] rfl rfl (one_of HT_.out (by kernel_rfl)) (by decide) (fun K hK => ?_)
               refine skip_ (w1 := ?_) (by rfl) rfl ?_ ?_
               rotate_left
               ·go_simp
                rfl
               refine hK.out _ _ ?_
               clear hK K
               refine done_ (done_of HT_.out (by kernel_rfl)) ?_
               try go_wp2
               go_roundg k1
               case measure => have := HK1.out; omega
               case rel => exact ⟨(y199), (x2_1), (wrap64 (x11_1 + 1)), (by first | rfl | (simp; done) | (simp [*]; done)), H', ⟨by have := HK1.out; omega⟩, ⟨by (with_reducible repeat (first | apply Kd.R_alloc | apply Kd.R_drewN | apply Kd.R_drew)); exact HQ50.out⟩, ⟨by (with_reducible repeat (first | apply Kd.R_alloc | apply Kd.R_drewN | apply Kd.R_drew)); exact Kd.R_mono (Kd.R_far (p := ⟨go44, (((rd_T65 l0 x11_1).f1) : Int).toNat, none⟩) (Kd.R_mono HO_2.out (fun k_ hk => (⟨hk, fun e_ => hk.2 (by rw [e_]; rfl)⟩ : _ ∧ k_ ≠ go44))) (fun _ hk => hk.2) (.int .i64 t198)) (fun _ hk => ⟨hk.1.1, hk.1.2⟩)⟩, ⟨by repeat (first | (with_reducible first | exact HK.out | apply Kept.alloc | apply Kept.drewN | apply Kept.drew | refine Kept.setCell ?_ HMgo44.out _ | refine Kept.setCell ?_ (.inr GW188.out) _) | exact HK.out)⟩, ⟨by repeat (first | (with_reducible first | exact HB.out | apply below_alloc | apply pw_below_drewN | apply below_drew1 | refine below_set ?_ GB44.out | refine below_set ?_ GE188.out) | exact HB.out)⟩⟩
              ·rw [if_neg c43] at H
               exact absurd H (by simp)
             ·rw [if_neg c42] at H
              exact absurd H (by simp)
            ·rw [if_neg c40] at H
             exact absurd H (by simp)
           ·rw [if_neg c39] at H
            exact absurd H (by simp)
          ·rw [if_neg c38] at H
           exact absurd H (by simp)
         ·rw [if_neg c37] at H
          exact absurd H (by simp)
     ·rw [if_neg c6] at H
      exact absurd H (by simp)
    ·rw [if_neg c5] at H
     exact absurd H (by simp)
   ·rw [if_neg c4] at H
    have c4b0 : decide (x11_1 < (l0.length : Int)) = false := decide_eq_false c4
    clear c4
    simp only [Option.some.injEq, Prod.mk.injEq] at H
    obtain ⟨rfl, rfl⟩ := H
    go_wp2
    go_ret
    exact ⟨_, by first | rfl | (simp [errW_none, errW_some] <;> rfl) | (simp [*, errW_none, errW_some] <;> rfl), by (with_reducible repeat (first | apply Kd.R_alloc | apply Kd.R_drewN | apply Kd.R_drew)); exact HO_2.out, by (with_reducible repeat (first | apply Kd.R_alloc | apply Kd.R_drewN | apply Kd.R_drew)); exact Kd.R_mono HO_1.out (fun _ hk => hk.1), by repeat (first | (with_reducible first | exact HB.out | apply below_alloc | apply pw_below_drewN | apply below_drew1) | exact HB.out), by repeat (first | (with_reducible first | exact HK.out | apply Kept.alloc | apply Kept.drewN | apply Kept.drew) | exact HK.out)⟩

/-! ### spec_l5Run: function 60 -/
def spec_l5Run.l0 : Nat → List (S87) → Int → List Int → List Int → List Int → Int → Option (List Int × List Int × List Int × Bool)
 | 0, _, _, _, _, _, _ => none
 | k + 1, x0, x2, x10, x11, x12, x13 => if x13 ≥ 0 then (if (x12.length : Int) = x2 then (some (x11, x10, x12, false)) else (if x12.length < 17592186044416 then ((some (x12 ++ [x13] : List Int)).bind fun y206 => (if 0 ≤ x13 then (if x13 < (x0.length : Int) then ((spec_l3Run.f k ((rd_T87 x0 x13).f0) x10 x11).bind fun bt211 => (if 0 ≤ ((rd_T87 x0 x13).f1) then (if ((rd_T87 x0 x13).f1) < (x10.length : Int) then (if (rd bt211.2 ((rd_T87 x0 x13).f1)) = 0 then (spec_l5Run.l0 k x0 x2 bt211.2 bt211.1 y206 ((rd_T87 x0 x13).f3)) else (spec_l5Run.l0 k x0 x2 bt211.2 bt211.1 y206 ((rd_T87 x0 x13).f2))) else (none)) else (none))) else (none)) else (none))) else (none))) else (some (x11, x10, x12, true))
def spec_l5Run.f (k : Nat) (l0 : List (S87)) (l1 : List Int) (a2 : Int) : Option (List Int × List Int × List Int × Bool) := (some (([] : List Int) : List Int)).bind fun y200 => (if y200.length + l1.length < 17592186044416 then (spec_l5Run.l0 k l0 a2 (y200 ++ l1) ([] : List Int) ([] : List Int) 0) else (none))
theorem spec_l5Run.mono_l : ∀ k, (∀ y0 y1 y2 y3 y4 y5, LeO (spec_l5Run.l0 k y0 y1 y2 y3 y4 y5) (spec_l5Run.l0 (k + 1) y0 y1 y2 y3 y4 y5))
 | 0 => fun _ _ _ _ _ _ r h => by simp [spec_l5Run.l0] at h
 | k + 1 => by
  have ih0 := spec_l5Run.mono_l k
  ·intro y0 y1 y2 y3 y4 y5
   unfold spec_l5Run.l0
   repeat' first
   | (with_reducible exact ih0 _ _ _ _ _ _)
   | (with_reducible exact spec_l3Run.mono _ _ _ _)
   | (with_reducible exact LeO.refl _)
   | (with_reducible exact LeO.none _)
   | (with_reducible refine LeO.ite ?_ ?_)
   | (with_reducible refine LeO.bind ?_ (fun _ => ?_))
   | exact ih0 _ _ _ _ _ _
   | exact spec_l3Run.mono _ _ _ _
   | exact LeO.none _
   | refine LeO.ite ?_ ?_
   | refine LeO.bind ?_ (fun _ => ?_)
theorem spec_l5Run.mono : ∀ a0 a1 a2 k, LeO (spec_l5Run.f k a0 a1 a2) (spec_l5Run.f (k + 1) a0 a1 a2) := by
 intro a0 a1 a2 k
 have ih0 := spec_l5Run.mono_l k
 unfold spec_l5Run.f
 repeat' first
   | (with_reducible exact ih0 _ _ _ _ _ _)
   | (with_reducible exact spec_l3Run.mono _ _ _ _)
   | (with_reducible exact LeO.refl _)
   | (with_reducible exact LeO.none _)
   | (with_reducible refine LeO.ite ?_ ?_)
   | (with_reducible refine LeO.bind ?_ (fun _ => ?_))
   | exact ih0 _ _ _ _ _ _
   | exact spec_l3Run.mono _ _ _ _
   | exact LeO.none _
   | refine LeO.ite ?_ ?_
   | refine LeO.bind ?_ (fun _ => ?_)
set_option maxHeartbeats 8000000 in
set_option maxRecDepth 100000 in
theorem spec_l5Run.calls (k : Nat) (A0 : Option Addr) (c0 : Nat) (l0 : List (S87)) (A1 : Option Addr) (c1 : Nat) (l1 : List Int) (a2 : Int) (r1 : List Int) (r2 : List Int) (r3 : List Int) (r4 : Bool) (w : World) (hr0 : Kd.C k87 w A0 l0.length l0) (hc0 : l0.length ≤ c0) (hr1 : Kd.C (Kd.int .i64) w A1 l1.length l1) (hc1 : l1.length ≤ c1) (h : spec_l5Run.f k l0 l1 a2 = some (r1, r2, r3, r4)) :
  Calls Try.prog 60 #[.slice A0 l0.length c0, .slice A1 l1.length c1, .int .i64 a2] w fun e w' => ∃ v0_ v1_ v2_ : Value, e = .returned (.tuple #[v0_, v1_, v2_, .bool r4]) ∧ Kd.R (Kd.int .i64) 3 w' w.heap.size (fun k_ => some k_ ≠ (v1_ : Value).ownBlock ∧ some k_ ≠ (v2_ : Value).ownBlock) v0_ r1 ∧ Kd.R (Kd.int .i64) 3 w' w.heap.size (fun k_ => some k_ ≠ (v0_ : Value).ownBlock ∧ some k_ ≠ (v2_ : Value).ownBlock) v1_ r2 ∧ Kd.R (Kd.int .i64) 3 w' w.heap.size (fun k_ => some k_ ≠ (v0_ : Value).ownBlock ∧ some k_ ≠ (v1_ : Value).ownBlock) v2_ r3 ∧ Below w.heap.size w w' := by
 have hu87 := Try.underlying87
 have HR0 := Aside0.mk hr0
 have HC0 := Aside0.mk hc0
 clear hr0 hc0
 have HR1 := Aside0.mk hr1
 have HC1 := Aside0.mk hc1
 clear hr1 hc1
 have HB := Aside0.mk (Below.refl w.heap.size w)
 have H : ((some (([] : List Int) : List Int)).bind fun y200 => (if y200.length + l1.length < 17592186044416 then (spec_l5Run.l0 k l0 a2 (y200 ++ l1) ([] : List Int) ([] : List Int) 0) else (none))) = some (r1, r2, r3, r4) := h
 clear h
 obtain ⟨y200, hy200⟩ : ∃ y_ : List Int, y_ = (([] : List Int)) := ⟨_, rfl⟩
 replace H : (if y200.length + l1.length < 17592186044416 then (spec_l5Run.l0 k l0 a2 (y200 ++ l1) ([] : List Int) ([] : List Int) 0) else (none)) = some (r1, r2, r3, r4) := by first | (rw [hy200]; with_reducible exact H) | (have H2_ := (Option.bind_some _ _).symm.trans H; rw [hy200]; with_reducible exact H2_) | (have H2_ := (Option.bind_some _ _).symm.trans H; with_reducible exact H2_) | with_reducible exact H | (rw [hy200]; exact H) | exact H
 have Ny200 := Aside0.mk hy200
 clear hy200
 by_cases c4 : y200.length + l1.length < 17592186044416
 ·rw [if_pos c4] at H
  have LMc4 := Aside0.mk c4
  clear c4
  obtain ⟨y203, hy203⟩ : ∃ y_ : List Int, y_ = (y200 ++ l1) := ⟨_, rfl⟩
  replace H : (spec_l5Run.l0 k l0 a2 y203 ([] : List Int) ([] : List Int) 0) = some (r1, r2, r3, r4) := by first | (rw [hy203]; with_reducible exact H) | (have H2_ := (Option.bind_some _ _).symm.trans H; rw [hy203]; with_reducible exact H2_) | (have H2_ := (Option.bind_some _ _).symm.trans H; with_reducible exact H2_) | with_reducible exact H | (rw [hy203]; exact H) | exact H
  have Ny203 := Aside0.mk hy203
  clear hy203
  have H' := Aside0.mk H
  clear H
  go_enter Try.func60, Try.ntmps60
  go_wp2_with (first | ((with_reducible refine gate_dst (N := 15) rfl ?_); refine Kd.R_lit (Kd.int .i64) _ 3 ?hg (N := 15) ?hd (xs := ([] : List Int)) (inner := []) (ok := fun _ => True) (okp := fun _ => True) ?hr ?hp (fun _ hk => hk) trivial (Below.refl _ _) (Nat.le_refl _) (by simp) ?_; (case hd => rfl); (case hg => rfl); (case hr => first | (go_simp; done) | (go_simp; rfl)); (case hp => exact (Reps.none _ _)); intro v201 w5 ho6 hb hg_ hnew_; clear hg_ hnew_; (first | rw [← Ny200.out] at ho6 | (simp only [Int.reduceToNat] at ho6; rw [← Ny200.out] at ho6)); have n0_ := Aside0.mk (Kd.R_lower ho6 (below_size (by repeat (first | (with_reducible first | exact HB.out | apply below_alloc | apply pw_below_drewN | apply below_drew1) | exact HB.out)))); have n1_ := Aside0.mk (below_step (by repeat (first | (with_reducible first | exact HB.out | apply below_alloc | apply pw_below_drewN | apply below_drew1) | exact HB.out)) hb); clear HB; have HO202 := n0_; have HB := n1_; clear n0_ n1_; clear hb ho6) | ((with_reducible refine gate_builtin (b := .append) (xs := #[.tmp 15, .tmp 16]) rfl ?_); at_builtin; refine Kd.R_append_rows (Kd.int .i64) (w0 := w) w.heap.size rfl (.tmp 15) (.tmp 16) 23 3 (.int .i64 0) 8 rfl Try.underlying23 info3 rfl (by decide) (by omega) v201 y200 l1 _ _ _ (fun _ => True) (fun _ => False) rfl rfl ?aO ?aR (fun _ _ h => h) (fun _ h => h.elim) ?aF ?aB ?aS ?aL ?_; (case aR => repeat (first | exact (Kd.C_below HR1.out HB.out) | (with_reducible refine Kd.C_alloc ?_ _) | (with_reducible refine Kd.C_drewN ?_ _) | (with_reducible refine Kd.C_drew ?_))); (case aB => exact (by repeat (first | (with_reducible first | exact HB.out | apply below_alloc | apply pw_below_drewN | apply below_drew1) | exact HB.out))); (case aF => exact (fun _ _ => trivial)); (case aO => exact (by (with_reducible repeat (first | apply Kd.R_alloc | apply Kd.R_drewN | apply Kd.R_drew)); exact HO202.out)); (case aS => exact (below_size (by repeat (first | (with_reducible first | exact HB.out | apply below_alloc | apply pw_below_drewN | apply below_drew1) | exact HB.out)))); (case aL => have := LMc4.out; omega); intro v204 w7 ho hb hg hat; rw [← Ny203.out] at ho; have n0_ := Aside0.mk (hb); have n1_ := Aside0.mk (ho); clear HB; clear HO202; have HB := n0_; have HO205 := n1_; clear n0_ n1_; clear ho hb hg hat))
  go_loopg [11, 12, 13] k (fun kq v11 v12 v13 w' => ∃ (x10_1 : List Int) (x11_1 : List Int) (x12_1 : List Int) (x13_1 : Int), v13 = .int .i64 x13_1 ∧ Aside0 (spec_l5Run.l0 kq l0 a2 x10_1 x11_1 x12_1 x13_1 = some (r1, r2, r3, r4)) ∧ Aside0 (kq ≤ k) ∧ Aside0 (Kd.R (Kd.int .i64) 3 w' w.heap.size (fun k_ => some k_ ≠ (v11 : Value).ownBlock ∧ some k_ ≠ (v12 : Value).ownBlock) v204 x10_1) ∧ Aside0 (Kd.R (Kd.int .i64) 3 w' w.heap.size (fun k_ => some k_ ≠ (v204 : Value).ownBlock ∧ some k_ ≠ (v12 : Value).ownBlock) v11 x11_1) ∧ Aside0 (Kd.R (Kd.int .i64) 3 w' w.heap.size (fun k_ => some k_ ≠ (v204 : Value).ownBlock ∧ some k_ ≠ (v11 : Value).ownBlock) v12 x12_1) ∧ Aside0 (Below w.heap.size w w'))
  case atStart => exact ⟨(y203), (([] : List Int)), (([] : List Int)), (0), (by first | rfl | (simp; done) | (simp [*]; done)), H', ⟨Nat.le_refl _⟩, ⟨by (with_reducible repeat (first | apply Kd.R_alloc | apply Kd.R_drewN | apply Kd.R_drew)); exact Kd.R_mono HO205.out (fun _ hk => ⟨(by simp [Value.ownBlock]), (by simp [Value.ownBlock])⟩)⟩, ⟨by first | exact Kd.R_nil _ _ _ _ _ | exact Kd.N_nil _ _ _ _ _ | exact Kd.V_nil _ _ _ _ _ | exact Kd.Q_nil _ _ _ _ _ | exact Kd.S_nil _ _ _ _ _⟩, ⟨by first | exact Kd.R_nil _ _ _ _ _ | exact Kd.N_nil _ _ _ _ _ | exact Kd.V_nil _ _ _ _ _ | exact Kd.Q_nil _ _ _ _ _ | exact Kd.S_nil _ _ _ _ _⟩, ⟨by repeat (first | (with_reducible first | exact HB.out | apply below_alloc | apply pw_below_drewN | apply below_drew1) | exact HB.out)⟩⟩
  case round =>
   clear H'
   try clear c1
   try clear p2
   try clear c4
   try clear c6
   obtain ⟨x10_1, x11_1, x12_1, x13_1, rfl, HA, HK1, HO_10, HO_11, HO_12, HB⟩ := hrel
   cases gk with
   | zero => exact absurd HA.out (by simp [spec_l5Run.l0])
   | succ k1 =>
    have H := HA.out
    clear HA
    simp only [spec_l5Run.l0] at H
    by_cases c8 : x13_1 ≥ 0
    ·rw [if_pos c8] at H
     have c8b0 : decide (0 ≤ x13_1) = true := decide_eq_true c8
     clear c8
     by_cases c9 : (x12_1.length : Int) = a2
     ·rw [if_pos c9] at H
      have c9b0 : ((x12_1.length : Int) == a2) = true := beq_iff_eq.mpr c9
      have c9b1 : ((x12_1.length : Int) != a2) = false := bne_eq_false_iff_eq.mpr c9
      clear c9
      simp only [Option.some.injEq, Prod.mk.injEq] at H
      obtain ⟨rfl, rfl, rfl, rfl⟩ := H
      obtain ⟨Ao10, co10, eo10⟩ := Kd.R_slice HO_12.out
      subst eo10
      go_wp2
      refine bodyPost_ret (results_list (rs := [.tmp 6, .tmp 7, .tmp 8, .tmp 9]) rfl (by simp) (.tmp (.tmp (.tmp (.tmp .nil))))) rfl ?_
      exact ⟨_, _, _, by first | rfl | (simp [errW_none, errW_some] <;> rfl) | (simp [*, errW_none, errW_some] <;> rfl), by (with_reducible repeat (first | apply Kd.R_alloc | apply Kd.R_drewN | apply Kd.R_drew)); exact HO_11.out, by (with_reducible repeat (first | apply Kd.R_alloc | apply Kd.R_drewN | apply Kd.R_drew)); exact HO_10.out, by (with_reducible repeat (first | apply Kd.R_alloc | apply Kd.R_drewN | apply Kd.R_drew)); exact Kd.R_mono HO_12.out (fun _ hk => ⟨hk.2, hk.1⟩), by repeat (first | (with_reducible first | exact HB.out | apply below_alloc | apply pw_below_drewN | apply below_drew1) | exact HB.out)⟩
     ·rw [if_neg c9] at H
      have c9b0 : ((x12_1.length : Int) == a2) = false := beq_eq_false_iff_ne.mpr c9
      have c9b1 : ((x12_1.length : Int) != a2) = true := bne_iff_ne.mpr c9
      by_cases c11 : x12_1.length < 17592186044416
      ·rw [if_pos c11] at H
       have LMc11 := Aside0.mk c11
       clear c11
       obtain ⟨y206, hy206⟩ : ∃ y_ : List Int, y_ = (x12_1 ++ [x13_1]) := ⟨_, rfl⟩
       replace H : (if 0 ≤ x13_1 then (if x13_1 < (l0.length : Int) then ((spec_l3Run.f k1 ((rd_T87 l0 x13_1).f0) x10_1 x11_1).bind fun bt211 => (if 0 ≤ ((rd_T87 l0 x13_1).f1) then (if ((rd_T87 l0 x13_1).f1) < (x10_1.length : Int) then (if (rd bt211.2 ((rd_T87 l0 x13_1).f1)) = 0 then (spec_l5Run.l0 k1 l0 a2 bt211.2 bt211.1 y206 ((rd_T87 l0 x13_1).f3)) else (spec_l5Run.l0 k1 l0 a2 bt211.2 bt211.1 y206 ((rd_T87 l0 x13_1).f2))) else (none)) else (none))) else (none)) else (none)) = some (r1, r2, r3, r4) := by first | (rw [hy206]; with_reducible exact H) | (have H2_ := (Option.bind_some _ _).symm.trans H; rw [hy206]; with_reducible exact H2_) | (have H2_ := (Option.bind_some _ _).symm.trans H; with_reducible exact H2_) | with_reducible exact H | (rw [hy206]; exact H) | exact H
       have Ny206 := Aside0.mk hy206
       clear hy206
       by_cases c12 : 0 ≤ x13_1
       ·rw [if_pos c12] at H
        have c12b0 : decide (0 ≤ x13_1) = true := decide_eq_true c12
        clear c12
        by_cases c13 : x13_1 < (l0.length : Int)
        ·rw [if_pos c13] at H
         have c13b0 : decide (x13_1 < (l0.length : Int)) = true := decide_eq_true c13
         clear c13
         replace H := Option.bind_eq_some_iff.mp H
         obtain ⟨⟨t211, t214⟩, A140, H⟩ := H
         replace H : (if 0 ≤ ((rd_T87 l0 x13_1).f1) then (if ((rd_T87 l0 x13_1).f1) < (x10_1.length : Int) then (if (rd t214 ((rd_T87 l0 x13_1).f1)) = 0 then (spec_l5Run.l0 k1 l0 a2 t214 t211 y206 ((rd_T87 l0 x13_1).f3)) else (spec_l5Run.l0 k1 l0 a2 t214 t211 y206 ((rd_T87 l0 x13_1).f2))) else (none)) else (none)) = some (r1, r2, r3, r4) := H
         have A14 := Aside0.mk A140
         clear A140
         by_cases c15 : 0 ≤ ((rd_T87 l0 x13_1).f1)
         ·rw [if_pos c15] at H
          have c15b0 : decide (0 ≤ ((rd_T87 l0 x13_1).f1)) = true := decide_eq_true c15
          clear c15
          by_cases c16 : ((rd_T87 l0 x13_1).f1) < (x10_1.length : Int)
          ·rw [if_pos c16] at H
           have c16b0 : decide (((rd_T87 l0 x13_1).f1) < (x10_1.length : Int)) = true := decide_eq_true c16
           clear c16
           by_cases c17 : (rd t214 ((rd_T87 l0 x13_1).f1)) = 0
           ·rw [if_pos c17] at H
            have c17b0 : ((rd t214 ((rd_T87 l0 x13_1).f1)) == 0) = true := beq_iff_eq.mpr c17
            have c17b1 : ((rd t214 ((rd_T87 l0 x13_1).f1)) != 0) = false := bne_eq_false_iff_eq.mpr c17
            clear c17
            have H' := Aside0.mk H
            clear H
            obtain ⟨Ao18, co18, eo18⟩ := Kd.R_slice HO_12.out
            subst eo18
            go_wp2_with (first | ((with_reducible refine gate_builtin (b := .append) (xs := #[.tmp 27, .tmp 29]) rfl ?_); at_builtin; refine Kd.R_append (Kd.int .i64) (w0 := w) w.heap.size rfl (.tmp 27) (.tmp 29) 23 3 (.int .i64 0) 8 rfl Try.underlying23 info3 rfl (by decide) (by omega) (.slice Ao18 x12_1.length co18) x12_1 x13_1 [.int .i64 x13_1] (fun k_ => some k_ ≠ (v204 : Value).ownBlock ∧ some k_ ≠ (u11 : Value).ownBlock) (fun _ => False) rfl rfl ?aP (fun _ hk => hk.elim) ?aF ?aO ?aB ?aS ?aL ?_; (case aP => exact rfl); (case aB => exact (by repeat (first | (with_reducible first | exact HB.out | apply below_alloc | apply pw_below_drewN | apply below_drew1) | exact HB.out))); (case aF => exact (fun k_ hk => ⟨Kd.fresh' (Kd.R_lt (by (with_reducible repeat (first | apply Kd.R_alloc | apply Kd.R_drewN | apply Kd.R_drew)); exact HO_10.out)) k_ hk, Kd.fresh' (Kd.R_lt (by (with_reducible repeat (first | apply Kd.R_alloc | apply Kd.R_drewN | apply Kd.R_drew)); exact HO_11.out)) k_ hk⟩)); (case aO => exact (by (with_reducible repeat (first | apply Kd.R_alloc | apply Kd.R_drewN | apply Kd.R_drew)); exact HO_12.out)); (case aS => exact (below_size (by repeat (first | (with_reducible first | exact HB.out | apply below_alloc | apply pw_below_drewN | apply below_drew1) | exact HB.out)))); (case aL => have := LMc11.out; omega); intro v207 w19 ho hb hg hat; rw [← Ny206.out] at ho; have n0_ := Aside0.mk (Kd.R_after (ok := (fun k_ => some k_ ≠ (u11 : Value).ownBlock)) (by (with_reducible repeat (first | apply Kd.R_alloc | apply Kd.R_drewN | apply Kd.R_drew)); exact HO_10.out) hg hat); have n1_ := Aside0.mk (Kd.R_after (ok := (fun k_ => some k_ ≠ (v204 : Value).ownBlock)) (by (with_reducible repeat (first | apply Kd.R_alloc | apply Kd.R_drewN | apply Kd.R_drew)); exact HO_11.out) hg hat); have n2_ := Aside0.mk (hb); have n3_ := Aside0.mk (ho); clear HO_10; clear HO_11; clear HB; clear HO_12; have HO_10 := n0_; have HO_11 := n1_; have HB := n2_; have HO208 := n3_; clear n0_ n1_ n2_ n3_; clear ho hb hg hat; have p209 : 0 ≤ (x13_1 : Int) := of_decide_eq_true (by first | (with_reducible assumption) | assumption); have q209 : x13_1 < (l0.length : Int) := of_decide_eq_true (by first | (with_reducible assumption) | assumption); obtain ⟨ad209, A209_0, c209_0, e209, hx209_0, hx209_1, hx209_2, hx209_3, hl209_0, hi209_0⟩ := at_T87 HR0.out x13_1 p209 q209; cases e209; replace hx209_0 := (HB.out.cell (World.block_lt_of_cell? w _ hx209_0)).trans hx209_0; replace hx209_1 := (HB.out.cell (World.block_lt_of_cell? w _ hx209_1)).trans hx209_1; replace hx209_2 := (HB.out.cell (World.block_lt_of_cell? w _ hx209_2)).trans hx209_2; replace hx209_3 := (HB.out.cell (World.block_lt_of_cell? w _ hx209_3)).trans hx209_3; have HR209_0 := Aside0.mk hi209_0; have HC209_0 := Aside0.mk hl209_0; clear hi209_0 hl209_0; replace p209 := eq_true p209; replace q209 := eq_true q209) | ((with_reducible refine gate_dst (N := 14) rfl ?_); refine box_event ?hg (N := 14) ?hd (cs := #[.slice none 0 0, .int .i64 0, .int .i64 0, .int .i64 0]) (t := 87) ?hr ?_; (case hd => rfl); (case hg => rfl); (case hr => first | (go_simp; done) | (go_simp; rfl)); intro gb210 hg w20 hbox hb; have n0_ := Aside0.mk (Kd.R_below (by (with_reducible repeat (first | apply Kd.R_alloc | apply Kd.R_drewN | apply Kd.R_drew)); exact HO_10.out) hb); have n1_ := Aside0.mk (Kd.R_below (by (with_reducible repeat (first | apply Kd.R_alloc | apply Kd.R_drewN | apply Kd.R_drew)); exact HO_11.out) hb); have n2_ := Aside0.mk (Kd.R_below (by (with_reducible repeat (first | apply Kd.R_alloc | apply Kd.R_drewN | apply Kd.R_drew)); exact HO208.out) hb); have n3_ := Aside0.mk (below_step (by repeat (first | (with_reducible first | exact HB.out | apply below_alloc | apply pw_below_drewN | apply below_drew1) | exact HB.out)) hb); have n4_ := Aside0.mk (hbox); have n5_ := Aside0.mk ((by rw [hg]; exact (below_size (by repeat (first | (with_reducible first | exact HB.out | apply below_alloc | apply pw_below_drewN | apply below_drew1) | exact HB.out))) : w.heap.size ≤ gb210)); have n6_ := Aside0.mk ((by rw [hg]; exact (below_size (by repeat (first | (with_reducible first | exact HB.out | apply below_alloc | apply pw_below_drewN | apply below_drew1) | exact HB.out))) : w.heap.size ≤ gb210)); clear HO_10; clear HO_11; clear HO208; clear HB; have HO_10 := n0_; have HO_11 := n1_; have HO208 := n2_; have HB := n3_; have BK210 := n4_; have GW210 := n5_; have GE210 := n6_; clear n0_ n1_ n2_ n3_ n4_ n5_ n6_; clear hb hbox hg; have hcz21_0 : w20.cell? ⟨gb210, 0, none⟩ = some (.slice none 0 0) := (blk_cell BK210.out 0).trans rfl; have hcz21_1 : w20.cell? ⟨gb210, 1, none⟩ = some (.int .i64 0) := (blk_cell BK210.out 1).trans rfl; have hcz21_2 : w20.cell? ⟨gb210, 2, none⟩ = some (.int .i64 0) := (blk_cell BK210.out 2).trans rfl; have hcz21_3 : w20.cell? ⟨gb210, 3, none⟩ = some (.int .i64 0) := (blk_cell BK210.out 3).trans rfl; have hfz21_0 := blk_frozen BK210.out 0; have hfz21_1 := blk_frozen BK210.out 1; have hfz21_2 := blk_frozen BK210.out 2; have hfz21_3 := blk_frozen BK210.out 3) | ((with_reducible refine gate_store (t := 87) (p := 14) rfl ?_); refine store_event (t := 87) (p := 14) (v := ?vo_w22) (w1 := ((((w20.setCell ⟨gb210, 0, none⟩ (.slice A209_0 ((rd_T87 l0 x13_1).f0).length c209_0)).setCell ⟨gb210, 1, none⟩ (.int .i64 ((rd_T87 l0 x13_1).f1))).setCell ⟨gb210, 2, none⟩ (.int .i64 ((rd_T87 l0 x13_1).f2))).setCell ⟨gb210, 3, none⟩ (.int .i64 ((rd_T87 l0 x13_1).f3)))) ?hg ?ho ?hn ?hr ?_; (case ho => rfl); (case hg => rfl); (case hn => rfl); (case hr => first | (go_simp; done) | (go_simp; rfl)); intro w22 hw; have n0_ : Aside0 (Kd.R (Kd.int .i64) 3 w22 w.heap.size (fun k_ => some k_ ≠ (u11 : Value).ownBlock ∧ some k_ ≠ (v207 : Value).ownBlock) v204 x10_1) := ⟨(by rw [hw]; exact (by (with_reducible repeat (first | apply Kd.R_alloc | apply Kd.R_drewN | apply Kd.R_drew)); exact Kd.R_mono (Kd.R_far (p := ⟨gb210, 3, none⟩) (Kd.R_far (p := ⟨gb210, 2, none⟩) (Kd.R_far (p := ⟨gb210, 1, none⟩) (Kd.R_far (p := ⟨gb210, 0, none⟩) (Kd.R_types HO_10.out BK210.out (by decide)) (fun _ hk => hk.2) (.slice A209_0 ((rd_T87 l0 x13_1).f0).length c209_0)) (fun _ hk => hk.2) (.int .i64 ((rd_T87 l0 x13_1).f1))) (fun _ hk => hk.2) (.int .i64 ((rd_T87 l0 x13_1).f2))) (fun _ hk => hk.2) (.int .i64 ((rd_T87 l0 x13_1).f3))) (fun _ hk => ⟨hk.1.1, hk.1.2⟩)))⟩; have n1_ : Aside0 (Kd.R (Kd.int .i64) 3 w22 w.heap.size (fun k_ => some k_ ≠ (v204 : Value).ownBlock ∧ some k_ ≠ (v207 : Value).ownBlock) u11 x11_1) := ⟨(by rw [hw]; exact (by (with_reducible repeat (first | apply Kd.R_alloc | apply Kd.R_drewN | apply Kd.R_drew)); exact Kd.R_mono (Kd.R_far (p := ⟨gb210, 3, none⟩) (Kd.R_far (p := ⟨gb210, 2, none⟩) (Kd.R_far (p := ⟨gb210, 1, none⟩) (Kd.R_far (p := ⟨gb210, 0, none⟩) (Kd.R_types HO_11.out BK210.out (by decide)) (fun _ hk => hk.2) (.slice A209_0 ((rd_T87 l0 x13_1).f0).length c209_0)) (fun _ hk => hk.2) (.int .i64 ((rd_T87 l0 x13_1).f1))) (fun _ hk => hk.2) (.int .i64 ((rd_T87 l0 x13_1).f2))) (fun _ hk => hk.2) (.int .i64 ((rd_T87 l0 x13_1).f3))) (fun _ hk => ⟨hk.1.1, hk.1.2⟩)))⟩; have n2_ : Aside0 (Kd.R (Kd.int .i64) 3 w22 w.heap.size (fun k_ => some k_ ≠ (v204 : Value).ownBlock ∧ some k_ ≠ (u11 : Value).ownBlock) v207 y206) := ⟨(by rw [hw]; exact (by (with_reducible repeat (first | apply Kd.R_alloc | apply Kd.R_drewN | apply Kd.R_drew)); exact Kd.R_mono (Kd.R_far (p := ⟨gb210, 3, none⟩) (Kd.R_far (p := ⟨gb210, 2, none⟩) (Kd.R_far (p := ⟨gb210, 1, none⟩) (Kd.R_far (p := ⟨gb210, 0, none⟩) (Kd.R_types HO208.out BK210.out (by decide)) (fun _ hk => hk.2) (.slice A209_0 ((rd_T87 l0 x13_1).f0).length c209_0)) (fun _ hk => hk.2) (.int .i64 ((rd_T87 l0 x13_1).f1))) (fun _ hk => hk.2) (.int .i64 ((rd_T87 l0 x13_1).f2))) (fun _ hk => hk.2) (.int .i64 ((rd_T87 l0 x13_1).f3))) (fun _ hk => ⟨hk.1.1, hk.1.2⟩)))⟩; have n3_ : Aside0 (w22.heap[gb210]? = some (.cells #[.slice A209_0 ((rd_T87 l0 x13_1).f0).length c209_0, .int .i64 ((rd_T87 l0 x13_1).f1), .int .i64 ((rd_T87 l0 x13_1).f2), .int .i64 ((rd_T87 l0 x13_1).f3)] 87 (0, 0))) := ⟨(by rw [hw]; exact (by (with_reducible repeat (first | refine blk_drewN ?_ _ | refine blk_drew ?_ | refine blk_alloc ?_ _)); refine blk_put (cs := #[.slice A209_0 ((rd_T87 l0 x13_1).f0).length c209_0, .int .i64 ((rd_T87 l0 x13_1).f1), .int .i64 ((rd_T87 l0 x13_1).f2), .int .i64 0]) ?_ 3 _ rfl; (with_reducible repeat (first | refine blk_drewN ?_ _ | refine blk_drew ?_ | refine blk_alloc ?_ _)); refine blk_put (cs := #[.slice A209_0 ((rd_T87 l0 x13_1).f0).length c209_0, .int .i64 ((rd_T87 l0 x13_1).f1), .int .i64 0, .int .i64 0]) ?_ 2 _ rfl; (with_reducible repeat (first | refine blk_drewN ?_ _ | refine blk_drew ?_ | refine blk_alloc ?_ _)); refine blk_put (cs := #[.slice A209_0 ((rd_T87 l0 x13_1).f0).length c209_0, .int .i64 0, .int .i64 0, .int .i64 0]) ?_ 1 _ rfl; (with_reducible repeat (first | refine blk_drewN ?_ _ | refine blk_drew ?_ | refine blk_alloc ?_ _)); refine blk_put (cs := #[.slice none 0 0, .int .i64 0, .int .i64 0, .int .i64 0]) ?_ 0 _ rfl; (with_reducible repeat (first | refine blk_drewN ?_ _ | refine blk_drew ?_ | refine blk_alloc ?_ _)); exact BK210.out))⟩; have n4_ : Aside0 (Below w.heap.size w w22) := ⟨(by rw [hw]; exact (by repeat (first | (with_reducible first | exact HB.out | apply below_alloc | apply pw_below_drewN | apply below_drew1 | refine below_set ?_ GE210.out) | exact HB.out)))⟩; clear hw; clear HO_10; clear HO_11; clear HO208; clear BK210; clear HB; have HO_10 := n0_; have HO_11 := n1_; have HO208 := n2_; have BK210 := n3_; have HB := n4_; clear n0_ n1_ n2_ n3_ n4_; have hcz23_0 : w22.cell? ⟨gb210, 0, none⟩ = some (.slice A209_0 ((rd_T87 l0 x13_1).f0).length c209_0) := (blk_cell BK210.out 0).trans rfl; have hcz23_1 : w22.cell? ⟨gb210, 1, none⟩ = some (.int .i64 ((rd_T87 l0 x13_1).f1)) := (blk_cell BK210.out 1).trans rfl; have hcz23_2 : w22.cell? ⟨gb210, 2, none⟩ = some (.int .i64 ((rd_T87 l0 x13_1).f2)) := (blk_cell BK210.out 2).trans rfl; have hcz23_3 : w22.cell? ⟨gb210, 3, none⟩ = some (.int .i64 ((rd_T87 l0 x13_1).f3)) := (blk_cell BK210.out 3).trans rfl; have hfz23_0 := blk_frozen BK210.out 0; have hfz23_1 := blk_frozen BK210.out 1; have hfz23_2 := blk_frozen BK210.out 2; have hfz23_3 := blk_frozen BK210.out 3; obtain ⟨Ao24, co24, eo24⟩ := Kd.R_slice HO_10.out; subst eo24; obtain ⟨Ao25, co25, eo25⟩ := Kd.R_slice HO_11.out; subst eo25) | ((with_reducible refine gate_callee (f := 43) rfl ?_); refine goesL_ (some 39) rfl rfl Try.func43 (by kernel_rfl) rfl #[.slice A209_0 ((rd_T87 l0 x13_1).f0).length c209_0, .slice Ao24 x10_1.length co24, .slice Ao25 x11_1.length co25] rfl (by (try simp only [List.map_toArray, List.map_cons, List.map_nil]); first | done | rfl | (simp only [List.length_drop, List.length_take]; rfl)) ?_; (with_reducible refine (spec_l3Run.calls k1 _ _ ((rd_T87 l0 x13_1).f0) (fun k_ => some k_ = (.slice Ao24 x10_1.length co24 : Value).ownBlock) (.slice Ao24 x10_1.length co24) x10_1 (fun k_ => some k_ = (.slice Ao25 x11_1.length co25 : Value).ownBlock) (.slice Ao25 x11_1.length co25) x11_1 t211 t214 w _ ?side1 ?side2 ?side3 ?side4 ?side5 ?side6 ?side7 A14.out).mono ?_); (case side1 => repeat (first | (with_reducible first | exact HB.out | apply below_alloc | apply pw_below_drewN | apply below_drew1 | refine below_set ?_ GE210.out) | exact HB.out)); (case side2 => exact Kd.C_kept_came k65_heap HR209_0.out (by repeat (first | (with_reducible first | exact HB.out | apply below_alloc | apply pw_below_drewN | apply below_drew1 | refine below_set ?_ GE210.out) | exact HB.out)) (fun k_ hs_ => Or.elim hs_ (fun e_ => (fun e_ => Kd.R_base HO_10.out k_ e_.symm) e_) (fun e_ => (fun e_ => Kd.R_base HO_11.out k_ e_.symm) e_))); (case side3 => exact HC209_0.out); (case side4 => exact Kd.R_tight rfl HO_10.out); (case side5 => exact fun k_ e_ => (HO_10.out.1 k_ e_.symm).1); (case side6 => exact Kd.R_tight rfl HO_11.out); (case side7 => exact fun k_ e_ => (HO_11.out.1 k_ e_.symm).1); rintro e w26 ⟨v212, rfl, ho0, hy0, hb, hkp⟩; refine ⟨_, rfl, ?_⟩; have n0_ := Aside0.mk (Kd.R_reok rfl hy0 (fun k_ e_ => HO_10.out.1 k_ e_)); have n1_ := Aside0.mk (Kd.R_mono (ok' := fun k_ => some k_ ≠ (.slice Ao24 x10_1.length co24 : Value).ownBlock ∧ some k_ ≠ (v212 : Value).ownBlock) (Kd.R_keptB (HO208.out) hkp (fun k_ hk_ hs_ => Or.elim hs_ (fun e_ => (hk_.1) e_) (fun e_ => (hk_.2) e_))) (fun k_ hk_ => ⟨hk_.1.1, fun e_ => Or.elim (ho0.1 k_ e_.symm).1 (fun hs_ => hk_.2.1 hs_) (fun hn_ => Nat.not_le.2 hk_.2.2 hn_)⟩)); have n2_ := Aside0.mk (blk_kept (by (with_reducible repeat (first | refine blk_drewN ?_ _ | refine blk_drew ?_ | refine blk_alloc ?_ _)); exact BK210.out) hkp (fun hs_ => Or.elim hs_ (fun e_ => (fun e_ => (Kd.R_ne HO_10.out BK210.out (by decide)) e_) e_) (fun e_ => (fun e_ => (Kd.R_ne HO_11.out BK210.out (by decide)) e_) e_))); have n3_ := Aside0.mk (Kd.R_mono (ok' := fun k_ => some k_ ≠ (v207 : Value).ownBlock ∧ some k_ ≠ (.slice Ao24 x10_1.length co24 : Value).ownBlock) ho0 (fun k_ hk_ => ⟨Or.elim hk_.1 (fun hs_ => Or.elim hs_ (fun hs_ => fun e_ => (((HO208.out).1 k_ e_.symm).1) hs_) (fun hs_ => fun e_ => (((HO208.out).1 k_ e_.symm).2) hs_)) (fun hn_ => (Kd.fresh' (Kd.R_lt (by (with_reducible repeat (first | apply Kd.R_alloc | apply Kd.R_drewN | apply Kd.R_drew)); exact HO208.out)) k_ hn_)), hk_.2⟩)); have n4_ := Aside0.mk (hb); clear HO_10; clear HO208; clear BK210; clear HB; clear HO_11; have HO_10 := n0_; have HO208 := n1_; have BK210 := n2_; have HO213 := n3_; have HB := n4_; clear n0_ n1_ n2_ n3_ n4_; (try clear hb); (try clear hkp); (try clear ho0); (try clear hy0); have hcz27_0 : w26.cell? ⟨gb210, 0, none⟩ = some (.slice A209_0 ((rd_T87 l0 x13_1).f0).length c209_0) := (blk_cell BK210.out 0).trans rfl; have hcz27_1 : w26.cell? ⟨gb210, 1, none⟩ = some (.int .i64 ((rd_T87 l0 x13_1).f1)) := (blk_cell BK210.out 1).trans rfl; have hcz27_2 : w26.cell? ⟨gb210, 2, none⟩ = some (.int .i64 ((rd_T87 l0 x13_1).f2)) := (blk_cell BK210.out 2).trans rfl; have hcz27_3 : w26.cell? ⟨gb210, 3, none⟩ = some (.int .i64 ((rd_T87 l0 x13_1).f3)) := (blk_cell BK210.out 3).trans rfl; have hfz27_0 := blk_frozen BK210.out 0; have hfz27_1 := blk_frozen BK210.out 1; have hfz27_2 := blk_frozen BK210.out 2; have hfz27_3 := blk_frozen BK210.out 3; have p215 : 0 ≤ (((rd_T87 l0 x13_1).f1) : Int) := of_decide_eq_true (by first | (with_reducible assumption) | assumption); have q215 : ((rd_T87 l0 x13_1).f1) < (t214.length : Int) := (by have h_ : (((rd_T87 l0 x13_1).f1) : Int) < ((x10_1.length : Int) : Int) := of_decide_eq_true (by first | (with_reducible assumption) | assumption); have e_ := (Kd.R_reads' HO_10.out).1; omega); have ql215 : ((((rd_T87 l0 x13_1).f1) : Int) < ((x10_1.length : Int) : Int)) = True := eq_true (of_decide_eq_true (by first | (with_reducible assumption) | assumption)); obtain ⟨ad215, e215, hx215_0⟩ := Kd.at_int (Kd.R_reads' HO_10.out).2.2 ((rd_T87 l0 x13_1).f1) p215 q215; cases e215; replace p215 := eq_true p215; replace q215 := eq_true q215))
            go_roundg k1
            case measure => have := HK1.out; omega
            case rel => exact ⟨(t214), (t211), (y206), ((rd_T87 l0 x13_1).f3), (by first | rfl | (simp; done) | (simp [*]; done)), H', ⟨by have := HK1.out; omega⟩, ⟨by (with_reducible repeat (first | apply Kd.R_alloc | apply Kd.R_drewN | apply Kd.R_drew)); exact Kd.R_reok rfl HO_10.out (fun k_ e_ => have h_ := (HO_10.out).1 k_ e_; ⟨fun e2_ => ((HO213.out.1 k_ e2_.symm).2) e_.symm, h_.2⟩)⟩, ⟨by (with_reducible repeat (first | apply Kd.R_alloc | apply Kd.R_drewN | apply Kd.R_drew)); exact Kd.R_mono HO213.out (fun _ hk => ⟨hk.2, hk.1⟩)⟩, ⟨by (with_reducible repeat (first | apply Kd.R_alloc | apply Kd.R_drewN | apply Kd.R_drew)); exact HO208.out⟩, ⟨by repeat (first | (with_reducible first | exact HB.out | apply below_alloc | apply pw_below_drewN | apply below_drew1 | refine below_set ?_ GE210.out) | exact HB.out)⟩⟩
           ·rw [if_neg c17] at H
            have c17b0 : ((rd t214 ((rd_T87 l0 x13_1).f1)) == 0) = false := beq_eq_false_iff_ne.mpr c17
            have c17b1 : ((rd t214 ((rd_T87 l0 x13_1).f1)) != 0) = true := bne_iff_ne.mpr c17
            have H' := Aside0.mk H
            clear H
            obtain ⟨Ao28, co28, eo28⟩ := Kd.R_slice HO_12.out
            subst eo28
            go_wp2_with (first | ((with_reducible refine gate_builtin (b := .append) (xs := #[.tmp 27, .tmp 29]) rfl ?_); at_builtin; refine Kd.R_append (Kd.int .i64) (w0 := w) w.heap.size rfl (.tmp 27) (.tmp 29) 23 3 (.int .i64 0) 8 rfl Try.underlying23 info3 rfl (by decide) (by omega) (.slice Ao28 x12_1.length co28) x12_1 x13_1 [.int .i64 x13_1] (fun k_ => some k_ ≠ (v204 : Value).ownBlock ∧ some k_ ≠ (u11 : Value).ownBlock) (fun _ => False) rfl rfl ?aP (fun _ hk => hk.elim) ?aF ?aO ?aB ?aS ?aL ?_; (case aP => exact rfl); (case aB => exact (by repeat (first | (with_reducible first | exact HB.out | apply below_alloc | apply pw_below_drewN | apply below_drew1) | exact HB.out))); (case aF => exact (fun k_ hk => ⟨Kd.fresh' (Kd.R_lt (by (with_reducible repeat (first | apply Kd.R_alloc | apply Kd.R_drewN | apply Kd.R_drew)); exact HO_10.out)) k_ hk, Kd.fresh' (Kd.R_lt (by (with_reducible repeat (first | apply Kd.R_alloc | apply Kd.R_drewN | apply Kd.R_drew)); exact HO_11.out)) k_ hk⟩)); (case aO => exact (by (with_reducible repeat (first | apply Kd.R_alloc | apply Kd.R_drewN | apply Kd.R_drew)); exact HO_12.out)); (case aS => exact (below_size (by repeat (first | (with_reducible first | exact HB.out | apply below_alloc | apply pw_below_drewN | apply below_drew1) | exact HB.out)))); (case aL => have := LMc11.out; omega); intro v207 w29 ho hb hg hat; rw [← Ny206.out] at ho; have n0_ := Aside0.mk (Kd.R_after (ok := (fun k_ => some k_ ≠ (u11 : Value).ownBlock)) (by (with_reducible repeat (first | apply Kd.R_alloc | apply Kd.R_drewN | apply Kd.R_drew)); exact HO_10.out) hg hat); have n1_ := Aside0.mk (Kd.R_after (ok := (fun k_ => some k_ ≠ (v204 : Value).ownBlock)) (by (with_reducible repeat (first | apply Kd.R_alloc | apply Kd.R_drewN | apply Kd.R_drew)); exact HO_11.out) hg hat); have n2_ := Aside0.mk (hb); have n3_ := Aside0.mk (ho); clear HO_10; clear HO_11; clear HB; clear HO_12; have HO_10 := n0_; have HO_11 := n1_; have HB := n2_; have HO208 := n3_; clear n0_ n1_ n2_ n3_; clear ho hb hg hat; have p209 : 0 ≤ (x13_1 : Int) := of_decide_eq_true (by first | (with_reducible assumption) | assumption); have q209 : x13_1 < (l0.length : Int) := of_decide_eq_true (by first | (with_reducible assumption) | assumption); obtain ⟨ad209, A209_0, c209_0, e209, hx209_0, hx209_1, hx209_2, hx209_3, hl209_0, hi209_0⟩ := at_T87 HR0.out x13_1 p209 q209; cases e209; replace hx209_0 := (HB.out.cell (World.block_lt_of_cell? w _ hx209_0)).trans hx209_0; replace hx209_1 := (HB.out.cell (World.block_lt_of_cell? w _ hx209_1)).trans hx209_1; replace hx209_2 := (HB.out.cell (World.block_lt_of_cell? w _ hx209_2)).trans hx209_2; replace hx209_3 := (HB.out.cell (World.block_lt_of_cell? w _ hx209_3)).trans hx209_3; have HR209_0 := Aside0.mk hi209_0; have HC209_0 := Aside0.mk hl209_0; clear hi209_0 hl209_0; replace p209 := eq_true p209; replace q209 := eq_true q209) | ((with_reducible refine gate_dst (N := 14) rfl ?_); refine box_event ?hg (N := 14) ?hd (cs := #[.slice none 0 0, .int .i64 0, .int .i64 0, .int .i64 0]) (t := 87) ?hr ?_; (case hd => rfl); (case hg => rfl); (case hr => first | (go_simp; done) | (go_simp; rfl)); intro gb210 hg w30 hbox hb; have n0_ := Aside0.mk (Kd.R_below (by (with_reducible repeat (first | apply Kd.R_alloc | apply Kd.R_drewN | apply Kd.R_drew)); exact HO_10.out) hb); have n1_ := Aside0.mk (Kd.R_below (by (with_reducible repeat (first | apply Kd.R_alloc | apply Kd.R_drewN | apply Kd.R_drew)); exact HO_11.out) hb); have n2_ := Aside0.mk (Kd.R_below (by (with_reducible repeat (first | apply Kd.R_alloc | apply Kd.R_drewN | apply Kd.R_drew)); exact HO208.out) hb); have n3_ := Aside0.mk (below_step (by repeat (first | (with_reducible first | exact HB.out | apply below_alloc | apply pw_below_drewN | apply below_drew1) | exact HB.out)) hb); have n4_ := Aside0.mk (hbox); have n5_ := Aside0.mk ((by rw [hg]; exact (below_size (by repeat (first | (with_reducible first | exact HB.out | apply below_alloc | apply pw_below_drewN | apply below_drew1) | exact HB.out))) : w.heap.size ≤ gb210)); have n6_ := Aside0.mk ((by rw [hg]; exact (below_size (by repeat (first | (with_reducible first | exact HB.out | apply below_alloc | apply pw_below_drewN | apply below_drew1) | exact HB.out))) : w.heap.size ≤ gb210)); clear HO_10; clear HO_11; clear HO208; clear HB; have HO_10 := n0_; have HO_11 := n1_; have HO208 := n2_; have HB := n3_; have BK210 := n4_; have GW210 := n5_; have GE210 := n6_; clear n0_ n1_ n2_ n3_ n4_ n5_ n6_; clear hb hbox hg; have hcz31_0 : w30.cell? ⟨gb210, 0, none⟩ = some (.slice none 0 0) := (blk_cell BK210.out 0).trans rfl; have hcz31_1 : w30.cell? ⟨gb210, 1, none⟩ = some (.int .i64 0) := (blk_cell BK210.out 1).trans rfl; have hcz31_2 : w30.cell? ⟨gb210, 2, none⟩ = some (.int .i64 0) := (blk_cell BK210.out 2).trans rfl; have hcz31_3 : w30.cell? ⟨gb210, 3, none⟩ = some (.int .i64 0) := (blk_cell BK210.out 3).trans rfl; have hfz31_0 := blk_frozen BK210.out 0; have hfz31_1 := blk_frozen BK210.out 1; have hfz31_2 := blk_frozen BK210.out 2; have hfz31_3 := blk_frozen BK210.out 3) | ((with_reducible refine gate_store (t := 87) (p := 14) rfl ?_); refine store_event (t := 87) (p := 14) (v := ?vo_w32) (w1 := ((((w30.setCell ⟨gb210, 0, none⟩ (.slice A209_0 ((rd_T87 l0 x13_1).f0).length c209_0)).setCell ⟨gb210, 1, none⟩ (.int .i64 ((rd_T87 l0 x13_1).f1))).setCell ⟨gb210, 2, none⟩ (.int .i64 ((rd_T87 l0 x13_1).f2))).setCell ⟨gb210, 3, none⟩ (.int .i64 ((rd_T87 l0 x13_1).f3)))) ?hg ?ho ?hn ?hr ?_; (case ho => rfl); (case hg => rfl); (case hn => rfl); (case hr => first | (go_simp; done) | (go_simp; rfl)); intro w32 hw; have n0_ : Aside0 (Kd.R (Kd.int .i64) 3 w32 w.heap.size (fun k_ => some k_ ≠ (u11 : Value).ownBlock ∧ some k_ ≠ (v207 : Value).ownBlock) v204 x10_1) := ⟨(by rw [hw]; exact (by (with_reducible repeat (first | apply Kd.R_alloc | apply Kd.R_drewN | apply Kd.R_drew)); exact Kd.R_mono (Kd.R_far (p := ⟨gb210, 3, none⟩) (Kd.R_far (p := ⟨gb210, 2, none⟩) (Kd.R_far (p := ⟨gb210, 1, none⟩) (Kd.R_far (p := ⟨gb210, 0, none⟩) (Kd.R_types HO_10.out BK210.out (by decide)) (fun _ hk => hk.2) (.slice A209_0 ((rd_T87 l0 x13_1).f0).length c209_0)) (fun _ hk => hk.2) (.int .i64 ((rd_T87 l0 x13_1).f1))) (fun _ hk => hk.2) (.int .i64 ((rd_T87 l0 x13_1).f2))) (fun _ hk => hk.2) (.int .i64 ((rd_T87 l0 x13_1).f3))) (fun _ hk => ⟨hk.1.1, hk.1.2⟩)))⟩; have n1_ : Aside0 (Kd.R (Kd.int .i64) 3 w32 w.heap.size (fun k_ => some k_ ≠ (v204 : Value).ownBlock ∧ some k_ ≠ (v207 : Value).ownBlock) u11 x11_1) := ⟨(by rw [hw]; exact (by (with_reducible repeat (first | apply Kd.R_alloc | apply Kd.R_drewN | apply Kd.R_drew)); exact Kd.R_mono (Kd.R_far (p := ⟨gb210, 3, none⟩) (Kd.R_far (p := ⟨gb210, 2, none⟩) (Kd.R_far (p := ⟨gb210, 1, none⟩) (Kd.R_far (p := ⟨gb210, 0, none⟩) (Kd.R_types HO_11.out BK210.out (by decide)) (fun _ hk => hk.2) (.slice A209_0 ((rd_T87 l0 x13_1).f0).length c209_0)) (fun _ hk => hk.2) (.int .i64 ((rd_T87 l0 x13_1).f1))) (fun _ hk => hk.2) (.int .i64 ((rd_T87 l0 x13_1).f2))) (fun _ hk => hk.2) (.int .i64 ((rd_T87 l0 x13_1).f3))) (fun _ hk => ⟨hk.1.1, hk.1.2⟩)))⟩; have n2_ : Aside0 (Kd.R (Kd.int .i64) 3 w32 w.heap.size (fun k_ => some k_ ≠ (v204 : Value).ownBlock ∧ some k_ ≠ (u11 : Value).ownBlock) v207 y206) := ⟨(by rw [hw]; exact (by (with_reducible repeat (first | apply Kd.R_alloc | apply Kd.R_drewN | apply Kd.R_drew)); exact Kd.R_mono (Kd.R_far (p := ⟨gb210, 3, none⟩) (Kd.R_far (p := ⟨gb210, 2, none⟩) (Kd.R_far (p := ⟨gb210, 1, none⟩) (Kd.R_far (p := ⟨gb210, 0, none⟩) (Kd.R_types HO208.out BK210.out (by decide)) (fun _ hk => hk.2) (.slice A209_0 ((rd_T87 l0 x13_1).f0).length c209_0)) (fun _ hk => hk.2) (.int .i64 ((rd_T87 l0 x13_1).f1))) (fun _ hk => hk.2) (.int .i64 ((rd_T87 l0 x13_1).f2))) (fun _ hk => hk.2) (.int .i64 ((rd_T87 l0 x13_1).f3))) (fun _ hk => ⟨hk.1.1, hk.1.2⟩)))⟩; have n3_ : Aside0 (w32.heap[gb210]? = some (.cells #[.slice A209_0 ((rd_T87 l0 x13_1).f0).length c209_0, .int .i64 ((rd_T87 l0 x13_1).f1), .int .i64 ((rd_T87 l0 x13_1).f2), .int .i64 ((rd_T87 l0 x13_1).f3)] 87 (0, 0))) := ⟨(by rw [hw]; exact (by (with_reducible repeat (first | refine blk_drewN ?_ _ | refine blk_drew ?_ | refine blk_alloc ?_ _)); refine blk_put (cs := #[.slice A209_0 ((rd_T87 l0 x13_1).f0).length c209_0, .int .i64 ((rd_T87 l0 x13_1).f1), .int .i64 ((rd_T87 l0 x13_1).f2), .int .i64 0]) ?_ 3 _ rfl; (with_reducible repeat (first | refine blk_drewN ?_ _ | refine blk_drew ?_ | refine blk_alloc ?_ _)); refine blk_put (cs := #[.slice A209_0 ((rd_T87 l0 x13_1).f0).length c209_0, .int .i64 ((rd_T87 l0 x13_1).f1), .int .i64 0, .int .i64 0]) ?_ 2 _ rfl; (with_reducible repeat (first | refine blk_drewN ?_ _ | refine blk_drew ?_ | refine blk_alloc ?_ _)); refine blk_put (cs := #[.slice A209_0 ((rd_T87 l0 x13_1).f0).length c209_0, .int .i64 0, .int .i64 0, .int .i64 0]) ?_ 1 _ rfl; (with_reducible repeat (first | refine blk_drewN ?_ _ | refine blk_drew ?_ | refine blk_alloc ?_ _)); refine blk_put (cs := #[.slice none 0 0, .int .i64 0, .int .i64 0, .int .i64 0]) ?_ 0 _ rfl; (with_reducible repeat (first | refine blk_drewN ?_ _ | refine blk_drew ?_ | refine blk_alloc ?_ _)); exact BK210.out))⟩; have n4_ : Aside0 (Below w.heap.size w w32) := ⟨(by rw [hw]; exact (by repeat (first | (with_reducible first | exact HB.out | apply below_alloc | apply pw_below_drewN | apply below_drew1 | refine below_set ?_ GE210.out) | exact HB.out)))⟩; clear hw; clear HO_10; clear HO_11; clear HO208; clear BK210; clear HB; have HO_10 := n0_; have HO_11 := n1_; have HO208 := n2_; have BK210 := n3_; have HB := n4_; clear n0_ n1_ n2_ n3_ n4_; have hcz33_0 : w32.cell? ⟨gb210, 0, none⟩ = some (.slice A209_0 ((rd_T87 l0 x13_1).f0).length c209_0) := (blk_cell BK210.out 0).trans rfl; have hcz33_1 : w32.cell? ⟨gb210, 1, none⟩ = some (.int .i64 ((rd_T87 l0 x13_1).f1)) := (blk_cell BK210.out 1).trans rfl; have hcz33_2 : w32.cell? ⟨gb210, 2, none⟩ = some (.int .i64 ((rd_T87 l0 x13_1).f2)) := (blk_cell BK210.out 2).trans rfl; have hcz33_3 : w32.cell? ⟨gb210, 3, none⟩ = some (.int .i64 ((rd_T87 l0 x13_1).f3)) := (blk_cell BK210.out 3).trans rfl; have hfz33_0 := blk_frozen BK210.out 0; have hfz33_1 := blk_frozen BK210.out 1; have hfz33_2 := blk_frozen BK210.out 2; have hfz33_3 := blk_frozen BK210.out 3; obtain ⟨Ao34, co34, eo34⟩ := Kd.R_slice HO_10.out; subst eo34; obtain ⟨Ao35, co35, eo35⟩ := Kd.R_slice HO_11.out; subst eo35) | ((with_reducible refine gate_callee (f := 43) rfl ?_); refine goesL_ (some 39) rfl rfl Try.func43 (by kernel_rfl) rfl #[.slice A209_0 ((rd_T87 l0 x13_1).f0).length c209_0, .slice Ao34 x10_1.length co34, .slice Ao35 x11_1.length co35] rfl (by (try simp only [List.map_toArray, List.map_cons, List.map_nil]); first | done | rfl | (simp only [List.length_drop, List.length_take]; rfl)) ?_; (with_reducible refine (spec_l3Run.calls k1 _ _ ((rd_T87 l0 x13_1).f0) (fun k_ => some k_ = (.slice Ao34 x10_1.length co34 : Value).ownBlock) (.slice Ao34 x10_1.length co34) x10_1 (fun k_ => some k_ = (.slice Ao35 x11_1.length co35 : Value).ownBlock) (.slice Ao35 x11_1.length co35) x11_1 t211 t214 w _ ?side1 ?side2 ?side3 ?side4 ?side5 ?side6 ?side7 A14.out).mono ?_); (case side1 => repeat (first | (with_reducible first | exact HB.out | apply below_alloc | apply pw_below_drewN | apply below_drew1 | refine below_set ?_ GE210.out) | exact HB.out)); (case side2 => exact Kd.C_kept_came k65_heap HR209_0.out (by repeat (first | (with_reducible first | exact HB.out | apply below_alloc | apply pw_below_drewN | apply below_drew1 | refine below_set ?_ GE210.out) | exact HB.out)) (fun k_ hs_ => Or.elim hs_ (fun e_ => (fun e_ => Kd.R_base HO_10.out k_ e_.symm) e_) (fun e_ => (fun e_ => Kd.R_base HO_11.out k_ e_.symm) e_))); (case side3 => exact HC209_0.out); (case side4 => exact Kd.R_tight rfl HO_10.out); (case side5 => exact fun k_ e_ => (HO_10.out.1 k_ e_.symm).1); (case side6 => exact Kd.R_tight rfl HO_11.out); (case side7 => exact fun k_ e_ => (HO_11.out.1 k_ e_.symm).1); rintro e w36 ⟨v212, rfl, ho0, hy0, hb, hkp⟩; refine ⟨_, rfl, ?_⟩; have n0_ := Aside0.mk (Kd.R_reok rfl hy0 (fun k_ e_ => HO_10.out.1 k_ e_)); have n1_ := Aside0.mk (Kd.R_mono (ok' := fun k_ => some k_ ≠ (.slice Ao34 x10_1.length co34 : Value).ownBlock ∧ some k_ ≠ (v212 : Value).ownBlock) (Kd.R_keptB (HO208.out) hkp (fun k_ hk_ hs_ => Or.elim hs_ (fun e_ => (hk_.1) e_) (fun e_ => (hk_.2) e_))) (fun k_ hk_ => ⟨hk_.1.1, fun e_ => Or.elim (ho0.1 k_ e_.symm).1 (fun hs_ => hk_.2.1 hs_) (fun hn_ => Nat.not_le.2 hk_.2.2 hn_)⟩)); have n2_ := Aside0.mk (blk_kept (by (with_reducible repeat (first | refine blk_drewN ?_ _ | refine blk_drew ?_ | refine blk_alloc ?_ _)); exact BK210.out) hkp (fun hs_ => Or.elim hs_ (fun e_ => (fun e_ => (Kd.R_ne HO_10.out BK210.out (by decide)) e_) e_) (fun e_ => (fun e_ => (Kd.R_ne HO_11.out BK210.out (by decide)) e_) e_))); have n3_ := Aside0.mk (Kd.R_mono (ok' := fun k_ => some k_ ≠ (v207 : Value).ownBlock ∧ some k_ ≠ (.slice Ao34 x10_1.length co34 : Value).ownBlock) ho0 (fun k_ hk_ => ⟨Or.elim hk_.1 (fun hs_ => Or.elim hs_ (fun hs_ => fun e_ => (((HO208.out).1 k_ e_.symm).1) hs_) (fun hs_ => fun e_ => (((HO208.out).1 k_ e_.symm).2) hs_)) (fun hn_ => (Kd.fresh' (Kd.R_lt (by (with_reducible repeat (first | apply Kd.R_alloc | apply Kd.R_drewN | apply Kd.R_drew)); exact HO208.out)) k_ hn_)), hk_.2⟩)); have n4_ := Aside0.mk (hb); clear HO_10; clear HO208; clear BK210; clear HB; clear HO_11; have HO_10 := n0_; have HO208 := n1_; have BK210 := n2_; have HO213 := n3_; have HB := n4_; clear n0_ n1_ n2_ n3_ n4_; (try clear hb); (try clear hkp); (try clear ho0); (try clear hy0); have hcz37_0 : w36.cell? ⟨gb210, 0, none⟩ = some (.slice A209_0 ((rd_T87 l0 x13_1).f0).length c209_0) := (blk_cell BK210.out 0).trans rfl; have hcz37_1 : w36.cell? ⟨gb210, 1, none⟩ = some (.int .i64 ((rd_T87 l0 x13_1).f1)) := (blk_cell BK210.out 1).trans rfl; have hcz37_2 : w36.cell? ⟨gb210, 2, none⟩ = some (.int .i64 ((rd_T87 l0 x13_1).f2)) := (blk_cell BK210.out 2).trans rfl; have hcz37_3 : w36.cell? ⟨gb210, 3, none⟩ = some (.int .i64 ((rd_T87 l0 x13_1).f3)) := (blk_cell BK210.out 3).trans rfl; have hfz37_0 := blk_frozen BK210.out 0; have hfz37_1 := blk_frozen BK210.out 1; have hfz37_2 := blk_frozen BK210.out 2; have hfz37_3 := blk_frozen BK210.out 3; have p215 : 0 ≤ (((rd_T87 l0 x13_1).f1) : Int) := of_decide_eq_true (by first | (with_reducible assumption) | assumption); have q215 : ((rd_T87 l0 x13_1).f1) < (t214.length : Int) := (by have h_ : (((rd_T87 l0 x13_1).f1) : Int) < ((x10_1.length : Int) : Int) := of_decide_eq_true (by first | (with_reducible assumption) | assumption); have e_ := (Kd.R_reads' HO_10.out).1; omega); have ql215 : ((((rd_T87 l0 x13_1).f1) : Int) < ((x10_1.length : Int) : Int)) = True := eq_true (of_decide_eq_true (by first | (with_reducible assumption) | assumption)); obtain ⟨ad215, e215, hx215_0⟩ := Kd.at_int (Kd.R_reads' HO_10.out).2.2 ((rd_T87 l0 x13_1).f1) p215 q215; cases e215; replace p215 := eq_true p215; replace q215 := eq_true q215))
            go_roundg k1
            case measure => have := HK1.out; omega
            case rel => exact ⟨(t214), (t211), (y206), ((rd_T87 l0 x13_1).f2), (by first | rfl | (simp; done) | (simp [*]; done)), H', ⟨by have := HK1.out; omega⟩, ⟨by (with_reducible repeat (first | apply Kd.R_alloc | apply Kd.R_drewN | apply Kd.R_drew)); exact Kd.R_reok rfl HO_10.out (fun k_ e_ => have h_ := (HO_10.out).1 k_ e_; ⟨fun e2_ => ((HO213.out.1 k_ e2_.symm).2) e_.symm, h_.2⟩)⟩, ⟨by (with_reducible repeat (first | apply Kd.R_alloc | apply Kd.R_drewN | apply Kd.R_drew)); exact Kd.R_mono HO213.out (fun _ hk => ⟨hk.2, hk.1⟩)⟩, ⟨by (with_reducible repeat (first | apply Kd.R_alloc | apply Kd.R_drewN | apply Kd.R_drew)); exact HO208.out⟩, ⟨by repeat (first | (with_reducible first | exact HB.out | apply below_alloc | apply pw_below_drewN | apply below_drew1 | refine below_set ?_ GE210.out) | exact HB.out)⟩⟩
          ·rw [if_neg c16] at H
           exact absurd H (by simp)
         ·rw [if_neg c15] at H
          exact absurd H (by simp)
        ·rw [if_neg c13] at H
         exact absurd H (by simp)
       ·rw [if_neg c12] at H
        exact absurd H (by simp)
      ·rw [if_neg c11] at H
       exact absurd H (by simp)
    ·rw [if_neg c8] at H
     have c8b0 : decide (0 ≤ x13_1) = false := decide_eq_false c8
     clear c8
     simp only [Option.some.injEq, Prod.mk.injEq] at H
     obtain ⟨rfl, rfl, rfl, rfl⟩ := H
     go_wp2
     refine bodyPost_ret (results_list (rs := [.tmp 6, .tmp 7, .tmp 8, .tmp 9]) rfl (by simp) (.tmp (.tmp (.tmp (.tmp .nil))))) rfl ?_
     exact ⟨_, _, _, by first | rfl | (simp [errW_none, errW_some] <;> rfl) | (simp [*, errW_none, errW_some] <;> rfl), by (with_reducible repeat (first | apply Kd.R_alloc | apply Kd.R_drewN | apply Kd.R_drew)); exact HO_11.out, by (with_reducible repeat (first | apply Kd.R_alloc | apply Kd.R_drewN | apply Kd.R_drew)); exact HO_10.out, by (with_reducible repeat (first | apply Kd.R_alloc | apply Kd.R_drewN | apply Kd.R_drew)); exact Kd.R_mono HO_12.out (fun _ hk => ⟨hk.2, hk.1⟩), by repeat (first | (with_reducible first | exact HB.out | apply below_alloc | apply pw_below_drewN | apply below_drew1) | exact HB.out)⟩
 ·rw [if_neg c4] at H
  exact absurd H (by simp)

end Go.Proofs.Ytpanbicgnmjjiaa.XFnExactRunFlow
