-- Printed by a patched copy of the print, a program of this session. Lean checks it.
import Derived.Test.YtpanbicgnmjjiaaQFnExactWayFactsSq
import Derived.Test.YtpanbicgnmjjiaaQFnExactWayFactsXFnExactWayFactsx0
import Derived.Test.YtpanbicgnmjjiaaQFnExactWayFactsXFnExactWayFactsx2
namespace Go.Proofs.Ytpanbicgnmjjiaa.XFnExactWayFacts
open Go.RowKit Go.Proofs.YtpanbicgnmjjiaaW.PrintWords Go.Proofs.YtpanbicgnmjjiaaW.PrintLast Go.Proofs.YtpanbicgnmjjiaaW.PrintMore Go.Proofs.YtpanbicgnmjjiaaSq
attribute [local go_sem] max2_int min2_int max_two min_two max_three min_three max_four min_four   -- for this text's walks alone
set_option linter.unusedVariables false
set_option linter.unusedSimpArgs false

/-! ### laws_eqFactSS: function 36 -/
def laws_eqFactSS.l0 : Nat → List (List (S75)) → List (List (S75)) → Int → Option (Bool)
  | 0, _, _, _ => none
  | k + 1, x0, x1, x5 => if x5 < (x0.length : Int) then (if 0 ≤ x5 then (if x5 < (x1.length : Int) then ((laws_eqFactS.f k (rd_L10 x0 x5) (rd_L10 x1 x5)).bind fun t172 => (if t172 = true then (laws_eqFactSS.l0 k x0 x1 (wrap64 (x5 + 1))) else (some false))) else (none)) else (none)) else (some true)
def laws_eqFactSS.f (k : Nat) (l0 : List (List (S75))) (l1 : List (List (S75))) : Option (Bool) := if (l0.length : Int) = (l1.length : Int) then (laws_eqFactSS.l0 k l0 l1 0) else (some false)
theorem laws_eqFactSS.mono_l : ∀ k, (∀ y0 y1 y2, LeO (laws_eqFactSS.l0 k y0 y1 y2) (laws_eqFactSS.l0 (k + 1) y0 y1 y2))
  | 0 => fun _ _ _ r h => by simp [laws_eqFactSS.l0] at h
  | k + 1 => by
    have ih0 := laws_eqFactSS.mono_l k
    · intro y0 y1 y2
      unfold laws_eqFactSS.l0
      repeat' first
      | (with_reducible exact ih0 _ _ _)
      | (with_reducible exact laws_eqFactS.mono _ _ _)
      | (with_reducible exact LeO.refl _)
      | (with_reducible exact LeO.none _)
      | (with_reducible refine LeO.ite ?_ ?_)
      | (with_reducible refine LeO.bind ?_ (fun _ => ?_))
      | exact ih0 _ _ _
      | exact laws_eqFactS.mono _ _ _
      | exact LeO.none _
      | refine LeO.ite ?_ ?_
      | refine LeO.bind ?_ (fun _ => ?_)
theorem laws_eqFactSS.mono : ∀ a0 a1 k, LeO (laws_eqFactSS.f k a0 a1) (laws_eqFactSS.f (k + 1) a0 a1) := by
  intro a0 a1 k
  have ih0 := laws_eqFactSS.mono_l k
  unfold laws_eqFactSS.f
  repeat' first
      | (with_reducible exact ih0 _ _ _)
      | (with_reducible exact laws_eqFactS.mono _ _ _)
      | (with_reducible exact LeO.refl _)
      | (with_reducible exact LeO.none _)
      | (with_reducible refine LeO.ite ?_ ?_)
      | (with_reducible refine LeO.bind ?_ (fun _ => ?_))
      | exact ih0 _ _ _
      | exact laws_eqFactS.mono _ _ _
      | exact LeO.none _
      | refine LeO.ite ?_ ?_
      | refine LeO.bind ?_ (fun _ => ?_)
def laws_eqFactSS.T6 : Bool × List (List Nat × List Nat) := (true, [([], []), ([], []), ([0, 1], [0, 1]), ([2], [2]), ([], []), ([], []), ([4, 5], [4, 5]), ([6], [6]), ([3, 7], [3, 7]), ([8], [8])])
def laws_eqFactSS.B6 : List Nat := [0, 0, 3, 7, 0, 0, 48, 112, 255, 511]
theorem laws_eqFactSS.tab6 : rtab .any (opsOf Try.f36 6) = laws_eqFactSS.T6 := by kernel_rfl
theorem laws_eqFactSS.bits6 : waitsOk laws_eqFactSS.T6.2 laws_eqFactSS.B6 = true := by kernel_rfl
abbrev am6_0 : Array Bool := #[false,false,false,false,false,false,false,false,false,false]
abbrev am6_1 : Array Bool := #[true,false,false,false,false,false,false,false,false,false]
abbrev am6_2 : Array Bool := #[true,true,false,false,false,false,false,false,false,false]
abbrev am6_3 : Array Bool := #[true,true,true,false,false,false,false,false,false,false]
abbrev am6_4 : Array Bool := #[true,true,true,false,true,false,false,false,false,false]
abbrev am6_5 : Array Bool := #[true,true,true,false,true,true,false,false,false,false]
abbrev am6_6 : Array Bool := #[true,true,true,false,true,true,true,false,false,false]
abbrev am6_7 : Array Bool := #[true,true,true,true,true,true,true,false,false,false]
abbrev am6_8 : Array Bool := #[true,true,true,true,true,true,true,true,false,false]
abbrev am6_9 : Array Bool := #[true,true,true,true,true,true,true,true,true,false]
abbrev am6_10 : Array Bool := #[true,true,true,true,true,true,true,true,true,true]
set_option maxHeartbeats 8000000 in
set_option maxRecDepth 100000 in
theorem laws_eqFactSS.calls (k : Nat) (A0 : Option Addr) (c0 : Nat) (l0 : List (List (S75))) (A1 : Option Addr) (c1 : Nat) (l1 : List (List (S75))) (r : Bool) (w : World) (hr0 : Kd.C (Kd.slice 75 k75) w A0 l0.length l0) (hc0 : l0.length ≤ c0) (hr1 : Kd.C (Kd.slice 75 k75) w A1 l1.length l1) (hc1 : l1.length ≤ c1) (h : laws_eqFactSS.f k l0 l1 = some r) :
  Calls Try.prog 36 #[.slice A0 l0.length c0, .slice A1 l1.length c1] w fun e w' => e = .returned (.bool r) ∧ Below w.heap.size w w' := by
 have HR0 := a_ hr0; have HC0 := a_ hc0; clear hr0 hc0; have HR1 := a_ hr1; have HC1 := a_ hc1; clear hr1 hc1; have HB := a_ (Below.refl w.heap.size w); have H : (if (l0.length : Int) = (l1.length : Int) then (laws_eqFactSS.l0 k l0 l1 0) else (some false)) = some r := h; clear h
 by_cases c3 : (l0.length : Int) = (l1.length : Int)
 ·rw [if_pos c3] at H
  have c3b0 : ((l0.length : Int) == (l1.length : Int)) = true := beq_iff_eq.mpr c3; have c3b1 : ((l0.length : Int) != (l1.length : Int)) = false := bne_eq_false_iff_eq.mpr c3; (have c3b2 : (l0.length == l1.length) = true := by first | simpa using c3 | (simp at c3 ⊢; omega)); clear c3; have H' := a_ H; clear H; go_enter Try.func36, Try.ntmps36; go_wp2
  go_loopg [5] k (fun kq v5 w' => ∃ (x5_1 : Int), v5 = .int .i64 x5_1 ∧ Aside0 (laws_eqFactSS.l0 kq l0 l1 x5_1 = some r) ∧ Aside0 (kq ≤ k) ∧ Aside0 (Below w.heap.size w w'))
  case atStart => exact ⟨(0), (by first | rfl | (simp; done) | (simp [*]; done)), H', ⟨Nat.le_refl _⟩, ⟨(Bb_ HB.out)⟩⟩
  case round =>
   clear H'; (try clear c1); (try clear p2); (try clear c3); (try clear c3b0); (try clear c3b1); (try clear c3b2); obtain ⟨x5_1, rfl, HA, HK1, HB⟩ := hrel
   cases gk with
   | zero => exact absurd HA.out (by simp [laws_eqFactSS.l0])
   | succ k1 =>
    have H := HA.out; clear HA; simp only [laws_eqFactSS.l0] at H
    by_cases c4 : x5_1 < (l0.length : Int)
    ·rw [if_pos c4] at H
     have c4b0 : decide (x5_1 < (l0.length : Int)) = true := decide_eq_true c4; clear c4
     by_cases c5 : 0 ≤ x5_1
     ·rw [if_pos c5] at H
      have c5b0 : decide (0 ≤ x5_1) = true := decide_eq_true c5; clear c5
      by_cases c6 : x5_1 < (l1.length : Int)
      ·rw [if_pos c6] at H
       have c6b0 : decide (x5_1 < (l1.length : Int)) = true := decide_eq_true c6; clear c6; replace H := Option.bind_eq_some_iff.mp H; obtain ⟨t172, A70, H⟩ := H; (try dsimp only at H); have A7 := a_ A70; clear A70
       by_cases c8 : t172 = true
       ·subst c8
        rw [if_pos rfl] at H; have H' := a_ H; clear H; (try go_wp2); replace HB := a_ (below_drew1 HB.out); have p170 : 0 ≤ (x5_1 : Int) := of_decide_eq_true Am_; have q170 : x5_1 < (l0.length : Int) := of_decide_eq_true Am_; obtain ⟨ad170, A170_0, c170_0, e170, hx170_0, hl170_0, hi170_0⟩ := at_L10 HR0.out x5_1 p170 q170; have hw170_0 := hx170_0; cases e170; replace hx170_0 := hc_ HB hx170_0; have HR170_0 := a_ hi170_0; have HC170_0 := a_ hl170_0; clear hi170_0 hl170_0; replace p170 := eq_true p170; replace q170 := eq_true q170; have p171 : 0 ≤ (x5_1 : Int) := of_decide_eq_true Am_; have q171 : x5_1 < (l1.length : Int) := of_decide_eq_true Am_; obtain ⟨ad171, A171_0, c171_0, e171, hx171_0, hl171_0, hi171_0⟩ := at_L10 HR1.out x5_1 p171 q171; have hw171_0 := hx171_0; cases e171; replace hx171_0 := hc_ HB hx171_0; have HR171_0 := a_ hi171_0; have HC171_0 := a_ hl171_0; clear hi171_0 hl171_0; replace p171 := eq_true p171; replace q171 := eq_true q171; refine start_ (n := 10) (S := fun w' => w'.cell? (ad170.add (x5_1).toNat) = some (.slice A170_0 (rd_L10 l0 x5_1).length c170_0) ∧ w'.cell? (ad171.add (x5_1).toNat) = some (.slice A171_0 (rd_L10 l1 x5_1).length c171_0)) (ds := []) am6_0 (by kernel_rfl) rfl rfl ⟨(hc_ HB hw170_0), (hc_ HB hw171_0)⟩ (fun hHeld => ?_); refine with_tabW laws_eqFactSS.tab6 laws_eqFactSS.bits6 (fun HT_ HW_ => ?_); generalize wr.drew = w9 at HB HR170_0 HR171_0 hx170_0 hx171_0 hHeld ⊢; refine Pu_ (i := 0) (N := some 17) am6_1 rfl rfl HT_ ?_; refine Pu_ (i := 1) (N := some 18) am6_2 rfl rfl HT_ ?_; refine Pu_ (i := 2) (N := some 19) am6_3 rfl rfl HT_ ?_; refine Pu_ (i := 4) (N := some 21) am6_4 rfl rfl HT_ ?_; refine Pu_ (i := 5) (N := some 22) am6_5 rfl rfl HT_ ?_; refine Pu_ (i := 6) (N := some 23) am6_6 rfl rfl HT_ ?_; refine Ta_ (i := 3) (N := some 20) am6_7 rfl rfl HT_ HW_ hHeld ?_; refine Ta_ (i := 7) (N := some 24) am6_8 rfl rfl HT_ HW_ hHeld ?_; refine one_ (i := 8) (N := some 25) am6_9 rfl rfl (one_of HT_.out (by kernel_rfl)) (by decide) (fun K hK => ?_); refine goes_ Try.func23 (by kernel_rfl) rfl #[.slice A170_0 (rd_L10 l0 x5_1).length c170_0, .slice A171_0 (rd_L10 l1 x5_1).length c171_0] (by rfl) rfl rfl (by (try simp only [List.map_toArray, List.map_cons, List.map_nil]); first | done | rfl | (simp only [List.length_drop, List.length_take]; rfl)) ?_; (with_reducible refine (laws_eqFactS.calls k1 _ _ (rd_L10 l0 x5_1) _ _ (rd_L10 l1 x5_1) true _ ?side1 ?side2 ?side3 ?side4 A7.out).mono ?_); (case side1 => exact Cb_ (Kd.C_below HR170_0.out HB.out)); (case side2 => exact HC170_0.out); (case side3 => exact Cb_ (Kd.C_below HR171_0.out HB.out)); (case side4 => exact HC171_0.out); rintro e w10 ⟨rfl, hb⟩; refine ⟨_, rfl, ?_⟩; replace HB := bs_ hb HB; (try clear hb); (try clear hb2); (try clear hk); (try clear hi); refine hK.out _ _ ⟨(hc_ HB hw170_0), (hc_ HB hw171_0)⟩ (fun hHeld => ?_); clear hK K; refine norm_ (a' := ?_) ?_ ?_; rotate_left; (focus (show Act.put _ (some 25) _ = _; simp only [Act.put, List.setIfInBounds_toArray, List.set_cons_zero, List.set_cons_succ, i64_w, i32_w]; rfl)); refine Pu_ (i := 9) (N := some 26) am6_10 rfl rfl HT_ ?_; refine done_ (done_of HT_.out (by kernel_rfl)) ?_; (try go_wp2)
        go_roundg k1
        case measure => have := HK1.out; omega
        case rel => exact ⟨(wrap64 (x5_1 + 1)), (by first | rfl | (simp; done) | (simp [*]; done)), H', ⟨by have := HK1.out; omega⟩, ⟨(Bb_ HB.out)⟩⟩
       ·replace c8 := Bool.eq_false_iff.mpr c8
        subst c8; rw [if_neg (show ¬ (false = true) by decide)] at H; obtain rfl := Option.some.inj H; (try go_wp2); replace HB := a_ (below_drew1 HB.out); have p170 : 0 ≤ (x5_1 : Int) := of_decide_eq_true Am_; have q170 : x5_1 < (l0.length : Int) := of_decide_eq_true Am_; obtain ⟨ad170, A170_0, c170_0, e170, hx170_0, hl170_0, hi170_0⟩ := at_L10 HR0.out x5_1 p170 q170; have hw170_0 := hx170_0; cases e170; replace hx170_0 := hc_ HB hx170_0; have HR170_0 := a_ hi170_0; have HC170_0 := a_ hl170_0; clear hi170_0 hl170_0; replace p170 := eq_true p170; replace q170 := eq_true q170; have p171 : 0 ≤ (x5_1 : Int) := of_decide_eq_true Am_; have q171 : x5_1 < (l1.length : Int) := of_decide_eq_true Am_; obtain ⟨ad171, A171_0, c171_0, e171, hx171_0, hl171_0, hi171_0⟩ := at_L10 HR1.out x5_1 p171 q171; have hw171_0 := hx171_0; cases e171; replace hx171_0 := hc_ HB hx171_0; have HR171_0 := a_ hi171_0; have HC171_0 := a_ hl171_0; clear hi171_0 hl171_0; replace p171 := eq_true p171; replace q171 := eq_true q171; refine start_ (n := 10) (S := fun w' => w'.cell? (ad170.add (x5_1).toNat) = some (.slice A170_0 (rd_L10 l0 x5_1).length c170_0) ∧ w'.cell? (ad171.add (x5_1).toNat) = some (.slice A171_0 (rd_L10 l1 x5_1).length c171_0)) (ds := []) am6_0 (by kernel_rfl) rfl rfl ⟨(hc_ HB hw170_0), (hc_ HB hw171_0)⟩ (fun hHeld => ?_); refine with_tabW laws_eqFactSS.tab6 laws_eqFactSS.bits6 (fun HT_ HW_ => ?_); generalize wr.drew = w11 at HB HR170_0 HR171_0 hx170_0 hx171_0 hHeld ⊢; refine Pu_ (i := 0) (N := some 17) am6_1 rfl rfl HT_ ?_; refine Pu_ (i := 1) (N := some 18) am6_2 rfl rfl HT_ ?_; refine Pu_ (i := 2) (N := some 19) am6_3 rfl rfl HT_ ?_; refine Pu_ (i := 4) (N := some 21) am6_4 rfl rfl HT_ ?_; refine Pu_ (i := 5) (N := some 22) am6_5 rfl rfl HT_ ?_; refine Pu_ (i := 6) (N := some 23) am6_6 rfl rfl HT_ ?_; refine Ta_ (i := 3) (N := some 20) am6_7 rfl rfl HT_ HW_ hHeld ?_; refine Ta_ (i := 7) (N := some 24) am6_8 rfl rfl HT_ HW_ hHeld ?_; refine one_ (i := 8) (N := some 25) am6_9 rfl rfl (one_of HT_.out (by kernel_rfl)) (by decide) (fun K hK => ?_); refine goes_ Try.func23 (by kernel_rfl) rfl #[.slice A170_0 (rd_L10 l0 x5_1).length c170_0, .slice A171_0 (rd_L10 l1 x5_1).length c171_0] (by rfl) rfl rfl (by (try simp only [List.map_toArray, List.map_cons, List.map_nil]); first | done | rfl | (simp only [List.length_drop, List.length_take]; rfl)) ?_; (with_reducible refine (laws_eqFactS.calls k1 _ _ (rd_L10 l0 x5_1) _ _ (rd_L10 l1 x5_1) false _ ?side1 ?side2 ?side3 ?side4 A7.out).mono ?_); (case side1 => exact Cb_ (Kd.C_below HR170_0.out HB.out)); (case side2 => exact HC170_0.out); (case side3 => exact Cb_ (Kd.C_below HR171_0.out HB.out)); (case side4 => exact HC171_0.out); rintro e w12 ⟨rfl, hb⟩; refine ⟨_, rfl, ?_⟩; replace HB := bs_ hb HB; (try clear hb); (try clear hb2); (try clear hk); (try clear hi); refine hK.out _ _ ⟨(hc_ HB hw170_0), (hc_ HB hw171_0)⟩ (fun hHeld => ?_); clear hK K; refine norm_ (a' := ?_) ?_ ?_; rotate_left; (focus (show Act.put _ (some 25) _ = _; simp only [Act.put, List.setIfInBounds_toArray, List.set_cons_zero, List.set_cons_succ, i64_w, i32_w]; rfl)); refine Pu_ (i := 9) (N := some 26) am6_10 rfl rfl HT_ ?_; refine done_ (done_of HT_.out (by kernel_rfl)) ?_; (try go_wp2); go_ret; exact ⟨by first | rfl | (simp [errW_none, errW_some] <;> rfl) | (simp [*, errW_none, errW_some] <;> rfl), (Bb_ HB.out)⟩
      ·rw [if_neg c6] at H
       exact absurd H (by simp)
     ·rw [if_neg c5] at H
      exact absurd H (by simp)
    ·rw [if_neg c4] at H
     have c4b0 : decide (x5_1 < (l0.length : Int)) = false := decide_eq_false c4; clear c4; obtain rfl := Option.some.inj H; go_wp2; go_ret; exact ⟨by first | rfl | (simp [errW_none, errW_some] <;> rfl) | (simp [*, errW_none, errW_some] <;> rfl), (Bb_ HB.out)⟩
 ·rw [if_neg c3] at H
  have c3b0 : ((l0.length : Int) == (l1.length : Int)) = false := beq_eq_false_iff_ne.mpr c3; have c3b1 : ((l0.length : Int) != (l1.length : Int)) = true := bne_iff_ne.mpr c3; (have c3b2 : (l0.length == l1.length) = false := by first | simpa using c3 | (simp at c3 ⊢; omega)); obtain rfl := Option.some.inj H; go_enter Try.func36, Try.ntmps36; go_wp2; go_ret; exact ⟨by first | rfl | (simp [errW_none, errW_some] <;> rfl) | (simp [*, errW_none, errW_some] <;> rfl), (Bb_ HB.out)⟩


def rdFF (xs : List (List S75)) (i : Int) : List S75 := xs.getD i.toNat []
theorem mfs_lend {W : World} {base : Nat} {ok : Nat → Prop} {g n cap : Nat} {xs : List (List S75)} (h : Kd.S (Kd.slice 75 k75) 37 W base ok (.slice (some ⟨g, 0, none⟩) n cap) xs) (i : Int) (h0 : 0 ≤ i) (h1 : i < n) :
  ∃ ua uc, W.cell? ⟨g, i.toNat, none⟩ = some (.slice ua (rdFF xs i).length uc) ∧ k75.R 75 W base (fun k_ => some k_ = (.slice ua (rdFF xs i).length uc : Value).ownBlock) (.slice ua (rdFF xs i).length uc) (rdFF xs i) ∧
   (∀ k_, some k_ = (.slice ua (rdFF xs i).length uc : Value).ownBlock → ok k_) ∧
   ∀ {w1 : World} {okr : Nat → Prop} {r : List S75}, k75.R 75 w1 base okr (.slice ua (rdFF xs i).length uc) r → Kept W w1 (fun k_ => some k_ = (.slice ua (rdFF xs i).length uc : Value).ownBlock) →
    Kd.S (Kd.slice 75 k75) 37 w1 base ok (.slice (some ⟨g, 0, none⟩) n cap) (xs.set i.toNat r) := by
 obtain ⟨oki, c, hcl, hM, hcc, hfr, hoki, hH⟩ := Kd.S_elem h [] i h0 h1
 obtain ⟨v0, rfl, ge⟩ : ∃ v0, c = [v0] ∧ k75.R 75 W base oki v0 (rdFF xs i) := hM
 obtain ⟨ua, uc, rfl⟩ := Kd.R_slice ge
 have hx := hcc 0 _ rfl
 rw [show i.toNat * (Kd.slice 75 k75).sz + 0 = i.toNat from by rw [show (Kd.slice 75 k75).sz = 1 from rfl]; omega] at hx
 refine ⟨ua, uc, hx, Kd.R_tight rfl ge, fun k_ e_ => (hoki k_ (ge.1 k_ e_.symm)).1, fun {w1 okr r} hr hk => ?_⟩
 refine Kd.H_back (okp := oki) (Kd.H_kept hH hk (fun k _ hn e_ => hn (ge.1 k e_.symm))) ?_ (fun _ hk => hk)
 exact ⟨_, rfl, Kd.R_reok rfl hr (fun k_ e_ => ge.1 k_ e_)⟩
def laws_markFactSS.l0 : Nat → List (List (S75)) → Int → Int → Option (Int × List (List (S75)))
 | 0, _, _, _ => none
 | k + 1, x0, x1, x5 => if x5 < (x0.length : Int) then (if 0 ≤ x5 then ((laws_markFactS.f k (rdFF x0 x5) x1).bind fun t => laws_markFactSS.l0 k (x0.set x5.toNat t.2) t.1 (wrap64 (x5 + 1))) else none) else some (x1, x0)
def laws_markFactSS.f (k : Nat) (l0 : List (List (S75))) (a1 : Int) : Option (Int × List (List (S75))) := laws_markFactSS.l0 k l0 a1 0
theorem laws_markFactSS.mono_l : ∀ k, (∀ y0 y1 y2, LeO (laws_markFactSS.l0 k y0 y1 y2) (laws_markFactSS.l0 (k + 1) y0 y1 y2))
 | 0 => fun _ _ _ r h => by simp [laws_markFactSS.l0] at h
 | k + 1 => by
  have ih0 := laws_markFactSS.mono_l k
  intro y0 y1 y2
  unfold laws_markFactSS.l0
  repeat' first
   | (with_reducible exact ih0 _ _ _)
   | (with_reducible exact laws_markFactS.mono _ _ _)
   | (with_reducible exact LeO.refl _)
   | (with_reducible exact LeO.none _)
   | (with_reducible refine LeO.ite ?_ ?_)
   | (with_reducible refine LeO.bind ?_ (fun _ => ?_))
theorem laws_markFactSS.mono : ∀ a0 a1 k, LeO (laws_markFactSS.f k a0 a1) (laws_markFactSS.f (k + 1) a0 a1) := fun a0 a1 k => laws_markFactSS.mono_l k a0 a1 0
set_option maxHeartbeats 8000000 in
set_option maxRecDepth 100000 in
theorem laws_markFactSS.calls (k : Nat) (P0_ : Nat → Prop) (u9000_ : Value) (l0 : List (List (S75))) (a1 : Int) (r1 : Int) (r2 : List (List (S75))) (w0 w : World) (hB : Below w0.heap.size w0 w) (ho0 : Kd.S (Kd.slice 75 k75) 37 w w0.heap.size P0_ u9000_ l0) (h : laws_markFactSS.f k l0 a1 = some (r1, r2)) :
  Calls Try.prog 37 #[u9000_, .int .i64 a1] w fun e w' => e = .returned (.int .i64 r1) ∧ Kd.S (Kd.slice 75 k75) 37 w' w0.heap.size (fun k_ => P0_ k_) u9000_ r2 ∧ Below w0.heap.size w0 w' ∧ Kept w w' (fun k_ => P0_ k_) := by
 have HO0 := a_ ho0; have HK := a_ (Kept.refl w (fun k_ => P0_ k_)); have HB := a_ hB; clear hB ho0; have H : (laws_markFactSS.l0 k l0 a1 0) = some (r1, r2) := h; clear h; have H' := a_ H; clear H; go_enter Try.func37, Try.ntmps37; go_wp2
 go_loopg [1, 5] k (fun kq v1 v5 w' => ∃ (x0_1 : List (List (S75))) (x1_1 : Int) (x5_1 : Int), v1 = .int .i64 x1_1 ∧ v5 = .int .i64 x5_1 ∧ Aside0 (laws_markFactSS.l0 kq x0_1 x1_1 x5_1 = some (r1, r2)) ∧ Aside0 (kq ≤ k) ∧ Aside0 (Kd.S (Kd.slice 75 k75) 37 w' w0.heap.size P0_ u9000_ x0_1) ∧ Aside0 (Kept w w' (fun k_ => P0_ k_)) ∧ Aside0 (Below w0.heap.size w0 w'))
 case atStart => exact ⟨l0, a1, 0, rfl, rfl, H', ⟨Nat.le_refl _⟩, ⟨HO0.out⟩, ⟨HK.out⟩, ⟨HB.out⟩⟩
 case round =>
  clear H'; obtain ⟨x0_1, x1_1, x5_1, rfl, rfl, HA, HK1, HO_0, HK, HB⟩ := hrel
  cases gk with
  | zero => exact absurd HA.out (by simp [laws_markFactSS.l0])
  | succ k1 =>
   have H := HA.out; clear HA; simp only [laws_markFactSS.l0] at H; obtain ⟨Ao10, co10, eo10⟩ := Kd.S_slice HO_0.out; subst eo10
   by_cases c3 : x5_1 < (x0_1.length : Int)
   ·rw [if_pos c3] at H
    by_cases c4 : 0 ≤ x5_1
    ·rw [if_pos c4] at H
     obtain ⟨t, A1, H⟩ := Option.bind_eq_some_iff.mp H; obtain ⟨t1, t2⟩ := t; dsimp only at H; have A2 := a_ A1; clear A1; have H' := a_ H; clear H; obtain ⟨go5, co5, eo5, gb5, gl5, cl5, HG5⟩ := Kd.S_form HO_0.out (by omega); (first | cases eo5 | (injection eo5 with ea_ en_ ec_; (first | subst ea_ | (injection ea_ with ea_; subst ea_)); subst ec_; clear en_)); clear gb5 gl5 HG5; obtain ⟨ua, uc, hx5_0, hr5, hok5, hback5⟩ := mfs_lend HO_0.out x5_1 c4 c3; have HR5 := a_ hr5; have HOK5 := a_ hok5; have HBK5 := a_ @hback5; clear hr5 hok5 hback5; have p5 := eq_true c4; have q5 := eq_true c3; have p5b : decide (0 ≤ x5_1) = true := decide_eq_true c4; have q5b : decide (x5_1 < (x0_1.length : Int)) = true := decide_eq_true c3; clear c3 c4
     go_wp2_with (first
      | ((with_reducible refine gate_callee (f := 24) rfl ?_); refine goesL_ (some 17) rfl rfl Try.func24 (by kernel_rfl) rfl #[.slice ua (rdFF x0_1 x5_1).length uc, .int .i64 x1_1] rfl (by (try simp only [List.map_toArray, List.map_cons, List.map_nil]); first | done | rfl) ?_; (with_reducible refine (laws_markFactS.calls k1 (fun k_ => some k_ = (.slice ua (rdFF x0_1 x5_1).length uc : Value).ownBlock) (.slice ua (rdFF x0_1 x5_1).length uc) (rdFF x0_1 x5_1) x1_1 t1 t2 w0 _ ?side1 ?side2 A2.out).mono ?_); (case side1 => exact HB.out); (case side2 => exact HR5.out); rintro e w11 ⟨rfl, hy0, hb, hkp⟩; refine ⟨_, rfl, ?_⟩; have n0_ := a_ (HBK5.out hy0 hkp); have n1_ := a_ (HK.out.then_ hkp (fun k_ e_ => .inl (HOK5.out k_ e_))); have n2_ := a_ hb; clear HO_0 HK HB HR5 HOK5 HBK5 hx5_0; have HO_0 := n0_; have HK := n1_; have HB := n2_; clear n0_ n1_ n2_ hb hkp hy0))
     go_roundg k1
     case measure => have := HK1.out; omega
     case rel => exact ⟨_, _, _, (by first | rfl | (simp; done) | (simp [*]; done)), (by first | rfl | (simp; done) | (simp [*]; done)), H', ⟨by have := HK1.out; omega⟩, ⟨HO_0.out⟩, ⟨HK.out⟩, ⟨HB.out⟩⟩
    ·rw [if_neg c4] at H
     exact absurd H (by simp)
   ·rw [if_neg c3] at H
    have c3b0 : decide (x5_1 < (x0_1.length : Int)) = false := decide_eq_false c3; clear c3; simp only [Option.some.injEq, Prod.mk.injEq] at H; obtain ⟨rfl, rfl⟩ := H; go_wp2; go_ret; exact ⟨rfl, HO_0.out, HB.out, HK.out⟩

/-! ### laws_heldFactS: function 25 -/
def laws_heldFactS.l0 : Nat → List (S75) → Int → Int → Option (Int)
 | 0, _, _, _ => none
 | k + 1, x0, x1, x5 => if x5 < (x0.length : Int) then (if 0 ≤ x5 then (if (((rd_T75 x0 x5).f0) != ((Int.tmod x1 3) == 0)) = true then (some (-1)) else (if (((rd_T75 x0 x5).f1) != ((Int.tmod (wrap64 (x1 + 1)) 3) == 0)) = true then (some (-1)) else (if ((rd_T75 x0 x5).f2) = (wrap64 ((wrap64 (x1 + 1)) + 1)) then (laws_heldFactS.l0 k x0 (wrap64 ((wrap64 ((wrap64 (x1 + 1)) + 1)) + 1)) (wrap64 (x5 + 1))) else (some (-1))))) else (none)) else (some x1)
def laws_heldFactS.f (k : Nat) (l0 : List (S75)) (a1 : Int) : Option (Int) := laws_heldFactS.l0 k l0 a1 0
theorem laws_heldFactS.mono_l : ∀ k, (∀ y0 y1 y2, LeO (laws_heldFactS.l0 k y0 y1 y2) (laws_heldFactS.l0 (k + 1) y0 y1 y2))
 | 0 => fun _ _ _ r h => by simp [laws_heldFactS.l0] at h
 | k + 1 => by
  have ih0 := laws_heldFactS.mono_l k
  ·intro y0 y1 y2
   unfold laws_heldFactS.l0
   repeat' first
   | (with_reducible exact ih0 _ _ _)
   | (with_reducible exact LeO.refl _)
   | (with_reducible exact LeO.none _)
   | (with_reducible refine LeO.ite ?_ ?_)
   | (with_reducible refine LeO.bind ?_ (fun _ => ?_))
   | exact ih0 _ _ _
   | exact LeO.none _
   | refine LeO.ite ?_ ?_
   | refine LeO.bind ?_ (fun _ => ?_)
theorem laws_heldFactS.mono : ∀ a0 a1 k, LeO (laws_heldFactS.f k a0 a1) (laws_heldFactS.f (k + 1) a0 a1) := by
 intro a0 a1 k
 have ih0 := laws_heldFactS.mono_l k
 unfold laws_heldFactS.f
 repeat' first
   | (with_reducible exact ih0 _ _ _)
   | (with_reducible exact LeO.refl _)
   | (with_reducible exact LeO.none _)
   | (with_reducible refine LeO.ite ?_ ?_)
   | (with_reducible refine LeO.bind ?_ (fun _ => ?_))
   | exact ih0 _ _ _
   | exact LeO.none _
   | refine LeO.ite ?_ ?_
   | refine LeO.bind ?_ (fun _ => ?_)
set_option maxHeartbeats 8000000 in
set_option maxRecDepth 100000 in
theorem laws_heldFactS.calls (k : Nat) (A0 : Option Addr) (c0 : Nat) (l0 : List (S75)) (a1 : Int) (r : Int) (w : World) (hr0 : Kd.C k75 w A0 l0.length l0) (hc0 : l0.length ≤ c0) (h : laws_heldFactS.f k l0 a1 = some r) :
  Calls Try.prog 25 #[.slice A0 l0.length c0, .int .i64 a1] w fun e w' => e = .returned (.int .i64 r) ∧ Drawn0 w w' := by
 have HR0 := a_ hr0; have HC0 := a_ hc0; clear hr0 hc0; have H : (laws_heldFactS.l0 k l0 a1 0) = some r := h; clear h; have H' := a_ H; clear H; go_enter Try.func25, Try.ntmps25; go_wp2
 go_loopg [1, 5] k (fun kq v1 v5 w' => ∃ (x1_1 : Int) (x5_1 : Int), v1 = .int .i64 x1_1 ∧ v5 = .int .i64 x5_1 ∧ Aside0 (laws_heldFactS.l0 kq l0 x1_1 x5_1 = some r) ∧ Aside0 (kq ≤ k) ∧ Drawn0 w w')
 case atStart => exact ⟨(a1), (0), (by first | rfl | (simp; done) | (simp [*]; done)), (by first | rfl | (simp; done) | (simp [*]; done)), H', ⟨Nat.le_refl _⟩, by repeat (first | exact Drawn0.refl _ | apply Drawn0.step)⟩
 case round =>
  clear H'; (try clear c2); (try clear p2); obtain ⟨x1_1, x5_1, rfl, rfl, HA, HK1, ⟨m1, rfl⟩⟩ := hrel
  cases gk with
  | zero => exact absurd HA.out (by simp [laws_heldFactS.l0])
  | succ k1 =>
   have H := HA.out; clear HA; simp only [laws_heldFactS.l0] at H
   by_cases c3 : x5_1 < (l0.length : Int)
   ·rw [if_pos c3] at H
    have c3b0 : decide (x5_1 < (l0.length : Int)) = true := decide_eq_true c3; clear c3
    by_cases c4 : 0 ≤ x5_1
    ·rw [if_pos c4] at H
     have c4b0 : decide (0 ≤ x5_1) = true := decide_eq_true c4; clear c4
     by_cases c5 : (((rd_T75 l0 x5_1).f0) != ((Int.tmod x1_1 3) == 0)) = true
     ·rw [if_pos c5] at H
      have c5b0 : (((rd_T75 l0 x5_1).f0) != ((Int.tmod x1_1 3) == 0)) = true := c5; (try (have c5b1 : decide (((rd_T75 l0 x5_1).f0) = ((Int.tmod x1_1 3) == 0)) = false := by simpa using c5)); (try (have c5b2 : (((rd_T75 l0 x5_1).f0) == ((Int.tmod x1_1 3) == 0)) = false := by simpa using c5)); (try (have c5b3 : ¬ (((rd_T75 l0 x5_1).f0) = ((Int.tmod x1_1 3) == 0)) := by simpa using c5)); clear c5; obtain rfl := Option.some.inj H; have p173 : 0 ≤ (x5_1 : Int) := of_decide_eq_true Am_; have q173 : x5_1 < (l0.length : Int) := of_decide_eq_true Am_; obtain ⟨ad173, e173, hx173_0, hx173_1, hx173_2⟩ := at_T75 HR0.out x5_1 p173 q173; cases e173; replace p173 := eq_true p173; replace q173 := eq_true q173; go_wp2; go_ret; exact ⟨by first | rfl | (simp; done) | (simp [*]; done), by repeat (first | exact Drawn0.refl _ | apply Drawn0.step)⟩
     ·rw [if_neg c5] at H
      (have c5b0 : (((rd_T75 l0 x5_1).f0) != ((Int.tmod x1_1 3) == 0)) = false := by simpa using c5); (try (have c5b1 : decide (((rd_T75 l0 x5_1).f0) = ((Int.tmod x1_1 3) == 0)) = true := by simpa using c5)); (try (have c5b2 : (((rd_T75 l0 x5_1).f0) == ((Int.tmod x1_1 3) == 0)) = true := by simpa using c5)); clear c5
      by_cases c6 : (((rd_T75 l0 x5_1).f1) != ((Int.tmod (wrap64 (x1_1 + 1)) 3) == 0)) = true
      ·rw [if_pos c6] at H
       have c6b0 : (((rd_T75 l0 x5_1).f1) != ((Int.tmod (wrap64 (x1_1 + 1)) 3) == 0)) = true := c6; (try (have c6b1 : decide (((rd_T75 l0 x5_1).f1) = ((Int.tmod (wrap64 (x1_1 + 1)) 3) == 0)) = false := by simpa using c6)); (try (have c6b2 : (((rd_T75 l0 x5_1).f1) == ((Int.tmod (wrap64 (x1_1 + 1)) 3) == 0)) = false := by simpa using c6)); (try (have c6b3 : ¬ (((rd_T75 l0 x5_1).f1) = ((Int.tmod (wrap64 (x1_1 + 1)) 3) == 0)) := by simpa using c6)); clear c6; obtain rfl := Option.some.inj H; have p173 : 0 ≤ (x5_1 : Int) := of_decide_eq_true Am_; have q173 : x5_1 < (l0.length : Int) := of_decide_eq_true Am_; obtain ⟨ad173, e173, hx173_0, hx173_1, hx173_2⟩ := at_T75 HR0.out x5_1 p173 q173; cases e173; replace p173 := eq_true p173; replace q173 := eq_true q173; have p174 : 0 ≤ (x5_1 : Int) := of_decide_eq_true Am_; have q174 : x5_1 < (l0.length : Int) := of_decide_eq_true Am_; obtain ⟨ad174, e174, hx174_0, hx174_1, hx174_2⟩ := at_T75 HR0.out x5_1 p174 q174; obtain rfl : ad173 = ad174 := (by injection e174); replace p174 := eq_true p174; replace q174 := eq_true q174; go_wp2; go_ret; exact ⟨by first | rfl | (simp; done) | (simp [*]; done), by repeat (first | exact Drawn0.refl _ | apply Drawn0.step)⟩
      ·rw [if_neg c6] at H
       (have c6b0 : (((rd_T75 l0 x5_1).f1) != ((Int.tmod (wrap64 (x1_1 + 1)) 3) == 0)) = false := by simpa using c6); (try (have c6b1 : decide (((rd_T75 l0 x5_1).f1) = ((Int.tmod (wrap64 (x1_1 + 1)) 3) == 0)) = true := by simpa using c6)); (try (have c6b2 : (((rd_T75 l0 x5_1).f1) == ((Int.tmod (wrap64 (x1_1 + 1)) 3) == 0)) = true := by simpa using c6)); clear c6
       by_cases c7 : ((rd_T75 l0 x5_1).f2) = (wrap64 ((wrap64 (x1_1 + 1)) + 1))
       ·rw [if_pos c7] at H
        have c7b0 : (((rd_T75 l0 x5_1).f2) == (wrap64 ((wrap64 (x1_1 + 1)) + 1))) = true := beq_iff_eq.mpr c7; have c7b1 : (((rd_T75 l0 x5_1).f2) != (wrap64 ((wrap64 (x1_1 + 1)) + 1))) = false := bne_eq_false_iff_eq.mpr c7; clear c7; have H' := a_ H; clear H; have p173 : 0 ≤ (x5_1 : Int) := of_decide_eq_true Am_; have q173 : x5_1 < (l0.length : Int) := of_decide_eq_true Am_; obtain ⟨ad173, e173, hx173_0, hx173_1, hx173_2⟩ := at_T75 HR0.out x5_1 p173 q173; cases e173; replace p173 := eq_true p173; replace q173 := eq_true q173; have p174 : 0 ≤ (x5_1 : Int) := of_decide_eq_true Am_; have q174 : x5_1 < (l0.length : Int) := of_decide_eq_true Am_; obtain ⟨ad174, e174, hx174_0, hx174_1, hx174_2⟩ := at_T75 HR0.out x5_1 p174 q174; obtain rfl : ad173 = ad174 := (by injection e174); replace p174 := eq_true p174; replace q174 := eq_true q174; have p175 : 0 ≤ (x5_1 : Int) := of_decide_eq_true Am_; have q175 : x5_1 < (l0.length : Int) := of_decide_eq_true Am_; obtain ⟨ad175, e175, hx175_0, hx175_1, hx175_2⟩ := at_T75 HR0.out x5_1 p175 q175; obtain rfl : ad173 = ad175 := (by injection e175); replace p175 := eq_true p175; replace q175 := eq_true q175; go_wp2
        go_roundg k1
        case measure => have := HK1.out; omega
        case rel => exact ⟨(wrap64 ((wrap64 ((wrap64 (x1_1 + 1)) + 1)) + 1)), (wrap64 (x5_1 + 1)), (by first | rfl | (simp; done) | (simp [*]; done)), (by first | rfl | (simp; done) | (simp [*]; done)), H', ⟨by have := HK1.out; omega⟩, by repeat (first | exact Drawn0.refl _ | apply Drawn0.step)⟩
       ·rw [if_neg c7] at H
        have c7b0 : (((rd_T75 l0 x5_1).f2) == (wrap64 ((wrap64 (x1_1 + 1)) + 1))) = false := beq_eq_false_iff_ne.mpr c7; have c7b1 : (((rd_T75 l0 x5_1).f2) != (wrap64 ((wrap64 (x1_1 + 1)) + 1))) = true := bne_iff_ne.mpr c7; obtain rfl := Option.some.inj H; have p173 : 0 ≤ (x5_1 : Int) := of_decide_eq_true Am_; have q173 : x5_1 < (l0.length : Int) := of_decide_eq_true Am_; obtain ⟨ad173, e173, hx173_0, hx173_1, hx173_2⟩ := at_T75 HR0.out x5_1 p173 q173; cases e173; replace p173 := eq_true p173; replace q173 := eq_true q173; have p174 : 0 ≤ (x5_1 : Int) := of_decide_eq_true Am_; have q174 : x5_1 < (l0.length : Int) := of_decide_eq_true Am_; obtain ⟨ad174, e174, hx174_0, hx174_1, hx174_2⟩ := at_T75 HR0.out x5_1 p174 q174; obtain rfl : ad173 = ad174 := (by injection e174); replace p174 := eq_true p174; replace q174 := eq_true q174; have p175 : 0 ≤ (x5_1 : Int) := of_decide_eq_true Am_; have q175 : x5_1 < (l0.length : Int) := of_decide_eq_true Am_; obtain ⟨ad175, e175, hx175_0, hx175_1, hx175_2⟩ := at_T75 HR0.out x5_1 p175 q175; obtain rfl : ad173 = ad175 := (by injection e175); replace p175 := eq_true p175; replace q175 := eq_true q175; go_wp2; go_ret; exact ⟨by first | rfl | (simp; done) | (simp [*]; done), by repeat (first | exact Drawn0.refl _ | apply Drawn0.step)⟩
    ·rw [if_neg c4] at H
     exact absurd H (by simp)
   ·rw [if_neg c3] at H
    have c3b0 : decide (x5_1 < (l0.length : Int)) = false := decide_eq_false c3; clear c3; obtain rfl := Option.some.inj H; go_wp2; go_ret; exact ⟨by first | rfl | (simp; done) | (simp [*]; done), by repeat (first | exact Drawn0.refl _ | apply Drawn0.step)⟩

/-! ### laws_heldFactSS: function 38 -/
def laws_heldFactSS.l0 : Nat → List (List (S75)) → Int → Int → Option (Int)
 | 0, _, _, _ => none
 | k + 1, x0, x1, x5 => if x5 < (x0.length : Int) then (if 0 ≤ x5 then ((laws_heldFactS.f k (rd_L10 x0 x5) x1).bind fun t177 => (if t177 < 0 then (some (-1)) else (laws_heldFactSS.l0 k x0 t177 (wrap64 (x5 + 1))))) else (none)) else (some x1)
def laws_heldFactSS.f (k : Nat) (l0 : List (List (S75))) (a1 : Int) : Option (Int) := laws_heldFactSS.l0 k l0 a1 0
theorem laws_heldFactSS.mono_l : ∀ k, (∀ y0 y1 y2, LeO (laws_heldFactSS.l0 k y0 y1 y2) (laws_heldFactSS.l0 (k + 1) y0 y1 y2))
 | 0 => fun _ _ _ r h => by simp [laws_heldFactSS.l0] at h
 | k + 1 => by
  have ih0 := laws_heldFactSS.mono_l k
  ·intro y0 y1 y2
   unfold laws_heldFactSS.l0
   repeat' first
   | (with_reducible exact ih0 _ _ _)
   | (with_reducible exact laws_heldFactS.mono _ _ _)
   | (with_reducible exact LeO.refl _)
   | (with_reducible exact LeO.none _)
   | (with_reducible refine LeO.ite ?_ ?_)
   | (with_reducible refine LeO.bind ?_ (fun _ => ?_))
   | exact ih0 _ _ _
   | exact laws_heldFactS.mono _ _ _
   | exact LeO.none _
   | refine LeO.ite ?_ ?_
   | refine LeO.bind ?_ (fun _ => ?_)
theorem laws_heldFactSS.mono : ∀ a0 a1 k, LeO (laws_heldFactSS.f k a0 a1) (laws_heldFactSS.f (k + 1) a0 a1) := by
 intro a0 a1 k
 have ih0 := laws_heldFactSS.mono_l k
 unfold laws_heldFactSS.f
 repeat' first
   | (with_reducible exact ih0 _ _ _)
   | (with_reducible exact laws_heldFactS.mono _ _ _)
   | (with_reducible exact LeO.refl _)
   | (with_reducible exact LeO.none _)
   | (with_reducible refine LeO.ite ?_ ?_)
   | (with_reducible refine LeO.bind ?_ (fun _ => ?_))
   | exact ih0 _ _ _
   | exact laws_heldFactS.mono _ _ _
   | exact LeO.none _
   | refine LeO.ite ?_ ?_
   | refine LeO.bind ?_ (fun _ => ?_)
set_option maxHeartbeats 8000000 in
set_option maxRecDepth 100000 in
theorem laws_heldFactSS.calls (k : Nat) (A0 : Option Addr) (c0 : Nat) (l0 : List (List (S75))) (a1 : Int) (r : Int) (w : World) (hr0 : Kd.C (Kd.slice 75 k75) w A0 l0.length l0) (hc0 : l0.length ≤ c0) (h : laws_heldFactSS.f k l0 a1 = some r) :
  Calls Try.prog 38 #[.slice A0 l0.length c0, .int .i64 a1] w fun e w' => e = .returned (.int .i64 r) ∧ Drawn0 w w' := by
 have HR0 := a_ hr0; have HC0 := a_ hc0; clear hr0 hc0; have H : (laws_heldFactSS.l0 k l0 a1 0) = some r := h; clear h; have H' := a_ H; clear H; go_enter Try.func38, Try.ntmps38; go_wp2
 go_loopg [1, 5] k (fun kq v1 v5 w' => ∃ (x1_1 : Int) (x5_1 : Int), v1 = .int .i64 x1_1 ∧ v5 = .int .i64 x5_1 ∧ Aside0 (laws_heldFactSS.l0 kq l0 x1_1 x5_1 = some r) ∧ Aside0 (kq ≤ k) ∧ Drawn0 w w')
 case atStart => exact ⟨(a1), (0), (by first | rfl | (simp; done) | (simp [*]; done)), (by first | rfl | (simp; done) | (simp [*]; done)), H', ⟨Nat.le_refl _⟩, by repeat (first | exact Drawn0.refl _ | apply Drawn0.step)⟩
 case round =>
  clear H'; (try clear p2); obtain ⟨x1_1, x5_1, rfl, rfl, HA, HK1, ⟨m1, rfl⟩⟩ := hrel
  cases gk with
  | zero => exact absurd HA.out (by simp [laws_heldFactSS.l0])
  | succ k1 =>
   have H := HA.out; clear HA; simp only [laws_heldFactSS.l0] at H
   by_cases c3 : x5_1 < (l0.length : Int)
   ·rw [if_pos c3] at H
    have c3b0 : decide (x5_1 < (l0.length : Int)) = true := decide_eq_true c3; clear c3
    by_cases c4 : 0 ≤ x5_1
    ·rw [if_pos c4] at H
     have c4b0 : decide (0 ≤ x5_1) = true := decide_eq_true c4; clear c4; replace H := Option.bind_eq_some_iff.mp H; obtain ⟨t177, A50, H⟩ := H; (try dsimp only at H); have A5 := a_ A50; clear A50
     by_cases c6 : t177 < 0
     ·rw [if_pos c6] at H
      have c6b0 : decide (t177 < 0) = true := decide_eq_true c6; clear c6; obtain rfl := Option.some.inj H; have p176 : 0 ≤ (x5_1 : Int) := of_decide_eq_true Am_; have q176 : x5_1 < (l0.length : Int) := of_decide_eq_true Am_; obtain ⟨ad176, A176_0, c176_0, e176, hx176_0, hl176_0, hi176_0⟩ := at_L10 HR0.out x5_1 p176 q176; cases e176; have HR176_0 := a_ hi176_0; have HC176_0 := a_ hl176_0; clear hi176_0 hl176_0; replace p176 := eq_true p176; replace q176 := eq_true q176; go_wp2_with (first | ((with_reducible refine gate_callee (f := 25) rfl ?_); refine goesL_ (some 17) rfl rfl Try.func25 (by kernel_rfl) rfl #[.slice A176_0 (rd_L10 l0 x5_1).length c176_0, .int .i64 x1_1] rfl (by (try simp only [List.map_toArray, List.map_cons, List.map_nil]); first | done | rfl | (simp only [List.length_drop, List.length_take]; rfl)) ?_; (with_reducible refine (laws_heldFactS.calls k1 _ _ (rd_L10 l0 x5_1) x1_1 t177 _ ?side1 ?side2 A5.out).mono ?_); (case side1 => exact Cb_ HR176_0.out); (case side2 => exact HC176_0.out); rintro e w' ⟨rfl, ⟨nd, rfl⟩⟩; refine ⟨_, rfl, ?_⟩)); go_ret; exact ⟨by first | rfl | (simp; done) | (simp [*]; done), by repeat (first | exact Drawn0.refl _ | apply Drawn0.step)⟩
     ·rw [if_neg c6] at H
      have c6b0 : decide (t177 < 0) = false := decide_eq_false c6; clear c6; have H' := a_ H; clear H; have p176 : 0 ≤ (x5_1 : Int) := of_decide_eq_true Am_; have q176 : x5_1 < (l0.length : Int) := of_decide_eq_true Am_; obtain ⟨ad176, A176_0, c176_0, e176, hx176_0, hl176_0, hi176_0⟩ := at_L10 HR0.out x5_1 p176 q176; cases e176; have HR176_0 := a_ hi176_0; have HC176_0 := a_ hl176_0; clear hi176_0 hl176_0; replace p176 := eq_true p176; replace q176 := eq_true q176; go_wp2_with (first | ((with_reducible refine gate_callee (f := 25) rfl ?_); refine goesL_ (some 17) rfl rfl Try.func25 (by kernel_rfl) rfl #[.slice A176_0 (rd_L10 l0 x5_1).length c176_0, .int .i64 x1_1] rfl (by (try simp only [List.map_toArray, List.map_cons, List.map_nil]); first | done | rfl | (simp only [List.length_drop, List.length_take]; rfl)) ?_; (with_reducible refine (laws_heldFactS.calls k1 _ _ (rd_L10 l0 x5_1) x1_1 t177 _ ?side1 ?side2 A5.out).mono ?_); (case side1 => exact Cb_ HR176_0.out); (case side2 => exact HC176_0.out); rintro e w' ⟨rfl, ⟨nd, rfl⟩⟩; refine ⟨_, rfl, ?_⟩))
      go_roundg k1
      case measure => have := HK1.out; omega
      case rel => exact ⟨(t177), (wrap64 (x5_1 + 1)), (by first | rfl | (simp; done) | (simp [*]; done)), (by first | rfl | (simp; done) | (simp [*]; done)), H', ⟨by have := HK1.out; omega⟩, by repeat (first | exact Drawn0.refl _ | apply Drawn0.step)⟩
    ·rw [if_neg c4] at H
     exact absurd H (by simp)
   ·rw [if_neg c3] at H
    have c3b0 : decide (x5_1 < (l0.length : Int)) = false := decide_eq_false c3; clear c3; obtain rfl := Option.some.inj H; go_wp2; go_ret; exact ⟨by first | rfl | (simp; done) | (simp [*]; done), by repeat (first | exact Drawn0.refl _ | apply Drawn0.step)⟩

/-! ### spec_l1In: function 59 -/
def spec_l1In.f (a0 : Int) (a1 : Int) (a2 : Int) : Option (Bool) := if a0 ≥ a1 then (some (decide (a0 ≤ a2))) else (some false)
set_option maxHeartbeats 8000000 in
set_option maxRecDepth 100000 in
theorem spec_l1In.calls (a0 : Int) (a1 : Int) (a2 : Int) (r : Bool) (w : World) (h : spec_l1In.f a0 a1 a2 = some r) :
  Calls Try.prog 59 #[.int .i64 a0, .int .i64 a1, .int .i64 a2] w fun e w' => e = .returned (.bool r) ∧ Drawn0 w w' := by
 have H : (if a0 ≥ a1 then (some (decide (a0 ≤ a2))) else (some false)) = some r := h; clear h
 by_cases c4 : a0 ≥ a1
 ·rw [if_pos c4] at H
  have c4b0 : decide (a1 ≤ a0) = true := decide_eq_true c4; clear c4; obtain rfl := Option.some.inj H; go_enter Try.func59, Try.ntmps59; go_wp2; go_ret; exact ⟨by first | rfl | (simp; done) | (simp [*]; done), by repeat (first | exact Drawn0.refl _ | apply Drawn0.step)⟩
 ·rw [if_neg c4] at H
  have c4b0 : decide (a1 ≤ a0) = false := decide_eq_false c4; clear c4; obtain rfl := Option.some.inj H; go_enter Try.func59, Try.ntmps59; go_wp2; go_ret; exact ⟨by first | rfl | (simp; done) | (simp [*]; done), by repeat (first | exact Drawn0.refl _ | apply Drawn0.step)⟩

/-! ### spec_l1Word: function 70 -/
def spec_l1Word.f (a0 : Int) : Option (Bool) := (spec_l1In.f a0 0 65535).bind fun t178 => (some t178)
set_option maxHeartbeats 8000000 in
set_option maxRecDepth 100000 in
theorem spec_l1Word.calls (a0 : Int) (r : Bool) (w : World) (h : spec_l1Word.f a0 = some r) :
  Calls Try.prog 70 #[.int .i64 a0] w fun e w' => e = .returned (.bool r) ∧ Drawn0 w w' := by
 have H : ((spec_l1In.f a0 0 65535).bind fun t178 => (some t178)) = some r := h; clear h; replace H := Option.bind_eq_some_iff.mp H; obtain ⟨t178, A20, H⟩ := H; (try dsimp only at H); have A2 := a_ A20; clear A20; obtain rfl := Option.some.inj H; go_enter Try.func70, Try.ntmps70; go_wp2_with (first | ((with_reducible refine gate_callee (f := 59) rfl ?_); refine goesL_ (some 4) rfl rfl Try.func59 (by kernel_rfl) rfl #[.int .i64 a0, .int .i64 0, .int .i64 65535] rfl (by (try simp only [List.map_toArray, List.map_cons, List.map_nil]); first | done | rfl | (simp only [List.length_drop, List.length_take]; rfl)) ?_; (with_reducible refine (spec_l1In.calls a0 0 65535 t178 _ A2.out).mono ?_); rintro e w' ⟨rfl, ⟨nd, rfl⟩⟩; refine ⟨_, rfl, ?_⟩)); go_ret; exact ⟨by first | rfl | (simp; done) | (simp [*]; done), by repeat (first | exact Drawn0.refl _ | apply Drawn0.step)⟩

end Go.Proofs.Ytpanbicgnmjjiaa.XFnExactWayFacts
