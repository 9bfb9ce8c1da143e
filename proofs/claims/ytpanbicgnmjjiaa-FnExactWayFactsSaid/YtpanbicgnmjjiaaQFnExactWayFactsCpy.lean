/- The built-in copy over a whole row of one's own, elements of whatever size; rows kept apart by when they were made. No function of the program in sight. -/
import Derived.Test.YtpanbicgnmjjiaaQFnExactWayFactsW
import Derived.Laws.CopyRow
namespace Go.Proofs.YtpanbicgnmjjiaaCpy
open Go Go.RowKit Go.Proofs.YtpanbicgnmjjiaaW.PrintWords Go.Proofs.YtpanbicgnmjjiaaW.PrintLast Go.Proofs.YtpanbicgnmjjiaaW.PrintMore
set_option linter.unusedVariables false
set_option linter.unusedSimpArgs false
theorem run_copy_rowN {P : Program} (w : World) (dT sT ty elem : TypeId) (g dLen dCap sz : Nat) (a : Addr) (sLen sCap : Nat) (cur : Array Value) (t : TypeId) (cs : List Value)
    (hu : P.underlying dT = some (.slice elem)) (hs : (P.info? elem).map (·.size) = some sz)
    (hg : w.heap[g]? = some (.cells cur t (0, 0))) (hn : cs.length = Nat.min sLen dLen * sz)
    (hsrc : ∀ j v, cs[j]? = some v → w.cell? (a.add j) = some v) (hfit : cs.length ≤ cur.size) (h1 : ∀ v ∈ cs, v.oneCell' = true) :
    (Builtin.copy_ #[dT, sT] ty #[.slice (some ⟨g, 0, none⟩) dLen dCap, .slice (some a) sLen sCap]).run P w =
      .ok (goInt (Nat.min sLen dLen)) (w.setRow g (cs ++ cur.toList.drop cs.length).toArray) := by
  have hl := run_loadCells_list (P := P) w a cs hsrc
  have hst := run_storeCells_at P g 0 t cs 0 cur w hg (by simpa using hfit) h1
  cases hq : P.info? elem with
  | none => simp [hq] at hs
  | some i =>
    have hi : i.size = sz := by simpa [hq] using hs
    simp [Builtin.copy_, run_underlying hu, Builtin.lenOf, Builtin.firstCells, sizeOf, typeInfo, hq, hi, ← hn, hl, hst]
section
variable {P : Program} {ops : Array Oper} {rest : List Oper} {o : Oper} {a : Act} {Q : Exit → Act → World → Prop} {α : Type}
/-- copy(v, ys), v a row of one's own as long as ys: it reads as ys then. -/
theorem R_copy_all (d : Kd α) {Rr : α → List Value → Prop} {W : World} (base : Nat) (hgd : o.guard = none) (s x : Operand) (t t' e : TypeId)
    (ho : o.op = .call { callee := .builtin .copy, args := #[s, x], argTypes := #[t, t'] }) (ht : P.underlying t = some (.slice e)) (hinfo : (P.info? e).map (·.size) = some d.sz) (hs0 : 0 < d.sz)
    (v : Value) (xs ys : List α) (A : Option Addr) (m c : Nat) (ok : Nat → Prop) (hs : a.eval s = v) (hx : a.eval x = .slice A m c)
    (HO : d.R e W base ok v xs) (HR : ReadsRow Rr d.sz W A m ys) (hKM : ∀ (W' : World) (b : Nat) (okp : Nat → Prop) x cs, Rr x cs → d.M W' b okp x cs) (hlen : ys.length = xs.length)
    (h : ∀ w1, d.R e w1 base ok v ys → W.grownBy w1 v.ownBlock → wpList P ops Q rest (a.put o.dst (goInt m)) w1) :
    wpList P ops Q (o :: rest) a W := by
  have hm : ys.length = m := HR.1
  obtain ⟨hok, inner, hown, hr⟩ := HO
  have fin : ∀ w1, (Builtin.copy_ #[t, t'] o.type #[v, .slice A m c]).run P W = .ok (goInt m) w1 → d.R e w1 base ok v ys → W.grownBy w1 v.ownBlock → wpList P ops Q (o :: rest) a W := by
    intro w1 hr hrow hg
    refine wpList_plain hgd fun K hK => ?_
    unfold Oper.wp execOp
    simp only [ho, resolve, invoke, builtin, Sem.run_bind, Sem.run_pure, Result.andThen_ok, List.map_toArray, List.map_cons, List.map_nil, hs, hx, hr]
    exact hK _ _ (h w1 hrow hg)
  obtain ⟨i0, hi, hsz⟩ := Option.map_eq_some_iff.1 hinfo
  rcases Nat.eq_zero_or_pos m with h0 | hp
  · subst h0
    obtain rfl : ys = [] := List.eq_nil_of_length_eq_zero hm
    obtain rfl : xs = [] := List.eq_nil_of_length_eq_zero (by simpa using hlen.symm)
    obtain ⟨A', c', hv⟩ := own_slice hown
    refine fin W ?_ ⟨hok, inner, hown, hr⟩ (World.grownBy.refl W _)
    have hl : ∀ (x : Addr), (loadCells x 0).run P W = .ok #[] W := fun x => by simpa using run_loadCells_list (P := P) W x [] (by simp)
    rw [hv]
    have h00 : Nat.min 0 ([] : List α).length = 0 := by simp
    cases A' <;> cases A <;> simp [Builtin.copy_, run_underlying ht, Builtin.lenOf, Builtin.firstCells, sizeOf, typeInfo, hi, h00, storeCells, hl]
  · obtain ⟨ad, hA, hc⟩ := HR.2.2 hp
    subst hA
    obtain ⟨news, hnr, hnc⟩ := ReadsRow.inner_ HR
    have hnl : news.length = m * d.sz := by rw [hnr.1, hm]
    have hnM : ∀ (W' : World) (b : Nat) (okp : Nat → Prop), Reps (d.M W' b okp) d.sz ys news := fun W' b okp => hnr.imp_ (fun p c hp => hKM W' b okp p c hp)
    have hone : ∀ u ∈ news, u.oneCell' = true := by
      intro u hu
      obtain ⟨q, hq, rfl⟩ := List.mem_iff_getElem.1 hu
      have hql : q / d.sz < ys.length := by
        rw [Nat.div_lt_iff_lt_mul hs0, ← hnr.1]
        exact hq
      have hc := (hnM W 0 (fun _ => True)).2 (q / d.sz) _ (List.getElem?_eq_getElem hql)
      refine d.K_one (d.K_of_M hc) _ ?_
      rw [List.mem_iff_getElem?]
      refine ⟨q % d.sz, ?_⟩
      rw [List.getElem?_take, if_pos (Nat.mod_lt _ hs0), List.getElem?_drop, Nat.mul_comm, Nat.div_add_mod, List.getElem?_eq_getElem hq]
    rcases hown.2 with ⟨_, hx0⟩ | ⟨g, cap, cur, hv, hb, hh, hnc', hcm, hcs, htake⟩
    · omega
    subst hv
    have hmin : Nat.min m xs.length = m := Nat.min_eq_left (by omega)
    have hle : m * d.sz ≤ cap * d.sz := Nat.mul_le_mul_right _ (by omega)
    have hrun := run_copy_rowN (P := P) W t t' o.type e g xs.length cap d.sz ad m c cur e news ht hinfo hh (by rw [hmin, hnl]) hnc (by rw [hnl, hcs]; exact hle) hone
    rw [hmin] at hrun
    have hh2 := setRow_heap W g cur (news ++ cur.toList.drop news.length).toArray e (0, 0) hh
    have hsize : (W.setRow g (news ++ cur.toList.drop news.length).toArray).heap.size = W.heap.size := by simp [World.setRow]
    refine fin _ hrun ⟨hok, news, ⟨by rw [hnl, hm], .inr ⟨g, cap, _, by rw [hm, show xs.length = m by omega], hb, hh2, by omega, hcm, ?_, ?_⟩⟩, hnM _ _ _⟩ ⟨rfl, rfl, rfl, by rw [hsize]; exact Nat.le_refl _, fun k _ hk => ?_⟩
    · simp only [List.size_toArray, List.length_append, List.length_drop, Array.length_toList, hnl, hcs]
      omega
    · rw [hm, ← hnl]
      simp
    · refine setRow_other W g k _ (fun he => hk ?_)
      subst he
      rfl
end
/-- Blocks made within a span of the heap's growth. -/
def Iv (a b : Nat) (k : Nat) : Prop := a ≤ k ∧ k < b
theorem Iv.far {a b c d : Nat} (h : b ≤ c ∨ d ≤ a) : ∀ k, Iv a b k → ¬ Iv c d k := fun k h1 h2 => by
  unfold Iv at h1 h2
  omega
theorem S_iv {α : Type} {d : Kd α} {e : Nat} {w W W' : World} {v : Value} {xs : List α} (h : Kd.S d e W' W.heap.size (fun _ => True) v xs) (hle : w.heap.size ≤ W.heap.size) : Kd.S d e W' w.heap.size (Iv W.heap.size W'.heap.size) v xs :=
  Kd.S_lower (Kd.S_mono (Kd.S_bound h) (fun k hk => ⟨hk.2.1, hk.2.2.1⟩)) hle
theorem R_iv {α : Type} {d : Kd α} {e : Nat} {w W W' : World} {v : Value} {xs : List α} (h : d.R e W' W.heap.size (fun _ => True) v xs) (hle : w.heap.size ≤ W.heap.size) : d.R e W' w.heap.size (Iv W.heap.size W'.heap.size) v xs :=
  Kd.R_lower (Kd.R_mono (Kd.R_bound h) (fun k hk => ⟨hk.2.1, hk.2.2.1⟩)) hle
end Go.Proofs.YtpanbicgnmjjiaaCpy
