/- How arguments read as data (the row's reading) tell what the printed contracts ask (kinds): numbers, bools, strings, slices of any kind, structs of any kinds. No function of the program in sight. -/
import Derived.DataReads
import Derived.DataElems
import Derived.ChangeArms
import Derived.ChangeShapes
import Derived.RowKit3
import Derived.Deep.Slices
import Derived.Test.YtoggmpihojkbfaaQFnCodeW
set_option linter.unusedVariables false
namespace Go.Proofs.YtoggmpihojkbfaaTrod
open Go Go.RowKit Go.Proofs.YtoggmpihojkbfaaW.PrintWords

/-- Type t reads by kind d, and what is read is ok. -/
structure Rd {α : Type} (P : Program) (t : TypeId) (d : Kd α) (ok : α → Prop) : Prop where
  sz : P.cellsOf t = d.sz
  one : ∀ {H : Type} {enc : TypeId × Value → H} {w : World} {base : Nat} {spare : Nat → Bool} {held : Bool} {fuel : Nat} {cs : List Value} {x : DataW H × List MemPlace},
    DataW.trod enc P w base spare held fuel t cs = some x → ∃ a, d.K w a cs ∧ ok a

theorem Rd.int {P : Program} {t : TypeId} {k : IntKind} (hu : P.underlying t = some (.int k)) (hc : P.cellsOf t = 1) : Rd P t (Kd.int k) (fun n => (Lit.int k n).wf = true) where
  sz := hc
  one := fun h => by
    obtain ⟨n, rfl, _, hw⟩ := DataW.trod_int hu h
    exact ⟨n, rfl, hw⟩
theorem Rd.bool {P : Program} {t : TypeId} (hu : P.underlying t = some .bool) (hc : P.cellsOf t = 1) : Rd P t Kd.bool (fun _ => True) where
  sz := hc
  one := fun h => by
    obtain ⟨b, rfl, _⟩ := DataW.trod_bool hu h
    exact ⟨b, rfl, trivial⟩

theorem list_of {α : Type} {Q : Nat → α → Prop} (n : Nat) (h : ∀ j, j < n → ∃ a, Q j a) : ∃ l : List α, l.length = n ∧ ∀ j a, l[j]? = some a → Q j a := by
  induction n with
  | zero => exact ⟨[], rfl, fun j a h => by simp at h⟩
  | succ n ih =>
    obtain ⟨l, hl, hq⟩ := ih (fun j hj => h j (by omega))
    obtain ⟨a, ha⟩ := h n (by omega)
    refine ⟨l ++ [a], by simp [hl], fun j b hb => ?_⟩
    by_cases hj : j < l.length
    · rw [List.getElem?_append_left hj] at hb
      exact hq j b hb
    · rw [List.getElem?_append_right (by omega)] at hb
      have : j - l.length = 0 := by
        by_cases e : j - l.length = 0
        · exact e
        · rw [List.getElem?_eq_none (by simp; omega)] at hb
          exact absurd hb (by simp)
      rw [this] at hb
      obtain rfl : a = b := by simpa using hb
      have : j = n := by omega
      subst this
      exact ha

theorem Rd.slice {α : Type} {P : Program} {t e : TypeId} {d : Kd α} {ok : α → Prop} (hu : P.underlying t = some (.slice e)) (hc : P.cellsOf t = 1) (he : Rd P e d ok) :
    Rd P t (Kd.slice e d) (fun l => ∀ a, a ∈ l → ok a) where
  sz := hc
  one := @fun H enc w base spare held fuel cs x h => by
    rcases Go.Deep.open_slice hu h with ⟨rfl, _⟩ | ⟨a, len, cap, m, n, D, Pl, rfl, _, hl, hm, hmd, _, hel⟩
    · exact ⟨[], ⟨none, 0, rfl, Nat.le_refl _, rfl, by simp, fun h0 => absurd h0 (by simp)⟩, fun a ha => by simp at ha⟩
    · have hlm : len ≤ m := by rw [hmd]; split <;> omega
      obtain ⟨l, hll, hq⟩ := list_of (Q := fun j (b : α) => ok b ∧ ∃ c, c.length = d.sz ∧ d.K w b c ∧ ∀ (i : Nat) u, c[i]? = some u → w.cell? (a.add (j * d.sz + i)) = some u) len (fun j hj => by
        obtain ⟨cs', h1, h2⟩ := hel j (by omega)
        obtain ⟨b, hk, hok⟩ := he.one h2
        refine ⟨b, hok, cs', d.K_len hk, hk, fun i u hi => ?_⟩
        obtain ⟨_, hlen, hcell⟩ := World.cells?_some h1
        have hi' : i < cs'.length := (List.getElem?_eq_some_iff.1 hi).1
        have := hcell i (by omega)
        rw [Go.Deep.add_add, he.sz] at this
        rw [this, hi])
      refine ⟨l, ⟨some a, cap, by rw [hll], by omega, hll ▸ rfl, by rw [hll]; unfold maxLen at hm; omega, fun _ => ⟨a, rfl, fun j b hb => (hq j b hb).2⟩⟩, fun b hb => ?_⟩
      obtain ⟨j, hj⟩ := List.mem_iff_getElem?.1 hb
      exact (hq j b hj).1

/-- Fields in line, from cell off on, read by a kind of pairs. -/
structure RdF {α : Type} (P : Program) (fs : List Field) (off : Nat) (d : Kd α) (ok : α → Prop) : Prop where
  get : ∀ {H : Type} {enc : TypeId × Value → H} {w : World} {base : Nat} {spare : Nat → Bool} {held : Bool} {n : Nat} {cs : List Value},
    cs.length = off + d.sz → (∀ f ∈ fs, ∃ y, DataW.trod enc P w base spare held n f.type ((cs.drop f.offset).take (P.cellsOf f.type)) = some y) → ∃ a, d.K w a (cs.drop off) ∧ ok a
theorem RdF.last {α : Type} {P : Program} {f : Field} {off : Nat} {d : Kd α} {ok : α → Prop} (ho : f.offset = off) (h : Rd P f.type d ok) : RdF P [f] off d ok := ⟨by
  intro H enc w base spare held n cs hl hx
  obtain ⟨y, hy⟩ := hx f (by simp)
  obtain ⟨a, hk, hok⟩ := h.one hy
  rw [ho, h.sz, List.take_of_length_le (by rw [List.length_drop]; omega)] at hk
  exact ⟨a, hk, hok⟩⟩
theorem RdF.cons {α β : Type} {P : Program} {f : Field} {fs : List Field} {off : Nat} {d : Kd α} {d' : Kd β} {ok : α → Prop} {ok' : β → Prop} (ho : f.offset = off) (h : Rd P f.type d ok) (hs : RdF P fs (off + d.sz) d' ok') :
    RdF P (f :: fs) off (Kd.pair d d') (fun x => ok x.1 ∧ ok' x.2) := ⟨by
  intro H enc w base spare held n cs hl hx
  have hl' : cs.length = off + d.sz + d'.sz := by rw [hl]; show off + (d.sz + d'.sz) = _; omega
  obtain ⟨y, hy⟩ := hx f (by simp)
  obtain ⟨a, hk, hok⟩ := h.one hy
  obtain ⟨b, hk', hok'⟩ := hs.get hl' (fun f' hf' => hx f' (by simp [hf']))
  rw [ho, h.sz] at hk
  refine ⟨(a, b), ⟨(cs.drop off).take d.sz, cs.drop (off + d.sz), ?_, hk, hk'⟩, hok, hok'⟩
  rw [show cs.drop (off + d.sz) = (cs.drop off).drop d.sz from by rw [List.drop_drop], List.take_append_drop]⟩
theorem Rd.struct {α β : Type} {P : Program} {t : TypeId} {fs : Array Field} {d : Kd α} {ok : α → Prop} (hu : P.underlying t = some (.struct fs)) (hc : P.cellsOf t = d.sz) (h : RdF P fs.toList 0 d ok) (f : β → α) (g : α → β) (hfg : ∀ a, f (g a) = a) :
    Rd P t (Kd.iso d f) (fun b => ok (f b)) where
  sz := hc
  one := @fun H enc w base spare held fuel cs x hx => by
    obtain ⟨xs, n, _, _, hl, hn, hm⟩ := DataW.trod_struct hu hx
    obtain ⟨a, hk, hok⟩ := h.get (n := n) (cs := cs) (by omega) (fun f hf => by
      obtain ⟨i, hi⟩ := List.mem_iff_getElem?.1 hf
      have hi2 : i < fs.toList.length := (List.getElem?_eq_some_iff.1 hi).1
      have hi3 : i < xs.length := by rw [hn]; simpa using hi2
      exact ⟨xs[i], by rw [hm i f (by simpa using hi), List.getElem?_eq_getElem hi3]⟩)
    exact ⟨g a, by show d.K w (f (g a)) cs; rw [hfg]; simpa using hk, by rw [hfg]; exact hok⟩

end Go.Proofs.YtoggmpihojkbfaaTrod
