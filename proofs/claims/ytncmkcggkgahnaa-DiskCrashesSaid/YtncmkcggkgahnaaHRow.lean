-- By the session: an argument's cells, opened to a kind's value.
import Derived.Test.YtncmkcggkgahnaaWWords
import Derived.Test.YtncmkcggkgahnaaWLast
import Derived.Test.YtncmkcggkgahnaaWMore
import Derived.WalkKit
import Derived.ProofKit
import Derived.OpenShut
import Derived.ShutString
import Derived.ChangeOld
import Derived.Below
import Derived.SizedLaws
import Derived.Deep.Slices
import Derived.Deep.Fields
import Derived.ChangeSame
namespace Go.Proofs.Ytncmkcggkgahnaa.Row
open Go.ChangeShapes Go.WideShapes Go.Deep Go.RowKit Go.Proofs.YtncmkcggkgahnaaW.PrintWords Go.Proofs.YtncmkcggkgahnaaW.PrintLast Go.Proofs.YtncmkcggkgahnaaW.PrintMore
set_option linter.unusedVariables false
set_option linter.unusedSimpArgs false
/-- Cells of a type that read as a datum hold a value of a kind. -/
structure Opn {α : Type} (P : Program) (kd : Kd α) (wf : α → Prop) (t : TypeId) : Prop where
  get : ∀ {H : Type} {enc : TypeId × Value → H} {w : World} {base : Nat} {spare : Nat → Bool} {held : Bool} {fuel : Nat} {cs : List Value} {x : DataW H × List MemPlace},
    DataW.trod enc P w base spare held fuel t cs = some x → ∃ a, kd.K w a cs ∧ wf a
/-- .. fields, one behind the other, from a place on. -/
structure OpnFs {α : Type} (P : Program) (kd : Kd α) (wf : α → Prop) (fl : List Field) (off : Nat) : Prop where
  get : ∀ {H : Type} {enc : TypeId × Value → H} {w : World} {base : Nat} {spare : Nat → Bool} {held : Bool} {n : Nat} {cs : List Value},
    off + kd.sz ≤ cs.length → (∀ f ∈ fl, ∃ y, DataW.trod enc P w base spare held n f.type ((cs.drop f.offset).take (P.cellsOf f.type)) = some y) → ∃ a, kd.K w a ((cs.drop off).take kd.sz) ∧ wf a
theorem Opn.int {P : Program} {k : IntKind} {t : TypeId} (ht : P.underlying t = some (.int k)) : Opn P (Kd.int k) (fun n => (Lit.int k n).wf = true) t := ⟨fun h => by
  obtain ⟨n, rfl, _, hw⟩ := DataW.trod_int ht h
  exact ⟨n, rfl, hw⟩⟩
theorem Opn.bool {P : Program} {t : TypeId} (ht : P.underlying t = some .bool) : Opn P Kd.bool (fun _ => True) t := ⟨fun h => by
  obtain ⟨n, rfl, _⟩ := DataW.trod_bool ht h
  exact ⟨n, rfl, trivial⟩⟩
theorem Opn.string {P : Program} {t : TypeId} (ht : P.underlying t = some .string) : Opn P Kd.string (fun s => s.size ≤ maxLen) t := ⟨fun h => by
  obtain ⟨s, rfl, _, hw⟩ := DataW.trod_string ht h
  exact ⟨s, rfl, hw⟩⟩
theorem reads_of {α : Type} {R : α → List Value → Prop} {wf : α → Prop} {sz : Nat} {w : World} {a : Addr} {base : Nat} : ∀ (len : Nat), (∀ i, i < len → ∃ cs', w.cells? base (a.add (i * sz)) sz = some cs' ∧ ∃ z, R z cs' ∧ wf z) →
    ∃ xs : List α, xs.length = len ∧ (∀ z ∈ xs, wf z) ∧ ∀ j p, xs[j]? = some p → ∃ c, c.length = sz ∧ R p c ∧ ∀ i u, c[i]? = some u → w.cell? (a.add (j * sz + i)) = some u := by
  intro len
  induction len with
  | zero => exact fun _ => ⟨[], rfl, by simp, fun j p hj => by simp at hj⟩
  | succ m ih =>
    intro h
    obtain ⟨xs, hl, hw, hx⟩ := ih (fun i hi => h i (by omega))
    obtain ⟨cs', hc, z, hz, hwz⟩ := h m (by omega)
    obtain ⟨_, hcl, hat⟩ := World.cells?_some hc
    refine ⟨xs ++ [z], by simp [hl], fun y hy => ?_, fun j p hj => ?_⟩
    · rcases List.mem_append.1 hy with hy | hy
      · exact hw y hy
      · rw [List.mem_singleton.1 hy]; exact hwz
    · by_cases hjm : j < xs.length
      · rw [List.getElem?_append_left hjm] at hj
        exact hx j p hj
      · rw [List.getElem?_append_right (by omega)] at hj
        have hj0 : j - xs.length = 0 := by
          have := (List.getElem?_eq_some_iff.1 hj).1
          simp at this
          omega
        rw [hj0] at hj
        simp at hj
        subst hj
        have : j = m := by omega
        subst this
        refine ⟨cs', hcl, hz, fun i u hu => ?_⟩
        have hi : i < sz := by have := (List.getElem?_eq_some_iff.1 hu).1; omega
        have := hat i hi
        rw [hu] at this
        rw [← Go.Deep.add_add]
        exact this
theorem Opn.slice {α : Type} {P : Program} {kd : Kd α} {wf : α → Prop} {t e : TypeId} (ht : P.underlying t = some (.slice e)) (hsz : P.cellsOf e = kd.sz) (o : Opn P kd wf e) :
    Opn P (Kd.slice e kd) (fun l => l.length ≤ maxLen ∧ ∀ z ∈ l, wf z) t := ⟨fun {H} {enc} {w} {base} {spare} {held} {fuel} {cs} {x} h => by
  rcases Go.Deep.open_slice ht h with ⟨rfl, _⟩ | ⟨a, len, cap, m, n, D, Pl, rfl, hb, hl, hm, hmm, hx, hi⟩
  · exact ⟨[], ⟨none, 0, rfl, Nat.le_refl _, rfl, by simp, fun h0 => absurd h0 (by simp)⟩, Nat.zero_le _, by simp⟩
  · have hlm : len ≤ m := by rw [hmm]; split <;> omega
    obtain ⟨xs, hxl, hw, hxs⟩ := reads_of (R := kd.K w) (wf := wf) (sz := kd.sz) (w := w) (a := a) (base := base) len (fun i hil => by
      obtain ⟨cs', h1, h2⟩ := hi i (by omega)
      rw [hsz] at h1
      obtain ⟨z, hz, hwz⟩ := o.get h2
      exact ⟨cs', h1, z, hz, hwz⟩)
    refine ⟨xs, ⟨some a, cap, by rw [hxl], by omega, rfl, ?_, fun _ => ⟨a, rfl, hxs⟩⟩, by omega, hw⟩
    simp only [maxLen] at hm
    omega⟩
theorem OpnFs.one {α : Type} {P : Program} {kd : Kd α} {wf : α → Prop} {f : Field} {off : Nat} (hoff : f.offset = off) (hsz : P.cellsOf f.type = kd.sz) (o : Opn P kd wf f.type) : OpnFs P kd wf [f] off := ⟨fun hl h => by
  obtain ⟨y, hy⟩ := h f List.mem_cons_self
  rw [hoff, hsz] at hy
  exact o.get hy⟩
theorem OpnFs.cons {α β : Type} {P : Program} {kd : Kd α} {kd2 : Kd β} {wf : α → Prop} {wf2 : β → Prop} {f : Field} {fl : List Field} {off off2 : Nat} (hoff2 : off2 = off + kd.sz) (o : OpnFs P kd wf [f] off) (o2 : OpnFs P kd2 wf2 fl off2) :
    OpnFs P (Kd.pair kd kd2) (fun x => wf x.1 ∧ wf2 x.2) (f :: fl) off := ⟨fun {H} {enc} {w} {base} {spare} {held} {n} {cs} hl h => by
  subst hoff2
  have hl' : off + (kd.sz + kd2.sz) ≤ cs.length := hl
  obtain ⟨a, ha, hwa⟩ := o.get (by omega) (fun g hg => h g (by rw [List.mem_singleton.1 hg]; exact List.mem_cons_self))
  obtain ⟨b, hb, hwb⟩ := o2.get (by omega) (fun g hg => h g (List.mem_cons_of_mem _ hg))
  refine ⟨(a, b), ⟨_, _, ?_, ha, hb⟩, hwa, hwb⟩
  show (cs.drop off).take (kd.sz + kd2.sz) = _
  rw [List.take_add, List.drop_drop]⟩
theorem Opn.struct {α β : Type} {P : Program} {kd : Kd α} {wf : α → Prop} {f : β → α} {t : TypeId} {fs : Array Field} (g : α → β) (hfg : ∀ a, f (g a) = a) (ht : P.underlying t = some (.struct fs)) (hsz : P.cellsOf t = kd.sz) (o : OpnFs P kd wf fs.toList 0) :
    Opn P (Kd.iso kd f) (fun b => wf (f b)) t := ⟨fun {H} {enc} {w} {base} {spare} {held} {fuel} {cs} {x} h => by
  obtain ⟨ys, n, _, _, hl, hlen, hf⟩ := DataW.trod_struct ht h
  obtain ⟨a, ha, hw⟩ := o.get (cs := cs) (n := n) (by omega) (fun fd hfd => by
    obtain ⟨i, hi, he⟩ := List.getElem_of_mem hfd
    have h1 := hf i fd (by rw [← he]; simp)
    have h2 : i < ys.length := by rw [hlen]; simpa using hi
    exact ⟨_, h1.trans (List.getElem?_eq_getElem h2)⟩)
  refine ⟨g a, ?_, ?_⟩
  · show kd.K w (f (g a)) cs
    rw [hfg]
    have e : (cs.drop 0).take kd.sz = cs := by rw [List.drop_zero, List.take_of_length_le (by omega)]
    rw [e] at ha
    exact ha
  · show wf (f (g a))
    rw [hfg]
    exact hw⟩
theorem Opn.mono {α : Type} {P : Program} {kd : Kd α} {wf wf' : α → Prop} {t : TypeId} (o : Opn P kd wf t) (h : ∀ a, wf a → wf' a) : Opn P kd wf' t := ⟨fun hd => by
  obtain ⟨a, ha, hw⟩ := o.get hd
  exact ⟨a, ha, h a hw⟩⟩
/-- A parameter that is a slice. -/
theorem par_slice {α : Type} {P : Program} {kd : Kd α} {wf : List α → Prop} {t e : TypeId} (ht : P.underlying t = some (.slice e)) (o : Opn P (Kd.slice e kd) wf t) {H : Type} {enc : TypeId × Value → H} {w : World} {base : Nat} {spare : Nat → Bool} {held : Bool} {r : Reach} {b0 : Nat} {v : Value} {d : DataW H} {ps : List MemPlace}
    (hval : Value.okWide P w r b0 t v) (h : DataW.Trod enc P w base spare held t v d ps) : ∃ (l : List α) (A : Option Addr) (c : Nat), v = .slice A l.length c ∧ l.length ≤ c ∧ kd.C w A l.length l ∧ wf l := by
  obtain ⟨a, len, cap, rfl⟩ := okWide_slice ht hval
  obtain ⟨fuel, hf⟩ := h
  obtain ⟨l, ⟨A, c, he, hl, hr⟩, hw⟩ := o.get hf
  simp [Value.cells] at he
  obtain ⟨rfl, rfl, rfl⟩ := he
  exact ⟨l, _, _, rfl, hl, hr, hw⟩
/-- A parameter that is a struct. -/
theorem par_struct {α : Type} {P : Program} {kd : Kd α} {wf : α → Prop} {t : TypeId} {fs : Array Field} (ht : P.underlying t = some (.struct fs)) (o : Opn P kd wf t) {H : Type} {enc : TypeId × Value → H} {w : World} {base : Nat} {spare : Nat → Bool} {held : Bool} {r : Reach} {b0 : Nat} {v : Value} {d : DataW H} {ps : List MemPlace}
    (hval : Value.okWide P w r b0 t v) (h : DataW.Trod enc P w base spare held t v d ps) : ∃ (a : α) (cs : List Value), v = .agg cs.toArray ∧ kd.K w a cs ∧ wf a := by
  obtain ⟨cs, rfl, _⟩ := okWide_struct ht hval
  obtain ⟨fuel, hf⟩ := h
  obtain ⟨l, hl, hw⟩ := o.get hf
  exact ⟨l, _, rfl, hl, hw⟩
/-- A row is no longer than its weight allows. -/
theorem sized_row {H : Type} {enc : TypeId × Value → H} {P : Program} {W : World} {base : Nat} {spare : Nat → Bool} {held : Bool} {t e : TypeId} {a : Option Addr} {len cap : Nat} {d : DataW H} {ps : List MemPlace} {ts : List TypeId} {ds : List (DataW H)} {j : Nat}
    (hsz : (DataW.weightsEach P ts ds).all (· ≤ reachBytes) = true) (ht : ts[j]? = some t) (hd : ds[j]? = some d) (hu : P.underlying t = some (.slice e)) {B : Nat} (hB : P.bytesOf e = B)
    (h : DataW.Trod enc P W base spare held t (.slice a len cap) d ps) : len * B ≤ 140737488351232 := by
  obtain ⟨fuel, hf⟩ := h
  rcases Go.Deep.open_slice hu hf with ⟨hcs, _⟩ | ⟨x, l, c, m, n, D, Pl, hcs, hb, hl, hm, hmm, hx, hi⟩
  · simp [Value.cells] at hcs
    obtain ⟨rfl, rfl, rfl⟩ := hcs
    simp
  · simp [Value.cells] at hcs
    obtain ⟨rfl, rfl, rfl⟩ := hcs
    obtain ⟨hx, _⟩ := Prod.mk.inj hx
    subst hx
    have z := sized_slice hsz ht hd hu
    rw [hB] at z
    have hl2 : len ≤ m := by
      rw [hmm]
      split
      · exact hl
      · exact Nat.le_refl _
    simp only [List.length_map, List.length_range] at z
    exact Nat.le_trans (Nat.mul_le_mul_right _ (by omega)) z
theorem Opn.arr2 {α : Type} {P : Program} {kd : Kd α} {wf : α → Prop} {t e : TypeId} (ht : P.underlying t = some (.array 2 e)) (hsz : P.cellsOf t = kd.sz + kd.sz) (he : P.cellsOf e = kd.sz) (o : Opn P kd wf e) :
    Opn P (Kd.pair kd kd) (fun x => wf x.1 ∧ wf x.2) t := ⟨fun {H} {enc} {w} {base} {spare} {held} {fuel} {cs} {x} h => by
  obtain ⟨ys, n, _, _, hl, hlen, hf⟩ := DataW.trod_array ht h
  have h0 := hf 0 (by omega)
  have h1 := hf 1 (by omega)
  rw [he, Nat.zero_mul, List.drop_zero] at h0
  rw [he, Nat.one_mul] at h1
  obtain ⟨a, ha, hwa⟩ := o.get (h0.trans (List.getElem?_eq_getElem (by omega)))
  obtain ⟨b, hb, hwb⟩ := o.get (h1.trans (List.getElem?_eq_getElem (by omega)))
  refine ⟨(a, b), ⟨_, _, ?_, ha, hb⟩, hwa, hwb⟩
  rw [List.take_of_length_le (l := cs.drop kd.sz) (by rw [List.length_drop]; omega), List.take_append_drop]⟩
theorem okWide_array {P : Program} {w : World} {r : Reach} {base : Nat} {t : TypeId} {v : Value} {n : Nat} {e : TypeId} (ht : P.underlying t = some (.array n e)) (h : Value.okWide P w r base t v) : ∃ cs, v = .agg cs ∧ cs.size = P.cellsOf t := by
  simp only [Value.okWide, ht] at h
  obtain ⟨cs, h1, h2, _⟩ := h
  exact ⟨cs, h1, h2⟩
/-- A parameter that is an array. -/
theorem par_array {α : Type} {P : Program} {kd : Kd α} {wf : α → Prop} {t e : TypeId} {n : Nat} (ht : P.underlying t = some (.array n e)) (o : Opn P kd wf t) {H : Type} {enc : TypeId × Value → H} {w : World} {base : Nat} {spare : Nat → Bool} {held : Bool} {r : Reach} {b0 : Nat} {v : Value} {d : DataW H} {ps : List MemPlace}
    (hval : Value.okWide P w r b0 t v) (h : DataW.Trod enc P w base spare held t v d ps) : ∃ (a : α) (cs : List Value), v = .agg cs.toArray ∧ kd.K w a cs ∧ wf a := by
  obtain ⟨cs, rfl, _⟩ := okWide_array ht hval
  obtain ⟨fuel, hf⟩ := h
  obtain ⟨l, hl, hw⟩ := o.get hf
  exact ⟨l, _, rfl, hl, hw⟩
end Go.Proofs.Ytncmkcggkgahnaa.Row
