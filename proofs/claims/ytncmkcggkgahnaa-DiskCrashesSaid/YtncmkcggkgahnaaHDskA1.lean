-- By the session: contracts proved by hand.
import Derived.Test.YtncmkcggkgahnaaHDsk1
import Derived.Deep.RegionLaw
import Derived.Deep.RegionLawGrows
import Derived.Deep.RegionWith
import Derived.Deep.RegionHeld3
import Derived.Deep.RegionHeldLaw
import Derived.Deep.DeepCutAuto
import Derived.Deep.CutBlock
import Derived.Deep.LoopGhost
import Derived.RegionTactic
import Derived.ChangeAlike
import Derived.StillTailTactics
import Derived.Shelf.Abstract
import Derived.Maps.Own
import Derived.Maps.OwnOps
import Derived.Maps.OwnSet
import Derived.Maps.Views
import Derived.Lib.Hide
import Derived.Lib.SliceRun
import Derived.Laws.BitsAllLaws
namespace Go.Proofs.Ytncmkcggkgahnaa.PDsk
open Go.Maps
open Go.RowKit Go.Shelf Go.Proofs.YtncmkcggkgahnaaW.PrintWords Go.Proofs.YtncmkcggkgahnaaW.PrintLast Go.Proofs.YtncmkcggkgahnaaW.PrintMore
set_option linter.unusedVariables false
set_option linter.unusedSimpArgs false
/-! worlds, and what lies in them -/
/-- All but the blocks of S lie as they lay. -/
structure Kpt (S : Nat → Prop) (w w' : World) : Prop where
  os : w'.os = w.os
  tape : w'.tape = w.tape
  output : w'.output = w.output
  size : w.heap.size ≤ w'.heap.size
  block : ∀ k, k < w.heap.size → ¬ S k → w'.heap[k]? = w.heap[k]?
theorem Kpt.refl (S : Nat → Prop) (w : World) : Kpt S w w := ⟨rfl, rfl, rfl, Nat.le_refl _, fun _ _ _ => rfl⟩
theorem Kpt.trans {S : Nat → Prop} {a b c : World} (h : Kpt S a b) (k : Kpt S b c) : Kpt S a c :=
  ⟨k.os.trans h.os, k.tape.trans h.tape, k.output.trans h.output, Nat.le_trans h.size k.size, fun i hi hn => (k.block i (Nat.lt_of_lt_of_le hi h.size) hn).trans (h.block i hi hn)⟩
theorem Kpt.mono {S S' : Nat → Prop} {a b : World} (h : Kpt S a b) (hs : ∀ k, S k → S' k) : Kpt S' a b := ⟨h.os, h.tape, h.output, h.size, fun i hi hn => h.block i hi (fun hk => hn (hs i hk))⟩
theorem Kpt.of_below {S : Nat → Prop} {a b : World} (h : Below a.heap.size a b) : Kpt S a b := ⟨h.os, h.tape, h.output, h.size, fun i hi _ => h.block i hi⟩
theorem Kpt.of_grown {S : Nat → Prop} {a b : World} {row : Option Nat} (h : a.grownBy b row) (hr : ∀ k, row = some k → S k) : Kpt S a b := ⟨h.os, h.tape, h.output, h.size, fun i hi hn => h.block i hi (fun e => hn (hr i e.symm))⟩
theorem Kpt.alloc (S : Nat → Prop) (w : World) (o : Obj) : Kpt S w (w.alloc o) := .of_below (below_alloc (Below.refl _ _) o)
theorem Kpt.drewN (S : Nat → Prop) (w : World) (n : Nat) : Kpt S w (w.drewN n) := .of_below (pw_below_drewN (Below.refl _ _) n)
theorem Kpt.set {S : Nat → Prop} {w : World} {a : Addr} (h : S a.block) (u : Value) : Kpt S w (w.setCell a u) :=
  ⟨rfl, rfl, rfl, by simp [World.setCell], fun i hi hn => Below.heap_setCell w a u i (fun e => hn (e ▸ h))⟩
theorem Kpt.below {S : Nat → Prop} {B : Nat} {w0 a b : World} (h : Kpt S a b) (h0 : Below B w0 a) (hB : B ≤ a.heap.size) (hS : ∀ k, S k → B ≤ k) : Below B w0 b :=
  ⟨h.os.trans h0.os, h.tape.trans h0.tape, h.output.trans h0.output, Nat.le_trans h0.size h.size, fun k hk => (h.block k (Nat.lt_of_lt_of_le hk hB) (fun hs => by have := hS k hs; omega)).trans (h0.block k hk)⟩
theorem Kpt.blk {S : Nat → Prop} {a b : World} (h : Kpt S a b) {k : Nat} {o : Obj} (hk : a.heap[k]? = some o) (hn : ¬ S k) : b.heap[k]? = some o := (h.block k (blk_lt hk) hn).trans hk
theorem Kpt.owns {H : Type} {S : Nat → Prop} {a b : World} (h : Kpt S a b) {P : Program} {k : TypeId} {R : Value → Option (DataW H × List MemPlace)} {bm n : Nat} {D : DataW H} (ho : a.ownsMap P k R bm n D) (hn : ¬ S bm) : b.ownsMap P k R bm n D := by
  obtain ⟨es, c, h1, h2⟩ := ho
  exact ⟨es, c, h.blk h1 hn, h2⟩
theorem Kpt.cell {S : Nat → Prop} {a b : World} (h : Kpt S a b) {p : Addr} {v : Value} (hc : a.cell? p = some v) (hn : ¬ S p.block) : b.cell? p = some v :=
  (World.cell?_of_block (h.block p.block (World.block_lt_of_cell? a p hc) hn)).trans hc

def Typ (W : World) (t k : Nat) : Prop := ∃ cells, W.heap[k]? = some (.cells cells t (0, 0))
theorem Typ.lt {W : World} {t k : Nat} (h : Typ W t k) : k < W.heap.size := by obtain ⟨c, h⟩ := h; exact blk_lt h
theorem Typ.ne {W : World} {t t' k : Nat} (h : Typ W t k) {c : Array Value} (h' : W.heap[k]? = some (.cells c t' (0, 0))) (hne : t ≠ t') : False := by
  obtain ⟨c', h⟩ := h
  rw [h] at h'
  injection h' with h'
  injection h' with _ h'
  exact hne h'
/-- A block of bytes, marked or not. -/
def B5 (W : World) (k : Nat) : Prop := ∃ cells fz, W.heap[k]? = some (.cells cells 5 fz)
theorem B5.ne {W : World} {t' k : Nat} (h : B5 W k) {c : Array Value} (h' : W.heap[k]? = some (.cells c t' (0, 0))) (hne : 5 ≠ t') : False := by
  obtain ⟨c', fz, h⟩ := h
  rw [h] at h'
  injection h' with h'
  injection h' with _ h'
  exact hne h'
/-- What lies below B0, and every block of bytes, is as it was. -/
structure Byt (B0 : Nat) (W W' : World) : Prop where
  size : W.heap.size ≤ W'.heap.size
  keep : ∀ k, k < W.heap.size → (k < B0 ∨ B5 W k) → W'.heap[k]? = W.heap[k]?
theorem Byt.refl (B0 : Nat) (W : World) : Byt B0 W W := ⟨Nat.le_refl _, fun _ _ _ => rfl⟩
theorem Byt.typ {B0 : Nat} {W W' : World} (h : Byt B0 W W') {k : Nat} (hk : B5 W k) : B5 W' k := by
  obtain ⟨c, fz, e⟩ := hk
  exact ⟨c, fz, (h.keep k (blk_lt e) (.inr ⟨c, fz, e⟩)).trans e⟩
theorem Byt.trans {B0 : Nat} {A B C : World} (h : Byt B0 A B) (k : Byt B0 B C) : Byt B0 A C :=
  ⟨Nat.le_trans h.size k.size, fun i hi ht => (k.keep i (Nat.lt_of_lt_of_le hi h.size) (ht.imp id h.typ)).trans (h.keep i hi ht)⟩
theorem Byt.of_below {B0 : Nat} {W W' : World} (h : Below W.heap.size W W') : Byt B0 W W' := ⟨h.size, fun k hk _ => h.block k hk⟩
theorem Byt.of_kpt {B0 : Nat} {S : Nat → Prop} {W W' : World} (h : Kpt S W W') (hS : ∀ k, S k → B0 ≤ k ∧ ¬ B5 W k) : Byt B0 W W' :=
  ⟨h.size, fun k hk ht => h.block k hk (fun hs => by
    obtain ⟨h1, h2⟩ := hS k hs
    rcases ht with ht | ht
    · omega
    · exact h2 ht)⟩
/-- A slice of bytes whose block nobody writes. -/
def DatV (B0 : Nat) (W : World) (v : Value) (xs : List Int) : Prop :=
  ∃ A c, v = .slice A xs.length c ∧ xs.length ≤ c ∧ (Kd.int .u8).C W A xs.length xs ∧ ∀ ad, A = some ad → 0 < xs.length → ad.block < W.heap.size ∧ (ad.block < B0 ∨ B5 W ad.block)
theorem DatV.nil (B0 : Nat) (W : World) : DatV B0 W (.slice none 0 0) [] := ⟨none, 0, rfl, Nat.le_refl _, Kd.C_nil _ _, fun _ h => by cases h⟩
theorem C_moved {A : Option Addr} {W W' : World} {xs : List Int} (h : (Kd.int .u8).C W A xs.length xs) (hm : ∀ ad, A = some ad → 0 < xs.length → W'.heap[ad.block]? = W.heap[ad.block]?) : (Kd.int .u8).C W' A xs.length xs := by
  refine ⟨h.1, h.2.1, fun hn => ?_⟩
  obtain ⟨ad, e, hc⟩ := h.2.2 hn
  refine ⟨ad, e, fun j p hj => ?_⟩
  obtain ⟨c, h1, h2, h3⟩ := hc j p hj
  refine ⟨c, h1, h2, fun i u hu => ?_⟩
  have := h3 i u hu
  have hb : (ad.add (j * (Kd.int .u8).sz + i)).block = ad.block := add_block _ _
  rw [← this]
  exact World.cell?_of_block (by rw [hb]; exact hm ad e hn)
theorem DatV.byt {B0 : Nat} {W W' : World} {v : Value} {xs : List Int} (hb : Byt B0 W W') (h : DatV B0 W v xs) : DatV B0 W' v xs := by
  obtain ⟨A, c, rfl, hc, hC, hf⟩ := h
  refine ⟨A, c, rfl, hc, C_moved hC (fun ad e hn => hb.keep _ (hf ad e hn).1 (hf ad e hn).2), fun ad e hn => ⟨Nat.lt_of_lt_of_le (hf ad e hn).1 hb.size, (hf ad e hn).2.imp id hb.typ⟩⟩
theorem DatV.len {B0 : Nat} {W : World} {v : Value} {xs : List Int} (h : DatV B0 W v xs) : ∃ A c, v = .slice A xs.length c ∧ xs.length ≤ c ∧ (Kd.int .u8).C W A xs.length xs := by
  obtain ⟨A, c, h1, h2, h3, _⟩ := h; exact ⟨A, c, h1, h2, h3⟩
theorem DatV.of_own {B0 base : Nat} {W : World} {v : Value} {xs : List Int} (h : W.ownsRow base 5 1 v xs.length (xs.map (Value.int .u8))) : DatV B0 W v xs := by
  obtain ⟨A, c, e, hr⟩ := own_reads (k := .u8) (xs := xs) h
  subst e
  refine ⟨A, c, rfl, own_cap h, Kd.C_of_reads (enc := Value.int .u8) (d := (0 : Int)) hr, fun ad e hn => ?_⟩
  subst e
  rcases h.2 with ⟨e, _⟩ | ⟨g, cap, cur, e, _, hg, _⟩
  · cases e
  · injection e with e
    injection e with e
    subst e
    exact ⟨blk_lt hg, .inr ⟨cur, _, hg⟩⟩
theorem DatV.of_R {B0 base : Nat} {W : World} {ok : Nat → Prop} {v : Value} {xs : List Int} (h : (Kd.int .u8).R 5 W base ok v xs) : DatV B0 W v xs := DatV.of_own (Kd.own_of_R h)
theorem DatV.arg {B0 : Nat} {W : World} {A : Option Addr} {c : Nat} {xs : List Int} (h : (Kd.int .u8).C W A xs.length xs) (hc : xs.length ≤ c) (hf : ∀ ad, A = some ad → 0 < xs.length → ad.block < B0) (hB : B0 ≤ W.heap.size) : DatV B0 W (.slice A xs.length c) xs :=
  ⟨A, c, rfl, hc, h, fun ad e hn => ⟨Nat.lt_of_lt_of_le (hf ad e hn) hB, .inl (hf ad e hn)⟩⟩
theorem DatV.take {B0 : Nat} {W : World} {A : Option Addr} {n c m : Nat} {xs : List Int} (h : DatV B0 W (.slice A n c) xs) (hm : m ≤ xs.length) : DatV B0 W (.slice A m c) (xs.take m) := by
  obtain ⟨A', c', e, hc, hC, hf⟩ := h
  injection e with e1 e2 e3
  subst e1; subst e3
  have hl : (xs.take m).length = m := by simp; omega
  refine ⟨A, c, by rw [hl], by rw [hl]; omega, Kd.C_take hC hm, fun ad e hn => hf ad e (by rw [hl] at hn; omega)⟩
def E83 (B0 : Nat) (W : World) (x : S83) (cs : List Value) : Prop := ∃ v, cs = [.int .i64 x.f0, .int .i64 x.f1, v] ∧ DatV B0 W v x.f2
def E77 (B0 : Nat) (W : World) (x : S77) (cs : List Value) : Prop := ∃ v, cs = [.int .i64 x.f0, v] ∧ DatV B0 W v x.f1
theorem E83.byt {B0 : Nat} {W W' : World} (hb : Byt B0 W W') {x : S83} {cs : List Value} : E83 B0 W x cs → E83 B0 W' x cs := fun ⟨v, e, h⟩ => ⟨v, e, h.byt hb⟩
theorem E77.byt {B0 : Nat} {W W' : World} (hb : Byt B0 W W') {x : S77} {cs : List Value} : E77 B0 W x cs → E77 B0 W' x cs := fun ⟨v, e, h⟩ => ⟨v, e, h.byt hb⟩
theorem E83.K {B0 : Nat} {W : World} {x : S83} {cs : List Value} (h : E83 B0 W x cs) : k83.K W x cs := by
  obtain ⟨v, rfl, h⟩ := h
  obtain ⟨A, c, rfl, h1, h2⟩ := h.len
  exact k83_mk W x h1 h2
theorem E77.K {B0 : Nat} {W : World} {x : S77} {cs : List Value} (h : E77 B0 W x cs) : k77.K W x cs := by
  obtain ⟨v, rfl, h⟩ := h
  obtain ⟨A, c, rfl, h1, h2⟩ := h.len
  exact k77_mk W x h1 h2
abbrev Ro83 (B0 : Nat) (W : World) (base : Nat) (v : Value) (xs : List S83) : Prop := OwnRow (E83 B0 W) 83 3 W base v xs
abbrev Ro77 (B0 : Nat) (W : World) (base : Nat) (v : Value) (xs : List S77) : Prop := OwnRow (E77 B0 W) 77 2 W base v xs
theorem OwnRow.moved {α : Type} {R R' : α → List Value → Prop} {e size base : Nat} {W W' : World} {v : Value} {xs : List α} (h : OwnRow R e size W base v xs) (hm : ∀ k, v.ownBlock = some k → W'.heap[k]? = W.heap[k]?) (hR : ∀ x c, R x c → R' x c) : OwnRow R' e size W' base v xs := by
  obtain ⟨inner, ho, hr⟩ := h
  exact ⟨inner, own_move ho hm, hr.imp_ hR⟩
theorem Ro83.moved {B0 base : Nat} {W W' : World} {v : Value} {xs : List S83} (h : Ro83 B0 W base v xs) (hb : Byt B0 W W') (hm : ∀ k, v.ownBlock = some k → W'.heap[k]? = W.heap[k]?) : Ro83 B0 W' base v xs := OwnRow.moved h hm (fun _ _ => E83.byt hb)
theorem Ro77.moved {B0 base : Nat} {W W' : World} {v : Value} {xs : List S77} (h : Ro77 B0 W base v xs) (hb : Byt B0 W W') (hm : ∀ k, v.ownBlock = some k → W'.heap[k]? = W.heap[k]?) : Ro77 B0 W' base v xs := OwnRow.moved h hm (fun _ _ => E77.byt hb)
theorem OwnRow.block {α : Type} {R : α → List Value → Prop} {e size base : Nat} {W : World} {v : Value} {xs : List α} (h : OwnRow R e size W base v xs) {k : Nat} (hk : v.ownBlock = some k) : Typ W e k ∧ base ≤ k := by
  obtain ⟨inner, ho, hr⟩ := h
  exact ⟨own_typed ho k hk, own_base ho k hk⟩
theorem Ro83.below {B0 base : Nat} {W W' : World} {v : Value} {xs : List S83} (h : Ro83 B0 W base v xs) (hb : Below W.heap.size W W') : Ro83 B0 W' base v xs := Ro83.moved h (.of_below hb) (fun k hk => hb.block k ((OwnRow.block h hk).1.lt))
theorem Ro77.below {B0 base : Nat} {W W' : World} {v : Value} {xs : List S77} (h : Ro77 B0 W base v xs) (hb : Below W.heap.size W W') : Ro77 B0 W' base v xs := Ro77.moved h (.of_below hb) (fun k hk => hb.block k ((OwnRow.block h hk).1.lt))
theorem Ro83.C {B0 base : Nat} {W : World} {v : Value} {xs : List S83} (h : Ro83 B0 W base v xs) : ∃ A c, v = .slice A xs.length c ∧ xs.length ≤ c ∧ k83.C W A xs.length xs := by
  obtain ⟨A, c, e, hc, hr⟩ := OwnRow.reads h
  exact ⟨A, c, e, hc, ReadsRow.imp_ hr (Below.refl _ _) (fun _ _ h => h.K)⟩
theorem Ro77.C {B0 base : Nat} {W : World} {v : Value} {xs : List S77} (h : Ro77 B0 W base v xs) : ∃ A c, v = .slice A xs.length c ∧ xs.length ≤ c ∧ k77.C W A xs.length xs := by
  obtain ⟨A, c, e, hc, hr⟩ := OwnRow.reads h
  exact ⟨A, c, e, hc, ReadsRow.imp_ hr (Below.refl _ _) (fun _ _ h => h.K)⟩
end Go.Proofs.Ytncmkcggkgahnaa.PDsk
