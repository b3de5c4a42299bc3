-- By the session: contracts proved by hand.
import Derived.Test.YtalpnhgkhhmmlaaPTalx0
import Derived.Test.YtalpnhgkhhmmlaaPTalx2
import Derived.Test.YtalpnhgkhhmmlaaTPlain0
import Derived.Test.YtalpnhgkhhmmlaaTMaj
import Derived.Test.YtalpnhgkhhmmlaaHTIter
import Derived.Lib.SlicesCompact
namespace Go.Proofs.Ytalpnhgkhhmmlaa.PTal
open Go.Lib (compact compactUpTo)
open Go.RowKit Go.Shelf Go.Proofs.YtalpnhgkhhmmlaaW.PrintWords Go.Proofs.YtalpnhgkhhmmlaaW.PrintLast Go.Proofs.YtalpnhgkhhmmlaaW.PrintMore
set_option linter.unusedVariables false
set_option linter.unusedSimpArgs false
/-! conf.Majority: function 33 -/
def conf_Majority.f (l0 : List Int) (l1 : List Int) : Option Bool := if l0.length < 1000000000000 ∧ l1.length < 1000000000000 then some (majOf l0 l1) else none
theorem rd_q {l : List Int} {i : Nat} : rd l i = l[i]?.getD 0 := by simp [rd, List.getD_eq_getElem?_getD]
theorem intsIn_of_C {w : World} {A : Option Addr} {c : Nat} {l : List Int} (h : Kd.C (Kd.int .i64) w A l.length l) : IntsIn w.heap.size w (.slice A l.length c) l := by
  rcases Nat.eq_zero_or_pos l.length with h0 | h0
  · exact .inl ⟨A, c, by rw [h0], List.eq_nil_of_length_eq_zero h0⟩
  · obtain ⟨ad, rfl, _⟩ := h.2.2 h0
    have hcell : ∀ j : Nat, j < l.length → w.cell? (ad.add j) = some (.int .i64 (l[j]?.getD 0)) := fun j hj => by
      obtain ⟨ad', e, hc⟩ := Kd.at_int h (j : Int) (by omega) (by omega)
      cases e
      rw [← rd_q]
      simpa using hc
    exact .inr ⟨ad, c, rfl, by have := World.block_lt_of_cell? w _ (hcell 0 h0); rwa [add_block] at this, hcell⟩
theorem take_snocI (l : List Int) (k : Nat) (h : k < l.length) : l.take (k + 1) = l.take k ++ [rd l k] := by
  rw [List.take_succ_eq_append_getElem h, rd_get h]
theorem countP_snoc (l : List Int) (x : Int) (p : Int → Bool) : (l ++ [x]).countP p = l.countP p + (if p x then 1 else 0) := by
  rw [List.countP_append]; simp [List.countP_cons]
theorem once_len (l : List Int) : (onceOf l).length ≤ l.length := nodup_le _ _ (once_mem l).2 (fun x hx => ((once_mem l).1 x).1 hx)
theorem compact_len (S : List Int) : (compact S).length ≤ S.length := by
  unfold compact compactUpTo
  rw [List.length_map]
  exact Nat.le_trans (List.length_filter_le _ _) (by simp)
theorem C_of_int {w : World} {A : Option Addr} {n : Nat} {xs : List Int} (h : ReadsInt w .i64 A n xs) : Kd.C (Kd.int .i64) w A n xs :=
  Kd.C_of_reads (enc := Value.int .i64) (d := (0 : Int)) h
/-- slices.Compact on a row of the call's own. -/
theorem compact_row (base n : Nat) (v : Value) (S : List Int) (W : World) (hl : S.length = n) (hrow : W.ownsRow base 3 1 v n (S.map (Value.int .i64))) (hn : n < 1000000000000) :
    Calls Try.prog 45 #[v] W fun e w' => ∃ A' c', e = .returned (.slice A' (compact S).length c') ∧ (compact S).length ≤ c' ∧ Kd.C (Kd.int .i64) w' A' (compact S).length (compact S) ∧ W.grownBy w' v.ownBlock := by
  subst hl
  have hcl := compact_len S
  rcases hrow.2 with ⟨rfl, hz⟩ | ⟨g, cap, cur, rfl, hbase, hgb, r1, r2, r3, r4⟩
  · obtain rfl : S = [] := List.eq_nil_of_length_eq_zero hz
    exact (Any.slices_Compact_int_empty YtalpnhgkhhmmlaaL.compactA none 0 W).mono fun e w' ⟨he, hw⟩ => ⟨none, 0, he, Nat.le_refl _, Kd.C_nil _ _, hw ▸ World.grownBy.refl _ _⟩
  · have hH : Sort.Holds (Value.int .i64) W g 0 S.toArray := holds_of_block_i hgb (by simpa using r4)
    refine (Any.slices_Compact_int YtalpnhgkhhmmlaaL.compactA g 0 cap S W hH (by omega) r1).mono fun e w' ⟨he, q, hw⟩ => ?_
    have hlen : (compact S ++ List.replicate (S.length - (compact S).length) (0 : Int)).length = S.length := by simp; omega
    have ho := ownsRow_sorted_i (n := q) (os := #[]) hlen hbase hgb r1 r2 r3
    have hg := grownBy_sorted_i (w := W) (g := g) (n := q) (os := #[]) (compact S ++ List.replicate (S.length - (compact S).length) (0 : Int)).toArray
    rw [Sort.grow_empty] at ho hg
    have hw' : w' = Sort.putRow encZ (Sort.ahead W q) g 0 (compact S ++ List.replicate (S.length - (compact S).length) (0 : Int)).toArray := hw
    rw [← hw'] at ho hg
    have hR := (own_reads' (k := .i64) ho).take_ (compact S).length hcl
    rw [List.take_left] at hR
    exact ⟨_, cap, he, by omega, C_of_int hR, hg⟩
theorem once_row (base : Nat) (v : Value) (l : List Int) (w W : World) (hrow : W.ownsRow base 3 1 v l.length ((l.mergeSort (fun x y => decide (x ≤ y))).map (Value.int .i64))) (hn : l.length < 1000000000000) (hb : w.heap.size ≤ base) (hB : Below w.heap.size w W) :
    Calls Try.prog 45 #[v] W fun e w' => ∃ A' c', e = .returned (.slice A' (onceOf l).length c') ∧ (onceOf l).length ≤ c' ∧ Kd.C (Kd.int .i64) w' A' (onceOf l).length (onceOf l) ∧ Below w.heap.size w w' :=
  (compact_row base l.length v _ W (by simp) hrow hn).mono fun e w' ⟨A', c', he, hc, hC, hg⟩ => ⟨A', c', he, hc, hC, pw_below_grown hB _ hB.size hg (fun k hk => Nat.le_trans hb (own_base hrow k hk))⟩
set_option maxHeartbeats 2000000 in
set_option maxRecDepth 100000 in
theorem conf_Majority.calls (A0 : Option Addr) (c0 : Nat) (l0 : List Int) (A1 : Option Addr) (c1 : Nat) (l1 : List Int) (r : Bool) (w : World) (hr0 : Kd.C (Kd.int .i64) w A0 l0.length l0) (hc0 : l0.length ≤ c0) (hr1 : Kd.C (Kd.int .i64) w A1 l1.length l1) (hc1 : l1.length ≤ c1) (h : conf_Majority.f l0 l1 = some r) :
    Calls Try.prog 33 #[.slice A0 l0.length c0, .slice A1 l1.length c1] w fun e w' => e = .returned (.bool r) ∧ Below w.heap.size w w' := by
  unfold conf_Majority.f at h
  by_cases hlt : l0.length < 1000000000000 ∧ l1.length < 1000000000000
  case neg => rw [if_neg hlt] at h; cases h
  rw [if_pos hlt] at h
  obtain ⟨hlt0, hlt1⟩ := hlt
  obtain rfl := Option.some.inj h
  clear h
  have hBx : Below w.heap.size w (w.alloc (.cells #[.slice A0 l0.length c0] 33)) := (Below.refl _ w).alloc (Nat.le_refl _) _
  have hI := (intsIn_of_C (c := c0) hr0).below hBx
  have cV := (callsIn_wide (n := 6)).1 (values_in Fence.wide 6 trivial rfl A0 l0.length c0 w)
  have cS := (callsIn_wide (n := 6)).1 (sorted_in 6 (by omega) 54 #[.pointer (some ⟨w.heap.size, 0, none⟩)] (enters_of Try.func54 (by kernel_rfl) rfl) w.heap.size (fun ys => ys = l0) (fun pre => pre <+: l0) l0.length (by omega) _ (w.alloc (.cells #[.slice A0 l0.length c0] 33)) (by simp) (Below.refl _ _) (values_stops Fence.wide 3 trivial rfl (by omega) w.heap.size w.heap.size _ l0 (by omega) _ (by simp) (by simp) (by simp) hI))
  have HEV := Aside0.mk (fun x => (contains_ev l1 x (by omega)).rounds)
  have HR1 := Aside0.mk hr1
  have HC1 := Aside0.mk hc1
  have HCV := Aside0.mk cV
  have HCS := Aside0.mk cS
  clear hr1 hc1 hr0 hc0 hI hBx cV cS
  go_enter Try.func33, Try.ntmps33
  go_wp2_with (first
    | (go_at_call 46; refine HCV.out.mono ?_; rintro e w' ⟨rfl, rfl⟩)
    | (go_at_call 43; refine HCS.out.mono ?_; rintro e W ⟨v, ss, rfl, rfl, hl, hrow, hb⟩; have HRO := Aside0.mk hrow; have HB := Aside0.mk (below_then (below_alloc (Below.refl w.heap.size w) (Obj.cells #[.slice A0 ss.length c0] 33)) (by simp) hb); clear hl hrow hb)
    | (go_at_call 45; refine (once_row _ v ss w W HRO.out hlt0 (by simp) HB.out).mono ?_; rintro e W2 ⟨A2, c2, rfl, hc2, hC2, hb2⟩; have HC2 := Aside0.mk hc2; have HR2 := Aside0.mk hC2; have HB2 := Aside0.mk hb2; have HOL := Aside0.mk (once_len ss); obtain ⟨O, hO⟩ : ∃ O, onceOf ss = O := ⟨_, rfl⟩; rw [hO] at HC2 HR2 HOL; simp only [hO]; have HO := Aside0.mk hO; clear hc2 hC2 hb2 hO))
  have hOlen : O.length < 1000000000000 := by have := HOL.out; omega
  go_loopw [6, 15] (fun n i wr => ∃ k : Nat, k ≤ O.length ∧ i = .int .i64 k ∧ n = .int .i64 (((O.take k).countP (fun x => decide (x ∈ l1)) : Nat) : Int) ∧ Drawn0 W2 wr) (fun _ i _ => O.length - (intOf i).toNat)
  case atStart => exact ⟨0, Nat.zero_le _, rfl, by simp, Drawn0.refl _⟩
  case round =>
    obtain ⟨k, hk, rfl, rfl, hdr⟩ := hrel
    obtain ⟨m, rfl⟩ := hdr.out
    clear hdr
    obtain ⟨N, hN⟩ : ∃ N : Nat, (O.take k).countP (fun x => decide (x ∈ l1)) = N := ⟨_, rfl⟩
    have hNk : N ≤ k := by rw [← hN]; exact Nat.le_trans List.countP_le_length (by simp; omega)
    rw [hN]
    have HN := Aside0.mk hN
    clear hN
    by_cases hlt : k < O.length
    · obtain ⟨ad, rfl, hcell⟩ := Kd.at_int HR2.out (k : Int) (by omega) (by omega)
      have hcell' : (W2.drewN m).cell? (ad.add k) = some (.int .i64 (rd O k)) := by simpa using hcell
      have HS := Aside0.mk (take_snocI O k hlt)
      obtain ⟨X, hX⟩ : ∃ X, rd O k = X := ⟨_, rfl⟩
      rw [hX] at hcell' HS
      clear hcell hX
      obtain ⟨kk, hkk⟩ := HEV.out X
      have HKK := Aside0.mk hkk
      clear hkk
      have hrd : (0:Int) ≤ (k : Int) := by omega
      have c40 := fun w' => slices_Contains_int_int.calls kk A1 c1 l1 X (decide (X ∈ l1)) w'
      by_cases hin : X ∈ l1
      · have hd : decide (X ∈ l1) = true := by simpa using hin
        rw [hd] at HKK c40
        go_wp2_with (go_at_call 40; refine (c40 _ (Kd.C_below HR1.out (pw_below_drewN HB2.out m)) HC1.out HKK.out).mono ?_; rintro e w' ⟨rfl, ⟨m2, rfl⟩⟩)
        go_roundw
        case rel => exact ⟨k + 1, by omega, by go_num, by rw [HS.out, countP_snoc, HN.out, hd]; simp, ⟨m + m2, by simp [World.drewN_drewN]⟩⟩
        case measure => simp [intOf]; omega
      · have hd : decide (X ∈ l1) = false := by simpa using hin
        rw [hd] at HKK c40
        go_wp2_with (go_at_call 40; refine (c40 _ (Kd.C_below HR1.out (pw_below_drewN HB2.out m)) HC1.out HKK.out).mono ?_; rintro e w' ⟨rfl, ⟨m2, rfl⟩⟩)
        go_roundw
        case rel => exact ⟨k + 1, by omega, by go_num, by rw [HS.out, countP_snoc, HN.out, hd]; simp, ⟨m + m2, by simp [World.drewN_drewN]⟩⟩
        case measure => simp [intOf]; omega
    · obtain rfl : k = O.length := by omega
      have hfin : majOf ss l1 = decide (2 * (N : Int) > O.length) := by
        unfold majOf
        rw [HO.out]
        have := HN.out
        rw [List.take_length] at this
        rw [this]
        exact decide_eq_decide.2 (by omega)
      have HF := Aside0.mk hfin
      clear hfin
      go_wp2
      go_ret
      refine ⟨?_, pw_below_drewN HB2.out m⟩
      rw [HF.out]
      rfl
end Go.Proofs.Ytalpnhgkhhmmlaa.PTal
