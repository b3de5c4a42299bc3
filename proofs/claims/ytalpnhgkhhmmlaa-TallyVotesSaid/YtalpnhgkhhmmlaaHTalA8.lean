-- By the session: contracts proved by hand.
import Derived.Test.YtalpnhgkhhmmlaaHTalA7
import Derived.Test.YtalpnhgkhhmmlaaTPlain0
import Derived.Test.YtalpnhgkhhmmlaaHGen
import Derived.Deep.RegionWith
import Derived.Deep.RegionHeld3
import Derived.Deep.DeepCutAuto
import Derived.Deep.CutBlock
import Derived.Deep.LoopGhost
import Derived.RegionTactic
import Derived.ChangeAlike
import Derived.StillTailTactics
import Derived.Shelf.SlMaps.DeleteFunc
import Derived.Shelf.Abstract
import Derived.Maps.Own
import Derived.Maps.OwnOps
import Derived.Maps.OwnSet
import Derived.Maps.Views
import Derived.Lib.Hide
import Derived.Laws.BitsAllLaws
namespace Go.Proofs.Ytalpnhgkhhmmlaa.PTal
open Go.Maps
open Go.RowKit Go.Shelf Go.Proofs.YtalpnhgkhhmmlaaW.PrintWords Go.Proofs.YtalpnhgkhhmmlaaW.PrintLast Go.Proofs.YtalpnhgkhhmmlaaW.PrintMore
set_option linter.unusedVariables false
set_option linter.unusedSimpArgs false
/-! ref Open: function 31 -/
/-- What the ref's Open holds behind k votes: rising, just the indexes above low. -/
def OpenAt (l : List S55) (low : Int) (k : Nat) (O : List Int) : Prop := O.Pairwise (· < ·) ∧ ∀ x, x ∈ O ↔ ∃ j : Nat, j < k ∧ (rd_T55 l j).f1 = x ∧ low < x
theorem OpenAt.start (l : List S55) (low : Int) : OpenAt l low 0 [] := ⟨List.Pairwise.nil, fun x => ⟨fun h => absurd h (by simp), fun ⟨j, h, _⟩ => absurd h (Nat.not_lt_zero _)⟩⟩
theorem OpenAt.skip {l : List S55} {low : Int} {k : Nat} {O : List Int} (h : OpenAt l low k O) (hn : (rd_T55 l k).f1 ≤ low ∨ (rd_T55 l k).f1 ∈ O) : OpenAt l low (k + 1) O := by
  refine ⟨h.1, fun x => ?_⟩
  rw [h.2]
  constructor
  · rintro ⟨j, h1, h2⟩; exact ⟨j, by omega, h2⟩
  · rintro ⟨j, h1, h2, h3⟩
    rcases Nat.lt_or_ge j k with h4 | h4
    · exact ⟨j, h4, h2, h3⟩
    · obtain rfl : j = k := by omega
      rcases hn with hn | hn
      · omega
      · rw [h2] at hn; exact (h.2 x).1 hn
theorem OpenAt.put {l : List S55} {low : Int} {k : Nat} {O : List Int} (h : OpenAt l low k O) (h1 : ¬ (rd_T55 l k).f1 ≤ low) (h2 : (rd_T55 l k).f1 ∉ O) (j : Nat) (hj : j ≤ O.length) (hlow : ∀ y ∈ O.take j, y < (rd_T55 l k).f1) (hhigh : j < O.length → (rd_T55 l k).f1 ≤ rd O j) :
    OpenAt l low (k + 1) (O.take j ++ ([(rd_T55 l k).f1] ++ O.drop j)) := by
  generalize hx : (rd_T55 l k).f1 = n at *
  have hO : O = O.take j ++ O.drop j := (List.take_append_drop j O).symm
  have hs := h.1
  rw [hO] at hs
  obtain ⟨s1, s2, s3⟩ := List.pairwise_append.1 hs
  have hd : ∀ y ∈ O.drop j, n < y := by
    intro y hy
    by_cases hlt : j < O.length
    · have e : O.drop j = O[j] :: O.drop (j + 1) := (List.drop_eq_getElem_cons hlt)
      have h3 := hhigh hlt
      rw [rd_get hlt] at h3
      have hne : n ≠ O[j] := fun e => h2 (e ▸ List.getElem_mem hlt)
      rw [e] at hy s2
      rcases List.mem_cons.1 hy with rfl | hy
      · omega
      · have := (List.pairwise_cons.1 s2).1 y hy; omega
    · rw [List.drop_eq_nil_of_le (by omega)] at hy
      exact absurd hy (by simp)
  refine ⟨List.pairwise_append.2 ⟨s1, List.pairwise_append.2 ⟨by simp, s2, fun a ha b hb => ?_⟩, fun a ha b hb => ?_⟩, fun x => ?_⟩
  · obtain rfl := List.mem_singleton.1 ha; exact hd b hb
  · rcases List.mem_append.1 hb with hb | hb
    · obtain rfl := List.mem_singleton.1 hb; exact hlow a ha
    · exact s3 a ha b hb
  · have : x ∈ O.take j ++ ([n] ++ O.drop j) ↔ x = n ∨ x ∈ O := by
      conv => rhs; rw [hO]
      simp only [List.mem_append, List.mem_singleton]
      constructor
      · rintro (h | h | h)
        · exact .inr (.inl h)
        · exact .inl h
        · exact .inr (.inr h)
      · rintro (h | h | h)
        · exact .inr (.inl h)
        · exact .inl h
        · exact .inr (.inr h)
    rw [this, h.2]
    constructor
    · rintro (rfl | ⟨i, h3, h4⟩)
      · exact ⟨k, by omega, hx, by omega⟩
      · exact ⟨i, by omega, h4⟩
    · rintro ⟨i, h3, h4, h5⟩
      rcases Nat.lt_or_ge i k with h6 | h6
      · exact .inr ⟨i, h6, h4, h5⟩
      · obtain rfl : i = k := by omega
        exact .inl (h4.symm.trans hx)
theorem info3i : ∃ i, Try.prog.info? 3 = some i ∧ i.zero = some (.int .i64 0) ∧ i.size = 1 ∧ i.bytes = 8 := by
  obtain ⟨i0, hi, hz0, hz1, hz2⟩ := info_parts info3'
  exact ⟨i0, hi, hz0, hz1, hz2⟩
/-- append([]int{n}, out[j:]...), onto a literal of its own at H. -/
theorem open_app1 (W : World) (ty b g co H off cc j : Nat) (n : Int) (O : List Int) (hO : W.ownsRow b 3 1 (.slice (some ⟨g, 0, none⟩) O.length co) O.length (O.map (Value.int .i64))) (hj : j ≤ O.length) (hl : O.length < 1000000)
    (hH : W.heap[H]? = some (.cells #[.int .i64 n] 3 (0, 0))) (hoff : off = j ∨ j = O.length) :
    ∃ A c w', (Builtin.append_ #[33, 33] ty #[.slice (some ⟨H, 0, none⟩) 1 1, .slice (some ⟨g, off, none⟩) (O.length - j) cc]).run Try.prog W = .ok (.slice A (1 + (O.length - j)) c) w' ∧
      w'.ownsRow H 3 1 (.slice A (1 + (O.length - j)) c) (1 + (O.length - j)) (([n] ++ O.drop j).map (Value.int .i64)) ∧ W.grownBy w' (some H) := by
  obtain ⟨i0, hi, hz0, hz1, hz2⟩ := info3i
  have hHl := blk_lt hH
  have hown : W.ownsRow H 3 1 (.slice (some ⟨H, 0, none⟩) 1 1) 1 [.int .i64 n] := ⟨rfl, .inr ⟨H, 1, #[.int .i64 n], rfl, Nat.le_refl _, hH, by omega, by unfold maxLen; omega, rfl, rfl⟩⟩
  obtain ⟨v', w', hr, ho, hg, _⟩ := run_append_own (P := Try.prog) W H 33 ty 3 i0 (.int .i64 0) 1 8 Try.underlying33 hi hz0 hz1 hz2 rfl (by decide) (.slice (some ⟨H, 0, none⟩) 1 1) 1 [.int .i64 n] hown
    ⟨g, off, none⟩ (O.length - j) cc ((O.drop j).map (Value.int .i64)) (by simp) (fun i u hu => by
      rcases hoff with rfl | hoff
      · have h2 := hO.cells (g := g) rfl (off + i) u (by rw [List.map_drop, List.getElem?_drop] at hu; exact hu)
        have e : Addr.add ⟨g, off, none⟩ i = Addr.add ⟨g, 0, none⟩ (off + i) := by
          unfold Addr.add
          by_cases e1 : i = 0 <;> by_cases e2 : off = 0 <;> simp [e1, e2]
        rw [e]; exact h2
      · rw [List.drop_eq_nil_of_le (by omega)] at hu
        simp at hu) (by intro u hu; obtain ⟨y, _, rfl⟩ := List.mem_map.1 hu; rfl) (by unfold maxLen; omega) (by omega) (by omega)
  obtain ⟨A, c, rfl⟩ := own_slice ho
  exact ⟨A, c, w', hr, by simpa using ho, hg⟩
/-- out = append(out[:j:j], append([]int{n}, out[j:]...)...) -/
theorem open_apps (w0 W : World) (co j off cc : Nat) (Ao : Option Addr) (n : Int) (O : List Int) (x45 x50 : Value) (hO : W.ownsRow w0.heap.size 3 1 (.slice Ao O.length co) O.length (O.map (Value.int .i64))) (hB : Below w0.heap.size w0 W) (hj : j ≤ O.length) (hl : O.length < 1000000)
    (hx : (O.length = 0 ∧ x45 = .slice none 0 0 ∧ x50 = .slice none 0 0) ∨ (∃ g, Ao = some ⟨g, 0, none⟩ ∧ x45 = .slice (some ⟨g, 0, none⟩) j j ∧ x50 = .slice (some ⟨g, off, none⟩) (O.length - j) cc ∧ (off = j ∨ j = O.length))) :
    ∃ v4 w4 v5 w5, (Builtin.append_ #[33, 33] 33 #[.slice (some ⟨W.heap.size, 0, none⟩) 1 1, x50]).run Try.prog (W.alloc (Obj.cells #[Value.int IntKind.i64 n] 3)).drew = .ok v4 w4 ∧
      (Builtin.append_ #[33, 33] 33 #[x45, v4]).run Try.prog w4 = .ok v5 w5 ∧ w5.ownsRow w0.heap.size 3 1 v5 (O.take j ++ ([n] ++ O.drop j)).length ((O.take j ++ ([n] ++ O.drop j)).map (Value.int .i64)) ∧ Below w0.heap.size w0 w5 := by
  obtain ⟨i0, hi, hz0, hz1, hz2⟩ := info3i
  obtain ⟨W1, hW1⟩ : ∃ W1, (W.alloc (Obj.cells #[Value.int IntKind.i64 n] 3)).drew = W1 := ⟨_, rfl⟩
  have hs0 := hB.size
  have hH : W1.heap[W.heap.size]? = some (.cells #[.int .i64 n] 3 (0, 0)) := hW1 ▸ heap_alloc_new W _
  have hB1 : Below w0.heap.size w0 W1 := hW1 ▸ below_drew (below_alloc hB _)
  have hsz : W1.heap.size = W.heap.size + 1 := by rw [← hW1]; simp [World.drew]
  rw [hW1]
  rcases hx with ⟨h0, rfl, rfl⟩ | ⟨g, rfl, rfl, rfl, hoff⟩
  · obtain rfl := List.eq_nil_of_length_eq_zero h0
    obtain rfl : j = 0 := by simpa using hj
    have hown : W1.ownsRow w0.heap.size 3 1 (.slice (some ⟨W.heap.size, 0, none⟩) 1 1) 1 [.int .i64 n] := ⟨rfl, .inr ⟨W.heap.size, 1, #[.int .i64 n], rfl, hs0, hH, by omega, by unfold maxLen; omega, rfl, rfl⟩⟩
    have hr1 := run_append_owned_none (P := Try.prog) (w := W1) w0.heap.size 33 33 3 i0 1 Try.underlying33 hi _ _ _ hown
    obtain ⟨v', w', hr, ho, hg, _⟩ := run_append_own (P := Try.prog) W1 w0.heap.size 33 33 3 i0 (.int .i64 0) 1 8 Try.underlying33 hi hz0 hz1 hz2 rfl (by decide) (.slice none 0 0) 0 [] (World.ownsRow_nil _ _ _ _)
      ⟨W.heap.size, 0, none⟩ 1 1 [.int .i64 n] rfl (fun i u hu => hown.cells (g := W.heap.size) rfl i u hu) (by simp [Value.oneCell']) (by unfold maxLen; omega) (by omega) (by omega)
    exact ⟨_, _, v', w', hr1, hr, by simpa using ho, hB1.grown hg (by omega) (fun k h => by simp [Value.ownBlock] at h)⟩
  · have hgl : g < W.heap.size := own_lt hO g rfl
    have hO1 : W1.ownsRow w0.heap.size 3 1 (.slice (some ⟨g, 0, none⟩) O.length co) O.length (O.map (Value.int .i64)) := own_move hO (fun k hk => by rw [← hW1]; obtain rfl : g = k := (by simpa [Value.ownBlock] using hk); exact Below.heap_alloc W _ g hgl)
    obtain ⟨A4, c4, w4, hr4, ho4, hg4⟩ := open_app1 W1 33 w0.heap.size g co W.heap.size off cc j n O hO1 hj hl hH hoff
    have hO4 : w4.ownsRow w0.heap.size 3 1 (.slice (some ⟨g, 0, none⟩) O.length co) O.length (O.map (Value.int .i64)) := own_move hO1 (fun k hk => by obtain rfl : g = k := (by simpa [Value.ownBlock] using hk); exact hg4.block g (by omega) (fun e => by injection e; omega))
    obtain ⟨g4, cap4, e4, _, hg4l⟩ := World.ownsRow.form ho4 (by omega)
    obtain ⟨rfl, rfl⟩ : A4 = some ⟨g4, 0, none⟩ ∧ c4 = cap4 := by injection e4 with e1 e2 e3; exact ⟨e1, e3⟩
    have hs4 := hg4.size
    obtain ⟨v', w', hr, ho, hg⟩ := run_append_arg_grows (P := Try.prog) w4 33 33 3 i0 (.int .i64 0) 1 8 Try.underlying33 hi hz0 hz1 hz2 rfl (by decide) ⟨g, 0, none⟩ j j ((O.take j).map (Value.int .i64)) (by simp; omega)
      (fun i u hu => hO4.cells (g := g) rfl i u (by
        rw [List.map_take, List.getElem?_take] at hu
        split at hu
        · exact hu
        · cases hu))
      ⟨g4, 0, none⟩ (1 + (O.length - j)) c4 (([n] ++ O.drop j).map (Value.int .i64)) (by simp; omega) (fun i u hu => ho4.cells (g := g4) rfl i u hu) (by omega) (by unfold maxLen; omega) (by omega)
    refine ⟨_, w4, v', w', hr4, hr, ?_, (hB1.grown hg4 (by omega) (fun k h => by injection h; omega)).grown hg (by omega) (fun k h => by cases h)⟩
    have h5 := own_weaken ho (base' := w0.heap.size) (by omega)
    rw [← List.map_append] at h5
    have e : (O.take j ++ ([n] ++ O.drop j)).length = j + (1 + (O.length - j)) := by simp; omega
    rw [e]; exact h5
set_option maxHeartbeats 4000000 in
set_option maxRecDepth 100000 in
theorem refOpen (A : Option Addr) (c : Nat) (l : List S55) (low : Int) (w : World) (hr : Kd.C k55 w A l.length l) (hc : l.length ≤ c) (hl : l.length < 1000000) :
    Calls Try.prog 31 #[.slice A l.length c, .int .i64 low] w fun e w' => ∃ (v : Value) (O : List Int), e = .returned v ∧ w'.ownsRow w.heap.size 3 1 v O.length (O.map (Value.int .i64)) ∧ OpenAt l low l.length O ∧ O.length ≤ l.length ∧ Below w.heap.size w w' := by
  obtain ⟨i0, hi, hz0, hz1, hz2⟩ := info_parts info3'
  have HR := Aside0.mk hr
  clear hr
  go_enter Try.func31, Try.ntmps31
  go_wp2
  go_loopw [5, 6] (fun v m wr => ∃ (k : Nat) (O : List Int), m = .int .i64 k ∧ k ≤ l.length ∧ O.length ≤ k ∧ Aside0 (wr.ownsRow w.heap.size 3 1 v O.length (O.map (Value.int .i64))) ∧ Aside0 (Below w.heap.size w wr) ∧ Aside0 (OpenAt l low k O)) (fun _ m _ => l.length - (intOf m).toNat)
  case atStart => exact ⟨0, [], rfl, by omega, by simp, ⟨show w.ownsRow _ 3 1 (.slice none 0 0) 0 [] from World.ownsRow_nil _ _ _ _⟩, ⟨Below.refl _ _⟩, ⟨OpenAt.start l low⟩⟩
  case round =>
    obtain ⟨k, O, rfl, hk, hok, HO, HB, HP⟩ := hrel
    obtain ⟨Ao, co, rfl, hco, hCo⟩ := nodes_C HO.out
    have HCO := Aside0.mk hCo
    have HCC := Aside0.mk hco
    clear hCo hco
    by_cases hlt : k < l.length
    · have hlt' : (k : Int) < (l.length : Int) := by omega
      have hk0 : 0 ≤ (k : Int) := by omega
      obtain ⟨ad, rfl, x0, x1, x2, x3, x4⟩ := at_T55 HR.out k hk0 hlt'
      replace x2 := (HB.out.cell (World.block_lt_of_cell? w _ x2)).trans x2
      simp only [Int.toNat_natCast] at x2
      clear x0 x1 x3 x4
      have HX := Aside0.mk (show rd_T55 l (k : Int) = rd_T55 l k from rfl)
      obtain ⟨n, hn⟩ : ∃ n, (rd_T55 l k).f1 = n := ⟨_, rfl⟩
      rw [hn] at x2
      have HN := Aside0.mk hn
      clear hn
      by_cases hle : n ≤ low
      · go_wp2
        go_roundw
        case rel => exact ⟨k + 1, O, by go_num, by omega, by omega, HO, HB, ⟨HP.out.skip (.inl (by rw [HN.out]; exact hle))⟩⟩
        case measure => simp [intOf]; omega
      obtain ⟨kk, hkk⟩ := (in_ev O n (by omega)).rounds
      by_cases hin : n ∈ O
      · rw [decide_eq_true hin] at hkk
        have HKK := Aside0.mk hkk
        clear hkk
        go_wp2_with (first | (go_at_call 21; refine (changeoverref01_In.calls kk _ _ O n true _ HCO.out HCC.out HKK.out).mono ?_; rintro e w' ⟨rfl, ⟨nd, rfl⟩⟩))
        go_roundw
        case rel => exact ⟨k + 1, O, by go_num, by omega, by omega, ⟨show (wr.drewN nd).ownsRow _ _ _ _ _ _ from HO.out⟩, ⟨pw_below_drewN HB.out nd⟩, ⟨HP.out.skip (.inr (by rw [HN.out]; exact hin))⟩⟩
        case measure => simp [intOf]; omega
      rw [decide_eq_false hin] at hkk
      have HKK := Aside0.mk hkk
      clear hkk
      go_wp2_with (first | (go_at_call 21; refine (changeoverref01_In.calls kk _ _ O n false _ HCO.out HCC.out HKK.out).mono ?_; rintro e w' ⟨rfl, ⟨nd, rfl⟩⟩))
      obtain ⟨W, hW⟩ : ∃ W, wr.drewN nd = W := ⟨_, rfl⟩
      have HO1 : Aside0 (W.ownsRow w.heap.size 3 1 (.slice Ao O.length co) O.length (O.map (Value.int .i64))) := ⟨hW ▸ (show (wr.drewN nd).ownsRow _ _ _ _ _ _ from HO.out)⟩
      have HB1 : Aside0 (Below w.heap.size w W) := ⟨hW ▸ pw_below_drewN HB.out nd⟩
      have HCO1 : Aside0 (Kd.C (Kd.int .i64) W Ao O.length O) := ⟨hW ▸ Kd.C_drewN HCO.out nd⟩
      rw [hW]
      clear HO HB HCO HKK hW x2
      go_loop [8] (fun m => ∃ j : Nat, m = .int .i64 j ∧ j ≤ O.length ∧ Aside0 (∀ y ∈ O.take j, y < n)) (fun m => O.length - (intOf m).toNat)
      case atStart => exact ⟨0, rfl, by omega, ⟨fun y hy => absurd hy (by simp)⟩⟩
      case round =>
        obtain ⟨j, rfl, hj, HL⟩ := hrel
        by_cases hjl : j < O.length
        · obtain ⟨g, cap, eg, _, hgl⟩ := World.ownsRow.form HO1.out (by omega)
          obtain ⟨rfl, _, rfl⟩ : Ao = some ⟨g, 0, none⟩ ∧ True ∧ co = cap := by injection eg with e1 e2 e3; exact ⟨e1, trivial, e3⟩
          have y0 := (own_at HO1.out (j : Int) (by omega) (by omega)).1
          simp only [Int.toNat_natCast] at y0
          by_cases hjn : rd O (j : Int) < n
          · have HS : Aside0 (∀ y ∈ O.take (j + 1), y < n) := ⟨fun y hy => by
              rw [List.take_add_one, List.getElem?_eq_getElem hjl] at hy
              rcases List.mem_append.1 hy with hy | hy
              · exact HL.out y hy
              · obtain rfl : y = O[j] := by simpa using hy
                rw [rd_get hjl] at hjn; exact hjn⟩
            go_wp2
            go_round
            case rel => exact ⟨j + 1, by go_num, by omega, HS⟩
            case measure => simp [intOf]; omega
          · have HH : Aside0 (j < O.length → n ≤ rd O j) := ⟨fun _ => by omega⟩
            have hjc : j ≤ co := by have := HCC.out; omega
            have hje : ¬ co = j := by have := HCC.out; omega
            have HAP := Aside0.mk (open_apps w W co j j (co - j) _ n O (.slice (some ⟨g, 0, none⟩) j j) (.slice (some ⟨g, j, none⟩) (O.length - j) (co - j)) HO1.out HB1.out hj (by omega) (.inr ⟨g, rfl, rfl, rfl, .inl rfl⟩))
            obtain ⟨v4, w4, v5, w5, hr4, hr5, ho5, hb5⟩ := HAP.out
            have HR4 := Aside0.mk hr4
            have HR5 := Aside0.mk hr5
            have HO5 := Aside0.mk ho5
            have HB5 := Aside0.mk hb5
            have HP5 := Aside0.mk (HP.out.put (by rw [HN.out]; omega) (by rw [HN.out]; exact hin) j hj (by rw [HN.out]; exact HL.out) (by rw [HN.out]; exact HH.out))
            rw [HN.out] at HP5
            have hlen5 : (O.take j ++ ([n] ++ O.drop j)).length ≤ k + 1 := by simp; omega
            clear ho5 hb5 hr4 hr5 HAP
            go_upto_region 10 with fail
            go_region_law (first
              | (refine Gen.step_append_run rfl (.tmp 47) (.tmp 50) 33 33 rfl (.slice (some ⟨W.heap.size, 0, none⟩) 1 1) (.slice (some ⟨g, j, none⟩) (O.length - j) (co - j)) (by first | rfl | (simp [Act.eval, Act.put]; done) | (simp [Act.eval, Act.put]; omega)) (by first | rfl | (simp [Act.eval, Act.put]; done) | (simp [Act.eval, Act.put]; omega)) HR4.out ?_)
              | (refine Gen.step_append_run rfl (.tmp 45) (.tmp 51) 33 33 rfl (.slice (some ⟨g, 0, none⟩) j j) v4 (by first | rfl | (simp [Act.eval, Act.put]; done) | (simp [Act.eval, Act.put]; omega)) (by first | rfl | (simp [Act.eval, Act.put]; done) | (simp [Act.eval, Act.put]; omega)) HR5.out ?_)
              | fail)
            go_wp2
            go_roundw
            case rel => exact ⟨k + 1, O.take j ++ ([n] ++ O.drop j), by go_num, by omega, hlen5, HO5, HB5, HP5⟩
            case measure => simp [intOf]; omega
        · have hje' : j = O.length := by omega
          have HH : Aside0 (j < O.length → n ≤ rd O j) := ⟨fun h => by omega⟩
          rcases HO1.out.2 with ⟨eg, h0⟩ | ⟨g, cap, cur, eg, _⟩
          · obtain ⟨rfl, rfl⟩ : Ao = none ∧ co = 0 := by injection eg with e1 e2 e3; exact ⟨e1, e3⟩
            obtain rfl : O = [] := List.eq_nil_of_length_eq_zero h0
            obtain rfl : j = 0 := by simpa using hje'
            have HAP := Aside0.mk (open_apps w W 0 0 0 0 _ n [] (.slice none 0 0) (.slice none 0 0) HO1.out HB1.out hj (by omega) (.inl ⟨rfl, rfl, rfl⟩))
            obtain ⟨v4, w4, v5, w5, hr4, hr5, ho5, hb5⟩ := HAP.out
            have HR4 := Aside0.mk hr4
            have HR5 := Aside0.mk hr5
            have HO5 := Aside0.mk ho5
            have HB5 := Aside0.mk hb5
            have HP5 := Aside0.mk (HP.out.put (by rw [HN.out]; omega) (by rw [HN.out]; exact hin) 0 hj (by rw [HN.out]; exact HL.out) (by rw [HN.out]; exact HH.out))
            rw [HN.out] at HP5
            have hlen5 : (([] : List Int).take 0 ++ ([n] ++ ([] : List Int).drop 0)).length ≤ k + 1 := by simp
            clear ho5 hb5 hr4 hr5 HAP
            simp only [List.length_nil, Int.natCast_zero]
            clear hje' hjl HCC HH
            go_wp2
            go_region_law (first
              | (refine Gen.step_append_run rfl (.tmp 47) (.tmp 50) 33 33 rfl (.slice (some ⟨W.heap.size, 0, none⟩) 1 1) (.slice none 0 0) (by first | rfl | (simp [Act.eval, Act.put]; done) | (simp [Act.eval, Act.put]; omega)) (by first | rfl | (simp [Act.eval, Act.put]; done) | (simp [Act.eval, Act.put]; omega)) HR4.out ?_)
              | (refine Gen.step_append_run rfl (.tmp 45) (.tmp 51) 33 33 rfl (.slice none 0 0) v4 (by first | rfl | (simp [Act.eval, Act.put]; done) | (simp [Act.eval, Act.put]; omega)) (by first | rfl | (simp [Act.eval, Act.put]; done) | (simp [Act.eval, Act.put]; omega)) HR5.out ?_)
              | fail)
            go_wp2
            go_roundw
            case rel => exact ⟨k + 1, ([] : List Int).take 0 ++ ([n] ++ ([] : List Int).drop 0), by go_num, by omega, hlen5, HO5, HB5, HP5⟩
            case measure => simp [intOf]; omega
          · obtain ⟨rfl, _, rfl⟩ : Ao = some ⟨g, 0, none⟩ ∧ True ∧ co = cap := by injection eg with e1 e2 e3; exact ⟨e1, trivial, e3⟩
            have hjc : j ≤ co := by have := HCC.out; omega
            by_cases hje : co = j
            · have hje0 : O.length ≤ O.length := Nat.le_refl _
              have HAP := Aside0.mk (open_apps w W co j 0 (co - j) _ n O (.slice (some ⟨g, 0, none⟩) j j) (.slice (some ⟨g, 0, none⟩) (O.length - j) (co - j)) HO1.out HB1.out hj (by omega) (.inr ⟨g, rfl, rfl, rfl, .inr hje'⟩))
              obtain ⟨v4, w4, v5, w5, hr4, hr5, ho5, hb5⟩ := HAP.out
              have HR4 := Aside0.mk hr4
              have HR5 := Aside0.mk hr5
              have HO5 := Aside0.mk ho5
              have HB5 := Aside0.mk hb5
              have HP5 := Aside0.mk (HP.out.put (by rw [HN.out]; omega) (by rw [HN.out]; exact hin) j hj (by rw [HN.out]; exact HL.out) (by rw [HN.out]; exact HH.out))
              rw [HN.out] at HP5
              have hlen5 : (O.take j ++ ([n] ++ O.drop j)).length ≤ k + 1 := by simp; omega
              clear ho5 hb5 hr4 hr5 HAP
              go_upto_region 10 with fail
              go_region_law (first
                | (refine Gen.step_append_run rfl (.tmp 47) (.tmp 50) 33 33 rfl (.slice (some ⟨W.heap.size, 0, none⟩) 1 1) (.slice (some ⟨g, 0, none⟩) (O.length - j) (co - j)) (by first | rfl | (simp [Act.eval, Act.put]; done) | (simp [Act.eval, Act.put]; omega)) (by first | rfl | (simp [Act.eval, Act.put]; done) | (simp [Act.eval, Act.put]; omega)) HR4.out ?_)
                | (refine Gen.step_append_run rfl (.tmp 45) (.tmp 51) 33 33 rfl (.slice (some ⟨g, 0, none⟩) j j) v4 (by first | rfl | (simp [Act.eval, Act.put]; done) | (simp [Act.eval, Act.put]; omega)) (by first | rfl | (simp [Act.eval, Act.put]; done) | (simp [Act.eval, Act.put]; omega)) HR5.out ?_)
                | fail)
              go_wp2
              go_roundw
              case rel => exact ⟨k + 1, O.take j ++ ([n] ++ O.drop j), by go_num, by omega, hlen5, HO5, HB5, HP5⟩
              case measure => simp [intOf]; omega
            · have hjeL : ¬ co = O.length := by omega
              have HAP := Aside0.mk (open_apps w W co j j (co - j) _ n O (.slice (some ⟨g, 0, none⟩) j j) (.slice (some ⟨g, j, none⟩) (O.length - j) (co - j)) HO1.out HB1.out hj (by omega) (.inr ⟨g, rfl, rfl, rfl, .inl rfl⟩))
              obtain ⟨v4, w4, v5, w5, hr4, hr5, ho5, hb5⟩ := HAP.out
              have HR4 := Aside0.mk hr4
              have HR5 := Aside0.mk hr5
              have HO5 := Aside0.mk ho5
              have HB5 := Aside0.mk hb5
              have HP5 := Aside0.mk (HP.out.put (by rw [HN.out]; omega) (by rw [HN.out]; exact hin) j hj (by rw [HN.out]; exact HL.out) (by rw [HN.out]; exact HH.out))
              rw [HN.out] at HP5
              have hlen5 : (O.take j ++ ([n] ++ O.drop j)).length ≤ k + 1 := by simp; omega
              clear ho5 hb5 hr4 hr5 HAP
              go_upto_region 10 with fail
              go_region_law (first
                | (refine Gen.step_append_run rfl (.tmp 47) (.tmp 50) 33 33 rfl (.slice (some ⟨W.heap.size, 0, none⟩) 1 1) (.slice (some ⟨g, j, none⟩) (O.length - j) (co - j)) (by first | rfl | (simp [Act.eval, Act.put]; done) | (simp [Act.eval, Act.put]; omega)) (by first | rfl | (simp [Act.eval, Act.put]; done) | (simp [Act.eval, Act.put]; omega)) HR4.out ?_)
                | (refine Gen.step_append_run rfl (.tmp 45) (.tmp 51) 33 33 rfl (.slice (some ⟨g, 0, none⟩) j j) v4 (by first | rfl | (simp [Act.eval, Act.put]; done) | (simp [Act.eval, Act.put]; omega)) (by first | rfl | (simp [Act.eval, Act.put]; done) | (simp [Act.eval, Act.put]; omega)) HR5.out ?_)
                | fail)
              go_wp2
              go_roundw
              case rel => exact ⟨k + 1, O.take j ++ ([n] ++ O.drop j), by go_num, by omega, hlen5, HO5, HB5, HP5⟩
              case measure => simp [intOf]; omega
    · obtain rfl : k = l.length := by omega
      go_wp2
      go_ret
      exact ⟨_, O, rfl, HO.out, HP.out, hok, HB.out⟩
end Go.Proofs.Ytalpnhgkhhmmlaa.PTal
