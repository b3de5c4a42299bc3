-- By the session: contracts proved by hand.
import Derived.Test.YtalpnhgkhhmmlaaLawsConf4
namespace Go.Proofs.Ytalpnhgkhhmmlaa.PConf
open Go.RowKit Go.Proofs.YtalpnhgkhhmmlaaW.PrintWords Go.Proofs.YtalpnhgkhhmmlaaW.PrintLast Go.Proofs.YtalpnhgkhhmmlaaW.PrintMore
set_option linter.unusedVariables false
set_option linter.unusedSimpArgs false
theorem below_after {b : Nat} {w w1 w2 : World} (h : Below b w w1) (hb : b ≤ w.heap.size) (h2 : Below w1.heap.size w1 w2) : Below b w w2 := below_then h (Nat.le_trans hb h.size) h2
set_option maxHeartbeats 8000000 in
set_option maxRecDepth 100000 in
theorem lawChanges_large (k : Nat) (A0 : Option Addr) (c0 : Nat) (l0 : List S39) (a1 x y : Int) (w : World) (hr0 : Kd.C k39 w A0 l0.length l0) (hc0 : l0.length ≤ c0) (hA : changeoverlaw11_awake.f k = some true) (hL : changeoverref11_Large.f k l0 = some true) :
    Calls Try.prog 3 #[.slice A0 l0.length c0, .int .i64 a1, .agg #[.int .i64 x, .int .i64 y]] w fun e w' => e = .returned (.bool true) ∧ Below w.heap.size w w' := by
  have HR := Aside0.mk hr0
  have HC0 := Aside0.mk hc0
  have HA := Aside0.mk hA
  have HL := Aside0.mk hL
  clear hr0 hc0 hA hL
  go_enter Try.func3, Try.ntmps3
  go_wp2_with fail
  refine (changeoverref11_Large.calls k _ _ _ _ _ (Kd.C_alloc HR.out _) HC0.out HL.out).mono ?_
  rintro e w1 ⟨rfl, m1, rfl⟩
  have HB1 := Aside0.mk (pw_below_drewN (below_alloc (Below.refl w.heap.size w) (Obj.cells #[Value.int IntKind.i64 x, Value.int IntKind.i64 y] 23)) m1)
  go_wp2_with fail
  refine (changeoverlaw11_awake.calls k _ _ HA.out).mono ?_
  rintro e w9 ⟨rfl, hb9⟩
  have HB9 := Aside0.mk (below_after HB1.out (Nat.le_refl _) hb9)
  clear hb9
  go_wp2
  go_ret
  exact ⟨rfl, HB9.out⟩
set_option maxHeartbeats 8000000 in
set_option maxRecDepth 100000 in
theorem lawChanges_form (k : Nat) (A0 : Option Addr) (c0 : Nat) (l0 : List S39) (a1 x y : Int) (w : World) (hr0 : Kd.C k39 w A0 l0.length l0) (hc0 : l0.length ≤ c0) (hA : changeoverlaw11_awake.f k = some true) (hL : changeoverref11_Large.f k l0 = some false) (hCh : conf_Change.f k l0 a1 x y = some ([], 3)) (hCk : changeoverref11_Check.f k l0 = some false) :
    Calls Try.prog 3 #[.slice A0 l0.length c0, .int .i64 a1, .agg #[.int .i64 x, .int .i64 y]] w fun e w' => e = .returned (.bool true) ∧ Below w.heap.size w w' := by
  have HR := Aside0.mk hr0
  have HC0 := Aside0.mk hc0
  have HA := Aside0.mk hA
  have HL := Aside0.mk hL
  have HCh := Aside0.mk hCh
  have HCk := Aside0.mk hCk
  clear hr0 hc0 hA hL hCh hCk
  go_enter Try.func3, Try.ntmps3
  go_wp2_with fail
  refine (changeoverref11_Large.calls k _ _ _ _ _ (Kd.C_alloc HR.out _) HC0.out HL.out).mono ?_
  rintro e w1 ⟨rfl, m1, rfl⟩
  have HB1 := Aside0.mk (pw_below_drewN (below_alloc (Below.refl w.heap.size w) (Obj.cells #[Value.int IntKind.i64 x, Value.int IntKind.i64 y] 23)) m1)
  go_wp2_with fail
  refine (conf_Change.calls k _ _ _ _ _ _ _ _ _ (Kd.C_below HR.out HB1.out) HC0.out HCh.out).mono ?_
  rintro e w2 ⟨vx, rfl, hx, hb2⟩
  obtain ⟨Ax, cx, hvx⟩ := Kd.V_slice hx
  subst hvx
  have HB2 := Aside0.mk (below_after HB1.out (Nat.le_refl _) hb2)
  have HX2 := Aside0.mk (Kd.V_lower (Kd.V_mono (ok' := fun _ => True) hx (fun _ _ => trivial)) (Nat.zero_le _))
  have hz0 : w2.cell? ⟨w.heap.size, 0, none⟩ = some (.int .i64 x) := pw_cell_below hb2 (show (w.alloc (Obj.cells #[Value.int IntKind.i64 x, Value.int IntKind.i64 y] 23)).cell? ⟨w.heap.size, 0, none⟩ = some (Value.int .i64 x) from blk_cell (heap_alloc_new w _) 0)
  have hz1 : w2.cell? ⟨w.heap.size, 1, none⟩ = some (.int .i64 y) := pw_cell_below hb2 (show (w.alloc (Obj.cells #[Value.int IntKind.i64 x, Value.int IntKind.i64 y] 23)).cell? ⟨w.heap.size, 1, none⟩ = some (Value.int .i64 y) from blk_cell (heap_alloc_new w _) 1)
  clear hb2 hx
  clear hz0 hz1 HX2
  go_wp2_with fail
  refine (changeoverref11_Check.calls k _ _ _ _ _ (Kd.C_below HR.out HB2.out) HC0.out HCk.out).mono ?_
  rintro e w3 ⟨rfl, m3, rfl⟩
  go_wp2_with fail
  refine (changeoverlaw11_awake.calls k _ _ HA.out).mono ?_
  rintro e w9 ⟨rfl, hb9⟩
  have HB9 := Aside0.mk (below_after (pw_below_drewN HB2.out m3) (Nat.le_refl _) hb9)
  clear hb9
  go_wp2
  go_ret
  exact ⟨rfl, HB9.out⟩
set_option maxHeartbeats 8000000 in
set_option maxRecDepth 100000 in
theorem lawChanges_rangelo (k : Nat) (A0 : Option Addr) (c0 : Nat) (l0 : List S39) (a1 x y : Int) (w : World) (hr0 : Kd.C k39 w A0 l0.length l0) (hc0 : l0.length ≤ c0) (hA : changeoverlaw11_awake.f k = some true) (hL : changeoverref11_Large.f k l0 = some false) (hCh : conf_Change.f k l0 a1 x y = some ([], 6)) (hCk : changeoverref11_Check.f k l0 = some true) (hrange : a1 < 1) :
    Calls Try.prog 3 #[.slice A0 l0.length c0, .int .i64 a1, .agg #[.int .i64 x, .int .i64 y]] w fun e w' => e = .returned (.bool true) ∧ Below w.heap.size w w' := by
  have HR := Aside0.mk hr0
  have HC0 := Aside0.mk hc0
  have HA := Aside0.mk hA
  have HL := Aside0.mk hL
  have HCh := Aside0.mk hCh
  have HCk := Aside0.mk hCk
  clear hr0 hc0 hA hL hCh hCk
  go_enter Try.func3, Try.ntmps3
  go_wp2_with fail
  refine (changeoverref11_Large.calls k _ _ _ _ _ (Kd.C_alloc HR.out _) HC0.out HL.out).mono ?_
  rintro e w1 ⟨rfl, m1, rfl⟩
  have HB1 := Aside0.mk (pw_below_drewN (below_alloc (Below.refl w.heap.size w) (Obj.cells #[Value.int IntKind.i64 x, Value.int IntKind.i64 y] 23)) m1)
  go_wp2_with fail
  refine (conf_Change.calls k _ _ _ _ _ _ _ _ _ (Kd.C_below HR.out HB1.out) HC0.out HCh.out).mono ?_
  rintro e w2 ⟨vx, rfl, hx, hb2⟩
  obtain ⟨Ax, cx, hvx⟩ := Kd.V_slice hx
  subst hvx
  have HB2 := Aside0.mk (below_after HB1.out (Nat.le_refl _) hb2)
  have HX2 := Aside0.mk (Kd.V_lower (Kd.V_mono (ok' := fun _ => True) hx (fun _ _ => trivial)) (Nat.zero_le _))
  have hz0 : w2.cell? ⟨w.heap.size, 0, none⟩ = some (.int .i64 x) := pw_cell_below hb2 (show (w.alloc (Obj.cells #[Value.int IntKind.i64 x, Value.int IntKind.i64 y] 23)).cell? ⟨w.heap.size, 0, none⟩ = some (Value.int .i64 x) from blk_cell (heap_alloc_new w _) 0)
  have hz1 : w2.cell? ⟨w.heap.size, 1, none⟩ = some (.int .i64 y) := pw_cell_below hb2 (show (w.alloc (Obj.cells #[Value.int IntKind.i64 x, Value.int IntKind.i64 y] 23)).cell? ⟨w.heap.size, 1, none⟩ = some (Value.int .i64 y) from blk_cell (heap_alloc_new w _) 1)
  clear hb2 hx
  clear hz0 hz1 HX2
  go_wp2_with fail
  refine (changeoverref11_Check.calls k _ _ _ _ _ (Kd.C_below HR.out HB2.out) HC0.out HCk.out).mono ?_
  rintro e w3 ⟨rfl, m3, rfl⟩
  go_wp2_with fail
  refine (changeoverlaw11_awake.calls k _ _ HA.out).mono ?_
  rintro e w9 ⟨rfl, hb9⟩
  have HB9 := Aside0.mk (below_after (pw_below_drewN HB2.out m3) (Nat.le_refl _) hb9)
  clear hb9
  go_wp2
  go_ret
  exact ⟨rfl, HB9.out⟩
set_option maxHeartbeats 8000000 in
set_option maxRecDepth 100000 in
theorem lawChanges_rangehi (k : Nat) (A0 : Option Addr) (c0 : Nat) (l0 : List S39) (a1 x y : Int) (w : World) (hr0 : Kd.C k39 w A0 l0.length l0) (hc0 : l0.length ≤ c0) (hA : changeoverlaw11_awake.f k = some true) (hL : changeoverref11_Large.f k l0 = some false) (hCh : conf_Change.f k l0 a1 x y = some ([], 6)) (hCk : changeoverref11_Check.f k l0 = some true) (hrange : a1 > 4294967292) (hnot : ¬ a1 < 1) :
    Calls Try.prog 3 #[.slice A0 l0.length c0, .int .i64 a1, .agg #[.int .i64 x, .int .i64 y]] w fun e w' => e = .returned (.bool true) ∧ Below w.heap.size w w' := by
  have HR := Aside0.mk hr0
  have HC0 := Aside0.mk hc0
  have HA := Aside0.mk hA
  have HL := Aside0.mk hL
  have HCh := Aside0.mk hCh
  have HCk := Aside0.mk hCk
  clear hr0 hc0 hA hL hCh hCk
  go_enter Try.func3, Try.ntmps3
  go_wp2_with fail
  refine (changeoverref11_Large.calls k _ _ _ _ _ (Kd.C_alloc HR.out _) HC0.out HL.out).mono ?_
  rintro e w1 ⟨rfl, m1, rfl⟩
  have HB1 := Aside0.mk (pw_below_drewN (below_alloc (Below.refl w.heap.size w) (Obj.cells #[Value.int IntKind.i64 x, Value.int IntKind.i64 y] 23)) m1)
  go_wp2_with fail
  refine (conf_Change.calls k _ _ _ _ _ _ _ _ _ (Kd.C_below HR.out HB1.out) HC0.out HCh.out).mono ?_
  rintro e w2 ⟨vx, rfl, hx, hb2⟩
  obtain ⟨Ax, cx, hvx⟩ := Kd.V_slice hx
  subst hvx
  have HB2 := Aside0.mk (below_after HB1.out (Nat.le_refl _) hb2)
  have HX2 := Aside0.mk (Kd.V_lower (Kd.V_mono (ok' := fun _ => True) hx (fun _ _ => trivial)) (Nat.zero_le _))
  have hz0 : w2.cell? ⟨w.heap.size, 0, none⟩ = some (.int .i64 x) := pw_cell_below hb2 (show (w.alloc (Obj.cells #[Value.int IntKind.i64 x, Value.int IntKind.i64 y] 23)).cell? ⟨w.heap.size, 0, none⟩ = some (Value.int .i64 x) from blk_cell (heap_alloc_new w _) 0)
  have hz1 : w2.cell? ⟨w.heap.size, 1, none⟩ = some (.int .i64 y) := pw_cell_below hb2 (show (w.alloc (Obj.cells #[Value.int IntKind.i64 x, Value.int IntKind.i64 y] 23)).cell? ⟨w.heap.size, 1, none⟩ = some (Value.int .i64 y) from blk_cell (heap_alloc_new w _) 1)
  clear hb2 hx
  clear hz0 hz1 HX2
  go_wp2_with fail
  refine (changeoverref11_Check.calls k _ _ _ _ _ (Kd.C_below HR.out HB2.out) HC0.out HCk.out).mono ?_
  rintro e w3 ⟨rfl, m3, rfl⟩
  go_wp2_with fail
  refine (changeoverlaw11_awake.calls k _ _ HA.out).mono ?_
  rintro e w9 ⟨rfl, hb9⟩
  have HB9 := Aside0.mk (below_after (pw_below_drewN HB2.out m3) (Nat.le_refl _) hb9)
  clear hb9
  go_wp2
  go_ret
  exact ⟨rfl, HB9.out⟩
set_option maxHeartbeats 8000000 in
set_option maxRecDepth 100000 in
theorem lawChanges_member (k : Nat) (A0 : Option Addr) (c0 : Nat) (l0 : List S39) (a1 x y : Int) (w : World) (hr0 : Kd.C k39 w A0 l0.length l0) (hc0 : l0.length ≤ c0) (hA : changeoverlaw11_awake.f k = some true) (hL : changeoverref11_Large.f k l0 = some false) (hCh : conf_Change.f k l0 a1 x y = some ([], 16)) (hCk : changeoverref11_Check.f k l0 = some true) (hRc : changeoverref11_Change.f k l0 a1 x y = some ([], false)) (hn1 : ¬ a1 < 1) (hn2 : ¬ a1 > 4294967292) :
    Calls Try.prog 3 #[.slice A0 l0.length c0, .int .i64 a1, .agg #[.int .i64 x, .int .i64 y]] w fun e w' => e = .returned (.bool true) ∧ Below w.heap.size w w' := by
  have HR := Aside0.mk hr0
  have HC0 := Aside0.mk hc0
  have HA := Aside0.mk hA
  have HL := Aside0.mk hL
  have HCh := Aside0.mk hCh
  have HCk := Aside0.mk hCk
  have HRc := Aside0.mk hRc
  clear hr0 hc0 hA hL hCh hCk hRc
  go_enter Try.func3, Try.ntmps3
  go_wp2_with fail
  refine (changeoverref11_Large.calls k _ _ _ _ _ (Kd.C_alloc HR.out _) HC0.out HL.out).mono ?_
  rintro e w1 ⟨rfl, m1, rfl⟩
  have HB1 := Aside0.mk (pw_below_drewN (below_alloc (Below.refl w.heap.size w) (Obj.cells #[Value.int IntKind.i64 x, Value.int IntKind.i64 y] 23)) m1)
  go_wp2_with fail
  refine (conf_Change.calls k _ _ _ _ _ _ _ _ _ (Kd.C_below HR.out HB1.out) HC0.out HCh.out).mono ?_
  rintro e w2 ⟨vx, rfl, hx, hb2⟩
  obtain ⟨Ax, cx, hvx⟩ := Kd.V_slice hx
  subst hvx
  have HB2 := Aside0.mk (below_after HB1.out (Nat.le_refl _) hb2)
  have HX2 := Aside0.mk (Kd.V_lower (Kd.V_mono (ok' := fun _ => True) hx (fun _ _ => trivial)) (Nat.zero_le _))
  have hz0 : w2.cell? ⟨w.heap.size, 0, none⟩ = some (.int .i64 x) := pw_cell_below hb2 (show (w.alloc (Obj.cells #[Value.int IntKind.i64 x, Value.int IntKind.i64 y] 23)).cell? ⟨w.heap.size, 0, none⟩ = some (Value.int .i64 x) from blk_cell (heap_alloc_new w _) 0)
  have hz1 : w2.cell? ⟨w.heap.size, 1, none⟩ = some (.int .i64 y) := pw_cell_below hb2 (show (w.alloc (Obj.cells #[Value.int IntKind.i64 x, Value.int IntKind.i64 y] 23)).cell? ⟨w.heap.size, 1, none⟩ = some (Value.int .i64 y) from blk_cell (heap_alloc_new w _) 1)
  clear hb2 hx
  go_wp2_with fail
  refine (changeoverref11_Check.calls k _ _ _ _ _ (Kd.C_below HR.out HB2.out) HC0.out HCk.out).mono ?_
  rintro e w3 ⟨rfl, m3, rfl⟩
  go_wp2_with fail
  refine (changeoverref11_Change.calls k (fun k_ => k_ < w.heap.size) _ _ _ _ _ _ _ _ _ (Kd.V_mk HC0.out (Kd.F_below (Kd.C_F k39_heap HR.out) (pw_below_drewN HB2.out m3))) HRc.out).mono ?_
  rintro e w4 ⟨vw, rfl, hw, hb4⟩
  obtain ⟨Aw, cw, hvw⟩ := Kd.N_slice hw
  subst hvw
  have HB4 := Aside0.mk (below_after (pw_below_drewN HB2.out m3) (Nat.le_refl _) hb4)
  have HW4 := Aside0.mk (Kd.N_reads' hw).2
  have HX4 := Aside0.mk (Kd.V_below (Kd.V_drewN HX2.out m3) hb4)
  clear hz0 hz1 HX2 hb4 hw
  go_wp2_with fail
  refine (changeoverlaw11_awake.calls k _ _ HA.out).mono ?_
  rintro e w9 ⟨rfl, hb9⟩
  have HB9 := Aside0.mk (below_after HB4.out (Nat.le_refl _) hb9)
  clear hb9
  go_wp2
  go_ret
  exact ⟨rfl, HB9.out⟩
set_option maxHeartbeats 8000000 in
set_option maxRecDepth 100000 in
theorem lawChanges_done (X : List S39) (k : Nat) (A0 : Option Addr) (c0 : Nat) (l0 : List S39) (a1 x y : Int) (w : World) (hr0 : Kd.C k39 w A0 l0.length l0) (hc0 : l0.length ≤ c0) (hA : changeoverlaw11_awake.f k = some true) (hL : changeoverref11_Large.f k l0 = some false) (hCh : conf_Change.f k l0 a1 x y = some (X, 0)) (hCk : changeoverref11_Check.f k l0 = some true) (hRc : changeoverref11_Change.f k l0 a1 x y = some (X, true)) (hS : changeoverref11_Same.f k X X = some true) (hCx : changeoverref11_Check.f k X = some true) (hAt : ∀ i : Nat, i < 3 → conf_At.f k X (a1 + ((i : Int) + 1)) = some (atF l0 (a1 + ((i : Int) + 1))) ∧ changeoverref01_Ints.f k (atF l0 (a1 + ((i : Int) + 1))) (atF l0 (a1 + ((i : Int) + 1))) = some true) (hn1 : ¬ a1 < 1) (hn2 : ¬ a1 > 4294967292)  :
    Calls Try.prog 3 #[.slice A0 l0.length c0, .int .i64 a1, .agg #[.int .i64 x, .int .i64 y]] w fun e w' => e = .returned (.bool true) ∧ Below w.heap.size w w' := by
  have HR := Aside0.mk hr0
  have HC0 := Aside0.mk hc0
  have HA := Aside0.mk hA
  have HL := Aside0.mk hL
  have HCh := Aside0.mk hCh
  have HCk := Aside0.mk hCk
  have HRc := Aside0.mk hRc
  have HS := Aside0.mk hS
  have HCx := Aside0.mk hCx
  have HAt := Aside0.mk hAt
  clear hr0 hc0 hA hL hCh hCk hRc hS hCx hAt
  go_enter Try.func3, Try.ntmps3
  go_wp2_with fail
  refine (changeoverref11_Large.calls k _ _ _ _ _ (Kd.C_alloc HR.out _) HC0.out HL.out).mono ?_
  rintro e w1 ⟨rfl, m1, rfl⟩
  have HB1 := Aside0.mk (pw_below_drewN (below_alloc (Below.refl w.heap.size w) (Obj.cells #[Value.int IntKind.i64 x, Value.int IntKind.i64 y] 23)) m1)

  go_wp2_with fail
  refine (conf_Change.calls k _ _ _ _ _ _ _ _ _ (Kd.C_below HR.out HB1.out) HC0.out HCh.out).mono ?_
  rintro e w2 ⟨vx, rfl, hx, hb2⟩
  obtain ⟨Ax, cx, hvx⟩ := Kd.V_slice hx
  subst hvx
  have HB2 := Aside0.mk (below_after HB1.out (Nat.le_refl _) hb2)
  have HX2 := Aside0.mk (Kd.V_lower (Kd.V_mono (ok' := fun _ => True) hx (fun _ _ => trivial)) (Nat.zero_le _))
  have hz0 : w2.cell? ⟨w.heap.size, 0, none⟩ = some (.int .i64 x) := pw_cell_below hb2 (show (w.alloc (Obj.cells #[Value.int IntKind.i64 x, Value.int IntKind.i64 y] 23)).cell? ⟨w.heap.size, 0, none⟩ = some (Value.int .i64 x) from blk_cell (heap_alloc_new w _) 0)
  have hz1 : w2.cell? ⟨w.heap.size, 1, none⟩ = some (.int .i64 y) := pw_cell_below hb2 (show (w.alloc (Obj.cells #[Value.int IntKind.i64 x, Value.int IntKind.i64 y] 23)).cell? ⟨w.heap.size, 1, none⟩ = some (Value.int .i64 y) from blk_cell (heap_alloc_new w _) 1)
  clear hb2 hx
  go_wp2_with fail
  refine (changeoverref11_Check.calls k _ _ _ _ _ (Kd.C_below HR.out HB2.out) HC0.out HCk.out).mono ?_
  rintro e w3 ⟨rfl, m3, rfl⟩
  go_wp2_with fail
  refine (changeoverref11_Change.calls k (fun k_ => k_ < w.heap.size) _ _ _ _ _ _ _ _ _ (Kd.V_mk HC0.out (Kd.F_below (Kd.C_F k39_heap HR.out) (pw_below_drewN HB2.out m3))) HRc.out).mono ?_
  rintro e w4 ⟨vw, rfl, hw, hb4⟩
  obtain ⟨Aw, cw, hvw⟩ := Kd.N_slice hw
  subst hvw
  have HB4 := Aside0.mk (below_after (pw_below_drewN HB2.out m3) (Nat.le_refl _) hb4)
  have HW4 := Aside0.mk (Kd.N_reads' hw).2
  have HX4 := Aside0.mk (Kd.V_below (Kd.V_drewN HX2.out m3) hb4)
  clear hz0 hz1 HX2 hb4 hw
  go_wp2_with fail
  refine (changeoverref11_Same.calls k _ _ _ _ _ _ _ _ (Kd.V_reads' HX4.out).2.2 (Kd.V_reads' HX4.out).2.1 HW4.out.2 HW4.out.1 HS.out).mono ?_
  rintro e w5 ⟨rfl, m5, rfl⟩
  go_wp2_with fail
  refine (changeoverref11_Check.calls k _ _ _ _ _ (Kd.V_reads' (Kd.V_drewN HX4.out m5)).2.2 (Kd.V_reads' HX4.out).2.1 HCx.out).mono ?_
  rintro e w6 ⟨rfl, m6, rfl⟩
  go_wp2
  go_loopw [11] (fun v wr => ∃ j : Nat, j ≤ 3 ∧ v = .int .i64 ((j : Int) + 1) ∧ Aside0 (Below w.heap.size w wr) ∧ Aside0 (Kd.V k39 39 wr 0 (fun _ => True) (.slice Ax X.length cx) X)) (fun v _ => 5 - (intOf v).toNat)
  case atStart => exact ⟨0, by omega, rfl, ⟨pw_below_drewN HB4.out _⟩, ⟨Kd.V_drewN HX4.out _⟩⟩
  case round =>
    obtain ⟨j, hj, rfl, HBr, HXr⟩ := hrel
    clear HB4 HX4 HW4
    rcases Nat.lt_or_ge j 3 with hj3 | hj3
    · have hwr : IntKind.i64.wrap (a1 + ((j : Int) + 1)) = a1 + ((j : Int) + 1) := by rw [IntKind.wrap_i64]; omega
      have hwj : IntKind.i64.wrap ((j : Int) + 1 + 1) = (j : Int) + 1 + 1 := by rw [IntKind.wrap_i64]; omega
      have hlt : (j : Int) + 1 < 4 := by omega
      have hj4 := HAt.out j hj3
      have HJ1 := Aside0.mk hj4.1
      have HJ2 := Aside0.mk hj4.2
      clear hj4 HAt
      go_wp2_with fail
      refine (conf_At.calls k _ _ _ _ _ _ (Kd.V_reads' HXr.out).2.2 (Kd.V_reads' HXr.out).2.1 HJ1.out).mono ?_
      rintro e w6 ⟨v1, rfl, hv1, hb6⟩
      obtain ⟨A1, c1, hv⟩ := Kd.R_slice hv1
      subst hv
      have HV1 := Aside0.mk (Kd.R_V (base' := 0) hv1)
      have HB6 := Aside0.mk (below_after HBr.out (Nat.le_refl _) hb6)
      have HX6 := Aside0.mk (Kd.V_below HXr.out hb6)
      clear hv1 hb6 HBr HXr
      go_wp2_with fail
      refine (changeoverref11_At.calls (fun k_ => k_ < w.heap.size) _ _ _ _ _ _ (Kd.V_mk HC0.out (Kd.F_below (Kd.C_F k39_heap HR.out) HB6.out)) rfl).mono ?_
      rintro e w7 ⟨v2, rfl, hv2, hb7⟩
      obtain ⟨A2, c2, hv⟩ := Kd.V_slice hv2
      subst hv
      have HV2 := Aside0.mk hv2
      have HB7 := Aside0.mk (below_after HB6.out (Nat.le_refl _) hb7)
      have HX7 := Aside0.mk (Kd.V_below HX6.out hb7)
      have HV17 := Aside0.mk (Kd.V_below HV1.out hb7)
      clear hv2 hb7 HB6 HX6 HV1
      go_wp2_with fail
      refine (changeoverref01_Ints.calls k _ _ _ _ _ _ _ _ (Kd.V_reads' HV17.out).2.2 (Kd.V_reads' HV17.out).2.1 (Kd.V_reads' HV2.out).2.2 (Kd.V_reads' HV2.out).2.1 HJ2.out).mono ?_
      rintro e w8 ⟨rfl, m8, rfl⟩
      go_wp2
      go_round
      case rel => exact ⟨j + 1, by omega, by simp, ⟨pw_below_drewN HB7.out _⟩, ⟨Kd.V_drewN HX7.out _⟩⟩
      case measure => simp [intOf]; omega
    · obtain rfl : j = 3 := by omega
      have hlt : ¬ ((3 : Nat) : Int) + 1 < 4 := by omega
      go_wp2_with fail
      refine (changeoverlaw11_awake.calls k _ _ HA.out).mono ?_
      rintro e w9 ⟨rfl, hb9⟩
      have HB9 := Aside0.mk (below_after HBr.out (Nat.le_refl _) hb9)
      clear hb9
      go_wp2
      go_ret
      exact ⟨rfl, HB9.out⟩
theorem ConfChanges_calls (A0 : Option Addr) (c0 : Nat) (l0 : List S39) (a1 x y : Int) (w : World) (hr0 : Kd.C k39 w A0 l0.length l0) (hc0 : l0.length ≤ c0) (hn : l0.length < 9223372036854775807) :
    Calls Try.prog 3 #[.slice A0 l0.length c0, .int .i64 a1, .agg #[.int .i64 x, .int .i64 y]] w fun e w' => e = .returned (.bool true) ∧ Below w.heap.size w w' := by
  obtain ⟨k1, hL⟩ := large_ev l0 hn
  obtain ⟨k2, hA⟩ := awake_ev
  by_cases hs : Small l0
  case neg =>
    simp only [hs, not_false_eq_true, decide_true] at hL
    exact lawChanges_large (k1 + k2) A0 c0 l0 a1 x y w hr0 hc0 (hA _ (by omega)) (hL _ (by omega))
  have hf : Fits l0 := ⟨hn, fun i hi => by have := hs.2 i hi; omega⟩
  simp only [hs, not_true_eq_false, decide_false] at hL
  obtain ⟨k3, hCh⟩ := change_ev l0 a1 x y hs
  obtain ⟨k4, hCk⟩ := refcheck_ev l0 hf
  by_cases hc : cOk l0
  case neg =>
    simp only [hc, decide_false, if_false] at hCk hCh
    exact lawChanges_form (k1 + k2 + k3 + k4) A0 c0 l0 a1 x y w hr0 hc0 (hA _ (by omega)) (hL _ (by omega)) (hCh _ (by omega)) (hCk _ (by omega))
  simp only [hc, decide_true, if_true] at hCk hCh
  by_cases hlo : a1 < 1
  · rw [if_pos (.inl hlo)] at hCh
    exact lawChanges_rangelo (k1 + k2 + k3 + k4) A0 c0 l0 a1 x y w hr0 hc0 (hA _ (by omega)) (hL _ (by omega)) (hCh _ (by omega)) (hCk _ (by omega)) hlo
  by_cases hhi : a1 > 4294967292
  · rw [if_pos (.inr hhi)] at hCh
    exact lawChanges_rangehi (k1 + k2 + k3 + k4) A0 c0 l0 a1 x y w hr0 hc0 (hA _ (by omega)) (hL _ (by omega)) (hCh _ (by omega)) (hCk _ (by omega)) hhi hlo
  rw [if_neg (fun h => h.elim hlo hhi)] at hCh
  obtain ⟨k5, hRc⟩ := refChange_ev l0 a1 x y hs hc (by omega) (by omega)
  by_cases hm : (changedF (lastOf l0).f1 x y).length = 0
  · rw [if_pos hm] at hCh hRc
    exact lawChanges_member (k1 + k2 + k3 + k4 + k5) A0 c0 l0 a1 x y w hr0 hc0 (hA _ (by omega)) (hL _ (by omega)) (hCh _ (by omega)) (hCk _ (by omega)) (hRc _ (by omega)) hlo hhi
  rw [if_neg hm] at hCh hRc
  have hcx := chg_ok l0 a1 x y hc (by omega) (by omega) hm
  have hsx := chg_small l0 a1 x y hs hc hcx
  obtain ⟨X, hX⟩ : ∃ X, X = chgF l0 a1 x y := ⟨_, rfl⟩
  have hat := fun b (hb : b < a1 + 4) => chg_at l0 a1 x y b hc hb
  rw [← hX] at hCh hRc hcx hsx hat
  have hfx : Fits X := ⟨by omega, fun i hi => by have := hsx.2 i hi; omega⟩
  obtain ⟨k6, hS⟩ := same_ev X X hfx
  obtain ⟨k7, hCx⟩ := refcheck_ev X hfx
  have hatk : ∀ b, 1 ≤ b → b < a1 + 4 → ∃ K, ∀ k, K ≤ k → conf_At.f k X b = some (atF l0 b) ∧ changeoverref01_Ints.f k (atF l0 b) (atF l0 b) = some true := fun b hb hb2 => by
    obtain ⟨K1, h1⟩ := at_ev X b hfx
    rw [if_pos ⟨hcx, hb⟩, hat b hb2] at h1
    obtain ⟨K2, h2⟩ := ints_ev (atF l0 b) (atF l0 b) (by have := atF_len l0 b hs; omega)
    simp only [decide_true] at h2
    exact ⟨K1 + K2, fun k hk => ⟨h1 k (by omega), h2 k (by omega)⟩⟩
  obtain ⟨k8, h8⟩ := hatk (a1 + (((0 : Nat) : Int) + 1)) (by omega) (by omega)
  obtain ⟨k9, h9⟩ := hatk (a1 + (((1 : Nat) : Int) + 1)) (by omega) (by omega)
  obtain ⟨k10, h10⟩ := hatk (a1 + (((2 : Nat) : Int) + 1)) (by omega) (by omega)
  simp only [decide_true, hcx] at hS hCx
  refine lawChanges_done X (k1 + k2 + k3 + k4 + k5 + k6 + k7 + k8 + k9 + k10) A0 c0 l0 a1 x y w hr0 hc0 (hA _ (by omega)) (hL _ (by omega)) (hCh _ (by omega)) (hCk _ (by omega)) (hRc _ (by omega)) (hS _ (by omega)) (hCx _ (by omega)) (fun i hi => ?_) hlo hhi
  match i, hi with
  | 0, _ => exact h8 _ (by omega)
  | 1, _ => exact h9 _ (by omega)
  | 2, _ => exact h10 _ (by omega)
end Go.Proofs.Ytalpnhgkhhmmlaa.PConf
