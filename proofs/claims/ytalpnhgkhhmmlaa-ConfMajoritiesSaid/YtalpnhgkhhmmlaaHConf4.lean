-- By the session: contracts proved by hand.
import Derived.Test.YtalpnhgkhhmmlaaPConfx0
namespace Go.Proofs.Ytalpnhgkhhmmlaa.PConf
open Go.RowKit Go.Proofs.YtalpnhgkhhmmlaaW.PrintWords Go.Proofs.YtalpnhgkhhmmlaaW.PrintLast Go.Proofs.YtalpnhgkhhmmlaaW.PrintMore
set_option linter.unusedVariables false
set_option linter.unusedSimpArgs false
/-! changeoverref11.At: function 17: the members of the last conf that begins at or ahead of the index -/
def atF (l : List S39) (a1 : Int) : List Int := l.foldl (fun o c => if c.f0 ≤ a1 then c.f1 else o) []
theorem atF_snoc (l : List S39) (x : S39) (a1 : Int) : atF (l ++ [x]) a1 = if x.f0 ≤ a1 then x.f1 else atF l a1 := by simp [atF]
def changeoverref11_At.f (l0 : List S39) (a1 : Int) : Option (List Int) := some (atF l0 a1)
theorem take_snoc39 (l : List S39) (k : Nat) (h : k < l.length) : l.take (k + 1) = l.take k ++ [rd_T39 l k] := by
  rw [List.take_succ_eq_append_getElem h]
  simp [rd_T39, List.getD_eq_getElem?_getD, List.getElem?_eq_getElem h]
set_option maxHeartbeats 1000000 in
theorem changeoverref11_At.calls (P0_ : Nat → Prop) (A0 : Option Addr) (c0 : Nat) (l0 : List S39) (a1 : Int) (r : List Int) (w : World) (hs0 : Kd.V k39 39 w w.heap.size (fun k_ => P0_ k_) (.slice A0 l0.length c0) l0) (h : changeoverref11_At.f l0 a1 = some r) :
    Calls Try.prog 17 #[.slice A0 l0.length c0, .int .i64 a1] w fun e w' => ∃ v0_ : Value, e = .returned (v0_) ∧ Kd.V (Kd.int .i64) 3 w' w.heap.size (fun k_ => (P0_ k_ ∨ w.heap.size ≤ k_)) v0_ r ∧ Below w.heap.size w w' := by
  obtain rfl := Option.some.inj h
  clear h
  have HF := Aside0.mk (Kd.V_F hs0)
  have hmax := Kd.F_max HF.out
  clear hs0
  go_enter Try.func17, Try.ntmps17
  go_wp2
  go_loop [5, 6] (fun o i => ∃ k : Nat, k ≤ l0.length ∧ i = .int .i64 k ∧ Aside0 (Kd.V (Kd.int .i64) 3 w w.heap.size P0_ o (atF (l0.take k) a1))) (fun _ i => l0.length - (intOf i).toNat)
  case atStart => exact ⟨0, Nat.zero_le _, rfl, ⟨by simpa [atF] using Kd.V_nil _ _ _ _ _⟩⟩
  case round =>
    obtain ⟨k, hk, rfl, HV⟩ := hrel
    by_cases hlt : k < l0.length
    · obtain ⟨ad, cs, rfl, hcl, hFK, hcc, _⟩ := Kd.F_get HF.out z39 (k : Int) (by omega) (by omega)
      obtain ⟨A1, c1, rfl, hl1, hF1⟩ := k39_openF hFK
      simp only [Int.toNat_natCast] at hcc hF1 hl1
      have hx0 : w.cell? (ad.add (k * 2)) = some (.int .i64 (rd_T39 l0 k).f0) := hcc 0 _ rfl
      have hx1 : w.cell? ⟨(ad.add (k * 2)).block, (ad.add (k * 2)).off + 1, none⟩ = some (.slice A1 (rd_T39 l0 k).f1.length c1) := by
        rw [← add_field _ _ 1 (by omega)]; exact hcc 1 _ rfl
      have HV2 := Aside0.mk (Kd.V_mk (e := 3) (base := w.heap.size) hl1 hF1)
      have HT := Aside0.mk (take_snoc39 l0 k hlt)
      clear hcc hF1 hFK hcl hl1
      by_cases hle : (rd_T39 l0 k).f0 ≤ a1
      · go_wp2
        go_round
        case rel => exact ⟨k + 1, by omega, by go_num, ⟨by rw [HT.out, atF_snoc, if_pos hle]; exact HV2.out⟩⟩
        case measure => simp [intOf]; omega
      · go_wp2
        go_round
        case rel => exact ⟨k + 1, by omega, by go_num, ⟨by rw [HT.out, atF_snoc, if_neg hle]; exact HV.out⟩⟩
        case measure => simp [intOf]; omega
    · obtain rfl : k = l0.length := by omega
      have HV3 : Aside0 (Kd.V (Kd.int .i64) 3 w w.heap.size P0_ _ (atF l0 a1)) := ⟨by have := HV.out; rwa [List.take_length] at this⟩
      clear HV
      go_wp2
      go_ret
      exact ⟨_, rfl, Kd.V_mono HV3.out (fun _ hk => .inl hk), Below.refl _ _⟩
end Go.Proofs.Ytalpnhgkhhmmlaa.PConf
