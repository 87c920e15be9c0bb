/- math/big: String of a number below 1024: itoa, Text, String. -/
import Derived.Test.YtkplhpnhjfdelaaGreatDoorGI
import Derived.Test.YtkplhpnhjfdelaaGreatDoorGH
import Derived.StillTailTactics
namespace Go.Proofs.YtkplhpnhjfdelaaGreatDoor.BM
open Go.RowKit Go.Proofs.YtkplhpnhjfdelaaGreatDoorW.PrintWords Go.Proofs.YtkplhpnhjfdelaaGreatDoorW.PrintLast Go.Proofs.YtkplhpnhjfdelaaGreatDoorW.PrintMore Go.Proofs.YtkplhpnhjfdelaaGreatDoor.PPermCycles Go.Proofs.YtkplhpnhjfdelaaGreatDoor.BA Go.Proofs.YtkplhpnhjfdelaaGreatDoor.BB Go.Proofs.YtkplhpnhjfdelaaGreatDoor.BC Go.Proofs.YtkplhpnhjfdelaaGreatDoor.BD Go.Proofs.YtkplhpnhjfdelaaGreatDoor.BH Go.Proofs.YtkplhpnhjfdelaaGreatDoor.BI Go.Proofs.YtkplhpnhjfdelaaGreatDoor.BJ Go.Proofs.YtkplhpnhjfdelaaGreatDoor.BK Go.Proofs.YtkplhpnhjfdelaaGreatDoor.BL Go.Proofs.YtkplhpnhjfdelaaGreatDoor.BF
set_option linter.unusedVariables false
set_option linter.unusedSimpArgs false
/-- The bytes that itoa hands back. -/
def Bytes (w : World) (ds : List Int) (v : Value) (w' : World) : Prop :=
  ∃ S z : Nat, v = .slice (some ⟨S, z, none⟩) ds.length ds.length ∧ (∀ k x, ds[k]? = some x → w'.cell? ⟨S, z + k, none⟩ = some (.int .u8 x)) ∧ Below w.heap.size w w'
set_option maxHeartbeats 4000000 in
set_option maxRecDepth 100000 in
theorem itoa_calls (g cap x : Nat) (w : World) (hx : w.cell? ⟨g, 0, none⟩ = some (.int .u64 x)) (hc1 : 1 ≤ cap) (hc2 : cap ≤ 1000) (hn : x < 1024) (h0 : x ≠ 0) (hleaf : w.cell? ⟨6, 0, none⟩ = some (.int .i64 8)) :
    Calls Tryz.prog 88 #[.slice (some ⟨g, 0, none⟩) 1 cap, .bool false, .int .i64 10] w fun e w' => ∃ v, e = .returned v ∧ Bytes w (digs x) v w' := by
  have hd := dig_small ⟨x, hn⟩
  simp only [h0, false_or] at hd
  obtain ⟨hL1, hL2, hz3, hlow, hhd⟩ := hd
  obtain ⟨a, q, hf1, hf2, hf3⟩ := float_facts (Lib.bitLen x) hL1 hL2
  obtain ⟨k, hk⟩ : ∃ k, k = dd (Lib.bitLen x) := ⟨_, rfl⟩
  have hk3 : k ≤ 3 := by rw [hk]; unfold dd; split <;> (try split) <;> (try split) <;> omega
  rw [← hk] at hf3 hlow
  have hmk := make_facts k x hk3
  have hten : ∀ w, (convert 3 144 (.int .i64 10)).run Tryz.prog w = .ok (.float .f64 4621819117588971520) w := fun w => by kernel_rfl
  have HBL := Aside0.mk (bitLen_calls g cap x w hx hc1 hc2 hn)
  obtain ⟨L, hL⟩ : ∃ L, L = Lib.bitLen x := ⟨_, rfl⟩
  rw [← hL] at HBL hf1 hL1 hL2
  have hk1 : ((10 : Int) == bits .and .u64 10 (IntKind.u64.wrap (-10))) = false := by kernel_rfl
  have HX := Aside0.mk (And.intro hx hleaf)
  have HLOW := Aside0.mk (And.intro hlow (And.intro hhd hz3))
  clear hlow hhd hz3 hk hL hx hleaf h0
  go_enter_defers Tryz.func88, Tryz.ntmps88
  go_wp2_with (first
    | (go_at_call 114; (with_reducible refine HBL.out.mono ?_); rintro e w' ⟨rfl, hw'⟩; subst w')
    | (go_at_call 115; (with_reducible refine (Log2_ten _).mono ?_); rintro e w' ⟨rfl, hw'⟩; subst w'))
  clear hf1 hf2 hf3 hmk hten hk1 HBL
  obtain ⟨w1, hw1⟩ : ∃ w1 : World, w1 = w.alloc (.cells (lay (k + 1) 0 x) 5) := ⟨_, rfl⟩
  obtain ⟨S, hS⟩ : ∃ S, S = w.heap.size := ⟨_, rfl⟩
  have hs1 : w1.heap.size = S + 1 := by rw [hw1, hS]; simp
  have hS1 : w1.heap[S]? = some (.cells (lay (k + 1) 0 x) 5 (0, 0)) := by rw [hw1, hS]; exact heap_alloc_new w _
  have hb1 : Below w.heap.size w w1 := by rw [hw1]; exact (Below.refl _ _).alloc (Nat.le_refl _) _
  rw [← hw1, ← hS]
  clear hw1
  refine (getStack_calls w1).mono ?_
  rintro e w2 ⟨rfl, hw2⟩
  obtain ⟨G, hG⟩ : ∃ G, G = w1.heap.size := ⟨_, rfl⟩
  have hs2 : w2.heap.size = S + 2 := by rw [hw2]; simp; omega
  have hS2 : w2.heap[S]? = some (.cells (lay (k + 1) 0 x) 5 (0, 0)) := by rw [hw2]; exact blk_alloc hS1 _
  have hG2 : w2.heap[G]? = some (.cells #[.pointer none] 156 (0, 0)) := by rw [hw2, hG]; exact heap_alloc_new w1 _
  have hb2 : Below w.heap.size w w2 := by rw [hw2]; exact hb1.alloc (by omega) _
  rw [← hG]
  have hx2 : w2.cell? ⟨g, 0, none⟩ = some (.int .u64 x) := (hb2.cell (World.block_lt_of_cell? w _ HX.out.1)).trans HX.out.1
  have hl2 : w2.cell? ⟨6, 0, none⟩ = some (.int .i64 8) := (hb2.cell (World.block_lt_of_cell? w _ HX.out.2)).trans HX.out.2
  have HDV := Aside0.mk (fun q a b c => divisors_calls q a b c w2 hl2)
  have HST := Aside0.mk (set_new none g 0 cap (x : Int) w2 hx2)
  have HW2 := Aside0.mk (And.intro hs2 (And.intro hS2 (And.intro hG2 hb2)))
  have HSG := Aside0.mk (show G = S + 1 ∧ S = w.heap.size from ⟨by omega, hS⟩)
  clear hw2 hs1 hS1 hb1 hs2 hS2 hG2 hb2 hx2 hl2 hG hS
  go_wp2_with (first
    | (go_at_call 116; (with_reducible refine (maxPow_calls _).mono ?_); rintro e w' ⟨rfl, hw'⟩; subst w')
    | (go_at_call 117; (with_reducible refine (HDV.out _ _ _ _).mono ?_); rintro e w' ⟨rfl, hw'⟩; subst w')
    | (go_at_call 79; (with_reducible refine HST.out.mono ?_); rintro e w3 ⟨rfl, hw3⟩))
  refine (convert_calls w2.heap.size 1 S (k + 1) x _ (zero1.setIfInBounds 0 (.int .u64 x)) _ (Nat.le_refl _) (by omega) (heap_alloc_new w2 _) rfl (by omega) (by omega) (blk_alloc HW2.out.2.1 _)).mono ?_
  rintro e w4 ⟨rfl, hS4, hk4⟩
  have hG4 : w4.heap[G]? = some (.cells #[.pointer none] 156 (0, 0)) := (hk4.2 G (by have := HW2.out.1; have := HSG.out.1; omega) (by have := HSG.out.1; omega)).trans (blk_alloc HW2.out.2.2.1 _)
  have hb4 : Below w.heap.size w w4 := (HW2.out.2.2.2.alloc (by have := HW2.out.1; have := HSG.out.2; omega) _).trans (hk4.1 _ (by have := HW2.out.1; have := HSG.out.2; omega) (by have := HSG.out.2; omega))
  have hcell : ∀ i c, (List.replicate (zs x) (48 : Int) ++ digs x)[i]? = some c → w4.cell? ⟨S, i, none⟩ = some (.int .u8 c) := by
    intro i c hi
    rw [blk_cell hS4]
    simp only [lay, List.getElem?_toArray, List.replicate_zero, List.nil_append, List.getElem?_map]
    rw [HLOW.out.1, hi]; rfl
  have hlen : zs x + (digs x).length = k + 1 := by
    have := congrArg List.length HLOW.out.1
    rw [low_length] at this
    simpa using this.symm
  have HC := Aside0.mk (And.intro hcell (And.intro hlen (And.intro hG4 hb4)))
  clear hS4 hk4 hG4 hb4 hcell HST HDV HW2
  obtain ⟨z, hz⟩ : ∃ z, z = zs x := ⟨_, rfl⟩
  obtain ⟨ds, hds⟩ : ∃ ds, ds = digs x := ⟨_, rfl⟩
  have hz3 : z ≤ 3 := by rw [hz]; exact HLOW.out.2.2
  have hhd := HLOW.out.2.1
  rw [← hz, ← hds] at HC
  rw [← hz] at hlen
  rw [← hds] at hhd hlen
  have HDS := Aside0.mk hds
  have HLEN := Aside0.mk (And.intro hlen hhd)
  clear HLOW hhd hlen hz hds
  have hzk : z < k + 1 := by
    have h1 := HLEN.out.1
    have h2 := HLEN.out.2
    rcases Nat.eq_zero_or_pos ds.length with h | h
    · rw [List.eq_nil_of_length_eq_zero h] at h2; exact absurd rfl h2
    · omega
  go_wp2
  go_loop [7] (fun v7 => ∃ i : Nat, v7 = .int .i64 i ∧ i ≤ z) (fun v7 => z - (intOf v7).toNat)
  case atStart => exact ⟨0, rfl, Nat.zero_le _⟩
  case round =>
    obtain ⟨i, rfl, hi⟩ := hrel
    have hi1 : (i : Int) < (k : Int) + 1 := by omega
    by_cases hlt : i < z
    · have hc : w4.cell? ⟨S, i, none⟩ = some (.int .u8 48) := HC.out.1 i 48 (by rw [List.getElem?_append_left (by simpa using hlt), List.getElem?_replicate, if_pos hlt])
      go_wp2
      go_round
      case rel => exact ⟨i + 1, by go_num, by omega⟩
      case measure => simp [intOf]; omega
    · obtain rfl : i = z := by omega
      obtain ⟨c, hcz⟩ : ∃ c, ds[0]? = some c := ⟨_, List.getElem?_eq_getElem (by have := HLEN.out.1; omega)⟩
      have hc : w4.cell? ⟨S, i, none⟩ = some (.int .u8 c) := HC.out.1 i c (by rw [List.getElem?_append_right (by simp)]; simpa using hcz)
      have hne : (c == 48) = false := by
        have := HLEN.out.2
        rw [List.getD_eq_getElem?_getD, hcz] at this
        simpa using this
      go_wp2
      refine leaves_cons (f := 101) (args := #[.pointer (some ⟨G, 0, none⟩)]) (by simp) (by simp [go_sem]) ?_
      refine (free_d G .returning _ ?_).mono ?_
      · exact (blk_cell HC.out.2.2.1 0).trans rfl
      rintro e u' w'' ⟨rfl, rfl, rfl⟩
      refine ⟨_, results_tmp rfl _ _ _, _, rfl, ?_⟩
      have hl := HLEN.out.1
      have hsub : k + 1 - i = (digs x).length := by rw [← HDS.out]; omega
      show Bytes w (digs x) (.slice (some ⟨S, i, none⟩) (k + 1 - i) (k + 1 - i)) _
      rw [hsub]
      refine ⟨S, i, rfl, fun j c hj => HC.out.1 (i + j) c ?_, HC.out.2.2.2⟩
      rw [List.getElem?_append_right (by simp)]
      rw [← HDS.out] at hj
      simpa using hj
theorem str_digs (x : Nat) : strOfNums (digs x) = ⟨(Lib.decDigits x).toArray⟩ := by
  simp [strOfNums, digs, Function.comp_def]
theorem cells_of {ds : List Int} {S z : Nat} {w : World} (h : ∀ k x, ds[k]? = some x → w.cell? ⟨S, z + k, none⟩ = some (.int .u8 x)) : ∀ i, i < ds.length → w.cell? ⟨S, z + i, none⟩ = some (.int .u8 (ds.getD i 0)) := fun i hi =>
  h i _ (by rw [List.getD_eq_getElem?_getD, List.getElem?_eq_getElem hi]; rfl)
set_option maxHeartbeats 4000000 in
set_option maxRecDepth 100000 in
theorem Text_calls (lo B x : Nat) (w : World) (h : IsInt lo w B x) (hn : x < 1024) (h0 : x ≠ 0) (hleaf : w.cell? ⟨6, 0, none⟩ = some (.int .i64 8)) :
    Calls Tryz.prog 63 #[.pointer (some ⟨B, 0, none⟩), .int .i64 10] w fun e w' => e = .returned (.string ⟨(Lib.decDigits x).toArray⟩) ∧ Below w.heap.size w w' := by
  obtain ⟨hlo, z, hb, A, cap, hz, ⟨_, _, hx⟩ | ⟨g, cs, rfl, hblk, hc⟩⟩ := h
  · exact absurd hx h0
  rw [if_neg h0] at hz
  subst hz
  have c0 : w.cell? ⟨B, 0, none⟩ = some (.bool false) := (blk_cell hb 0).trans rfl
  have c1 : w.cell? ⟨B, 1, none⟩ = some (.slice (some ⟨g, 0, none⟩) 1 cap) := (blk_cell hb 1).trans rfl
  have hx : w.drew.cell? ⟨g, 0, none⟩ = some (.int .u64 x) := (blk_cell (blk_drew hblk.blk) 0).trans (hc h0)
  have HI := Aside0.mk (itoa_calls g cap x w.drew hx hblk.pos hblk.small hn h0 hleaf)
  clear hb hblk hc hx
  go_enter Tryz.func63, Tryz.ntmps63
  go_wp2
  go_still_tail 9, (by kernel_rfl)
  change wpList _ _ _ _ _ w.drew
  go_wp2_with (go_at_call 88; (with_reducible refine HI.out.mono ?_); rintro e w1 ⟨v, rfl, S, z, e1, hcell, hb1⟩; subst e1; have hcv := run_convert_bytes_arg (P := Tryz.prog) w1 44 5 Tryz.underlying44 Tryz.underlying5 S z (digs x).length (digs x).length (digs x) rfl (cells_of hcell) 9 Tryz.underlying9; rw [str_digs] at hcv; have HB1 := Aside0.mk hb1; clear hcell hb1)
  go_ret
  exact ⟨rfl, (Below.refl _ _).drew.trans HB1.out⟩
theorem String_calls (lo B x : Nat) (w : World) (h : IsInt lo w B x) (hn : x < 1024) (h0 : x ≠ 0) (hleaf : w.cell? ⟨6, 0, none⟩ = some (.int .i64 8)) :
    Calls Tryz.prog 37 #[.pointer (some ⟨B, 0, none⟩)] w fun e w' => e = .returned (.string ⟨(Lib.decDigits x).toArray⟩) ∧ Below w.heap.size w w' := by
  have HT := Aside0.mk (Text_calls lo B x w h hn h0 hleaf)
  clear h hleaf
  go_enter Tryz.func37, Tryz.ntmps37
  go_wp2_with (go_at_call 63; (with_reducible refine HT.out.mono ?_); rintro e w1 ⟨rfl, hb1⟩; have HB1 := Aside0.mk hb1; clear hb1)
  go_ret
  exact ⟨rfl, HB1.out⟩
end Go.Proofs.YtkplhpnhjfdelaaGreatDoor.BM
