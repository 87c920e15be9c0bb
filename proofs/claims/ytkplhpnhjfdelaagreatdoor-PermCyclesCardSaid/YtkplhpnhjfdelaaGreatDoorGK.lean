/- perm.Rank of 2 1 0: the document's example. cayleylaw.permBegun: the document's examples stand. -/
import Derived.Test.YtkplhpnhjfdelaaGreatDoorBM
import Derived.Test.YtkplhpnhjfdelaaGreatDoorGE
namespace Go.Proofs.YtkplhpnhjfdelaaGreatDoor.RK
open Go.RowKit Go.Proofs.YtkplhpnhjfdelaaGreatDoorW.PrintWords Go.Proofs.YtkplhpnhjfdelaaGreatDoorW.PrintLast Go.Proofs.YtkplhpnhjfdelaaGreatDoorW.PrintMore Go.Proofs.YtkplhpnhjfdelaaGreatDoor.PPermCycles Go.Proofs.YtkplhpnhjfdelaaGreatDoor.BC Go.Proofs.YtkplhpnhjfdelaaGreatDoor.BF Go.Proofs.YtkplhpnhjfdelaaGreatDoor.BG Go.Proofs.YtkplhpnhjfdelaaGreatDoor.BM
set_option linter.unusedVariables false
set_option linter.unusedSimpArgs false
theorem is_below {lo : Nat} {W W' : World} {B x : Nat} (h : IsInt lo W B x) (hb : Below W.heap.size W W') : IsInt lo W' B x := by
  obtain ⟨h1, z, h2, h3⟩ := h
  exact ⟨h1, z, blk_below h2 hb, h3.below hb⟩
theorem is_lt {lo : Nat} {W : World} {B x : Nat} (h : IsInt lo W B x) : B < W.heap.size := by
  obtain ⟨h1, z, h2, h3⟩ := h
  exact blk_lt h2
/-- A number in a block of its own, and nothing below changed. -/
structure St (lo B n : Nat) (w2 W : World) : Prop where
  i : IsInt lo W B n
  b : Below lo w2 W
  s : lo ≤ W.heap.size
theorem new_step (lo B n x : Nat) (xi : Int) (hxi : xi = (x : Int)) (w2 W : World) (h : St lo B n w2 W) (h1 : x < 4294967296) :
    Calls Tryz.prog 35 #[.int .i64 xi] W fun e w' => ∃ C, e = .returned (.pointer (some ⟨C, 0, none⟩)) ∧ B ≠ C ∧ IsInt lo w' C x ∧ St lo B n w2 w' := by
  subst hxi
  refine (new_int lo x W h.s h1).mono ?_
  rintro e w' ⟨C, rfl, hC, hI, hb⟩
  exact ⟨C, rfl, by have := is_lt h.i; omega, hI, is_below h.i hb, h.b.trans (hb.mono h.s), Nat.le_trans h.s hb.size⟩
theorem mul_step (lo B C n x : Nat) (w2 W : World) (h : St lo B n w2 W) (hC : IsInt lo W C x) (hne : B ≠ C) (hn : n < 4294967296) (hx : x < 4294967296) :
    Calls Tryz.prog 34 #[.pointer (some ⟨B, 0, none⟩), .pointer (some ⟨B, 0, none⟩), .pointer (some ⟨C, 0, none⟩)] W fun e w' => e = .returned (.pointer (some ⟨B, 0, none⟩)) ∧ St lo B (n * x) w2 w' := by
  have hp : n * x < 4294967296 * 4294967296 := by
    have := Nat.mul_lt_mul'' hn hx
    exact this
  refine (int_Mul lo B C n x W h.s h.i hC hne (Nat.lt_trans hn (by decide)) (Nat.lt_trans hx (by decide)) hp).mono ?_
  rintro e w' ⟨rfl, hI, hb⟩
  exact ⟨rfl, hI, h.b.trans hb, Nat.le_trans h.s hb.size⟩
theorem add_step (lo B C n x : Nat) (w2 W : World) (h : St lo B n w2 W) (hC : IsInt lo W C x) (hne : B ≠ C) (hn : n < 4294967296) (hx : x < 4294967296) :
    Calls Tryz.prog 36 #[.pointer (some ⟨B, 0, none⟩), .pointer (some ⟨B, 0, none⟩), .pointer (some ⟨C, 0, none⟩)] W fun e w' => e = .returned (.pointer (some ⟨B, 0, none⟩)) ∧ St lo B (n + x) w2 w' := by
  refine (int_Add lo B C n x W h.s h.i hC hne (by show _ < (18446744073709551616 : Nat); omega)).mono ?_
  rintro e w' ⟨rfl, hI, hb⟩
  exact ⟨rfl, hI, h.b.trans hb, Nat.le_trans h.s hb.size⟩
theorem chk210 : perm_Check.f 100 [2, 1, 0] = some (0, 0) := by decide +kernel
set_option maxHeartbeats 4000000 in
set_option maxRecDepth 100000 in
theorem Rank210 (b : Nat) (w : World) (hb : w.heap[b]? = some (.cells #[.int .i64 2, .int .i64 1, .int .i64 0] 3 (0, 0))) (hleaf : w.cell? ⟨6, 0, none⟩ = some (.int .i64 8)) :
    Calls Tryz.prog 26 #[.slice (some ⟨b, 0, none⟩) 3 3] w fun e w' => e = .returned (.tuple #[.string ⟨#[53]⟩, .agg #[.int .i64 0, .int .i64 0]]) ∧ Below w.heap.size w w' := by
  obtain ⟨W0, hW0⟩ : ∃ W0 : World, W0 = w.alloc (.cells #[.int .i64 0, .int .i64 0] 26) := ⟨_, rfl⟩
  have hC : Kd.C (Kd.int .i64) W0 (some ⟨b, 0, none⟩) 3 [2, 1, 0] := by
    rw [hW0]
    refine ⟨rfl, by decide, fun _ => ⟨_, rfl, fun j x hj => ?_⟩⟩
    have hb' := blk_alloc hb (.cells #[.int .i64 0, .int .i64 0] 26)
    match j, hj with
    | 0, hj => simp at hj; subst hj; exact ⟨_, rfl, rfl, fun i u hu => by match i, hu with | 0, hu => simp at hu; subst hu; simpa [Addr.add] using blk_cell hb' 0⟩
    | 1, hj => simp at hj; subst hj; exact ⟨_, rfl, rfl, fun i u hu => by match i, hu with | 0, hu => simp at hu; subst hu; simpa [Addr.add, Kd.int, Kd.scalar] using blk_cell hb' 1⟩
    | 2, hj => simp at hj; subst hj; exact ⟨_, rfl, rfl, fun i u hu => by match i, hu with | 0, hu => simp at hu; subst hu; simpa [Addr.add, Kd.int, Kd.scalar] using blk_cell hb' 2⟩
  have HC := Aside0.mk (perm_Check.calls 100 (some ⟨b, 0, none⟩) 3 [2, 1, 0] 0 0 W0 hC (Nat.le_refl 3) chk210)
  go_enter Tryz.func26, Tryz.ntmps26
  go_wp2_with fail
  rw [← hW0]
  refine HC.out.mono ?_
  rintro e w1 ⟨rfl, hb1⟩
  have hsz0 : W0.heap.size = w.heap.size + 1 := by rw [hW0]; simp
  have hp1 : w1.heap[b]? = some (.cells #[.int .i64 2, .int .i64 1, .int .i64 0] 3 (0, 0)) := blk_below (by rw [hW0]; exact blk_alloc hb _) hb1
  have hr1 : w1.heap[w.heap.size]? = some (.cells #[.int .i64 0, .int .i64 0] 26 (0, 0)) := blk_below (by rw [hW0]; exact heap_alloc_new w _) hb1
  have hbel1 : Below w.heap.size w w1 := by
    have h0 : Below w.heap.size w W0 := by rw [hW0]; exact (Below.refl _ _).alloc (Nat.le_refl _) _
    exact h0.trans (hb1.mono (by omega))
  have hl1 : w1.cell? ⟨6, 0, none⟩ = some (.int .i64 8) := (hbel1.cell (World.block_lt_of_cell? w _ hleaf)).trans hleaf
  have hs1 : w.heap.size + 1 ≤ w1.heap.size := by have := hb1.size; omega
  clear hW0 hC HC hb1 hsz0 hb hleaf
  obtain ⟨lo, hlo⟩ : ∃ lo, lo = w1.heap.size + 1 := ⟨_, rfl⟩
  obtain ⟨w2, hw2⟩ : ∃ w2 : World, w2 = (w1.alloc (.cells #[.int .i64 0, .int .i64 0] 26)).alloc (.cells #[.bool false, .slice none 0 0] 67) := ⟨_, rfl⟩
  have hbl2 : Below w1.heap.size w1 w2 := by rw [hw2]; exact ((Below.refl _ _).alloc (Nat.le_refl _) _).alloc (by simp) _
  have hs2 : w2.heap.size = lo + 1 := by rw [hw2, hlo]; simp
  have hn2 : w2.heap[lo]? = some (.cells #[.bool false, .slice none 0 0] 67 (0, 0)) := by
    rw [hw2, hlo]
    have := heap_alloc_new (w1.alloc (.cells #[.int .i64 0, .int .i64 0] 26)) (.cells #[.bool false, .slice none 0 0] 67)
    simpa using this
  obtain ⟨B, hBB⟩ : ∃ B, B = lo := ⟨_, rfl⟩
  have HS : Aside0 (St lo B 0 w2 w2) := ⟨⟨⟨by omega, _, by rw [hBB]; exact hn2, IsNat.nil _ _⟩, Below.refl _ _, by omega⟩⟩
  have HPC : Aside0 (∀ W : World, Below lo w2 W → W.cell? ⟨b, 0, none⟩ = some (.int .i64 2) ∧ W.cell? ⟨b, 1, none⟩ = some (.int .i64 1) ∧ W.cell? ⟨b, 2, none⟩ = some (.int .i64 0)) := ⟨fun W hW => by
    have h1 := blk_below hp1 hbl2
    have h2 : W.heap[b]? = some (.cells #[.int .i64 2, .int .i64 1, .int .i64 0] 3 (0, 0)) := (hW.block b (by have := blk_lt hp1; omega)).trans h1
    exact ⟨(blk_cell h2 0).trans rfl, (blk_cell h2 1).trans rfl, (blk_cell h2 2).trans rfl⟩⟩
  have HR : Aside0 (∀ W : World, Below lo w2 W → W.heap[w.heap.size]? = some (.cells #[.int .i64 0, .int .i64 0] 26 (0, 0))) := ⟨fun W hW => (hW.block _ (by omega)).trans (blk_below hr1 hbl2)⟩
  have HL : Aside0 (∀ W : World, Below lo w2 W → W.cell? ⟨6, 0, none⟩ = some (.int .i64 8)) := ⟨fun W hW => by
    have h1 : w2.cell? ⟨6, 0, none⟩ = some (.int .i64 8) := (hbl2.cell (World.block_lt_of_cell? w1 _ hl1)).trans hl1
    exact (hW.cell (by have := World.block_lt_of_cell? w1 _ hl1; simp at this ⊢; omega)).trans h1⟩
  have HW : Aside0 (Below w.heap.size w w2 ∧ w.heap.size + 2 ≤ lo) := ⟨hbel1.trans (hbl2.mono (by omega)), by omega⟩
  have hw2lo : w.heap.size < lo := by omega
  go_wp2_with fail
  rw [← hw2, ← hlo, ← hBB]
  clear hp1 hr1 hbel1 hl1 hbl2 hn2 hw2 hlo hBB hs2
  -- ROUNDS
  obtain ⟨c0, c1, c2⟩ := HPC.out w2 HS.out.b
  refine wp_loop_rounds 4 ?_
  rw [rounds_succ]
  go_wp2_with fail
  refine wp_loop_rounds 3 ?_
  iterate 3 (rw [rounds_succ]; go_wp2_with fail)
  clear c0 c1 c2
  refine (new_step lo B 0 3 3 rfl w2 w2 HS.out (by decide)).mono ?_
  rintro e Wa0 ⟨C0, rfl, hne, hC, hS⟩
  have HS := Aside0.mk hS
  have HC := Aside0.mk (And.intro hC hne)
  clear hS hC hne
  go_wp2_with fail
  refine (mul_step lo B C0 0 3 w2 Wa0 HS.out HC.out.1 HC.out.2 (by decide) (by decide)).mono ?_
  rintro e Wb0 ⟨rfl, hS⟩
  have HS := Aside0.mk hS
  clear hS HC
  go_wp2_with fail
  refine (new_step lo B (0 * 3) 2 2 rfl w2 Wb0 HS.out (by decide)).mono ?_
  rintro e Wc0 ⟨D0, rfl, hne, hC, hS⟩
  have HS := Aside0.mk hS
  have HC := Aside0.mk (And.intro hC hne)
  clear hS hC hne
  go_wp2_with fail
  refine (add_step lo B D0 (0 * 3) 2 w2 Wc0 HS.out HC.out.1 HC.out.2 (by decide) (by decide)).mono ?_
  rintro e Wd0 ⟨rfl, hS⟩
  have HS : Aside0 (St lo B 2 w2 Wd0) := Aside0.mk hS
  clear hS HC
  obtain ⟨c0, c1, c2⟩ := HPC.out Wd0 HS.out.b
  go_wp2_with fail
  rw [rounds_succ]
  go_wp2_with fail
  refine wp_loop_rounds 2 ?_
  iterate 2 (rw [rounds_succ]; go_wp2_with fail)
  clear c0 c1 c2
  refine (new_step lo B 2 2 2 rfl w2 Wd0 HS.out (by decide)).mono ?_
  rintro e Wa1 ⟨C1, rfl, hne, hC, hS⟩
  have HS := Aside0.mk hS
  have HC := Aside0.mk (And.intro hC hne)
  clear hS hC hne
  go_wp2_with fail
  refine (mul_step lo B C1 2 2 w2 Wa1 HS.out HC.out.1 HC.out.2 (by decide) (by decide)).mono ?_
  rintro e Wb1 ⟨rfl, hS⟩
  have HS := Aside0.mk hS
  clear hS HC
  go_wp2_with fail
  refine (new_step lo B (2 * 2) 1 1 rfl w2 Wb1 HS.out (by decide)).mono ?_
  rintro e Wc1 ⟨D1, rfl, hne, hC, hS⟩
  have HS := Aside0.mk hS
  have HC := Aside0.mk (And.intro hC hne)
  clear hS hC hne
  go_wp2_with fail
  refine (add_step lo B D1 (2 * 2) 1 w2 Wc1 HS.out HC.out.1 HC.out.2 (by decide) (by decide)).mono ?_
  rintro e Wd1 ⟨rfl, hS⟩
  have HS : Aside0 (St lo B 5 w2 Wd1) := Aside0.mk hS
  clear hS HC
  obtain ⟨c0, c1, c2⟩ := HPC.out Wd1 HS.out.b
  go_wp2_with fail
  rw [rounds_succ]
  go_wp2_with fail
  refine wp_loop_rounds 1 ?_
  iterate 1 (rw [rounds_succ]; go_wp2_with fail)
  clear c0 c1 c2
  refine (new_step lo B 5 1 1 rfl w2 Wd1 HS.out (by decide)).mono ?_
  rintro e Wa2 ⟨C2, rfl, hne, hC, hS⟩
  have HS := Aside0.mk hS
  have HC := Aside0.mk (And.intro hC hne)
  clear hS hC hne
  go_wp2_with fail
  refine (mul_step lo B C2 5 1 w2 Wa2 HS.out HC.out.1 HC.out.2 (by decide) (by decide)).mono ?_
  rintro e Wb2 ⟨rfl, hS⟩
  have HS := Aside0.mk hS
  clear hS HC
  go_wp2_with fail
  refine (new_step lo B (5 * 1) 0 0 rfl w2 Wb2 HS.out (by decide)).mono ?_
  rintro e Wc2 ⟨D2, rfl, hne, hC, hS⟩
  have HS := Aside0.mk hS
  have HC := Aside0.mk (And.intro hC hne)
  clear hS hC hne
  go_wp2_with fail
  refine (add_step lo B D2 (5 * 1) 0 w2 Wc2 HS.out HC.out.1 HC.out.2 (by decide) (by decide)).mono ?_
  rintro e Wd2 ⟨rfl, hS⟩
  have HS : Aside0 (St lo B 5 w2 Wd2) := Aside0.mk hS
  clear hS HC
  obtain ⟨c0, c1, c2⟩ := HPC.out Wd2 HS.out.b
  go_wp2_with fail
  rw [rounds_succ]
  go_wp2_with fail
  have hst := String_calls lo B 5 Wd2 HS.out.i (by decide) (by decide) (HL.out Wd2 HS.out.b)
  rw [show Lib.decDigits 5 = [53] by decide +kernel] at hst
  refine hst.mono ?_
  rintro e Wf ⟨rfl, hbf⟩
  clear hst
  have hr : Wf.heap[w.heap.size]? = some (.cells #[.int .i64 0, .int .i64 0] 26 (0, 0)) := blk_below (HR.out Wd2 HS.out.b) hbf
  have hfb : Below w.heap.size w Wf := (HW.out.1.trans (HS.out.b.mono (by omega))).trans (hbf.mono (by have := HS.out.s; omega))
  have f0 := blk_frozen hr 0
  have f1 := blk_frozen hr 1
  have e0 : Wf.cell? ⟨w.heap.size, 0, none⟩ = some (.int .i64 0) := (blk_cell hr 0).trans rfl
  have e1 : Wf.cell? ⟨w.heap.size, 1, none⟩ = some (.int .i64 0) := (blk_cell hr 1).trans rfl
  have HRR := Aside0.mk hr
  have HFB := Aside0.mk hfb
  clear hr hfb c0 c1 c2 hbf
  go_wp2
  refine bodyPost_ret (v := .tuple #[.string ⟨#[53]⟩, .agg #[.int .i64 0, .int .i64 0]]) (results_list (rs := [.tmp 2, .cell 3 26]) rfl (by simp) (.tmp (.cell w.heap.size 26 #[.int .i64 0, .int .i64 0] (0, 0) _ rfl (blk_put (blk_put HRR.out 0 _ rfl) 1 _ rfl) Tryz.underlying26 rfl (by kernel_rfl) .nil))) rfl ⟨rfl, ?_⟩
  exact below_set (below_set HFB.out (Nat.le_refl _)) (Nat.le_refl _)
end Go.Proofs.YtkplhpnhjfdelaaGreatDoor.RK
namespace Go.Proofs.YtkplhpnhjfdelaaGreatDoor.PB
open Go.RowKit Go.Proofs.YtkplhpnhjfdelaaGreatDoorW.PrintWords Go.Proofs.YtkplhpnhjfdelaaGreatDoorW.PrintLast Go.Proofs.YtkplhpnhjfdelaaGreatDoorW.PrintMore Go.Proofs.YtkplhpnhjfdelaaGreatDoor.PPermCycles Go.Proofs.YtkplhpnhjfdelaaGreatDoor.CY Go.Proofs.YtkplhpnhjfdelaaGreatDoor.CYR
set_option linter.unusedVariables false
set_option linter.unusedSimpArgs false
theorem chk : perm_Check.f 100 [1, 2, 0, 3] = some (0, 0) := by decide +kernel
theorem cyc : cycOut 100 [1, 2, 0, 3] (List.replicate 4 false) 0 [] = some [[0, 1, 2], [3]] := by decide +kernel
theorem read4 {g : Nat} {w : World} (hb' : w.heap[g]? = some (.cells #[.int .i64 1, .int .i64 2, .int .i64 0, .int .i64 3] 3 (0, 0))) : Kd.C (Kd.int .i64) w (some ⟨g, 0, none⟩) 4 [1, 2, 0, 3] := by
  refine ⟨rfl, by decide, fun _ => ⟨_, rfl, fun j x hj => ?_⟩⟩
  match j, hj with
  | 0, hj => simp at hj; subst hj; exact ⟨_, rfl, rfl, fun i u hu => by match i, hu with | 0, hu => simp at hu; subst hu; simpa [Addr.add] using blk_cell hb' 0⟩
  | 1, hj => simp at hj; subst hj; exact ⟨_, rfl, rfl, fun i u hu => by match i, hu with | 0, hu => simp at hu; subst hu; simpa [Addr.add, Kd.int, Kd.scalar] using blk_cell hb' 1⟩
  | 2, hj => simp at hj; subst hj; exact ⟨_, rfl, rfl, fun i u hu => by match i, hu with | 0, hu => simp at hu; subst hu; simpa [Addr.add, Kd.int, Kd.scalar] using blk_cell hb' 2⟩
  | 3, hj => simp at hj; subst hj; exact ⟨_, rfl, rfl, fun i u hu => by match i, hu with | 0, hu => simp at hu; subst hu; simpa [Addr.add, Kd.int, Kd.scalar] using blk_cell hb' 3⟩
set_option maxHeartbeats 4000000 in
set_option maxRecDepth 100000 in
theorem begun (w : World) (hleaf : w.cell? ⟨6, 0, none⟩ = some (.int .i64 8)) :
    Calls Tryz.prog 9 #[] w fun e w' => e = .returned (.bool true) ∧ Below w.heap.size w w' := by
  obtain ⟨w1, hw1⟩ : ∃ w1 : World, w1 = w.alloc (.cells #[.int .i64 1, .int .i64 2, .int .i64 0, .int .i64 3] 3) := ⟨_, rfl⟩
  have hb1 : w1.heap[w.heap.size]? = some (.cells #[.int .i64 1, .int .i64 2, .int .i64 0, .int .i64 3] 3 (0, 0)) := by rw [hw1]; exact heap_alloc_new w _
  have hbel1 : Below w.heap.size w w1 := by rw [hw1]; exact (Below.refl _ _).alloc (Nat.le_refl _) _
  have hs1 : w1.heap.size = w.heap.size + 1 := by rw [hw1]; simp
  have HT := TX.Text_calls 100 (some ⟨w.heap.size, 0, none⟩) 4 [1, 2, 0, 3] [[0, 1, 2], [3]] w1 (read4 hb1) (by decide) (by decide) chk cyc (by decide) (by decide) (by decide)
  rw [show TX.cysTxt (big [[0, 1, 2], [3]]) = [40, 48, 32, 49, 32, 50, 41] by decide +kernel] at HT
  have HTT := Aside0.mk HT
  have HW := Aside0.mk (And.intro hw1 (And.intro hbel1 (And.intro hs1 hleaf)))
  clear HT hb1 hbel1 hs1 hleaf
  go_enter Tryz.func9, Tryz.ntmps9
  go_wp2_with fail
  rw [← hw1]
  clear hw1
  refine HTT.out.mono ?_
  rintro e w2 ⟨rfl, hb2⟩
  have hbel2 : Below w.heap.size w w2 := HW.out.2.1.trans (hb2.mono (by have := HW.out.2.2.1; omega))
  have hl2 : w2.cell? ⟨6, 0, none⟩ = some (.int .i64 8) := (hbel2.cell (World.block_lt_of_cell? w _ HW.out.2.2.2)).trans HW.out.2.2.2
  have HB2 := Aside0.mk (And.intro hbel2 hl2)
  clear hb2 hbel2 hl2 HTT HW
  go_wp2_with fail
  obtain ⟨w3, hw3⟩ : ∃ w3 : World, w3 = (w2.alloc (.cells #[.int .i64 0, .int .i64 0] 26)).alloc (.cells #[.int .i64 2, .int .i64 1, .int .i64 0] 3) := ⟨_, rfl⟩
  rw [← hw3]
  have hb3 : w3.heap[w2.heap.size + 1]? = some (.cells #[.int .i64 2, .int .i64 1, .int .i64 0] 3 (0, 0)) := by
    rw [hw3]
    have := heap_alloc_new (w2.alloc (.cells #[.int .i64 0, .int .i64 0] 26)) (.cells #[.int .i64 2, .int .i64 1, .int .i64 0] 3)
    simpa using this
  have hf3 : w3.heap[w2.heap.size]? = some (.cells #[.int .i64 0, .int .i64 0] 26 (0, 0)) := by
    rw [hw3]; exact blk_alloc (heap_alloc_new w2 _) _
  have hbel3 : Below w2.heap.size w2 w3 := by rw [hw3]; exact ((Below.refl _ _).alloc (Nat.le_refl _) _).alloc (by simp) _
  have hl3 := (hbel3.cell (World.block_lt_of_cell? w2 _ HB2.out.2)).trans HB2.out.2
  have hsz := hbel3.size
  refine (RK.Rank210 (w2.heap.size + 1) w3 hb3 hl3).mono ?_
  rintro e w4 ⟨rfl, hb4⟩
  have hf4 := blk_below hf3 hb4
  have e0 : w4.cell? ⟨w2.heap.size, 0, none⟩ = some (.int .i64 0) := (blk_cell hf4 0).trans rfl
  have hbel4 : Below w.heap.size w w4 := HB2.out.1.trans ((hbel3.trans (hb4.mono hsz)).mono HB2.out.1.size)
  have HB4 := Aside0.mk hbel4
  have hs4 := hb4.size
  have hlt4 : w2.heap.size < w4.heap.size := blk_lt hf4
  clear hw3 hb3 hf3 hbel3 hl3 hb4 hf4 hbel4 HB2
  have hq1 : ∀ w, (binOp .eql 9 (.string ⟨#[40, 48, 32, 49, 32, 50, 41]⟩) (.string ⟨#[40, 48, 32, 49, 32, 50, 41]⟩)).run Tryz.prog w = .ok (.bool true) w := fun w => by kernel_rfl
  have hq2 : ∀ w, (binOp .eql 9 (.string ⟨#[53]⟩) (.string ⟨#[53]⟩)).run Tryz.prog w = .ok (.bool true) w := fun w => by kernel_rfl
  go_wp2
  go_ret
  exact ⟨rfl, HB4.out.alloc (by have := HB4.out.size; omega) _⟩
end Go.Proofs.YtkplhpnhjfdelaaGreatDoor.PB
