/- perm.Shape: what its loop keeps; one round of it. Written by shpgen.py out of CL and CYR. perm.Shape: the cycles' lengths, sorted and turned round. Written by shpgen.py out of CYS and CYB. -/
import Derived.Test.YtkplhpnhjfdelaaGreatDoorGD
import Derived.Test.YtkplhpnhjfdelaaGreatDoorGA
import Derived.Test.YtkplhpnhjfdelaaGreatDoorGT
namespace Go.Proofs.YtkplhpnhjfdelaaGreatDoor.SHA
open Go.RowKit Go.Proofs.YtkplhpnhjfdelaaGreatDoorW.PrintWords Go.Proofs.YtkplhpnhjfdelaaGreatDoorW.PrintLast Go.Proofs.YtkplhpnhjfdelaaGreatDoorW.PrintMore Go.Proofs.YtkplhpnhjfdelaaGreatDoor.CL Go.Proofs.YtkplhpnhjfdelaaGreatDoor.CY Go.Proofs.YtkplhpnhjfdelaaGreatDoor.CYG
open Go.Proofs.YtkplhpnhjfdelaaGreatDoor.CYR (rfOf fb_round kb_round R_append_in)
set_option linter.unusedVariables false
set_option linter.unusedSimpArgs false
attribute [local go_sem] Oper.semAt_some
/-- A captured variable (block B) holds a list of numbers of the call's own, which lies in blocks from lo on. -/
def AccI (lo B : Nat) (acc : List Int) (W : World) : Prop :=
  B < W.heap.size ∧ lo ≤ W.heap.size ∧ ∃ v, W.heap[B]? = some (.cells #[v] 22 (0, 0)) ∧ Kd.R (Kd.int .i64) 3 W lo (fun _ => True) v acc
theorem AccI.keep {lo B : Nat} {acc : List Int} {W W' : World} {H : Nat} {cs : Array Value} (h : AccI lo B acc W) (hH : W.heap[H]? = some (.cells cs 4 (0, 0))) (hk : W.grownBy W' (some H)) : AccI lo B acc W' := by
  obtain ⟨hB, hl, v, hv, hr⟩ := h
  have hne : ∀ k cells q fr, W.heap[k]? = some (.cells cells q fr) → q ≠ 4 → k ≠ H := by
    rintro k cells q fr hc hq rfl
    rw [hc] at hH
    injection hH with hH
    injection hH with _ hq2
    exact hq hq2
  refine ⟨Nat.lt_of_lt_of_le hB hk.size, Nat.le_trans hl hk.size, v, (hk.block B hB (by have := hne _ _ _ _ hv (by decide); simpa using this)).trans hv, ?_⟩
  refine Kd.R_mono (Kd.R_move (R_lo hr) (fun k hq => ?_)) (fun _ _ => trivial)
  obtain ⟨_, hlt, q, hq1, cells, hc⟩ := hq
  have hn := hne _ _ _ _ hc (by simp only [Kd.int, Kd.scalar, List.mem_cons, List.not_mem_nil, or_false] at hq1; rcases hq1 with rfl; decide)
  exact hk.block k hlt (by simpa using hn)
theorem AccI.below {lo B : Nat} {acc : List Int} {W W' : World} (h : AccI lo B acc W) (hb : Below W.heap.size W W') : AccI lo B acc W' := by
  obtain ⟨hB, hlo, v, hv, hr⟩ := h
  refine ⟨Nat.lt_of_lt_of_le hB hb.size, Nat.le_trans hlo hb.size, v, (hb.block B hB).trans hv, ?_⟩
  exact Kd.R_mono (Kd.R_move (R_lo hr) (fun k hq => hb.block k hq.2.1)) (fun _ _ => trivial)
/-- The list is put back into its variable. -/
theorem put_backI {lo B : Nat} {acc : List Int} {v v1 : Value} {W W1 : World} (hv : W.heap[B]? = some (.cells #[v] 22 (0, 0))) (hB : B < lo) (hlo : lo ≤ W.heap.size)
    (ho : Kd.R (Kd.int .i64) 3 W lo (fun _ => True) v acc)
    {acc1 : List Int} (hr : Kd.R (Kd.int .i64) 3 W1 lo (fun _ => True) v1 acc1) (hg : W.grownBy W1 v.ownBlock) :
    AccI lo B acc1 (W1.setCell ⟨B, 0, none⟩ v1) ∧ FB lo B W (W1.setCell ⟨B, 0, none⟩ v1) ∧ KeepsBools W (W1.setCell ⟨B, 0, none⟩ v1) := by
  have hBs : B < W.heap.size := by omega
  have hnB : some B ≠ v.ownBlock := fun he => by
    have := (own_facts ho he.symm).1
    omega
  have hB1 : W1.heap[B]? = some (.cells #[v] 22 (0, 0)) := (hg.block B hBs hnB).trans hv
  have hsz : W.heap.size ≤ W1.heap.size := hg.size
  have hfar : ∀ k, k ≠ B → (W1.setCell ⟨B, 0, none⟩ v1).heap[k]? = W1.heap[k]? := fun k hk => Below.heap_setCell W1 ⟨B, 0, none⟩ v1 k hk
  refine ⟨⟨by simpa using Nat.lt_of_lt_of_le hBs hsz, by simpa using Nat.le_trans hlo hsz, v1, ?_, ?_⟩, ⟨by simpa using hsz, fun k hk hne => ?_, hg.os, hg.tape, hg.output⟩, fun k cs hk => ?_⟩
  · simpa using blk_set hB1 0 v1
  · refine Kd.R_mono (Kd.R_move (R_lo hr) (fun k hq => hfar k (by have := hq.1; omega))) (fun _ _ => trivial)
  · rw [hfar k hne]
    refine hg.block k (by omega) (fun he => ?_)
    have := (own_facts ho he.symm).1
    omega
  · have hlt : k < W.heap.size := blk_lt hk
    have hneB : k ≠ B := by
      rintro rfl
      exact absurd (type_ne hv hk) (by decide)
    rw [hfar k hneB]
    refine (hg.block k hlt (fun he => ?_)).trans hk
    obtain ⟨_, _, cells, hc⟩ := own_facts ho he.symm
    exact absurd (type_ne hk hc) (by decide)
noncomputable def asg : Code := ((Tryz.f6.body.bind rfOf).map (·.1)).getD .skip
noncomputable def bod : Code := ((Tryz.f6.body.bind rfOf).map (·.2)).getD .skip
/-- The cycles' lengths. -/
def lens (acc : List (List Int)) : List Int := acc.map fun c => (c.length : Int)
/-- The loop's record. -/
noncomputable def rec0 (fn : FuncId) (D : Nat) (tmps : Array Value) : Loop := { state := .ready, pending := none, fn := fn, tmps := tmps, params := #[14], assign := asg, body := bod, defers := D }
theorem acc_putI {lo B l : Nat} {acc : List Int} {W : World} {o : Obj} (h : AccI lo B acc W) (hl : l < lo) (hlB : l ≠ B) : AccI lo B acc (W.putObj l o) := by
  obtain ⟨h1, h2, v, h3, h4⟩ := h
  refine ⟨by simpa using h1, by simpa using h2, v, (World.putObj_heap_other (Ne.symm hlB)).trans h3, ?_⟩
  exact Kd.R_mono (Kd.R_move (R_lo h4) (fun k hk => World.putObj_heap_other (by have := hk.1; omega))) (fun _ _ => trivial)
set_option maxHeartbeats 4000000 in
set_option maxRecDepth 100000 in
theorem takesI (l lo B D : Nat) (fn : FuncId) (hl : l < lo) (hB : B < lo) (hlB : l ≠ B) (c0 c1 c2 c3 c4 c6 c7 c8 c9 c10 c11 c12 c13 c14 c15 c16 c17 c18 c19 c20 c21 c22 c23 c24 c25 : Value) :
    TakesG l lo B (fun W => W.heap[l]? = some (.loop (rec0 fn D #[c0, c1, c2, c3, c4, .pointer (some ⟨B, 0, none⟩), c6, c7, c8, c9, c10, c11, c12, c13, c14, c15, c16, c17, c18, c19, c20, c21, c22, c23, c24, c25]))) (fun acc W => AccI lo B (lens acc) W) := by
  intro acc c cv W hacc hL hlen hR
  obtain ⟨ad, cp, rfl⟩ := Kd.R_slice hR
  have hls : l < W.heap.size := (Array.getElem?_eq_some_iff.1 hL).1
  refine ⟨fn, #[c0, c1, c2, c3, c4, .pointer (some ⟨B, 0, none⟩), c6, c7, c8, c9, c10, c11, c12, c13, .slice ad c.length cp, c15, c16, c17, c18, c19, c20, c21, c22, c23, c24, c25], asg, bod, (by rw [run_yield hL rfl]; simp [rec0]), roundIn_of_wpIn trivial ?_⟩
  conv => arg 4; whnf
  gi_wp2
  refine ⟨_, run_beginRound hL rfl, ?_⟩
  obtain ⟨ob, hob⟩ : ∃ ob : Obj, ob = Obj.loop { rec0 fn D #[c0, c1, c2, c3, c4, .pointer (some ⟨B, 0, none⟩), c6, c7, c8, c9, c10, c11, c12, c13, c14, c15, c16, c17, c18, c19, c20, c21, c22, c23, c24, c25] with state := .busy } := ⟨_, rfl⟩
  rw [← hob]
  have hacc2 := acc_putI (o := ob) hacc hl hlB
  have hR2 : Kd.R (Kd.int .i64) 3 (W.putObj l ob) lo (fun _ => True) (.slice ad c.length cp) c := Kd.R_mono (Kd.R_move (R_lo hR) (fun k hk => World.putObj_heap_other (by have := hk.1; omega))) (fun _ _ => trivial)
  have hl2 : (W.putObj l ob).heap[l]? = some ob := World.putObj_heap_same hls
  obtain ⟨Wb, hWb⟩ : ∃ Wb, Wb = W.putObj l ob := ⟨_, rfl⟩
  rw [← hWb] at hacc2 hR2 hl2 ⊢
  have fin : ∀ W3 : World, AccI lo B (lens (acc ++ [c])) W3 → FB lo B Wb W3 → KeepsBools Wb W3 →
      ∃ v w', (Instr.endRound l none).run Tryz.prog W3 = .ok v w' ∧ ((Ending.returned v : Ending) = .returned (.bool true) ∧ AccI lo B (lens (acc ++ [c])) w' ∧ FB lo B W w' ∧ KeepsBools W w') := by
    intro W3 h1 h2 h3
    have hl3 : W3.heap[l]? = some (.loop { rec0 fn D #[c0, c1, c2, c3, c4, .pointer (some ⟨B, 0, none⟩), c6, c7, c8, c9, c10, c11, c12, c13, c14, c15, c16, c17, c18, c19, c20, c21, c22, c23, c24, c25] with state := .busy }) := by rw [← hob]; exact (h2.2.1 l hl hlB).trans hl2
    refine ⟨_, _, run_endRound none hl3, rfl, ?_, ?_, ?_⟩
    · exact acc_putI h1 hl hlB
    · exact fb_round hL hlB (hWb ▸ h2) (Array.getElem?_eq_some_iff.1 hl3).1
    · exact kb_round hL (hWb ▸ h3)
  have FIN := Aside0.mk fin
  clear fin
  conv => arg 4; whnf
  have hfl : lens (acc ++ [c]) = lens acc ++ [(c.length : Int)] := by simp [lens]
  obtain ⟨hBs, hlo, v, hv, ho⟩ := hacc2
  have hcell : Wb.cell? ⟨B, 0, none⟩ = some v := (blk_cell hv 0).trans rfl
  have hfro : Wb.frozen? ⟨B, 0, none⟩ = false := blk_frozen hv 0
  have HO := Aside0.mk ho
  have HV := Aside0.mk hv
  have HFL := Aside0.mk hfl
  have HLE := Aside0.mk (show (lens acc).length ≤ 100000 by simpa [lens] using hlen)
  clear ho hR2 hv hfl hacc hL hR hWb hl2 hob hlen
  gi_wp2_with (first | (gi_at_builtin; refine R_append_in (Kd.int .i64) lo rfl (.tmp 15) (.tmp 18) 22 3 (.int .i64 0) 8 rfl Tryz.underlying22 OW.info3 rfl (by decide) (by omega) v _ (c.length : Int) (.int .i64 c.length) rfl (fun k => False) rfl rfl rfl (fun k hk => hk.elim) HO.out hlo (by have := HLE.out; omega) ?_; intro v1 w1 ho1 hg1; have hnB : some B ≠ v.ownBlock := (fun he => by have := (own_facts HO.out he.symm).1; omega); have hc1 : w1.cell? ⟨B, 0, none⟩ = some v := hg1.cell hcell hnB; have hf1 : w1.frozen? ⟨B, 0, none⟩ = false := (World.frozen?_of_block (hg1.block B hBs hnB)).trans hfro; obtain ⟨ad1, cp1, e1⟩ := Kd.R_slice ho1; subst e1; have hpb := put_backI HV.out hB hlo HO.out ho1 hg1; have HPB := Aside0.mk hpb; clear hpb ho1 hg1))
  have r := HPB.out
  rw [List.length_append] at r
  exact FIN.out _ (by rw [HFL.out]; exact r.1) r.2.1 r.2.2
end Go.Proofs.YtkplhpnhjfdelaaGreatDoor.SHA
namespace Go.Proofs.YtkplhpnhjfdelaaGreatDoor.SHP
open Go.RowKit Go.Proofs.YtkplhpnhjfdelaaGreatDoorW.PrintWords Go.Proofs.YtkplhpnhjfdelaaGreatDoorW.PrintLast Go.Proofs.YtkplhpnhjfdelaaGreatDoorW.PrintMore Go.Proofs.YtkplhpnhjfdelaaGreatDoor.CL Go.Proofs.YtkplhpnhjfdelaaGreatDoor.CY Go.Proofs.YtkplhpnhjfdelaaGreatDoor.CYG Go.Proofs.YtkplhpnhjfdelaaGreatDoor.SHA Go.Proofs.YtkplhpnhjfdelaaGreatDoor.SR Go.Proofs.YtkplhpnhjfdelaaGreatDoor.PPermCycles
set_option linter.unusedVariables false
set_option linter.unusedSimpArgs false
/-- slices.Sort of a row of the call's own. -/
theorem sort_calls (lo : Nat) (ok : Nat → Prop) (v : Value) (L : List Int) (W : World) (h : Kd.R (Kd.int .i64) 3 W lo ok v L) (hlo : lo ≤ W.heap.size) (hl : L.length ≤ 100000) :
    Calls Tryz.prog 19 #[v] W fun e W' => e = .returned (.tuple #[]) ∧ Kd.R (Kd.int .i64) 3 W' lo ok v (L.mergeSort fun x y => decide (x ≤ y)) ∧ lo ≤ W'.heap.size ∧ Below lo W W' := by
  rcases Nat.eq_zero_or_pos L.length with h0 | hp
  · obtain ⟨ad, cp, rfl⟩ := Kd.R_slice h
    have hL : L = [] := List.length_eq_zero_iff.1 h0
    subst hL
    refine (Tryz.slices_Sort_int_none ad cp W).mono ?_
    rintro e W' ⟨rfl, rfl⟩
    exact ⟨rfl, by simpa using h, hlo, Below.refl _ _⟩
  · obtain ⟨g, cap, cur, rfl, hok, hb, hh, hn, hm, hs, hH⟩ := row_of_R h hp
    refine (Tryz.slices_Sort_int g 0 cap L W hH (blk_lt hh) (by omega)).mono ?_
    rintro e W' ⟨rfl, n, os, rfl⟩
    obtain ⟨h1, h2⟩ := R_turned (ys := L.mergeSort fun x y => decide (x ≤ y)) hok hb hh hn hm hs (List.length_mergeSort L) n os
    exact ⟨rfl, h1, Nat.le_trans hlo h2.size, (Below.refl lo W).grown h2 hlo (fun k hk => by cases hk; exact hb)⟩
/-- slices.Reverse of a row of the call's own. -/
theorem rev_calls (lo : Nat) (ok : Nat → Prop) (v : Value) (L : List Int) (W : World) (h : Kd.R (Kd.int .i64) 3 W lo ok v L) (hlo : lo ≤ W.heap.size) (hl : L.length ≤ 100000) :
    Calls Tryz.prog 20 #[v] W fun e W' => e = .returned (.tuple #[]) ∧ Kd.R (Kd.int .i64) 3 W' lo ok v L.reverse ∧ lo ≤ W'.heap.size ∧ Below lo W W' := by
  rcases Nat.eq_zero_or_pos L.length with h0 | hp
  · obtain ⟨ad, cp, rfl⟩ := Kd.R_slice h
    have hL : L = [] := List.length_eq_zero_iff.1 h0
    subst hL
    refine (Tryz.slices_Reverse_int_empty ad cp W).mono ?_
    rintro e W' ⟨rfl, rfl⟩
    exact ⟨rfl, h, hlo, Below.refl _ _⟩
  · obtain ⟨g, cap, cur, rfl, hok, hb, hh, hn, hm, hs, hH⟩ := row_of_R h hp
    refine (Tryz.slices_Reverse_int g 0 cap L W hH (by omega)).mono ?_
    rintro e W' ⟨rfl, n, rfl⟩
    obtain ⟨h1, h2⟩ := R_turned (ys := L.reverse) hok hb hh hn hm hs (List.length_reverse) n #[]
    rw [Sort.grow_empty] at h1 h2
    exact ⟨rfl, h1, Nat.le_trans hlo h2.size, (Below.refl lo W).grown h2 hlo (fun k hk => by cases hk; exact hb)⟩
attribute [local go_sem] Oper.semAt_some
set_option maxHeartbeats 4000000 in
set_option maxRecDepth 100000 in
theorem Shape_bad (k : Nat) (A : Option Addr) (cap : Nat) (p : List Int) (f1 f2 : Int) (w : World) (hp : Kd.C (Kd.int .i64) w A p.length p) (hc : p.length ≤ cap) (hf : perm_Check.f k p = some (f1, f2)) (hne : f1 ≠ 0) :
    Calls Tryz.prog 6 #[.slice A p.length cap] w fun e w' => e = .returned (.tuple #[.slice none 0 0, .agg #[.int .i64 f1, .int .i64 f2]]) ∧ Below w.heap.size w w' := by
  refine callsIn_wide.1 (callsIn_of_wp_marks (F := Fence.wide) (n := 2) Tryz.func6 rfl trivial ?_)
  simp only [Tryz.ntmps6, List.size_toArray, List.length_cons, List.length_nil, Nat.reduceAdd, Nat.reduceSub, Array.replicate_succ, Array.replicate_zero, List.push_toArray, List.append_toArray, List.nil_append, List.cons_append]
  refine wpIn_wide.2 ?_
  have hz1 : (f1 != 0) = true := bne_iff_ne.mpr hne
  go_wp2_with fail
  have hbw : Below w.heap.size w ((w.alloc (Obj.cells #[Value.slice A p.length cap] 22)).alloc (Obj.cells #[Value.int IntKind.i64 0, Value.int IntKind.i64 0] 26)) := ((Below.refl _ _).alloc (Nat.le_refl _) _).alloc (by simp) _
  refine (perm_Check.calls k A cap p f1 f2 _ (Kd.C_below hp hbw) hc hf).mono ?_
  rintro e w1 ⟨rfl, hb1⟩
  have hr1 : w1.heap[w.heap.size + 1]? = some (.cells #[.int .i64 0, .int .i64 0] 26 (0, 0)) := by
    rw [hb1.block (w.heap.size + 1) (by simp)]
    have := heap_alloc_new (w.alloc (Obj.cells #[Value.slice A p.length cap] 22)) (Obj.cells #[Value.int IntKind.i64 0, Value.int IntKind.i64 0] 26)
    simpa using this
  have hsz1 : w.heap.size + 2 ≤ w1.heap.size := by have := hb1.size; simpa using this
  have hbel : Below w.heap.size w w1 := hbw.trans (hb1.mono (by simp; omega))
  have HB := Aside0.mk hbel
  have HSZ := Aside0.mk hsz1
  obtain ⟨W2, hW2⟩ : ∃ W2 : World, W2 = w1.alloc (Obj.cells #[Value.int IntKind.i64 f1, Value.int IntKind.i64 f2] 26) := ⟨_, rfl⟩
  have hr2 : W2.heap[w.heap.size + 1]? = some (.cells #[.int .i64 0, .int .i64 0] 26 (0, 0)) := by rw [hW2]; exact blk_alloc hr1 _
  have hf2 : W2.heap[w1.heap.size]? = some (.cells #[.int .i64 f1, .int .i64 f2] 26 (0, 0)) := by rw [hW2]; exact heap_alloc_new w1 _
  have hb2 : Below w.heap.size w W2 := by rw [hW2]; exact hbel.alloc hbel.size _
  have g0 : W2.cell? ⟨w1.heap.size, 0, none⟩ = some (.int .i64 f1) := (blk_cell hf2 0).trans rfl
  have g1 : W2.cell? ⟨w1.heap.size, 1, none⟩ = some (.int .i64 f2) := (blk_cell hf2 1).trans rfl
  have hcr0 : W2.cell? ⟨w.heap.size + 1, 0, none⟩ = some (.int .i64 0) := (blk_cell hr2 0).trans rfl
  have hcr1 : W2.cell? ⟨w.heap.size + 1, 1, none⟩ = some (.int .i64 0) := (blk_cell hr2 1).trans rfl
  have HR2 := Aside0.mk (And.intro hr2 hb2)
  have hz0 := blk_frozen hr2 0
  have hz3 := blk_frozen hr2 1
  clear hb1 hp hf hbw hbel hsz1 hr1 hb2
  go_wp2_with fail
  rw [← hW2]
  clear hW2 hr2 hf2
  clear HB HSZ hne
  go_region
  go_wp2
  refine ⟨_, results_list (rs := [.tmp 2, .cell 3 26]) rfl (by simp) (.tmp (.cell (w.heap.size + 1) 26 #[.int .i64 f1, .int .i64 f2] (0, 0) _ rfl (blk_drew (blk_put (blk_put HR2.out.1 0 _ rfl) 1 _ rfl)) Tryz.underlying26 rfl (by kernel_rfl) .nil)), rfl, ?_⟩
  exact (below_set (below_set HR2.out.2 (by omega)) (by omega)).drew
set_option maxHeartbeats 4000000 in
set_option maxRecDepth 100000 in
theorem shp1 (k l Bp : Nat) (Ex : World → Prop) (AC : List (List Int) → World → Prop) (hkeep : ∀ (acc : List (List Int)) (W W' : World) (H : Nat) (cs : Array Value), AC acc W → W.heap[H]? = some (.cells cs 4 (0, 0)) → W.grownBy W' (some H) → AC acc W') (hbelow : ∀ (acc : List (List Int)) (W W' : World), AC acc W → Below W.heap.size W W' → AC acc W')
    (B : Nat) (A : Option Addr) (cap : Nat) (p : List Int) (r : List (List Int)) (w : World) (ht : TakesG l w.heap.size B Ex AC) (hex : ∀ W', FB w.heap.size B w W' → Ex W') (hn : p.length ≤ 1000) (hB : B < w.heap.size) (h0 : AC [] w)
    (hp : ∀ W', FB w.heap.size B w W' → Kd.C (Kd.int .i64) W' A p.length p) (h : cycOut k p (List.replicate p.length false) 0 [] = some r) (hbox : w.cell? ⟨Bp, 0, none⟩ = some (.slice A p.length cap)) :
    Calls Tryz.prog 18 #[.func (.yield l) #[] #[], .pointer (some ⟨Bp, 0, none⟩)] w fun e w' => (∃ v, e = .returned v) ∧ AC r w' ∧ FB w.heap.size B w w' := by
  go_enter Tryz.func18, Tryz.ntmps18
  go_wp2_with fail
  refine (cycles_gen k l Ex AC hkeep hbelow B A cap p r w ht hex hn hB h0 hp h).mono ?_
  rintro e W ⟨rfl, ha, hf⟩
  go_wp2
  go_end0
  exact ⟨⟨_, rfl⟩, ha, hf⟩
set_option maxHeartbeats 4000000 in
set_option maxRecDepth 100000 in
theorem Shape_calls (k : Nat) (A : Option Addr) (cap : Nat) (p : List Int) (r : List (List Int)) (w : World) (hp : Kd.C (Kd.int .i64) w A p.length p) (hc : p.length ≤ cap) (hn : p.length ≤ 1000) (hf : perm_Check.f k p = some (0, 0))
    (h : cycOut k p (List.replicate p.length false) 0 [] = some r) (hrl : r.length ≤ 1000) :
    Calls Tryz.prog 6 #[.slice A p.length cap] w fun e w' => ∃ v, e = .returned (.tuple #[v, .agg #[.int .i64 0, .int .i64 0]]) ∧ Kd.R (Kd.int .i64) 3 w' w.heap.size (fun _ => True) v (((lens r).mergeSort fun x y => decide (x ≤ y)).reverse) ∧ Below w.heap.size w w' := by
  refine callsIn_wide.1 (callsIn_of_wp_marks (F := Fence.wide) (n := 2) Tryz.func6 rfl trivial ?_)
  simp only [Tryz.ntmps6, List.size_toArray, List.length_cons, List.length_nil, Nat.reduceAdd, Nat.reduceSub, Array.replicate_succ, Array.replicate_zero, List.push_toArray, List.append_toArray, List.nil_append, List.cons_append]
  refine wpIn_wide.2 ?_
  go_wp2_with fail
  have hbw : Below w.heap.size w ((w.alloc (Obj.cells #[Value.slice A p.length cap] 22)).alloc (Obj.cells #[Value.int IntKind.i64 0, Value.int IntKind.i64 0] 26)) := ((Below.refl _ _).alloc (Nat.le_refl _) _).alloc (by simp) _
  refine (perm_Check.calls k A cap p 0 0 _ (Kd.C_below hp hbw) hc hf).mono ?_
  rintro e w1 ⟨rfl, hb1⟩
  have hx1 : w1.heap[w.heap.size]? = some (.cells #[.slice A p.length cap] 22 (0, 0)) := by
    rw [hb1.block w.heap.size (by simp; omega)]
    exact (Below.heap_alloc _ _ _ (by simp)).trans (heap_alloc_new w _)
  have hr1 : w1.heap[w.heap.size + 1]? = some (.cells #[.int .i64 0, .int .i64 0] 26 (0, 0)) := by
    rw [hb1.block (w.heap.size + 1) (by simp)]
    have := heap_alloc_new (w.alloc (Obj.cells #[Value.slice A p.length cap] 22)) (Obj.cells #[Value.int IntKind.i64 0, Value.int IntKind.i64 0] 26)
    simpa using this
  have hsz1 : w.heap.size + 2 ≤ w1.heap.size := by have := hb1.size; simpa using this
  have hbel : Below w.heap.size w w1 := hbw.trans (hb1.mono (by simp; omega))
  have HB := Aside0.mk hbel
  have HX1 := Aside0.mk hx1
  have HR1 := Aside0.mk hr1
  have HSZ := Aside0.mk hsz1
  have HP := Aside0.mk hp
  have HH := Aside0.mk h
  clear hb1 hp hf hbw hbel hx1 hr1 hsz1 h
  go_wp2_with fail
  obtain ⟨W2, hW2⟩ : ∃ W2 : World, W2 = (w1.alloc (Obj.cells #[Value.int IntKind.i64 0, Value.int IntKind.i64 0] 26)).alloc (Obj.cells #[Value.slice none 0 0] 22) := ⟨_, rfl⟩
  have hb2 : Below w1.heap.size w1 W2 := by rw [hW2]; exact ((Below.refl _ _).alloc (Nat.le_refl _) _).alloc (by simp) _
  have hs2 : W2.heap.size = w1.heap.size + 2 := by rw [hW2]; simp
  have hv2 : W2.heap[w1.heap.size + 1]? = some (.cells #[.slice none 0 0] 22 (0, 0)) := by
    rw [hW2]
    have := heap_alloc_new (w1.alloc (Obj.cells #[Value.int IntKind.i64 0, Value.int IntKind.i64 0] 26)) (Obj.cells #[Value.slice none 0 0] 22)
    simpa using this
  rw [← hW2]
  have hsz1 := HSZ.out
  have hx2 : W2.heap[w.heap.size]? = some (.cells #[.slice A p.length cap] 22 (0, 0)) := (hb2.block _ (by omega)).trans HX1.out
  have hr2 : W2.heap[w.heap.size + 1]? = some (.cells #[.int .i64 0, .int .i64 0] 26 (0, 0)) := (hb2.block _ (by omega)).trans HR1.out
  have hbW : Below w.heap.size w W2 := HB.out.trans (hb2.mono (by omega))
  clear hW2 HX1 HR1
  refine (wpIn_wide (n := 2)).1 ?_
  refine wpIn_rangeFunc ?_
  intro fn hfn
  obtain ⟨r0, hr0⟩ : ∃ r0 : Loop, r0 = rec0 fn W2.heap.size #[.slice A p.length cap, .pointer (some ⟨w.heap.size, 0, none⟩), .slice none 0 0, .pointer (some ⟨w.heap.size + 1, 0, none⟩), .pointer (some ⟨w1.heap.size, 0, none⟩), .pointer (some ⟨w1.heap.size + 1, 0, none⟩), undef, .slice A p.length cap, .agg #[.int .i64 0, .int .i64 0], .pointer (some ⟨w1.heap.size, 0, none⟩), .int .i64 0, .bool false, undef, .func (.func 18) #[] #[.pointer (some ⟨w.heap.size, 0, none⟩)], undef, undef, undef, undef, undef, undef, undef, undef, undef, undef, undef, undef] := ⟨_, rfl⟩
  obtain ⟨W3, hW3⟩ : ∃ W3 : World, W3 = (W2.alloc (.deferred (some []))).alloc (.loop r0) := ⟨_, rfl⟩
  have hL3 : W3.heap[W2.heap.size + 1]? = some (.loop r0) := by
    rw [hW3]; have := World.alloc_heap_new (W2.alloc (.deferred (some []))) (.loop r0); rwa [World.size_alloc] at this
  have hK3 : W3.heap[W2.heap.size]? = some (.deferred (some [])) := by
    rw [hW3]; exact (Below.heap_alloc _ _ _ (by simp)).trans (World.alloc_heap_new W2 _)
  have hb3 : Below W2.heap.size W2 W3 := by rw [hW3]; exact ((Below.refl _ _).alloc (Nat.le_refl _) _).alloc (by simp) _
  have hs3 : W3.heap.size = W2.heap.size + 2 := by rw [hW3]; simp
  have hv3 : W3.heap[w1.heap.size + 1]? = some (.cells #[.slice none 0 0] 22 (0, 0)) := (hb3.block _ (by omega)).trans hv2
  have hx3 : W3.heap[w.heap.size]? = some (.cells #[.slice A p.length cap] 22 (0, 0)) := (hb3.block _ (by omega)).trans hx2
  have hr3 : W3.heap[w.heap.size + 1]? = some (.cells #[.int .i64 0, .int .i64 0] 26 (0, 0)) := (hb3.block _ (by omega)).trans hr2
  have hbW3 : Below w.heap.size w W3 := hbW.trans (hb3.mono (by omega))
  have eg := fun args w => enters_of (P := Tryz.prog) Tryz.func18 (by kernel_rfl) rfl args w
  refine ⟨W2.heap.size + 1, [{ target := .collected W2.heap.size, args := #[] }], W3, { target := .fn (.func 18) #[.pointer (some ⟨w.heap.size, 0, none⟩)], args := #[.func (.yield (W2.heap.size + 1)) #[] #[]] }, W3, 18,
    #[.func (.yield (W2.heap.size + 1)) #[] #[], .pointer (some ⟨w.heap.size, 0, none⟩)], W3, ?_, ?_, fun _ _ => trivial, ?_, fun _ => by omega, ?_⟩
  · rw [hW3, hr0]; exact run_enterLoop_outer _ _ _ _ _
  · simp only [resolve]
    simp [go_sem]
  · simp [invoke, go_sem, eg]
  · refine callsIn_wide.2 ?_
    have hcell : W3.cell? ⟨w.heap.size, 0, none⟩ = some (.slice A p.length cap) := (blk_cell hx3 0).trans rfl
    refine (shp1 k (W2.heap.size + 1) w.heap.size (fun W => W.heap[W2.heap.size + 1]? = some (.loop r0)) (fun acc W => AccI W3.heap.size (w1.heap.size + 1) (lens acc) W) (fun _ _ _ _ _ h1 h2 h3 => h1.keep h2 h3) (fun _ _ _ h1 h2 => h1.below h2) (w1.heap.size + 1) A cap p r W3 ?ht (fun W' hf => (hf.2.1 _ (by omega) (by omega)).trans hL3) hn (by omega) ⟨by omega, Nat.le_refl _, _, hv3, Kd.R_nil _ _ _ _ _⟩ (fun W' hf => Kd.C_below HP.out (hbW3.trans (hf.below (by omega) (by omega)))) HH.out hcell).mono ?_
    case ht =>
      rw [hr0]
      exact takesI (W2.heap.size + 1) W3.heap.size (w1.heap.size + 1) W2.heap.size fn (by omega) (by omega) (by omega) (.slice A p.length cap) (.pointer (some ⟨w.heap.size, 0, none⟩)) (.slice none 0 0) (.pointer (some ⟨w.heap.size + 1, 0, none⟩)) (.pointer (some ⟨w1.heap.size, 0, none⟩)) undef (.slice A p.length cap) (.agg #[.int .i64 0, .int .i64 0]) (.pointer (some ⟨w1.heap.size, 0, none⟩)) (.int .i64 0) (.bool false) undef (.func (.func 18) #[] #[.pointer (some ⟨w.heap.size, 0, none⟩)]) undef undef undef undef undef undef undef undef undef undef undef undef
    rintro e W4 ⟨⟨v, rfl⟩, ha, hf⟩
    have hl4 : W4.heap[W2.heap.size + 1]? = some (.loop r0) := (hf.2.1 _ (by omega) (by omega)).trans hL3
    have hk4 : W4.heap[W2.heap.size]? = some (.deferred (some [])) := (hf.2.1 _ (by omega) (by omega)).trans hK3
    have hr4 : W4.heap[w.heap.size + 1]? = some (.cells #[.int .i64 0, .int .i64 0] 26 (0, 0)) := (hf.2.1 _ (by omega) (by omega)).trans hr3
    have hb4 : Below w.heap.size w W4 := hbW3.trans (hf.below (by omega) (by omega))
    refine ⟨none, W4.putObj (W2.heap.size + 1) (.loop { r0 with state := .exhausted }), by have := run_endLoop (P := Tryz.prog) hl4 (by rw [hr0]; simp [rec0]); rw [this, show r0.pending = none by rw [hr0]; rfl], ?_⟩
    have hls : W2.heap.size + 1 < W4.heap.size := (Array.getElem?_eq_some_iff.1 hl4).1
    obtain ⟨W5, hW5⟩ : ∃ W5 : World, W5 = W4.putObj (W2.heap.size + 1) (.loop { r0 with state := .exhausted }) := ⟨_, rfl⟩
    have ha5 : AccI W3.heap.size (w1.heap.size + 1) (lens r) W5 := by rw [hW5]; exact acc_putI ha (by omega) (by omega)
    have hk5 : W5.heap[W2.heap.size]? = some (.deferred (some [])) := by rw [hW5]; exact (World.putObj_heap_other (by omega)).trans hk4
    have hr5 : W5.heap[w.heap.size + 1]? = some (.cells #[.int .i64 0, .int .i64 0] 26 (0, 0)) := by rw [hW5]; exact (World.putObj_heap_other (by omega)).trans hr4
    have hb5 : Below w.heap.size w W5 := by
      rw [hW5]
      exact hb4.trans ⟨rfl, rfl, rfl, by simp, fun j hj => World.putObj_heap_other (by have := hbW.size; omega)⟩
    rw [← hW5]
    obtain ⟨hB5, hlo5, vo, hvo, hro⟩ := ha5
    obtain ⟨ao, co, rfl⟩ := Kd.R_slice hro
    have hlr : (lens r).length ≤ 100000 := by rw [lens, List.length_map]; omega
    obtain ⟨L, hL⟩ : ∃ L, L = lens r := ⟨_, rfl⟩
    rw [← hL] at hro hlr hvo
    have HLL := Aside0.mk hL
    have hbW5 := hbW.size
    have hco : W5.cell? ⟨w1.heap.size + 1, 0, none⟩ = some (.slice ao L.length co) := (blk_cell hvo 0).trans rfl
    clear hW5 hl4 hk4 hr4 hb4 ha hf hL
    have hsort := sort_calls W3.heap.size (fun _ => True) (.slice ao L.length co) L W5 hro hlo5 hlr
    simp only [Exit.inBlock, Exit.then, List.cons_append, List.nil_append]
    go_wp2_with fail
    refine hsort.mono ?_
    rintro e W6 ⟨rfl, hro6, hlo6, hb6⟩
    have hvo6 := (hb6.block (w1.heap.size + 1) (by omega)).trans hvo
    have hr6 := (hb6.block (w.heap.size + 1) (by omega)).trans hr5
    have hk6 := (hb6.block W2.heap.size (by omega)).trans hk5
    have hbe6 : Below w.heap.size w W6 := hb5.trans (hb6.mono (by omega))
    have hco6 : W6.cell? ⟨w1.heap.size + 1, 0, none⟩ = some (.slice ao L.length co) := (blk_cell hvo6 0).trans rfl
    have hrev := rev_calls W3.heap.size (fun _ => True) (.slice ao L.length co) (L.mergeSort fun x y => decide (x ≤ y)) W6 hro6 hlo6 (by rw [List.length_mergeSort]; exact hlr)
    clear hsort hro hvo hco hr5 hk5 hb5 hb6 hro6
    go_wp2_with fail
    refine hrev.mono ?_
    rintro e W7 ⟨rfl, hro7, hlo7, hb7⟩
    have hvo7 := (hb7.block (w1.heap.size + 1) (by omega)).trans hvo6
    have hr7 := (hb7.block (w.heap.size + 1) (by omega)).trans hr6
    have hk7 := (hb7.block W2.heap.size (by omega)).trans hk6
    have hbe7 : Below w.heap.size w W7 := hbe6.trans (hb7.mono (by omega))
    have hco7 : W7.cell? ⟨w1.heap.size + 1, 0, none⟩ = some (.slice ao L.length co) := (blk_cell hvo7 0).trans rfl
    have hcr0 : W7.cell? ⟨w.heap.size + 1, 0, none⟩ = some (.int .i64 0) := (blk_cell hr7 0).trans rfl
    have hcr1 : W7.cell? ⟨w.heap.size + 1, 1, none⟩ = some (.int .i64 0) := (blk_cell hr7 1).trans rfl
    have hz0 := blk_frozen hr7 0
    have hz1 := blk_frozen hr7 1
    clear hrev hvo6 hco6 hr6 hk6 hbe6 hb7
    go_wp2
    have hk8 : ((W7.setCell ⟨w.heap.size + 1, 0, none⟩ (.int .i64 0)).setCell ⟨w.heap.size + 1, 1, none⟩ (.int .i64 0)).heap[W2.heap.size]? = some (.deferred (some [])) := (Below.heap_setCell _ ⟨w.heap.size + 1, 1, none⟩ _ _ (by simp; omega)).trans ((Below.heap_setCell _ ⟨w.heap.size + 1, 0, none⟩ _ _ (by simp; omega)).trans hk7)
    refine ⟨by simp, .inl ⟨_, _, rfl, run_takeDeferred (by rw [← hs2]; exact hk8), ?_⟩⟩
    refine ⟨_, results_list (rs := [.tmp 2, .cell 3 26]) rfl (by simp) (.tmp (.cell (w.heap.size + 1) 26 #[.int .i64 0, .int .i64 0] (0, 0) _ rfl ((World.putObj_heap_other (by omega)).trans (blk_put (blk_put hr7 0 _ rfl) 1 _ rfl)) Tryz.underlying26 rfl (by kernel_rfl) .nil)), _, rfl, ?_, ?_⟩
    · rw [← HLL.out]
      refine Kd.R_lower (Kd.R_mono (Kd.R_move (R_lo hro7) (fun k hk => ?_)) (fun _ _ => trivial)) (by omega)
      have hkk := hk.1
      exact (World.putObj_heap_other (by omega)).trans ((Below.heap_setCell _ ⟨w.heap.size + 1, 1, none⟩ _ _ (by simp; omega)).trans (Below.heap_setCell _ ⟨w.heap.size + 1, 0, none⟩ _ _ (by simp; omega)))
    · exact (below_set (below_set hbe7 (by omega)) (by omega)).trans ⟨rfl, rfl, rfl, by simp, fun j hj => World.putObj_heap_other (by omega)⟩
end Go.Proofs.YtkplhpnhjfdelaaGreatDoor.SHP
