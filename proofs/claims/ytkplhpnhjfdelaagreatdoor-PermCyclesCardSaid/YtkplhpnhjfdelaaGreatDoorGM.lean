/- The walk of PermCycles. The walk of PermCycles where the list is a permutation. -/
import Derived.Test.YtkplhpnhjfdelaaGreatDoorGU
import Derived.Test.YtkplhpnhjfdelaaGreatDoorGK
import Derived.Test.YtkplhpnhjfdelaaGreatDoorGP
import Derived.Test.YtkplhpnhjfdelaaGreatDoorGA
namespace Go.Proofs.YtkplhpnhjfdelaaGreatDoor.LC
open Go.RowKit Go.Proofs.YtkplhpnhjfdelaaGreatDoorW.PrintWords Go.Proofs.YtkplhpnhjfdelaaGreatDoorW.PrintLast Go.Proofs.YtkplhpnhjfdelaaGreatDoorW.PrintMore Go.Proofs.YtkplhpnhjfdelaaGreatDoor.PPermCycles Go.Proofs.YtkplhpnhjfdelaaGreatDoor.CY Go.Proofs.YtkplhpnhjfdelaaGreatDoor.CYR Go.Proofs.YtkplhpnhjfdelaaGreatDoor.CYS Go.Proofs.YtkplhpnhjfdelaaGreatDoor.CYB Go.Proofs.YtkplhpnhjfdelaaGreatDoor.TXB Go.Proofs.YtkplhpnhjfdelaaGreatDoor.SHP Go.Proofs.YtkplhpnhjfdelaaGreatDoor.NF Go.Proofs.YtkplhpnhjfdelaaGreatDoor.PM Go.Proofs.YtkplhpnhjfdelaaGreatDoor.PN Go.Proofs.YtkplhpnhjfdelaaGreatDoor.PO Go.Proofs.YtkplhpnhjfdelaaGreatDoor.PS Go.Proofs.YtkplhpnhjfdelaaGreatDoor.OW Go.Proofs.YtkplhpnhjfdelaaGreatDoor.LU
set_option linter.unusedVariables false
set_option linter.unusedSimpArgs false
/-- A fault's block behind a store. -/
theorem alloc_facts (W : World) (f1 f2 : Int) : ∃ W' : World, W' = W.alloc (.cells #[.int .i64 f1, .int .i64 f2] 26) ∧ W'.heap[W.heap.size]? = some (.cells #[.int .i64 f1, .int .i64 f2] 26 (0, 0)) ∧ Below W.heap.size W W' :=
  ⟨_, rfl, heap_alloc_new W _, (Below.refl _ _).alloc (Nat.le_refl _) _⟩
/-- A fault's two cells. -/
theorem cells_of {W : World} {b : Nat} {f1 f2 : Int} (h : W.heap[b]? = some (.cells #[.int .i64 f1, .int .i64 f2] 26 (0, 0))) : W.cell? ⟨b, 0, none⟩ = some (.int .i64 f1) ∧ W.cell? ⟨b, 1, none⟩ = some (.int .i64 f2) :=
  ⟨(blk_cell h 0).trans rfl, (blk_cell h 1).trans rfl⟩
set_option maxHeartbeats 2000000 in
set_option maxRecDepth 100000 in
theorem law_bad (A : Option Addr) (c : Nat) (p : List Int) (f1 f2 : Int) (w : World) (hp : Kd.C (Kd.int .i64) w A p.length p) (hc : p.length ≤ c) (hpl : p.length * 8 ≤ 140737488355328)
    (hf : pfF p = (f1, f2)) (hne : f1 ≠ 0) (hleaf : w.cell? ⟨6, 0, none⟩ = some (.int .i64 8)) :
    Calls Tryz.prog 3 #[.slice A p.length c] w fun e w' => e = .returned (.bool true) ∧ Below w.heap.size w w' := by
  have hz1 : (f1 != 0) = true := bne_iff_ne.mpr hne
  have hk : perm_Check.f 4000 p = some (f1, f2) := by rw [check_f p _ (Nat.le_refl _), hf]
  go_enter Tryz.func3, Tryz.ntmps3
  go_wp2_with fail
  refine (own_calls A c p w hp hpl).mono ?_
  rintro e W1 ⟨v1, rfl, hv1, hb1⟩
  obtain ⟨A1, c1, rfl, hc1, hC1⟩ := Kd.R_reads hv1
  have H := Aside0.mk (And.intro hp (And.intro hleaf hpl))
  have HK := Aside0.mk hk
  have HNE := Aside0.mk hne
  clear hp hleaf hv1 hpl hk hne
  go_wp2_with fail
  refine (Cycles_bad 4000 A1 c1 p f1 f2 W1 hC1 hc1 HK.out HNE.out).mono ?_
  rintro e W2 ⟨rfl, hb2⟩
  have hb2w := hb1.trans (hb2.mono hb1.size)
  go_wp2_with fail
  obtain ⟨W3, hW3, hF3, hb3⟩ := alloc_facts W2 f1 f2
  rw [← hW3]
  have hb3w := hb2w.trans (hb3.mono hb2w.size)
  have hC3 := Kd.C_below hC1 (hb2.trans (hb3.mono hb2.size))
  clear hW3
  refine (Shape_bad 4000 A1 c1 p f1 f2 W3 hC3 hc1 HK.out HNE.out).mono ?_
  rintro e W4 ⟨rfl, hb4⟩
  have hF4 := blk_below hF3 hb4
  have hb4w := hb3w.trans (hb4.mono hb3w.size)
  go_wp2_with fail
  obtain ⟨W5, hW5, hG5, hb5⟩ := alloc_facts W4 f1 f2
  rw [← hW5]
  have hF5 := blk_below hF4 hb5
  have hb5w := hb4w.trans (hb5.mono hb4w.size)
  have hC5 := Kd.C_below hC3 (hb4.trans (hb5.mono hb4.size))
  clear hW5
  refine (Text_bad 4000 A1 c1 p f1 f2 W5 hC5 hc1 HK.out HNE.out).mono ?_
  rintro e W6 ⟨rfl, hb6⟩
  have hF6 := blk_below hF5 hb6
  have hG6 := blk_below hG5 hb6
  have hb6w := hb5w.trans (hb6.mono hb5w.size)
  go_wp2_with fail
  obtain ⟨W7, hW7, hT7, hb7⟩ := alloc_facts W6 f1 f2
  rw [← hW7]
  have hF7 := blk_below hF6 hb7
  have hG7 := blk_below hG6 hb7
  have hb7w := hb6w.trans (hb7.mono hb6w.size)
  have hC7 := Kd.C_below hC5 (hb6.trans (hb7.mono hb6.size))
  clear hW7
  refine (cayleyref_PermFault.calls 4000 A c p f1 f2 W7 (Kd.C_below H.out.1 hb7w) hc (by rw [pf_f p _ (Nat.le_refl _), hf])).mono ?_
  rintro e W8 ⟨rfl, hb8⟩
  have hF8 := blk_below hF7 hb8
  have hG8 := blk_below hG7 hb8
  have hT8 := blk_below hT7 hb8
  have hb8w := hb7w.trans (hb8.mono hb7w.size)
  go_wp2_with fail
  obtain ⟨W9, hW9, hR9, hb9⟩ := alloc_facts W8 f1 f2
  rw [← hW9]
  have hF9 := blk_below hF8 hb9
  have hG9 := blk_below hG8 hb9
  have hT9 := blk_below hT8 hb9
  have hb9w := hb8w.trans (hb9.mono hb8w.size)
  have hC9 := Kd.C_below hC7 (hb8.trans (hb9.mono hb8.size))
  clear hW9 hF3 hF4 hF5 hF6 hF7 hF8 hG5 hG6 hG7 hG8 hT7 hT8 hb1 hb2 hb3 hb4 hb5 hb6 hb7 hb8 hb9 hb2w hb3w hb4w hb5w hb6w hb7w hb8w hC1 hC3 hC5 hC7
  refine (PB.begun W9 ((hb9w.cell (World.block_lt_of_cell? w _ H.out.2.1)).trans H.out.2.1)).mono ?_
  rintro e W10 ⟨rfl, hb10⟩
  have hF10 := blk_below hF9 hb10
  have hG10 := blk_below hG9 hb10
  have hT10 := blk_below hT9 hb10
  have hR10 := blk_below hR9 hb10
  have hb10w := hb9w.trans (hb10.mono hb9w.size)
  have hC10 := Kd.C_below hC9 hb10
  have hints : cayleyref_Ints.f (p.length + 1) p p = some true := by
    rw [ints_f _ _ (by have := H.out.2.2; omega) _ (Nat.lt_succ_self _)]; simp
  clear hF9 hG9 hT9 hR9 hb10 hC9 hb9w
  go_wp2_with fail
  refine (cayleyref_Ints.calls _ A1 c1 p A c p true W10 hC10 hc1 (Kd.C_below H.out.1 hb10w) hc hints).mono ?_
  rintro e W11 ⟨rfl, hdr⟩
  have hb11w := Aside0.mk (hb10w.trans (hdr.below.mono hb10w.size))
  obtain ⟨f0, f1'⟩ := cells_of (blk_below hF10 hdr.below)
  obtain ⟨g0, g1⟩ := cells_of (blk_below hG10 hdr.below)
  obtain ⟨t0, t1⟩ := cells_of (blk_below hT10 hdr.below)
  obtain ⟨r0, r1⟩ := cells_of (blk_below hR10 hdr.below)
  have hneq := neq_fault f1 f2
  clear hints hdr hF10 hG10 hT10 hR10 hC10 hb10w
  go_wp2
  go_ret
  exact ⟨rfl, hb11w.out⟩
end Go.Proofs.YtkplhpnhjfdelaaGreatDoor.LC
namespace Go.Proofs.YtkplhpnhjfdelaaGreatDoor.LD
open Go.RowKit Go.Proofs.YtkplhpnhjfdelaaGreatDoorW.PrintWords Go.Proofs.YtkplhpnhjfdelaaGreatDoorW.PrintLast Go.Proofs.YtkplhpnhjfdelaaGreatDoorW.PrintMore Go.Proofs.YtkplhpnhjfdelaaGreatDoor.PPermCycles Go.Proofs.YtkplhpnhjfdelaaGreatDoor.CY Go.Proofs.YtkplhpnhjfdelaaGreatDoor.CYR Go.Proofs.YtkplhpnhjfdelaaGreatDoor.CYS Go.Proofs.YtkplhpnhjfdelaaGreatDoor.TXB Go.Proofs.YtkplhpnhjfdelaaGreatDoor.SHP Go.Proofs.YtkplhpnhjfdelaaGreatDoor.SHA Go.Proofs.YtkplhpnhjfdelaaGreatDoor.NF Go.Proofs.YtkplhpnhjfdelaaGreatDoor.PM Go.Proofs.YtkplhpnhjfdelaaGreatDoor.PN Go.Proofs.YtkplhpnhjfdelaaGreatDoor.PO Go.Proofs.YtkplhpnhjfdelaaGreatDoor.PS Go.Proofs.YtkplhpnhjfdelaaGreatDoor.OW Go.Proofs.YtkplhpnhjfdelaaGreatDoor.LU Go.Proofs.YtkplhpnhjfdelaaGreatDoor.LC
set_option linter.unusedVariables false
set_option linter.unusedSimpArgs false
theorem shape_eq {p : List Int} (pp : PermL p) : ((lens (cycsTo (rd p) p.length)).mergeSort fun x y => decide (x ≤ y)).reverse = shp p.length (cycsTo (rd p) p.length) := by
  refine shp_sorted (cycs_len pp) (List.mergeSort_perm _ _) ?_
  have h := List.pairwise_mergeSort (le := fun x y : Int => decide (x ≤ y)) (fun a b c h1 h2 => by simp at *; omega) (fun a b => by simp; omega) (lens (cycsTo (rd p) p.length))
  exact h.imp (fun h => by simpa using h)
theorem str_eq {S T : ByteArray} (h : S.data.toList = T.data.toList) : S = T := by
  apply ByteArray.ext
  exact Array.toList_inj.1 h
set_option maxHeartbeats 4000000 in
set_option maxRecDepth 100000 in
theorem law_ok (A : Option Addr) (c : Nat) (p : List Int) (w : World) (hp : Kd.C (Kd.int .i64) w A p.length p) (hc : p.length ≤ c)
    (hf : (pfF p).1 = 0) (hleaf : w.cell? ⟨6, 0, none⟩ = some (.int .i64 8)) (htab : Lib.TabIs Tryz.prog w "internal/strconv.uint64pow10" .u64 Lib.pow10Tab) :
    Calls Tryz.prog 3 #[.slice A p.length c] w fun e w' => e = .returned (.bool true) ∧ Below w.heap.size w w' := by
  obtain ⟨hf0, hn, pp⟩ := pfF_ok hf
  clear hf
  have hk : perm_Check.f 4000 p = some (0, 0) := by rw [check_f p _ (Nat.le_refl _), hf0]
  have hcy := cycOut_all pp hn (k := 4000) (by omega)
  have hcl : (cycsTo (rd p) p.length).length ≤ 1000 := Nat.le_trans (cycsTo_len _ _) hn
  obtain ⟨L, hL⟩ : ∃ L, L = big (cycsTo (rd p) p.length) := ⟨_, rfl⟩
  obtain ⟨X, hX⟩ : ∃ X, X = shp p.length (cycsTo (rd p) p.length) := ⟨_, rfl⟩
  have hlists : cayleyref_Lists.f 3000 L L = some true := by
    rw [hL]; exact lists_f _ (big_len hn) (fun c hc => (cycs_pts pp hn c hc).1)
  have hof : cayleyref_CyclesOf.f 1200000 p false = some L := by rw [hL]; exact of_ff pp hn _ (by omega)
  have hsh : cayleyref_ShapeOf.f 1200000 p = some X := by rw [hX]; exact shape_f pp hn _ (by omega)
  have H := Aside0.mk (And.intro hp (And.intro hleaf (And.intro (Lib.tabBelow_of_tabIs htab) (And.intro pp hf0))))
  have HK := Aside0.mk (And.intro hk (And.intro hcy hcl))
  have HF := Aside0.mk (And.intro hlists (And.intro hof hsh))
  have HL := Aside0.mk hL
  have HX := Aside0.mk hX
  clear hleaf htab hk hcy hcl hlists hof hsh hL hX hf0
  go_enter Tryz.func3, Tryz.ntmps3
  go_wp2_with fail
  refine (own_calls A c p w hp (by omega)).mono ?_
  rintro e W1 ⟨v1, rfl, hv1, hb1⟩
  obtain ⟨A1, c1, rfl, hc1, hC1⟩ := Kd.R_reads hv1
  clear hp hv1 pp
  go_wp2_with fail
  refine (Cycles_calls 4000 A1 c1 p _ W1 hC1 hc1 hn HK.out.1 HK.out.2.1).mono ?_
  rintro e W2 ⟨v2, rfl, hv2, hb2⟩
  rw [← HL.out] at hv2
  obtain ⟨A2, c2, rfl, hc2, hL2⟩ := Kd.R_reads hv2
  have hb2w := hb1.trans (hb2.mono hb1.size)
  clear hv2
  go_wp2_with fail
  obtain ⟨W3, hW3, hF3, hb3⟩ := alloc_facts W2 0 0
  rw [← hW3]
  have hb3w := hb2w.trans (hb3.mono hb2w.size)
  have hC3 := Kd.C_below hC1 (hb2.trans (hb3.mono hb2.size))
  have hL3 := Kd.C_below hL2 hb3
  clear hW3
  refine (Shape_calls 4000 A1 c1 p _ W3 hC3 hc1 hn HK.out.1 HK.out.2.1 HK.out.2.2).mono ?_
  rintro e W4 ⟨v4, rfl, hv4, hb4⟩
  rw [shape_eq H.out.2.2.2.1, ← HX.out] at hv4
  obtain ⟨A4, c4, rfl, hc4, hX4⟩ := Kd.R_reads hv4
  have hF4 := blk_below hF3 hb4
  have hL4 := Kd.C_below hL3 hb4
  have hb4w := hb3w.trans (hb4.mono hb3w.size)
  clear hv4
  go_wp2_with fail
  obtain ⟨W5, hW5, hG5, hb5⟩ := alloc_facts W4 0 0
  rw [← hW5]
  have hF5 := blk_below hF4 hb5
  have hb5w := hb4w.trans (hb5.mono hb4w.size)
  have hC5 := Kd.C_below hC3 (hb4.trans (hb5.mono hb4.size))
  have hL5 := Kd.C_below hL4 hb5
  have hX5 := Kd.C_below hX4 hb5
  clear hW5
  refine (Text_ok A1 c1 p W5 hC5 hc1 hn H.out.2.2.2.1 H.out.2.2.2.2 (H.out.2.2.1 W5 hb5w)).mono ?_
  rintro e W6 ⟨⟨S, rfl, hS⟩, hb6⟩
  have HS := Aside0.mk hS
  have hF6 := blk_below hF5 hb6
  have hG6 := blk_below hG5 hb6
  have hL6 := Kd.C_below hL5 hb6
  have hX6 := Kd.C_below hX5 hb6
  have hb6w := hb5w.trans (hb6.mono hb5w.size)
  clear hS
  go_wp2_with fail
  obtain ⟨W7, hW7, hT7, hb7⟩ := alloc_facts W6 0 0
  rw [← hW7]
  have hF7 := blk_below hF6 hb7
  have hG7 := blk_below hG6 hb7
  have hL7 := Kd.C_below hL6 hb7
  have hX7 := Kd.C_below hX6 hb7
  have hb7w := hb6w.trans (hb7.mono hb6w.size)
  have hC7 := Kd.C_below hC5 (hb6.trans (hb7.mono hb6.size))
  clear hW7
  refine (cayleyref_PermFault.calls 4000 A c p 0 0 W7 (Kd.C_below H.out.1 hb7w) hc (by rw [pf_f p _ (Nat.le_refl _), H.out.2.2.2.2])).mono ?_
  rintro e W8 ⟨rfl, hb8⟩
  have hF8 := blk_below hF7 hb8
  have hG8 := blk_below hG7 hb8
  have hT8 := blk_below hT7 hb8
  have hL8 := Kd.C_below hL7 hb8
  have hX8 := Kd.C_below hX7 hb8
  have hb8w := hb7w.trans (hb8.mono hb7w.size)
  go_wp2_with fail
  obtain ⟨W9, hW9, hR9, hb9⟩ := alloc_facts W8 0 0
  rw [← hW9]
  have hF9 := blk_below hF8 hb9
  have hG9 := blk_below hG8 hb9
  have hT9 := blk_below hT8 hb9
  have hL9 := Kd.C_below hL8 hb9
  have hX9 := Kd.C_below hX8 hb9
  have hb9w := hb8w.trans (hb9.mono hb8w.size)
  have hC9 := Kd.C_below hC7 (hb8.trans (hb9.mono hb8.size))
  clear hW9 hF3 hF4 hF5 hF6 hF7 hF8 hG5 hG6 hG7 hG8 hT7 hT8 hb1 hb2 hb3 hb4 hb5 hb6 hb7 hb8 hb9 hb2w hb3w hb4w hb5w hb6w hb7w hb8w hC1 hC3 hC5 hC7 hL2 hL3 hL4 hL5 hL6 hL7 hL8 hX4 hX5 hX6 hX7 hX8
  refine (PB.begun W9 ((hb9w.cell (World.block_lt_of_cell? w _ H.out.2.1)).trans H.out.2.1)).mono ?_
  rintro e W10 ⟨rfl, hb10⟩
  have hF10 := blk_below hF9 hb10
  have hG10 := blk_below hG9 hb10
  have hT10 := blk_below hT9 hb10
  have hR10 := blk_below hR9 hb10
  have hL10 := Kd.C_below hL9 hb10
  have hX10 := Kd.C_below hX9 hb10
  have hb10w := hb9w.trans (hb10.mono hb9w.size)
  have hC10 := Kd.C_below hC9 hb10
  have hints : cayleyref_Ints.f (p.length + 1) p p = some true := by
    rw [ints_f _ _ (by omega) _ (Nat.lt_succ_self _)]; simp
  clear hF9 hG9 hT9 hR9 hb10 hC9 hb9w hL9 hX9
  go_wp2_with fail
  refine (cayleyref_Ints.calls _ A1 c1 p A c p true W10 hC10 hc1 (Kd.C_below H.out.1 hb10w) hc hints).mono ?_
  rintro e W11 ⟨rfl, hdr⟩
  have hb11w := hb10w.trans (hdr.below.mono hb10w.size)
  have HLX := Aside0.mk (And.intro (Kd.C_below hL10 hdr.below) (Kd.C_below hX10 hdr.below))
  obtain ⟨f0, f1⟩ := cells_of (blk_below hF10 hdr.below)
  obtain ⟨g0, g1⟩ := cells_of (blk_below hG10 hdr.below)
  obtain ⟨t0, t1⟩ := cells_of (blk_below hT10 hdr.below)
  obtain ⟨r0, r1⟩ := cells_of (blk_below hR10 hdr.below)
  have hneq := neq_fault 0 0
  clear hints hdr hF10 hG10 hT10 hR10 hC10 hb10w hL10 hX10
  go_wp2_with fail
  clear f0 f1 g0 g1 t0 t1 r0 r1 hneq
  refine (cayleyref_CyclesOf.calls 1200000 A c p false L W11 (Kd.C_below H.out.1 hb11w) hc HF.out.2.1).mono ?_
  rintro e W12 ⟨v12, rfl, hv12, hb12⟩
  obtain ⟨A12, c12, rfl, hc12, hL12⟩ := Kd.S_reads hv12
  have hb12w := hb11w.trans (hb12.mono hb11w.size)
  clear hv12
  go_wp2_with fail
  refine (cayleyref_Lists.calls 3000 A2 c2 L A12 c12 L true W12 (Kd.C_below HLX.out.1 hb12) hc2 hL12 hc12 HF.out.1).mono ?_
  rintro e W13 ⟨rfl, hd13⟩
  have hb13w := hb12w.trans (hd13.below.mono hb12w.size)
  have hX13 := Kd.C_below HLX.out.2 (hb12.trans (hd13.below.mono hb12.size))
  clear hL12 hb12 hd13 hb12w hb11w
  go_wp2_with fail
  refine (cayleyref_ShapeOf.calls 1200000 A c p X W13 (Kd.C_below H.out.1 hb13w) hc HF.out.2.2).mono ?_
  rintro e W14 ⟨v14, rfl, hv14, hb14⟩
  obtain ⟨A14, c14, rfl, hc14, hX14⟩ := Kd.R_reads hv14
  have hb14w := hb13w.trans (hb14.mono hb13w.size)
  have hints : cayleyref_Ints.f (X.length + 1) X X = some true := by
    rw [ints_f _ _ hX14.2.1 _ (Nat.lt_succ_self _)]; simp
  clear hv14
  go_wp2_with fail
  refine (cayleyref_Ints.calls _ A4 c4 X A14 c14 X true W14 (Kd.C_below hX13 hb14) hc4 hX14 hc14 hints).mono ?_
  rintro e W15 ⟨rfl, hd15⟩
  have hb15w := hb14w.trans (hd15.below.mono hb14w.size)
  clear hints hd15 hX13 hX14 hb14 hb14w hb13w
  go_wp2_with fail
  refine (TextOf_ok A c p W15 (Kd.C_below H.out.1 hb15w) hc hn H.out.2.2.2.1).mono ?_
  rintro e W16 ⟨⟨T, rfl, hT⟩, hb16⟩
  have hST : S = T := str_eq (HS.out.trans hT.symm)
  have hq : ∀ w, (binOp .eql 9 (.string S) (.string T)).run Tryz.prog w = .ok (.bool true) w := fun w => by rw [hST]; simp [go_sem]
  have hfin := Aside0.mk (hb15w.trans (hb16.mono hb15w.size))
  have HST := Aside0.mk hST
  clear hT hb16 hb15w hST
  go_wp2
  go_ret
  exact ⟨by first | rfl | (rw [HST.out]; simp), hfin.out⟩
end Go.Proofs.YtkplhpnhjfdelaaGreatDoor.LD
