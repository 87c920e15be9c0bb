/- The law's walk. The law's walk where both are permutations. -/
import Derived.Test.YtnibognblomfeaaGreatDoorGK
import Derived.Test.YtnibognblomfeaaGreatDoorGL
import Derived.Test.YtnibognblomfeaaGreatDoorGC
namespace Go.Proofs.YtnibognblomfeaaGreatDoor.LW
open Go.RowKit Go.Proofs.YtnibognblomfeaaGreatDoorW.PrintWords Go.Proofs.YtnibognblomfeaaGreatDoorW.PrintLast Go.Proofs.YtnibognblomfeaaGreatDoorW.PrintMore Go.Proofs.YtnibognblomfeaaGreatDoor.PPermCauchy Go.Proofs.YtnibognblomfeaaGreatDoor.CY Go.Proofs.YtnibognblomfeaaGreatDoor.CJ Go.Proofs.YtnibognblomfeaaGreatDoor.CK Go.Proofs.YtnibognblomfeaaGreatDoor.PM Go.Proofs.YtnibognblomfeaaGreatDoor.PN Go.Proofs.YtnibognblomfeaaGreatDoor.PO Go.Proofs.YtnibognblomfeaaGreatDoor.OW
set_option linter.unusedVariables false
set_option linter.unusedSimpArgs false
theorem eq_int (d : Nat) (a b : Int) (w : World) : (Op.equalIn (d + 1) 3 (.int .i64 a) (.int .i64 b)).run Tryz.prog w = .ok (a == b) w := by
  simp [Op.equalIn, run_underlying Tryz.underlying3]
theorem eq_fault (d : Nat) (a b a' b' : Int) (w : World) : (Op.equalIn (d + 1 + 1) 24 (.agg #[.int .i64 a, .int .i64 b]) (.agg #[.int .i64 a', .int .i64 b'])).run Tryz.prog w = .ok ((a == a') && (b == b')) w := by
  refine eqA_of Tryz.underlying24 (by kernel_rfl) ?_
  exact eqf_cons (by rfl) (by kernel_rfl) (by kernel_rfl) (eq_int d a a' w) (eqf_last (by rfl) (by kernel_rfl) (by kernel_rfl) (eq_int d b b' w))
theorem neq_fault (a b : Int) (w : World) : (binOp .neq 24 (.agg #[.int .i64 a, .int .i64 b]) (.agg #[.int .i64 a, .int .i64 b])).run Tryz.prog w = .ok (.bool false) w := by
  have h : ∀ d, d = 10000 → (Op.equalIn d 24 (.agg #[.int .i64 a, .int .i64 b]) (.agg #[.int .i64 a, .int .i64 b])).run Tryz.prog w = .ok true w := by
    intro d hd
    obtain ⟨e, rfl⟩ : ∃ e, d = e + 1 + 1 := ⟨d - 2, by omega⟩
    rw [eq_fault]; simp
  simp only [binOp]
  simp [Op.equal, Op.maxDepth, h]
set_option maxHeartbeats 4000000 in
set_option maxRecDepth 100000 in
theorem law_bad (A A' : Option Addr) (c c' : Nat) (p q : List Int) (f1 f2 : Int) (w : World) (hp : Kd.C (Kd.int .i64) w A p.length p) (hc : p.length ≤ c) (hq : Kd.C (Kd.int .i64) w A' q.length q) (hc' : q.length ≤ c') (hpl : p.length * 8 ≤ 140737488355328) (hql : q.length * 8 ≤ 140737488355328)
    (hf : tfF p q = (f1, f2)) (hne : f1 ≠ 0) (hleaf : w.cell? ⟨6, 0, none⟩ = some (.int .i64 8)) :
    Calls Tryz.prog 3 #[.slice A p.length c, .slice A' q.length c'] w fun e w' => e = .returned (.bool true) ∧ Below w.heap.size w w' := by
  have hz1 : (f1 != 0) = true := bne_iff_ne.mpr hne
  have hz2 : (f1 == 0) = false := beq_eq_false_iff_ne.mpr hne
  go_enter Tryz.func3, Tryz.ntmps3
  go_wp2_with fail
  refine (own_calls A c p w hp hpl).mono ?_
  rintro e W1 ⟨v1, rfl, hv1, hb1⟩
  obtain ⟨A1, c1, rfl, hc1, hC1⟩ := Kd.R_reads hv1
  go_wp2_with fail
  refine (own_calls A' c' q W1 (Kd.C_below hq hb1) hql).mono ?_
  rintro e W2 ⟨v2, rfl, hv2, hb2⟩
  obtain ⟨A2, c2, rfl, hc2, hC2⟩ := Kd.R_reads hv2
  go_wp2_with fail
  refine (conj_bad 5000 A1 A2 c1 c2 p q f1 f2 W2 (Kd.C_below hC1 hb2) hc1 hC2 hc2 (by rw [all_f p q _ (Nat.le_refl _), hf]) hne).mono ?_
  rintro e W3 ⟨rfl, hb3⟩
  have hbel : Below w.heap.size w W3 := hb1.trans ((hb2.mono hb1.size).trans (hb3.mono (Nat.le_trans hb1.size hb2.size)))
  have H := Aside0.mk (And.intro hp (And.intro hq (And.intro hleaf hbel)))
  clear hp hq hleaf hv1 hv2 hC1 hC2 hb1 hb2 hb3 hbel
  go_wp2_with fail
  obtain ⟨W4, hW4⟩ : ∃ W4 : World, W4 = W3.alloc (.cells #[.int .i64 f1, .int .i64 f2] 24) := ⟨_, rfl⟩
  have hF4 : W4.heap[W3.heap.size]? = some (.cells #[.int .i64 f1, .int .i64 f2] 24 (0, 0)) := by rw [hW4]; exact heap_alloc_new W3 _
  have hb4 : Below w.heap.size w W4 := by rw [hW4]; exact H.out.2.2.2.alloc H.out.2.2.2.size _
  rw [← hW4]
  clear hW4
  refine (cayleyref_TwoFault.calls 4000 A c p A' c' q f1 f2 W4 (Kd.C_below H.out.1 hb4) hc (Kd.C_below H.out.2.1 hb4) hc' (by rw [tf_f p q _ (Nat.le_refl _), hf])).mono ?_
  rintro e W5 ⟨rfl, hb5⟩
  have hF5 := blk_below hF4 hb5
  have hbel5 : Below w.heap.size w W5 := hb4.trans (hb5.mono hb4.size)
  have hlt5 := blk_lt hF5
  clear hF4 hb4 hb5
  go_wp2_with fail
  obtain ⟨W6, hW6⟩ : ∃ W6 : World, W6 = W5.alloc (.cells #[.int .i64 f1, .int .i64 f2] 24) := ⟨_, rfl⟩
  have hV6 : W6.heap[W5.heap.size]? = some (.cells #[.int .i64 f1, .int .i64 f2] 24 (0, 0)) := by rw [hW6]; exact heap_alloc_new W5 _
  have hF6 : W6.heap[W3.heap.size]? = some (.cells #[.int .i64 f1, .int .i64 f2] 24 (0, 0)) := by rw [hW6]; exact blk_alloc hF5 _
  have hb6 : Below w.heap.size w W6 := by rw [hW6]; exact hbel5.alloc hbel5.size _
  rw [← hW6]
  clear hW6 hF5 hbel5
  refine (PB.begun W6 ((hb6.cell (World.block_lt_of_cell? w _ H.out.2.2.1)).trans H.out.2.2.1)).mono ?_
  rintro e W7 ⟨rfl, hb7⟩
  have hF7 := blk_below hF6 hb7
  have hV7 := blk_below hV6 hb7
  have hbel7 := Aside0.mk (hb6.trans (hb7.mono hb6.size))
  have F0 : W7.cell? ⟨W3.heap.size, 0, none⟩ = some (.int .i64 f1) := (blk_cell hF7 0).trans rfl
  have F1 : W7.cell? ⟨W3.heap.size, 1, none⟩ = some (.int .i64 f2) := (blk_cell hF7 1).trans rfl
  have V0 : W7.cell? ⟨W5.heap.size, 0, none⟩ = some (.int .i64 f1) := (blk_cell hV7 0).trans rfl
  have V1 : W7.cell? ⟨W5.heap.size, 1, none⟩ = some (.int .i64 f2) := (blk_cell hV7 1).trans rfl
  have hn := neq_fault f1 f2
  clear hF6 hV6 hb6 hb7 hF7 hV7 H
  go_wp2
  go_ret
  exact ⟨rfl, hbel7.out⟩
end Go.Proofs.YtnibognblomfeaaGreatDoor.LW
namespace Go.Proofs.YtnibognblomfeaaGreatDoor.LX
open Go.RowKit Go.Proofs.YtnibognblomfeaaGreatDoorW.PrintWords Go.Proofs.YtnibognblomfeaaGreatDoorW.PrintLast Go.Proofs.YtnibognblomfeaaGreatDoorW.PrintMore Go.Proofs.YtnibognblomfeaaGreatDoor.PPermCauchy Go.Proofs.YtnibognblomfeaaGreatDoor.CY Go.Proofs.YtnibognblomfeaaGreatDoor.CJ Go.Proofs.YtnibognblomfeaaGreatDoor.CK Go.Proofs.YtnibognblomfeaaGreatDoor.PM Go.Proofs.YtnibognblomfeaaGreatDoor.PN Go.Proofs.YtnibognblomfeaaGreatDoor.PO Go.Proofs.YtnibognblomfeaaGreatDoor.OW Go.Proofs.YtnibognblomfeaaGreatDoor.LW
set_option linter.unusedVariables false
set_option linter.unusedSimpArgs false
theorem tf_ok {p q : List Int} (h : (tfF p q).1 = 0) : tfF p q = (0, 0) ∧ p.length ≤ 1000 ∧ p.length = q.length ∧ PermL p ∧ PermL q := by
  unfold tfF at h ⊢
  by_cases h1 : (pfF p).1 = 0
  · rw [if_pos h1] at h ⊢
    by_cases h2 : (pfF q).1 = 0
    · rw [if_pos h2] at h ⊢
      by_cases h3 : p.length = q.length
      · rw [if_pos h3] at h ⊢
        exact ⟨(pfF_ok h2).1, (pfF_ok h1).2.1, h3, (pfF_ok h1).2.2, (pfF_ok h2).2.2⟩
      · rw [if_neg h3] at h; simp at h
    · rw [if_neg h2] at h; exact absurd h h2
  · rw [if_neg h1] at h; exact absurd h h1
theorem cycs_range {p : List Int} (hp : PermL p) : ∀ l ∈ cycsTo (rd p) p.length, ∀ x ∈ l, 0 ≤ x ∧ x < (p.length : Int) := fun l hl x hx =>
  mem_ints.1 ((flat_perm hp.permF).mem_iff.1 (List.mem_flatten.2 ⟨l, hl, hx⟩))
theorem then_eq {p q c : List Int} (hc : c.length = p.length) (hcq : ∀ x, 0 ≤ x → x < (p.length : Int) → rd q (rd c x) = rd c (rd p x)) : c.map (rd q) = p.map (rd c) := by
  refine List.ext_getElem? (fun j => ?_)
  rw [List.getElem?_map, List.getElem?_map]
  rcases Nat.lt_or_ge j p.length with h | h
  · rw [List.getElem?_eq_getElem (show j < c.length by omega), List.getElem?_eq_getElem h]
    have := hcq (j : Int) (by omega) (by omega)
    rw [rd_elem (show j < c.length by omega), rd_elem h] at this
    simp only [Option.map_some]; rw [this]
  · rw [List.getElem?_eq_none (by omega), List.getElem?_eq_none h]; rfl
/-- A fault's block behind a store. -/
theorem alloc_facts (W : World) (f1 f2 : Int) : ∃ W' : World, W' = W.alloc (.cells #[.int .i64 f1, .int .i64 f2] 24) ∧ W'.heap[W.heap.size]? = some (.cells #[.int .i64 f1, .int .i64 f2] 24 (0, 0)) ∧ Below W.heap.size W W' :=
  ⟨_, rfl, heap_alloc_new W _, (Below.refl _ _).alloc (Nat.le_refl _) _⟩
set_option maxHeartbeats 2000000 in
set_option maxRecDepth 100000 in
theorem law_ok (A A' : Option Addr) (c c' : Nat) (p q : List Int) (w : World) (hp : Kd.C (Kd.int .i64) w A p.length p) (hc : p.length ≤ c) (hq : Kd.C (Kd.int .i64) w A' q.length q) (hc' : q.length ≤ c')
    (hf : (tfF p q).1 = 0) (hleaf : w.cell? ⟨6, 0, none⟩ = some (.int .i64 8)) :
    Calls Tryz.prog 3 #[.slice A p.length c, .slice A' q.length c'] w fun e w' => e = .returned (.bool true) ∧ Below w.heap.size w w' := by
  obtain ⟨ht, hn, hl, pp, pq⟩ := tf_ok hf
  clear hf
  have HL := Aside0.mk hl
  have hqn : q.length ≤ 1000 := by omega
  clear hl
  go_enter Tryz.func3, Tryz.ntmps3
  go_wp2_with fail
  refine (own_calls A c p w hp (by omega)).mono ?_
  rintro e W1 ⟨v1, rfl, hv1, hb1⟩
  obtain ⟨A1, c1, rfl, hc1, hC1⟩ := Kd.R_reads hv1
  go_wp2_with fail
  refine (own_calls A' c' q W1 (Kd.C_below hq hb1) (by omega)).mono ?_
  rintro e W2 ⟨v2, rfl, hv2, hb2⟩
  obtain ⟨A2, c2, rfl, hc2, hC2⟩ := Kd.R_reads hv2
  go_wp2_with fail
  have la := cycsTo_len (rd p) p.length
  have lb := cycsTo_len (rd q) q.length
  refine (conj_ok 5000 A1 A2 c1 c2 p q (cycsTo (rd p) p.length) (cycsTo (rd q) q.length) W2 (Kd.C_below hC1 hb2) hc1 hC2 hc2 (by rw [all_f p q _ (Nat.le_refl _), ht]) hn (by omega) (cycOut_all pp hn (by omega)) (cycOut_all pq hqn (by omega)) SO.sorts (by omega) (by omega) (cycs_range pp)).mono ?_
  rintro e W3 ⟨hb3, a', b', pa, pb, sa, sb, hcase⟩
  have hbel : Below w.heap.size w W3 := hb1.trans ((hb2.mono hb1.size).trans (hb3.mono (Nat.le_trans hb1.size hb2.size)))
  have hsh := shape_iff pp pq HL.out pa pb sa sb
  have H := Aside0.mk (And.intro hp (And.intro hq (And.intro hleaf hbel)))
  have HT := Aside0.mk (And.intro ht (And.intro pp pq))
  have HSH := Aside0.mk hsh
  clear hp hq hleaf hv1 hv2 hC1 hC2 hb1 hb2 hbel hsh ht sa sb la lb
  rcases hcase with ⟨hm, v, rfl, hv⟩ | ⟨hm, rfl⟩
  · obtain ⟨pc, hcl, hcq⟩ := conj_law pp pq HL.out pa pb hm
    obtain ⟨Ao, co, rfl, hco, hCo⟩ := Kd.R_reads hv
    obtain ⟨cc, hcc⟩ : ∃ cc, cc = outF p.length a' b' := ⟨_, rfl⟩
    rw [← hcc] at pc hcl hcq hco hCo ⊢
    have hw3 := H.out.2.2.2
    have HC := Aside0.mk (And.intro hCo (And.intro pc (And.intro hcl hcq)))
    have hs1 := HSH.out.1 hm
    have HS1 := Aside0.mk hs1
    have hlen : ((cc.length : Int) == (p.length : Int)) = true := by rw [hcl]; simp
    have hccn : cc.length ≤ 1000 := by omega
    clear hcc hv hm pc hcl hcq hCo hs1 HSH pa pb hb3 pp pq
    go_wp2_with fail
    obtain ⟨W4, hW4, hF4, hb4⟩ := alloc_facts W3 0 0
    rw [← hW4]
    clear hW4
    have hb4w : Below w.heap.size w W4 := hw3.trans (hb4.mono hw3.size)
    refine (cayleyref_TwoFault.calls 4000 A c p A' c' q 0 0 W4 (Kd.C_below H.out.1 hb4w) hc (Kd.C_below H.out.2.1 hb4w) hc' (by rw [tf_f p q _ (Nat.le_refl _), HT.out.1])).mono ?_
    rintro e W5 ⟨rfl, hb5⟩
    have hb5w : Below w.heap.size w W5 := hb4w.trans (hb5.mono hb4w.size)
    have hF5 := blk_below hF4 hb5
    have hlt5 := blk_lt hF5
    have hb35 : Below W3.heap.size W3 W5 := hb4.trans (hb5.mono hb4.size)
    go_wp2_with fail
    obtain ⟨W6, hW6, hV6, hb6⟩ := alloc_facts W5 0 0
    rw [← hW6]
    clear hW6
    have hb6w : Below w.heap.size w W6 := hb5w.trans (hb6.mono hb5w.size)
    have hF6 := blk_below hF5 hb6
    have hb36 : Below W3.heap.size W3 W6 := hb35.trans (hb6.mono hb35.size)
    refine (cayleyref_ShapeOf.calls 1200000 A c p _ W6 (Kd.C_below H.out.1 hb6w) hc (shape_f HT.out.2.1 hn _ (by omega))).mono ?_
    rintro e W7 ⟨s1, rfl, hs1, hb7⟩
    have hb7w : Below w.heap.size w W7 := hb6w.trans (hb7.mono hb6w.size)
    obtain ⟨B1, d1, rfl, hd1, hD1⟩ := Kd.R_reads hs1
    go_wp2_with fail
    refine (cayleyref_ShapeOf.calls 1200000 A' c' q _ W7 (Kd.C_below H.out.2.1 hb7w) hc' (shape_f HT.out.2.2 hqn _ (by omega))).mono ?_
    rintro e W8 ⟨s2, rfl, hs2, hb8⟩
    obtain ⟨B2, d2, rfl, hd2, hD2⟩ := Kd.R_reads hs2
    go_wp2_with fail
    have hints : cayleyref_Ints.f ((shp p.length (cycsTo (rd p) p.length)).length + 1) (shp p.length (cycsTo (rd p) p.length)) (shp q.length (cycsTo (rd q) q.length)) = some true := by
      rw [ints_f _ _ hD1.2.1 _ (Nat.lt_succ_self _), decide_eq_true HS1.out]
    refine (cayleyref_Ints.calls _ B1 d1 _ B2 d2 _ true W8 (Kd.C_below hD1 hb8) hd1 hD2 hd2 hints).mono ?_
    rintro e W9 ⟨rfl, hdr⟩
    have hb79 : Below W7.heap.size W7 W9 := hb8.trans (hdr.below.mono hb8.size)
    have hb69 : Below W6.heap.size W6 W9 := hb7.trans (hb79.mono hb7.size)
    have hb9w : Below w.heap.size w W9 := hb6w.trans (hb69.mono hb6w.size)
    have hb39 : Below W3.heap.size W3 W9 := hb36.trans (hb69.mono hb36.size)
    have hF9 := blk_below hF6 hb69
    have hV9 := blk_below hV6 hb69
    clear hints hD1 hD2 hd1 hd2 hs1 hs2 hb7 hb8 hdr hb79 hb7w hb69 hb36 hb6w hF6 hV6 hb35 hb5w hF5 hb4w hF4 hb4 hb5 hb6
    go_wp2_with fail
    refine (PB.begun W9 ((hb9w.cell (World.block_lt_of_cell? w _ H.out.2.2.1)).trans H.out.2.2.1)).mono ?_
    rintro e W10 ⟨rfl, hb10⟩
    have hF10 := blk_below hF9 hb10
    have hV10 := blk_below hV9 hb10
    have hb10w : Below w.heap.size w W10 := hb9w.trans (hb10.mono hb9w.size)
    have hb310 : Below W3.heap.size W3 W10 := hb39.trans (hb10.mono hb39.size)
    have F0 : W10.cell? ⟨W3.heap.size, 0, none⟩ = some (.int .i64 0) := (blk_cell hF10 0).trans rfl
    have F1 : W10.cell? ⟨W3.heap.size, 1, none⟩ = some (.int .i64 0) := (blk_cell hF10 1).trans rfl
    have V0 : W10.cell? ⟨W5.heap.size, 0, none⟩ = some (.int .i64 0) := (blk_cell hV10 0).trans rfl
    have V1 : W10.cell? ⟨W5.heap.size, 1, none⟩ = some (.int .i64 0) := (blk_cell hV10 1).trans rfl
    have hneq := neq_fault 0 0
    clear hF10 hV10 hF9 hV9 hb10 hb9w hb39 hw3
    go_wp2_with fail
    clear F0 F1 V0 V1 hneq
    have hcC := Kd.C_below HC.out.1 hb310
    refine (cayleyref_PermFault.calls 4000 Ao co cc 0 0 W10 hcC hco (by rw [pf_f _ _ (Nat.le_refl _), pfF_perm HC.out.2.1 hccn])).mono ?_
    rintro e W11 ⟨rfl, hb11⟩
    have hb11w : Below w.heap.size w W11 := hb10w.trans (hb11.mono hb10w.size)
    have hcC11 := Kd.C_below hcC hb11
    have hrq : ∀ x ∈ cc, 0 ≤ x ∧ x < (q.length : Int) := fun x hx => by have := HC.out.2.1.rng x hx; have := HC.out.2.2.1; have := HL.out; omega
    have hrp : ∀ x ∈ p, 0 ≤ x ∧ x < (cc.length : Int) := fun x hx => by have := HT.out.2.1.rng x hx; have := HC.out.2.2.1; omega
    have HRQ := Aside0.mk (And.intro hrq hrp)
    clear hrq hrp
    have hfld : ∀ w, (Instr.field 24 (.agg #[.int .i64 0, .int .i64 0]) 0).run Tryz.prog w = .ok (.int .i64 0) w := fun w => by kernel_rfl
    go_wp2_with fail
    clear hfld
    obtain ⟨m1, hm1⟩ : ∃ m, m = cc.map (rd q) := ⟨_, rfl⟩
    have HM1 := Aside0.mk hm1
    clear hm1
    obtain ⟨m2, hm2⟩ : ∃ m, m = p.map (rd cc) := ⟨_, rfl⟩
    have HM2 := Aside0.mk hm2
    clear hm2
    refine (cayleyref_Then.calls 2000 Ao co cc A' c' q m1 W11 hcC11 hco (Kd.C_below H.out.2.1 hb11w) hc' (by rw [then_f cc q HRQ.out.1 hccn _ (by omega), ← HM1.out])).mono ?_
    rintro e W12 ⟨u1, rfl, hu1, hb12⟩
    have hb12w : Below w.heap.size w W12 := hb11w.trans (hb12.mono hb11w.size)
    obtain ⟨G1, g1, rfl, hg1, hG1⟩ := Kd.R_reads hu1
    go_wp2_with fail
    refine (cayleyref_Then.calls 2000 A c p Ao co cc m2 W12 (Kd.C_below H.out.1 hb12w) hc (Kd.C_below hcC11 hb12) hco (by rw [then_f p cc HRQ.out.2 hn _ (by omega), ← HM2.out])).mono ?_
    rintro e W13 ⟨u2, rfl, hu2, hb13⟩
    have hb13w : Below w.heap.size w W13 := hb12w.trans (hb13.mono hb12w.size)
    obtain ⟨G2, g2, rfl, hg2, hG2⟩ := Kd.R_reads hu2
    go_wp2_with fail
    have hints : cayleyref_Ints.f (m1.length + 1) m1 m2 = some true := by
      rw [ints_f _ _ hG1.2.1 _ (Nat.lt_succ_self _), decide_eq_true (by rw [HM1.out, HM2.out]; exact then_eq HC.out.2.2.1 HC.out.2.2.2)]
    refine (cayleyref_Ints.calls _ G1 g1 m1 G2 g2 m2 true W13 (Kd.C_below hG1 hb13) hg1 hG2 hg2 hints).mono ?_
    rintro e W14 ⟨rfl, hdr⟩
    have hfin := Aside0.mk (hb13w.trans (hdr.below.mono hb13w.size))
    clear hints hdr hG1 hG2 hu1 hu2 hb13 hb12 hb13w hb12w hb11w hb11 hcC hcC11 hb310 hb10w
    go_wp2
    go_ret
    exact ⟨rfl, hfin.out⟩
  · have hw3 := H.out.2.2.2
    have hs1 : shp p.length (cycsTo (rd p) p.length) ≠ shp q.length (cycsTo (rd q) q.length) := fun e => hm (HSH.out.2 e)
    have HS1 := Aside0.mk hs1
    clear hm hs1 HSH pa pb hb3 pp pq
    go_wp2_with fail
    obtain ⟨W4, hW4, hF4, hb4⟩ := alloc_facts W3 6 0
    rw [← hW4]
    clear hW4
    have hb4w : Below w.heap.size w W4 := hw3.trans (hb4.mono hw3.size)
    refine (cayleyref_TwoFault.calls 4000 A c p A' c' q 0 0 W4 (Kd.C_below H.out.1 hb4w) hc (Kd.C_below H.out.2.1 hb4w) hc' (by rw [tf_f p q _ (Nat.le_refl _), HT.out.1])).mono ?_
    rintro e W5 ⟨rfl, hb5⟩
    have hb5w : Below w.heap.size w W5 := hb4w.trans (hb5.mono hb4w.size)
    have hF5 := blk_below hF4 hb5
    have hlt5 := blk_lt hF5
    go_wp2_with fail
    obtain ⟨W6, hW6, hV6, hb6⟩ := alloc_facts W5 0 0
    rw [← hW6]
    clear hW6
    have hb6w : Below w.heap.size w W6 := hb5w.trans (hb6.mono hb5w.size)
    have hF6 := blk_below hF5 hb6
    refine (cayleyref_ShapeOf.calls 1200000 A c p _ W6 (Kd.C_below H.out.1 hb6w) hc (shape_f HT.out.2.1 hn _ (by omega))).mono ?_
    rintro e W7 ⟨s1, rfl, hs1, hb7⟩
    have hb7w : Below w.heap.size w W7 := hb6w.trans (hb7.mono hb6w.size)
    obtain ⟨B1, d1, rfl, hd1, hD1⟩ := Kd.R_reads hs1
    go_wp2_with fail
    refine (cayleyref_ShapeOf.calls 1200000 A' c' q _ W7 (Kd.C_below H.out.2.1 hb7w) hc' (shape_f HT.out.2.2 hqn _ (by omega))).mono ?_
    rintro e W8 ⟨s2, rfl, hs2, hb8⟩
    obtain ⟨B2, d2, rfl, hd2, hD2⟩ := Kd.R_reads hs2
    go_wp2_with fail
    have hints : cayleyref_Ints.f ((shp p.length (cycsTo (rd p) p.length)).length + 1) (shp p.length (cycsTo (rd p) p.length)) (shp q.length (cycsTo (rd q) q.length)) = some false := by
      rw [ints_f _ _ hD1.2.1 _ (Nat.lt_succ_self _), decide_eq_false HS1.out]
    refine (cayleyref_Ints.calls _ B1 d1 _ B2 d2 _ false W8 (Kd.C_below hD1 hb8) hd1 hD2 hd2 hints).mono ?_
    rintro e W9 ⟨rfl, hdr⟩
    have hb79 : Below W7.heap.size W7 W9 := hb8.trans (hdr.below.mono hb8.size)
    have hb69 : Below W6.heap.size W6 W9 := hb7.trans (hb79.mono hb7.size)
    have hb9w : Below w.heap.size w W9 := hb6w.trans (hb69.mono hb6w.size)
    have hF9 := blk_below hF6 hb69
    have hV9 := blk_below hV6 hb69
    clear hints hD1 hD2 hd1 hd2 hs1 hs2 hb7 hb8 hdr hb79 hb7w hb69 hb6w hF6 hV6 hb5w hF5 hb4w hF4 hb4 hb5 hb6
    go_wp2_with fail
    refine (cayleyref_F.calls 6 0 6 0 W9 rfl).mono ?_
    rintro e W9' ⟨rfl, hb9'⟩
    have hF9' := blk_below hF9 hb9'
    have hV9' := blk_below hV9 hb9'
    have hbw9' : Below w.heap.size w W9' := hb9w.trans (hb9'.mono hb9w.size)
    have V0 : W9'.cell? ⟨W5.heap.size, 0, none⟩ = some (.int .i64 0) := (blk_cell hV9' 0).trans rfl
    have V1 : W9'.cell? ⟨W5.heap.size, 1, none⟩ = some (.int .i64 0) := (blk_cell hV9' 1).trans rfl
    have z0 := blk_frozen hV9' 0
    have z1 := blk_frozen hV9' 1
    have HF9 := Aside0.mk (And.intro hF9' (And.intro hV9' hbw9'))
    clear hF9 hV9 hb9' hF9' hV9' hbw9' hb9w
    go_wp2_with fail
    clear V0 V1 z0 z1
    obtain ⟨Wa, hWa⟩ : ∃ Wa : World, Wa = (W9'.setCell ⟨W5.heap.size, 0, none⟩ (.int .i64 6)).setCell ⟨W5.heap.size, 1, none⟩ (.int .i64 0) := ⟨_, rfl⟩
    rw [← hWa]
    have hVa : Wa.heap[W5.heap.size]? = some (.cells #[.int .i64 6, .int .i64 0] 24 (0, 0)) := by rw [hWa]; exact blk_put (blk_put HF9.out.2.1 0 _ rfl) 1 _ rfl
    have hFa : Wa.heap[W3.heap.size]? = some (.cells #[.int .i64 6, .int .i64 0] 24 (0, 0)) := by rw [hWa]; exact blk_far (blk_far HF9.out.1 (by simp; omega) _) (by simp; omega) _
    have hbaw : Below w.heap.size w Wa := by
      rw [hWa]
      have h3 := hw3.size
      exact (HF9.out.2.2.setCell (by simp; omega) _).setCell (by simp; omega) _
    clear hWa HF9
    refine (PB.begun Wa ((hbaw.cell (World.block_lt_of_cell? w _ H.out.2.2.1)).trans H.out.2.2.1)).mono ?_
    rintro e W10 ⟨rfl, hb10⟩
    have hF10 := blk_below hFa hb10
    have hV10 := blk_below hVa hb10
    have hb10w := Aside0.mk (hbaw.trans (hb10.mono hbaw.size))
    have F0 : W10.cell? ⟨W3.heap.size, 0, none⟩ = some (.int .i64 6) := (blk_cell hF10 0).trans rfl
    have F1 : W10.cell? ⟨W3.heap.size, 1, none⟩ = some (.int .i64 0) := (blk_cell hF10 1).trans rfl
    have V0 : W10.cell? ⟨W5.heap.size, 0, none⟩ = some (.int .i64 6) := (blk_cell hV10 0).trans rfl
    have V1 : W10.cell? ⟨W5.heap.size, 1, none⟩ = some (.int .i64 0) := (blk_cell hV10 1).trans rfl
    have hneq := neq_fault 6 0
    clear hF10 hV10 hFa hVa hb10 hbaw hw3
    go_wp2
    go_ret
    exact ⟨rfl, hb10w.out⟩
end Go.Proofs.YtnibognblomfeaaGreatDoor.LX
