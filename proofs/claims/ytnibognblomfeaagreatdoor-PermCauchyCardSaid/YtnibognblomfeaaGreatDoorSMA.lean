/- slices.symMergeCmpFunc: the walk. Written by smgen.py. -/
import Derived.Test.YtnibognblomfeaaGreatDoorGB
namespace Go.Proofs.YtnibognblomfeaaGreatDoor.SM
open Go.RowKit Go.Proofs.YtnibognblomfeaaGreatDoorW.PrintWords Go.Proofs.YtnibognblomfeaaGreatDoorW.PrintLast Go.Proofs.YtnibognblomfeaaGreatDoorW.PrintMore Go.Proofs.YtnibognblomfeaaGreatDoor.PSort Go.Proofs.YtnibognblomfeaaGreatDoor.SP
attribute [local go_sem] max2_int min2_int max_two min_two max_three min_three max_four min_four
set_option linter.unusedVariables false
set_option linter.unusedSimpArgs false
set_option maxHeartbeats 16000000 in
set_option maxRecDepth 100000 in
theorem smA (n : Nat) (P0_ : Nat → Prop) (u9000_ : Value) (p x y q l0 : List SV) (a1 a2 a3 : Int) (w0 w : World) (hB : Below w0.heap.size w0 w) (ho0 : Kd.R Kdsv 22 w w0.heap.size P0_ u9000_ l0) (hl0 : l0 = p ++ (x ++ (y ++ q))) (hn : x.length + y.length ≤ n) (hx : x ≠ []) (hy : y ≠ []) (h1 : a1 = (p.length : Int)) (h2 : a2 = a1 + x.length) (h3 : a3 = a2 + y.length) (hlen : l0.length ≤ 1000000) (hsm : Small l0) (c6 : a2 - a1 = 1) : Calls Tryz.prog 35 #[u9000_, .int .i64 a1, .int .i64 a2, .int .i64 a3, .func (.func 17) #[] #[]] w fun e w' => e = .returned (.tuple #[]) ∧ (∃ z : List SV, z.Perm (x ++ y) ∧ (Desc x → Desc y → Desc z) ∧ Kd.R Kdsv 22 w' w0.heap.size (fun k_ => (P0_ k_ ∨ w.heap.size ≤ k_)) u9000_ (p ++ (z ++ q))) ∧ Below w0.heap.size w0 w' ∧ Kept w w' (fun k_ => P0_ k_) := by
  have HO_0 := Aside0.mk (show Kd.R Kdsv 22 w w0.heap.size (fun k_ => (P0_ k_ ∨ w.heap.size ≤ k_)) u9000_ l0 from Kd.R_mono ho0 (fun k_ hk => (.inl hk)))
  have HK := Aside0.mk (Kept.refl w (fun k_ => P0_ k_))
  have HW0 := Aside0.mk hB.size
  have HB := Aside0.mk hB
  clear hB ho0
  have hx0 := List.length_pos_iff.mpr hx
  have hy0 := List.length_pos_iff.mpr hy
  have hll : (l0.length : Int) = a3 + q.length := by rw [hl0]; simp; omega
  have b1 : 0 ≤ a1 := by omega
  have b2 : a1 < a2 := by omega
  have b3 : a2 < a3 := by omega
  have b4 : a3 ≤ (l0.length : Int) := by omega
  have b5 : (l0.length : Int) ≤ 1000000 := by omega
  have hxx : (x.length : Int) = a2 - a1 := by omega
  have hyy : (y.length : Int) = a3 - a2 := by omega
  have HBB := Aside0.mk (And.intro b1 (And.intro b2 (And.intro b3 (And.intro b4 b5))))
  have HX := Aside0.mk hx
  have HY := Aside0.mk hy
  have HL := Aside0.mk hl0
  have HSM := Aside0.mk hsm
  have HN := Aside0.mk hn
  have H1 := Aside0.mk h1
  have HXX := Aside0.mk hxx
  have HYY := Aside0.mk hyy
  have HLL := Aside0.mk hll
  clear hx hy hl0 hsm hn h1 h2 h3 hlen hx0 hy0 hxx hyy hll
  · have c6b0 : ((wrap64 (a2 - a1)) == 1) = true := by rw [w64 _ (by omega), c6]; rfl
    have c6b1 : ((wrap64 (a2 - a1)) != 1) = false := by rw [w64 _ (by omega), c6]; rfl
    have HC6 := Aside0.mk c6
    clear c6
    obtain ⟨K, hK⟩ : ∃ K, K = (a3 - a2).toNat := ⟨_, rfl⟩
    have HKK := Aside0.mk hK
    clear hK
    clear b1 b2 b3 b4 b5
    go_enter Tryz.func35, Tryz.ntmps35
    go_wp2
    go_loopg [10, 11] K (fun kq v10 v11 w' => ∃ (x10_1 : Int) (x11_1 : Int), v10 = .int .i64 x10_1 ∧ v11 = .int .i64 x11_1 ∧ Aside0 ((x11_1 - x10_1).toNat ≤ kq) ∧ Aside0 (a2 ≤ x10_1 ∧ x10_1 ≤ x11_1 ∧ x11_1 ≤ a3 ∧ (a2 < x10_1 → (rdOf svNil l0 a1).size < (rdOf svNil l0 (x10_1 - 1)).size) ∧ (x11_1 < a3 → ¬ (rdOf svNil l0 a1).size < (rdOf svNil l0 x11_1).size)) ∧ Aside0 (Kd.R Kdsv 22 w' w0.heap.size (fun k_ => (P0_ k_ ∨ w.heap.size ≤ k_)) u9000_ (l0)) ∧ Aside0 (Kept w w' (fun k_ => P0_ k_)) ∧ Aside0 (Below w0.heap.size w0 w'))
    case atStart => obtain ⟨b1, b2, b3, b4, b5⟩ := HBB.out; exact ⟨a2, a3, rfl, rfl, ⟨by rw [HKK.out]; exact Nat.le_refl _⟩, ⟨by omega, by omega, by omega, fun h => absurd h (by omega), fun h => absurd h (by omega)⟩, HO_0, HK, HB⟩
    case round =>
      clear HO_0 HK HB
      obtain ⟨x10_1, x11_1, rfl, rfl, HA, HF, HO_0, HK, HB⟩ := hrel
      obtain ⟨b1, b2, b3, b4, b5⟩ := HBB.out
      have d1 := HF.out.1
      have d2 := HF.out.2.1
      have d3 := HF.out.2.2.1
      by_cases c7 : x10_1 < x11_1
      · have c7b0 : decide (x10_1 < x11_1) = true := decide_eq_true c7
        obtain ⟨k1, rfl⟩ : ∃ k1, gk = k1 + 1 := ⟨gk - 1, by have := HA.out; omega⟩
        obtain ⟨ji8, hji8⟩ : ∃ j_ : Int, (wrap64 ((IntKind.u64.wrap (wrap64 (x10_1 + x11_1))) / 2)) = j_ := ⟨_, rfl⟩
        have hji8w : (IntKind.i64.wrap ((IntKind.u64.wrap (wrap64 (x10_1 + x11_1))) / 2)) = ji8 := (i64_w _).trans hji8
        have d4 := half_le hji8 (by omega) c7 (by omega)
        have c9b0 : decide (0 ≤ ji8) = true := decide_eq_true (by omega)
        have c10b0 : decide (ji8 < (l0.length : Int)) = true := decide_eq_true (by omega)
        have c11b0 : decide (0 ≤ a1) = true := decide_eq_true (by omega)
        have c12b0 : decide (a1 < (l0.length : Int)) = true := decide_eq_true (by omega)
        obtain ⟨t117, h117⟩ : ∃ t, perm_Longer.f (rdOf svNil l0 ji8) (rdOf svNil l0 a1) = some t := ⟨_, rfl⟩
        have A13 := Aside0.mk h117
        clear h117
        have hw8 : wrap64 (ji8 + 1) = ji8 + 1 := w64 _ (by omega)
        have D4 := Aside0.mk d4
        have C7 := Aside0.mk c7
        clear c7 d4 d1 d2 d3 b1 b2 b3 b4 b5
        try go_wp2
        have n0_ := Aside0.mk (Kd.R_drew HO_0.out)
        have n1_ := Aside0.mk (Kept.drew HK.out)
        have n2_ := Aside0.mk (below_drew1 HB.out)
        clear HO_0
        clear HK
        clear HB
        have HO_0 := n0_
        have HK := n1_
        have HB := n2_
        clear n0_ n1_ n2_
        obtain ⟨Ao16, co16, eo16⟩ := Kd.R_slice HO_0.out
        (first | subst eo16 | (injection eo16 with f1_ f2_ f3_; have f4_ := f1_.symm; have f5_ := f3_.symm; clear f1_ f2_ f3_; subst f4_; subst f5_))
        have p115 : 0 ≤ ((ji8) : Int) := of_decide_eq_true (by first | (with_reducible assumption) | assumption)
        have q115 : (ji8) < (l0.length : Int) := of_decide_eq_true (by first | (with_reducible assumption) | assumption)
        obtain ⟨ad115, e115, hx115_0⟩ := at_sv (Kd.R_reads' HO_0.out).2.2 (ji8) p115 q115
        cases e115
        replace p115 := eq_true p115
        replace q115 := eq_true q115
        have p116 : 0 ≤ (a1 : Int) := of_decide_eq_true (by first | (with_reducible assumption) | assumption)
        have q116 : a1 < (l0.length : Int) := of_decide_eq_true (by first | (with_reducible assumption) | assumption)
        obtain ⟨ad116, e116, hx116_0⟩ := at_sv (Kd.R_reads' HO_0.out).2.2 a1 p116 q116
        obtain rfl : ad115 = ad116 := (by injection e116)
        replace p116 := eq_true p116
        replace q116 := eq_true q116
        refine start_ (n := 11) (S := fun w' => w'.cell? (ad115.add ((ji8)).toNat) = some (encSV (rdOf svNil l0 (ji8))) ∧ w'.cell? (ad115.add (a1).toNat) = some (encSV (rdOf svNil l0 a1))) (ds := []) #[false, false, false, false, false, false, false, false, false, false, false] (by kernel_rfl) rfl rfl ⟨hx115_0, hx116_0⟩ (fun hHeld => ?_); refine with_tabW slices_symMergeCmpFunc_int.tab5 slices_symMergeCmpFunc_int.bits5 (fun HT_ HW_ => ?_)
        generalize wr.drew = w15 at HO_0 HK HB hx115_0 hx116_0 hHeld ⊢
        refine pure_ (i := 0) (N := some 40) (v := ?_) (a' := ?_) #[true, false, false, false, false, false, false, false, false, false, false] rfl rfl (any_of HT_.out (by kernel_rfl)) (fun _ _ _ h => h) (Or.inl ⟨by rfl, ?_⟩) ?_ ?_
        rotate_left
        · intro w'
          go_simp
          with_reducible rfl
        rotate_left
        · simp only [Act.put, List.setIfInBounds_toArray, List.set_cons_zero, List.set_cons_succ, i64_w, i32_w]
          rfl
        refine pure_ (i := 1) (N := some 41) (v := ?_) (a' := ?_) #[true, true, false, false, false, false, false, false, false, false, false] rfl rfl (any_of HT_.out (by kernel_rfl)) (fun _ _ _ h => h) (Or.inl ⟨by rfl, ?_⟩) ?_ ?_
        rotate_left
        · intro w'
          go_simp
          with_reducible rfl
        rotate_left
        · simp only [Act.put, List.setIfInBounds_toArray, List.set_cons_zero, List.set_cons_succ, i64_w, i32_w]
          rfl
        refine pure_ (i := 2) (N := some 42) (v := ?_) (a' := ?_) #[true, true, true, false, false, false, false, false, false, false, false] rfl rfl (any_of HT_.out (by kernel_rfl)) (fun _ _ _ h => h) (Or.inl ⟨by rfl, ?_⟩) ?_ ?_
        rotate_left
        · intro w'
          go_simp
          with_reducible rfl
        rotate_left
        · simp only [Act.put, List.setIfInBounds_toArray, List.set_cons_zero, List.set_cons_succ, i64_w, i32_w]
          rfl
        refine pure_ (i := 3) (N := some 43) (v := ?_) (a' := ?_) #[true, true, true, true, false, false, false, false, false, false, false] rfl rfl (any_of HT_.out (by kernel_rfl)) (fun _ _ _ h => h) (Or.inl ⟨by rfl, ?_⟩) ?_ ?_
        rotate_left
        · intro w'
          go_simp
          with_reducible rfl
        rotate_left
        · simp only [Act.put, List.setIfInBounds_toArray, List.set_cons_zero, List.set_cons_succ, i64_w, i32_w]
          rfl
        refine pure_ (i := 5) (N := some 45) (v := ?_) (a' := ?_) #[true, true, true, true, false, true, false, false, false, false, false] rfl rfl (any_of HT_.out (by kernel_rfl)) (fun _ _ _ h => h) (Or.inl ⟨by rfl, ?_⟩) ?_ ?_
        rotate_left
        · intro w'
          go_simp
          with_reducible rfl
        rotate_left
        · simp only [Act.put, List.setIfInBounds_toArray, List.set_cons_zero, List.set_cons_succ, i64_w, i32_w]
          rfl
        refine pure_ (i := 6) (N := some 46) (v := ?_) (a' := ?_) #[true, true, true, true, false, true, true, false, false, false, false] rfl rfl (any_of HT_.out (by kernel_rfl)) (fun _ _ _ h => h) (Or.inl ⟨by rfl, ?_⟩) ?_ ?_
        rotate_left
        · intro w'
          go_simp
          with_reducible rfl
        rotate_left
        · simp only [Act.put, List.setIfInBounds_toArray, List.set_cons_zero, List.set_cons_succ, i64_w, i32_w]
          rfl
        refine pure_ (i := 7) (N := some 47) (v := ?_) (a' := ?_) #[true, true, true, true, false, true, true, true, false, false, false] rfl rfl (any_of HT_.out (by kernel_rfl)) (fun _ _ _ h => h) (Or.inl ⟨by rfl, ?_⟩) ?_ ?_
        rotate_left
        · intro w'
          go_simp
          with_reducible rfl
        rotate_left
        · simp only [Act.put, List.setIfInBounds_toArray, List.set_cons_zero, List.set_cons_succ, i64_w, i32_w]
          rfl
        refine take_ (i := 4) (N := some 44) (v := ?_) (a' := ?_) #[true, true, true, true, true, true, true, true, false, false, false] rfl rfl (take_ofW HT_.out HW_.out (by kernel_rfl)) (fun _ _ _ h => h) (Or.inl ⟨by rfl, ?_⟩) hHeld ?_ ?_
        rotate_left
        · rintro w' ⟨s0, s1⟩
          go_simp
          with_reducible rfl
        rotate_left
        · simp only [Act.put, List.setIfInBounds_toArray, List.set_cons_zero, List.set_cons_succ, i64_w, i32_w]
          rfl
        refine take_ (i := 8) (N := some 48) (v := ?_) (a' := ?_) #[true, true, true, true, true, true, true, true, true, false, false] rfl rfl (take_ofW HT_.out HW_.out (by kernel_rfl)) (fun _ _ _ h => h) (Or.inl ⟨by rfl, ?_⟩) hHeld ?_ ?_
        rotate_left
        · rintro w' ⟨s0, s1⟩
          go_simp
          with_reducible rfl
        rotate_left
        · simp only [Act.put, List.setIfInBounds_toArray, List.set_cons_zero, List.set_cons_succ, i64_w, i32_w]
          rfl
        refine one_ (i := 9) (N := some 49) #[true, true, true, true, true, true, true, true, true, true, false] rfl rfl (one_of HT_.out (by kernel_rfl)) (by decide) (fun K hK => ?_)
        refine goesV_ Tryz.func17 (by kernel_rfl) rfl #[encSV (rdOf svNil l0 (ji8)), encSV (rdOf svNil l0 a1)] (by rfl) rfl rfl (by (try simp only [List.map_toArray, List.map_cons, List.map_nil]); first | done | (simp only [hji8]; rfl) | rfl | (simp only [List.length_drop, List.length_take]; rfl)) ?_
        with_reducible refine (perm_Longer.calls (rdOf svNil l0 (ji8)) (rdOf svNil l0 a1) t117 _ A13.out).mono ?_
        rintro e w' ⟨rfl, ⟨nd, rfl⟩⟩
        refine ⟨_, rfl, ?_⟩
        refine hK.out _ _ ⟨hHeld.1, hHeld.2⟩ (fun hHeld => ?_)
        clear hK K
        refine norm_ (a' := ?_) ?_ ?_
        rotate_left
        · show Act.put _ (some 49) _ = _
          simp only [Act.put, List.setIfInBounds_toArray, List.set_cons_zero, List.set_cons_succ, i64_w, i32_w]
          rfl
        refine pure_ (i := 10) (N := some 50) (v := ?_) (a' := ?_) #[true, true, true, true, true, true, true, true, true, true, true] rfl rfl (any_of HT_.out (by kernel_rfl)) (fun _ _ _ h => h) (Or.inl ⟨by rfl, ?_⟩) ?_ ?_
        rotate_left
        · intro w'
          go_simp
          with_reducible rfl
        rotate_left
        · simp only [Act.put, List.setIfInBounds_toArray, List.set_cons_zero, List.set_cons_succ, i64_w, i32_w]
          rfl
        refine done_ (done_of HT_.out (by kernel_rfl)) ?_
        obtain ⟨b1, b2, b3, b4, b5⟩ := HBB.out
        have hl117 := longer_f A13.out (small_rd HSM.out _ (by have := D4.out; have := HF.out.1; omega) (by have := D4.out; have := HF.out.2.2.1; omega)) (small_rd HSM.out _ b1 (by omega))
        clear b1 b2 b3 b4 b5
        by_cases c14 : t117 < 0
        · have c14b0 : decide (t117 < 0) = true := decide_eq_true c14
          have C14 := Aside0.mk (hl117.mp c14)
          clear c14 hl117
          rw [c14b0]
          try go_wp2
          go_roundg k1
          case measure => exact Nat.lt_succ_self _
          case rel => exact ⟨(ji8 + 1), (x11_1), (by first | rfl | (simp; done) | (simp [*]; done)), (by first | rfl | (simp; done) | (simp [*]; done)), ⟨by have := HA.out; have := D4.out; omega⟩, ⟨by have := HF.out.1; have := D4.out; omega, by have := D4.out; omega, HF.out.2.2.1, fun _ => by rw [Int.add_sub_cancel]; exact C14.out, HF.out.2.2.2.2⟩, ⟨by (with_reducible repeat (first | apply Kd.R_alloc | apply Kd.R_drewN | apply Kd.R_drew)); exact HO_0.out⟩, ⟨by repeat (first | (with_reducible first | exact HK.out | apply Kept.alloc | apply Kept.drewN | apply Kept.drew) | exact HK.out)⟩, ⟨by repeat (first | (with_reducible first | exact HB.out | apply below_alloc | apply pw_below_drewN | apply below_drew1) | exact HB.out)⟩⟩
        · have c14b0 : decide (t117 < 0) = false := decide_eq_false c14
          have C14 := Aside0.mk (fun h => c14 (hl117.mpr h))
          clear c14 hl117
          rw [c14b0]
          try go_wp2
          go_roundg k1
          case measure => exact Nat.lt_succ_self _
          case rel => exact ⟨(x10_1), (ji8), (by first | rfl | (simp; done) | (simp [*]; done)), (by first | rfl | (simp; done) | (simp only [← hji8] <;> (first | rfl | simp)) | (simp [*]; done)), ⟨by have := HA.out; have := D4.out; omega⟩, ⟨HF.out.1, D4.out.1, by have := HF.out.2.2.1; have := D4.out; omega, HF.out.2.2.2.1, fun _ => C14.out⟩, ⟨by (with_reducible repeat (first | apply Kd.R_alloc | apply Kd.R_drewN | apply Kd.R_drew)); exact HO_0.out⟩, ⟨by repeat (first | (with_reducible first | exact HK.out | apply Kept.alloc | apply Kept.drewN | apply Kept.drew) | exact HK.out)⟩, ⟨by repeat (first | (with_reducible first | exact HB.out | apply below_alloc | apply pw_below_drewN | apply below_drew1) | exact HB.out)⟩⟩
      · have c7b0 : decide (x10_1 < x11_1) = false := decide_eq_false c7
        obtain rfl : x11_1 = x10_1 := by omega
        obtain ⟨c, hcx⟩ : ∃ c, x = [c] := by
          have hl : x.length = 1 := by have := HXX.out; have := HC6.out; omega
          match x, hl with
          | [c], _ => exact ⟨c, rfl⟩
        obtain ⟨y1, y2, hyy, hy1, hdd⟩ := up_split p y q c l0 a1 a2 a3 x11_1 (by rw [HL.out, hcx]) H1.out (by have := HC6.out; omega) (by have := HYY.out; omega) d1 d3 HF.out.2.2.2.1 HF.out.2.2.2.2
        have HCX := Aside0.mk hcx
        have HYS := Aside0.mk hyy
        have HY1 := Aside0.mk hy1
        have HDD := Aside0.mk hdd
        have hwx : wrap64 (x11_1 - 1) = x11_1 - 1 := w64 _ (by omega)
        have D1 := Aside0.mk d1
        have D3 := Aside0.mk d3
        clear hcx hyy hy1 hdd c7 d1 d2 d3 hwx b1 b2 b3 b4 b5
        obtain ⟨K2, hK2⟩ : ∃ K, K = (x11_1 - 1 - a1).toNat := ⟨_, rfl⟩
        have HKK2 := Aside0.mk hK2
        clear hK2
        try go_wp2
        go_loopg [13] K2 (fun kq v13 w' => ∃ (x13_2 : Int) (s1 s2 : List SV), v13 = .int .i64 x13_2 ∧ Aside0 ((x11_1 - 1 - x13_2).toNat ≤ kq) ∧ Aside0 (y1 = s1 ++ s2 ∧ x13_2 = a1 + s1.length) ∧ Aside0 (Kd.R Kdsv 22 w' w0.heap.size (fun k_ => (P0_ k_ ∨ w.heap.size ≤ k_)) u9000_ (p ++ (s1 ++ (c :: (s2 ++ (y2 ++ q)))))) ∧ Aside0 (Kept w w' (fun k_ => P0_ k_)) ∧ Aside0 (Below w0.heap.size w0 w'))
        case atStart => obtain ⟨b1, b2, b3, b4, b5⟩ := HBB.out; exact ⟨a1, [], y1, rfl, ⟨by rw [HKK2.out]; exact Nat.le_refl _⟩, ⟨rfl, by simp⟩, ⟨by
          have h := HO_0.out
          rw [HL.out, HCX.out, HYS.out] at h
          simpa using h⟩, HK, HB⟩
        case round =>
          clear HO_0 HK HB
          obtain ⟨x13_2, s1, s2, rfl, HA2, HS, HO_0, HK, HB⟩ := hrel
          obtain ⟨b1, b2, b3, b4, b5⟩ := HBB.out
          have hwx : wrap64 (x11_1 - 1) = x11_1 - 1 := w64 _ (by have := D1.out; have := D3.out; omega)
          have hy1l : (y1.length : Int) = x11_1 - 1 - a1 := HY1.out
          have hsl : (y1.length : Int) = s1.length + s2.length := by rw [HS.out.1]; simp
          have hx13 := HS.out.2
          by_cases c19 : x13_2 < x11_1 - 1
          · have c19b0 : decide (x13_2 < (wrap64 (x11_1 - 1))) = true := by rw [hwx]; exact decide_eq_true c19
            obtain ⟨k2, rfl⟩ : ∃ k2, gk = k2 + 1 := ⟨gk - 1, by have := HA2.out; omega⟩
            obtain ⟨d, s3, rfl⟩ : ∃ d s3, s2 = d :: s3 := by
              match s2, hsl with
              | [], hsl => exact absurd hsl (by simp; omega)
              | d :: s3, _ => exact ⟨d, s3, rfl⟩
            obtain ⟨ji20, hji20⟩ : ∃ j_ : Int, (wrap64 (x13_2 + 1)) = j_ := ⟨_, rfl⟩
            have hji20w : (IntKind.i64.wrap (x13_2 + 1)) = ji20 := (i64_w _).trans hji20
            have hj20 : ji20 = x13_2 + 1 := by rw [← hji20]; exact w64 _ (by have := D3.out; omega)
            obtain ⟨x0_2, hx02⟩ : ∃ l, l = p ++ (s1 ++ (c :: ((d :: s3) ++ (y2 ++ q)))) := ⟨_, rfl⟩
            have hx02l : (x0_2.length : Int) = (l0.length : Int) := by rw [hx02, HL.out, HCX.out, HYS.out, HS.out.1]; simp; omega
            rw [← hx02] at HO_0
            have c21b0 : decide (0 ≤ ji20) = true := decide_eq_true (by omega)
            have c22b0 : decide (ji20 < (x0_2.length : Int)) = true := decide_eq_true (by rw [hx02l]; have := D3.out; omega)
            have c23b0 : decide (0 ≤ x13_2) = true := decide_eq_true (by omega)
            have c24b0 : decide (x13_2 < (x0_2.length : Int)) = true := decide_eq_true (by rw [hx02l]; have := D3.out; omega)
            obtain ⟨y120, hy120⟩ : ∃ y_ : List SV, y_ = (x0_2.set (x13_2 : Int).toNat (rdOf svNil x0_2 (ji20))) := ⟨_, rfl⟩
            have Ny120 := Aside0.mk hy120
            clear hy120
            obtain ⟨y121, hy121⟩ : ∃ y_ : List SV, y_ = (y120.set ((ji20) : Int).toNat (rdOf svNil x0_2 x13_2)) := ⟨_, rfl⟩
            have Ny121 := Aside0.mk hy121
            clear hy121
            have HX02 := Aside0.mk hx02
            have HJ20 := Aside0.mk hj20
            have HX13 := Aside0.mk hx13
            have HSL := Aside0.mk hsl
            have HY1L := Aside0.mk hy1l
            have C19 := Aside0.mk c19
            have HX02L := Aside0.mk hx02l
            clear hx02 hj20 c19 hx13 hsl hy1l hx02l hwx b1 b2 b3 b4 b5
            try go_wp2
            have n0_ := Aside0.mk (Kd.R_drew HO_0.out)
            have n1_ := Aside0.mk (Kept.drew HK.out)
            have n2_ := Aside0.mk (below_drew1 HB.out)
            clear HO_0
            clear HK
            clear HB
            have HO_0 := n0_
            have HK := n1_
            have HB := n2_
            clear n0_ n1_ n2_
            obtain ⟨Ao28, co28, eo28⟩ := Kd.R_slice HO_0.out
            (first | subst eo28 | (injection eo28 with f1_ f2_ f3_; have f4_ := f1_.symm; have f5_ := f3_.symm; clear f1_ f2_ f3_; subst f4_; subst f5_))
            have p118 : 0 ≤ ((ji20) : Int) := of_decide_eq_true (by first | (with_reducible assumption) | assumption)
            have q118 : (ji20) < (x0_2.length : Int) := of_decide_eq_true (by first | (with_reducible assumption) | assumption)
            obtain ⟨ad118, e118, hx118_0⟩ := at_sv (Kd.R_reads' HO_0.out).2.2 (ji20) p118 q118
            cases e118
            replace p118 := eq_true p118
            replace q118 := eq_true q118
            have p119 : 0 ≤ (x13_2 : Int) := of_decide_eq_true (by first | (with_reducible assumption) | assumption)
            have q119 : x13_2 < (x0_2.length : Int) := of_decide_eq_true (by first | (with_reducible assumption) | assumption)
            obtain ⟨ad119, e119, hx119_0⟩ := at_sv (Kd.R_reads' HO_0.out).2.2 x13_2 p119 q119
            obtain rfl : ad118 = ad119 := (by injection e119)
            replace p119 := eq_true p119
            replace q119 := eq_true q119
            have p25 : 0 ≤ (x13_2 : Int) := of_decide_eq_true (by first | (with_reducible assumption) | assumption)
            have q25 : (x13_2 : Int) < ((x0_2.length : Int) : Int) := of_decide_eq_true (by first | (with_reducible assumption) | assumption)
            obtain ⟨go25, co25, eo25, gb25, gl25, cl25, HG25⟩ := Kd.R_form HO_0.out (by omega)
            (first | cases eo25 | (injection eo25 with ea_ en_ ec_; (first | subst ea_ | (injection ea_ with ea_; subst ea_)); subst ec_; clear en_))
            have GB25 := Aside0.mk gb25
            have GG25 := Aside0.mk HG25
            clear gb25 gl25 HG25
            have HMgo25 := Aside0.mk (show (P0_ go25 ∨ w.heap.size ≤ go25) from (HO_0.out.1 _ rfl))
            (first | simp only [add_plain] at hx118_0 | skip)
            (first | simp only [add_plain] at hx119_0 | skip)
            obtain ⟨hx25_0, hf25_0⟩ := Kd.R_celln svNil HO_0.out (x13_2 : Int) p25 q25
            replace p25 := eq_true p25
            replace q25 := eq_true q25
            have HP29 := Kd.R_putn HO_0.out (x13_2 : Int) (rdOf svNil x0_2 (ji20))
            rw [← Ny120.out] at HP29
            have HQ29 := Aside0.mk HP29
            clear HP29
            have p26 : 0 ≤ ((ji20) : Int) := of_decide_eq_true (by first | (with_reducible assumption) | assumption)
            have q26 : ((ji20) : Int) < ((x0_2.length : Int) : Int) := of_decide_eq_true (by first | (with_reducible assumption) | assumption)
            obtain ⟨hx26_0, hf26_0⟩ := Kd.R_celln svNil HQ29.out ((ji20) : Int) p26 q26
            replace p26 := eq_true p26
            replace q26 := eq_true q26
            have HP30 := Kd.R_putn HQ29.out ((ji20) : Int) (rdOf svNil x0_2 x13_2)
            rw [← Ny121.out] at HP30
            have HQ30 := Aside0.mk HP30
            clear HP30
            refine start_ (n := 18) (S := fun w' => w'.cell? ⟨go25, ((ji20)).toNat, none⟩ = some (encSV (rdOf svNil x0_2 (ji20))) ∧ w'.cell? ⟨go25, (x13_2).toNat, none⟩ = some (encSV (rdOf svNil x0_2 x13_2))) (ds := [15, 17]) #[false, false, false, false, false, false, false, false, false, false, false, false, false, false, false, false, false, false] (by kernel_rfl) rfl rfl ⟨hx118_0, hx119_0⟩ (fun hHeld => ?_); refine with_tabW slices_symMergeCmpFunc_int.tab11 slices_symMergeCmpFunc_int.bits11 (fun HT_ HW_ => ?_)
            generalize wr.drew = w27 at HO_0 HK HB GG25 HQ29 HQ30 hf25_0 hf26_0 hx118_0 hx119_0 hx25_0 hx26_0 hHeld ⊢
            refine pure_ (i := 0) (N := some 61) (v := ?_) (a' := ?_) #[true, false, false, false, false, false, false, false, false, false, false, false, false, false, false, false, false, false] rfl rfl (any_of HT_.out (by kernel_rfl)) (fun _ _ _ h => h) (Or.inl ⟨by rfl, ?_⟩) ?_ ?_
            rotate_left
            · intro w'
              go_simp
              with_reducible rfl
            rotate_left
            · simp only [Act.put, List.setIfInBounds_toArray, List.set_cons_zero, List.set_cons_succ, i64_w, i32_w]
              rfl
            refine pure_ (i := 1) (N := some 62) (v := ?_) (a' := ?_) #[true, true, false, false, false, false, false, false, false, false, false, false, false, false, false, false, false, false] rfl rfl (any_of HT_.out (by kernel_rfl)) (fun _ _ _ h => h) (Or.inl ⟨by rfl, ?_⟩) ?_ ?_
            rotate_left
            · intro w'
              go_simp
              with_reducible rfl
            rotate_left
            · simp only [Act.put, List.setIfInBounds_toArray, List.set_cons_zero, List.set_cons_succ, i64_w, i32_w]
              rfl
            refine pure_ (i := 2) (N := some 63) (v := ?_) (a' := ?_) #[true, true, true, false, false, false, false, false, false, false, false, false, false, false, false, false, false, false] rfl rfl (any_of HT_.out (by kernel_rfl)) (fun _ _ _ h => h) (Or.inl ⟨by rfl, ?_⟩) ?_ ?_
            rotate_left
            · intro w'
              go_simp
              with_reducible rfl
            rotate_left
            · simp only [Act.put, List.setIfInBounds_toArray, List.set_cons_zero, List.set_cons_succ, i64_w, i32_w]
              rfl
            refine pure_ (i := 3) (N := some 64) (v := ?_) (a' := ?_) #[true, true, true, true, false, false, false, false, false, false, false, false, false, false, false, false, false, false] rfl rfl (any_of HT_.out (by kernel_rfl)) (fun _ _ _ h => h) (Or.inl ⟨by rfl, ?_⟩) ?_ ?_
            rotate_left
            · intro w'
              go_simp
              with_reducible rfl
            rotate_left
            · simp only [Act.put, List.setIfInBounds_toArray, List.set_cons_zero, List.set_cons_succ, i64_w, i32_w]
              rfl
            refine pure_ (i := 4) (N := some 65) (v := ?_) (a' := ?_) #[true, true, true, true, true, false, false, false, false, false, false, false, false, false, false, false, false, false] rfl rfl (any_of HT_.out (by kernel_rfl)) (fun _ _ _ h => h) (Or.inl ⟨by rfl, ?_⟩) ?_ ?_
            rotate_left
            · intro w'
              go_simp
              with_reducible rfl
            rotate_left
            · simp only [Act.put, List.setIfInBounds_toArray, List.set_cons_zero, List.set_cons_succ, i64_w, i32_w]
              rfl
            refine pure_ (i := 5) (N := some 66) (v := ?_) (a' := ?_) #[true, true, true, true, true, true, false, false, false, false, false, false, false, false, false, false, false, false] rfl rfl (any_of HT_.out (by kernel_rfl)) (fun _ _ _ h => h) (Or.inl ⟨by rfl, ?_⟩) ?_ ?_
            rotate_left
            · intro w'
              go_simp
              with_reducible rfl
            rotate_left
            · simp only [Act.put, List.setIfInBounds_toArray, List.set_cons_zero, List.set_cons_succ, i64_w, i32_w]
              rfl
            refine pure_ (i := 6) (N := some 67) (v := ?_) (a' := ?_) #[true, true, true, true, true, true, true, false, false, false, false, false, false, false, false, false, false, false] rfl rfl (any_of HT_.out (by kernel_rfl)) (fun _ _ _ h => h) (Or.inl ⟨by rfl, ?_⟩) ?_ ?_
            rotate_left
            · intro w'
              go_simp
              with_reducible rfl
            rotate_left
            · simp only [Act.put, List.setIfInBounds_toArray, List.set_cons_zero, List.set_cons_succ, i64_w, i32_w]
              rfl
            refine pure_ (i := 7) (N := some 68) (v := ?_) (a' := ?_) #[true, true, true, true, true, true, true, true, false, false, false, false, false, false, false, false, false, false] rfl rfl (any_of HT_.out (by kernel_rfl)) (fun _ _ _ h => h) (Or.inl ⟨by rfl, ?_⟩) ?_ ?_
            rotate_left
            · intro w'
              go_simp
              with_reducible rfl
            rotate_left
            · simp only [Act.put, List.setIfInBounds_toArray, List.set_cons_zero, List.set_cons_succ, i64_w, i32_w]
              rfl
            refine pure_ (i := 8) (N := some 69) (v := ?_) (a' := ?_) #[true, true, true, true, true, true, true, true, true, false, false, false, false, false, false, false, false, false] rfl rfl (any_of HT_.out (by kernel_rfl)) (fun _ _ _ h => h) (Or.inl ⟨by rfl, ?_⟩) ?_ ?_
            rotate_left
            · intro w'
              go_simp
              with_reducible rfl
            rotate_left
            · simp only [Act.put, List.setIfInBounds_toArray, List.set_cons_zero, List.set_cons_succ, i64_w, i32_w]
              rfl
            refine pure_ (i := 10) (N := some 71) (v := ?_) (a' := ?_) #[true, true, true, true, true, true, true, true, true, false, true, false, false, false, false, false, false, false] rfl rfl (any_of HT_.out (by kernel_rfl)) (fun _ _ _ h => h) (Or.inl ⟨by rfl, ?_⟩) ?_ ?_
            rotate_left
            · intro w'
              go_simp
              with_reducible rfl
            rotate_left
            · simp only [Act.put, List.setIfInBounds_toArray, List.set_cons_zero, List.set_cons_succ, i64_w, i32_w]
              rfl
            refine pure_ (i := 11) (N := some 72) (v := ?_) (a' := ?_) #[true, true, true, true, true, true, true, true, true, false, true, true, false, false, false, false, false, false] rfl rfl (any_of HT_.out (by kernel_rfl)) (fun _ _ _ h => h) (Or.inl ⟨by rfl, ?_⟩) ?_ ?_
            rotate_left
            · intro w'
              go_simp
              with_reducible rfl
            rotate_left
            · simp only [Act.put, List.setIfInBounds_toArray, List.set_cons_zero, List.set_cons_succ, i64_w, i32_w]
              rfl
            refine pure_ (i := 12) (N := some 73) (v := ?_) (a' := ?_) #[true, true, true, true, true, true, true, true, true, false, true, true, true, false, false, false, false, false] rfl rfl (any_of HT_.out (by kernel_rfl)) (fun _ _ _ h => h) (Or.inl ⟨by rfl, ?_⟩) ?_ ?_
            rotate_left
            · intro w'
              go_simp
              with_reducible rfl
            rotate_left
            · simp only [Act.put, List.setIfInBounds_toArray, List.set_cons_zero, List.set_cons_succ, i64_w, i32_w]
              rfl
            refine take_ (i := 9) (N := some 70) (v := ?_) (a' := ?_) #[true, true, true, true, true, true, true, true, true, true, true, true, true, false, false, false, false, false] rfl rfl (take_ofW HT_.out HW_.out (by kernel_rfl)) (fun _ _ _ h => h) (Or.inl ⟨by rfl, ?_⟩) hHeld ?_ ?_
            rotate_left
            · rintro w' ⟨s0, s1⟩
              go_simp
              with_reducible rfl
            rotate_left
            · simp only [Act.put, List.setIfInBounds_toArray, List.set_cons_zero, List.set_cons_succ, i64_w, i32_w]
              rfl
            refine take_ (i := 13) (N := some 74) (v := ?_) (a' := ?_) #[true, true, true, true, true, true, true, true, true, true, true, true, true, true, false, false, false, false] rfl rfl (take_ofW HT_.out HW_.out (by kernel_rfl)) (fun _ _ _ h => h) (Or.inl ⟨by rfl, ?_⟩) hHeld ?_ ?_
            rotate_left
            · rintro w' ⟨s0, s1⟩
              go_simp
              with_reducible rfl
            rotate_left
            · simp only [Act.put, List.setIfInBounds_toArray, List.set_cons_zero, List.set_cons_succ, i64_w, i32_w]
              rfl
            refine pure_ (i := 14) (N := some 75) (v := ?_) (a' := ?_) #[true, true, true, true, true, true, true, true, true, true, true, true, true, true, true, false, false, false] rfl rfl (any_of HT_.out (by kernel_rfl)) (fun _ _ _ h => h) (Or.inl ⟨by rfl, ?_⟩) ?_ ?_
            rotate_left
            · intro w'
              go_simp
              with_reducible rfl
            rotate_left
            · simp only [Act.put, List.setIfInBounds_toArray, List.set_cons_zero, List.set_cons_succ, i64_w, i32_w]
              rfl
            refine last_ (i := 15) (N := none) #[true, true, true, true, true, true, true, true, true, true, true, true, true, true, true, true, false, false] rfl rfl (one_of HT_.out (by kernel_rfl)) (by decide) (fun K hK => ?_)
            refine skip_ (w1 := ?_) (by rfl) rfl ?_ ?_
            rotate_left
            · go_simp
              rfl
            refine hK.out _ _ ?_
            clear hK K
            refine pure_ (i := 16) (N := some 76) (v := ?_) (a' := ?_) #[true, true, true, true, true, true, true, true, true, true, true, true, true, true, true, true, true, false] rfl rfl (any_of HT_.out (by kernel_rfl)) (fun _ _ _ h => h) (Or.inl ⟨by rfl, ?_⟩) ?_ ?_
            rotate_left
            · intro w'
              go_simp
              with_reducible rfl
            rotate_left
            · simp only [Act.put, List.setIfInBounds_toArray, List.set_cons_zero, List.set_cons_succ, i64_w, i32_w]
              rfl
            refine last_ (i := 17) (N := none) #[true, true, true, true, true, true, true, true, true, true, true, true, true, true, true, true, true, true] rfl rfl (one_of HT_.out (by kernel_rfl)) (by decide) (fun K hK => ?_)
            refine skip_ (w1 := ?_) (by rfl) rfl ?_ ?_
            rotate_left
            · go_simp
              rfl
            refine hK.out _ _ ?_
            clear hK K
            refine done_ (done_of HT_.out (by kernel_rfl)) ?_
            try go_wp2
            go_roundg k2
            case measure => exact Nat.lt_succ_self _
            case rel => exact ⟨ji20, s1 ++ [d], s3, (by first | rfl | (simp; done) | (simp only [← hji20] <;> (first | rfl | simp)) | (simp [*]; done)), ⟨by have := HA2.out; have := HJ20.out; have := C19.out; omega⟩, ⟨by rw [HS.out.1]; simp, by have := HJ20.out; have := HX13.out; simp; omega⟩, ⟨by
              have ey : y121 = p ++ ((s1 ++ [d]) ++ (c :: (s3 ++ (y2 ++ q)))) := by
                rw [Ny121.out, Ny120.out, HX02.out]
                have e1 : p ++ (s1 ++ (c :: ((d :: s3) ++ (y2 ++ q)))) = (p ++ s1) ++ c :: d :: (s3 ++ (y2 ++ q)) := by simp
                have hA : rdOf svNil ((p ++ s1) ++ c :: d :: (s3 ++ (y2 ++ q))) x13_2 = c := rd_at _ _ _ _ (by have := HX13.out; have := H1.out; simp; omega)
                have hB : rdOf svNil ((p ++ s1) ++ c :: d :: (s3 ++ (y2 ++ q))) ji20 = d := rd_snd _ _ _ _ _ (by have := HX13.out; have := H1.out; have := HJ20.out; simp; omega)
                rw [e1, hA, hB, (swap_adj (p ++ s1) c d (s3 ++ (y2 ++ q)) x13_2 ji20 (by have := HX13.out; have := H1.out; simp; omega) (by have := HX13.out; have := H1.out; have := HJ20.out; simp; omega)).2]
                simp
              have hq := HQ30.out
              rw [← ey]
              with_reducible repeat (first | apply Kd.R_alloc | apply Kd.R_drewN | apply Kd.R_drew)
              exact hq⟩, ⟨by repeat (first | (with_reducible first | exact HK.out | apply Kept.alloc | apply Kept.drewN | apply Kept.drew | refine Kept.setCell ?_ HMgo25.out _) | exact HK.out)⟩, ⟨by repeat (first | (with_reducible first | exact HB.out | apply below_alloc | apply pw_below_drewN | apply below_drew1 | refine below_set ?_ GB25.out) | exact HB.out)⟩⟩
          · have c19b0 : decide (x13_2 < (wrap64 (x11_1 - 1))) = false := by rw [hwx]; exact decide_eq_false c19
            have hs2 : s2 = [] := List.eq_nil_of_length_eq_zero (by omega)
            subst hs2
            clear hx13 hsl hy1l c19 hwx b1 b2 b3 b4 b5
            try go_wp2
            first | go_end0 | ((try simp only [Exit.inBlock, Exit.then]); refine bodyPost_ret (results_none rfl _ _ _) rfl ?_)
            refine ⟨by first | rfl | (simp [errW_none, errW_some] <;> rfl), ⟨y1 ++ c :: y2, ?_, ?_, ?_⟩, ?_, ?_⟩
            · rw [HCX.out, HYS.out]; exact (List.perm_middle).trans (by simp)
            · intro _ hd; exact HDD.out hd
            · have h := HO_0.out
              have e1 : p ++ (s1 ++ (c :: ([] ++ (y2 ++ q)))) = p ++ ((y1 ++ c :: y2) ++ q) := by rw [HS.out.1]; simp
              rw [e1] at h
              (with_reducible repeat (first | apply Kd.R_alloc | apply Kd.R_drewN | apply Kd.R_drew)); exact h
            · repeat (first | (with_reducible first | exact HB.out | apply below_alloc | apply pw_below_drewN | apply below_drew1) | exact HB.out)
            · repeat (first | (with_reducible first | exact HK.out | apply Kept.alloc | apply Kept.drewN | apply Kept.drew) | exact HK.out)
end Go.Proofs.YtnibognblomfeaaGreatDoor.SM
