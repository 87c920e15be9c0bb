/- slices.symMergeCmpFunc: the walk. Written by smgen.py. -/
import Derived.Test.YtnibognblomfeaaGreatDoorSMT
namespace Go.Proofs.YtnibognblomfeaaGreatDoor.SM
open Go.RowKit Go.Proofs.YtnibognblomfeaaGreatDoorW.PrintWords Go.Proofs.YtnibognblomfeaaGreatDoorW.PrintLast Go.Proofs.YtnibognblomfeaaGreatDoorW.PrintMore Go.Proofs.YtnibognblomfeaaGreatDoor.PSort Go.Proofs.YtnibognblomfeaaGreatDoor.SP
attribute [local go_sem] max2_int min2_int max_two min_two max_three min_three max_four min_four
set_option linter.unusedVariables false
set_option linter.unusedSimpArgs false
set_option maxHeartbeats 16000000 in
set_option maxRecDepth 100000 in
theorem smC (n : Nat) (P0_ : Nat → Prop) (u9000_ : Value) (p x y q l0 : List SV) (a1 a2 a3 : Int) (w0 w : World) (hB : Below w0.heap.size w0 w) (ho0 : Kd.R Kdsv 22 w w0.heap.size P0_ u9000_ l0) (hl0 : l0 = p ++ (x ++ (y ++ q))) (hn : x.length + y.length ≤ n) (hx : x ≠ []) (hy : y ≠ []) (h1 : a1 = (p.length : Int)) (h2 : a2 = a1 + x.length) (h3 : a3 = a2 + y.length) (hlen : l0.length ≤ 1000000) (hsm : Small l0) (c6 : ¬ a2 - a1 = 1) (c31 : ¬ a3 - a2 = 1) (ih : SMAll (n - 1)) : Calls Tryz.prog 35 #[u9000_, .int .i64 a1, .int .i64 a2, .int .i64 a3, .func (.func 17) #[] #[]] w fun e w' => e = .returned (.tuple #[]) ∧ (∃ z : List SV, z.Perm (x ++ y) ∧ (Desc x → Desc y → Desc z) ∧ Kd.R Kdsv 22 w' w0.heap.size (fun k_ => (P0_ k_ ∨ w.heap.size ≤ k_)) u9000_ (p ++ (z ++ q))) ∧ Below w0.heap.size w0 w' ∧ Kept w w' (fun k_ => P0_ k_) := by
  have HO_0 := Aside0.mk (show Kd.R Kdsv 22 w w0.heap.size (fun k_ => (P0_ k_ ∨ w.heap.size ≤ k_)) u9000_ l0 from Kd.R_mono ho0 (fun k_ hk => (.inl hk)))
  have HK := Aside0.mk (Kept.refl w (fun k_ => P0_ k_))
  have HW0 := Aside0.mk hB.size
  have HB := Aside0.mk hB
  clear hB ho0
  have hx0 := List.length_pos_iff.mpr hx
  have hy0 := List.length_pos_iff.mpr hy
  have hll : (l0.length : Int) = a3 + q.length := by rw [hl0]; simp; omega
  have b1 : 0 ≤ a1 := by omega
  have b2 : a1 < a2 := by omega
  have b3 : a2 < a3 := by omega
  have b4 : a3 ≤ (l0.length : Int) := by omega
  have b5 : (l0.length : Int) ≤ 1000000 := by omega
  have hxx : (x.length : Int) = a2 - a1 := by omega
  have hyy : (y.length : Int) = a3 - a2 := by omega
  have HBB := Aside0.mk (And.intro b1 (And.intro b2 (And.intro b3 (And.intro b4 b5))))
  have HX := Aside0.mk hx
  have HY := Aside0.mk hy
  have HL := Aside0.mk hl0
  have HSM := Aside0.mk hsm
  have HN := Aside0.mk hn
  have H1 := Aside0.mk h1
  have HXX := Aside0.mk hxx
  have HYY := Aside0.mk hyy
  have HLL := Aside0.mk hll
  clear hx hy hl0 hsm hn h1 h2 h3 hlen hx0 hy0 hxx hyy hll
  have c6b0 : ((wrap64 (a2 - a1)) == 1) = false := by rw [w64 _ (by omega)]; exact beq_eq_false_iff_ne.mpr c6
  have c6b1 : ((wrap64 (a2 - a1)) != 1) = true := by rw [w64 _ (by omega)]; exact bne_iff_ne.mpr c6
  have c31b0 : ((wrap64 (a3 - a2)) == 1) = false := by rw [w64 _ (by omega)]; exact beq_eq_false_iff_ne.mpr c31
  have c31b1 : ((wrap64 (a3 - a2)) != 1) = true := by rw [w64 _ (by omega)]; exact bne_iff_ne.mpr c31
  have HIH := Aside0.mk ih
  clear ih
  obtain ⟨J, hJ⟩ : ∃ J : Int, (wrap64 ((IntKind.u64.wrap (wrap64 (a1 + a3))) / 2)) = J := ⟨_, rfl⟩
  have hJw : (IntKind.i64.wrap ((IntKind.u64.wrap (wrap64 (a1 + a3))) / 2)) = J := (i64_w _).trans hJ
  have dJ := half_lt hJ (by omega) (by omega) (by omega)
  have hJ2 : wrap64 (J + a2) = J + a2 := w64 _ (by omega)
  have hJ3 : wrap64 (J + a2 - a3) = J + a2 - a3 := w64 _ (by omega)
  have DJ := Aside0.mk dJ
  have HJ2 := Aside0.mk hJ2
  have HJ3 := Aside0.mk hJ3
  clear dJ c6 c31
  clear b1 b2 b3 b4 b5 hJ2 hJ3
  go_enter Tryz.func35, Tryz.ntmps35
  go_upto_if 140 with (fail)
  go_cut [18, 19, 20, 21] (fun v18 v19 v20 v21 w' => ∃ (x20 x21 : Int), v18 = .int .i64 J ∧ v19 = .int .i64 (J + a2) ∧ v20 = .int .i64 x20 ∧ v21 = .int .i64 x21 ∧ Aside0 ((J < a2 ∧ x20 = J + a2 - a3 ∧ x21 = J) ∨ (a2 ≤ J ∧ x20 = a1 ∧ x21 = a2)) ∧ Aside0 (Kd.R Kdsv 22 w' w0.heap.size (fun k_ => (P0_ k_ ∨ w.heap.size ≤ k_)) u9000_ (l0)) ∧ Aside0 (Kept w w' (fun k_ => P0_ k_)) ∧ Aside0 (Below w0.heap.size w0 w'))
  case first =>
    by_cases c57 : J < a2
    · have c57b1 : decide (J < a2) = true := decide_eq_true c57
      rw [c57b1]
      have C57 := Aside0.mk c57
      clear c57
      go_wp2
      go_meet
      case rel => exact ⟨(J + a2 - a3), J, (by first | rfl | (simp [hJ]; done)), (by have h2 := HJ2.out; first | rfl | (simp [hJ, h2]; done)), (by have h2 := HJ2.out; have h3 := HJ3.out; first | rfl | (simp [hJ, h2, h3]; done)), (by first | rfl | (simp [hJ]; done)), ⟨.inl ⟨C57.out, rfl, rfl⟩⟩, ⟨by (with_reducible repeat (first | apply Kd.R_alloc | apply Kd.R_drewN | apply Kd.R_drew)); exact HO_0.out⟩, ⟨by repeat (first | (with_reducible first | exact HK.out | apply Kept.alloc | apply Kept.drewN | apply Kept.drew) | exact HK.out)⟩, ⟨by repeat (first | (with_reducible first | exact HB.out | apply below_alloc | apply pw_below_drewN | apply below_drew1) | exact HB.out)⟩⟩
    · have c57b1 : decide (J < a2) = false := decide_eq_false c57
      rw [c57b1]
      have C57 := Aside0.mk c57
      clear c57
      go_wp2
      go_meet
      case rel => exact ⟨a1, a2, (by first | rfl | (simp [hJ]; done)), (by have h2 := HJ2.out; first | rfl | (simp [hJ, h2]; done)), (by first | rfl | (simp; done)), (by first | rfl | (simp; done)), ⟨.inr ⟨by have := C57.out; omega, rfl, rfl⟩⟩, ⟨by (with_reducible repeat (first | apply Kd.R_alloc | apply Kd.R_drewN | apply Kd.R_drew)); exact HO_0.out⟩, ⟨by repeat (first | (with_reducible first | exact HK.out | apply Kept.alloc | apply Kept.drewN | apply Kept.drew) | exact HK.out)⟩, ⟨by repeat (first | (with_reducible first | exact HB.out | apply below_alloc | apply pw_below_drewN | apply below_drew1) | exact HB.out)⟩⟩
  case rest =>
    clear HO_0 HK HB hJ hJw
    obtain ⟨x20s, x21s, rfl, rfl, rfl, rfl, HS0, HO_0, HK, HB⟩ := hcut
    go_upto_region 32 with (fail)
    go_cut [22] (fun v22 w' => v22 = .int .i64 (wrap64 (J + a2 - 1)) ∧ Aside0 (Kd.R Kdsv 22 w' w0.heap.size (fun k_ => (P0_ k_ ∨ w.heap.size ≤ k_)) u9000_ (l0)) ∧ Aside0 (Kept w w' (fun k_ => P0_ k_)) ∧ Aside0 (Below w0.heap.size w0 w'))
    case first =>
      go_wp2
      go_meet
      case rel => exact ⟨rfl, ⟨by (with_reducible repeat (first | apply Kd.R_alloc | apply Kd.R_drewN | apply Kd.R_drew)); exact HO_0.out⟩, ⟨by repeat (first | (with_reducible first | exact HK.out | apply Kept.alloc | apply Kept.drewN | apply Kept.drew) | exact HK.out)⟩, ⟨by repeat (first | (with_reducible first | exact HB.out | apply below_alloc | apply pw_below_drewN | apply below_drew1) | exact HB.out)⟩⟩
    rename_i hk32
    clear HO_0 HK HB
    obtain ⟨rfl, HO_0, HK, HB⟩ := hcut
    go_step
    go_step
    go_cut [20] (fun v20 w' => ∃ s : Int, v20 = .int .i64 s ∧ Aside0 (∃ B C D E : List SV, x = B ++ C ∧ y = D ++ E ∧ (B.length : Int) = s - a1 ∧ (D.length : Int) = J - s ∧ (a1 ≤ s ∧ s ≤ a2 ∧ s ≤ J ∧ J + a2 - s ≤ a3) ∧ (Desc x → Desc y → ∀ u, (u ∈ B ∨ u ∈ D) → ∀ v, (v ∈ C ∨ v ∈ E) → v.size ≤ u.size)) ∧ Aside0 (Kd.R Kdsv 22 w' w0.heap.size (fun k_ => (P0_ k_ ∨ w.heap.size ≤ k_)) u9000_ (l0)) ∧ Aside0 (Kept w w' (fun k_ => P0_ k_)) ∧ Aside0 (Below w0.heap.size w0 w'))
    case first =>
      go_wp2
      obtain ⟨K, hK⟩ : ∃ K, K = (x21s - x20s).toNat := ⟨_, rfl⟩
      have HKK := Aside0.mk hK
      clear hK
      go_wp2
      go_loopg [20, 21] K (fun kq v20 v21 w' => ∃ (x20_2 : Int) (x21_2 : Int), v20 = .int .i64 x20_2 ∧ v21 = .int .i64 x21_2 ∧ Aside0 ((x21_2 - x20_2).toNat ≤ kq) ∧ Aside0 (x20s ≤ x20_2 ∧ x20_2 ≤ x21_2 ∧ x21_2 ≤ x21s ∧ (x20s < x20_2 → ¬ (rdOf svNil l0 (x20_2 - 1)).size < (rdOf svNil l0 (J + a2 - x20_2)).size) ∧ (x21_2 < x21s → (rdOf svNil l0 x21_2).size < (rdOf svNil l0 (J + a2 - 1 - x21_2)).size)) ∧ Aside0 (Kd.R Kdsv 22 w' w0.heap.size (fun k_ => (P0_ k_ ∨ w.heap.size ≤ k_)) u9000_ (l0)) ∧ Aside0 (Kept w w' (fun k_ => P0_ k_)) ∧ Aside0 (Below w0.heap.size w0 w'))
      case atStart => obtain ⟨b1, b2, b3, b4, b5⟩ := HBB.out; have dJ := DJ.out; exact ⟨x20s, x21s, rfl, rfl, ⟨by rw [HKK.out]; exact Nat.le_refl _⟩, ⟨by omega, by have := HS0.out; omega, by omega, fun h => absurd h (by omega), fun h => absurd h (by omega)⟩, HO_0, HK, HB⟩
      case round =>
        clear HO_0 HK HB
        obtain ⟨x20_2, x21_2, rfl, rfl, HA, HF, HO_0, HK, HB⟩ := hrel
        obtain ⟨b1, b2, b3, b4, b5⟩ := HBB.out
        have d1 := HF.out.1
        have d2 := HF.out.2.1
        have d3 := HF.out.2.2.1
        have d0 := HS0.out
        have dJ := DJ.out
        by_cases c58 : x20_2 < x21_2
        · have c58b0 : decide (x20_2 < x21_2) = true := decide_eq_true c58
          obtain ⟨k2, rfl⟩ : ∃ k2, gk = k2 + 1 := ⟨gk - 1, by have := HA.out; omega⟩
          obtain ⟨ji62, hji62⟩ : ∃ j_ : Int, (wrap64 ((IntKind.u64.wrap (wrap64 (x20_2 + x21_2))) / 2)) = j_ := ⟨_, rfl⟩
          have hji62w : (IntKind.i64.wrap ((IntKind.u64.wrap (wrap64 (x20_2 + x21_2))) / 2)) = ji62 := (i64_w _).trans hji62
          have d4 := half_le hji62 (by omega) c58 (by omega)
          obtain ⟨ji59, hji59⟩ : ∃ j_ : Int, (wrap64 ((wrap64 (J + a2 - 1)) - ji62)) = j_ := ⟨_, rfl⟩
          have hji59w : (IntKind.i64.wrap ((wrap64 (J + a2 - 1)) - ji62)) = ji59 := (i64_w _).trans hji59
          have hj59 : ji59 = J + a2 - 1 - ji62 := by rw [← hji59, w64 (J + a2 - 1) (by omega)]; exact w64 _ (by omega)
          have c60b0 : decide (0 ≤ ji59) = true := decide_eq_true (by omega)
          have c61b0 : decide (ji59 < (l0.length : Int)) = true := decide_eq_true (by omega)
          have c63b0 : decide (0 ≤ ji62) = true := decide_eq_true (by omega)
          have c64b0 : decide (ji62 < (l0.length : Int)) = true := decide_eq_true (by omega)
          obtain ⟨t131, h131⟩ : ∃ t, perm_Longer.f (rdOf svNil l0 ji59) (rdOf svNil l0 ji62) = some t := ⟨_, rfl⟩
          have A65 := Aside0.mk h131
          have hl131 := longer_f h131 (small_rd HSM.out _ (by omega) (by omega)) (small_rd HSM.out _ (by omega) (by omega))
          have HL131 := Aside0.mk hl131
          clear h131 hl131
          have hw8 : wrap64 (ji62 + 1) = ji62 + 1 := w64 _ (by omega)
          have HJ59 := Aside0.mk hj59
          have D4 := Aside0.mk d4
          have C7 := Aside0.mk c58
          clear c58 d4 d1 d2 d3 d0 hj59 b1 b2 b3 b4 b5 dJ
          try go_wp2
          have n0_ := Aside0.mk (Kd.R_drew HO_0.out)
          have n1_ := Aside0.mk (Kept.drew HK.out)
          have n2_ := Aside0.mk (below_drew1 HB.out)
          clear HO_0
          clear HK
          clear HB
          have HO_0 := n0_
          have HK := n1_
          have HB := n2_
          clear n0_ n1_ n2_
          obtain ⟨Ao68, co68, eo68⟩ := Kd.R_slice HO_0.out
          (first | subst eo68 | (injection eo68 with f1_ f2_ f3_; have f4_ := f1_.symm; have f5_ := f3_.symm; clear f1_ f2_ f3_; subst f4_; subst f5_))
          have p129 : 0 ≤ ((ji59) : Int) := of_decide_eq_true (by first | (with_reducible assumption) | assumption)
          have q129 : (ji59) < (l0.length : Int) := of_decide_eq_true (by first | (with_reducible assumption) | assumption)
          obtain ⟨ad129, e129, hx129_0⟩ := at_sv (Kd.R_reads' HO_0.out).2.2 (ji59) p129 q129
          cases e129
          replace p129 := eq_true p129
          replace q129 := eq_true q129
          have p130 : 0 ≤ ((ji62) : Int) := of_decide_eq_true (by first | (with_reducible assumption) | assumption)
          have q130 : (ji62) < (l0.length : Int) := of_decide_eq_true (by first | (with_reducible assumption) | assumption)
          obtain ⟨ad130, e130, hx130_0⟩ := at_sv (Kd.R_reads' HO_0.out).2.2 (ji62) p130 q130
          obtain rfl : ad129 = ad130 := (by injection e130)
          replace p130 := eq_true p130
          replace q130 := eq_true q130
          refine start_ (n := 14) (S := fun w' => w'.cell? (ad129.add ((ji59)).toNat) = some (encSV (rdOf svNil l0 (ji59))) ∧ w'.cell? (ad129.add ((ji62)).toNat) = some (encSV (rdOf svNil l0 (ji62)))) (ds := []) #[false, false, false, false, false, false, false, false, false, false, false, false, false, false] (by kernel_rfl) rfl rfl ⟨hx129_0, hx130_0⟩ (fun hHeld => ?_); refine with_tabW slices_symMergeCmpFunc_int.tab35 slices_symMergeCmpFunc_int.bits35 (fun HT_ HW_ => ?_)
          generalize wr.drew = w67 at HO_0 HK HB hx129_0 hx130_0 hHeld ⊢
          refine pure_ (i := 0) (N := some 158) (v := ?_) (a' := ?_) #[true, false, false, false, false, false, false, false, false, false, false, false, false, false] rfl rfl (any_of HT_.out (by kernel_rfl)) (fun _ _ _ h => h) (Or.inl ⟨by rfl, ?_⟩) ?_ ?_
          rotate_left
          · intro w'
            go_simp
            with_reducible rfl
          rotate_left
          · simp only [Act.put, List.setIfInBounds_toArray, List.set_cons_zero, List.set_cons_succ, i64_w, i32_w]
            rfl
          refine pure_ (i := 1) (N := some 159) (v := ?_) (a' := ?_) #[true, true, false, false, false, false, false, false, false, false, false, false, false, false] rfl rfl (any_of HT_.out (by kernel_rfl)) (fun _ _ _ h => h) (Or.inl ⟨by rfl, ?_⟩) ?_ ?_
          rotate_left
          · intro w'
            go_simp
            with_reducible rfl
          rotate_left
          · simp only [Act.put, List.setIfInBounds_toArray, List.set_cons_zero, List.set_cons_succ, i64_w, i32_w]
            rfl
          refine pure_ (i := 2) (N := some 160) (v := ?_) (a' := ?_) #[true, true, true, false, false, false, false, false, false, false, false, false, false, false] rfl rfl (any_of HT_.out (by kernel_rfl)) (fun _ _ _ h => h) (Or.inl ⟨by rfl, ?_⟩) ?_ ?_
          rotate_left
          · intro w'
            go_simp
            with_reducible rfl
          rotate_left
          · simp only [Act.put, List.setIfInBounds_toArray, List.set_cons_zero, List.set_cons_succ, i64_w, i32_w]
            rfl
          refine pure_ (i := 3) (N := some 161) (v := ?_) (a' := ?_) #[true, true, true, true, false, false, false, false, false, false, false, false, false, false] rfl rfl (any_of HT_.out (by kernel_rfl)) (fun _ _ _ h => h) (Or.inl ⟨by rfl, ?_⟩) ?_ ?_
          rotate_left
          · intro w'
            go_simp
            with_reducible rfl
          rotate_left
          · simp only [Act.put, List.setIfInBounds_toArray, List.set_cons_zero, List.set_cons_succ, i64_w, i32_w]
            rfl
          refine pure_ (i := 4) (N := some 162) (v := ?_) (a' := ?_) #[true, true, true, true, true, false, false, false, false, false, false, false, false, false] rfl rfl (any_of HT_.out (by kernel_rfl)) (fun _ _ _ h => h) (Or.inl ⟨by rfl, ?_⟩) ?_ ?_
          rotate_left
          · intro w'
            go_simp
            with_reducible rfl
          rotate_left
          · simp only [Act.put, List.setIfInBounds_toArray, List.set_cons_zero, List.set_cons_succ, i64_w, i32_w]
            rfl
          refine pure_ (i := 5) (N := some 163) (v := ?_) (a' := ?_) #[true, true, true, true, true, true, false, false, false, false, false, false, false, false] rfl rfl (any_of HT_.out (by kernel_rfl)) (fun _ _ _ h => h) (Or.inl ⟨by rfl, ?_⟩) ?_ ?_
          rotate_left
          · intro w'
            go_simp
            with_reducible rfl
          rotate_left
          · simp only [Act.put, List.setIfInBounds_toArray, List.set_cons_zero, List.set_cons_succ, i64_w, i32_w]
            rfl
          refine pure_ (i := 7) (N := some 165) (v := ?_) (a' := ?_) #[true, true, true, true, true, true, false, true, false, false, false, false, false, false] rfl rfl (any_of HT_.out (by kernel_rfl)) (fun _ _ _ h => h) (Or.inl ⟨by rfl, ?_⟩) ?_ ?_
          rotate_left
          · intro w'
            go_simp
            with_reducible rfl
          rotate_left
          · simp only [Act.put, List.setIfInBounds_toArray, List.set_cons_zero, List.set_cons_succ, i64_w, i32_w]
            rfl
          refine pure_ (i := 8) (N := some 166) (v := ?_) (a' := ?_) #[true, true, true, true, true, true, false, true, true, false, false, false, false, false] rfl rfl (any_of HT_.out (by kernel_rfl)) (fun _ _ _ h => h) (Or.inl ⟨by rfl, ?_⟩) ?_ ?_
          rotate_left
          · intro w'
            go_simp
            with_reducible rfl
          rotate_left
          · simp only [Act.put, List.setIfInBounds_toArray, List.set_cons_zero, List.set_cons_succ, i64_w, i32_w]
            rfl
          refine pure_ (i := 9) (N := some 167) (v := ?_) (a' := ?_) #[true, true, true, true, true, true, false, true, true, true, false, false, false, false] rfl rfl (any_of HT_.out (by kernel_rfl)) (fun _ _ _ h => h) (Or.inl ⟨by rfl, ?_⟩) ?_ ?_
          rotate_left
          · intro w'
            go_simp
            with_reducible rfl
          rotate_left
          · simp only [Act.put, List.setIfInBounds_toArray, List.set_cons_zero, List.set_cons_succ, i64_w, i32_w]
            rfl
          refine take_ (i := 6) (N := some 164) (v := ?_) (a' := ?_) #[true, true, true, true, true, true, true, true, true, true, false, false, false, false] rfl rfl (take_ofW HT_.out HW_.out (by kernel_rfl)) (fun _ _ _ h => h) (Or.inl ⟨by rfl, ?_⟩) hHeld ?_ ?_
          rotate_left
          · rintro w' ⟨s0, s1⟩
            go_simp
            with_reducible rfl
          rotate_left
          · simp only [Act.put, List.setIfInBounds_toArray, List.set_cons_zero, List.set_cons_succ, i64_w, i32_w]
            rfl
          refine take_ (i := 10) (N := some 168) (v := ?_) (a' := ?_) #[true, true, true, true, true, true, true, true, true, true, true, false, false, false] rfl rfl (take_ofW HT_.out HW_.out (by kernel_rfl)) (fun _ _ _ h => h) (Or.inl ⟨by rfl, ?_⟩) hHeld ?_ ?_
          rotate_left
          · rintro w' ⟨s0, s1⟩
            go_simp
            with_reducible rfl
          rotate_left
          · simp only [Act.put, List.setIfInBounds_toArray, List.set_cons_zero, List.set_cons_succ, i64_w, i32_w]
            rfl
          refine one_ (i := 11) (N := some 169) #[true, true, true, true, true, true, true, true, true, true, true, true, false, false] rfl rfl (one_of HT_.out (by kernel_rfl)) (by decide) (fun K hK => ?_)
          refine goesV_ Tryz.func17 (by kernel_rfl) rfl #[encSV (rdOf svNil l0 (ji59)), encSV (rdOf svNil l0 (ji62))] (by rfl) rfl rfl (by (try simp only [List.map_toArray, List.map_cons, List.map_nil]); first | done | (simp only [hji59, hji62]; rfl) | rfl | (simp only [List.length_drop, List.length_take]; rfl)) ?_
          with_reducible refine (perm_Longer.calls (rdOf svNil l0 (ji59)) (rdOf svNil l0 (ji62)) t131 _ A65.out).mono ?_
          rintro e w' ⟨rfl, ⟨nd, rfl⟩⟩
          refine ⟨_, rfl, ?_⟩
          refine hK.out _ _ ⟨hHeld.1, hHeld.2⟩ (fun hHeld => ?_)
          clear hK K
          refine norm_ (a' := ?_) ?_ ?_
          rotate_left
          · show Act.put _ (some 169) _ = _
            simp only [Act.put, List.setIfInBounds_toArray, List.set_cons_zero, List.set_cons_succ, i64_w, i32_w]
            rfl
          refine pure_ (i := 12) (N := some 170) (v := ?_) (a' := ?_) #[true, true, true, true, true, true, true, true, true, true, true, true, true, false] rfl rfl (any_of HT_.out (by kernel_rfl)) (fun _ _ _ h => h) (Or.inl ⟨by rfl, ?_⟩) ?_ ?_
          rotate_left
          · intro w'
            go_simp
            with_reducible rfl
          rotate_left
          · simp only [Act.put, List.setIfInBounds_toArray, List.set_cons_zero, List.set_cons_succ, i64_w, i32_w]
            rfl
          refine pure_ (i := 13) (N := some 171) (v := ?_) (a' := ?_) #[true, true, true, true, true, true, true, true, true, true, true, true, true, true] rfl rfl (any_of HT_.out (by kernel_rfl)) (fun _ _ _ h => h) (Or.inl ⟨by rfl, ?_⟩) ?_ ?_
          rotate_left
          · intro w'
            go_simp
            with_reducible rfl
          rotate_left
          · simp only [Act.put, List.setIfInBounds_toArray, List.set_cons_zero, List.set_cons_succ, i64_w, i32_w]
            rfl
          refine done_ (done_of HT_.out (by kernel_rfl)) ?_
          by_cases c66 : t131 < 0
          · have c66b0 : decide (t131 < 0) = true := decide_eq_true c66
            have C66 := Aside0.mk (HL131.out.mp c66)
            clear c66 
            rw [c66b0]
            try go_wp2
            go_roundg k2
            case measure => exact Nat.lt_succ_self _
            case rel => exact ⟨(x20_2), (ji62), (by first | rfl | (simp; done) | (simp [*]; done)), (by first | rfl | (simp; done) | (simp only [← hji62] <;> (first | rfl | simp)) | (simp [*]; done)), ⟨by have := HA.out; have := D4.out; omega⟩, ⟨HF.out.1, D4.out.1, by have := HF.out.2.2.1; have := D4.out; omega, HF.out.2.2.2.1, fun _ => by have h := C66.out; rw [HJ59.out] at h; exact h⟩, ⟨by (with_reducible repeat (first | apply Kd.R_alloc | apply Kd.R_drewN | apply Kd.R_drew)); exact HO_0.out⟩, ⟨by repeat (first | (with_reducible first | exact HK.out | apply Kept.alloc | apply Kept.drewN | apply Kept.drew) | exact HK.out)⟩, ⟨by repeat (first | (with_reducible first | exact HB.out | apply below_alloc | apply pw_below_drewN | apply below_drew1) | exact HB.out)⟩⟩
          · have c66b0 : decide (t131 < 0) = false := decide_eq_false c66
            have C66 := Aside0.mk (fun h => c66 (HL131.out.mpr h))
            clear c66
            rw [c66b0]
            try go_wp2
            go_roundg k2
            case measure => exact Nat.lt_succ_self _
            case rel => exact ⟨(ji62 + 1), (x21_2), (by first | rfl | (simp; done) | (simp [*]; done)), (by first | rfl | (simp; done) | (simp [*]; done)), ⟨by have := HA.out; have := D4.out; omega⟩, ⟨by have := HF.out.1; have := D4.out; omega, by have := D4.out; omega, HF.out.2.2.1, fun _ => by have h := C66.out; rw [HJ59.out] at h; rw [Int.add_sub_cancel, show J + a2 - (ji62 + 1) = J + a2 - 1 - ji62 by omega]; exact h, HF.out.2.2.2.2⟩, ⟨by (with_reducible repeat (first | apply Kd.R_alloc | apply Kd.R_drewN | apply Kd.R_drew)); exact HO_0.out⟩, ⟨by repeat (first | (with_reducible first | exact HK.out | apply Kept.alloc | apply Kept.drewN | apply Kept.drew) | exact HK.out)⟩, ⟨by repeat (first | (with_reducible first | exact HB.out | apply below_alloc | apply pw_below_drewN | apply below_drew1) | exact HB.out)⟩⟩
        · have c58b0 : decide (x20_2 < x21_2) = false := decide_eq_false c58
          obtain rfl : x21_2 = x20_2 := by omega
          obtain ⟨s, hs⟩ : ∃ s : Int, s = x21_2 := ⟨_, rfl⟩
          subst hs
          obtain ⟨B, C, D, E, hxs, hys, hBl, hDl, hcr⟩ := mid_split p x y q l0 a1 a2 a3 J s x20s x21s HL.out H1.out HXX.out HYY.out HS0.out DJ.out d1 d3 HF.out.2.2.2.1 HF.out.2.2.2.2
          have hrel := (⟨B, C, D, E, hxs, hys, hBl, hDl, ⟨by omega, by omega, by omega, by omega⟩, hcr⟩ : ∃ B C D E : List SV, x = B ++ C ∧ y = D ++ E ∧ (B.length : Int) = s - a1 ∧ (D.length : Int) = J - s ∧ (a1 ≤ s ∧ s ≤ a2 ∧ s ≤ J ∧ J + a2 - s ≤ a3) ∧ (Desc x → Desc y → ∀ u, (u ∈ B ∨ u ∈ D) → ∀ v, (v ∈ C ∨ v ∈ E) → v.size ≤ u.size))
          have HREL := Aside0.mk hrel
          clear hrel hxs hys hBl hDl hcr c58 d1 d2 d3 d0 dJ b1 b2 b3 b4 b5
          go_wp2
          go_meet
          case rel => exact ⟨s, rfl, HREL, ⟨by (with_reducible repeat (first | apply Kd.R_alloc | apply Kd.R_drewN | apply Kd.R_drew)); exact HO_0.out⟩, ⟨by repeat (first | (with_reducible first | exact HK.out | apply Kept.alloc | apply Kept.drewN | apply Kept.drew) | exact HK.out)⟩, ⟨by repeat (first | (with_reducible first | exact HB.out | apply below_alloc | apply pw_below_drewN | apply below_drew1) | exact HB.out)⟩⟩
    case rest =>
      clear HO_0 HK HB
      obtain ⟨s, rfl, HREL, HO_0, HK, HB⟩ := hcut
      go_step
      exact smTail n P0_ _ p x y q l0 a1 a2 a3 J s w0 w _ HW0 HBB HL HSM HN H1 HXX HYY DJ HIH.out HREL HO_0 HK HB _ _ _ _ _ _ _ _ _ _ _ _ _ _ _ _ _ _ _ _ _ _ _ _ _ _ _ _ _ _ _ _ _ _ _ _ _ _ _ _ _ _ _ _ _ _ _ _ _ _ _ _ _ _ _ _ _ _ _ _ _ _ _ _ _ _ _ _ _ _ _ _ _ _ _ _ _ _ _ _ _ _ _ _ _ _ _ _ _ _ _ _ _ _ _ _ _ _ _ _ _ _ _ _ _ _ _ _ _ _ _ _ _ _ _ _ _ _ _ _ _ _ _ _ _ _ _ _ _ _ _ _ _ _ _ _ _ _ _ _ _ _ _ _ _ _ _ _ _ _ _ _ _ _ _ _ _ _ _ _ _ _ _ _ _ _ _ _ _ _ _ _ _ _ _ _ _ _ _ _ _ _ _ _ _ _ _ _ _ _ _ _ _ _ _ _ _ _ _ _ _ _ _ _ _ _ _ _ _ _ _ _ 
end Go.Proofs.YtnibognblomfeaaGreatDoor.SM
