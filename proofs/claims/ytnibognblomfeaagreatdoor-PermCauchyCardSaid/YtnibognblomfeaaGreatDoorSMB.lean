/- slices.symMergeCmpFunc: the walk. Written by smgen.py. -/
import Derived.Test.YtnibognblomfeaaGreatDoorGB
namespace Go.Proofs.YtnibognblomfeaaGreatDoor.SM
open Go.RowKit Go.Proofs.YtnibognblomfeaaGreatDoorW.PrintWords Go.Proofs.YtnibognblomfeaaGreatDoorW.PrintLast Go.Proofs.YtnibognblomfeaaGreatDoorW.PrintMore Go.Proofs.YtnibognblomfeaaGreatDoor.PSort Go.Proofs.YtnibognblomfeaaGreatDoor.SP
attribute [local go_sem] max2_int min2_int max_two min_two max_three min_three max_four min_four
set_option linter.unusedVariables false
set_option linter.unusedSimpArgs false
set_option maxHeartbeats 16000000 in
set_option maxRecDepth 100000 in
theorem smB (n : Nat) (P0_ : Nat → Prop) (u9000_ : Value) (p x y q l0 : List SV) (a1 a2 a3 : Int) (w0 w : World) (hB : Below w0.heap.size w0 w) (ho0 : Kd.R Kdsv 22 w w0.heap.size P0_ u9000_ l0) (hl0 : l0 = p ++ (x ++ (y ++ q))) (hn : x.length + y.length ≤ n) (hx : x ≠ []) (hy : y ≠ []) (h1 : a1 = (p.length : Int)) (h2 : a2 = a1 + x.length) (h3 : a3 = a2 + y.length) (hlen : l0.length ≤ 1000000) (hsm : Small l0) (c6 : ¬ a2 - a1 = 1) (c31 : a3 - a2 = 1) : Calls Tryz.prog 35 #[u9000_, .int .i64 a1, .int .i64 a2, .int .i64 a3, .func (.func 17) #[] #[]] w fun e w' => e = .returned (.tuple #[]) ∧ (∃ z : List SV, z.Perm (x ++ y) ∧ (Desc x → Desc y → Desc z) ∧ Kd.R Kdsv 22 w' w0.heap.size (fun k_ => (P0_ k_ ∨ w.heap.size ≤ k_)) u9000_ (p ++ (z ++ q))) ∧ Below w0.heap.size w0 w' ∧ Kept w w' (fun k_ => P0_ k_) := by
  have HO_0 := Aside0.mk (show Kd.R Kdsv 22 w w0.heap.size (fun k_ => (P0_ k_ ∨ w.heap.size ≤ k_)) u9000_ l0 from Kd.R_mono ho0 (fun k_ hk => (.inl hk)))
  have HK := Aside0.mk (Kept.refl w (fun k_ => P0_ k_))
  have HW0 := Aside0.mk hB.size
  have HB := Aside0.mk hB
  clear hB ho0
  have hx0 := List.length_pos_iff.mpr hx
  have hy0 := List.length_pos_iff.mpr hy
  have hll : (l0.length : Int) = a3 + q.length := by rw [hl0]; simp; omega
  have b1 : 0 ≤ a1 := by omega
  have b2 : a1 < a2 := by omega
  have b3 : a2 < a3 := by omega
  have b4 : a3 ≤ (l0.length : Int) := by omega
  have b5 : (l0.length : Int) ≤ 1000000 := by omega
  have hxx : (x.length : Int) = a2 - a1 := by omega
  have hyy : (y.length : Int) = a3 - a2 := by omega
  have HBB := Aside0.mk (And.intro b1 (And.intro b2 (And.intro b3 (And.intro b4 b5))))
  have HX := Aside0.mk hx
  have HY := Aside0.mk hy
  have HL := Aside0.mk hl0
  have HSM := Aside0.mk hsm
  have HN := Aside0.mk hn
  have H1 := Aside0.mk h1
  have HXX := Aside0.mk hxx
  have HYY := Aside0.mk hyy
  have HLL := Aside0.mk hll
  clear hx hy hl0 hsm hn h1 h2 h3 hlen hx0 hy0 hxx hyy hll
  · have c6b0 : ((wrap64 (a2 - a1)) == 1) = false := by rw [w64 _ (by omega)]; exact beq_eq_false_iff_ne.mpr c6
    have c6b1 : ((wrap64 (a2 - a1)) != 1) = true := by rw [w64 _ (by omega)]; exact bne_iff_ne.mpr c6
    · have c31b0 : ((wrap64 (a3 - a2)) == 1) = true := by rw [w64 _ (by omega), c31]; rfl
      have c31b1 : ((wrap64 (a3 - a2)) != 1) = false := by rw [w64 _ (by omega), c31]; rfl
      have HC31 := Aside0.mk c31
      clear c31 c6
      obtain ⟨K, hK⟩ : ∃ K, K = (a2 - a1).toNat := ⟨_, rfl⟩
      have HKK := Aside0.mk hK
      clear hK
      clear b1 b2 b3 b4 b5
      go_enter Tryz.func35, Tryz.ntmps35
      go_wp2
      go_loopg [14, 15] K (fun kq v14 v15 w' => ∃ (x14_1 : Int) (x15_1 : Int), v14 = .int .i64 x14_1 ∧ v15 = .int .i64 x15_1 ∧ Aside0 ((x15_1 - x14_1).toNat ≤ kq) ∧ Aside0 (a1 ≤ x14_1 ∧ x14_1 ≤ x15_1 ∧ x15_1 ≤ a2 ∧ (a1 < x14_1 → ¬ (rdOf svNil l0 (x14_1 - 1)).size < (rdOf svNil l0 a2).size) ∧ (x15_1 < a2 → (rdOf svNil l0 x15_1).size < (rdOf svNil l0 a2).size)) ∧ Aside0 (Kd.R Kdsv 22 w' w0.heap.size (fun k_ => (P0_ k_ ∨ w.heap.size ≤ k_)) u9000_ (l0)) ∧ Aside0 (Kept w w' (fun k_ => P0_ k_)) ∧ Aside0 (Below w0.heap.size w0 w'))
      case atStart => obtain ⟨b1, b2, b3, b4, b5⟩ := HBB.out; exact ⟨a1, a2, rfl, rfl, ⟨by rw [HKK.out]; exact Nat.le_refl _⟩, ⟨by omega, by omega, by omega, fun h => absurd h (by omega), fun h => absurd h (by omega)⟩, HO_0, HK, HB⟩
      case round =>
        clear HO_0 HK HB
        obtain ⟨x14_1, x15_1, rfl, rfl, HA, HF, HO_0, HK, HB⟩ := hrel
        obtain ⟨b1, b2, b3, b4, b5⟩ := HBB.out
        have d1 := HF.out.1
        have d2 := HF.out.2.1
        have d3 := HF.out.2.2.1
        by_cases c32 : x14_1 < x15_1
        · have c32b0 : decide (x14_1 < x15_1) = true := decide_eq_true c32
          obtain ⟨k1, rfl⟩ : ∃ k1, gk = k1 + 1 := ⟨gk - 1, by have := HA.out; omega⟩
          obtain ⟨ji35, hji35⟩ : ∃ j_ : Int, (wrap64 ((IntKind.u64.wrap (wrap64 (x14_1 + x15_1))) / 2)) = j_ := ⟨_, rfl⟩
          have hji35w : (IntKind.i64.wrap ((IntKind.u64.wrap (wrap64 (x14_1 + x15_1))) / 2)) = ji35 := (i64_w _).trans hji35
          have d4 := half_le hji35 (by omega) c32 (by omega)
          have c33b0 : decide (0 ≤ a2) = true := decide_eq_true (by omega)
          have c34b0 : decide (a2 < (l0.length : Int)) = true := decide_eq_true (by omega)
          have c36b0 : decide (0 ≤ ji35) = true := decide_eq_true (by omega)
          have c37b0 : decide (ji35 < (l0.length : Int)) = true := decide_eq_true (by omega)
          obtain ⟨t124, h124⟩ : ∃ t, perm_Longer.f (rdOf svNil l0 a2) (rdOf svNil l0 ji35) = some t := ⟨_, rfl⟩
          have A38 := Aside0.mk h124
          clear h124
          have hw8 : wrap64 (ji35 + 1) = ji35 + 1 := w64 _ (by omega)
          have D4 := Aside0.mk d4
          have C7 := Aside0.mk c32
          clear c32 d4 d1 d2 d3 b1 b2 b3 b4 b5
          try go_wp2
          have n0_ := Aside0.mk (Kd.R_drew HO_0.out)
          have n1_ := Aside0.mk (Kept.drew HK.out)
          have n2_ := Aside0.mk (below_drew1 HB.out)
          clear HO_0
          clear HK
          clear HB
          have HO_0 := n0_
          have HK := n1_
          have HB := n2_
          clear n0_ n1_ n2_
          obtain ⟨Ao41, co41, eo41⟩ := Kd.R_slice HO_0.out
          (first | subst eo41 | (injection eo41 with f1_ f2_ f3_; have f4_ := f1_.symm; have f5_ := f3_.symm; clear f1_ f2_ f3_; subst f4_; subst f5_))
          have p122 : 0 ≤ (a2 : Int) := of_decide_eq_true (by first | (with_reducible assumption) | assumption)
          have q122 : a2 < (l0.length : Int) := of_decide_eq_true (by first | (with_reducible assumption) | assumption)
          obtain ⟨ad122, e122, hx122_0⟩ := at_sv (Kd.R_reads' HO_0.out).2.2 a2 p122 q122
          cases e122
          replace p122 := eq_true p122
          replace q122 := eq_true q122
          have p123 : 0 ≤ ((ji35) : Int) := of_decide_eq_true (by first | (with_reducible assumption) | assumption)
          have q123 : (ji35) < (l0.length : Int) := of_decide_eq_true (by first | (with_reducible assumption) | assumption)
          obtain ⟨ad123, e123, hx123_0⟩ := at_sv (Kd.R_reads' HO_0.out).2.2 (ji35) p123 q123
          obtain rfl : ad122 = ad123 := (by injection e123)
          replace p123 := eq_true p123
          replace q123 := eq_true q123
          refine start_ (n := 12) (S := fun w' => w'.cell? (ad122.add (a2).toNat) = some (encSV (rdOf svNil l0 a2)) ∧ w'.cell? (ad122.add ((ji35)).toNat) = some (encSV (rdOf svNil l0 (ji35)))) (ds := []) #[false, false, false, false, false, false, false, false, false, false, false, false] (by kernel_rfl) rfl rfl ⟨hx122_0, hx123_0⟩ (fun hHeld => ?_); refine with_tabW slices_symMergeCmpFunc_int.tab17 slices_symMergeCmpFunc_int.bits17 (fun HT_ HW_ => ?_)
          generalize wr.drew = w40 at HO_0 HK HB hx122_0 hx123_0 hHeld ⊢
          refine pure_ (i := 0) (N := some 92) (v := ?_) (a' := ?_) #[true, false, false, false, false, false, false, false, false, false, false, false] rfl rfl (any_of HT_.out (by kernel_rfl)) (fun _ _ _ h => h) (Or.inl ⟨by rfl, ?_⟩) ?_ ?_
          rotate_left
          · intro w'
            go_simp
            with_reducible rfl
          rotate_left
          · simp only [Act.put, List.setIfInBounds_toArray, List.set_cons_zero, List.set_cons_succ, i64_w, i32_w]
            rfl
          refine pure_ (i := 1) (N := some 93) (v := ?_) (a' := ?_) #[true, true, false, false, false, false, false, false, false, false, false, false] rfl rfl (any_of HT_.out (by kernel_rfl)) (fun _ _ _ h => h) (Or.inl ⟨by rfl, ?_⟩) ?_ ?_
          rotate_left
          · intro w'
            go_simp
            with_reducible rfl
          rotate_left
          · simp only [Act.put, List.setIfInBounds_toArray, List.set_cons_zero, List.set_cons_succ, i64_w, i32_w]
            rfl
          refine pure_ (i := 2) (N := some 94) (v := ?_) (a' := ?_) #[true, true, true, false, false, false, false, false, false, false, false, false] rfl rfl (any_of HT_.out (by kernel_rfl)) (fun _ _ _ h => h) (Or.inl ⟨by rfl, ?_⟩) ?_ ?_
          rotate_left
          · intro w'
            go_simp
            with_reducible rfl
          rotate_left
          · simp only [Act.put, List.setIfInBounds_toArray, List.set_cons_zero, List.set_cons_succ, i64_w, i32_w]
            rfl
          refine pure_ (i := 3) (N := some 95) (v := ?_) (a' := ?_) #[true, true, true, true, false, false, false, false, false, false, false, false] rfl rfl (any_of HT_.out (by kernel_rfl)) (fun _ _ _ h => h) (Or.inl ⟨by rfl, ?_⟩) ?_ ?_
          rotate_left
          · intro w'
            go_simp
            with_reducible rfl
          rotate_left
          · simp only [Act.put, List.setIfInBounds_toArray, List.set_cons_zero, List.set_cons_succ, i64_w, i32_w]
            rfl
          refine pure_ (i := 5) (N := some 97) (v := ?_) (a' := ?_) #[true, true, true, true, false, true, false, false, false, false, false, false] rfl rfl (any_of HT_.out (by kernel_rfl)) (fun _ _ _ h => h) (Or.inl ⟨by rfl, ?_⟩) ?_ ?_
          rotate_left
          · intro w'
            go_simp
            with_reducible rfl
          rotate_left
          · simp only [Act.put, List.setIfInBounds_toArray, List.set_cons_zero, List.set_cons_succ, i64_w, i32_w]
            rfl
          refine pure_ (i := 6) (N := some 98) (v := ?_) (a' := ?_) #[true, true, true, true, false, true, true, false, false, false, false, false] rfl rfl (any_of HT_.out (by kernel_rfl)) (fun _ _ _ h => h) (Or.inl ⟨by rfl, ?_⟩) ?_ ?_
          rotate_left
          · intro w'
            go_simp
            with_reducible rfl
          rotate_left
          · simp only [Act.put, List.setIfInBounds_toArray, List.set_cons_zero, List.set_cons_succ, i64_w, i32_w]
            rfl
          refine pure_ (i := 7) (N := some 99) (v := ?_) (a' := ?_) #[true, true, true, true, false, true, true, true, false, false, false, false] rfl rfl (any_of HT_.out (by kernel_rfl)) (fun _ _ _ h => h) (Or.inl ⟨by rfl, ?_⟩) ?_ ?_
          rotate_left
          · intro w'
            go_simp
            with_reducible rfl
          rotate_left
          · simp only [Act.put, List.setIfInBounds_toArray, List.set_cons_zero, List.set_cons_succ, i64_w, i32_w]
            rfl
          refine take_ (i := 4) (N := some 96) (v := ?_) (a' := ?_) #[true, true, true, true, true, true, true, true, false, false, false, false] rfl rfl (take_ofW HT_.out HW_.out (by kernel_rfl)) (fun _ _ _ h => h) (Or.inl ⟨by rfl, ?_⟩) hHeld ?_ ?_
          rotate_left
          · rintro w' ⟨s0, s1⟩
            go_simp
            with_reducible rfl
          rotate_left
          · simp only [Act.put, List.setIfInBounds_toArray, List.set_cons_zero, List.set_cons_succ, i64_w, i32_w]
            rfl
          refine take_ (i := 8) (N := some 100) (v := ?_) (a' := ?_) #[true, true, true, true, true, true, true, true, true, false, false, false] rfl rfl (take_ofW HT_.out HW_.out (by kernel_rfl)) (fun _ _ _ h => h) (Or.inl ⟨by rfl, ?_⟩) hHeld ?_ ?_
          rotate_left
          · rintro w' ⟨s0, s1⟩
            go_simp
            with_reducible rfl
          rotate_left
          · simp only [Act.put, List.setIfInBounds_toArray, List.set_cons_zero, List.set_cons_succ, i64_w, i32_w]
            rfl
          refine one_ (i := 9) (N := some 101) #[true, true, true, true, true, true, true, true, true, true, false, false] rfl rfl (one_of HT_.out (by kernel_rfl)) (by decide) (fun K hK => ?_)
          refine goesV_ Tryz.func17 (by kernel_rfl) rfl #[encSV (rdOf svNil l0 a2), encSV (rdOf svNil l0 (ji35))] (by rfl) rfl rfl (by (try simp only [List.map_toArray, List.map_cons, List.map_nil]); first | done | (simp only [hji35]; rfl) | rfl | (simp only [List.length_drop, List.length_take]; rfl)) ?_
          with_reducible refine (perm_Longer.calls (rdOf svNil l0 a2) (rdOf svNil l0 (ji35)) t124 _ A38.out).mono ?_
          rintro e w' ⟨rfl, ⟨nd, rfl⟩⟩
          refine ⟨_, rfl, ?_⟩
          refine hK.out _ _ ⟨hHeld.1, hHeld.2⟩ (fun hHeld => ?_)
          clear hK K
          refine norm_ (a' := ?_) ?_ ?_
          rotate_left
          · show Act.put _ (some 101) _ = _
            simp only [Act.put, List.setIfInBounds_toArray, List.set_cons_zero, List.set_cons_succ, i64_w, i32_w]
            rfl
          refine pure_ (i := 10) (N := some 102) (v := ?_) (a' := ?_) #[true, true, true, true, true, true, true, true, true, true, true, false] rfl rfl (any_of HT_.out (by kernel_rfl)) (fun _ _ _ h => h) (Or.inl ⟨by rfl, ?_⟩) ?_ ?_
          rotate_left
          · intro w'
            go_simp
            with_reducible rfl
          rotate_left
          · simp only [Act.put, List.setIfInBounds_toArray, List.set_cons_zero, List.set_cons_succ, i64_w, i32_w]
            rfl
          refine pure_ (i := 11) (N := some 103) (v := ?_) (a' := ?_) #[true, true, true, true, true, true, true, true, true, true, true, true] rfl rfl (any_of HT_.out (by kernel_rfl)) (fun _ _ _ h => h) (Or.inl ⟨by rfl, ?_⟩) ?_ ?_
          rotate_left
          · intro w'
            go_simp
            with_reducible rfl
          rotate_left
          · simp only [Act.put, List.setIfInBounds_toArray, List.set_cons_zero, List.set_cons_succ, i64_w, i32_w]
            rfl
          refine done_ (done_of HT_.out (by kernel_rfl)) ?_
          obtain ⟨b1, b2, b3, b4, b5⟩ := HBB.out
          have hl124 := longer_f A38.out (small_rd HSM.out _ (by omega) (by omega)) (small_rd HSM.out _ (by have := D4.out; have := HF.out.1; omega) (by have := D4.out; have := HF.out.2.2.1; omega))
          clear b1 b2 b3 b4 b5
          by_cases c39 : t124 < 0
          · have c39b0 : decide (t124 < 0) = true := decide_eq_true c39
            have C39 := Aside0.mk (hl124.mp c39)
            clear c39 hl124
            rw [c39b0]
            try go_wp2
            go_roundg k1
            case measure => exact Nat.lt_succ_self _
            case rel => exact ⟨(x14_1), (ji35), (by first | rfl | (simp; done) | (simp [*]; done)), (by first | rfl | (simp; done) | (simp only [← hji35] <;> (first | rfl | simp)) | (simp [*]; done)), ⟨by have := HA.out; have := D4.out; omega⟩, ⟨HF.out.1, D4.out.1, by have := HF.out.2.2.1; have := D4.out; omega, HF.out.2.2.2.1, fun _ => C39.out⟩, ⟨by (with_reducible repeat (first | apply Kd.R_alloc | apply Kd.R_drewN | apply Kd.R_drew)); exact HO_0.out⟩, ⟨by repeat (first | (with_reducible first | exact HK.out | apply Kept.alloc | apply Kept.drewN | apply Kept.drew) | exact HK.out)⟩, ⟨by repeat (first | (with_reducible first | exact HB.out | apply below_alloc | apply pw_below_drewN | apply below_drew1) | exact HB.out)⟩⟩
          · have c39b0 : decide (t124 < 0) = false := decide_eq_false c39
            have C39 := Aside0.mk (fun h => c39 (hl124.mpr h))
            clear c39 hl124
            rw [c39b0]
            try go_wp2
            go_roundg k1
            case measure => exact Nat.lt_succ_self _
            case rel => exact ⟨(ji35 + 1), (x15_1), (by first | rfl | (simp; done) | (simp [*]; done)), (by first | rfl | (simp; done) | (simp [*]; done)), ⟨by have := HA.out; have := D4.out; omega⟩, ⟨by have := HF.out.1; have := D4.out; omega, by have := D4.out; omega, HF.out.2.2.1, fun _ => by rw [Int.add_sub_cancel]; exact C39.out, HF.out.2.2.2.2⟩, ⟨by (with_reducible repeat (first | apply Kd.R_alloc | apply Kd.R_drewN | apply Kd.R_drew)); exact HO_0.out⟩, ⟨by repeat (first | (with_reducible first | exact HK.out | apply Kept.alloc | apply Kept.drewN | apply Kept.drew) | exact HK.out)⟩, ⟨by repeat (first | (with_reducible first | exact HB.out | apply below_alloc | apply pw_below_drewN | apply below_drew1) | exact HB.out)⟩⟩
        · have c32b0 : decide (x14_1 < x15_1) = false := decide_eq_false c32
          obtain rfl : x15_1 = x14_1 := by omega
          obtain ⟨c, hcy⟩ : ∃ c, y = [c] := by
            have hl : y.length = 1 := by have := HYY.out; have := HC31.out; omega
            match y, hl with
            | [c], _ => exact ⟨c, rfl⟩
          obtain ⟨x1, x2, hxs, hx1, hdd⟩ := down_split p x q c l0 a1 a2 x15_1 (by rw [HL.out, hcy]) H1.out (by have := HXX.out; omega) d1 d3 HF.out.2.2.2.1 HF.out.2.2.2.2
          have hx2 : (x2.length : Int) = a2 - x15_1 := by have h := HXX.out; rw [hxs] at h; simp only [List.length_append, Int.natCast_add] at h; omega
          have HCY := Aside0.mk hcy
          have HXS := Aside0.mk hxs
          have HX1 := Aside0.mk hx1
          have HX2 := Aside0.mk hx2
          have HDD := Aside0.mk hdd
          have D1 := Aside0.mk d1
          have D3 := Aside0.mk d3
          clear hcy hxs hx1 hx2 hdd c32 d1 d2 d3 b1 b2 b3 b4 b5
          obtain ⟨K2, hK2⟩ : ∃ K, K = (a2 - x15_1).toNat := ⟨_, rfl⟩
          have HKK2 := Aside0.mk hK2
          clear hK2
          try go_wp2
          go_loopg [17] K2 (fun kq v17 w' => ∃ (x17_2 : Int) (s1 s2 : List SV), v17 = .int .i64 x17_2 ∧ Aside0 ((x17_2 - x15_1).toNat ≤ kq) ∧ Aside0 (x2 = s1 ++ s2 ∧ x17_2 = x15_1 + s1.length) ∧ Aside0 (Kd.R Kdsv 22 w' w0.heap.size (fun k_ => (P0_ k_ ∨ w.heap.size ≤ k_)) u9000_ (p ++ (x1 ++ (s1 ++ (c :: (s2 ++ q)))))) ∧ Aside0 (Kept w w' (fun k_ => P0_ k_)) ∧ Aside0 (Below w0.heap.size w0 w'))
          case atStart => obtain ⟨b1, b2, b3, b4, b5⟩ := HBB.out; exact ⟨a2, x2, [], rfl, ⟨by rw [HKK2.out]; exact Nat.le_refl _⟩, ⟨by simp, by have := HX2.out; omega⟩, ⟨by
            have h := HO_0.out
            rw [HL.out, HCY.out, HXS.out] at h
            simpa using h⟩, HK, HB⟩
          case round =>
            clear HO_0 HK HB
            obtain ⟨x17_2, s1, s2, rfl, HA2, HS, HO_0, HK, HB⟩ := hrel
            obtain ⟨b1, b2, b3, b4, b5⟩ := HBB.out
            have hsl : (x2.length : Int) = s1.length + s2.length := by rw [HS.out.1]; simp
            have hx17 := HS.out.2
            by_cases c44 : x15_1 < x17_2
            · have c44b0 : decide (x15_1 < x17_2) = true := decide_eq_true c44
              obtain ⟨k2, rfl⟩ : ∃ k2, gk = k2 + 1 := ⟨gk - 1, by have := HA2.out; omega⟩
              obtain ⟨s3, d, rfl⟩ : ∃ s3 d, s1 = s3 ++ [d] := by
                rcases List.eq_nil_or_concat s1 with h | ⟨s3, d, h⟩
                · subst h; exact absurd hx17 (by simp; omega)
                · exact ⟨s3, d, by simpa using h⟩
              have hx17' : x17_2 = x15_1 + s3.length + 1 := by rw [hx17]; simp; omega
              obtain ⟨ji45, hji45⟩ : ∃ j_ : Int, (wrap64 (x17_2 - 1)) = j_ := ⟨_, rfl⟩
              have hji45w : (IntKind.i64.wrap (x17_2 - 1)) = ji45 := (i64_w _).trans hji45
              have hx17m : x17_2 ≤ a2 := by have := HX2.out; omega
              have d1' := D1.out
              have hj45 : ji45 = x17_2 - 1 := by rw [← hji45]; exact w64 _ (by omega)
              obtain ⟨x0_2, hx02⟩ : ∃ l, l = p ++ (x1 ++ ((s3 ++ [d]) ++ (c :: (s2 ++ q)))) := ⟨_, rfl⟩
              have hx02l : (x0_2.length : Int) = (l0.length : Int) := by rw [hx02, HL.out, HCY.out, HXS.out, HS.out.1]; simp; omega
              rw [← hx02] at HO_0
              have c46b0 : decide (0 ≤ ji45) = true := decide_eq_true (by omega)
              have c47b0 : decide (ji45 < (x0_2.length : Int)) = true := decide_eq_true (by rw [hx02l]; omega)
              have c48b0 : decide (0 ≤ x17_2) = true := decide_eq_true (by omega)
              have c49b0 : decide (x17_2 < (x0_2.length : Int)) = true := decide_eq_true (by rw [hx02l]; omega)
              obtain ⟨y127, hy127⟩ : ∃ y_ : List SV, y_ = (x0_2.set (x17_2 : Int).toNat (rdOf svNil x0_2 (ji45))) := ⟨_, rfl⟩
              have Ny127 := Aside0.mk hy127
              clear hy127
              obtain ⟨y128, hy128⟩ : ∃ y_ : List SV, y_ = (y127.set ((ji45) : Int).toNat (rdOf svNil x0_2 x17_2)) := ⟨_, rfl⟩
              have Ny128 := Aside0.mk hy128
              clear hy128
              have HX02 := Aside0.mk hx02
              have HJ45 := Aside0.mk hj45
              have HX17 := Aside0.mk hx17'
              have C44 := Aside0.mk c44
              have HX02L := Aside0.mk hx02l
              clear hx02 hj45 c44 hx17 hx17' hsl hx02l hx17m d1' b1 b2 b3 b4 b5
              try go_wp2
              have n0_ := Aside0.mk (Kd.R_drew HO_0.out)
              have n1_ := Aside0.mk (Kept.drew HK.out)
              have n2_ := Aside0.mk (below_drew1 HB.out)
              clear HO_0
              clear HK
              clear HB
              have HO_0 := n0_
              have HK := n1_
              have HB := n2_
              clear n0_ n1_ n2_
              obtain ⟨Ao53, co53, eo53⟩ := Kd.R_slice HO_0.out
              (first | subst eo53 | (injection eo53 with f1_ f2_ f3_; have f4_ := f1_.symm; have f5_ := f3_.symm; clear f1_ f2_ f3_; subst f4_; subst f5_))
              have p125 : 0 ≤ ((ji45) : Int) := of_decide_eq_true (by first | (with_reducible assumption) | assumption)
              have q125 : (ji45) < (x0_2.length : Int) := of_decide_eq_true (by first | (with_reducible assumption) | assumption)
              obtain ⟨ad125, e125, hx125_0⟩ := at_sv (Kd.R_reads' HO_0.out).2.2 (ji45) p125 q125
              cases e125
              replace p125 := eq_true p125
              replace q125 := eq_true q125
              have p126 : 0 ≤ (x17_2 : Int) := of_decide_eq_true (by first | (with_reducible assumption) | assumption)
              have q126 : x17_2 < (x0_2.length : Int) := of_decide_eq_true (by first | (with_reducible assumption) | assumption)
              obtain ⟨ad126, e126, hx126_0⟩ := at_sv (Kd.R_reads' HO_0.out).2.2 x17_2 p126 q126
              obtain rfl : ad125 = ad126 := (by injection e126)
              replace p126 := eq_true p126
              replace q126 := eq_true q126
              have p50 : 0 ≤ (x17_2 : Int) := of_decide_eq_true (by first | (with_reducible assumption) | assumption)
              have q50 : (x17_2 : Int) < ((x0_2.length : Int) : Int) := of_decide_eq_true (by first | (with_reducible assumption) | assumption)
              obtain ⟨go50, co50, eo50, gb50, gl50, cl50, HG50⟩ := Kd.R_form HO_0.out (by omega)
              (first | cases eo50 | (injection eo50 with ea_ en_ ec_; (first | subst ea_ | (injection ea_ with ea_; subst ea_)); subst ec_; clear en_))
              have GB50 := Aside0.mk gb50
              have GG50 := Aside0.mk HG50
              clear gb50 gl50 HG50
              have HMgo50 := Aside0.mk (show (P0_ go50 ∨ w.heap.size ≤ go50) from (HO_0.out.1 _ rfl))
              (first | simp only [add_plain] at hx125_0 | skip)
              (first | simp only [add_plain] at hx126_0 | skip)
              obtain ⟨hx50_0, hf50_0⟩ := Kd.R_celln svNil HO_0.out (x17_2 : Int) p50 q50
              replace p50 := eq_true p50
              replace q50 := eq_true q50
              have HP54 := Kd.R_putn HO_0.out (x17_2 : Int) (rdOf svNil x0_2 (ji45))
              rw [← Ny127.out] at HP54
              have HQ54 := Aside0.mk HP54
              clear HP54
              have p51 : 0 ≤ ((ji45) : Int) := of_decide_eq_true (by first | (with_reducible assumption) | assumption)
              have q51 : ((ji45) : Int) < ((x0_2.length : Int) : Int) := of_decide_eq_true (by first | (with_reducible assumption) | assumption)
              obtain ⟨hx51_0, hf51_0⟩ := Kd.R_celln svNil HQ54.out ((ji45) : Int) p51 q51
              replace p51 := eq_true p51
              replace q51 := eq_true q51
              have HP55 := Kd.R_putn HQ54.out ((ji45) : Int) (rdOf svNil x0_2 x17_2)
              rw [← Ny128.out] at HP55
              have HQ55 := Aside0.mk HP55
              clear HP55
              refine start_ (n := 18) (S := fun w' => w'.cell? ⟨go50, ((ji45)).toNat, none⟩ = some (encSV (rdOf svNil x0_2 (ji45))) ∧ w'.cell? ⟨go50, (x17_2).toNat, none⟩ = some (encSV (rdOf svNil x0_2 x17_2))) (ds := [15, 17]) #[false, false, false, false, false, false, false, false, false, false, false, false, false, false, false, false, false, false] (by kernel_rfl) rfl rfl ⟨hx125_0, hx126_0⟩ (fun hHeld => ?_); refine with_tabW slices_symMergeCmpFunc_int.tab23 slices_symMergeCmpFunc_int.bits23 (fun HT_ HW_ => ?_)
              generalize wr.drew = w52 at HO_0 HK HB GG50 HQ54 HQ55 hf50_0 hf51_0 hx125_0 hx126_0 hx50_0 hx51_0 hHeld ⊢
              refine pure_ (i := 0) (N := some 113) (v := ?_) (a' := ?_) #[true, false, false, false, false, false, false, false, false, false, false, false, false, false, false, false, false, false] rfl rfl (any_of HT_.out (by kernel_rfl)) (fun _ _ _ h => h) (Or.inl ⟨by rfl, ?_⟩) ?_ ?_
              rotate_left
              · intro w'
                go_simp
                with_reducible rfl
              rotate_left
              · simp only [Act.put, List.setIfInBounds_toArray, List.set_cons_zero, List.set_cons_succ, i64_w, i32_w]
                rfl
              refine pure_ (i := 1) (N := some 114) (v := ?_) (a' := ?_) #[true, true, false, false, false, false, false, false, false, false, false, false, false, false, false, false, false, false] rfl rfl (any_of HT_.out (by kernel_rfl)) (fun _ _ _ h => h) (Or.inl ⟨by rfl, ?_⟩) ?_ ?_
              rotate_left
              · intro w'
                go_simp
                with_reducible rfl
              rotate_left
              · simp only [Act.put, List.setIfInBounds_toArray, List.set_cons_zero, List.set_cons_succ, i64_w, i32_w]
                rfl
              refine pure_ (i := 2) (N := some 115) (v := ?_) (a' := ?_) #[true, true, true, false, false, false, false, false, false, false, false, false, false, false, false, false, false, false] rfl rfl (any_of HT_.out (by kernel_rfl)) (fun _ _ _ h => h) (Or.inl ⟨by rfl, ?_⟩) ?_ ?_
              rotate_left
              · intro w'
                go_simp
                with_reducible rfl
              rotate_left
              · simp only [Act.put, List.setIfInBounds_toArray, List.set_cons_zero, List.set_cons_succ, i64_w, i32_w]
                rfl
              refine pure_ (i := 3) (N := some 116) (v := ?_) (a' := ?_) #[true, true, true, true, false, false, false, false, false, false, false, false, false, false, false, false, false, false] rfl rfl (any_of HT_.out (by kernel_rfl)) (fun _ _ _ h => h) (Or.inl ⟨by rfl, ?_⟩) ?_ ?_
              rotate_left
              · intro w'
                go_simp
                with_reducible rfl
              rotate_left
              · simp only [Act.put, List.setIfInBounds_toArray, List.set_cons_zero, List.set_cons_succ, i64_w, i32_w]
                rfl
              refine pure_ (i := 4) (N := some 117) (v := ?_) (a' := ?_) #[true, true, true, true, true, false, false, false, false, false, false, false, false, false, false, false, false, false] rfl rfl (any_of HT_.out (by kernel_rfl)) (fun _ _ _ h => h) (Or.inl ⟨by rfl, ?_⟩) ?_ ?_
              rotate_left
              · intro w'
                go_simp
                with_reducible rfl
              rotate_left
              · simp only [Act.put, List.setIfInBounds_toArray, List.set_cons_zero, List.set_cons_succ, i64_w, i32_w]
                rfl
              refine pure_ (i := 5) (N := some 118) (v := ?_) (a' := ?_) #[true, true, true, true, true, true, false, false, false, false, false, false, false, false, false, false, false, false] rfl rfl (any_of HT_.out (by kernel_rfl)) (fun _ _ _ h => h) (Or.inl ⟨by rfl, ?_⟩) ?_ ?_
              rotate_left
              · intro w'
                go_simp
                with_reducible rfl
              rotate_left
              · simp only [Act.put, List.setIfInBounds_toArray, List.set_cons_zero, List.set_cons_succ, i64_w, i32_w]
                rfl
              refine pure_ (i := 6) (N := some 119) (v := ?_) (a' := ?_) #[true, true, true, true, true, true, true, false, false, false, false, false, false, false, false, false, false, false] rfl rfl (any_of HT_.out (by kernel_rfl)) (fun _ _ _ h => h) (Or.inl ⟨by rfl, ?_⟩) ?_ ?_
              rotate_left
              · intro w'
                go_simp
                with_reducible rfl
              rotate_left
              · simp only [Act.put, List.setIfInBounds_toArray, List.set_cons_zero, List.set_cons_succ, i64_w, i32_w]
                rfl
              refine pure_ (i := 7) (N := some 120) (v := ?_) (a' := ?_) #[true, true, true, true, true, true, true, true, false, false, false, false, false, false, false, false, false, false] rfl rfl (any_of HT_.out (by kernel_rfl)) (fun _ _ _ h => h) (Or.inl ⟨by rfl, ?_⟩) ?_ ?_
              rotate_left
              · intro w'
                go_simp
                with_reducible rfl
              rotate_left
              · simp only [Act.put, List.setIfInBounds_toArray, List.set_cons_zero, List.set_cons_succ, i64_w, i32_w]
                rfl
              refine pure_ (i := 8) (N := some 121) (v := ?_) (a' := ?_) #[true, true, true, true, true, true, true, true, true, false, false, false, false, false, false, false, false, false] rfl rfl (any_of HT_.out (by kernel_rfl)) (fun _ _ _ h => h) (Or.inl ⟨by rfl, ?_⟩) ?_ ?_
              rotate_left
              · intro w'
                go_simp
                with_reducible rfl
              rotate_left
              · simp only [Act.put, List.setIfInBounds_toArray, List.set_cons_zero, List.set_cons_succ, i64_w, i32_w]
                rfl
              refine pure_ (i := 10) (N := some 123) (v := ?_) (a' := ?_) #[true, true, true, true, true, true, true, true, true, false, true, false, false, false, false, false, false, false] rfl rfl (any_of HT_.out (by kernel_rfl)) (fun _ _ _ h => h) (Or.inl ⟨by rfl, ?_⟩) ?_ ?_
              rotate_left
              · intro w'
                go_simp
                with_reducible rfl
              rotate_left
              · simp only [Act.put, List.setIfInBounds_toArray, List.set_cons_zero, List.set_cons_succ, i64_w, i32_w]
                rfl
              refine pure_ (i := 11) (N := some 124) (v := ?_) (a' := ?_) #[true, true, true, true, true, true, true, true, true, false, true, true, false, false, false, false, false, false] rfl rfl (any_of HT_.out (by kernel_rfl)) (fun _ _ _ h => h) (Or.inl ⟨by rfl, ?_⟩) ?_ ?_
              rotate_left
              · intro w'
                go_simp
                with_reducible rfl
              rotate_left
              · simp only [Act.put, List.setIfInBounds_toArray, List.set_cons_zero, List.set_cons_succ, i64_w, i32_w]
                rfl
              refine pure_ (i := 12) (N := some 125) (v := ?_) (a' := ?_) #[true, true, true, true, true, true, true, true, true, false, true, true, true, false, false, false, false, false] rfl rfl (any_of HT_.out (by kernel_rfl)) (fun _ _ _ h => h) (Or.inl ⟨by rfl, ?_⟩) ?_ ?_
              rotate_left
              · intro w'
                go_simp
                with_reducible rfl
              rotate_left
              · simp only [Act.put, List.setIfInBounds_toArray, List.set_cons_zero, List.set_cons_succ, i64_w, i32_w]
                rfl
              refine take_ (i := 9) (N := some 122) (v := ?_) (a' := ?_) #[true, true, true, true, true, true, true, true, true, true, true, true, true, false, false, false, false, false] rfl rfl (take_ofW HT_.out HW_.out (by kernel_rfl)) (fun _ _ _ h => h) (Or.inl ⟨by rfl, ?_⟩) hHeld ?_ ?_
              rotate_left
              · rintro w' ⟨s0, s1⟩
                go_simp
                with_reducible rfl
              rotate_left
              · simp only [Act.put, List.setIfInBounds_toArray, List.set_cons_zero, List.set_cons_succ, i64_w, i32_w]
                rfl
              refine take_ (i := 13) (N := some 126) (v := ?_) (a' := ?_) #[true, true, true, true, true, true, true, true, true, true, true, true, true, true, false, false, false, false] rfl rfl (take_ofW HT_.out HW_.out (by kernel_rfl)) (fun _ _ _ h => h) (Or.inl ⟨by rfl, ?_⟩) hHeld ?_ ?_
              rotate_left
              · rintro w' ⟨s0, s1⟩
                go_simp
                with_reducible rfl
              rotate_left
              · simp only [Act.put, List.setIfInBounds_toArray, List.set_cons_zero, List.set_cons_succ, i64_w, i32_w]
                rfl
              refine pure_ (i := 14) (N := some 127) (v := ?_) (a' := ?_) #[true, true, true, true, true, true, true, true, true, true, true, true, true, true, true, false, false, false] rfl rfl (any_of HT_.out (by kernel_rfl)) (fun _ _ _ h => h) (Or.inl ⟨by rfl, ?_⟩) ?_ ?_
              rotate_left
              · intro w'
                go_simp
                with_reducible rfl
              rotate_left
              · simp only [Act.put, List.setIfInBounds_toArray, List.set_cons_zero, List.set_cons_succ, i64_w, i32_w]
                rfl
              refine last_ (i := 15) (N := none) #[true, true, true, true, true, true, true, true, true, true, true, true, true, true, true, true, false, false] rfl rfl (one_of HT_.out (by kernel_rfl)) (by decide) (fun K hK => ?_)
              refine skip_ (w1 := ?_) (by rfl) rfl ?_ ?_
              rotate_left
              · go_simp
                rfl
              refine hK.out _ _ ?_
              clear hK K
              refine pure_ (i := 16) (N := some 128) (v := ?_) (a' := ?_) #[true, true, true, true, true, true, true, true, true, true, true, true, true, true, true, true, true, false] rfl rfl (any_of HT_.out (by kernel_rfl)) (fun _ _ _ h => h) (Or.inl ⟨by rfl, ?_⟩) ?_ ?_
              rotate_left
              · intro w'
                go_simp
                with_reducible rfl
              rotate_left
              · simp only [Act.put, List.setIfInBounds_toArray, List.set_cons_zero, List.set_cons_succ, i64_w, i32_w]
                rfl
              refine last_ (i := 17) (N := none) #[true, true, true, true, true, true, true, true, true, true, true, true, true, true, true, true, true, true] rfl rfl (one_of HT_.out (by kernel_rfl)) (by decide) (fun K hK => ?_)
              refine skip_ (w1 := ?_) (by rfl) rfl ?_ ?_
              rotate_left
              · go_simp
                rfl
              refine hK.out _ _ ?_
              clear hK K
              refine done_ (done_of HT_.out (by kernel_rfl)) ?_
              try go_wp2
              go_roundg k2
              case measure => exact Nat.lt_succ_self _
              case rel => exact ⟨ji45, s3, d :: s2, (by first | rfl | (simp; done) | (simp only [← hji45] <;> (first | rfl | simp)) | (simp [*]; done)), ⟨by have := HA2.out; have := HJ45.out; have := C44.out; omega⟩, ⟨by rw [HS.out.1]; simp, by have := HJ45.out; have := HX17.out; omega⟩, ⟨by
                have ey : y128 = p ++ (x1 ++ (s3 ++ (c :: ((d :: s2) ++ q)))) := by
                  rw [Ny128.out, Ny127.out, HX02.out]
                  have e1 : p ++ (x1 ++ ((s3 ++ [d]) ++ (c :: (s2 ++ q)))) = (p ++ (x1 ++ s3)) ++ d :: c :: (s2 ++ q) := by simp
                  have hA : rdOf svNil ((p ++ (x1 ++ s3)) ++ d :: c :: (s2 ++ q)) ji45 = d := rd_at _ _ _ _ (by have := HX17.out; have := H1.out; have := HX1.out; have := HJ45.out; simp; omega)
                  have hB : rdOf svNil ((p ++ (x1 ++ s3)) ++ d :: c :: (s2 ++ q)) x17_2 = c := rd_snd _ _ _ _ _ (by have := HX17.out; have := H1.out; have := HX1.out; simp; omega)
                  rw [e1, hA, hB, (swap_adj (p ++ (x1 ++ s3)) d c (s2 ++ q) ji45 x17_2 (by have := HX17.out; have := H1.out; have := HX1.out; have := HJ45.out; simp; omega) (by have := HX17.out; have := H1.out; have := HX1.out; simp; omega)).1]
                  simp
                have hq := HQ55.out
                rw [← ey]
                with_reducible repeat (first | apply Kd.R_alloc | apply Kd.R_drewN | apply Kd.R_drew)
                exact hq⟩, ⟨by repeat (first | (with_reducible first | exact HK.out | apply Kept.alloc | apply Kept.drewN | apply Kept.drew | refine Kept.setCell ?_ HMgo50.out _) | exact HK.out)⟩, ⟨by repeat (first | (with_reducible first | exact HB.out | apply below_alloc | apply pw_below_drewN | apply below_drew1 | refine below_set ?_ GB50.out) | exact HB.out)⟩⟩
            · have c44b0 : decide (x15_1 < x17_2) = false := decide_eq_false c44
              have hs1 : s1 = [] := List.eq_nil_of_length_eq_zero (by omega)
              subst hs1
              clear hx17 hsl c44 b1 b2 b3 b4 b5
              try go_wp2
              first | go_end0 | ((try simp only [Exit.inBlock, Exit.then]); refine bodyPost_ret (results_none rfl _ _ _) rfl ?_)
              refine ⟨by first | rfl | (simp [errW_none, errW_some] <;> rfl), ⟨x1 ++ c :: x2, ?_, ?_, ?_⟩, ?_, ?_⟩
              · rw [HCY.out, HXS.out]; exact (List.perm_middle).trans ((List.perm_append_singleton c (x1 ++ x2)).symm)
              · intro hd _; exact HDD.out hd
              · have h := HO_0.out
                have e1 : p ++ (x1 ++ ([] ++ (c :: (s2 ++ q)))) = p ++ ((x1 ++ c :: x2) ++ q) := by rw [HS.out.1]; simp
                rw [e1] at h
                (with_reducible repeat (first | apply Kd.R_alloc | apply Kd.R_drewN | apply Kd.R_drew)); exact h
              · repeat (first | (with_reducible first | exact HB.out | apply below_alloc | apply pw_below_drewN | apply below_drew1) | exact HB.out)
              · repeat (first | (with_reducible first | exact HK.out | apply Kept.alloc | apply Kept.drewN | apply Kept.drew) | exact HK.out)
end Go.Proofs.YtnibognblomfeaaGreatDoor.SM
