/- slices.stableCmpFunc and slices.SortStableFunc over slice values. Written by stgen.py. slices.SortStableFunc over lists of lists, the longest first. -/
import Derived.Test.YtnibognblomfeaaGreatDoorSMA
import Derived.Test.YtnibognblomfeaaGreatDoorSMB
import Derived.Test.YtnibognblomfeaaGreatDoorSMC
import Derived.Test.YtnibognblomfeaaGreatDoorCK
namespace Go.Proofs.YtnibognblomfeaaGreatDoor.ST
open Go.RowKit Go.Proofs.YtnibognblomfeaaGreatDoorW.PrintWords Go.Proofs.YtnibognblomfeaaGreatDoorW.PrintLast Go.Proofs.YtnibognblomfeaaGreatDoorW.PrintMore Go.Proofs.YtnibognblomfeaaGreatDoor.PSort Go.Proofs.YtnibognblomfeaaGreatDoor.SP Go.Proofs.YtnibognblomfeaaGreatDoor.SM
set_option linter.unusedVariables false
set_option linter.unusedSimpArgs false
theorem sm_all : ∀ n, SMAll n := by
  intro n
  induction n with
  | zero =>
    intro P0_ u9000_ p x y q l0 a1 a2 a3 w0 w hB ho0 hl0 hn hx
    have := List.length_pos_iff.mpr hx
    omega
  | succ n ih =>
    intro P0_ u9000_ p x y q l0 a1 a2 a3 w0 w hB ho0 hl0 hn hx hy h1 h2 h3 hlen hsm
    by_cases c6 : a2 - a1 = 1
    · exact smA (n + 1) P0_ u9000_ p x y q l0 a1 a2 a3 w0 w hB ho0 hl0 hn hx hy h1 h2 h3 hlen hsm c6
    · by_cases c31 : a3 - a2 = 1
      · exact smB (n + 1) P0_ u9000_ p x y q l0 a1 a2 a3 w0 w hB ho0 hl0 hn hx hy h1 h2 h3 hlen hsm c6 c31
      · exact smC (n + 1) P0_ u9000_ p x y q l0 a1 a2 a3 w0 w hB ho0 hl0 hn hx hy h1 h2 h3 hlen hsm c6 c31 ih
theorem sm_calls (P0_ : Nat → Prop) (u9000_ : Value) (p x y q l0 : List SV) (a1 a2 a3 : Int) (w0 w : World) (hB : Below w0.heap.size w0 w) (ho0 : Kd.R Kdsv 22 w w0.heap.size P0_ u9000_ l0) (hl0 : l0 = p ++ (x ++ (y ++ q))) (hx : x ≠ []) (hy : y ≠ []) (h1 : a1 = (p.length : Int)) (h2 : a2 = a1 + x.length) (h3 : a3 = a2 + y.length) (hlen : l0.length ≤ 1000000) (hsm : Small l0) :
    Calls Tryz.prog 35 #[u9000_, .int .i64 a1, .int .i64 a2, .int .i64 a3, .func (.func 17) #[] #[]] w fun e w' => e = .returned (.tuple #[]) ∧ (∃ z : List SV, z.Perm (x ++ y) ∧ (Desc x → Desc y → Desc z) ∧ Kd.R Kdsv 22 w' w0.heap.size (fun k_ => (P0_ k_ ∨ w.heap.size ≤ k_)) u9000_ (p ++ (z ++ q))) ∧ Below w0.heap.size w0 w' ∧ Kept w w' (fun k_ => P0_ k_) :=
  sm_all (x.length + y.length) P0_ u9000_ p x y q l0 a1 a2 a3 w0 w hB ho0 hl0 (Nat.le_refl _) hx hy h1 h2 h3 hlen hsm
/-- Full blocks, each in order. -/
inductive BlF (bs : Nat) : List SV → Prop
  | nil : BlF bs []
  | snoc {p z : List SV} : BlF bs p → z.length = bs → Desc z → BlF bs (p ++ z)
/-- Blocks in order, the last of which may be short. -/
inductive Bl (bs : Nat) : List SV → Prop
  | last {x : List SV} : x.length ≤ bs → Desc x → Bl bs x
  | cons {x q : List SV} : x.length = bs → Desc x → Bl bs q → Bl bs (x ++ q)
theorem BlF.app {bs : Nat} {p : List SV} (h : BlF bs p) : ∀ q, Bl bs q → Bl bs (p ++ q) := by
  induction h with
  | nil => intro q hq; exact hq
  | snoc hp hz hd ih =>
    intro q hq
    rw [List.append_assoc]
    exact ih _ (Bl.cons hz hd hq)
theorem Bl.two {bs : Nat} {q : List SV} (h : Bl bs q) (hb : 0 < bs) (hl : 2 * bs ≤ q.length) : ∃ x y q', q = x ++ (y ++ q') ∧ x.length = bs ∧ y.length = bs ∧ Desc x ∧ Desc y ∧ Bl bs q' := by
  cases h with
  | last h1 _ => omega
  | @cons x q1 h1 h2 h3 =>
    rw [List.length_append] at hl
    cases h3 with
    | last h4 h5 => exact ⟨x, q1, [], by simp, h1, by omega, h2, h5, .last (by simp) .nil⟩
    | @cons y q2 h4 h5 h6 => exact ⟨x, y, q2, rfl, h1, h4, h2, h5, h6⟩
theorem Bl.mid {bs : Nat} {q : List SV} (h : Bl bs q) (h1 : bs < q.length) (h2 : q.length < 2 * bs) : ∃ x y, q = x ++ y ∧ x.length = bs ∧ Desc x ∧ Desc y := by
  cases h with
  | last h1' _ => omega
  | @cons x q1 g1 g2 g3 =>
    rw [List.length_append] at h1 h2
    cases g3 with
    | last h4 h5 => exact ⟨x, q1, rfl, g1, g2, h5⟩
    | @cons y q2 h4 h5 h6 => rw [List.length_append] at h2; omega
theorem Bl.short {bs : Nat} {q : List SV} (h : Bl bs q) (h1 : q.length ≤ bs) (hb : 0 < bs) : Desc q := by
  cases h with
  | last _ h => exact h
  | @cons x q1 g1 g2 g3 =>
    rw [List.length_append] at h1
    have : q1 = [] := List.eq_nil_of_length_eq_zero (by omega)
    subst this
    simpa using g2
theorem Perm.ins {p z x q l : List SV} (h : (p ++ (x ++ q)).Perm l) (hz : z.Perm x) : (p ++ (z ++ q)).Perm l := ((List.Perm.append_left _ (hz.append_right _))).trans h
set_option maxHeartbeats 16000000 in
set_option maxRecDepth 100000 in
theorem st_calls (P0_ : Nat → Prop) (u9000_ : Value) (l0 : List SV) (a1 : Int) (w0 w : World) (hB : Below w0.heap.size w0 w) (ho0 : Kd.R Kdsv 22 w w0.heap.size P0_ u9000_ l0) (h1 : a1 = (l0.length : Int)) (hlen : l0.length ≤ 100000) (hsm : Small l0) :
    Calls Tryz.prog 25 #[u9000_, .int .i64 a1, .func (.func 17) #[] #[]] w fun e w' => e = .returned (.tuple #[]) ∧ (∃ z : List SV, z.Perm l0 ∧ Desc z ∧ Kd.R Kdsv 22 w' w0.heap.size (fun k_ => (P0_ k_ ∨ w.heap.size ≤ k_)) u9000_ z) ∧ Below w0.heap.size w0 w' ∧ Kept w w' (fun k_ => P0_ k_) := by
  have HO_0 := Aside0.mk (show Kd.R Kdsv 22 w w0.heap.size (fun k_ => (P0_ k_ ∨ w.heap.size ≤ k_)) u9000_ l0 from Kd.R_mono ho0 (fun k_ hk => (.inl hk)))
  have HK := Aside0.mk (Kept.refl w (fun k_ => P0_ k_))
  have HB := Aside0.mk hB
  obtain ⟨Ao, co, eo⟩ := Kd.R_slice ho0
  obtain ⟨N, hN⟩ : ∃ N, N = l0.length := ⟨_, rfl⟩
  rw [← hN] at eo
  subst eo
  have H1 := Aside0.mk (show a1 = (l0.length : Int) ∧ l0.length ≤ 100000 from ⟨h1, hlen⟩)
  have HSM := Aside0.mk hsm
  clear hB ho0 hN h1 hlen hsm
  obtain ⟨K, hK⟩ : ∃ K, K = l0.length + 1 := ⟨_, rfl⟩
  have HKK := Aside0.mk hK
  clear hK
  go_enter Tryz.func25, Tryz.ntmps25
  go_wp2
  go_loopg [7, 8] K (fun kq v7 v8 w' => ∃ (pf qf : List SV) (x7 x8 : Int), v7 = .int .i64 x7 ∧ v8 = .int .i64 x8 ∧ Aside0 (x7 = (pf.length : Int) ∧ x8 = x7 + 20 ∧ BlF 20 pf ∧ (pf ++ qf).Perm l0 ∧ qf.length < kq) ∧ Aside0 (Kd.R Kdsv 22 w' w0.heap.size (fun k_ => (P0_ k_ ∨ w.heap.size ≤ k_)) (.slice Ao N co) (pf ++ qf)) ∧ Aside0 (Kept w w' (fun k_ => P0_ k_)) ∧ Aside0 (Below w0.heap.size w0 w'))
  case atStart => exact ⟨[], l0, 0, 20, (by first | rfl | (simp; done)), (by first | rfl | (simp; done)), ⟨rfl, rfl, .nil, List.Perm.refl _, by rw [HKK.out]; omega⟩, HO_0, HK, HB⟩
  case round =>
    clear HO_0 HK HB
    obtain ⟨pf, qf, x7, x8, rfl, rfl, HA, HO_0, HK, HB⟩ := hrel
    have hpl : pf.length + qf.length = l0.length := by rw [← HA.out.2.2.2.1.length_eq, List.length_append]
    have hx7 := HA.out.1
    have hx8 := HA.out.2.1
    have h1 := H1.out
    obtain ⟨k1, rfl⟩ : ∃ k1, gk = k1 + 1 := ⟨gk - 1, by have := HA.out.2.2.2.2; omega⟩
    by_cases c4 : x8 ≤ a1
    · have c4b0 : decide (x8 ≤ a1) = true := decide_eq_true c4
      obtain ⟨x1, q1, rfl, hx1⟩ : ∃ x1 q1, qf = x1 ++ q1 ∧ x1.length = 20 := ⟨qf.take 20, qf.drop 20, (List.take_append_drop _ _).symm, by simp; omega⟩
      rw [List.length_append] at hpl
      obtain ⟨z, hz1, hz2, ki, hz3⟩ := ins_f pf x1 q1 x7 x8 hx7 (by omega) (by simp; omega) (HSM.out.perm HA.out.2.2.2.1)
      have hw8 : wrap64 (x8 + 20) = x8 + 20 := w64 _ (by omega)
      have HF := Aside0.mk (show BlF 20 (pf ++ z) ∧ ((pf ++ z) ++ q1).Perm l0 ∧ x8 = ((pf ++ z).length : Int) ∧ q1.length < k1 from ⟨.snoc HA.out.2.2.1 (by rw [hz1.length_eq]; exact hx1) hz2, by
        have := Perm.ins HA.out.2.2.2.1 hz1
        simpa using this, by rw [List.length_append, hz1.length_eq]; omega, by have := HA.out.2.2.2.2; rw [List.length_append] at this; omega⟩)
      have HZ := Aside0.mk hz3
      clear hz3 hz1 hz2 hx1 hpl hx7 hx8 h1 c4
      go_wp2_with (first | ((with_reducible refine gate_callee (f := 34) rfl ?_); refine goesL_ (some 18) rfl rfl Tryz.func34 (by kernel_rfl) rfl #[.slice Ao N co, .int .i64 x7, .int .i64 x8, .func (.func 17) #[] #[]] rfl (by (try simp only [List.map_toArray, List.map_cons, List.map_nil]); first | done | rfl) ?_; (with_reducible refine (slices_insertionSortCmpFunc_int.calls ki (fun k_ => some k_ = (.slice Ao N co : Value).ownBlock) (.slice Ao N co) _ x7 x8 true _ w0 _ ?side1 ?side2 HZ.out).mono ?_); (case side1 => repeat (first | (with_reducible first | exact HB.out | apply below_alloc | apply pw_below_drewN | apply below_drew1) | exact HB.out)); (case side2 => exact Kd.R_tight rfl HO_0.out); rintro e w77 ⟨rfl, hy0, hb, hkp⟩; refine ⟨_, rfl, ?_⟩; have n0_ := Aside0.mk (Kd.R_reok rfl hy0 (fun k_ e_ => HO_0.out.1 k_ e_)); have n1_ := Aside0.mk (Kept.then_ (S := (fun k_ => P0_ k_)) (by repeat (first | (with_reducible first | exact HK.out | apply Kept.alloc | apply Kept.drewN | apply Kept.drew) | exact HK.out)) hkp (fun k_ hs_ => (fun e_ => (HO_0.out.1 k_ e_.symm)) hs_)); have n2_ := Aside0.mk (hb); clear HO_0; clear HK; clear HB; have HO_0 := n0_; have HK := n1_; have HB := n2_; clear n0_ n1_ n2_ hb hkp hy0))
      go_roundg k1
      case measure => exact Nat.lt_succ_self _
      case rel => exact ⟨pf ++ z, q1, x8, x8 + 20, (by first | rfl | (simp; done)), (by first | rfl | (simp [hw8]; done)), ⟨HF.out.2.2.1, rfl, HF.out.1, HF.out.2.1, HF.out.2.2.2⟩, ⟨by
        rw [List.append_assoc]
        (with_reducible repeat (first | apply Kd.R_alloc | apply Kd.R_drewN | apply Kd.R_drew)); exact HO_0.out⟩, ⟨by repeat (first | (with_reducible first | exact HK.out | apply Kept.alloc | apply Kept.drewN | apply Kept.drew) | exact HK.out)⟩, ⟨by repeat (first | (with_reducible first | exact HB.out | apply below_alloc | apply pw_below_drewN | apply below_drew1) | exact HB.out)⟩⟩
    · have c4b0 : decide (x8 ≤ a1) = false := decide_eq_false c4
      obtain ⟨z, hz1, hz2, ki, hz3⟩ := ins_f pf qf [] x7 a1 hx7 (by omega) (by simp; omega) (by simpa using HSM.out.perm HA.out.2.2.2.1)
      rw [List.append_nil, List.append_nil] at hz3
      have HF := Aside0.mk (show Bl 20 (pf ++ z) ∧ (pf ++ z).Perm l0 from ⟨HA.out.2.2.1.app _ (.last (by rw [hz1.length_eq]; omega) hz2), (List.Perm.append_left _ hz1).trans HA.out.2.2.2.1⟩)
      have HZ := Aside0.mk hz3
      clear hz3 hz1 hz2 hpl hx7 hx8 h1 c4
      obtain ⟨K2, hK2⟩ : ∃ K, K = l0.length + 1 := ⟨_, rfl⟩
      have HKK2 := Aside0.mk hK2
      clear hK2
      go_wp2_with (first | ((with_reducible refine gate_callee (f := 34) rfl ?_); refine goesL_ (some 27) rfl rfl Tryz.func34 (by kernel_rfl) rfl #[.slice Ao N co, .int .i64 x7, .int .i64 a1, .func (.func 17) #[] #[]] rfl (by (try simp only [List.map_toArray, List.map_cons, List.map_nil]); first | done | rfl) ?_; (with_reducible refine (slices_insertionSortCmpFunc_int.calls ki (fun k_ => some k_ = (.slice Ao N co : Value).ownBlock) (.slice Ao N co) _ x7 a1 true _ w0 _ ?side1 ?side2 HZ.out).mono ?_); (case side1 => repeat (first | (with_reducible first | exact HB.out | apply below_alloc | apply pw_below_drewN | apply below_drew1) | exact HB.out)); (case side2 => exact Kd.R_tight rfl HO_0.out); rintro e w77 ⟨rfl, hy0, hb, hkp⟩; refine ⟨_, rfl, ?_⟩; have n0_ := Aside0.mk (Kd.R_reok rfl hy0 (fun k_ e_ => HO_0.out.1 k_ e_)); have n1_ := Aside0.mk (Kept.then_ (S := (fun k_ => P0_ k_)) (by repeat (first | (with_reducible first | exact HK.out | apply Kept.alloc | apply Kept.drewN | apply Kept.drew) | exact HK.out)) hkp (fun k_ hs_ => (fun e_ => (HO_0.out.1 k_ e_.symm)) hs_)); have n2_ := Aside0.mk (hb); clear HO_0; clear HK; clear HB; have HO_0 := n0_; have HK := n1_; have HB := n2_; clear n0_ n1_ n2_ hb hkp hy0))
      simp only [Act.put, List.setIfInBounds_toArray, List.set_cons_zero, List.set_cons_succ]
      go_loopg [6] K2 (fun kq v6 w' => ∃ (X : List SV) (x6 : Int) (bs : Nat), v6 = .int .i64 x6 ∧ Aside0 (x6 = (bs : Int) ∧ 0 < bs ∧ Bl bs X ∧ X.Perm l0 ∧ l0.length < kq + bs) ∧ Aside0 (Kd.R Kdsv 22 w' w0.heap.size (fun k_ => (P0_ k_ ∨ w.heap.size ≤ k_)) (.slice Ao N co) (X)) ∧ Aside0 (Kept w w' (fun k_ => P0_ k_)) ∧ Aside0 (Below w0.heap.size w0 w'))
      case atStart => exact ⟨pf ++ z, 20, 20, (by first | rfl | (simp; done)), ⟨rfl, by omega, HF.out.1, HF.out.2, by rw [HKK2.out]; omega⟩, ⟨by (with_reducible repeat (first | apply Kd.R_alloc | apply Kd.R_drewN | apply Kd.R_drew)); exact HO_0.out⟩, ⟨by repeat (first | (with_reducible first | exact HK.out | apply Kept.alloc | apply Kept.drewN | apply Kept.drew) | exact HK.out)⟩, ⟨by repeat (first | (with_reducible first | exact HB.out | apply below_alloc | apply pw_below_drewN | apply below_drew1) | exact HB.out)⟩⟩
      case round =>
        clear HO_0 HK HB HA HF HZ
        obtain ⟨X, x6, bs, rfl, HA, HO_0, HK, HB⟩ := hrel
        have h1 := H1.out
        have hx6 := HA.out.1
        have hXl := HA.out.2.2.2.1.length_eq
        by_cases c11 : x6 < a1
        · have c11b0 : decide (x6 < a1) = true := decide_eq_true c11
          obtain ⟨k2, rfl⟩ : ∃ k2, gk = k2 + 1 := ⟨gk - 1, by have := HA.out.2.2.2.2; omega⟩
          have hw2 : wrap64 (2 * x6) = 2 * x6 := w64 _ (by omega)
          have hw2' : wrap64 (x6 * 2) = 2 * x6 := by rw [w64 _ (by omega)]; omega
          have C11 := Aside0.mk c11
          have HW2 := Aside0.mk hw2'
          have HW2B := Aside0.mk hw2
          obtain ⟨K3, hK3⟩ : ∃ K, K = l0.length + 1 := ⟨_, rfl⟩
          have HKK3 := Aside0.mk hK3
          clear hK3 c11 hw2' hw2 h1 hx6 hXl
          go_wp2
          go_loopg [7, 8] K3 (fun kq v7 v8 w' => ∃ (pf qf : List SV) (x7 x8 : Int), v7 = .int .i64 x7 ∧ v8 = .int .i64 x8 ∧ Aside0 (x7 = (pf.length : Int) ∧ x8 = x7 + 2 * x6 ∧ BlF (2 * bs) pf ∧ Bl bs qf ∧ (pf ++ qf).Perm l0 ∧ qf.length < kq) ∧ Aside0 (Kd.R Kdsv 22 w' w0.heap.size (fun k_ => (P0_ k_ ∨ w.heap.size ≤ k_)) (.slice Ao N co) (pf ++ qf)) ∧ Aside0 (Kept w w' (fun k_ => P0_ k_)) ∧ Aside0 (Below w0.heap.size w0 w'))
          case atStart => exact ⟨[], X, 0, 2 * x6, (by first | rfl | (simp; done)), (by first | rfl | (simp [HW2B.out]; done)), ⟨rfl, by omega, .nil, HA.out.2.2.1, HA.out.2.2.2.1, by rw [HKK3.out, HA.out.2.2.2.1.length_eq]; omega⟩, ⟨by (with_reducible repeat (first | apply Kd.R_alloc | apply Kd.R_drewN | apply Kd.R_drew)); exact HO_0.out⟩, ⟨by repeat (first | (with_reducible first | exact HK.out | apply Kept.alloc | apply Kept.drewN | apply Kept.drew) | exact HK.out)⟩, ⟨by repeat (first | (with_reducible first | exact HB.out | apply below_alloc | apply pw_below_drewN | apply below_drew1) | exact HB.out)⟩⟩
          case round =>
            clear HO_0 HK HB
            obtain ⟨pf, qf, x7, x8, rfl, rfl, HC, HO_0, HK, HB⟩ := hrel
            have h1 := H1.out
            have hx6 := HA.out.1
            have hb0 := HA.out.2.1
            have hx7 := HC.out.1
            have hx8 := HC.out.2.1
            have c11 := C11.out
            have hpl : pf.length + qf.length = l0.length := by rw [← HC.out.2.2.2.2.1.length_eq, List.length_append]
            have hm : wrap64 (x7 + x6) = x7 + x6 := w64 _ (by omega)
            by_cases c12 : x8 ≤ a1
            · have c12b0 : decide (x8 ≤ a1) = true := decide_eq_true c12
              obtain ⟨k3, rfl⟩ : ∃ k3, gk = k3 + 1 := ⟨gk - 1, by have := HC.out.2.2.2.2.2; omega⟩
              obtain ⟨x1, y1, q1, hq, hx1, hy1, dx1, dy1, hq1⟩ := HC.out.2.2.2.1.two hb0 (by omega)
              subst hq
              simp only [List.length_append] at hpl
              have hargs : (pf ++ (x1 ++ (y1 ++ q1)) = pf ++ (x1 ++ (y1 ++ q1))) ∧ x1 ≠ [] ∧ y1 ≠ [] ∧ x7 = (pf.length : Int) ∧ wrap64 (x7 + x6) = x7 + x1.length ∧ x8 = wrap64 (x7 + x6) + y1.length ∧ (pf ++ (x1 ++ (y1 ++ q1))).length ≤ 1000000 ∧ Small (pf ++ (x1 ++ (y1 ++ q1))) :=
                ⟨rfl, by intro e; subst e; simp at hx1; omega, by intro e; subst e; simp at hy1; omega, hx7, by rw [hm]; omega, by rw [hm]; omega, by simp only [List.length_append]; omega, HSM.out.perm HC.out.2.2.2.2.1⟩
              have HARG := Aside0.mk hargs
              have hw8 : wrap64 (x8 + wrap64 (2 * x6)) = x8 + 2 * x6 := by rw [HW2B.out]; exact w64 _ (by omega)
              have hw8' : wrap64 (x8 + 2 * x6) = x8 + 2 * x6 := w64 _ (by omega)
              have HD := Aside0.mk (show Desc x1 ∧ Desc y1 ∧ Bl bs q1 ∧ x1.length = bs ∧ y1.length = bs from ⟨dx1, dy1, hq1, hx1, hy1⟩)
              have HP := Aside0.mk hpl
              clear hargs dx1 dy1 hq1 hx1 hy1 hpl c12 hm h1 hx6 hb0 hx7 hx8 c11
              go_wp2_with (first | ((with_reducible refine gate_callee (f := 35) rfl ?_); refine goesL_ (some 43) rfl rfl Tryz.func35 (by kernel_rfl) rfl #[.slice Ao N co, .int .i64 x7, .int .i64 (wrap64 (x7 + x6)), .int .i64 x8, .func (.func 17) #[] #[]] rfl (by (try simp only [List.map_toArray, List.map_cons, List.map_nil]); first | done | rfl) ?_; (with_reducible refine (sm_calls (fun k_ => some k_ = (.slice Ao N co : Value).ownBlock) (.slice Ao N co) pf x1 y1 q1 _ x7 (wrap64 (x7 + x6)) x8 w0 _ ?side1 ?side2 HARG.out.1 HARG.out.2.1 HARG.out.2.2.1 HARG.out.2.2.2.1 HARG.out.2.2.2.2.1 HARG.out.2.2.2.2.2.1 HARG.out.2.2.2.2.2.2.1 HARG.out.2.2.2.2.2.2.2).mono ?_); (case side1 => repeat (first | (with_reducible first | exact HB.out | apply below_alloc | apply pw_below_drewN | apply below_drew1) | exact HB.out)); (case side2 => exact Kd.R_tight rfl HO_0.out); rintro e w77 ⟨rfl, ⟨z, hz1, hz2, hy0⟩, hb, hkp⟩; refine ⟨_, rfl, ?_⟩; have n0_ := Aside0.mk (Kd.R_reok rfl hy0 (fun k_ e_ => HO_0.out.1 k_ e_)); have n1_ := Aside0.mk (Kept.then_ (S := (fun k_ => P0_ k_)) (by repeat (first | (with_reducible first | exact HK.out | apply Kept.alloc | apply Kept.drewN | apply Kept.drew) | exact HK.out)) hkp (fun k_ hs_ => (fun e_ => (HO_0.out.1 k_ e_.symm)) hs_)); have n2_ := Aside0.mk (hb); clear HO_0; clear HK; clear HB; have HO_0 := n0_; have HK := n1_; have HB := n2_; clear n0_ n1_ n2_ hb hkp hy0))
              go_roundg k3
              case measure => exact Nat.lt_succ_self _
              case rel =>
                have hzl : z.length = 2 * bs := by rw [hz1.length_eq, List.length_append]; have := HD.out; omega
                refine ⟨pf ++ z, q1, x8, x8 + 2 * x6, (by first | rfl | (simp; done)), (by first | rfl | (simp [hw8, hw8', HW2B.out]; done)), ⟨by have h3 := HARG.out.2.2.2.1; have h4 := HC.out.2.1; have h5 := HA.out.1; rw [List.length_append]; omega, rfl, .snoc HC.out.2.2.1 hzl (hz2 HD.out.1 HD.out.2.1), HD.out.2.2.1, ?_, ?_⟩, ⟨by
                  rw [List.append_assoc]
                  (with_reducible repeat (first | apply Kd.R_alloc | apply Kd.R_drewN | apply Kd.R_drew)); exact HO_0.out⟩, ⟨by repeat (first | (with_reducible first | exact HK.out | apply Kept.alloc | apply Kept.drewN | apply Kept.drew) | exact HK.out)⟩, ⟨by repeat (first | (with_reducible first | exact HB.out | apply below_alloc | apply pw_below_drewN | apply below_drew1) | exact HB.out)⟩⟩
                · have h6 : (pf ++ ((x1 ++ y1) ++ q1)).Perm l0 := by simpa using HC.out.2.2.2.2.1
                  have := Perm.ins h6 hz1
                  simpa using this
                · have h7 := HC.out.2.2.2.2.2
                  have h8 := HA.out.2.1
                  have h9 := HD.out.2.2.2
                  simp only [List.length_append] at h7
                  omega
            · have c12b0 : decide (x8 ≤ a1) = false := decide_eq_false c12
              by_cases c15 : wrap64 (x7 + x6) < a1
              · have c15b0 : decide (wrap64 (x7 + x6) < a1) = true := decide_eq_true c15
                rw [hm] at c15
                obtain ⟨x1, y1, hq, hx1, dx1, dy1⟩ := HC.out.2.2.2.1.mid (by omega) (by omega)
                subst hq
                simp only [List.length_append] at hpl
                have hargs : (pf ++ (x1 ++ y1) = pf ++ (x1 ++ (y1 ++ []))) ∧ x1 ≠ [] ∧ y1 ≠ [] ∧ x7 = (pf.length : Int) ∧ wrap64 (x7 + x6) = x7 + x1.length ∧ a1 = wrap64 (x7 + x6) + y1.length ∧ (pf ++ (x1 ++ y1)).length ≤ 1000000 ∧ Small (pf ++ (x1 ++ y1)) :=
                  ⟨by simp, by intro e; subst e; simp at hx1; omega, by intro e; subst e; simp at hpl; omega, hx7, by rw [hm]; omega, by rw [hm]; omega, by simp only [List.length_append]; omega, HSM.out.perm HC.out.2.2.2.2.1⟩
                have HARG := Aside0.mk hargs
                have HD := Aside0.mk (show Desc x1 ∧ Desc y1 ∧ x1.length = bs ∧ y1.length < bs ∧ 0 < bs from ⟨dx1, dy1, hx1, by omega, hb0⟩)
                have HC4 := Aside0.mk (show k2 + 1 = k2 + 1 from rfl)
                clear hargs dx1 dy1 hx1 hpl c12 c15 hm h1 hx6 hb0 hx7 hx8 c11
                go_wp2_with (first | ((with_reducible refine gate_callee (f := 35) rfl ?_); refine goesL_ (some 60) rfl rfl Tryz.func35 (by kernel_rfl) rfl #[.slice Ao N co, .int .i64 x7, .int .i64 (wrap64 (x7 + x6)), .int .i64 a1, .func (.func 17) #[] #[]] rfl (by (try simp only [List.map_toArray, List.map_cons, List.map_nil]); first | done | rfl) ?_; (with_reducible refine (sm_calls (fun k_ => some k_ = (.slice Ao N co : Value).ownBlock) (.slice Ao N co) pf x1 y1 [] _ x7 (wrap64 (x7 + x6)) a1 w0 _ ?side1 ?side2 HARG.out.1 HARG.out.2.1 HARG.out.2.2.1 HARG.out.2.2.2.1 HARG.out.2.2.2.2.1 HARG.out.2.2.2.2.2.1 HARG.out.2.2.2.2.2.2.1 HARG.out.2.2.2.2.2.2.2).mono ?_); (case side1 => repeat (first | (with_reducible first | exact HB.out | apply below_alloc | apply pw_below_drewN | apply below_drew1) | exact HB.out)); (case side2 => exact Kd.R_tight rfl HO_0.out); rintro e w77 ⟨rfl, ⟨z, hz1, hz2, hy0⟩, hb, hkp⟩; refine ⟨_, rfl, ?_⟩; have n0_ := Aside0.mk (Kd.R_reok rfl hy0 (fun k_ e_ => HO_0.out.1 k_ e_)); have n1_ := Aside0.mk (Kept.then_ (S := (fun k_ => P0_ k_)) (by repeat (first | (with_reducible first | exact HK.out | apply Kept.alloc | apply Kept.drewN | apply Kept.drew) | exact HK.out)) hkp (fun k_ hs_ => (fun e_ => (HO_0.out.1 k_ e_.symm)) hs_)); have n2_ := Aside0.mk (hb); clear HO_0; clear HK; clear HB; have HO_0 := n0_; have HK := n1_; have HB := n2_; clear n0_ n1_ n2_ hb hkp hy0))
                go_roundg k2
                case measure => exact Nat.lt_succ_self _
                case rel =>
                  have hzl : z.length = x1.length + y1.length := by rw [hz1.length_eq, List.length_append]
                  refine ⟨pf ++ z, 2 * x6, 2 * bs, (by first | rfl | (simp [HW2.out]; done)), ⟨by have := HA.out.1; omega, by have := HA.out.2.1; omega, HC.out.2.2.1.app _ (.last (by have := HD.out; omega) (hz2 HD.out.1 HD.out.2.1)), (List.Perm.append_left _ hz1).trans HC.out.2.2.2.2.1, by have := HA.out.2.2.2.2; have := HA.out.2.1; omega⟩, ⟨by
                    have h := HO_0.out
                    rw [List.append_nil] at h
                    (with_reducible repeat (first | apply Kd.R_alloc | apply Kd.R_drewN | apply Kd.R_drew)); exact h⟩, ⟨by repeat (first | (with_reducible first | exact HK.out | apply Kept.alloc | apply Kept.drewN | apply Kept.drew) | exact HK.out)⟩, ⟨by repeat (first | (with_reducible first | exact HB.out | apply below_alloc | apply pw_below_drewN | apply below_drew1) | exact HB.out)⟩⟩
              · have c15b0 : decide (wrap64 (x7 + x6) < a1) = false := decide_eq_false c15
                rw [hm] at c15
                have HD := Aside0.mk (show Bl (2 * bs) (pf ++ qf) from HC.out.2.2.1.app _ (.last (by omega) (HC.out.2.2.2.1.short (by omega) hb0)))
                clear hpl c12 c15 hm h1 hx6 hb0 hx7 hx8 c11
                go_wp2
                go_roundg k2
                case measure => exact Nat.lt_succ_self _
                case rel => exact ⟨pf ++ qf, 2 * x6, 2 * bs, (by first | rfl | (simp [HW2.out]; done)), ⟨by have := HA.out.1; omega, by have := HA.out.2.1; omega, HD.out, HC.out.2.2.2.2.1, by have := HA.out.2.2.2.2; have := HA.out.2.1; omega⟩, ⟨by (with_reducible repeat (first | apply Kd.R_alloc | apply Kd.R_drewN | apply Kd.R_drew)); exact HO_0.out⟩, ⟨by repeat (first | (with_reducible first | exact HK.out | apply Kept.alloc | apply Kept.drewN | apply Kept.drew) | exact HK.out)⟩, ⟨by repeat (first | (with_reducible first | exact HB.out | apply below_alloc | apply pw_below_drewN | apply below_drew1) | exact HB.out)⟩⟩
        · have c11b0 : decide (x6 < a1) = false := decide_eq_false c11
          have HD := Aside0.mk (show Desc X from HA.out.2.2.1.short (by omega) HA.out.2.1)
          clear c11 h1 hx6 hXl
          go_wp2
          first | go_end0 | ((try simp only [Exit.inBlock, Exit.then]); refine bodyPost_ret (results_none rfl _ _ _) rfl ?_)
          refine ⟨by first | rfl | (simp [errW_none, errW_some] <;> rfl), ⟨X, HA.out.2.2.2.1, HD.out, ?_⟩, ?_, ?_⟩
          · (with_reducible repeat (first | apply Kd.R_alloc | apply Kd.R_drewN | apply Kd.R_drew)); exact HO_0.out
          · repeat (first | (with_reducible first | exact HB.out | apply below_alloc | apply pw_below_drewN | apply below_drew1) | exact HB.out)
          · repeat (first | (with_reducible first | exact HK.out | apply Kept.alloc | apply Kept.drewN | apply Kept.drew) | exact HK.out)
end Go.Proofs.YtnibognblomfeaaGreatDoor.ST
namespace Go.Proofs.YtnibognblomfeaaGreatDoor.SO
open Go.RowKit Go.Proofs.YtnibognblomfeaaGreatDoorW.PrintWords Go.Proofs.YtnibognblomfeaaGreatDoorW.PrintLast Go.Proofs.YtnibognblomfeaaGreatDoorW.PrintMore Go.Proofs.YtnibognblomfeaaGreatDoor.PSort Go.Proofs.YtnibognblomfeaaGreatDoor.SP Go.Proofs.YtnibognblomfeaaGreatDoor.SM Go.Proofs.YtnibognblomfeaaGreatDoor.ST Go.Proofs.YtnibognblomfeaaGreatDoor.CK
set_option linter.unusedVariables false
set_option linter.unusedSimpArgs false
set_option maxHeartbeats 4000000 in
set_option maxRecDepth 100000 in
theorem ssf_calls (P0_ : Nat → Prop) (u9000_ : Value) (l0 : List SV) (w0 w : World) (hB : Below w0.heap.size w0 w) (ho0 : Kd.R Kdsv 22 w w0.heap.size P0_ u9000_ l0) (hlen : l0.length ≤ 100000) (hsm : Small l0) :
    Calls Tryz.prog 18 #[u9000_, .func (.func 17) #[] #[]] w fun e w' => e = .returned (.tuple #[]) ∧ (∃ z : List SV, z.Perm l0 ∧ Desc z ∧ Kd.R Kdsv 22 w' w0.heap.size (fun k_ => (P0_ k_ ∨ w.heap.size ≤ k_)) u9000_ z) ∧ Below w0.heap.size w0 w' ∧ Kept w w' (fun k_ => P0_ k_) := by
  obtain ⟨Ao, co, eo⟩ := Kd.R_slice ho0
  subst eo
  go_enter Tryz.func18, Tryz.ntmps18
  go_wp2_with fail
  refine (st_calls P0_ (.slice Ao l0.length co) l0 (l0.length : Int) w0 w hB ho0 rfl hlen hsm).mono ?_
  rintro e w' ⟨rfl, hz, hb, hk⟩
  go_wp2
  first | go_end0 | ((try simp only [Exit.inBlock, Exit.then]); refine bodyPost_ret (results_none rfl _ _ _) rfl ?_)
  exact ⟨rfl, hz, hb, hk⟩
theorem reps_cons {α : Type} {R : α → List Value → Prop} {p : α} {ps : List α} {cs : List Value} (h : Reps R 1 (p :: ps) cs) : ∃ c cs', cs = c :: cs' ∧ R p [c] ∧ Reps R 1 ps cs' := by
  obtain ⟨h1, h2⟩ := h
  match cs, h1 with
  | c :: cs', h1 =>
    refine ⟨c, cs', rfl, by simpa using h2 0 p (by simp), by simpa using h1, fun j q hq => ?_⟩
    have := h2 (j + 1) q (by simpa using hq)
    simpa using this
theorem reps_of {α : Type} {R : α → List Value → Prop} : ∀ {ps : List α} {cs : List Value}, cs.length = ps.length → (∀ (j : Nat) (p : α) (c : Value), ps[j]? = some p → cs[j]? = some c → R p [c]) → Reps R 1 ps cs := by
  intro ps cs hl h
  refine ⟨by simpa using hl, fun j p hp => ?_⟩
  have hj : j < ps.length := by
    rcases Nat.lt_or_ge j ps.length with h' | h'
    · exact h'
    · rw [List.getElem?_eq_none h'] at hp; cases hp
  have hj' : j < cs.length := by omega
  have hc : cs[j]? = some cs[j] := List.getElem?_eq_getElem hj'
  have : (cs.drop (j * 1)).take 1 = [cs[j]] := by
    rw [Nat.mul_one, List.drop_eq_getElem_cons hj']; rfl
  rw [this]
  exact h j p _ hp hc
def Row (W : World) (lo : Nat) (ok : Nat → Prop) (z : SV × List Int) : Prop := z.1.size = z.2.length ∧ z.2.length ≤ 9223372036854775807 ∧ Kd.R (Kd.int .i64) 3 W lo ok (encSV z.1) z.2
theorem split_rows {W : World} {lo : Nat} {ok : Nat → Prop} : ∀ (l : List (List Int)) (inner : List Value), Reps ((Kd.slice 3 (Kd.int .i64)).M W lo ok) 1 l inner →
    ∃ zs : List (SV × List Int), zs.map (·.2) = l ∧ zs.map (fun z => encSV z.1) = inner ∧ ∀ z, z ∈ zs → Row W lo ok z := by
  intro l
  induction l with
  | nil =>
    intro inner h
    have : inner = [] := List.eq_nil_of_length_eq_zero (by simpa using h.1)
    subst this
    exact ⟨[], rfl, rfl, by simp⟩
  | cons p l ih =>
    intro inner h
    obtain ⟨c, cs, rfl, ⟨v, hv, hR⟩, hr⟩ := reps_cons h
    obtain ⟨zs, h1, h2, h3⟩ := ih cs hr
    cases hv
    obtain ⟨A, cp, rfl, hcp, hC⟩ := Kd.R_reads hR
    refine ⟨(⟨A, p.length, cp⟩, p) :: zs, by simp [h1], by simp [h2], ?_⟩
    intro z hz
    rcases List.mem_cons.mp hz with h | h
    · subst h
      exact ⟨rfl, hC.2.1, hR⟩
    · exact h3 z h
theorem perm_map {α β : Type} (f : α → β) {l' l : List β} (h : l'.Perm l) : ∀ zs : List α, zs.map f = l → ∃ zs' : List α, zs'.Perm zs ∧ zs'.map f = l' := by
  induction h with
  | nil => intro zs hz; exact ⟨zs, List.Perm.refl _, hz⟩
  | cons x _ ih =>
    intro zs hz
    match zs, hz with
    | z :: zs, hz =>
      simp only [List.map_cons, List.cons.injEq] at hz
      obtain ⟨zs', h1, h2⟩ := ih zs hz.2
      exact ⟨z :: zs', h1.cons z, by simp [h2, hz.1]⟩
  | swap x y l =>
    intro zs hz
    match zs, hz with
    | a :: b :: zs, hz =>
      simp only [List.map_cons, List.cons.injEq] at hz
      exact ⟨b :: a :: zs, List.Perm.swap _ _ _, by simp [hz.1, hz.2.1, hz.2.2]⟩
  | trans _ _ ih1 ih2 =>
    intro zs hz
    obtain ⟨z1, h1, h2⟩ := ih2 zs hz
    obtain ⟨z2, h3, h4⟩ := ih1 z1 h2
    exact ⟨z2, h3.trans h1, h4⟩
theorem sorts : Sorts := by
  intro lo ok l v W hl hlo hR
  obtain ⟨hown, inner, ho, hr⟩ := hR
  obtain ⟨zs, hz1, hz2, hz3⟩ := split_rows l inner hr
  obtain ⟨w0, hw0⟩ : ∃ w0 : World, w0 = { W with heap := W.heap.extract 0 lo } := ⟨_, rfl⟩
  have hsz : w0.heap.size = lo := by rw [hw0]; simp; omega
  have hB : Below w0.heap.size w0 W := by
    rw [hsz, hw0]
    refine ⟨rfl, rfl, rfl, by simp; omega, fun k hk => ?_⟩
    simp [Array.getElem?_extract, hk]
    try omega
  have hlen : (zs.map (·.1)).length = l.length := by rw [← hz1]; simp
  have hKd : Kd.R Kdsv 22 W w0.heap.size (fun k => some k = v.ownBlock) v (zs.map (·.1)) := by
    rw [hsz]
    refine ⟨fun k hk => hk.symm, inner, by rw [hlen]; exact ho, reps_of (by rw [← hz2]; simp) ?_⟩
    intro j p c hp hc
    rw [← hz2] at hc
    rw [List.getElem?_map] at hp hc
    cases hzj : zs[j]? with
    | none => rw [hzj] at hp; cases hp
    | some z =>
      rw [hzj] at hp hc
      cases hp
      cases hc
      rfl
  have hsm : Small (zs.map (·.1)) := by
    intro s hs
    obtain ⟨z, hz, rfl⟩ := List.mem_map.mp hs
    have := hz3 z hz
    rw [this.1]; exact this.2.1
  refine (ssf_calls _ v _ w0 W hB hKd (by rw [hlen]; omega) hsm).mono ?_
  rintro e W' ⟨rfl, ⟨z, hp, hd, hz⟩, hb, hk⟩
  refine ⟨rfl, ?_⟩
  obtain ⟨zs', hp', hm'⟩ := perm_map (·.1) hp zs rfl
  have hrow : ∀ y, y ∈ zs' → Row W lo (fun k => ok k ∧ some k ≠ v.ownBlock) y := fun y hy => hz3 y (hp'.mem_iff.mp hy)
  refine ⟨zs'.map (·.2), by rw [← hz1]; exact hp'.map _, ?_, ?_, ⟨hb.os.trans hB.os.symm, hb.tape.trans hB.tape.symm, hb.output.trans hB.output.symm, hk.1, fun k h1 h2 => hk.2 k h1 h2⟩⟩
  · rw [List.pairwise_map]
    have h1 : (zs'.map (·.1)).Pairwise (fun a b => b.size ≤ a.size) := by rw [hm']; exact hd
    rw [List.pairwise_map] at h1
    refine List.Pairwise.imp_of_mem ?_ h1
    intro a b ha hb h
    rw [← (hrow a ha).1, ← (hrow b hb).1]; exact h
  · obtain ⟨_, inner', ho', hr'⟩ := hz
    rw [hsz] at ho'
    have hlz : z.length = (zs'.map (·.2)).length := by rw [← hm']; simp
    refine ⟨hown, inner', by rw [← hlz]; exact ho', reps_of (by rw [hr'.1, ← hlz]; exact Nat.mul_one _) ?_⟩
    intro j p c hp hc
    rw [List.getElem?_map] at hp
    cases hzj : zs'[j]? with
    | none => rw [hzj] at hp; cases hp
    | some y =>
      rw [hzj] at hp
      cases hp
      have hzz : z[j]? = some y.1 := by rw [← hm', List.getElem?_map, hzj]; rfl
      have h2 := hr'.2 j y.1 hzz
      have h3 : (inner'.drop (j * 1)).take 1 = [c] := by
        have hj : j < inner'.length := by
          rcases Nat.lt_or_ge j inner'.length with h' | h'
          · exact h'
          · rw [List.getElem?_eq_none h'] at hc; cases hc
        rw [List.getElem?_eq_getElem hj] at hc
        cases hc
        rw [Nat.mul_one, List.drop_eq_getElem_cons hj]; rfl
      have h4 : (inner'.drop (j * 1)).take 1 = [encSV y.1] := h2
      rw [h3] at h4
      rw [h4]
      exact ⟨_, rfl, Kd.R_kept (hrow y (List.mem_of_getElem? hzj)).2.2 hk (fun k hk' => fun he => hk'.2 he)⟩
end Go.Proofs.YtnibognblomfeaaGreatDoor.SO
