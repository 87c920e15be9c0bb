/- slices.symMergeCmpFunc: the walk. Written by smgen.py. -/
import Derived.Test.YtnibognblomfeaaGreatDoorGB
namespace Go.Proofs.YtnibognblomfeaaGreatDoor.SM
open Go.RowKit Go.Proofs.YtnibognblomfeaaGreatDoorW.PrintWords Go.Proofs.YtnibognblomfeaaGreatDoorW.PrintLast Go.Proofs.YtnibognblomfeaaGreatDoorW.PrintMore Go.Proofs.YtnibognblomfeaaGreatDoor.PSort Go.Proofs.YtnibognblomfeaaGreatDoor.SP
attribute [local go_sem] max2_int min2_int max_two min_two max_three min_three max_four min_four
set_option linter.unusedVariables false
set_option linter.unusedSimpArgs false
def at8 : Code → Bool
  | .block 8 _ => true
  | _ => false
def after8 : Code → Option Code
  | .seq a b => if at8 a then some b else match after8 a with
    | some c => some c
    | none => after8 b
  | _ => none
noncomputable def tail : Code := (Tryz.f35.body.bind after8).getD .skip
set_option maxHeartbeats 16000000 in
set_option maxRecDepth 1000000 in
theorem smTail (n : Nat) (P0_ : Nat → Prop) (u9000_ : Value) (p x y q l0 : List SV) (a1 a2 a3 J s : Int) (w0 w wr : World) (HW0 : Aside0 (w0.heap.size ≤ w.heap.size)) (HBB : Aside0 (0 ≤ a1 ∧ a1 < a2 ∧ a2 < a3 ∧ a3 ≤ (l0.length : Int) ∧ (l0.length : Int) ≤ 1000000)) (HL : Aside0 (l0 = p ++ (x ++ (y ++ q)))) (HSM : Aside0 (Small l0)) (HN : Aside0 (x.length + y.length ≤ n)) (H1 : Aside0 (a1 = (p.length : Int))) (HXX : Aside0 ((x.length : Int) = a2 - a1)) (HYY : Aside0 ((y.length : Int) = a3 - a2)) (DJ : Aside0 (a1 < J ∧ J < a3 ∧ 2 * J ≤ a1 + a3 ∧ a1 + a3 ≤ 2 * J + 1)) (hih : SMAll (n - 1))
    (HREL : Aside0 (∃ B C D E : List SV, x = B ++ C ∧ y = D ++ E ∧ (B.length : Int) = s - a1 ∧ (D.length : Int) = J - s ∧ (a1 ≤ s ∧ s ≤ a2 ∧ s ≤ J ∧ J + a2 - s ≤ a3) ∧ (Desc x → Desc y → ∀ u, (u ∈ B ∨ u ∈ D) → ∀ v, (v ∈ C ∨ v ∈ E) → v.size ≤ u.size))) (HO_0 : Aside0 (Kd.R Kdsv 22 wr w0.heap.size (fun k_ => (P0_ k_ ∨ w.heap.size ≤ k_)) u9000_ l0)) (HK : Aside0 (Kept w wr (fun k_ => P0_ k_))) (HB : Aside0 (Below w0.heap.size w0 wr)) (c5 c6 c7 c8 c9 c10 c11 c12 c13 c14 c15 c16 c17 c21 c22 c23 c24 c25 c26 c27 c28 c29 c30 c31 c32 c33 c34 c35 c36 c37 c38 c39 c40 c41 c42 c43 c44 c45 c46 c47 c48 c49 c50 c51 c52 c53 c54 c55 c56 c57 c58 c59 c60 c61 c62 c63 c64 c65 c66 c67 c68 c69 c70 c71 c72 c73 c74 c75 c76 c77 c78 c79 c80 c81 c82 c83 c84 c85 c86 c87 c88 c89 c90 c91 c92 c93 c94 c95 c96 c97 c98 c99 c100 c101 c102 c103 c104 c105 c106 c107 c108 c109 c110 c111 c112 c113 c114 c115 c116 c117 c118 c119 c120 c121 c122 c123 c124 c125 c126 c127 c128 c129 c130 c131 c132 c133 c134 c135 c136 c137 c138 c139 c140 c141 c142 c143 c144 c145 c146 c147 c148 c149 c150 c151 c152 c153 c154 c155 c156 c157 c158 c159 c160 c161 c162 c163 c164 c165 c166 c167 c168 c169 c170 c171 c172 c173 c174 c175 c176 c177 c178 c179 c180 c181 c182 c183 c184 c185 c186 c187 c188 c189 c190 c191 c192 c193 c194 c195 c196 c197 c198 c199 c200 c201 c202 c203 c204 c205 c206 c207 c208 c209 c210 c211 c212 c213 c214 c215 c216 c217 c218 c219 : Value) :
    Code.wp Tryz.prog tail (bodyPost Tryz.prog Tryz.f35 (fun e w' => e = .returned (.tuple #[]) ∧ (∃ z : List SV, z.Perm (x ++ y) ∧ (Desc x → Desc y → Desc z) ∧ Kd.R Kdsv 22 w' w0.heap.size (fun k_ => (P0_ k_ ∨ w.heap.size ≤ k_)) u9000_ (p ++ (z ++ q))) ∧ Below w0.heap.size w0 w' ∧ Kept w w' (fun k_ => P0_ k_))) ⟨#[u9000_, .int .i64 a1, .int .i64 a2, .int .i64 a3, .func (.func 17) #[] #[], c5, c6, c7, c8, c9, c10, c11, c12, c13, c14, c15, c16, c17, .int .i64 J, .int .i64 (J + a2), .int .i64 s, c21, c22, c23, c24, c25, c26, c27, c28, c29, c30, c31, c32, c33, c34, c35, c36, c37, c38, c39, c40, c41, c42, c43, c44, c45, c46, c47, c48, c49, c50, c51, c52, c53, c54, c55, c56, c57, c58, c59, c60, c61, c62, c63, c64, c65, c66, c67, c68, c69, c70, c71, c72, c73, c74, c75, c76, c77, c78, c79, c80, c81, c82, c83, c84, c85, c86, c87, c88, c89, c90, c91, c92, c93, c94, c95, c96, c97, c98, c99, c100, c101, c102, c103, c104, c105, c106, c107, c108, c109, c110, c111, c112, c113, c114, c115, c116, c117, c118, c119, c120, c121, c122, c123, c124, c125, c126, c127, c128, c129, c130, c131, c132, c133, c134, c135, c136, c137, c138, c139, c140, c141, c142, c143, c144, c145, c146, c147, c148, c149, c150, c151, c152, c153, c154, c155, c156, c157, c158, c159, c160, c161, c162, c163, c164, c165, c166, c167, c168, c169, c170, c171, c172, c173, c174, c175, c176, c177, c178, c179, c180, c181, c182, c183, c184, c185, c186, c187, c188, c189, c190, c191, c192, c193, c194, c195, c196, c197, c198, c199, c200, c201, c202, c203, c204, c205, c206, c207, c208, c209, c210, c211, c212, c213, c214, c215, c216, c217, c218, c219], []⟩ wr := by
  unfold SMAll at hih
  have HIH := Aside0.mk hih
  clear hih
  obtain ⟨B, C, D, E, hxs, hys, hBl, hDl, ⟨e1, e2, e3, e4⟩, hcr⟩ := HREL.out
  clear HREL
  obtain ⟨b1, b2, b3, b4, b5⟩ := HBB.out
  have dJ := DJ.out
  have hCl : (C.length : Int) = a2 - s := by have h := HXX.out; rw [hxs] at h; simp only [List.length_append, Int.natCast_add] at h; omega
  have hEl : (E.length : Int) = a3 - a2 - (J - s) := by have h := HYY.out; rw [hys] at h; simp only [List.length_append, Int.natCast_add] at h; omega
  conv => arg 2; whnf
  obtain ⟨Ev, hEv⟩ : ∃ Ev : Int, wrap64 (J + a2 - s) = Ev := ⟨_, rfl⟩
  have hEe : Ev = J + a2 - s := by rw [← hEv]; exact w64 _ (by omega)
  have hnn : B.length + C.length + (D.length + E.length) ≤ n := by
    have h1 := HN.out
    rw [hxs, hys] at h1
    simpa using h1
  have HG := Aside0.mk (show a1 ≤ s ∧ s ≤ a2 ∧ s ≤ J ∧ Ev ≤ a3 ∧ Ev = J + a2 - s from ⟨by omega, by omega, by omega, by omega, hEe⟩)
  have hL0 : l0 = p ++ (B ++ (C ++ (D ++ (E ++ q)))) := by rw [HL.out, hxs, hys]; simp
  have HL0 := Aside0.mk hL0
  have HNN := Aside0.mk hnn
  have HXS := Aside0.mk hxs
  have HYS := Aside0.mk hys
  have HBl := Aside0.mk hBl
  have HCl := Aside0.mk hCl
  have HDl := Aside0.mk hDl
  have HEl := Aside0.mk hEl
  have HCR := Aside0.mk hcr
  clear hL0 hnn hEe hxs hys hBl hCl hDl hEl hcr dJ b1 b2 b3 b4 b5 e1 e2 e3 e4
  go_upto_region 39 with (fail)
  go_cut [24, 185] (fun v24 v185 w' => v24 = .int .i64 Ev ∧ v185 = .bool (decide (s < a2 ∧ a2 < Ev)) ∧ Aside0 (Kd.R Kdsv 22 w' w0.heap.size (fun k_ => (P0_ k_ ∨ w.heap.size ≤ k_)) u9000_ (l0)) ∧ Aside0 (Kept w w' (fun k_ => P0_ k_)) ∧ Aside0 (Below w0.heap.size w0 w'))
  case first =>
    by_cases c72 : s < a2
    · have c72b0 : decide (s < a2) = true := decide_eq_true c72
      (first | rw [c72b0] | skip)
      have C72 := Aside0.mk c72
      clear c72
      go_wp2
      go_meet
      case rel => exact ⟨(by first | rfl | (simp [hEv]; done)), (by have h := C72.out; first | (simp [h]; done) | (simp [h, hEv]; done)), ⟨by (with_reducible repeat (first | apply Kd.R_alloc | apply Kd.R_drewN | apply Kd.R_drew)); exact HO_0.out⟩, ⟨by repeat (first | (with_reducible first | exact HK.out | apply Kept.alloc | apply Kept.drewN | apply Kept.drew) | exact HK.out)⟩, ⟨by repeat (first | (with_reducible first | exact HB.out | apply below_alloc | apply pw_below_drewN | apply below_drew1) | exact HB.out)⟩⟩
    · have c72b0 : decide (s < a2) = false := decide_eq_false c72
      (first | rw [c72b0] | skip)
      have C72 := Aside0.mk c72
      clear c72
      go_wp2
      go_meet
      case rel => exact ⟨(by first | rfl | (simp [hEv]; done)), (by rw [show decide (s < a2 ∧ a2 < Ev) = false from decide_eq_false (fun hh => by have := C72.out; omega)]), ⟨by (with_reducible repeat (first | apply Kd.R_alloc | apply Kd.R_drewN | apply Kd.R_drew)); exact HO_0.out⟩, ⟨by repeat (first | (with_reducible first | exact HK.out | apply Kept.alloc | apply Kept.drewN | apply Kept.drew) | exact HK.out)⟩, ⟨by repeat (first | (with_reducible first | exact HB.out | apply below_alloc | apply pw_below_drewN | apply below_drew1) | exact HB.out)⟩⟩
  case rest =>
    clear HO_0 HK HB hEv
    obtain ⟨rfl, rfl, HO_0, HK, HB⟩ := hcut
    obtain ⟨gR, hgR⟩ : ∃ g : Bool, g = decide (s < a2 ∧ a2 < Ev) := ⟨_, rfl⟩
    rw [← hgR]
    have HGR := Aside0.mk hgR
    clear hgR
    go_upto_if 185 with (fail)
    go_cut [] (fun w' => Aside0 (Kd.R Kdsv 22 w' w0.heap.size (fun k_ => (P0_ k_ ∨ w.heap.size ≤ k_)) u9000_ (p ++ (B ++ (D ++ (C ++ (E ++ q)))))) ∧ Aside0 (Kept w w' (fun k_ => P0_ k_)) ∧ Aside0 (Below w0.heap.size w0 w'))
    case first =>
      by_cases c74 : gR = true
      · subst c74
        obtain ⟨kr, hrot⟩ : ∃ kr, slices_rotateCmpFunc_int.f kr l0 s a2 Ev true = some (p ++ (B ++ (D ++ (C ++ (E ++ q))))) := by
          have hc := of_decide_eq_true HGR.out.symm
          have hCl := HCl.out
          have hDl := HDl.out
          have hBl := HBl.out
          have hg := HG.out
          have h1 := H1.out
          have hb := HBB.out
          obtain ⟨kr, h⟩ := ro_f (p ++ B) C D (E ++ q) s a2 Ev (by intro e; rw [e] at hCl; simp at hCl; omega) (by intro e; rw [e] at hDl; simp at hDl; omega) (by rw [List.length_append, Int.natCast_add]; omega) (by rw [List.length_append, Int.natCast_add]; omega) (by omega) (by omega)
          refine ⟨kr, ?_⟩
          rw [HL0.out]
          simpa using h
        have HROT := Aside0.mk hrot
        clear hrot
        obtain ⟨L, hL⟩ : ∃ L, L = l0 := ⟨_, rfl⟩
        rw [← hL] at HO_0 HROT
        clear hL
        obtain ⟨Ao, co, eo⟩ := Kd.R_slice HO_0.out
        subst eo
        go_wp2_with (first | ((with_reducible refine gate_callee (f := 50) rfl ?_); refine goesL_ (some 191) rfl rfl Tryz.func50 (by kernel_rfl) rfl #[.slice Ao L.length co, .int .i64 s, .int .i64 a2, .int .i64 Ev, .func (.func 17) #[] #[]] rfl (by (try simp only [List.map_toArray, List.map_cons, List.map_nil]); first | done | rfl) ?_; (with_reducible refine (slices_rotateCmpFunc_int.calls kr (fun k_ => some k_ = (.slice Ao L.length co : Value).ownBlock) (.slice Ao L.length co) L s a2 Ev true _ w0 _ ?side1 ?side2 HROT.out).mono ?_); (case side1 => repeat (first | (with_reducible first | exact HB.out | apply below_alloc | apply pw_below_drewN | apply below_drew1) | exact HB.out)); (case side2 => exact Kd.R_tight rfl HO_0.out); rintro e w77 ⟨rfl, hy0, hb, hkp⟩; refine ⟨_, rfl, ?_⟩; have n0_ := Aside0.mk (Kd.R_reok rfl hy0 (fun k_ e_ => HO_0.out.1 k_ e_)); have n1_ := Aside0.mk (Kept.then_ (S := (fun k_ => P0_ k_)) (by repeat (first | (with_reducible first | exact HK.out | apply Kept.alloc | apply Kept.drewN | apply Kept.drew) | exact HK.out)) hkp (fun k_ hs_ => (fun e_ => (HO_0.out.1 k_ e_.symm)) hs_)); have n2_ := Aside0.mk (hb); clear HO_0; clear HK; clear HB; have HO_0 := n0_; have HK := n1_; have HB := n2_; clear n0_ n1_ n2_ hb hkp hy0))
        go_meet
        case rel => exact ⟨⟨by (with_reducible repeat (first | apply Kd.R_alloc | apply Kd.R_drewN | apply Kd.R_drew)); exact HO_0.out⟩, ⟨by repeat (first | (with_reducible first | exact HK.out | apply Kept.alloc | apply Kept.drewN | apply Kept.drew) | exact HK.out)⟩, ⟨by repeat (first | (with_reducible first | exact HB.out | apply below_alloc | apply pw_below_drewN | apply below_drew1) | exact HB.out)⟩⟩
      · replace c74 := Bool.eq_false_iff.mpr c74
        subst c74
        have hnil : C = [] ∨ D = [] := by
          have hc := of_decide_eq_false HGR.out.symm
          have hCl := HCl.out
          have hDl := HDl.out
          have hg := HG.out
          by_cases h : s < a2
          · exact .inr (List.eq_nil_of_length_eq_zero (by omega))
          · exact .inl (List.eq_nil_of_length_eq_zero (by omega))
        have HNIL := Aside0.mk hnil
        clear hnil
        go_wp2
        go_meet
        case rel => exact ⟨⟨by
          rw [swap_nil HNIL.out, ← HL0.out]
          (with_reducible repeat (first | apply Kd.R_alloc | apply Kd.R_drewN | apply Kd.R_drew)); exact HO_0.out⟩, ⟨by repeat (first | (with_reducible first | exact HK.out | apply Kept.alloc | apply Kept.drewN | apply Kept.drew) | exact HK.out)⟩, ⟨by repeat (first | (with_reducible first | exact HB.out | apply below_alloc | apply pw_below_drewN | apply below_drew1) | exact HB.out)⟩⟩
    case rest =>
      clear HO_0 HK HB HGR
      obtain ⟨HO_0, HK, HB⟩ := hcut
      obtain ⟨L, hL⟩ : ∃ L, L = p ++ (B ++ (D ++ (C ++ (E ++ q)))) := ⟨_, rfl⟩
      rw [← hL] at HO_0
      have HLL2 := Aside0.mk hL
      clear hL
      go_upto_region 41 with (fail)
      go_cut [199] (fun v199 w' => v199 = .bool (decide (a1 < s ∧ s < J)) ∧ Aside0 (Kd.R Kdsv 22 w' w0.heap.size (fun k_ => (P0_ k_ ∨ w.heap.size ≤ k_)) u9000_ (L)) ∧ Aside0 (Kept w w' (fun k_ => P0_ k_)) ∧ Aside0 (Below w0.heap.size w0 w'))
      case first =>
        by_cases c72 : a1 < s
        · have c72b0 : decide (a1 < s) = true := decide_eq_true c72
          (first | rw [c72b0] | skip)
          have C72 := Aside0.mk c72
          clear c72
          go_wp2
          go_meet
          case rel => exact ⟨(by have h := C72.out; simp [h]; done), ⟨by (with_reducible repeat (first | apply Kd.R_alloc | apply Kd.R_drewN | apply Kd.R_drew)); exact HO_0.out⟩, ⟨by repeat (first | (with_reducible first | exact HK.out | apply Kept.alloc | apply Kept.drewN | apply Kept.drew) | exact HK.out)⟩, ⟨by repeat (first | (with_reducible first | exact HB.out | apply below_alloc | apply pw_below_drewN | apply below_drew1) | exact HB.out)⟩⟩
        · have c72b0 : decide (a1 < s) = false := decide_eq_false c72
          (first | rw [c72b0] | skip)
          have C72 := Aside0.mk c72
          clear c72
          go_wp2
          go_meet
          case rel => exact ⟨(by rw [show decide (a1 < s ∧ s < J) = false from decide_eq_false (fun hh => by have := C72.out; omega)]), ⟨by (with_reducible repeat (first | apply Kd.R_alloc | apply Kd.R_drewN | apply Kd.R_drew)); exact HO_0.out⟩, ⟨by repeat (first | (with_reducible first | exact HK.out | apply Kept.alloc | apply Kept.drewN | apply Kept.drew) | exact HK.out)⟩, ⟨by repeat (first | (with_reducible first | exact HB.out | apply below_alloc | apply pw_below_drewN | apply below_drew1) | exact HB.out)⟩⟩
      case rest =>
        clear HO_0 HK HB
        obtain ⟨rfl, HO_0, HK, HB⟩ := hcut
        obtain ⟨gR2, hgR⟩ : ∃ g : Bool, g = decide (a1 < s ∧ s < J) := ⟨_, rfl⟩
        rw [← hgR]
        have HGR := Aside0.mk hgR
        clear hgR
        go_upto_if 199 with (fail)
        go_cut [] (fun w' => ∃ z1 : List SV, Aside0 (z1.Perm (B ++ D) ∧ (Desc B → Desc D → Desc z1)) ∧ Aside0 (Kd.R Kdsv 22 w' w0.heap.size (fun k_ => (P0_ k_ ∨ w.heap.size ≤ k_)) u9000_ (p ++ (z1 ++ (C ++ (E ++ q))))) ∧ Aside0 (Kept w w' (fun k_ => P0_ k_)) ∧ Aside0 (Below w0.heap.size w0 w'))
        case first =>
          by_cases c74 : gR2 = true
          · subst c74
            have hrec := rec_args p B C D E q l0 L n s J a1 a1 s (.inl trivial) HNN.out HL0.out HLL2.out HBl.out HDl.out (by have h1 := HCl.out; have h2 := HEl.out; have h3 := DJ.out; have h4 := HBB.out; omega) (of_decide_eq_true HGR.out.symm) HBB.out.2.2.2.2 HSM.out
            have HREC := Aside0.mk hrec
            clear hrec
            obtain ⟨Ao, co, eo⟩ := Kd.R_slice HO_0.out
            subst eo
            go_wp2_with (first | ((with_reducible refine gate_callee (f := 35) rfl ?_); refine goesL_ (some 205) rfl rfl Tryz.func35 (by kernel_rfl) rfl #[.slice Ao L.length co, .int .i64 a1, .int .i64 s, .int .i64 J, .func (.func 17) #[] #[]] rfl (by (try simp only [List.map_toArray, List.map_cons, List.map_nil]); first | done | rfl) ?_; (with_reducible refine (HIH.out (fun k_ => some k_ = (.slice Ao L.length co : Value).ownBlock) (.slice Ao L.length co) p B D (C ++ (E ++ q)) L a1 s J w0 _ ?side1 ?side2 HLL2.out HREC.out.1 HREC.out.2.1 HREC.out.2.2.1 H1.out HREC.out.2.2.2.1 HREC.out.2.2.2.2.1 HREC.out.2.2.2.2.2.1 HREC.out.2.2.2.2.2.2).mono ?_); (case side1 => repeat (first | (with_reducible first | exact HB.out | apply below_alloc | apply pw_below_drewN | apply below_drew1) | exact HB.out)); (case side2 => exact Kd.R_tight rfl HO_0.out); rintro e w86 ⟨rfl, ⟨z1, hz1, hz2, hy0⟩, hb, hkp⟩; refine ⟨_, rfl, ?_⟩; have n0_ := Aside0.mk (Kd.R_reok rfl hy0 (fun k_ e_ => HO_0.out.1 k_ e_)); have n1_ := Aside0.mk (Kept.then_ (S := (fun k_ => P0_ k_)) (by repeat (first | (with_reducible first | exact HK.out | apply Kept.alloc | apply Kept.drewN | apply Kept.drew) | exact HK.out)) hkp (fun k_ hs_ => (fun e_ => (HO_0.out.1 k_ e_.symm)) hs_)); have n2_ := Aside0.mk (hb); clear HO_0; clear HK; clear HB; have HO_0 := n0_; have HK := n1_; have HB := n2_; clear n0_ n1_ n2_ hb hkp hy0))
            go_meet
            case rel => exact ⟨z1, ⟨hz1, hz2⟩, ⟨by (with_reducible repeat (first | apply Kd.R_alloc | apply Kd.R_drewN | apply Kd.R_drew)); exact HO_0.out⟩, ⟨by repeat (first | (with_reducible first | exact HK.out | apply Kept.alloc | apply Kept.drewN | apply Kept.drew) | exact HK.out)⟩, ⟨by repeat (first | (with_reducible first | exact HB.out | apply below_alloc | apply pw_below_drewN | apply below_drew1) | exact HB.out)⟩⟩
          · replace c74 := Bool.eq_false_iff.mpr c74
            subst c74
            have hnil : B = [] ∨ D = [] := by
              have hc := of_decide_eq_false HGR.out.symm
              have hBl := HBl.out
              have hDl := HDl.out
              have hg := HG.out
              by_cases h : a1 < s
              · exact .inr (List.eq_nil_of_length_eq_zero (by omega))
              · exact .inl (List.eq_nil_of_length_eq_zero (by omega))
            have HNIL := Aside0.mk hnil
            clear hnil
            go_wp2
            go_meet
            case rel => exact ⟨B ++ D, ⟨List.Perm.refl _, desc_nil HNIL.out⟩, ⟨by
              have e1 : p ++ ((B ++ D) ++ (C ++ (E ++ q))) = L := by rw [HLL2.out]; simp
              rw [e1]
              (with_reducible repeat (first | apply Kd.R_alloc | apply Kd.R_drewN | apply Kd.R_drew)); exact HO_0.out⟩, ⟨by repeat (first | (with_reducible first | exact HK.out | apply Kept.alloc | apply Kept.drewN | apply Kept.drew) | exact HK.out)⟩, ⟨by repeat (first | (with_reducible first | exact HB.out | apply below_alloc | apply pw_below_drewN | apply below_drew1) | exact HB.out)⟩⟩
        case rest =>
          clear HO_0 HK HB HGR
          obtain ⟨z1, HZ1, HO_0, HK, HB⟩ := hcut
          obtain ⟨M, hM⟩ : ∃ M, M = p ++ (z1 ++ (C ++ (E ++ q))) := ⟨_, rfl⟩
          rw [← hM] at HO_0
          have HM := Aside0.mk hM
          clear hM
          by_cases c93 : J < Ev ∧ Ev < a3
          · have c92b0 : decide (J < Ev) = true := decide_eq_true c93.1
            have c93b0 : decide (Ev < a3) = true := decide_eq_true c93.2
            have hrec := rec_args2 p B C D E q l0 M z1 n s J a1 a2 a3 Ev HNN.out HL0.out HM.out HZ1.out.1 HBl.out HDl.out HCl.out HEl.out c93 H1.out HBB.out.2.2.2.2 HSM.out HG.out.2.2.2.2 DJ.out.1
            have HREC := Aside0.mk hrec
            clear hrec c93
            obtain ⟨Ao, co, eo⟩ := Kd.R_slice HO_0.out
            subst eo
            go_wp2_with (first | ((with_reducible refine gate_callee (f := 35) rfl ?_); refine goesL_ (some 219) rfl rfl Tryz.func35 (by kernel_rfl) rfl #[.slice Ao M.length co, .int .i64 J, .int .i64 Ev, .int .i64 a3, .func (.func 17) #[] #[]] rfl (by (try simp only [List.map_toArray, List.map_cons, List.map_nil]); first | done | rfl) ?_; (with_reducible refine (HIH.out (fun k_ => some k_ = (.slice Ao M.length co : Value).ownBlock) (.slice Ao M.length co) (p ++ z1) C E q M J Ev a3 w0 _ ?side1 ?side2 HREC.out.1 HREC.out.2.1 HREC.out.2.2.1 HREC.out.2.2.2.1 HREC.out.2.2.2.2.1 HREC.out.2.2.2.2.2.1 HREC.out.2.2.2.2.2.2.1 HREC.out.2.2.2.2.2.2.2.1 HREC.out.2.2.2.2.2.2.2.2).mono ?_); (case side1 => repeat (first | (with_reducible first | exact HB.out | apply below_alloc | apply pw_below_drewN | apply below_drew1) | exact HB.out)); (case side2 => exact Kd.R_tight rfl HO_0.out); rintro e w86 ⟨rfl, ⟨z2, hz1, hz2, hy0⟩, hb, hkp⟩; refine ⟨_, rfl, ?_⟩; have n0_ := Aside0.mk (Kd.R_reok rfl hy0 (fun k_ e_ => HO_0.out.1 k_ e_)); have n1_ := Aside0.mk (Kept.then_ (S := (fun k_ => P0_ k_)) (by repeat (first | (with_reducible first | exact HK.out | apply Kept.alloc | apply Kept.drewN | apply Kept.drew) | exact HK.out)) hkp (fun k_ hs_ => (fun e_ => (HO_0.out.1 k_ e_.symm)) hs_)); have n2_ := Aside0.mk (hb); clear HO_0; clear HK; clear HB; have HO_0 := n0_; have HK := n1_; have HB := n2_; clear n0_ n1_ n2_ hb hkp hy0))
            first | go_end0 | ((try simp only [Exit.inBlock, Exit.then]); refine bodyPost_ret (results_none rfl _ _ _) rfl ?_)
            refine ⟨by first | rfl | (simp [errW_none, errW_some] <;> rfl), ⟨z1 ++ z2, ?_, ?_, ?_⟩, ?_, ?_⟩
            · rw [HXS.out, HYS.out]; exact fin_perm HZ1.out.1 hz1
            · exact fin_desc HXS.out HYS.out HZ1.out.1 hz1 HZ1.out.2 hz2 HCR.out
            · have e1 : p ++ ((z1 ++ z2) ++ q) = (p ++ z1) ++ (z2 ++ q) := by simp
              rw [e1]
              (with_reducible repeat (first | apply Kd.R_alloc | apply Kd.R_drewN | apply Kd.R_drew)); exact HO_0.out
            · repeat (first | (with_reducible first | exact HB.out | apply below_alloc | apply pw_below_drewN | apply below_drew1) | exact HB.out)
            · repeat (first | (with_reducible first | exact HK.out | apply Kept.alloc | apply Kept.drewN | apply Kept.drew) | exact HK.out)
          · have hnil : C = [] ∨ E = [] := by
              have hCl := HCl.out
              have hEl := HEl.out
              have hg := HG.out
              by_cases h : J < Ev
              · exact .inr (List.eq_nil_of_length_eq_zero (by omega))
              · exact .inl (List.eq_nil_of_length_eq_zero (by omega))
            have HNIL := Aside0.mk hnil
            clear hnil
            have hend : ∀ W : World, Aside0 (Kd.R Kdsv 22 W w0.heap.size (fun k_ => (P0_ k_ ∨ w.heap.size ≤ k_)) u9000_ M) → ∃ z : List SV, z.Perm (x ++ y) ∧ (Desc x → Desc y → Desc z) ∧ Kd.R Kdsv 22 W w0.heap.size (fun k_ => (P0_ k_ ∨ w.heap.size ≤ k_)) u9000_ (p ++ (z ++ q)) := by
              intro W hW
              refine ⟨z1 ++ (C ++ E), ?_, ?_, ?_⟩
              · rw [HXS.out, HYS.out]; exact fin_perm HZ1.out.1 (List.Perm.refl _)
              · exact fin_desc HXS.out HYS.out HZ1.out.1 (List.Perm.refl _) HZ1.out.2 (desc_nil HNIL.out) HCR.out
              · have e1 : p ++ ((z1 ++ (C ++ E)) ++ q) = M := by rw [HM.out]; simp
                rw [e1]
                exact hW.out
            have HEND := Aside0.mk hend
            clear hend
            by_cases c92 : J < Ev
            · have c92b0 : decide (J < Ev) = true := decide_eq_true c92
              have c93b0 : decide (Ev < a3) = false := decide_eq_false (fun h => c93 ⟨c92, h⟩)
              clear c92 c93
              go_wp2
              first | go_end0 | ((try simp only [Exit.inBlock, Exit.then]); refine bodyPost_ret (results_none rfl _ _ _) rfl ?_)
              refine ⟨by first | rfl | (simp [errW_none, errW_some] <;> rfl), HEND.out _ ⟨by (with_reducible repeat (first | apply Kd.R_alloc | apply Kd.R_drewN | apply Kd.R_drew)); exact HO_0.out⟩, ?_, ?_⟩
              · repeat (first | (with_reducible first | exact HB.out | apply below_alloc | apply pw_below_drewN | apply below_drew1) | exact HB.out)
              · repeat (first | (with_reducible first | exact HK.out | apply Kept.alloc | apply Kept.drewN | apply Kept.drew) | exact HK.out)
            · have c92b0 : decide (J < Ev) = false := decide_eq_false c92
              clear c92 c93
              go_wp2
              first | go_end0 | ((try simp only [Exit.inBlock, Exit.then]); refine bodyPost_ret (results_none rfl _ _ _) rfl ?_)
              refine ⟨by first | rfl | (simp [errW_none, errW_some] <;> rfl), HEND.out _ ⟨by (with_reducible repeat (first | apply Kd.R_alloc | apply Kd.R_drewN | apply Kd.R_drew)); exact HO_0.out⟩, ?_, ?_⟩
              · repeat (first | (with_reducible first | exact HB.out | apply below_alloc | apply pw_below_drewN | apply below_drew1) | exact HB.out)
              · repeat (first | (with_reducible first | exact HK.out | apply Kept.alloc | apply Kept.drewN | apply Kept.drew) | exact HK.out)
end Go.Proofs.YtnibognblomfeaaGreatDoor.SM
