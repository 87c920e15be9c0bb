/- math/big on numbers of one word: Int.Mul, Int.Add, NewInt. math/big on numbers of one word: Int.Add, NewInt. -/
import Derived.Test.YtkplhpnhjfdelaaGreatDoorGF
import Derived.Deep.RegionWith
import Derived.LaidEqlPtr
namespace Go.Proofs.YtkplhpnhjfdelaaGreatDoor.BF
open Go.RowKit Go.Proofs.YtkplhpnhjfdelaaGreatDoorW.PrintWords Go.Proofs.YtkplhpnhjfdelaaGreatDoorW.PrintLast Go.Proofs.YtkplhpnhjfdelaaGreatDoorW.PrintMore Go.Proofs.YtkplhpnhjfdelaaGreatDoor.PPermCycles Go.Proofs.YtkplhpnhjfdelaaGreatDoor.BA Go.Proofs.YtkplhpnhjfdelaaGreatDoor.BB Go.Proofs.YtkplhpnhjfdelaaGreatDoor.BC Go.Proofs.YtkplhpnhjfdelaaGreatDoor.BD Go.Proofs.YtkplhpnhjfdelaaGreatDoor.BE
set_option linter.unusedVariables false
set_option linter.unusedSimpArgs false
theorem IsNat.val {lo : Nat} {W : World} {z : Value} {x : Nat} (h : IsNat lo W z x) : ∃ A l cap, z = .slice A l cap := by
  obtain ⟨A, cap, e, _⟩ := h; exact ⟨A, _, cap, e⟩
/-- A big.Int that is not negative and has one word at most. -/
def IsInt (lo : Nat) (W : World) (B : Nat) (x : Nat) : Prop := lo ≤ B ∧ ∃ z, W.heap[B]? = some (.cells #[.bool false, z] 67 (0, 0)) ∧ IsNat lo W z x
theorem infoI : (Tryz.prog.info? 67).map (·.size) = some 2 := by kernel_rfl
theorem ptr_ne {B C : Nat} {w : World} {ca cb : Array Value} {ta tb : TypeId} (ha : w.heap[B]? = some (.cells ca ta (0, 0))) (hb : w.heap[C]? = some (.cells cb tb (0, 0))) (hne : B ≠ C) :
    (binOp BinOp.eql 63 (.pointer (some ⟨B, 0, none⟩)) (.pointer (some ⟨C, 0, none⟩))).run Tryz.prog w = .ok (.bool false) w := by
  obtain ⟨j, hj, hs⟩ := Option.map_eq_some_iff.1 infoI
  exact run_eql_ptr_other w Tryz.underlying63 hj (by omega) (fun e => hne (by cases e; rfl)) ha hb
/-- What a store of a number into block B leaves. -/
theorem after_store {lo B C p : Nat} {w w1 : World} {z u : Value} {A4 : Option Addr} {l4 c4 : Nat} (hlo : lo ≤ w.heap.size) (hlB : lo ≤ B) (hne : B ≠ C) (hgB : ∀ k, z.ownBlock = some k → lo ≤ k) (hn : IsNat lo w1 (.slice A4 l4 c4) p) (hg : w.drew.grownBy w1 z.ownBlock)
    (hb : w1.heap[B]? = some (.cells #[.bool false, z] 67 (0, 0))) (hc : w1.heap[C]? = some (.cells #[.bool false, u] 67 (0, 0))) :
    Aside0 (l4 = if p = 0 then 0 else 1) ∧ Aside0 ((w1.setCell ⟨B, 1, none⟩ (.slice A4 l4 c4)).heap[B]? = some (.cells #[.bool false, .slice A4 l4 c4] 67 (0, 0))) ∧ Aside0 ((w1.setCell ⟨B, 1, none⟩ (.slice A4 l4 c4)).heap[C]? = some (.cells #[.bool false, u] 67 (0, 0))) ∧
    Aside0 (IsNat lo (w1.setCell ⟨B, 1, none⟩ (.slice A4 l4 c4)) (.slice A4 l4 c4) p) ∧ Aside0 (Below lo w (w1.setCell ⟨B, 1, none⟩ (.slice A4 l4 c4))) := by
  have hbel : Below lo w w1 := (Below.refl lo w).drew.grown hg hlo hgB
  refine ⟨⟨hn.cap.1⟩, ⟨blk_set hb 1 _⟩, ⟨blk_far hc (fun e => hne e.symm) _⟩, ⟨hn.keep fun k hk he => Below.heap_setCell _ _ _ k (fun e => ?_)⟩, ⟨hbel.setCell hlB _⟩⟩
  subst k
  obtain ⟨A', c', e', ⟨_, hcz, _⟩ | ⟨g', cs, e1, hb', _⟩⟩ := hn
  · cases e'; simp_all [Value.ownBlock]
  · cases e'; subst e1
    have : g' = B := by simpa [Value.ownBlock] using he.symm
    exact blk_ne hb hb'.blk (by decide) this.symm
theorem after_neg {lo B p : Nat} {w wc : World} {A4 : Option Addr} {l4 c4 : Nat} (hlB : lo ≤ B) (HB1 : wc.heap[B]? = some (.cells #[.bool false, .slice A4 l4 c4] 67 (0, 0))) (HN1 : IsNat lo wc (.slice A4 l4 c4) p) (HBL : Below lo w wc) :
    IsInt lo (wc.setCell ⟨B, 0, none⟩ (.bool false)) B p ∧ Below lo w (wc.setCell ⟨B, 0, none⟩ (.bool false)) := by
  refine ⟨⟨hlB, .slice A4 l4 c4, blk_set HB1 0 (.bool false), HN1.keep fun k hk he => Below.heap_setCell wc ⟨B, 0, none⟩ _ k (fun e => ?_)⟩, HBL.setCell hlB _⟩
  subst k
  obtain ⟨A', c', e', ⟨_, hcz, _⟩ | ⟨g', cs, e1, hb, _⟩⟩ := HN1
  · cases e'; simp_all [Value.ownBlock]
  · cases e'; subst e1
    have : g' = B := by simpa [Value.ownBlock] using he.symm
    exact blk_ne HB1 hb.blk (by decide) this.symm
set_option maxHeartbeats 4000000 in
set_option maxRecDepth 100000 in
theorem int_mul (lo B C x y : Nat) (q : Value) (w : World) (hlo : lo ≤ w.heap.size) (hB : IsInt lo w B x) (hC : IsInt lo w C y) (hne : B ≠ C) (hx : x < M64) (hy : y < M64) (hp : x * y < M64) :
    Calls Tryz.prog 59 #[.pointer (some ⟨B, 0, none⟩), q, .pointer (some ⟨B, 0, none⟩), .pointer (some ⟨C, 0, none⟩)] w fun e w' => e = .returned (.tuple #[]) ∧ IsInt lo w' B (x * y) ∧ Below lo w w' := by
  obtain ⟨hlB, z, hbz, hnz⟩ := hB
  obtain ⟨hlC, u, hbu, hnu⟩ := hC
  have hM := nat_mul lo z z u q x x y w.drew hlo (hnz.keep fun _ _ _ => rfl) (hnz.keep fun _ _ _ => rfl) (hnu.keep fun _ _ _ => rfl) hx hy hp
  have hoB : ∀ g, g < w.heap.size → z.ownBlock = some g → B ≠ g ∧ C ≠ g := by
    intro g hg he
    obtain ⟨A', c', e, ⟨rfl, _, _⟩ | ⟨g', cs, rfl, hb, _⟩⟩ := hnz
    · rw [e] at he; simp [Value.ownBlock] at he
    · rw [e] at he
      have : g' = g := by simpa [Value.ownBlock] using he
      subst this
      exact ⟨blk_ne hbz hb.blk (by decide), blk_ne hbu hb.blk (by decide)⟩
  have hrow : ∀ k, k = B ∨ k = C → some k ≠ z.ownBlock := by
    intro k hk he
    rcases hk with rfl | rfl
    · exact (hoB k (blk_lt hbz) he.symm).1 rfl
    · exact (hoB k (blk_lt hbu) he.symm).2 rfl
  have c0 : w.cell? ⟨B, 0, none⟩ = some (.bool false) := (blk_cell hbz 0).trans rfl
  have c1 : w.cell? ⟨B, 1, none⟩ = some z := (blk_cell hbz 1).trans rfl
  have d0 : w.cell? ⟨C, 0, none⟩ = some (.bool false) := (blk_cell hbu 0).trans rfl
  have d1 : w.cell? ⟨C, 1, none⟩ = some u := (blk_cell hbu 1).trans rfl
  have heq : (binOp BinOp.eql 63 (.pointer (some ⟨B, 0, none⟩)) (.pointer (some ⟨C, 0, none⟩))).run Tryz.prog w = .ok (.bool false) w := ptr_ne hbz hbu hne
  have hlo0 : Aside0 (∀ k, z.ownBlock = some k → lo ≤ k) := ⟨by
    intro k he
    obtain ⟨A', c', e, ⟨rfl, _, _⟩ | ⟨g', cs, rfl, hb, _⟩⟩ := hnz
    · rw [e] at he; simp [Value.ownBlock] at he
    · rw [e] at he
      have : g' = k := by simpa [Value.ownBlock] using he
      subst this
      exact hb.lo⟩
  have HNE := Aside0.mk hne
  have HM := Aside0.mk hM
  have HBZ := Aside0.mk (And.intro (blk_drew hbz) (blk_drew hbu))
  have HR := Aside0.mk hrow
  clear hM hbz hbu hnz hnu hoB hrow hne hx hy hp
  go_enter Tryz.func59, Tryz.ntmps59
  go_wp2
  clear heq
  go_cut [] (fun wx => ∃ A4 l4 c4, Aside0 (l4 = if x * y = 0 then 0 else 1) ∧ Aside0 (wx.heap[B]? = some (.cells #[.bool false, .slice A4 l4 c4] 67 (0, 0))) ∧ Aside0 (wx.heap[C]? = some (.cells #[.bool false, u] 67 (0, 0))) ∧ Aside0 (IsNat lo wx (.slice A4 l4 c4) (x * y)) ∧ Aside0 (Below lo w wx))
  case first =>
    go_region_with ((go_at_call 78; (with_reducible refine HM.out.mono ?_); rintro e w1 ⟨v, rfl, h1, h2⟩; obtain ⟨A4, l4, c4, e4⟩ := IsNat.val h1; subst e4; have hb1 := blk_grown HBZ.out.1 h2 (HR.out B (.inl rfl)); have hb2 := blk_grown HBZ.out.2 h2 (HR.out C (.inr rfl)); have e0 : w1.cell? ⟨B, 0, none⟩ = some (.bool false) := (blk_cell hb1 0).trans rfl; have e1 : w1.cell? ⟨B, 1, none⟩ = some z := (blk_cell hb1 1).trans rfl; have e2 := blk_frozen hb1 1; have e3 := blk_frozen hb1 0; have H1 := Aside0.mk (And.intro h1 (And.intro h2 (And.intro hb1 hb2))); clear h1 h2 hb1 hb2))
    all_goals
      go_wp2_with fail
      go_meet
      case rel =>
        exact ⟨A4, l4, c4, after_store hlo hlB HNE.out hlo0.out H1.out.1 H1.out.2.1 H1.out.2.2.1 H1.out.2.2.2⟩
  case rest =>
    obtain ⟨A4, l4, c4, HL, HB1, HC1, HN1, HBL⟩ := hcut
    clear c0 c1 d0 d1 HM HBZ HR
    have c0 : wc.cell? ⟨B, 0, none⟩ = some (.bool false) := (blk_cell HB1.out 0).trans rfl
    have c1 : wc.cell? ⟨B, 1, none⟩ = some (.slice A4 l4 c4) := (blk_cell HB1.out 1).trans rfl
    have d0 : wc.cell? ⟨C, 0, none⟩ = some (.bool false) := (blk_cell HC1.out 0).trans rfl
    have f0 := blk_frozen HB1.out 0
    have fin : ∀ w', w' = (wc.setCell ⟨B, 0, none⟩ (.bool false)).drew → IsInt lo w' B (x * y) ∧ Below lo w w' := by
      rintro w' rfl
      obtain ⟨⟨h1, z', h2, h3⟩, h4⟩ := after_neg hlB HB1.out HN1.out HBL.out
      exact ⟨⟨h1, z', h2, h3.keep fun _ _ _ => rfl⟩, h4.drew⟩
    have HF := Aside0.mk fin
    clear fin
    go_wp2_with fail
    by_cases hz0 : x * y = 0
    · have hl4 : l4 = 0 := by rw [HL.out, if_pos hz0]
      subst hl4
      clear hz0
      go_region
      all_goals (go_wp2; go_end0)
      all_goals exact ⟨rfl, HF.out _ rfl⟩
    · have hl4 : l4 = 1 := by rw [HL.out, if_neg hz0]
      subst hl4
      clear hz0
      go_region
      all_goals (go_wp2; go_end0)
      all_goals exact ⟨rfl, HF.out _ rfl⟩
theorem int_Mul (lo B C x y : Nat) (w : World) (hlo : lo ≤ w.heap.size) (hB : IsInt lo w B x) (hC : IsInt lo w C y) (hne : B ≠ C) (hx : x < M64) (hy : y < M64) (hp : x * y < M64) :
    Calls Tryz.prog 34 #[.pointer (some ⟨B, 0, none⟩), .pointer (some ⟨B, 0, none⟩), .pointer (some ⟨C, 0, none⟩)] w fun e w' => e = .returned (.pointer (some ⟨B, 0, none⟩)) ∧ IsInt lo w' B (x * y) ∧ Below lo w w' := by
  have HM := Aside0.mk (int_mul lo B C x y (.pointer none) w hlo hB hC hne hx hy hp)
  clear hB hC hne
  go_enter Tryz.func34, Tryz.ntmps34
  go_wp2_with (go_at_call 59; (with_reducible refine HM.out.mono ?_); rintro e w' ⟨rfl, h1, h2⟩; have H := Aside0.mk (And.intro h1 h2); clear h1 h2)
  go_ret
  exact ⟨rfl, H.out⟩
end Go.Proofs.YtkplhpnhjfdelaaGreatDoor.BF
namespace Go.Proofs.YtkplhpnhjfdelaaGreatDoor.BG
open Go.RowKit Go.Proofs.YtkplhpnhjfdelaaGreatDoorW.PrintWords Go.Proofs.YtkplhpnhjfdelaaGreatDoorW.PrintLast Go.Proofs.YtkplhpnhjfdelaaGreatDoorW.PrintMore Go.Proofs.YtkplhpnhjfdelaaGreatDoor.PPermCycles Go.Proofs.YtkplhpnhjfdelaaGreatDoor.BA Go.Proofs.YtkplhpnhjfdelaaGreatDoor.BB Go.Proofs.YtkplhpnhjfdelaaGreatDoor.BC Go.Proofs.YtkplhpnhjfdelaaGreatDoor.BD Go.Proofs.YtkplhpnhjfdelaaGreatDoor.BE Go.Proofs.YtkplhpnhjfdelaaGreatDoor.BF
set_option linter.unusedVariables false
set_option linter.unusedSimpArgs false
/-- What a call on the numbers in blocks B and C finds. -/
structure Two (lo B C : Nat) (z u : Value) (x y : Nat) (w : World) : Prop where
  size : lo ≤ w.heap.size
  b : w.heap[B]? = some (.cells #[.bool false, z] 67 (0, 0))
  c : w.heap[C]? = some (.cells #[.bool false, u] 67 (0, 0))
  n : IsNat lo w z x
  m : IsNat lo w u y
theorem Two.drewN {lo B C : Nat} {z u : Value} {x y : Nat} {w : World} (h : Two lo B C z u x y w) (n : Nat) : Two lo B C z u x y (w.drewN n) := ⟨h.size, h.b, h.c, h.n.keep fun _ _ _ => rfl, h.m.keep fun _ _ _ => rfl⟩
theorem Two.own {lo B C : Nat} {z u : Value} {x y : Nat} {w : World} (h : Two lo B C z u x y w) : (∀ k, k = B ∨ k = C → some k ≠ z.ownBlock) ∧ ∀ k, z.ownBlock = some k → lo ≤ k := by
  obtain ⟨A', c', e, ⟨rfl, _, _⟩ | ⟨g', cs, rfl, hb, _⟩⟩ := h.n
  · rw [e]; simp [Value.ownBlock]
  · rw [e]
    refine ⟨fun k hk he => ?_, fun k he => ?_⟩
    · have : k = g' := by simpa [Value.ownBlock] using he
      subst this
      rcases hk with rfl | rfl
      · exact blk_ne h.b hb.blk (by decide) rfl
      · exact blk_ne h.c hb.blk (by decide) rfl
    · have : g' = k := by simpa [Value.ownBlock] using he
      subst this
      exact hb.lo
set_option maxHeartbeats 4000000 in
set_option maxRecDepth 100000 in
theorem int_Add (lo B C x y : Nat) (w : World) (hlo : lo ≤ w.heap.size) (hB : IsInt lo w B x) (hC : IsInt lo w C y) (hne : B ≠ C) (hp : x + y < M64) :
    Calls Tryz.prog 36 #[.pointer (some ⟨B, 0, none⟩), .pointer (some ⟨B, 0, none⟩), .pointer (some ⟨C, 0, none⟩)] w fun e w' => e = .returned (.pointer (some ⟨B, 0, none⟩)) ∧ IsInt lo w' B (x + y) ∧ Below lo w w' := by
  obtain ⟨hlB, z, hbz, hnz⟩ := hB
  obtain ⟨hlC, u, hbu, hnu⟩ := hC
  have HT : Aside0 (Two lo B C z u x y w) := ⟨⟨hlo, hbz, hbu, hnz, hnu⟩⟩
  have c0 : w.cell? ⟨B, 0, none⟩ = some (.bool false) := (blk_cell hbz 0).trans rfl
  have c1 : w.cell? ⟨B, 1, none⟩ = some z := (blk_cell hbz 1).trans rfl
  have d0 : w.cell? ⟨C, 0, none⟩ = some (.bool false) := (blk_cell hbu 0).trans rfl
  have d1 : w.cell? ⟨C, 1, none⟩ = some u := (blk_cell hbu 1).trans rfl
  have HNE := Aside0.mk hne
  have HP := Aside0.mk hp
  clear hbz hbu hnz hnu hne hp
  go_enter Tryz.func36, Tryz.ntmps36
  go_wp2
  go_quiet (fail)
  obtain ⟨wq, hwq⟩ : ∃ wq : World, wq = w.drewN nq := ⟨_, rfl⟩
  rw [← hwq]
  have hTq : Two lo B C z u x y wq := by rw [hwq]; exact HT.out.drewN nq
  have hWQ : Aside0 (Below lo w wq) := ⟨by rw [hwq]; exact pw_below_drewN (Below.refl _ _) _⟩
  clear hwq c0 c1 d0 d1
  have hM := nat_add lo z z u x x y wq.drew hTq.size (hTq.n.keep fun _ _ _ => rfl) (hTq.n.keep fun _ _ _ => rfl) (hTq.m.keep fun _ _ _ => rfl) HP.out
  have c0 : wq.cell? ⟨B, 0, none⟩ = some (.bool false) := (blk_cell hTq.b 0).trans rfl
  have c1 : wq.cell? ⟨B, 1, none⟩ = some z := (blk_cell hTq.b 1).trans rfl
  have d0 : wq.cell? ⟨C, 0, none⟩ = some (.bool false) := (blk_cell hTq.c 0).trans rfl
  have d1 : wq.cell? ⟨C, 1, none⟩ = some u := (blk_cell hTq.c 1).trans rfl
  have HR := Aside0.mk hTq.own
  have HM := Aside0.mk hM
  have HTq := Aside0.mk hTq
  clear hM hTq HT
  go_wp2_with fail
  go_cut [7] (fun v7 wx => v7 = .bool false ∧ ∃ A4 l4 c4, Aside0 (l4 = if x + y = 0 then 0 else 1) ∧ Aside0 (wx.heap[B]? = some (.cells #[.bool false, .slice A4 l4 c4] 67 (0, 0))) ∧ Aside0 (wx.heap[C]? = some (.cells #[.bool false, u] 67 (0, 0))) ∧ Aside0 (IsNat lo wx (.slice A4 l4 c4) (x + y)) ∧ Aside0 (Below lo wq wx))
  case first =>
    go_region_with ((go_at_call 60; (with_reducible refine HM.out.mono ?_); rintro e w1 ⟨v, rfl, h1, h2⟩; obtain ⟨A4, l4, c4, e4⟩ := IsNat.val h1; subst e4; have hb1 := blk_grown (blk_drew HTq.out.b) h2 (HR.out.1 B (.inl rfl)); have hb2 := blk_grown (blk_drew HTq.out.c) h2 (HR.out.1 C (.inr rfl)); have e0 : w1.cell? ⟨B, 0, none⟩ = some (.bool false) := (blk_cell hb1 0).trans rfl; have e1 : w1.cell? ⟨B, 1, none⟩ = some z := (blk_cell hb1 1).trans rfl; have e2 := blk_frozen hb1 1; have e3 := blk_frozen hb1 0; have H1 := Aside0.mk (And.intro h1 (And.intro h2 (And.intro hb1 hb2))); clear h1 h2 hb1 hb2))
    all_goals
      go_wp2_with fail
      go_meet
      case rel =>
        exact ⟨rfl, A4, l4, c4, after_store HTq.out.size hlB HNE.out HR.out.2 H1.out.1 H1.out.2.1 H1.out.2.2.1 H1.out.2.2.2⟩
  case rest =>
    obtain ⟨rfl, A4, l4, c4, HL, HB1, HC1, HN1, HBL⟩ := hcut
    clear c0 c1 d0 d1 HM HR HTq
    have c0 : wc.cell? ⟨B, 0, none⟩ = some (.bool false) := (blk_cell HB1.out 0).trans rfl
    have c1 : wc.cell? ⟨B, 1, none⟩ = some (.slice A4 l4 c4) := (blk_cell HB1.out 1).trans rfl
    have f0 := blk_frozen HB1.out 0
    have HF := Aside0.mk (after_neg hlB HB1.out HN1.out (hWQ.out.trans HBL.out))
    by_cases hz0 : x + y = 0
    · have hl4 : l4 = 0 := by rw [HL.out, if_pos hz0]
      subst hl4
      clear hz0
      go_wp2
      go_ret
      exact ⟨rfl, HF.out⟩
    · have hl4 : l4 = 1 := by rw [HL.out, if_neg hz0]
      subst hl4
      clear hz0
      go_wp2
      go_ret
      exact ⟨rfl, HF.out⟩
/-- NewInt of a number that fits one word's half. -/
theorem new_int (lo : Nat) (x : Nat) (w : World) (hlo : lo ≤ w.heap.size) (h1 : x < 4294967296) :
    Calls Tryz.prog 35 #[.int .i64 x] w fun e w' => ∃ B, e = .returned (.pointer (some ⟨B, 0, none⟩)) ∧ w.heap.size ≤ B ∧ IsInt lo w' B x ∧ Below w.heap.size w w' := by
  go_enter Tryz.func35, Tryz.ntmps35
  by_cases hx : x = 0
  · subst hx
    go_wp2
    refine bodyPost_ret (results_tmp rfl _ _ _) rfl ⟨w.heap.size, rfl, Nat.le_refl _, ⟨hlo, _, heap_alloc_new w _, IsNat.nil _ _⟩, (Below.refl _ _).alloc (Nat.le_refl _) _⟩
  · have hx1 : ((x : Int) == 0) = false := by simpa using hx
    have hx2 : decide ((x : Int) < 0) = false := decide_eq_false (by omega)
    go_wp2
    have h2 := heap_alloc_new (w.alloc (Obj.cells #[Value.int IntKind.u64 x] 88)) (Obj.cells #[Value.bool false, Value.slice (some ⟨w.heap.size, 0, none⟩) 1 1] 67)
    rw [World.size_alloc] at h2
    have h3 : ((w.alloc (Obj.cells #[Value.int IntKind.u64 x] 88)).alloc (Obj.cells #[Value.bool false, Value.slice (some ⟨w.heap.size, 0, none⟩) 1 1] 67)).heap[w.heap.size]? = some (.cells #[.int .u64 x] 88 (0, 0)) := (Below.heap_alloc _ _ _ (by simp)).trans (heap_alloc_new w _)
    refine bodyPost_ret (results_tmp rfl _ _ _) rfl ⟨w.heap.size + 1, rfl, by omega, ⟨by omega, _, h2, ⟨_, 1, by rw [if_neg hx], .inr ⟨w.heap.size, _, rfl, ⟨hlo, h3, rfl, Nat.le_refl _, by omega⟩, fun _ => rfl⟩⟩⟩, ((Below.refl _ _).alloc (Nat.le_refl _) _).alloc (by simp) _⟩
end Go.Proofs.YtkplhpnhjfdelaaGreatDoor.BG
