/- perm.cycles, handed the yield of a range over a function. Written by cyygen.py out of CY. perm.Cycles: one round of its loop over perm.cycles. Written by cycgen.py. perm.Cycles. perm.cycles, handed the yield of a range over a function, whatever the loop keeps. Written by cyggen.py out of CYY. perm.Cycles of a list that is no permutation: the fault that Check says. -/
import Derived.Test.YtkplhpnhjfdelaaGreatDoorGA
import Derived.RangeFuncNested
import Derived.RangeFuncBound
import Derived.RangeFuncCalls
import Derived.RangeFuncLeaves
import Derived.Shelf.Abstract
import Derived.Shelf.RegionOpen
import Derived.OwnWalkIn
import Derived.TacticsInMore
import Derived.LoopNIn
import Derived.LoopIn
import Derived.Maps.OwnIn
namespace Go.Proofs.YtkplhpnhjfdelaaGreatDoor.CYY
open Go.RowKit Go.Proofs.YtkplhpnhjfdelaaGreatDoorW.PrintWords Go.Proofs.YtkplhpnhjfdelaaGreatDoorW.PrintLast Go.Proofs.YtkplhpnhjfdelaaGreatDoorW.PrintMore Go.Proofs.YtkplhpnhjfdelaaGreatDoor.CL Go.Proofs.YtkplhpnhjfdelaaGreatDoor.CY
set_option linter.unusedVariables false
set_option linter.unusedSimpArgs false
/-- What the rounds of a loop promise: each cycle is put into the list (or left out, as fl says). -/
def TakesY (l lo B : Nat) (Ex : World → Prop) (fl : List (List Int) → List (List Int)) : Prop := ∀ (acc : List (List Int)) (c : List Int) (cv : Value) (W : World), Acc lo B (fl acc) W → Ex W → acc.length ≤ 100000 → Kd.R (Kd.int .i64) 3 W lo (fun _ => True) cv c →
  YieldAt Fence.wide 0 Tryz.prog l #[cv] W fun e W' => e = .returned (.bool true) ∧ Acc lo B (fl (acc ++ [c])) W' ∧ FB lo B W W' ∧ KeepsBools W W'
set_option maxHeartbeats 4000000 in
set_option maxRecDepth 100000 in
theorem cycles_yield (k l : Nat) (Ex : World → Prop) (fl : List (List Int) → List (List Int))
    (B : Nat) (A : Option Addr) (cap : Nat) (p : List Int) (r : List (List Int)) (w : World) (ht : TakesY l w.heap.size B Ex fl) (hex : ∀ W', FB w.heap.size B w W' → Ex W') (hn : p.length ≤ 1000) (hB : B < w.heap.size) (h0 : Acc w.heap.size B (fl []) w)
    (hp : ∀ W', FB w.heap.size B w W' → Kd.C (Kd.int .i64) W' A p.length p) (h : cycOut k p (List.replicate p.length false) 0 [] = some r) :
    Calls Tryz.prog 17 #[.slice A p.length cap, .func (.yield l) #[] #[]] w fun e w' => e = .returned (.tuple #[]) ∧ Acc w.heap.size B (fl r) w' ∧ FB w.heap.size B w w' := by
  have HP := Aside0.mk hp
  have HA0 := Aside0.mk h0
  have H' := Aside0.mk h
  have HT := Aside0.mk ht
  have HEX := Aside0.mk hex
  clear hp h0 h ht hex
  go_enter Tryz.func17, Tryz.ntmps17
  go_wp2_with (first | ((with_reducible refine gate_dst (N := 10) rfl ?_); refine Kd.R_make Kd.bool w.heap.size 4 rfl (N := 10) rfl 58 _ _ rfl (p.length : Int) rfl rfl Tryz.underlying58 (.bool false) 1 info4 rfl (by decide) (by omega) false (ok := fun _ => True) (okp := fun _ => True) rfl (fun _ hk => hk) trivial (by omega) (by omega) (Below.refl _ _) (Nat.le_refl _) ?_; intro vh w1 hoh hbh hgh hnewh; rw [Int.toNat_natCast] at hoh; have HH := Aside0.mk hoh; have HB := Aside0.mk hbh; have HNEW := Aside0.mk hgh; clear hoh hbh hgh hnewh))
  have hlh : (List.replicate p.length false).length = p.length := List.length_replicate
  go_loopg [13] k (fun kq v13 wr => ∃ (i : Int) (hadl : List Bool) (acc : List (List Int)), v13 = .int .i64 i ∧ 0 ≤ i ∧ i ≤ 1000 ∧ (acc.length : Int) ≤ i ∧ Aside0 (cycOut kq p hadl i acc = some r) ∧ Aside0 (kq ≤ k) ∧ Aside0 (hadl.length = p.length) ∧ Aside0 (Kd.R Kd.bool 4 wr w.heap.size (fun _ => True) vh hadl) ∧ Aside0 (Acc w.heap.size B (fl acc) wr) ∧ Aside0 (FB w.heap.size B w wr))
  case atStart =>
    refine ⟨0, _, _, rfl, by omega, by omega, by simp, H', ⟨Nat.le_refl _⟩, ⟨hlh⟩, HH, ⟨?_⟩, ⟨FB.of_below HB.out⟩⟩
    exact HA0.out.below HB.out
  case round =>
    obtain ⟨i, hadl, acc, rfl, hi0, hi1, hacc, HA, HK, HL, HO, HC, HFB⟩ := hrel
    cases gk with
    | zero => exact absurd HA.out (by simp [cycOut])
    | succ k1 =>
      have H := HA.out
      clear HA
      simp only [cycOut] at H
      by_cases c1 : i < (p.length : Int)
      · rw [if_pos c1] at H
        obtain ⟨g1, cp1, e1, gb1, gl1, cl1, HG1⟩ := Kd.R_form HO.out (by have := HL.out; omega)
        subst e1
        have e2 := HL.out
        obtain ⟨hx1, hf1⟩ := Kd.R_celln false HO.out i hi0 (by omega)
        have hq1 : i < (hadl.length : Int) := by omega
        have E2 := Aside0.mk e2
        clear e2
        by_cases c2 : rdOf false hadl i = true
        · rw [if_pos c2] at H
          rw [c2] at hx1
          have H' := Aside0.mk H
          clear H c2
          go_wp2
          go_roundg k1
          case measure => omega
          case rel => exact ⟨i + 1, hadl, acc, rfl, by omega, by omega, by omega, H', ⟨by have := HK.out; omega⟩, HL, HO, HC, HFB⟩
        · rw [if_neg c2] at H
          have c2f : rdOf false hadl i = false := by simpa using c2
          rw [c2f] at hx1
          obtain ⟨⟨had', c'⟩, H1, H2⟩ := Option.bind_eq_some_iff.1 H
          have H1 := Aside0.mk H1
          have H2 := Aside0.mk H2
          clear H c2 c2f
          go_wp2_with fail
          obtain ⟨W0, rfl⟩ : ∃ W0 : World, W0 = wr := ⟨_, rfl⟩
          have hlo := Nat.le_trans (FB.refl w.heap.size B w).1 HFB.out.1
          have gH : g1 < W0.heap.size := blk_lt HG1
          go_loopg [6, 7] k1 (fun kq v6 v7 wq => ∃ (c : List Int) (x : Int) (hadq : List Bool), v7 = .int .i64 x ∧ Aside0 (cycIn kq p hadq c x = some (had', c')) ∧ Aside0 (kq ≤ k1) ∧ Aside0 (Kd.R Kd.bool 4 wq w.heap.size (fun _ => True) (.slice (some ⟨g1, 0, none⟩) hadl.length cp1) hadq) ∧ Aside0 (Kd.R (Kd.int .i64) 3 wq W0.heap.size (fun _ => True) v6 c) ∧ Aside0 (W0.grownBy wq (some g1)))
          case atStart => exact ⟨[], i, hadl, rfl, H1, ⟨Nat.le_refl _⟩, HO, ⟨Kd.R_nil _ _ _ _ _⟩, ⟨World.grownBy.refl _ _⟩⟩
          case round =>
            obtain ⟨c, x, hadq, rfl, HA, HKq, HOq, HCq, HKB⟩ := hrel
            cases gk with
            | zero => exact absurd HA.out (by simp [cycIn])
            | succ k2 =>
              have H := HA.out
              clear HA
              simp only [cycIn] at H
              by_cases c3 : 0 ≤ x
              · rw [if_pos c3] at H
                by_cases c4 : x < (p.length : Int)
                · rw [if_pos c4] at H
                  have hq3 : x < (hadl.length : Int) := by have := E2.out; omega
                  obtain ⟨hx3, hf3⟩ := Kd.R_celln false HOq.out x c3 hq3
                  by_cases c5 : rdOf false hadq x = true
                  · rw [if_pos c5] at H
                    rw [c5] at hx3
                    simp only [Option.some.injEq, Prod.mk.injEq] at H
                    obtain ⟨rfl, rfl⟩ := H
                    clear c5
                    have hacc2 := HC.out.keep HG1 HKB.out
                    have hfb0 := HFB.out.trans (kb_fb HKB.out hlo gb1)
                    have HA2 := Aside0.mk hacc2
                    have HF0 := Aside0.mk hfb0
                    clear hacc2 hfb0
                    go_upto_region 11 with (fail)
                    obtain ⟨fny, tmpsy, assigny, bodyy, hy, hR⟩ := HT.out acc c u6 wr HA2.out (HEX.out wr HF0.out) (by omega) (Kd.R_lower HCq.out hlo)
                    refine (wpIn_wide (n := 1)).1 ?_
                    gi_wp2
                    refine hR.mono ?_
                    rintro e W2 ⟨rfl, ha3, hf3, hb3⟩
                    have HA3 := Aside0.mk ha3
                    have HF3 := Aside0.mk (HF0.out.trans hf3)
                    have HO3 := Aside0.mk (bools_keep HOq.out hb3)
                    clear ha3 hf3 hb3 hy hR
                    gi_wp2
                    go_wp2
                    go_roundg k1
                    case measure => omega
                    case rel => exact ⟨i + 1, hadq, acc ++ [c], rfl, by omega, by omega, by simp only [List.length_append, List.length_cons, List.length_nil]; omega, H2, ⟨by have := HK.out; omega⟩, ⟨by have h1 := (Kd.R_reads' HOq.out).1; have h2 := E2.out; omega⟩, HO3, HA3, HF3⟩
                  · rw [if_neg c5] at H
                    have c5f : rdOf false hadq x = false := by simpa using c5
                    rw [c5f] at hx3
                    by_cases c6 : 100000 ≤ c.length
                    · rw [if_pos c6] at H
                      exact absurd H (by simp)
                    · rw [if_neg c6] at H
                      have H' := Aside0.mk H
                      have HPT := Aside0.mk (Kd.R_putg HOq.out x true)
                      have hFq : FB w.heap.size B w wr := HFB.out.trans (kb_fb HKB.out hlo gb1)
                      clear H c5 c5f
                      go_wp2_with (first
                        | ((with_reducible refine gate_store (t := 4) (p := 32) rfl ?_); refine store_event (t := 4) (p := 32) (v := ?vo) (w1 := (wr.setCell ⟨g1, x.toNat, none⟩ (.bool true))) ?hg ?ho ?hn ?hr ?_; (case ho => rfl); (case hg => rfl); (case hn => rfl); (case hr => first | (go_simp; done) | (go_simp; rfl)); intro w32 hw; have hg : wr.grownBy w32 (some g1) := (by rw [hw]; exact HPT.out.2); have ho2 : Kd.R Kd.bool 4 w32 w.heap.size (fun _ => True) (.slice (some ⟨g1, 0, none⟩) hadl.length cp1) (hadq.set x.toNat true) := (by rw [hw]; exact HPT.out.1); have hkb := keep_put HKB.out hg; have hc2 := row_put HCq.out hg gH; have HO2 := Aside0.mk ho2; have HKB2 := Aside0.mk hkb; have HC2 := Aside0.mk hc2; clear hw hg ho2 hkb hc2 HPT HOq HKB HCq hx3 hf3)
                        | ((with_reducible refine gate_dst (N := 36) rfl ?_); at_builtin; refine Kd.R_append (Kd.int .i64) (w0 := w32) W0.heap.size rfl (.tmp 33) (.tmp 35) 22 3 (.int .i64 0) 8 rfl Tryz.underlying22 OW.info3 rfl (by decide) (by omega) u6 c x [.int .i64 x] (fun _ => True) (fun _ => False) rfl rfl ?aP (fun _ hk => hk.elim) (fun _ _ => trivial) HC2.out (Below.refl _ _) HKB2.out.size ?aL ?_; (case aP => exact rfl); (case aL => omega); intro v1 w33 ho1 hb1 hg1 hat1; have hkb3 := keep_own HKB2.out HC2.out hg1; have hob3 := Kd.R_over HO2.out HC2.out (by decide) hg1; obtain ⟨ad, ea, hxp⟩ := Kd.at_int (HP.out w33 (HFB.out.trans (kb_fb hkb3 hlo gb1))) x c3 c4; subst ea; have HC3 := Aside0.mk ho1; have HKB3 := Aside0.mk hkb3; have HO3 := Aside0.mk hob3; clear ho1 hb1 hg1 hat1 hkb3 hob3 HC2 HKB2 HO2))
                      go_roundg k2
                      case measure => omega
                      case rel => exact ⟨c ++ [x], rd p x, hadq.set x.toNat true, rfl, H', ⟨by have := HKq.out; omega⟩, HO3, HC3, HKB3⟩
                · rw [if_neg c4] at H
                  exact absurd H (by simp)
              · rw [if_neg c3] at H
                exact absurd H (by simp)
      · rw [if_neg c1] at H
        simp only [Option.some.injEq] at H
        subst H
        go_wp2
        go_end0
        exact ⟨rfl, HC.out, HFB.out⟩
end Go.Proofs.YtkplhpnhjfdelaaGreatDoor.CYY
namespace Go.Proofs.YtkplhpnhjfdelaaGreatDoor.CYR
open Go.RowKit Go.Proofs.YtkplhpnhjfdelaaGreatDoorW.PrintWords Go.Proofs.YtkplhpnhjfdelaaGreatDoorW.PrintLast Go.Proofs.YtkplhpnhjfdelaaGreatDoorW.PrintMore Go.Proofs.YtkplhpnhjfdelaaGreatDoor.CL Go.Proofs.YtkplhpnhjfdelaaGreatDoor.CY Go.Proofs.YtkplhpnhjfdelaaGreatDoor.CYY
set_option linter.unusedVariables false
set_option linter.unusedSimpArgs false
attribute [local go_sem] Oper.semAt_some
def rfOf : Code → Option (Code × Code)
  | .rangeFunc _ _ a b => some (a, b)
  | .seq a b => match rfOf a with
    | some c => some c
    | none => rfOf b
  | .block _ c => rfOf c
  | _ => none
noncomputable def asg : Code := ((Tryz.f5.body.bind rfOf).map (·.1)).getD .skip
noncomputable def bod : Code := ((Tryz.f5.body.bind rfOf).map (·.2)).getD .skip
/-- The cycles of more than one point. -/
def big (acc : List (List Int)) : List (List Int) := acc.filter (fun c => decide (1 < c.length))
/-- The loop's record. -/
noncomputable def rec0 (fn : FuncId) (D : Nat) (tmps : Array Value) : Loop := { state := .ready, pending := none, fn := fn, tmps := tmps, params := #[14], assign := asg, body := bod, defers := D }
theorem acc_put {lo B l : Nat} {acc : List (List Int)} {W : World} {o : Obj} (h : Acc lo B acc W) (hl : l < lo) (hlB : l ≠ B) : Acc lo B acc (W.putObj l o) := by
  obtain ⟨h1, h2, v, h3, h4⟩ := h
  refine ⟨by simpa using h1, by simpa using h2, v, (World.putObj_heap_other (Ne.symm hlB)).trans h3, ?_⟩
  exact Kd.R_mono (Kd.R_move (R_lo h4) (fun k hk => World.putObj_heap_other (by have := hk.1; omega))) (fun _ _ => trivial)
theorem fb_round {lo B l : Nat} {W W3 : World} {ob : Obj} {o0 : Obj} (hl : W.heap[l]? = some o0) (hlB : l ≠ B) (h : FB lo B (W.putObj l ob) W3) (hs : l < W3.heap.size) : FB lo B W (W3.putObj l o0) := by
  obtain ⟨h1, h2, h3⟩ := h
  refine ⟨by simpa using h1, fun k hk hb => ?_, h3⟩
  by_cases e : k = l
  · subst e; rw [World.putObj_heap_same hs, hl]
  · rw [World.putObj_heap_other e, h2 k hk hb, World.putObj_heap_other e]
theorem kb_round {l : Nat} {W W3 : World} {ob o0 : Obj} {r : Loop} (hl : W.heap[l]? = some (.loop r)) (h : KeepsBools (W.putObj l ob) W3) : KeepsBools W (W3.putObj l o0) := by
  intro k cs hk
  have e : k ≠ l := by intro e; subst e; rw [hl] at hk; cases hk
  rw [World.putObj_heap_other e]
  exact h k cs (by rw [World.putObj_heap_other e]; exact hk)
section
variable {P : Program} {F : Fence} {n : Nat} {ops : Array Oper} {rest : List Oper} {o : Oper} {a : Act} {Q : Exit → Act → World → Prop} {α : Type}
/-- append(v, x) in a round; the goal's world holds the variadic's box. -/
theorem R_append_in (d : Kd α) {W : World} (base : Nat) (hgd : o.guard = none) (s x : Operand) (t e : TypeId) (z : Value) (bytes : Nat)
    (ho : o.op = .call { callee := .builtin .append, args := #[s, x], argTypes := #[t, t] })
    (ht : P.underlying t = some (.slice e)) (hinfo : (P.info? e).map (fun i => (i.zero, i.size, i.bytes)) = some (some z, d.sz, bytes)) (hz : z.cells.size = d.sz) (hs0 : 0 < d.sz) (hb0 : 0 < bytes)
    (v : Value) (xs : List α) (p : α) (u : Value) (hd1 : d.sz = 1) (okp : Nat → Prop) (hs : a.eval s = v) (hx : a.eval x = .slice (some ⟨W.heap.size, 0, none⟩) 1 1) (hp : d.M W base okp p [u]) (hokp : ∀ k, okp k → some k ≠ v.ownBlock)
    (HO : d.R e W base (fun _ => True) v xs) (hbase : base ≤ W.heap.size) (hl : (xs.length + 1) * bytes ≤ 140737488355328)
    (h : ∀ v1 w1, d.R e w1 base (fun _ => True) v1 (xs ++ [p]) → W.grownBy w1 v.ownBlock → wpListIn F n P ops Q rest (a.put o.dst v1) w1) :
    wpListIn F n P ops Q (o :: rest) a (W.alloc (.cells #[u] e)) := by
  obtain ⟨i0, hi, hzz⟩ := Option.map_eq_some_iff.1 hinfo
  simp only [Prod.mk.injEq] at hzz
  obtain ⟨hz0, hz1, hz2⟩ := hzz
  obtain ⟨h0, inner, hown, hr⟩ := HO
  have hone := d.K_one (d.K_of_M hp)
  refine wpListIn_append_own_at _ hgd s x t ho base e i0 z d.sz bytes ht hi hz0 hz1 hz2 hz hs0 v xs.length inner hs (hown.alloc _) ⟨W.heap.size, 0, none⟩ 1 1 [u] hx (by rw [hd1]; rfl) (cell_one_new _ _ _) hone ?_ hl (by simp; omega) ?_
  · have : (xs.length + 1) * 1 ≤ (xs.length + 1) * bytes := Nat.mul_le_mul_left _ hb0
    simp only [maxLen]; omega
  · intro v1 w1 hown1 hg1 _ hat1
    have hga : W.grownBy (W.alloc (.cells #[u] e)) v.ownBlock := World.grownBy_alloc _ _ _
    refine h v1 w1 (Kd.R_appended h0 hr hp (fun k hk => ⟨trivial, hokp k hk⟩) (fun _ _ => trivial) hown1 (hga.trans hg1) ?_) (hga.trans hg1)
    rcases hat1 with h1 | h1
    · exact .inl h1
    · exact .inr ⟨_, h1, by simp⟩
end
set_option maxHeartbeats 4000000 in
set_option maxRecDepth 100000 in
theorem takesY (l lo B D : Nat) (fn : FuncId) (hl : l < lo) (hB : B < lo) (hlB : l ≠ B) (c0 c1 c2 c3 c4 c6 c7 c8 c9 c10 c11 c12 c13 c14 c15 c16 c17 c18 c19 c20 c21 c22 c23 : Value) :
    TakesY l lo B (fun W => W.heap[l]? = some (.loop (rec0 fn D #[c0, c1, c2, c3, c4, .pointer (some ⟨B, 0, none⟩), c6, c7, c8, c9, c10, c11, c12, c13, c14, c15, c16, c17, c18, c19, c20, c21, c22, c23]))) big := by
  intro acc c cv W hacc hL hlen hR
  obtain ⟨ad, cp, rfl⟩ := Kd.R_slice hR
  have hls : l < W.heap.size := (Array.getElem?_eq_some_iff.1 hL).1
  refine ⟨fn, #[c0, c1, c2, c3, c4, .pointer (some ⟨B, 0, none⟩), c6, c7, c8, c9, c10, c11, c12, c13, .slice ad c.length cp, c15, c16, c17, c18, c19, c20, c21, c22, c23], asg, bod, (by rw [run_yield hL rfl]; simp [rec0]), roundIn_of_wpIn trivial ?_⟩
  conv => arg 4; whnf
  gi_wp2
  refine ⟨_, run_beginRound hL rfl, ?_⟩
  obtain ⟨ob, hob⟩ : ∃ ob : Obj, ob = Obj.loop { rec0 fn D #[c0, c1, c2, c3, c4, .pointer (some ⟨B, 0, none⟩), c6, c7, c8, c9, c10, c11, c12, c13, c14, c15, c16, c17, c18, c19, c20, c21, c22, c23] with state := .busy } := ⟨_, rfl⟩
  rw [← hob]
  have hacc2 := acc_put (o := ob) hacc hl hlB
  have hR2 : Kd.R (Kd.int .i64) 3 (W.putObj l ob) lo (fun _ => True) (.slice ad c.length cp) c := Kd.R_mono (Kd.R_move (R_lo hR) (fun k hk => World.putObj_heap_other (by have := hk.1; omega))) (fun _ _ => trivial)
  have hl2 : (W.putObj l ob).heap[l]? = some ob := World.putObj_heap_same hls
  obtain ⟨Wb, hWb⟩ : ∃ Wb, Wb = W.putObj l ob := ⟨_, rfl⟩
  rw [← hWb] at hacc2 hR2 hl2 ⊢
  have fin : ∀ W3 : World, Acc lo B (big (acc ++ [c])) W3 → FB lo B Wb W3 → KeepsBools Wb W3 →
      ∃ v w', (Instr.endRound l none).run Tryz.prog W3 = .ok v w' ∧ ((Ending.returned v : Ending) = .returned (.bool true) ∧ Acc lo B (big (acc ++ [c])) w' ∧ FB lo B W w' ∧ KeepsBools W w') := by
    intro W3 h1 h2 h3
    have hl3 : W3.heap[l]? = some (.loop { rec0 fn D #[c0, c1, c2, c3, c4, .pointer (some ⟨B, 0, none⟩), c6, c7, c8, c9, c10, c11, c12, c13, c14, c15, c16, c17, c18, c19, c20, c21, c22, c23] with state := .busy }) := by rw [← hob]; exact (h2.2.1 l hl hlB).trans hl2
    refine ⟨_, _, run_endRound none hl3, rfl, ?_, ?_, ?_⟩
    · exact acc_put h1 hl hlB
    · exact fb_round hL hlB (hWb ▸ h2) (Array.getElem?_eq_some_iff.1 hl3).1
    · exact kb_round hL (hWb ▸ h3)
  have FIN := Aside0.mk fin
  clear fin
  conv => arg 4; whnf
  by_cases hc : 1 < c.length
  · have hcb : decide ((1 : Int) < (c.length : Int)) = true := decide_eq_true (by omega)
    have hfl : big (acc ++ [c]) = big acc ++ [c] := by simp [big, hc]
    obtain ⟨hBs, hlo, v, hv, ho⟩ := hacc2
    have hcell : Wb.cell? ⟨B, 0, none⟩ = some v := (blk_cell hv 0).trans rfl
    have hfro : Wb.frozen? ⟨B, 0, none⟩ = false := blk_frozen hv 0
    have hne : ∀ k, some k = (Value.slice ad c.length cp).ownBlock → some k ≠ v.ownBlock := fun k h1 h2 => by
      obtain ⟨_, _, c1, e1⟩ := own_facts hR2 h1.symm
      obtain ⟨_, _, c2, e2⟩ := own_facts ho h2.symm
      exact absurd (type_ne e1 e2) (by decide)
    have NE := Aside0.mk hne
    have HO := Aside0.mk ho
    have HC := Aside0.mk hR2
    have HV := Aside0.mk hv
    have HFL := Aside0.mk hfl
    have HLE := Aside0.mk (show (big acc).length ≤ 100000 from Nat.le_trans (List.length_filter_le _ _) hlen)
    clear ho hR2 hv hne hfl hc hacc hL hR hWb hl2 hob
    gi_wp2_with (first | (gi_at_builtin; refine R_append_in (Kd.slice 3 (Kd.int .i64)) lo rfl (.tmp 18) (.tmp 20) 24 22 (.slice none 0 0) 24 rfl Tryz.underlying24 infoL rfl (by decide) (by omega) v _ c (.slice ad c.length cp) rfl (fun k => some k = (Value.slice ad c.length cp).ownBlock) rfl rfl ⟨_, rfl, Kd.R_tight rfl HC.out⟩ (fun k hk => NE.out k hk) HO.out hlo (by have := HLE.out; omega) ?_; intro v1 w1 ho1 hg1; have hnB : some B ≠ v.ownBlock := (fun he => by have := (own_facts HO.out he.symm).1; omega); have hc1 : w1.cell? ⟨B, 0, none⟩ = some v := hg1.cell hcell hnB; have hf1 : w1.frozen? ⟨B, 0, none⟩ = false := (World.frozen?_of_block (hg1.block B hBs hnB)).trans hfro; obtain ⟨ad1, cp1, e1⟩ := Kd.R_slice ho1; subst e1; have hpb := put_back HV.out hB hlo HO.out ho1 hg1; have HPB := Aside0.mk hpb; clear hpb ho1 hg1))
    have r := HPB.out
    rw [List.length_append] at r
    exact FIN.out _ (by rw [HFL.out]; exact r.1) r.2.1 r.2.2
  · have hcb : decide ((1 : Int) < (c.length : Int)) = false := decide_eq_false (by omega)
    have hfl : big (acc ++ [c]) = big acc := by simp [big, hc]
    have HACC := Aside0.mk hacc2
    have HFL := Aside0.mk hfl
    clear hacc2 hfl hc hacc hL hR hWb hl2 hob hR2
    gi_wp2
    exact FIN.out _ (by rw [HFL.out]; exact HACC.out) (FB.refl _ _ _) (fun _ _ h => h)
end Go.Proofs.YtkplhpnhjfdelaaGreatDoor.CYR
namespace Go.Proofs.YtkplhpnhjfdelaaGreatDoor.CYS
open Go.RowKit Go.Proofs.YtkplhpnhjfdelaaGreatDoorW.PrintWords Go.Proofs.YtkplhpnhjfdelaaGreatDoorW.PrintLast Go.Proofs.YtkplhpnhjfdelaaGreatDoorW.PrintMore Go.Proofs.YtkplhpnhjfdelaaGreatDoor.CL Go.Proofs.YtkplhpnhjfdelaaGreatDoor.CY Go.Proofs.YtkplhpnhjfdelaaGreatDoor.CYY Go.Proofs.YtkplhpnhjfdelaaGreatDoor.CYR Go.Proofs.YtkplhpnhjfdelaaGreatDoor.PPermCycles
set_option linter.unusedVariables false
set_option linter.unusedSimpArgs false
attribute [local go_sem] Oper.semAt_some
set_option maxHeartbeats 4000000 in
set_option maxRecDepth 100000 in
theorem cyc1 (k l Bp : Nat) (Ex : World → Prop) (fl : List (List Int) → List (List Int))
    (B : Nat) (A : Option Addr) (cap : Nat) (p : List Int) (r : List (List Int)) (w : World) (ht : TakesY l w.heap.size B Ex fl) (hex : ∀ W', FB w.heap.size B w W' → Ex W') (hn : p.length ≤ 1000) (hB : B < w.heap.size) (h0 : Acc w.heap.size B (fl []) w)
    (hp : ∀ W', FB w.heap.size B w W' → Kd.C (Kd.int .i64) W' A p.length p) (h : cycOut k p (List.replicate p.length false) 0 [] = some r) (hbox : w.cell? ⟨Bp, 0, none⟩ = some (.slice A p.length cap)) :
    Calls Tryz.prog 16 #[.func (.yield l) #[] #[], .pointer (some ⟨Bp, 0, none⟩)] w fun e w' => (∃ v, e = .returned v) ∧ Acc w.heap.size B (fl r) w' ∧ FB w.heap.size B w w' := by
  go_enter Tryz.func16, Tryz.ntmps16
  go_wp2_with fail
  refine (cycles_yield k l Ex fl B A cap p r w ht hex hn hB h0 hp h).mono ?_
  rintro e W ⟨rfl, ha, hf⟩
  go_wp2
  go_end0
  exact ⟨⟨_, rfl⟩, ha, hf⟩
set_option maxHeartbeats 4000000 in
set_option maxRecDepth 100000 in
theorem Cycles_calls (k : Nat) (A : Option Addr) (cap : Nat) (p : List Int) (r : List (List Int)) (w : World) (hp : Kd.C (Kd.int .i64) w A p.length p) (hc : p.length ≤ cap) (hn : p.length ≤ 1000) (hf : perm_Check.f k p = some (0, 0))
    (h : cycOut k p (List.replicate p.length false) 0 [] = some r) :
    Calls Tryz.prog 5 #[.slice A p.length cap] w fun e w' => ∃ v, e = .returned (.tuple #[v, .agg #[.int .i64 0, .int .i64 0]]) ∧ Kd.R (Kd.slice 3 (Kd.int .i64)) 22 w' w.heap.size (fun _ => True) v (big r) ∧ Below w.heap.size w w' := by
  refine callsIn_wide.1 (callsIn_of_wp_marks (F := Fence.wide) (n := 2) Tryz.func5 rfl trivial ?_)
  simp only [Tryz.ntmps5, List.size_toArray, List.length_cons, List.length_nil, Nat.reduceAdd, Nat.reduceSub, Array.replicate_succ, Array.replicate_zero, List.push_toArray, List.append_toArray, List.nil_append, List.cons_append]
  refine wpIn_wide.2 ?_
  go_wp2_with fail
  have hbw : Below w.heap.size w ((w.alloc (Obj.cells #[Value.slice A p.length cap] 22)).alloc (Obj.cells #[Value.int IntKind.i64 0, Value.int IntKind.i64 0] 26)) := ((Below.refl _ _).alloc (Nat.le_refl _) _).alloc (by simp) _
  refine (perm_Check.calls k A cap p 0 0 _ (Kd.C_below hp hbw) hc hf).mono ?_
  rintro e w1 ⟨rfl, hb1⟩
  have hx1 : w1.heap[w.heap.size]? = some (.cells #[.slice A p.length cap] 22 (0, 0)) := by
    rw [hb1.block w.heap.size (by simp; omega)]
    exact (Below.heap_alloc _ _ _ (by simp)).trans (heap_alloc_new w _)
  have hr1 : w1.heap[w.heap.size + 1]? = some (.cells #[.int .i64 0, .int .i64 0] 26 (0, 0)) := by
    rw [hb1.block (w.heap.size + 1) (by simp)]
    have := heap_alloc_new (w.alloc (Obj.cells #[Value.slice A p.length cap] 22)) (Obj.cells #[Value.int IntKind.i64 0, Value.int IntKind.i64 0] 26)
    simpa using this
  have hsz1 : w.heap.size + 2 ≤ w1.heap.size := by have := hb1.size; simpa using this
  have hbel : Below w.heap.size w w1 := hbw.trans (hb1.mono (by simp; omega))
  have HB := Aside0.mk hbel
  have HX1 := Aside0.mk hx1
  have HR1 := Aside0.mk hr1
  have HSZ := Aside0.mk hsz1
  have HP := Aside0.mk hp
  have HH := Aside0.mk h
  clear hb1 hp hf hbw hbel hx1 hr1 hsz1 h
  go_wp2_with fail
  obtain ⟨W2, hW2⟩ : ∃ W2 : World, W2 = (w1.alloc (Obj.cells #[Value.int IntKind.i64 0, Value.int IntKind.i64 0] 26)).alloc (Obj.cells #[Value.slice none 0 0] 24) := ⟨_, rfl⟩
  have hb2 : Below w1.heap.size w1 W2 := by rw [hW2]; exact ((Below.refl _ _).alloc (Nat.le_refl _) _).alloc (by simp) _
  have hs2 : W2.heap.size = w1.heap.size + 2 := by rw [hW2]; simp
  have hv2 : W2.heap[w1.heap.size + 1]? = some (.cells #[.slice none 0 0] 24 (0, 0)) := by
    rw [hW2]
    have := heap_alloc_new (w1.alloc (Obj.cells #[Value.int IntKind.i64 0, Value.int IntKind.i64 0] 26)) (Obj.cells #[Value.slice none 0 0] 24)
    simpa using this
  rw [← hW2]
  have hsz1 := HSZ.out
  have hx2 : W2.heap[w.heap.size]? = some (.cells #[.slice A p.length cap] 22 (0, 0)) := (hb2.block _ (by omega)).trans HX1.out
  have hr2 : W2.heap[w.heap.size + 1]? = some (.cells #[.int .i64 0, .int .i64 0] 26 (0, 0)) := (hb2.block _ (by omega)).trans HR1.out
  have hbW : Below w.heap.size w W2 := HB.out.trans (hb2.mono (by omega))
  clear hW2 HX1 HR1
  refine (wpIn_wide (n := 2)).1 ?_
  refine wpIn_rangeFunc ?_
  intro fn hfn
  obtain ⟨r0, hr0⟩ : ∃ r0 : Loop, r0 = rec0 fn W2.heap.size #[.slice A p.length cap, .pointer (some ⟨w.heap.size, 0, none⟩), .slice none 0 0, .pointer (some ⟨w.heap.size + 1, 0, none⟩), .pointer (some ⟨w1.heap.size, 0, none⟩), .pointer (some ⟨w1.heap.size + 1, 0, none⟩), undef, .slice A p.length cap, .agg #[.int .i64 0, .int .i64 0], .pointer (some ⟨w1.heap.size, 0, none⟩), .int .i64 0, .bool false, undef, .func (.func 16) #[] #[.pointer (some ⟨w.heap.size, 0, none⟩)], undef, undef, undef, undef, undef, undef, undef, undef, undef, undef] := ⟨_, rfl⟩
  obtain ⟨W3, hW3⟩ : ∃ W3 : World, W3 = (W2.alloc (.deferred (some []))).alloc (.loop r0) := ⟨_, rfl⟩
  have hL3 : W3.heap[W2.heap.size + 1]? = some (.loop r0) := by
    rw [hW3]; have := World.alloc_heap_new (W2.alloc (.deferred (some []))) (.loop r0); rwa [World.size_alloc] at this
  have hK3 : W3.heap[W2.heap.size]? = some (.deferred (some [])) := by
    rw [hW3]; exact (Below.heap_alloc _ _ _ (by simp)).trans (World.alloc_heap_new W2 _)
  have hb3 : Below W2.heap.size W2 W3 := by rw [hW3]; exact ((Below.refl _ _).alloc (Nat.le_refl _) _).alloc (by simp) _
  have hs3 : W3.heap.size = W2.heap.size + 2 := by rw [hW3]; simp
  have hv3 : W3.heap[w1.heap.size + 1]? = some (.cells #[.slice none 0 0] 24 (0, 0)) := (hb3.block _ (by omega)).trans hv2
  have hx3 : W3.heap[w.heap.size]? = some (.cells #[.slice A p.length cap] 22 (0, 0)) := (hb3.block _ (by omega)).trans hx2
  have hr3 : W3.heap[w.heap.size + 1]? = some (.cells #[.int .i64 0, .int .i64 0] 26 (0, 0)) := (hb3.block _ (by omega)).trans hr2
  have hbW3 : Below w.heap.size w W3 := hbW.trans (hb3.mono (by omega))
  have eg := fun args w => enters_of (P := Tryz.prog) Tryz.func16 (by kernel_rfl) rfl args w
  refine ⟨W2.heap.size + 1, [{ target := .collected W2.heap.size, args := #[] }], W3, { target := .fn (.func 16) #[.pointer (some ⟨w.heap.size, 0, none⟩)], args := #[.func (.yield (W2.heap.size + 1)) #[] #[]] }, W3, 16,
    #[.func (.yield (W2.heap.size + 1)) #[] #[], .pointer (some ⟨w.heap.size, 0, none⟩)], W3, ?_, ?_, fun _ _ => trivial, ?_, fun _ => by omega, ?_⟩
  · rw [hW3, hr0]; exact run_enterLoop_outer _ _ _ _ _
  · simp only [resolve]
    simp [go_sem]
  · simp [invoke, go_sem, eg]
  · refine callsIn_wide.2 ?_
    have hcell : W3.cell? ⟨w.heap.size, 0, none⟩ = some (.slice A p.length cap) := (blk_cell hx3 0).trans rfl
    refine (cyc1 k (W2.heap.size + 1) w.heap.size (fun W => W.heap[W2.heap.size + 1]? = some (.loop r0)) big (w1.heap.size + 1) A cap p r W3 ?ht (fun W' hf => (hf.2.1 _ (by omega) (by omega)).trans hL3) hn (by omega) ⟨by omega, Nat.le_refl _, _, hv3, Kd.R_nil _ _ _ _ _⟩ (fun W' hf => Kd.C_below HP.out (hbW3.trans (hf.below (by omega) (by omega)))) HH.out hcell).mono ?_
    case ht =>
      rw [hr0]
      exact takesY (W2.heap.size + 1) W3.heap.size (w1.heap.size + 1) W2.heap.size fn (by omega) (by omega) (by omega) (.slice A p.length cap) (.pointer (some ⟨w.heap.size, 0, none⟩)) (.slice none 0 0) (.pointer (some ⟨w.heap.size + 1, 0, none⟩)) (.pointer (some ⟨w1.heap.size, 0, none⟩)) undef (.slice A p.length cap) (.agg #[.int .i64 0, .int .i64 0]) (.pointer (some ⟨w1.heap.size, 0, none⟩)) (.int .i64 0) (.bool false) undef (.func (.func 16) #[] #[.pointer (some ⟨w.heap.size, 0, none⟩)]) undef undef undef undef undef undef undef undef undef undef
    rintro e W4 ⟨⟨v, rfl⟩, ha, hf⟩
    have hl4 : W4.heap[W2.heap.size + 1]? = some (.loop r0) := (hf.2.1 _ (by omega) (by omega)).trans hL3
    have hk4 : W4.heap[W2.heap.size]? = some (.deferred (some [])) := (hf.2.1 _ (by omega) (by omega)).trans hK3
    have hr4 : W4.heap[w.heap.size + 1]? = some (.cells #[.int .i64 0, .int .i64 0] 26 (0, 0)) := (hf.2.1 _ (by omega) (by omega)).trans hr3
    have hb4 : Below w.heap.size w W4 := hbW3.trans (hf.below (by omega) (by omega))
    refine ⟨none, W4.putObj (W2.heap.size + 1) (.loop { r0 with state := .exhausted }), by have := run_endLoop (P := Tryz.prog) hl4 (by rw [hr0]; simp [rec0]); rw [this, show r0.pending = none by rw [hr0]; rfl], ?_⟩
    have hls : W2.heap.size + 1 < W4.heap.size := (Array.getElem?_eq_some_iff.1 hl4).1
    obtain ⟨W5, hW5⟩ : ∃ W5 : World, W5 = W4.putObj (W2.heap.size + 1) (.loop { r0 with state := .exhausted }) := ⟨_, rfl⟩
    have ha5 : Acc W3.heap.size (w1.heap.size + 1) (big r) W5 := by rw [hW5]; exact acc_put ha (by omega) (by omega)
    have hk5 : W5.heap[W2.heap.size]? = some (.deferred (some [])) := by rw [hW5]; exact (World.putObj_heap_other (by omega)).trans hk4
    have hr5 : W5.heap[w.heap.size + 1]? = some (.cells #[.int .i64 0, .int .i64 0] 26 (0, 0)) := by rw [hW5]; exact (World.putObj_heap_other (by omega)).trans hr4
    have hb5 : Below w.heap.size w W5 := by
      rw [hW5]
      exact hb4.trans ⟨rfl, rfl, rfl, by simp, fun j hj => World.putObj_heap_other (by have := hbW.size; omega)⟩
    rw [← hW5]
    obtain ⟨hB5, hlo5, vo, hvo, hro⟩ := ha5
    have hco : W5.cell? ⟨w1.heap.size + 1, 0, none⟩ = some vo := (blk_cell hvo 0).trans rfl
    have hcr0 : W5.cell? ⟨w.heap.size + 1, 0, none⟩ = some (.int .i64 0) := (blk_cell hr5 0).trans rfl
    have hcr1 : W5.cell? ⟨w.heap.size + 1, 1, none⟩ = some (.int .i64 0) := (blk_cell hr5 1).trans rfl
    have hz0 := blk_frozen hr5 0
    have hz1 := blk_frozen hr5 1
    clear hW5 hl4 hk4 hr4 hb4 ha hf
    simp only [Exit.inBlock, Exit.then, List.cons_append, List.nil_append]
    go_wp2
    have hk6 : ((W5.setCell ⟨w.heap.size + 1, 0, none⟩ (.int .i64 0)).setCell ⟨w.heap.size + 1, 1, none⟩ (.int .i64 0)).heap[W2.heap.size]? = some (.deferred (some [])) := (Below.heap_setCell _ ⟨w.heap.size + 1, 1, none⟩ _ _ (by simp; omega)).trans ((Below.heap_setCell _ ⟨w.heap.size + 1, 0, none⟩ _ _ (by simp; omega)).trans hk5)
    refine ⟨by simp, .inl ⟨_, _, rfl, run_takeDeferred hk6, ?_⟩⟩
    refine ⟨_, results_list (rs := [.tmp 2, .cell 3 26]) rfl (by simp) (.tmp (.cell (w.heap.size + 1) 26 #[.int .i64 0, .int .i64 0] (0, 0) _ rfl ((World.putObj_heap_other (by omega)).trans (blk_put (blk_put hr5 0 _ rfl) 1 _ rfl)) Tryz.underlying26 rfl (by kernel_rfl) .nil)), vo, rfl, ?_, ?_⟩
    · have h1 : Kd.R (Kd.slice 3 (Kd.int .i64)) 22 W5 W3.heap.size (fun _ => True) vo (big r) := hro
      refine Kd.R_lower (Kd.R_mono (Kd.R_move (R_lo h1) (fun k hk => ?_)) (fun _ _ => trivial)) (by have := hbW.size; omega)
      have hkk := hk.1
      exact (World.putObj_heap_other (by omega)).trans ((Below.heap_setCell _ ⟨w.heap.size + 1, 1, none⟩ _ _ (by simp; omega)).trans (Below.heap_setCell _ ⟨w.heap.size + 1, 0, none⟩ _ _ (by simp; omega)))
    · exact (below_set (below_set hb5 (by omega)) (by omega)).trans ⟨rfl, rfl, rfl, by simp, fun j hj => World.putObj_heap_other (by have := hbW.size; omega)⟩
end Go.Proofs.YtkplhpnhjfdelaaGreatDoor.CYS
namespace Go.Proofs.YtkplhpnhjfdelaaGreatDoor.CYG
open Go.RowKit Go.Proofs.YtkplhpnhjfdelaaGreatDoorW.PrintWords Go.Proofs.YtkplhpnhjfdelaaGreatDoorW.PrintLast Go.Proofs.YtkplhpnhjfdelaaGreatDoorW.PrintMore Go.Proofs.YtkplhpnhjfdelaaGreatDoor.CL Go.Proofs.YtkplhpnhjfdelaaGreatDoor.CY
set_option linter.unusedVariables false
set_option linter.unusedSimpArgs false
/-- What the rounds of a loop promise: each cycle is put into the list (or left out, as fl says). -/
def TakesG (l lo B : Nat) (Ex : World → Prop) (AC : List (List Int) → World → Prop) : Prop := ∀ (acc : List (List Int)) (c : List Int) (cv : Value) (W : World), AC acc W → Ex W → acc.length ≤ 100000 → Kd.R (Kd.int .i64) 3 W lo (fun _ => True) cv c →
  YieldAt Fence.wide 0 Tryz.prog l #[cv] W fun e W' => e = .returned (.bool true) ∧ AC (acc ++ [c]) W' ∧ FB lo B W W' ∧ KeepsBools W W'
set_option maxHeartbeats 4000000 in
set_option maxRecDepth 100000 in
theorem cycles_gen (k l : Nat) (Ex : World → Prop) (AC : List (List Int) → World → Prop) (hkeep : ∀ (acc : List (List Int)) (W W' : World) (H : Nat) (cs : Array Value), AC acc W → W.heap[H]? = some (.cells cs 4 (0, 0)) → W.grownBy W' (some H) → AC acc W') (hbelow : ∀ (acc : List (List Int)) (W W' : World), AC acc W → Below W.heap.size W W' → AC acc W')
    (B : Nat) (A : Option Addr) (cap : Nat) (p : List Int) (r : List (List Int)) (w : World) (ht : TakesG l w.heap.size B Ex AC) (hex : ∀ W', FB w.heap.size B w W' → Ex W') (hn : p.length ≤ 1000) (hB : B < w.heap.size) (h0 : AC [] w)
    (hp : ∀ W', FB w.heap.size B w W' → Kd.C (Kd.int .i64) W' A p.length p) (h : cycOut k p (List.replicate p.length false) 0 [] = some r) :
    Calls Tryz.prog 17 #[.slice A p.length cap, .func (.yield l) #[] #[]] w fun e w' => e = .returned (.tuple #[]) ∧ AC r w' ∧ FB w.heap.size B w w' := by
  have HP := Aside0.mk hp
  have HA0 := Aside0.mk h0
  have H' := Aside0.mk h
  have HT := Aside0.mk ht
  have HEX := Aside0.mk hex
  have HKP := Aside0.mk hkeep
  have HBL := Aside0.mk hbelow
  clear hp h0 h ht hex hkeep hbelow
  go_enter Tryz.func17, Tryz.ntmps17
  go_wp2_with (first | ((with_reducible refine gate_dst (N := 10) rfl ?_); refine Kd.R_make Kd.bool w.heap.size 4 rfl (N := 10) rfl 58 _ _ rfl (p.length : Int) rfl rfl Tryz.underlying58 (.bool false) 1 info4 rfl (by decide) (by omega) false (ok := fun _ => True) (okp := fun _ => True) rfl (fun _ hk => hk) trivial (by omega) (by omega) (Below.refl _ _) (Nat.le_refl _) ?_; intro vh w1 hoh hbh hgh hnewh; rw [Int.toNat_natCast] at hoh; have HH := Aside0.mk hoh; have HB := Aside0.mk hbh; have HNEW := Aside0.mk hgh; clear hoh hbh hgh hnewh))
  have hlh : (List.replicate p.length false).length = p.length := List.length_replicate
  go_loopg [13] k (fun kq v13 wr => ∃ (i : Int) (hadl : List Bool) (acc : List (List Int)), v13 = .int .i64 i ∧ 0 ≤ i ∧ i ≤ 1000 ∧ (acc.length : Int) ≤ i ∧ Aside0 (cycOut kq p hadl i acc = some r) ∧ Aside0 (kq ≤ k) ∧ Aside0 (hadl.length = p.length) ∧ Aside0 (Kd.R Kd.bool 4 wr w.heap.size (fun _ => True) vh hadl) ∧ Aside0 (AC acc wr) ∧ Aside0 (FB w.heap.size B w wr))
  case atStart =>
    refine ⟨0, _, _, rfl, by omega, by omega, by simp, H', ⟨Nat.le_refl _⟩, ⟨hlh⟩, HH, ⟨?_⟩, ⟨FB.of_below HB.out⟩⟩
    exact HBL.out _ _ _ HA0.out HB.out
  case round =>
    obtain ⟨i, hadl, acc, rfl, hi0, hi1, hacc, HA, HK, HL, HO, HC, HFB⟩ := hrel
    cases gk with
    | zero => exact absurd HA.out (by simp [cycOut])
    | succ k1 =>
      have H := HA.out
      clear HA
      simp only [cycOut] at H
      by_cases c1 : i < (p.length : Int)
      · rw [if_pos c1] at H
        obtain ⟨g1, cp1, e1, gb1, gl1, cl1, HG1⟩ := Kd.R_form HO.out (by have := HL.out; omega)
        subst e1
        have e2 := HL.out
        obtain ⟨hx1, hf1⟩ := Kd.R_celln false HO.out i hi0 (by omega)
        have hq1 : i < (hadl.length : Int) := by omega
        have E2 := Aside0.mk e2
        clear e2
        by_cases c2 : rdOf false hadl i = true
        · rw [if_pos c2] at H
          rw [c2] at hx1
          have H' := Aside0.mk H
          clear H c2
          go_wp2
          go_roundg k1
          case measure => omega
          case rel => exact ⟨i + 1, hadl, acc, rfl, by omega, by omega, by omega, H', ⟨by have := HK.out; omega⟩, HL, HO, HC, HFB⟩
        · rw [if_neg c2] at H
          have c2f : rdOf false hadl i = false := by simpa using c2
          rw [c2f] at hx1
          obtain ⟨⟨had', c'⟩, H1, H2⟩ := Option.bind_eq_some_iff.1 H
          have H1 := Aside0.mk H1
          have H2 := Aside0.mk H2
          clear H c2 c2f
          go_wp2_with fail
          obtain ⟨W0, rfl⟩ : ∃ W0 : World, W0 = wr := ⟨_, rfl⟩
          have hlo := Nat.le_trans (FB.refl w.heap.size B w).1 HFB.out.1
          have gH : g1 < W0.heap.size := blk_lt HG1
          go_loopg [6, 7] k1 (fun kq v6 v7 wq => ∃ (c : List Int) (x : Int) (hadq : List Bool), v7 = .int .i64 x ∧ Aside0 (cycIn kq p hadq c x = some (had', c')) ∧ Aside0 (kq ≤ k1) ∧ Aside0 (Kd.R Kd.bool 4 wq w.heap.size (fun _ => True) (.slice (some ⟨g1, 0, none⟩) hadl.length cp1) hadq) ∧ Aside0 (Kd.R (Kd.int .i64) 3 wq W0.heap.size (fun _ => True) v6 c) ∧ Aside0 (W0.grownBy wq (some g1)))
          case atStart => exact ⟨[], i, hadl, rfl, H1, ⟨Nat.le_refl _⟩, HO, ⟨Kd.R_nil _ _ _ _ _⟩, ⟨World.grownBy.refl _ _⟩⟩
          case round =>
            obtain ⟨c, x, hadq, rfl, HA, HKq, HOq, HCq, HKB⟩ := hrel
            cases gk with
            | zero => exact absurd HA.out (by simp [cycIn])
            | succ k2 =>
              have H := HA.out
              clear HA
              simp only [cycIn] at H
              by_cases c3 : 0 ≤ x
              · rw [if_pos c3] at H
                by_cases c4 : x < (p.length : Int)
                · rw [if_pos c4] at H
                  have hq3 : x < (hadl.length : Int) := by have := E2.out; omega
                  obtain ⟨hx3, hf3⟩ := Kd.R_celln false HOq.out x c3 hq3
                  by_cases c5 : rdOf false hadq x = true
                  · rw [if_pos c5] at H
                    rw [c5] at hx3
                    simp only [Option.some.injEq, Prod.mk.injEq] at H
                    obtain ⟨rfl, rfl⟩ := H
                    clear c5
                    have hacc2 := HKP.out _ _ _ _ _ HC.out HG1 HKB.out
                    have hfb0 := HFB.out.trans (kb_fb HKB.out hlo gb1)
                    have HA2 := Aside0.mk hacc2
                    have HF0 := Aside0.mk hfb0
                    clear hacc2 hfb0
                    go_upto_region 11 with (fail)
                    obtain ⟨fny, tmpsy, assigny, bodyy, hy, hR⟩ := HT.out acc c u6 wr HA2.out (HEX.out wr HF0.out) (by omega) (Kd.R_lower HCq.out hlo)
                    refine (wpIn_wide (n := 1)).1 ?_
                    gi_wp2
                    refine hR.mono ?_
                    rintro e W2 ⟨rfl, ha3, hf3, hb3⟩
                    have HA3 := Aside0.mk ha3
                    have HF3 := Aside0.mk (HF0.out.trans hf3)
                    have HO3 := Aside0.mk (bools_keep HOq.out hb3)
                    clear ha3 hf3 hb3 hy hR
                    gi_wp2
                    go_wp2
                    go_roundg k1
                    case measure => omega
                    case rel => exact ⟨i + 1, hadq, acc ++ [c], rfl, by omega, by omega, by simp only [List.length_append, List.length_cons, List.length_nil]; omega, H2, ⟨by have := HK.out; omega⟩, ⟨by have h1 := (Kd.R_reads' HOq.out).1; have h2 := E2.out; omega⟩, HO3, HA3, HF3⟩
                  · rw [if_neg c5] at H
                    have c5f : rdOf false hadq x = false := by simpa using c5
                    rw [c5f] at hx3
                    by_cases c6 : 100000 ≤ c.length
                    · rw [if_pos c6] at H
                      exact absurd H (by simp)
                    · rw [if_neg c6] at H
                      have H' := Aside0.mk H
                      have HPT := Aside0.mk (Kd.R_putg HOq.out x true)
                      have hFq : FB w.heap.size B w wr := HFB.out.trans (kb_fb HKB.out hlo gb1)
                      clear H c5 c5f
                      go_wp2_with (first
                        | ((with_reducible refine gate_store (t := 4) (p := 32) rfl ?_); refine store_event (t := 4) (p := 32) (v := ?vo) (w1 := (wr.setCell ⟨g1, x.toNat, none⟩ (.bool true))) ?hg ?ho ?hn ?hr ?_; (case ho => rfl); (case hg => rfl); (case hn => rfl); (case hr => first | (go_simp; done) | (go_simp; rfl)); intro w32 hw; have hg : wr.grownBy w32 (some g1) := (by rw [hw]; exact HPT.out.2); have ho2 : Kd.R Kd.bool 4 w32 w.heap.size (fun _ => True) (.slice (some ⟨g1, 0, none⟩) hadl.length cp1) (hadq.set x.toNat true) := (by rw [hw]; exact HPT.out.1); have hkb := keep_put HKB.out hg; have hc2 := row_put HCq.out hg gH; have HO2 := Aside0.mk ho2; have HKB2 := Aside0.mk hkb; have HC2 := Aside0.mk hc2; clear hw hg ho2 hkb hc2 HPT HOq HKB HCq hx3 hf3)
                        | ((with_reducible refine gate_dst (N := 36) rfl ?_); at_builtin; refine Kd.R_append (Kd.int .i64) (w0 := w32) W0.heap.size rfl (.tmp 33) (.tmp 35) 22 3 (.int .i64 0) 8 rfl Tryz.underlying22 OW.info3 rfl (by decide) (by omega) u6 c x [.int .i64 x] (fun _ => True) (fun _ => False) rfl rfl ?aP (fun _ hk => hk.elim) (fun _ _ => trivial) HC2.out (Below.refl _ _) HKB2.out.size ?aL ?_; (case aP => exact rfl); (case aL => omega); intro v1 w33 ho1 hb1 hg1 hat1; have hkb3 := keep_own HKB2.out HC2.out hg1; have hob3 := Kd.R_over HO2.out HC2.out (by decide) hg1; obtain ⟨ad, ea, hxp⟩ := Kd.at_int (HP.out w33 (HFB.out.trans (kb_fb hkb3 hlo gb1))) x c3 c4; subst ea; have HC3 := Aside0.mk ho1; have HKB3 := Aside0.mk hkb3; have HO3 := Aside0.mk hob3; clear ho1 hb1 hg1 hat1 hkb3 hob3 HC2 HKB2 HO2))
                      go_roundg k2
                      case measure => omega
                      case rel => exact ⟨c ++ [x], rd p x, hadq.set x.toNat true, rfl, H', ⟨by have := HKq.out; omega⟩, HO3, HC3, HKB3⟩
                · rw [if_neg c4] at H
                  exact absurd H (by simp)
              · rw [if_neg c3] at H
                exact absurd H (by simp)
      · rw [if_neg c1] at H
        simp only [Option.some.injEq] at H
        subst H
        go_wp2
        go_end0
        exact ⟨rfl, HC.out, HFB.out⟩
end Go.Proofs.YtkplhpnhjfdelaaGreatDoor.CYG
namespace Go.Proofs.YtkplhpnhjfdelaaGreatDoor.CYB
open Go.RowKit Go.Proofs.YtkplhpnhjfdelaaGreatDoorW.PrintWords Go.Proofs.YtkplhpnhjfdelaaGreatDoorW.PrintLast Go.Proofs.YtkplhpnhjfdelaaGreatDoorW.PrintMore Go.Proofs.YtkplhpnhjfdelaaGreatDoor.CL Go.Proofs.YtkplhpnhjfdelaaGreatDoor.CY Go.Proofs.YtkplhpnhjfdelaaGreatDoor.CYY Go.Proofs.YtkplhpnhjfdelaaGreatDoor.CYR Go.Proofs.YtkplhpnhjfdelaaGreatDoor.PPermCycles
set_option linter.unusedVariables false
set_option linter.unusedSimpArgs false
attribute [local go_sem] Oper.semAt_some
set_option maxHeartbeats 4000000 in
set_option maxRecDepth 100000 in
theorem Cycles_bad (k : Nat) (A : Option Addr) (cap : Nat) (p : List Int) (f1 f2 : Int) (w : World) (hp : Kd.C (Kd.int .i64) w A p.length p) (hc : p.length ≤ cap) (hf : perm_Check.f k p = some (f1, f2)) (hne : f1 ≠ 0) :
    Calls Tryz.prog 5 #[.slice A p.length cap] w fun e w' => e = .returned (.tuple #[.slice none 0 0, .agg #[.int .i64 f1, .int .i64 f2]]) ∧ Below w.heap.size w w' := by
  refine callsIn_wide.1 (callsIn_of_wp_marks (F := Fence.wide) (n := 2) Tryz.func5 rfl trivial ?_)
  simp only [Tryz.ntmps5, List.size_toArray, List.length_cons, List.length_nil, Nat.reduceAdd, Nat.reduceSub, Array.replicate_succ, Array.replicate_zero, List.push_toArray, List.append_toArray, List.nil_append, List.cons_append]
  refine wpIn_wide.2 ?_
  have hz1 : (f1 != 0) = true := bne_iff_ne.mpr hne
  go_wp2_with fail
  have hbw : Below w.heap.size w ((w.alloc (Obj.cells #[Value.slice A p.length cap] 22)).alloc (Obj.cells #[Value.int IntKind.i64 0, Value.int IntKind.i64 0] 26)) := ((Below.refl _ _).alloc (Nat.le_refl _) _).alloc (by simp) _
  refine (perm_Check.calls k A cap p f1 f2 _ (Kd.C_below hp hbw) hc hf).mono ?_
  rintro e w1 ⟨rfl, hb1⟩
  have hr1 : w1.heap[w.heap.size + 1]? = some (.cells #[.int .i64 0, .int .i64 0] 26 (0, 0)) := by
    rw [hb1.block (w.heap.size + 1) (by simp)]
    have := heap_alloc_new (w.alloc (Obj.cells #[Value.slice A p.length cap] 22)) (Obj.cells #[Value.int IntKind.i64 0, Value.int IntKind.i64 0] 26)
    simpa using this
  have hsz1 : w.heap.size + 2 ≤ w1.heap.size := by have := hb1.size; simpa using this
  have hbel : Below w.heap.size w w1 := hbw.trans (hb1.mono (by simp; omega))
  have HB := Aside0.mk hbel
  have HSZ := Aside0.mk hsz1
  obtain ⟨W2, hW2⟩ : ∃ W2 : World, W2 = w1.alloc (Obj.cells #[Value.int IntKind.i64 f1, Value.int IntKind.i64 f2] 26) := ⟨_, rfl⟩
  have hr2 : W2.heap[w.heap.size + 1]? = some (.cells #[.int .i64 0, .int .i64 0] 26 (0, 0)) := by rw [hW2]; exact blk_alloc hr1 _
  have hf2 : W2.heap[w1.heap.size]? = some (.cells #[.int .i64 f1, .int .i64 f2] 26 (0, 0)) := by rw [hW2]; exact heap_alloc_new w1 _
  have hb2 : Below w.heap.size w W2 := by rw [hW2]; exact hbel.alloc hbel.size _
  have g0 : W2.cell? ⟨w1.heap.size, 0, none⟩ = some (.int .i64 f1) := (blk_cell hf2 0).trans rfl
  have g1 : W2.cell? ⟨w1.heap.size, 1, none⟩ = some (.int .i64 f2) := (blk_cell hf2 1).trans rfl
  have hcr0 : W2.cell? ⟨w.heap.size + 1, 0, none⟩ = some (.int .i64 0) := (blk_cell hr2 0).trans rfl
  have hcr1 : W2.cell? ⟨w.heap.size + 1, 1, none⟩ = some (.int .i64 0) := (blk_cell hr2 1).trans rfl
  have HR2 := Aside0.mk (And.intro hr2 hb2)
  have hz0 := blk_frozen hr2 0
  have hz3 := blk_frozen hr2 1
  clear hb1 hp hf hbw hbel hsz1 hr1 hb2
  go_wp2_with fail
  rw [← hW2]
  clear hW2 hr2 hf2
  clear HB HSZ hne
  go_region
  go_wp2
  refine ⟨_, results_list (rs := [.tmp 2, .cell 3 26]) rfl (by simp) (.tmp (.cell (w.heap.size + 1) 26 #[.int .i64 f1, .int .i64 f2] (0, 0) _ rfl (blk_drew (blk_put (blk_put HR2.out.1 0 _ rfl) 1 _ rfl)) Tryz.underlying26 rfl (by kernel_rfl) .nil)), rfl, ?_⟩
  exact (below_set (below_set HR2.out.2 (by omega)) (by omega)).drew
end Go.Proofs.YtkplhpnhjfdelaaGreatDoor.CYB
