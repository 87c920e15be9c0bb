/- cayleybig: a number below a thousand, as a list of words; what is made of it. cayleybig: the digits of a number below a thousand. -/
import Derived.Test.YtkplhpnhjfdelaaGreatDoorGA
import Derived.Lib.ItoaNum
namespace Go.Proofs.YtkplhpnhjfdelaaGreatDoor.BS
open Go.RowKit Go.Proofs.YtkplhpnhjfdelaaGreatDoorW.PrintWords Go.Proofs.YtkplhpnhjfdelaaGreatDoorW.PrintLast Go.Proofs.YtkplhpnhjfdelaaGreatDoorW.PrintMore Go.Proofs.YtkplhpnhjfdelaaGreatDoor.PPermCycles
set_option linter.unusedVariables false
set_option linter.unusedSimpArgs false
def wsF (x : Nat) : List Int := if x = 0 then [] else [(x : Int)]
theorem words_all : ∀ n : Fin 1000, cayleybig_words.f 5 (n.val : Int) = some (wsF n.val) := by decide +kernel
theorem small_all : ∀ n : Fin 1000, n.val = 0 ∨ cayleybig_small.f 5 [(n.val : Int)] 10 = some (wsF (n.val / 10), ((n.val % 10 : Nat) : Int)) := by decide +kernel
theorem infoU : (Tryz.prog.info? 81).map (fun i => (i.zero, i.size, i.bytes)) = some (some (.int .u32 0), 1, 4) := by kernel_rfl
set_option maxHeartbeats 400000 in
theorem twin_calls (A : Option Addr) (c : Nat) (l : List Int) (w : World) (hr : Kd.C (Kd.int .u32) w A l.length l) (hlen : l.length * 4 ≤ 140737488355328) :
    Calls Tryz.prog 65 #[.slice A l.length c] w fun e w' => ∃ v, e = .returned v ∧ Kd.R (Kd.int .u32) 81 w' w.heap.size (fun _ => True) v l ∧ Below w.heap.size w w' := by
  have HR := Aside0.mk hr
  clear hr
  go_enter Tryz.func65, Tryz.ntmps65
  go_wp2_with (first | ((with_reducible refine gate_dst (N := 4) rfl ?_); at_builtin; refine Kd.R_append_rows (Kd.int .u32) (Rr := (Kd.int .u32).K w) (w0 := w) w.heap.size rfl (.const (.slice none 0 0)) (.tmp 3) 91 81 (.int .u32 0) 4 rfl Tryz.underlying91 infoU rfl (by decide) (by omega) (.slice none 0 0) [] l A l.length c (fun _ => True) (fun _ => False) rfl rfl (Kd.R_nil _ _ _ _ _) HR.out (fun _ _ h => h) (fun _ h => h.elim) (fun _ _ => trivial) (Below.refl _ _) (Nat.le_refl _) ?aL ?_; (case aL => simp only [List.length_nil, Nat.zero_add]; omega); intro v1 w1 ho hb hg hat))
  go_ret
  exact ⟨_, rfl, by simpa using ho, hb⟩
/-- A number of cayleybig's. -/
def IsC (w : World) (B x : Nat) : Prop := ∃ A c, w.heap[B]? = some (.cells #[.bool false, .slice A (wsF x).length c] 93 (0, 0)) ∧ (wsF x).length ≤ c ∧ Kd.C (Kd.int .u32) w A (wsF x).length (wsF x)
set_option maxHeartbeats 1000000 in
set_option maxRecDepth 100000 in
theorem give_calls (B n c : Nat) (A : Option Addr) (u : Value) (w : World) (hB : w.heap[B]? = some (.cells #[.bool false, u] 93 (0, 0))) :
    Calls Tryz.prog 89 #[.pointer (some ⟨B, 0, none⟩), .bool false, .slice A n c] w fun e w' => e = .returned (.pointer (some ⟨B, 0, none⟩)) ∧ w' = (w.setCell ⟨B, 1, none⟩ (.slice A n c)).setCell ⟨B, 0, none⟩ (.bool false) := by
  have h0 : w.cell? ⟨B, 0, none⟩ = some (.bool false) := (blk_cell hB 0).trans rfl
  have h1 : w.cell? ⟨B, 1, none⟩ = some u := (blk_cell hB 1).trans rfl
  have z0 := blk_frozen hB 0
  have z1 := blk_frozen hB 1
  go_enter Tryz.func89, Tryz.ntmps89
  go_wp2
  go_ret
  exact ⟨rfl, rfl⟩
set_option maxHeartbeats 1000000 in
set_option maxRecDepth 100000 in
theorem SetInt64_calls (B x : Nat) (w : World) (hx : x < 1000) (hB : w.heap[B]? = some (.cells #[.bool false, .slice none 0 0] 93 (0, 0))) :
    Calls Tryz.prog 64 #[.pointer (some ⟨B, 0, none⟩), .int .i64 x] w fun e w' => e = .returned (.pointer (some ⟨B, 0, none⟩)) ∧ IsC w' B x ∧ CL.FB w.heap.size B w w' := by
  have hx2 : decide ((x : Int) < 0) = false := decide_eq_false (by omega)
  have hc : ∀ w, (convert 2 83 (.int .i64 x)).run Tryz.prog w = .ok (.int .u64 x) w := by
    intro w
    simp [convert, go_sem, Tryz.underlying2, Tryz.underlying83]
    show (x : Int) % 18446744073709551616 = x
    omega
  go_enter Tryz.func64, Tryz.ntmps64
  go_wp2_with fail
  refine (cayleybig_words.calls 5 (x : Int) (wsF x) w (words_all ⟨x, hx⟩)).mono ?_
  rintro e w1 ⟨v, rfl, hv, hb⟩
  obtain ⟨A, c, e1⟩ := Kd.R_slice hv
  subst e1
  have hlt : B < w.heap.size := blk_lt hB
  have hB1 := (hb.block B hlt).trans hB
  have HV := Aside0.mk hv
  have HB := Aside0.mk (And.intro hlt (And.intro hB1 hb))
  clear hv hb hB hB1 hlt
  go_wp2_with fail
  refine (give_calls B _ c A _ w1 HB.out.2.1).mono ?_
  rintro e w2 ⟨rfl, hw2⟩
  obtain ⟨hlt, hB1, hb⟩ := HB.out
  have hR : Kd.R (Kd.int .u32) 81 w2 w.heap.size (fun _ => True) (.slice A (wsF x).length c) (wsF x) := by
    rw [hw2]
    exact CK.R_set (CK.R_set HV.out hlt 1 _) hlt 0 _
  have hfin : IsC w2 B x ∧ CL.FB w.heap.size B w w2 := by
    obtain ⟨_, hl, hC⟩ := Kd.R_reads' hR
    refine ⟨⟨A, c, ?_, hl, hC⟩, ?_⟩
    · rw [hw2]; exact (blk_put (blk_put hB1 1 _ rfl) 0 _ rfl)
    · rw [hw2]
      refine ⟨by simpa using hb.size, fun k hk hne => ?_, hb.os, hb.tape, hb.output⟩
      rw [Below.heap_setCell _ ⟨B, 0, none⟩ _ _ hne, Below.heap_setCell _ ⟨B, 1, none⟩ _ _ hne]
      exact hb.block k hk
  clear hw2 hR hB1 hb hlt
  have HF := Aside0.mk hfin
  clear hfin
  go_wp2
  go_ret
  exact ⟨rfl, HF.out.1, HF.out.2⟩
set_option maxHeartbeats 1000000 in
set_option maxRecDepth 100000 in
theorem Big_calls (x : Nat) (w : World) (hx : x < 1000) :
    Calls Tryz.prog 27 #[.int .i64 x] w fun e w' => ∃ B, e = .returned (.pointer (some ⟨B, 0, none⟩)) ∧ IsC w' B x ∧ Below w.heap.size w w' := by
  have hN : Calls Tryz.prog 38 #[.int .i64 x] w fun e w' => e = .returned (.pointer (some ⟨w.heap.size, 0, none⟩)) ∧ IsC w' w.heap.size x ∧ Below w.heap.size w w' := by
    go_enter Tryz.func38, Tryz.ntmps38
    go_wp2_with fail
    refine (SetInt64_calls w.heap.size x _ hx (heap_alloc_new w _)).mono ?_
    rintro e w2 ⟨rfl, hI, hF⟩
    have HF := Aside0.mk (And.intro hI ((Below.refl w.heap.size w).alloc (Nat.le_refl _) (.cells #[.bool false, .slice none 0 0] 93) |>.trans (hF.below (by simp) (Nat.le_refl _))))
    clear hI hF
    go_wp2
    go_ret
    exact ⟨rfl, HF.out.1, HF.out.2⟩
  go_enter Tryz.func27, Tryz.ntmps27
  go_wp2_with fail
  refine hN.mono ?_
  rintro e w2 ⟨rfl, hI, hF⟩
  have HF := Aside0.mk (And.intro hI hF)
  clear hI hF hN
  go_wp2
  go_ret
  exact ⟨_, rfl, HF.out.1, HF.out.2⟩
end Go.Proofs.YtkplhpnhjfdelaaGreatDoor.BS
namespace Go.Proofs.YtkplhpnhjfdelaaGreatDoor.BT
open Go.RowKit Go.Proofs.YtkplhpnhjfdelaaGreatDoorW.PrintWords Go.Proofs.YtkplhpnhjfdelaaGreatDoorW.PrintLast Go.Proofs.YtkplhpnhjfdelaaGreatDoorW.PrintMore Go.Proofs.YtkplhpnhjfdelaaGreatDoor.PPermCycles Go.Proofs.YtkplhpnhjfdelaaGreatDoor.BS
set_option linter.unusedVariables false
set_option linter.unusedSimpArgs false
/-- The decimal digits, the greatest first; of 0: none. -/
def dgI (m : Nat) : List Int := if m = 0 then [] else if m < 10 then [48 + (m : Int)] else if m < 100 then [48 + ((m / 10 : Nat) : Int), 48 + ((m % 10 : Nat) : Int)] else [48 + ((m / 100 : Nat) : Int), 48 + ((m / 10 % 10 : Nat) : Int), 48 + ((m % 10 : Nat) : Int)]
theorem dg_all : ∀ m : Fin 1000, m.val = 0 ∨ dgI m.val = dgI (m.val / 10) ++ [48 + ((m.val % 10 : Nat) : Int)] := by decide +kernel
theorem dg_step (m : Nat) (h : m < 1000) (h0 : m ≠ 0) : dgI m = dgI (m / 10) ++ [48 + ((m % 10 : Nat) : Int)] := by
  rcases dg_all ⟨m, h⟩ with h1 | h1
  · exact absurd h1 h0
  · exact h1
theorem dg_len : ∀ m : Fin 1000, m.val = 0 ∨ (1 ≤ (dgI m.val).length ∧ (dgI m.val).length ≤ 3) := by decide +kernel
theorem dg_dec : ∀ m : Fin 1000, m.val = 0 ∨ (strOfNums (dgI m.val)).data.toList = Lib.decDigits m.val := by decide +kernel
theorem dg_str (n : Nat) (h : n < 1000) (h0 : n ≠ 0) : strOfNums (dgI n) = ⟨(Lib.decDigits n).toArray⟩ := by
  rcases dg_dec ⟨n, h⟩ with h1 | h1
  · exact absurd h1 h0
  · rw [← h1]
theorem infoB : (Tryz.prog.info? 5).map (fun i => (i.zero, i.size, i.bytes)) = some (some (.int .u8 0), 1, 1) := by kernel_rfl
set_option maxHeartbeats 4000000 in
set_option maxRecDepth 100000 in
theorem CText_calls (B n : Nat) (w : World) (hn : n < 1000) (hI : IsC w B n) :
    Calls Tryz.prog 39 #[.pointer (some ⟨B, 0, none⟩), .int .i64 10] w fun e w' => e = .returned (.string ⟨(Lib.decDigits n).toArray⟩) ∧ Below w.heap.size w w' := by
  obtain ⟨A, c, hB, hc, hC⟩ := hI
  have h0 : w.cell? ⟨B, 0, none⟩ = some (.bool false) := (blk_cell hB 0).trans rfl
  have h1 : w.cell? ⟨B, 1, none⟩ = some (.slice A (wsF n).length c) := (blk_cell hB 1).trans rfl
  go_enter Tryz.func39, Tryz.ntmps39
  by_cases hn0 : n = 0
  · subst hn0
    have hw0 : wsF 0 = [] := rfl
    rw [hw0] at h1
    go_wp2
    go_ret
    exact ⟨by rw [Lib.decDigits]; rfl, Below.refl _ _⟩
  · have hwn : wsF n = [(n : Int)] := by simp [wsF, hn0]
    have htw := twin_calls A c (wsF n) w hC (by rw [hwn]; simp)
    rw [hwn] at h1 htw
    have HB0 := Aside0.mk hB
    clear hC hB hc
    go_wp2_with fail
    refine htw.mono ?_
    rintro e w1 ⟨v, rfl, hv, hb⟩
    obtain ⟨A1, c1, rfl⟩ := Kd.R_slice hv
    have hC1 := Kd.R_reads' hv
    have H0 := Aside0.mk (And.intro hC1 hb)
    have h01 := (hb.cell (World.block_lt_of_cell? w _ h0)).trans h0
    have HC0 := Aside0.mk h0
    clear hv hb hC1 htw h1 hwn h0
    go_wp2_with fail
    go_loopg [5, 6] n (fun kq v5 v6 wr => ∃ (A2 : Option Addr) (c2 : Nat) (bs : List Int), v6 = .slice A2 (wsF kq).length c2 ∧ kq < 1000 ∧ (bs.length : Int) ≤ 1000 ∧ Aside0 ((wsF kq).length ≤ c2 ∧ Kd.C (Kd.int .u32) wr A2 (wsF kq).length (wsF kq)) ∧ Aside0 (Kd.R (Kd.int .u8) 5 wr w.heap.size (fun _ => True) v5 bs) ∧ Aside0 (Below w.heap.size w wr) ∧ Aside0 (dgI n = dgI kq ++ bs.reverse))
    case atStart =>
      refine ⟨A1, c1, [], ?_, hn, by simp, ⟨?_, ?_⟩, ⟨Kd.R_nil _ _ _ _ _⟩, ⟨H0.out.2⟩, ⟨by simp⟩⟩
      · simp [wsF, hn0]
      · simpa [wsF, hn0] using H0.out.1.2.1
      · simpa [wsF, hn0] using H0.out.1.2.2
    case round =>
      obtain ⟨A2, c2, bs, rfl, hk, hbl, HC, HR, HB, HD⟩ := hrel
      by_cases hz : gk = 0
      · subst hz
        have hw0 : wsF 0 = [] := rfl
        rw [hw0]
        have hbs : bs.reverse = dgI n := by have := HD.out; simpa [dgI] using this.symm
        have hlen : 1 ≤ bs.length ∧ bs.length ≤ 3 := by
          rcases dg_len ⟨n, hn⟩ with h | h
          · exact absurd h hn0
          · rw [← hbs, List.length_reverse] at h; exact h
        have HS := Aside0.mk (show strOfNums bs.reverse = ⟨(Lib.decDigits n).toArray⟩ by rw [hbs]; exact dg_str n hn hn0)
        have h0r : wr.cell? ⟨B, 0, none⟩ = some (.bool false) := (HB.out.cell (World.block_lt_of_cell? w _ HC0.out)).trans HC0.out
        obtain ⟨g, cap, e5, hgb, hgl, cells, HG⟩ := Kd.R_form HR.out (by omega)
        subst e5
        clear HD hbs
        have hgB : g ≠ B := by have := World.block_lt_of_cell? w _ HC0.out; simp at this; omega
        have HB1 := Aside0.mk (And.intro hgb HB.out)
        match bs, hlen, HR, HS with
        | [], h, _, _ => exact absurd h.1 (by simp)
        | [x], _, HR, HS =>
          have hcv : (convert 44 9 (.slice (some ⟨g, 0, none⟩) 1 cap)).run Tryz.prog wr = .ok (.string ⟨(Lib.decDigits n).toArray⟩) wr := by
            have h := Kd.C_string (src := 44) (dst := 9) (c := cap) Tryz.underlying44 Tryz.underlying5 Tryz.underlying9 (Kd.R_reads' HR.out).2.2
            rw [show strOfNums [x] = ⟨(Lib.decDigits n).toArray⟩ from HS.out] at h
            exact h
          clear HR HS HG hbl
          go_wp2_with fail
          refine wp_loop_rounds 1 ?_
          rw [rounds_succ]
          go_wp2
          go_ret
          exact ⟨rfl, HB1.out.2⟩
        | [x, y], _, HR, HS =>
          obtain ⟨c0, z0⟩ := Kd.R_celln 0 HR.out 0 (by omega) (by simp)
          obtain ⟨c1, z1⟩ := Kd.R_celln 0 HR.out 1 (by omega) (by simp)
          have p0 : wr.cell? ⟨g, 0, none⟩ = some (.int .u8 x) := c0
          have p1 : wr.cell? ⟨g, 1, none⟩ = some (.int .u8 y) := c1
          have q0 : wr.frozen? ⟨g, 0, none⟩ = false := z0
          have q1 : wr.frozen? ⟨g, 1, none⟩ = false := z1
          obtain ⟨wf, hwf⟩ : ∃ wf : World, wf = (wr.setCell ⟨g, 0, none⟩ (.int .u8 y)).setCell ⟨g, 1, none⟩ (.int .u8 x) := ⟨_, rfl⟩
          have hRf : Kd.R (Kd.int .u8) 5 wf w.heap.size (fun _ => True) (.slice (some ⟨g, 0, none⟩) 2 cap) [y, x] := by
            rw [hwf]
            exact (Kd.R_putg (Kd.R_putg HR.out 0 y).1 1 x).1
          have hcv : (convert 44 9 (.slice (some ⟨g, 0, none⟩) 2 cap)).run Tryz.prog wf = .ok (.string ⟨(Lib.decDigits n).toArray⟩) wf := by
            have h := Kd.C_string (src := 44) (dst := 9) (c := cap) Tryz.underlying44 Tryz.underlying5 Tryz.underlying9 (Kd.R_reads' hRf).2.2
            rw [show strOfNums [y, x] = ⟨(Lib.decDigits n).toArray⟩ from HS.out] at h
            exact h
          have hbf : Below w.heap.size w wf := by
            rw [hwf]
            exact (HB1.out.2.setCell (by simpa using HB1.out.1) _).setCell (by simpa using HB1.out.1) _
          have HBF := Aside0.mk (And.intro hwf hbf)
          rw [hwf] at hcv
          clear HR HS HG hbl hRf c0 c1 z0 z1 hwf hbf
          go_wp2_with fail
          refine wp_loop_rounds 2 ?_
          rw [rounds_succ]
          go_wp2_with fail
          rw [rounds_succ]
          go_wp2
          go_ret
          exact ⟨rfl, by rw [← HBF.out.1]; exact HBF.out.2⟩
        | [x, y, z], _, HR, HS =>
          obtain ⟨c0, z0⟩ := Kd.R_celln 0 HR.out 0 (by omega) (by simp)
          obtain ⟨c1, z1⟩ := Kd.R_celln 0 HR.out 2 (by omega) (by simp)
          have p0 : wr.cell? ⟨g, 0, none⟩ = some (.int .u8 x) := c0
          have p1 : wr.cell? ⟨g, 2, none⟩ = some (.int .u8 z) := c1
          have q0 : wr.frozen? ⟨g, 0, none⟩ = false := z0
          have q1 : wr.frozen? ⟨g, 2, none⟩ = false := z1
          obtain ⟨wf, hwf⟩ : ∃ wf : World, wf = (wr.setCell ⟨g, 0, none⟩ (.int .u8 z)).setCell ⟨g, 2, none⟩ (.int .u8 x) := ⟨_, rfl⟩
          have hRf : Kd.R (Kd.int .u8) 5 wf w.heap.size (fun _ => True) (.slice (some ⟨g, 0, none⟩) 3 cap) [z, y, x] := by
            rw [hwf]
            exact (Kd.R_putg (Kd.R_putg HR.out 0 z).1 2 x).1
          have hcv : (convert 44 9 (.slice (some ⟨g, 0, none⟩) 3 cap)).run Tryz.prog wf = .ok (.string ⟨(Lib.decDigits n).toArray⟩) wf := by
            have h := Kd.C_string (src := 44) (dst := 9) (c := cap) Tryz.underlying44 Tryz.underlying5 Tryz.underlying9 (Kd.R_reads' hRf).2.2
            rw [show strOfNums [z, y, x] = ⟨(Lib.decDigits n).toArray⟩ from HS.out] at h
            exact h
          have hbf : Below w.heap.size w wf := by
            rw [hwf]
            exact (HB1.out.2.setCell (by simpa using HB1.out.1) _).setCell (by simpa using HB1.out.1) _
          have HBF := Aside0.mk (And.intro hwf hbf)
          rw [hwf] at hcv
          clear HR HS HG hbl hRf c0 c1 z0 z1 hwf hbf
          go_wp2_with fail
          refine wp_loop_rounds 2 ?_
          rw [rounds_succ]
          go_wp2_with fail
          rw [rounds_succ]
          go_wp2
          go_ret
          exact ⟨rfl, by rw [← HBF.out.1]; exact HBF.out.2⟩
        | _ :: _ :: _ :: _ :: _, h, _, _ => exact absurd h.2 (by simp)
      · have hwk : wsF gk = [(gk : Int)] := by simp [wsF, hz]
        rw [hwk] at HC
        rw [hwk]
        have hsm : cayleybig_small.f 5 [(gk : Int)] 10 = some (wsF (gk / 10), ((gk % 10 : Nat) : Int)) := by
          rcases small_all ⟨gk, hk⟩ with h | h
          · exact absurd h hz
          · exact h
        have hbn : bs.length + 1 ≤ 3 := by
          have h1 := HD.out
          rw [dg_step gk hk hz] at h1
          have h2 := congrArg List.length h1
          simp only [List.length_append, List.length_cons, List.length_nil, List.length_reverse] at h2
          rcases dg_len ⟨n, hn⟩ with h | h
          · exact absurd h hn0
          · have h3 : (dgI n).length ≤ 3 := h.2
            omega
        have HD2 := Aside0.mk (show dgI n = dgI (gk / 10) ++ (bs ++ [48 + ((gk % 10 : Nat) : Int)]).reverse by rw [HD.out, dg_step gk hk hz]; simp)
        obtain ⟨r, hr⟩ : ∃ r : Nat, r = gk % 10 := ⟨_, rfl⟩
        rw [← hr] at hsm HD2
        have hr10 : r < 10 := by omega
        have hrd : decide ((r : Int) < 10) = true := decide_eq_true (by omega)
        have HSM := Aside0.mk (cayleybig_small.calls 5 A2 c2 [(gk : Int)] 10 _ _ wr HC.out.2 HC.out.1 hsm)
        have HBN := Aside0.mk hbn
        clear hsm hr hbn
        go_wp2_with fail
        refine HSM.out.mono ?_
        rintro e w3 ⟨v3, rfl, hv3, hb3⟩
        obtain ⟨A3, c3, rfl⟩ := Kd.R_slice hv3
        have hR3 := Kd.R_below HR.out hb3
        have HV3 := Aside0.mk (Kd.R_lower hv3 HB.out.size)
        have HR3 := Aside0.mk hR3
        have HB3 := Aside0.mk (HB.out.trans (hb3.mono HB.out.size))
        clear HSM hv3 hb3 hR3
        go_wp2_with (first | ((with_reducible refine gate_dst (N := 41) rfl ?_); at_builtin; refine Kd.R_append (Kd.int .u8) (w0 := w) w.heap.size rfl (.tmp 36) (.tmp 40) 44 5 (.int .u8 0) 1 rfl Tryz.underlying44 infoB rfl (by decide) (by omega) u5 bs (48 + (r : Int)) [.int .u8 (48 + (r : Int))] (fun _ => True) (fun _ => False) rfl rfl ?aP (fun _ hk => hk.elim) (fun _ _ => trivial) HR3.out HB3.out HB3.out.size ?aL ?_; (case aP => exact rfl); (case aL => have := HBN.out; omega); intro v1 w4 ho1 hb1 hg1 hat1; have hv4 := Kd.R_over HV3.out HR3.out (by decide) hg1; have HR4 := Aside0.mk ho1; have HB4 := Aside0.mk hb1; have HV4 := Aside0.mk hv4; clear ho1 hb1 hg1 hat1 hv4))
        go_roundg (gk / 10)
        case measure => omega
        case rel =>
          have h1 := Kd.R_reads' HV4.out
          exact ⟨A3, c3, bs ++ [48 + (r : Int)], rfl, by omega, by have := HBN.out; simp only [List.length_append, List.length_cons, List.length_nil]; omega, ⟨h1.2⟩, HR4, HB4, HD2⟩
end Go.Proofs.YtkplhpnhjfdelaaGreatDoor.BT
