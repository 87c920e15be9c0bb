/- math.Log2 at 10, as math/big asks it. What math/big's String asks of a number of one word: bitLen, getStack, free, maxPow, divisors. math/big: a number of one word, divided by a word; its digits. math/big: the digits of a number of one word. math/big: String of a number below 1024. -/
import Derived.Test.YtkplhpnhjfdelaaGreatDoorGF
import Derived.WalkSpells
import Derived.Defers
import Derived.Test.YtkplhpnhjfdelaaGreatDoorGT
namespace Go.Proofs.YtkplhpnhjfdelaaGreatDoor.BH
open Go.RowKit Go.Proofs.YtkplhpnhjfdelaaGreatDoorW.PrintWords Go.Proofs.YtkplhpnhjfdelaaGreatDoorW.PrintLast Go.Proofs.YtkplhpnhjfdelaaGreatDoorW.PrintMore Go.Proofs.YtkplhpnhjfdelaaGreatDoor.PPermCycles Go.Proofs.YtkplhpnhjfdelaaGreatDoor.BA
set_option linter.unusedVariables false
set_option linter.unusedSimpArgs false
abbrev F (n : Nat) : Value := .float .f64 n
theorem bits10 (w : World) : (callFunc 208 #[F 4621819117588971520]).run Tryz.prog w = .ok (.value (.int .u64 4621819117588971520)) w := by kernel_rfl
theorem from10 (w : World) : (callFunc 209 #[.int .u64 4621819117588971520]).run Tryz.prog w = .ok (.value (F 4621819117588971520)) w := by kernel_rfl
theorem fromF (w : World) : (callFunc 209 #[.int .u64 4603804719079489536]).run Tryz.prog w = .ok (.value (F 4603804719079489536)) w := by kernel_rfl
theorem log_frac (w : World) : (callFunc 179 #[F 4603804719079489536]).run Tryz.prog w = .ok (.value (F 13825510489450817230)) w := by kernel_rfl
theorem eq0 (w : World) : (binOp .eql 144 (F 4621819117588971520) (F 0)).run Tryz.prog w = .ok (.bool false) w := by kernel_rfl
theorem eqhalf (w : World) : (binOp .eql 144 (F 4603804719079489536) (F 4602678819172646912)).run Tryz.prog w = .ok (.bool false) w := by kernel_rfl
theorem mulln (w : World) : (binOp .mul 144 (F 13825510489450817230) (F 4609176140021203710)).run Tryz.prog w = .ok (F 13827654785158443579) w := by kernel_rfl
theorem add4 (w : World) : (binOp .add 144 (F 13827654785158443579) (F 4616189618054758400)).run Tryz.prog w = .ok (F 4614662735865160561) w := by kernel_rfl
theorem conv4 (w : World) : (convert 3 144 (.int .i64 4)).run Tryz.prog w = .ok (F 4616189618054758400) w := by kernel_rfl
set_option maxHeartbeats 2000000 in
set_option maxRecDepth 100000 in
theorem Log2_ten (w : World) : Calls Tryz.prog 115 #[F 4621819117588971520] w fun e w' => e = .returned (F 4614662735865160561) ∧ w = w' := by
  have h1 := bits10
  have h2 := from10
  have h3 := fromF
  have h4 := log_frac
  have h5 := eq0
  have h6 := eqhalf
  have h7 := mulln
  have h8 := add4
  have h9 := conv4
  have k1 : bits .andNot .u64 4621819117588971520 9223372036854775808 = 4621819117588971520 := by kernel_rfl
  have k2 : ∀ w, (binOp .lss 144 (F 4621819117588971520) (F 4503599627370496)).run Tryz.prog w = .ok (.bool false) w := fun w => by kernel_rfl
  have k3 : bits .and .u64 1026 2047 = 1026 := by kernel_rfl
  have k4 : bits .andNot .u64 4621819117588971520 9218868437227405312 = 1125899906842624 := by kernel_rfl
  have k5 : bits .or .u64 1125899906842624 4602678819172646912 = 4603804719079489536 := by kernel_rfl
  have k6 : ∀ w, (binOp .gtr 144 (F 4621819117588971520) (F 9218868437227405311)).run Tryz.prog w = .ok (.bool false) w := fun w => by kernel_rfl
  have k7 : ∀ w, (binOp .neq 144 (F 4621819117588971520) (F 4621819117588971520)).run Tryz.prog w = .ok (.bool false) w := fun w => by kernel_rfl
  go_enter Tryz.func115, Tryz.ntmps115
  go_wp2
  go_ret
  exact ⟨rfl, rfl⟩
end Go.Proofs.YtkplhpnhjfdelaaGreatDoor.BH
namespace Go.Proofs.YtkplhpnhjfdelaaGreatDoor.BI
open Go.RowKit Go.Proofs.YtkplhpnhjfdelaaGreatDoorW.PrintWords Go.Proofs.YtkplhpnhjfdelaaGreatDoorW.PrintLast Go.Proofs.YtkplhpnhjfdelaaGreatDoorW.PrintMore Go.Proofs.YtkplhpnhjfdelaaGreatDoor.PPermCycles Go.Proofs.YtkplhpnhjfdelaaGreatDoor.BA Go.Proofs.YtkplhpnhjfdelaaGreatDoor.BB Go.Proofs.YtkplhpnhjfdelaaGreatDoor.BC Go.Proofs.YtkplhpnhjfdelaaGreatDoor.BD Go.Proofs.YtkplhpnhjfdelaaGreatDoor.BH
set_option linter.unusedVariables false
set_option linter.unusedSimpArgs false
def s1 (x : Int) : Int := bits .or .u64 x (x / 2)
def s2 (x : Int) : Int := bits .or .u64 (s1 x) (s1 x / 4)
def s3 (x : Int) : Int := bits .or .u64 (s2 x) (s2 x / 16)
def s4 (x : Int) : Int := bits .or .u64 (s3 x) (s3 x / 256)
def s5 (x : Int) : Int := bits .or .u64 (s4 x) (s4 x / 65536)
def s6 (x : Int) : Int := bits .or .u64 (s5 x) (s5 x / 65536 / 65536)
set_option maxRecDepth 100000 in
theorem s_small : ∀ n : Fin 1024, 0 ≤ s1 n.val ∧ s1 n.val ≤ 1023 ∧ 0 ≤ s2 n.val ∧ s2 n.val ≤ 1023 ∧ 0 ≤ s3 n.val ∧ s3 n.val ≤ 1023 ∧ 0 ≤ s4 n.val ∧ s4 n.val ≤ 1023 ∧ 0 ≤ s5 n.val ∧ s5 n.val ≤ 1023 ∧ 0 ≤ s6 n.val ∧ s6 n.val ≤ 1023 ∧ Lib.bitLen (s6 n.val).toNat = Lib.bitLen n.val := by decide +kernel
theorem bitLen_calls (g cap x : Nat) (w : World) (hx : w.cell? ⟨g, 0, none⟩ = some (.int .u64 x)) (hc1 : 1 ≤ cap) (hc2 : cap ≤ 1000) (hn : x < 1024) :
    Calls Tryz.prog 114 #[.slice (some ⟨g, 0, none⟩) 1 cap] w fun e w' => e = .returned (.int .i64 (Lib.bitLen x)) ∧ w = w' := by
  have h := s_small ⟨x, hn⟩
  simp only at h
  obtain ⟨a1, b1, a2, b2, a3, b3, a4, b4, a5, b5, a6, b6, hl⟩ := h
  have HL := Aside0.mk (Tryz.bits_Len (s6 x) · a6 (by omega))
  rw [hl] at HL
  have e1 : bits .or .u64 (x : Int) ((x : Int) / 2) = s1 x := rfl
  have e2 : bits .or .u64 (s1 x) (s1 x / 4) = s2 x := rfl
  have e3 : bits .or .u64 (s2 x) (s2 x / 16) = s3 x := rfl
  have e4 : bits .or .u64 (s3 x) (s3 x / 256) = s4 x := rfl
  have e5 : bits .or .u64 (s4 x) (s4 x / 65536) = s5 x := rfl
  have e6 : bits .or .u64 (s5 x) (s5 x / 65536 / 65536) = s6 x := rfl
  generalize s1 x = y1 at *
  generalize s2 x = y2 at *
  generalize s3 x = y3 at *
  generalize s4 x = y4 at *
  generalize s5 x = y5 at *
  generalize s6 x = y6 at *
  have hlb : Lib.bitLen x ≤ 64 := Lib.bitLen_le x 64 (Nat.le_refl _) (by omega)
  clear hl
  go_enter Tryz.func114, Tryz.ntmps114
  go_wp2_with (go_at_call 31; (with_reducible refine (HL.out _).mono ?_); rintro e w' ⟨rfl, rfl⟩)
  go_ret
  exact ⟨rfl, rfl⟩
theorem getStack_calls (w : World) : Calls Tryz.prog 100 #[] w fun e w' => e = .returned (.pointer (some ⟨w.heap.size, 0, none⟩)) ∧ w' = w.alloc (.cells #[.pointer none] 156) := by
  go_enter Tryz.func100, Tryz.ntmps100
  go_wp2
  go_ret
  exact ⟨rfl, rfl⟩
theorem free_calls (g : Nat) (w : World) (h : w.cell? ⟨g, 0, none⟩ = some (.pointer none)) : Calls Tryz.prog 101 #[.pointer (some ⟨g, 0, none⟩)] w fun e w' => e = .returned (.tuple #[]) ∧ w = w' := by
  go_enter Tryz.func101, Tryz.ntmps101
  go_wp2
  first | go_end0 | refine bodyPost_ret (results_none rfl _ _ _) rfl ?_
  exact ⟨rfl, rfl⟩
def p10 : Nat → Int
  | 0 => 1
  | n + 1 => p10 n * 10
set_option maxHeartbeats 2000000 in
set_option maxRecDepth 100000 in
theorem maxPow_calls (w : World) : Calls Tryz.prog 116 #[.int .u64 10] w fun e w' => e = .returned (.tuple #[.int .u64 10000000000000000000, .int .i64 19]) ∧ w = w' := by
  go_enter Tryz.func116, Tryz.ntmps116
  go_wp2
  refine wp_loop_rounds 19 ?_
  iterate 19 (rw [rounds_succ]; go_wp2)
  go_ret2
  exact ⟨rfl, rfl⟩
set_option maxRecDepth 100000 in
theorem divisors_calls (q : Value) (a b c : Value) (w : World) (h : w.cell? ⟨6, 0, none⟩ = some (.int .i64 8)) : Calls Tryz.prog 117 #[q, .int .i64 1, a, b, c] w fun e w' => e = .returned (.slice none 0 0) ∧ w = w' := by
  go_enter Tryz.func117, Tryz.ntmps117
  go_wp2
  go_ret
  exact ⟨rfl, rfl⟩
end Go.Proofs.YtkplhpnhjfdelaaGreatDoor.BI
namespace Go.Proofs.YtkplhpnhjfdelaaGreatDoor.BJ
open Go.RowKit Go.Proofs.YtkplhpnhjfdelaaGreatDoorW.PrintWords Go.Proofs.YtkplhpnhjfdelaaGreatDoorW.PrintLast Go.Proofs.YtkplhpnhjfdelaaGreatDoorW.PrintMore Go.Proofs.YtkplhpnhjfdelaaGreatDoor.PPermCycles Go.Proofs.YtkplhpnhjfdelaaGreatDoor.BA Go.Proofs.YtkplhpnhjfdelaaGreatDoor.BB Go.Proofs.YtkplhpnhjfdelaaGreatDoor.BC Go.Proofs.YtkplhpnhjfdelaaGreatDoor.BD Go.Proofs.YtkplhpnhjfdelaaGreatDoor.BI
set_option linter.unusedVariables false
set_option linter.unusedSimpArgs false
set_option maxHeartbeats 2000000 in
set_option maxRecDepth 100000 in
theorem Div_calls (x y : Int) (w : World) (hx : 0 ≤ x) (hx1 : x < 18446744073709551616) (hy : 0 < y) (hy1 : y < 18446744073709551616) :
    Calls Tryz.prog 194 #[.int .u64 0, .int .u64 x, .int .u64 y] w fun e w' => e = .returned (.tuple #[.int .u64 (x / y), .int .u64 (x % y)]) ∧ Drawn0 w w' := by
  have h1 : (y == 0) = false := by simp; omega
  have h2 : decide (y ≤ 0) = false := decide_eq_false (by omega)
  have h3 : ¬ y = 0 := by omega
  have h4 : ¬ y ≤ 0 := by omega
  go_enter Tryz.func194, Tryz.ntmps194
  go_wp2
  go_quiet (fail)
  go_wp2
  go_ret2
  have e1 : IntKind.u64.wrap (x.tdiv y) = x / y := by
    rw [Int.tdiv_eq_ediv_of_nonneg hx]
    have := Int.ediv_le_self y hx
    exact IntWalk.u64_in _ ⟨Int.ediv_nonneg hx (by omega), by omega⟩
  have e2 : x.tmod y = x % y := Int.tmod_eq_emod_of_nonneg hx
  refine ⟨?_, ⟨⟨_, rfl⟩⟩⟩
  first | rfl | (simp only [e1, e2]; done) | (simp [e1, e2]; done)
set_option maxHeartbeats 2000000 in
set_option maxRecDepth 100000 in
theorem divWVW1 (g cap cx : Nat) (v y : Int) (w : World) (hv : 0 ≤ v) (hvy : v < y) (hy1 : y < 18446744073709551616) (hc : w.cell? ⟨g, 0, none⟩ = some (.int .u64 v)) (hf : w.frozen? ⟨g, 0, none⟩ = false) :
    Calls Tryz.prog 164 #[.slice (some ⟨g, 0, none⟩) 1 cap, .int .u64 0, .slice (some ⟨g, 0, none⟩) 1 cx, .int .u64 y] w fun e w' => e = .returned (.int .u64 v) ∧ ∃ n, w' = (w.drewN n).setCell ⟨g, 0, none⟩ (.int .u64 0) := by
  have HD := fun w => Div_calls v y w hv (by omega) (by omega) hy1
  rw [Int.ediv_eq_zero_of_lt hv hvy, Int.emod_eq_of_lt hv hvy] at HD
  have HDD := Aside0.mk HD
  clear HD hv hvy hy1
  go_enter Tryz.func164, Tryz.ntmps164
  go_wp2_with (go_at_call 194; (with_reducible refine (HDD.out _).mono ?_); rintro e w' ⟨rfl, ⟨⟨n, rfl⟩⟩⟩)
  go_ret
  exact ⟨rfl, _, rfl⟩
set_option maxHeartbeats 2000000 in
set_option maxRecDepth 100000 in
theorem divW1 (g cap : Nat) (cs : Array Value) (v y : Int) (w : World) (hc1 : 1 ≤ cap) (hc2 : cap ≤ 1000) (hb : w.heap[g]? = some (.cells cs 88 (0, 0))) (h0 : cs[0]? = some (.int .u64 v)) (hv : 0 ≤ v) (hvy : v < y) (hy2 : 2 ≤ y) (hy1 : y < 18446744073709551616) :
    Calls Tryz.prog 142 #[.slice (some ⟨g, 0, none⟩) 1 cap, .slice (some ⟨g, 0, none⟩) 1 cap, .int .u64 y] w fun e w' => e = .returned (.tuple #[.slice (some ⟨g, 0, none⟩) 0 cap, .int .u64 v]) ∧ ∃ n, w' = (w.drewN n).setCell ⟨g, 0, none⟩ (.int .u64 0) := by
  have HD := Aside0.mk (divWVW1 g cap cap v y w hv hvy hy1 ((blk_cell hb 0).trans h0) (blk_frozen hb 0))
  have e1 : (y == 0) = false := by simp; omega
  have e2 : (y == 1) = false := by simp; omega
  have HN : Aside0 (∀ n, Calls Tryz.prog 83 #[.slice (some ⟨g, 0, none⟩) 1 cap] ((w.drewN n).setCell ⟨g, 0, none⟩ (.int .u64 0)) fun e w' => e = .returned (.slice (some ⟨g, 0, none⟩) 0 cap) ∧ (w.drewN n).setCell ⟨g, 0, none⟩ (.int .u64 0) = w') := ⟨fun n => by
    have h1 := blk_set (blk_drewN hb n) 0 (.int .u64 0)
    have hs : 0 < cs.size := by
      rcases Nat.eq_zero_or_pos cs.size with h | h
      · rw [Array.getElem?_eq_none (by omega)] at h0; cases h0
      · exact h
    exact norm1z g cap _ hc1 hc2 ((blk_cell h1 0).trans (Array.getElem?_setIfInBounds_self_of_lt hs))⟩
  clear hb h0 hv hvy hy2 hy1
  go_enter Tryz.func142, Tryz.ntmps142
  go_wp2_with (first
    | (go_at_call 80; (with_reducible refine (make_reuse _ _ 1 cap 1 _ rfl hc1 hc2).mono ?_); rintro e w' ⟨rfl, rfl⟩)
    | (go_at_call 164; (with_reducible refine HD.out.mono ?_); rintro e w' ⟨rfl, n, rfl⟩)
    | (go_at_call 83; (with_reducible refine (HN.out _).mono ?_); rintro e w' ⟨rfl, hw'⟩; subst w'))
  go_ret2
  exact ⟨rfl, _, rfl⟩
end Go.Proofs.YtkplhpnhjfdelaaGreatDoor.BJ
namespace Go.Proofs.YtkplhpnhjfdelaaGreatDoor.BK
open Go.RowKit Go.Proofs.YtkplhpnhjfdelaaGreatDoorW.PrintWords Go.Proofs.YtkplhpnhjfdelaaGreatDoorW.PrintLast Go.Proofs.YtkplhpnhjfdelaaGreatDoorW.PrintMore Go.Proofs.YtkplhpnhjfdelaaGreatDoor.PPermCycles Go.Proofs.YtkplhpnhjfdelaaGreatDoor.BA Go.Proofs.YtkplhpnhjfdelaaGreatDoor.BB Go.Proofs.YtkplhpnhjfdelaaGreatDoor.BC Go.Proofs.YtkplhpnhjfdelaaGreatDoor.BD Go.Proofs.YtkplhpnhjfdelaaGreatDoor.BI Go.Proofs.YtkplhpnhjfdelaaGreatDoor.BJ
set_option linter.unusedVariables false
set_option linter.unusedSimpArgs false
/-- The lower digits. -/
def low : Nat → Nat → List Int
  | 0, _ => []
  | j + 1, v => (48 + ((v / 10 ^ j % 10 : Nat) : Int)) :: low j v
theorem low_length (v : Nat) : ∀ j, (low j v).length = j
  | 0 => rfl
  | j + 1 => by simp [low, low_length v j]
/-- What the bytes hold when j digits have been laid. -/
def lay (k j v : Nat) : Array Value := ((List.replicate k (0 : Int) ++ low j v).map (fun x => Value.int .u8 x)).toArray
theorem lay_size (k j v : Nat) : (lay k j v).size = k + j := by simp [lay, low_length]
theorem lay_get (m j v : Nat) : (lay (m + 1) j v)[m]? = some (.int .u8 0) := by
  simp only [lay, List.getElem?_toArray, List.getElem?_map]
  rw [List.getElem?_append_left (by simp), List.getElem?_replicate]
  simp
theorem lay_set (m j v : Nat) : (lay (m + 1) j v).setIfInBounds m (.int .u8 (48 + ((v / 10 ^ j % 10 : Nat) : Int))) = lay m (j + 1) v := by
  simp only [lay]
  rw [List.setIfInBounds_toArray]
  congr 1
  rw [← List.map_set (f := fun x => Value.int .u8 x)]
  congr 1
  rw [List.set_append_left _ _ (by simp), List.replicate_succ', List.set_append_right _ _ (by simp)]
  simp [low]
/-- Only two blocks have changed. -/
def Kp (g S : Nat) (w w' : World) : Prop := (∀ lo, lo ≤ g → lo ≤ S → Below lo w w') ∧ ∀ k, k ≠ g → k ≠ S → w'.heap[k]? = w.heap[k]?
theorem Kp.set {g S : Nat} {w w' : World} (h : Kp g S w w') (m : Nat) (v : Value) : Kp g S w (w'.setCell ⟨S, m, none⟩ v) :=
  ⟨fun lo h1 h2 => (h.1 lo h1 h2).setCell h2 _, fun k h1 h2 => (Below.heap_setCell w' ⟨S, m, none⟩ v k h2).trans (h.2 k h1 h2)⟩
set_option maxHeartbeats 2000000 in
set_option maxRecDepth 100000 in
theorem convert_calls (g cap S d v : Nat) (q : Value) (cs : Array Value) (w : World) (hc1 : 1 ≤ cap) (hc2 : cap ≤ 1000) (hb : w.heap[g]? = some (.cells cs 88 (0, 0))) (h0 : cs[0]? = some (.int .u64 v)) (hv : v < 1000000000000000000) (hd : d ≤ 18) (hS : w.heap[S]? = some (.cells (lay d 0 v) 5 (0, 0))) :
    Calls Tryz.prog 118 #[.slice (some ⟨g, 0, none⟩) 1 cap, q, .slice (some ⟨S, 0, none⟩) d d, .int .u64 10, .int .i64 19, .int .u64 10000000000000000000, .slice none 0 0] w fun e w' => e = .returned (.tuple #[]) ∧ w'.heap[S]? = some (.cells (lay 0 d v) 5 (0, 0)) ∧ Kp g S w w' := by
  have HD := Aside0.mk (divW1 g cap cs v 10000000000000000000 w hc1 hc2 hb h0 (by omega) (by omega) (by omega) (by omega))
  have hgS : S ≠ g := fun e => by subst e; rw [hb] at hS; injection hS with hS; injection hS with _ h; exact absurd h (by decide)
  have hw1 : ∀ n, ((w.drewN n).setCell ⟨g, 0, none⟩ (.int .u64 0)).heap[S]? = some (.cells (lay d 0 v) 5 (0, 0)) := fun n => blk_far (blk_drewN hS n) hgS _
  have HS := Aside0.mk hw1
  have HB : Aside0 (∀ n, Kp g S w ((w.drewN n).setCell ⟨g, 0, none⟩ (.int .u64 0))) := ⟨fun n => ⟨fun lo h _ => (pw_below_drewN (Below.refl _ _) n).setCell h _, fun k h1 _ => Below.heap_setCell (w.drewN n) ⟨g, 0, none⟩ _ k h1⟩⟩
  have hnil : ∀ w, (binOp .neq 148 (.slice none 0 0) (.slice none 0 0)).run Tryz.prog w = .ok (.bool false) w := fun w => by kernel_rfl
  have HV := Aside0.mk hv
  clear hb h0 hS hw1 hgS hv
  go_enter Tryz.func118, Tryz.ntmps118
  go_wp2
  refine wp_loop_rounds 2 ?_
  rw [rounds_succ]
  go_wp2_with (go_at_call 142; (with_reducible refine HD.out.mono ?_); rintro e w' ⟨rfl, n, hw'⟩; have HS1 : Aside0 (w'.heap[S]? = some (.cells (lay d 0 v) 5 (0, 0))) := ⟨by rw [hw']; exact HS.out n⟩; have HB1 : Aside0 (Kp g S w w') := ⟨by rw [hw']; exact HB.out n⟩; clear hw' HS HB)
  go_loopw [19, 20, 21] (fun v19 v20 v21 wr => ∃ k j R : Nat, v19 = .int .i64 k ∧ v20 = .int .u64 R ∧ v21 = .int .i64 j ∧ k ≤ 18 ∧ j ≤ 18 ∧ R < 1000000000000000000 ∧ Aside0 (k + j = d ∧ R = v / 10 ^ j) ∧ Aside0 (wr.heap[S]? = some (.cells (lay k j v) 5 (0, 0))) ∧ Aside0 (Kp g S w wr)) (fun v19 _ _ _ => (intOf v19).toNat)
  case atStart => exact ⟨d, 0, v, rfl, rfl, rfl, by omega, by omega, HV.out, ⟨rfl, by simp⟩, HS1, HB1⟩
  case round =>
    obtain ⟨k, j, R, rfl, rfl, rfl, hk18, hj18, hR, HKJ, HSr, HBr⟩ := hrel
    by_cases hk : k = 0
    · subst hk
      go_wp2
      rw [rounds_succ]
      go_wp2
      refine wp_loop_rounds 1 ?_
      rw [rounds_succ]
      go_wp2
      go_end0
      obtain ⟨h1, _⟩ := HKJ.out
      obtain rfl : j = d := by omega
      exact ⟨rfl, HSr.out, HBr.out⟩
    · obtain ⟨m, rfl⟩ : ∃ m, k = m + 1 := ⟨k - 1, by omega⟩
      have hx0 : wr.cell? ⟨S, m, none⟩ = some (.int .u8 0) := (blk_cell HSr.out m).trans (lay_get m j v)
      have hf0 := blk_frozen HSr.out m
      have hm : (m : Int) < (d : Int) := by have := HKJ.out.1; omega
      go_wp2
      go_roundw
      case rel =>
        obtain ⟨h1, h2⟩ := HKJ.out
        have hdig : (R : Int) - (R : Int) / 10 * 10 = ((v / 10 ^ j % 10 : Nat) : Int) := by rw [← h2]; omega
        rw [hdig]
        refine ⟨m, j + 1, R / 10, rfl, congrArg (Value.int .u64) (by omega), congrArg (Value.int .i64) (by omega), by omega, by omega, by omega, ⟨by omega, by rw [h2, Nat.div_div_eq_div_mul, Nat.pow_succ]⟩, ⟨?_⟩, ⟨HBr.out.set m _⟩⟩
        have := blk_set HSr.out m (.int .u8 (48 + ((v / 10 ^ j % 10 : Nat) : Int)))
        rwa [lay_set] at this
      case measure => simp [intOf]
end Go.Proofs.YtkplhpnhjfdelaaGreatDoor.BK
namespace Go.Proofs.YtkplhpnhjfdelaaGreatDoor.BL
open Go.RowKit Go.Proofs.YtkplhpnhjfdelaaGreatDoorW.PrintWords Go.Proofs.YtkplhpnhjfdelaaGreatDoorW.PrintLast Go.Proofs.YtkplhpnhjfdelaaGreatDoorW.PrintMore Go.Proofs.YtkplhpnhjfdelaaGreatDoor.PPermCycles Go.Proofs.YtkplhpnhjfdelaaGreatDoor.BA Go.Proofs.YtkplhpnhjfdelaaGreatDoor.BB Go.Proofs.YtkplhpnhjfdelaaGreatDoor.BC Go.Proofs.YtkplhpnhjfdelaaGreatDoor.BD Go.Proofs.YtkplhpnhjfdelaaGreatDoor.BH Go.Proofs.YtkplhpnhjfdelaaGreatDoor.BI Go.Proofs.YtkplhpnhjfdelaaGreatDoor.BJ Go.Proofs.YtkplhpnhjfdelaaGreatDoor.BK
set_option linter.unusedVariables false
set_option linter.unusedSimpArgs false
/-- How many digits less one the buffer has for a number of so many bits. -/
def dd (L : Nat) : Nat := if L < 4 then 0 else if L < 7 then 1 else if L < 10 then 2 else 3
theorem float_facts (L : Nat) (h1 : 1 ≤ L) (h2 : L ≤ 10) : ∃ a q : Nat, (∀ w, (convert 3 144 (.int .i64 L)).run Tryz.prog w = .ok (.float .f64 a) w) ∧ (∀ w, (binOp .quo 144 (.float .f64 a) (.float .f64 4614662735865160561)).run Tryz.prog w = .ok (.float .f64 q) w) ∧ (∀ w, (convert 144 3 (.float .f64 q)).run Tryz.prog w = .ok (.int .i64 (dd L)) w) := by
  have hc : L = 1 ∨ L = 2 ∨ L = 3 ∨ L = 4 ∨ L = 5 ∨ L = 6 ∨ L = 7 ∨ L = 8 ∨ L = 9 ∨ L = 10 := by omega
  rcases hc with rfl | rfl | rfl | rfl | rfl | rfl | rfl | rfl | rfl | rfl
  · exact ⟨4607182418800017408, 4599094494223104511, fun w => by kernel_rfl, fun w => by kernel_rfl, fun w => by kernel_rfl⟩
  · exact ⟨4611686018427387904, 4603598093850475007, fun w => by kernel_rfl, fun w => by kernel_rfl, fun w => by kernel_rfl⟩
  · exact ⟨4613937818241073152, 4606309531003074303, fun w => by kernel_rfl, fun w => by kernel_rfl, fun w => by kernel_rfl⟩
  · exact ⟨4616189618054758400, 4608101693477845503, fun w => by kernel_rfl, fun w => by kernel_rfl, fun w => by kernel_rfl⟩
  · exact ⟨4617315517961601024, 4609457412054145151, fun w => by kernel_rfl, fun w => by kernel_rfl, fun w => by kernel_rfl⟩
  · exact ⟨4618441417868443648, 4610813130630444799, fun w => by kernel_rfl, fun w => by kernel_rfl, fun w => by kernel_rfl⟩
  · exact ⟨4619567317775286272, 4611927433817066175, fun w => by kernel_rfl, fun w => by kernel_rfl, fun w => by kernel_rfl⟩
  · exact ⟨4620693217682128896, 4612605293105215999, fun w => by kernel_rfl, fun w => by kernel_rfl, fun w => by kernel_rfl⟩
  · exact ⟨4621256167635550208, 4613283152393365823, fun w => by kernel_rfl, fun w => by kernel_rfl, fun w => by kernel_rfl⟩
  · exact ⟨4621819117588971520, 4613961011681515647, fun w => by kernel_rfl, fun w => by kernel_rfl, fun w => by kernel_rfl⟩
/-- The digits as they are read. -/
def digs (x : Nat) : List Int := (Lib.decDigits x).map fun c => (c.toNat : Int)
def zs (x : Nat) : Nat := dd (Lib.bitLen x) + 1 - (Lib.decDigits x).length
set_option maxRecDepth 100000 in
theorem dig_small : ∀ n : Fin 1024, n.val = 0 ∨ (1 ≤ Lib.bitLen n.val ∧ Lib.bitLen n.val ≤ 10 ∧ zs n.val ≤ 3 ∧ low (dd (Lib.bitLen n.val) + 1) n.val = List.replicate (zs n.val) 48 ++ digs n.val ∧ (digs n.val).getD 0 48 ≠ 48) := by decide +kernel
theorem info5 : (Tryz.prog.info? 5).map (fun i => (i.zero, i.size, i.bytes)) = some (some (.int .u8 0), 1, 1) := by kernel_rfl
theorem made_lay (k v : Nat) (h : k ≤ 3) : madeCells #[.int .u8 0] (k + 1) = lay (k + 1) 0 v := by
  refine Array.ext (by simp [size_madeCells, lay_size]) (fun i h1 h2 => ?_)
  have h3 : i < k + 1 := by simpa [size_madeCells] using h1
  simp [madeCells, lay, low, Nat.mod_one]
theorem make_facts (k v : Nat) (h : k ≤ 3) : ∀ w, (Instr.makeSlice 44 (.int .i64 ((k : Int) + 1)) (.int .i64 ((k : Int) + 1))).run Tryz.prog w = .ok (.slice (some ⟨w.heap.size, 0, none⟩) (k + 1) (k + 1)) (w.alloc (.cells (lay (k + 1) 0 v) 5)) := by
  intro w
  rw [show ((k : Int) + 1) = ((k + 1 : Nat) : Int) by omega, ← made_lay k v h]
  exact print_make 44 5 .u8 1 Tryz.underlying44 info5 (by decide) (k + 1) (by omega) w
theorem free_d (g : Nat) (u : FrameMode) (w : World) (h : w.cell? ⟨g, 0, none⟩ = some (.pointer none)) : CallsD Tryz.prog 101 #[.pointer (some ⟨g, 0, none⟩)] u w fun e u' w' => u' = u ∧ (e = .returned (.tuple #[]) ∧ w' = w) := by
  go_enter_d Tryz.func101, Tryz.ntmps101
  go_wp2
  go_end0
  exact ⟨rfl, rfl⟩
end Go.Proofs.YtkplhpnhjfdelaaGreatDoor.BL
