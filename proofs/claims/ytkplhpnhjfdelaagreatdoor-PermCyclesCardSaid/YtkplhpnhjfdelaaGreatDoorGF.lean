/- math/big on numbers of one word: math/bits' leaves, make, norm. math/big on numbers of one word: make, norm, set, the multiplication of a word. math/big on numbers of one word: what a number is; the multiplication. math/big on numbers of one word: nat.mul, nat.set, nat.add. math/big on numbers of one word: the addition. -/
import Derived.Test.YtkplhpnhjfdelaaGreatDoorGE
import Derived.Test.YtkplhpnhjfdelaaGreatDoorGT
import Derived.Laws.Externs
import Derived.Laws.Twins
import Derived.Laws.CopyOwn
import Derived.Lib.SlBuf
import Derived.StillTailTactics
namespace Go.Proofs.YtkplhpnhjfdelaaGreatDoor.BA
open Go.RowKit Go.Proofs.YtkplhpnhjfdelaaGreatDoorW.PrintWords Go.Proofs.YtkplhpnhjfdelaaGreatDoorW.PrintLast Go.Proofs.YtkplhpnhjfdelaaGreatDoorW.PrintMore Go.Proofs.YtkplhpnhjfdelaaGreatDoor.PPermCycles
set_option linter.unusedVariables false
set_option linter.unusedSimpArgs false
theorem run_Add64 (x y c : Int) (hx : 0 ≤ x) (hy : 0 ≤ y) (hc0 : 0 ≤ c) (hc : c ≤ 1) (w : World) :
    (callFunc 111 #[.int .u64 x, .int .u64 y, .int .u64 c]).run Tryz.prog w =
      .ok (.value (.tuple #[.int .u64 ((x + y + c) % 18446744073709551616), .int .u64 ((x + y + c) / 18446744073709551616)])) w := by
  rw [run_callFunc_extern Tryz.func111 (by kernel_rfl) (by kernel_rfl) (by kernel_rfl) (e := add64Entry) (by kernel_rfl), run_add64 x y c hx hy hc0 hc]
  rfl
set_option maxHeartbeats 1000000 in
theorem Add_calls (x y c : Int) (w : World) (hx : 0 ≤ x) (hx1 : x < 18446744073709551616) (hy : 0 ≤ y) (hy1 : y < 18446744073709551616) (hc0 : 0 ≤ c) (hc : c ≤ 1) :
    Calls Tryz.prog 84 #[.int .u64 x, .int .u64 y, .int .u64 c] w fun e w' => e = .returned (.tuple #[.int .u64 ((x + y + c) % 18446744073709551616), .int .u64 ((x + y + c) / 18446744073709551616)]) ∧ w = w' := by
  have hr := run_Add64 x y c hx hy hc0 hc
  obtain ⟨s, hs⟩ : ∃ s, s = (x + y + c) % 18446744073709551616 := ⟨_, rfl⟩
  obtain ⟨t, ht⟩ : ∃ t, t = (x + y + c) / 18446744073709551616 := ⟨_, rfl⟩
  rw [← hs, ← ht] at hr ⊢
  clear hs ht
  go_enter Tryz.func84, Tryz.ntmps84
  go_wp2
  go_ret2
  exact ⟨rfl, rfl⟩
theorem hi_lo (p c : Nat) (hc : c < 18446744073709551616) (hp : p < 18446744073709551616 * 18446744073709551615) :
    IntKind.u64.wrap (((p / 18446744073709551616 : Nat) : Int) + (((p % 18446744073709551616 : Nat) : Int) + (c : Int) + 0) / 18446744073709551616) = (((p + c) / 18446744073709551616 : Nat) : Int) ∧
    (((p % 18446744073709551616 : Nat) : Int) + (c : Int) + 0) % 18446744073709551616 = (((p + c) % 18446744073709551616 : Nat) : Int) := by
  refine ⟨?_, by omega⟩
  have : (((p / 18446744073709551616 : Nat) : Int) + (((p % 18446744073709551616 : Nat) : Int) + (c : Int) + 0) / 18446744073709551616) = (((p + c) / 18446744073709551616 : Nat) : Int) := by omega
  rw [this]
  have h2 : (p + c) / 18446744073709551616 < 18446744073709551616 := by omega
  exact IntWalk.u64_in _ ⟨by omega, by omega⟩
set_option maxHeartbeats 1000000 in
theorem mulAddWWW_calls (x y c : Nat) (w : World) (hx : x < 18446744073709551616) (hy : y < 18446744073709551616) (hc : c < 18446744073709551616) (hp : x * y < 18446744073709551616 * 18446744073709551615) :
    Calls Tryz.prog 123 #[.int .u64 x, .int .u64 y, .int .u64 c] w fun e w' => e = .returned (.tuple #[.int .u64 (((x * y + c) / 18446744073709551616 : Nat) : Int), .int .u64 (((x * y + c) % 18446744073709551616 : Nat) : Int)]) ∧ w = w' := by
  obtain ⟨h1, h2⟩ := hi_lo (x * y) c hc hp
  have HM := Tryz.bits_Mul x y hx hy
  obtain ⟨p, hp'⟩ : ∃ p, p = x * y := ⟨_, rfl⟩
  rw [← hp'] at h1 h2 HM ⊢
  obtain ⟨hi, hhi⟩ : ∃ z : Int, z = ((p / 18446744073709551616 : Nat) : Int) := ⟨_, rfl⟩
  obtain ⟨lo, hlo⟩ : ∃ z : Int, z = ((p % 18446744073709551616 : Nat) : Int) := ⟨_, rfl⟩
  obtain ⟨r1, hr1⟩ : ∃ z : Int, z = (((p + c) / 18446744073709551616 : Nat) : Int) := ⟨_, rfl⟩
  obtain ⟨r2, hr2⟩ : ∃ z : Int, z = (((p + c) % 18446744073709551616 : Nat) : Int) := ⟨_, rfl⟩
  have hl0 : 0 ≤ lo := by omega
  have hl1 : lo < 18446744073709551616 := by omega
  rw [← hhi, ← hlo, ← hr1] at h1
  rw [← hlo, ← hr2] at h2
  rw [← hr1, ← hr2]
  have HM' : ∀ w : World, Calls Tryz.prog 121 #[.int .u64 x, .int .u64 y] w fun e w' => e = .returned (.tuple #[.int .u64 hi, .int .u64 lo]) ∧ w' = w := fun w => by rw [hhi, hlo]; exact HM w
  have HA : ∀ w : World, Calls Tryz.prog 84 #[.int .u64 lo, .int .u64 c, .int .u64 0] w fun e w' => e = .returned (.tuple #[.int .u64 r2, .int .u64 ((lo + (c : Int) + 0) / 18446744073709551616)]) ∧ w = w' := fun w => by
    rw [← h2]; exact Add_calls lo c 0 w hl0 hl1 (by omega) (by omega) (by omega) (by omega)
  obtain ⟨cc, hcc⟩ : ∃ z : Int, z = (lo + (c : Int) + 0) / 18446744073709551616 := ⟨_, rfl⟩
  rw [← hcc] at h1 HA
  have HM2 := Aside0.mk HM'
  have HA2 := Aside0.mk HA
  clear HM HM' HA h2 hhi hlo hr1 hr2 hp' hp hl0 hl1 hcc hx hy hc
  go_enter Tryz.func123, Tryz.ntmps123
  go_wp2_with (first | (go_at_call 121; (with_reducible refine (HM2.out _).mono ?_); rintro e w' ⟨rfl, rfl⟩) | (go_at_call 84; (with_reducible refine (HA2.out _).mono ?_); rintro e w' ⟨rfl, rfl⟩))
  go_ret2
  exact ⟨rfl, rfl⟩
end Go.Proofs.YtkplhpnhjfdelaaGreatDoor.BA
namespace Go.Proofs.YtkplhpnhjfdelaaGreatDoor.BB
open Go.RowKit Go.Proofs.YtkplhpnhjfdelaaGreatDoorW.PrintWords Go.Proofs.YtkplhpnhjfdelaaGreatDoorW.PrintLast Go.Proofs.YtkplhpnhjfdelaaGreatDoorW.PrintMore Go.Proofs.YtkplhpnhjfdelaaGreatDoor.PPermCycles Go.Proofs.YtkplhpnhjfdelaaGreatDoor.BA
set_option linter.unusedVariables false
set_option linter.unusedSimpArgs false
abbrev M64 : Nat := 18446744073709551616
theorem mulAddVWW_enters (args : Array Value) (w : World) : (callFunc 130 args).run Tryz.prog w = .ok (.enter 57 args) w :=
  run_callFunc_twin (twin := "math/big.mulAddVWW_g") Tryz.func130 (by kernel_rfl) (by kernel_rfl) (by kernel_rfl) (by kernel_rfl) Tryz.func57 (by kernel_rfl) (by kernel_rfl) (by kernel_rfl) args w
theorem addVV_enters (args : Array Value) (w : World) : (callFunc 81 args).run Tryz.prog w = .ok (.enter 53 args) w :=
  run_callFunc_twin (twin := "math/big.addVV_g") Tryz.func81 (by kernel_rfl) (by kernel_rfl) (by kernel_rfl) (by kernel_rfl) Tryz.func53 (by kernel_rfl) (by kernel_rfl) (by kernel_rfl) args w
set_option maxHeartbeats 2000000 in
theorem mulAddVWW1 (g h cz cx : Nat) (x y r : Nat) (v : Value) (w : World) (hx : x < M64) (hy : y < M64) (hr : r < M64) (hp : x * y < 18446744073709551616 * 18446744073709551615)
    (hc : w.cell? ⟨h, 0, none⟩ = some (.int .u64 x)) (hz : w.cell? ⟨g, 0, none⟩ = some v) (hf : w.frozen? ⟨g, 0, none⟩ = false) :
    Calls Tryz.prog 57 #[.slice (some ⟨g, 0, none⟩) 1 cz, .slice (some ⟨h, 0, none⟩) 1 cx, .int .u64 y, .int .u64 r] w fun e w' => e = .returned (.int .u64 (((x * y + r) / M64 : Nat) : Int)) ∧ w' = w.setCell ⟨g, 0, none⟩ (.int .u64 (((x * y + r) % M64 : Nat) : Int)) := by
  have HM := mulAddWWW_calls x y r
  have HM2 : ∀ w : World, Calls Tryz.prog 123 #[.int .u64 x, .int .u64 y, .int .u64 r] w fun e w' => e = .returned (.tuple #[.int .u64 (((x * y + r) / M64 : Nat) : Int), .int .u64 (((x * y + r) % M64 : Nat) : Int)]) ∧ w = w' := fun w => HM w hx hy hr hp
  obtain ⟨s, hs⟩ : ∃ s, s = (((x * y + r) / M64 : Nat) : Int) := ⟨_, rfl⟩
  obtain ⟨t, ht⟩ : ∃ t, t = (((x * y + r) % M64 : Nat) : Int) := ⟨_, rfl⟩
  rw [← hs, ← ht] at HM2 ⊢
  have HA := Aside0.mk HM2
  clear HM HM2 hs ht hx hy hr hp
  go_enter Tryz.func57, Tryz.ntmps57
  go_wp2
  refine wp_loop_rounds 2 ?_
  rw [rounds_succ]
  go_wp2_with (go_at_call 123; (with_reducible refine (HA.out _).mono ?_); rintro e w' ⟨rfl, rfl⟩)
  rw [rounds_succ]
  go_wp2
  go_ret
  exact ⟨rfl, rfl⟩
theorem make_reuse (A : Option Addr) (l n cap : Nat) (m : Int) (w : World) (hm : m = (n : Int)) (hn : n ≤ cap) (hc : cap ≤ 1000) :
    Calls Tryz.prog 80 #[.slice A l cap, .int .i64 m] w fun e w' => e = .returned (.slice A n cap) ∧ w = w' := by
  subst hm
  have h1 : decide (n ≤ cap) = true := decide_eq_true hn
  go_enter Tryz.func80, Tryz.ntmps80
  go_wp2
  go_ret
  exact ⟨rfl, rfl⟩
def zero1 : Array Value := #[.int .u64 0]
def zero6 : Array Value := #[.int .u64 0, .int .u64 0, .int .u64 0, .int .u64 0, .int .u64 0, .int .u64 0]
theorem make_new1 (A : Option Addr) (l : Nat) (w : World) :
    Calls Tryz.prog 80 #[.slice A l 0, .int .i64 1] w fun e w' => e = .returned (.slice (some ⟨w.heap.size, 0, none⟩) 1 1) ∧ w' = w.alloc (.cells zero1 88) := by
  have hmk : ∀ w, (Instr.makeSlice 65 (.int .i64 1) (.int .i64 1)).run Tryz.prog w = .ok (.slice (some ⟨w.heap.size, 0, none⟩) 1 1) (w.alloc (.cells zero1 88)) := fun _ => by kernel_rfl
  go_enter Tryz.func80, Tryz.ntmps80
  go_wp2
  go_ret
  exact ⟨rfl, rfl⟩
theorem make_new2 (A : Option Addr) (l cap : Nat) (w : World) (hc : cap < 2) :
    Calls Tryz.prog 80 #[.slice A l cap, .int .i64 2] w fun e w' => e = .returned (.slice (some ⟨w.heap.size, 0, none⟩) 2 6) ∧ w' = w.alloc (.cells zero6 88) := by
  have h1 : decide ((2 : Int) ≤ (cap : Int)) = false := decide_eq_false (by omega)
  have hmk : ∀ w, (Instr.makeSlice 65 (.int .i64 2) (.int .i64 6)).run Tryz.prog w = .ok (.slice (some ⟨w.heap.size, 0, none⟩) 2 6) (w.alloc (.cells zero6 88)) := fun _ => by kernel_rfl
  go_enter Tryz.func80, Tryz.ntmps80
  go_wp2
  go_ret
  exact ⟨rfl, rfl⟩
/-- norm of two words, the upper one 0, the lower one not. -/
theorem norm2 (g cap : Nat) (x : Int) (w : World) (hc : 2 ≤ cap) (hc2 : cap ≤ 1000) (h0 : w.cell? ⟨g, 0, none⟩ = some (.int .u64 x)) (h1 : w.cell? ⟨g, 1, none⟩ = some (.int .u64 0)) (hx : x ≠ 0) :
    Calls Tryz.prog 83 #[.slice (some ⟨g, 0, none⟩) 2 cap] w fun e w' => e = .returned (.slice (some ⟨g, 0, none⟩) 1 cap) ∧ w = w' := by
  have hx0 : (x == 0) = false := by simpa using hx
  clear hx
  go_enter Tryz.func83, Tryz.ntmps83
  go_wp2
  refine wp_loop_rounds 2 ?_
  rw [rounds_succ]
  go_wp2
  rw [rounds_succ]
  go_wp2
  go_ret
  exact ⟨rfl, rfl⟩
theorem norm1 (g cap : Nat) (x : Int) (w : World) (hc : 1 ≤ cap) (hc2 : cap ≤ 1000) (h0 : w.cell? ⟨g, 0, none⟩ = some (.int .u64 x)) (hx : x ≠ 0) :
    Calls Tryz.prog 83 #[.slice (some ⟨g, 0, none⟩) 1 cap] w fun e w' => e = .returned (.slice (some ⟨g, 0, none⟩) 1 cap) ∧ w = w' := by
  have hx0 : (x == 0) = false := by simpa using hx
  clear hx
  go_enter Tryz.func83, Tryz.ntmps83
  go_wp2
  refine wp_loop_rounds 1 ?_
  rw [rounds_succ]
  go_wp2
  go_ret
  exact ⟨rfl, rfl⟩
/-- norm of one word that is 0. -/
theorem norm1z (g cap : Nat) (w : World) (hc : 1 ≤ cap) (hc2 : cap ≤ 1000) (h0 : w.cell? ⟨g, 0, none⟩ = some (.int .u64 0)) :
    Calls Tryz.prog 83 #[.slice (some ⟨g, 0, none⟩) 1 cap] w fun e w' => e = .returned (.slice (some ⟨g, 0, none⟩) 0 cap) ∧ w = w' := by
  go_enter Tryz.func83, Tryz.ntmps83
  go_wp2
  refine wp_loop_rounds 2 ?_
  rw [rounds_succ]
  go_wp2
  rw [rounds_succ]
  go_wp2
  go_ret
  exact ⟨rfl, rfl⟩
end Go.Proofs.YtkplhpnhjfdelaaGreatDoor.BB
namespace Go.Proofs.YtkplhpnhjfdelaaGreatDoor.BC
open Go.RowKit Go.Proofs.YtkplhpnhjfdelaaGreatDoorW.PrintWords Go.Proofs.YtkplhpnhjfdelaaGreatDoorW.PrintLast Go.Proofs.YtkplhpnhjfdelaaGreatDoorW.PrintMore Go.Proofs.YtkplhpnhjfdelaaGreatDoor.PPermCycles Go.Proofs.YtkplhpnhjfdelaaGreatDoor.BA Go.Proofs.YtkplhpnhjfdelaaGreatDoor.BB
set_option linter.unusedVariables false
set_option linter.unusedSimpArgs false
/-- A block of words. -/
structure Blk (lo : Nat) (W : World) (g cap : Nat) (cs : Array Value) : Prop where
  lo : lo ≤ g
  blk : W.heap[g]? = some (.cells cs 88 (0, 0))
  size : cs.size = cap
  pos : 1 ≤ cap
  small : cap ≤ 1000
/-- A slice value reads as a number of one word at most. -/
def IsNat (lo : Nat) (W : World) (z : Value) (x : Nat) : Prop :=
  ∃ A cap, z = .slice A (if x = 0 then 0 else 1) cap ∧ ((A = none ∧ cap = 0 ∧ x = 0) ∨ ∃ g cs, A = some ⟨g, 0, none⟩ ∧ Blk lo W g cap cs ∧ (x ≠ 0 → cs[0]? = some (.int .u64 x)))
theorem IsNat.nil (lo : Nat) (W : World) : IsNat lo W (.slice none 0 0) 0 := ⟨none, 0, rfl, .inl ⟨rfl, rfl, rfl⟩⟩
theorem Blk.keep {lo : Nat} {W W' : World} {g cap : Nat} {cs : Array Value} (h : Blk lo W g cap cs) (hk : W'.heap[g]? = W.heap[g]?) : Blk lo W' g cap cs := ⟨h.lo, hk.trans h.blk, h.size, h.pos, h.small⟩
theorem IsNat.keep {lo : Nat} {W W' : World} {z : Value} {x : Nat} (h : IsNat lo W z x) (hk : ∀ g, g < W.heap.size → some g = z.ownBlock → W'.heap[g]? = W.heap[g]?) : IsNat lo W' z x := by
  obtain ⟨A, cap, rfl, h | ⟨g, cs, rfl, hb, hc⟩⟩ := h
  · exact ⟨A, cap, rfl, .inl h⟩
  · exact ⟨_, cap, rfl, .inr ⟨g, cs, rfl, hb.keep (hk g (blk_lt hb.blk) rfl), hc⟩⟩
theorem IsNat.below {lo : Nat} {W W' : World} {z : Value} {x : Nat} (h : IsNat lo W z x) (hb : Below W.heap.size W W') : IsNat lo W' z x := h.keep fun g hg _ => hb.block g hg
theorem IsNat.mono {lo lo' : Nat} {W : World} {z : Value} {x : Nat} (h : IsNat lo W z x) (hl : lo' ≤ lo) : IsNat lo' W z x := by
  obtain ⟨A, cap, rfl, h | ⟨g, cs, rfl, hb, hc⟩⟩ := h
  · exact ⟨A, cap, rfl, .inl h⟩
  · exact ⟨_, cap, rfl, .inr ⟨g, cs, rfl, ⟨Nat.le_trans hl hb.lo, hb.blk, hb.size, hb.pos, hb.small⟩, hc⟩⟩
theorem word_get {cs : Array Value} {i : Nat} {v : Value} (h : cs[i]? = some v) (j : Nat) (u : Value) (hne : j ≠ i) : (cs.setIfInBounds j u)[i]? = some v := by
  rw [Array.getElem?_setIfInBounds_ne (by omega)]; exact h
set_option maxHeartbeats 2000000 in
set_option maxRecDepth 100000 in
theorem mulAddWW_reuse (lo g cap l h cx : Nat) (cs : Array Value) (x y r : Nat) (w : World) (hb : Blk lo w g cap cs) (h2 : 2 ≤ cap) (hx : w.cell? ⟨h, 0, none⟩ = some (.int .u64 x)) (hcx : 1 ≤ cx) (hcx2 : cx ≤ 1000) (hxl : x < M64) (hy0 : 0 < y) (hy : y < M64) (hr : r < M64) (hp : x * y + r < M64) (hp0 : x * y + r ≠ 0) :
    Calls Tryz.prog 104 #[.slice (some ⟨g, 0, none⟩) l cap, .slice (some ⟨h, 0, none⟩) 1 cx, .int .u64 y, .int .u64 r] w fun e w' => ∃ v, e = .returned v ∧ IsNat lo w' v (x * y + r) ∧ v.ownBlock = some g ∧ w'.heap.size = w.heap.size ∧ (∀ k, k ≠ g → w'.heap[k]? = w.heap[k]?) ∧ Below lo w w' := by
  have hy0' : ((y : Int) == 0) = false := by simp; omega
  have hcap := hb.small
  obtain ⟨v0, hv0⟩ : ∃ v, cs[0]? = some v := ⟨_, Array.getElem?_eq_getElem (by have := hb.size; omega)⟩
  obtain ⟨v1, hv1⟩ : ∃ v, cs[1]? = some v := ⟨_, Array.getElem?_eq_getElem (by have := hb.size; omega)⟩
  have hz0 : w.cell? ⟨g, 0, none⟩ = some v0 := (blk_cell hb.blk 0).trans hv0
  have hf0 := blk_frozen hb.blk 0
  have hb1 := blk_set hb.blk 0 (.int .u64 ((((x * y + r) % M64 : Nat)) : Int))
  have hc1 : (w.setCell ⟨g, 0, none⟩ (.int .u64 (((x * y + r) % M64 : Nat) : Int))).cell? ⟨g, 1, none⟩ = some v1 := (blk_cell hb1 1).trans (word_get hv1 0 _ (by decide))
  have hf1 := blk_frozen hb1 1
  have hb2 := blk_set hb1 1 (.int .u64 0)
  have hq0 := (blk_cell hb2 0).trans (word_get (v := .int .u64 (((x * y + r) % M64 : Nat) : Int)) (by rw [Array.getElem?_setIfInBounds_self_of_lt (by have := hb.size; omega)]) 1 _ (by decide))
  have hq1 := (blk_cell hb2 1).trans (Array.getElem?_setIfInBounds_self_of_lt (by have := hb.size; simp; omega))
  have hdiv : (((x * y + r) / M64 : Nat) : Int) = 0 := by rw [Nat.div_eq_of_lt hp]; rfl
  have hmod : (x * y + r) % M64 = x * y + r := Nat.mod_eq_of_lt hp
  have hlt : x * y < 18446744073709551616 * 18446744073709551615 := by have : x * y < M64 := by omega
                                                                       exact Nat.lt_of_lt_of_le this (by decide)
  have HC := fun w => mulAddVWW1 g h cap cx x y r v0 w hxl hy hr hlt
  rw [hdiv, hmod] at HC
  rw [hmod] at hb1 hc1 hf1 hb2 hq0 hq1
  have HB := Aside0.mk hb
  have HB2 := Aside0.mk hb2
  have HP := Aside0.mk (And.intro hp hp0)
  have HX := Aside0.mk hx
  obtain ⟨p, hpp⟩ : ∃ p, p = x * y + r := ⟨_, rfl⟩
  rw [← hpp] at HC hb1 hc1 hf1 hb2 hq0 hq1 HB2 HP ⊢
  have HN := norm2 g cap (p : Int) ((w.setCell ⟨g, 0, none⟩ (.int .u64 p)).setCell ⟨g, 1, none⟩ (.int .u64 0)) h2 hcap hq0 hq1 (by have := HP.out.2; omega)
  have HCC := Aside0.mk HC
  have HNN := Aside0.mk HN
  have HZ := Aside0.mk (And.intro hz0 hf0)
  clear hb hb1 hb2 hq0 hq1 hdiv hmod hlt hpp hp hp0 HC HN hx hz0 hf0 hy hr hxl hv0 hv1
  go_enter Tryz.func104, Tryz.ntmps104
  have hen := mulAddVWW_enters
  go_wp2_with (first
    | (go_at_call 80; (with_reducible refine (make_reuse _ _ 2 cap 2 _ rfl h2 hcap).mono ?_); rintro e w' ⟨rfl, rfl⟩)
    | (go_at_call 57; (with_reducible refine (HCC.out _ HX.out HZ.out.1 HZ.out.2).mono ?_); rintro e w' ⟨rfl, rfl⟩)
    | (go_at_call 83; (with_reducible refine HNN.out.mono ?_); rintro e w' ⟨rfl, rfl⟩))
  go_ret
  have hb := HB.out
  refine ⟨.slice (some ⟨g, 0, none⟩) 1 cap, rfl, ⟨some ⟨g, 0, none⟩, cap, by rw [if_neg HP.out.2], .inr ⟨g, _, rfl, ⟨hb.lo, HB2.out, by simp [hb.size], hb.pos, hb.small⟩, fun _ => ?_⟩⟩, rfl, by simp, fun k hk => ?_, ?_⟩
  · exact word_get (by rw [Array.getElem?_setIfInBounds_self_of_lt (by have := hb.size; omega)]) 1 _ (by decide)
  · exact (Below.heap_setCell _ _ _ k hk).trans (Below.heap_setCell _ _ _ k hk)
  · exact ((Below.refl _ _).setCell hb.lo _).setCell hb.lo _
set_option maxHeartbeats 2000000 in
set_option maxRecDepth 100000 in
theorem mulAddWW_new (lo : Nat) (A : Option Addr) (cap l h cx : Nat) (x y r : Nat) (w : World) (hlo : lo ≤ w.heap.size) (h2 : cap < 2) (hx : w.cell? ⟨h, 0, none⟩ = some (.int .u64 x)) (hcx : 1 ≤ cx) (hcx2 : cx ≤ 1000) (hxl : x < M64) (hy0 : 0 < y) (hy : y < M64) (hr : r < M64) (hp : x * y + r < M64) (hp0 : x * y + r ≠ 0) :
    Calls Tryz.prog 104 #[.slice A l cap, .slice (some ⟨h, 0, none⟩) 1 cx, .int .u64 y, .int .u64 r] w fun e w' => ∃ v, e = .returned v ∧ IsNat lo w' v (x * y + r) ∧ Below w.heap.size w w' := by
  have hy0' : ((y : Int) == 0) = false := by simp; omega
  have hlt : x * y < 18446744073709551616 * 18446744073709551615 := by have : x * y < M64 := by omega
                                                                       exact Nat.lt_of_lt_of_le this (by decide)
  have hdiv : (((x * y + r) / M64 : Nat) : Int) = 0 := by rw [Nat.div_eq_of_lt hp]; rfl
  have hmod : (x * y + r) % M64 = x * y + r := Nat.mod_eq_of_lt hp
  obtain ⟨w1, hw1⟩ : ∃ w1 : World, w1 = w.alloc (.cells zero6 88) := ⟨_, rfl⟩
  obtain ⟨g, hg⟩ : ∃ g, g = w.heap.size := ⟨_, rfl⟩
  have hblk : w1.heap[g]? = some (.cells zero6 88 (0, 0)) := by rw [hw1, hg]; exact heap_alloc_new w _
  have hb : Blk lo w1 g 6 zero6 := ⟨by omega, hblk, rfl, by omega, by omega⟩
  have hx1 : w1.cell? ⟨h, 0, none⟩ = some (.int .u64 x) := by
    rw [hw1]
    exact (((Below.refl _ _).alloc (Nat.le_refl _) _ : Below w.heap.size w (w.alloc (.cells zero6 88))).cell (World.block_lt_of_cell? w _ hx)).trans hx
  have hz0 : w1.cell? ⟨g, 0, none⟩ = some (.int .u64 0) := (blk_cell hb.blk 0).trans rfl
  have hf0 := blk_frozen hb.blk 0
  have hb1 := blk_set hb.blk 0 (.int .u64 ((((x * y + r) % M64 : Nat)) : Int))
  have hb2 := blk_set hb1 1 (.int .u64 0)
  have hq0 := (blk_cell hb2 0).trans (word_get (v := .int .u64 (((x * y + r) % M64 : Nat) : Int)) (by rw [Array.getElem?_setIfInBounds_self_of_lt (by decide)]) 1 _ (by decide))
  have hq1 := (blk_cell hb2 1).trans (Array.getElem?_setIfInBounds_self_of_lt (by simp; decide))
  have hc1 : (w1.setCell ⟨g, 0, none⟩ (.int .u64 (((x * y + r) % M64 : Nat) : Int))).cell? ⟨g, 1, none⟩ = some (.int .u64 0) := (blk_cell hb1 1).trans (word_get (i := 1) rfl 0 _ (by decide))
  have hf1 := blk_frozen hb1 1
  have HC := fun w => mulAddVWW1 g h 6 cx x y r (.int .u64 0) w hxl hy hr hlt
  rw [hdiv, hmod] at HC
  rw [hmod] at hb1 hc1 hf1 hb2 hq0 hq1
  have HMK : Aside0 (Calls Tryz.prog 80 #[.slice A l cap, .int .i64 2] w fun e w' => e = .returned (.slice (some ⟨g, 0, none⟩) 2 6) ∧ w' = w1) := ⟨by rw [hw1, hg]; exact make_new2 A l cap w h2⟩
  have HBL := Aside0.mk (show Below w.heap.size w w1 by rw [hw1]; exact (Below.refl _ _).alloc (Nat.le_refl _) _)
  have HB := Aside0.mk hb
  have HB2 := Aside0.mk hb2
  have HP := Aside0.mk (And.intro hp hp0)
  have HX := Aside0.mk hx1
  obtain ⟨p, hpp⟩ : ∃ p, p = x * y + r := ⟨_, rfl⟩
  rw [← hpp] at HC hb1 hc1 hf1 hb2 hq0 hq1 HB2 HP ⊢
  have HN := norm2 g 6 (p : Int) ((w1.setCell ⟨g, 0, none⟩ (.int .u64 p)).setCell ⟨g, 1, none⟩ (.int .u64 0)) (by omega) (by omega) hq0 hq1 (by have := HP.out.2; omega)
  have HCC := Aside0.mk HC
  have HNN := Aside0.mk HN
  have HZ := Aside0.mk (And.intro hz0 hf0)
  have HG := Aside0.mk (And.intro hg hlo)
  clear hb hb1 hb2 hq0 hq1 hdiv hmod hlt hpp hp hp0 HC HN hx hx1 hz0 hf0 hy hr hxl hw1 hblk hg hlo h2
  go_enter Tryz.func104, Tryz.ntmps104
  have hen := mulAddVWW_enters
  go_wp2_with (first
    | (go_at_call 80; (with_reducible refine HMK.out.mono ?_); rintro e w' ⟨rfl, rfl⟩)
    | (go_at_call 57; (with_reducible refine (HCC.out _ HX.out HZ.out.1 HZ.out.2).mono ?_); rintro e w' ⟨rfl, rfl⟩)
    | (go_at_call 83; (with_reducible refine HNN.out.mono ?_); rintro e w' ⟨rfl, rfl⟩))
  go_ret
  have hb := HB.out
  refine ⟨.slice (some ⟨g, 0, none⟩) 1 6, rfl, ⟨some ⟨g, 0, none⟩, 6, by rw [if_neg HP.out.2], .inr ⟨g, _, rfl, ⟨hb.lo, HB2.out, by simp [hb.size], hb.pos, hb.small⟩, fun _ => ?_⟩⟩, ?_⟩
  · exact word_get (by rw [Array.getElem?_setIfInBounds_self_of_lt (by decide)]) 1 _ (by decide)
  · exact ((HBL.out).setCell (Nat.le_of_eq HG.out.1.symm) _).setCell (Nat.le_of_eq HG.out.1.symm) _
theorem grown_of_sets {w w' : World} {g : Nat} (h : Below 0 w w') (hk : ∀ k, k ≠ g → w'.heap[k]? = w.heap[k]?) : w.grownBy w' (some g) := ⟨h.os, h.tape, h.output, h.size, fun i _ hne => hk i (fun e => hne (by rw [e]))⟩
/-- One word times one word, and one more. -/
theorem mulAddWW_calls (lo : Nat) (z v : Value) (zx x y r : Nat) (w : World) (hlo : lo ≤ w.heap.size) (hz : IsNat lo w z zx) (hv : IsNat lo w v x) (hx0 : x ≠ 0) (hxl : x < M64) (hy0 : 0 < y) (hy : y < M64) (hr : r < M64) (hp : x * y + r < M64) :
    Calls Tryz.prog 104 #[z, v, .int .u64 y, .int .u64 r] w fun e w' => ∃ v, e = .returned v ∧ IsNat lo w' v (x * y + r) ∧ w.grownBy w' z.ownBlock := by
  have hp0 : x * y + r ≠ 0 := by have := Nat.mul_pos (Nat.pos_of_ne_zero hx0) hy0; omega
  obtain ⟨A, cx, rfl, ⟨_, _, h⟩ | ⟨h, cs, rfl, hb, hc⟩⟩ := hv
  · exact absurd h hx0
  rw [if_neg hx0]
  have hxc : w.cell? ⟨h, 0, none⟩ = some (.int .u64 x) := (blk_cell hb.blk 0).trans (hc hx0)
  obtain ⟨A, cap, rfl, ⟨rfl, rfl, hzz⟩ | ⟨g, cz, rfl, hbz, hcz⟩⟩ := hz
  · refine (mulAddWW_new lo none 0 _ h cx x y r w hlo (by omega) hxc hb.pos hb.small hxl hy0 hy hr hp hp0).mono ?_
    rintro e w' ⟨v, rfl, h1, h2⟩
    exact ⟨v, rfl, h1, grown_of_below h2 _⟩
  · by_cases h2 : 2 ≤ cap
    · refine (mulAddWW_reuse lo g cap _ h cx cz x y r w hbz h2 hxc hb.pos hb.small hxl hy0 hy hr hp hp0).mono ?_
      rintro e w' ⟨v, rfl, h1, _, h3, h4, h5⟩
      exact ⟨v, rfl, h1, grown_of_sets (h5.mono (Nat.zero_le _)) h4⟩
    · refine (mulAddWW_new lo _ cap _ h cx x y r w hlo (by omega) hxc hb.pos hb.small hxl hy0 hy hr hp hp0).mono ?_
      rintro e w' ⟨v, rfl, h1, h2⟩
      exact ⟨v, rfl, h1, grown_of_below h2 _⟩
/-- z[:0] -/
theorem IsNat.zero {lo : Nat} {W : World} {A : Option Addr} {l cap zx : Nat} (h : IsNat lo W (.slice A l cap) zx) : IsNat lo W (.slice A 0 cap) 0 := by
  obtain ⟨A', cap', e, ⟨rfl, rfl, h⟩ | ⟨g, cs, rfl, hb, hc⟩⟩ := h
  · cases e; exact IsNat.nil _ _
  · cases e; exact ⟨_, cap, rfl, .inr ⟨g, cs, rfl, hb, fun h => absurd rfl h⟩⟩
theorem IsNat.cap {lo : Nat} {W : World} {A : Option Addr} {l cap zx : Nat} (h : IsNat lo W (.slice A l cap) zx) : l = (if zx = 0 then 0 else 1) ∧ l ≤ cap ∧ cap ≤ 1000 := by
  obtain ⟨A', cap', e, ⟨rfl, rfl, h⟩ | ⟨g, cs, rfl, hb, hc⟩⟩ := h
  · cases e; simp [h]
  · cases e; exact ⟨rfl, by have := hb.pos; split <;> omega, hb.small⟩
theorem IsNat.slice {lo : Nat} {W : World} {z : Value} {x : Nat} (h : IsNat lo W z x) : ∃ A cap, z = .slice A (if x = 0 then 0 else 1) cap := by
  obtain ⟨A, cap, e, _⟩ := h; exact ⟨A, cap, e⟩
end Go.Proofs.YtkplhpnhjfdelaaGreatDoor.BC
namespace Go.Proofs.YtkplhpnhjfdelaaGreatDoor.BD
open Go.RowKit Go.Proofs.YtkplhpnhjfdelaaGreatDoorW.PrintWords Go.Proofs.YtkplhpnhjfdelaaGreatDoorW.PrintLast Go.Proofs.YtkplhpnhjfdelaaGreatDoorW.PrintMore Go.Proofs.YtkplhpnhjfdelaaGreatDoor.PPermCycles Go.Proofs.YtkplhpnhjfdelaaGreatDoor.BA Go.Proofs.YtkplhpnhjfdelaaGreatDoor.BB Go.Proofs.YtkplhpnhjfdelaaGreatDoor.BC
set_option linter.unusedVariables false
set_option linter.unusedSimpArgs false
/-- Something times nothing. -/
theorem mul_zero_y (lo : Nat) (A B D : Option Addr) (l m cap c d zx : Nat) (q : Value) (w : World) (hz : IsNat lo w (.slice A l cap) zx) (hm : m ≤ 1) :
    Calls Tryz.prog 78 #[.slice A l cap, q, .slice B m c, .slice D 0 d] w fun e w' => ∃ v, e = .returned v ∧ IsNat lo w' v 0 ∧ w.grownBy w' (Value.ownBlock (.slice A l cap)) := by
  have h0 := hz.zero
  have hc := hz.cap.2.2
  have H := Aside0.mk h0
  have h1 : decide (m < 0) = false := by simp
  clear hz h0
  by_cases hmz : m = 0
  · subst hmz
    go_enter Tryz.func78, Tryz.ntmps78
    go_wp2
    go_ret
    exact ⟨_, rfl, H.out, World.grownBy.refl _ _⟩
  · obtain rfl : m = 1 := by omega
    go_enter Tryz.func78, Tryz.ntmps78
    go_wp2
    go_ret
    exact ⟨_, rfl, H.out, World.grownBy.refl _ _⟩
set_option maxHeartbeats 2000000 in
theorem nat_mul (lo : Nat) (z v u q : Value) (zx x y : Nat) (w : World) (hlo : lo ≤ w.heap.size) (hz : IsNat lo w z zx) (hv : IsNat lo w v x) (hu : IsNat lo w u y) (hxl : x < M64) (hyl : y < M64) (hp : x * y < M64) :
    Calls Tryz.prog 78 #[z, q, v, u] w fun e w' => ∃ v, e = .returned v ∧ IsNat lo w' v (x * y) ∧ w.grownBy w' z.ownBlock := by
  obtain ⟨A, cap, hzs⟩ := hz.slice
  obtain ⟨D, d, hus⟩ := hu.slice
  obtain ⟨B, c, hvs⟩ := hv.slice
  by_cases hy : y = 0
  · subst hy
    subst hus hvs hzs
    rw [Nat.mul_zero]
    exact mul_zero_y lo A B D _ _ cap c d zx q w hz (by split <;> omega)
  · by_cases hx : x = 0
    · subst hx
      subst hus hvs hzs
      rw [Nat.zero_mul, if_neg hy]
      have HM := Aside0.mk (mul_zero_y lo A D B (if zx = 0 then 0 else 1) 1 cap d c zx q w hz (Nat.le_refl 1))
      clear hz hv hu
      generalize (if zx = 0 then 0 else 1) = l at HM ⊢
      rw [if_pos rfl]
      go_enter Tryz.func78, Tryz.ntmps78
      go_wp2_with (go_at_call 78; (with_reducible refine HM.out.mono ?_); rintro e w' ⟨v, rfl, h1, h2⟩; have H1 := Aside0.mk h1; have H2 := Aside0.mk h2; clear h1 h2)
      go_ret
      exact ⟨_, rfl, H1.out, H2.out⟩
    · have HC := mulAddWW_calls lo z v zx x y 0 w hlo hz hv hx hxl (by omega) hyl (by omega) (by omega)
      rw [Nat.add_zero, show ((0 : Nat) : Int) = 0 from rfl] at HC
      have hyc : ∃ h : Nat, D = some ⟨h, 0, none⟩ ∧ w.cell? ⟨h, 0, none⟩ = some (.int .u64 y) := by
        obtain ⟨D', d', e, ⟨_, _, h⟩ | ⟨h, cs, rfl, hb, hc⟩⟩ := hu
        · exact absurd h hy
        · rw [hus] at e
          cases e
          exact ⟨h, rfl, (blk_cell hb.blk 0).trans (hc hy)⟩
      obtain ⟨h, rfl, hyc⟩ := hyc
      have hcd := (IsNat.cap (hus ▸ hu)).2
      subst hus hvs
      rw [if_neg hx] at HC ⊢
      rw [if_neg hy] at hcd ⊢
      subst hzs
      have HCC := Aside0.mk HC
      have hcd1 := hcd.1
      have hcd2 := hcd.2
      clear hz hv hu HC hcd
      generalize (if zx = 0 then 0 else 1) = l at HCC ⊢
      go_enter Tryz.func78, Tryz.ntmps78
      go_wp2_with (go_at_call 104; (with_reducible refine HCC.out.mono ?_); rintro e w' ⟨v, rfl, h1, h2⟩; have H1 := Aside0.mk h1; have H2 := Aside0.mk h2; clear h1 h2)
      go_ret
      exact ⟨_, rfl, H1.out, H2.out⟩
theorem infoW : (Tryz.prog.info? 88).map (·.size) = some 1 := by kernel_rfl
theorem set_zero (A B : Option Addr) (l cap c : Nat) (w : World) (hc : cap ≤ 1000) :
    Calls Tryz.prog 79 #[.slice A l cap, .slice B 0 c] w fun e w' => e = .returned (.slice A 0 cap) ∧ w = w' := by
  have hr : ∀ (w : World) ty, (Builtin.copy_ #[65, 65] ty #[.slice A 0 cap, .slice B 0 c]).run Tryz.prog w = .ok (goInt 0) w := fun w ty => run_copy_none w _ _ _ 88 A B 0 cap 0 c Tryz.underlying65 infoW rfl
  go_enter Tryz.func79, Tryz.ntmps79
  go_wp2_with (first
    | (go_at_call 80; (with_reducible refine (make_reuse _ _ 0 cap 0 _ rfl (Nat.zero_le _) hc).mono ?_); rintro e w' ⟨rfl, rfl⟩)
    | ((with_reducible refine gate_dst (N := 11) rfl ?_); refine Lib.wpList_copy_run _ rfl (.tmp 9) (.tmp 10) 65 65 rfl _ _ rfl rfl (hr _ _) ?_))
  go_ret
  exact ⟨rfl, rfl⟩
theorem copy_one (g h cap c : Nat) (x : Int) (v : Value) (w : World) (hx : w.cell? ⟨h, 0, none⟩ = some (.int .u64 x)) (hz : w.cell? ⟨g, 0, none⟩ = some v) (hf : w.frozen? ⟨g, 0, none⟩ = false) (ty : TypeId) :
    (Builtin.copy_ #[65, 65] ty #[.slice (some ⟨g, 0, none⟩) 1 cap, .slice (some ⟨h, 0, none⟩) 1 c]).run Tryz.prog w = .ok (goInt 1) (w.setCell ⟨g, 0, none⟩ (.int .u64 x)) := by
  have := run_copy_cells (P := Tryz.prog) w 65 65 ty 88 g 0 1 cap ⟨h, 0, none⟩ 1 c [.int .u64 x] Tryz.underlying65 infoW rfl
    (fun j v hj => by match j, hj with | 0, hj => simp at hj; subst hj; simpa [Addr.add] using hx)
    (fun j hj => by obtain rfl : j = 0 := by simpa using hj
                    simpa using by rw [hz]; rfl)
    (fun j hj => by obtain rfl : j = 0 := by simpa using hj
                    exact hf) (by simp [Value.oneCell'])
  simpa [World.setCells] using this
theorem set_reuse (g h l cap c : Nat) (x : Int) (v : Value) (w : World) (h1 : 1 ≤ cap) (hc : cap ≤ 1000) (hx : w.cell? ⟨h, 0, none⟩ = some (.int .u64 x)) (hz : w.cell? ⟨g, 0, none⟩ = some v) (hf : w.frozen? ⟨g, 0, none⟩ = false) :
    Calls Tryz.prog 79 #[.slice (some ⟨g, 0, none⟩) l cap, .slice (some ⟨h, 0, none⟩) 1 c] w fun e w' => e = .returned (.slice (some ⟨g, 0, none⟩) 1 cap) ∧ w' = w.setCell ⟨g, 0, none⟩ (.int .u64 x) := by
  have hr := Aside0.mk (copy_one g h cap c x v w hx hz hf)
  clear hx hz hf
  go_enter Tryz.func79, Tryz.ntmps79
  go_wp2_with (first
    | (go_at_call 80; (with_reducible refine (make_reuse _ _ 1 cap 1 _ rfl h1 hc).mono ?_); rintro e w' ⟨rfl, rfl⟩)
    | ((with_reducible refine gate_dst (N := 11) rfl ?_); refine Lib.wpList_copy_run _ rfl (.tmp 9) (.tmp 10) 65 65 rfl _ _ rfl rfl (hr.out _) ?_))
  go_ret
  exact ⟨rfl, rfl⟩
theorem set_new (A : Option Addr) (h l c : Nat) (x : Int) (w : World) (hx : w.cell? ⟨h, 0, none⟩ = some (.int .u64 x)) :
    Calls Tryz.prog 79 #[.slice A l 0, .slice (some ⟨h, 0, none⟩) 1 c] w fun e w' => e = .returned (.slice (some ⟨w.heap.size, 0, none⟩) 1 1) ∧ w' = (w.alloc (.cells zero1 88)).setCell ⟨w.heap.size, 0, none⟩ (.int .u64 x) := by
  obtain ⟨w1, hw1⟩ : ∃ w1 : World, w1 = w.alloc (.cells zero1 88) := ⟨_, rfl⟩
  obtain ⟨g, hg⟩ : ∃ g, g = w.heap.size := ⟨_, rfl⟩
  have hblk : w1.heap[g]? = some (.cells zero1 88 (0, 0)) := by rw [hw1, hg]; exact heap_alloc_new w _
  have hx1 : w1.cell? ⟨h, 0, none⟩ = some (.int .u64 x) := by
    rw [hw1]
    exact (((Below.refl _ _).alloc (Nat.le_refl _) _ : Below w.heap.size w (w.alloc (.cells zero1 88))).cell (World.block_lt_of_cell? w _ hx)).trans hx
  have hr := Aside0.mk (copy_one g h 1 c x (.int .u64 0) w1 hx1 ((blk_cell hblk 0).trans rfl) (blk_frozen hblk 0))
  have HMK : Aside0 (Calls Tryz.prog 80 #[.slice A l 0, .int .i64 1] w fun e w' => e = .returned (.slice (some ⟨g, 0, none⟩) 1 1) ∧ w' = w1) := ⟨by rw [hw1, hg]; exact make_new1 A l w⟩
  rw [← hw1, ← hg]
  clear hx hx1 hw1 hg hblk
  go_enter Tryz.func79, Tryz.ntmps79
  go_wp2_with (first
    | (go_at_call 80; (with_reducible refine HMK.out.mono ?_); rintro e w' ⟨rfl, rfl⟩)
    | ((with_reducible refine gate_dst (N := 11) rfl ?_); refine Lib.wpList_copy_run _ rfl (.tmp 9) (.tmp 10) 65 65 rfl _ _ rfl rfl (hr.out _) ?_))
  go_ret
  exact ⟨rfl, rfl⟩
/-- z takes x's words. -/
theorem nat_set (lo : Nat) (z v : Value) (zx x : Nat) (w : World) (hlo : lo ≤ w.heap.size) (hz : IsNat lo w z zx) (hv : IsNat lo w v x) :
    Calls Tryz.prog 79 #[z, v] w fun e w' => ∃ v, e = .returned v ∧ IsNat lo w' v x ∧ w.grownBy w' z.ownBlock := by
  obtain ⟨B, c, hvs⟩ := hv.slice
  obtain ⟨A, cap, hzs⟩ := hz.slice
  by_cases hx : x = 0
  · subst hx hvs hzs
    refine (set_zero A B _ cap c w hz.cap.2.2).mono ?_
    rintro e w' ⟨rfl, rfl⟩
    exact ⟨_, rfl, hz.zero, World.grownBy.refl _ _⟩
  · obtain ⟨B', c', e1, ⟨_, _, h⟩ | ⟨h, cs, rfl, hb, hc⟩⟩ := hv
    · exact absurd h hx
    rw [e1, if_neg hx]
    have hxc : w.cell? ⟨h, 0, none⟩ = some (.int .u64 x) := (blk_cell hb.blk 0).trans (hc hx)
    obtain ⟨A', cap', e2, ⟨rfl, rfl, hzz⟩ | ⟨g, cz, rfl, hbz, hcz⟩⟩ := hz
    · rw [e2]
      refine (set_new none h _ c' (x : Int) w hxc).mono ?_
      rintro e w' ⟨rfl, rfl⟩
      have hn := blk_set (heap_alloc_new w (.cells zero1 88)) 0 (.int .u64 (x : Int))
      exact ⟨_, rfl, ⟨_, 1, by rw [if_neg hx], .inr ⟨_, _, rfl, ⟨hlo, hn, rfl, Nat.le_refl _, by omega⟩, fun _ => rfl⟩⟩, grown_of_below (((Below.refl _ _).alloc (Nat.le_refl _) _).setCell (Nat.le_refl _) _) _⟩
    · rw [e2]
      obtain ⟨v0, hv0⟩ : ∃ v, cz[0]? = some v := ⟨_, Array.getElem?_eq_getElem (by have := hbz.size; have := hbz.pos; omega)⟩
      refine (set_reuse g h _ cap' c' (x : Int) v0 w hbz.pos hbz.small hxc ((blk_cell hbz.blk 0).trans hv0) (blk_frozen hbz.blk 0)).mono ?_
      rintro e w' ⟨rfl, rfl⟩
      have hn := blk_set hbz.blk 0 (.int .u64 (x : Int))
      exact ⟨_, rfl, ⟨_, cap', by rw [if_neg hx], .inr ⟨g, _, rfl, ⟨hbz.lo, hn, by simp [hbz.size], hbz.pos, hbz.small⟩, fun _ => by rw [Array.getElem?_setIfInBounds_self_of_lt (by have := hbz.size; have := hbz.pos; omega)]⟩⟩,
        grown_of_sets ((Below.refl _ _).setCell (Nat.zero_le _) _) (fun k hk => Below.heap_setCell _ _ _ k hk)⟩
end Go.Proofs.YtkplhpnhjfdelaaGreatDoor.BD
namespace Go.Proofs.YtkplhpnhjfdelaaGreatDoor.BE
open Go.RowKit Go.Proofs.YtkplhpnhjfdelaaGreatDoorW.PrintWords Go.Proofs.YtkplhpnhjfdelaaGreatDoorW.PrintLast Go.Proofs.YtkplhpnhjfdelaaGreatDoorW.PrintMore Go.Proofs.YtkplhpnhjfdelaaGreatDoor.PPermCycles Go.Proofs.YtkplhpnhjfdelaaGreatDoor.BA Go.Proofs.YtkplhpnhjfdelaaGreatDoor.BB Go.Proofs.YtkplhpnhjfdelaaGreatDoor.BC Go.Proofs.YtkplhpnhjfdelaaGreatDoor.BD
set_option linter.unusedVariables false
set_option linter.unusedSimpArgs false
set_option maxHeartbeats 2000000 in
theorem addVV1 (g h k cz cx cy : Nat) (x y : Int) (v : Value) (w : World) (hx0 : 0 ≤ x) (hx1 : x < 18446744073709551616) (hy0 : 0 ≤ y) (hy1 : y < 18446744073709551616)
    (hx : w.cell? ⟨h, 0, none⟩ = some (.int .u64 x)) (hy : w.cell? ⟨k, 0, none⟩ = some (.int .u64 y)) (hz : w.cell? ⟨g, 0, none⟩ = some v) (hf : w.frozen? ⟨g, 0, none⟩ = false) :
    Calls Tryz.prog 53 #[.slice (some ⟨g, 0, none⟩) 1 cz, .slice (some ⟨h, 0, none⟩) 1 cx, .slice (some ⟨k, 0, none⟩) 1 cy] w fun e w' => ∃ n, e = .returned (.int .u64 ((x + y) / 18446744073709551616)) ∧ w' = (w.drewN n).setCell ⟨g, 0, none⟩ (.int .u64 ((x + y) % 18446744073709551616)) := by
  have HA : ∀ w : World, Calls Tryz.prog 84 #[.int .u64 x, .int .u64 y, .int .u64 0] w fun e w' => e = .returned (.tuple #[.int .u64 ((x + y) % 18446744073709551616), .int .u64 ((x + y) / 18446744073709551616)]) ∧ w = w' := fun w => by
    have := Add_calls x y 0 w hx0 hx1 hy0 hy1 (by omega) (by omega)
    rwa [Int.add_zero] at this
  obtain ⟨s, hs⟩ : ∃ s, s = (x + y) % 18446744073709551616 := ⟨_, rfl⟩
  obtain ⟨t, ht⟩ : ∃ t, t = (x + y) / 18446744073709551616 := ⟨_, rfl⟩
  rw [← hs, ← ht] at HA ⊢
  have HA2 := Aside0.mk HA
  clear HA hs ht hx0 hx1 hy0 hy1
  go_enter Tryz.func53, Tryz.ntmps53
  go_wp2
  refine wp_loop_rounds 2 ?_
  rw [rounds_succ]
  go_wp2
  go_quiet ((go_at_call 84; exact Calls.quiet_of_same ((HA2.out _).mono fun _ _ h => ⟨h.1, h.2.symm⟩)))
  go_wp2
  rw [rounds_succ]
  go_wp2
  go_ret
  exact ⟨_, rfl, rfl⟩
set_option maxHeartbeats 2000000 in
set_option maxRecDepth 100000 in
/-- The addition into a block that has room for two words; the heap's world w1 is the one behind make. -/
theorem add_core (lo g cap l h k cx cy : Nat) (A : Option Addr) (lz cz : Nat) (cs : Array Value) (x y : Nat) (w w1 : World)
    (HMK : Aside0 (Calls Tryz.prog 80 #[.slice A lz cz, .int .i64 2] w fun e w' => e = .returned (.slice (some ⟨g, 0, none⟩) 2 cap) ∧ w' = w1))
    (hb : Blk lo w1 g cap cs) (h2 : 2 ≤ cap) (hx : w1.cell? ⟨h, 0, none⟩ = some (.int .u64 x)) (hy : w1.cell? ⟨k, 0, none⟩ = some (.int .u64 y)) (hcx : 1 ≤ cx) (hcx2 : cx ≤ 1000) (hcy : 1 ≤ cy) (hcy2 : cy ≤ 1000) (hp : x + y < M64) (hp0 : x + y ≠ 0) :
    Calls Tryz.prog 60 #[.slice A lz cz, .slice (some ⟨h, 0, none⟩) 1 cx, .slice (some ⟨k, 0, none⟩) 1 cy] w fun e w' => ∃ W, e = .returned (.slice (some ⟨g, 0, none⟩) 1 cap) ∧ W.heap = w1.heap ∧ Below w1.heap.size w1 W ∧ w' = (W.setCell ⟨g, 0, none⟩ (.int .u64 ((x + y : Nat) : Int))).setCell ⟨g, 1, none⟩ (.int .u64 0) := by
  have hp' : x + y < 18446744073709551616 := hp
  have hcap := hb.small
  obtain ⟨v0, hv0⟩ : ∃ v, cs[0]? = some v := ⟨_, Array.getElem?_eq_getElem (by have := hb.size; omega)⟩
  obtain ⟨v1, hv1⟩ : ∃ v, cs[1]? = some v := ⟨_, Array.getElem?_eq_getElem (by have := hb.size; omega)⟩
  have hz0 : w1.cell? ⟨g, 0, none⟩ = some v0 := (blk_cell hb.blk 0).trans hv0
  have hf0 := blk_frozen hb.blk 0
  have hdiv : ((x : Int) + (y : Int)) / 18446744073709551616 = 0 := by omega
  have hmod : ((x : Int) + (y : Int)) % 18446744073709551616 = ((x + y : Nat) : Int) := by omega
  have HC := fun w => addVV1 g h k cap cx cy (x : Int) (y : Int) v0 w (by omega) (by omega) (by omega) (by omega)
  rw [hdiv, hmod] at HC
  obtain ⟨p, hpp⟩ : ∃ p, p = x + y := ⟨_, rfl⟩
  rw [← hpp] at HC hp hp0 ⊢
  have HW : ∀ W : World, W.heap = w1.heap → ∀ m, (((W.drewN m).setCell ⟨g, 0, none⟩ (.int .u64 (p : Int))).cell? ⟨g, 1, none⟩ = some v1 ∧ ((W.drewN m).setCell ⟨g, 0, none⟩ (.int .u64 (p : Int))).frozen? ⟨g, 1, none⟩ = false) ∧
      Calls Tryz.prog 83 #[.slice (some ⟨g, 0, none⟩) 2 cap] (((W.drewN m).setCell ⟨g, 0, none⟩ (.int .u64 (p : Int))).setCell ⟨g, 1, none⟩ (.int .u64 0)) fun e w' => e = .returned (.slice (some ⟨g, 0, none⟩) 1 cap) ∧ (((W.drewN m).setCell ⟨g, 0, none⟩ (.int .u64 (p : Int))).setCell ⟨g, 1, none⟩ (.int .u64 0)) = w' := by
    intro W hW m
    have hbW : (W.drewN m).heap[g]? = some (.cells cs 88 (0, 0)) := by
      have := hb.blk
      rw [← hW] at this
      exact this
    have hb1 := blk_set hbW 0 (.int .u64 (p : Int))
    have hb2 := blk_set hb1 1 (.int .u64 0)
    have hs := hb.size
    refine ⟨⟨(blk_cell hb1 1).trans (word_get hv1 0 _ (by decide)), blk_frozen hb1 1⟩, ?_⟩
    exact norm2 g cap (p : Int) _ h2 hcap ((blk_cell hb2 0).trans (word_get (by rw [Array.getElem?_setIfInBounds_self_of_lt (by omega)]) 1 _ (by decide))) ((blk_cell hb2 1).trans (Array.getElem?_setIfInBounds_self_of_lt (by simp; omega))) (by have := hp0; omega)
  have HWW := Aside0.mk HW
  have HCC := Aside0.mk HC
  have HX := Aside0.mk (And.intro hx hy)
  have HZ := Aside0.mk (And.intro hz0 hf0)
  clear hb HC HW hx hy hz0 hf0 hv0 hv1 hdiv hmod hpp hp hp0
  go_enter Tryz.func60, Tryz.ntmps60
  have hen := addVV_enters
  go_wp2_with (go_at_call 80; (with_reducible refine HMK.out.mono ?_); rintro e w' ⟨rfl, hw'⟩; subst w')
  have i1 : (1 : Int) ≤ (cap : Int) := by omega
  have i2 : (1 : Int) ≤ (cx : Int) := by omega
  have i3 : (1 : Int) ≤ (cy : Int) := by omega
  go_still_tail 9, (by kernel_rfl)
  change wpList _ _ _ _ _ w1.drew
  have hx2 : w1.drew.cell? ⟨h, 0, none⟩ = some (.int .u64 (x : Int)) := HX.out.1
  have hy2 : w1.drew.cell? ⟨k, 0, none⟩ = some (.int .u64 (y : Int)) := HX.out.2
  have hz2 : w1.drew.cell? ⟨g, 0, none⟩ = some v0 := HZ.out.1
  have hf2 : w1.drew.frozen? ⟨g, 0, none⟩ = false := HZ.out.2
  have hh2 : w1.drew.heap = w1.heap := rfl
  have hb2 : Below w1.heap.size w1 w1.drew := (Below.refl _ _).drew
  generalize w1.drew = w2 at hx2 hy2 hz2 hf2 hh2 hb2 ⊢
  have HX2 := Aside0.mk (And.intro hx2 (And.intro hy2 (And.intro hz2 hf2)))
  have HH2 := Aside0.mk (And.intro hh2 hb2)
  clear hx2 hy2 hz2 hf2 hh2 hb2 HX HZ HMK
  go_wp2_with (first
    | (go_at_call 53; (with_reducible refine (HCC.out _ HX2.out.1 HX2.out.2.1 HX2.out.2.2.1 HX2.out.2.2.2).mono ?_); rintro e w' ⟨n, rfl, hw'⟩; subst w'; have hq1 := (HWW.out w2 HH2.out.1 n).1.1; have hq2 := (HWW.out w2 HH2.out.1 n).1.2)
    | (go_at_call 83; (with_reducible refine ((HWW.out w2 HH2.out.1 n).2).mono ?_); rintro e w' ⟨rfl, hw'⟩; subst w'))
  go_ret
  exact ⟨w2.drewN n, rfl, HH2.out.1, pw_below_drewN HH2.out.2 n, rfl⟩
/-- Something plus nothing. -/
theorem add_zero_y (lo : Nat) (z v : Value) (D : Option Addr) (d zx x : Nat) (w : World) (hlo : lo ≤ w.heap.size) (hz : IsNat lo w z zx) (hv : IsNat lo w v x) :
    Calls Tryz.prog 60 #[z, v, .slice D 0 d] w fun e w' => ∃ v, e = .returned v ∧ IsNat lo w' v x ∧ w.grownBy w' z.ownBlock := by
  obtain ⟨A, cap, hzs⟩ := hz.slice
  obtain ⟨B, c, hvs⟩ := hv.slice
  by_cases hx : x = 0
  · subst hx hvs hzs
    have H := Aside0.mk hz.zero
    have hc := hz.cap.2.2
    rw [if_pos rfl]
    clear hz hv
    generalize (if zx = 0 then 0 else 1) = l
    go_enter Tryz.func60, Tryz.ntmps60
    go_wp2
    go_ret
    exact ⟨_, rfl, H.out, World.grownBy.refl _ _⟩
  · have HS := Aside0.mk (nat_set lo z v zx x w hlo hz hv)
    subst hvs hzs
    rw [if_neg hx] at HS ⊢
    clear hz hv
    generalize (if zx = 0 then 0 else 1) = l at HS ⊢
    go_enter Tryz.func60, Tryz.ntmps60
    go_wp2_with (go_at_call 79; (with_reducible refine HS.out.mono ?_); rintro e w' ⟨v, rfl, h1, h2⟩; have H1 := Aside0.mk h1; have H2 := Aside0.mk h2; clear h1 h2)
    go_ret
    exact ⟨_, rfl, H1.out, H2.out⟩
set_option maxHeartbeats 2000000 in
theorem nat_add (lo : Nat) (z v u : Value) (zx x y : Nat) (w : World) (hlo : lo ≤ w.heap.size) (hz : IsNat lo w z zx) (hv : IsNat lo w v x) (hu : IsNat lo w u y) (hp : x + y < M64) :
    Calls Tryz.prog 60 #[z, v, u] w fun e w' => ∃ v, e = .returned v ∧ IsNat lo w' v (x + y) ∧ w.grownBy w' z.ownBlock := by
  obtain ⟨D, d, hus⟩ := hu.slice
  by_cases hy : y = 0
  · subst hy hus
    exact add_zero_y lo z v D d zx x w hlo hz hv
  · obtain ⟨B, c, hvs⟩ := hv.slice
    by_cases hx : x = 0
    · subst hx hvs
      have HS := Aside0.mk (add_zero_y lo z u B c zx y w hlo hz hu)
      rw [Nat.zero_add, if_pos rfl]
      subst hus
      rw [if_neg hy] at HS ⊢
      obtain ⟨A, cap, hzs⟩ := hz.slice
      subst hzs
      clear hz hv hu
      generalize (if zx = 0 then 0 else 1) = l at HS ⊢
      go_enter Tryz.func60, Tryz.ntmps60
      go_wp2_with (go_at_call 60; (with_reducible refine HS.out.mono ?_); rintro e w' ⟨v, rfl, h1, h2⟩; have H1 := Aside0.mk h1; have H2 := Aside0.mk h2; clear h1 h2)
      go_ret
      exact ⟨_, rfl, H1.out, H2.out⟩
    · obtain ⟨B', c', e1, ⟨_, _, h⟩ | ⟨h, cs, rfl, hb, hc⟩⟩ := hv
      · exact absurd h hx
      obtain ⟨D', d', e2, ⟨_, _, k⟩ | ⟨k, ds, rfl, hd, hdc⟩⟩ := hu
      · exact absurd k hy
      rw [e1, e2, if_neg hx, if_neg hy]
      have hxc : w.cell? ⟨h, 0, none⟩ = some (.int .u64 x) := (blk_cell hb.blk 0).trans (hc hx)
      have hyc : w.cell? ⟨k, 0, none⟩ = some (.int .u64 y) := (blk_cell hd.blk 0).trans (hdc hy)
      have hnew : ∀ (A : Option Addr) (l cap : Nat), cap < 2 → ∀ row : Option Nat, Calls Tryz.prog 60 #[.slice A l cap, .slice (some ⟨h, 0, none⟩) 1 c', .slice (some ⟨k, 0, none⟩) 1 d'] w fun e w' => ∃ v, e = .returned v ∧ IsNat lo w' v (x + y) ∧ w.grownBy w' row := by
        intro A l cap hcap row
        have hbel : Below w.heap.size w (w.alloc (.cells zero6 88)) := (Below.refl _ _).alloc (Nat.le_refl _) _
        have hblk := heap_alloc_new w (.cells zero6 88)
        refine (add_core lo w.heap.size 6 1 h k c' d' A l cap zero6 x y w _ ⟨make_new2 A l cap w hcap⟩ ⟨hlo, hblk, rfl, by omega, by omega⟩ (by omega) ((hbel.cell (World.block_lt_of_cell? w _ hxc)).trans hxc) ((hbel.cell (World.block_lt_of_cell? w _ hyc)).trans hyc) hb.pos hb.small hd.pos hd.small hp (by omega)).mono ?_
        rintro e w' ⟨W, rfl, h1, h2, rfl⟩
        have hbW : W.heap[w.heap.size]? = some (.cells zero6 88 (0, 0)) := by rw [h1]; exact hblk
        have hb1 := blk_set (blk_set hbW 0 (.int .u64 ((x + y : Nat) : Int))) 1 (.int .u64 0)
        exact ⟨_, rfl, ⟨_, 6, by rw [if_neg (by omega)], .inr ⟨w.heap.size, _, rfl, ⟨hlo, hb1, rfl, by omega, by omega⟩, fun _ => rfl⟩⟩, grown_of_below (((hbel.trans (h2.mono (by simp))).setCell (Nat.le_refl _) _).setCell (Nat.le_refl _) _) _⟩
      obtain ⟨A', cap', e3, ⟨rfl, rfl, hzz⟩ | ⟨g, cz, rfl, hbz, hcz⟩⟩ := hz
      · rw [e3]; exact hnew none _ 0 (by omega) _
      · rw [e3]
        by_cases h2 : 2 ≤ cap'
        · refine (add_core lo g cap' 1 h k c' d' (some ⟨g, 0, none⟩) _ cap' cz x y w w ⟨(make_reuse (some ⟨g, 0, none⟩) _ 2 cap' 2 w rfl h2 hbz.small).mono fun _ _ h => ⟨h.1, h.2.symm⟩⟩ hbz h2 hxc hyc hb.pos hb.small hd.pos hd.small hp (by omega)).mono ?_
          rintro e w' ⟨W, rfl, h1, h2', rfl⟩
          have hbW : W.heap[g]? = some (.cells cz 88 (0, 0)) := by rw [h1]; exact hbz.blk
          have hb1 := blk_set (blk_set hbW 0 (.int .u64 ((x + y : Nat) : Int))) 1 (.int .u64 0)
          have hs := hbz.size
          refine ⟨_, rfl, ⟨_, cap', by rw [if_neg (by omega)], .inr ⟨g, _, rfl, ⟨hbz.lo, hb1, by simp [hs], hbz.pos, hbz.small⟩, fun _ => word_get (by rw [Array.getElem?_setIfInBounds_self_of_lt (by omega)]) 1 _ (by decide)⟩⟩, ?_⟩
          have hw0 : Below 0 w W := h2'.mono (Nat.zero_le _)
          refine grown_of_sets ((hw0.setCell (Nat.zero_le _) _).setCell (Nat.zero_le _) _) (fun j hj => ?_)
          rw [Below.heap_setCell _ ⟨g, 1, none⟩ _ j hj, Below.heap_setCell _ ⟨g, 0, none⟩ _ j hj, h1]
        · exact hnew _ _ cap' (by omega) _
end Go.Proofs.YtkplhpnhjfdelaaGreatDoor.BE
