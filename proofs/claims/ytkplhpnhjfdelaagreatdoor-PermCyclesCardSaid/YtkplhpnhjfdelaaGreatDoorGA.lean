/- cayleylaw.own: a copy of a list. What perm.Conj's closures do: they append a cycle to a list that they have captured. perm.cycles hands each cycle to a closure, in order. perm.Conj of two permutations. Two faults with the same cells are the same: '!=' answers false. A row of numbers of the call's own that slices.Sort or slices.Reverse has put in another order. -/
import Derived.Test.YtkplhpnhjfdelaaGreatDoorQ4
import Derived.Sort.Grow
namespace Go.Proofs.YtkplhpnhjfdelaaGreatDoor.OW
open Go.RowKit Go.Proofs.YtkplhpnhjfdelaaGreatDoorW.PrintWords Go.Proofs.YtkplhpnhjfdelaaGreatDoorW.PrintLast Go.Proofs.YtkplhpnhjfdelaaGreatDoorW.PrintMore
set_option linter.unusedVariables false
set_option linter.unusedSimpArgs false
theorem info3 : (Tryz.prog.info? 3).map (fun i => (i.zero, i.size, i.bytes)) = some (some (.int .i64 0), 1, 8) := by kernel_rfl
set_option maxHeartbeats 400000 in
theorem own_calls (A : Option Addr) (c : Nat) (l : List Int) (w : World) (hr : Kd.C (Kd.int .i64) w A l.length l) (hlen : l.length * 8 ≤ 140737488355328) :
    Calls Tryz.prog 4 #[.slice A l.length c] w fun e w' => ∃ v, e = .returned v ∧ Kd.R (Kd.int .i64) 3 w' w.heap.size (fun _ => True) v l ∧ Below w.heap.size w w' := by
  have HR := Aside0.mk hr
  clear hr
  go_enter Tryz.func4, Tryz.ntmps4
  go_wp2_with (first | ((with_reducible refine gate_dst (N := 4) rfl ?_); at_builtin; refine Kd.R_append_rows (Kd.int .i64) (Rr := (Kd.int .i64).K w) (w0 := w) w.heap.size rfl (.const (.slice none 0 0)) (.tmp 3) 22 3 (.int .i64 0) 8 rfl Tryz.underlying22 info3 rfl (by decide) (by omega) (.slice none 0 0) [] l A l.length c (fun _ => True) (fun _ => False) rfl rfl (Kd.R_nil _ _ _ _ _) HR.out (fun _ _ h => h) (fun _ h => h.elim) (fun _ _ => trivial) (Below.refl _ _) (Nat.le_refl _) ?aL ?_; (case aL => simp only [List.length_nil, Nat.zero_add]; omega); intro v1 w1 ho hb hg hat))
  go_ret
  exact ⟨_, rfl, by simpa using ho, hb⟩
end Go.Proofs.YtkplhpnhjfdelaaGreatDoor.OW
namespace Go.Proofs.YtkplhpnhjfdelaaGreatDoor.CL
open Go.RowKit Go.Proofs.YtkplhpnhjfdelaaGreatDoorW.PrintWords Go.Proofs.YtkplhpnhjfdelaaGreatDoorW.PrintLast Go.Proofs.YtkplhpnhjfdelaaGreatDoorW.PrintMore
set_option linter.unusedVariables false
set_option linter.unusedSimpArgs false
theorem infoL : (Tryz.prog.info? 22).map (fun i => (i.zero, i.size, i.bytes)) = some (some (.slice none 0 0), 1, 24) := by kernel_rfl
/-- A captured variable (block B) holds a list of lists of the call's own, all of whose rows lie in blocks from lo on. -/
def Acc (lo B : Nat) (acc : List (List Int)) (W : World) : Prop :=
  B < W.heap.size ∧ lo ≤ W.heap.size ∧ ∃ v, W.heap[B]? = some (.cells #[v] 24 (0, 0)) ∧ Kd.R (Kd.slice 3 (Kd.int .i64)) 22 W lo (fun _ => True) v acc
/-- What no call of ours turns: the system, the tape, what has been written. -/
def Env (W W' : World) : Prop := W'.os = W.os ∧ W'.tape = W.tape ∧ W'.output = W.output
theorem Env.trans {W W1 W2 : World} (h : Env W W1) (h' : Env W1 W2) : Env W W2 := ⟨h'.1.trans h.1, h'.2.1.trans h.2.1, h'.2.2.trans h.2.2⟩
/-- Nothing below lo but block B is turned. -/
def FB (lo B : Nat) (W W' : World) : Prop := W.heap.size ≤ W'.heap.size ∧ (∀ k, k < lo → k ≠ B → W'.heap[k]? = W.heap[k]?) ∧ Env W W'
theorem FB.refl (lo B : Nat) (W : World) : FB lo B W W := ⟨Nat.le_refl _, fun _ _ _ => rfl, rfl, rfl, rfl⟩
theorem FB.trans {lo B : Nat} {W W1 W2 : World} (h : FB lo B W W1) (h' : FB lo B W1 W2) : FB lo B W W2 := ⟨Nat.le_trans h.1 h'.1, fun k hk hb => (h'.2.1 k hk hb).trans (h.2.1 k hk hb), h.2.2.trans h'.2.2⟩
theorem FB.of_below {lo B : Nat} {W W' : World} (h : Below lo W W') : FB lo B W W' := ⟨h.size, fun k hk _ => h.block k hk, h.os, h.tape, h.output⟩
theorem FB.below {lo B n : Nat} {W W' : World} (h : FB lo B W W') (hl : n ≤ lo) (hB : n ≤ B) : Below n W W' := ⟨h.2.2.1, h.2.2.2.1, h.2.2.2.2, h.1, fun k hk => h.2.1 k (by omega) (by omega)⟩
/-- Rows of the call's own from lo on are nowhere else. -/
theorem R_lo {α : Type} {d : Kd α} {e lo : Nat} {W : World} {v : Value} {xs : List α} {ok : Nat → Prop} (h : d.R e W lo ok v xs) : d.R e W lo (fun k => lo ≤ k ∧ k < W.heap.size ∧ ∃ q, q ∈ e :: d.E ∧ ∃ cells, W.heap[k]? = some (.cells cells q (0, 0))) v xs :=
  Kd.R_mono (Kd.R_bound h) (fun k hk => hk.2)
theorem Acc.keep {lo B : Nat} {acc : List (List Int)} {W W' : World} {H : Nat} {cs : Array Value} (h : Acc lo B acc W) (hH : W.heap[H]? = some (.cells cs 4 (0, 0))) (hk : W.grownBy W' (some H)) : Acc lo B acc W' := by
  obtain ⟨hB, hl, v, hv, hr⟩ := h
  have hne : ∀ k cells q fr, W.heap[k]? = some (.cells cells q fr) → q ≠ 4 → k ≠ H := by
    rintro k cells q fr hc hq rfl
    rw [hc] at hH
    injection hH with hH
    injection hH with _ hq2
    exact hq hq2
  refine ⟨Nat.lt_of_lt_of_le hB hk.size, Nat.le_trans hl hk.size, v, (hk.block B hB (by have := hne _ _ _ _ hv (by decide); simpa using this)).trans hv, ?_⟩
  refine Kd.R_mono (Kd.R_move (R_lo hr) (fun k hq => ?_)) (fun _ _ => trivial)
  obtain ⟨_, hlt, q, hq1, cells, hc⟩ := hq
  have hn := hne _ _ _ _ hc (by simp only [Kd.slice, Kd.int, Kd.scalar, List.mem_cons, List.not_mem_nil, or_false] at hq1; rcases hq1 with rfl | rfl <;> decide)
  exact hk.block k hlt (by simpa using hn)
theorem Acc.fb {lo B lo' B' : Nat} {acc : List (List Int)} {W W' : World} (h : Acc lo B acc W) (hf : FB lo' B' W W') (hs : W.heap.size ≤ lo') (hb : B ≠ B') (hl : B' < lo) : Acc lo B acc W' := by
  obtain ⟨hB, hlo, v, hv, hr⟩ := h
  refine ⟨Nat.lt_of_lt_of_le hB hf.1, Nat.le_trans hlo hf.1, v, (hf.2.1 B (by omega) hb).trans hv, ?_⟩
  refine Kd.R_mono (Kd.R_move (R_lo hr) (fun k hq => ?_)) (fun _ _ => trivial)
  obtain ⟨h1, h2, _⟩ := hq
  exact hf.2.1 k (by omega) (by omega)

theorem Acc.below {lo B : Nat} {acc : List (List Int)} {W W' : World} (h : Acc lo B acc W) (hb : Below W.heap.size W W') : Acc lo B acc W' := by
  obtain ⟨hB, hlo, v, hv, hr⟩ := h
  refine ⟨Nat.lt_of_lt_of_le hB hb.size, Nat.le_trans hlo hb.size, v, (hb.block B hB).trans hv, ?_⟩
  exact Kd.R_mono (Kd.R_move (R_lo hr) (fun k hq => hb.block k hq.2.1)) (fun _ _ => trivial)
theorem own_facts {α : Type} {d : Kd α} {e lo k : Nat} {W : World} {v : Value} {xs : List α} {ok : Nat → Prop} (h : d.R e W lo ok v xs) (hk : v.ownBlock = some k) : lo ≤ k ∧ k < W.heap.size ∧ ∃ cells, W.heap[k]? = some (Obj.cells cells e (0, 0)) := by
  obtain ⟨inner, ho⟩ := Kd.R_own h
  exact ⟨own_base ho k hk, own_lt ho k hk, own_typed ho k hk⟩
theorem type_ne {W : World} {k : Nat} {cs cs' : Array Value} {q q' : Nat} (h : W.heap[k]? = some (Obj.cells cs q (0, 0))) (h' : W.heap[k]? = some (Obj.cells cs' q' (0, 0))) : q = q' := by
  rw [h] at h'
  injection h' with h'
  injection h' with _ hq
/-- Blocks of bools stay. -/
def KeepsBools (W W' : World) : Prop := ∀ (k : Nat) (cs : Array Value), W.heap[k]? = some (Obj.cells cs 4 (0, 0)) → W'.heap[k]? = some (Obj.cells cs 4 (0, 0))
/-- What a closure promises that is handed each cycle: it appends it to its list. -/
def Takes (g : FuncId) : Prop := ∀ (lo B : Nat) (acc : List (List Int)) (c : List Int) (cv : Value) (W : World), Acc lo B acc W → B < lo → acc.length ≤ 100000 → Kd.R (Kd.int .i64) 3 W lo (fun _ => True) cv c →
  Calls Tryz.prog g #[cv, .pointer (some ⟨B, 0, none⟩)] W fun e W' => e = .returned (.bool true) ∧ Acc lo B (acc ++ [c]) W' ∧ FB lo B W W' ∧ KeepsBools W W'

/-- The list is put back into its variable. -/
theorem put_back {lo B : Nat} {acc : List (List Int)} {v v1 : Value} {W W1 : World} (hv : W.heap[B]? = some (.cells #[v] 24 (0, 0))) (hB : B < lo) (hlo : lo ≤ W.heap.size)
    (ho : Kd.R (Kd.slice 3 (Kd.int .i64)) 22 W lo (fun _ => True) v acc)
    {acc1 : List (List Int)} (hr : Kd.R (Kd.slice 3 (Kd.int .i64)) 22 W1 lo (fun _ => True) v1 acc1) (hg : W.grownBy W1 v.ownBlock) :
    Acc lo B acc1 (W1.setCell ⟨B, 0, none⟩ v1) ∧ FB lo B W (W1.setCell ⟨B, 0, none⟩ v1) ∧ KeepsBools W (W1.setCell ⟨B, 0, none⟩ v1) := by
  have hBs : B < W.heap.size := by omega
  have hnB : some B ≠ v.ownBlock := fun he => by
    have := (own_facts ho he.symm).1
    omega
  have hB1 : W1.heap[B]? = some (.cells #[v] 24 (0, 0)) := (hg.block B hBs hnB).trans hv
  have hsz : W.heap.size ≤ W1.heap.size := hg.size
  have hfar : ∀ k, k ≠ B → (W1.setCell ⟨B, 0, none⟩ v1).heap[k]? = W1.heap[k]? := fun k hk => Below.heap_setCell W1 ⟨B, 0, none⟩ v1 k hk
  refine ⟨⟨by simpa using Nat.lt_of_lt_of_le hBs hsz, by simpa using Nat.le_trans hlo hsz, v1, ?_, ?_⟩, ⟨by simpa using hsz, fun k hk hne => ?_, hg.os, hg.tape, hg.output⟩, fun k cs hk => ?_⟩
  · simpa using blk_set hB1 0 v1
  · refine Kd.R_mono (Kd.R_move (R_lo hr) (fun k hq => hfar k (by have := hq.1; omega))) (fun _ _ => trivial)
  · rw [hfar k hne]
    refine hg.block k (by omega) (fun he => ?_)
    have := (own_facts ho he.symm).1
    omega
  · have hlt : k < W.heap.size := blk_lt hk
    have hneB : k ≠ B := by
      rintro rfl
      exact absurd (type_ne hv hk) (by decide)
    rw [hfar k hneB]
    refine (hg.block k hlt (fun he => ?_)).trans hk
    obtain ⟨_, _, cells, hc⟩ := own_facts ho he.symm
    exact absurd (type_ne hk hc) (by decide)
end Go.Proofs.YtkplhpnhjfdelaaGreatDoor.CL
namespace Go.Proofs.YtkplhpnhjfdelaaGreatDoor.CY
open Go.RowKit Go.Proofs.YtkplhpnhjfdelaaGreatDoorW.PrintWords Go.Proofs.YtkplhpnhjfdelaaGreatDoorW.PrintLast Go.Proofs.YtkplhpnhjfdelaaGreatDoorW.PrintMore Go.Proofs.YtkplhpnhjfdelaaGreatDoor.CL
set_option linter.unusedVariables false
set_option linter.unusedSimpArgs false
/-- One cycle: what has been met, what has been gathered, where we are. -/
def cycIn : Nat → List Int → List Bool → List Int → Int → Option (List Bool × List Int)
  | 0, _, _, _, _ => none
  | k + 1, p, had, c, x => if 0 ≤ x then (if x < (p.length : Int) then (if rdOf false had x = true then some (had, c) else if 100000 ≤ c.length then none else cycIn k p (had.set x.toNat true) (c ++ [x]) (rd p x)) else none) else none
/-- All cycles. -/
def cycOut : Nat → List Int → List Bool → Int → List (List Int) → Option (List (List Int))
  | 0, _, _, _, _ => none
  | k + 1, p, had, i, acc => if i < (p.length : Int) then (if rdOf false had i = true then cycOut k p had (i + 1) acc else (cycIn k p had [] i).bind fun t => cycOut k p t.1 (i + 1) (acc ++ [t.2])) else some acc
theorem info4 : (Tryz.prog.info? 4).map (fun i => (i.zero, i.size, i.bytes)) = some (some (.bool false), 1, 1) := by kernel_rfl
section
variable {P : Program} {ops : Array Oper} {Q : Exit → Act → World → Prop}
/-- A call of a closure, in a plain region. -/
theorem goesC_ {rest : List Oper} {oi : Oper} {a : Act} {w : World} (N : Option Tmp) (hd : oi.dst = N) (hg : oi.guard = none) {f : FuncId} {fn : Func} {ar : Array Operand} {ts : Array TypeId} {t : Tmp} {lb : Array Value} (hf : P.funcs[f]? = some fn) (hname : (fn.name == "runtime.NumGoroutine") = false) (hb : fn.body.isSome = true) (args : Array Value)
    (hop : oi.op = .call { callee := .value (.tmp t), args := ar, argTypes := ts }) (ht : a.eval (.tmp t) = .func (.func f) #[] lb) (hargs : ar.map a.eval ++ lb = args)
    (h : Calls P f args w fun e w' => ∃ v, e = .returned v ∧ wpList P ops Q rest (a.put N v) w') : wpList P ops Q (oi :: rest) a w := by
  refine wpList_plain hg fun K hK => ?_
  have he := enters_ hf hname hb args w
  have hrun : (execOp a.eval oi).run P w = .ok (.enter f args) w := by
    unfold execOp
    simp [hop, resolve, Deferred.ofValue, invoke, ht, hargs, he]
  unfold Oper.wp
  rw [hrun, Oper.upon_enter]
  refine h.mono fun e w'' hh => ?_
  obtain ⟨v, rfl, hk⟩ := hh
  subst hd
  exact hK _ _ hk
end
theorem kb_fb {lo B H : Nat} {W W' : World} (h : W.grownBy W' (some H)) (hl : lo ≤ W.heap.size) (hH : lo ≤ H) : FB lo B W W' := ⟨h.size, fun k hk _ => h.block k (by omega) (by simp; omega), h.os, h.tape, h.output⟩
theorem keep_put {W0 W W1 : World} {g : Nat} (h : W0.grownBy W (some g)) (hg : W.grownBy W1 (some g)) : W0.grownBy W1 (some g) :=
  ⟨hg.os.trans h.os, hg.tape.trans h.tape, hg.output.trans h.output, Nat.le_trans h.size hg.size, fun k hk hne => (hg.block k (Nat.lt_of_lt_of_le hk h.size) hne).trans (h.block k hk hne)⟩
theorem row_put {α : Type} {d : Kd α} {e : Nat} {W0 W W1 : World} {g : Nat} {v : Value} {xs : List α} (h : d.R e W W0.heap.size (fun _ => True) v xs) (hg : W.grownBy W1 (some g)) (hlt : g < W0.heap.size) : d.R e W1 W0.heap.size (fun _ => True) v xs :=
  Kd.R_mono (Kd.R_move (R_lo h) (fun k hk => hg.block k hk.2.1 (by have := hk.1; simp; omega))) (fun _ _ => trivial)
theorem keep_own {W0 W W1 : World} {g : Nat} {v : Value} {e : Nat} {α : Type} {d : Kd α} {xs : List α} (h : W0.grownBy W (some g)) (ho : d.R e W W0.heap.size (fun _ => True) v xs) (hg : W.grownBy W1 v.ownBlock) : W0.grownBy W1 (some g) :=
  ⟨hg.os.trans h.os, hg.tape.trans h.tape, hg.output.trans h.output, Nat.le_trans h.size hg.size, fun k hk hne => (hg.block k (Nat.lt_of_lt_of_le hk h.size) (fun he => by have := (own_facts ho he.symm).1; omega)).trans (h.block k hk hne)⟩
theorem bools_keep {lo : Nat} {W W1 : World} {v : Value} {xs : List Bool} (h : Kd.R Kd.bool 4 W lo (fun _ => True) v xs) (hk : KeepsBools W W1) : Kd.R Kd.bool 4 W1 lo (fun _ => True) v xs :=
  Kd.R_mono (Kd.R_move (R_lo h) (fun k hq => by
    obtain ⟨_, _, q, hq, cells, hc⟩ := hq
    simp only [Kd.bool, Kd.scalar, List.mem_cons, List.not_mem_nil, or_false] at hq
    subst hq
    exact (hk k cells hc).trans hc.symm)) (fun _ _ => trivial)
set_option maxHeartbeats 4000000 in
set_option maxRecDepth 100000 in
theorem cycles_calls (k : Nat) (g : FuncId) (fn : Func) (hf : Tryz.prog.funcs[g]? = some fn) (hname : (fn.name == "runtime.NumGoroutine") = false) (hbody : fn.body.isSome = true) (ht : Takes g)
    (B : Nat) (A : Option Addr) (cap : Nat) (p : List Int) (r : List (List Int)) (w : World) (hn : p.length ≤ 1000) (hB : B < w.heap.size) (h0 : Acc w.heap.size B [] w)
    (hp : ∀ W', FB w.heap.size B w W' → Kd.C (Kd.int .i64) W' A p.length p) (h : cycOut k p (List.replicate p.length false) 0 [] = some r) :
    Calls Tryz.prog 17 #[.slice A p.length cap, .func (.func g) #[] #[.pointer (some ⟨B, 0, none⟩)]] w fun e w' => e = .returned (.tuple #[]) ∧ Acc w.heap.size B r w' ∧ FB w.heap.size B w w' := by
  have HP := Aside0.mk hp
  have HA0 := Aside0.mk h0
  have H' := Aside0.mk h
  have HT := Aside0.mk ht
  have HF := Aside0.mk hf
  clear hp h0 h ht hf
  go_enter Tryz.func17, Tryz.ntmps17
  go_wp2_with (first | ((with_reducible refine gate_dst (N := 10) rfl ?_); refine Kd.R_make Kd.bool w.heap.size 4 rfl (N := 10) rfl 58 _ _ rfl (p.length : Int) rfl rfl Tryz.underlying58 (.bool false) 1 info4 rfl (by decide) (by omega) false (ok := fun _ => True) (okp := fun _ => True) rfl (fun _ hk => hk) trivial (by omega) (by omega) (Below.refl _ _) (Nat.le_refl _) ?_; intro vh w1 hoh hbh hgh hnewh; rw [Int.toNat_natCast] at hoh; have HH := Aside0.mk hoh; have HB := Aside0.mk hbh; have HNEW := Aside0.mk hgh; clear hoh hbh hgh hnewh))
  have hlh : (List.replicate p.length false).length = p.length := List.length_replicate
  go_loopg [13] k (fun kq v13 wr => ∃ (i : Int) (hadl : List Bool) (acc : List (List Int)), v13 = .int .i64 i ∧ 0 ≤ i ∧ i ≤ 1000 ∧ (acc.length : Int) ≤ i ∧ Aside0 (cycOut kq p hadl i acc = some r) ∧ Aside0 (kq ≤ k) ∧ Aside0 (hadl.length = p.length) ∧ Aside0 (Kd.R Kd.bool 4 wr w.heap.size (fun _ => True) vh hadl) ∧ Aside0 (Acc w.heap.size B acc wr) ∧ Aside0 (FB w.heap.size B w wr))
  case atStart =>
    refine ⟨0, _, _, rfl, by omega, by omega, by simp, H', ⟨Nat.le_refl _⟩, ⟨hlh⟩, HH, ⟨?_⟩, ⟨FB.of_below HB.out⟩⟩
    exact HA0.out.below HB.out
  case round =>
    obtain ⟨i, hadl, acc, rfl, hi0, hi1, hacc, HA, HK, HL, HO, HC, HFB⟩ := hrel
    cases gk with
    | zero => exact absurd HA.out (by simp [cycOut])
    | succ k1 =>
      have H := HA.out
      clear HA
      simp only [cycOut] at H
      by_cases c1 : i < (p.length : Int)
      · rw [if_pos c1] at H
        obtain ⟨g1, cp1, e1, gb1, gl1, cl1, HG1⟩ := Kd.R_form HO.out (by have := HL.out; omega)
        subst e1
        have e2 := HL.out
        obtain ⟨hx1, hf1⟩ := Kd.R_celln false HO.out i hi0 (by omega)
        have hq1 : i < (hadl.length : Int) := by omega
        have E2 := Aside0.mk e2
        clear e2
        by_cases c2 : rdOf false hadl i = true
        · rw [if_pos c2] at H
          rw [c2] at hx1
          have H' := Aside0.mk H
          clear H c2
          go_wp2
          go_roundg k1
          case measure => omega
          case rel => exact ⟨i + 1, hadl, acc, rfl, by omega, by omega, by omega, H', ⟨by have := HK.out; omega⟩, HL, HO, HC, HFB⟩
        · rw [if_neg c2] at H
          have c2f : rdOf false hadl i = false := by simpa using c2
          rw [c2f] at hx1
          obtain ⟨⟨had', c'⟩, H1, H2⟩ := Option.bind_eq_some_iff.1 H
          have H1 := Aside0.mk H1
          have H2 := Aside0.mk H2
          clear H c2 c2f
          go_wp2_with fail
          obtain ⟨W0, rfl⟩ : ∃ W0 : World, W0 = wr := ⟨_, rfl⟩
          have hlo := Nat.le_trans (FB.refl w.heap.size B w).1 HFB.out.1
          have gH : g1 < W0.heap.size := blk_lt HG1
          go_loopg [6, 7] k1 (fun kq v6 v7 wq => ∃ (c : List Int) (x : Int) (hadq : List Bool), v7 = .int .i64 x ∧ Aside0 (cycIn kq p hadq c x = some (had', c')) ∧ Aside0 (kq ≤ k1) ∧ Aside0 (Kd.R Kd.bool 4 wq w.heap.size (fun _ => True) (.slice (some ⟨g1, 0, none⟩) hadl.length cp1) hadq) ∧ Aside0 (Kd.R (Kd.int .i64) 3 wq W0.heap.size (fun _ => True) v6 c) ∧ Aside0 (W0.grownBy wq (some g1)))
          case atStart => exact ⟨[], i, hadl, rfl, H1, ⟨Nat.le_refl _⟩, HO, ⟨Kd.R_nil _ _ _ _ _⟩, ⟨World.grownBy.refl _ _⟩⟩
          case round =>
            obtain ⟨c, x, hadq, rfl, HA, HKq, HOq, HCq, HKB⟩ := hrel
            cases gk with
            | zero => exact absurd HA.out (by simp [cycIn])
            | succ k2 =>
              have H := HA.out
              clear HA
              simp only [cycIn] at H
              by_cases c3 : 0 ≤ x
              · rw [if_pos c3] at H
                by_cases c4 : x < (p.length : Int)
                · rw [if_pos c4] at H
                  have hq3 : x < (hadl.length : Int) := by have := E2.out; omega
                  obtain ⟨hx3, hf3⟩ := Kd.R_celln false HOq.out x c3 hq3
                  by_cases c5 : rdOf false hadq x = true
                  · rw [if_pos c5] at H
                    rw [c5] at hx3
                    simp only [Option.some.injEq, Prod.mk.injEq] at H
                    obtain ⟨rfl, rfl⟩ := H
                    clear c5
                    have hacc2 := HC.out.keep HG1 HKB.out
                    have hfb0 := HFB.out.trans (kb_fb HKB.out hlo gb1)
                    have HA2 := Aside0.mk hacc2
                    have HF0 := Aside0.mk hfb0
                    clear hacc2 hfb0
                    go_wp2_with (((with_reducible refine gate_dst (N := 39) rfl ?_); refine goesC_ (some 39) rfl rfl HF.out hname hbody #[u6, .pointer (some ⟨B, 0, none⟩)] rfl rfl (by first | (simp [Act.eval]; done) | (simp [Act.eval]; rfl)) ((HT.out w.heap.size B acc c u6 wr HA2.out hB (by omega) (Kd.R_lower HCq.out hlo)).mono ?_); rintro e W2 ⟨rfl, ha3, hf3, hb3⟩; refine ⟨_, rfl, ?_⟩; have HA3 := Aside0.mk ha3; have HF3 := Aside0.mk (HF0.out.trans hf3); have HO3 := Aside0.mk (bools_keep HOq.out hb3); clear ha3 hf3 hb3))
                    go_roundg k1
                    case measure => omega
                    case rel => exact ⟨i + 1, hadq, acc ++ [c], rfl, by omega, by omega, by simp only [List.length_append, List.length_cons, List.length_nil]; omega, H2, ⟨by have := HK.out; omega⟩, ⟨by have h1 := (Kd.R_reads' HOq.out).1; have h2 := E2.out; omega⟩, HO3, HA3, HF3⟩
                  · rw [if_neg c5] at H
                    have c5f : rdOf false hadq x = false := by simpa using c5
                    rw [c5f] at hx3
                    by_cases c6 : 100000 ≤ c.length
                    · rw [if_pos c6] at H
                      exact absurd H (by simp)
                    · rw [if_neg c6] at H
                      have H' := Aside0.mk H
                      have HPT := Aside0.mk (Kd.R_putg HOq.out x true)
                      have hFq : FB w.heap.size B w wr := HFB.out.trans (kb_fb HKB.out hlo gb1)
                      clear H c5 c5f
                      go_wp2_with (first
                        | ((with_reducible refine gate_store (t := 4) (p := 32) rfl ?_); refine store_event (t := 4) (p := 32) (v := ?vo) (w1 := (wr.setCell ⟨g1, x.toNat, none⟩ (.bool true))) ?hg ?ho ?hn ?hr ?_; (case ho => rfl); (case hg => rfl); (case hn => rfl); (case hr => first | (go_simp; done) | (go_simp; rfl)); intro w32 hw; have hg : wr.grownBy w32 (some g1) := (by rw [hw]; exact HPT.out.2); have ho2 : Kd.R Kd.bool 4 w32 w.heap.size (fun _ => True) (.slice (some ⟨g1, 0, none⟩) hadl.length cp1) (hadq.set x.toNat true) := (by rw [hw]; exact HPT.out.1); have hkb := keep_put HKB.out hg; have hc2 := row_put HCq.out hg gH; have HO2 := Aside0.mk ho2; have HKB2 := Aside0.mk hkb; have HC2 := Aside0.mk hc2; clear hw hg ho2 hkb hc2 HPT HOq HKB HCq hx3 hf3)
                        | ((with_reducible refine gate_dst (N := 36) rfl ?_); at_builtin; refine Kd.R_append (Kd.int .i64) (w0 := w32) W0.heap.size rfl (.tmp 33) (.tmp 35) 22 3 (.int .i64 0) 8 rfl Tryz.underlying22 OW.info3 rfl (by decide) (by omega) u6 c x [.int .i64 x] (fun _ => True) (fun _ => False) rfl rfl ?aP (fun _ hk => hk.elim) (fun _ _ => trivial) HC2.out (Below.refl _ _) HKB2.out.size ?aL ?_; (case aP => exact rfl); (case aL => omega); intro v1 w33 ho1 hb1 hg1 hat1; have hkb3 := keep_own HKB2.out HC2.out hg1; have hob3 := Kd.R_over HO2.out HC2.out (by decide) hg1; obtain ⟨ad, ea, hxp⟩ := Kd.at_int (HP.out w33 (HFB.out.trans (kb_fb hkb3 hlo gb1))) x c3 c4; subst ea; have HC3 := Aside0.mk ho1; have HKB3 := Aside0.mk hkb3; have HO3 := Aside0.mk hob3; clear ho1 hb1 hg1 hat1 hkb3 hob3 HC2 HKB2 HO2))
                      go_roundg k2
                      case measure => omega
                      case rel => exact ⟨c ++ [x], rd p x, hadq.set x.toNat true, rfl, H', ⟨by have := HKq.out; omega⟩, HO3, HC3, HKB3⟩
                · rw [if_neg c4] at H
                  exact absurd H (by simp)
              · rw [if_neg c3] at H
                exact absurd H (by simp)
      · rw [if_neg c1] at H
        simp only [Option.some.injEq] at H
        subst H
        go_wp2
        go_end0
        exact ⟨rfl, HC.out, HFB.out⟩
end Go.Proofs.YtkplhpnhjfdelaaGreatDoor.CY
namespace Go.Proofs.YtkplhpnhjfdelaaGreatDoor.CK
open Go.RowKit Go.Proofs.YtkplhpnhjfdelaaGreatDoorW.PrintWords Go.Proofs.YtkplhpnhjfdelaaGreatDoorW.PrintLast Go.Proofs.YtkplhpnhjfdelaaGreatDoorW.PrintMore Go.Proofs.YtkplhpnhjfdelaaGreatDoor.CL Go.Proofs.YtkplhpnhjfdelaaGreatDoor.CY Go.Proofs.YtkplhpnhjfdelaaGreatDoor.PPermCycles
set_option linter.unusedVariables false
set_option linter.unusedSimpArgs false
def put (o : List Int) (z : Int × Int) : List Int := o.set z.1.toNat z.2
def step (o : List Int) (z : List Int × List Int) : List Int := (z.1.zip z.2).foldl put o
/-- Where each point of one list goes: to the point at the same place of the other. -/
def outF (n : Nat) (a b : List (List Int)) : List Int := (a.zip b).foldl step (List.replicate n 0)
/-- What Conj answers of two permutations whose cycles are a and b. -/
def ConjPost (w : World) (n : Nat) (a b : List (List Int)) (e : Ending) (w' : World) : Prop :=
  Below w.heap.size w w' ∧ ∃ a' b' : List (List Int), a'.Perm a ∧ b'.Perm b ∧ a'.Pairwise (fun x y => y.length ≤ x.length) ∧ b'.Pairwise (fun x y => y.length ≤ x.length) ∧
    ((a'.map List.length = b'.map List.length ∧ ∃ v, e = .returned (.tuple #[v, .agg #[.int .i64 0, .int .i64 0]]) ∧ Kd.R (Kd.int .i64) 3 w' w.heap.size (fun _ => True) v (outF n a' b')) ∨
     (a'.map List.length ≠ b'.map List.length ∧ e = .returned (.tuple #[.slice none 0 0, .agg #[.int .i64 6, .int .i64 0]])))
theorem row_at {W : World} {A : Option Addr} {n : Nat} {xs : List (List Int)} (h : Kd.C (Kd.slice 3 (Kd.int .i64)) W A n xs) {j : Nat} {x : List Int} (hj : xs[j]? = some x) : ∃ ad Aj cj, A = some ad ∧ W.cell? (ad.add j) = some (.slice Aj x.length cj) ∧ Kd.C (Kd.int .i64) W Aj x.length x := by
  have hlt : j < n := by have := (List.getElem?_eq_some_iff.1 hj).1; have := h.1; omega
  obtain ⟨ad, e, hc⟩ := h.2.2 (by omega)
  obtain ⟨c, hcs, ⟨Aj, cj, rfl, _, hr⟩, hcell⟩ := hc j x hj
  refine ⟨ad, Aj, cj, e, ?_, hr⟩
  have := hcell 0 _ rfl
  simpa [Kd.slice] using this
theorem int_at {W : World} {A : Option Addr} {n : Nat} {xs : List Int} (h : Kd.C (Kd.int .i64) W A n xs) {j : Nat} {x : Int} (hj : xs[j]? = some x) : ∃ ad, A = some ad ∧ W.cell? (ad.add j) = some (.int .i64 x) := by
  have hlt : j < n := by have := (List.getElem?_eq_some_iff.1 hj).1; have := h.1; omega
  obtain ⟨ad, e, hc⟩ := Kd.at_int h (j : Int) (by omega) (by omega)
  refine ⟨ad, e, ?_⟩
  rw [Int.toNat_natCast] at hc
  rw [hc]
  unfold rd
  rw [Int.toNat_natCast, List.getD_eq_getElem?_getD, hj]
  rfl
theorem put_length (o : List Int) (z : Int × Int) : (put o z).length = o.length := by simp [put]
theorem fold_put_length (l : List (Int × Int)) : ∀ o : List Int, (l.foldl put o).length = o.length := by
  induction l with
  | nil => intro o; rfl
  | cons z l ih => intro o; rw [List.foldl_cons, ih, put_length]
theorem step_length (o : List Int) (z : List Int × List Int) : (step o z).length = o.length := fold_put_length _ _
theorem fold_step_length (l : List (List Int × List Int)) : ∀ o : List Int, (l.foldl step o).length = o.length := by
  induction l with
  | nil => intro o; rfl
  | cons z l ih => intro o; rw [List.foldl_cons, ih, step_length]
theorem fold_take {α β : Type} (f : β → α → β) (l : List α) (j : Nat) (z : α) (o : β) (h : l[j]? = some z) : (l.take (j + 1)).foldl f o = f ((l.take j).foldl f o) z := by
  rw [List.take_add_one, h, List.foldl_append]
  rfl
theorem R_fb {α : Type} {d : Kd α} {e lo lo' B' : Nat} {W W' : World} {v : Value} {xs : List α} {ok : Nat → Prop} (h : d.R e W lo ok v xs) (hf : FB lo' B' W W') (hs : W.heap.size ≤ lo') (hl : B' < lo) : d.R e W' lo (fun k => k < W.heap.size) v xs :=
  Kd.R_mono (Kd.R_move (R_lo h) (fun k hk => hf.2.1 k (by have := hk.2.1; omega) (by have := hk.1; omega))) (fun k hk => hk.2.1)
theorem R_gr {α : Type} {d : Kd α} {e lo : Nat} {W W' : World} {v : Value} {xs : List α} {ok : Nat → Prop} {row : Option Nat} (h : d.R e W lo ok v xs) (hg : W.grownBy W' row) (hr : ∀ k, lo ≤ k → ok k → k < W.heap.size → row ≠ some k) : d.R e W' lo ok v xs :=
  Kd.R_mono (Kd.R_move (Kd.R_bound h) (fun k hk => hg.block k hk.2.2.1 (fun he => hr k hk.2.1 hk.1 hk.2.2.1 he.symm))) (fun k hk => hk.1)
theorem R_set {α : Type} {d : Kd α} {e lo : Nat} {W : World} {v : Value} {xs : List α} {ok : Nat → Prop} (h : d.R e W lo ok v xs) {g : Nat} (hg : g < lo) (i : Nat) (u : Value) : d.R e (W.setCell ⟨g, i, none⟩ u) lo ok v xs :=
  Kd.R_mono (Kd.R_move (Kd.R_bound h) (fun k hk => Below.heap_setCell W ⟨g, i, none⟩ u k (by have := hk.2.1; simp; omega))) (fun k hk => hk.1)
theorem box_facts (w1 : World) (F : Obj) (t : TypeId) : ∃ W2 : World, W2 = ((w1.alloc F).alloc (.cells #[.slice none 0 0] t)).alloc (.cells #[.slice none 0 0] t) ∧ W2.heap.size = w1.heap.size + 3 ∧
    W2.heap[w1.heap.size + 1]? = some (.cells #[.slice none 0 0] t (0, 0)) ∧ W2.heap[w1.heap.size + 1 + 1]? = some (.cells #[.slice none 0 0] t (0, 0)) ∧ Below w1.heap.size w1 W2 := by
  refine ⟨_, rfl, by simp, ?_, ?_, (((Below.refl _ _).alloc (Nat.le_refl _) _).alloc (by simp) _).alloc (by simp; omega) _⟩
  · refine blk_alloc ?_ _
    simpa using heap_alloc_new (w1.alloc F) (.cells #[.slice none 0 0] t)
  · simpa using heap_alloc_new ((w1.alloc F).alloc (.cells #[.slice none 0 0] t)) (.cells #[.slice none 0 0] t)
end Go.Proofs.YtkplhpnhjfdelaaGreatDoor.CK
namespace Go.Proofs.YtkplhpnhjfdelaaGreatDoor.NF
open Go.RowKit Go.Proofs.YtkplhpnhjfdelaaGreatDoorW.PrintWords Go.Proofs.YtkplhpnhjfdelaaGreatDoorW.PrintLast Go.Proofs.YtkplhpnhjfdelaaGreatDoorW.PrintMore
set_option linter.unusedVariables false
set_option linter.unusedSimpArgs false
theorem eq_int (d : Nat) (a b : Int) (w : World) : (Op.equalIn (d + 1) 3 (.int .i64 a) (.int .i64 b)).run Tryz.prog w = .ok (a == b) w := by
  simp [Op.equalIn, run_underlying Tryz.underlying3]
theorem eq_fault (d : Nat) (a b a' b' : Int) (w : World) : (Op.equalIn (d + 1 + 1) 26 (.agg #[.int .i64 a, .int .i64 b]) (.agg #[.int .i64 a', .int .i64 b'])).run Tryz.prog w = .ok ((a == a') && (b == b')) w := by
  refine eqA_of Tryz.underlying26 (by kernel_rfl) ?_
  exact eqf_cons (by rfl) (by kernel_rfl) (by kernel_rfl) (eq_int d a a' w) (eqf_last (by rfl) (by kernel_rfl) (by kernel_rfl) (eq_int d b b' w))
theorem neq_fault (a b : Int) (w : World) : (binOp .neq 26 (.agg #[.int .i64 a, .int .i64 b]) (.agg #[.int .i64 a, .int .i64 b])).run Tryz.prog w = .ok (.bool false) w := by
  have h : ∀ d, d = 10000 → (Op.equalIn d 26 (.agg #[.int .i64 a, .int .i64 b]) (.agg #[.int .i64 a, .int .i64 b])).run Tryz.prog w = .ok true w := by
    intro d hd
    obtain ⟨e, rfl⟩ : ∃ e, d = e + 1 + 1 := ⟨d - 2, by omega⟩
    rw [eq_fault]; simp
  simp only [binOp]
  simp [Op.equal, Op.maxDepth, h]
end Go.Proofs.YtkplhpnhjfdelaaGreatDoor.NF
namespace Go.Proofs.YtkplhpnhjfdelaaGreatDoor.SR
open Go.RowKit Go.Sort Go.Proofs.YtkplhpnhjfdelaaGreatDoorW.PrintWords Go.Proofs.YtkplhpnhjfdelaaGreatDoorW.PrintLast Go.Proofs.YtkplhpnhjfdelaaGreatDoorW.PrintMore
set_option linter.unusedVariables false
set_option linter.unusedSimpArgs false
theorem R_of_row {w : World} {base e g cap : Nat} {ok : Nat → Prop} {ys : List Int} {cur : Array Value} (hok : ok g) (hb : base ≤ g) (hh : w.heap[g]? = some (.cells cur e (0, 0))) (hn : ys.length ≤ cap) (hm : cap ≤ maxLen) (hs : cur.size = cap)
    (hv : ∀ (j : Nat) (x : Int), ys[j]? = some x → cur[j]? = some (Value.int .i64 x)) : Kd.R (Kd.int .i64) e w base ok (.slice (some ⟨g, 0, none⟩) ys.length cap) ys := by
  refine ⟨fun k hk => ?_, ys.map (Value.int .i64), ⟨by simp [Kd.int, Kd.scalar], .inr ⟨g, cap, cur, rfl, hb, hh, hn, hm, by simp [Kd.int, Kd.scalar, hs], ?_⟩⟩, ?_⟩
  · have : g = k := by simpa [Value.ownBlock] using hk
    subst this; exact hok
  · show cur.toList.take (ys.length * 1) = _
    refine List.ext_getElem? (fun j => ?_)
    rw [Nat.mul_one, List.getElem?_take, List.getElem?_map, Array.getElem?_toList]
    by_cases hj : j < ys.length
    · rw [if_pos hj, hv j _ (List.getElem?_eq_getElem hj), List.getElem?_eq_getElem hj]; rfl
    · rw [if_neg hj, List.getElem?_eq_none (by omega)]; rfl
  · refine ⟨by simp [Kd.int, Kd.scalar], fun j p hj => ?_⟩
    show _ = [Value.int .i64 p]
    have hjl : j < ys.length := (List.getElem?_eq_some_iff.1 hj).1
    simp only [Kd.int, Kd.scalar, Nat.mul_one]
    refine List.ext_getElem? (fun i => ?_)
    rw [List.getElem?_take, List.getElem?_drop, List.getElem?_map]
    cases i with
    | zero => rw [if_pos (by omega), Nat.add_zero, hj]; rfl
    | succ i => rw [if_neg (by omega)]; rfl
theorem row_of_R {w : World} {base e : Nat} {ok : Nat → Prop} {xs : List Int} {v : Value} (h : Kd.R (Kd.int .i64) e w base ok v xs) (hp : 0 < xs.length) : ∃ g cap cur, v = .slice (some ⟨g, 0, none⟩) xs.length cap ∧ ok g ∧ base ≤ g ∧ w.heap[g]? = some (.cells cur e (0, 0)) ∧ xs.length ≤ cap ∧ cap ≤ maxLen ∧ cur.size = cap ∧ Holds (Value.int .i64) w g 0 xs.toArray := by
  have h1 := h
  obtain ⟨h0, inner, ⟨_, ho⟩, _⟩ := h
  rcases ho with ⟨_, ho⟩ | ⟨g, cap, cur, rfl, hb, hh, hn, hm, hs, _⟩
  · omega
  · refine ⟨g, cap, cur, rfl, h0 g (by simp [Value.ownBlock]), hb, hh, hn, hm, by simpa [Kd.int, Kd.scalar] using hs, fun j hj => ?_⟩
    have hj' : j < xs.length := by simpa using hj
    obtain ⟨c1, c2⟩ := Kd.R_celln 0 h1 (j : Int) (by omega) (by omega)
    rw [Int.toNat_natCast] at c1 c2
    rw [Nat.zero_add]
    refine ⟨c1.trans ?_, c2⟩
    unfold rdOf
    rw [Int.toNat_natCast, List.getD_eq_getElem?_getD, List.getElem?_eq_getElem hj']
    simp [hj']
/-- The row in another order: still the call's own; no other block is turned. -/
theorem R_turned {w : World} {base e g cap : Nat} {ok : Nat → Prop} {xs ys : List Int} {cur : Array Value} (hok : ok g) (hb : base ≤ g) (hh : w.heap[g]? = some (.cells cur e (0, 0))) (hn : xs.length ≤ cap) (hm : cap ≤ maxLen) (hs : cur.size = cap) (hl : ys.length = xs.length)
    (n : Nat) (os : Array Obj) : Kd.R (Kd.int .i64) e (grow (putRow (Value.int .i64) (Sort.ahead w n) g 0 ys.toArray) os) base ok (.slice (some ⟨g, 0, none⟩) xs.length cap) ys ∧ w.grownBy (grow (putRow (Value.int .i64) (Sort.ahead w n) g 0 ys.toArray) os) (some g) := by
  have hg : g < w.heap.size := (Array.getElem?_eq_some_iff.1 hh).1
  have hh' : (grow (putRow (Value.int .i64) (Sort.ahead w n) g 0 ys.toArray) os).heap[g]? = some (.cells (putCells (Value.int .i64) 0 ys.toArray cur) e (0, 0)) := by
    rw [heap_grow_old _ _ (by simp [hg])]
    show (w.heap.modify g (onCells (putCells (Value.int .i64) 0 ys.toArray)))[g]? = _
    rw [Array.getElem?_modify, if_pos rfl, hh]; rfl
  refine ⟨?_, ?_⟩
  · rw [← hl]
    refine R_of_row hok hb hh' (by omega) hm (by simp [putCells, hs]) (fun j x hj => ?_)
    have hjl : j < ys.length := (List.getElem?_eq_some_iff.1 hj).1
    have hc : j < cur.size := by omega
    simp only [putCells, Array.getElem?_mapIdx, Array.getElem?_eq_getElem hc, Option.map_some]
    rw [if_pos ⟨Nat.zero_le _, by simpa using hjl⟩]
    obtain ⟨_, hj2⟩ := List.getElem?_eq_some_iff.1 hj
    simp [hjl, hj2]
  · refine ⟨rfl, rfl, rfl, by simp, fun k hk hne => ?_⟩
    rw [heap_grow_old _ _ (by simpa using hk)]
    show (w.heap.modify g (onCells (putCells (Value.int .i64) 0 ys.toArray)))[k]? = _
    rw [Array.getElem?_modify, if_neg (by simpa using fun h => hne (by rw [h]))]
end Go.Proofs.YtkplhpnhjfdelaaGreatDoor.SR
