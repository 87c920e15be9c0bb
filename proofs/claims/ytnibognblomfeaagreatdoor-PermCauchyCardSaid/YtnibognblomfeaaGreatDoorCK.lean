/- perm.Conj of two permutations. -/
import Derived.Test.YtnibognblomfeaaGreatDoorGA
namespace Go.Proofs.YtnibognblomfeaaGreatDoor.CK
open Go.Proofs.YtnibognblomfeaaGreatDoor.CJ Go.RowKit Go.Proofs.YtnibognblomfeaaGreatDoorW.PrintWords Go.Proofs.YtnibognblomfeaaGreatDoorW.PrintLast Go.Proofs.YtnibognblomfeaaGreatDoorW.PrintMore Go.Proofs.YtnibognblomfeaaGreatDoor.CL Go.Proofs.YtnibognblomfeaaGreatDoor.CY Go.Proofs.YtnibognblomfeaaGreatDoor.PPermCauchy
set_option linter.unusedVariables false
set_option linter.unusedSimpArgs false
/-- What slices.SortStableFunc does to a list of lists: the longest first. -/
def Sorts : Prop := ∀ (lo : Nat) (ok : Nat → Prop) (l : List (List Int)) (v : Value) (W : World), l.length ≤ 1000 → lo ≤ W.heap.size → Kd.R (Kd.slice 3 (Kd.int .i64)) 22 W lo ok v l →
  Calls Tryz.prog 18 #[v, .func (.func 17) #[] #[]] W fun e W' => e = .returned (.tuple #[]) ∧ ∃ l' : List (List Int), l'.Perm l ∧ l'.Pairwise (fun x y => y.length ≤ x.length) ∧ Kd.R (Kd.slice 3 (Kd.int .i64)) 22 W' lo ok v l' ∧ W.grownBy W' v.ownBlock
def put (o : List Int) (z : Int × Int) : List Int := o.set z.1.toNat z.2
def step (o : List Int) (z : List Int × List Int) : List Int := (z.1.zip z.2).foldl put o
/-- Where each point of one list goes: to the point at the same place of the other. -/
def outF (n : Nat) (a b : List (List Int)) : List Int := (a.zip b).foldl step (List.replicate n 0)
/-- What Conj answers of two permutations whose cycles are a and b. -/
def ConjPost (w : World) (n : Nat) (a b : List (List Int)) (e : Ending) (w' : World) : Prop :=
  Below w.heap.size w w' ∧ ∃ a' b' : List (List Int), a'.Perm a ∧ b'.Perm b ∧ a'.Pairwise (fun x y => y.length ≤ x.length) ∧ b'.Pairwise (fun x y => y.length ≤ x.length) ∧
    ((a'.map List.length = b'.map List.length ∧ ∃ v, e = .returned (.tuple #[v, .agg #[.int .i64 0, .int .i64 0]]) ∧ Kd.R (Kd.int .i64) 3 w' w.heap.size (fun _ => True) v (outF n a' b')) ∨
     (a'.map List.length ≠ b'.map List.length ∧ e = .returned (.tuple #[.slice none 0 0, .agg #[.int .i64 6, .int .i64 0]])))
theorem row_at {W : World} {A : Option Addr} {n : Nat} {xs : List (List Int)} (h : Kd.C (Kd.slice 3 (Kd.int .i64)) W A n xs) {j : Nat} {x : List Int} (hj : xs[j]? = some x) : ∃ ad Aj cj, A = some ad ∧ W.cell? (ad.add j) = some (.slice Aj x.length cj) ∧ Kd.C (Kd.int .i64) W Aj x.length x := by
  have hlt : j < n := by have := (List.getElem?_eq_some_iff.1 hj).1; have := h.1; omega
  obtain ⟨ad, e, hc⟩ := h.2.2 (by omega)
  obtain ⟨c, hcs, ⟨Aj, cj, rfl, _, hr⟩, hcell⟩ := hc j x hj
  refine ⟨ad, Aj, cj, e, ?_, hr⟩
  have := hcell 0 _ rfl
  simpa [Kd.slice] using this
theorem int_at {W : World} {A : Option Addr} {n : Nat} {xs : List Int} (h : Kd.C (Kd.int .i64) W A n xs) {j : Nat} {x : Int} (hj : xs[j]? = some x) : ∃ ad, A = some ad ∧ W.cell? (ad.add j) = some (.int .i64 x) := by
  have hlt : j < n := by have := (List.getElem?_eq_some_iff.1 hj).1; have := h.1; omega
  obtain ⟨ad, e, hc⟩ := Kd.at_int h (j : Int) (by omega) (by omega)
  refine ⟨ad, e, ?_⟩
  rw [Int.toNat_natCast] at hc
  rw [hc]
  unfold rd
  rw [Int.toNat_natCast, List.getD_eq_getElem?_getD, hj]
  rfl
theorem put_length (o : List Int) (z : Int × Int) : (put o z).length = o.length := by simp [put]
theorem fold_put_length (l : List (Int × Int)) : ∀ o : List Int, (l.foldl put o).length = o.length := by
  induction l with
  | nil => intro o; rfl
  | cons z l ih => intro o; rw [List.foldl_cons, ih, put_length]
theorem step_length (o : List Int) (z : List Int × List Int) : (step o z).length = o.length := fold_put_length _ _
theorem fold_step_length (l : List (List Int × List Int)) : ∀ o : List Int, (l.foldl step o).length = o.length := by
  induction l with
  | nil => intro o; rfl
  | cons z l ih => intro o; rw [List.foldl_cons, ih, step_length]
theorem fold_take {α β : Type} (f : β → α → β) (l : List α) (j : Nat) (z : α) (o : β) (h : l[j]? = some z) : (l.take (j + 1)).foldl f o = f ((l.take j).foldl f o) z := by
  rw [List.take_add_one, h, List.foldl_append]
  rfl
theorem R_fb {α : Type} {d : Kd α} {e lo lo' B' : Nat} {W W' : World} {v : Value} {xs : List α} {ok : Nat → Prop} (h : d.R e W lo ok v xs) (hf : FB lo' B' W W') (hs : W.heap.size ≤ lo') (hl : B' < lo) : d.R e W' lo (fun k => k < W.heap.size) v xs :=
  Kd.R_mono (Kd.R_move (R_lo h) (fun k hk => hf.2.1 k (by have := hk.2.1; omega) (by have := hk.1; omega))) (fun k hk => hk.2.1)
theorem R_gr {α : Type} {d : Kd α} {e lo : Nat} {W W' : World} {v : Value} {xs : List α} {ok : Nat → Prop} {row : Option Nat} (h : d.R e W lo ok v xs) (hg : W.grownBy W' row) (hr : ∀ k, lo ≤ k → ok k → k < W.heap.size → row ≠ some k) : d.R e W' lo ok v xs :=
  Kd.R_mono (Kd.R_move (Kd.R_bound h) (fun k hk => hg.block k hk.2.2.1 (fun he => hr k hk.2.1 hk.1 hk.2.2.1 he.symm))) (fun k hk => hk.1)
theorem R_set {α : Type} {d : Kd α} {e lo : Nat} {W : World} {v : Value} {xs : List α} {ok : Nat → Prop} (h : d.R e W lo ok v xs) {g : Nat} (hg : g < lo) (i : Nat) (u : Value) : d.R e (W.setCell ⟨g, i, none⟩ u) lo ok v xs :=
  Kd.R_mono (Kd.R_move (Kd.R_bound h) (fun k hk => Below.heap_setCell W ⟨g, i, none⟩ u k (by have := hk.2.1; simp; omega))) (fun k hk => hk.1)
theorem box_facts (w1 : World) (F : Obj) (t : TypeId) : ∃ W2 : World, W2 = ((w1.alloc F).alloc (.cells #[.slice none 0 0] t)).alloc (.cells #[.slice none 0 0] t) ∧ W2.heap.size = w1.heap.size + 3 ∧
    W2.heap[w1.heap.size + 1]? = some (.cells #[.slice none 0 0] t (0, 0)) ∧ W2.heap[w1.heap.size + 1 + 1]? = some (.cells #[.slice none 0 0] t (0, 0)) ∧ Below w1.heap.size w1 W2 := by
  refine ⟨_, rfl, by simp, ?_, ?_, (((Below.refl _ _).alloc (Nat.le_refl _) _).alloc (by simp) _).alloc (by simp; omega) _⟩
  · refine blk_alloc ?_ _
    simpa using heap_alloc_new (w1.alloc F) (.cells #[.slice none 0 0] t)
  · simpa using heap_alloc_new ((w1.alloc F).alloc (.cells #[.slice none 0 0] t)) (.cells #[.slice none 0 0] t)
set_option maxHeartbeats 4000000 in
set_option maxRecDepth 100000 in
theorem conj_ok (k : Nat) (A A' : Option Addr) (c c' : Nat) (p q : List Int) (a b : List (List Int)) (w : World) (hp : Kd.C (Kd.int .i64) w A p.length p) (hc : p.length ≤ c) (hq : Kd.C (Kd.int .i64) w A' q.length q) (hc' : q.length ≤ c')
    (hf : perm_all.f k [p, q] = some (0, 0)) (hn : p.length ≤ 1000) (hm : q.length ≤ 1000) (ha : cycOut k p (List.replicate p.length false) 0 [] = some a) (hb : cycOut k q (List.replicate q.length false) 0 [] = some b) (hs : Sorts) (hal : a.length ≤ 1000) (hbl : b.length ≤ 1000) (hrange : ∀ l ∈ a, ∀ x ∈ l, 0 ≤ x ∧ x < (p.length : Int)) :
    Calls Tryz.prog 4 #[.slice A p.length c, .slice A' q.length c'] w (ConjPost w p.length a b) := by
  go_enter Tryz.func4, Tryz.ntmps4
  go_wp2_with fail
  refine (perm_all.calls k _ _ [p, q] 0 0 _ ?cC (Nat.le_refl 2) hf).mono ?_
  case cC =>
    have hb : Below w.heap.size w ((w.alloc (Obj.cells #[Value.int IntKind.i64 0, Value.int IntKind.i64 0] 24)).alloc (Obj.cells #[Value.slice A p.length c, Value.slice A' q.length c'] 22)) := ((Below.refl _ _).alloc (Nat.le_refl _) _).alloc (by simp) _
    exact C_two (Kd.C_below hp hb) hc (Kd.C_below hq hb) hc' 22 (by simpa using heap_alloc_new (w.alloc (Obj.cells #[Value.int IntKind.i64 0, Value.int IntKind.i64 0] 24)) (Obj.cells #[Value.slice A p.length c, Value.slice A' q.length c'] 22))
  rintro e w1 ⟨rfl, hb1⟩
  have hr5 : w1.heap[w.heap.size]? = some (.cells #[.int .i64 0, .int .i64 0] 24 (0, 0)) := by
    rw [hb1.block w.heap.size (by simp; omega)]
    exact (Below.heap_alloc _ _ _ (by simp)).trans (heap_alloc_new w _)
  have hsz : w.heap.size + 2 ≤ w1.heap.size := by have := hb1.size; simpa using this
  have hbel : Below w.heap.size w w1 := (((Below.refl _ _).alloc (Nat.le_refl _) _).alloc (by simp) _).trans (hb1.mono (by simp; omega))
  have HB := Aside0.mk hbel
  have HR5 := Aside0.mk hr5
  have HSZ := Aside0.mk hsz
  have HP := Aside0.mk hp
  have HQ := Aside0.mk hq
  have HA := Aside0.mk ha
  have HBB := Aside0.mk hb
  have HS := Aside0.mk hs
  have HRG := Aside0.mk hrange
  clear hb1 hp hq hf hbel hr5 hsz ha hb hs hrange
  go_wp2_with fail
  obtain ⟨W2, hW2, hsz2, hbA, hbB, hbl2⟩ := box_facts w1 (Obj.cells #[Value.int IntKind.i64 0, Value.int IntKind.i64 0] 24) 35
  rw [← hW2]
  clear hW2
  generalize hB2 : w1.heap.size + 1 + 1 = B2 at hbB ⊢
  generalize hB1 : w1.heap.size + 1 = B1 at hbA ⊢
  have hlt1 : B1 < W2.heap.size := blk_lt hbA
  have hlt2 : B2 < W2.heap.size := blk_lt hbB
  have hne12 : B2 ≠ B1 := by omega
  have hge1 : w.heap.size + 3 ≤ B1 := by have := HSZ.out; omega
  have hge2 : w.heap.size + 3 ≤ B2 := by omega
  have hbw : Below w.heap.size w W2 := HB.out.trans (hbl2.mono (by have := HSZ.out; omega))
  have HR5b := Aside0.mk (blk_below HR5.out hbl2)
  clear HR5 HB HSZ hB1 hB2 hsz2 hbl2
  have fbw : ∀ (lo B : Nat) (W W' : World), Below w.heap.size w W → FB lo B W W' → w.heap.size ≤ lo → w.heap.size ≤ B → Below w.heap.size w W' := fun lo B W W' h1 h2 h3 h4 => h1.trans (h2.below h3 h4)
  have hwW2 : w.heap.size ≤ W2.heap.size := by omega
  refine (cycles_calls k 15 _ Tryz.func15 (by kernel_rfl) rfl takes1 B1 A c p a W2 hn hlt1 ⟨hlt1, Nat.le_refl _, _, hbA, Kd.R_nil _ _ _ _ _⟩ (fun W' hf => Kd.C_below HP.out (fbw _ _ _ _ hbw hf hwW2 (by omega))) HA.out).mono ?_
  rintro e W3 ⟨rfl, ha3, hf3⟩
  have hsz3 : W2.heap.size ≤ W3.heap.size := hf3.1
  have hbw3 := fbw _ _ _ _ hbw hf3 hwW2 (by omega)
  have hbB3 : W3.heap[B2]? = some (.cells #[.slice none 0 0] 35 (0, 0)) := (hf3.2.1 B2 hlt2 hne12).trans hbB
  have hR53 : W3.heap[w.heap.size]? = some (.cells #[.int .i64 0, .int .i64 0] 24 (0, 0)) := (hf3.2.1 _ (by omega) (by omega)).trans HR5b.out
  have HA3 := Aside0.mk ha3
  have HR3 := Aside0.mk hR53
  clear ha3 hf3 HR5b hbA hbB hR53 HA
  go_wp2_with fail
  refine (cycles_calls k 16 _ Tryz.func16 (by kernel_rfl) rfl takes2 B2 A' c' q b W3 hm (by omega) ⟨by omega, Nat.le_refl _, _, hbB3, Kd.R_nil _ _ _ _ _⟩ (fun W' hf => Kd.C_below HQ.out (fbw _ _ _ _ hbw3 hf (by omega) (by omega))) HBB.out).mono ?_
  rintro e W4 ⟨rfl, hb4, hf4⟩
  have hsz4 : W3.heap.size ≤ W4.heap.size := hf4.1
  have hbw4 := fbw _ _ _ _ hbw3 hf4 (by omega) (by omega)
  obtain ⟨hB1s, hlo1, va, hva3, hra3⟩ := HA3.out
  have HR4 := Aside0.mk ((hf4.2.1 _ (by omega) (by omega)).trans HR3.out)
  have hva : W4.heap[B1]? = some (.cells #[va] 35 (0, 0)) := (hf4.2.1 _ (by omega) (by omega)).trans hva3
  have hra := R_fb hra3 hf4 (Nat.le_refl _) (by omega)
  clear hf4 HR3 HA3 hbB3 HBB hva3 hra3
  obtain ⟨hB2s, hlo2, vb, hvb, hrb⟩ := hb4
  have hca : W4.cell? ⟨B1, 0, none⟩ = some va := (blk_cell hva 0).trans rfl
  have hcb : W4.cell? ⟨B2, 0, none⟩ = some vb := (blk_cell hvb 0).trans rfl
  have HVA := Aside0.mk hva
  have HVB := Aside0.mk hvb
  have HRA := Aside0.mk hra
  have HRB := Aside0.mk hrb
  clear hva hvb hra hrb
  go_wp2_with fail
  refine (HS.out W2.heap.size _ a va W4 hal (by omega) HRA.out).mono ?_
  rintro e W5 ⟨rfl, a', hpa, hda, hra5, hg5⟩
  have hsz5 : W4.heap.size ≤ W5.heap.size := hg5.size
  have hown : ∀ k, va.ownBlock = some k → W2.heap.size ≤ k ∧ k < W3.heap.size := fun k hk => ⟨(own_facts HRA.out hk).1, HRA.out.1 k hk⟩
  have hst : ∀ k, k < W2.heap.size → W5.heap[k]? = W4.heap[k]? := fun k hk => hg5.block k (by omega) (fun he => by have := hown k he.symm; omega)
  have hrb5 := R_gr HRB.out hg5 (fun k h1 _ _ he => by have := hown k he; omega)
  have hbw5 : Below w.heap.size w W5 := hbw4.trans ⟨hg5.os, hg5.tape, hg5.output, hg5.size, fun k hk => hst k (by omega)⟩
  have HVB5 := Aside0.mk ((hst B2 (by omega)).trans HVB.out)
  have HVA5 := Aside0.mk ((hst B1 (by omega)).trans HVA.out)
  have HR5 := Aside0.mk ((hst _ (by omega)).trans HR4.out)
  have hcb5 : W5.cell? ⟨B2, 0, none⟩ = some vb := (blk_cell HVB5.out 0).trans rfl
  have HRA5 := Aside0.mk hra5
  have HRB5 := Aside0.mk hrb5
  have HPA := Aside0.mk hpa
  have HDA := Aside0.mk hda
  have HOWN := Aside0.mk hown
  clear HVA HVB HR4 HRA HRB hra5 hrb5 hpa hda hst hg5 hca hcb hown
  go_wp2_with fail
  refine (HS.out W3.heap.size _ b vb W5 hbl (by omega) HRB5.out).mono ?_
  rintro e W6 ⟨rfl, b', hpb, hdb, hrb6, hg6⟩
  have hsz6 : W5.heap.size ≤ W6.heap.size := hg6.size
  have hownb : ∀ k, vb.ownBlock = some k → W3.heap.size ≤ k := fun k hk => (own_facts HRB5.out hk).1
  have hst : ∀ k, k < W3.heap.size → W6.heap[k]? = W5.heap[k]? := fun k hk => hg6.block k (by omega) (fun he => by have := hownb k he.symm; omega)
  have hra6 := R_gr HRA5.out hg6 (fun k _ h1 _ he => by have := hownb k he; omega)
  have hbw6 : Below w.heap.size w W6 := hbw5.trans ⟨hg6.os, hg6.tape, hg6.output, hg6.size, fun k hk => hst k (by omega)⟩
  have hva6 := (hst B1 (by omega)).trans HVA5.out
  have hvb6 := (hst B2 (by omega)).trans HVB5.out
  have HR6 := Aside0.mk ((hst _ (by omega)).trans HR5.out)
  obtain ⟨Aa, ca, rfl⟩ := Kd.R_slice hra6
  obtain ⟨Ab, cb, rfl⟩ := Kd.R_slice hrb6
  have HCA := Aside0.mk (Kd.R_reads' hra6).2.2
  have HCB := Aside0.mk (Kd.R_reads' hrb6).2.2
  have hca : W6.cell? ⟨B1, 0, none⟩ = some (.slice Aa a'.length ca) := (blk_cell hva6 0).trans rfl
  have hcb : W6.cell? ⟨B2, 0, none⟩ = some (.slice Ab b'.length cb) := (blk_cell hvb6 0).trans rfl
  have HPB := Aside0.mk hpb
  have HDB := Aside0.mk hdb
  have HB6 := Aside0.mk hbw6
  clear HVA5 HVB5 HR5 HRA5 HRB5 hrb6 hra6 hpb hdb hst hg6 hcb5 hownb HOWN hva6 hvb6 hbw6 hbw5 hbw4 hbw3 hbw hne12 HP HQ HS
  have hlt5 : w.heap.size < W6.heap.size := by omega
  have hltB1 : B1 < W6.heap.size := by omega
  have hltB2 : B2 < W6.heap.size := by omega
  have hneB1 : w.heap.size < B1 := by omega
  have hneB2 : w.heap.size < B2 := by omega
  clear hsz3 hsz4 hsz5 hsz6 hlt1 hlt2 hge1 hge2 hwW2 hlo1 hlo2 hB1s hB2s
  by_cases hlen : a'.length = b'.length
  · have hl1 : ((a'.length : Int) != (b'.length : Int)) = false := by rw [hlen]; simp
    have HLEN := Aside0.mk hlen
    clear hlen
    go_wp2_with (((with_reducible refine gate_dst (N := 36) rfl ?_); refine Kd.R_make (Kd.int .i64) W6.heap.size 3 rfl (N := 36) rfl 22 _ _ rfl (p.length : Int) rfl rfl Tryz.underlying22 (.int .i64 0) 8 OW.info3 rfl (by decide) (by omega) 0 (ok := fun _ => True) (okp := fun _ => True) rfl (fun _ hk => hk) trivial (by omega) (by omega) (Below.refl _ _) (Nat.le_refl _) ?_; intro vo W7 hro hbo hgo hnewo; rw [Int.toNat_natCast] at hro; have hca7 := (hbo.cell (p := ⟨B1, 0, none⟩) hltB1).trans hca; have hcb7 := (hbo.cell (p := ⟨B2, 0, none⟩) hltB2).trans hcb; have hr7 := blk_below HR6.out hbo; have hc0 := (blk_cell hr7 0).trans rfl; have hc1 := (blk_cell hr7 1).trans rfl; have hz0 := blk_frozen hr7 0; have hz1 := blk_frozen hr7 1; have HR7 := Aside0.mk hr7; have HRO := Aside0.mk hro; have HB7 := Aside0.mk hbo; clear hro hbo hgo hnewo hr7 HR6))
    clear hca7 hcb7 hc0 hc1 hz0 hz1
    have hal' : a'.length ≤ 1000 := by rw [HPA.out.length_eq]; exact hal
    go_loopw [45] (fun v wr => ∃ i : Nat, v = .int .i64 i ∧ i ≤ a'.length ∧ Aside0 (∀ (j : Nat) (x y : List Int), j < i → a'[j]? = some x → b'[j]? = some y → x.length = y.length) ∧ Aside0 (Below W6.heap.size W6 wr) ∧ Aside0 (wr.heap[w.heap.size]? = some (.cells #[.int .i64 0, .int .i64 0] 24 (0, 0))) ∧ Aside0 (Kd.R (Kd.int .i64) 3 wr W6.heap.size (fun _ => True) vo (((a'.zip b').take i).foldl step (List.replicate p.length 0)))) (fun v _ => a'.length - (intOf v).toNat)
    case atStart => exact ⟨0, rfl, Nat.zero_le _, ⟨fun _ _ _ h => by omega⟩, HB7, HR7, HRO⟩
    case round =>
      obtain ⟨i, rfl, hi, HEQ, HBr, HRr, HOr⟩ := hrel
      have hca8 := (HBr.out.cell (p := ⟨B1, 0, none⟩) hltB1).trans hca
      have hcb8 := (HBr.out.cell (p := ⟨B2, 0, none⟩) hltB2).trans hcb
      by_cases hlt : i < a'.length
      · obtain ⟨x, hx⟩ : ∃ x, a'[i]? = some x := ⟨_, List.getElem?_eq_getElem hlt⟩
        obtain ⟨y, hy⟩ : ∃ y, b'[i]? = some y := ⟨_, List.getElem?_eq_getElem (by have := HLEN.out; omega)⟩
        obtain ⟨ada, Ax, cx, ea, hxa6, hrx⟩ := row_at HCA.out hx
        obtain ⟨adb, Ay, cy, eb, hyb6, hry⟩ := row_at HCB.out hy
        have hxa := (HBr.out.cell (World.block_lt_of_cell? W6 _ hxa6)).trans hxa6
        have hyb := (HBr.out.cell (World.block_lt_of_cell? W6 _ hyb6)).trans hyb6
        have HYB := Aside0.mk hyb6
        clear hxa6 hyb6
        subst ea
        subst eb
        have hib : (i : Int) < (b'.length : Int) := by have := HLEN.out; omega
        have hia : (i : Int) < (a'.length : Int) := by omega
        have hi0 : (0 : Int) ≤ (i : Int) := by omega
        have HX := Aside0.mk hx
        have HY := Aside0.mk hy
        have HRX := Aside0.mk hrx
        have HRY := Aside0.mk hry
        have hxl : x.length ≤ 9223372036854775807 := hrx.2.1
        clear hx hy hrx hry
        by_cases hxy : x.length = y.length
        · have hl2 : ((x.length : Int) != (y.length : Int)) = false := by rw [hxy]; simp
          have HXY := Aside0.mk hxy
          clear hxy
          go_wp2_with fail
          go_quiet (fail)
          go_wp2_with fail
          obtain ⟨wo, hwo⟩ : ∃ wo : World, wo = wr.drewN nq := ⟨_, rfl⟩
          rw [← hwo]
          have HBo : Aside0 (Below W6.heap.size W6 wo) := ⟨by rw [hwo]; exact pw_below_drewN HBr.out _⟩
          have HRo : Aside0 (wo.heap[w.heap.size]? = some (.cells #[.int .i64 0, .int .i64 0] 24 (0, 0))) := ⟨by rw [hwo]; exact HRr.out⟩
          have HOo : Aside0 (Kd.R (Kd.int .i64) 3 wo W6.heap.size (fun _ => True) vo (((a'.zip b').take i).foldl step (List.replicate p.length 0))) := ⟨by rw [hwo]; exact HOr.out⟩
          have HLL : Aside0 ((((a'.zip b').take i).foldl step (List.replicate p.length 0)).length = p.length) := ⟨by rw [fold_step_length]; simp⟩
          clear hwo HBr HRr HOr hxa hyb hca8 hcb8
          obtain ⟨oi, hoi⟩ : ∃ oi, oi = ((a'.zip b').take i).foldl step (List.replicate p.length 0) := ⟨_, rfl⟩
          rw [← hoi] at HOo HLL
          have HOI := Aside0.mk hoi
          clear hoi
          go_loopw [65] (fun v wq => ∃ kk : Nat, v = .int .i64 kk ∧ kk ≤ x.length ∧ Aside0 (Below W6.heap.size W6 wq) ∧ Aside0 (wq.heap[w.heap.size]? = some (.cells #[.int .i64 0, .int .i64 0] 24 (0, 0))) ∧ Aside0 (Kd.R (Kd.int .i64) 3 wq W6.heap.size (fun _ => True) vo (((x.zip y).take kk).foldl put oi))) (fun v _ => x.length - (intOf v).toNat)
          case atStart => exact ⟨0, rfl, Nat.zero_le _, HBo, HRo, HOo⟩
          case round =>
            obtain ⟨kk, rfl, hk, HBq, HRq, HOq⟩ := hrel
            by_cases hkl : kk < x.length
            · obtain ⟨u, hu⟩ : ∃ u, x[kk]? = some u := ⟨_, List.getElem?_eq_getElem hkl⟩
              obtain ⟨z, hz⟩ : ∃ z, y[kk]? = some z := ⟨_, List.getElem?_eq_getElem (by have := HXY.out; omega)⟩
              have hcb9 := (HBq.out.cell (p := ⟨B2, 0, none⟩) hltB2).trans hcb
              have hyb9 := (HBq.out.cell (World.block_lt_of_cell? W6 _ HYB.out)).trans HYB.out
              obtain ⟨au, eu, huc⟩ := int_at (Kd.C_below HRX.out HBq.out) hu
              obtain ⟨az, ez, hzc⟩ := int_at (Kd.C_below HRY.out HBq.out) hz
              subst eu
              subst ez
              have hkx : (kk : Int) < (x.length : Int) := by omega
              have hky : (kk : Int) < (y.length : Int) := by have := HXY.out; omega
              have hk0 : (0 : Int) ≤ (kk : Int) := by omega
              obtain ⟨hu0, hu1⟩ := HRG.out x (HPA.out.mem_iff.1 (List.mem_of_getElem? HX.out)) u (List.mem_of_getElem? hu)
              have hlq : (((x.zip y).take kk).foldl put oi).length = p.length := by rw [fold_put_length]; exact HLL.out
              obtain ⟨go, co, eo, go1, go2, cl, HGo⟩ := Kd.R_form HOq.out (by omega)
              rw [hlq] at eo
              subst eo
              have huo : u < (p.length : Int) := hu1
              obtain ⟨hxo, hfo⟩ := Kd.R_celln 0 HOq.out u hu0 (by omega)
              have HPT := Aside0.mk (Kd.R_putg HOq.out u z)
              have hgo3 : w.heap.size ≠ go := by omega
              have HU := Aside0.mk hu
              have HZ := Aside0.mk hz
              clear hu hz hu1 hlq HGo cl
              go_wp2_with (((with_reducible refine gate_store (t := 3) (p := 79) rfl ?_); refine store_event (t := 3) (p := 79) (v := ?vo) (w1 := (wr.setCell ⟨go, u.toNat, none⟩ (.int .i64 z))) ?hg ?ho ?hn ?hr ?_; (case ho => rfl); (case hg => rfl); (case hn => rfl); (case hr => first | (go_simp; done) | (go_simp; rfl)); intro w32 hw; have hbn : Below W6.heap.size W6 w32 := (by rw [hw]; exact HBq.out.setCell (by simpa using go1) _); have hrn : w32.heap[w.heap.size]? = some (.cells #[.int .i64 0, .int .i64 0] 24 (0, 0)) := (by rw [hw]; exact blk_far HRq.out hgo3 _); have hon : Kd.R (Kd.int .i64) 3 w32 W6.heap.size (fun _ => True) (.slice (some ⟨go, 0, none⟩) p.length co) (put (((x.zip y).take kk).foldl put oi) (u, z)) := (by rw [hw]; exact HPT.out.1); have HBn := Aside0.mk hbn; have HRn := Aside0.mk hrn; have HOn := Aside0.mk hon; clear hw hbn hrn hon HPT HOq HBq HRq hxo hfo))
              go_roundw
              case measure => simp [intOf]; omega
              case rel => exact ⟨kk + 1, by go_num, by omega, HBn, HRn, ⟨by rw [fold_take put (x.zip y) kk (u, z) oi (by rw [List.getElem?_zip_eq_some]; exact ⟨HU.out, HZ.out⟩)]; exact HOn.out⟩⟩
            · have hke : kk = x.length := by omega
              subst hke
              go_wp2
              go_roundw
              case measure => simp [intOf]; omega
              case rel =>
                refine ⟨i + 1, by go_num, by omega, ⟨fun j x' y' hj hx' hy' => ?_⟩, HBq, HRq, ⟨?_⟩⟩
                · rcases Nat.lt_or_ge j i with h1 | h1
                  · exact HEQ.out j x' y' h1 hx' hy'
                  · obtain rfl : j = i := by omega
                    have e1 := hx'.symm.trans HX.out
                    have e2 := hy'.symm.trans HY.out
                    injection e1 with e1
                    injection e2 with e2
                    subst e1
                    subst e2
                    exact HXY.out
                · rw [fold_take step (a'.zip b') i (x, y) _ (by rw [List.getElem?_zip_eq_some]; exact ⟨HX.out, HY.out⟩), ← HOI.out]
                  have h1 := HOq.out
                  rw [List.take_of_length_le (by rw [List.length_zip]; omega)] at h1
                  exact h1
        · have hl2 : ((x.length : Int) != (y.length : Int)) = true := by rw [bne_iff_ne]; omega
          have HXY := Aside0.mk hxy
          clear hxy
          go_wp2_with fail
          go_quiet (fail)
          obtain ⟨wo, hwo⟩ : ∃ wo : World, wo = wr.drewN nq := ⟨_, rfl⟩
          rw [← hwo]
          have HBo : Aside0 (Below W6.heap.size W6 wo) := ⟨by rw [hwo]; exact pw_below_drewN HBr.out _⟩
          have HRo : Aside0 (wo.heap[w.heap.size]? = some (.cells #[.int .i64 0, .int .i64 0] 24 (0, 0))) := ⟨by rw [hwo]; exact HRr.out⟩
          clear hwo HBr HRr HOr hxa hyb hca8 hcb8
          go_wp2_with fail
          refine (perm_fault.calls 6 0 6 0 wo rfl).mono ?_
          rintro e W8 ⟨rfl, hb8⟩
          have hr8 := blk_below HRo.out hb8
          have hc80 := (blk_cell hr8 0).trans rfl
          have hc81 := (blk_cell hr8 1).trans rfl
          have hz80 := blk_frozen hr8 0
          have hz81 := blk_frozen hr8 1
          have hb9 : Below w.heap.size w W8 := HB6.out.trans ((HBo.out.trans (hb8.mono HBo.out.size)).mono (by omega))
          have HB8 := Aside0.mk hb9
          have HR8 := Aside0.mk hr8
          clear hr8 hb8 hb9 HRo
          go_wp2
          refine bodyPost_ret (v := .tuple #[.slice none 0 0, .agg #[.int .i64 6, .int .i64 0]]) (results_list (rs := [.tmp 4, .cell 5 24]) rfl (by simp) (.tmp (.cell w.heap.size 24 #[.int .i64 6, .int .i64 0] (0, 0) _ rfl (blk_put (blk_put HR8.out 0 _ rfl) 1 _ rfl) Tryz.underlying24 rfl (by kernel_rfl) .nil))) rfl ⟨?_, a', b', HPA.out, HPB.out, HDA.out, HDB.out, .inr ⟨?_, rfl⟩⟩
          · exact below_set (below_set HB8.out (Nat.le_refl _)) (Nat.le_refl _)
          · intro he
            have h1 := congrArg (fun l => l[i]?) he
            simp only [List.getElem?_map, HX.out, HY.out, Option.map_some, Option.some.injEq] at h1
            exact HXY.out h1
      · have hie : i = a'.length := by omega
        have hc80 := (blk_cell HRr.out 0).trans rfl
        have hc81 := (blk_cell HRr.out 1).trans rfl
        have hz80 := blk_frozen HRr.out 0
        have hz81 := blk_frozen HRr.out 1
        have HIE := Aside0.mk hie
        clear hie hca8 hcb8
        go_wp2
        refine bodyPost_ret (v := .tuple #[vo, .agg #[.int .i64 0, .int .i64 0]]) (results_list (rs := [.tmp 4, .cell 5 24]) rfl (by simp) (.tmp (.cell w.heap.size 24 #[.int .i64 0, .int .i64 0] (0, 0) _ rfl (blk_put (blk_put HRr.out 0 _ rfl) 1 _ rfl) Tryz.underlying24 rfl (by kernel_rfl) .nil))) rfl ⟨?_, a', b', HPA.out, HPB.out, HDA.out, HDB.out, .inl ⟨?_, vo, rfl, ?_⟩⟩
        · exact below_set (below_set (HB6.out.trans (HBr.out.mono (by omega))) (Nat.le_refl _)) (Nat.le_refl _)
        · refine List.ext_getElem? (fun j => ?_)
          rw [List.getElem?_map, List.getElem?_map]
          rcases Nat.lt_or_ge j a'.length with h1 | h1
          · have h2 : j < b'.length := by have := HLEN.out; omega
            rw [List.getElem?_eq_getElem h1, List.getElem?_eq_getElem h2, Option.map_some, Option.map_some]
            exact congrArg some (HEQ.out j _ _ (by have := HIE.out; omega) (List.getElem?_eq_getElem h1) (List.getElem?_eq_getElem h2))
          · rw [List.getElem?_eq_none h1, List.getElem?_eq_none (by have := HLEN.out; omega)]
        · have h1 := HOr.out
          rw [HIE.out, List.take_of_length_le (by rw [List.length_zip]; omega)] at h1
          exact Kd.R_lower (R_set (R_set h1 hlt5 0 _) hlt5 1 _) (by omega)
  · have hl1 : ((a'.length : Int) != (b'.length : Int)) = true := by rw [bne_iff_ne]; omega
    have HLEN := Aside0.mk hlen
    clear hlen
    go_wp2_with (((with_reducible refine gate_dst (N := 36) rfl ?_); refine Kd.R_make (Kd.int .i64) W6.heap.size 3 rfl (N := 36) rfl 22 _ _ rfl (p.length : Int) rfl rfl Tryz.underlying22 (.int .i64 0) 8 OW.info3 rfl (by decide) (by omega) 0 (ok := fun _ => True) (okp := fun _ => True) rfl (fun _ hk => hk) trivial (by omega) (by omega) (Below.refl _ _) (Nat.le_refl _) ?_; intro vo W7 hro hbo hgo hnewo; rw [Int.toNat_natCast] at hro; have hca7 := (hbo.cell (p := ⟨B1, 0, none⟩) hltB1).trans hca; have hcb7 := (hbo.cell (p := ⟨B2, 0, none⟩) hltB2).trans hcb; have hr7 := blk_below HR6.out hbo; have hc0 := (blk_cell hr7 0).trans rfl; have hc1 := (blk_cell hr7 1).trans rfl; have hz0 := blk_frozen hr7 0; have hz1 := blk_frozen hr7 1; have HR7 := Aside0.mk hr7; have HRO := Aside0.mk hro; have HB7 := Aside0.mk hbo; clear hro hbo hgo hnewo hr7 HR6))
    refine (perm_fault.calls 6 0 6 0 W7 rfl).mono ?_
    rintro e W8 ⟨rfl, hb8⟩
    have hr8 := blk_below HR7.out hb8
    have hc80 := (blk_cell hr8 0).trans rfl
    have hc81 := (blk_cell hr8 1).trans rfl
    have hz80 := blk_frozen hr8 0
    have hz81 := blk_frozen hr8 1
    have hb9 : Below w.heap.size w W8 := HB6.out.trans ((HB7.out.trans (hb8.mono HB7.out.size)).mono (by omega))
    have HB8 := Aside0.mk hb9
    have HR8 := Aside0.mk hr8
    clear hr8 hb8 hb9 hc0 hc1 hz0 hz1 HR7
    go_wp2
    refine bodyPost_ret (v := .tuple #[.slice none 0 0, .agg #[.int .i64 6, .int .i64 0]]) (results_list (rs := [.tmp 4, .cell 5 24]) rfl (by simp) (.tmp (.cell w.heap.size 24 #[.int .i64 6, .int .i64 0] (0, 0) _ rfl (blk_put (blk_put HR8.out 0 _ rfl) 1 _ rfl) Tryz.underlying24 rfl (by kernel_rfl) .nil))) rfl ⟨?_, a', b', HPA.out, HPB.out, HDA.out, HDB.out, .inr ⟨?_, rfl⟩⟩
    · exact below_set (below_set HB8.out (Nat.le_refl _)) (Nat.le_refl _)
    · intro he
      have := congrArg List.length he
      simp at this
      exact HLEN.out this
end Go.Proofs.YtnibognblomfeaaGreatDoor.CK
