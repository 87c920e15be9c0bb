/- perm.Text of a permutation whose points are below 100. perm.Text of a list that is no permutation, and of one that moves nothing. perm.Text of a permutation that moves something: the table of powers of ten is laid. Written by txggen.py out of TX. big.NewInt of a small number. -/
import Derived.Test.YtkplhpnhjfdelaaGreatDoorGD
import Derived.Test.YtkplhpnhjfdelaaGreatDoorGT
import Derived.Test.YtkplhpnhjfdelaaGreatDoorGA
import Derived.Maps.Own
import Derived.Maps.OwnSet
import Derived.Maps.StringElems
import Derived.Lib.ItoaMem
import Derived.Lib.AppendIntMem
namespace Go.Proofs.YtkplhpnhjfdelaaGreatDoor.TX
open Go.RowKit Go.Proofs.YtkplhpnhjfdelaaGreatDoorW.PrintWords Go.Proofs.YtkplhpnhjfdelaaGreatDoorW.PrintLast Go.Proofs.YtkplhpnhjfdelaaGreatDoorW.PrintMore Go.Proofs.YtkplhpnhjfdelaaGreatDoor.CL Go.Proofs.YtkplhpnhjfdelaaGreatDoor.CY Go.Proofs.YtkplhpnhjfdelaaGreatDoor.CYY Go.Proofs.YtkplhpnhjfdelaaGreatDoor.CYR Go.Proofs.YtkplhpnhjfdelaaGreatDoor.CYS Go.Proofs.YtkplhpnhjfdelaaGreatDoor.PPermCycles
set_option linter.unusedVariables false
set_option linter.unusedSimpArgs false
/-- One point of a cycle, and what stands ahead of it. -/
def el (i : Nat) (x : Int) : List UInt8 := (if i = 0 then 40 else 32) :: Lib.decDigits x.toNat
def part (c : List Int) (i : Nat) : List UInt8 := (List.range i).flatMap fun j => el j (c.getD j 0)
def cyTxt (c : List Int) : List UInt8 := part c c.length ++ [41]
def cysTxt (l : List (List Int)) : List UInt8 := l.flatMap cyTxt
theorem part_succ (c : List Int) (i : Nat) : part c (i + 1) = part c i ++ el i (c.getD i 0) := by simp [part, List.range_succ]
theorem dec_len : ∀ n : Fin 100, (Lib.decDigits n.val).length ≤ 2 := by decide +kernel
theorem el_len (i : Nat) (x : Int) (h0 : 0 ≤ x) (h1 : x < 100) : (el i x).length ≤ 3 := by
  have := dec_len ⟨x.toNat, by omega⟩
  simp only [el, List.length_cons]
  simp only at this
  omega
theorem take_succ {l : List (List Int)} {j : Nat} {c : List Int} (h : l[j]? = some c) : cysTxt (l.take (j + 1)) = cysTxt (l.take j) ++ cyTxt c := by
  rw [List.take_add_one, h]; simp [cysTxt]
section
variable {P : Program} {ops : Array Oper} {rest : List Oper} {o : Oper} {a : Act} {Q : Exit → Act → World → Prop} {w : World}
open Go.Maps in
theorem wp_makeMap (hg : o.guard = none) (t : TypeId) (hop : o.op = .makeMap t none) (h : wpList P ops Q rest (a.put o.dst (.map (some w.heap.size))) (w.alloc (.map #[] 0))) : wpList P ops Q (o :: rest) a w := by
  refine wpList_plain hg fun K' hK' => ?_
  unfold Oper.wp
  simp [execOp, hop, run_makeMap, Result.andThen]
  exact hK' _ _ h
open Go.Maps in
theorem wp_insert (hg : o.guard = none) (m x v : Operand) (t : TypeId) (hop : o.op = Op.insert t m x v)
    (k e : TypeId) (K : Keyed P k) (ht : P.underlying t = some (.map k e)) (R : Value → Option (DataW Unit × List MemPlace)) (b n : Nat) (D : DataW Unit)
    (hm : a.eval m = .map (some b)) (hown : w.ownsMap P k R b n D) (hn : n < maxLen) (key val : Value) (kl : Lit) (hx : a.eval x = key) (hv : a.eval v = val) (hkey : keyOf P k key = some kl)
    (d : DataW Unit) (ps : List MemPlace) (hval : R val = some (d, ps))
    (hK : ∀ w', w'.ownsMap P k R b (n + 1) (D.put kl d) → w.grownBy w' (some b) → wpList P ops Q rest (a.put o.dst undef) w') :
    wpList P ops Q (o :: rest) a w := by
  refine wpList_plain hg fun K' hK' => ?_
  obtain ⟨w', hrun, r1, r2⟩ := hown.update K ht hn hkey hval
  unfold Oper.wp
  simp [execOp, hop, hm, hx, hv, hrun, Result.andThen]
  exact hK' _ _ (hK w' r1 r2)
open Go.Maps in
theorem wp_lookup (hg : o.guard = none) (m x : Operand) (t : TypeId) (hop : o.op = Op.lookup t m x false)
    (k e : TypeId) (K : Keyed P k) (ht : P.underlying t = some (.map k e)) (he : P.underlying e = some .string) (hz : (zeroValue e).run P w = .ok (.string ⟨#[]⟩) w) (b n : Nat) (D : DataW Unit)
    (hm : a.eval m = .map (some b)) (hown : w.ownsMap P k (plainElem P e) b n D) (key : Value) (kl : Lit) (hx : a.eval x = key) (hkey : keyOf P k key = some kl)
    (hK : ∀ s : ByteArray, D.atKey kl (.lit (.string [])) = .lit (.string s.data.toList) → wpList P ops Q rest (a.put o.dst (.string s)) w) :
    wpList P ops Q (o :: rest) a w := by
  refine wpList_plain hg fun K' hK' => ?_
  obtain ⟨v, ps, hrun, hv⟩ := hown.lookup K ht hz (plainElem_string he (show (0 : Nat) ≤ maxLen by simp [maxLen])) hkey
  obtain ⟨s, rfl, hs, _⟩ := plainElem_string_inv he hv
  simp only [Prod.mk.injEq] at hs
  unfold Oper.wp
  simp [execOp, hop, hm, hx, hrun, Result.andThen]
  exact hK' _ _ (hK s hs.1)
end
theorem isb_keep {T e : TypeId} {B b : Nat} {bs : List Value} {W W' : World} (h : Lib.IsBuilder T e B b bs W) (hk : ∀ k, k < W.heap.size → W'.heap[k]? = W.heap[k]?) : Lib.IsBuilder T e B b bs W' := by
  have one : ∀ p, Lib.BuilderAt T e B b p bs W → Lib.BuilderAt T e B b p bs W' := by
    rintro p ⟨h1, v, h2, h3, h4⟩
    refine ⟨h1, v, (hk b (blk_lt h2)).trans h2, own_move h3 (fun k hk' => ?_), h4⟩
    obtain ⟨cs, hc⟩ := own_typed h3 k hk'
    exact hk k (blk_lt hc)
  exact h.imp (one _) (one _)
def mapD : DataW Unit := ((DataW.map []).put (.bool true) (.lit (.string [40]))).put (.bool false) (.lit (.string [32]))
theorem mapD_at (x : Bool) : mapD.atKey (.bool x) (.lit (.string [])) = .lit (.string [if x = true then 40 else 32]) := by
  cases x <;> rfl
def T18 : Bool × List (List Nat × List Nat) := (true, [([], []), ([], []), ([0, 0, 0], [0]), ([1, 2, 0, 1, 2], [1])])
def B18 : List Nat := [0, 0, 1, 7]
theorem tab18 : rtab .any (opsOf Tryz.f7 18) = T18 := by kernel_rfl
theorem bits18 : waitsOk T18.2 B18 = true := by kernel_rfl
set_option maxHeartbeats 4000000 in
set_option maxRecDepth 100000 in
theorem Text_calls (k : Nat) (A : Option Addr) (cap : Nat) (p : List Int) (r : List (List Int)) (w : World) (hp : Kd.C (Kd.int .i64) w A p.length p) (hc : p.length ≤ cap) (hn : p.length ≤ 1000) (hf : perm_Check.f k p = some (0, 0))
    (h : cycOut k p (List.replicate p.length false) 0 [] = some r) (hne : big r ≠ []) (hlen : (big r).length ≤ 1000) (hrow : ∀ c ∈ big r, c.length ≤ 1000 ∧ ∀ x ∈ c, 0 ≤ x ∧ x < 100) :
    Calls Tryz.prog 7 #[.slice A p.length cap] w fun e w' => e = .returned (.tuple #[.string ⟨(cysTxt (big r)).toArray⟩, .agg #[.int .i64 0, .int .i64 0]]) ∧ Below w.heap.size w w' := by
  go_enter Tryz.func7, Tryz.ntmps7
  go_wp2_with fail
  refine (Cycles_calls k A cap p r _ (Kd.C_below hp ((Below.refl _ _).alloc (Nat.le_refl _) _)) hc hn hf h).mono ?_
  rintro e w1 ⟨v, rfl, hv, hb1⟩
  have hr1 : w1.heap[w.heap.size]? = some (.cells #[.int .i64 0, .int .i64 0] 26 (0, 0)) := by
    rw [hb1.block w.heap.size (by simp)]
    exact heap_alloc_new w _
  have hsz1 : w.heap.size + 1 ≤ w1.heap.size := by have := hb1.size; simpa using this
  have hbel : Below w.heap.size w w1 := ((Below.refl _ _).alloc (Nat.le_refl _) _).trans (hb1.mono (by simp))
  obtain ⟨Ad, cp, rfl⟩ := Kd.R_slice hv
  obtain ⟨L, hL⟩ : ∃ L, L = big r := ⟨_, rfl⟩
  rw [← hL] at hv hne hlen hrow ⊢
  have hln : 0 < L.length := List.length_pos_iff.mpr hne
  have HLR := Aside0.mk hL
  have HV := Aside0.mk hv
  have HB := Aside0.mk hbel
  have HR1 := Aside0.mk hr1
  have HSZ := Aside0.mk hsz1
  have HRW := Aside0.mk hrow
  have hl0 : ((L.length : Int) == 0) = false := by simp; omega
  clear hb1 hp hf hbel hr1 hsz1 h hv hL hrow hne
  go_wp2_with fail
  obtain ⟨W2, hW2⟩ : ∃ W2 : World, W2 = (w1.alloc (Obj.cells #[Value.int IntKind.i64 0, Value.int IntKind.i64 0] 26)).alloc (Obj.cells #[Value.pointer none, Value.slice none 0 0] 46) := ⟨_, rfl⟩
  have hb2 : Below w1.heap.size w1 W2 := by rw [hW2]; exact ((Below.refl _ _).alloc (Nat.le_refl _) _).alloc (by simp) _
  have hs2 : W2.heap.size = w1.heap.size + 2 := by rw [hW2]; simp
  have hf2 : W2.heap[w1.heap.size]? = some (.cells #[.int .i64 0, .int .i64 0] 26 (0, 0)) := by
    rw [hW2]; exact (Below.heap_alloc _ _ _ (by simp)).trans (heap_alloc_new w1 _)
  have hv2 : W2.heap[w1.heap.size + 1]? = some (.cells #[.pointer none, .slice none 0 0] 46 (0, 0)) := by
    rw [hW2]
    have := heap_alloc_new (w1.alloc (Obj.cells #[Value.int IntKind.i64 0, Value.int IntKind.i64 0] 26)) (Obj.cells #[Value.pointer none, Value.slice none 0 0] 46)
    simpa using this
  rw [← hW2]
  have hr2 : W2.heap[w.heap.size]? = some (.cells #[.int .i64 0, .int .i64 0] 26 (0, 0)) := (hb2.block _ (by have := HSZ.out; omega)).trans HR1.out
  have hC2 : Kd.C (Kd.slice 3 (Kd.int .i64)) w1 Ad L.length L := (Kd.R_reads' HV.out).2.2
  have HB12 := Aside0.mk hb2
  have hbW : Below w.heap.size w W2 := HB.out.trans (hb2.mono (by have := HSZ.out; omega))
  obtain ⟨b, hb⟩ : ∃ b, b = w1.heap.size + 1 := ⟨_, rfl⟩
  have hI2 : Lib.IsBuilder 46 5 b b (Lib.byteCells (cysTxt (L.take 0))) W2 := .inl ⟨Nat.le_refl _, .slice none 0 0, by rw [hb]; exact hv2, World.ownsRow_nil _ _ _ _, by simp [Value.ownBlock]⟩
  have HC2 := Aside0.mk hC2
  have HR2 := Aside0.mk hr2
  have HF2 := Aside0.mk hf2
  have HBW := Aside0.mk hbW
  have HI2 := Aside0.mk hI2
  have HS2 := Aside0.mk (show b + 1 = W2.heap.size ∧ w.heap.size < b ∧ w1.heap.size < b from ⟨by omega, by have := HSZ.out; omega, by omega⟩)
  rw [← hb]
  have hlL : (L.length : Int) ≤ 1000 := by omega
  clear hW2 hb2 hs2 hf2 hv2 hr2 hC2 hbW hI2 HV HB HR1 HSZ hb
  go_loopw [26] (fun v wr => ∃ i : Nat, v = .int .i64 i ∧ i ≤ L.length ∧ Aside0 (Lib.IsBuilder 46 5 b b (Lib.byteCells (cysTxt (L.take i))) wr) ∧ Aside0 (Below b W2 wr) ∧ Aside0 ((cysTxt (L.take i)).length ≤ i * 3001)) (fun v _ => L.length - (intOf v).toNat)
  case atStart => exact ⟨0, rfl, Nat.zero_le _, HI2, ⟨Below.refl _ _⟩, ⟨by simp [cysTxt]⟩⟩
  case round =>
    obtain ⟨i, rfl, hi, HI, HBr, HLN⟩ := hrel
    by_cases hlt : i < L.length
    · obtain ⟨c, hc'⟩ : ∃ c, L[i]? = some c := ⟨_, List.getElem?_eq_getElem hlt⟩
      have hbw : Below w1.heap.size w1 wr := HB12.out.trans (HBr.out.mono (by have := HS2.out; omega))
      obtain ⟨ad, Aj, cj, ea, hcell1, hrow1⟩ := CK.row_at HC2.out hc'
      have hcell2 := (hbw.cell (World.block_lt_of_cell? w1 _ hcell1)).trans hcell1
      clear hcell1
      have hmem : c ∈ L := List.mem_of_getElem? hc'
      have hcl : (c.length : Int) ≤ 1000 := by have := (HRW.out c hmem).1; omega
      have HCX := Aside0.mk (HRW.out c hmem).2
      have HCI := Aside0.mk hc'
      subst ea
      have hia : (i : Int) < (L.length : Int) := by omega
      clear hmem
      have HROW := Aside0.mk hrow1
      have HLT := Aside0.mk hlt
      clear hc' hrow1 hbw hlt
      go_wp2_with fail
      go_loopw [32] (fun v wq => ∃ j : Nat, v = .int .i64 j ∧ j ≤ c.length ∧ Aside0 (Lib.IsBuilder 46 5 b b (Lib.byteCells (cysTxt (L.take i) ++ part c j)) wq) ∧ Aside0 (Below b W2 wq) ∧ Aside0 ((part c j).length ≤ j * 3)) (fun v _ => c.length - (intOf v).toNat)
      case atStart => exact ⟨0, rfl, Nat.zero_le _, ⟨by have h := HI.out; simpa [part] using h⟩, HBr, ⟨by simp [part]⟩⟩
      case round =>
        obtain ⟨j, rfl, hj, HIq, HBq, HLq⟩ := hrel
        by_cases hjl : j < c.length
        · obtain ⟨x, hx⟩ : ∃ x, c[j]? = some x := ⟨_, List.getElem?_eq_getElem hjl⟩
          have hbw : Below w1.heap.size w1 wr := HB12.out.trans (HBq.out.mono (by have := HS2.out; omega))
          obtain ⟨ax, ex, hxc⟩ := CK.int_at (Kd.C_below HROW.out hbw) hx
          have hxr := HCX.out x (List.mem_of_getElem? hx)
          have hgd : c.getD j 0 = x := by rw [List.getD_eq_getElem?_getD, hx]; rfl
          have HXX := Aside0.mk (And.intro hxr hgd)
          subst ex
          have hja : (j : Int) < (c.length : Int) := by omega
          obtain ⟨n, rfl⟩ : ∃ n : Nat, x = (n : Int) := ⟨x.toNat, by have := HXX.out.1; omega⟩
          have hn100 : n < 100 := by have := HXX.out.1; omega
          have HXN := Aside0.mk (show c.getD j 0 = (n : Int) from HXX.out.2)
          have HBN := Aside0.mk hn100
          have hlen1 : (Lib.byteCells (cysTxt (L.take i) ++ part c j)).length ≤ 100000000 := by
            rw [Lib.byteCells_length, List.length_append]
            have h1 := HLN.out
            have h2 := HLq.out
            omega
          have HL1 := Aside0.mk hlen1
          have hsb : b ≤ wr.heap.size := by have := HBq.out.size; have := HS2.out; omega
          have HSB := Aside0.mk hsb
          clear hx hbw hxr hgd hjl hlen1 hn100 HXX hsb
          go_wp2_with (first
            | (refine wp_makeMap rfl 51 rfl ?_)
            | (refine wp_insert rfl (.tmp 37) (.const (.bool true)) (.const (.string ⟨#[40]⟩)) 51 rfl 4 9 (Maps.bool_keyed Tryz.underlying4) Tryz.underlying51 (plainElem Tryz.prog 9) wr.heap.size 0 (.map []) rfl (World.ownsMap_made _ _ _ _) (by simp [maxLen]) _ _ (.bool true) rfl rfl (Maps.keyOf_bool_mk Tryz.underlying4 true) _ [] (plainElem_string Tryz.underlying9 (show (1 : Nat) ≤ maxLen by simp [maxLen])) ?_; intro wm1 hown1 hgm1)
            | (refine wp_insert rfl (.tmp 37) (.const (.bool false)) (.const (.string ⟨#[32]⟩)) 51 rfl 4 9 (Maps.bool_keyed Tryz.underlying4) Tryz.underlying51 (plainElem Tryz.prog 9) wr.heap.size (0 + 1) _ rfl hown1 (by simp [maxLen]) _ _ (.bool false) rfl rfl (Maps.keyOf_bool_mk Tryz.underlying4 false) _ [] (plainElem_string Tryz.underlying9 (show (1 : Nat) ≤ maxLen by simp [maxLen])) ?_; intro wm2 hown2 hgm2)
            | (refine wp_lookup rfl (.tmp 38) (.tmp 40) 51 rfl 4 9 (Maps.bool_keyed Tryz.underlying4) Tryz.underlying51 Tryz.underlying9 (Tryz.zeroValue9 _) wr.heap.size (0 + 1 + 1) mapD rfl hown2 (.bool ((j : Int) == 0)) (.bool ((j : Int) == 0)) rfl (Maps.keyOf_bool_mk Tryz.underlying4 _) ?_; intro s hs)
            | fail)
          have hs1 : s.data.toList = [if j = 0 then 40 else 32] := by
            rw [mapD_at] at hs
            injection hs with hs
            injection hs with hs
            rw [← hs]
            by_cases h0 : j = 0
            · simp [h0]
            · simp [h0]
          have hkm : ∀ k, k < wr.heap.size → wm2.heap[k]? = wr.heap[k]? := fun k hk =>
            (hgm2.block k (by have := hgm1.size; simp at this; omega) (by simp; omega)).trans ((hgm1.block k (by simp; omega) (by simp; omega)).trans (Below.heap_alloc _ _ _ hk))
          have him : Lib.IsBuilder 46 5 b b (Lib.byteCells (cysTxt (L.take i) ++ part c j)) wm2 := isb_keep HIq.out hkm
          have hbm : Below b W2 wm2 := by
            have h1 : Below b W2 (wr.alloc (.map #[] 0)) := HBq.out.alloc HSB.out _
            have h2 := h1.grown hgm1 (by have := HSB.out; simp; omega) (by intro k hk; cases hk; exact HSB.out)
            exact h2.grown hgm2 (by have := HSB.out; have := hgm1.size; simp at this; omega) (by intro k hk; cases hk; exact HSB.out)
          have hszm : b ≤ wm2.heap.size := by have := hbm.size; have := HS2.out; omega
          have hss : s.size = 1 := by rw [← ByteArray.size_data, ← Array.length_toList, hs1]; rfl
          refine (Tryz.Builder_WriteString b b _ s wm2 him (by have := HL1.out; omega) hszm).mono ?_
          rintro e W3 ⟨rfl, hI3, hb3⟩
          have HI3 := Aside0.mk hI3
          have HB3 := Aside0.mk (hbm.trans hb3)
          have HS1 := Aside0.mk hs1
          clear hs him hbm hkm hI3 hb3 hown1 hown2 hgm1 hgm2 hss hs1 hszm
          go_wp2_with fail
          refine (Tryz.strconv_Itoa_small n HBN.out _).mono ?_
          rintro e W4 ⟨rfl, rfl⟩
          go_wp2_with fail
          have hdl : (Lib.decDigits n).length ≤ 2 := dec_len ⟨n, HBN.out⟩
          refine (Tryz.Builder_WriteString b b _ ⟨(Lib.decDigits n).toArray⟩ _ (.inr HI3.out) ?hlen (by have := HB3.out.size; have := HS2.out; omega)).mono ?_
          case hlen =>
            have h1 := HL1.out
            rw [List.length_append, Lib.strCells_length]
            have h2 : s.size = 1 := by rw [← ByteArray.size_data, ← Array.length_toList, HS1.out]; rfl
            have h3 : (⟨(Lib.decDigits n).toArray⟩ : ByteArray).size = (Lib.decDigits n).length := by rw [← ByteArray.size_data]; simp
            omega
          rintro e W5 ⟨rfl, hI5, hb5⟩
          have hbs : (Lib.byteCells (cysTxt (L.take i) ++ part c j) ++ Lib.strCells s) ++ Lib.strCells ⟨(Lib.decDigits n).toArray⟩ = Lib.byteCells (cysTxt (L.take i) ++ part c (j + 1)) := by
            show (Lib.byteCells _ ++ Lib.byteCells s.data.toList) ++ Lib.byteCells (Lib.decDigits n) = _
            rw [HS1.out, part_succ, HXN.out, ← Lib.byteCells_append, ← Lib.byteCells_append]
            simp [el]
          rw [hbs] at hI5
          have hpl : (part c (j + 1)).length ≤ (j + 1) * 3 := by
            rw [part_succ, List.length_append, HXN.out]
            have h1 := HLq.out
            have h2 := el_len j (n : Int) (by omega) (by have := HBN.out; omega)
            omega
          have HI5 := Aside0.mk hI5
          have HB5 := Aside0.mk (HB3.out.trans hb5)
          have HPL := Aside0.mk hpl
          clear hbs hI5 hb5 hpl hdl
          go_wp2
          go_roundw
          case rel => exact ⟨j + 1, rfl, by omega, ⟨.inr HI5.out⟩, HB5, HPL⟩
          case measure => simp [intOf]; omega
        · have hje : j = c.length := by omega
          subst hje
          go_wp2_with fail
          have hlen2 : (Lib.byteCells (cysTxt (L.take i) ++ part c c.length)).length + 1 ≤ 140737488355328 := by
            rw [Lib.byteCells_length, List.length_append]
            have h1 := HLN.out
            have h2 := HLq.out
            omega
          refine (Tryz.Builder_WriteString b b _ ⟨#[41]⟩ _ HIq.out hlen2 (by have := HBq.out.size; have := HS2.out; omega)).mono ?_
          rintro e W5 ⟨rfl, hI5, hb5⟩
          have hbs : Lib.byteCells (cysTxt (L.take i) ++ part c c.length) ++ Lib.strCells ⟨#[41]⟩ = Lib.byteCells (cysTxt (L.take (i + 1))) := by
            show Lib.byteCells _ ++ Lib.byteCells [41] = _
            rw [take_succ HCI.out, ← Lib.byteCells_append]
            simp [cyTxt]
          rw [hbs] at hI5
          have hpl : (cysTxt (L.take (i + 1))).length ≤ (i + 1) * 3001 := by
            rw [take_succ HCI.out, List.length_append, cyTxt, List.length_append]
            have h1 := HLN.out
            have h2 := HLq.out
            simp only [List.length_cons, List.length_nil]
            omega
          have HI5 := Aside0.mk hI5
          have HB5 := Aside0.mk (HBq.out.trans hb5)
          have HPL := Aside0.mk hpl
          clear hbs hI5 hb5 hpl hlen2
          go_wp2
          go_roundw
          case rel => exact ⟨i + 1, rfl, by have := HLT.out; omega, ⟨.inr HI5.out⟩, HB5, HPL⟩
          case measure => have := HLT.out; simp [intOf]; omega
    · have hie : i = L.length := by omega
      subst hie
      go_wp2_with fail
      have hfb : wr.heap[w1.heap.size]? = some (.cells #[.int .i64 0, .int .i64 0] 26 (0, 0)) := (HBr.out.block _ (by have := HS2.out; omega)).trans HF2.out
      have hrb : wr.heap[w.heap.size]? = some (.cells #[.int .i64 0, .int .i64 0] 26 (0, 0)) := (HBr.out.block _ (by have := HS2.out; omega)).trans HR2.out
      have hsb : b ≤ wr.heap.size := by have := HBr.out.size; have := HS2.out; omega
      have hx0 : wr.drew.cell? ⟨w1.heap.size, 0, none⟩ = some (.int .i64 0) := (blk_cell hfb 0).trans rfl
      have hx1 : wr.drew.cell? ⟨w1.heap.size, 1, none⟩ = some (.int .i64 0) := (blk_cell hfb 1).trans rfl
      have hI := Aside0.mk (show Lib.IsBuilder 46 5 b b (Lib.byteCells (cysTxt L)) wr.drew from by have h := HI.out; rw [List.take_length] at h; exact h)
      have hBd := Aside0.mk (show Below b W2 wr.drew from below_drew1 HBr.out)
      have HFB := Aside0.mk (show wr.drew.heap[w1.heap.size]? = some (.cells #[.int .i64 0, .int .i64 0] 26 (0, 0)) from hfb)
      have HRB := Aside0.mk (show wr.drew.heap[w.heap.size]? = some (.cells #[.int .i64 0, .int .i64 0] 26 (0, 0)) from hrb)
      have HSB := Aside0.mk (show b ≤ wr.drew.heap.size from hsb)
      clear hfb hrb hsb HI HBr HLN
      refine start_ (n := 4) (S := fun w' => w'.cell? ⟨w1.heap.size, 0, none⟩ = some (.int .i64 0) ∧ w'.cell? ⟨w1.heap.size, 1, none⟩ = some (.int .i64 0)) (ds := [3]) #[false, false, false, false] (by kernel_rfl) rfl rfl ⟨hx0, hx1⟩ (fun hHeld => ?_); refine with_tabW tab18 bits18 (fun HT_ HW_ => ?_)
      generalize wr.drew = w15 at hI hBd HFB HRB HSB hx0 hx1 hHeld ⊢
      refine take_ (i := 1) (N := some 50) (v := ?_) (a' := ?_) #[false, true, false, false] rfl rfl (take_ofW HT_.out HW_.out (by kernel_rfl)) (fun _ _ _ h => h) (Or.inl ⟨by rfl, ?_⟩) hHeld ?_ ?_
      rotate_left
      · rintro w' ⟨s0, s1⟩
        go_simp
        with_reducible rfl
      rotate_left
      · simp only [Act.put, List.setIfInBounds_toArray, List.set_cons_zero, List.set_cons_succ, i64_w, i32_w]
        rfl
      refine one_ (i := 0) (N := some 49) #[true, true, false, false] rfl rfl (one_of HT_.out (by kernel_rfl)) (by decide) (fun K hK => ?_)
      refine goes_ Tryz.func23 (by kernel_rfl) rfl #[.pointer (some ⟨b, 0, none⟩)] (by rfl) rfl rfl (by first | rfl | (simp [Act.eval]; done)) ?_
      refine (Tryz.Builder_String_any b b (cysTxt L) w15 hI.out HSB.out).mono ?_
      rintro e w6 ⟨rfl, hb6⟩
      refine ⟨_, rfl, ?_⟩
      have hlt1 := HS2.out
      have HR6 := Aside0.mk ((hb6.block _ (by omega)).trans HRB.out)
      have HB6 := Aside0.mk (hBd.out.trans hb6)
      refine hK.out _ _ ⟨(hb6.cell (p := ⟨w1.heap.size, 0, none⟩) (by simp; omega)).trans hHeld.1, (hb6.cell (p := ⟨w1.heap.size, 1, none⟩) (by simp; omega)).trans hHeld.2⟩ (fun hHeld => ?_)
      clear hK K hb6 hx0 hx1 hlt1
      refine norm_ (a' := ?_) ?_ ?_
      rotate_left
      · show Act.put _ (some 49) _ = _
        simp only [Act.put, List.setIfInBounds_toArray, List.set_cons_zero, List.set_cons_succ, i64_w, i32_w]
        rfl
      refine pure_ (i := 2) (N := some 2) (v := ?_) (a' := ?_) #[true, true, true, false] rfl rfl (any_of HT_.out (by kernel_rfl)) (fun _ _ _ h => h) (Or.inl ⟨by rfl, ?_⟩) ?_ ?_
      rotate_left
      · intro w'
        go_simp
        with_reducible rfl
      rotate_left
      · simp only [Act.put, List.setIfInBounds_toArray, List.set_cons_zero, List.set_cons_succ, i64_w, i32_w]
        rfl
      have hcr0 : w6.cell? ⟨w.heap.size, 0, none⟩ = some (.int .i64 0) := (blk_cell HR6.out 0).trans rfl
      have hcr1 : w6.cell? ⟨w.heap.size, 1, none⟩ = some (.int .i64 0) := (blk_cell HR6.out 1).trans rfl
      have hz0 := blk_frozen HR6.out 0
      have hz1 := blk_frozen HR6.out 1
      refine last_ (i := 3) (N := none) #[true, true, true, true] rfl rfl (one_of HT_.out (by kernel_rfl)) (by decide) (fun K hK => ?_)
      refine skip_ (w1 := ?_) (by rfl) rfl ?_ ?_
      rotate_left
      · go_simp
        rfl
      refine hK.out _ _ ?_
      clear hK K
      refine done_ (done_of HT_.out (by kernel_rfl)) ?_
      try go_wp2
      refine bodyPost_ret (v := .tuple #[.string ⟨(cysTxt L).toArray⟩, .agg #[.int .i64 0, .int .i64 0]]) (results_list (rs := [.tmp 2, .cell 3 26]) rfl (by simp) (.tmp (.cell w.heap.size 26 #[.int .i64 0, .int .i64 0] (0, 0) _ rfl (blk_put (blk_put HR6.out 0 _ rfl) 1 _ rfl) Tryz.underlying26 rfl (by kernel_rfl) .nil))) rfl ⟨by rw [HLR.out], ?_⟩
      exact below_set (below_set (HBW.out.trans (HB6.out.mono (by have := HS2.out; omega))) (Nat.le_refl _)) (Nat.le_refl _)
end Go.Proofs.YtkplhpnhjfdelaaGreatDoor.TX
namespace Go.Proofs.YtkplhpnhjfdelaaGreatDoor.TXB
open Go.RowKit Go.Proofs.YtkplhpnhjfdelaaGreatDoorW.PrintWords Go.Proofs.YtkplhpnhjfdelaaGreatDoorW.PrintLast Go.Proofs.YtkplhpnhjfdelaaGreatDoorW.PrintMore Go.Proofs.YtkplhpnhjfdelaaGreatDoor.CL Go.Proofs.YtkplhpnhjfdelaaGreatDoor.CY Go.Proofs.YtkplhpnhjfdelaaGreatDoor.CYY Go.Proofs.YtkplhpnhjfdelaaGreatDoor.CYR Go.Proofs.YtkplhpnhjfdelaaGreatDoor.CYS Go.Proofs.YtkplhpnhjfdelaaGreatDoor.CYB Go.Proofs.YtkplhpnhjfdelaaGreatDoor.PPermCycles
set_option linter.unusedVariables false
set_option linter.unusedSimpArgs false
set_option maxHeartbeats 4000000 in
set_option maxRecDepth 100000 in
theorem Text_bad (k : Nat) (A : Option Addr) (cap : Nat) (p : List Int) (f1 f2 : Int) (w : World) (hp : Kd.C (Kd.int .i64) w A p.length p) (hc : p.length ≤ cap) (hf : perm_Check.f k p = some (f1, f2)) (hne : f1 ≠ 0) :
    Calls Tryz.prog 7 #[.slice A p.length cap] w fun e w' => e = .returned (.tuple #[.string ⟨#[]⟩, .agg #[.int .i64 f1, .int .i64 f2]]) ∧ Below w.heap.size w w' := by
  go_enter Tryz.func7, Tryz.ntmps7
  have hz1 : (f1 != 0) = true := bne_iff_ne.mpr hne
  go_wp2_with fail
  refine (Cycles_bad k A cap p f1 f2 _ (Kd.C_below hp ((Below.refl _ _).alloc (Nat.le_refl _) _)) hc hf hne).mono ?_
  rintro e w1 ⟨rfl, hb1⟩
  have hr1 : w1.heap[w.heap.size]? = some (.cells #[.int .i64 0, .int .i64 0] 26 (0, 0)) := by
    rw [hb1.block w.heap.size (by simp)]
    exact heap_alloc_new w _
  have hsz1 : w.heap.size + 1 ≤ w1.heap.size := by have := hb1.size; simpa using this
  have hbel : Below w.heap.size w w1 := ((Below.refl _ _).alloc (Nat.le_refl _) _).trans (hb1.mono (by simp))
  clear hb1 hp hf hne
  go_wp2_with fail
  obtain ⟨W2, hW2⟩ : ∃ W2 : World, W2 = w1.alloc (Obj.cells #[Value.int IntKind.i64 f1, Value.int IntKind.i64 f2] 26) := ⟨_, rfl⟩
  have hr2 : W2.heap[w.heap.size]? = some (.cells #[.int .i64 0, .int .i64 0] 26 (0, 0)) := by rw [hW2]; exact blk_alloc hr1 _
  have hf2 : W2.heap[w1.heap.size]? = some (.cells #[.int .i64 f1, .int .i64 f2] 26 (0, 0)) := by rw [hW2]; exact heap_alloc_new w1 _
  have hb2 : Below w.heap.size w W2 := by rw [hW2]; exact hbel.alloc hbel.size _
  have g0 : W2.cell? ⟨w1.heap.size, 0, none⟩ = some (.int .i64 f1) := (blk_cell hf2 0).trans rfl
  have g1 : W2.cell? ⟨w1.heap.size, 1, none⟩ = some (.int .i64 f2) := (blk_cell hf2 1).trans rfl
  have hcr0 : W2.cell? ⟨w.heap.size, 0, none⟩ = some (.int .i64 0) := (blk_cell hr2 0).trans rfl
  have hcr1 : W2.cell? ⟨w.heap.size, 1, none⟩ = some (.int .i64 0) := (blk_cell hr2 1).trans rfl
  have hz0 := blk_frozen hr2 0
  have hz3 := blk_frozen hr2 1
  have HR2 := Aside0.mk (And.intro hr2 hb2)
  rw [← hW2]
  clear hW2 hr2 hf2 hb2 hbel hr1 hsz1
  go_region
  go_wp2
  refine bodyPost_ret (v := .tuple #[.string ⟨#[]⟩, .agg #[.int .i64 f1, .int .i64 f2]]) (results_list (rs := [.tmp 2, .cell 3 26]) rfl (by simp) (.tmp (.cell w.heap.size 26 #[.int .i64 f1, .int .i64 f2] (0, 0) _ rfl (blk_drew (blk_put (blk_put HR2.out.1 0 _ rfl) 1 _ rfl)) Tryz.underlying26 rfl (by kernel_rfl) .nil))) rfl ⟨rfl, ?_⟩
  exact (below_set (below_set HR2.out.2 (Nat.le_refl _)) (Nat.le_refl _)).drew
set_option maxHeartbeats 4000000 in
set_option maxRecDepth 100000 in
theorem Text_id (k : Nat) (A : Option Addr) (cap : Nat) (p : List Int) (r : List (List Int)) (w : World) (hp : Kd.C (Kd.int .i64) w A p.length p) (hc : p.length ≤ cap) (hn : p.length ≤ 1000) (hf : perm_Check.f k p = some (0, 0))
    (h : cycOut k p (List.replicate p.length false) 0 [] = some r) (he : big r = []) :
    Calls Tryz.prog 7 #[.slice A p.length cap] w fun e w' => e = .returned (.tuple #[.string ⟨#[40, 41]⟩, .agg #[.int .i64 0, .int .i64 0]]) ∧ Below w.heap.size w w' := by
  go_enter Tryz.func7, Tryz.ntmps7
  go_wp2_with fail
  refine (Cycles_calls k A cap p r _ (Kd.C_below hp ((Below.refl _ _).alloc (Nat.le_refl _) _)) hc hn hf h).mono ?_
  rintro e w1 ⟨v, rfl, hv, hb1⟩
  rw [he] at hv
  have hr1 : w1.heap[w.heap.size]? = some (.cells #[.int .i64 0, .int .i64 0] 26 (0, 0)) := by
    rw [hb1.block w.heap.size (by simp)]
    exact heap_alloc_new w _
  have hsz1 : w.heap.size + 1 ≤ w1.heap.size := by have := hb1.size; simpa using this
  have hbel : Below w.heap.size w w1 := ((Below.refl _ _).alloc (Nat.le_refl _) _).trans (hb1.mono (by simp))
  obtain ⟨Ad, cp, rfl⟩ := Kd.R_slice hv
  have H0 := Aside0.mk (And.intro hv (And.intro hr1 (And.intro hsz1 hbel)))
  clear hb1 hp hf hv hr1 hsz1 hbel h
  go_wp2_with fail
  obtain ⟨W2, hW2⟩ : ∃ W2 : World, W2 = w1.alloc (Obj.cells #[Value.int IntKind.i64 0, Value.int IntKind.i64 0] 26) := ⟨_, rfl⟩
  have hr2 : W2.heap[w.heap.size]? = some (.cells #[.int .i64 0, .int .i64 0] 26 (0, 0)) := by rw [hW2]; exact blk_alloc H0.out.2.1 _
  have hf2 : W2.heap[w1.heap.size]? = some (.cells #[.int .i64 0, .int .i64 0] 26 (0, 0)) := by rw [hW2]; exact heap_alloc_new w1 _
  have hb2 : Below w.heap.size w W2 := by rw [hW2]; exact H0.out.2.2.2.alloc H0.out.2.2.2.size _
  have g0 : W2.cell? ⟨w1.heap.size, 0, none⟩ = some (.int .i64 0) := (blk_cell hf2 0).trans rfl
  have g1 : W2.cell? ⟨w1.heap.size, 1, none⟩ = some (.int .i64 0) := (blk_cell hf2 1).trans rfl
  have hcr0 : W2.cell? ⟨w.heap.size, 0, none⟩ = some (.int .i64 0) := (blk_cell hr2 0).trans rfl
  have hcr1 : W2.cell? ⟨w.heap.size, 1, none⟩ = some (.int .i64 0) := (blk_cell hr2 1).trans rfl
  have hz0 := blk_frozen hr2 0
  have hz3 := blk_frozen hr2 1
  have HR2 := Aside0.mk (And.intro hr2 hb2)
  rw [← hW2]
  clear hW2 hr2 hf2 hb2
  go_region
  go_wp2
  refine bodyPost_ret (v := .tuple #[.string ⟨#[40, 41]⟩, .agg #[.int .i64 0, .int .i64 0]]) (results_list (rs := [.tmp 2, .cell 3 26]) rfl (by simp) (.tmp (.cell w.heap.size 26 #[.int .i64 0, .int .i64 0] (0, 0) _ rfl (blk_drew (blk_put (blk_put HR2.out.1 0 _ rfl) 1 _ rfl)) Tryz.underlying26 rfl (by kernel_rfl) .nil))) rfl ⟨rfl, ?_⟩
  exact (below_set (below_set HR2.out.2 (Nat.le_refl _)) (Nat.le_refl _)).drew
end Go.Proofs.YtkplhpnhjfdelaaGreatDoor.TXB
namespace Go.Proofs.YtkplhpnhjfdelaaGreatDoor.TXG
open Go.RowKit Go.Proofs.YtkplhpnhjfdelaaGreatDoorW.PrintWords Go.Proofs.YtkplhpnhjfdelaaGreatDoorW.PrintLast Go.Proofs.YtkplhpnhjfdelaaGreatDoorW.PrintMore Go.Proofs.YtkplhpnhjfdelaaGreatDoor.CL Go.Proofs.YtkplhpnhjfdelaaGreatDoor.CY Go.Proofs.YtkplhpnhjfdelaaGreatDoor.CYY Go.Proofs.YtkplhpnhjfdelaaGreatDoor.CYR Go.Proofs.YtkplhpnhjfdelaaGreatDoor.CYS Go.Proofs.YtkplhpnhjfdelaaGreatDoor.TX Go.Proofs.YtkplhpnhjfdelaaGreatDoor.PPermCycles
set_option linter.unusedVariables false
set_option linter.unusedSimpArgs false
theorem dec_len3 (n : Nat) (h : n < 1000) : (Lib.decDigits n).length ≤ 3 := by
  rw [Lib.decDigits]
  split
  · simp
  · rw [Lib.decDigits]
    split
    · simp
    · rw [Lib.decDigits, dif_pos (by omega)]
      simp
theorem el_len3 (i : Nat) (x : Int) (h0 : 0 ≤ x) (h1 : x < 1000) : (el i x).length ≤ 4 := by
  have := dec_len3 x.toNat (by omega)
  simp only [el, List.length_cons]
  omega
theorem below_grow {B : Nat} {w w' : World} (h : Below B w w') (k : Nat) (os : Array Obj) (hB : B ≤ w'.heap.size) : Below B w (Sort.grow (w'.drewN k) os) :=
  h.trans ⟨rfl, rfl, rfl, by simp [Sort.grow, World.drewN], fun j hj => by
    show (w'.heap ++ os)[j]? = _
    rw [Array.getElem?_append_left (by omega)]⟩
set_option maxHeartbeats 4000000 in
set_option maxRecDepth 100000 in
theorem Text_gen (k : Nat) (A : Option Addr) (cap : Nat) (p : List Int) (r : List (List Int)) (w : World) (hp : Kd.C (Kd.int .i64) w A p.length p) (hc : p.length ≤ cap) (hn : p.length ≤ 1000) (hf : perm_Check.f k p = some (0, 0))
    (htab : Lib.TabIs Tryz.prog w "internal/strconv.uint64pow10" .u64 Lib.pow10Tab)
    (h : cycOut k p (List.replicate p.length false) 0 [] = some r) (hne : big r ≠ []) (hlen : (big r).length ≤ 1000) (hrow : ∀ c ∈ big r, c.length ≤ 1000 ∧ ∀ x ∈ c, 0 ≤ x ∧ x < 1000) :
    Calls Tryz.prog 7 #[.slice A p.length cap] w fun e w' => e = .returned (.tuple #[.string ⟨(cysTxt (big r)).toArray⟩, .agg #[.int .i64 0, .int .i64 0]]) ∧ Below w.heap.size w w' := by
  go_enter Tryz.func7, Tryz.ntmps7
  go_wp2_with fail
  refine (Cycles_calls k A cap p r _ (Kd.C_below hp ((Below.refl _ _).alloc (Nat.le_refl _) _)) hc hn hf h).mono ?_
  rintro e w1 ⟨v, rfl, hv, hb1⟩
  have hr1 : w1.heap[w.heap.size]? = some (.cells #[.int .i64 0, .int .i64 0] 26 (0, 0)) := by
    rw [hb1.block w.heap.size (by simp)]
    exact heap_alloc_new w _
  have hsz1 : w.heap.size + 1 ≤ w1.heap.size := by have := hb1.size; simpa using this
  have hbel : Below w.heap.size w w1 := ((Below.refl _ _).alloc (Nat.le_refl _) _).trans (hb1.mono (by simp))
  obtain ⟨Ad, cp, rfl⟩ := Kd.R_slice hv
  obtain ⟨L, hL⟩ : ∃ L, L = big r := ⟨_, rfl⟩
  rw [← hL] at hv hne hlen hrow ⊢
  have hln : 0 < L.length := List.length_pos_iff.mpr hne
  have HLR := Aside0.mk hL
  have HV := Aside0.mk hv
  have HB := Aside0.mk hbel
  have HR1 := Aside0.mk hr1
  have HSZ := Aside0.mk hsz1
  have HRW := Aside0.mk hrow
  have HTB := Aside0.mk (Lib.tabBelow_of_tabIs htab)
  have hl0 : ((L.length : Int) == 0) = false := by simp; omega
  clear hb1 hp hf hbel hr1 hsz1 h hv hL hrow hne htab
  go_wp2_with fail
  obtain ⟨W2, hW2⟩ : ∃ W2 : World, W2 = (w1.alloc (Obj.cells #[Value.int IntKind.i64 0, Value.int IntKind.i64 0] 26)).alloc (Obj.cells #[Value.pointer none, Value.slice none 0 0] 46) := ⟨_, rfl⟩
  have hb2 : Below w1.heap.size w1 W2 := by rw [hW2]; exact ((Below.refl _ _).alloc (Nat.le_refl _) _).alloc (by simp) _
  have hs2 : W2.heap.size = w1.heap.size + 2 := by rw [hW2]; simp
  have hf2 : W2.heap[w1.heap.size]? = some (.cells #[.int .i64 0, .int .i64 0] 26 (0, 0)) := by
    rw [hW2]; exact (Below.heap_alloc _ _ _ (by simp)).trans (heap_alloc_new w1 _)
  have hv2 : W2.heap[w1.heap.size + 1]? = some (.cells #[.pointer none, .slice none 0 0] 46 (0, 0)) := by
    rw [hW2]
    have := heap_alloc_new (w1.alloc (Obj.cells #[Value.int IntKind.i64 0, Value.int IntKind.i64 0] 26)) (Obj.cells #[Value.pointer none, Value.slice none 0 0] 46)
    simpa using this
  rw [← hW2]
  have hr2 : W2.heap[w.heap.size]? = some (.cells #[.int .i64 0, .int .i64 0] 26 (0, 0)) := (hb2.block _ (by have := HSZ.out; omega)).trans HR1.out
  have hC2 : Kd.C (Kd.slice 3 (Kd.int .i64)) w1 Ad L.length L := (Kd.R_reads' HV.out).2.2
  have HB12 := Aside0.mk hb2
  have hbW : Below w.heap.size w W2 := HB.out.trans (hb2.mono (by have := HSZ.out; omega))
  obtain ⟨b, hb⟩ : ∃ b, b = w1.heap.size + 1 := ⟨_, rfl⟩
  have hI2 : Lib.IsBuilder 46 5 b b (Lib.byteCells (cysTxt (L.take 0))) W2 := .inl ⟨Nat.le_refl _, .slice none 0 0, by rw [hb]; exact hv2, World.ownsRow_nil _ _ _ _, by simp [Value.ownBlock]⟩
  have HC2 := Aside0.mk hC2
  have HR2 := Aside0.mk hr2
  have HF2 := Aside0.mk hf2
  have HBW := Aside0.mk hbW
  have HI2 := Aside0.mk hI2
  have HS2 := Aside0.mk (show b + 1 = W2.heap.size ∧ w.heap.size < b ∧ w1.heap.size < b from ⟨by omega, by have := HSZ.out; omega, by omega⟩)
  rw [← hb]
  have hlL : (L.length : Int) ≤ 1000 := by omega
  clear hW2 hb2 hs2 hf2 hv2 hr2 hC2 hbW hI2 HV HB HR1 HSZ hb
  go_loopw [26] (fun v wr => ∃ i : Nat, v = .int .i64 i ∧ i ≤ L.length ∧ Aside0 (Lib.IsBuilder 46 5 b b (Lib.byteCells (cysTxt (L.take i))) wr) ∧ Aside0 (Below b W2 wr) ∧ Aside0 ((cysTxt (L.take i)).length ≤ i * 4001)) (fun v _ => L.length - (intOf v).toNat)
  case atStart => exact ⟨0, rfl, Nat.zero_le _, HI2, ⟨Below.refl _ _⟩, ⟨by simp [cysTxt]⟩⟩
  case round =>
    obtain ⟨i, rfl, hi, HI, HBr, HLN⟩ := hrel
    by_cases hlt : i < L.length
    · obtain ⟨c, hc'⟩ : ∃ c, L[i]? = some c := ⟨_, List.getElem?_eq_getElem hlt⟩
      have hbw : Below w1.heap.size w1 wr := HB12.out.trans (HBr.out.mono (by have := HS2.out; omega))
      obtain ⟨ad, Aj, cj, ea, hcell1, hrow1⟩ := CK.row_at HC2.out hc'
      have hcell2 := (hbw.cell (World.block_lt_of_cell? w1 _ hcell1)).trans hcell1
      clear hcell1
      have hmem : c ∈ L := List.mem_of_getElem? hc'
      have hcl : (c.length : Int) ≤ 1000 := by have := (HRW.out c hmem).1; omega
      have HCX := Aside0.mk (HRW.out c hmem).2
      have HCI := Aside0.mk hc'
      subst ea
      have hia : (i : Int) < (L.length : Int) := by omega
      clear hmem
      have HROW := Aside0.mk hrow1
      have HLT := Aside0.mk hlt
      clear hc' hrow1 hbw hlt
      go_wp2_with fail
      go_loopw [32] (fun v wq => ∃ j : Nat, v = .int .i64 j ∧ j ≤ c.length ∧ Aside0 (Lib.IsBuilder 46 5 b b (Lib.byteCells (cysTxt (L.take i) ++ TX.part c j)) wq) ∧ Aside0 (Below b W2 wq) ∧ Aside0 ((TX.part c j).length ≤ j * 4)) (fun v _ => c.length - (intOf v).toNat)
      case atStart => exact ⟨0, rfl, Nat.zero_le _, ⟨by have h := HI.out; simpa [TX.part] using h⟩, HBr, ⟨by simp [TX.part]⟩⟩
      case round =>
        obtain ⟨j, rfl, hj, HIq, HBq, HLq⟩ := hrel
        by_cases hjl : j < c.length
        · obtain ⟨x, hx⟩ : ∃ x, c[j]? = some x := ⟨_, List.getElem?_eq_getElem hjl⟩
          have hbw : Below w1.heap.size w1 wr := HB12.out.trans (HBq.out.mono (by have := HS2.out; omega))
          obtain ⟨ax, ex, hxc⟩ := CK.int_at (Kd.C_below HROW.out hbw) hx
          have hxr := HCX.out x (List.mem_of_getElem? hx)
          have hgd : c.getD j 0 = x := by rw [List.getD_eq_getElem?_getD, hx]; rfl
          have HXX := Aside0.mk (And.intro hxr hgd)
          subst ex
          have hja : (j : Int) < (c.length : Int) := by omega
          obtain ⟨n, rfl⟩ : ∃ n : Nat, x = (n : Int) := ⟨x.toNat, by have := HXX.out.1; omega⟩
          have hn100 : n < 1000 := by have := HXX.out.1; omega
          have HXN := Aside0.mk (show c.getD j 0 = (n : Int) from HXX.out.2)
          have HBN := Aside0.mk hn100
          have hlen1 : (Lib.byteCells (cysTxt (L.take i) ++ TX.part c j)).length ≤ 100000000 := by
            rw [Lib.byteCells_length, List.length_append]
            have h1 := HLN.out
            have h2 := HLq.out
            omega
          have HL1 := Aside0.mk hlen1
          have hsb : b ≤ wr.heap.size := by have := HBq.out.size; have := HS2.out; omega
          have HSB := Aside0.mk hsb
          clear hx hbw hxr hgd hjl hlen1 hn100 HXX hsb
          go_wp2_with (first
            | (refine wp_makeMap rfl 51 rfl ?_)
            | (refine wp_insert rfl (.tmp 37) (.const (.bool true)) (.const (.string ⟨#[40]⟩)) 51 rfl 4 9 (Maps.bool_keyed Tryz.underlying4) Tryz.underlying51 (plainElem Tryz.prog 9) wr.heap.size 0 (.map []) rfl (World.ownsMap_made _ _ _ _) (by simp [maxLen]) _ _ (.bool true) rfl rfl (Maps.keyOf_bool_mk Tryz.underlying4 true) _ [] (plainElem_string Tryz.underlying9 (show (1 : Nat) ≤ maxLen by simp [maxLen])) ?_; intro wm1 hown1 hgm1)
            | (refine wp_insert rfl (.tmp 37) (.const (.bool false)) (.const (.string ⟨#[32]⟩)) 51 rfl 4 9 (Maps.bool_keyed Tryz.underlying4) Tryz.underlying51 (plainElem Tryz.prog 9) wr.heap.size (0 + 1) _ rfl hown1 (by simp [maxLen]) _ _ (.bool false) rfl rfl (Maps.keyOf_bool_mk Tryz.underlying4 false) _ [] (plainElem_string Tryz.underlying9 (show (1 : Nat) ≤ maxLen by simp [maxLen])) ?_; intro wm2 hown2 hgm2)
            | (refine wp_lookup rfl (.tmp 38) (.tmp 40) 51 rfl 4 9 (Maps.bool_keyed Tryz.underlying4) Tryz.underlying51 Tryz.underlying9 (Tryz.zeroValue9 _) wr.heap.size (0 + 1 + 1) mapD rfl hown2 (.bool ((j : Int) == 0)) (.bool ((j : Int) == 0)) rfl (Maps.keyOf_bool_mk Tryz.underlying4 _) ?_; intro s hs)
            | fail)
          have hs1 : s.data.toList = [if j = 0 then 40 else 32] := by
            rw [mapD_at] at hs
            injection hs with hs
            injection hs with hs
            rw [← hs]
            by_cases h0 : j = 0
            · simp [h0]
            · simp [h0]
          have hkm : ∀ k, k < wr.heap.size → wm2.heap[k]? = wr.heap[k]? := fun k hk =>
            (hgm2.block k (by have := hgm1.size; simp at this; omega) (by simp; omega)).trans ((hgm1.block k (by simp; omega) (by simp; omega)).trans (Below.heap_alloc _ _ _ hk))
          have him : Lib.IsBuilder 46 5 b b (Lib.byteCells (cysTxt (L.take i) ++ TX.part c j)) wm2 := isb_keep HIq.out hkm
          have hbm : Below b W2 wm2 := by
            have h1 : Below b W2 (wr.alloc (.map #[] 0)) := HBq.out.alloc HSB.out _
            have h2 := h1.grown hgm1 (by have := HSB.out; simp; omega) (by intro k hk; cases hk; exact HSB.out)
            exact h2.grown hgm2 (by have := HSB.out; have := hgm1.size; simp at this; omega) (by intro k hk; cases hk; exact HSB.out)
          have hszm : b ≤ wm2.heap.size := by have := hbm.size; have := HS2.out; omega
          have hss : s.size = 1 := by rw [← ByteArray.size_data, ← Array.length_toList, hs1]; rfl
          refine (Tryz.Builder_WriteString b b _ s wm2 him (by have := HL1.out; omega) hszm).mono ?_
          rintro e W3 ⟨rfl, hI3, hb3⟩
          have HI3 := Aside0.mk hI3
          have HB3 := Aside0.mk (hbm.trans hb3)
          have HS1 := Aside0.mk hs1
          clear hs him hbm hkm hI3 hb3 hown1 hown2 hgm1 hgm2 hss hs1 hszm
          go_wp2_with fail
          have hitoa := Tryz.strconv_Itoa (n : Int) (by omega) (by have := HBN.out; omega) _ (HTB.out _ (HBW.out.trans (HB3.out.mono (by have := HS2.out; omega))))
          rw [Lib.itoa_nonneg] at hitoa
          refine hitoa.mono ?_
          rintro e W4 ⟨rfl, kk, os, hW4⟩
          have hs3 : b ≤ W3.heap.size := by have := HB3.out.size; have := HS2.out; omega
          have hI4 : Lib.IsBuilder 46 5 b b (Lib.byteCells (cysTxt (L.take i) ++ TX.part c j) ++ Lib.strCells s) W4 := isb_keep (.inr HI3.out) (fun q hq => by rw [hW4]; exact (below_grow (Below.refl W3.heap.size W3) kk os (Nat.le_refl _)).block q hq)
          have hB4 : Below b W2 W4 := by rw [hW4]; exact below_grow HB3.out kk os hs3
          have HI4 := Aside0.mk hI4
          have HB4 := Aside0.mk hB4
          clear hitoa hW4 hs3 hI4 hB4
          go_wp2_with fail
          have hdl : (Lib.decDigits n).length ≤ 3 := dec_len3 n HBN.out
          refine (Tryz.Builder_WriteString b b _ ⟨(Lib.decDigits n).toArray⟩ _ HI4.out ?hlen (by have := HB4.out.size; have := HS2.out; omega)).mono ?_
          case hlen =>
            have h1 := HL1.out
            rw [List.length_append, Lib.strCells_length]
            have h2 : s.size = 1 := by rw [← ByteArray.size_data, ← Array.length_toList, HS1.out]; rfl
            have h3 : (⟨(Lib.decDigits n).toArray⟩ : ByteArray).size = (Lib.decDigits n).length := by rw [← ByteArray.size_data]; simp
            omega
          rintro e W5 ⟨rfl, hI5, hb5⟩
          have hbs : (Lib.byteCells (cysTxt (L.take i) ++ TX.part c j) ++ Lib.strCells s) ++ Lib.strCells ⟨(Lib.decDigits n).toArray⟩ = Lib.byteCells (cysTxt (L.take i) ++ TX.part c (j + 1)) := by
            show (Lib.byteCells _ ++ Lib.byteCells s.data.toList) ++ Lib.byteCells (Lib.decDigits n) = _
            rw [HS1.out, part_succ, HXN.out, ← Lib.byteCells_append, ← Lib.byteCells_append]
            simp [el]
          rw [hbs] at hI5
          have hpl : (TX.part c (j + 1)).length ≤ (j + 1) * 4 := by
            rw [part_succ, List.length_append, HXN.out]
            have h1 := HLq.out
            have h2 := el_len3 j (n : Int) (by omega) (by have := HBN.out; omega)
            omega
          have HI5 := Aside0.mk hI5
          have HB5 := Aside0.mk (HB4.out.trans hb5)
          have HPL := Aside0.mk hpl
          clear hbs hI5 hb5 hpl hdl
          go_wp2
          go_roundw
          case rel => exact ⟨j + 1, rfl, by omega, ⟨.inr HI5.out⟩, HB5, HPL⟩
          case measure => simp [intOf]; omega
        · have hje : j = c.length := by omega
          subst hje
          go_wp2_with fail
          have hlen2 : (Lib.byteCells (cysTxt (L.take i) ++ TX.part c c.length)).length + 1 ≤ 140737488355328 := by
            rw [Lib.byteCells_length, List.length_append]
            have h1 := HLN.out
            have h2 := HLq.out
            omega
          refine (Tryz.Builder_WriteString b b _ ⟨#[41]⟩ _ HIq.out hlen2 (by have := HBq.out.size; have := HS2.out; omega)).mono ?_
          rintro e W5 ⟨rfl, hI5, hb5⟩
          have hbs : Lib.byteCells (cysTxt (L.take i) ++ TX.part c c.length) ++ Lib.strCells ⟨#[41]⟩ = Lib.byteCells (cysTxt (L.take (i + 1))) := by
            show Lib.byteCells _ ++ Lib.byteCells [41] = _
            rw [take_succ HCI.out, ← Lib.byteCells_append]
            simp [cyTxt]
          rw [hbs] at hI5
          have hpl : (cysTxt (L.take (i + 1))).length ≤ (i + 1) * 4001 := by
            rw [take_succ HCI.out, List.length_append, cyTxt, List.length_append]
            have h1 := HLN.out
            have h2 := HLq.out
            simp only [List.length_cons, List.length_nil]
            omega
          have HI5 := Aside0.mk hI5
          have HB5 := Aside0.mk (HBq.out.trans hb5)
          have HPL := Aside0.mk hpl
          clear hbs hI5 hb5 hpl hlen2
          go_wp2
          go_roundw
          case rel => exact ⟨i + 1, rfl, by have := HLT.out; omega, ⟨.inr HI5.out⟩, HB5, HPL⟩
          case measure => have := HLT.out; simp [intOf]; omega
    · have hie : i = L.length := by omega
      subst hie
      go_wp2_with fail
      have hfb : wr.heap[w1.heap.size]? = some (.cells #[.int .i64 0, .int .i64 0] 26 (0, 0)) := (HBr.out.block _ (by have := HS2.out; omega)).trans HF2.out
      have hrb : wr.heap[w.heap.size]? = some (.cells #[.int .i64 0, .int .i64 0] 26 (0, 0)) := (HBr.out.block _ (by have := HS2.out; omega)).trans HR2.out
      have hsb : b ≤ wr.heap.size := by have := HBr.out.size; have := HS2.out; omega
      have hx0 : wr.drew.cell? ⟨w1.heap.size, 0, none⟩ = some (.int .i64 0) := (blk_cell hfb 0).trans rfl
      have hx1 : wr.drew.cell? ⟨w1.heap.size, 1, none⟩ = some (.int .i64 0) := (blk_cell hfb 1).trans rfl
      have hI := Aside0.mk (show Lib.IsBuilder 46 5 b b (Lib.byteCells (cysTxt L)) wr.drew from by have h := HI.out; rw [List.take_length] at h; exact h)
      have hBd := Aside0.mk (show Below b W2 wr.drew from below_drew1 HBr.out)
      have HFB := Aside0.mk (show wr.drew.heap[w1.heap.size]? = some (.cells #[.int .i64 0, .int .i64 0] 26 (0, 0)) from hfb)
      have HRB := Aside0.mk (show wr.drew.heap[w.heap.size]? = some (.cells #[.int .i64 0, .int .i64 0] 26 (0, 0)) from hrb)
      have HSB := Aside0.mk (show b ≤ wr.drew.heap.size from hsb)
      clear hfb hrb hsb HI HBr HLN
      refine start_ (n := 4) (S := fun w' => w'.cell? ⟨w1.heap.size, 0, none⟩ = some (.int .i64 0) ∧ w'.cell? ⟨w1.heap.size, 1, none⟩ = some (.int .i64 0)) (ds := [3]) #[false, false, false, false] (by kernel_rfl) rfl rfl ⟨hx0, hx1⟩ (fun hHeld => ?_); refine with_tabW tab18 bits18 (fun HT_ HW_ => ?_)
      generalize wr.drew = w15 at hI hBd HFB HRB HSB hx0 hx1 hHeld ⊢
      refine take_ (i := 1) (N := some 50) (v := ?_) (a' := ?_) #[false, true, false, false] rfl rfl (take_ofW HT_.out HW_.out (by kernel_rfl)) (fun _ _ _ h => h) (Or.inl ⟨by rfl, ?_⟩) hHeld ?_ ?_
      rotate_left
      · rintro w' ⟨s0, s1⟩
        go_simp
        with_reducible rfl
      rotate_left
      · simp only [Act.put, List.setIfInBounds_toArray, List.set_cons_zero, List.set_cons_succ, i64_w, i32_w]
        rfl
      refine one_ (i := 0) (N := some 49) #[true, true, false, false] rfl rfl (one_of HT_.out (by kernel_rfl)) (by decide) (fun K hK => ?_)
      refine goes_ Tryz.func23 (by kernel_rfl) rfl #[.pointer (some ⟨b, 0, none⟩)] (by rfl) rfl rfl (by first | rfl | (simp [Act.eval]; done)) ?_
      refine (Tryz.Builder_String_any b b (cysTxt L) w15 hI.out HSB.out).mono ?_
      rintro e w6 ⟨rfl, hb6⟩
      refine ⟨_, rfl, ?_⟩
      have hlt1 := HS2.out
      have HR6 := Aside0.mk ((hb6.block _ (by omega)).trans HRB.out)
      have HB6 := Aside0.mk (hBd.out.trans hb6)
      refine hK.out _ _ ⟨(hb6.cell (p := ⟨w1.heap.size, 0, none⟩) (by simp; omega)).trans hHeld.1, (hb6.cell (p := ⟨w1.heap.size, 1, none⟩) (by simp; omega)).trans hHeld.2⟩ (fun hHeld => ?_)
      clear hK K hb6 hx0 hx1 hlt1
      refine norm_ (a' := ?_) ?_ ?_
      rotate_left
      · show Act.put _ (some 49) _ = _
        simp only [Act.put, List.setIfInBounds_toArray, List.set_cons_zero, List.set_cons_succ, i64_w, i32_w]
        rfl
      refine pure_ (i := 2) (N := some 2) (v := ?_) (a' := ?_) #[true, true, true, false] rfl rfl (any_of HT_.out (by kernel_rfl)) (fun _ _ _ h => h) (Or.inl ⟨by rfl, ?_⟩) ?_ ?_
      rotate_left
      · intro w'
        go_simp
        with_reducible rfl
      rotate_left
      · simp only [Act.put, List.setIfInBounds_toArray, List.set_cons_zero, List.set_cons_succ, i64_w, i32_w]
        rfl
      have hcr0 : w6.cell? ⟨w.heap.size, 0, none⟩ = some (.int .i64 0) := (blk_cell HR6.out 0).trans rfl
      have hcr1 : w6.cell? ⟨w.heap.size, 1, none⟩ = some (.int .i64 0) := (blk_cell HR6.out 1).trans rfl
      have hz0 := blk_frozen HR6.out 0
      have hz1 := blk_frozen HR6.out 1
      refine last_ (i := 3) (N := none) #[true, true, true, true] rfl rfl (one_of HT_.out (by kernel_rfl)) (by decide) (fun K hK => ?_)
      refine skip_ (w1 := ?_) (by rfl) rfl ?_ ?_
      rotate_left
      · go_simp
        rfl
      refine hK.out _ _ ?_
      clear hK K
      refine done_ (done_of HT_.out (by kernel_rfl)) ?_
      try go_wp2
      refine bodyPost_ret (v := .tuple #[.string ⟨(cysTxt L).toArray⟩, .agg #[.int .i64 0, .int .i64 0]]) (results_list (rs := [.tmp 2, .cell 3 26]) rfl (by simp) (.tmp (.cell w.heap.size 26 #[.int .i64 0, .int .i64 0] (0, 0) _ rfl (blk_put (blk_put HR6.out 0 _ rfl) 1 _ rfl) Tryz.underlying26 rfl (by kernel_rfl) .nil))) rfl ⟨by rw [HLR.out], ?_⟩
      exact below_set (below_set (HBW.out.trans (HB6.out.mono (by have := HS2.out; omega))) (Nat.le_refl _)) (Nat.le_refl _)
end Go.Proofs.YtkplhpnhjfdelaaGreatDoor.TXG
namespace Go.Proofs.YtkplhpnhjfdelaaGreatDoor.NI
open Go.RowKit Go.Proofs.YtkplhpnhjfdelaaGreatDoorW.PrintWords Go.Proofs.YtkplhpnhjfdelaaGreatDoorW.PrintLast Go.Proofs.YtkplhpnhjfdelaaGreatDoorW.PrintMore Go.Proofs.YtkplhpnhjfdelaaGreatDoor.CL Go.Proofs.YtkplhpnhjfdelaaGreatDoor.PPermCycles
set_option linter.unusedVariables false
set_option linter.unusedSimpArgs false
def ws (x : Int) : List Int := if x = 0 then [] else [x]
set_option maxHeartbeats 4000000 in
set_option maxRecDepth 100000 in
theorem NewInt_calls (x : Int) (w : World) (h0 : 0 ≤ x) (h1 : x < 4294967296) :
    Calls Tryz.prog 35 #[.int .i64 x] w fun e w' => ∃ B A c, e = .returned (.pointer (some ⟨B, 0, none⟩)) ∧ w.heap.size ≤ B ∧ w'.heap[B]? = some (.cells #[.bool false, .slice A (ws x).length c] 67 (0, 0)) ∧ (ws x).length ≤ c ∧ Kd.C (Kd.int .u64) w' A (ws x).length (ws x) ∧ Below w.heap.size w w' := by
  go_enter Tryz.func35, Tryz.ntmps35
  by_cases hx : x = 0
  · subst hx
    go_wp2
    refine bodyPost_ret (results_tmp rfl _ _ _) rfl ⟨w.heap.size, none, 0, rfl, Nat.le_refl _, heap_alloc_new w _, Nat.le_refl _, Kd.C_nil _ _, (Below.refl _ _).alloc (Nat.le_refl _) _⟩
  · have hx1 : (x == 0) = false := by simpa using hx
    have hx2 : decide (x < 0) = false := decide_eq_false (by omega)
    go_wp2
    have h1 := heap_alloc_new w (Obj.cells #[Value.int IntKind.u64 x] 88)
    have h2 := heap_alloc_new (w.alloc (Obj.cells #[Value.int IntKind.u64 x] 88)) (Obj.cells #[Value.bool false, Value.slice (some ⟨w.heap.size, 0, none⟩) 1 1] 67)
    rw [World.size_alloc] at h2
    have h3 : ((w.alloc (Obj.cells #[Value.int IntKind.u64 x] 88)).alloc (Obj.cells #[Value.bool false, Value.slice (some ⟨w.heap.size, 0, none⟩) 1 1] 67)).heap[w.heap.size]? = some (.cells #[.int .u64 x] 88 (0, 0)) := (Below.heap_alloc _ _ _ (by simp)).trans h1
    have hw : ws x = [x] := by simp [ws, hx]
    refine bodyPost_ret (results_tmp rfl _ _ _) rfl ⟨w.heap.size + 1, some ⟨w.heap.size, 0, none⟩, 1, rfl, by omega, by rw [hw]; exact h2, by rw [hw]; exact Nat.le_refl _, ?_, ((Below.refl _ _).alloc (Nat.le_refl _) _).alloc (by simp) _⟩
    rw [hw]
    refine ⟨rfl, by simp, fun _ => ⟨_, rfl, fun j y hj => ?_⟩⟩
    match j, hj with
    | 0, hj =>
      simp at hj
      subst hj
      refine ⟨_, rfl, rfl, fun i u hu => ?_⟩
      match i, hu with
      | 0, hu => simp at hu; subst hu; simp [Addr.add]
end Go.Proofs.YtkplhpnhjfdelaaGreatDoor.NI
