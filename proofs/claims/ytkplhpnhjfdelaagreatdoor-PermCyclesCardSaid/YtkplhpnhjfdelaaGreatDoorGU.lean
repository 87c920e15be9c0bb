/- cayleyref.TextOf: the document's text of a permutation. The text of a permutation, as the code and as the document say it; a list of lists is itself. -/
import Derived.Test.YtkplhpnhjfdelaaGreatDoorGB
import Derived.Test.YtkplhpnhjfdelaaGreatDoorGE
import Derived.Test.YtkplhpnhjfdelaaGreatDoorGL
namespace Go.Proofs.YtkplhpnhjfdelaaGreatDoor.TO
open Go.RowKit Go.Proofs.YtkplhpnhjfdelaaGreatDoorW.PrintWords Go.Proofs.YtkplhpnhjfdelaaGreatDoorW.PrintLast Go.Proofs.YtkplhpnhjfdelaaGreatDoorW.PrintMore Go.Proofs.YtkplhpnhjfdelaaGreatDoor.PPermCycles Go.Proofs.YtkplhpnhjfdelaaGreatDoor.BS Go.Proofs.YtkplhpnhjfdelaaGreatDoor.BT Go.Proofs.YtkplhpnhjfdelaaGreatDoor.TX Go.Proofs.YtkplhpnhjfdelaaGreatDoor.TXG Go.Proofs.YtkplhpnhjfdelaaGreatDoor.CY
set_option linter.unusedVariables false
set_option linter.unusedSimpArgs false
set_option maxHeartbeats 1000000 in
set_option maxRecDepth 100000 in
theorem Str_calls (B n : Nat) (w : World) (hn : n < 1000) (hI : IsC w B n) :
    Calls Tryz.prog 28 #[.pointer (some ⟨B, 0, none⟩)] w fun e w' => e = .returned (.string ⟨(Lib.decDigits n).toArray⟩) ∧ Below w.heap.size w w' := by
  go_enter Tryz.func28, Tryz.ntmps28
  go_wp2_with fail
  refine (CText_calls B n w hn hI).mono ?_
  rintro e w1 ⟨rfl, hb⟩
  have HB := Aside0.mk hb
  clear hb hI
  go_wp2
  go_ret
  exact ⟨rfl, HB.out⟩
/-- What stands of a cycle's text before its point j. -/
def pt (c : List Int) (j : Nat) : List UInt8 := if j = 0 then [40] else TX.part c j
theorem pt_succ (c : List Int) (j : Nat) : pt c (j + 1) = pt c j ++ ((if j = 0 then [] else [32]) ++ Lib.decDigits (c.getD j 0).toNat) := by
  unfold pt
  rw [if_neg (by omega), part_succ]
  by_cases h : j = 0
  · subst h; simp [TX.part, el]
  · simp [h, el]
set_option maxHeartbeats 4000000 in
set_option maxRecDepth 100000 in
theorem TextOf_calls (k : Nat) (A : Option Addr) (cap : Nat) (p : List Int) (L : List (List Int)) (w : World) (hp : Kd.C (Kd.int .i64) w A p.length p) (hc : p.length ≤ cap) (hf : cayleyref_CyclesOf.f k p false = some L) (hne : L ≠ []) (hlen : L.length ≤ 1000)
    (hrow : ∀ c ∈ L, c.length ≤ 1000 ∧ 0 < c.length ∧ ∀ x ∈ c, 0 ≤ x ∧ x < 1000) :
    Calls Tryz.prog 14 #[.slice A p.length cap] w fun e w' => (∃ S, e = .returned (.string S) ∧ S.data.toList = cysTxt L) ∧ Below w.heap.size w w' := by
  go_enter Tryz.func14, Tryz.ntmps14
  go_wp2_with fail
  refine (cayleyref_CyclesOf.calls k A cap p false L w hp hc hf).mono ?_
  rintro e w1 ⟨v, rfl, hv', hb1⟩
  have hv := Kd.S_R hv'
  obtain ⟨Ad, cp, rfl⟩ := Kd.R_slice hv
  clear hv'
  have hln : 0 < L.length := List.length_pos_iff.mpr hne
  have hl0 : ((L.length : Int) == 0) = false := by simp; omega
  have hlL : (L.length : Int) ≤ 1000 := by omega
  have HC := Aside0.mk (Kd.R_reads' hv).2.2
  have HB := Aside0.mk hb1
  have HRW := Aside0.mk hrow
  clear hp hf hv hb1 hne hrow
  go_wp2_with fail
  go_loopw [4, 5] (fun v4 v5 wr => ∃ (i : Nat) (S : ByteArray), v5 = .int .i64 i ∧ v4 = .string S ∧ i ≤ L.length ∧ Aside0 (S.data.toList = cysTxt (L.take i)) ∧ Aside0 (Below w1.heap.size w1 wr) ∧ Aside0 ((cysTxt (L.take i)).length ≤ i * 4002)) (fun v4 v5 _ => L.length - (intOf v5).toNat)
  case atStart => exact ⟨0, _, rfl, rfl, Nat.zero_le _, ⟨by simp [cysTxt]⟩, ⟨Below.refl _ _⟩, ⟨by simp [cysTxt]⟩⟩
  case round =>
    obtain ⟨i, S, rfl, rfl, hi, HS, HBr, HLN⟩ := hrel
    by_cases hlt : i < L.length
    · obtain ⟨c, hc'⟩ : ∃ c, L[i]? = some c := ⟨_, List.getElem?_eq_getElem hlt⟩
      obtain ⟨ad, Aj, cj, ea, hcell1, hrow1⟩ := CK.row_at HC.out hc'
      have hcell2 := (HBr.out.cell (World.block_lt_of_cell? w1 _ hcell1)).trans hcell1
      have HCELL := Aside0.mk hcell1
      clear hcell1
      have hmem : c ∈ L := List.mem_of_getElem? hc'
      have hcl : (c.length : Int) ≤ 1000 := by have := (HRW.out c hmem).1; omega
      have HCX := Aside0.mk (HRW.out c hmem).2
      have HCI := Aside0.mk hc'
      subst ea
      have hia : (i : Int) < (L.length : Int) := by omega
      have HROW := Aside0.mk hrow1
      have HLT := Aside0.mk hlt
      have hsz : S.size ≤ 8000000 := by
        have h1 := HLN.out
        rw [← HS.out, Array.length_toList, ByteArray.size_data] at h1
        omega
      clear hmem hc' hrow1 hlt
      go_wp2_with fail
      go_loopw [4, 6] (fun v4 v6 wq => ∃ (j : Nat) (T : ByteArray), v6 = .int .i64 j ∧ v4 = .string T ∧ j ≤ c.length ∧ Aside0 (T.data.toList = cysTxt (L.take i) ++ pt c j) ∧ Aside0 (Below w1.heap.size w1 wq) ∧ Aside0 ((pt c j).length ≤ j * 4 + 1)) (fun v4 v6 _ => c.length - (intOf v6).toNat)
      case atStart =>
        refine ⟨0, _, rfl, rfl, Nat.zero_le _, ⟨?_⟩, HBr, ⟨by simp [pt]⟩⟩
        rw [ByteArray.data_append, Array.toList_append, HS.out]; simp [pt]
      case round =>
        obtain ⟨j, T, rfl, rfl, hj, HT, HBq, HLq⟩ := hrel
        have hTz : T.size ≤ 8000000 := by
          have h1 := HT.out
          have h2 := congrArg List.length h1
          rw [Array.length_toList, ByteArray.size_data, List.length_append] at h2
          have h3 := HLN.out
          have h4 := HLq.out
          omega
        by_cases hjl : j < c.length
        · obtain ⟨x, hx⟩ : ∃ x, c[j]? = some x := ⟨_, List.getElem?_eq_getElem hjl⟩
          obtain ⟨ax, ex, hxc⟩ := CK.int_at (Kd.C_below HROW.out HBq.out) hx
          have hxr := HCX.out.2 x (List.mem_of_getElem? hx)
          have hgd : c.getD j 0 = x := by rw [List.getD_eq_getElem?_getD, hx]; rfl
          have HXX := Aside0.mk (And.intro hxr hgd)
          subst ex
          have hja : (j : Int) < (c.length : Int) := by omega
          obtain ⟨m, rfl⟩ : ∃ m : Nat, x = (m : Int) := ⟨x.toNat, by have := HXX.out.1; omega⟩
          have HXN := Aside0.mk (show c.getD j 0 = (m : Int) from HXX.out.2)
          have HMN := Aside0.mk (show m < 1000 by have := HXX.out.1; omega)
          clear hx hxr hgd HXX hcell2
          by_cases hj0 : j = 0
          · have hcellq := (HBq.out.cell (World.block_lt_of_cell? w1 _ HCELL.out)).trans HCELL.out
            have hjg : decide (0 < j) = false := decide_eq_false (by omega)
            have hjh : decide ((0 : Int) < (j : Int)) = false := decide_eq_false (by omega)
            have HJ0 := Aside0.mk hj0
            clear hj0
            go_wp2_with fail
            refine (Big_calls m wr HMN.out).mono ?_
            rintro e w4 ⟨B, rfl, hI4, hb4⟩
            have HI4 := Aside0.mk hI4
            have HB4 := Aside0.mk (HBq.out.trans (hb4.mono HBq.out.size))
            clear hI4 hb4 hcellq hxc
            go_wp2_with fail
            refine (Str_calls B m w4 HMN.out HI4.out).mono ?_
            rintro e w5 ⟨rfl, hb5⟩
            have HB5 := Aside0.mk (HB4.out.trans (hb5.mono HB4.out.size))
            obtain ⟨D, hD⟩ : ∃ D : ByteArray, D = ⟨(Lib.decDigits m).toArray⟩ := ⟨_, rfl⟩
            rw [← hD]
            have hDl : D.data.toList = Lib.decDigits m := by rw [hD]
            have hDs : D.size ≤ 3 := by rw [← ByteArray.size_data, ← Array.length_toList, hDl]; exact dec_len3 m HMN.out
            have HDL := Aside0.mk hDl
            clear hb5 hD hDl
            go_wp2
            go_roundw
            case rel =>
              refine ⟨j + 1, _, rfl, rfl, by omega, ⟨?_⟩, HB5, ⟨?_⟩⟩
              · rw [pt_succ, HXN.out, Int.toNat_natCast, ← HDL.out]
                rw [if_pos HJ0.out, ByteArray.data_append, Array.toList_append, HT.out]
                simp
              · rw [pt_succ, HXN.out, Int.toNat_natCast, List.length_append, List.length_append]
                have h1 := HLq.out
                have h2 := dec_len3 m HMN.out
                split <;> simp <;> omega
            case measure => simp [intOf]; omega
          · have hcellq := (HBq.out.cell (World.block_lt_of_cell? w1 _ HCELL.out)).trans HCELL.out
            have hjg : decide (0 < j) = true := decide_eq_true (by omega)
            have hjh : decide ((0 : Int) < (j : Int)) = true := decide_eq_true (by omega)
            have HJ0 := Aside0.mk hj0
            clear hj0
            go_wp2_with fail
            refine (Big_calls m wr HMN.out).mono ?_
            rintro e w4 ⟨B, rfl, hI4, hb4⟩
            have HI4 := Aside0.mk hI4
            have HB4 := Aside0.mk (HBq.out.trans (hb4.mono HBq.out.size))
            clear hI4 hb4 hcellq hxc
            go_wp2_with fail
            refine (Str_calls B m w4 HMN.out HI4.out).mono ?_
            rintro e w5 ⟨rfl, hb5⟩
            have HB5 := Aside0.mk (HB4.out.trans (hb5.mono HB4.out.size))
            obtain ⟨D, hD⟩ : ∃ D : ByteArray, D = ⟨(Lib.decDigits m).toArray⟩ := ⟨_, rfl⟩
            rw [← hD]
            have hDl : D.data.toList = Lib.decDigits m := by rw [hD]
            have hDs : D.size ≤ 3 := by rw [← ByteArray.size_data, ← Array.length_toList, hDl]; exact dec_len3 m HMN.out
            have HDL := Aside0.mk hDl
            clear hb5 hD hDl
            go_wp2
            go_roundw
            case rel =>
              refine ⟨j + 1, _, rfl, rfl, by omega, ⟨?_⟩, HB5, ⟨?_⟩⟩
              · rw [pt_succ, HXN.out, Int.toNat_natCast, ← HDL.out]
                rw [if_neg HJ0.out, ByteArray.data_append, ByteArray.data_append, Array.toList_append, Array.toList_append, HT.out]
                simp
              · rw [pt_succ, HXN.out, Int.toNat_natCast, List.length_append, List.length_append]
                have h1 := HLq.out
                have h2 := dec_len3 m HMN.out
                split <;> simp <;> omega
            case measure => simp [intOf]; omega
        · have hje : j = c.length := by omega
          subst hje
          have hcellq := (HBq.out.cell (World.block_lt_of_cell? w1 _ HCELL.out)).trans HCELL.out
          clear hcell2
          go_wp2
          go_roundw
          case rel =>
            refine ⟨i + 1, _, rfl, rfl, by have := HLT.out; omega, ⟨?_⟩, HBq, ⟨?_⟩⟩
            · rw [ByteArray.data_append, Array.toList_append, HT.out, take_succ HCI.out, cyTxt]
              have h0 := HCX.out.1
              simp [pt, show c.length ≠ 0 by omega]
            · rw [take_succ HCI.out, List.length_append, cyTxt, List.length_append]
              have h1 := HLN.out
              have h2 := HLq.out
              have h0 := HCX.out.1
              rw [pt, if_neg (by omega)] at h2
              simp only [List.length_cons, List.length_nil]
              omega
          case measure => have := HLT.out; simp [intOf]; omega
    · have hie : i = L.length := by omega
      subst hie
      have HF := Aside0.mk (And.intro (show S.data.toList = cysTxt L by have := HS.out; rwa [List.take_length] at this) (HB.out.trans (HBr.out.mono HB.out.size)))
      clear HS HBr
      go_wp2
      go_ret
      exact ⟨⟨_, rfl, HF.out.1⟩, HF.out.2⟩
end Go.Proofs.YtkplhpnhjfdelaaGreatDoor.TO
namespace Go.Proofs.YtkplhpnhjfdelaaGreatDoor.LU
open Go.RowKit Go.Proofs.YtkplhpnhjfdelaaGreatDoorW.PrintWords Go.Proofs.YtkplhpnhjfdelaaGreatDoorW.PrintLast Go.Proofs.YtkplhpnhjfdelaaGreatDoorW.PrintMore Go.Proofs.YtkplhpnhjfdelaaGreatDoor.PPermCycles Go.Proofs.YtkplhpnhjfdelaaGreatDoor.CY Go.Proofs.YtkplhpnhjfdelaaGreatDoor.CYR Go.Proofs.YtkplhpnhjfdelaaGreatDoor.TX Go.Proofs.YtkplhpnhjfdelaaGreatDoor.TXG Go.Proofs.YtkplhpnhjfdelaaGreatDoor.TXB Go.Proofs.YtkplhpnhjfdelaaGreatDoor.TO Go.Proofs.YtkplhpnhjfdelaaGreatDoor.PM Go.Proofs.YtkplhpnhjfdelaaGreatDoor.PN Go.Proofs.YtkplhpnhjfdelaaGreatDoor.PO Go.Proofs.YtkplhpnhjfdelaaGreatDoor.PS
set_option linter.unusedVariables false
set_option linter.unusedSimpArgs false
def txt (L : List (List Int)) : List UInt8 := if L = [] then [40, 41] else cysTxt L
theorem cycs_pts {p : List Int} (hp : PermL p) (hn : p.length ≤ 1000) : ∀ c ∈ big (cycsTo (rd p) p.length), c.length ≤ 1000 ∧ 0 < c.length ∧ ∀ x ∈ c, 0 ≤ x ∧ x < 1000 := by
  intro c hc
  have hm : c ∈ cycsTo (rd p) p.length := (List.mem_filter.1 hc).1
  have hl := cycs_len hp c hm
  refine ⟨by omega, hl.1, fun x hx => ?_⟩
  have := mem_ints.1 ((flat_perm hp.permF).mem_iff.1 (List.mem_flatten.2 ⟨c, hm, hx⟩))
  omega
theorem big_len {p : List Int} (hn : p.length ≤ 1000) : (big (cycsTo (rd p) p.length)).length ≤ 1000 :=
  Nat.le_trans (List.length_filter_le _ _) (Nat.le_trans (cycsTo_len _ _) hn)
theorem Text_ok (A : Option Addr) (cap : Nat) (p : List Int) (w : World) (hp : Kd.C (Kd.int .i64) w A p.length p) (hc : p.length ≤ cap) (hn : p.length ≤ 1000) (pp : PermL p) (hf : pfF p = (0, 0))
    (htab : Lib.TabIs Tryz.prog w "internal/strconv.uint64pow10" .u64 Lib.pow10Tab) :
    Calls Tryz.prog 7 #[.slice A p.length cap] w fun e w' => (∃ S, e = .returned (.tuple #[.string S, .agg #[.int .i64 0, .int .i64 0]]) ∧ S.data.toList = txt (big (cycsTo (rd p) p.length))) ∧ Below w.heap.size w w' := by
  have hk : perm_Check.f 4000 p = some (0, 0) := by rw [check_f p _ (Nat.le_refl _), hf]
  have hcy := cycOut_all pp hn (k := 4000) (by omega)
  by_cases h : big (cycsTo (rd p) p.length) = []
  · refine (Text_id 4000 A cap p _ w hp hc hn hk hcy h).mono ?_
    rintro e w' ⟨rfl, hb⟩
    exact ⟨⟨_, rfl, by rw [txt, if_pos h]⟩, hb⟩
  · refine (Text_gen 4000 A cap p _ w hp hc hn hk htab hcy h (big_len hn) (fun c hc => ⟨(cycs_pts pp hn c hc).1, (cycs_pts pp hn c hc).2.2⟩)).mono ?_
    rintro e w' ⟨rfl, hb⟩
    exact ⟨⟨_, rfl, by rw [txt, if_neg h]⟩, hb⟩
set_option maxHeartbeats 1000000 in
set_option maxRecDepth 100000 in
theorem TextOf_id (k : Nat) (A : Option Addr) (cap : Nat) (p : List Int) (w : World) (hp : Kd.C (Kd.int .i64) w A p.length p) (hc : p.length ≤ cap) (hf : cayleyref_CyclesOf.f k p false = some []) :
    Calls Tryz.prog 14 #[.slice A p.length cap] w fun e w' => e = .returned (.string ⟨#[40, 41]⟩) ∧ Below w.heap.size w w' := by
  go_enter Tryz.func14, Tryz.ntmps14
  go_wp2_with fail
  refine (cayleyref_CyclesOf.calls k A cap p false [] w hp hc hf).mono ?_
  rintro e w1 ⟨v, rfl, hv', hb1⟩
  have hv := Kd.S_R hv'
  obtain ⟨Ad, cp, rfl⟩ := Kd.R_slice hv
  have HB := Aside0.mk hb1
  clear hp hf hv hb1 hv'
  go_wp2
  go_ret
  exact ⟨rfl, HB.out⟩
theorem TextOf_ok (A : Option Addr) (cap : Nat) (p : List Int) (w : World) (hp : Kd.C (Kd.int .i64) w A p.length p) (hc : p.length ≤ cap) (hn : p.length ≤ 1000) (pp : PermL p) :
    Calls Tryz.prog 14 #[.slice A p.length cap] w fun e w' => (∃ S, e = .returned (.string S) ∧ S.data.toList = txt (big (cycsTo (rd p) p.length))) ∧ Below w.heap.size w w' := by
  have hf := of_ff pp hn 1200000 (by omega)
  by_cases h : big (cycsTo (rd p) p.length) = []
  · rw [h] at hf
    refine (TextOf_id 1200000 A cap p w hp hc hf).mono ?_
    rintro e w' ⟨rfl, hb⟩
    exact ⟨⟨_, rfl, by rw [txt, if_pos h]⟩, hb⟩
  · refine (TextOf_calls 1200000 A cap p _ w hp hc hf h (big_len hn) (cycs_pts pp hn)).mono ?_
    rintro e w' ⟨⟨S, rfl, hS⟩, hb⟩
    exact ⟨⟨_, rfl, by rw [txt, if_neg h, hS]⟩, hb⟩
theorem lists_run (a : List (List Int)) (ha : a.length ≤ 1000) (hb : ∀ c ∈ a, c.length ≤ 1000) : ∀ (d i k : Nat), a.length = i + d → d + 1002 < k → cayleyref_Lists.l0 k a a i = some true := by
  intro d
  induction d with
  | zero =>
    intro i k hi hk
    obtain ⟨k, rfl⟩ : ∃ m, k = m + 1 := ⟨k - 1, by omega⟩
    simp only [cayleyref_Lists.l0]
    rw [if_neg (by omega)]
  | succ d ih =>
    intro i k hi hk
    obtain ⟨k, rfl⟩ : ∃ m, k = m + 1 := ⟨k - 1, by omega⟩
    have hil : i < a.length := by omega
    have hw : wrap64 ((i : Int) + 1) = ((i + 1 : Nat) : Int) := by rw [w64 _ (by omega) (by omega)]; omega
    have hc := hb _ (List.getElem_mem hil)
    simp only [cayleyref_Lists.l0]
    rw [if_pos (by omega), if_pos (by omega), if_pos (by omega), rd_L4_elem hil, ints_f _ _ (by omega) _ (by omega), hw]
    simp only [decide_true, Option.bind_some, if_true]
    exact ih (i + 1) k (by omega) (by omega)
theorem lists_f (a : List (List Int)) (ha : a.length ≤ 1000) (hb : ∀ c ∈ a, c.length ≤ 1000) : cayleyref_Lists.f 3000 a a = some true := by
  unfold cayleyref_Lists.f
  rw [if_pos rfl]
  exact lists_run a ha hb a.length 0 3000 (by omega) (by omega)
end Go.Proofs.YtkplhpnhjfdelaaGreatDoor.LU
