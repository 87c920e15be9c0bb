/- Cycles of a permutation: plain lists. What the document's answer and the code say of faults: plain lists. The document's answer: cycles, shapes, products: plain lists. The document's answer: the cycles of more than one point; the shape as the sorted lengths: plain lists. Written by psgen.py. -/
import Derived.Test.YtkplhpnhjfdelaaGreatDoorGA
import Derived.Test.YtkplhpnhjfdelaaGreatDoorGD
namespace Go.Proofs.YtkplhpnhjfdelaaGreatDoor.PM
open Go.RowKit Go.Proofs.YtkplhpnhjfdelaaGreatDoorW.PrintWords Go.Proofs.YtkplhpnhjfdelaaGreatDoor.CY Go.Proofs.YtkplhpnhjfdelaaGreatDoor.CK
set_option linter.unusedVariables false
set_option linter.unusedSimpArgs false
def it (f : Int → Int) : Nat → Int → Int
  | 0, x => x
  | k + 1, x => f (it f k x)
theorem it_add (f : Int → Int) (a b : Nat) (x : Int) : it f (a + b) x = it f a (it f b x) := by
  induction a with
  | zero => simp [it]
  | succ a ih => rw [Nat.succ_add]; simp [it, ih]
structure PermF (f : Int → Int) (n : Nat) : Prop where
  rng : ∀ x : Int, 0 ≤ x → x < (n : Int) → 0 ≤ f x ∧ f x < (n : Int)
  inj : ∀ x y : Int, 0 ≤ x → x < (n : Int) → 0 ≤ y → y < (n : Int) → f x = f y → x = y
theorem sub_len : ∀ (l r : List Int), l.Nodup → (∀ x ∈ l, x ∈ r) → l.length ≤ r.length
  | [], _, _, _ => Nat.zero_le _
  | a :: l, r, hn, hs => by
    have h1 := List.perm_cons_erase (hs a (by simp))
    have hn' := List.nodup_cons.1 hn
    have := sub_len l (r.erase a) hn'.2 (fun x hx => (List.mem_erase_of_ne (by rintro rfl; exact hn'.1 hx)).2 (hs x (by simp [hx])))
    rw [h1.length_eq]; simpa using this
def ints (n : Nat) : List Int := (List.range n).map Int.ofNat
theorem mem_ints {n : Nat} {x : Int} : x ∈ ints n ↔ 0 ≤ x ∧ x < n := by
  simp only [ints, List.mem_map, List.mem_range]
  constructor
  · rintro ⟨a, h, rfl⟩; simp; omega
  · rintro ⟨h0, h1⟩; exact ⟨x.toNat, by omega, by simp; omega⟩
theorem ints_nodup (n : Nat) : (ints n).Nodup := by
  unfold ints List.Nodup
  rw [List.pairwise_map]
  exact List.nodup_range.imp (fun h e => h (by exact Int.ofNat.inj e))
theorem pigeon {l : List Int} {n : Nat} (hn : l.Nodup) (h : ∀ x ∈ l, 0 ≤ x ∧ x < n) : l.length ≤ n := by
  have := sub_len l (ints n) hn (fun x hx => mem_ints.2 (h x hx))
  simpa [ints] using this
section
variable {f : Int → Int} {n : Nat} (hp : PermF f n)
include hp
theorem it_rng {x : Int} (h0 : 0 ≤ x) (h1 : x < n) (k : Nat) : 0 ≤ it f k x ∧ it f k x < n := by
  induction k with
  | zero => exact ⟨h0, h1⟩
  | succ k ih => exact hp.rng _ ih.1 ih.2
theorem it_inj {x y : Int} (h0 : 0 ≤ x) (h1 : x < n) (h2 : 0 ≤ y) (h3 : y < n) (k : Nat) (h : it f k x = it f k y) : x = y := by
  induction k with
  | zero => exact h
  | succ k ih =>
    have a := it_rng hp h0 h1 k
    have b := it_rng hp h2 h3 k
    exact ih (hp.inj _ _ a.1 a.2 b.1 b.2 h)
theorem it_cancel {x : Int} (h0 : 0 ≤ x) (h1 : x < n) {a b : Nat} (hab : a < b) (h : it f a x = it f b x) : it f (b - a) x = x := by
  have e : it f b x = it f a (it f (b - a) x) := by rw [← it_add]; congr 1; omega
  have r := it_rng hp h0 h1 (b - a)
  exact (it_inj hp h0 h1 r.1 r.2 a (h.trans e)).symm
theorem it_nodup {x : Int} (h0 : 0 ≤ x) (h1 : x < n) {m : Nat} (hm : ∀ j, 0 < j → j < m → it f j x ≠ x) : ((List.range m).map (fun j => it f j x)).Nodup := by
  unfold List.Nodup
  rw [List.pairwise_map]
  refine List.Pairwise.imp_of_mem ?_ List.pairwise_lt_range
  intro a b ha hb hab he
  rw [List.mem_range] at ha hb
  exact hm (b - a) (by omega) (by omega) (it_cancel hp h0 h1 hab he)
omit hp in
theorem least_exists (P : Nat → Prop) : ∀ N, P N → ∃ m, P m ∧ m ≤ N ∧ ∀ j, j < m → ¬ P j := by
  intro N
  induction N using Nat.strongRecOn with
  | ind N ih =>
    intro h
    by_cases hj : ∃ j, j < N ∧ P j
    · obtain ⟨j, hj, hpj⟩ := hj
      obtain ⟨m, h1, h2, h3⟩ := ih j hj hpj
      exact ⟨m, h1, by omega, h3⟩
    · exact ⟨N, h, Nat.le_refl _, fun j hjn hpj => hj ⟨j, hjn, hpj⟩⟩
theorem per_exists {x : Int} (h0 : 0 ≤ x) (h1 : x < n) : ∃ m, 0 < m ∧ m ≤ n ∧ it f m x = x ∧ ∀ j, 0 < j → j < m → it f j x ≠ x := by
  have h : ∃ m, 0 < m ∧ m ≤ n ∧ it f m x = x := by
    apply Classical.byContradiction
    intro hc
    have hnd := it_nodup hp h0 h1 (m := n + 1) (fun j hj0 hj1 he => hc ⟨j, hj0, by omega, he⟩)
    have := pigeon (n := n) hnd (fun y hy => by
      obtain ⟨j, _, rfl⟩ := List.mem_map.1 hy
      exact it_rng hp h0 h1 j)
    simp at this
    omega
  obtain ⟨m0, ha, hb, hc⟩ := h
  obtain ⟨m, ⟨h2, h3⟩, h4, h5⟩ := least_exists (fun m => 0 < m ∧ it f m x = x) m0 ⟨ha, hc⟩
  exact ⟨m, h2, by omega, h3, fun j hj hjm he => h5 j hjm ⟨hj, he⟩⟩
end
open Classical in
/-- How long the cycle of a point is. -/
noncomputable def per (f : Int → Int) (x : Int) : Nat := if h : ∃ m, 0 < m ∧ it f m x = x ∧ ∀ j, 0 < j → j < m → it f j x ≠ x then h.choose else 0
noncomputable def cyc (f : Int → Int) (x : Int) : List Int := (List.range (per f x)).map (fun j => it f j x)
def Rel (f : Int → Int) (x y : Int) : Prop := ∃ j, it f j x = y
def Least (f : Int → Int) (x : Int) : Prop := ∀ j, x ≤ it f j x
section
variable {f : Int → Int} {n : Nat} (hp : PermF f n)
include hp
theorem per_spec {x : Int} (h0 : 0 ≤ x) (h1 : x < n) : 0 < per f x ∧ per f x ≤ n ∧ it f (per f x) x = x ∧ ∀ j, 0 < j → j < per f x → it f j x ≠ x := by
  obtain ⟨m, a, b, c, d⟩ := per_exists hp h0 h1
  have h : ∃ m, 0 < m ∧ it f m x = x ∧ ∀ j, 0 < j → j < m → it f j x ≠ x := ⟨m, a, c, d⟩
  have e : per f x = h.choose := by unfold per; rw [dif_pos h]
  have s := h.choose_spec
  rw [← e] at s
  have : per f x = m := by
    rcases Nat.lt_trichotomy (per f x) m with hl | hl | hl
    · exact absurd s.2.1 (d _ s.1 hl)
    · exact hl
    · exact absurd c (s.2.2 _ a hl)
  exact ⟨s.1, by omega, s.2.1, s.2.2⟩
theorem it_mul {x : Int} (h0 : 0 ≤ x) (h1 : x < n) (k : Nat) : it f (k * per f x) x = x := by
  induction k with
  | zero => simp [it]
  | succ k ih => rw [Nat.succ_mul, it_add, (per_spec hp h0 h1).2.2.1, ih]
theorem it_mod {x : Int} (h0 : 0 ≤ x) (h1 : x < n) (j : Nat) : it f (j % per f x) x = it f j x := by
  conv => rhs; rw [← Nat.mod_add_div j (per f x), it_add, Nat.mul_comm, it_mul hp h0 h1]
theorem mem_cyc {x y : Int} (h0 : 0 ≤ x) (h1 : x < n) : y ∈ cyc f x ↔ Rel f x y := by
  simp only [cyc, List.mem_map, List.mem_range, Rel]
  constructor
  · rintro ⟨j, _, h⟩; exact ⟨j, h⟩
  · rintro ⟨j, h⟩
    exact ⟨j % per f x, Nat.mod_lt _ (per_spec hp h0 h1).1, (it_mod hp h0 h1 j).trans h⟩
theorem Rel.rng {x y : Int} (h0 : 0 ≤ x) (h1 : x < n) (h : Rel f x y) : 0 ≤ y ∧ y < n := by
  obtain ⟨j, rfl⟩ := h; exact it_rng hp h0 h1 j
theorem Rel.symm {x y : Int} (h0 : 0 ≤ x) (h1 : x < n) (h : Rel f x y) : Rel f y x := by
  obtain ⟨j, rfl⟩ := h
  have hl := Nat.mod_lt j (per_spec hp h0 h1).1
  refine ⟨per f x - j % per f x, ?_⟩
  rw [← it_mod hp h0 h1 j, ← it_add]
  have : per f x - j % per f x + j % per f x = per f x := by omega
  rw [this]; exact (per_spec hp h0 h1).2.2.1
theorem cyc_nodup {x : Int} (h0 : 0 ≤ x) (h1 : x < n) : (cyc f x).Nodup := it_nodup hp h0 h1 (per_spec hp h0 h1).2.2.2
end
theorem Rel.trans {f : Int → Int} {x y z : Int} (h : Rel f x y) (h' : Rel f y z) : Rel f x z := by
  obtain ⟨j, rfl⟩ := h
  obtain ⟨k, rfl⟩ := h'
  exact ⟨k + j, it_add f k j x⟩
theorem Rel.refl (f : Int → Int) (x : Int) : Rel f x x := ⟨0, rfl⟩
open Classical in
noncomputable def cycsTo (f : Int → Int) (N : Nat) : List (List Int) := ((List.range N).filter (fun i : Nat => decide (Least f i))).map (fun i : Nat => cyc f i)
theorem cycsTo_zero (f : Int → Int) : cycsTo f 0 = [] := rfl
theorem cycsTo_yes {f : Int → Int} {N : Nat} (h : Least f N) : cycsTo f (N + 1) = cycsTo f N ++ [cyc f N] := by
  simp [cycsTo, List.range_succ, h]
theorem cycsTo_no {f : Int → Int} {N : Nat} (h : ¬ Least f N) : cycsTo f (N + 1) = cycsTo f N := by
  simp [cycsTo, List.range_succ, h]
theorem mem_cycsTo {f : Int → Int} {N : Nat} {c : List Int} : c ∈ cycsTo f N ↔ ∃ i : Nat, i < N ∧ Least f i ∧ cyc f i = c := by
  simp [cycsTo, and_assoc]
section
variable {f : Int → Int} {n : Nat} (hp : PermF f n)
include hp
theorem rep_exists : ∀ (N : Nat) (x : Int), x.toNat = N → 0 ≤ x → x < n → ∃ i : Nat, i < n ∧ Least f i ∧ Rel f i x := by
  intro N
  induction N using Nat.strongRecOn with
  | ind N ih =>
    intro x hx h0 h1
    by_cases h : Least f x
    · exact ⟨x.toNat, by omega, by rw [show ((x.toNat : Nat) : Int) = x by omega]; exact h, by rw [show ((x.toNat : Nat) : Int) = x by omega]; exact Rel.refl f x⟩
    · obtain ⟨j, hj⟩ := Classical.not_forall.1 h
      have r := it_rng hp h0 h1 j
      obtain ⟨i, a, b, c⟩ := ih (it f j x).toNat (by omega) _ rfl r.1 r.2
      exact ⟨i, a, b, c.trans (Rel.symm hp h0 h1 ⟨j, rfl⟩)⟩
theorem flat_perm : (cycsTo f n).flatten.Perm (ints n) := by
  refine (List.perm_ext_iff_of_nodup ?_ (ints_nodup n)).2 (fun x => ?_)
  · unfold List.Nodup
    rw [List.pairwise_flatten]
    refine ⟨fun l hl => ?_, ?_⟩
    · obtain ⟨i, hi, _, rfl⟩ := mem_cycsTo.1 hl
      exact cyc_nodup hp (by omega) (by omega)
    · unfold cycsTo
      rw [List.pairwise_map]
      refine List.Pairwise.imp_of_mem ?_ ((List.pairwise_lt_range (n := n)).filter _)
      intro a b ha hb hab x hx y hy he
      subst he
      simp only [List.mem_filter, List.mem_range, decide_eq_true_eq] at ha hb
      have h1 := (mem_cyc hp (by omega) (by omega)).1 hx
      have h2 := (mem_cyc hp (by omega) (by omega)).1 hy
      obtain ⟨j, hj⟩ := h2.trans (h1.symm hp (by omega) (by omega))
      have := hb.2 j
      omega
  · rw [mem_ints, List.mem_flatten]
    constructor
    · rintro ⟨c, hc, hx⟩
      obtain ⟨i, hi, _, rfl⟩ := mem_cycsTo.1 hc
      exact ((mem_cyc hp (by omega) (by omega)).1 hx).rng hp (by omega) (by omega)
    · rintro ⟨h0, h1⟩
      obtain ⟨i, hi, hl, hr⟩ := rep_exists hp x.toNat x rfl h0 h1
      exact ⟨cyc f i, mem_cycsTo.2 ⟨i, hi, hl, rfl⟩, (mem_cyc hp (by omega) (by omega)).2 hr⟩
end
theorem cyc_length (f : Int → Int) (x : Int) : (cyc f x).length = per f x := by simp [cyc]
theorem cyc_get {f : Int → Int} {x : Int} {k : Nat} (h : k < per f x) : (cyc f x)[k]? = some (it f k x) := by
  simp [cyc, h]
/-- The next one stands behind; behind the last the first. -/
theorem cyc_next {f : Int → Int} {n : Nat} (hp : PermF f n) {x : Int} (h0 : 0 ≤ x) (h1 : x < n) {k : Nat} (h : k < per f x) : (cyc f x)[(k + 1) % per f x]? = some (f (it f k x)) := by
  rw [cyc_get (Nat.mod_lt _ (per_spec hp h0 h1).1), it_mod hp h0 h1]; rfl
/-- A list of numbers that is a permutation. -/
structure PermL (p : List Int) : Prop where
  rng : ∀ x ∈ p, 0 ≤ x ∧ x < (p.length : Int)
  nodup : p.Nodup
theorem rd_get {p : List Int} {x : Int} (h0 : 0 ≤ x) (h1 : x < (p.length : Int)) : p[x.toNat]? = some (rd p x) := by
  unfold rd
  rw [List.getD_eq_getElem?_getD, List.getElem?_eq_getElem (by omega)]; rfl
theorem PermL.permF {p : List Int} (h : PermL p) : PermF (rd p) p.length := by
  refine ⟨fun x h0 h1 => h.rng _ (List.mem_of_getElem? (rd_get h0 h1)), fun x y h0 h1 h2 h3 he => ?_⟩
  have a := rd_get h0 h1
  have b := rd_get h2 h3
  rw [he] at a
  have := (List.getElem?_inj (by omega) h.nodup).1 (a.trans b.symm)
  omega
theorem rdOf_set {l : List Bool} {x y : Int} (hx : 0 ≤ x) (hxl : x < (l.length : Int)) (hy : 0 ≤ y) : rdOf false (l.set x.toNat true) y = (rdOf false l y || decide (y = x)) := by
  unfold rdOf
  rw [List.getD_eq_getElem?_getD, List.getD_eq_getElem?_getD, List.getElem?_set]
  by_cases h : y = x
  · subst h; rw [if_pos rfl, if_pos (by omega)]; simp
  · rw [if_neg (by omega)]; simp [h]
open Classical in
theorem cycIn_run {p : List Int} (hp : PermL p) (hn : p.length ≤ 1000) {i : Int} (h0 : 0 ≤ i) (h1 : i < (p.length : Int)) : ∀ (d t k : Nat) (had : List Bool), per (rd p) i = t + d → d < k → had.length = p.length →
    (∀ j, j < per (rd p) i → rdOf false had (it (rd p) j i) = decide (j < t)) →
    ∃ had', cycIn k p had ((List.range t).map (fun j => it (rd p) j i)) (it (rd p) t i) = some (had', cyc (rd p) i) ∧ had'.length = p.length ∧ ∀ y, 0 ≤ y → y < (p.length : Int) → rdOf false had' y = (rdOf false had y || decide (Rel (rd p) i y)) := by
  have F := hp.permF
  have S := per_spec F h0 h1
  intro d
  induction d with
  | zero =>
    intro t k had ht hk hl hh
    obtain ⟨k, rfl⟩ : ∃ m, k = m + 1 := ⟨k - 1, by omega⟩
    have e : t = per (rd p) i := by omega
    subst e
    refine ⟨had, ?_, hl, ?_⟩
    · simp only [cycIn]
      rw [S.2.2.1, if_pos h0, if_pos h1]
      have := hh 0 S.1
      simp only [it] at this
      rw [this, if_pos (by simpa using S.1)]
      rfl
    · intro y hy0 hy1
      by_cases hr : Rel (rd p) i y
      · have hm := (mem_cyc F h0 h1).2 hr
        obtain ⟨j, hj, rfl⟩ := List.mem_map.1 hm
        rw [hh j (List.mem_range.1 hj)]
        simp [List.mem_range.1 hj]
      · simp [hr]
  | succ d ih =>
    intro t k had ht hk hl hh
    obtain ⟨k, rfl⟩ : ∃ m, k = m + 1 := ⟨k - 1, by omega⟩
    have htm : t < per (rd p) i := by omega
    have r := it_rng F h0 h1 t
    have hcl : ((List.range t).map (fun j => it (rd p) j i)).length = t := by simp
    obtain ⟨had', e1, e2, e3⟩ := ih (t + 1) k (had.set (it (rd p) t i).toNat true) (by omega) (by omega) (by simpa using hl) (by
      intro j hj
      have rj := it_rng F h0 h1 j
      rw [rdOf_set r.1 (by omega) rj.1, hh j hj]
      by_cases hjt : j = t
      · subst hjt; simp
      · have hne : it (rd p) j i ≠ it (rd p) t i := by
          intro he
          rcases Nat.lt_or_gt_of_ne hjt with h | h
          · exact S.2.2.2 (t - j) (by omega) (by omega) (it_cancel F h0 h1 h he)
          · exact S.2.2.2 (j - t) (by omega) (by omega) (it_cancel F h0 h1 h he.symm)
        simp [hne]; omega)
    refine ⟨had', ?_, e2, ?_⟩
    · simp only [cycIn]
      rw [if_pos r.1, if_pos r.2, hh t htm, if_neg (by simp), if_neg (by rw [hcl]; omega)]
      rw [List.range_succ, List.map_append] at e1
      exact e1
    · intro y hy0 hy1
      rw [e3 y hy0 hy1, rdOf_set r.1 (by omega) hy0]
      by_cases hr : Rel (rd p) i y
      · simp [hr]
      · have : y ≠ it (rd p) t i := by rintro rfl; exact hr ⟨t, rfl⟩
        simp [hr, this]
theorem cycOut_run {p : List Int} (hp : PermL p) (hn : p.length ≤ 1000) : ∀ (d i k : Nat) (had : List Bool), p.length = i + d → d + p.length + 1 < k → had.length = p.length →
    (∀ y, 0 ≤ y → y < (p.length : Int) → (rdOf false had y = true ↔ ∃ z : Nat, z < i ∧ Rel (rd p) z y)) →
    cycOut k p had i (cycsTo (rd p) i) = some (cycsTo (rd p) p.length) := by
  have F := hp.permF
  intro d
  induction d with
  | zero =>
    intro i k had hi hk hl hh
    obtain ⟨k, rfl⟩ : ∃ m, k = m + 1 := ⟨k - 1, by omega⟩
    simp only [cycOut]
    rw [if_neg (by omega)]
    have : i = p.length := by omega
    rw [this]
  | succ d ih =>
    intro i k had hi hk hl hh
    obtain ⟨k, rfl⟩ : ∃ m, k = m + 1 := ⟨k - 1, by omega⟩
    have h0 : (0 : Int) ≤ (i : Int) := by omega
    have h1 : (i : Int) < (p.length : Int) := by omega
    have S := per_spec F h0 h1
    simp only [cycOut]
    rw [if_pos h1]
    have hst : rdOf false had i = true ↔ ¬ Least (rd p) i := by
      rw [hh i h0 h1]
      constructor
      · rintro ⟨z, hz, hr⟩ hL
        obtain ⟨j, hj⟩ := hr.symm F (by omega) (by omega)
        have := hL j
        omega
      · intro hL
        obtain ⟨j, hj⟩ := Classical.not_forall.1 hL
        have r := it_rng F h0 h1 j
        have hs : Rel (rd p) (it (rd p) j i) i := Rel.symm F h0 h1 ⟨j, rfl⟩
        exact ⟨(it (rd p) j i).toNat, by omega, by rw [show (((it (rd p) j i).toNat : Nat) : Int) = it (rd p) j i by omega]; exact hs⟩
    by_cases hL : Least (rd p) i
    · have hf : ¬ rdOf false had i = true := fun h => hst.1 h hL
      rw [if_neg hf]
      obtain ⟨had', e1, e2, e3⟩ := cycIn_run hp hn h0 h1 (per (rd p) i) 0 k had (by omega) (by omega) hl (by
        intro j hj
        have r := it_rng F h0 h1 j
        have : ¬ rdOf false had (it (rd p) j i) = true := by
          rw [hh _ r.1 r.2]
          rintro ⟨z, hz, hr⟩
          obtain ⟨j', hj'⟩ := (hr.trans (Rel.symm F h0 h1 ⟨j, rfl⟩)).symm F (by omega) (by omega)
          have := hL j'
          omega
        simpa using this)
      simp only [List.range_zero, List.map_nil, it] at e1
      rw [e1]
      simp only [Option.bind_some]
      rw [← cycsTo_yes hL]
      refine ih (i + 1) k had' (by omega) (by omega) e2 (fun y hy0 hy1 => ?_)
      rw [e3 y hy0 hy1]
      simp only [Bool.or_eq_true, decide_eq_true_eq]
      rw [hh y hy0 hy1]
      constructor
      · rintro (⟨z, hz, hr⟩ | hr)
        · exact ⟨z, by omega, hr⟩
        · exact ⟨i, by omega, hr⟩
      · rintro ⟨z, hz, hr⟩
        rcases Nat.lt_or_ge z i with h | h
        · exact .inl ⟨z, h, hr⟩
        · obtain rfl : z = i := by omega
          exact .inr hr
    · rw [if_pos (hst.2 hL), ← cycsTo_no hL]
      refine ih (i + 1) k had (by omega) (by omega) hl (fun y hy0 hy1 => ?_)
      rw [hh y hy0 hy1]
      constructor
      · rintro ⟨z, hz, hr⟩
        exact ⟨z, by omega, hr⟩
      · rintro ⟨z, hz, hr⟩
        rcases Nat.lt_or_ge z i with h | h
        · exact ⟨z, h, hr⟩
        · obtain rfl : z = i := by omega
          obtain ⟨z', hz', hr'⟩ := (hh _ h0 h1).1 (hst.2 hL)
          exact ⟨z', hz', hr'.trans hr⟩
theorem cycOut_all {p : List Int} (hp : PermL p) (hn : p.length ≤ 1000) {k : Nat} (hk : 2001 < k) : cycOut k p (List.replicate p.length false) 0 [] = some (cycsTo (rd p) p.length) := by
  refine cycOut_run hp hn p.length 0 k _ (by omega) (by omega) (by simp) (fun y hy0 hy1 => ?_)
  constructor
  · intro h
    unfold rdOf at h
    rw [List.getD_eq_getElem?_getD, List.getElem?_replicate] at h
    split at h <;> simp at h
  · rintro ⟨z, hz, _⟩; omega
theorem put_length (zs : List (Int × Int)) : ∀ o : List Int, (zs.foldl put o).length = o.length := by
  induction zs with
  | nil => intro o; rfl
  | cons z zs ih => intro o; rw [List.foldl_cons, ih]; simp [put]
theorem put_other (zs : List (Int × Int)) : ∀ (o : List Int) (x : Int), 0 ≤ x → (∀ z ∈ zs, 0 ≤ z.1 ∧ z.1 ≠ x) → rd (zs.foldl put o) x = rd o x := by
  induction zs with
  | nil => intro o x _ _; rfl
  | cons z zs ih =>
    intro o x hx h
    rw [List.foldl_cons, ih _ x hx (fun y hy => h y (by simp [hy]))]
    have := h z (by simp)
    unfold rd put
    rw [List.getD_eq_getElem?_getD, List.getD_eq_getElem?_getD, List.getElem?_set_ne (by omega)]
theorem put_rd (zs : List (Int × Int)) : ∀ (o : List Int), (zs.map (·.1)).Nodup → (∀ z ∈ zs, 0 ≤ z.1 ∧ z.1 < (o.length : Int)) → ∀ z ∈ zs, rd (zs.foldl put o) z.1 = z.2 := by
  induction zs with
  | nil => intro o _ _ z hz; simp at hz
  | cons z zs ih =>
    intro o hn h z' hz'
    rw [List.map_cons, List.nodup_cons] at hn
    rw [List.foldl_cons]
    rcases List.mem_cons.1 hz' with rfl | hm
    · have h1 := h z' (by simp)
      rw [put_other zs _ _ h1.1 (fun y hy => ⟨(h y (by simp [hy])).1, fun he => hn.1 (by rw [← he]; exact List.mem_map.2 ⟨y, hy, rfl⟩)⟩)]
      unfold rd put
      rw [List.getD_eq_getElem?_getD, List.getElem?_set_self (by omega)]; rfl
    · exact ih _ hn.2 (fun y hy => by have := h y (by simp [hy]); simpa [put] using this) z' hm
def pairs (a b : List (List Int)) : List (Int × Int) := (a.zip b).flatMap (fun z => z.1.zip z.2)
theorem outF_pairs (n : Nat) (a b : List (List Int)) : outF n a b = (pairs a b).foldl put (List.replicate n 0) := by
  unfold outF pairs
  generalize List.replicate n (0 : Int) = o
  induction a.zip b generalizing o with
  | nil => rfl
  | cons z zs ih => rw [List.foldl_cons, List.flatMap_cons, List.foldl_append, ih]; rfl
theorem pairs_fst : ∀ (a b : List (List Int)), a.map List.length = b.map List.length → (pairs a b).map (·.1) = a.flatten ∧ (pairs a b).map (·.2) = b.flatten
  | [], [], _ => ⟨rfl, rfl⟩
  | [], _ :: _, h => by simp at h
  | _ :: _, [], h => by simp at h
  | x :: a, y :: b, h => by
    simp only [List.map_cons, List.cons.injEq] at h
    have ih := pairs_fst a b h.2
    unfold pairs at ih ⊢
    simp only [List.zip_cons_cons, List.flatMap_cons, List.map_append, List.flatten_cons]
    rw [ih.1, ih.2, ← List.unzip_fst, ← List.unzip_snd]
    constructor
    · rw [List.unzip_fst, List.map_fst_zip (by omega)]
    · rw [List.unzip_snd, List.map_snd_zip (by omega)]
theorem mem_pairs {a b : List (List Int)} {z : Int × Int} : z ∈ pairs a b ↔ ∃ (x y : List Int) (k : Nat), (x, y) ∈ a.zip b ∧ x[k]? = some z.1 ∧ y[k]? = some z.2 := by
  unfold pairs
  rw [List.mem_flatMap]
  constructor
  · rintro ⟨⟨x, y⟩, h1, h2⟩
    obtain ⟨k, hk⟩ := List.getElem?_of_mem h2
    rw [List.getElem?_zip_eq_some] at hk
    exact ⟨x, y, k, h1, hk.1, hk.2⟩
  · rintro ⟨x, y, k, h1, h2, h3⟩
    exact ⟨(x, y), h1, List.mem_of_getElem? (i := k) (by rw [List.getElem?_zip_eq_some]; exact ⟨h2, h3⟩)⟩
theorem len_of_zip : ∀ (a b : List (List Int)), a.map List.length = b.map List.length → ∀ x y, (x, y) ∈ a.zip b → x.length = y.length
  | [], [], _, x, y, h => by simp at h
  | [], _ :: _, h, _, _, _ => by simp at h
  | _ :: _, [], h, _, _, _ => by simp at h
  | u :: a, v :: b, h, x, y, hm => by
    simp only [List.map_cons, List.cons.injEq] at h
    simp only [List.zip_cons_cons, List.mem_cons, Prod.mk.injEq] at hm
    rcases hm with ⟨rfl, rfl⟩ | hm
    · exact h.1
    · exact len_of_zip a b h.2 x y hm
/-- What Conj puts together. -/
theorem conj_law {p q : List Int} (hp : PermL p) (hq : PermL q) (hl : p.length = q.length) {a b : List (List Int)} (ha : a.Perm (cycsTo (rd p) p.length)) (hb : b.Perm (cycsTo (rd q) q.length)) (hlen : a.map List.length = b.map List.length) :
    PermL (outF p.length a b) ∧ (outF p.length a b).length = p.length ∧ ∀ x, 0 ≤ x → x < (p.length : Int) → rd q (rd (outF p.length a b) x) = rd (outF p.length a b) (rd p x) := by
  have F := hp.permF
  have G := hq.permF
  have hfa : a.flatten.Perm (ints p.length) := ha.flatten.trans (flat_perm F)
  have hfb : b.flatten.Perm (ints q.length) := hb.flatten.trans (flat_perm G)
  obtain ⟨e1, e2⟩ := pairs_fst a b hlen
  rw [outF_pairs]
  have hn1 : ((pairs a b).map (·.1)).Nodup := by rw [e1]; exact hfa.nodup_iff.2 (ints_nodup _)
  have hn2 : ((pairs a b).map (·.2)).Nodup := by rw [e2]; exact hfb.nodup_iff.2 (ints_nodup _)
  have hr1 : ∀ z ∈ pairs a b, 0 ≤ z.1 ∧ z.1 < (p.length : Int) := fun z hz => mem_ints.1 (hfa.mem_iff.1 (by rw [← e1]; exact List.mem_map.2 ⟨z, hz, rfl⟩))
  have hr2 : ∀ z ∈ pairs a b, 0 ≤ z.2 ∧ z.2 < (p.length : Int) := fun z hz => by rw [hl]; exact mem_ints.1 (hfb.mem_iff.1 (by rw [← e2]; exact List.mem_map.2 ⟨z, hz, rfl⟩))
  have hcov : ∀ x, 0 ≤ x → x < (p.length : Int) → ∃ z ∈ pairs a b, z.1 = x := fun x h0 h1 => by
    have := hfa.mem_iff.2 (mem_ints.2 ⟨h0, h1⟩)
    rw [← e1] at this
    exact List.mem_map.1 this
  have hrd := put_rd (pairs a b) (List.replicate p.length 0) hn1 (by simpa using hr1)
  have hlc : ((pairs a b).foldl put (List.replicate p.length 0)).length = p.length := by rw [put_length]; simp
  generalize hc : (pairs a b).foldl put (List.replicate p.length 0) = c at hrd hlc ⊢
  refine ⟨⟨fun x hx => ?_, ?_⟩, hlc, fun x h0 h1 => ?_⟩
  · obtain ⟨k, hk⟩ := List.getElem?_of_mem hx
    have hkl : k < c.length := (List.getElem?_eq_some_iff.1 hk).1
    obtain ⟨z, hz, hz1⟩ := hcov (k : Int) (by omega) (by omega)
    have h2 := hrd z hz
    rw [hz1] at h2
    have h3 := rd_get (p := c) (x := (k : Int)) (by omega) (by omega)
    rw [h2] at h3
    simp only [Int.toNat_natCast] at h3
    rw [h3] at hk
    cases hk
    rw [hlc]
    exact hr2 z hz
  · unfold List.Nodup
    rw [List.pairwise_iff_getElem]
    intro i j hi hj hij he
    obtain ⟨z, hz, hz1⟩ := hcov (i : Int) (by omega) (by omega)
    obtain ⟨y, hy, hy1⟩ := hcov (j : Int) (by omega) (by omega)
    have h2 := hrd z hz
    have h3 := hrd y hy
    rw [hz1] at h2
    rw [hy1] at h3
    have h4 := rd_get (p := c) (x := (i : Int)) (by omega) (by omega)
    have h5 := rd_get (p := c) (x := (j : Int)) (by omega) (by omega)
    simp only [Int.toNat_natCast] at h4 h5
    rw [List.getElem?_eq_getElem hi, h2] at h4
    rw [List.getElem?_eq_getElem hj, h3] at h5
    have e : z.2 = y.2 := by
      injection h4 with h4
      injection h5 with h5
      rw [← h4, ← h5]; exact he
    obtain ⟨m, hm⟩ := List.getElem?_of_mem hz
    obtain ⟨m', hm'⟩ := List.getElem?_of_mem hy
    have a1 : ((pairs a b).map (·.2))[m]? = some z.2 := by rw [List.getElem?_map, hm]; rfl
    have a2 : ((pairs a b).map (·.2))[m']? = some z.2 := by rw [List.getElem?_map, hm', e]; rfl
    have := (List.getElem?_inj (by simpa using (List.getElem?_eq_some_iff.1 hm).1) hn2).1 (a1.trans a2.symm)
    subst this
    rw [hm] at hm'
    cases hm'
    omega
  · obtain ⟨z, hz, rfl⟩ := hcov x h0 h1
    rw [hrd z hz]
    obtain ⟨u, v, k, h2, h3, h4⟩ := mem_pairs.1 hz
    have hlu := len_of_zip a b hlen u v h2
    obtain ⟨i, hi, _, rfl⟩ := mem_cycsTo.1 (ha.mem_iff.1 (List.of_mem_zip h2).1)
    obtain ⟨j, hj, _, rfl⟩ := mem_cycsTo.1 (hb.mem_iff.1 (List.of_mem_zip h2).2)
    rw [cyc_length, cyc_length] at hlu
    have hk : k < per (rd p) i := by have := (List.getElem?_eq_some_iff.1 h3).1; rwa [cyc_length] at this
    rw [cyc_get hk] at h3
    rw [cyc_get (by omega)] at h4
    injection h3 with h3
    injection h4 with h4
    have n1 := cyc_next F (x := (i : Int)) (by omega) (by omega) hk
    have n2 := cyc_next G (x := (j : Int)) (by omega) (by omega) (show k < per (rd q) j by omega)
    rw [h3] at n1
    rw [← hlu, h4] at n2
    exact (hrd (rd p z.1, rd q z.2) (mem_pairs.2 ⟨_, _, _, h2, n1, n2⟩)).symm
/-- A list of lengths, the longest first. -/
def shp : Nat → List (List Int) → List Int
  | 0, _ => []
  | m + 1, c => List.replicate (c.countP (fun x => x.length == m + 1)) ((m + 1 : Nat) : Int) ++ shp m c
theorem shp_perm {a b : List (List Int)} (h : (a.map List.length).Perm (b.map List.length)) : ∀ n, shp n a = shp n b := by
  intro n
  induction n with
  | zero => rfl
  | succ n ih =>
    have := List.perm_iff_count.1 h (n + 1)
    simp only [List.count, List.countP_map] at this
    simp only [shp]
    rw [ih]
    congr 2
theorem shp_le (c : List (List Int)) : ∀ n, ∀ x ∈ shp n c, 0 < x ∧ x ≤ (n : Int) := by
  intro n
  induction n with
  | zero => intro x hx; simp [shp] at hx
  | succ n ih =>
    intro x hx
    simp only [shp, List.mem_append, List.mem_replicate] at hx
    rcases hx with ⟨_, rfl⟩ | hx
    · omega
    · have := ih x hx; omega
theorem shp_count (c : List (List Int)) : ∀ n m : Nat, 0 < m → m ≤ n → (shp n c).count (m : Int) = c.countP (fun x => x.length == m) := by
  intro n
  induction n with
  | zero => intro m h1 h2; omega
  | succ n ih =>
    intro m h1 h2
    simp only [shp, List.count_append]
    by_cases hm : m = n + 1
    · subst hm
      rw [List.count_replicate_self, List.count_eq_zero.2 (fun h => by have := shp_le c n _ h; omega)]; rfl
    · rw [ih m h1 (by omega), List.count_replicate]
      have : ¬ (((n + 1 : Nat) : Int) == (m : Int)) = true := by simp; omega
      rw [if_neg this]; omega
theorem perm_of_shp {a b : List (List Int)} {n : Nat} (ha : ∀ x ∈ a, 0 < x.length ∧ x.length ≤ n) (hb : ∀ x ∈ b, 0 < x.length ∧ x.length ≤ n) (h : shp n a = shp n b) : (a.map List.length).Perm (b.map List.length) := by
  rw [List.perm_iff_count]
  intro m
  simp only [List.count, List.countP_map]
  by_cases hm : 0 < m ∧ m ≤ n
  · have h1 := shp_count a n m hm.1 hm.2
    have h2 := shp_count b n m hm.1 hm.2
    rw [h] at h1
    exact h1.symm.trans h2
  · rw [List.countP_eq_zero.2, List.countP_eq_zero.2]
    · intro x hx; have := hb x hx; simp; omega
    · intro x hx; have := ha x hx; simp; omega
theorem cycs_len {p : List Int} (hp : PermL p) : ∀ x ∈ cycsTo (rd p) p.length, 0 < x.length ∧ x.length ≤ p.length := by
  intro x hx
  obtain ⟨i, hi, _, rfl⟩ := mem_cycsTo.1 hx
  have S := per_spec hp.permF (x := (i : Int)) (by omega) (by omega)
  rw [cyc_length]; exact ⟨S.1, S.2.1⟩
/-- Lists of lengths, the longest first, are the same just where shapes are. -/
theorem shape_iff {p q : List Int} (hp : PermL p) (hq : PermL q) (hl : p.length = q.length) {a b : List (List Int)} (ha : a.Perm (cycsTo (rd p) p.length)) (hb : b.Perm (cycsTo (rd q) q.length))
    (sa : a.Pairwise (fun x y => y.length ≤ x.length)) (sb : b.Pairwise (fun x y => y.length ≤ x.length)) : a.map List.length = b.map List.length ↔ shp p.length (cycsTo (rd p) p.length) = shp q.length (cycsTo (rd q) q.length) := by
  rw [← hl]
  constructor
  · intro h
    refine shp_perm (((ha.map _).symm).trans ?_) _
    rw [h, hl]
    exact hb.map _
  · intro h
    have hq' : ∀ x ∈ cycsTo (rd q) p.length, 0 < x.length ∧ x.length ≤ p.length := by rw [hl]; exact cycs_len hq
    have := perm_of_shp (cycs_len hp) hq' h
    rw [← hl] at hb
    have hab : (a.map List.length).Perm (b.map List.length) := (ha.map _).trans (this.trans (hb.map _).symm)
    refine List.Perm.eq_of_pairwise (le := fun x y => y ≤ x) (fun _ _ _ _ h1 h2 => Nat.le_antisymm h2 h1) ?_ ?_ hab
    · rw [List.pairwise_map]; exact sa
    · rw [List.pairwise_map]; exact sb
end Go.Proofs.YtkplhpnhjfdelaaGreatDoor.PM
namespace Go.Proofs.YtkplhpnhjfdelaaGreatDoor.PN
open Go.RowKit Go.Proofs.YtkplhpnhjfdelaaGreatDoorW.PrintWords Go.Proofs.YtkplhpnhjfdelaaGreatDoor.PPermCycles Go.Proofs.YtkplhpnhjfdelaaGreatDoor.CY Go.Proofs.YtkplhpnhjfdelaaGreatDoor.CK Go.Proofs.YtkplhpnhjfdelaaGreatDoor.PM
set_option linter.unusedVariables false
set_option linter.unusedSimpArgs false
theorem w64 (x : Int) (h0 : 0 ≤ x) (h1 : x ≤ 4611686018427387904) : wrap64 x = x := by unfold wrap64; omega
theorem drop_rd {l : List Int} {i : Nat} (h : i < l.length) : l.drop i = rd l i :: l.drop (i + 1) := by
  rw [List.drop_eq_getElem_cons h]
  congr 1
  unfold rd
  rw [List.getD_eq_getElem?_getD, Int.toNat_natCast, List.getElem?_eq_getElem h]; rfl
theorem take_rd {l : List Int} {i : Nat} (h : i < l.length) : l.take (i + 1) = l.take i ++ [rd l i] := by
  rw [List.take_add_one, List.getElem?_eq_getElem h]
  congr 1
  unfold rd
  rw [List.getD_eq_getElem?_getD, Int.toNat_natCast, List.getElem?_eq_getElem h]; rfl
theorem has_run (l : List Int) (x : Int) (hl : l.length ≤ 1000000) : ∀ (d i k : Nat), l.length = i + d → d < k → cayleyref_Has.l0 k l x i = some (decide (x ∈ l.drop i)) := by
  intro d
  induction d with
  | zero =>
    intro i k hi hk
    obtain ⟨k, rfl⟩ : ∃ m, k = m + 1 := ⟨k - 1, by omega⟩
    simp only [cayleyref_Has.l0]
    rw [if_neg (by omega), List.drop_eq_nil_of_le (by omega)]; simp
  | succ d ih =>
    intro i k hi hk
    obtain ⟨k, rfl⟩ : ∃ m, k = m + 1 := ⟨k - 1, by omega⟩
    simp only [cayleyref_Has.l0]
    rw [if_pos (by omega), if_pos (by omega), drop_rd (by omega)]
    by_cases h : rd l i = x
    · rw [if_pos h]; simp [h]
    · rw [if_neg h, w64 _ (by omega) (by omega), show ((i : Int) + 1) = ((i + 1 : Nat) : Int) by omega, ih (i + 1) k (by omega) (by omega)]
      congr 1
      simp [Ne.symm h]
theorem has_f (l : List Int) (x : Int) (hl : l.length ≤ 1000000) (k : Nat) (hk : l.length < k) : cayleyref_Has.f k l x = some (decide (x ∈ l)) := by
  unfold cayleyref_Has.f
  have := has_run l x hl l.length 0 k (by omega) hk
  simpa using this
/-- What is wrong first, from place i on. -/
def pfG (p : List Int) : Nat → Nat → Int × Int
  | 0, _ => (0, 0)
  | d + 1, i => if rd p i < 0 ∨ (p.length : Int) ≤ rd p i then (3, i) else if rd p i ∈ p.take i then (10, i) else pfG p d (i + 1)
theorem pf_run (p : List Int) (hn : p.length ≤ 1000) : ∀ (d i k : Nat), p.length = i + d → 2 * d + 1001 < k → cayleyref_PermFault.l0 k p i = some (pfG p d i) := by
  intro d
  induction d with
  | zero =>
    intro i k hi hk
    obtain ⟨k, rfl⟩ : ∃ m, k = m + 1 := ⟨k - 1, by omega⟩
    simp only [cayleyref_PermFault.l0]
    rw [if_neg (by omega)]; rfl
  | succ d ih =>
    intro i k hi hk
    obtain ⟨k, rfl⟩ : ∃ m, k = m + 1 + 1 := ⟨k - 2, by omega⟩
    simp only [cayleyref_PermFault.l0]
    rw [if_pos (by omega), if_pos (by omega)]
    simp only [pfG]
    by_cases h1 : rd p i < 0
    · rw [if_pos h1, if_pos (Or.inl h1)]
      simp [cayleyref_PermFault.j1, cayleyref_F.f]
    · rw [if_neg h1]
      by_cases h2 : (p.length : Int) ≤ rd p i
      · rw [if_pos (Or.inr h2)]
        simp [cayleyref_PermFault.j1, cayleyref_F.f, h2]
      · rw [if_neg (by rintro (h | h); exact h1 h; exact h2 h)]
        simp only [cayleyref_PermFault.j1]
        rw [if_neg (by simpa using h2), if_pos (by omega), if_pos (by omega), if_pos (by omega), Int.toNat_natCast, has_f _ _ (by rw [List.length_take]; omega) k (by rw [List.length_take]; omega)]
        simp only [Option.bind_some, decide_eq_true_eq]
        by_cases h3 : rd p i ∈ p.take i
        · rw [if_pos h3, if_pos h3]; simp [cayleyref_F.f]
        · rw [if_neg h3, if_neg h3, w64 _ (by omega) (by omega), show ((i : Int) + 1) = ((i + 1 : Nat) : Int) by omega]
          exact ih (i + 1) k (by omega) (by omega)
/-- What PermFault says. -/
def pfF (p : List Int) : Int × Int := if 1000 < p.length then (2, 0) else pfG p p.length 0
theorem pf_f (p : List Int) (k : Nat) (hk : 4000 ≤ k) : cayleyref_PermFault.f k p = some (pfF p) := by
  unfold cayleyref_PermFault.f pfF
  by_cases h : 1000 < p.length
  · rw [if_pos (by omega), if_pos h]; simp [cayleyref_F.f]
  · rw [if_neg (by omega), if_neg h]
    exact pf_run p (by omega) p.length 0 k (by omega) (by omega)
theorem check_run (p : List Int) (hn : p.length ≤ 1000) : ∀ (d i k : Nat) (had : List Bool), p.length = i + d → 2 * d + 2 < k → had.length = p.length → (∀ y, 0 ≤ y → y < (p.length : Int) → (rdOf false had y = true ↔ y ∈ p.take i)) → perm_Check.l0 k p had p p.length i = some (pfG p d i) := by
  intro d
  induction d with
  | zero =>
    intro i k had hi hk hl hh
    obtain ⟨k, rfl⟩ : ∃ m, k = m + 1 := ⟨k - 1, by omega⟩
    simp only [perm_Check.l0]
    rw [if_neg (by omega)]; rfl
  | succ d ih =>
    intro i k had hi hk hl hh
    obtain ⟨k, rfl⟩ : ∃ m, k = m + 1 + 1 := ⟨k - 2, by omega⟩
    simp only [perm_Check.l0]
    rw [if_pos (by omega), if_pos (by omega), if_pos (by omega)]
    simp only [pfG]
    by_cases h1 : rd p i < 0
    · rw [if_pos h1, if_pos (Or.inl h1)]
      simp [perm_Check.j1, perm_fault.f]
    · rw [if_neg h1]
      by_cases h2 : (p.length : Int) ≤ rd p i
      · rw [if_pos (Or.inr h2)]
        simp [perm_Check.j1, perm_fault.f, h2]
      · rw [if_neg (by rintro (h | h); exact h1 h; exact h2 h)]
        have hr := hh (rd p i) (by omega) (by omega)
        simp only [perm_Check.j1]
        rw [if_neg (by simpa using h2), if_pos (by omega), if_pos (by rw [hl]; omega)]
        by_cases h3 : rd p i ∈ p.take i
        · rw [if_pos (hr.2 h3), if_pos h3]; simp [perm_fault.f]
        · rw [if_neg (fun h => h3 (hr.1 h)), if_neg h3, w64 _ (by omega) (by omega), show ((i : Int) + 1) = ((i + 1 : Nat) : Int) by omega]
          refine ih (i + 1) k _ (by omega) (by omega) (by simpa using hl) (fun y hy0 hy1 => ?_)
          rw [rdOf_set (by omega) (by rw [hl]; omega) hy0, take_rd (by omega)]
          simp [hh y hy0 hy1]
theorem check_f (p : List Int) (k : Nat) (hk : 4000 ≤ k) : perm_Check.f k p = some (pfF p) := by
  unfold perm_Check.f pfF
  by_cases h : 1000 < p.length
  · rw [if_pos (by omega), if_pos h]; simp [perm_fault.f]
  · rw [if_neg (by omega), if_neg h, if_pos (by omega), if_pos (by omega)]
    refine check_run p (by omega) p.length 0 k _ (by omega) (by omega) (by simp) (fun y hy0 hy1 => ?_)
    simp only [List.take_zero, List.not_mem_nil, iff_false, Int.toNat_natCast]
    unfold rdOf
    rw [List.getD_eq_getElem?_getD, List.getElem?_replicate]
    split <;> simp
theorem pfG_ok (p : List Int) : ∀ (d i : Nat), p.length = i + d → (pfG p d i).1 = 0 → pfG p d i = (0, 0) ∧ ∀ j, i ≤ j → j < p.length → (0 ≤ rd p j ∧ rd p j < (p.length : Int)) ∧ rd p j ∉ p.take j := by
  intro d
  induction d with
  | zero => intro i hi _; exact ⟨rfl, fun j h1 h2 => by omega⟩
  | succ d ih =>
    intro i hi h
    simp only [pfG] at h ⊢
    by_cases h1 : rd p i < 0 ∨ (p.length : Int) ≤ rd p i
    · rw [if_pos h1] at h; simp at h
    · rw [if_neg h1] at h ⊢
      by_cases h2 : rd p i ∈ p.take i
      · rw [if_pos h2] at h; simp at h
      · rw [if_neg h2] at h ⊢
        obtain ⟨e, hj⟩ := ih (i + 1) (by omega) h
        refine ⟨e, fun j h3 h4 => ?_⟩
        rcases Nat.lt_or_ge i j with h5 | h5
        · exact hj j h5 h4
        · obtain rfl : j = i := by omega
          exact ⟨by omega, h2⟩
theorem rd_elem {p : List Int} {j : Nat} (h : j < p.length) : rd p (j : Int) = p[j] := by
  unfold rd
  rw [List.getD_eq_getElem?_getD, Int.toNat_natCast, List.getElem?_eq_getElem h]; rfl
theorem pfF_ok {p : List Int} (h : (pfF p).1 = 0) : pfF p = (0, 0) ∧ p.length ≤ 1000 ∧ PermL p := by
  unfold pfF at h ⊢
  by_cases h1 : 1000 < p.length
  · rw [if_pos h1] at h; simp at h
  · rw [if_neg h1] at h ⊢
    obtain ⟨e, hj⟩ := pfG_ok p p.length 0 (by omega) h
    refine ⟨e, by omega, ⟨fun x hx => ?_, ?_⟩⟩
    · obtain ⟨j, hjl, rfl⟩ := List.mem_iff_getElem.1 hx
      have := (hj j (by omega) hjl).1
      rwa [rd_elem hjl] at this
    · unfold List.Nodup
      rw [List.pairwise_iff_getElem]
      intro i j hi hjl hij he
      have := (hj j (by omega) hjl).2
      rw [rd_elem hjl, ← he] at this
      exact this (List.mem_iff_getElem.2 ⟨i, by rw [List.length_take]; omega, by rw [List.getElem_take]⟩)
theorem pfG_perm {p : List Int} (hp : PermL p) : ∀ (d i : Nat), p.length = i + d → pfG p d i = (0, 0) := by
  intro d
  induction d with
  | zero => intro i _; rfl
  | succ d ih =>
    intro i hi
    have hr := hp.rng _ (List.getElem_mem (show i < p.length by omega))
    simp only [pfG]
    rw [rd_elem (by omega), if_neg (by omega), if_neg ?_]
    · exact ih (i + 1) (by omega)
    · intro hm
      obtain ⟨j, hj, he⟩ := List.mem_iff_getElem.1 hm
      rw [List.length_take] at hj
      rw [List.getElem_take] at he
      have := (List.pairwise_iff_getElem.1 hp.nodup) j i (by omega) (by omega) (by omega)
      exact this he
theorem pfF_perm {p : List Int} (hp : PermL p) (hn : p.length ≤ 1000) : pfF p = (0, 0) := by
  unfold pfF
  rw [if_neg (by omega)]
  exact pfG_perm hp p.length 0 (by omega)
/-- What TwoFault says. -/
def tfF (p q : List Int) : Int × Int := if (pfF p).1 = 0 then (if (pfF q).1 = 0 then (if p.length = q.length then pfF q else (8, 0)) else pfF q) else pfF p
end Go.Proofs.YtkplhpnhjfdelaaGreatDoor.PN
namespace Go.Proofs.YtkplhpnhjfdelaaGreatDoor.PO
open Go.RowKit Go.Proofs.YtkplhpnhjfdelaaGreatDoorW.PrintWords Go.Proofs.YtkplhpnhjfdelaaGreatDoor.PPermCycles Go.Proofs.YtkplhpnhjfdelaaGreatDoor.CY Go.Proofs.YtkplhpnhjfdelaaGreatDoor.CK Go.Proofs.YtkplhpnhjfdelaaGreatDoor.PM Go.Proofs.YtkplhpnhjfdelaaGreatDoor.PN
set_option linter.unusedVariables false
set_option linter.unusedSimpArgs false
theorem w63 (x : Int) (h0 : 0 ≤ x) (h1 : x ≤ 9223372036854775807) : wrap64 x = x := by unfold wrap64; omega
theorem ints_run (a b : List Int) (hl : a.length = b.length) (hb : a.length ≤ 9223372036854775807) : ∀ (d i k : Nat), a.length = i + d → d < k → cayleyref_Ints.l0 k a b i = some (decide (a.drop i = b.drop i)) := by
  intro d
  induction d with
  | zero =>
    intro i k hi hk
    obtain ⟨k, rfl⟩ : ∃ m, k = m + 1 := ⟨k - 1, by omega⟩
    simp only [cayleyref_Ints.l0]
    rw [if_neg (by omega), List.drop_eq_nil_of_le (by omega), List.drop_eq_nil_of_le (by omega)]; simp
  | succ d ih =>
    intro i k hi hk
    obtain ⟨k, rfl⟩ : ∃ m, k = m + 1 := ⟨k - 1, by omega⟩
    simp only [cayleyref_Ints.l0]
    rw [if_pos (by omega), if_pos (by omega), if_pos (by omega), drop_rd (show i < a.length by omega), drop_rd (show i < b.length by omega)]
    by_cases h : rd a i = rd b i
    · rw [if_pos h, w63 _ (by omega) (by omega), show ((i : Int) + 1) = ((i + 1 : Nat) : Int) by omega, ih (i + 1) k (by omega) (by omega)]
      simp [h]
    · rw [if_neg h]; simp [h]
theorem ints_f (a b : List Int) (hb : a.length ≤ 9223372036854775807) (k : Nat) (hk : a.length < k) : cayleyref_Ints.f k a b = some (decide (a = b)) := by
  unfold cayleyref_Ints.f
  by_cases h : a.length = b.length
  · rw [if_pos (by omega)]
    have := ints_run a b h hb a.length 0 k (by omega) hk
    simpa using this
  · rw [if_neg (by omega)]
    have : a ≠ b := fun e => h (by rw [e])
    simp [this]
/-- One cycle of CyclesOf: from step t on. -/
theorem of_l1 {p : List Int} (hp : PermL p) (hn : p.length ≤ 1000) {i : Nat} (hi : i < p.length) (acc : List (List Int)) (hacc : acc.length ≤ 1000) : ∀ (d t k : Nat) (b : Bool), per (rd p) i = t + 1 + d → (b = true ↔ ∀ j, j ≤ t → (i : Int) ≤ it (rd p) j i) →
    (Least (rd p) i → cayleyref_CyclesOf.l1 (k + d + 1) p true acc i ((List.range (t + 1)).map (fun j => it (rd p) j i)) b (it (rd p) (t + 1) i) = cayleyref_CyclesOf.l0 k p true (acc ++ [cyc (rd p) i]) ((i + 1 : Nat) : Int)) ∧
    (¬ Least (rd p) i → cayleyref_CyclesOf.l1 (k + d + 1) p true acc i ((List.range (t + 1)).map (fun j => it (rd p) j i)) b (it (rd p) (t + 1) i) = cayleyref_CyclesOf.l0 k p true acc ((i + 1 : Nat) : Int)) := by
  have F := hp.permF
  have h0 : (0 : Int) ≤ (i : Int) := by omega
  have h1 : (i : Int) < (p.length : Int) := by omega
  have S := per_spec F h0 h1
  have hcl : ∀ t, ((List.range (t + 1)).map (fun j => it (rd p) j i)).length = t + 1 := fun t => by simp
  intro d
  induction d with
  | zero =>
    intro t k b hper hb
    have hL : b = true ↔ Least (rd p) i := by
      rw [hb]
      constructor
      · intro h j
        have := h (j % per (rd p) i) (by have := Nat.mod_lt j S.1; omega)
        rwa [it_mod F h0 h1] at this
      · intro h j _; exact h j
    have hx : it (rd p) (t + 1) i = i := by rw [show t + 1 = per (rd p) i by omega]; exact S.2.2.1
    have hc : (List.range (t + 1)).map (fun j => it (rd p) j i) = cyc (rd p) i := by rw [show t + 1 = per (rd p) i by omega]; rfl
    have hw : wrap64 ((i : Int) + 1) = ((i + 1 : Nat) : Int) := by rw [w64 _ (by omega) (by omega)]; omega
    simp only [cayleyref_CyclesOf.l1]
    rw [if_pos hx, hc, hw]
    constructor
    · intro h
      rw [if_pos (hL.2 h), if_pos trivial, if_pos (by omega)]
    · intro h
      rw [if_neg (fun e => h (hL.1 e))]
  | succ d ih =>
    intro t k b hper hb
    have hne : it (rd p) (t + 1) i ≠ i := S.2.2.2 (t + 1) (by omega) (by omega)
    have r := it_rng F h0 h1 (t + 1)
    have hb' : (if b = true then decide (it (rd p) (t + 1) i > i) else false) = true ↔ ∀ j, j ≤ t + 1 → (i : Int) ≤ it (rd p) j i := by
      cases hbb : b with
      | false =>
        simp only [Bool.false_eq_true, if_false, false_iff]
        intro h
        have := hb.2 (fun j hj => h j (by omega))
        rw [hbb] at this; cases this
      | true =>
        simp only [if_true, decide_eq_true_eq]
        have h2 := hb.1 hbb
        constructor
        · intro h j hj
          rcases Nat.lt_or_ge t j with h3 | h3
          · obtain rfl : j = t + 1 := by omega
            omega
          · exact h2 j h3
        · intro h
          have := h (t + 1) (Nat.le_refl _)
          omega
    have key := ih (t + 1) k _ (by omega) hb'
    have hstep : cayleyref_CyclesOf.l1 (k + (d + 1) + 1) p true acc i ((List.range (t + 1)).map (fun j => it (rd p) j i)) b (it (rd p) (t + 1) i) = cayleyref_CyclesOf.l1 (k + d + 1) p true acc i ((List.range (t + 1 + 1)).map (fun j => it (rd p) j i)) (if b = true then decide (it (rd p) (t + 1) i > i) else false) (it (rd p) (t + 1 + 1) i) := by
      rw [show k + (d + 1) + 1 = (k + d + 1) + 1 by omega]
      rw [cayleyref_CyclesOf.l1, if_neg hne, if_pos (by rw [hcl]; omega)]
      simp only [Option.bind_some]
      rw [List.range_succ (n := t + 1), List.map_append]
      cases b with
      | true => rw [if_pos rfl, if_pos r.1, if_pos r.2, if_pos rfl]; rfl
      | false => rw [if_neg (by simp), if_pos r.1, if_pos r.2, if_neg (by simp)]; rfl
    rw [hstep]
    exact key
theorem cycsTo_len (f : Int → Int) : ∀ N, (cycsTo f N).length ≤ N := by
  intro N
  unfold cycsTo
  rw [List.length_map]
  have := List.length_filter_le (fun i : Nat => @decide (Least f i) (Classical.propDecidable _)) (List.range N)
  rw [List.length_range] at this
  exact this
theorem of_l0 {p : List Int} (hp : PermL p) (hn : p.length ≤ 1000) : ∀ (e i k : Nat), p.length = i + e → e * 1002 < k → cayleyref_CyclesOf.l0 k p true (cycsTo (rd p) i) i = some (cycsTo (rd p) p.length) := by
  intro e
  induction e with
  | zero =>
    intro i k hi hk
    obtain ⟨k, rfl⟩ : ∃ m, k = m + 1 := ⟨k - 1, by omega⟩
    simp only [cayleyref_CyclesOf.l0]
    rw [if_neg (by omega), show p.length = i by omega]
  | succ e ih =>
    intro i k hi hk
    have S := per_spec hp.permF (x := (i : Int)) (by omega) (by omega)
    have hk2 : 1002 * e + 1002 < k := by rw [Nat.succ_mul, Nat.mul_comm] at hk; exact hk
    clear hk
    obtain ⟨k', hk'⟩ : ∃ m, k = (m + (per (rd p) i - 1) + 1) + 1 := ⟨k - per (rd p) i - 1, by omega⟩
    have hl := cycsTo_len (rd p) i
    have key := of_l1 hp hn (show i < p.length by omega) (cycsTo (rd p) i) (by omega) (per (rd p) i - 1) 0 k' true (by omega) (by
      simp only [true_iff]
      intro j hj
      obtain rfl : j = 0 := by omega
      exact Int.le_refl _)
    rw [hk', cayleyref_CyclesOf.l0, if_pos (by omega), if_pos (by omega)]
    have e1 : (List.range (0 + 1)).map (fun j => it (rd p) j i) = [(i : Int)] := rfl
    have e2 : it (rd p) (0 + 1) i = rd p i := rfl
    rw [e1, e2] at key
    by_cases hL : Least (rd p) i
    · rw [key.1 hL, ← cycsTo_yes hL]
      exact ih (i + 1) k' (by omega) (by rw [Nat.mul_comm]; omega)
    · rw [key.2 hL, ← cycsTo_no hL]
      exact ih (i + 1) k' (by omega) (by rw [Nat.mul_comm]; omega)
theorem of_f {p : List Int} (hp : PermL p) (hn : p.length ≤ 1000) (k : Nat) (hk : 1100000 < k) : cayleyref_CyclesOf.f k p true = some (cycsTo (rd p) p.length) := by
  unfold cayleyref_CyclesOf.f
  exact of_l0 hp hn p.length 0 k (by omega) (by omega)
theorem rd_L4_elem {c : List (List Int)} {j : Nat} (h : j < c.length) : rd_L4 c (j : Int) = c[j] := by
  unfold rd_L4
  rw [List.getD_eq_getElem?_getD, Int.toNat_natCast, List.getElem?_eq_getElem h]; rfl
theorem sh_l1 (c : List (List Int)) (hc : c.length ≤ 1000) (m : Nat) (hm : m ≤ 1000) : ∀ (d i k : Nat) (out : List Int), c.length = i + d → out.length + d ≤ 3000000 → cayleyref_ShapeOf.l1 (k + d + 1) c out ((m + 1 : Nat) : Int) i = cayleyref_ShapeOf.l0 k c (out ++ List.replicate ((c.drop i).countP (fun x => x.length == m + 1)) ((m + 1 : Nat) : Int)) m := by
  intro d
  induction d with
  | zero =>
    intro i k out hi ho
    simp only [cayleyref_ShapeOf.l1]
    rw [if_neg (by omega), List.drop_eq_nil_of_le (by omega), w64 _ (by omega) (by omega), show ((m + 1 : Nat) : Int) - 1 = (m : Int) by omega]
    simp
  | succ d ih =>
    intro i k out hi ho
    have hil : i < c.length := by omega
    have hw : wrap64 ((i : Int) + 1) = ((i + 1 : Nat) : Int) := by rw [w64 _ (by omega) (by omega)]; omega
    rw [show k + (d + 1) + 1 = (k + d + 1) + 1 by omega, cayleyref_ShapeOf.l1, if_pos (by omega), if_pos (by omega), rd_L4_elem hil, hw, List.drop_eq_getElem_cons hil, List.countP_cons]
    by_cases h : c[i].length = m + 1
    · rw [if_pos (by omega), if_pos (by omega), ih (i + 1) k _ (by omega) (by rw [List.length_append, List.length_singleton]; omega)]
      congr 1
      rw [List.append_assoc, if_pos (by simpa using h), List.replicate_succ]; rfl
    · rw [if_neg (by omega), ih (i + 1) k _ (by omega) (by omega)]
      simp [h]
theorem countP_le (c : List (List Int)) (m : Nat) : c.countP (fun x => x.length == m) ≤ c.length := List.countP_le_length
theorem sh_l0 (c : List (List Int)) (hc : c.length ≤ 1000) : ∀ (m k : Nat) (out : List Int), m ≤ 1000 → 1002 * m < k → out.length + 1000 * m ≤ 2000000 → cayleyref_ShapeOf.l0 k c out m = some (out ++ shp m c) := by
  intro m
  induction m with
  | zero =>
    intro k out _ hk _
    obtain ⟨k, rfl⟩ : ∃ m, k = m + 1 := ⟨k - 1, by omega⟩
    simp only [cayleyref_ShapeOf.l0]
    rw [if_neg (by omega)]; simp [shp]
  | succ m ih =>
    intro k out hm hk ho
    obtain ⟨k', rfl⟩ : ∃ j, k = (j + c.length + 1) + 1 := ⟨k - c.length - 2, by omega⟩
    have hcp := countP_le c (m + 1)
    rw [cayleyref_ShapeOf.l0, if_pos (by omega)]
    have := sh_l1 c hc m (by omega) c.length 0 k' out (by omega) (by omega)
    rw [List.drop_zero] at this
    rw [show (0 : Int) = ((0 : Nat) : Int) by rfl, this, ih k' _ (by omega) (by omega) (by rw [List.length_append, List.length_replicate]; omega), List.append_assoc]
    rfl
theorem shape_f {p : List Int} (hp : PermL p) (hn : p.length ≤ 1000) (k : Nat) (hk : 1100000 < k) : cayleyref_ShapeOf.f k p = some (shp p.length (cycsTo (rd p) p.length)) := by
  unfold cayleyref_ShapeOf.f
  rw [of_f hp hn k hk]
  simp only [Option.bind_some]
  have := sh_l0 (cycsTo (rd p) p.length) (Nat.le_trans (cycsTo_len _ _) hn) p.length k [] hn (by omega) (by simp; omega)
  simpa using this
end Go.Proofs.YtkplhpnhjfdelaaGreatDoor.PO
namespace Go.Proofs.YtkplhpnhjfdelaaGreatDoor.PS
open Go.RowKit Go.Proofs.YtkplhpnhjfdelaaGreatDoorW.PrintWords Go.Proofs.YtkplhpnhjfdelaaGreatDoor.PPermCycles Go.Proofs.YtkplhpnhjfdelaaGreatDoor.CY Go.Proofs.YtkplhpnhjfdelaaGreatDoor.CK Go.Proofs.YtkplhpnhjfdelaaGreatDoor.PM Go.Proofs.YtkplhpnhjfdelaaGreatDoor.PN Go.Proofs.YtkplhpnhjfdelaaGreatDoor.PO Go.Proofs.YtkplhpnhjfdelaaGreatDoor.CYR
set_option linter.unusedVariables false
set_option linter.unusedSimpArgs false
theorem big_snoc (acc : List (List Int)) (c : List Int) : big (acc ++ [c]) = if 1 < c.length then big acc ++ [c] else big acc := by
  unfold big
  rw [List.filter_append]
  by_cases h : 1 < c.length
  · simp [h]
  · simp [h]
/-- One cycle of CyclesOf: from step t on. -/
theorem of_l1f {p : List Int} (hp : PermL p) (hn : p.length ≤ 1000) {i : Nat} (hi : i < p.length) (acc : List (List Int)) (hacc : acc.length ≤ 1000) : ∀ (d t k : Nat) (b : Bool), per (rd p) i = t + 1 + d → (b = true ↔ ∀ j, j ≤ t → (i : Int) ≤ it (rd p) j i) →
    (Least (rd p) i → cayleyref_CyclesOf.l1 (k + d + 1) p false acc i ((List.range (t + 1)).map (fun j => it (rd p) j i)) b (it (rd p) (t + 1) i) = cayleyref_CyclesOf.l0 k p false (if 1 < (cyc (rd p) i).length then acc ++ [cyc (rd p) i] else acc) ((i + 1 : Nat) : Int)) ∧
    (¬ Least (rd p) i → cayleyref_CyclesOf.l1 (k + d + 1) p false acc i ((List.range (t + 1)).map (fun j => it (rd p) j i)) b (it (rd p) (t + 1) i) = cayleyref_CyclesOf.l0 k p false acc ((i + 1 : Nat) : Int)) := by
  have F := hp.permF
  have h0 : (0 : Int) ≤ (i : Int) := by omega
  have h1 : (i : Int) < (p.length : Int) := by omega
  have S := per_spec F h0 h1
  have hcl : ∀ t, ((List.range (t + 1)).map (fun j => it (rd p) j i)).length = t + 1 := fun t => by simp
  intro d
  induction d with
  | zero =>
    intro t k b hper hb
    have hL : b = true ↔ Least (rd p) i := by
      rw [hb]
      constructor
      · intro h j
        have := h (j % per (rd p) i) (by have := Nat.mod_lt j S.1; omega)
        rwa [it_mod F h0 h1] at this
      · intro h j _; exact h j
    have hx : it (rd p) (t + 1) i = i := by rw [show t + 1 = per (rd p) i by omega]; exact S.2.2.1
    have hc : (List.range (t + 1)).map (fun j => it (rd p) j i) = cyc (rd p) i := by rw [show t + 1 = per (rd p) i by omega]; rfl
    have hw : wrap64 ((i : Int) + 1) = ((i + 1 : Nat) : Int) := by rw [w64 _ (by omega) (by omega)]; omega
    simp only [cayleyref_CyclesOf.l1]
    rw [if_pos hx, hc, hw]
    constructor
    · intro h
      rw [if_pos (hL.2 h), if_neg (by simp)]
      by_cases hlen : 1 < (cyc (rd p) i).length
      · rw [if_pos (show ((cyc (rd p) i).length : Int) > 1 by omega), if_pos (by omega), if_pos hlen]
      · rw [if_neg (show ¬ ((cyc (rd p) i).length : Int) > 1 by omega), if_neg hlen]
    · intro h
      rw [if_neg (fun e => h (hL.1 e))]
  | succ d ih =>
    intro t k b hper hb
    have hne : it (rd p) (t + 1) i ≠ i := S.2.2.2 (t + 1) (by omega) (by omega)
    have r := it_rng F h0 h1 (t + 1)
    have hb' : (if b = true then decide (it (rd p) (t + 1) i > i) else false) = true ↔ ∀ j, j ≤ t + 1 → (i : Int) ≤ it (rd p) j i := by
      cases hbb : b with
      | false =>
        simp only [Bool.false_eq_true, if_false, false_iff]
        intro h
        have := hb.2 (fun j hj => h j (by omega))
        rw [hbb] at this; cases this
      | true =>
        simp only [if_true, decide_eq_true_eq]
        have h2 := hb.1 hbb
        constructor
        · intro h j hj
          rcases Nat.lt_or_ge t j with h3 | h3
          · obtain rfl : j = t + 1 := by omega
            omega
          · exact h2 j h3
        · intro h
          have := h (t + 1) (Nat.le_refl _)
          omega
    have key := ih (t + 1) k _ (by omega) hb'
    have hstep : cayleyref_CyclesOf.l1 (k + (d + 1) + 1) p false acc i ((List.range (t + 1)).map (fun j => it (rd p) j i)) b (it (rd p) (t + 1) i) = cayleyref_CyclesOf.l1 (k + d + 1) p false acc i ((List.range (t + 1 + 1)).map (fun j => it (rd p) j i)) (if b = true then decide (it (rd p) (t + 1) i > i) else false) (it (rd p) (t + 1 + 1) i) := by
      rw [show k + (d + 1) + 1 = (k + d + 1) + 1 by omega]
      rw [cayleyref_CyclesOf.l1, if_neg hne, if_pos (by rw [hcl]; omega)]
      simp only [Option.bind_some]
      rw [List.range_succ (n := t + 1), List.map_append]
      cases b with
      | true => rw [if_pos rfl, if_pos r.1, if_pos r.2, if_pos rfl]; rfl
      | false => rw [if_neg (by simp), if_pos r.1, if_pos r.2, if_neg (by simp)]; rfl
    rw [hstep]
    exact key
theorem of_l0f {p : List Int} (hp : PermL p) (hn : p.length ≤ 1000) : ∀ (e i k : Nat), p.length = i + e → e * 1002 < k → cayleyref_CyclesOf.l0 k p false (big (cycsTo (rd p) i)) i = some (big (cycsTo (rd p) p.length)) := by
  intro e
  induction e with
  | zero =>
    intro i k hi hk
    obtain ⟨k, rfl⟩ : ∃ m, k = m + 1 := ⟨k - 1, by omega⟩
    simp only [cayleyref_CyclesOf.l0]
    rw [if_neg (by omega), show p.length = i by omega]
  | succ e ih =>
    intro i k hi hk
    have S := per_spec hp.permF (x := (i : Int)) (by omega) (by omega)
    have hk2 : 1002 * e + 1002 < k := by rw [Nat.succ_mul, Nat.mul_comm] at hk; exact hk
    clear hk
    obtain ⟨k', hk'⟩ : ∃ m, k = (m + (per (rd p) i - 1) + 1) + 1 := ⟨k - per (rd p) i - 1, by omega⟩
    have hl : (big (cycsTo (rd p) i)).length ≤ i := Nat.le_trans (List.length_filter_le _ _) (cycsTo_len (rd p) i)
    have key := of_l1f hp hn (show i < p.length by omega) (big (cycsTo (rd p) i)) (by omega) (per (rd p) i - 1) 0 k' true (by omega) (by
      simp only [true_iff]
      intro j hj
      obtain rfl : j = 0 := by omega
      exact Int.le_refl _)
    rw [hk', cayleyref_CyclesOf.l0, if_pos (by omega), if_pos (by omega)]
    have e1 : (List.range (0 + 1)).map (fun j => it (rd p) j i) = [(i : Int)] := rfl
    have e2 : it (rd p) (0 + 1) i = rd p i := rfl
    rw [e1, e2] at key
    by_cases hL : Least (rd p) i
    · rw [key.1 hL, ← big_snoc, ← cycsTo_yes hL]
      exact ih (i + 1) k' (by omega) (by rw [Nat.mul_comm]; omega)
    · rw [key.2 hL, ← cycsTo_no hL]
      exact ih (i + 1) k' (by omega) (by rw [Nat.mul_comm]; omega)
theorem of_ff {p : List Int} (hp : PermL p) (hn : p.length ≤ 1000) (k : Nat) (hk : 1100000 < k) : cayleyref_CyclesOf.f k p false = some (big (cycsTo (rd p) p.length)) := by
  unfold cayleyref_CyclesOf.f
  exact of_l0f hp hn p.length 0 k (by omega) (by omega)
theorem shp_desc (c : List (List Int)) : ∀ n, (shp n c).Pairwise (fun a b : Int => b ≤ a) := by
  intro n
  induction n with
  | zero => simp [shp]
  | succ n ih =>
    simp only [shp]
    rw [List.pairwise_append]
    refine ⟨List.pairwise_replicate.2 (Or.inr (Int.le_refl _)), ih, fun a ha b hb => ?_⟩
    have h1 := List.eq_of_mem_replicate ha
    have h2 := shp_le c n b hb
    omega
/-- The lengths, sorted and turned round, are the shape. -/
theorem shp_sorted {c : List (List Int)} {n : Nat} (hc : ∀ x ∈ c, 0 < x.length ∧ x.length ≤ n) {s : List Int} (hp : s.Perm (c.map fun x => (x.length : Int))) (hs : s.Pairwise (· ≤ ·)) : s.reverse = shp n c := by
  refine List.Perm.eq_of_pairwise (le := fun a b : Int => b ≤ a) (fun a b _ _ h1 h2 => by omega) (List.pairwise_reverse.2 hs) (shp_desc c n) ?_
  refine (List.reverse_perm s).trans (hp.trans ?_)
  rw [List.perm_iff_count]
  intro m
  by_cases hm : 0 < m ∧ m ≤ (n : Int)
  · obtain ⟨k, rfl⟩ : ∃ k : Nat, m = (k : Int) := ⟨m.toNat, by omega⟩
    rw [shp_count c n k (by omega) (by omega)]
    simp only [List.count, List.countP_map]
    refine List.countP_congr (fun x _ => ?_)
    simp only [Function.comp_apply, beq_iff_eq]
    omega
  · rw [List.count_eq_zero.2, List.count_eq_zero.2]
    · intro h; have := shp_le c n m h; omega
    · intro h
      obtain ⟨x, hx, rfl⟩ := List.mem_map.1 h
      have := hc x hx
      omega
end Go.Proofs.YtkplhpnhjfdelaaGreatDoor.PS
