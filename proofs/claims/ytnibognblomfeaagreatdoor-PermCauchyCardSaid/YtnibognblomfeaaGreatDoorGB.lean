/- What the printed sorting steps do to a list of slice values. slices.symMergeCmpFunc: the walk. Written by smgen.py. -/
import Derived.Test.YtnibognblomfeaaGreatDoorGS
namespace Go.Proofs.YtnibognblomfeaaGreatDoor.SP
open Go.RowKit Go.Proofs.YtnibognblomfeaaGreatDoorW.PrintWords Go.Proofs.YtnibognblomfeaaGreatDoor.PSort
set_option linter.unusedVariables false
set_option linter.unusedSimpArgs false
theorem w64 (n : Int) (h : -9223372036854775808 ≤ n ∧ n ≤ 9223372036854775807) : wrap64 n = n := by unfold wrap64; omega
def Desc (l : List SV) : Prop := l.Pairwise (fun a b => b.size ≤ a.size)
def Small (l : List SV) : Prop := ∀ s, s ∈ l → s.size ≤ 9223372036854775807
theorem rd_at (u : List SV) (c : SV) (v : List SV) (i : Int) (h : i = (u.length : Int)) : rdOf svNil (u ++ c :: v) i = c := by
  subst h; simp [rdOf]
theorem set_at (u : List SV) (c d : SV) (v : List SV) (i : Int) (h : i = (u.length : Int)) : (u ++ c :: v).set i.toNat d = u ++ d :: v := by
  subst h; simp
theorem swap_adj (u : List SV) (c d : SV) (v : List SV) (i j : Int) (hi : i = (u.length : Int)) (hj : j = (u.length : Int) + 1) :
    ((u ++ c :: d :: v).set j.toNat c).set i.toNat d = u ++ d :: c :: v ∧ ((u ++ c :: d :: v).set i.toNat d).set j.toNat c = u ++ d :: c :: v := by
  have h1 := set_at (u ++ [c]) d c v j (by simp; omega)
  have h2 := set_at u c d (c :: v) i hi
  have h3 := set_at u c d (d :: v) i hi
  have h4 := set_at (u ++ [d]) d c v j (by simp; omega)
  simp only [List.append_assoc, List.singleton_append, List.cons_append, List.nil_append] at h1 h2 h3 h4
  exact ⟨by rw [h1, h2], by rw [h3, h4]⟩
theorem rd_snd (u : List SV) (c d : SV) (v : List SV) (j : Int) (hj : j = (u.length : Int) + 1) : rdOf svNil (u ++ c :: d :: v) j = d := by
  have h1 := rd_at (u ++ [c]) d v j (by simp; omega)
  simpa using h1
theorem longer_lt (a b : SV) (ha : a.size ≤ 9223372036854775807) (hb : b.size ≤ 9223372036854775807) : (wrap64 ((b.size : Int) - (a.size : Int)) < 0) ↔ b.size < a.size := by
  rw [w64 _ (by omega)]; omega
theorem Small.perm {l l' : List SV} (h : Small l) (hp : l'.Perm l) : Small l' := fun s hs => h s (hp.mem_iff.mp hs)
/-- The inner loop: one element sinks to its place. -/
theorem ins_l1 (a b i : Int) (p t q : List SV) (ha : a = (p.length : Int)) (hi : i < 9223372036854775807) : ∀ (n : Nat) (s1 s2 : List SV) (c : SV) (j : Int), s1.length = n → j = a + s1.length → i = j + s2.length →
    Small (p ++ (s1 ++ c :: s2) ++ t) → Desc (s1 ++ s2) → (∀ s, s ∈ s2 → s.size < c.size) →
    ∃ z : List SV, z.Perm (s1 ++ c :: s2) ∧ Desc z ∧ ∀ r, (∃ k, slices_insertionSortCmpFunc_int.l0 k (p ++ (z ++ t)) a b (i + 1) = some r) → ∃ k, slices_insertionSortCmpFunc_int.l1 k (p ++ ((s1 ++ c :: s2) ++ t)) a b i j = some r := by
  intro n
  induction n with
  | zero =>
    intro s1 s2 c j hn hj hij hs hd hc
    have : s1 = [] := List.eq_nil_of_length_eq_zero hn
    subst this
    refine ⟨c :: s2, List.Perm.refl _, ?_, ?_⟩
    · exact List.pairwise_cons.mpr ⟨fun s h => Nat.le_of_lt (hc s h), hd⟩
    · rintro r ⟨k, hk⟩
      refine ⟨k + 1, ?_⟩
      simp only [slices_insertionSortCmpFunc_int.l1]
      rw [if_neg (by simp at hj; omega), w64 _ (by omega)]
      exact hk
  | succ n ih =>
    intro s1 s2 c j hn hj hij hs hd hc
    obtain ⟨s, d, rfl⟩ : ∃ s d, s1 = s ++ [d] := by
      rcases List.eq_nil_or_concat s1 with h | ⟨s, d, h⟩
      · subst h; simp at hn
      · exact ⟨s, d, by simpa using h⟩
    have hsn : s.length = n := by simpa using hn
    have hj' : j = a + s.length + 1 := by simp at hj; omega
    have e0 : p ++ ((s ++ [d] ++ c :: s2) ++ t) = (p ++ s) ++ d :: c :: (s2 ++ t) := by simp
    have hsd : d.size ≤ 9223372036854775807 := hs d (by simp)
    have hsc : c.size ≤ 9223372036854775807 := hs c (by simp)
    have hA : rdOf svNil ((p ++ s) ++ d :: c :: (s2 ++ t)) j = c := rd_snd _ _ _ _ _ (by simp; omega)
    have hB : rdOf svNil ((p ++ s) ++ d :: c :: (s2 ++ t)) (j - 1) = d := rd_at _ _ _ _ (by simp; omega)
    have hlt := longer_lt c d hsc hsd
    by_cases hcd : d.size < c.size
    · obtain ⟨z, hz1, hz2, hz3⟩ := ih s (d :: s2) c (j - 1) hsn (by omega) (by simp; omega) (hs.perm (by
        refine List.Perm.append_right _ (List.Perm.append_left _ ?_)
        simp only [List.append_assoc, List.singleton_append]
        exact List.Perm.append_left _ (List.Perm.swap _ _ _))) (by simpa using hd) (by
          intro x hx
          rcases List.mem_cons.mp hx with h | h
          · subst h; exact hcd
          · exact hc x h)
      refine ⟨z, hz1.trans (by simp only [List.append_assoc, List.singleton_append]; exact List.Perm.append_left _ (List.Perm.swap _ _ _)), hz2, ?_⟩
      intro r hr
      obtain ⟨k, hk⟩ := hz3 r hr
      refine ⟨k + 1, ?_⟩
      simp only [slices_insertionSortCmpFunc_int.l1]
      rw [e0]
      rw [if_pos (by omega), if_pos (by omega), if_pos (by simp; omega), w64 (j - 1) (by omega), if_pos (by omega), if_pos (by simp; omega), hA, hB]
      simp only [perm_Longer.f, Option.bind_some]
      rw [if_pos (hlt.mpr hcd), (swap_adj (p ++ s) d c (s2 ++ t) (j - 1) j (by simp; omega) (by simp; omega)).1]
      simpa using hk
    · refine ⟨s ++ [d] ++ c :: s2, List.Perm.refl _, ?_, ?_⟩
      · have hd' := List.pairwise_append.mp hd
        refine List.pairwise_append.mpr ⟨hd'.1, List.pairwise_cons.mpr ⟨fun x h => Nat.le_of_lt (hc x h), hd'.2.1⟩, ?_⟩
        intro x hx y hy
        rcases List.mem_cons.mp hy with h | h
        · subst h
          have h1 := (List.pairwise_append.mp hd'.1).2.2
          rcases List.mem_append.mp hx with h2 | h2
          · exact Nat.le_trans (Nat.le_of_not_lt hcd) (h1 x h2 d (by simp))
          · rw [List.mem_singleton.mp h2]; exact Nat.le_of_not_lt hcd
        · exact hd'.2.2 x hx y h
      · rintro r ⟨k, hk⟩
        refine ⟨k + 1, ?_⟩
        simp only [slices_insertionSortCmpFunc_int.l1]
        rw [e0]
        rw [if_pos (by omega), if_pos (by omega), if_pos (by simp; omega), w64 (j - 1) (by omega), if_pos (by omega), if_pos (by simp; omega), hA, hB]
        simp only [perm_Longer.f, Option.bind_some]
        rw [if_neg (fun h => hcd (hlt.mp h)), w64 (i + 1) (by omega), ← e0]
        exact hk
theorem ins_l0 (a b : Int) (p q : List SV) (ha : a = (p.length : Int)) (hb : b < 9223372036854775807) : ∀ (n : Nat) (s t : List SV) (i : Int), t.length = n → i = a + s.length → b = i + t.length →
    Small (p ++ ((s ++ t) ++ q)) → Desc s →
    ∃ z : List SV, z.Perm (s ++ t) ∧ Desc z ∧ ∃ k, slices_insertionSortCmpFunc_int.l0 k (p ++ ((s ++ t) ++ q)) a b i = some (p ++ (z ++ q)) := by
  intro n
  induction n with
  | zero =>
    intro s t i hn hi hbi hs hd
    have : t = [] := List.eq_nil_of_length_eq_zero hn
    subst this
    refine ⟨s, by simp, hd, 1, ?_⟩
    simp only [slices_insertionSortCmpFunc_int.l0]
    rw [if_neg (by simp at hbi; omega)]
    simp
  | succ n ih =>
    intro s t i hn hi hbi hs hd
    match t, hn with
    | c :: t, hn =>
      have hn' : t.length = n := by simpa using hn
      have hbi' : b = i + t.length + 1 := by simp at hbi; omega
      obtain ⟨z, hz1, hz2, hz3⟩ := ins_l1 a b i p (t ++ q) q ha (by omega) s.length s [] c i rfl hi (by simp) (hs.perm (by simp)) (by simpa using hd) (by simp)
      have hzl : z.length = s.length + 1 := by rw [hz1.length_eq]; simp
      obtain ⟨z', h1, h2, k', h3⟩ := ih z t (i + 1) hn' (by rw [hzl]; push_cast; omega) (by omega) (hs.perm (by
        refine List.Perm.append_left _ (List.Perm.append_right _ ?_)
        have := hz1.append_right t
        simpa using this)) hz2
      refine ⟨z', h1.trans (by have := hz1.append_right t; simpa using this), h2, ?_⟩
      obtain ⟨k, hk⟩ := hz3 (p ++ (z' ++ q)) ⟨k', by simpa using h3⟩
      refine ⟨k + 1, ?_⟩
      simp only [slices_insertionSortCmpFunc_int.l0]
      rw [if_pos (by omega)]
      simpa using hk
theorem ins_f (p x q : List SV) (a b : Int) (ha : a = (p.length : Int)) (hb : b = (p.length : Int) + x.length) (hl : (p ++ (x ++ q)).length ≤ 1000000) (hs : Small (p ++ (x ++ q))) :
    ∃ z : List SV, z.Perm x ∧ Desc z ∧ ∃ k, slices_insertionSortCmpFunc_int.f k (p ++ (x ++ q)) a b true = some (p ++ (z ++ q)) := by
  simp only [List.length_append] at hl
  unfold slices_insertionSortCmpFunc_int.f
  cases x with
  | nil =>
    refine ⟨[], .refl _, .nil, 1, ?_⟩
    simp only [slices_insertionSortCmpFunc_int.l0]
    rw [w64 _ (by omega), if_neg (by simp at hb; omega)]
  | cons c t =>
    have hb' : b = a + 1 + t.length := by simp at hb; omega
    obtain ⟨z, h1, h2, k, h3⟩ := ins_l0 a b p q ha (by simp at hl; omega) t.length [c] t (a + 1) rfl (by simp) hb' (by simpa using hs) (List.pairwise_singleton _ _)
    refine ⟨z, by simpa using h1, h2, k, ?_⟩
    rw [w64 _ (by omega)]
    simpa using h3
/-! ### swapRange -/
theorem sw_l0 (p m q : List SV) (a b n : Int) : ∀ (x2 y2 y1 x1 : List SV) (t : Int), x2.length = y2.length → y1.length = x1.length → t = x1.length → a = (p.length : Int) → b = a + (x1.length : Int) + x2.length + m.length → n = t + x2.length → b + n ≤ 1000000 →
    ∃ k, slices_swapRangeCmpFunc_int.l0 k (p ++ (y1 ++ (x2 ++ (m ++ (x1 ++ (y2 ++ q)))))) a b n t = some (p ++ ((y1 ++ y2) ++ (m ++ ((x1 ++ x2) ++ q)))) := by
  intro x2
  induction x2 with
  | nil =>
    intro y2 y1 x1 t h2 h1 ht ha hb hn hl
    have : y2 = [] := List.eq_nil_of_length_eq_zero h2.symm
    subst this
    refine ⟨1, ?_⟩
    simp only [slices_swapRangeCmpFunc_int.l0]
    rw [if_neg (by simp at hn; omega)]
    simp
  | cons c x2 ih =>
    intro y2 y1 x1 t h2 h1 ht ha hb hn hl
    match y2, h2 with
    | d :: y2, h2 =>
      have hb' : b = a + (x1.length : Int) + x2.length + 1 + m.length := by simp at hb; omega
      have hn' : n = t + x2.length + 1 := by simp at hn; omega
      obtain ⟨k, hk⟩ := ih y2 (y1 ++ [d]) (x1 ++ [c]) (t + 1) (by simpa using h2) (by simp [h1]) (by simp; omega) ha (by simp; omega) (by omega) hl
      refine ⟨k + 1, ?_⟩
      have e1 : p ++ (y1 ++ ((c :: x2) ++ (m ++ (x1 ++ ((d :: y2) ++ q))))) = (p ++ y1) ++ c :: (x2 ++ (m ++ (x1 ++ (d :: (y2 ++ q))))) := by simp
      have e2 : p ++ (y1 ++ ((c :: x2) ++ (m ++ (x1 ++ ((d :: y2) ++ q))))) = (p ++ (y1 ++ (c :: x2 ++ (m ++ x1)))) ++ d :: (y2 ++ q) := by simp
      have hA : rdOf svNil (p ++ (y1 ++ ((c :: x2) ++ (m ++ (x1 ++ ((d :: y2) ++ q)))))) (a + t) = c := by rw [e1]; exact rd_at _ _ _ _ (by simp; omega)
      have hB : rdOf svNil (p ++ (y1 ++ ((c :: x2) ++ (m ++ (x1 ++ ((d :: y2) ++ q)))))) (b + t) = d := by rw [e2]; exact rd_at _ _ _ _ (by simp; omega)
      have hS : ((p ++ (y1 ++ ((c :: x2) ++ (m ++ (x1 ++ ((d :: y2) ++ q)))))).set (a + t).toNat d).set (b + t).toNat c = p ++ ((y1 ++ [d]) ++ (x2 ++ (m ++ ((x1 ++ [c]) ++ (y2 ++ q))))) := by
        rw [e1, set_at _ _ _ _ _ (by simp; omega)]
        have := set_at (p ++ (y1 ++ (d :: x2 ++ (m ++ x1)))) d c (y2 ++ q) (b + t) (by simp; omega)
        simpa using this
      have hlen : (p ++ (y1 ++ ((c :: x2) ++ (m ++ (x1 ++ ((d :: y2) ++ q)))))).length = p.length + y1.length + x2.length + 1 + m.length + x1.length + y2.length + 1 + q.length := by simp; omega
      simp only [slices_swapRangeCmpFunc_int.l0]
      rw [if_pos (by omega), w64 (b + t) (by omega), w64 (a + t) (by omega), if_pos (by omega), if_pos (by rw [hlen]; push_cast; simp at h2; omega), if_pos (by omega), if_pos (by rw [hlen]; push_cast; omega), hA, hB, hS, w64 (t + 1) (by omega), hk]
      simp
theorem sw_f (p x m y q : List SV) (a b n : Int) (h : x.length = y.length) (ha : a = (p.length : Int)) (hb : b = (p.length : Int) + x.length + m.length) (hn : n = (x.length : Int)) (hl : b + n ≤ 1000000) :
    ∃ k, slices_swapRangeCmpFunc_int.f k (p ++ (x ++ (m ++ (y ++ q)))) a b n true = some (p ++ (y ++ (m ++ (x ++ q)))) := by
  obtain ⟨k, hk⟩ := sw_l0 p m q a b n x y [] [] 0 h rfl rfl ha (by simp; omega) (by simp; omega) hl
  exact ⟨k, by unfold slices_swapRangeCmpFunc_int.f; simpa using hk⟩
/-! ### rotate -/
theorem sw_mono {k k' : Nat} (h : k ≤ k') {l r : List SV} {a b n : Int} {u : Bool} (hf : slices_swapRangeCmpFunc_int.f k l a b n u = some r) : slices_swapRangeCmpFunc_int.f k' l a b n u = some r := by
  induction h with
  | refl => exact hf
  | step _ ih => exact slices_swapRangeCmpFunc_int.mono _ _ _ _ _ _ _ ih
theorem ro_mono {k k' : Nat} (h : k ≤ k') {l r : List SV} {a b n : Int} {u : Bool} (hf : slices_rotateCmpFunc_int.l0 k l a u b n = some r) : slices_rotateCmpFunc_int.l0 k' l a u b n = some r := by
  induction h with
  | refl => exact hf
  | step _ ih => exact (slices_rotateCmpFunc_int.mono_l _) _ _ _ _ _ _ ih
theorem ro_l0 (m : Int) : ∀ (n : Nat) (p x y q : List SV) (i j : Int), x.length + y.length ≤ n → x ≠ [] → y ≠ [] → m = (p.length : Int) + x.length → i = x.length → j = y.length → m + j ≤ 1000000 →
    ∃ k, slices_rotateCmpFunc_int.l0 k (p ++ (x ++ (y ++ q))) m true i j = some (p ++ (y ++ (x ++ q))) := by
  intro n
  induction n with
  | zero =>
    intro p x y q i j hn hx hy
    have := List.length_pos_iff.mpr hx
    omega
  | succ n ih =>
    intro p x y q i j hn hx hy hm hi hj hl
    have hx0 := List.length_pos_iff.mpr hx
    have hy0 := List.length_pos_iff.mpr hy
    rcases Nat.lt_trichotomy x.length y.length with h | h | h
    · -- the right block is longer: its last part goes to the front
      obtain ⟨y1, y2, rfl, h2⟩ : ∃ y1 y2, y = y1 ++ y2 ∧ y2.length = x.length := ⟨y.take (y.length - x.length), y.drop (y.length - x.length), (List.take_append_drop _ _).symm, by simp; omega⟩
      simp only [List.length_append] at h hn hj
      have h1 : y1 ≠ [] := by intro e; subst e; simp at h; omega
      obtain ⟨k1, hk1⟩ := sw_f p x y1 y2 q (m - i) (m + j - i) i h2.symm (by omega) (by push_cast at hj; omega) hi (by push_cast at hj; omega)
      obtain ⟨k2, hk2⟩ := ih p y2 y1 (x ++ q) i (j - i) (by omega) (by intro e; subst e; simp at h2; omega) h1 (by omega) (by omega) (by push_cast at hj; omega) (by omega)
      refine ⟨max k1 k2 + 1, ?_⟩
      simp only [slices_rotateCmpFunc_int.l0]
      rw [if_neg (by push_cast at hj; omega), if_neg (by push_cast at hj; omega), w64 (m - i) (by omega), w64 (m + j) (by push_cast at hj; omega), w64 (m + j - i) (by push_cast at hj; omega), w64 (j - i) (by push_cast at hj; omega)]
      have e1 : p ++ (x ++ ((y1 ++ y2) ++ q)) = p ++ (x ++ (y1 ++ (y2 ++ q))) := by simp
      rw [e1, sw_mono (Nat.le_max_left k1 k2) hk1]
      simp only [Option.bind_some]
      rw [ro_mono (Nat.le_max_right k1 k2) hk2]
      simp
    · obtain ⟨k1, hk1⟩ := sw_f p x [] y q (m - i) m i h (by omega) (by simp; omega) hi (by omega)
      refine ⟨k1 + 1, ?_⟩
      simp only [slices_rotateCmpFunc_int.l0]
      rw [if_pos (by omega), w64 (m - i) (by omega)]
      have e1 : p ++ (x ++ (y ++ q)) = p ++ (x ++ ([] ++ (y ++ q))) := by simp
      rw [e1, hk1]
      simp
    · obtain ⟨x1, x2, rfl, h2⟩ : ∃ x1 x2, x = x1 ++ x2 ∧ x1.length = y.length := ⟨x.take y.length, x.drop y.length, (List.take_append_drop _ _).symm, by simp; omega⟩
      simp only [List.length_append] at h hn hi hm
      have h1 : x2 ≠ [] := by intro e; subst e; simp at h; omega
      obtain ⟨k1, hk1⟩ := sw_f p x1 x2 y q (m - i) m j h2 (by push_cast at hi hm; omega) (by push_cast at hi hm; omega) (by omega) (by omega)
      obtain ⟨k2, hk2⟩ := ih (p ++ y) x2 x1 q (i - j) j (by omega) h1 (by intro e; subst e; simp at h2; omega) (by simp; push_cast at hi hm; omega) (by push_cast at hi hm; omega) (by omega) (by omega)
      refine ⟨max k1 k2 + 1, ?_⟩
      simp only [slices_rotateCmpFunc_int.l0]
      rw [if_neg (by push_cast at hi hm; omega), if_pos (by push_cast at hi hm; omega), w64 (m - i) (by push_cast at hi hm; omega), w64 (i - j) (by push_cast at hi hm; omega)]
      have e1 : p ++ ((x1 ++ x2) ++ (y ++ q)) = p ++ (x1 ++ (x2 ++ (y ++ q))) := by simp
      rw [e1, sw_mono (Nat.le_max_left k1 k2) hk1]
      simp only [Option.bind_some]
      have e2 : p ++ (y ++ (x2 ++ (x1 ++ q))) = (p ++ y) ++ (x2 ++ (x1 ++ q)) := by simp
      rw [e2, ro_mono (Nat.le_max_right k1 k2) hk2]
      simp
theorem ro_f (p x y q : List SV) (a m b : Int) (hx : x ≠ []) (hy : y ≠ []) (ha : a = (p.length : Int)) (hm : m = (p.length : Int) + x.length) (hb : b = m + y.length) (hl : b ≤ 1000000) :
    ∃ k, slices_rotateCmpFunc_int.f k (p ++ (x ++ (y ++ q))) a m b true = some (p ++ (y ++ (x ++ q))) := by
  obtain ⟨k, hk⟩ := ro_l0 m _ p x y q (m - a) (b - m) (Nat.le_refl _) hx hy hm (by omega) (by omega) (by omega)
  refine ⟨k, ?_⟩
  unfold slices_rotateCmpFunc_int.f
  rw [w64 (m - a) (by omega), w64 (b - m) (by omega)]
  exact hk
end Go.Proofs.YtnibognblomfeaaGreatDoor.SP
namespace Go.Proofs.YtnibognblomfeaaGreatDoor.SM
open Go.RowKit Go.Proofs.YtnibognblomfeaaGreatDoorW.PrintWords Go.Proofs.YtnibognblomfeaaGreatDoorW.PrintLast Go.Proofs.YtnibognblomfeaaGreatDoorW.PrintMore Go.Proofs.YtnibognblomfeaaGreatDoor.PSort Go.Proofs.YtnibognblomfeaaGreatDoor.SP
attribute [local go_sem] max2_int min2_int max_two min_two max_three min_three max_four min_four
set_option linter.unusedVariables false
set_option linter.unusedSimpArgs false
def slices_symMergeCmpFunc_int.T5 : Bool × List (List Nat × List Nat) := (true, [([], []), ([], []), ([], []), ([1, 2], [1, 2]), ([3], [3]), ([], []), ([], []), ([5, 6], [5, 6]), ([7], [7]), ([0, 4, 8], [0, 4, 8]), ([9], [9])])
def slices_symMergeCmpFunc_int.B5 : List Nat := [0, 0, 0, 6, 14, 0, 0, 96, 224, 511, 1023]
theorem slices_symMergeCmpFunc_int.tab5 : rtab .any (opsOf Tryz.f35 5) = slices_symMergeCmpFunc_int.T5 := by kernel_rfl
theorem slices_symMergeCmpFunc_int.bits5 : waitsOk slices_symMergeCmpFunc_int.T5.2 slices_symMergeCmpFunc_int.B5 = true := by kernel_rfl
def slices_symMergeCmpFunc_int.T11 : Bool × List (List Nat × List Nat) := (true, [([], []), ([], []), ([], []), ([], []), ([3], [3]), ([], []), ([], []), ([6], [6]), ([5, 7], [5, 7]), ([8], [8]), ([], []), ([], []), ([10, 11], [10, 11]), ([12], [12]), ([0, 1, 0, 1, 5, 6, 7, 8, 9, 13], [0, 1]), ([14, 9, 0, 1, 5, 6, 7, 8, 9, 13], [9, 14]), ([2, 4, 0, 1, 2, 3, 4, 5, 6, 7, 8, 9, 10, 11, 12, 13, 14, 15], [2, 4]), ([16, 13, 15, 0, 1, 2, 3, 4, 5, 6, 7, 8, 9, 10, 11, 12, 13, 14, 15], [13, 16])])
def slices_symMergeCmpFunc_int.B11 : List Nat := [0, 0, 0, 0, 8, 0, 0, 64, 224, 480, 0, 0, 3072, 7168, 16355, 32739, 65535, 131071]
theorem slices_symMergeCmpFunc_int.tab11 : rtab .any (opsOf Tryz.f35 11) = slices_symMergeCmpFunc_int.T11 := by kernel_rfl
theorem slices_symMergeCmpFunc_int.bits11 : waitsOk slices_symMergeCmpFunc_int.T11.2 slices_symMergeCmpFunc_int.B11 = true := by kernel_rfl
def slices_symMergeCmpFunc_int.T17 : Bool × List (List Nat × List Nat) := (true, [([], []), ([], []), ([], []), ([1, 2], [1, 2]), ([3], [3]), ([], []), ([], []), ([5, 6], [5, 6]), ([7], [7]), ([0, 4, 8], [0, 4, 8]), ([9], [9]), ([10], [10])])
def slices_symMergeCmpFunc_int.B17 : List Nat := [0, 0, 0, 6, 14, 0, 0, 96, 224, 511, 1023, 2047]
theorem slices_symMergeCmpFunc_int.tab17 : rtab .any (opsOf Tryz.f35 17) = slices_symMergeCmpFunc_int.T17 := by kernel_rfl
theorem slices_symMergeCmpFunc_int.bits17 : waitsOk slices_symMergeCmpFunc_int.T17.2 slices_symMergeCmpFunc_int.B17 = true := by kernel_rfl
def slices_symMergeCmpFunc_int.T23 : Bool × List (List Nat × List Nat) := (true, [([], []), ([], []), ([], []), ([], []), ([3], [3]), ([], []), ([], []), ([6], [6]), ([5, 7], [5, 7]), ([8], [8]), ([], []), ([], []), ([10, 11], [10, 11]), ([12], [12]), ([0, 1, 0, 1, 5, 6, 7, 8, 9, 13], [0, 1]), ([14, 9, 0, 1, 5, 6, 7, 8, 9, 13], [9, 14]), ([2, 4, 0, 1, 2, 3, 4, 5, 6, 7, 8, 9, 10, 11, 12, 13, 14, 15], [2, 4]), ([16, 13, 15, 0, 1, 2, 3, 4, 5, 6, 7, 8, 9, 10, 11, 12, 13, 14, 15], [13, 16])])
def slices_symMergeCmpFunc_int.B23 : List Nat := [0, 0, 0, 0, 8, 0, 0, 64, 224, 480, 0, 0, 3072, 7168, 16355, 32739, 65535, 131071]
theorem slices_symMergeCmpFunc_int.tab23 : rtab .any (opsOf Tryz.f35 23) = slices_symMergeCmpFunc_int.T23 := by kernel_rfl
theorem slices_symMergeCmpFunc_int.bits23 : waitsOk slices_symMergeCmpFunc_int.T23.2 slices_symMergeCmpFunc_int.B23 = true := by kernel_rfl
def slices_symMergeCmpFunc_int.T35 : Bool × List (List Nat × List Nat) := (true, [([], []), ([], []), ([], []), ([], []), ([2, 3], [2, 3]), ([1, 4], [1, 4]), ([5], [5]), ([], []), ([], []), ([7, 8], [7, 8]), ([9], [9]), ([0, 6, 10], [0, 6, 10]), ([11], [11]), ([12], [12])])
def slices_symMergeCmpFunc_int.B35 : List Nat := [0, 0, 0, 0, 12, 30, 62, 0, 0, 384, 896, 2047, 4095, 8191]
theorem slices_symMergeCmpFunc_int.tab35 : rtab .any (opsOf Tryz.f35 35) = slices_symMergeCmpFunc_int.T35 := by kernel_rfl
theorem slices_symMergeCmpFunc_int.bits35 : waitsOk slices_symMergeCmpFunc_int.T35.2 slices_symMergeCmpFunc_int.B35 = true := by kernel_rfl
theorem half_le {x y j : Int} (h : wrap64 ((IntKind.u64.wrap (wrap64 (x + y))) / 2) = j) (h0 : 0 ≤ x) (h1 : x < y) (h2 : y ≤ 1000000) : x ≤ j ∧ j < y ∧ j = (x + y) / 2 := by
  have e1 : wrap64 (x + y) = x + y := w64 _ (by omega)
  have e2 : IntKind.u64.wrap (x + y) = x + y := by simp [IntKind.wrap, IntKind.bits, IntKind.signed]; omega
  rw [e1, e2, w64 _ (by omega)] at h
  omega
theorem half_lt {x y j : Int} (h : wrap64 ((IntKind.u64.wrap (wrap64 (x + y))) / 2) = j) (h0 : 0 ≤ x) (h1 : x + 2 ≤ y) (h2 : y ≤ 1000000) : x < j ∧ j < y ∧ 2 * j ≤ x + y ∧ x + y ≤ 2 * j + 1 := by
  have := half_le h h0 (by omega) h2
  omega
theorem small_rd {l : List SV} (h : Small l) (i : Int) (h0 : 0 ≤ i) (h1 : i < (l.length : Int)) : (rdOf svNil l i).size ≤ 9223372036854775807 := by
  refine h _ ?_
  have : i.toNat < l.length := by omega
  simp only [rdOf, List.getD_eq_getElem?_getD, List.getElem?_eq_getElem this, Option.getD_some]
  exact List.getElem_mem _
theorem longer_f {a b : SV} {t : Int} (h : perm_Longer.f a b = some t) (ha : a.size ≤ 9223372036854775807) (hb : b.size ≤ 9223372036854775807) : t < 0 ↔ b.size < a.size := by
  have := Option.some.inj h
  subst this
  exact longer_lt a b ha hb
theorem snoc_of {l : List SV} (h : l ≠ []) : ∃ s d, l = s ++ [d] := by
  rcases List.eq_nil_or_concat l with h1 | ⟨s, d, h1⟩
  · exact absurd h1 h
  · exact ⟨s, d, by simpa using h1⟩
theorem up_split (p y q : List SV) (c : SV) (l0 : List SV) (a1 a2 a3 i : Int) (hl : l0 = p ++ ([c] ++ (y ++ q))) (h1 : a1 = (p.length : Int)) (h2 : a2 = a1 + 1) (h3 : a3 = a2 + y.length) (d1 : a2 ≤ i) (d3 : i ≤ a3)
    (f1 : a2 < i → (rdOf svNil l0 a1).size < (rdOf svNil l0 (i - 1)).size) (f2 : i < a3 → ¬ (rdOf svNil l0 a1).size < (rdOf svNil l0 i).size) :
    ∃ y1 y2, y = y1 ++ y2 ∧ (y1.length : Int) = i - 1 - a1 ∧ (Desc y → Desc (y1 ++ c :: y2)) := by
  subst hl
  refine ⟨y.take (i - a2).toNat, y.drop (i - a2).toNat, (List.take_append_drop _ _).symm, by simp; omega, ?_⟩
  generalize hy1 : y.take (i - a2).toNat = y1
  generalize hy2 : y.drop (i - a2).toNat = y2
  have hl1 : (y1.length : Int) = i - a2 := by rw [← hy1]; simp; omega
  have hy : y = y1 ++ y2 := by rw [← hy1, ← hy2]; exact (List.take_append_drop _ _).symm
  clear hy1 hy2
  subst hy
  have hc : rdOf svNil (p ++ ([c] ++ ((y1 ++ y2) ++ q))) a1 = c := rd_at _ _ _ _ h1
  rw [hc] at f1 f2
  intro hd
  have hd' := List.pairwise_append.mp hd
  refine List.pairwise_append.mpr ⟨hd'.1, List.pairwise_cons.mpr ⟨?_, hd'.2.1⟩, ?_⟩
  · intro b hb
    match y2, hb with
    | e :: y2, hb =>
      have he : rdOf svNil (p ++ ([c] ++ ((y1 ++ e :: y2) ++ q))) i = e := by
        have := rd_at (p ++ ([c] ++ y1)) e (y2 ++ q) i (by simp; omega)
        simpa using this
      have hec : e.size ≤ c.size := by
        have := f2 (by simp at h3; omega)
        rw [he] at this; omega
      rcases List.mem_cons.mp hb with h | h
      · subst h; exact hec
      · exact Nat.le_trans ((List.pairwise_cons.mp hd'.2.1).1 b h) hec
  · intro a ha b hb
    rcases List.mem_cons.mp hb with h | h
    · subst h
      obtain ⟨s, e, rfl⟩ := snoc_of (List.ne_nil_of_mem ha)
      have he : rdOf svNil (p ++ ([b] ++ (((s ++ [e]) ++ y2) ++ q))) (i - 1) = e := by
        have := rd_at (p ++ ([b] ++ s)) e (y2 ++ q) (i - 1) (by simp at hl1 ⊢; omega)
        simpa using this
      have hec : b.size < e.size := by
        have := f1 (by simp at hl1; omega)
        rw [he] at this; exact this
      rcases List.mem_append.mp ha with h | h
      · exact Nat.le_trans (Nat.le_of_lt hec) ((List.pairwise_append.mp hd'.1).2.2 a h e (by simp))
      · rw [List.mem_singleton.mp h]; exact Nat.le_of_lt hec
    · exact hd'.2.2 a ha b h
theorem down_split (p x q : List SV) (c : SV) (l0 : List SV) (a1 a2 i : Int) (hl : l0 = p ++ (x ++ ([c] ++ q))) (h1 : a1 = (p.length : Int)) (h2 : a2 = a1 + x.length) (d1 : a1 ≤ i) (d3 : i ≤ a2)
    (f1 : a1 < i → ¬ (rdOf svNil l0 (i - 1)).size < (rdOf svNil l0 a2).size) (f2 : i < a2 → (rdOf svNil l0 i).size < (rdOf svNil l0 a2).size) :
    ∃ x1 x2, x = x1 ++ x2 ∧ (x1.length : Int) = i - a1 ∧ (Desc x → Desc (x1 ++ c :: x2)) := by
  subst hl
  refine ⟨x.take (i - a1).toNat, x.drop (i - a1).toNat, (List.take_append_drop _ _).symm, by simp; omega, ?_⟩
  generalize hx1 : x.take (i - a1).toNat = x1
  generalize hx2 : x.drop (i - a1).toNat = x2
  have hl1 : (x1.length : Int) = i - a1 := by rw [← hx1]; simp; omega
  have hx : x = x1 ++ x2 := by rw [← hx1, ← hx2]; exact (List.take_append_drop _ _).symm
  clear hx1 hx2
  subst hx
  have hc : rdOf svNil (p ++ ((x1 ++ x2) ++ ([c] ++ q))) a2 = c := by
    have := rd_at (p ++ (x1 ++ x2)) c q a2 (by simp at h2 ⊢; omega)
    simpa using this
  rw [hc] at f1 f2
  intro hd
  have hd' := List.pairwise_append.mp hd
  refine List.pairwise_append.mpr ⟨hd'.1, List.pairwise_cons.mpr ⟨?_, hd'.2.1⟩, ?_⟩
  · intro b hb
    match x2, hb with
    | e :: x2, hb =>
      have he : rdOf svNil (p ++ ((x1 ++ e :: x2) ++ ([c] ++ q))) i = e := by
        have := rd_at (p ++ x1) e (x2 ++ ([c] ++ q)) i (by simp; omega)
        simpa using this
      have hec : e.size < c.size := by
        have := f2 (by simp at h2; omega)
        rw [he] at this; exact this
      rcases List.mem_cons.mp hb with h | h
      · subst h; exact Nat.le_of_lt hec
      · exact Nat.le_trans ((List.pairwise_cons.mp hd'.2.1).1 b h) (Nat.le_of_lt hec)
  · intro a ha b hb
    rcases List.mem_cons.mp hb with h | h
    · subst h
      obtain ⟨s, e, rfl⟩ := snoc_of (List.ne_nil_of_mem ha)
      have he : rdOf svNil (p ++ (((s ++ [e]) ++ x2) ++ ([b] ++ q))) (i - 1) = e := by
        have := rd_at (p ++ s) e (x2 ++ ([b] ++ q)) (i - 1) (by simp at hl1 ⊢; omega)
        simpa using this
      have hec : b.size ≤ e.size := by
        have := f1 (by simp at hl1; omega)
        rw [he] at this; omega
      rcases List.mem_append.mp ha with h | h
      · exact Nat.le_trans hec ((List.pairwise_append.mp hd'.1).2.2 a h e (by simp))
      · rw [List.mem_singleton.mp h]; exact hec
    · exact hd'.2.2 a ha b h
theorem mid_split (p x y q l0 : List SV) (a1 a2 a3 J s s0 r0 : Int) (hl : l0 = p ++ (x ++ (y ++ q))) (h1 : a1 = (p.length : Int)) (h2 : (x.length : Int) = a2 - a1) (h3 : (y.length : Int) = a3 - a2)
    (hS : (J < a2 ∧ s0 = J + a2 - a3 ∧ r0 = J) ∨ (a2 ≤ J ∧ s0 = a1 ∧ r0 = a2)) (hJ : a1 < J ∧ J < a3 ∧ 2 * J ≤ a1 + a3 ∧ a1 + a3 ≤ 2 * J + 1) (d1 : s0 ≤ s) (d3 : s ≤ r0)
    (f1 : s0 < s → ¬ (rdOf svNil l0 (s - 1)).size < (rdOf svNil l0 (J + a2 - s)).size) (f2 : s < r0 → (rdOf svNil l0 s).size < (rdOf svNil l0 (J + a2 - 1 - s)).size) :
    ∃ B C D E, x = B ++ C ∧ y = D ++ E ∧ (B.length : Int) = s - a1 ∧ (D.length : Int) = J - s ∧ (Desc x → Desc y → ∀ u, (u ∈ B ∨ u ∈ D) → ∀ v, (v ∈ C ∨ v ∈ E) → v.size ≤ u.size) := by
  subst hl
  have hs1 : a1 ≤ s := by omega
  have hs2 : s ≤ a2 := by omega
  have hs3 : s ≤ J := by omega
  have hs4 : J - s ≤ a3 - a2 := by omega
  refine ⟨x.take (s - a1).toNat, x.drop (s - a1).toNat, y.take (J - s).toNat, y.drop (J - s).toNat, (List.take_append_drop _ _).symm, (List.take_append_drop _ _).symm, by simp; omega, by simp; omega, ?_⟩
  generalize hB : x.take (s - a1).toNat = B
  generalize hC : x.drop (s - a1).toNat = C
  generalize hD : y.take (J - s).toNat = D
  generalize hE : y.drop (J - s).toNat = E
  have hBl : (B.length : Int) = s - a1 := by rw [← hB]; simp; omega
  have hDl : (D.length : Int) = J - s := by rw [← hD]; simp; omega
  have hx : x = B ++ C := by rw [← hB, ← hC]; exact (List.take_append_drop _ _).symm
  have hy : y = D ++ E := by rw [← hD, ← hE]; exact (List.take_append_drop _ _).symm
  clear hB hC hD hE
  subst hx hy
  have hCl : (C.length : Int) = a2 - s := by simp at h2; omega
  have hEl : (E.length : Int) = a3 - a2 - (J - s) := by simp at h3; omega
  intro dx dy u hu v hv
  have dx' := List.pairwise_append.mp dx
  have dy' := List.pairwise_append.mp dy
  rcases hu with hu | hu <;> rcases hv with hv | hv
  · exact dx'.2.2 u hu v hv
  · obtain ⟨B', b, rfl⟩ := snoc_of (List.ne_nil_of_mem hu)
    obtain ⟨e, E', rfl⟩ := List.exists_cons_of_ne_nil (List.ne_nil_of_mem hv)
    have hb : rdOf svNil (p ++ (((B' ++ [b]) ++ C) ++ ((D ++ e :: E') ++ q))) (s - 1) = b := by
      have := rd_at (p ++ B') b (C ++ ((D ++ e :: E') ++ q)) (s - 1) (by simp at hBl ⊢; omega)
      simpa using this
    have he : rdOf svNil (p ++ (((B' ++ [b]) ++ C) ++ ((D ++ e :: E') ++ q))) (J + a2 - s) = e := by
      have := rd_at (p ++ (((B' ++ [b]) ++ C) ++ D)) e (E' ++ q) (J + a2 - s) (by simp at hBl ⊢; omega)
      simpa using this
    have hbe : e.size ≤ b.size := by
      have := f1 (by simp at hBl hEl; omega)
      rw [hb, he] at this; omega
    have h1 : v.size ≤ e.size := by
      rcases List.mem_cons.mp hv with h | h
      · rw [h]; exact Nat.le_refl _
      · exact (List.pairwise_cons.mp dy'.2.1).1 v h
    have h2 : b.size ≤ u.size := by
      rcases List.mem_append.mp hu with h | h
      · exact (List.pairwise_append.mp dx'.1).2.2 u h b (by simp)
      · rw [List.mem_singleton.mp h]; exact Nat.le_refl _
    omega
  · obtain ⟨D', d, rfl⟩ := snoc_of (List.ne_nil_of_mem hu)
    obtain ⟨c, C', rfl⟩ := List.exists_cons_of_ne_nil (List.ne_nil_of_mem hv)
    have hc : rdOf svNil (p ++ ((B ++ c :: C') ++ (((D' ++ [d]) ++ E) ++ q))) s = c := by
      have := rd_at (p ++ B) c (C' ++ (((D' ++ [d]) ++ E) ++ q)) s (by simp; omega)
      simpa using this
    have hd : rdOf svNil (p ++ ((B ++ c :: C') ++ (((D' ++ [d]) ++ E) ++ q))) (J + a2 - 1 - s) = d := by
      have := rd_at (p ++ ((B ++ c :: C') ++ D')) d (E ++ q) (J + a2 - 1 - s) (by simp at hDl hCl ⊢; omega)
      simpa using this
    have hdc : c.size < d.size := by
      have := f2 (by simp at hDl hCl; omega)
      rw [hc, hd] at this; exact this
    have h1 : v.size ≤ c.size := by
      rcases List.mem_cons.mp hv with h | h
      · rw [h]; exact Nat.le_refl _
      · exact (List.pairwise_cons.mp dx'.2.1).1 v h
    have h2 : d.size ≤ u.size := by
      rcases List.mem_append.mp hu with h | h
      · exact (List.pairwise_append.mp dy'.1).2.2 u h d (by simp)
      · rw [List.mem_singleton.mp h]; exact Nat.le_refl _
    omega
  · exact dy'.2.2 u hu v hv
theorem perm_swap3 (D C R : List SV) : (D ++ (C ++ R)).Perm (C ++ (D ++ R)) := by
  have := (List.perm_append_comm (l₁ := D) (l₂ := C)).append_right R
  simpa only [List.append_assoc] using this
theorem fin_perm {B C D E z1 z2 : List SV} (h1 : z1.Perm (B ++ D)) (h2 : z2.Perm (C ++ E)) : (z1 ++ z2).Perm ((B ++ C) ++ (D ++ E)) := by
  refine (h1.append h2).trans ?_
  simp only [List.append_assoc]
  refine List.Perm.append_left _ ?_
  rw [← List.append_assoc, ← List.append_assoc]
  exact List.Perm.append_right _ List.perm_append_comm
theorem fin_desc {x y B C D E z1 z2 : List SV} (hx : x = B ++ C) (hy : y = D ++ E) (h1 : z1.Perm (B ++ D)) (h2 : z2.Perm (C ++ E)) (d1 : Desc B → Desc D → Desc z1) (d2 : Desc C → Desc E → Desc z2)
    (hc : Desc x → Desc y → ∀ u, (u ∈ B ∨ u ∈ D) → ∀ v, (v ∈ C ∨ v ∈ E) → v.size ≤ u.size) : Desc x → Desc y → Desc (z1 ++ z2) := by
  intro dx dy
  have hc' := hc dx dy
  subst hx hy
  have ex := List.pairwise_append.mp dx
  have ey := List.pairwise_append.mp dy
  refine List.pairwise_append.mpr ⟨d1 ex.1 ey.1, d2 ex.2.1 ey.2.1, ?_⟩
  intro u hu v hv
  exact hc' u (List.mem_append.mp (h1.mem_iff.mp hu)) v (List.mem_append.mp (h2.mem_iff.mp hv))
theorem desc_nil {B D : List SV} (h : B = [] ∨ D = []) : Desc B → Desc D → Desc (B ++ D) := by
  intro hB hD
  rcases h with h | h
  · subst h; exact hD
  · subst h; simpa using hB
theorem swap_nil {C D : List SV} (h : C = [] ∨ D = []) (E : List SV) : D ++ (C ++ E) = C ++ (D ++ E) := by
  rcases h with h | h <;> subst h <;> simp
theorem rec_args (p B C D E q l0 L : List SV) (n : Nat) (s J a1 a1' s' : Int) (hs : True ∨ True) (hn : B.length + C.length + (D.length + E.length) ≤ n) (hl0 : l0 = p ++ (B ++ (C ++ (D ++ (E ++ q))))) (hL : L = p ++ (B ++ (D ++ (C ++ (E ++ q)))))
    (hB : (B.length : Int) = s - a1) (hD : (D.length : Int) = J - s) (hCE : 0 < C.length + E.length) (hc : a1 < s ∧ s < J) (hb : (l0.length : Int) ≤ 1000000) (hsm : Small l0) :
    B.length + D.length ≤ n - 1 ∧ B ≠ [] ∧ D ≠ [] ∧ s = a1 + B.length ∧ J = s + D.length ∧ L.length ≤ 1000000 ∧ Small L := by
  refine ⟨by omega, ?_, ?_, by omega, by omega, ?_, ?_⟩
  · intro e; rw [e] at hB; simp at hB; omega
  · intro e; rw [e] at hD; simp at hD; omega
  · rw [hl0] at hb; rw [hL]; simp only [List.length_append] at hb ⊢; omega
  · refine hsm.perm ?_
    rw [hl0, hL]
    exact List.Perm.append_left _ (List.Perm.append_left _ (perm_swap3 _ _ _))
theorem rec_args2 (p B C D E q l0 M z1 : List SV) (n : Nat) (s J a1 a2 a3 Ev : Int) (hn : B.length + C.length + (D.length + E.length) ≤ n) (hl0 : l0 = p ++ (B ++ (C ++ (D ++ (E ++ q))))) (hM : M = p ++ (z1 ++ (C ++ (E ++ q)))) (hz : z1.Perm (B ++ D))
    (hB : (B.length : Int) = s - a1) (hD : (D.length : Int) = J - s) (hC : (C.length : Int) = a2 - s) (hE : (E.length : Int) = a3 - a2 - (J - s)) (hc : J < Ev ∧ Ev < a3) (h1 : a1 = (p.length : Int)) (hb : (l0.length : Int) ≤ 1000000) (hsm : Small l0) (he : Ev = J + a2 - s) (hJ : a1 < J) :
    M = (p ++ z1) ++ (C ++ (E ++ q)) ∧ C.length + E.length ≤ n - 1 ∧ C ≠ [] ∧ E ≠ [] ∧ J = ((p ++ z1).length : Int) ∧ Ev = J + C.length ∧ a3 = Ev + E.length ∧ M.length ≤ 1000000 ∧ Small M := by
  have hzl := hz.length_eq
  rw [List.length_append] at hzl
  refine ⟨by rw [hM]; simp, by omega, ?_, ?_, ?_, by omega, by omega, ?_, ?_⟩
  · intro e; rw [e] at hC; simp at hC; omega
  · intro e; rw [e] at hE; simp at hE; omega
  · rw [List.length_append, Int.natCast_add, hzl]; omega
  · rw [hl0] at hb; rw [hM]; simp only [List.length_append] at hb ⊢; omega
  · refine hsm.perm ?_
    rw [hl0, hM]
    refine List.Perm.append_left _ ?_
    refine (hz.append_right _).trans ?_
    simp only [List.append_assoc]
    exact List.Perm.append_left _ (perm_swap3 _ _ _)

def SMAll (n : Nat) : Prop := ∀ (P0_ : Nat → Prop) (u9000_ : Value) (p x y q l0 : List SV) (a1 a2 a3 : Int) (w0 w : World) (hB : Below w0.heap.size w0 w) (ho0 : Kd.R Kdsv 22 w w0.heap.size P0_ u9000_ l0) (hl0 : l0 = p ++ (x ++ (y ++ q))) (hn : x.length + y.length ≤ n) (hx : x ≠ []) (hy : y ≠ []) (h1 : a1 = (p.length : Int)) (h2 : a2 = a1 + x.length) (h3 : a3 = a2 + y.length) (hlen : l0.length ≤ 1000000) (hsm : Small l0), Calls Tryz.prog 35 #[u9000_, .int .i64 a1, .int .i64 a2, .int .i64 a3, .func (.func 17) #[] #[]] w fun e w' => e = .returned (.tuple #[]) ∧ (∃ z : List SV, z.Perm (x ++ y) ∧ (Desc x → Desc y → Desc z) ∧ Kd.R Kdsv 22 w' w0.heap.size (fun k_ => (P0_ k_ ∨ w.heap.size ≤ k_)) u9000_ (p ++ (z ++ q))) ∧ Below w0.heap.size w0 w' ∧ Kept w w' (fun k_ => P0_ k_)
end Go.Proofs.YtnibognblomfeaaGreatDoor.SM
