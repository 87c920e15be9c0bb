/- PermCauchy: the statement and its card, for every two slices of numbers. No condition beyond the row's own. -/
import Derived.Test.YtnibognblomfeaaGreatDoorCards
import Derived.Test.YtnibognblomfeaaGreatDoorTie
import Derived.Test.YtnibognblomfeaaGreatDoorGM
import Derived.WalkKit
import Derived.ProofKit
import Derived.OpenShut
import Derived.Carry
import Derived.SizedLaws
import Derived.Deep.DeepHandedRow
import Derived.Lib.LaidTab
namespace Go.Proofs.YtnibognblomfeaaGreatDoor.permCauchy
open Go.ChangeShapes Go.WideShapes Go.ChangeAt Go.RowKit Go.Proofs.YtnibognblomfeaaGreatDoorW.PrintWords Go.Proofs.YtnibognblomfeaaGreatDoor.PN Go.Proofs.YtnibognblomfeaaGreatDoor.LW Go.Proofs.YtnibognblomfeaaGreatDoor.LX
set_option linter.unusedVariables false
/-- The walk, whole: both cases. -/
theorem walk (A A' : Option Addr) (c c' : Nat) (p q : List Int) (w : World) (hp : Kd.C (Kd.int .i64) w A p.length p) (hc : p.length ≤ c) (hq : Kd.C (Kd.int .i64) w A' q.length q) (hc' : q.length ≤ c') (hpl : p.length * 8 ≤ 140737488355328) (hql : q.length * 8 ≤ 140737488355328)
    (hleaf : w.cell? ⟨6, 0, none⟩ = some (.int .i64 8)) :
    Calls Tryz.prog 3 #[.slice A p.length c, .slice A' q.length c'] w fun e w' => e = .returned (.bool true) ∧ Below w.heap.size w w' := by
  by_cases h : (tfF p q).1 = 0
  · exact law_ok A A' c c' p q w hp hc hq hc' h hleaf
  · exact law_bad A A' c c' p q (tfF p q).1 (tfF p q).2 w hp hc hq hc' hpl hql rfl h hleaf

theorem own : ownKnob Tryz.prog.godebug = none := by kernel_rfl
theorem laidOut : laidOutB Tryz.prog = true := by kernel_rfl
theorem cellsInt : Tryz.prog.cellsOf 3 = 1 := by kernel_rfl
theorem bytesInt : Tryz.prog.bytesOf 3 = 8 := by kernel_rfl

/-- What the row's list gives: the number that the walk reads. -/
theorem leaf {W : World} (h : laidMetH Tryz.prog Rows.permCauchyRow.laid W) : W.cell? ⟨6, 0, none⟩ = some (.int .i64 8) := by
  rw [MakeChecks.laidMetH_plain _ _ _ (by kernel_rfl)] at h
  obtain ⟨ps, h, -⟩ := h
  obtain ⟨_, _, _, _, _, _, _, _, _, _, h, _⟩ := h
  obtain ⟨_, _, _, _, _, _, _, _, _, _, h, _⟩ := h
  obtain ⟨_, _, _, _, _, _, _, _, _, _, h, _⟩ := h
  obtain ⟨g, t, cs, fuel, p, q, hg, ht, hv, hd, _, _⟩ := h
  obtain rfl := Option.some.inj ((show Tryz.prog.globalNamed "math/big.leafSize" = some 6 by kernel_rfl).symm.trans hg)
  obtain rfl := Option.some.inj ((show (Tryz.prog.globals[6]?).map (·.type) = some 3 by kernel_rfl).symm.trans ht)
  obtain ⟨z, hc, hx, _⟩ := DataW.trod_int Tryz.underlying3 hd
  have hz : z = 8 := by
    have h1 := congrArg Prod.fst hx
    injection h1 with h2
    injection h2 with h3 h4
    exact h4.symm
  subst hz
  have hcell := World.var?_cell hg hv 0
  have h0 : cs[0]? = some (.int .i64 8) := by
    have := congrArg (·[0]?) hc
    simpa using this
  rw [h0] at hcell
  exact hcell

set_option maxRecDepth 100000 in
/-- A slice of numbers that came in, as the walk reads it. -/
theorem opened {H : Type} {enc : TypeId × Value → H} {W : World} {base : Nat} {v : Value} {d : DataW H} {p : List MemPlace} (hv : Value.okWide Tryz.prog W .any base 22 v)
    (h : DataW.Trod enc Tryz.prog W 0 (fun _ => true) true 22 v d p) (hs : ∀ elems spare, d = .slice elems spare → (elems.length + spare.length) * 8 ≤ reachBytes) :
    ∃ (a : Option Addr) (l : List Int) (c : Nat), v = .slice a l.length c ∧ l.length ≤ c ∧ Kd.C (Kd.int .i64) W a l.length l ∧ l.length * 8 ≤ 140737488355328 := by
  obtain ⟨a0, len, cap, rfl⟩ := okWide_slice Tryz.underlying22 hv
  obtain ⟨fuel, hf⟩ := h
  rcases open_ints Tryz.underlying22 Tryz.underlying3 cellsInt hf with ⟨hcs, hx⟩ | ⟨a, len', cap', zs, hcs, _, hl, hmx, hz, hx, hcell, hwz⟩
  · simp [Value.cells] at hcs
    obtain ⟨rfl, rfl, rfl⟩ := hcs
    exact ⟨none, [], 0, rfl, Nat.le_refl _, ⟨rfl, by simp, fun h => absurd h (Nat.lt_irrefl _)⟩, by simp⟩
  · simp [Value.cells] at hcs
    obtain ⟨rfl, rfl, rfl⟩ := hcs
    simp only [Prod.mk.injEq] at hx
    obtain ⟨rfl, rfl⟩ := hx
    simp only [if_true] at hz
    have hlen : (zs.take len).length = len := by rw [List.length_take]; omega
    have hsz := hs _ _ rfl
    simp only [lits, List.length_map, List.length_take, List.length_drop, reachBytes] at hsz
    refine ⟨some a, zs.take len, cap, by rw [hlen], by omega, ⟨rfl, by omega, fun _ => ⟨a, rfl, fun j x hj => ⟨[.int .i64 x], rfl, rfl, fun i u hu => ?_⟩⟩⟩, by omega⟩
    have hjl : j < len := by have := (List.getElem?_eq_some_iff.1 hj).1; omega
    rw [List.getElem?_take, if_pos hjl] at hj
    cases i with
    | succ i => simp at hu
    | zero =>
      obtain rfl : Value.int .i64 x = u := by simpa using hu
      show W.cell? (a.add (j * 1 + 0)) = _
      rw [Nat.mul_one, Nat.add_zero, hcell j (by omega), List.getD_eq_getElem?_getD, hj]; rfl

set_option maxRecDepth 100000 in
/-- What the walk gives, for every argument and every world that holds the listed variables. -/
theorem contract (H : Type) (enc : TypeId × Value → H) (W : World) (base : Nat) (args : Array Value) (ds gs : List (DataW H)) (before : List MemPlace)
    (hval : ∀ (j : Nat) t v, Tryz.f3.params[j]? = some t → args[j]? = some v → Value.okWide Tryz.prog W .any base t v)
    (hW : DataW.Whole enc Tryz.prog Tryz.f3.params.toList Rows.permCauchySpec.vars false W args.toList ds gs before)
    (hsz : (DataW.weightsEach Tryz.prog (Tryz.f3.params.toList ++ Rows.permCauchySpec.plain.varTypes Tryz.prog) (ds ++ gs)).all (· ≤ reachBytes) = true) (hL : laidMetH Tryz.prog Rows.permCauchyRow.laid W) :
    Calls Tryz.prog 3 args W fun e W' => ∃ v, e = .returned v ∧ Rows.permCauchySpec.post enc Tryz.prog Tryz.f3 false true false false W args v W' := by
  have hW' := hW
  obtain ⟨p, q, hA0, hV, rfl, hfz, hnd⟩ := hW
  have hA : DataW.TrodAll enc Tryz.prog W 0 (fun _ => true) true Tryz.f3.params.toList args.toList ds p := hA0
  rw [Tryz.params3] at hA hval hsz
  obtain ⟨v0, v1, d0, d1, p0, p1, rfl, rfl, rfl, h0, h1⟩ := trodAll_two hA
  obtain ⟨rfl, rfl⟩ := trodVars_none hV
  have hlen0 : ∀ elems spare, d0 = .slice elems spare → (elems.length + spare.length) * 8 ≤ reachBytes := fun e s he => by
    subst he
    have := sized_slice hsz (j := 0) (t := 22) (e := 3) rfl rfl Tryz.underlying22
    rw [bytesInt] at this
    exact this
  have hlen1 : ∀ elems spare, d1 = .slice elems spare → (elems.length + spare.length) * 8 ≤ reachBytes := fun e s he => by
    subst he
    have := sized_slice hsz (j := 1) (t := 22) (e := 3) rfl rfl Tryz.underlying22
    rw [bytesInt] at this
    exact this
  obtain ⟨a0, l0, c0, rfl, hc0, hC0, hb0⟩ := opened (hval 0 22 v0 rfl rfl) h0 hlen0
  obtain ⟨a1, l1, c1, rfl, hc1, hC1, hb1⟩ := opened (hval 1 22 v1 rfl rfl) h1 hlen1
  clear hA0
  simp only [List.append_nil] at hW'
  have hlt : ∀ y ∈ p0 ++ p1, y.block < W.heap.size := fun y hy => hW'.lt y hy
  refine (walk a0 a1 c0 c1 l0 l1 W hC0 hc0 hC1 hc1 hb0 hb1 (leaf hL)).mono fun e W' ⟨he, hb⟩ => ?_
  subst he
  have harg0 : DataW.Trod enc Tryz.prog W' 0 (fun b => decide (b < W.heap.size)) true 22 (.slice a0 l0.length c0) d0 p0 :=
    Below.trod laidOut (by kernel_rfl) (of_decide_eq_true (by kernel_rfl)) h0 hb (fun y hy => hlt y (by simp [hy]))
  have harg1 : DataW.Trod enc Tryz.prog W' 0 (fun b => decide (b < W.heap.size)) true 22 (.slice a1 l1.length c1) d1 p1 :=
    Below.trod laidOut (by kernel_rfl) (of_decide_eq_true (by kernel_rfl)) h1 hb (fun y hy => hlt y (by simp [hy]))
  exact ⟨_, rfl, _, _, _, [], _, [], hW', trodAll_mk1 (shut_bool Tryz.underlying4 true), trodAll_mk2 harg0 harg1, rfl, hb.frame _, fun h => by cases h⟩

/-- One listed number as a cell's value. -/
def one : DataW Unit → Value
  | .lit (.int k n) => .int k n
  | _ => .int .i64 0
/-- A listed variable's cells. -/
def cellsOf : DataW Unit → Array Value
  | .agg l => (l.map one).toArray
  | d => #[one d]
/-- A variable's block, laid. -/
def lay (g : Nat) (d : DataW Unit) (h : Array Obj) : Array Obj := h.modify g fun
  | .cells _ t frozen => .cells (cellsOf d) t frozen
  | o => o
/-- The listed variables' blocks, laid. -/
def layAll (h : Array Obj) : Array Obj := lay 1 Rows.laid_math_big_karatsubaSqrThreshold (lay 0 Rows.laid_math_big_basicSqrThreshold (lay 2 Rows.laid_math_big_karatsubaThreshold (lay 10 Rows.laid_math_big_divRecursiveThreshold (lay 6 Rows.laid_math_big_leafSize (lay 3 Rows.laid_internal_strconv_uint64pow10 (lay 9 Rows.laid_math_bits_deBruijn64tab (lay 8 Rows.laid_math_bits_deBruijn32tab h)))))))
/-- A world for the witness: the settled one, the listed variables holding what their initialisers lay. -/
noncomputable def laidWorld (os : Os) : World := { World.holding Tryz.prog os ⟨#[], #[], []⟩ with heap := layAll (World.holding Tryz.prog os ⟨#[], #[], []⟩).heap }
set_option maxRecDepth 100000 in
theorem laid_met (os : Os) : laidMet Tryz.prog Rows.permCauchyRow.laid ((laidWorld os).forCall (fun _ _ => 0) ⟨#[], #[.slice none 0 0, .slice none 0 0], []⟩).memory :=
  laidMet_of_run' 8 (by kernel_rfl) (by kernel_rfl)
theorem reads (os : Os) {H : Type} (enc : TypeId × Value → H) : ∃ places, DataW.whole enc Tryz.prog ((laidWorld os).forCall (fun _ _ => 0) ⟨#[], #[.slice none 0 0, .slice none 0 0], []⟩).memory Tryz.f3.params.toList Rows.permCauchySpec.vars false #[Value.slice none 0 0, Value.slice none 0 0].toList 8 = some ([.nil, .nil], [], places) :=
  ⟨[], by kernel_rfl⟩

set_option maxRecDepth 100000 in
/-- The form's step. -/
theorem lifted (os : Os) (started : os.Started) (H : Type) (enc : TypeId × Value → H) (F : Stop.Interp) :
    ReturnsInHanded {} Tryz.checked os 3 .any ((OpenSpec.ofChange Rows.permCauchySpec).preRow enc Tryz.prog Tryz.f3 Rows.permCauchyRow.domain false Rows.permCauchyRow.laid) (((OpenSpec.ofChange Rows.permCauchySpec).at F).post enc Tryz.prog Tryz.f3 false true false false) := by
  obtain ⟨places, hx⟩ := reads os enc
  refine returnsInHanded_of_row (C := Tryz.checked) (s := OpenSpec.ofChange Rows.permCauchySpec) own started (by kernel_rfl) Tryz.func3
    (witness_row_at (enc := enc) (C := Tryz.checked) false (laidWorld os) #[.slice none 0 0, .slice none 0 0] rfl (by kernel_rfl) (by kernel_rfl) (by kernel_rfl)
      (OpenSpec.preRow_of_cond 8 hx (by kernel_rfl) (fun k hk => by cases hk) (by kernel_rfl) (laid_met os))) ?_
  intro W base args ds gs before hval hW _ _ hsz hL _ _
  exact contract H enc W base args ds gs before hval hW hsz hL

theorem said : Rows.PermCauchySaid :=
  OpenClaim.holds_of_cond 3 Tryz.f3 rfl rfl rfl rfl rfl rfl rfl ⟨rfl, rfl, rfl, rfl, rfl⟩ rfl rfl rfl rfl rfl (by kernel_rfl) Tryz.func3 (by kernel_rfl)
    (of_decide_eq_true (by kernel_rfl)) (by unfold Func.isWrapper; first | (rw [if_pos (by decide +kernel)]; kernel_rfl) | (rw [if_neg (by decide +kernel)]; exact ⟨rfl, rfl⟩))
    (fun os started H enc _ F => by rw [OpenClaim.pre_eq_preRow]; exact lifted os started H enc F)

/-- What the card asks of the program's looks and of the parameters. -/
theorem plain (f : FuncId) (fn : Func) (hf : Tryz.pinned.checked.prog.funcNamed "cayley/cayleylaw.PermCauchy" = some f) (hfn : Tryz.pinned.checked.prog.funcs[f]? = some fn) :
    true = Tryz.pinned.checked.prog.looks [] ∧ ∀ (j : Nat) t, fn.params[j]? = some t → Tryz.pinned.checked.prog.wantsStandIn t = false := by
  obtain rfl : f = 3 := Option.some.inj ((show Tryz.prog.funcNamed "cayley/cayleylaw.PermCauchy" = some 3 by kernel_rfl).symm.trans hf) |>.symm
  obtain rfl : fn = Tryz.f3 := (Option.some.inj (Tryz.func3.symm.trans hfn)).symm
  refine ⟨by kernel_rfl, fun j t ht => ?_⟩
  rw [Tryz.params3] at ht
  obtain rfl : t = 22 := by simpa using Array.mem_of_getElem? ht
  exact (show Tryz.prog.wantsStandIn 22 = false by kernel_rfl)

/-- The card. -/
theorem card : Rows.PermCauchyCardSaid :=
  Claim7.holds_tied_plain_at .later [] _ _ _ _ said (fun _ h => by cases h) (by kernel_rfl) (fun _ h => by cases h) permCauchy_row_tie rfl ⟨rfl, rfl⟩ (by kernel_rfl) rfl plain (by kernel_rfl)
#print axioms card
end Go.Proofs.YtnibognblomfeaaGreatDoor.permCauchy
