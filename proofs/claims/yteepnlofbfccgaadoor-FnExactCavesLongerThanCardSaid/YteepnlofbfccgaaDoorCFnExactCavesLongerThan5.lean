/-
What is proved: parts of the law FnExactCavesLongerThan: what the functions that it reaches compute, and the plain law.
Conditions: those of each theorem.
-/
import Derived.ChangeArms
import Derived.ChangeSlices
import Derived.Deep.Slices
import Derived.RowKit
import Derived.SizedLaws
import Derived.WideShapes
import Derived.Test.YteepnlofbfccgaaDoorCFnExactCavesLongerThan4
namespace Go.Proofs.YteepnlofbfccgaaDoor.Pr
open Go.RowKit Go.Proofs.YteepnlofbfccgaaDoorW.PrintWords Go.Proofs.YteepnlofbfccgaaDoorW.PrintLast Go.Proofs.YteepnlofbfccgaaDoorW.PrintMore
attribute [local go_sem] max2_int min2_int max_two min_two max_three min_three max_four min_four   -- for this text's walks alone
set_option linter.unusedVariables false
set_option linter.unusedSimpArgs false

/-! ### laws_FnExactCavesLongerThan: function 6 -/
mutual
def laws_FnExactCavesLongerThan.j0 : Nat → List (S23) → Int → List ByteArray → Bool → List (S26) → List ByteArray → Bool → Bool → Option (Bool)
  | 0, _, _, _, _, _, _, _, _ => none
  | k + 1, x0, x1, x6, x7, x8, x9, x10, x44 => if x44 = true then (none) else ((laws_toCaveRowS.f k x0).bind fun t249 => ((laws_eqCaveRowS.f k x8 t249).bind fun t252 => (if t252 = true then ((laws_markCaveRowS.f k x8 1).bind fun bt253 => (if bt253.1 < 0 then (laws_FnExactCavesLongerThan.j1 k x0 x1 x6 x7 x9 true) else ((laws_eqStringS.f k x9 x6).bind fun t255 => (if t255 = true then (laws_FnExactCavesLongerThan.j1 k x0 x1 x6 x7 x9 (x10 != x7)) else (laws_FnExactCavesLongerThan.j1 k x0 x1 x6 x7 x9 true))))) else (none))))
def laws_FnExactCavesLongerThan.j1 : Nat → List (S23) → Int → List ByteArray → Bool → List ByteArray → Bool → Option (Bool)
  | 0, _, _, _, _, _, _ => none
  | k + 1, x0, x1, x6, x7, x9, x65 => if x65 = true then (none) else ((laws_markStringS.f k x9 1).bind fun bt256 => ((laws_heldStringS.f k bt256.2 1).bind fun t258 => (if t258 < 0 then (none) else (if t258 = bt256.1 then ((laws_toCaveRowS.f k x0).bind fun t259 => ((impl_CavesLongerThan.f k t259 x1).bind fun bt262 => ((laws_eqStringS.f k bt262.1 x6).bind fun t266 => (if t266 = true then (laws_FnExactCavesLongerThan.j2 k bt256.2 bt256.1 (bt262.2 != x7)) else (laws_FnExactCavesLongerThan.j2 k bt256.2 bt256.1 true))))) else (none)))))
def laws_FnExactCavesLongerThan.j2 : Nat → List ByteArray → Int → Bool → Option (Bool)
  | 0, _, _, _ => none
  | k + 1, x9, x12, x92 => if x92 = true then (none) else ((laws_heldStringS.f k x9 1).bind fun t267 => (if t267 < 0 then (none) else (if t267 = x12 then (some true) else (none))))
end
def laws_FnExactCavesLongerThan.f (k : Nat) (l0 : List (S23)) (a1 : Int) : Option (Bool) := (laws_szCaveRowS.f k l0 1048576).bind fun t233 => (if t233 < 0 then (some true) else ((laws_toCaveRowS.f k l0).bind fun t234 => ((spec_CavesLongerThan.f k t234 a1).bind fun bt237 => ((laws_toCaveRowS.f k l0).bind fun t241 => ((impl_CavesLongerThan.f k t241 a1).bind fun bt244 => ((laws_eqStringS.f k bt244.1 bt237.1).bind fun t248 => (if t248 = true then (laws_FnExactCavesLongerThan.j0 k l0 a1 bt237.1 bt237.2 t241 bt244.1 bt244.2 (bt244.2 != bt237.2)) else (laws_FnExactCavesLongerThan.j0 k l0 a1 bt237.1 bt237.2 t241 bt244.1 bt244.2 true))))))))
theorem laws_FnExactCavesLongerThan.mono_l : ∀ k, (∀ y0 y1 y2 y3 y4 y5 y6 y7, LeO (laws_FnExactCavesLongerThan.j0 k y0 y1 y2 y3 y4 y5 y6 y7) (laws_FnExactCavesLongerThan.j0 (k + 1) y0 y1 y2 y3 y4 y5 y6 y7)) ∧ (∀ y0 y1 y2 y3 y4 y5, LeO (laws_FnExactCavesLongerThan.j1 k y0 y1 y2 y3 y4 y5) (laws_FnExactCavesLongerThan.j1 (k + 1) y0 y1 y2 y3 y4 y5)) ∧ (∀ y0 y1 y2, LeO (laws_FnExactCavesLongerThan.j2 k y0 y1 y2) (laws_FnExactCavesLongerThan.j2 (k + 1) y0 y1 y2))
  | 0 => ⟨fun _ _ _ _ _ _ _ _ r h => by simp [laws_FnExactCavesLongerThan.j0] at h, fun _ _ _ _ _ _ r h => by simp [laws_FnExactCavesLongerThan.j1] at h, fun _ _ _ r h => by simp [laws_FnExactCavesLongerThan.j2] at h⟩
  | k + 1 => by
    obtain ⟨ih0, ih1, ih2⟩ := laws_FnExactCavesLongerThan.mono_l k
    refine ⟨?_, ?_, ?_⟩
    · intro y0 y1 y2 y3 y4 y5 y6 y7
      unfold laws_FnExactCavesLongerThan.j0
      repeat' first
      | (with_reducible exact ih0 _ _ _ _ _ _ _ _)
      | (with_reducible exact ih1 _ _ _ _ _ _)
      | (with_reducible exact ih2 _ _ _)
      | (with_reducible exact impl_CavesLongerThan.mono _ _ _)
      | (with_reducible exact laws_eqCaveRowS.mono _ _ _)
      | (with_reducible exact laws_eqStringS.mono _ _ _)
      | (with_reducible exact laws_heldStringS.mono _ _ _)
      | (with_reducible exact laws_markCaveRowS.mono _ _ _)
      | (with_reducible exact laws_markStringS.mono _ _ _)
      | (with_reducible exact laws_szCaveRowS.mono _ _ _)
      | (with_reducible exact laws_toCaveRowS.mono _ _)
      | (with_reducible exact spec_CavesLongerThan.mono _ _ _)
      | (with_reducible exact LeO.refl _)
      | (with_reducible exact LeO.none _)
      | (with_reducible refine LeO.ite ?_ ?_)
      | (with_reducible refine LeO.bind ?_ (fun _ => ?_))
      | exact ih0 _ _ _ _ _ _ _ _
      | exact ih1 _ _ _ _ _ _
      | exact ih2 _ _ _
      | exact impl_CavesLongerThan.mono _ _ _
      | exact laws_eqCaveRowS.mono _ _ _
      | exact laws_eqStringS.mono _ _ _
      | exact laws_heldStringS.mono _ _ _
      | exact laws_markCaveRowS.mono _ _ _
      | exact laws_markStringS.mono _ _ _
      | exact laws_szCaveRowS.mono _ _ _
      | exact laws_toCaveRowS.mono _ _
      | exact spec_CavesLongerThan.mono _ _ _
      | exact LeO.none _
      | refine LeO.ite ?_ ?_
      | refine LeO.bind ?_ (fun _ => ?_)
    · intro y0 y1 y2 y3 y4 y5
      unfold laws_FnExactCavesLongerThan.j1
      repeat' first
      | (with_reducible exact ih0 _ _ _ _ _ _ _ _)
      | (with_reducible exact ih1 _ _ _ _ _ _)
      | (with_reducible exact ih2 _ _ _)
      | (with_reducible exact impl_CavesLongerThan.mono _ _ _)
      | (with_reducible exact laws_eqCaveRowS.mono _ _ _)
      | (with_reducible exact laws_eqStringS.mono _ _ _)
      | (with_reducible exact laws_heldStringS.mono _ _ _)
      | (with_reducible exact laws_markCaveRowS.mono _ _ _)
      | (with_reducible exact laws_markStringS.mono _ _ _)
      | (with_reducible exact laws_szCaveRowS.mono _ _ _)
      | (with_reducible exact laws_toCaveRowS.mono _ _)
      | (with_reducible exact spec_CavesLongerThan.mono _ _ _)
      | (with_reducible exact LeO.refl _)
      | (with_reducible exact LeO.none _)
      | (with_reducible refine LeO.ite ?_ ?_)
      | (with_reducible refine LeO.bind ?_ (fun _ => ?_))
      | exact ih0 _ _ _ _ _ _ _ _
      | exact ih1 _ _ _ _ _ _
      | exact ih2 _ _ _
      | exact impl_CavesLongerThan.mono _ _ _
      | exact laws_eqCaveRowS.mono _ _ _
      | exact laws_eqStringS.mono _ _ _
      | exact laws_heldStringS.mono _ _ _
      | exact laws_markCaveRowS.mono _ _ _
      | exact laws_markStringS.mono _ _ _
      | exact laws_szCaveRowS.mono _ _ _
      | exact laws_toCaveRowS.mono _ _
      | exact spec_CavesLongerThan.mono _ _ _
      | exact LeO.none _
      | refine LeO.ite ?_ ?_
      | refine LeO.bind ?_ (fun _ => ?_)
    · intro y0 y1 y2
      unfold laws_FnExactCavesLongerThan.j2
      repeat' first
      | (with_reducible exact ih0 _ _ _ _ _ _ _ _)
      | (with_reducible exact ih1 _ _ _ _ _ _)
      | (with_reducible exact ih2 _ _ _)
      | (with_reducible exact impl_CavesLongerThan.mono _ _ _)
      | (with_reducible exact laws_eqCaveRowS.mono _ _ _)
      | (with_reducible exact laws_eqStringS.mono _ _ _)
      | (with_reducible exact laws_heldStringS.mono _ _ _)
      | (with_reducible exact laws_markCaveRowS.mono _ _ _)
      | (with_reducible exact laws_markStringS.mono _ _ _)
      | (with_reducible exact laws_szCaveRowS.mono _ _ _)
      | (with_reducible exact laws_toCaveRowS.mono _ _)
      | (with_reducible exact spec_CavesLongerThan.mono _ _ _)
      | (with_reducible exact LeO.refl _)
      | (with_reducible exact LeO.none _)
      | (with_reducible refine LeO.ite ?_ ?_)
      | (with_reducible refine LeO.bind ?_ (fun _ => ?_))
      | exact ih0 _ _ _ _ _ _ _ _
      | exact ih1 _ _ _ _ _ _
      | exact ih2 _ _ _
      | exact impl_CavesLongerThan.mono _ _ _
      | exact laws_eqCaveRowS.mono _ _ _
      | exact laws_eqStringS.mono _ _ _
      | exact laws_heldStringS.mono _ _ _
      | exact laws_markCaveRowS.mono _ _ _
      | exact laws_markStringS.mono _ _ _
      | exact laws_szCaveRowS.mono _ _ _
      | exact laws_toCaveRowS.mono _ _
      | exact spec_CavesLongerThan.mono _ _ _
      | exact LeO.none _
      | refine LeO.ite ?_ ?_
      | refine LeO.bind ?_ (fun _ => ?_)
theorem laws_FnExactCavesLongerThan.mono : ∀ a0 a1 k, LeO (laws_FnExactCavesLongerThan.f k a0 a1) (laws_FnExactCavesLongerThan.f (k + 1) a0 a1) := by
  intro a0 a1 k
  obtain ⟨ih0, ih1, ih2⟩ := laws_FnExactCavesLongerThan.mono_l k
  unfold laws_FnExactCavesLongerThan.f
  repeat' first
      | (with_reducible exact ih0 _ _ _ _ _ _ _ _)
      | (with_reducible exact ih1 _ _ _ _ _ _)
      | (with_reducible exact ih2 _ _ _)
      | (with_reducible exact impl_CavesLongerThan.mono _ _ _)
      | (with_reducible exact laws_eqCaveRowS.mono _ _ _)
      | (with_reducible exact laws_eqStringS.mono _ _ _)
      | (with_reducible exact laws_heldStringS.mono _ _ _)
      | (with_reducible exact laws_markCaveRowS.mono _ _ _)
      | (with_reducible exact laws_markStringS.mono _ _ _)
      | (with_reducible exact laws_szCaveRowS.mono _ _ _)
      | (with_reducible exact laws_toCaveRowS.mono _ _)
      | (with_reducible exact spec_CavesLongerThan.mono _ _ _)
      | (with_reducible exact LeO.refl _)
      | (with_reducible exact LeO.none _)
      | (with_reducible refine LeO.ite ?_ ?_)
      | (with_reducible refine LeO.bind ?_ (fun _ => ?_))
      | exact ih0 _ _ _ _ _ _ _ _
      | exact ih1 _ _ _ _ _ _
      | exact ih2 _ _ _
      | exact impl_CavesLongerThan.mono _ _ _
      | exact laws_eqCaveRowS.mono _ _ _
      | exact laws_eqStringS.mono _ _ _
      | exact laws_heldStringS.mono _ _ _
      | exact laws_markCaveRowS.mono _ _ _
      | exact laws_markStringS.mono _ _ _
      | exact laws_szCaveRowS.mono _ _ _
      | exact laws_toCaveRowS.mono _ _
      | exact spec_CavesLongerThan.mono _ _ _
      | exact LeO.none _
      | refine LeO.ite ?_ ?_
      | refine LeO.bind ?_ (fun _ => ?_)
set_option maxHeartbeats 8000000 in
set_option maxRecDepth 100000 in
theorem laws_FnExactCavesLongerThan.calls (k : Nat) (A0 : Option Addr) (c0 : Nat) (l0 : List (S23)) (a1 : Int) (r : Bool) (w : World) (hr0 : Kd.C k23 w A0 l0.length l0) (hc0 : l0.length ≤ c0) (h : laws_FnExactCavesLongerThan.f k l0 a1 = some r) :
    Calls Tryd.prog 6 #[.slice A0 l0.length c0, .int .i64 a1] w fun e w' => e = .returned (.bool r) ∧ Below w.heap.size w w' := by
  have HR0 := Aside0.mk hr0
  have HC0 := Aside0.mk hc0
  clear hr0 hc0
  have HB := Aside0.mk (Below.refl w.heap.size w)
  have H : ((laws_szCaveRowS.f k l0 1048576).bind fun t233 => (if t233 < 0 then (some true) else ((laws_toCaveRowS.f k l0).bind fun t234 => ((spec_CavesLongerThan.f k t234 a1).bind fun bt237 => ((laws_toCaveRowS.f k l0).bind fun t241 => ((impl_CavesLongerThan.f k t241 a1).bind fun bt244 => ((laws_eqStringS.f k bt244.1 bt237.1).bind fun t248 => (if t248 = true then (laws_FnExactCavesLongerThan.j0 k l0 a1 bt237.1 bt237.2 t241 bt244.1 bt244.2 (bt244.2 != bt237.2)) else (laws_FnExactCavesLongerThan.j0 k l0 a1 bt237.1 bt237.2 t241 bt244.1 bt244.2 true))))))))) = some r := h
  clear h
  replace H := Option.bind_eq_some_iff.mp H
  obtain ⟨t233, A30, H⟩ := H
  replace H : (if t233 < 0 then (some true) else ((laws_toCaveRowS.f k l0).bind fun t234 => ((spec_CavesLongerThan.f k t234 a1).bind fun bt237 => ((laws_toCaveRowS.f k l0).bind fun t241 => ((impl_CavesLongerThan.f k t241 a1).bind fun bt244 => ((laws_eqStringS.f k bt244.1 bt237.1).bind fun t248 => (if t248 = true then (laws_FnExactCavesLongerThan.j0 k l0 a1 bt237.1 bt237.2 t241 bt244.1 bt244.2 (bt244.2 != bt237.2)) else (laws_FnExactCavesLongerThan.j0 k l0 a1 bt237.1 bt237.2 t241 bt244.1 bt244.2 true)))))))) = some r := H
  have A3 := Aside0.mk A30
  clear A30
  by_cases c4 : t233 < 0
  · rw [if_pos c4] at H
    have c4b0 : decide (t233 < 0) = true := decide_eq_true c4
    clear c4
    obtain rfl := Option.some.inj H
    go_enter Tryd.func6, Tryd.ntmps6
    go_wp2_with (first | ((with_reducible refine gate_callee (f := 19) rfl ?_); refine goesL_ (some 18) rfl rfl Tryd.func19 (by kernel_rfl) rfl #[.slice A0 l0.length c0, .int .i64 1048576] rfl (by (try simp only [List.map_toArray, List.map_cons, List.map_nil]); first | done | rfl | (simp only [List.length_drop, List.length_take]; rfl)) ?_; (with_reducible refine (laws_szCaveRowS.calls k _ _ l0 1048576 t233 _ ?side1 ?side2 A3.out).mono ?_); (case side1 => repeat (first | exact HR0.out | (with_reducible refine Kd.C_alloc ?_ _) | (with_reducible refine Kd.C_drewN ?_ _) | (with_reducible refine Kd.C_drew ?_))); (case side2 => exact HC0.out); rintro e w5 ⟨rfl, hb⟩; refine ⟨_, rfl, ?_⟩; have n0_ := Aside0.mk (below_step (by repeat (first | (with_reducible first | exact HB.out | apply below_alloc | apply pw_below_drewN | apply below_drew1) | exact HB.out)) hb); clear HB; have HB := n0_; clear n0_; (try clear hb); (try clear hb2); (try clear hk); (try clear hi)))
    go_ret
    exact ⟨by first | rfl | (simp [errW_none, errW_some] <;> rfl) | (simp [*, errW_none, errW_some] <;> rfl), by repeat (first | (with_reducible first | exact HB.out | apply below_alloc | apply pw_below_drewN | apply below_drew1) | exact HB.out)⟩
  · rw [if_neg c4] at H
    have c4b0 : decide (t233 < 0) = false := decide_eq_false c4
    clear c4
    replace H := Option.bind_eq_some_iff.mp H
    obtain ⟨t234, A60, H⟩ := H
    replace H : ((spec_CavesLongerThan.f k t234 a1).bind fun bt237 => ((laws_toCaveRowS.f k l0).bind fun t241 => ((impl_CavesLongerThan.f k t241 a1).bind fun bt244 => ((laws_eqStringS.f k bt244.1 bt237.1).bind fun t248 => (if t248 = true then (laws_FnExactCavesLongerThan.j0 k l0 a1 bt237.1 bt237.2 t241 bt244.1 bt244.2 (bt244.2 != bt237.2)) else (laws_FnExactCavesLongerThan.j0 k l0 a1 bt237.1 bt237.2 t241 bt244.1 bt244.2 true)))))) = some r := H
    have A6 := Aside0.mk A60
    clear A60
    replace H := Option.bind_eq_some_iff.mp H
    obtain ⟨⟨t237, t238⟩, A70, H⟩ := H
    replace H : ((laws_toCaveRowS.f k l0).bind fun t241 => ((impl_CavesLongerThan.f k t241 a1).bind fun bt244 => ((laws_eqStringS.f k bt244.1 t237).bind fun t248 => (if t248 = true then (laws_FnExactCavesLongerThan.j0 k l0 a1 t237 t238 t241 bt244.1 bt244.2 (bt244.2 != t238)) else (laws_FnExactCavesLongerThan.j0 k l0 a1 t237 t238 t241 bt244.1 bt244.2 true))))) = some r := H
    have A7 := Aside0.mk A70
    clear A70
    replace H := Option.bind_eq_some_iff.mp H
    obtain ⟨t241, A80, H⟩ := H
    replace H : ((impl_CavesLongerThan.f k t241 a1).bind fun bt244 => ((laws_eqStringS.f k bt244.1 t237).bind fun t248 => (if t248 = true then (laws_FnExactCavesLongerThan.j0 k l0 a1 t237 t238 t241 bt244.1 bt244.2 (bt244.2 != t238)) else (laws_FnExactCavesLongerThan.j0 k l0 a1 t237 t238 t241 bt244.1 bt244.2 true)))) = some r := H
    have A8 := Aside0.mk A80
    clear A80
    replace H := Option.bind_eq_some_iff.mp H
    obtain ⟨⟨t244, t245⟩, A90, H⟩ := H
    replace H : ((laws_eqStringS.f k t244 t237).bind fun t248 => (if t248 = true then (laws_FnExactCavesLongerThan.j0 k l0 a1 t237 t238 t241 t244 t245 (t245 != t238)) else (laws_FnExactCavesLongerThan.j0 k l0 a1 t237 t238 t241 t244 t245 true))) = some r := H
    have A9 := Aside0.mk A90
    clear A90
    have HC10 := Aside0.mk H
    clear H
    go_enter Tryd.func6, Tryd.ntmps6
    go_upto_region 8 with (first | ((with_reducible refine gate_callee (f := 19) rfl ?_); refine goesL_ (some 18) rfl rfl Tryd.func19 (by kernel_rfl) rfl #[.slice A0 l0.length c0, .int .i64 1048576] rfl (by (try simp only [List.map_toArray, List.map_cons, List.map_nil]); first | done | rfl | (simp only [List.length_drop, List.length_take]; rfl)) ?_; (with_reducible refine (laws_szCaveRowS.calls k _ _ l0 1048576 t233 _ ?side1 ?side2 A3.out).mono ?_); (case side1 => repeat (first | exact HR0.out | (with_reducible refine Kd.C_alloc ?_ _) | (with_reducible refine Kd.C_drewN ?_ _) | (with_reducible refine Kd.C_drew ?_))); (case side2 => exact HC0.out); rintro e w11 ⟨rfl, hb⟩; refine ⟨_, rfl, ?_⟩; have n0_ := Aside0.mk (below_step (by repeat (first | (with_reducible first | exact HB.out | apply below_alloc | apply pw_below_drewN | apply below_drew1) | exact HB.out)) hb); clear HB; have HB := n0_; clear n0_; (try clear hb); (try clear hb2); (try clear hk); (try clear hi)) | ((with_reducible refine gate_callee (f := 21) rfl ?_); refine goesL_ (some 23) rfl rfl Tryd.func21 (by kernel_rfl) rfl #[.slice A0 l0.length c0] rfl (by (try simp only [List.map_toArray, List.map_cons, List.map_nil]); first | done | rfl | (simp only [List.length_drop, List.length_take]; rfl)) ?_; (with_reducible refine (laws_toCaveRowS.calls k _ _ l0 t234 _ ?side1 ?side2 A6.out).mono ?_); (case side1 => repeat (first | exact (Kd.C_below HR0.out HB.out) | (with_reducible refine Kd.C_alloc ?_ _) | (with_reducible refine Kd.C_drewN ?_ _) | (with_reducible refine Kd.C_drew ?_))); (case side2 => exact HC0.out); rintro e w12 ⟨v235, rfl, ho0, hb⟩; refine ⟨_, rfl, ?_⟩; have n0_ := Aside0.mk (Kd.R_lower ho0 (below_size (by repeat (first | (with_reducible first | exact HB.out | apply below_alloc | apply pw_below_drewN | apply below_drew1) | exact HB.out)))); have n1_ := Aside0.mk (below_step (by repeat (first | (with_reducible first | exact HB.out | apply below_alloc | apply pw_below_drewN | apply below_drew1) | exact HB.out)) hb); clear HB; have HO236 := n0_; have HB := n1_; clear n0_ n1_; (try clear hb); (try clear hb2); (try clear hk); (try clear hi); (try clear ho0); obtain ⟨Ao13, co13, eo13⟩ := Kd.R_slice HO236.out; subst eo13) | ((with_reducible refine gate_callee (f := 26) rfl ?_); refine goesL_ (some 25) rfl rfl Tryd.func26 (by kernel_rfl) rfl #[.slice Ao13 t234.length co13, .int .i64 a1] rfl (by (try simp only [List.map_toArray, List.map_cons, List.map_nil]); first | done | rfl | (simp only [List.length_drop, List.length_take]; rfl)) ?_; (with_reducible refine (spec_CavesLongerThan.calls k _ _ t234 a1 t237 t238 _ ?side1 ?side2 A7.out).mono ?_); (case side1 => repeat (first | exact (Kd.R_reads' HO236.out).2.2 | (with_reducible refine Kd.C_alloc ?_ _) | (with_reducible refine Kd.C_drewN ?_ _) | (with_reducible refine Kd.C_drew ?_))); (case side2 => exact (Kd.R_reads' HO236.out).2.1); rintro e w14 ⟨v239, rfl, ho0, hb⟩; refine ⟨_, rfl, ?_⟩; have n0_ := Aside0.mk (Kd.R_below (by (with_reducible repeat (first | apply Kd.R_alloc | apply Kd.R_drewN | apply Kd.R_drew)); exact HO236.out) hb); have n1_ := Aside0.mk (Kd.R_lower ho0 (below_size (by repeat (first | (with_reducible first | exact HB.out | apply below_alloc | apply pw_below_drewN | apply below_drew1) | exact HB.out)))); have n2_ := Aside0.mk (below_step (by repeat (first | (with_reducible first | exact HB.out | apply below_alloc | apply pw_below_drewN | apply below_drew1) | exact HB.out)) hb); clear HO236; clear HB; have HO236 := n0_; have HO240 := n1_; have HB := n2_; clear n0_ n1_ n2_; (try clear hb); (try clear hb2); (try clear hk); (try clear hi); (try clear ho0)) | ((with_reducible refine gate_callee (f := 21) rfl ?_); refine goesL_ (some 29) rfl rfl Tryd.func21 (by kernel_rfl) rfl #[.slice A0 l0.length c0] rfl (by (try simp only [List.map_toArray, List.map_cons, List.map_nil]); first | done | rfl | (simp only [List.length_drop, List.length_take]; rfl)) ?_; (with_reducible refine (laws_toCaveRowS.calls k _ _ l0 t241 _ ?side1 ?side2 A8.out).mono ?_); (case side1 => repeat (first | exact (Kd.C_below HR0.out HB.out) | (with_reducible refine Kd.C_alloc ?_ _) | (with_reducible refine Kd.C_drewN ?_ _) | (with_reducible refine Kd.C_drew ?_))); (case side2 => exact HC0.out); rintro e w15 ⟨v242, rfl, ho0, hb⟩; refine ⟨_, rfl, ?_⟩; have n0_ := Aside0.mk (Kd.R_elder' (by (with_reducible repeat (first | apply Kd.R_alloc | apply Kd.R_drewN | apply Kd.R_drew)); exact HO236.out) (Kd.R_base ho0) hb); have n1_ := Aside0.mk (Kd.R_below (by (with_reducible repeat (first | apply Kd.R_alloc | apply Kd.R_drewN | apply Kd.R_drew)); exact HO240.out) hb); have n2_ := Aside0.mk (Kd.R_lower (Kd.R_new' ho0 (Kd.R_lt (by (with_reducible repeat (first | apply Kd.R_alloc | apply Kd.R_drewN | apply Kd.R_drew)); exact HO236.out))) (below_size (by repeat (first | (with_reducible first | exact HB.out | apply below_alloc | apply pw_below_drewN | apply below_drew1) | exact HB.out)))); have n3_ := Aside0.mk (below_step (by repeat (first | (with_reducible first | exact HB.out | apply below_alloc | apply pw_below_drewN | apply below_drew1) | exact HB.out)) hb); clear HO236; clear HO240; clear HB; have HO236 := n0_; have HO240 := n1_; have HO243 := n2_; have HB := n3_; clear n0_ n1_ n2_ n3_; (try clear hb); (try clear hb2); (try clear hk); (try clear hi); (try clear ho0); obtain ⟨Ao16, co16, eo16⟩ := Kd.R_slice HO243.out; subst eo16) | ((with_reducible refine gate_callee (f := 27) rfl ?_); refine goesL_ (some 33) rfl rfl Tryd.func27 (by kernel_rfl) rfl #[.slice Ao16 t241.length co16, .int .i64 a1] rfl (by (try simp only [List.map_toArray, List.map_cons, List.map_nil]); first | done | rfl | (simp only [List.length_drop, List.length_take]; rfl)) ?_; (with_reducible refine (impl_CavesLongerThan.calls k _ _ t241 a1 t244 t245 _ ?side1 ?side2 A9.out).mono ?_); (case side1 => repeat (first | exact (Kd.R_reads' HO243.out).2.2 | (with_reducible refine Kd.C_alloc ?_ _) | (with_reducible refine Kd.C_drewN ?_ _) | (with_reducible refine Kd.C_drew ?_))); (case side2 => exact (Kd.R_reads' HO243.out).2.1); rintro e w17 ⟨v246, rfl, ho0, hb⟩; refine ⟨_, rfl, ?_⟩; have n0_ := Aside0.mk (Kd.R_below (by (with_reducible repeat (first | apply Kd.R_alloc | apply Kd.R_drewN | apply Kd.R_drew)); exact HO236.out) hb); have n1_ := Aside0.mk (Kd.R_elder' (by (with_reducible repeat (first | apply Kd.R_alloc | apply Kd.R_drewN | apply Kd.R_drew)); exact HO240.out) (Kd.R_base ho0) hb); have n2_ := Aside0.mk (Kd.R_below (by (with_reducible repeat (first | apply Kd.R_alloc | apply Kd.R_drewN | apply Kd.R_drew)); exact HO243.out) hb); have n3_ := Aside0.mk (Kd.R_lower (Kd.R_new' ho0 (Kd.R_lt (by (with_reducible repeat (first | apply Kd.R_alloc | apply Kd.R_drewN | apply Kd.R_drew)); exact HO240.out))) (below_size (by repeat (first | (with_reducible first | exact HB.out | apply below_alloc | apply pw_below_drewN | apply below_drew1) | exact HB.out)))); have n4_ := Aside0.mk (below_step (by repeat (first | (with_reducible first | exact HB.out | apply below_alloc | apply pw_below_drewN | apply below_drew1) | exact HB.out)) hb); clear HO236; clear HO240; clear HO243; clear HB; have HO236 := n0_; have HO240 := n1_; have HO243 := n2_; have HO247 := n3_; have HB := n4_; clear n0_ n1_ n2_ n3_ n4_; (try clear hb); (try clear hb2); (try clear hk); (try clear hi); (try clear ho0)))
    (try simp only [Act.put, List.setIfInBounds_toArray, List.set_cons_zero, List.set_cons_succ])
    go_cut [44] (fun v44 wc => ∃ (kq : Nat) (x44_9 : Bool), v44 = .bool x44_9 ∧ Aside0 (laws_FnExactCavesLongerThan.j0 kq l0 a1 t237 t238 t241 t244 t245 x44_9 = some r) ∧ Aside0 (kq ≤ k) ∧ Aside0 (Kd.R Kd.string 9 wc w.heap.size (fun k_ => some k_ ≠ (v246 : Value).ownBlock) v239 t237) ∧ Aside0 (Kd.R k26 26 wc w.heap.size (fun _ => True) (.slice Ao16 t241.length co16) t241) ∧ Aside0 (Kd.R Kd.string 9 wc w.heap.size (fun k_ => some k_ ≠ (v239 : Value).ownBlock) v246 t244) ∧ Aside0 (Below w.heap.size w wc))
    case first =>
      have H := HC10.out
      clear HC10
      replace H := Option.bind_eq_some_iff.mp H
      obtain ⟨t248, A180, H⟩ := H
      replace H : (if t248 = true then (laws_FnExactCavesLongerThan.j0 k l0 a1 t237 t238 t241 t244 t245 (t245 != t238)) else (laws_FnExactCavesLongerThan.j0 k l0 a1 t237 t238 t241 t244 t245 true)) = some r := H
      have A18 := Aside0.mk A180
      clear A180
      by_cases c19 : t248 = true
      · subst c19
        have H1 : (laws_FnExactCavesLongerThan.j0 k l0 a1 t237 t238 t241 t244 t245 (t245 != t238)) = some r := by rw [if_pos rfl] at H; exact H
        clear H
        have H := H1
        clear H1
        have H' := Aside0.mk H
        clear H
        obtain ⟨Ao20, co20, eo20⟩ := Kd.R_slice HO247.out
        subst eo20
        obtain ⟨Ao21, co21, eo21⟩ := Kd.R_slice HO240.out
        subst eo21
        go_wp2_with (first | ((with_reducible refine gate_callee (f := 28) rfl ?_); refine goesL_ (some 38) rfl rfl Tryd.func28 (by kernel_rfl) rfl #[.slice Ao20 t244.length co20, .slice Ao21 t237.length co21] rfl (by (try simp only [List.map_toArray, List.map_cons, List.map_nil]); first | done | rfl | (simp only [List.length_drop, List.length_take]; rfl)) ?_; (with_reducible refine (laws_eqStringS.calls k _ _ t244 _ _ t237 true _ ?side1 ?side2 ?side3 ?side4 A18.out).mono ?_); (case side1 => repeat (first | exact (Kd.R_reads' HO247.out).2.2 | (with_reducible refine Kd.C_alloc ?_ _) | (with_reducible refine Kd.C_drewN ?_ _) | (with_reducible refine Kd.C_drew ?_))); (case side2 => exact (Kd.R_reads' HO247.out).2.1); (case side3 => repeat (first | exact (Kd.R_reads' HO240.out).2.2 | (with_reducible refine Kd.C_alloc ?_ _) | (with_reducible refine Kd.C_drewN ?_ _) | (with_reducible refine Kd.C_drew ?_))); (case side4 => exact (Kd.R_reads' HO240.out).2.1); rintro e w' ⟨rfl, ⟨nd, rfl⟩⟩; refine ⟨_, rfl, ?_⟩))
        go_meet
        case rel => exact ⟨_, ((t245 != t238)), (by first | rfl | (simp; done) | (simp [*]; done)), H', ⟨by first | omega | exact Nat.le_refl _⟩, ⟨by (with_reducible repeat (first | apply Kd.R_alloc | apply Kd.R_drewN | apply Kd.R_drew)); exact Kd.R_mono HO240.out (fun _ hk => hk.2)⟩, ⟨by (with_reducible repeat (first | apply Kd.R_alloc | apply Kd.R_drewN | apply Kd.R_drew)); exact Kd.R_mono HO243.out (fun _ hk => trivial)⟩, ⟨by (with_reducible repeat (first | apply Kd.R_alloc | apply Kd.R_drewN | apply Kd.R_drew)); exact Kd.R_mono HO247.out (fun _ hk => hk.2)⟩, ⟨by repeat (first | (with_reducible first | exact HB.out | apply below_alloc | apply pw_below_drewN | apply below_drew1) | exact HB.out)⟩⟩
      · replace c19 := Bool.eq_false_iff.mpr c19
        subst c19
        have H1 : (laws_FnExactCavesLongerThan.j0 k l0 a1 t237 t238 t241 t244 t245 true) = some r := by rw [if_neg (show ¬ (false = true) by decide)] at H; exact H
        clear H
        have H := H1
        clear H1
        have H' := Aside0.mk H
        clear H
        obtain ⟨Ao22, co22, eo22⟩ := Kd.R_slice HO247.out
        subst eo22
        obtain ⟨Ao23, co23, eo23⟩ := Kd.R_slice HO240.out
        subst eo23
        go_wp2_with (first | ((with_reducible refine gate_callee (f := 28) rfl ?_); refine goesL_ (some 38) rfl rfl Tryd.func28 (by kernel_rfl) rfl #[.slice Ao22 t244.length co22, .slice Ao23 t237.length co23] rfl (by (try simp only [List.map_toArray, List.map_cons, List.map_nil]); first | done | rfl | (simp only [List.length_drop, List.length_take]; rfl)) ?_; (with_reducible refine (laws_eqStringS.calls k _ _ t244 _ _ t237 false _ ?side1 ?side2 ?side3 ?side4 A18.out).mono ?_); (case side1 => repeat (first | exact (Kd.R_reads' HO247.out).2.2 | (with_reducible refine Kd.C_alloc ?_ _) | (with_reducible refine Kd.C_drewN ?_ _) | (with_reducible refine Kd.C_drew ?_))); (case side2 => exact (Kd.R_reads' HO247.out).2.1); (case side3 => repeat (first | exact (Kd.R_reads' HO240.out).2.2 | (with_reducible refine Kd.C_alloc ?_ _) | (with_reducible refine Kd.C_drewN ?_ _) | (with_reducible refine Kd.C_drew ?_))); (case side4 => exact (Kd.R_reads' HO240.out).2.1); rintro e w' ⟨rfl, ⟨nd, rfl⟩⟩; refine ⟨_, rfl, ?_⟩))
        go_meet
        case rel => exact ⟨_, (true), (by first | rfl | (simp; done) | (simp [*]; done)), H', ⟨by first | omega | exact Nat.le_refl _⟩, ⟨by (with_reducible repeat (first | apply Kd.R_alloc | apply Kd.R_drewN | apply Kd.R_drew)); exact Kd.R_mono HO240.out (fun _ hk => hk.2)⟩, ⟨by (with_reducible repeat (first | apply Kd.R_alloc | apply Kd.R_drewN | apply Kd.R_drew)); exact Kd.R_mono HO243.out (fun _ hk => trivial)⟩, ⟨by (with_reducible repeat (first | apply Kd.R_alloc | apply Kd.R_drewN | apply Kd.R_drew)); exact Kd.R_mono HO247.out (fun _ hk => hk.2)⟩, ⟨by repeat (first | (with_reducible first | exact HB.out | apply below_alloc | apply pw_below_drewN | apply below_drew1) | exact HB.out)⟩⟩
    case rest =>
      clear HC10
      try clear c1
      try clear c2
      try clear p2
      try clear c4
      try clear c4b0
      try clear c6
      try clear c19
      try clear c21
      obtain ⟨kq, x44_9, rfl, HA, HJ9, HO_6, HO_8, HO_9, HB⟩ := hcut
      cases kq with
      | zero => exact absurd HA.out (by simp [laws_FnExactCavesLongerThan.j0])
      | succ kj9 =>
        have H := HA.out
        clear HA
        simp only [laws_FnExactCavesLongerThan.j0] at H
        by_cases c24 : x44_9 = true
        · subst c24
          have H1 : (none) = some r := by rw [if_pos rfl] at H; exact H
          clear H
          have H := H1
          clear H1
          exact absurd H (by simp)
        · replace c24 := Bool.eq_false_iff.mpr c24
          subst c24
          have H1 : ((laws_toCaveRowS.f kj9 l0).bind fun t249 => ((laws_eqCaveRowS.f kj9 t241 t249).bind fun t252 => (if t252 = true then ((laws_markCaveRowS.f kj9 t241 1).bind fun bt253 => (if bt253.1 < 0 then (laws_FnExactCavesLongerThan.j1 kj9 l0 a1 t237 t238 t244 true) else ((laws_eqStringS.f kj9 t244 t237).bind fun t255 => (if t255 = true then (laws_FnExactCavesLongerThan.j1 kj9 l0 a1 t237 t238 t244 (t245 != t238)) else (laws_FnExactCavesLongerThan.j1 kj9 l0 a1 t237 t238 t244 true))))) else (none)))) = some r := by rw [if_neg (show ¬ (false = true) by decide)] at H; exact H
          clear H
          have H := H1
          clear H1
          replace H := Option.bind_eq_some_iff.mp H
          obtain ⟨t249, A250, H⟩ := H
          replace H : ((laws_eqCaveRowS.f kj9 t241 t249).bind fun t252 => (if t252 = true then ((laws_markCaveRowS.f kj9 t241 1).bind fun bt253 => (if bt253.1 < 0 then (laws_FnExactCavesLongerThan.j1 kj9 l0 a1 t237 t238 t244 true) else ((laws_eqStringS.f kj9 t244 t237).bind fun t255 => (if t255 = true then (laws_FnExactCavesLongerThan.j1 kj9 l0 a1 t237 t238 t244 (t245 != t238)) else (laws_FnExactCavesLongerThan.j1 kj9 l0 a1 t237 t238 t244 true))))) else (none))) = some r := H
          have A25 := Aside0.mk A250
          clear A250
          replace H := Option.bind_eq_some_iff.mp H
          obtain ⟨t252, A260, H⟩ := H
          replace H : (if t252 = true then ((laws_markCaveRowS.f kj9 t241 1).bind fun bt253 => (if bt253.1 < 0 then (laws_FnExactCavesLongerThan.j1 kj9 l0 a1 t237 t238 t244 true) else ((laws_eqStringS.f kj9 t244 t237).bind fun t255 => (if t255 = true then (laws_FnExactCavesLongerThan.j1 kj9 l0 a1 t237 t238 t244 (t245 != t238)) else (laws_FnExactCavesLongerThan.j1 kj9 l0 a1 t237 t238 t244 true))))) else (none)) = some r := H
          have A26 := Aside0.mk A260
          clear A260
          by_cases c27 : t252 = true
          · subst c27
            have H1 : ((laws_markCaveRowS.f kj9 t241 1).bind fun bt253 => (if bt253.1 < 0 then (laws_FnExactCavesLongerThan.j1 kj9 l0 a1 t237 t238 t244 true) else ((laws_eqStringS.f kj9 t244 t237).bind fun t255 => (if t255 = true then (laws_FnExactCavesLongerThan.j1 kj9 l0 a1 t237 t238 t244 (t245 != t238)) else (laws_FnExactCavesLongerThan.j1 kj9 l0 a1 t237 t238 t244 true))))) = some r := by rw [if_pos rfl] at H; exact H
            clear H
            have H := H1
            clear H1
            replace H := Option.bind_eq_some_iff.mp H
            obtain ⟨⟨t253, t254⟩, A280, H⟩ := H
            replace H : (if t253 < 0 then (laws_FnExactCavesLongerThan.j1 kj9 l0 a1 t237 t238 t244 true) else ((laws_eqStringS.f kj9 t244 t237).bind fun t255 => (if t255 = true then (laws_FnExactCavesLongerThan.j1 kj9 l0 a1 t237 t238 t244 (t245 != t238)) else (laws_FnExactCavesLongerThan.j1 kj9 l0 a1 t237 t238 t244 true)))) = some r := H
            have A28 := Aside0.mk A280
            clear A280
            have HC29 := Aside0.mk H
            clear H
            go_upto_region 14 with (first | ((with_reducible refine gate_callee (f := 21) rfl ?_); refine goesL_ (some 47) rfl rfl Tryd.func21 (by kernel_rfl) rfl #[.slice A0 l0.length c0] rfl (by (try simp only [List.map_toArray, List.map_cons, List.map_nil]); first | done | rfl | (simp only [List.length_drop, List.length_take]; rfl)) ?_; (with_reducible refine (laws_toCaveRowS.calls kj9 _ _ l0 t249 _ ?side1 ?side2 A25.out).mono ?_); (case side1 => repeat (first | exact (Kd.C_below HR0.out HB.out) | (with_reducible refine Kd.C_alloc ?_ _) | (with_reducible refine Kd.C_drewN ?_ _) | (with_reducible refine Kd.C_drew ?_))); (case side2 => exact HC0.out); rintro e w30 ⟨v250, rfl, ho0, hb⟩; refine ⟨_, rfl, ?_⟩; have n0_ := Aside0.mk (Kd.R_below (by (with_reducible repeat (first | apply Kd.R_alloc | apply Kd.R_drewN | apply Kd.R_drew)); exact HO_6.out) hb); have n1_ := Aside0.mk (Kd.R_elder' (by (with_reducible repeat (first | apply Kd.R_alloc | apply Kd.R_drewN | apply Kd.R_drew)); exact HO_8.out) (Kd.R_base ho0) hb); have n2_ := Aside0.mk (Kd.R_below (by (with_reducible repeat (first | apply Kd.R_alloc | apply Kd.R_drewN | apply Kd.R_drew)); exact HO_9.out) hb); have n3_ := Aside0.mk (Kd.R_lower (Kd.R_new' ho0 (Kd.R_lt (by (with_reducible repeat (first | apply Kd.R_alloc | apply Kd.R_drewN | apply Kd.R_drew)); exact HO_8.out))) (below_size (by repeat (first | (with_reducible first | exact HB.out | apply below_alloc | apply pw_below_drewN | apply below_drew1) | exact HB.out)))); have n4_ := Aside0.mk (below_step (by repeat (first | (with_reducible first | exact HB.out | apply below_alloc | apply pw_below_drewN | apply below_drew1) | exact HB.out)) hb); clear HO_6; clear HO_8; clear HO_9; clear HB; have HO_6 := n0_; have HO_8 := n1_; have HO_9 := n2_; have HO251 := n3_; have HB := n4_; clear n0_ n1_ n2_ n3_ n4_; (try clear hb); (try clear hb2); (try clear hk); (try clear hi); (try clear ho0); obtain ⟨Ao31, co31, eo31⟩ := Kd.R_slice HO251.out; subst eo31) | ((with_reducible refine gate_callee (f := 23) rfl ?_); refine goesL_ (some 48) rfl rfl Tryd.func23 (by kernel_rfl) rfl #[.slice Ao16 t241.length co16, .slice Ao31 t249.length co31] rfl (by (try simp only [List.map_toArray, List.map_cons, List.map_nil]); first | done | rfl | (simp only [List.length_drop, List.length_take]; rfl)) ?_; (with_reducible refine (laws_eqCaveRowS.calls kj9 _ _ t241 _ _ t249 true _ ?side1 ?side2 ?side3 ?side4 A26.out).mono ?_); (case side1 => repeat (first | exact (Kd.R_reads' HO_8.out).2.2 | (with_reducible refine Kd.C_alloc ?_ _) | (with_reducible refine Kd.C_drewN ?_ _) | (with_reducible refine Kd.C_drew ?_))); (case side2 => exact (Kd.R_reads' HO_8.out).2.1); (case side3 => repeat (first | exact (Kd.R_reads' HO251.out).2.2 | (with_reducible refine Kd.C_alloc ?_ _) | (with_reducible refine Kd.C_drewN ?_ _) | (with_reducible refine Kd.C_drew ?_))); (case side4 => exact (Kd.R_reads' HO251.out).2.1); rintro e w32 ⟨rfl, hb⟩; refine ⟨_, rfl, ?_⟩; have n0_ := Aside0.mk (Kd.R_below (by (with_reducible repeat (first | apply Kd.R_alloc | apply Kd.R_drewN | apply Kd.R_drew)); exact HO_6.out) hb); have n1_ := Aside0.mk (Kd.R_below (by (with_reducible repeat (first | apply Kd.R_alloc | apply Kd.R_drewN | apply Kd.R_drew)); exact HO_8.out) hb); have n2_ := Aside0.mk (Kd.R_below (by (with_reducible repeat (first | apply Kd.R_alloc | apply Kd.R_drewN | apply Kd.R_drew)); exact HO_9.out) hb); have n3_ := Aside0.mk (Kd.R_below (by (with_reducible repeat (first | apply Kd.R_alloc | apply Kd.R_drewN | apply Kd.R_drew)); exact HO251.out) hb); have n4_ := Aside0.mk (below_step (by repeat (first | (with_reducible first | exact HB.out | apply below_alloc | apply pw_below_drewN | apply below_drew1) | exact HB.out)) hb); clear HO_6; clear HO_8; clear HO_9; clear HO251; clear HB; have HO_6 := n0_; have HO_8 := n1_; have HO_9 := n2_; have HO251 := n3_; have HB := n4_; clear n0_ n1_ n2_ n3_ n4_; (try clear hb); (try clear hb2); (try clear hk); (try clear hi)) | ((with_reducible refine gate_callee (f := 29) rfl ?_); refine goesL_ (some 52) rfl rfl Tryd.func29 (by kernel_rfl) rfl #[.slice Ao16 t241.length co16, .int .i64 1] rfl (by (try simp only [List.map_toArray, List.map_cons, List.map_nil]); first | done | rfl | (simp only [List.length_drop, List.length_take]; rfl)) ?_; (with_reducible refine (laws_markCaveRowS.calls kj9 (fun k_ => some k_ = (.slice Ao16 t241.length co16 : Value).ownBlock) (.slice Ao16 t241.length co16) t241 1 t253 t254 w _ ?side1 ?side2 A28.out).mono ?_); (case side1 => repeat (first | (with_reducible first | exact HB.out | apply below_alloc | apply pw_below_drewN | apply below_drew1) | exact HB.out)); (case side2 => exact Kd.R_tight rfl HO_8.out); rintro e w33 ⟨rfl, hy0, hb, hkp⟩; refine ⟨_, rfl, ?_⟩; have n0_ := Aside0.mk (Kd.R_mono (ok' := fun k_ => some k_ ≠ (v246 : Value).ownBlock) (Kd.R_keptB ((Kd.R_apart' HO_6.out (Kd.R_typed HO_8.out) (by decide))) hkp (fun k_ hk_ hs_ => (hk_.2) hs_)) (fun k_ hk_ => hk_.1.1)); have n1_ := Aside0.mk (Kd.R_reok rfl hy0 (fun k_ e_ => HO_8.out.1 k_ e_)); have n2_ := Aside0.mk (Kd.R_mono (ok' := fun k_ => some k_ ≠ (v239 : Value).ownBlock) (Kd.R_keptB ((Kd.R_apart' HO_9.out (Kd.R_typed HO_8.out) (by decide))) hkp (fun k_ hk_ hs_ => (hk_.2) hs_)) (fun k_ hk_ => hk_.1.1)); have n3_ := Aside0.mk (Kd.R_mono (ok' := fun k_ => some k_ ≠ (.slice Ao16 t241.length co16 : Value).ownBlock) (Kd.R_keptB (HO251.out) hkp (fun k_ hk_ hs_ => (hk_.2) hs_)) (fun k_ hk_ => hk_.1.2)); have n4_ := Aside0.mk (hb); clear HO_6; clear HO_8; clear HO_9; clear HO251; clear HB; have HO_6 := n0_; have HO_8 := n1_; have HO_9 := n2_; have HO251 := n3_; have HB := n4_; clear n0_ n1_ n2_ n3_ n4_; (try clear hb); (try clear hkp); (try clear hy0)))
            (try simp only [Act.put, List.setIfInBounds_toArray, List.set_cons_zero, List.set_cons_succ])
            go_cut [65] (fun v65 wc => ∃ (kq : Nat) (x65_28 : Bool), v65 = .bool x65_28 ∧ Aside0 (laws_FnExactCavesLongerThan.j1 kq l0 a1 t237 t238 t244 x65_28 = some r) ∧ Aside0 (kq ≤ kj9) ∧ Aside0 (Kd.R Kd.string 9 wc w.heap.size (fun k_ => some k_ ≠ (v246 : Value).ownBlock) v239 t237) ∧ Aside0 (Kd.R Kd.string 9 wc w.heap.size (fun k_ => some k_ ≠ (v239 : Value).ownBlock) v246 t244) ∧ Aside0 (Below w.heap.size w wc))
            case first =>
              have H := HC29.out
              clear HC29
              by_cases c34 : t253 < 0
              · rw [if_pos c34] at H
                have c34b0 : decide (t253 < 0) = true := decide_eq_true c34
                clear c34
                (first | rw [c34b0] | (simp only [i64_w, i32_w]; rw [c34b0]) | skip)
                have H' := Aside0.mk H
                clear H
                go_wp2
                go_meet
                case rel => exact ⟨_, (true), (by first | rfl | (simp; done) | (simp [*]; done)), H', ⟨by have := HJ9.out; first | omega | exact Nat.le_refl _⟩, ⟨by (with_reducible repeat (first | apply Kd.R_alloc | apply Kd.R_drewN | apply Kd.R_drew)); exact HO_6.out⟩, ⟨by (with_reducible repeat (first | apply Kd.R_alloc | apply Kd.R_drewN | apply Kd.R_drew)); exact HO_9.out⟩, ⟨by repeat (first | (with_reducible first | exact HB.out | apply below_alloc | apply pw_below_drewN | apply below_drew1) | exact HB.out)⟩⟩
              · rw [if_neg c34] at H
                have c34b0 : decide (t253 < 0) = false := decide_eq_false c34
                clear c34
                (first | rw [c34b0] | (simp only [i64_w, i32_w]; rw [c34b0]) | skip)
                replace H := Option.bind_eq_some_iff.mp H
                obtain ⟨t255, A350, H⟩ := H
                replace H : (if t255 = true then (laws_FnExactCavesLongerThan.j1 kj9 l0 a1 t237 t238 t244 (t245 != t238)) else (laws_FnExactCavesLongerThan.j1 kj9 l0 a1 t237 t238 t244 true)) = some r := H
                have A35 := Aside0.mk A350
                clear A350
                by_cases c36 : t255 = true
                · subst c36
                  have H1 : (laws_FnExactCavesLongerThan.j1 kj9 l0 a1 t237 t238 t244 (t245 != t238)) = some r := by rw [if_pos rfl] at H; exact H
                  clear H
                  have H := H1
                  clear H1
                  have H' := Aside0.mk H
                  clear H
                  obtain ⟨Ao37, co37, eo37⟩ := Kd.R_slice HO_9.out
                  subst eo37
                  obtain ⟨Ao38, co38, eo38⟩ := Kd.R_slice HO_6.out
                  subst eo38
                  go_wp2_with (first | (go_at_call 28; (with_reducible refine (laws_eqStringS.calls kj9 _ _ t244 _ _ t237 true _ ?side1 ?side2 ?side3 ?side4 A35.out).mono ?_); (case side1 => repeat (first | exact (Kd.R_reads' HO_9.out).2.2 | (with_reducible refine Kd.C_alloc ?_ _) | (with_reducible refine Kd.C_drewN ?_ _) | (with_reducible refine Kd.C_drew ?_))); (case side2 => exact (Kd.R_reads' HO_9.out).2.1); (case side3 => repeat (first | exact (Kd.R_reads' HO_6.out).2.2 | (with_reducible refine Kd.C_alloc ?_ _) | (with_reducible refine Kd.C_drewN ?_ _) | (with_reducible refine Kd.C_drew ?_))); (case side4 => exact (Kd.R_reads' HO_6.out).2.1); rintro e w' ⟨rfl, ⟨nd, rfl⟩⟩))
                  go_meet
                  case rel => exact ⟨_, ((t245 != t238)), (by first | rfl | (simp; done) | (simp [*]; done)), H', ⟨by have := HJ9.out; first | omega | exact Nat.le_refl _⟩, ⟨by (with_reducible repeat (first | apply Kd.R_alloc | apply Kd.R_drewN | apply Kd.R_drew)); exact HO_6.out⟩, ⟨by (with_reducible repeat (first | apply Kd.R_alloc | apply Kd.R_drewN | apply Kd.R_drew)); exact HO_9.out⟩, ⟨by repeat (first | (with_reducible first | exact HB.out | apply below_alloc | apply pw_below_drewN | apply below_drew1) | exact HB.out)⟩⟩
                · replace c36 := Bool.eq_false_iff.mpr c36
                  subst c36
                  have H1 : (laws_FnExactCavesLongerThan.j1 kj9 l0 a1 t237 t238 t244 true) = some r := by rw [if_neg (show ¬ (false = true) by decide)] at H; exact H
                  clear H
                  have H := H1
                  clear H1
                  have H' := Aside0.mk H
                  clear H
                  obtain ⟨Ao39, co39, eo39⟩ := Kd.R_slice HO_9.out
                  subst eo39
                  obtain ⟨Ao40, co40, eo40⟩ := Kd.R_slice HO_6.out
                  subst eo40
                  go_wp2_with (first | (go_at_call 28; (with_reducible refine (laws_eqStringS.calls kj9 _ _ t244 _ _ t237 false _ ?side1 ?side2 ?side3 ?side4 A35.out).mono ?_); (case side1 => repeat (first | exact (Kd.R_reads' HO_9.out).2.2 | (with_reducible refine Kd.C_alloc ?_ _) | (with_reducible refine Kd.C_drewN ?_ _) | (with_reducible refine Kd.C_drew ?_))); (case side2 => exact (Kd.R_reads' HO_9.out).2.1); (case side3 => repeat (first | exact (Kd.R_reads' HO_6.out).2.2 | (with_reducible refine Kd.C_alloc ?_ _) | (with_reducible refine Kd.C_drewN ?_ _) | (with_reducible refine Kd.C_drew ?_))); (case side4 => exact (Kd.R_reads' HO_6.out).2.1); rintro e w' ⟨rfl, ⟨nd, rfl⟩⟩))
                  go_meet
                  case rel => exact ⟨_, (true), (by first | rfl | (simp; done) | (simp [*]; done)), H', ⟨by have := HJ9.out; first | omega | exact Nat.le_refl _⟩, ⟨by (with_reducible repeat (first | apply Kd.R_alloc | apply Kd.R_drewN | apply Kd.R_drew)); exact HO_6.out⟩, ⟨by (with_reducible repeat (first | apply Kd.R_alloc | apply Kd.R_drewN | apply Kd.R_drew)); exact HO_9.out⟩, ⟨by repeat (first | (with_reducible first | exact HB.out | apply below_alloc | apply pw_below_drewN | apply below_drew1) | exact HB.out)⟩⟩
            case rest =>
              clear HC29
              try clear c1
              try clear c2
              try clear p2
              try clear c3
              try clear c4
              try clear c4b0
              try clear c6
              try clear c19
              try clear c21
              try clear c23
              try clear c24
              try clear c26
              try clear c27
              try clear c28
              try clear c29
              try clear c34
              try clear c34b0
              try clear c36
              try clear p2
              obtain ⟨kq, x65_28, rfl, HA, HJ28, HO_6, HO_9, HB⟩ := hcut
              cases kq with
              | zero => exact absurd HA.out (by simp [laws_FnExactCavesLongerThan.j1])
              | succ kj28 =>
                have H := HA.out
                clear HA
                simp only [laws_FnExactCavesLongerThan.j1] at H
                by_cases c41 : x65_28 = true
                · subst c41
                  have H1 : (none) = some r := by rw [if_pos rfl] at H; exact H
                  clear H
                  have H := H1
                  clear H1
                  exact absurd H (by simp)
                · replace c41 := Bool.eq_false_iff.mpr c41
                  subst c41
                  have H1 : ((laws_markStringS.f kj28 t244 1).bind fun bt256 => ((laws_heldStringS.f kj28 bt256.2 1).bind fun t258 => (if t258 < 0 then (none) else (if t258 = bt256.1 then ((laws_toCaveRowS.f kj28 l0).bind fun t259 => ((impl_CavesLongerThan.f kj28 t259 a1).bind fun bt262 => ((laws_eqStringS.f kj28 bt262.1 t237).bind fun t266 => (if t266 = true then (laws_FnExactCavesLongerThan.j2 kj28 bt256.2 bt256.1 (bt262.2 != t238)) else (laws_FnExactCavesLongerThan.j2 kj28 bt256.2 bt256.1 true))))) else (none))))) = some r := by rw [if_neg (show ¬ (false = true) by decide)] at H; exact H
                  clear H
                  have H := H1
                  clear H1
                  replace H := Option.bind_eq_some_iff.mp H
                  obtain ⟨⟨t256, t257⟩, A420, H⟩ := H
                  replace H : ((laws_heldStringS.f kj28 t257 1).bind fun t258 => (if t258 < 0 then (none) else (if t258 = t256 then ((laws_toCaveRowS.f kj28 l0).bind fun t259 => ((impl_CavesLongerThan.f kj28 t259 a1).bind fun bt262 => ((laws_eqStringS.f kj28 bt262.1 t237).bind fun t266 => (if t266 = true then (laws_FnExactCavesLongerThan.j2 kj28 t257 t256 (bt262.2 != t238)) else (laws_FnExactCavesLongerThan.j2 kj28 t257 t256 true))))) else (none)))) = some r := H
                  have A42 := Aside0.mk A420
                  clear A420
                  replace H := Option.bind_eq_some_iff.mp H
                  obtain ⟨t258, A430, H⟩ := H
                  replace H : (if t258 < 0 then (none) else (if t258 = t256 then ((laws_toCaveRowS.f kj28 l0).bind fun t259 => ((impl_CavesLongerThan.f kj28 t259 a1).bind fun bt262 => ((laws_eqStringS.f kj28 bt262.1 t237).bind fun t266 => (if t266 = true then (laws_FnExactCavesLongerThan.j2 kj28 t257 t256 (bt262.2 != t238)) else (laws_FnExactCavesLongerThan.j2 kj28 t257 t256 true))))) else (none))) = some r := H
                  have A43 := Aside0.mk A430
                  clear A430
                  by_cases c44 : t258 < 0
                  · rw [if_pos c44] at H
                    exact absurd H (by simp)
                  · rw [if_neg c44] at H
                    have c44b0 : decide (t258 < 0) = false := decide_eq_false c44
                    clear c44
                    by_cases c45 : t258 = t256
                    · rw [if_pos c45] at H
                      have c45b0 : (t258 == t256) = true := beq_iff_eq.mpr c45
                      have c45b1 : (t258 != t256) = false := bne_eq_false_iff_eq.mpr c45
                      clear c45
                      replace H := Option.bind_eq_some_iff.mp H
                      obtain ⟨t259, A460, H⟩ := H
                      replace H : ((impl_CavesLongerThan.f kj28 t259 a1).bind fun bt262 => ((laws_eqStringS.f kj28 bt262.1 t237).bind fun t266 => (if t266 = true then (laws_FnExactCavesLongerThan.j2 kj28 t257 t256 (bt262.2 != t238)) else (laws_FnExactCavesLongerThan.j2 kj28 t257 t256 true)))) = some r := H
                      have A46 := Aside0.mk A460
                      clear A460
                      replace H := Option.bind_eq_some_iff.mp H
                      obtain ⟨⟨t262, t263⟩, A470, H⟩ := H
                      replace H : ((laws_eqStringS.f kj28 t262 t237).bind fun t266 => (if t266 = true then (laws_FnExactCavesLongerThan.j2 kj28 t257 t256 (t263 != t238)) else (laws_FnExactCavesLongerThan.j2 kj28 t257 t256 true))) = some r := H
                      have A47 := Aside0.mk A470
                      clear A470
                      have HC48 := Aside0.mk H
                      clear H
                      obtain ⟨Ao49, co49, eo49⟩ := Kd.R_slice HO_9.out
                      subst eo49
                      go_upto_region 25 with (first | ((with_reducible refine gate_callee (f := 30) rfl ?_); refine goesL_ (some 68) rfl rfl Tryd.func30 (by kernel_rfl) rfl #[.slice Ao49 t244.length co49, .int .i64 1] rfl (by (try simp only [List.map_toArray, List.map_cons, List.map_nil]); first | done | rfl | (simp only [List.length_drop, List.length_take]; rfl)) ?_; (with_reducible refine (laws_markStringS.calls kj28 (fun k_ => some k_ = (.slice Ao49 t244.length co49 : Value).ownBlock) (.slice Ao49 t244.length co49) t244 1 t256 t257 w _ ?side1 ?side2 A42.out).mono ?_); (case side1 => repeat (first | (with_reducible first | exact HB.out | apply below_alloc | apply pw_below_drewN | apply below_drew1) | exact HB.out)); (case side2 => exact Kd.R_tight rfl HO_9.out); rintro e w50 ⟨rfl, hy0, hb, hkp⟩; refine ⟨_, rfl, ?_⟩; have n0_ := Aside0.mk (Kd.R_mono (ok' := fun k_ => some k_ ≠ (.slice Ao49 t244.length co49 : Value).ownBlock) (Kd.R_keptB (HO_6.out) hkp (fun k_ hk_ hs_ => (hk_) hs_)) (fun k_ hk_ => hk_.1)); have n1_ := Aside0.mk (Kd.R_reok rfl hy0 (fun k_ e_ => HO_9.out.1 k_ e_)); have n2_ := Aside0.mk (hb); clear HO_6; clear HO_9; clear HB; have HO_6 := n0_; have HO_9 := n1_; have HB := n2_; clear n0_ n1_ n2_; (try clear hb); (try clear hkp); (try clear hy0)) | ((with_reducible refine gate_callee (f := 31) rfl ?_); refine goesL_ (some 71) rfl rfl Tryd.func31 (by kernel_rfl) rfl #[.slice Ao49 t257.length co49, .int .i64 1] rfl (by (try simp only [List.map_toArray, List.map_cons, List.map_nil]); first | done | (rw [show t257.length = t244.length from (Kd.R_reads' HO_9.out).1.symm] <;> rfl) | rfl | (simp only [List.length_drop, List.length_take]; rfl)) ?_; (with_reducible refine (laws_heldStringS.calls kj28 _ _ t257 1 t258 _ ?side1 ?side2 A43.out).mono ?_); (case side1 => repeat (first | exact (Kd.R_reads' HO_9.out).2.2 | (with_reducible refine Kd.C_alloc ?_ _) | (with_reducible refine Kd.C_drewN ?_ _) | (with_reducible refine Kd.C_drew ?_))); (case side2 => rw [show t257.length = t244.length from (Kd.R_reads' HO_9.out).1.symm]; exact (Kd.R_reads' HO_9.out).2.1); rintro e w51 ⟨rfl, hb⟩; refine ⟨_, rfl, ?_⟩; have n0_ := Aside0.mk (Kd.R_below (by (with_reducible repeat (first | apply Kd.R_alloc | apply Kd.R_drewN | apply Kd.R_drew)); exact HO_6.out) hb); have n1_ := Aside0.mk (Kd.R_below (by (with_reducible repeat (first | apply Kd.R_alloc | apply Kd.R_drewN | apply Kd.R_drew)); exact HO_9.out) hb); have n2_ := Aside0.mk (below_step (by repeat (first | (with_reducible first | exact HB.out | apply below_alloc | apply pw_below_drewN | apply below_drew1) | exact HB.out)) hb); clear HO_6; clear HO_9; clear HB; have HO_6 := n0_; have HO_9 := n1_; have HB := n2_; clear n0_ n1_ n2_; (try clear hb); (try clear hb2); (try clear hk); (try clear hi)) | ((with_reducible refine gate_callee (f := 21) rfl ?_); refine goesL_ (some 79) rfl rfl Tryd.func21 (by kernel_rfl) rfl #[.slice A0 l0.length c0] rfl (by (try simp only [List.map_toArray, List.map_cons, List.map_nil]); first | done | rfl | (simp only [List.length_drop, List.length_take]; rfl)) ?_; (with_reducible refine (laws_toCaveRowS.calls kj28 _ _ l0 t259 _ ?side1 ?side2 A46.out).mono ?_); (case side1 => repeat (first | exact (Kd.C_below HR0.out HB.out) | (with_reducible refine Kd.C_alloc ?_ _) | (with_reducible refine Kd.C_drewN ?_ _) | (with_reducible refine Kd.C_drew ?_))); (case side2 => exact HC0.out); rintro e w52 ⟨v260, rfl, ho0, hb⟩; refine ⟨_, rfl, ?_⟩; have n0_ := Aside0.mk (Kd.R_below (by (with_reducible repeat (first | apply Kd.R_alloc | apply Kd.R_drewN | apply Kd.R_drew)); exact HO_6.out) hb); have n1_ := Aside0.mk (Kd.R_below (by (with_reducible repeat (first | apply Kd.R_alloc | apply Kd.R_drewN | apply Kd.R_drew)); exact HO_9.out) hb); have n2_ := Aside0.mk (Kd.R_lower ho0 (below_size (by repeat (first | (with_reducible first | exact HB.out | apply below_alloc | apply pw_below_drewN | apply below_drew1) | exact HB.out)))); have n3_ := Aside0.mk (below_step (by repeat (first | (with_reducible first | exact HB.out | apply below_alloc | apply pw_below_drewN | apply below_drew1) | exact HB.out)) hb); clear HO_6; clear HO_9; clear HB; have HO_6 := n0_; have HO_9 := n1_; have HO261 := n2_; have HB := n3_; clear n0_ n1_ n2_ n3_; (try clear hb); (try clear hb2); (try clear hk); (try clear hi); (try clear ho0); obtain ⟨Ao53, co53, eo53⟩ := Kd.R_slice HO261.out; subst eo53) | ((with_reducible refine gate_callee (f := 27) rfl ?_); refine goesL_ (some 81) rfl rfl Tryd.func27 (by kernel_rfl) rfl #[.slice Ao53 t259.length co53, .int .i64 a1] rfl (by (try simp only [List.map_toArray, List.map_cons, List.map_nil]); first | done | rfl | (simp only [List.length_drop, List.length_take]; rfl)) ?_; (with_reducible refine (impl_CavesLongerThan.calls kj28 _ _ t259 a1 t262 t263 _ ?side1 ?side2 A47.out).mono ?_); (case side1 => repeat (first | exact (Kd.R_reads' HO261.out).2.2 | (with_reducible refine Kd.C_alloc ?_ _) | (with_reducible refine Kd.C_drewN ?_ _) | (with_reducible refine Kd.C_drew ?_))); (case side2 => exact (Kd.R_reads' HO261.out).2.1); rintro e w54 ⟨v264, rfl, ho0, hb⟩; refine ⟨_, rfl, ?_⟩; have n0_ := Aside0.mk (Kd.R_elder' (by (with_reducible repeat (first | apply Kd.R_alloc | apply Kd.R_drewN | apply Kd.R_drew)); exact HO_6.out) (Kd.R_base ho0) hb); have n1_ := Aside0.mk (Kd.R_elder' (by (with_reducible repeat (first | apply Kd.R_alloc | apply Kd.R_drewN | apply Kd.R_drew)); exact HO_9.out) (Kd.R_base ho0) hb); have n2_ := Aside0.mk (Kd.R_below (by (with_reducible repeat (first | apply Kd.R_alloc | apply Kd.R_drewN | apply Kd.R_drew)); exact HO261.out) hb); have n3_ := Aside0.mk (Kd.R_lower (Kd.R_new' (Kd.R_new' ho0 (Kd.R_lt (by (with_reducible repeat (first | apply Kd.R_alloc | apply Kd.R_drewN | apply Kd.R_drew)); exact HO_6.out))) (Kd.R_lt (by (with_reducible repeat (first | apply Kd.R_alloc | apply Kd.R_drewN | apply Kd.R_drew)); exact HO_9.out))) (below_size (by repeat (first | (with_reducible first | exact HB.out | apply below_alloc | apply pw_below_drewN | apply below_drew1) | exact HB.out)))); have n4_ := Aside0.mk (below_step (by repeat (first | (with_reducible first | exact HB.out | apply below_alloc | apply pw_below_drewN | apply below_drew1) | exact HB.out)) hb); clear HO_6; clear HO_9; clear HO261; clear HB; have HO_6 := n0_; have HO_9 := n1_; have HO261 := n2_; have HO265 := n3_; have HB := n4_; clear n0_ n1_ n2_ n3_ n4_; (try clear hb); (try clear hb2); (try clear hk); (try clear hi); (try clear ho0)))
                      (try simp only [Act.put, List.setIfInBounds_toArray, List.set_cons_zero, List.set_cons_succ])
                      go_cut [92] (fun v92 wc => ∃ (kq : Nat) (x92_47 : Bool), v92 = .bool x92_47 ∧ Aside0 (laws_FnExactCavesLongerThan.j2 kq t257 t256 x92_47 = some r) ∧ Aside0 (kq ≤ kj28) ∧ Aside0 (Kd.R Kd.string 9 wc w.heap.size (fun _ => True) (.slice Ao49 t244.length co49) t257) ∧ Aside0 (Below w.heap.size w wc))
                      case first =>
                        have H := HC48.out
                        clear HC48
                        replace H := Option.bind_eq_some_iff.mp H
                        obtain ⟨t266, A550, H⟩ := H
                        replace H : (if t266 = true then (laws_FnExactCavesLongerThan.j2 kj28 t257 t256 (t263 != t238)) else (laws_FnExactCavesLongerThan.j2 kj28 t257 t256 true)) = some r := H
                        have A55 := Aside0.mk A550
                        clear A550
                        by_cases c56 : t266 = true
                        · subst c56
                          have H1 : (laws_FnExactCavesLongerThan.j2 kj28 t257 t256 (t263 != t238)) = some r := by rw [if_pos rfl] at H; exact H
                          clear H
                          have H := H1
                          clear H1
                          have H' := Aside0.mk H
                          clear H
                          obtain ⟨Ao57, co57, eo57⟩ := Kd.R_slice HO265.out
                          subst eo57
                          obtain ⟨Ao58, co58, eo58⟩ := Kd.R_slice HO_6.out
                          subst eo58
                          go_wp2_with (first | ((with_reducible refine gate_callee (f := 28) rfl ?_); refine goesL_ (some 86) rfl rfl Tryd.func28 (by kernel_rfl) rfl #[.slice Ao57 t262.length co57, .slice Ao58 t237.length co58] rfl (by (try simp only [List.map_toArray, List.map_cons, List.map_nil]); first | done | rfl | (simp only [List.length_drop, List.length_take]; rfl)) ?_; (with_reducible refine (laws_eqStringS.calls kj28 _ _ t262 _ _ t237 true _ ?side1 ?side2 ?side3 ?side4 A55.out).mono ?_); (case side1 => repeat (first | exact (Kd.R_reads' HO265.out).2.2 | (with_reducible refine Kd.C_alloc ?_ _) | (with_reducible refine Kd.C_drewN ?_ _) | (with_reducible refine Kd.C_drew ?_))); (case side2 => exact (Kd.R_reads' HO265.out).2.1); (case side3 => repeat (first | exact (Kd.R_reads' HO_6.out).2.2 | (with_reducible refine Kd.C_alloc ?_ _) | (with_reducible refine Kd.C_drewN ?_ _) | (with_reducible refine Kd.C_drew ?_))); (case side4 => exact (Kd.R_reads' HO_6.out).2.1); rintro e w' ⟨rfl, ⟨nd, rfl⟩⟩; refine ⟨_, rfl, ?_⟩))
                          go_meet
                          case rel => exact ⟨_, ((t263 != t238)), (by first | rfl | (simp; done) | (simp [*]; done)), H', ⟨by have := HJ9.out; have := HJ28.out; first | omega | exact Nat.le_refl _⟩, ⟨by (with_reducible repeat (first | apply Kd.R_alloc | apply Kd.R_drewN | apply Kd.R_drew)); exact Kd.R_mono HO_9.out (fun _ hk => trivial)⟩, ⟨by repeat (first | (with_reducible first | exact HB.out | apply below_alloc | apply pw_below_drewN | apply below_drew1) | exact HB.out)⟩⟩
                        · replace c56 := Bool.eq_false_iff.mpr c56
                          subst c56
                          have H1 : (laws_FnExactCavesLongerThan.j2 kj28 t257 t256 true) = some r := by rw [if_neg (show ¬ (false = true) by decide)] at H; exact H
                          clear H
                          have H := H1
                          clear H1
                          have H' := Aside0.mk H
                          clear H
                          obtain ⟨Ao59, co59, eo59⟩ := Kd.R_slice HO265.out
                          subst eo59
                          obtain ⟨Ao60, co60, eo60⟩ := Kd.R_slice HO_6.out
                          subst eo60
                          go_wp2_with (first | ((with_reducible refine gate_callee (f := 28) rfl ?_); refine goesL_ (some 86) rfl rfl Tryd.func28 (by kernel_rfl) rfl #[.slice Ao59 t262.length co59, .slice Ao60 t237.length co60] rfl (by (try simp only [List.map_toArray, List.map_cons, List.map_nil]); first | done | rfl | (simp only [List.length_drop, List.length_take]; rfl)) ?_; (with_reducible refine (laws_eqStringS.calls kj28 _ _ t262 _ _ t237 false _ ?side1 ?side2 ?side3 ?side4 A55.out).mono ?_); (case side1 => repeat (first | exact (Kd.R_reads' HO265.out).2.2 | (with_reducible refine Kd.C_alloc ?_ _) | (with_reducible refine Kd.C_drewN ?_ _) | (with_reducible refine Kd.C_drew ?_))); (case side2 => exact (Kd.R_reads' HO265.out).2.1); (case side3 => repeat (first | exact (Kd.R_reads' HO_6.out).2.2 | (with_reducible refine Kd.C_alloc ?_ _) | (with_reducible refine Kd.C_drewN ?_ _) | (with_reducible refine Kd.C_drew ?_))); (case side4 => exact (Kd.R_reads' HO_6.out).2.1); rintro e w' ⟨rfl, ⟨nd, rfl⟩⟩; refine ⟨_, rfl, ?_⟩))
                          go_meet
                          case rel => exact ⟨_, (true), (by first | rfl | (simp; done) | (simp [*]; done)), H', ⟨by have := HJ9.out; have := HJ28.out; first | omega | exact Nat.le_refl _⟩, ⟨by (with_reducible repeat (first | apply Kd.R_alloc | apply Kd.R_drewN | apply Kd.R_drew)); exact Kd.R_mono HO_9.out (fun _ hk => trivial)⟩, ⟨by repeat (first | (with_reducible first | exact HB.out | apply below_alloc | apply pw_below_drewN | apply below_drew1) | exact HB.out)⟩⟩
                      case rest =>
                        clear HC48
                        try clear c1
                        try clear c2
                        try clear p2
                        try clear c3
                        try clear c4
                        try clear c4b0
                        try clear c5
                        try clear c6
                        try clear c19
                        try clear c21
                        try clear c23
                        try clear c24
                        try clear c26
                        try clear c27
                        try clear c28
                        try clear c29
                        try clear c30
                        try clear c31
                        try clear c34
                        try clear c34b0
                        try clear c36
                        try clear c41
                        try clear c44
                        try clear c44b0
                        try clear c45
                        try clear c45b0
                        try clear c45b1
                        try clear c56
                        try clear p2
                        obtain ⟨kq, x92_47, rfl, HA, HJ47, HO_9, HB⟩ := hcut
                        have hl9_47 := (Kd.R_reads' HO_9.out).1
                        rw [hl9_47] at HO_9
                        (try simp only [hl9_47])
                        cases kq with
                        | zero => exact absurd HA.out (by simp [laws_FnExactCavesLongerThan.j2])
                        | succ kj47 =>
                          have H := HA.out
                          clear HA
                          simp only [laws_FnExactCavesLongerThan.j2] at H
                          by_cases c61 : x92_47 = true
                          · subst c61
                            have H1 : (none) = some r := by rw [if_pos rfl] at H; exact H
                            clear H
                            have H := H1
                            clear H1
                            exact absurd H (by simp)
                          · replace c61 := Bool.eq_false_iff.mpr c61
                            subst c61
                            have H1 : ((laws_heldStringS.f kj47 t257 1).bind fun t267 => (if t267 < 0 then (none) else (if t267 = t256 then (some true) else (none)))) = some r := by rw [if_neg (show ¬ (false = true) by decide)] at H; exact H
                            clear H
                            have H := H1
                            clear H1
                            replace H := Option.bind_eq_some_iff.mp H
                            obtain ⟨t267, A620, H⟩ := H
                            replace H : (if t267 < 0 then (none) else (if t267 = t256 then (some true) else (none))) = some r := H
                            have A62 := Aside0.mk A620
                            clear A620
                            by_cases c63 : t267 < 0
                            · rw [if_pos c63] at H
                              exact absurd H (by simp)
                            · rw [if_neg c63] at H
                              have c63b0 : decide (t267 < 0) = false := decide_eq_false c63
                              clear c63
                              by_cases c64 : t267 = t256
                              · rw [if_pos c64] at H
                                have c64b0 : (t267 == t256) = true := beq_iff_eq.mpr c64
                                have c64b1 : (t267 != t256) = false := bne_eq_false_iff_eq.mpr c64
                                clear c64
                                obtain rfl := Option.some.inj H
                                go_wp2_with (first | ((with_reducible refine gate_callee (f := 31) rfl ?_); refine goesL_ (some 95) rfl rfl Tryd.func31 (by kernel_rfl) rfl #[.slice Ao49 t257.length co49, .int .i64 1] rfl (by (try simp only [List.map_toArray, List.map_cons, List.map_nil]); first | done | rfl | (simp only [List.length_drop, List.length_take]; rfl)) ?_; (with_reducible refine (laws_heldStringS.calls kj47 _ _ t257 1 t267 _ ?side1 ?side2 A62.out).mono ?_); (case side1 => repeat (first | exact (Kd.R_reads' HO_9.out).2.2 | (with_reducible refine Kd.C_alloc ?_ _) | (with_reducible refine Kd.C_drewN ?_ _) | (with_reducible refine Kd.C_drew ?_))); (case side2 => exact (Kd.R_reads' HO_9.out).2.1); rintro e w65 ⟨rfl, hb⟩; refine ⟨_, rfl, ?_⟩; have n0_ := Aside0.mk (Kd.R_below (by (with_reducible repeat (first | apply Kd.R_alloc | apply Kd.R_drewN | apply Kd.R_drew)); exact HO_9.out) hb); have n1_ := Aside0.mk (below_step (by repeat (first | (with_reducible first | exact HB.out | apply below_alloc | apply pw_below_drewN | apply below_drew1) | exact HB.out)) hb); clear HO_9; clear HB; have HO_9 := n0_; have HB := n1_; clear n0_ n1_; (try clear hb); (try clear hb2); (try clear hk); (try clear hi)))
                                go_ret
                                exact ⟨by first | rfl | (simp [errW_none, errW_some] <;> rfl) | (simp [*, errW_none, errW_some] <;> rfl), by repeat (first | (with_reducible first | exact HB.out | apply below_alloc | apply pw_below_drewN | apply below_drew1) | exact HB.out)⟩
                              · rw [if_neg c64] at H
                                exact absurd H (by simp)
                    · rw [if_neg c45] at H
                      exact absurd H (by simp)
          · replace c27 := Bool.eq_false_iff.mpr c27
            subst c27
            have H1 : (none) = some r := by rw [if_neg (show ¬ (false = true) by decide)] at H; exact H
            clear H
            have H := H1
            clear H1
            exact absurd H (by simp)

end Go.Proofs.YteepnlofbfccgaaDoor.Pr

/-
What is proved: an argument that reads as data (a slice, a struct, nested) is of a kind, as the printed contracts ask it.
Conditions: none beyond the type's own cells; sizes come out of the row's weights.
-/
namespace Go.Proofs.YteepnlofbfccgaaDoorW.Opens
open Go.ChangeShapes Go.WideShapes Go.RowKit
open Go.Deep (open_slice choose_lt)
open Go.Proofs.YteepnlofbfccgaaDoorW.PrintWords
set_option linter.unusedVariables false
set_option linter.unusedSimpArgs false

/-- The cells of type t, read as data, are of the kind d. -/
def Opn {α : Type} (P : Program) (t : TypeId) (d : Kd α) (wf : α → Prop) : Prop :=
  P.cellsOf t = d.sz ∧ ∀ (H : Type) (enc : TypeId × Value → H) (W : World) (fuel : Nat) (cs : List Value) (x : DataW H × List MemPlace),
    DataW.trod enc P W 0 (fun _ => true) true fuel t cs = some x → (∀ n ∈ x.1.weights P t, n ≤ reachBytes) → ∃ y, d.K W y cs ∧ wf y

theorem Opn.int {P : Program} {t : TypeId} {k : IntKind} (hc : P.cellsOf t = 1) (ht : P.underlying t = some (.int k)) : Opn P t (Kd.int k) (fun n => (Lit.int k n).wf = true) :=
  ⟨hc, fun H enc W fuel cs x h _ => by
    obtain ⟨m, rfl, rfl, hw⟩ := DataW.trod_int ht h
    exact ⟨m, rfl, hw⟩⟩
theorem Opn.bool {P : Program} {t : TypeId} (hc : P.cellsOf t = 1) (ht : P.underlying t = some .bool) : Opn P t Kd.bool (fun _ => True) :=
  ⟨hc, fun H enc W fuel cs x h _ => by
    obtain ⟨m, rfl, rfl⟩ := DataW.trod_bool ht h
    exact ⟨m, rfl, trivial⟩⟩
theorem Opn.string {P : Program} {t : TypeId} (hc : P.cellsOf t = 1) (ht : P.underlying t = some .string) : Opn P t Kd.string (fun s => s.size ≤ 140737488351232) :=
  ⟨hc, fun H enc W fuel cs x h hw => by
    obtain ⟨m, rfl, rfl, hm⟩ := DataW.trod_string ht h
    have := hw m.data.toList.length (by simp [DataW.weights])
    rw [Array.length_toList] at this
    exact ⟨m, rfl, this⟩⟩

theorem weightsAll_mem {H : Type} {P : Program} {e : TypeId} : ∀ {l : List (DataW H)} {d : DataW H}, d ∈ l → ∀ n ∈ d.weights P e, n ∈ DataW.weightsAll P e l
  | _ :: r, d, h, n, hn => by
    simp only [DataW.weightsAll, List.mem_append]
    rcases List.mem_cons.1 h with rfl | h
    · exact .inl hn
    · exact .inr (weightsAll_mem h n hn)

theorem Opn.slice {α : Type} (z : α) {P : Program} {t e : TypeId} {d : Kd α} {wf : α → Prop} {B : Nat} (hc : P.cellsOf t = 1) (ht : P.underlying t = some (.slice e)) (hB : P.bytesOf e = B) (h : Opn P e d wf) :
    Opn P t (Kd.slice e d) (fun xs => xs.length ≤ maxLen ∧ xs.length * B ≤ 140737488351232 ∧ ∀ y ∈ xs, wf y) :=
  ⟨hc, fun H enc W fuel cs x hf hw => by
    haveI : Inhabited α := ⟨z⟩
    rcases open_slice ht hf with ⟨rfl, rfl⟩ | ⟨a, len, cap, m, n, D, Pl, rfl, _, hl, hm, hmm, rfl, each⟩
    · exact ⟨[], ⟨none, 0, rfl, Nat.le_refl _, rfl, by simp, fun h => absurd h (Nat.lt_irrefl 0)⟩, by simp, by simp, by simp⟩
    · rw [if_pos rfl] at hmm
      subst hmm
      have hw0 : ∀ n ∈ DataW.weights P t (DataW.slice (H := H) ((List.range len).map D) ((List.range (m - len)).map fun j => D (len + j))), n ≤ reachBytes := hw
      have hww : ∀ i, i < len → ∀ n ∈ (D i).weights P e, n ≤ reachBytes := by
        intro i hi n hn
        refine hw0 n ?_
        simp only [DataW.weights, ht, List.mem_cons, List.mem_append]
        exact .inr (.inl (weightsAll_mem (List.mem_map.2 ⟨i, List.mem_range.2 hi, rfl⟩) n hn))
      have hB2 : len * B ≤ 140737488351232 := by
        have := hw0 ((len + (m - len)) * B) (by simp [DataW.weights, ht, hB])
        refine Nat.le_trans (Nat.mul_le_mul_right _ (by omega)) this
      have hx : ∀ i, i < len → ∃ y, ∃ c : List Value, c.length = d.sz ∧ d.K W y c ∧ wf y ∧ ∀ j u, c[j]? = some u → W.cell? (a.add (i * d.sz + j)) = some u := by
        intro i hi
        obtain ⟨cs', h1, h2⟩ := each i (by omega)
        obtain ⟨y, hy, hwy⟩ := h.2 H enc W n cs' _ h2 (hww i hi)
        obtain ⟨_, hlen, hcell⟩ := World.cells?_some h1
        rw [h.1] at hlen hcell
        refine ⟨y, cs', hlen, hy, hwy, fun j u hu => ?_⟩
        have hj : j < d.sz := by
          have := (List.getElem?_eq_some_iff.1 hu).1
          omega
        have := hcell j hj
        rw [add_add] at this
        exact this.trans hu
      obtain ⟨f, hf'⟩ := choose_lt hx
      refine ⟨(List.range len).map f, ⟨some a, m, by simp, by simpa using hl, by simp, by simp only [maxLen] at hm; simp; omega, fun _ => ⟨a, rfl, fun j p hj => ?_⟩⟩, ?_, ?_, ?_⟩
      · rw [List.getElem?_map] at hj
        have hj' : j < len := by
          by_cases hjl : j < len
          · exact hjl
          · rw [List.getElem?_eq_none (by simp; omega)] at hj
            cases hj
        rw [List.getElem?_range hj'] at hj
        obtain rfl := Option.some.inj hj
        obtain ⟨c, h1, h2, _, h3⟩ := hf' j hj'
        exact ⟨c, h1, h2, h3⟩
      · simp; omega
      · simpa using hB2
      · intro y hy
        obtain ⟨i, hi, rfl⟩ := List.mem_map.1 hy
        obtain ⟨c, _, _, h2, _⟩ := hf' i (List.mem_range.1 hi)
        exact h2⟩

/-- The fields fs, from the cell off on, are of the kind d. -/
def FOpn {α : Type} (P : Program) (fs : List Field) (off : Nat) (d : Kd α) (wf : α → Prop) : Prop :=
  ∀ (H : Type) (enc : TypeId × Value → H) (W : World) (fuel : Nat) (cs : List Value) (xs : List (DataW H × List MemPlace)),
    xs.length = fs.length → (∀ (i : Nat) (f : Field), fs[i]? = some f → DataW.trod enc P W 0 (fun _ => true) true fuel f.type ((cs.drop f.offset).take (P.cellsOf f.type)) = xs[i]?) →
    (∀ n ∈ DataW.weightsEach P (fs.map (·.type)) (xs.map (·.1)), n ≤ reachBytes) → ∃ y, d.K W y ((cs.drop off).take d.sz) ∧ wf y
theorem FOpn.one {α : Type} {P : Program} {f : Field} {off : Nat} {d : Kd α} {wf : α → Prop} (ho : f.offset = off) (h : Opn P f.type d wf) : FOpn P [f] off d wf := by
  intro H enc W fuel cs xs hl hx hw
  match xs, hl with
  | [x], _ =>
    have h0 := hx 0 f rfl
    rw [ho, h.1] at h0
    exact h.2 H enc W fuel _ x h0 (fun n hn => hw n (by simp only [List.map, DataW.weightsEach, List.mem_append]; exact .inl hn))
theorem FOpn.cons {α β : Type} {P : Program} {f : Field} {fs : List Field} {off : Nat} {d : Kd α} {d' : Kd β} {wf : α → Prop} {wf' : β → Prop} (ho : f.offset = off) (h : Opn P f.type d wf) (h' : FOpn P fs (off + d.sz) d' wf') :
    FOpn P (f :: fs) off (Kd.pair d d') (fun x => wf x.1 ∧ wf' x.2) := by
  intro H enc W fuel cs xs hl hx hw
  match xs, hl with
  | x :: xs, hl =>
    have h0 := hx 0 f rfl
    rw [ho, h.1] at h0
    have hw' : ∀ n ∈ x.1.weights P f.type ++ DataW.weightsEach P (fs.map (·.type)) (xs.map (·.1)), n ≤ reachBytes := hw
    obtain ⟨y, hy, hwy⟩ := h.2 H enc W fuel _ x h0 (fun n hn => hw' n (List.mem_append_left _ hn))
    obtain ⟨y', hy', hwy'⟩ := h' H enc W fuel cs xs (by simpa using hl) (fun i f' hf' => hx (i + 1) f' (by simpa using hf')) (fun n hn => hw' n (List.mem_append_right _ hn))
    refine ⟨(y, y'), ⟨_, _, ?_, hy, hy'⟩, hwy, hwy'⟩
    show (cs.drop off).take (d.sz + d'.sz) = _
    rw [List.take_add, List.drop_drop]
theorem Opn.struct {α β : Type} {P : Program} {t : TypeId} {fs : Array Field} {d : Kd α} {wf : α → Prop} (f : β → α) (g : α → β) (hfg : ∀ x, f (g x) = x) (hc : P.cellsOf t = d.sz) (ht : P.underlying t = some (.struct fs)) (h : FOpn P fs.toList 0 d wf) :
    Opn P t (Kd.iso d f) (fun x => wf (f x)) :=
  ⟨hc, fun H enc W fuel cs x hf hw => by
    obtain ⟨xs, n, rfl, rfl, hl, hxs, each⟩ := DataW.trod_struct ht hf
    obtain ⟨y, hy, hwy⟩ := h H enc W n cs xs (by simpa using hxs) (fun i f' hf' => each i f' (by simpa using hf')) (fun n hn => hw n (by simp only [DataW.weights, ht]; exact hn))
    rw [List.drop_zero, List.take_of_length_le (by rw [hl, hc]; exact Nat.le_refl _)] at hy
    exact ⟨g y, (by rw [← hfg y] at hy; exact hy), (by rw [← hfg y] at hwy; exact hwy)⟩⟩

/-- A parameter: what its weights allow. -/
theorem par_weights {H : Type} {P : Program} {ts : List TypeId} {ds : List (DataW H)} {j : Nat} {t : TypeId} {d : DataW H} (h : (DataW.weightsEach P ts ds).all (· ≤ reachBytes) = true) (ht : ts[j]? = some t) (hd : ds[j]? = some d) :
    ∀ n ∈ d.weights P t, n ≤ reachBytes := fun n hn => of_decide_eq_true (List.all_eq_true.1 h n (DataW.weights_mem_each ht hd n hn))
/-- A slice that came in. -/
theorem par_slice {α : Type} {H : Type} {enc : TypeId × Value → H} {P : Program} {W : World} {r : Reach} {b0 : Nat} {t e : TypeId} {d : Kd α} {wf : List α → Prop} {v : Value} {D : DataW H} {ps : List MemPlace}
    (ht : P.underlying t = some (.slice e)) (ho : Opn P t (Kd.slice e d) wf) (hv : Value.okWide P W r b0 t v) (hd : DataW.Trod enc P W 0 (fun _ => true) true t v D ps) (hw : ∀ n ∈ D.weights P t, n ≤ reachBytes) :
    ∃ (A : Option Addr) (l : List α) (c : Nat), v = .slice A l.length c ∧ l.length ≤ c ∧ d.C W A l.length l ∧ wf l := by
  obtain ⟨A, len, cap, rfl⟩ := okWide_slice ht hv
  obtain ⟨fuel, hf⟩ := hd
  obtain ⟨l, ⟨A', c, he, hl, hC⟩, hwl⟩ := ho.2 H enc W fuel _ _ hf hw
  have he' : [Value.slice A len cap] = [.slice A' l.length c] := he
  simp only [List.cons.injEq, Value.slice.injEq, and_true] at he'
  obtain ⟨rfl, rfl, rfl⟩ := he'
  exact ⟨_, l, _, rfl, hl, hC, hwl⟩
/-- A struct that came in. -/
theorem par_struct {α : Type} {H : Type} {enc : TypeId × Value → H} {P : Program} {W : World} {r : Reach} {b0 : Nat} {t : TypeId} {fs : Array Field} {d : Kd α} {wf : α → Prop} {v : Value} {D : DataW H} {ps : List MemPlace}
    (ht : P.underlying t = some (.struct fs)) (ho : Opn P t d wf) (hv : Value.okWide P W r b0 t v) (hd : DataW.Trod enc P W 0 (fun _ => true) true t v D ps) (hw : ∀ n ∈ D.weights P t, n ≤ reachBytes) :
    ∃ (cs : List Value) (x : α), v = .agg cs.toArray ∧ d.K W x cs ∧ wf x := by
  obtain ⟨cs, rfl, _⟩ := okWide_struct ht hv
  obtain ⟨fuel, hf⟩ := hd
  obtain ⟨y, hy, hwy⟩ := ho.2 H enc W fuel _ _ hf hw
  exact ⟨cs.toList, y, by simp, hy, hwy⟩
end Go.Proofs.YteepnlofbfccgaaDoorW.Opens

/-
What is stated: the law FnExactCavesLongerThan over numbers and lists alone (its printed function answers true).
Conditions: what each argument's own type and size allow.
-/
namespace Go.Proofs.YteepnlofbfccgaaDoor.Pr
open Go.RowKit Go.Proofs.YteepnlofbfccgaaDoorW.PrintWords Go.Proofs.YteepnlofbfccgaaDoorW.PrintLast Go.Proofs.YteepnlofbfccgaaDoorW.Opens
set_option linter.unusedVariables false
def wf23 (x : S23) : Prop := x.f0.size ≤ 140737488351232 ∧ (Lit.int .i64 x.f1).wf = true ∧ (Lit.int .i64 x.f2).wf = true ∧ (Lit.int .i64 x.f3).wf = true
theorem opn23 : Opn Tryd.prog 23 k23 wf23 := Opn.struct (fun x : S23 => (x.f0, x.f1, x.f2, x.f3)) (fun p => ⟨p.1, p.2.1, p.2.2.1, p.2.2.2⟩) (fun _ => rfl) (by kernel_rfl) Tryd.underlying23 (FOpn.cons rfl (Opn.string (by kernel_rfl) Tryd.underlying9) (FOpn.cons rfl (Opn.int (by kernel_rfl) Tryd.underlying3) (FOpn.cons rfl (Opn.int (by kernel_rfl) Tryd.underlying3) (FOpn.one rfl (Opn.int (by kernel_rfl) Tryd.underlying3)))))
def wfL23 (l : List S23) : Prop := l.length ≤ maxLen ∧ l.length * 40 ≤ 140737488351232 ∧ ∀ y ∈ l, wf23 y
theorem opnL29 : Opn Tryd.prog 29 (Kd.slice 23 k23) wfL23 := Opn.slice z23 (by kernel_rfl) Tryd.underlying29 (by kernel_rfl) opn23
def FnExactCavesLongerThan.Pure : Prop := ∀ (x0 : (List S23)) (x1 : Int), wfL23 x0 → (Lit.int .i64 x1).wf = true → ∃ k, laws_FnExactCavesLongerThan.f k x0 x1 = some true
end Go.Proofs.YteepnlofbfccgaaDoor.Pr

/-
What is proved: strings as lists of bytes; bounds.
Conditions: sizes far below the machine's, enough rounds.
-/
namespace Go.Proofs.YteepnlofbfccgaaDoor.Pr.Pure
open Go.RowKit Go.Proofs.YteepnlofbfccgaaDoorW.PrintWords Go.Proofs.YteepnlofbfccgaaDoorW.PrintLast Go.Proofs.YteepnlofbfccgaaDoorW.PrintMore  Go.Lib
set_option linter.unusedVariables false
set_option linter.unusedSimpArgs false

theorem w64 {x : Int} (h1 : -9223372036854775808 ≤ x) (h2 : x ≤ 9223372036854775807) : wrap64 x = x := by
  unfold wrap64
  omega
theorem i64b {x : Int} (h : (Lit.int .i64 x).wf = true) : -9223372036854775808 ≤ x ∧ x ≤ 9223372036854775807 := by
  simp [Lit.wf, IntKind.min, IntKind.max, IntKind.signed, IntKind.bits] at h
  omega
theorem set_map_step {α β : Type} (f : α → β) (l : List α) (z : β) (i : Nat) (hi : i < l.length) (a : α) (ha : l[i]? = some a) :
    ((l.take i).map f ++ List.replicate (l.length - i) z).set i (f a) = (l.take (i + 1)).map f ++ List.replicate (l.length - (i + 1)) z := by
  have h1 : ((l.take i).map f).length = i := by simp; omega
  rw [List.set_append_right _ _ (by omega), h1, Nat.sub_self]
  obtain ⟨m, hm⟩ : ∃ m, l.length - i = m + 1 := ⟨l.length - i - 1, by omega⟩
  rw [hm, show l.length - (i + 1) = m by omega, List.replicate_succ, List.set_cons_zero, List.take_add_one, ha]
  simp
theorem getD_some {α : Type} (l : List α) (z : α) (i : Nat) (h : i < l.length) : l[i]? = some (l.getD i z) := by
  rw [List.getD_eq_getElem?_getD, List.getElem?_eq_getElem h]
  rfl

/-- As Option.bind_some, but no rewriting by definition (the kernel would unfold too much). -/
theorem obs {α β : Type} (a : α) (f : α → Option β) : (some a).bind f = f a := id (Option.bind_some a f)
/-- A list of bytes as a string. -/
def M (l : List UInt8) : ByteArray := ⟨l.toArray⟩
theorem ex_M (b : ByteArray) : ∃ l, b = M l := ⟨b.data.toList, by unfold M; rw [Array.toArray_toList]⟩
theorem M_size (l : List UInt8) : (M l).size = l.length := by simp [M, ByteArray.size]
theorem M_data (l : List UInt8) : (M l).data.toList = l := by simp [M]
theorem M_inj {a b : List UInt8} : M a = M b ↔ a = b := ⟨fun h => by
  have := congrArg (fun x : ByteArray => x.data.toList) h
  simpa [M] using this, fun h => by rw [h]⟩
theorem M_toList (l : List UInt8) : (M l).toList = l := by rw [ByteArray.toList_eq, M_data]
theorem sc_M (a b : List UInt8) : sc (M a) (M b) = M (a ++ b) := by
  apply ByteArray.ext
  unfold sc M
  rw [ByteArray.data_append]
  simp
theorem sx_M (a : List UInt8) (i j : Nat) : sx (M a) i j = M ((a.drop i).take (j - i)) := by
  apply ByteArray.ext
  unfold sx M
  rw [ByteArray.data_extract]
  simp [List.extract_eq_take_drop]
theorem bt_M (l : List UInt8) (i : Nat) : bt (M l) (i : Int) = ((l.getD i 0).toNat : Int) := by
  have hb := rd_bytesOf (M l) (i : Int)
  rw [← hb]
  unfold rd bytesOf
  rw [M_data, Int.toNat_natCast, List.getD_eq_getElem?_getD, List.getD_eq_getElem?_getD, List.getElem?_map]
  cases l[i]? <;> rfl
theorem lit_M (l : List UInt8) : (⟨l.toArray⟩ : ByteArray) = M l := rfl
theorem drop_at (l : List UInt8) (i : Nat) (h : i < l.length) : l.drop i = l.getD i 0 :: l.drop (i + 1) := by
  rw [List.drop_eq_getElem_cons h, List.getD_eq_getElem?_getD, List.getElem?_eq_getElem h]
  rfl
theorem byte_eq (x : UInt8) (c : Nat) (hc : c < 256) : ((x.toNat : Int) = (c : Int)) ↔ x = UInt8.ofNat c := by
  constructor
  · intro h
    apply UInt8.toNat_inj.1
    rw [UInt8.toNat_ofNat']
    omega
  · rintro rfl
    rw [UInt8.toNat_ofNat']
    omega
theorem byte_rng (x : UInt8) : 0 ≤ (x.toNat : Int) ∧ (x.toNat : Int) ≤ 255 := by
  have := x.toNat_lt
  omega
theorem l1In_eq (a b c : Int) : spec_l1In.f a b c = some (decide (b ≤ a ∧ a ≤ c)) := by
  unfold spec_l1In.f
  by_cases h : b ≤ a
  · rw [if_pos h]; simp [h]
  · rw [if_neg (by omega)]; simp [h]
theorem within_eq (a b c : Int) : impl_within.f a b c = some (decide (b ≤ a ∧ a ≤ c)) := by
  unfold impl_within.f
  by_cases h : b ≤ a
  · rw [if_pos h]; simp [h]
  · rw [if_neg (by omega)]; simp [h]
theorem dec_of {p : Prop} [Decidable p] {b : Bool} (h : b = true ↔ p) : some b = some (decide p) := by
  congr 1
  rw [Bool.eq_iff_iff, h, decide_eq_true_eq]
end Go.Proofs.YteepnlofbfccgaaDoor.Pr.Pure

/-
What is proved: both tests for a word (one to ten small letters) are the same.
Conditions: none but enough rounds.
-/
namespace Go.Proofs.YteepnlofbfccgaaDoor.Pr.Pure
open Go.RowKit Go.Proofs.YteepnlofbfccgaaDoorW.PrintWords Go.Proofs.YteepnlofbfccgaaDoorW.PrintLast Go.Proofs.YteepnlofbfccgaaDoorW.PrintMore Go.Lib
set_option linter.unusedVariables false
set_option linter.unusedSimpArgs false
/-- A small letter. -/
def small (x : UInt8) : Bool := decide (97 ≤ x.toNat) && decide (x.toNat ≤ 122)
/-- A word. -/
def isW (l : List UInt8) : Bool := decide (1 ≤ l.length) && decide (l.length ≤ 10) && l.all small
theorem word_l0 (l : List UInt8) (hl : l.length ≤ 4611686018427387904) (d : Nat) : ∀ (k i : Nat), i + d = l.length → d < k → spec_l2Word.l0 k (M l) i = some (decide (1 ≤ l.length) && decide (l.length ≤ 10) && (l.drop i).all small) := by
  induction d with
  | zero =>
    intro k i hd hk
    obtain ⟨k, rfl⟩ : ∃ m, k = m + 1 := ⟨k - 1, by omega⟩
    simp only [spec_l2Word.l0]
    rw [M_size, if_neg (by omega), List.drop_of_length_le (by omega), l1In_eq, obs]
    simp only [List.all_nil, Bool.and_true]
    congr 1
    rw [Bool.eq_iff_iff]
    simp
    omega
  | succ d ih =>
    intro k i hd hk
    obtain ⟨k, rfl⟩ : ∃ m, k = m + 1 := ⟨k - 1, by omega⟩
    simp only [spec_l2Word.l0]
    rw [M_size, if_pos (by omega), if_pos (by omega), bt_M, drop_at l i (by omega)]
    generalize l.getD i 0 = x
    rw [w64 (by omega) (by omega)]
    have ih' := ih k (i + 1) (by omega) (by omega)
    rw [show ((i + 1 : Nat) : Int) = (i : Int) + 1 by omega] at ih'
    rw [List.all_cons]
    by_cases h1 : (x.toNat : Int) < 97
    · have : small x = false := by
        unfold small
        have : ¬ 97 ≤ x.toNat := by omega
        simp [this]
      rw [if_pos h1, this]
      simp
    · rw [if_neg h1]
      by_cases h2 : (x.toNat : Int) > 122
      · have : small x = false := by
          unfold small
          have : ¬ x.toNat ≤ 122 := by omega
          simp [this]
        rw [if_pos h2, this]
        simp
      · have : small x = true := by
          unfold small
          have a : 97 ≤ x.toNat := by omega
          have b : x.toNat ≤ 122 := by omega
          simp [a, b]
        rw [if_neg h2, ih', this, Bool.true_and]
theorem word_spec (l : List UInt8) (hl : l.length ≤ 4611686018427387904) {k : Nat} (hk : l.length < k) : spec_l2Word.f k (M l) = some (isW l) := by
  unfold spec_l2Word.f isW
  simpa using word_l0 l hl l.length k 0 (by omega) hk
def letters : List UInt8 := [97, 98, 99, 100, 101, 102, 103, 104, 105, 106, 107, 108, 109, 110, 111, 112, 113, 114, 115, 116, 117, 118, 119, 120, 121, 122]
set_option maxRecDepth 100000 in
theorem letters_small (x : UInt8) : letters.contains x = small x := by
  have : ∀ n : Nat, n < 256 → letters.contains (UInt8.ofNat n) = small (UInt8.ofNat n) := by decide
  have h := this x.toNat x.toNat_lt
  rwa [show UInt8.ofNat x.toNat = x from UInt8.ofNat_toNat] at h
theorem drop_all {p : UInt8 → Bool} : ∀ l : List UInt8, l.dropWhile p = [] ↔ l.all p = true
  | [] => by simp
  | x :: l => by
    by_cases h : p x = true
    · rw [List.dropWhile_cons_of_pos h, drop_all l]
      simp [h]
    · rw [List.dropWhile_cons_of_neg h]
      simp [h]
theorem trim_nil (l : List UInt8) : trimS l letters = [] ↔ l.all small = true := by
  have hp : (fun x => letters.contains x) = small := funext letters_small
  unfold trimS trimLeftS trimRightS
  rw [hp, drop_all]
  constructor
  · intro h
    rw [List.all_reverse] at h
    have h2 : (l.reverse.dropWhile small).all small = true := h
    have h3 : l.reverse.all small = true := by
      rw [← drop_all]
      have h4 := (drop_all _).2 h2
      have : ∀ m : List UInt8, (m.dropWhile small).dropWhile small = m.dropWhile small := by
        intro m
        induction m with
        | nil => rfl
        | cons x m ih =>
          by_cases h : small x = true
          · rw [List.dropWhile_cons_of_pos h, ih]
          · rw [List.dropWhile_cons_of_neg h, List.dropWhile_cons_of_neg h]
      rw [this] at h4
      exact h4
    rwa [List.all_reverse] at h3
  · intro h
    have h3 : l.reverse.all small = true := by rwa [List.all_reverse]
    rw [(drop_all _).2 h3]
    rfl
theorem word_impl (l : List UInt8) (hl : l.length ≤ 4611686018427387904) : impl_isWord.f (M l) = some (isW l) := by
  unfold impl_isWord.f isW
  rw [M_size]
  by_cases h1 : (l.length : Int) ≥ 1
  · rw [if_pos h1]
    by_cases h2 : (l.length : Int) ≤ 10
    · have ht : strings_Trim.f (M l) (M letters) = some (M (trimS l letters)) := by
        unfold strings_Trim.f
        rw [M_size, M_size, M_data, M_data, if_pos (by omega), if_pos (by decide), if_pos (by decide)]
        rfl
      rw [if_pos h2, show (⟨#[97, 98, 99, 100, 101, 102, 103, 104, 105, 106, 107, 108, 109, 110, 111, 112, 113, 114, 115, 116, 117, 118, 119, 120, 121, 122]⟩ : ByteArray) = M letters from rfl, ht, obs, M_toList]
      congr 1
      rw [Bool.eq_iff_iff]
      have a : 1 ≤ l.length := by omega
      have b : l.length ≤ 10 := by omega
      simp only [a, b, decide_true, Bool.true_and, beq_iff_eq]
      exact trim_nil l
    · rw [if_neg h2]
      have b : ¬ l.length ≤ 10 := by omega
      simp [b]
  · rw [if_neg h1]
    have b : ¬ 1 ≤ l.length := by omega
    simp only [b, decide_false, Bool.false_and]
end Go.Proofs.YteepnlofbfccgaaDoor.Pr.Pure

/-
What is proved: both tests for a row of a cave are the same.
Conditions: the name far below the machine's sizes, enough rounds.
-/
namespace Go.Proofs.YteepnlofbfccgaaDoor.Pr.Pure
open Go.RowKit Go.Proofs.YteepnlofbfccgaaDoorW.PrintWords Go.Proofs.YteepnlofbfccgaaDoorW.PrintLast Go.Proofs.YteepnlofbfccgaaDoorW.PrintMore Go.Lib
set_option linter.unusedVariables false
set_option linter.unusedSimpArgs false
/-- A row of a cave. -/
def row (l : List UInt8) (L D G : Int) : Bool := isW l && decide (0 ≤ L ∧ L ≤ 1000000) && decide (0 ≤ D ∧ D ≤ mn 20000 L) && decide (0 ≤ G ∧ G ≤ 9999) && ((G == 0) == (L == 0))
theorem row_facts {l : List UInt8} {L D G : Int} (h : row l L D G = true) : isW l = true ∧ 0 ≤ L ∧ L ≤ 1000000 ∧ 0 ≤ D ∧ D ≤ mn 20000 L ∧ 0 ≤ G ∧ G ≤ 9999 := by
  unfold row at h
  simp only [Bool.and_eq_true, decide_eq_true_eq] at h
  obtain ⟨⟨⟨⟨a, b, c⟩, d, e⟩, f, g⟩, _⟩ := h
  exact ⟨a, b, c, d, e, f, g⟩
theorem row_eq (l : List UInt8) (L D G : Int) (hl : l.length ≤ 4611686018427387904) : impl_IsCaveRow.f (M l) L D G = some (row l L D G) := by
  unfold impl_IsCaveRow.f row
  rw [word_impl l hl, obs]
  cases isW l with
  | false => rfl
  | true =>
    rw [if_pos rfl, within_eq, obs]
    cases decide (0 ≤ L ∧ L ≤ 1000000) with
    | false => rfl
    | true =>
      rw [if_pos rfl, within_eq, obs]
      cases decide (0 ≤ D ∧ D ≤ mn 20000 L) with
      | false => rfl
      | true =>
        rw [if_pos rfl, within_eq, obs]
        cases decide (0 ≤ G ∧ G ≤ 9999) with
        | false => rfl
        | true => rfl
theorem least_eq (a b : Int) : spec_l1Least.f a b = some (mn a b) := by
  unfold spec_l1Least.f mn
  split <;> split <;> first | rfl | (congr 1; omega)
theorem one_eq (l : List UInt8) (L D G : Int) (hl : l.length ≤ 4611686018427387904) {k : Nat} (hk : l.length < k) : spec_l26One.f k (M l) L D G = some (row l L D G) := by
  unfold spec_l26One.f row
  rw [word_spec l hl hk, obs]
  cases isW l with
  | false => rfl
  | true =>
    rw [if_pos rfl, l1In_eq, obs]
    cases decide (0 ≤ L ∧ L ≤ 1000000) with
    | false => rfl
    | true =>
      rw [if_pos rfl, least_eq, obs, l1In_eq, obs]
      cases decide (0 ≤ D ∧ D ≤ mn 20000 L) with
      | false => rfl
      | true =>
        rw [if_pos rfl, l1In_eq, obs]
        cases decide (0 ≤ G ∧ G ≤ 9999) with
        | false => rfl
        | true => rfl
end Go.Proofs.YteepnlofbfccgaaDoor.Pr.Pure

/-
What is proved: plain lemmas on lists of caves: the laws' copying and comparing; both tests for caves are the same.
Conditions: those of each lemma.
-/
namespace Go.Proofs.YteepnlofbfccgaaDoor.Pr.Pure
open Go.RowKit Go.Proofs.YteepnlofbfccgaaDoorW.PrintWords Go.Proofs.YteepnlofbfccgaaDoorW.PrintLast Go.Proofs.YteepnlofbfccgaaDoorW.PrintMore Go.Lib
set_option linter.unusedVariables false
set_option linter.unusedSimpArgs false

def cvCaveRow (x : S23) : S26 := ⟨x.f0, x.f1, x.f2, x.f3⟩
theorem toCaveRowS_l0 (l : List S23) (hl : l.length ≤ 4611686018427387904) (d : Nat) : ∀ (k i : Nat), i + d = l.length → d < k →
    laws_toCaveRowS.l0 k l ((l.take i).map cvCaveRow ++ List.replicate (l.length - i) z26) i = some (l.map cvCaveRow) := by
  induction d with
  | zero =>
    intro k i hd hk
    obtain ⟨k, rfl⟩ : ∃ m, k = m + 1 := ⟨k - 1, by omega⟩
    simp only [laws_toCaveRowS.l0]
    rw [if_neg (by omega), List.take_of_length_le (by omega), show l.length - i = 0 by omega]
    simp
  | succ d ih =>
    intro k i hd hk
    obtain ⟨k, rfl⟩ : ∃ m, k = m + 1 := ⟨k - 1, by omega⟩
    simp only [laws_toCaveRowS.l0, laws_toCaveRow.f, Option.bind_some]
    rw [if_pos (by omega), if_pos (by omega), if_pos (by simp; omega), w64 (by omega) (by omega)]
    have ha : l[i]? = some (rd_T23 l i) := getD_some l z23 i (by omega)
    rw [Int.toNat_natCast]
    have := set_map_step cvCaveRow l z26 i (by omega) _ ha
    rw [show (⟨(rd_T23 l i).f0, (rd_T23 l i).f1, (rd_T23 l i).f2, (rd_T23 l i).f3⟩ : S26) = cvCaveRow (rd_T23 l i) from rfl, this]
    exact ih k (i + 1) (by omega) (by omega)
theorem toCaveRowS_eq {l : List S23} (hl : l.length * 40 ≤ 140737488351232) {k : Nat} (hk : l.length < k) : laws_toCaveRowS.f k l = some (l.map cvCaveRow) := by
  unfold laws_toCaveRowS.f
  rw [if_pos (by omega), if_pos (by omega), Int.toNat_natCast]
  have := toCaveRowS_l0 l (by omega) l.length k 0 (by omega) hk
  simpa using this


theorem eqCaveRowS_self (l : List S26) (hl : l.length ≤ 4611686018427387904) (d : Nat) : ∀ (k : Nat) (i : Int), 0 ≤ i → i + d = l.length → d < k → laws_eqCaveRowS.l0 k l l i = some true := by
  induction d with
  | zero =>
    intro k i h0 hd hk
    obtain ⟨k, rfl⟩ : ∃ m, k = m + 1 := ⟨k - 1, by omega⟩
    simp only [laws_eqCaveRowS.l0]
    rw [if_neg (by omega)]
  | succ d ih =>
    intro k i h0 hd hk
    obtain ⟨k, rfl⟩ : ∃ m, k = m + 1 := ⟨k - 1, by omega⟩
    simp only [laws_eqCaveRowS.l0, laws_eqCaveRow.f, if_true, Option.bind_some]
    rw [if_pos (by omega), if_pos (by omega), if_pos (by omega), w64 (by omega) (by omega)]
    exact ih k (i + 1) (by omega) (by omega) (by omega)
theorem eqCaveRowS_eq {l : List S26} (hl : l.length ≤ 4611686018427387904) {k : Nat} (hk : l.length < k) : laws_eqCaveRowS.f k l l = some true := by
  unfold laws_eqCaveRowS.f
  rw [if_pos rfl]
  exact eqCaveRowS_self l hl l.length k 0 (by omega) (by omega) hk


theorem szCaveRowS_l0 (l : List S23) (hs : ∀ x, x ∈ l → x.f0.size ≤ 140737488351232) (hl : l.length ≤ 4611686018427387904) (d : Nat) : ∀ (k i : Nat) (a : Int), i + d = l.length → d < k → 0 ≤ a → a ≤ 1048576 →
    ∃ t, laws_szCaveRowS.l0 k l a i = some t ∧ (0 ≤ t → ∀ j : Nat, i ≤ j → j < l.length → (rd_T23 l j).f0.size ≤ 1048576) := by
  induction d with
  | zero =>
    intro k i a hd hk h0 h1
    obtain ⟨k, rfl⟩ : ∃ m, k = m + 1 := ⟨k - 1, by omega⟩
    simp only [laws_szCaveRowS.l0]
    rw [if_neg (by omega)]
    exact ⟨a, rfl, fun _ j hj hjl => by omega⟩
  | succ d ih =>
    intro k i a hd hk h0 h1
    obtain ⟨k, rfl⟩ : ∃ m, k = m + 1 := ⟨k - 1, by omega⟩
    simp only [laws_szCaveRowS.l0]
    rw [if_pos (by omega), if_pos (by omega)]
    have hm : rd_T23 l i ∈ l := by
      show l.getD (i : Int).toNat _ ∈ l
      rw [Int.toNat_natCast, List.getD_eq_getElem?_getD, List.getElem?_eq_getElem (by omega)]
      exact List.getElem_mem _
    have hz := hs _ hm
    have hz' : ∀ j : Nat, j = i → (rd_T23 l i).f0.size ≤ 1048576 → (rd_T23 l j).f0.size ≤ 1048576 := fun j e h => by rw [e]; exact h
    generalize rd_T23 l i = y at hz hz' ⊢
    unfold laws_szCaveRow.f
    rw [w64 (x := a - (y.f0.size : Int)) (by omega) (by omega)]
    by_cases c : a - (y.f0.size : Int) < 0
    · rw [if_pos c, Option.bind_some, if_pos (by decide)]
      exact ⟨_, rfl, fun h => absurd h (by decide)⟩
    · rw [if_neg c, Option.bind_some, if_neg c, w64 (x := (i : Int) + 1) (by omega) (by omega)]
      obtain ⟨t, e, h⟩ := ih k (i + 1) (a - (y.f0.size : Int)) (by omega) (by omega) (by omega) (by omega)
      refine ⟨t, e, fun ht j hj hjl => ?_⟩
      by_cases hji : j = i
      · exact hz' j hji (by omega)
      · exact h ht j (by omega) hjl
theorem szCaveRowS_eq {l : List S23} (hs : ∀ x, x ∈ l → x.f0.size ≤ 140737488351232) (hl : l.length ≤ 4611686018427387904) {k : Nat} (hk : l.length < k) :
    ∃ t, laws_szCaveRowS.f k l 1048576 = some t ∧ (0 ≤ t → l.length ≤ 1048576 ∧ ∀ x, x ∈ l → x.f0.size ≤ 1048576) := by
  unfold laws_szCaveRowS.f
  rw [w64 (by omega) (by omega)]
  by_cases c : (1048576 : Int) - (l.length : Int) < 0
  · rw [if_pos c]
    exact ⟨_, rfl, fun h => absurd h (by decide)⟩
  · rw [if_neg c]
    obtain ⟨t, e, h⟩ := szCaveRowS_l0 l hs hl l.length k 0 (1048576 - (l.length : Int)) (by omega) hk (by omega) (by omega)
    refine ⟨t, e, fun ht => ⟨by omega, fun x hx => ?_⟩⟩
    obtain ⟨j, hj, rfl⟩ := List.mem_iff_getElem.1 hx
    have := h ht j (by omega) hj
    rw [show rd_T23 l (j : Int) = l.getD (j : Int).toNat _ from rfl, Int.toNat_natCast, List.getD_eq_getElem?_getD, List.getElem?_eq_getElem hj] at this
    exact this

def rowB (x : S26) : Bool := row x.f0.data.toList x.f1 x.f2 x.f3
theorem rowB_spec (x : S26) (hx : x.f0.size ≤ 1048576) {k : Nat} (hk : 1048576 < k) : spec_l26One.f k x.f0 x.f1 x.f2 x.f3 = some (rowB x) := by
  obtain ⟨l, hl⟩ := ex_M x.f0
  unfold rowB
  rw [hl] at hx ⊢
  rw [M_size] at hx
  rw [M_data]
  exact one_eq l _ _ _ (by omega) (by omega)
theorem rowB_impl (x : S26) (hx : x.f0.size ≤ 1048576) : impl_IsCaveRow.f x.f0 x.f1 x.f2 x.f3 = some (rowB x) := by
  obtain ⟨l, hl⟩ := ex_M x.f0
  unfold rowB
  rw [hl] at hx ⊢
  rw [M_size] at hx
  rw [M_data]
  exact row_eq l _ _ _ (by omega)
theorem rdRow_mem (l : List S26) {i : Int} (h0 : 0 ≤ i) (h1 : i < l.length) : rd_T26 l i ∈ l := by
  show l.getD i.toNat _ ∈ l
  rw [List.getD_eq_getElem?_getD, List.getElem?_eq_getElem (by omega)]
  exact List.getElem_mem _
/-- Caves, from an index on. -/
def rowsF (l : List S26) : Nat → Int → Bool
  | 0, _ => decide ((l.length : Int) ≤ 10)
  | d + 1, i => if rowB (rd_T26 l i) = true then (if i > 0 then (if Op.bytesLess ((rd_T26 l (i - 1)).f0).toList ((rd_T26 l i).f0).toList = true then rowsF l d (i + 1) else false) else rowsF l d (i + 1)) else false
theorem rowsF_succ (l : List S26) (d : Nat) (i : Int) : rowsF l (d + 1) i = if rowB (rd_T26 l i) = true then (if i > 0 then (if Op.bytesLess ((rd_T26 l (i - 1)).f0).toList ((rd_T26 l i).f0).toList = true then rowsF l d (i + 1) else false) else rowsF l d (i + 1)) else false := rfl
theorem goodC_l0 (l : List S26) (hs : ∀ x, x ∈ l → x.f0.size ≤ 1048576) (hl : l.length ≤ 1048576) (d : Nat) : ∀ (k : Nat) (i : Int), 0 ≤ i → i + d = l.length → 1048577 + d < k →
    spec_l26Good.l0 k l i = some (rowsF l d i) := by
  induction d with
  | zero =>
    intro k i h0 hd hk
    obtain ⟨k, rfl⟩ : ∃ m, k = m + 1 := ⟨k - 1, by omega⟩
    simp only [spec_l26Good.l0]
    rw [if_neg (by omega)]
    rfl
  | succ d ih =>
    intro k i h0 hd hk
    obtain ⟨k, rfl⟩ : ∃ m, k = m + 1 := ⟨k - 1, by omega⟩
    simp only [spec_l26Good.l0]
    rw [if_pos (by omega), if_pos h0, rowB_spec _ (hs _ (rdRow_mem l h0 (by omega))) (by omega), obs, w64 (x := i + 1) (by omega) (by omega), w64 (x := i - 1) (by omega) (by omega), ih k (i + 1) (by omega) (by omega) (by omega)]
    rw [rowsF_succ]
    cases rowB (rd_T26 l i) with
    | false => rfl
    | true =>
      rw [if_pos rfl, if_pos rfl]
      by_cases c : i > 0
      · rw [if_pos c, if_pos c, if_pos (by omega), if_pos (by omega)]
        cases Op.bytesLess ((rd_T26 l (i - 1)).f0).toList ((rd_T26 l i).f0).toList <;> rfl
      · rw [if_neg c, if_neg c]
theorem areC_l0 (l : List S26) (hs : ∀ x, x ∈ l → x.f0.size ≤ 1048576) (hl : l.length ≤ 1048576) (d : Nat) : ∀ (k : Nat) (i : Int), 0 ≤ i → i + d = l.length → d < k →
    impl_AreCaves.l0 k l l (l.length : Int) i = some (rowsF l d i) := by
  induction d with
  | zero =>
    intro k i h0 hd hk
    obtain ⟨k, rfl⟩ : ∃ m, k = m + 1 := ⟨k - 1, by omega⟩
    simp only [impl_AreCaves.l0]
    rw [if_neg (by omega)]
    rfl
  | succ d ih =>
    intro k i h0 hd hk
    obtain ⟨k, rfl⟩ : ∃ m, k = m + 1 := ⟨k - 1, by omega⟩
    simp only [impl_AreCaves.l0]
    rw [if_pos (by omega), if_pos h0, if_pos (by omega), rowB_impl _ (hs _ (rdRow_mem l h0 (by omega))), obs, w64 (x := i + 1) (by omega) (by omega), w64 (x := i - 1) (by omega) (by omega), ih k (i + 1) (by omega) (by omega) (by omega)]
    rw [rowsF_succ]
    cases rowB (rd_T26 l i) with
    | false => rfl
    | true =>
      rw [if_pos rfl, if_pos rfl]
      by_cases c : i > 0
      · rw [if_pos c, if_pos c, if_pos (by omega), if_pos (by omega)]
        cases Op.bytesLess ((rd_T26 l (i - 1)).f0).toList ((rd_T26 l i).f0).toList <;> rfl
      · rw [if_neg c, if_neg c]
/-- Caves. -/
def caves (l : List S26) : Bool := rowsF l l.length 0
theorem goodC_eq {l : List S26} (hs : ∀ x, x ∈ l → x.f0.size ≤ 1048576) (hl : l.length ≤ 1048576) {k : Nat} (hk : 1048577 + l.length < k) : spec_l26Good.f k l = some (caves l) := by
  unfold spec_l26Good.f caves
  exact goodC_l0 l hs hl l.length k 0 (by omega) (by omega) hk
theorem areC_eq {l : List S26} (hs : ∀ x, x ∈ l → x.f0.size ≤ 1048576) (hl : l.length ≤ 1048576) {k : Nat} (hk : l.length < k) : impl_AreCaves.f k l = some (caves l) := by
  unfold impl_AreCaves.f caves
  exact areC_l0 l hs hl l.length k 0 (by omega) (by omega) hk
end Go.Proofs.YteepnlofbfccgaaDoor.Pr.Pure

/-
What is proved: the texts by which the laws mark strings.
Conditions: numbers of a moderate size, enough rounds.
-/
namespace Go.Proofs.YteepnlofbfccgaaDoor.Pr.Pure
open Go.RowKit Go.Proofs.YteepnlofbfccgaaDoorW.PrintWords Go.Proofs.YteepnlofbfccgaaDoorW.PrintLast Go.Proofs.YteepnlofbfccgaaDoorW.PrintMore
set_option linter.unusedVariables false
set_option linter.unusedSimpArgs false
theorem strOf_one (x : Int) : (strOfNums [x]).size = 1 := by simp [strOfNums, ByteArray.size]
theorem markText_l0 : ∀ (j k : Nat) (x : Int) (s : ByteArray), 0 ≤ x → x < 10 ^ j → x ≤ 1125899906842624 → j < k → s.size + j ≤ 1000 → ∃ r, laws_markText.l0 k x s = some r := by
  intro j
  induction j with
  | zero =>
    intro k x s h0 h1 h2 hk hs
    obtain ⟨k, rfl⟩ : ∃ m, k = m + 1 := ⟨k - 1, by omega⟩
    simp only [laws_markText.l0]
    rw [if_neg (by omega), if_pos (by omega)]
    exact ⟨_, rfl⟩
  | succ j ih =>
    intro k x s h0 h1 h2 hk hs
    obtain ⟨k, rfl⟩ : ∃ m, k = m + 1 := ⟨k - 1, by omega⟩
    simp only [laws_markText.l0]
    by_cases h : x > 0
    · have hd : Int.tdiv x 10 = x / 10 := Int.tdiv_eq_ediv_of_nonneg h0
      have h3 : x / 10 < 10 ^ j := by
        rw [Int.pow_succ] at h1
        omega
      rw [if_pos h, obs, strOf_one, if_pos (by omega), hd, w64 (by omega) (by omega)]
      refine ih k (x / 10) _ (by omega) h3 (by omega) (by omega) ?_
      unfold sc
      rw [ByteArray.size_append, strOf_one]
      omega
    · rw [if_neg h, if_pos (by omega)]
      exact ⟨_, rfl⟩
theorem markText_ex {x : Int} (h0 : 0 ≤ x) (h1 : x ≤ 1125899906842624) : ∃ r, laws_markText.f 40 x = some r := by
  unfold laws_markText.f
  by_cases h : x ≤ 0
  · rw [if_pos h]
    exact ⟨_, rfl⟩
  · rw [if_neg h]
    exact markText_l0 16 40 x _ h0 (Int.lt_of_le_of_lt h1 (by decide)) h1 (by omega) (by decide)
/-- The text of a number. -/
def txt (x : Int) : ByteArray := (laws_markText.f 40 x).getD ⟨#[]⟩
theorem markText_eq {k : Nat} (hk : 40 ≤ k) {x : Int} (h0 : 0 ≤ x) (h1 : x ≤ 1125899906842624) : laws_markText.f k x = some (txt x) := by
  obtain ⟨r, hr⟩ := markText_ex h0 h1
  have : laws_markText.f k x = some r := at_rounds (fun k => laws_markText.mono x k) hk hr
  rw [this]
  unfold txt
  rw [hr]
  rfl
end Go.Proofs.YteepnlofbfccgaaDoor.Pr.Pure

/-
What is proved: the laws' marking, reading and comparing of lists of strings.
Conditions: those of each lemma.
-/
namespace Go.Proofs.YteepnlofbfccgaaDoor.Pr.Pure
open Go.RowKit Go.Proofs.YteepnlofbfccgaaDoorW.PrintWords Go.Proofs.YteepnlofbfccgaaDoorW.PrintLast Go.Proofs.YteepnlofbfccgaaDoorW.PrintMore
set_option linter.unusedVariables false
set_option linter.unusedSimpArgs false
def upTxt (a : Int) : Nat → List ByteArray
  | 0 => []
  | n + 1 => txt a :: upTxt (a + 1) n
theorem upTxt_len (n : Nat) : ∀ a, (upTxt a n).length = n := by
  induction n with
  | zero => intro a; rfl
  | succ n ih => intro a; simp [upTxt, ih]
theorem upTxt_get (n : Nat) : ∀ (a : Int) (j : Nat), j < n → (upTxt a n)[j]? = some (txt (a + j)) := by
  induction n with
  | zero => intro a j h; omega
  | succ n ih =>
    intro a j h
    cases j with
    | zero => simp [upTxt]
    | succ j =>
      simp only [upTxt, List.getElem?_cons_succ]
      rw [ih (a + 1) j (by omega), show a + 1 + (j : Int) = a + ((j + 1 : Nat) : Int) by omega]
theorem markStringS_l0 (d : Nat) : ∀ (k i : Nat) (pre suf : List ByteArray) (a : Int), pre.length = i → suf.length = d → d + 40 < k → i + d ≤ 4611686018427387904 → 0 ≤ a → a + d ≤ 1125899906842624 →
    laws_markStringS.l0 k (pre ++ suf) a i = some (a + d, pre ++ upTxt a d) := by
  induction d with
  | zero =>
    intro k i pre suf a hp hs hk hb h0 h1
    obtain ⟨k, rfl⟩ : ∃ m, k = m + 1 := ⟨k - 1, by omega⟩
    obtain rfl : suf = [] := List.length_eq_zero_iff.1 hs
    simp only [laws_markStringS.l0]
    rw [if_neg (by simp; omega)]
    simp [upTxt]
  | succ d ih =>
    intro k i pre suf a hp hs hk hb h0 h1
    obtain ⟨k, rfl⟩ : ∃ m, k = m + 1 := ⟨k - 1, by omega⟩
    obtain ⟨y, ys, rfl⟩ : ∃ y ys, suf = y :: ys := List.exists_cons_of_length_pos (by omega)
    simp only [laws_markStringS.l0]
    rw [if_pos (by simp; omega), markText_eq (by omega) h0 (by omega), obs, if_pos (by omega), w64 (x := a + 1) (by omega) (by omega), w64 (x := (i : Int) + 1) (by omega) (by omega), Int.toNat_natCast]
    have e : (pre ++ y :: ys).set i (txt a) = (pre ++ [txt a]) ++ ys := by
      rw [List.set_append_right _ _ (by omega), hp, Nat.sub_self, List.set_cons_zero]
      simp
    rw [e]
    have := ih k (i + 1) (pre ++ [txt a]) ys (a + 1) (by simp; omega) (by simpa using hs) (by omega) (by omega) (by omega) (by omega)
    rw [show ((i : Int) + 1) = ((i + 1 : Nat) : Int) by omega, this]
    simp only [upTxt, List.append_assoc, List.singleton_append]
    congr 2
    omega
theorem markStringS_eq {l : List ByteArray} (hl : l.length ≤ 1048576) {k : Nat} (hk : l.length + 40 < k) : laws_markStringS.f k l 1 = some (1 + (l.length : Int), upTxt 1 l.length) := by
  unfold laws_markStringS.f
  have := markStringS_l0 l.length k 0 [] l 1 rfl rfl hk (by omega) (by omega) (by omega)
  simpa using this
theorem heldStringS_l0 (n : Nat) (b : Int) (d : Nat) : ∀ (k i : Nat), i + d = n → d + 40 < k → n ≤ 1048576 → 0 ≤ b → b + n ≤ 1125899906842624 →
    laws_heldStringS.l0 k (upTxt b n) (b + i) i = some (b + n) := by
  induction d with
  | zero =>
    intro k i hd hk hn h0 h1
    obtain ⟨k, rfl⟩ : ∃ m, k = m + 1 := ⟨k - 1, by omega⟩
    simp only [laws_heldStringS.l0]
    rw [if_neg (by rw [upTxt_len]; omega)]
    congr 2
    omega
  | succ d ih =>
    intro k i hd hk hn h0 h1
    obtain ⟨k, rfl⟩ : ∃ m, k = m + 1 := ⟨k - 1, by omega⟩
    have e : rdOf ByteArray.empty (upTxt b n) (i : Int) = txt (b + i) := by
      simp only [rdOf, Int.toNat_natCast, List.getD_eq_getElem?_getD]
      rw [upTxt_get n b i (by omega)]
      rfl
    simp only [laws_heldStringS.l0]
    rw [if_pos (by rw [upTxt_len]; omega), if_pos (by omega), markText_eq (by omega) (by omega) (by omega), obs, e, if_pos rfl, w64 (x := b + i + 1) (by omega) (by omega), w64 (x := (i : Int) + 1) (by omega) (by omega)]
    have := ih k (i + 1) (by omega) (by omega) hn h0 h1
    rw [show b + (i : Int) + 1 = b + ((i + 1 : Nat) : Int) by omega, show ((i : Int) + 1) = ((i + 1 : Nat) : Int) by omega]
    exact this
theorem heldStringS_eq {n : Nat} (hn : n ≤ 1048576) {k : Nat} (hk : n + 40 < k) : laws_heldStringS.f k (upTxt 1 n) 1 = some (1 + (n : Int)) := by
  unfold laws_heldStringS.f
  have := heldStringS_l0 n 1 n k 0 (by omega) hk (by omega) (by omega) (by omega)
  simpa using this
theorem eqStringS_self (l : List ByteArray) (hl : l.length ≤ 4611686018427387904) (d : Nat) : ∀ (k : Nat) (i : Int), 0 ≤ i → i + d = l.length → d < k → laws_eqStringS.l0 k l l i = some true := by
  induction d with
  | zero =>
    intro k i h0 hd hk
    obtain ⟨k, rfl⟩ : ∃ m, k = m + 1 := ⟨k - 1, by omega⟩
    simp only [laws_eqStringS.l0]
    rw [if_neg (by omega)]
  | succ d ih =>
    intro k i h0 hd hk
    obtain ⟨k, rfl⟩ : ∃ m, k = m + 1 := ⟨k - 1, by omega⟩
    simp only [laws_eqStringS.l0, if_true]
    rw [if_pos (by omega), if_pos (by omega), if_pos (by omega), w64 (by omega) (by omega)]
    exact ih k (i + 1) (by omega) (by omega) (by omega)
theorem eqStringS_eq {l : List ByteArray} (hl : l.length ≤ 4611686018427387904) {k : Nat} (hk : l.length < k) : laws_eqStringS.f k l l = some true := by
  unfold laws_eqStringS.f
  rw [if_pos rfl]
  exact eqStringS_self l hl l.length k 0 (by omega) (by omega) hk
end Go.Proofs.YteepnlofbfccgaaDoor.Pr.Pure

/-
What is proved: the laws' marking of caves.
Conditions: those of each lemma.
-/
namespace Go.Proofs.YteepnlofbfccgaaDoor.Pr.Pure
open Go.RowKit Go.Proofs.YteepnlofbfccgaaDoorW.PrintWords Go.Proofs.YteepnlofbfccgaaDoorW.PrintLast Go.Proofs.YteepnlofbfccgaaDoorW.PrintMore Go.Lib
set_option linter.unusedVariables false
set_option linter.unusedSimpArgs false

theorem markCaveRowS_l0 (d : Nat) : ∀ (k : Nat) (l : List S26) (a i : Int), l.length ≤ 1152921504606846976 → 0 ≤ i → i + d = l.length → d + 40 < k → 0 ≤ a → a + 8 * d ≤ 1125899906842624 →
    ∃ (b : Int) (l' : List S26), laws_markCaveRowS.l0 k l a i = some (b, l') ∧ a ≤ b ∧ b ≤ a + 8 * d := by
  induction d with
  | zero =>
    intro k l a i hl h0 hd hk ha hb
    obtain ⟨k, rfl⟩ : ∃ m, k = m + 1 := ⟨k - 1, by omega⟩
    refine ⟨a, l, ?_, by omega, by omega⟩
    simp only [laws_markCaveRowS.l0]
    rw [if_neg (by omega)]
  | succ d ih =>
    intro k l a i hl h0 hd hk ha hb
    obtain ⟨k, rfl⟩ : ∃ m, k = m + 1 := ⟨k - 1, by omega⟩
    simp only [laws_markCaveRowS.l0]
    rw [if_pos (by omega), markText_eq (by omega) ha (by omega), obs, if_pos (by omega), obs, obs, obs, w64 (x := a + 1) (by omega) (by omega), w64 (x := a + 1 + 1) (by omega) (by omega), w64 (x := a + 1 + 1 + 1) (by omega) (by omega), w64 (x := a + 1 + 1 + 1 + 1) (by omega) (by omega), w64 (x := i + 1) (by omega) (by omega)]
    have hL : ∀ L : List S26, L.length = l.length → ∃ (b : Int) (l' : List S26), laws_markCaveRowS.l0 k L (a + 1 + 1 + 1 + 1) (i + 1) = some (b, l') ∧ a ≤ b ∧ b ≤ a + 8 * ((d + 1 : Nat) : Int) := fun L hL => by
      obtain ⟨b, l', e, h1, h2⟩ := ih k L (a + 1 + 1 + 1 + 1) (i + 1) (by omega) (by omega) (by omega) (by omega) (by omega) (by omega)
      exact ⟨b, l', e, by omega, by omega⟩
    exact hL _ (by simp only [List.length_set])
theorem markCaveRowS_eq {l : List S26} (hl : l.length ≤ 1048576) {k : Nat} (hk : l.length + 40 < k) :
    ∃ (b : Int) (l' : List S26), laws_markCaveRowS.f k l 1 = some (b, l') ∧ 0 ≤ b := by
  unfold laws_markCaveRowS.f
  obtain ⟨b, l', e, h2, h3⟩ := markCaveRowS_l0 l.length k l 1 0 (by omega) (by omega) (by omega) hk (by omega) (by omega)
  exact ⟨b, l', e, by omega⟩

end Go.Proofs.YteepnlofbfccgaaDoor.Pr.Pure

/-
What is proved: FnExactCavesLongerThan.Pure: the program's CavesLongerThan and the reference's answer the same.
Conditions: sizes as the types allow.
-/
namespace Go.Proofs.YteepnlofbfccgaaDoor.Pr.Pure
open Go.RowKit Go.Proofs.YteepnlofbfccgaaDoorW.PrintWords Go.Proofs.YteepnlofbfccgaaDoorW.PrintLast Go.Proofs.YteepnlofbfccgaaDoorW.PrintMore Go.Proofs.YteepnlofbfccgaaDoorW.Opens
set_option linter.unusedVariables false
/-- The names of the caves longer than a length, from an index on. -/
def longer (m : List S26) (a : Int) : Nat → Int → List ByteArray
  | 0, _ => []
  | d + 1, i => if (rd_T26 m i).f1 > a then (rd_T26 m i).f0 :: longer m a d (i + 1) else longer m a d (i + 1)
theorem longer_len (m : List S26) (a : Int) : ∀ (d : Nat) (i : Int), (longer m a d i).length ≤ d
  | 0, _ => Nat.le_refl _
  | d + 1, i => by
    unfold longer
    have := longer_len m a d (i + 1)
    split
    · rw [List.length_cons]; omega
    · omega
theorem longer_succ (m : List S26) (a : Int) (d : Nat) (i : Int) : longer m a (d + 1) i = if (rd_T26 m i).f1 > a then (rd_T26 m i).f0 :: longer m a d (i + 1) else longer m a d (i + 1) := rfl
theorem long_spec {m : List S26} (a : Int) (hl : m.length ≤ 1048576) (d : Nat) : ∀ (k : Nat) (i : Int) (out : List ByteArray), i + d = m.length → 0 ≤ i → out.length + d ≤ 1048576 → d < k →
    spec_CavesLongerThan.l0 k m a out i = some (out ++ longer m a d i, true) := by
  induction d with
  | zero =>
    intro k i out hd hi ho hk
    obtain ⟨k, rfl⟩ : ∃ m, k = m + 1 := ⟨k - 1, by omega⟩
    simp only [spec_CavesLongerThan.l0]
    rw [if_neg (by omega)]
    simp [longer]
  | succ d ih =>
    intro k i out hd hi ho hk
    obtain ⟨k, rfl⟩ : ∃ m, k = m + 1 := ⟨k - 1, by omega⟩
    simp only [spec_CavesLongerThan.l0]
    rw [if_pos (by omega), if_pos hi, w64 (by omega) (by omega), longer_succ]
    by_cases c : (rd_T26 m i).f1 > a
    · rw [if_pos c, if_pos (by omega), if_pos c, ih k (i + 1) _ (by omega) (by omega) (by rw [List.length_append, List.length_singleton]; omega) (by omega), List.append_assoc]
      rfl
    · rw [if_neg c, if_neg c]
      exact ih k (i + 1) out (by omega) (by omega) (by omega) (by omega)
theorem long_impl {m : List S26} (a : Int) (hl : m.length ≤ 1048576) (d : Nat) : ∀ (k : Nat) (i : Int) (out : List ByteArray), i + d = m.length → 0 ≤ i → out.length + d ≤ 1048576 → d < k →
    impl_CavesLongerThan.l0 k a out m (m.length : Int) i = some (out ++ longer m a d i, true) := by
  induction d with
  | zero =>
    intro k i out hd hi ho hk
    obtain ⟨k, rfl⟩ : ∃ m, k = m + 1 := ⟨k - 1, by omega⟩
    simp only [impl_CavesLongerThan.l0]
    rw [if_neg (by omega)]
    simp [longer]
  | succ d ih =>
    intro k i out hd hi ho hk
    obtain ⟨k, rfl⟩ : ∃ m, k = m + 1 := ⟨k - 1, by omega⟩
    simp only [impl_CavesLongerThan.l0]
    rw [if_pos (by omega), if_pos hi, if_pos (by omega), w64 (by omega) (by omega), longer_succ]
    by_cases c : (rd_T26 m i).f1 > a
    · rw [if_pos c, if_pos (by omega), if_pos c, ih k (i + 1) _ (by omega) (by omega) (by rw [List.length_append, List.length_singleton]; omega) (by omega), List.append_assoc]
      rfl
    · rw [if_neg c, if_neg c]
      exact ih k (i + 1) out (by omega) (by omega) (by omega) (by omega)
theorem long_both {m : List S26} (hm : ∀ x, x ∈ m → x.f0.size ≤ 1048576) (hl : m.length ≤ 1048576) (a : Int) :
    ∃ r b, r.length ≤ m.length ∧ ∀ k, 1048590 + m.length + m.length ≤ k → spec_CavesLongerThan.f k m a = some (r, b) ∧ impl_CavesLongerThan.f k m a = some (r, b) := by
  by_cases c : caves m = true
  · by_cases c2 : (0 : Int) ≤ a ∧ a ≤ 1000000
    · refine ⟨longer m a m.length 0, true, longer_len m a _ 0, fun k hk => ?_⟩
      obtain ⟨k, rfl⟩ : ∃ m, k = m + 1 := ⟨k - 1, by omega⟩
      unfold spec_CavesLongerThan.f impl_CavesLongerThan.f
      rw [obs, goodC_eq hm hl (by omega), areC_eq hm hl (by omega), obs, obs, if_pos c, if_pos c, l1In_eq, within_eq, obs, obs, decide_eq_true c2]
      simp only [spec_CavesLongerThan.j0, impl_CavesLongerThan.j0, Bool.not_true, Bool.false_eq_true, if_false]
      rw [long_spec a hl m.length k 0 [] (by omega) (by omega) (by rw [List.length_nil]; omega) (by omega), long_impl a hl m.length k 0 [] (by omega) (by omega) (by rw [List.length_nil]; omega) (by omega), List.nil_append]
      exact ⟨rfl, rfl⟩
    · refine ⟨[], false, Nat.zero_le _, fun k hk => ?_⟩
      obtain ⟨k, rfl⟩ : ∃ m, k = m + 1 := ⟨k - 1, by omega⟩
      unfold spec_CavesLongerThan.f impl_CavesLongerThan.f
      rw [obs, goodC_eq hm hl (by omega), areC_eq hm hl (by omega), obs, obs, if_pos c, if_pos c, l1In_eq, within_eq, obs, obs, decide_eq_false c2]
      exact ⟨rfl, rfl⟩
  · refine ⟨[], false, Nat.zero_le _, fun k hk => ?_⟩
    obtain ⟨k, rfl⟩ : ∃ m, k = m + 1 := ⟨k - 1, by omega⟩
    unfold spec_CavesLongerThan.f impl_CavesLongerThan.f
    rw [obs, goodC_eq hm hl (by omega), areC_eq hm hl (by omega), obs, obs, if_neg c, if_neg c]
    exact ⟨rfl, rfl⟩
theorem FnExactCavesLongerThan : FnExactCavesLongerThan.Pure := by
  intro l a hw ha
  obtain ⟨_, hb, hwf⟩ := hw
  obtain ⟨K0, hK0⟩ : ∃ K0, K0 = 1048590 + l.length + l.length := ⟨_, rfl⟩
  obtain ⟨t, e, ht⟩ := szCaveRowS_eq (l := l) (fun x hx => (hwf x hx).1) (by omega) (k := K0 + 3) (by omega)
  refine ⟨K0 + 3, ?_⟩
  unfold laws_FnExactCavesLongerThan.f
  rw [e, obs]
  by_cases c : t < 0
  · rw [if_pos c]
  · rw [if_neg c]
    obtain ⟨hl, hx⟩ := ht (by omega)
    have hlen : (l.map cvCaveRow).length = l.length := List.length_map _
    have hm : ∀ x, x ∈ l.map cvCaveRow → x.f0.size ≤ 1048576 := fun x h => by
      obtain ⟨y, hy, rfl⟩ := List.mem_map.1 h
      exact hx y hy
    obtain ⟨r, b, hr, hk⟩ := long_both hm (by omega) a
    have t0 : ∀ k, K0 ≤ k → laws_toCaveRowS.f k l = some (l.map cvCaveRow) := fun k hk => toCaveRowS_eq hb (by omega)
    have e1 : ∀ k, K0 ≤ k → spec_CavesLongerThan.f k (l.map cvCaveRow) a = some (r, b) := fun k h => (hk k (by omega)).1
    have e2 : ∀ k, K0 ≤ k → impl_CavesLongerThan.f k (l.map cvCaveRow) a = some (r, b) := fun k h => (hk k (by omega)).2
    have e3 : ∀ k, K0 ≤ k → laws_eqCaveRowS.f k (l.map cvCaveRow) (l.map cvCaveRow) = some true := fun k h => eqCaveRowS_eq (by omega) (by omega)
    have q : ∀ k, K0 ≤ k → laws_eqStringS.f k r r = some true := fun k h => eqStringS_eq (by omega) (by omega)
    obtain ⟨b1, l1, m1, m2⟩ := markCaveRowS_eq (l := l.map cvCaveRow) (by omega) (k := K0 + 2) (by omega)
    have mi : ∀ k, K0 ≤ k → laws_markStringS.f k r 1 = _ := fun k h => markStringS_eq (l := r) (by omega) (k := k) (by omega)
    have hi : ∀ k, K0 ≤ k → laws_heldStringS.f k (upTxt 1 r.length) 1 = some (1 + (r.length : Int)) := fun k hk => heldStringS_eq (by omega) (by omega)
    have hj2 : laws_FnExactCavesLongerThan.j2 (K0 + 1) (upTxt 1 r.length) (1 + (r.length : Int)) false = some true := by
      simp only [laws_FnExactCavesLongerThan.j2, Bool.false_eq_true, if_false, hi _ (Nat.le_refl K0), obs, if_true]
      rw [if_neg (by omega)]
    have hj1 : laws_FnExactCavesLongerThan.j1 (K0 + 2) l a r b r false = some true := by
      simp only [laws_FnExactCavesLongerThan.j1, Bool.false_eq_true, if_false, mi _ (Nat.le_succ K0), hi _ (Nat.le_succ K0), t0 _ (Nat.le_succ K0), e2 _ (Nat.le_succ K0), q _ (Nat.le_succ K0), obs, if_true, bne_self_eq_false]
      rw [if_neg (by omega)]
      exact hj2
    have hj0 : laws_FnExactCavesLongerThan.j0 (K0 + 3) l a r b (l.map cvCaveRow) r b false = some true := by
      have h2 : K0 ≤ K0 + 2 := by omega
      simp only [laws_FnExactCavesLongerThan.j0, Bool.false_eq_true, if_false, t0 _ h2, e3 _ h2, m1, q _ h2, obs, if_true, bne_self_eq_false]
      rw [if_neg (by omega)]
      exact hj1
    have h3 : K0 ≤ K0 + 3 := by omega
    simp only [obs, t0 _ h3, e1 _ h3, e2 _ h3, q _ h3, bne_self_eq_false, if_true]
    exact hj0
end Go.Proofs.YteepnlofbfccgaaDoor.Pr.Pure

